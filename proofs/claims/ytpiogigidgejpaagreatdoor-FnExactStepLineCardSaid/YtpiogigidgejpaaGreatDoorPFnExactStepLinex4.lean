import Derived.Test.YtpiogigidgejpaaGreatDoorPFnExactStepLinex3
namespace Go.Proofs.YtpiogigidgejpaaGreatDoor.PFnExactStepLine
open Go.RowKit Go.Proofs.YtpiogigidgejpaaGreatDoorW.PrintWords Go.Proofs.YtpiogigidgejpaaGreatDoorW.PrintLast Go.Proofs.YtpiogigidgejpaaGreatDoorW.PrintMore Go.Proofs.YtpiogigidgejpaaGreatDoor.Sq Tryz
attribute [local go_sem] g8 g9 s8 q8 Y0 X9 b8 e6
set_option maxHeartbeats 8000000
set_option maxRecDepth 100000
set_option linter.unusedVariables false
set_option linter.unusedSimpArgs false
mutual
def H8.l0:Nat→Int→List Int→Int→Int→Option (Int)
 |0,_,_,_,_=>none
 |k+1,b,a,c,d=>if d<c then(if 0≤(a.length:Int)then(if((a.length:Int):Int).toNat≤35184372088832 then(H8.l1 k b a (List.replicate ((a.length:Int):Int).toNat 0) c d (wrap64 ((a.length:Int) - 1)) 0)else(none))else(none))else(if 0≤b then(if b< (a.length:Int)then(some (rd a b))else(none))else(none))
def H8.l1:Nat→Int→List Int→List Int→Int→Int→Int→Int→Option (Int)
 |0,_,_,_,_,_,_,_=>none
 |k+1,c,b,g,d,e,f,a=>if a<f then(if 0≤(wrap64 (a+1))then(if(wrap64 (a+1))< (b.length:Int)then(if 0≤a then(if a< (g.length:Int)then((some (g.set (a:Int).toNat (rd b (wrap64 (a+1))):List Int)).bind fun h=>(if a>0 then(if 0≤(wrap64 (a - 1))then(if(wrap64 (a - 1))< (b.length:Int)then(H8.l1 k c b (h.set (a:Int).toNat (wrap64 ((rd h a)+ (rd b (wrap64 (a - 1)))))) d e f (wrap64 (a+1)))else(none))else(none))else(H8.l1 k c b h d e f (wrap64 (a+1)))))else(none))else(none))else(none))else(none))else(H8.l0 k c g d (wrap64 (e+1)))
end
def H8.f (k:Nat)(a b:Int):Option (Int):=if 0≤(wrap64 ((wrap64 (a+b))+2))then(if(wrap64 ((wrap64 (a+b))+2):Int).toNat≤35184372088832 then((some (List.replicate (wrap64 ((wrap64 (a+b))+2):Int).toNat 0:List Int)).bind fun c=>(if 0< (c.length:Int)then(H8.l0 k a (c.set (0:Int).toNat 1) b 0)else(none)))else(none))else(none)
def H8.T11:Bool×List (List Nat×List Nat):=(true,[([],[]),([],[]),([0,1],[0,1]),([2],[2]),([],[]),([],[]),([5],[5]),([4,6],[4,6]),([7],[7]),([3,8],[3,8]),([0,1,0,1,2,3,4,5,6,7,8,9],[0,1]),([10,9,0,1,2,3,4,5,6,7,8,9],[9,10])])
def H8.B11:List Nat:=[0,0,3,7,0,0,32,112,240,511,1023,2047]
theorem H8.tab11:AA0 .any (AC6 f205 11)=H8.T11:=by kernel_rfl
theorem H8.bits11:l6 H8.T11.2 H8.B11=true:=by kernel_rfl
theorem H8.calls (k a0 a1 r w):H8.f k a0 a1=some r→
 Calls prog 205 #[.int .i64 a0,.int .i64 a1] w (pB w (.int .i64 r)):=by
 have HB:=bR w
 unfold H8.f
 intro H
 obtain⟨cO,aX⟩:=ex (wrap64 ((wrap64 (a0+a1))+2):Int)
 first|rw[aX]at H|simp only[aX]at H
 have dE:(IntKind.i64.wrap ((wrap64 (a0+a1))+2))=cO:=(P9 _).trans aX
 revert H
 refine if' fun c4b0 c4b1=>if' fun c5b0 c5b1=>iy fun aR bB=>it fun c6=>?_
 have c6b0:=decide_eq_true c6
 have c6b1:decide (0<aR.length)=true:=decide_eq_true (by omega)
 clear c6
 obtain⟨cC,bC⟩:=ey (aR.set (0:Int).toNat 1:List Int)
 intro H
 rw[←bC.1]at H
 revert H
 refine ia fun H'=>?_
 go_in
 go_wp2_with (first|((with_reducible refine P8 (N:=12) rfl ?_);refine Kd.R_make KI _ 3 rfl (N:=12) rfl 22 _ _ rfl cO rfl rfl underlying22 (.int .i64 0) 8 J9 rfl (by decide) (by omega) 0 (ok:=fun _=>True) (okp:=fun _=>True) rfl (fun _ hk=>hk) trivial (od) (Nat.le_trans (Nat.mul_le_mul_right _ (od:cO.toNat≤35184372088832)) (by omega)) (Below.refl _ _) (Nat.le_refl _) ?_;intro v299 w8 cD hb hg_ hnew_;clear hg_ hnew_;(first|rw[←bB.1]at cD|(simp only[Int.reduceToNat]at cD;rw[←bB.1]at cD));have aH:=am (Kd.R_lower cD (C5 bz));replace HB:=bS hb;clear hb cD;have p7:0≤(0:Int):=(by omega);have q7:(0:Int)< ((aR.length:Int):Int):=od;have qi7:(0<aR.length)=True:=eq_true (by omega);obtain⟨cP,co7,eo7,dF,gl7,cl7,dG⟩:=Kd.R_form aH.1 (by omega);cases eo7;have GB7:=am dF;have GG7:=am dG;clear dF gl7 dG;obtain⟨bD,bE⟩:=Kd.R_celln 0 aH.1 (0:Int) p7 q7;(try rw[show((0:Int)).toNat=0 from rfl]at bD);(try simp only[Nat.reduceMul,Nat.zero_mul,Nat.zero_add,Nat.reduceAdd]at bD);(try rw[show((0:Int)).toNat=0 from rfl]at bE);(try simp only[Nat.reduceMul,Nat.zero_mul,Nat.zero_add,Nat.reduceAdd]at bE);replace p7:=eq_true p7;replace q7:=eq_true q7;obtain⟨bF,bG⟩:=Kd.R_celln 0 aH.1 (0:Int) (by omega) (od);(try simp only[Int.reduceToNat,Int.toNat_zero,Int.toNat_ofNat,Nat.reduceMul,Nat.zero_mul,Nat.zero_add]at bF bG);(try rw[show((0:Int)).toNat=0 from rfl]at bF);(try rw[show((0:Int)).toNat=0 from rfl]at bG);have bI:=Kd.R_putg aH.1 (0:Int) 1)|((with_reducible refine gt 3 14 ?_);refine se 3 14 (w8.setCell ⟨cP,(0:Int).toNat,none⟩ (.int .i64 1)) ?_;intro cQ hw;have hg:w8.grownBy cQ (some cP):=(by rw[hw];exact bI.2);have hp_:Kd.R KI 3 cQ w.heap.size (fun _=>True) (.slice (some ⟨cP,0,none⟩) aR.length co7) cC:=(by rw[hw,bC.1];exact bI.1);clear bI;replace aH:=am (hp_);replace HB:=am ((by rw[hw];exact S0 (HB.1) GB7.1:Below w.heap.size w cQ));clear hg hw hp_))
 go_loopg [5,16] k (fun kq v5 v16 w'=>∃ (aB:List Int) (aL:Int),v16=.int .i64 aL∧Aside0 (H8.l0 kq a0 aB a1 aL=some r)∧Aside0 (kq≤k)∧Aside0 (Kd.R KI 3 w' w.heap.size (fun _=>True) v5 aB)∧Aside0 (Below w.heap.size w w'))
 case atStart=>exact⟨(cC),(0),fz,H',lr,⟨rR aH⟩,⟨bz⟩⟩
 case round =>
 obtain⟨aB,aL,rfl,⟨H⟩,cA,aC,HB⟩:=hrel
 cases gk with
 |zero=>cases H
 |succ k1 =>
 simp only[H8.l0]at H
 revert H
 refine iD ?_ ?_<;>intro dH
 ·refine if' fun dI dJ=>if' fun dK dL=>?_
  obtain⟨cR,aS⟩:=ey (List.replicate ((aB.length:Int):Int).toNat 0:List Int)
  intro H
  rw[←aS.1]at H
  revert H
  refine ia fun H'=>?_
  obtain⟨cE,aY,rfl⟩:=Kd.R_slice aC.1
  go_wp2_with ((with_reducible refine P8 (N:=20) rfl ?_);refine Kd.R_make KI _ 3 rfl (N:=20) rfl 22 _ _ rfl (aB.length:Int) rfl rfl underlying22 (.int .i64 0) 8 J9 rfl (by decide) (by omega) 0 (ok:=fun _=>True) (okp:=fun _=>True) rfl (fun _ hk=>hk) trivial (od) (Nat.le_trans (Nat.mul_le_mul_right _ (od:(aB.length:Int).toNat≤35184372088832)) (by omega)) (Below.refl _ _) (Nat.le_refl _) ?_;intro cF w16 aQ hb hg_ hnew_;clear hg_ hnew_;(first|rw[←aS.1]at aQ|(simp only[Int.reduceToNat]at aQ;rw[←aS.1]at aQ));have cG:=am (Kd.R_lower (Kd.R_new' aQ (Kd.R_lt (rR aC))) (C5 bz));replace aC:=rE aC aQ hb;replace HB:=bS hb;clear hb aQ)
  go_loopg [24] k1 (fun kq v24 w'=>∃ (aE:List Int) (aA:Int),v24=.int .i64 aA∧Aside0 (H8.l1 kq a0 aB aE a1 aL (wrap64 ((aB.length:Int) - 1)) aA=some r)∧Aside0 (kq≤k1)∧Aside0 (Kd.R KI 3 w' w.heap.size (fun k_=>some k_≠(cF:Value).ownBlock) (.slice cE aB.length aY) aB)∧Aside0 (Kd.R KI 3 w' w.heap.size (fun k_=>some k_≠((.slice cE aB.length aY):Value).ownBlock) cF aE)∧Aside0 (Below w.heap.size w w'))
  case atStart=>exact⟨(cR),(0),fz,H',lr,⟨rM aC (fun _ hk=>hk.2)⟩,⟨rM cG (fun _ hk=>hk.2)⟩,⟨bz⟩⟩
  case round =>
  obtain⟨aE,aA,rfl,⟨H⟩,cB,aC,aD,HB⟩:=hrel
  cases gk with
  |zero=>cases H
  |succ k2 =>
  simp only[H8.l1]at H
  revert H
  refine iD ?_ ?_<;>intro dM
  ·obtain⟨aI,aM⟩:=ex (wrap64 (aA+1):Int)
   intro H
   first|rw[aM]at H|simp only[aM]at H
   have cS:(IntKind.i64.wrap (aA+1))=aI:=(P9 _).trans aM
   revert H
   refine U9 fun dN=>U9 fun dO=>U9 fun dP=>U9 fun dQ=>iy fun aJ aT=>io ?_ ?_<;>intro cL
   ·have cH:decide (0<aA)=true:=(decide_eq_true cL)
    clear cL
    obtain⟨aK,aU⟩:=ex (wrap64 (aA - 1):Int)
    intro H
    first|rw[aU]at H|simp only[aU]at H
    have cT:(IntKind.i64.wrap (aA - 1))=aK:=(P9 _).trans aU
    revert H
    refine U9 fun dR=>U9 fun dS=>?_
    obtain⟨cU,bH⟩:=ey (aJ.set (aA:Int).toNat (wrap64 ((rd aJ aA)+ (rd aB (aK)))):List Int)
    intro H
    rw[←bH.1]at H
    revert H
    refine ia fun H'=>?_
    obtain⟨cV,cW,aN,rfl,aZ⟩:=ai (Kd.R_reads' aC.1).2.2 (aI)
    have bJ:0≤(aA:Int):=od
    have bK:(aA:Int)< ((aE.length:Int):Int):=od
    obtain⟨aF,aO,bL,aV,bM,cX,aW⟩:=Kd.R_form aD.1 (by omega)
    cases bL
    have bA:=am aV
    have cY:=am aW
    clear aV bM aW
    obtain⟨bN,bO⟩:=Kd.R_celln 0 aD.1 (aA:Int) bJ bK
    replace bJ:=eq_true bJ
    replace bK:=eq_true bK
    have bP:=Kd.R_putg aD.1 (aA:Int) (rd aB (aI))
    try go_wp2_with ((with_reducible refine gt 3 34 ?_);refine se 3 34 (wr.setCell ⟨aF,(aA:Int).toNat,none⟩ (.int .i64 (rd aB (aI)))) ?_;intro cM hw;have hg:wr.grownBy cM (some aF):=(by rw[hw];exact bP.2);have hp_:Kd.R KI 3 cM w.heap.size (fun k_=>some k_≠(.slice (some aN) aB.length aY:Value).ownBlock) (.slice (some ⟨aF,0,none⟩) aE.length aO) aJ:=(by rw[hw,aT.1];exact bP.1);clear bP;replace aC:=am (Kd.R_after (v:=(.slice (some ⟨aF,0,none⟩) aE.length aO)) (v1:=(.slice (some ⟨aF,0,none⟩) aE.length aO)) (ok:=(fun _=>True)) (rM aC (fun _ hk=>(And.intro trivial hk))) hg (.inl rfl));replace aD:=am (hp_);replace HB:=am ((by rw[hw];exact S0 (HB.1) bA.1:Below w.heap.size w cM));clear hg hw hp_)
    replace aC:=am (Kd.R_drew aC.1)
    replace aD:=am (Kd.R_drew aD.1)
    replace HB:=am (F8 HB.1)
    have bQ:0≤(aA:Int):=od
    have bT:aA< (aJ.length:Int):=(by have h_:(aA:Int)< ((aE.length:Int):Int):=od;first|(have e_:=(Kd.R_reads' aD.1).1;omega)|simpa only[aT.1,List.length_set]using h_)
    have dT:((aA:Int)< ((aE.length:Int):Int))=True:=eq_true (od)
    obtain⟨cI,cZ,aG⟩:=Kd.at_int (Kd.R_reads' aD.1).2.2 aA bQ bT
    obtain rfl:(⟨aF,0,none⟩:Addr)=cI:=(by injection cZ)
    (first|simp only[k6]at aG|simp only[AZ9]at aG|simp only[Addr.add,Nat.zero_add]at aG|skip)
    replace bQ:=eq_true bQ
    replace bT:=eq_true bT
    have bU:0≤((aK):Int):=od
    have bV:(aK)< (aB.length:Int):=od
    obtain⟨cJ,dA,aP⟩:=Kd.at_int (Kd.R_reads' aC.1).2.2 (aK) bU bV
    obtain rfl:aN=cJ:=(by injection dA)
    replace bU:=eq_true bU
    replace bV:=eq_true bV
    have dB:0≤(aA:Int):=od
    have dC:(aA:Int)< ((aE.length:Int):Int):=od
    obtain⟨bW,bX⟩:=Kd.R_celln 0 aD.1 (aA:Int) dB dC
    replace dB:=eq_true dB
    replace dC:=eq_true dC
    have bY:=Kd.R_putn aD.1 (aA:Int) (wrap64 ((rd aJ aA)+ (rd aB (aK))))
    rw[←bH.1]at bY
    have cK:=am bY
    clear bY
    refine sq 12 (fun w'=>w'.cell? ⟨aF,(aA).toNat,none⟩=some (.int .i64 (rd aJ aA))∧w'.cell? (aN.add ((aK)).toNat)=some (.int .i64 (rd aB (aK)))) [11] H8.tab11 H8.bits11 ⟨aG,aP⟩ fun hHeld HT_ HW_=>?_
    generalize cM.drew=w32 at aC aD HB cK bX bW aG aP hHeld ⊢
    refine rg [0,1,2,4,5,6,7,3,8,9,10] ?_
    refine ls 11 ?_
    try go_wp2
    go_roundg k2
    case measure=>exact lu cA cB
    case rel=>exact⟨(cU),(aI),(by first|rfl|(simp;done)|(simp only[←aM]<;> (first|rfl|simp))|(simp[*];done)),H',lv cA cB,⟨by(with_reducible repeat(first|apply Kd.R_alloc|apply Kd.R_drewN|apply Kd.R_drew));exact Kd.R_mono (Kd.R_far (p:=⟨aF,(aA:Int).toNat,none⟩) (Kd.R_mono aC.1 (fun k_ hk=>(⟨hk,fun e_=>hk.2 (by rw[e_];rfl)⟩:_∧k_≠aF))) (fun _ hk=>hk.2) (.int .i64 (wrap64 ((rd aJ aA)+ (rd aB (aK)))))) (fun _ hk=>hk.1.2)⟩,⟨rR cK⟩,⟨bs bA.1⟩⟩
   have cH:decide (0<aA)=false:=(decide_eq_false cL)
   clear cL
   refine ia fun H'=>?_
   obtain⟨cV,cW,aN,rfl,aZ⟩:=ai (Kd.R_reads' aC.1).2.2 (aI)
   have bJ:0≤(aA:Int):=od
   have bK:(aA:Int)< ((aE.length:Int):Int):=od
   obtain⟨aF,aO,bL,aV,bM,cX,aW⟩:=Kd.R_form aD.1 (by omega)
   cases bL
   have bA:=am aV
   have cY:=am aW
   clear aV bM aW
   obtain⟨bN,bO⟩:=Kd.R_celln 0 aD.1 (aA:Int) bJ bK
   replace bJ:=eq_true bJ
   replace bK:=eq_true bK
   have bZ:=Kd.R_putg aD.1 (aA:Int) (rd aB (aI))
   go_wp2_with ((with_reducible refine gt 3 34 ?_);refine se 3 34 (wr.setCell ⟨aF,(aA:Int).toNat,none⟩ (.int .i64 (rd aB (aI)))) ?_;intro dD hw;have hg:wr.grownBy dD (some aF):=(by rw[hw];exact bZ.2);have hp_:Kd.R KI 3 dD w.heap.size (fun k_=>some k_≠(.slice (some aN) aB.length aY:Value).ownBlock) (.slice (some ⟨aF,0,none⟩) aE.length aO) aJ:=(by rw[hw,aT.1];exact bZ.1);clear bZ;replace aC:=am (Kd.R_after (v:=(.slice (some ⟨aF,0,none⟩) aE.length aO)) (v1:=(.slice (some ⟨aF,0,none⟩) aE.length aO)) (ok:=(fun _=>True)) (rM aC (fun _ hk=>(And.intro trivial hk))) hg (.inl rfl));replace aD:=am (hp_);replace HB:=am ((by rw[hw];exact S0 (HB.1) bA.1:Below w.heap.size w dD));clear hg hw hp_)
   go_roundg k2
   case measure=>exact lu cA cB
   case rel=>exact⟨(aJ),(aI),(by first|rfl|(simp;done)|(simp only[←aM]<;> (first|rfl|simp))|(simp[*];done)),H',lv cA cB,⟨rM aC (fun _ hk=>hk.2)⟩,⟨rR aD⟩,⟨bz⟩⟩
  refine ia fun H'=>?_
  go_wp2
  go_roundg k2
  case measure=>exact lu cA cB
  case rel=>exact⟨(aE),(wrap64 (aL+1)),fz,H',lv cA cB,⟨rM aD (fun _ hk=>trivial)⟩,⟨bz⟩⟩
 refine U9 fun dU=>U9 fun dV=>i1 ?_;rintro rfl
 obtain⟨Ao38,co38,rfl⟩:=Kd.R_slice aC.1
 obtain⟨p302,q302,dW,rfl,cN⟩:=ai (Kd.R_reads' aC.1).2.2 a0
 go_wp2
 go_ret
 exact⟨by first|rfl|(simp[M7,M6]<;>rfl)|(simp only[←aX];first|rfl|(simp[M7,M6]<;>rfl))|(simp[*,M7,M6]<;>rfl),bz⟩
def AD0.f (k:Nat)(a b:Int):Option (Int):=if a=0 then(some 0)else((H8.f k (wrap64 (a - 1)) b).bind fun c=>(some c))
theorem AD0.calls (k a0 a1 r w):AD0.f k a0 a1=some r→
 Calls prog 206 #[.int .i64 a0,.int .i64 a1] w (pB w (.int .i64 r)):=by
 have HB:=bR w
 unfold AD0.f
 refine iE (fun aA aB=>?_) fun c3 aA aB=>?_
 ·refine i1 ?_;rintro rfl
  go_in
  go_wp2
  go_ret
  exact⟨fe,bz⟩
 refine ib fun aC A4=>i1 ?_;rintro rfl
 go_in
 go_wp2_with ((with_reducible refine ga 205 ?_);refine gB func205 (H8.calls k (wrap64 (a0 - 1)) a1 aC _ A4.1) bz ?_;clear HB;intro w5 HB)
 go_ret
 exact⟨fe,bz⟩
mutual
def H7.j0:Nat→Int→Int→Bool→Option (List Int×Bool)
 |0,_,_,_=>none
 |k+1,a,b,c=>if c=true then(some (([]:List Int),false))else(H7.l0 k a b (([]:List Int)) 0 (wrap64 (2*a)) 0)
def H7.l0:Nat→Int→Int→List Int→Int→Int→Int→Option (List Int×Bool)
 |0,_,_,_,_,_,_=>none
 |k+1,c,d,a,f,e,b=>if b<e then((AD0.f k f (wrap64 ((wrap64 ((wrap64 (2*c)) - b)) - 1))).bind fun g=>(if d≥g then(if a.length<17592186044416 then(H7.l0 k c (wrap64 (d - g)) (a++ [1]) (wrap64 ((wrap64 (f+ (2*1))) - 1)) e (wrap64 (b+1)))else(none))else(if a.length<17592186044416 then(H7.l0 k c d (a++ [0]) (wrap64 ((wrap64 (f+ (2*0))) - 1)) e (wrap64 (b+1)))else(none))))else(some (a,true))
end
def H7.f (k:Nat)(a b:Int):Option (List Int×Bool):=(E3.f a 0 12).bind fun c=>(if c=true then((H8.f k 0 (wrap64 (2*a))).bind fun d=>((E3.f b 0 (wrap64 (d - 1))).bind fun e=>(H7.j0 k a b (!e))))else(H7.j0 k a b true))
theorem H7.calls (k a0 a1 r1 r2 w):H7.f k a0 a1=some (r1,r2)→
 Calls prog 141 #[.int .i64 a0,.int .i64 a1] w (pT w KI 3 r1 r2):=by
 have HB:=bR w
 unfold H7.f
 refine ia fun HC3=>?_
 go_in
 go_upto_region 1 with(fail)
 go_cut [22] (fun v22 wc=>∃ (kq:Nat) (aE:Bool),v22=.bool aE∧Aside0 (H7.j0 kq a0 a1 aE=some (r1,r2))∧Aside0 (kq≤k)∧Aside0 (Below w.heap.size w wc))
 case first =>
  have H:=HC3.1
  revert H
  refine ib fun t312 A4=>iB ?_ ?_<;>rintro rfl
  ·refine ib fun aL A6=>ib fun aM A7=>ia fun H'=>?_
   go_wp2_with (first|((with_reducible refine ga 83 ?_);refine gp func83 (E3.calls a0 0 12 true _ A4.1) fun nd=>?_)|(go_at_call 205;(with_reducible refine(H8.calls k 0 (wrap64 (2*a0)) aL _ A6.1).mono ?_);rintro e w8 ⟨rfl,hb⟩;replace HB:=bS hb;clear hb)|(go_at_call 83;(with_reducible refine qp (E3.calls a1 0 (wrap64 (aL - 1)) aM _ A7.1) fun nd=>?_)))
   go_meet
   case rel=>exact⟨_,(!aM),fz,H',lo,⟨bz⟩⟩
  refine ia fun H'=>?_
  go_wp2_with ((with_reducible refine ga 83 ?_);refine gp func83 (E3.calls a0 0 12 false _ A4.1) fun nd=>?_)
  go_meet
  case rel=>exact⟨_,(true),fz,H',lo,⟨bz⟩⟩
 case rest =>
 obtain⟨kq,aE,rfl,⟨H⟩,aT,HB⟩:=hcut
 cases kq with
 |zero=>cases H
 |succ aV =>
 simp only[H7.j0]at H
 revert H
 refine iB ?_ ?_<;>rintro rfl
 ·refine i2 ?_;rintro rfl rfl
  go_wp2
  go_ret2
  exact⟨_,fe,nz,bz⟩
 generalize aD:([]:List Int)=y315
 replace aD:=am aD.symm
 refine ia fun H'=>?_
 go_wp2_with ((with_reducible refine gd 23 ?_);refine rl KI 3 ([]:List Int) [] (J7.none _ _) ?_;intro v316 w10 aF hb;(first|rw[←aD.1]at aF|(simp only[Int.reduceToNat]at aF;rw[←aD.1]at aF));have aN:=am (Kd.R_lower aF (C5 bz));replace HB:=bS hb;clear hb aF)
 go_loopg [1,6,7,26] aV (fun kq v1 v6 v7 v26 w'=>∃ (aG:Int) (aC:List Int) (aH aB:Int),v1=.int .i64 aG∧v7=.int .i64 aH∧v26=.int .i64 aB∧Aside0 (H7.l0 kq a0 aG aC aH (wrap64 (2*a0)) aB=some (r1,r2))∧Aside0 (kq≤aV)∧Aside0 (Kd.R KI 3 w' w.heap.size (fun _=>True) v6 aC)∧Aside0 (Below w.heap.size w w'))
 case atStart=>exact⟨_,_,_,_,fz,fz,fz,H',lr,⟨rR aN⟩,⟨bz⟩⟩
 case round =>
 obtain⟨aG,aC,aH,aB,rfl,rfl,rfl,⟨H⟩,aU,aA,HB⟩:=hrel
 cases gk with
 |zero=>cases H
 |succ k2 =>
 simp only[H7.l0]at H
 revert H
 refine iD ?_ ?_<;>intro aW
 ·refine ib fun aK aX=>io ?_ ?_<;>intro aY
  ·have aO:decide (aK≤aG)=true:=(decide_eq_true aY)
   refine il fun aP=>?_
   generalize aI:(aC++ [1])=y319
   replace aI:=am aI.symm
   refine ia fun H'=>?_
   go_wp2_with (first|((with_reducible refine ga 206 ?_);refine ge func206 (AD0.calls k2 aH (wrap64 ((wrap64 ((wrap64 (2*a0)) - aB)) - 1)) aK _ aX.1) ?_;rintro w16 hb;replace aA:=am (Kd.R_below (rR aA) hb);replace HB:=bS hb;clear hb)|((with_reducible refine gb 42 44 ?_);at_builtin;refine ra KI underlying22 J9 u6 aC 1 [.int .i64 1] (fun _=>True) rfl (fun _ _=>trivial) (rR aA) bz (lm aP) ?_;intro v320 w17 ho hb hg hat;rw[←aI.1]at ho;replace HB:=am (hb);have aQ:=am (ho);clear aA ho hb hg hat))
   go_roundg k2
   case measure=>exact lu aT aU
   case rel=>exact⟨_,_,_,_,fz,fz,fz,H',lv aT aU,⟨rR aQ⟩,⟨bz⟩⟩
  have aO:decide (aK≤aG)=false:=(decide_eq_false aY)
  refine il fun aR=>?_
  generalize aJ:(aC++ [0])=y322
  replace aJ:=am aJ.symm
  refine ia fun H'=>?_
  go_wp2_with (first|((with_reducible refine ga 206 ?_);refine ge func206 (AD0.calls k2 aH (wrap64 ((wrap64 ((wrap64 (2*a0)) - aB)) - 1)) aK _ aX.1) ?_;rintro w19 hb;replace aA:=am (Kd.R_below (rR aA) hb);replace HB:=bS hb;clear hb)|((with_reducible refine gb 42 44 ?_);at_builtin;refine ra KI underlying22 J9 u6 aC 0 [.int .i64 0] (fun _=>True) rfl (fun _ _=>trivial) (rR aA) bz (lm aR) ?_;intro v323 w20 ho hb hg hat;rw[←aJ.1]at ho;replace HB:=am (hb);have aS:=am (ho);clear aA ho hb hg hat))
  go_roundg k2
  case measure=>exact lu aT aU
  case rel=>exact⟨_,_,_,_,fz,fz,fz,H',lv aT aU,⟨rR aS⟩,⟨bz⟩⟩
 refine i2 ?_;rintro rfl rfl
 go_wp2
 go_ret2
 exact⟨_,fe,rR aA,bz⟩
def AB3.f (k:Nat)(a:List Int):Option (Bool):=(E3.f (a.length:Int) 1 24).bind fun b=>(if b=true then((Q1.f k a 0 5).bind fun c=>(some c))else(some false))
theorem AB3.calls (k A0 c0 l0 r w):Kd.C KI w A0 l0.length l0→l0.length≤c0→AB3.f k l0=some r→
 Calls prog 207 #[.slice A0 l0.length c0] w (pD w (.bool r)):=by
 refine pa fun HR0 HC0=>?_
 unfold AB3.f
 refine ib fun t325 A2=>iB ?_ ?_<;>rintro rfl
 ·refine ib fun aA A4=>i1 ?_;rintro rfl
  go_in
  go_wp2_with (first|((with_reducible refine ga 83 ?_);refine gp func83 (E3.calls (l0.length:Int) 1 24 true _ A2.1) fun nd=>?_)|(go_at_call 51;(with_reducible refine qp (Q1.calls k _ _ l0 0 5 aA _ (M8 HR0.1) HC0.1 A4.1) fun nd=>?_)))
  go_ret
  exact⟨fz,dz⟩
 refine i1 ?_;rintro rfl
 go_in
 go_wp2_with ((with_reducible refine ga 83 ?_);refine gp func83 (E3.calls (l0.length:Int) 1 24 false _ A2.1) fun nd=>?_)
 go_ret
 exact⟨fz,dz⟩
def E1.f (a:List (List Int)):Option (List Int):=if a.flatten.length<17592186044416∧a.length<17592186044416 then(some a.flatten)else(none)
theorem E1.grow0 (w:World) :
 Calls prog 270 #[.slice none 0 0,.int .i64 0] w fun e w'=>∃v0_:Value,e=.returned (v0_)∧Kd.R KI 3 w' w.heap.size (fun _=>True) v0_ []∧Below w.heap.size w w':=by
 go_in
 go_wp2
 go_ret
 exact⟨_,rfl,Kd.R_nil _ _ _ _ _,Below.refl _ _⟩
theorem E1.grow (n:Nat)(w:World)(h0:0<n)(hn:n<17592186044416) :
 Calls prog 270 #[.slice none 0 0,.int .i64 n] w fun e w'=>∃v0_:Value,e=.returned (v0_)∧Kd.R KI 3 w' w.heap.size (fun _=>True) v0_ []∧Below w.heap.size w w':=by
 have hw:wrap64 (n:Int)=n:=by unfold wrap64;omega
 have c1:decide ((n:Int)<0)=false:=decide_eq_false (by omega)
 have c2:decide (0< (n:Int))=true:=decide_eq_true (by omega)
 have c3:=decide_eq_true h0
 have HB:=bR w
 have HN:=am hn
 have HO:=am h0
 clear hn h0
 go_in
 go_wp2_with (first
  |((with_reducible refine Y1 (b:=.append) (xs:=#[.tmp 20,.tmp 21]) rfl ?_);at_builtin;refine Kd.R_append_zeros KI (w0:=w) w.heap.size rfl (.tmp 20) (.tmp 21) 22 3 3 (.int .i64 0) 8 rfl underlying22 underlying3 J9 rfl (by decide) (by omega) (.slice none 0 0) [] 0 (wrap64 (n:Int)) (fun _=>True) rfl rfl rfl (fun _ _=>trivial) (Kd.R_nil _ _ _ _ _) (by rw[hw];omega) bz (C5 bz) (by have:=HN.1;rw[hw];simp;omega) ?_;intro v1 w1 ho hb hg hat;obtain⟨Ao,co,eo⟩:=Kd.R_slice ho;subst eo;obtain⟨i0,aA,_,hsz,_⟩:=info_parts J9;have hroom:=(Kd.R_reads' ho).2.1;have hcut:=AF9 (P:=prog) 22 3 .i64 underlying22 aA Ao _ co 0 (by omega) (by omega) hroom;have HO1:=am (Kd.R_take (m:=0) ho (Nat.zero_le _));have HB1:=am hb;clear HB ho hb hg hat aA hsz hroom))
 go_ret
 exact⟨_,by first|rfl|(simp;done),HO1.1,HB1.1⟩
theorem E1.grow_any (n:Int)(w:World)(h0:0≤n)(hn:n<17592186044416) :
 Calls prog 270 #[.slice none 0 0,.int .i64 n] w fun e w'=>∃v0_:Value,e=.returned (v0_)∧Kd.R KI 3 w' w.heap.size (fun _=>True) v0_ []∧Below w.heap.size w w':=by
 obtain⟨m,rfl⟩:=Int.eq_ofNat_of_zero_le h0
 by_cases h:m=0
 ·subst h
  exact E1.grow0 w
 ·exact E1.grow m w (by omega) (by omega)
def E1.rd2 (xs:List (List Int))(i:Int):List Int:=xs.getD i.toNat []
theorem E1.at2 {w:World} {A:Option Addr} {n:Nat} {xs:List (List Int)} (h:Kd.C KS w A n xs)(i:Int)(h0:0≤i)(h1:i<n):∃ad A0 c0,A=some ad∧w.cell? (ad.add i.toNat)=some (.slice A0 (E1.rd2 xs i).length c0)∧(E1.rd2 xs i).length≤c0∧KI.C w A0 (E1.rd2 xs i).length (E1.rd2 xs i):=by
 obtain⟨ad,c,e,_,hK,hc0⟩:=Kd.C_get h ([]:List Int) i h0 h1
 have hc:∀j u,c[j]? =some u→w.cell? (ad.add (i.toNat*1+j))=some u:=hc0
 obtain⟨A0,c0,rfl,l0,g0⟩:=hK
 exact⟨ad,A0,c0,e,by have hq:=hc 0 _ rfl;rwa [Nat.mul_one,Nat.add_zero]at hq,l0,g0⟩
theorem E1.take_flat (l:List (List Int))(i:Nat)(h:i<l.length):(l.take (i+1)).flatten=(l.take i).flatten++E1.rd2 l (i:Int):=by
 rw[List.take_succ_eq_append_getElem h,List.flatten_append]
 simp[E1.rd2,List.getD_eq_getElem?_getD,List.getElem?_eq_getElem h]
theorem E1.take_le (l:List (List Int))(i:Nat):(l.take i).flatten.length≤l.flatten.length:=by
 conv=>rhs;rw[←List.take_append_drop i l,List.flatten_append,List.length_append]
 omega
theorem E1.calls (A0:Option Addr)(c0:Nat)(l0:List (List Int))(r:List Int)(w:World)(hr0:Kd.C KS w A0 l0.length l0)(hc0:l0.length≤c0)(h:E1.f l0=some r) :
 Calls prog 212 #[.slice A0 l0.length c0] w (pR w KI 3 r):=by
 unfold E1.f at h
 by_cases c2:l0.flatten.length<17592186044416∧l0.length<17592186044416
 ·rw[if_pos c2]at h
  obtain rfl:=Option.some.inj h
  have aL:=am hr0
  have HF:=am c2.1
  have HL:=am c2.2
  have HB:=bR w
  clear h hr0 hc0 c2
  go_in
  go_wp2
  go_loopg [3,11] (l0.length+1) (fun kq v3 v11 w'=>∃ (i s:Int),v11=.int .i64 i∧v3=.int .i64 s∧Aside0 (0≤i∧i+kq=l0.length+1)∧Aside0 (s=(((l0.take i.toNat).flatten.length:Nat):Int))∧Aside0 (Below w.heap.size w w'))
  case atStart=>exact⟨0,0,rfl,rfl,⟨by omega⟩,⟨by simp⟩,HB⟩
  case round =>
  clear HB
  obtain⟨i,s,rfl,rfl,HI,HS,HB⟩:=hrel
  by_cases c3:i<l0.length
  ·have aD:decide (i< (l0.length:Int))=true:=(decide_eq_true c3)
   have aB:=HI.1.1
   obtain⟨ad,A1,c1,e1,aA,aF,aG⟩:=E1.at2 aL.1 i aB c3
   cases e1
   have hlt:=World.block_lt_of_cell? w _ aA
   replace aA:=(HB.1.cell hlt).trans aA
   obtain⟨j,rfl⟩:=Int.eq_ofNat_of_zero_le aB
   have hf:=E1.take_flat l0 j (by omega)
   have hle:=E1.take_le l0 (j+1)
   have hF:=HF.1
   have hS:=HS.1
   obtain⟨y,hy⟩:∃y,y=E1.rd2 l0 (j:Int):=⟨_,rfl⟩
   rw[←hy]at aA hf
   obtain⟨s2,aI⟩:∃s2,s2=wrap64 (s+ (y.length:Int)):=⟨_,rfl⟩
   have aE:s2=(((l0.take (j+1)).flatten.length:Nat):Int):=by
    rw[Int.toNat_natCast]at hS
    rw[hf]at hle ⊢
    rw[List.length_append]at hle ⊢
    rw[aI,hS]
    unfold wrap64;omega
   have hneg:decide (s2<0)=false:=decide_eq_false (by omega)
   have aJ:=am aE
   obtain⟨i,hi⟩:∃i:Int,i=(j:Int):=⟨_,rfl⟩
   rw[←hi]at aA aD HI ⊢
   have c4:=eq_true aB
   have c5:=eq_true c3
   rw[←hi]at c4 c5
   replace aI:=aI.symm
   have HJ:=am hi
   have aK:=am c3
   clear hf hle hF aG aF hy aE hS hi aB c3 hlt
   go_wp2
   have hI:=HI.1
   have hC:=aK.1
   have hJ:=HJ.1
   have hL:=HL.1
   have aH:wrap64 (i+1)=((j+1:Nat):Int):=by unfold wrap64;omega
   go_roundg (gk - 1)
   case measure=>omega
   case rel=>exact⟨wrap64 (i+1),wrap64 (s+ (y.length:Int)),(by first|rfl|(simp;done)),(by first|rfl|(simp;done)),⟨by rw[aH];omega⟩,⟨by rw[aI,aH,Int.toNat_natCast];exact aJ.1⟩,HB⟩
  ·have aD:decide (i< (l0.length:Int))=false:=(decide_eq_false c3)
   have hlen:s=((l0.flatten.length:Nat):Int):=by
    have:=HI.1
    rw[HS.1,List.take_of_length_le (by omega)]
   have aM:0≤s:=by omega
   have aN:s<17592186044416:=by have:=HF.1;omega
   have HG:=am (And.intro aM aN)
   clear hlen aM aN c3 HS HI
   go_wp2_with (first
    |((with_reducible refine J0 (f:=270) rfl ?_);refine gl' 24 func270 #[.slice none 0 0,.int .i64 s] ?_;(with_reducible refine(E1.grow_any s _ HG.1.1 HG.1.2).mono ?_);rintro e w2 ⟨v6,rfl,aC,aO⟩;refine⟨_,rfl,?_⟩;have aP:=am (Kd.R_lower aC (C5 bz));have aQ:=am (E8 bz aO);clear HB aC aO;have HO:=aP;have HB:=aQ;clear aP aQ))
   go_loopg [6,27] (l0.length+1) (fun kq v6 v27 w'=>∃ (i:Int) (out:List Int),v27=.int .i64 i∧Aside0 (0≤i∧i+kq=l0.length+1)∧Aside0 (out=(l0.take i.toNat).flatten)∧Aside0 (Kd.R KI 3 w' w.heap.size (fun _=>True) v6 out)∧Aside0 (Below w.heap.size w w'))
   case atStart=>exact⟨0,[],rfl,⟨by omega⟩,⟨by simp⟩,HO,HB⟩
   case round =>
   clear HO HB HG aD
   obtain⟨i,out,rfl,HI,HS,HO,HB⟩:=hrel
   by_cases c3:i<l0.length
   ·have aD:decide (i< (l0.length:Int))=true:=(decide_eq_true c3)
    have aB:=HI.1.1
    obtain⟨ad,A1,c1,e1,aA,aF,aG⟩:=E1.at2 aL.1 i aB c3
    cases e1
    have hlt:=World.block_lt_of_cell? w _ aA
    replace aA:=(HB.1.cell hlt).trans aA
    obtain⟨j,rfl⟩:=Int.eq_ofNat_of_zero_le aB
    have hf:=E1.take_flat l0 j (by omega)
    have hle:=E1.take_le l0 (j+1)
    obtain⟨y,hy⟩:∃y,y=E1.rd2 l0 (j:Int):=⟨_,rfl⟩
    rw[←hy]at aA hf aF aG
    obtain⟨out2,aC⟩:∃o,o=out++y:=⟨_,rfl⟩
    have aE:out2=(l0.take (j+1)).flatten:=by rw[aC,HS.1,Int.toNat_natCast,hf]
    have aJ:=am aE
    have NY:=am aC
    have HLE:=am (show out.length+y.length<17592186044416 by have:=HF.1;rw[←List.length_append,←aC,aE];omega)
    have HC1:=am aF
    have HCC:=am aG
    obtain⟨i,hi⟩:∃i:Int,i=(j:Int):=⟨_,rfl⟩
    rw[←hi]at aA aD HI ⊢
    have c4:=eq_true aB
    have c5:=eq_true c3
    rw[←hi]at c4 c5
    have HJ:=am hi
    have aK:=am c3
    clear hf hle aG aF hy aE hi aB c3 hlt aC
    go_wp2_with (first
     |((with_reducible refine gb 31 32 ?_);at_builtin;refine rq KI underlying22 J9 u6 out y (fun _=>True) (by repeat(first|exact(Kd.C_below HCC.1 HB.1)|(with_reducible refine Kd.C_alloc ?_ _)|(with_reducible refine Kd.C_drewN ?_ _)|(with_reducible refine Kd.C_drew ?_))) (fun _ _=>trivial) (rR HO) bz (lm HLE) ?_;intro v7 w7 aR hb7 hg7 hat7;rw[←NY.1]at aR))
    have hI:=HI.1
    have hC:=aK.1
    have hJ:=HJ.1
    have hL:=HL.1
    have aH:wrap64 (i+1)=((j+1:Nat):Int):=by unfold wrap64;omega
    go_roundg (gk - 1)
    case measure=>omega
    case rel=>exact⟨wrap64 (i+1),out2,(by first|rfl|(simp;done)),⟨by rw[aH];omega⟩,⟨by rw[aH,Int.toNat_natCast];exact aJ.1⟩,⟨aR⟩,⟨hb7⟩⟩
   ·have aD:decide (i< (l0.length:Int))=false:=(decide_eq_false c3)
    have hfin:out=l0.flatten:=by
     have:=HI.1
     rw[HS.1,List.take_of_length_le (by omega)]
    have HE:=am hfin
    clear hfin c3 HS HI
    go_wp2
    go_ret
    exact⟨_,rfl,by rw[←HE.1];exact HO.1,HB.1⟩
 ·rw[if_neg c2]at h
  exact absurd h (by simp)
def Q0.f (a:List Int)(b:Int):Option (List Int):=if(a.length:Int)=0 then(none)else(if 0≤(Int.tmod (wrap64 ((Int.tmod b (a.length:Int))+ (a.length:Int))) (a.length:Int))then(if(Int.tmod (wrap64 ((Int.tmod b (a.length:Int))+ (a.length:Int))) (a.length:Int))≤(a.length:Int)then((E1.f (([(a.drop ((Int.tmod (wrap64 ((Int.tmod b (a.length:Int))+ (a.length:Int))) (a.length:Int)):Int).toNat),(a.take ((Int.tmod (wrap64 ((Int.tmod b (a.length:Int))+ (a.length:Int))) (a.length:Int)):Int).toNat)]:List (List Int)))).bind fun c=>(some c))else(none))else(none))
def Q0.T2:Bool×List (List Nat×List Nat):=(true,[([],[]),([],[]),([0,1],[0,1]),([],[]),([],[]),([3,4],[3,4]),([2,5],[2,5]),([6],[6]),([7,7,0,1,2,3,4,5,6,7],[7])])
def Q0.B2:List Nat:=[0,0,3,0,0,24,63,127,255]
theorem Q0.tab2:AA0 .any (AC6 f290 2)=Q0.T2:=by kernel_rfl
theorem Q0.bits2:l6 Q0.T2.2 Q0.B2=true:=by kernel_rfl
theorem Q0.calls (P0_:Nat→Prop)(A0:Option Addr)(c0:Nat)(l0:List Int)(a1:Int)(r:List Int)(w:World)(hs0:Kd.V KI 3 w w.heap.size (fun k_=>P0_ k_) (.slice A0 l0.length c0) l0)(h:Q0.f l0 a1=some r) :
 Calls prog 290 #[.slice A0 l0.length c0,.int .i64 a1] w fun e w'=>∃v0_:Value,e=.returned (v0_)∧Kd.R KI 3 w' w.heap.size (fun k_=>(w.heap.size≤k_)) v0_ r∧Below w.heap.size w w':=by
 have aI:=am (show Kd.V KI 3 w w.heap.size (fun k_=>(P0_ k_∨w.heap.size≤k_)) (.slice A0 l0.length c0) l0 from Kd.V_mono hs0 (fun k_ hk=>.inl hk))
 have HB:=bR w
 have H:=h
 clear h
 unfold Q0.f at H
 revert H
 refine iN fun c3 c3b0 c3b1=>?_
 have c3b2:¬(l0=[]):=fun h_=>c3 (by rw[h_];rfl)
 generalize hji4:(Int.tmod (wrap64 ((Int.tmod a1 (l0.length:Int))+ (l0.length:Int))) (l0.length:Int))=ji4
 refine if' fun c5b0 c5b1=>if' fun c6b0 c6b1=>?_
 obtain⟨aA,aJ⟩:=ey (l0.drop ((ji4):Int).toNat:List Int)
 intro H
 rw[←aJ.1]at H
 have c7b0:=eq_true (od:0≤(ji4))
 have c8b0:=eq_true (od:(ji4)≤(l0.length:Int))
 obtain⟨aE,aK⟩:=ey (l0.take ((ji4):Int).toNat:List Int)
 rw[←aK.1]at H
 obtain⟨aW,aL⟩:=ey (([aA,aE]:List (List Int)):List (List Int))
 rw[←aL.1]at H
 revert H
 refine ib fun bC A9=>i1 ?_;rintro rfl
 go_in
 try go_wp2
 replace aI:=am (Kd.V_drew aI.1)
 replace HB:=am (F8 HB.1)
 have bD:((ji4):Int)≤((l0.length:Int):Int):=od
 obtain⟨i011,aO,_,aP,_⟩:=info_parts J9
 have aB:l0.length≤c0:=(Kd.V_reads' aI.1).2.1
 have aX:Kd.F KI _ _ A0 l0.length l0:=(Kd.V_at (base:=w.heap.size) aI.1).2.2
 have bE:(0:Int)≤((ji4):Int):=od
 have aR:=AE0 (P:=prog) 22 3 .i64 underlying22 aO 1 aP A0 l0.length c0 (ji4) bE bD
 have aM:=Kd.F_cut (m:=((ji4):Int).toNat) (c:=c0) aX (by omega) aB
 obtain⟨A11,hA11⟩:∃A1,A1=(if c0=((ji4):Int).toNat then A0 else(A0:Option Addr).map (·.add (((ji4):Int).toNat*1))):=⟨_,rfl⟩
 obtain⟨c11,hc11⟩:∃c1,c1=c0 - ((ji4):Int).toNat:=⟨_,rfl⟩
 have aN:aA.length=l0.length - ((ji4):Int).toNat:=(by rw[aJ.1,List.length_drop]<;>omega)
 rw[show(l0).drop ((ji4):Int).toNat=aA from aJ.1.symm]at aM
 replace aM:Kd.F KI _ _ A11 aA.length aA:=(by rw[hA11];exact aM)
 rw[←aN,←hA11,←hc11]at aR
 have aC:=am (show Kd.V KI 3 _ w.heap.size _ (.slice A11 aA.length c11) aA from Kd.V_mk (by rw[aN,hc11];exact Nat.sub_le_sub_right aB _) aM)
 have bI:=am (show aA.length≤c11 from by rw[aN,hc11];exact Nat.sub_le_sub_right aB _)
 clear aM aX aB aO aP hc11
 have KY11:=am aN
 have KA11:=am hA11
 clear aN hA11
 replace bD:=eq_true bD
 have bF:((ji4):Int)≤((l0.length:Int):Int):=od
 obtain⟨i012,aQ,_,aY,_⟩:=info_parts J9
 have aH:l0.length≤c0:=(Kd.V_reads' aI.1).2.1
 have aZ:Kd.F KI _ _ A0 l0.length l0:=(Kd.V_at (base:=w.heap.size) aI.1).2.2
 have aS:=AF9 (P:=prog) 22 3 .i64 underlying22 aQ A0 l0.length c0 (ji4) (od) bF aH
 have aT:=Kd.F_take (m:=((ji4):Int).toNat) aZ (by omega)
 have aU:aE.length=((ji4):Int).toNat:=(by rw[aK.1,List.length_take];omega)
 rw[←aK.1]at aT
 rw[←aU]at aS
 have aD:=am (show Kd.V KI 3 _ w.heap.size _ (.slice A0 aE.length c0) aE from Kd.V_mk (by omega) aT)
 have bJ:=am (show aE.length≤c0 from by omega)
 clear aT aZ aH aQ aY
 have KY12:=am aU
 clear aU
 replace bF:=eq_true bF
 refine sq 9 (fun w'=>True) [] Q0.tab2 Q0.bits2 trivial fun hHeld HT_ HW_=>?_
 generalize w.drew=w10 at aI HB aC aD hHeld ⊢
 refine rg [0,1,2,3,4,5] ?_
 refine AD4 (i:=6) (N:=some 22) (lb 9 127) rfl rfl (g6 HT_.1 (by kernel_rfl)) (by decide) (fun K hK=>?_)
 refine Kd.N_lit_step KS _ 22 ?hg (N':=22) ?hd (xs:=([aA,aE]:List (List Int))) (inner:=[.slice A11 aA.length c11,.slice A0 aE.length c0]) (ok:=(fun k_=>(P0_ k_∨w.heap.size≤k_))) (okp:=(fun k_=>(P0_ k_∨w.heap.size≤k_))) ?hr ?hp (fun _ hk=>hk) ((show ∀k_,w10.heap.size≤k_→(fun k_=>(P0_ k_∨w.heap.size≤k_)) k_ from fun k_ hk=>(.inr (Nat.le_trans (C5 bz) hk))) _ (Nat.le_refl _)) (Below.refl _ _) (Nat.le_refl _) (by simp) ?_;(case hd=>rfl);(case hg=>rfl);(case hr=>first|(go_simp;done)|(go_simp;rfl));(case hp=>exact(J7.one (show Kd.FK KS _ _ aA [.slice A11 aA.length c11]from(Kd.FK_slice_mk (Kd.V_reads' (Kd.V_mono (ok':=(fun k_=>(P0_ k_∨w.heap.size≤k_))) (aC.1) (fun k_ hk=>hk))).2.1 (Kd.V_F (Kd.V_mono (ok':=(fun k_=>(P0_ k_∨w.heap.size≤k_))) (aC.1) (fun k_ hk=>hk))))) (J7.one (show Kd.FK KS _ _ aE [.slice A0 aE.length c0]from(Kd.FK_slice_mk (Kd.V_reads' (Kd.V_mono (ok':=(fun k_=>(P0_ k_∨w.heap.size≤k_))) (aD.1) (fun k_ hk=>hk))).2.1 (Kd.V_F (Kd.V_mono (ok':=(fun k_=>(P0_ k_∨w.heap.size≤k_))) (aD.1) (fun k_ hk=>hk))))) (J7.none _ _))))
 intro v338 w13 aF hb hg_ hnew_
 clear hg_ hnew_
 (first|rw[←aL.1]at aF|(simp only[Int.reduceToNat]at aF;rw[←aL.1]at aF))
 replace aI:=am (Kd.V_elder' (rV aI) (Kd.N_base aF) hb)
 replace aC:=am (Kd.V_elder' (rV aC) (Kd.N_base aF) hb)
 replace aD:=am (Kd.V_elder' (rV aD) (Kd.N_base aF) hb)
 have aG:=am (Kd.N_lower aF (C5 bz))
 replace HB:=bS hb
 clear hb aF
 obtain⟨bG,bH,bA⟩:=Kd.N_slice aG.1
 (first|subst bA|(injection bA with bK f2_ bL;have f4_:=bK.symm;have f5_:=bL.symm;clear bK f2_ bL;subst f4_;subst f5_))
 refine hK.out _ _ trivial (fun hHeld=>?_)
 clear hK K
 refine nm 22 ?_
 refine AD4 (i:=7) (N:=some 23) (lb 9 255) rfl rfl (g6 HT_.1 (by kernel_rfl)) (by decide) (fun K hK=>?_)
 refine gs' func212 #[.slice bG aW.length bH] ?_
 with_reducible refine(E1.calls _ _ aW bC _ ?side1 ?side2 A9.1).mono ?_
 (case side1=>exact M8 (Kd.N_reads' aG.1).2.2)
 (case side2=>exact(Kd.N_reads' aG.1).2.1)
 rintro e w16 ⟨v341,rfl,aV,hb⟩
 refine⟨_,rfl,?_⟩
 replace aI:=am (Kd.V_elder' (rV aI) (Kd.R_base aV) hb)
 replace aC:=am (Kd.V_elder' (rV aC) (Kd.R_base aV) hb)
 replace aD:=am (Kd.V_elder' (rV aD) (Kd.R_base aV) hb)
 replace aG:=am (Kd.N_elder' (rN aG) (Kd.R_base aV) hb)
 have bB:=am (Kd.R_lower (Kd.R_newM (M:=fun k_=>(w.heap.size≤k_)) aV (C5 bz) (fun k_ h_=>h_)) (C5 bz))
 replace HB:=bS hb
 (try clear hb)
 (try clear hb2)
 (try clear hk)
 (try clear hi)
 (try clear aV)
 refine hK.out _ _ trivial (fun hHeld=>?_)
 clear hK K
 refine nm 23 ?_
 refine pw 8 ?_
 refine dn ?_
 try go_wp2
 go_ret
 exact⟨_,by first|rfl|(simp[M7,M6]<;>rfl)|(simp only[←hji4];first|rfl|(simp[M7,M6]<;>rfl))|(simp[*,M7,M6]<;>rfl),rM bB (fun _ hk=>hk.1),bz⟩
def S4.f (a:Int):Option (Bool):=some (a != a)
theorem S4.calls (a0 r w):S4.f a0=some r→
 Calls prog 264 #[.int .i64 a0] w (pD w (.bool r)):=by
 unfold S4.f
 intro H
 obtain rfl:=Option.some.inj H
 go_in
 go_wp2
 go_ret
 exact⟨fz,dz⟩
def j8.f (a b:Int):Option (Int):=(S4.f a).bind fun d=>((S4.f b).bind fun c=>(if d=true then(if c=true then(some 0)else(some (-1)))else(if c=true then(some 1)else(if a<b then(some (-1))else(if a>b then(some 1)else(some 0))))))
theorem j8.calls (a0 a1 r w):j8.f a0 a1=some r→
 Calls prog 299 #[.int .i64 a0,.int .i64 a1] w (pD w (.int .i64 r)):=by
 unfold j8.f
 refine ib fun t343 A3=>ib fun t344 A4=>iB ?_ ?_<;>rintro rfl
 ·refine iB ?_ ?_<;>rintro rfl
  ·refine i1 ?_;rintro rfl
   go_in
   go_wp2_with (first|((with_reducible refine ga 264 ?_);refine gp func264 (S4.calls a0 true _ A3.1) fun nd=>?_)|((with_reducible refine ga 264 ?_);refine gp func264 (S4.calls a1 true _ A4.1) fun nd=>?_))
   go_ret
   exact⟨fz,dz⟩
  refine i1 ?_;rintro rfl
  go_in
  go_wp2_with (first|((with_reducible refine ga 264 ?_);refine gp func264 (S4.calls a0 true _ A3.1) fun nd=>?_)|((with_reducible refine ga 264 ?_);refine gp func264 (S4.calls a1 false _ A4.1) fun nd=>?_))
  go_ret
  exact⟨fz,dz⟩
 refine iB ?_ ?_<;>rintro rfl
 ·refine i1 ?_;rintro rfl
  go_in
  go_wp2_with (first|((with_reducible refine ga 264 ?_);refine gp func264 (S4.calls a0 false _ A3.1) fun nd=>?_)|((with_reducible refine ga 264 ?_);refine gp func264 (S4.calls a1 true _ A4.1) fun nd=>?_))
  go_ret
  exact⟨fz,dz⟩
 refine iD ?_ ?_<;>intro c8b0
 ·refine i1 ?_;rintro rfl
  go_in
  go_wp2_with (first|((with_reducible refine ga 264 ?_);refine gp func264 (S4.calls a0 false _ A3.1) fun nd=>?_)|((with_reducible refine ga 264 ?_);refine gp func264 (S4.calls a1 false _ A4.1) fun nd=>?_))
  go_ret
  exact⟨fz,dz⟩
 refine iD (fun aA=>?_) fun aA=>?_
 ·refine i1 ?_;rintro rfl
  go_in
  go_wp2_with (first|((with_reducible refine ga 264 ?_);refine gp func264 (S4.calls a0 false _ A3.1) fun nd=>?_)|((with_reducible refine ga 264 ?_);refine gp func264 (S4.calls a1 false _ A4.1) fun nd=>?_))
  go_ret
  exact⟨fz,dz⟩
 refine i1 ?_;rintro rfl
 go_in
 go_wp2_with (first|((with_reducible refine ga 264 ?_);refine gp func264 (S4.calls a0 false _ A3.1) fun nd=>?_)|((with_reducible refine ga 264 ?_);refine gp func264 (S4.calls a1 false _ A4.1) fun nd=>?_))
 go_ret
 exact⟨fz,dz⟩
def K0.l0:Nat→List Int→List Int→List Int→Int→Int→Option (Int)
 |0,_,_,_,_,_=>none
 |k+1,e,b,c,f,a=>if a<f then(if 0≤a then(if a< (c.length:Int)then(if a≥(b.length:Int)then(some 1)else(if a< (b.length:Int)then((j8.f (rd c a) (rd b a)).bind fun d=>(if d=0 then(K0.l0 k e b c f (wrap64 (a+1)))else(some d)))else(none)))else(none))else(none))else(if(e.length:Int)< (b.length:Int)then(some (-1))else(some 0))
def K0.f (k:Nat)(a b:List Int):Option (Int):=K0.l0 k a b a (a.length:Int) 0
theorem K0.calls (k A0 c0 l0 A1 c1 l1 r w):Kd.C KI w A0 l0.length l0→l0.length≤c0→Kd.C KI w A1 l1.length l1→l1.length≤c1→K0.f k l0 l1=some r→
 Calls prog 297 #[.slice A0 l0.length c0,.slice A1 l1.length c1] w (pD w (.int .i64 r)):=by
 refine pa fun aK HC0=>pa fun aQ HC1=>?_
 unfold K0.f
 refine ia fun H'=>?_
 go_in
 go_wp2
 go_loopg [11] k (fun kq v11 w'=>∃ (aA:Int),v11=.int .i64 aA∧Aside0 (K0.l0 kq l0 l1 l0 (l0.length:Int) aA=some r)∧Aside0 (kq≤k)∧Drawn0 w w')
 case atStart=>exact⟨_,fz,H',lr,dz⟩
 case round =>
 obtain⟨aA,rfl,⟨H⟩,aR,⟨m1,rfl⟩⟩:=hrel
 cases gk with
 |zero=>cases H
 |succ k1 =>
 simp only[K0.l0]at H
 revert H
 refine iD ?_ ?_<;>intro c3b0
 ·refine U9 fun c4b0=>U9 fun c5b0=>io ?_ ?_<;>intro c6
  ·have aL:decide ((l1.length:Int)≤aA)=true:=(decide_eq_true c6)
   refine i1 ?_;rintro rfl
   obtain⟨aE,aF,aD,rfl,aB⟩:=ai aK.1 aA
   go_wp2
   go_ret
   exact⟨fz,dz⟩
  have aL:decide ((l1.length:Int)≤aA)=false:=(decide_eq_false c6)
  refine U9 fun c7b0=>ib fun aG A8=>iE (fun aM aN=>?_) fun c9 aM aN=>?_
  ·refine ia fun H'=>?_
   obtain⟨aE,aF,aD,rfl,aB⟩:=ai aK.1 aA
   obtain⟨aO,aP,aH,rfl,aC⟩:=ai aQ.1 aA
   go_wp2_with ((with_reducible refine ga 299 ?_);refine gp func299 (j8.calls (rd l0 aA) (rd l1 aA) aG _ A8.1) fun nd=>?_)
   go_roundg k1
   case measure=>exact lm aR
   case rel=>exact⟨_,fz,H',la aR,dz⟩
  refine i1 ?_;rintro rfl
  obtain⟨aE,aF,aD,rfl,aB⟩:=ai aK.1 aA
  obtain⟨aO,aP,aH,rfl,aC⟩:=ai aQ.1 aA
  go_wp2_with ((with_reducible refine ga 299 ?_);refine gp func299 (j8.calls (rd l0 aA) (rd l1 aA) aG _ A8.1) fun nd=>?_)
  go_ret
  exact⟨fz,dz⟩
 refine io ?_ ?_<;>intro c10
 ·have aI:=decide_eq_true c10
  have aJ:decide (l0.length<l1.length)=true:=decide_eq_true (Int.ofNat_lt.mp c10)
  refine i1 ?_;rintro rfl
  go_wp2
  go_ret
  exact⟨fz,dz⟩
 have aI:=decide_eq_false c10
 have aJ:decide (l0.length<l1.length)=false:=decide_eq_false (fun h=>c10 (Int.ofNat_lt.mpr h))
 refine i1 ?_;rintro rfl
 go_wp2
 go_ret
 exact⟨fz,dz⟩
def M9.l0:Nat→List Int→Int→List Int→Int→Option (Int×List Int)
 |0,_,_,_,_=>none
 |k+1,b,e,c,a=>if a< (b.length:Int)then((Q0.f b a).bind fun d=>((K0.f k d c).bind fun f=>(if f<0 then(M9.l0 k b a d (wrap64 (a+1)))else(M9.l0 k b e c (wrap64 (a+1))))))else(some (e,c))
def M9.f (k:Nat)(a:List Int):Option (Int×List Int):=(M5.f a).bind fun b=>(M9.l0 k a 0 b 1)
theorem M9.calls (k A0 c0 l0 r1 r2 w):Kd.C KI w A0 l0.length l0→l0.length≤c0→M9.f k l0=some (r1,r2)→
 Calls prog 289 #[.slice A0 l0.length c0] w fun e w'=>∃v1_:Value,e=.returned (.tuple #[.int .i64 r1,v1_])∧Kd.R KI 3 w' w.heap.size (fun _=>True) v1_ r2∧Below w.heap.size w w':=by
 have HB:=bR w
 refine pa fun aK aL=>?_
 unfold M9.f
 refine ib fun aM A2=>ia fun H'=>?_
 go_in
 go_wp2_with ((with_reducible refine ga 76 ?_);refine gR func76 (M5.calls A0 c0 l0 aM _ (M8 aK.1) aL.1 A2.1) bz ?_;clear HB;intro v349 w3 aH HB)
 go_loopg [4,5,6] k (fun kq v4 v5 v6 w'=>∃ (aF:Int) (aC:List Int) (aD:Int),v4=.int .i64 aF∧v6=.int .i64 aD∧Aside0 (M9.l0 kq l0 aF aC aD=some (r1,r2))∧Aside0 (kq≤k)∧Aside0 (Kd.R KI 3 w' w.heap.size (fun _=>True) v5 aC)∧Aside0 (Below w.heap.size w w'))
 case atStart=>exact⟨_,_,_,fz,fz,H',lr,⟨rR aH⟩,⟨bz⟩⟩
 case round =>
 obtain⟨aF,aC,aD,rfl,rfl,⟨H⟩,aJ,aA,HB⟩:=hrel
 cases gk with
 |zero=>cases H
 |succ k1 =>
 simp only[M9.l0]at H
 revert H
 refine iD ?_ ?_<;>intro c4b0
 ·refine ib fun aE A5=>ib fun aI A6=>iD ?_ ?_<;>intro c7b0
  ·refine ia fun H'=>?_
   go_wp2_with (first|((with_reducible refine ga 290 ?_);refine gs func290 (Q0.calls (fun k_=>k_<w.heap.size) A0 c0 l0 aD aE _ (Kd.V_mk aL.1 (Kd.F_below (Kd.C_F (Kd.heap_int .i64) aK.1) bz)) A5.1) ?_;rintro aN w8 ⟨aG,hb⟩;have aB:=am (Kd.R_lower (Kd.R_new' (Kd.R_mono (ok':=fun k_=>True) aG (fun _ hk_=>trivial)) (Kd.R_lt (rR aA))) (C5 bz));replace aA:=rE aA aG hb;replace HB:=bS hb;clear hb aG;obtain⟨Ao9,co9,rfl⟩:=Kd.R_slice aB.1;obtain⟨aO,aP,rfl⟩:=Kd.R_slice aA.1)|((with_reducible refine ga 297 ?_);refine gp func297 (K0.calls k1 Ao9 co9 aE aO aP aC aI _ (M8 (Kd.R_reads' aB.1).2.2) ((Kd.R_reads' aB.1).2.1) (M8 (Kd.R_reads' aA.1).2.2) ((Kd.R_reads' aA.1).2.1) A6.1) fun nd=>?_))
   go_roundg k1
   case measure=>exact lm aJ
   case rel=>exact⟨_,_,_,fz,fz,H',la aJ,⟨rM aB (fun _ hk=>trivial)⟩,⟨bz⟩⟩
  refine ia fun H'=>?_
  go_wp2_with (first|((with_reducible refine ga 290 ?_);refine gs func290 (Q0.calls (fun k_=>k_<w.heap.size) A0 c0 l0 aD aE _ (Kd.V_mk aL.1 (Kd.F_below (Kd.C_F (Kd.heap_int .i64) aK.1) bz)) A5.1) ?_;rintro aN w11 ⟨aG,hb⟩;have aB:=am (Kd.R_lower (Kd.R_new' (Kd.R_mono (ok':=fun k_=>True) aG (fun _ hk_=>trivial)) (Kd.R_lt (rR aA))) (C5 bz));replace aA:=rE aA aG hb;replace HB:=bS hb;clear hb aG;obtain⟨aQ,aR,rfl⟩:=Kd.R_slice aB.1;obtain⟨aS,aT,rfl⟩:=Kd.R_slice aA.1)|((with_reducible refine ga 297 ?_);refine gp func297 (K0.calls k1 aQ aR aE aS aT aC aI _ (M8 (Kd.R_reads' aB.1).2.2) ((Kd.R_reads' aB.1).2.1) (M8 (Kd.R_reads' aA.1).2.2) ((Kd.R_reads' aA.1).2.1) A6.1) fun nd=>?_))
  go_roundg k1
  case measure=>exact lm aJ
  case rel=>exact⟨_,_,_,fz,fz,H',la aJ,⟨rM aA (fun _ hk=>trivial)⟩,⟨bz⟩⟩
 refine i2 ?_;rintro rfl rfl
 go_wp2
 go_ret2
 exact⟨_,fe,rR aA,bz⟩
def o7.f (k:Nat)(b:List Int):Option (Bool):=(M9.f k b).bind fun a=>(some (a.1==0))
theorem o7.calls (k A0 c0 l0 r w):Kd.C KI w A0 l0.length l0→l0.length≤c0→o7.f k l0=some r→
 Calls prog 266 #[.slice A0 l0.length c0] w (pB w (.bool r)):=by
 have HB:=bR w
 refine pa fun HR0 HC0=>?_
 unfold o7.f
 refine ib ?_;rintro⟨aA,aB⟩ A2
 refine i1 ?_;rintro rfl
 go_in
 go_wp2_with ((with_reducible refine ga 289 ?_);refine gR func289 (M9.calls k A0 c0 l0 aA aB _ (M8 HR0.1) HC0.1 A2.1) bz ?_;clear HB;intro v357 w3 aC HB)
 go_ret
 exact⟨fe,bz⟩
def Q8.l0:Nat→List Int→Int→Option (Int)
 |0,_,_=>none
 |k+1,b,a=>if a=0 then(none)else(if((b.length:Int) % a)=0 then((Q0.f b a).bind fun c=>((D7.f k c b).bind fun d=>(if d=true then(some a)else(Q8.l0 k b (wrap64 (a+1))))))else(Q8.l0 k b (wrap64 (a+1))))
def Q8.f (k:Nat)(a:List Int):Option (Int):=Q8.l0 k a 1
theorem Q8.calls (k A0 c0 l0 r w):Kd.C KI w A0 l0.length l0→l0.length≤c0→Q8.f k l0=some r→
 Calls prog 267 #[.slice A0 l0.length c0] w (pB w (.int .i64 r)):=by
 have HB:=bR w
 refine pa fun aE aF=>?_
 unfold Q8.f
 refine ia fun H'=>?_
 go_in
 go_wp2
 go_loopg [3] k (fun kq v3 w'=>∃ (aB:Int),v3=.int .i64 aB∧Aside0 (Q8.l0 kq l0 aB=some r)∧Aside0 (kq≤k)∧Aside0 (Below w.heap.size w w'))
 case atStart=>exact⟨_,fz,H',lr,⟨bz⟩⟩
 case round =>
 obtain⟨aB,rfl,⟨H⟩,aG,HB⟩:=hrel
 cases gk with
 |zero=>cases H
 |succ k1 =>
 simp only[Q8.l0]at H
 revert H
 refine iN fun c2 c2b0 c2b1=>iE (fun aH aI=>?_) fun c3 aH aI=>?_
 ·refine ib fun aC A4=>ib fun t362 A5=>iB ?_ ?_<;>rintro rfl
  ·refine i1 ?_;rintro rfl
   go_wp2_with (first|(go_at_call 290;(with_reducible refine(Q0.calls (fun k_=>k_<w.heap.size) _ _ l0 aB aC _ ?side1 A4.1).mono ?_);(case side1=>exact Kd.V_mk aF.1 (Kd.F_below (Kd.C_F (Kd.heap_int .i64) aE.1) bz));rintro e w7 ⟨aJ,rfl,aD,hb⟩;have aA:=am (Kd.R_lower (Kd.R_mono (ok':=fun k_=>True) aD (fun _ hk_=>trivial)) (C5 bz));replace HB:=bS hb;clear hb aD;obtain⟨Ao8,co8,rfl⟩:=Kd.R_slice aA.1)|(go_at_call 71;(with_reducible refine qp (D7.calls k1 _ _ aC _ _ l0 true _ (M8 (Kd.R_reads' aA.1).2.2) ((Kd.R_reads' aA.1).2.1) (M8 (Kd.C_below aE.1 HB.1)) aF.1 A5.1) fun nd=>?_)))
   go_ret
   exact⟨fe,bz⟩
  refine ia fun H'=>?_
  go_wp2_with (first|(go_at_call 290;(with_reducible refine(Q0.calls (fun k_=>k_<w.heap.size) _ _ l0 aB aC _ ?side1 A4.1).mono ?_);(case side1=>exact Kd.V_mk aF.1 (Kd.F_below (Kd.C_F (Kd.heap_int .i64) aE.1) bz));rintro e w9 ⟨aJ,rfl,aD,hb⟩;have aA:=am (Kd.R_lower (Kd.R_mono (ok':=fun k_=>True) aD (fun _ hk_=>trivial)) (C5 bz));replace HB:=bS hb;clear hb aD;obtain⟨Ao10,co10,rfl⟩:=Kd.R_slice aA.1)|(go_at_call 71;(with_reducible refine qp (D7.calls k1 _ _ aC _ _ l0 false _ (M8 (Kd.R_reads' aA.1).2.2) ((Kd.R_reads' aA.1).2.1) (M8 (Kd.C_below aE.1 HB.1)) aF.1 A5.1) fun nd=>?_)))
  go_roundg k1
  case measure=>exact lm aG
  case rel=>exact⟨_,fz,H',la aG,⟨bz⟩⟩
 refine ia fun H'=>?_
 go_wp2
 go_roundg k1
 case measure=>exact lm aG
 case rel=>exact⟨_,fz,H',la aG,⟨bz⟩⟩
def l7.f (k:Nat)(a:List Int):Option (Bool):=(o7.f k a).bind fun b=>(if b=true then((Q8.f k a).bind fun c=>(some (c== (a.length:Int))))else(some false))
theorem l7.calls (k A0 c0 l0 r w):Kd.C KI w A0 l0.length l0→l0.length≤c0→l7.f k l0=some r→
 Calls prog 208 #[.slice A0 l0.length c0] w (pB w (.bool r)):=by
 have HB:=bR w
 refine pa fun aA aB=>?_
 unfold l7.f
 refine ib fun t363 A2=>iB ?_ ?_<;>rintro rfl
 ·refine ib fun aC A4=>i1 ?_;rintro rfl
  go_in
  go_wp2_with (first|((with_reducible refine ga 266 ?_);refine gB func266 (o7.calls k A0 c0 l0 true _ (M8 aA.1) aB.1 A2.1) bz ?_;clear HB;intro w5 HB)|(go_at_call 267;(with_reducible refine(Q8.calls k _ _ l0 aC _ ?side1 ?side2 A4.1).mono ?_);(case side1=>exact M8 (Kd.C_below aA.1 HB.1));(case side2=>exact aB.1);rintro e w6 ⟨rfl,hb⟩;replace HB:=bS hb;clear hb))
  go_ret
  exact⟨fe,bz⟩
 refine i1 ?_;rintro rfl
 go_in
 go_wp2_with ((with_reducible refine ga 266 ?_);refine gB func266 (o7.calls k A0 c0 l0 false _ (M8 aA.1) aB.1 A2.1) bz ?_;clear HB;intro w7 HB)
 go_ret
 exact⟨fe,bz⟩
end Go.Proofs.YtpiogigidgejpaaGreatDoor.PFnExactStepLine
