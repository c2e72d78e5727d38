import Derived.Test.YtpiogigidgejpaaGreatDoorPFnExactStepLinex1
namespace Go.Proofs.YtpiogigidgejpaaGreatDoor.PFnExactStepLine
open Go.RowKit Go.Proofs.YtpiogigidgejpaaGreatDoorW.PrintWords Go.Proofs.YtpiogigidgejpaaGreatDoorW.PrintLast Go.Proofs.YtpiogigidgejpaaGreatDoorW.PrintMore Go.Proofs.YtpiogigidgejpaaGreatDoor.Sq Tryz
attribute [local go_sem] g8 g9 s8 q8 Y0 X9 b8 e6
set_option maxHeartbeats 8000000
set_option maxRecDepth 100000
set_option linter.unusedVariables false
set_option linter.unusedSimpArgs false
def AC9.f (a:Int):Option (Bool):=(E3.f a 1 10).bind fun b=>(some b)
theorem AC9.calls (a0 r w):AC9.f a0=some r→
 Calls prog 265 #[.int .i64 a0] w (pD w (.bool r)):=by
 unfold AC9.f
 refine ib fun aA A2=>i1 ?_;rintro rfl
 go_in
 go_wp2_with ((with_reducible refine ga 83 ?_);refine gp func83 (E3.calls a0 1 10 aA _ A2.1) fun nd=>?_)
 go_ret
 exact⟨fz,dz⟩
def m7.f (a b:Int):Option (Bool):=(AC9.f a).bind fun c=>(if c=true then(if 0≤a then((E3.f b 0 (wrap64 ((shl .i64 1 a) - 1))).bind fun d=>(some d))else(none))else(some false))
theorem m7.calls (a0 a1 r w):m7.f a0 a1=some r→
 Calls prog 192 #[.int .i64 a0,.int .i64 a1] w (pD w (.bool r)):=by
 unfold m7.f
 refine ib fun t195 A3=>iB ?_ ?_<;>rintro rfl
 ·refine if' fun c5b0 c5b1=>?_
  obtain⟨ji6,aA⟩:=ex (shl .i64 1 a0:Int)
  intro H
  first|rw[aA]at H|simp only[aA]at H
  (try rw[aA]at A3)
  obtain⟨aC,aD,aE,aF,aG,aH⟩:=sl aA
  revert H
  refine ib fun aB A7=>i1 ?_;rintro rfl
  go_in
  go_wp2_with (first|((with_reducible refine ga 265 ?_);refine gp func265 (AC9.calls a0 true _ A3.1) fun nd=>?_)|(go_at_call 83;(with_reducible refine qp (E3.calls a1 0 (wrap64 ((ji6) - 1)) aB _ A7.1) fun nd=>?_)))
  go_ret
  exact⟨by first|rfl|(simp;done)|(simp only[←aA]<;> (first|rfl|simp))|(simp[*];done),dz⟩
 refine i1 ?_;rintro rfl
 go_in
 go_wp2_with ((with_reducible refine ga 265 ?_);refine gp func265 (AC9.calls a0 false _ A3.1) fun nd=>?_)
 go_ret
 exact⟨fz,dz⟩
def Z5.f (b a:Int):Option (Int×Bool):=(m7.f b a).bind fun c=>(if c=true then(some (Go.bits .xor .i64 a (a / 2),true))else(some (0,false)))
theorem Z5.calls (a0 a1 r1 r2 w):Z5.f a0 a1=some (r1,r2)→
 Calls prog 134 #[.int .i64 a0,.int .i64 a1] w (pD w (.tuple #[.int .i64 r1,.bool r2])):=by
 unfold Z5.f
 refine ib fun t197 A3=>iB ?_ ?_<;>rintro rfl
 ·refine i2 ?_;rintro rfl rfl
  go_in
  go_wp2_with ((with_reducible refine ga 192 ?_);refine gp func192 (m7.calls a0 a1 true _ A3.1) fun nd=>?_)
  go_ret2
  exact⟨fz,dz⟩
 refine i2 ?_;rintro rfl rfl
 go_in
 go_wp2_with ((with_reducible refine ga 192 ?_);refine gp func192 (m7.calls a0 a1 false _ A3.1) fun nd=>?_)
 go_ret2
 exact⟨fz,dz⟩
def P0.l0:Nat→Int→Int→Option (Int)
 |0,_,_=>none
 |k+1,a,b=>if a>0 then(P0.l0 k (a / 2) (Go.bits .xor .i64 b a))else(some b)
def P0.f (k:Nat)(a:Int):Option (Int):=P0.l0 k a 0
theorem P0.calls (k a0 r w):P0.f k a0=some r→
 Calls prog 193 #[.int .i64 a0] w (pD w (.int .i64 r)):=by
 unfold P0.f
 refine ia fun H'=>?_
 go_in
 go_wp2
 go_loopg [0,3] k (fun kq v0 v3 w'=>∃ (aA aB:Int),v0=.int .i64 aA∧v3=.int .i64 aB∧Aside0 (P0.l0 kq aA aB=some r)∧Aside0 (kq≤k)∧Drawn0 w w')
 case atStart=>exact⟨_,_,fz,fz,H',lr,dz⟩
 case round =>
 obtain⟨aA,aB,rfl,rfl,⟨H⟩,aD,⟨m1,rfl⟩⟩:=hrel
 cases gk with
 |zero=>cases H
 |succ k1 =>
 simp only[P0.l0]at H
 revert H
 refine iD (fun aC=>?_) fun aC=>?_
 ·refine ia fun H'=>?_
  go_wp2
  go_roundg k1
  case measure=>exact lm aD
  case rel=>exact⟨_,_,fz,fz,H',la aD,dz⟩
 refine i1 ?_;rintro rfl
 go_wp2
 go_ret
 exact⟨fz,dz⟩
def X3.f (k:Nat)(b a:Int):Option (Int×Bool):=(m7.f b a).bind fun c=>(if c=true then((P0.f k a).bind fun d=>(some (d,true)))else(some (0,false)))
theorem X3.calls (k a0 a1 r1 r2 w):X3.f k a0 a1=some (r1,r2)→
 Calls prog 135 #[.int .i64 a0,.int .i64 a1] w (pD w (.tuple #[.int .i64 r1,.bool r2])):=by
 unfold X3.f
 refine ib fun t198 A3=>iB ?_ ?_<;>rintro rfl
 ·refine ib fun aA A5=>i2 ?_;rintro rfl rfl
  go_in
  go_wp2_with (first|((with_reducible refine ga 192 ?_);refine gp func192 (m7.calls a0 a1 true _ A3.1) fun nd=>?_)|((with_reducible refine ga 193 ?_);refine gp func193 (P0.calls k a1 aA _ A5.1) fun nd=>?_))
  go_ret2
  exact⟨fz,dz⟩
 refine i2 ?_;rintro rfl rfl
 go_in
 go_wp2_with ((with_reducible refine ga 192 ?_);refine gp func192 (m7.calls a0 a1 false _ A3.1) fun nd=>?_)
 go_ret2
 exact⟨fz,dz⟩
def Q1.l0:Nat→Int→Int→List Int→Int→Int→Option (Bool)
 |0,_,_,_,_,_=>none
 |k+1,c,e,b,d,a=>if a<d then(if 0≤a then(if a< (b.length:Int)then((E3.f (rd b a) c e).bind fun f=>(if f=true then(Q1.l0 k c e b d (wrap64 (a+1)))else(some false)))else(none))else(none))else(some true)
def Q1.f (k:Nat)(a:List Int)(b c:Int):Option (Bool):=Q1.l0 k b c a (a.length:Int) 0
theorem Q1.calls (k A0 c0 l0 a1 a2 r w):Kd.C KI w A0 l0.length l0→l0.length≤c0→Q1.f k l0 a1 a2=some r→
 Calls prog 51 #[.slice A0 l0.length c0,.int .i64 a1,.int .i64 a2] w (pD w (.bool r)):=by
 refine pa fun aF HC0=>?_
 unfold Q1.f
 refine ia fun H'=>?_
 go_in
 go_wp2
 go_loopg [11] k (fun kq v11 w'=>∃ (aA:Int),v11=.int .i64 aA∧Aside0 (Q1.l0 kq a1 a2 l0 (l0.length:Int) aA=some r)∧Aside0 (kq≤k)∧Drawn0 w w')
 case atStart=>exact⟨_,fz,H',lr,dz⟩
 case round =>
 obtain⟨aA,rfl,⟨H⟩,aG,⟨m1,rfl⟩⟩:=hrel
 cases gk with
 |zero=>cases H
 |succ k1 =>
 simp only[Q1.l0]at H
 revert H
 refine iD ?_ ?_<;>intro c4b0
 ·refine U9 fun c5b0=>U9 fun c6b0=>ib fun t201 A7=>iB ?_ ?_<;>rintro rfl
  ·refine ia fun H'=>?_
   obtain⟨aD,aE,aC,rfl,aB⟩:=ai aF.1 aA
   go_wp2_with ((with_reducible refine ga 83 ?_);refine gp func83 (E3.calls (rd l0 aA) a1 a2 true _ A7.1) fun nd=>?_)
   go_roundg k1
   case measure=>exact lm aG
   case rel=>exact⟨_,fz,H',la aG,dz⟩
  refine i1 ?_;rintro rfl
  obtain⟨aD,aE,aC,rfl,aB⟩:=ai aF.1 aA
  go_wp2_with ((with_reducible refine ga 83 ?_);refine gp func83 (E3.calls (rd l0 aA) a1 a2 false _ A7.1) fun nd=>?_)
  go_ret
  exact⟨fz,dz⟩
 refine i1 ?_;rintro rfl
 go_wp2
 go_ret
 exact⟨fz,dz⟩
def W4.l0:Nat→Int→List Int→Int→Int→Option (Int)
 |0,_,_,_,_=>none
 |k+1,c,b,d,a=>if a<d then(if 0≤a then(if a< (b.length:Int)then(W4.l0 k (mn (wrap64 (c* (rd b a))) 1000001) b d (wrap64 (a+1)))else(none))else(none))else(some c)
def W4.f (k:Nat)(a:List Int):Option (Int):=W4.l0 k 1 a (a.length:Int) 0
theorem W4.calls (k A0 c0 l0 r w):Kd.C KI w A0 l0.length l0→l0.length≤c0→W4.f k l0=some r→
 Calls prog 195 #[.slice A0 l0.length c0] w (pB w (.int .i64 r)):=by
 have HB:=bR w
 refine pa fun HR0 HC0=>?_
 unfold W4.f
 refine ia fun H'=>?_
 go_in
 go_wp2
 go_loopg [3,8] k (fun kq v3 v8 w'=>∃ (aC aA:Int),v3=.int .i64 aC∧v8=.int .i64 aA∧Aside0 (W4.l0 kq aC l0 (l0.length:Int) aA=some r)∧Aside0 (kq≤k)∧Aside0 (Below w.heap.size w w'))
 case atStart=>exact⟨_,_,fz,fz,H',lr,⟨bz⟩⟩
 case round =>
 obtain⟨aC,aA,rfl,rfl,⟨H⟩,aE,HB⟩:=hrel
 cases gk with
 |zero=>cases H
 |succ k1 =>
 simp only[W4.l0]at H
 revert H
 refine iD ?_ ?_<;>intro c2b0
 ·refine U9 fun c3b0=>U9 fun c4b0=>?_
  obtain⟨aF,aD⟩:=ex (mn (wrap64 (aC* (rd l0 aA))) 1000001:Int)
  intro H
  first|rw[aD]at H|simp only[aD]at H
  have aG:(if 1000001< (wrap64 (aC* (rd l0 aA)))then 1000001 else(wrap64 (aC* (rd l0 aA))))=aF:=aD
  revert H
  refine ia fun H'=>?_
  obtain⟨p202,q202,aH,rfl,aB⟩:=ai HR0.1 aA
  replace aB:=cl aB
  go_wp2
  go_roundg k1
  case measure=>exact lm aE
  case rel=>exact⟨(aF),(wrap64 (aA+1)),(by first|rfl|(simp;done)|(simp only[←aD]<;> (first|rfl|simp))|(simp[*];done)),fz,H',la aE,⟨bz⟩⟩
 refine i1 ?_;rintro rfl
 go_wp2
 go_ret
 exact⟨fe,bz⟩
def l8.f (k:Nat)(a:List Int):Option (Bool):=if(a.length:Int)≤12 then((Q1.f k a 2 12).bind fun b=>(if b=true then((W4.f k a).bind fun c=>(some (decide (c≤1000000))))else(some false)))else(some false)
theorem l8.calls (k A0 c0 l0 r w):Kd.C KI w A0 l0.length l0→l0.length≤c0→l8.f k l0=some r→
 Calls prog 194 #[.slice A0 l0.length c0] w (pB w (.bool r)):=by
 have HB:=bR w
 refine pa fun aA aB=>?_
 unfold l8.f
 refine io ?_ ?_<;>intro c2
 ·have aC:=decide_eq_true c2
  have aD:decide (l0.length≤12)=true:=decide_eq_true (by omega)
  refine ib fun t203 A3=>iB ?_ ?_<;>rintro rfl
  ·refine ib fun aE A5=>i1 ?_;rintro rfl
   go_in
   go_wp2_with (first|(go_at_call 51;(with_reducible refine qp (Q1.calls k _ _ l0 2 12 true _ (M8 aA.1) aB.1 A3.1) fun nd=>?_))|(go_at_call 195;(with_reducible refine(W4.calls k _ _ l0 aE _ ?side1 ?side2 A5.1).mono ?_);(case side1=>exact M8 aA.1);(case side2=>exact aB.1);rintro e w6 ⟨rfl,hb⟩;replace HB:=bS hb;clear hb))
   go_ret
   exact⟨fe,bz⟩
  refine i1 ?_;rintro rfl
  go_in
  go_wp2_with (go_at_call 51;(with_reducible refine qp (Q1.calls k _ _ l0 2 12 false _ (M8 aA.1) aB.1 A3.1) fun nd=>?_))
  go_ret
  exact⟨fe,bz⟩
 have aC:=decide_eq_false c2
 have aD:decide (l0.length≤12)=false:=decide_eq_false (by omega)
 refine i1 ?_;rintro rfl
 go_in
 go_wp2
 go_ret
 exact⟨fe,bz⟩
def V4.l0:Nat→List Int→Int→List Int→List Int→Int→Int→Option (List Int)
 |0,_,_,_,_,_,_=>none
 |k+1,f,c,e,d,g,a=>if a<g then(if 0≤a then(if a< (d.length:Int)then(if 0≤(wrap64 (a+1))then(if(wrap64 (a+1))≤(f.length:Int)then((W4.f k (f.drop ((wrap64 (a+1)):Int).toNat)).bind fun b=>(if b=0 then(none)else(if(Int.tmod (wrap64 (Int.tdiv c b)) 2)=1 then(if e.length<17592186044416 then(V4.l0 k f (wrap64 ((wrap64 (b - 1)) - (Int.tmod c b))) (e++ [mn (wrap64 (Int.tdiv c b)) (wrap64 ((rd d a) - 1))]) d g (wrap64 (a+1)))else(none))else(if e.length<17592186044416 then(V4.l0 k f (Int.tmod c b) (e++ [mn (wrap64 (Int.tdiv c b)) (wrap64 ((rd d a) - 1))]) d g (wrap64 (a+1)))else(none)))))else(none))else(none))else(none))else(none))else(some e)
def V4.f (k:Nat)(a:List Int)(b:Int):Option (List Int):=V4.l0 k a b (([]:List Int)) a (a.length:Int) 0
theorem V4.calls (k A0 c0 l0 a1 r w):Kd.C KI w A0 l0.length l0→l0.length≤c0→V4.f k l0 a1=some r→
 Calls prog 196 #[.slice A0 l0.length c0,.int .i64 a1] w (pR w KI 3 r):=by
 have HB:=bR w
 refine pa fun bC bP=>?_
 unfold V4.f
 intro H
 obtain⟨y205,aI⟩:=ey (([]:List Int):List Int)
 rw[←aI.1]at H
 revert H
 refine ia fun H'=>?_
 go_in
 go_wp2_with ((with_reducible refine gd 10 ?_);refine rl KI 3 ([]:List Int) [] (J7.none _ _) ?_;intro v206 w3 aQ hb;(first|rw[←aI.1]at aQ|(simp only[Int.reduceToNat]at aQ;rw[←aI.1]at aQ));have aR:=am (Kd.R_lower aQ (C5 bz));replace HB:=bS hb;clear hb aQ)
 go_loopg [1,5,13] k (fun kq v1 v5 v13 w'=>∃ (aC:Int) (aF:List Int) (aA:Int),v1=.int .i64 aC∧v13=.int .i64 aA∧Aside0 (V4.l0 kq l0 aC aF l0 (l0.length:Int) aA=some r)∧Aside0 (kq≤k)∧Aside0 (Kd.R KI 3 w' w.heap.size (fun _=>True) v5 aF)∧Aside0 (Below w.heap.size w w'))
 case atStart=>exact⟨_,_,_,fz,fz,H',lr,⟨rR aR⟩,⟨bz⟩⟩
 case round =>
 obtain⟨aC,aF,aA,rfl,rfl,⟨H⟩,bD,aD,HB⟩:=hrel
 cases gk with
 |zero=>cases H
 |succ k1 =>
 simp only[V4.l0]at H
 revert H
 refine iD ?_ ?_<;>intro c5b0
 ·refine U9 fun c6b0=>U9 fun c7b0=>?_
  generalize hji8:(wrap64 (aA+1))=ji8
  have bQ:=(P9 _).trans hji8
  refine if' fun c9b0 c9b1=>if' fun bT bU=>ib fun aE bE=>iN fun c12 bV bW=>iE (fun aS aT=>?_) fun c13 aS aT=>?_
  ·obtain⟨aO,aG⟩:=ex (mn (wrap64 (Int.tdiv aC aE)) (wrap64 ((rd l0 aA) - 1)):Int)
   intro H
   first|rw[aG]at H|simp only[aG]at H
   (try rw[aG]at bE)
   have bF:(if(wrap64 ((rd l0 aA) - 1))< (wrap64 (Int.tdiv aC aE))then(wrap64 ((rd l0 aA) - 1))else(wrap64 (Int.tdiv aC aE)))=aO:=aG
   revert H
   refine il fun aU=>?_
   generalize aJ:(aF++ [aO])=y211
   replace aJ:=am aJ.symm
   refine ia fun H'=>?_
   obtain⟨bG,bH,aK,rfl,aB⟩:=ai bC.1 aA
   replace aB:=cl aB
   obtain⟨i016,aV,_,aW,_⟩:=info_parts J9
   obtain⟨A16,bI,bJ,bK⟩:=X7 (P:=prog) (Value.int .i64) 0 22 3 .i64 underlying22 aV aW (some aK) c0 l0 (ji8) (od) (od) bP.1
   have aL:=am (Kd.C_of_reads (h1:=fun _=>rfl) (bJ _ (Kd.reads_of_C bC.1)))
   have aM:=am bK
   go_wp2_with (first|((with_reducible refine ga 195 ?_);refine ge func195 (W4.calls k1 A16 (c0 - (ji8).toNat) (l0.drop ((ji8):Int).toNat) aE _ (M8 (Kd.C_below aL.1 HB.1)) aM.1 bE.1) ?_ (hargs:=by(try simp only[List.map_toArray,List.map_cons,List.map_nil]);first|done|(rw[show(l0.drop ((ji8):Int).toNat).length=(l0.length - (ji8).toNat)from List.length_drop]<;>rfl)|(simp only[hji8];rfl)|rfl|(simp only[List.length_drop,List.length_take];rfl));rintro w17 hb;replace aD:=am (Kd.R_below (rR aD) hb);replace HB:=bS hb;clear hb)|((with_reducible refine gb 36 41 ?_);at_builtin;refine ra KI underlying22 J9 u5 aF aO [.int .i64 aO] (fun _=>True) rfl (fun _ _=>trivial) (rR aD) bz (lm aU) ?_;intro v212 w18 ho hb hg hat;rw[←aJ.1]at ho;replace HB:=am (hb);have aX:=am (ho);clear aD ho hb hg hat))
   go_roundg k1
   case measure=>exact lm bD
   case rel=>exact⟨_,_,_,fz,(by first|rfl|(simp;done)|(simp only[←hji8]<;> (first|rfl|simp))|(simp[*];done)),H',la bD,⟨rR aX⟩,⟨bz⟩⟩
  obtain⟨aP,aH⟩:=ex (mn (wrap64 (Int.tdiv aC aE)) (wrap64 ((rd l0 aA) - 1)):Int)
  intro H
  first|rw[aH]at H|simp only[aH]at H
  (try rw[aH]at bE)
  have bL:(if(wrap64 ((rd l0 aA) - 1))< (wrap64 (Int.tdiv aC aE))then(wrap64 ((rd l0 aA) - 1))else(wrap64 (Int.tdiv aC aE)))=aP:=aH
  revert H
  refine il fun aY=>?_
  generalize aN:(aF++ [aP])=y214
  replace aN:=am aN.symm
  refine ia fun H'=>?_
  obtain⟨bG,bH,aK,rfl,aB⟩:=ai bC.1 aA
  replace aB:=cl aB
  obtain⟨i021,aZ,_,bA,_⟩:=info_parts J9
  obtain⟨A21,bM,bN,bO⟩:=X7 (P:=prog) (Value.int .i64) 0 22 3 .i64 underlying22 aZ bA (some aK) c0 l0 (ji8) (od) (od) bP.1
  have aL:=am (Kd.C_of_reads (h1:=fun _=>rfl) (bN _ (Kd.reads_of_C bC.1)))
  have aM:=am bO
  go_wp2_with (first|((with_reducible refine ga 195 ?_);refine ge func195 (W4.calls k1 A21 (c0 - (ji8).toNat) (l0.drop ((ji8):Int).toNat) aE _ (M8 (Kd.C_below aL.1 HB.1)) aM.1 bE.1) ?_ (hargs:=by(try simp only[List.map_toArray,List.map_cons,List.map_nil]);first|done|(rw[show(l0.drop ((ji8):Int).toNat).length=(l0.length - (ji8).toNat)from List.length_drop]<;>rfl)|(simp only[hji8];rfl)|rfl|(simp only[List.length_drop,List.length_take];rfl));rintro w22 hb;replace aD:=am (Kd.R_below (rR aD) hb);replace HB:=bS hb;clear hb)|((with_reducible refine gb 36 41 ?_);at_builtin;refine ra KI underlying22 J9 u5 aF aP [.int .i64 aP] (fun _=>True) rfl (fun _ _=>trivial) (rR aD) bz (lm aY) ?_;intro v215 w23 ho hb hg hat;rw[←aN.1]at ho;replace HB:=am (hb);have bB:=am (ho);clear aD ho hb hg hat))
  go_roundg k1
  case measure=>exact lm bD
  case rel=>exact⟨_,_,_,fz,(by first|rfl|(simp;done)|(simp only[←hji8]<;> (first|rfl|simp))|(simp[*];done)),H',la bD,⟨rR bB⟩,⟨bz⟩⟩
 refine i1 ?_;rintro rfl
 go_wp2
 go_ret
 exact⟨_,fe,rR aD,bz⟩
def s6.f (k:Nat)(a:List Int)(b:Int):Option (List Int×Bool):=(l8.f k a).bind fun c=>(if c=true then((W4.f k a).bind fun d=>((E3.f b 0 (wrap64 (d - 1))).bind fun e=>(if e=true then((V4.f k a b).bind fun f=>(some (f,true)))else(some (([]:List Int),false)))))else(some (([]:List Int),false)))
theorem s6.calls (k A0 c0 l0 a1 r1 r2 w):Kd.C KI w A0 l0.length l0→l0.length≤c0→s6.f k l0 a1=some (r1,r2)→
 Calls prog 136 #[.slice A0 l0.length c0,.int .i64 a1] w (pT w KI 3 r1 r2):=by
 have HB:=bR w
 refine pa fun aB aC=>?_
 unfold s6.f
 refine ib fun t217 A3=>iB ?_ ?_<;>rintro rfl
 ·refine ib fun aA A5=>ib fun t219 A6=>iB ?_ ?_<;>rintro rfl
  ·refine ib fun aE A8=>i2 ?_;rintro rfl rfl
   go_in
   go_wp2_with (first|((with_reducible refine ga 194 ?_);refine gB func194 (l8.calls k A0 c0 l0 true _ (M8 aB.1) aC.1 A3.1) bz ?_;clear HB;intro w9 HB)|(go_at_call 195;(with_reducible refine(W4.calls k _ _ l0 aA _ ?side1 ?side2 A5.1).mono ?_);(case side1=>exact M8 (Kd.C_below aB.1 HB.1));(case side2=>exact aC.1);rintro e w10 ⟨rfl,hb⟩;replace HB:=bS hb;clear hb)|(go_at_call 83;(with_reducible refine qp (E3.calls a1 0 (wrap64 (aA - 1)) true _ A6.1) fun nd=>?_))|((with_reducible refine ga 196 ?_);refine gR func196 (V4.calls k A0 c0 l0 a1 aE _ (by repeat(first|exact(Kd.C_below aB.1 bz)|(with_reducible refine Kd.C_alloc ?_ _)|(with_reducible refine Kd.C_drewN ?_ _)|(with_reducible refine Kd.C_drew ?_))) aC.1 A8.1) bz ?_;clear HB;intro v221 w11 aD HB))
   go_ret2
   exact⟨_,fe,rR aD,bz⟩
  refine i2 ?_;rintro rfl rfl
  go_in
  go_wp2_with (first|((with_reducible refine ga 194 ?_);refine gB func194 (l8.calls k A0 c0 l0 true _ (M8 aB.1) aC.1 A3.1) bz ?_;clear HB;intro w12 HB)|(go_at_call 195;(with_reducible refine(W4.calls k _ _ l0 aA _ ?side1 ?side2 A5.1).mono ?_);(case side1=>exact M8 (Kd.C_below aB.1 HB.1));(case side2=>exact aC.1);rintro e w13 ⟨rfl,hb⟩;replace HB:=bS hb;clear hb)|(go_at_call 83;(with_reducible refine qp (E3.calls a1 0 (wrap64 (aA - 1)) false _ A6.1) fun nd=>?_)))
  go_ret2
  exact⟨_,fe,nz,bz⟩
 refine i2 ?_;rintro rfl rfl
 go_in
 go_wp2_with ((with_reducible refine ga 194 ?_);refine gB func194 (l8.calls k A0 c0 l0 false _ (M8 aB.1) aC.1 A3.1) bz ?_;clear HB;intro w14 HB)
 go_ret2
 exact⟨_,fe,nz,bz⟩
mutual
def I9.j0:Nat→Int→Int→Bool→Option (Int)
 |0,_,_,_=>none
 |k+1,a,b,c=>if c=true then(some 0)else(I9.l0 k a 1 b 0)
def I9.l0:Nat→Int→Int→Int→Int→Option (Int)
 |0,_,_,_,_=>none
 |k+1,b,d,c,a=>if a<c then(if(wrap64 (a+1))=0 then(none)else(I9.l0 k b (wrap64 (Int.tdiv (wrap64 (d* (wrap64 (b - a)))) (wrap64 (a+1)))) c (wrap64 (a+1))))else(some d)
end
def I9.f (k:Nat)(b a:Int):Option (Int):=if a<0 then(I9.j0 k b a true)else(I9.j0 k b a (decide (a>b)))
theorem I9.calls (k a0 a1 r w):I9.f k a0 a1=some r→
 Calls prog 203 #[.int .i64 a0,.int .i64 a1] w (pD w (.int .i64 r)):=by
 unfold I9.f
 refine ia fun HC3=>?_
 go_in
 go_upto_region 1 with(fail)
 go_cut [13] (fun v13 wc=>∃ (kq:Nat) (aA:Bool),v13=.bool aA∧Aside0 (I9.j0 kq a0 a1 aA=some r)∧Aside0 (kq≤k)∧Drawn0 w wc)
 case first =>
  have H:=HC3.1
  revert H
  refine iD ?_ ?_<;>intro aC
  ·(first|rw[aC]|(simp only[P9,i6];rw[aC])|skip)
   refine ia fun H'=>?_
   go_wp2
   go_meet
   case rel=>exact⟨_,(true),fz,H',lo,dz⟩
  (first|rw[aC]|(simp only[P9,i6];rw[aC])|skip)
  refine ia fun H'=>?_
  go_wp2
  go_meet
  case rel=>exact⟨_,(decide (a1>a0)),fz,H',lo,dz⟩
 case rest =>
 obtain⟨kq,aA,rfl,⟨H⟩,aE,⟨mc2,rfl⟩⟩:=hcut
 cases kq with
 |zero=>cases H
 |succ aF =>
 simp only[I9.j0]at H
 revert H
 refine iB ?_ ?_<;>rintro rfl
 ·refine i1 ?_;rintro rfl
  go_wp2
  go_ret
  exact⟨fz,dz⟩
 refine ia fun H'=>?_
 go_wp2
 go_loopg [5,15] aF (fun kq v5 v15 w'=>∃ (aD aB:Int),v5=.int .i64 aD∧v15=.int .i64 aB∧Aside0 (I9.l0 kq a0 aD a1 aB=some r)∧Aside0 (kq≤aF)∧Drawn0 w w')
 case atStart=>exact⟨_,_,fz,fz,H',lr,dz⟩
 case round =>
 obtain⟨aD,aB,rfl,rfl,⟨H⟩,aG,⟨m2,rfl⟩⟩:=hrel
 cases gk with
 |zero=>cases H
 |succ k2 =>
 simp only[I9.l0]at H
 revert H
 refine iD ?_ ?_<;>intro c6b0
 ·refine iN fun c7 c7b0 c7b1=>ia fun H'=>?_
  go_wp2
  go_roundg k2
  case measure=>exact lu aE aG
  case rel=>exact⟨_,_,fz,fz,H',lv aE aG,dz⟩
 refine i1 ?_;rintro rfl
 go_wp2
 go_ret
 exact⟨fz,dz⟩
def m3.f (k:Nat)(a b c:Int):Option (Bool):=(E3.f a 0 12).bind fun d=>(if d=true then((E3.f b 0 a).bind fun e=>(if e=true then((I9.f k a b).bind fun f=>((E3.f c 0 (wrap64 (f - 1))).bind fun g=>(some g)))else(some false)))else(some false))
theorem m3.calls (k a0 a1 a2 r w):m3.f k a0 a1 a2=some r→
 Calls prog 197 #[.int .i64 a0,.int .i64 a1,.int .i64 a2] w (pD w (.bool r)):=by
 unfold m3.f
 refine ib fun t223 A4=>iB ?_ ?_<;>rintro rfl
 ·refine ib fun t224 A6=>iB ?_ ?_<;>rintro rfl
  ·refine ib fun aA A8=>ib fun aB A9=>i1 ?_;rintro rfl
   go_in
   go_wp2_with (first|((with_reducible refine ga 83 ?_);refine gp func83 (E3.calls a0 0 12 true _ A4.1) fun nd=>?_)|(go_at_call 83;(with_reducible refine qp (E3.calls a1 0 a0 true _ A6.1) fun nd=>?_))|(go_at_call 203;(with_reducible refine qp (I9.calls k a0 a1 aA _ A8.1) fun nd=>?_))|(go_at_call 83;(with_reducible refine qp (E3.calls a2 0 (wrap64 (aA - 1)) aB _ A9.1) fun nd=>?_)))
   go_ret
   exact⟨fz,dz⟩
  refine i1 ?_;rintro rfl
  go_in
  go_wp2_with (first|((with_reducible refine ga 83 ?_);refine gp func83 (E3.calls a0 0 12 true _ A4.1) fun nd=>?_)|(go_at_call 83;(with_reducible refine qp (E3.calls a1 0 a0 false _ A6.1) fun nd=>?_)))
  go_ret
  exact⟨fz,dz⟩
 refine i1 ?_;rintro rfl
 go_in
 go_wp2_with ((with_reducible refine ga 83 ?_);refine gp func83 (E3.calls a0 0 12 false _ A4.1) fun nd=>?_)
 go_ret
 exact⟨fz,dz⟩
def M1.l0:Nat→Int→Int→Int→List Int→Int→Option (List Int)
 |0,_,_,_,_,_=>none
 |k+1,d,b,e,a,c=>if(a.length:Int)<b then((I9.f k (wrap64 ((wrap64 (d - c)) - 1)) (wrap64 ((wrap64 (b - (a.length:Int))) - 1))).bind fun f=>(if e<f then(if a.length<17592186044416 then(M1.l0 k d b e (a++ [c]) (wrap64 (c+1)))else(none))else(M1.l0 k d b (wrap64 (e - f)) a (wrap64 (c+1)))))else(some a)
def M1.f (k:Nat)(a b c:Int):Option (List Int):=M1.l0 k a b c (([]:List Int)) 0
theorem M1.calls (k a0 a1 a2 r w):M1.f k a0 a1 a2=some r→
 Calls prog 198 #[.int .i64 a0,.int .i64 a1,.int .i64 a2] w (pR w KI 3 r):=by
 have HB:=bR w
 unfold M1.f
 intro H
 obtain⟨y227,aD⟩:=ey (([]:List Int):List Int)
 rw[←aD.1]at H
 revert H
 refine ia fun H'=>?_
 go_in
 go_wp2_with ((with_reducible refine gd 10 ?_);refine rl KI 3 ([]:List Int) [] (J7.none _ _) ?_;intro v228 w4 aG hb;(first|rw[←aD.1]at aG|(simp only[Int.reduceToNat]at aG;rw[←aD.1]at aG));have aH:=am (Kd.R_lower aG (C5 bz));replace HB:=bS hb;clear hb aG)
 go_loopg [2,7,8] k (fun kq v2 v7 v8 w'=>∃ (aF:Int) (aA:List Int) (aB:Int),v2=.int .i64 aF∧v8=.int .i64 aB∧Aside0 (M1.l0 kq a0 a1 aF aA aB=some r)∧Aside0 (kq≤k)∧Aside0 (Kd.R KI 3 w' w.heap.size (fun _=>True) v7 aA)∧Aside0 (Below w.heap.size w w'))
 case atStart=>exact⟨_,_,_,fz,fz,H',lr,⟨rR aH⟩,⟨bz⟩⟩
 case round =>
 obtain⟨aF,aA,aB,rfl,rfl,⟨H⟩,aK,aC,HB⟩:=hrel
 cases gk with
 |zero=>cases H
 |succ k1 =>
 simp only[M1.l0]at H
 revert H
 refine iD ?_ ?_<;>intro c6b0
 ·refine ib fun aI A7=>iD ?_ ?_<;>intro c8b0
  ·refine il fun aL=>?_
   generalize aE:(aA++ [aB])=y231
   replace aE:=am aE.symm
   refine ia fun H'=>?_
   obtain⟨aM,aN,rfl⟩:=Kd.R_slice aC.1
   go_wp2_with (first|((with_reducible refine ga 203 ?_);refine gp func203 (I9.calls k1 (wrap64 ((wrap64 (a0 - aB)) - 1)) (wrap64 ((wrap64 (a1 - (aA.length:Int))) - 1)) aI _ A7.1) fun nd=>?_)|((with_reducible refine gb 30 32 ?_);at_builtin;refine ra KI underlying22 J9 (.slice aM aA.length aN) aA aB [.int .i64 aB] (fun _=>True) rfl (fun _ _=>trivial) (rR aC) bz (lm aL) ?_;intro v232 w11 ho hb hg hat;rw[←aE.1]at ho;replace HB:=am (hb);have aJ:=am (ho);clear aC ho hb hg hat))
   go_roundg k1
   case measure=>exact lm aK
   case rel=>exact⟨_,_,_,fz,fz,H',la aK,⟨rR aJ⟩,⟨bz⟩⟩
  refine ia fun H'=>?_
  obtain⟨Ao12,co12,rfl⟩:=Kd.R_slice aC.1
  go_wp2_with ((with_reducible refine ga 203 ?_);refine gp func203 (I9.calls k1 (wrap64 ((wrap64 (a0 - aB)) - 1)) (wrap64 ((wrap64 (a1 - (aA.length:Int))) - 1)) aI _ A7.1) fun nd=>?_)
  go_roundg k1
  case measure=>exact lm aK
  case rel=>exact⟨_,_,_,fz,fz,H',la aK,⟨rR aC⟩,⟨bz⟩⟩
 refine i1 ?_;rintro rfl
 obtain⟨Ao13,co13,rfl⟩:=Kd.R_slice aC.1
 go_wp2
 go_ret
 exact⟨_,fe,rR aC,bz⟩
def X4.f (k:Nat)(a b c:Int):Option (List Int×Bool):=(m3.f k a b c).bind fun d=>(if d=true then((M1.f k a b c).bind fun e=>(some (e,true)))else(some (([]:List Int),false)))
theorem X4.calls (k a0 a1 a2 r1 r2 w):X4.f k a0 a1 a2=some (r1,r2)→
 Calls prog 137 #[.int .i64 a0,.int .i64 a1,.int .i64 a2] w (pT w KI 3 r1 r2):=by
 have HB:=bR w
 unfold X4.f
 refine ib fun t234 A4=>iB ?_ ?_<;>rintro rfl
 ·refine ib fun aB A6=>i2 ?_;rintro rfl rfl
  go_in
  go_wp2_with (first|((with_reducible refine ga 197 ?_);refine gp func197 (m3.calls k a0 a1 a2 true _ A4.1) fun nd=>?_)|((with_reducible refine ga 198 ?_);refine gR func198 (M1.calls k a0 a1 a2 aB _ A6.1) bz ?_;clear HB;intro v236 w7 aA HB))
  go_ret2
  exact⟨_,fe,rR aA,bz⟩
 refine i2 ?_;rintro rfl rfl
 go_in
 go_wp2_with ((with_reducible refine ga 197 ?_);refine gp func197 (m3.calls k a0 a1 a2 false _ A4.1) fun nd=>?_)
 go_ret2
 exact⟨_,fe,nz,bz⟩
def U5.f:Nat→Int→Int→Int→Option (List Int)
 |0,_,_,_=>none
 |k+1,a,b,c=>if b=0 then(some (([]:List Int)))else(if b=a then((J3.f k a).bind fun e=>(some e))else((I9.f k (wrap64 (a - 1)) b).bind fun f=>(if c<f then((U5.f k (wrap64 (a - 1)) b c).bind fun g=>(some g))else((I9.f k a b).bind fun h=>((U5.f k (wrap64 (a - 1)) (wrap64 (b - 1)) (wrap64 ((wrap64 (h - 1)) - c))).bind fun d=>(if d.length<17592186044416 then(some (d++ [wrap64 (a - 1)]))else(none)))))))
theorem U5.calls (k:Nat):∀ (a0 a1 a2:Int) (r:List Int) (w:World) (h:U5.f k a0 a1 a2=some r),
 Calls prog 199 #[.int .i64 a0,.int .i64 a1,.int .i64 a2] w (pR w KI 3 r):=by
 induction k using Nat.strongRecOn with
 |_ k ih =>
 intro a0 a1 a2 r w h
 cases k with
 |zero=>exact absurd h (by simp[U5.f])
 |succ k =>
 simp only[U5.f]at h
 have HB:=bR w
 have H:=h
 revert H
 refine iE (fun aM aN=>?_) fun c4 aM aN=>?_
 ·generalize aA:([]:List Int)=y238
  replace aA:=am aA.symm
  refine i1 ?_;rintro rfl
  go_in
  go_wp2_with ((with_reducible refine gd 11 ?_);refine rl KI 3 ([]:List Int) [] (J7.none _ _) ?_;intro v239 w5 aE hb;(first|rw[←aA.1]at aE|(simp only[Int.reduceToNat]at aE;rw[←aA.1]at aE));have aF:=am (Kd.R_lower aE (C5 bz));replace HB:=bS hb;clear hb aE)
  go_ret
  exact⟨_,fe,rR aF,bz⟩
 refine iE (fun aO aP=>?_) fun c7 aO aP=>?_
 ·refine ib fun aQ A8=>i1 ?_;rintro rfl
  go_in
  go_wp2_with ((with_reducible refine ga 63 ?_);refine gR func63 (J3.calls k a0 aQ _ A8.1) bz ?_;clear HB;intro v242 w9 aG HB)
  go_ret
  exact⟨_,fe,rR aG,bz⟩
 refine ib fun aH aT=>iD ?_ ?_<;>intro aU
 ·refine ib fun aR A12=>i1 ?_;rintro rfl
  go_in
  go_wp2_with (first|((with_reducible refine ga 203 ?_);refine gp func203 (I9.calls k (wrap64 (a0 - 1)) a1 aH _ aT.1) fun nd=>?_)|((with_reducible refine ga 199 ?_);refine gR func199 (ih k (by omega) (wrap64 (a0 - 1)) a1 a2 aR _ A12.1) bz ?_;clear HB;intro v246 w13 aI HB))
  go_ret
  exact⟨_,fe,rR aI,bz⟩
 refine ib fun aJ A14=>ib fun aD A15=>il fun aK=>?_
 generalize aB:(aD++ [wrap64 (a0 - 1)])=y252
 replace aB:=am aB.symm
 refine i1 ?_;rintro rfl
 go_in
 go_wp2_with (first|((with_reducible refine ga 203 ?_);refine gp func203 (I9.calls k (wrap64 (a0 - 1)) a1 aH _ aT.1) fun nd=>?_)|((with_reducible refine ga 203 ?_);refine gp func203 (I9.calls k a0 a1 aJ _ A14.1) fun nd=>?_)|((with_reducible refine ga 199 ?_);refine gR func199 (ih k (by omega) (wrap64 (a0 - 1)) (wrap64 (a1 - 1)) (wrap64 ((wrap64 (aJ - 1)) - a2)) aD _ A15.1) bz ?_;clear HB;intro aS w17 aC HB)|((with_reducible refine gb 40 43 ?_);at_builtin;refine ra KI underlying22 J9 aS aD (wrap64 (a0 - 1)) [.int .i64 (wrap64 (a0 - 1))] (fun _=>True) rfl (fun _ _=>trivial) (rR aC) bz (lm aK) ?_;intro v253 w18 ho hb hg hat;rw[←aB.1]at ho;replace HB:=am (hb);have aL:=am (ho);clear aC ho hb hg hat))
 go_ret
 exact⟨_,fe,rR aL,bz⟩
def Z6.f (k:Nat)(a b c:Int):Option (List Int×Bool):=(m3.f k a b c).bind fun d=>(if d=true then((U5.f k a b c).bind fun e=>(some (e,true)))else(some (([]:List Int),false)))
theorem Z6.calls (k a0 a1 a2 r1 r2 w):Z6.f k a0 a1 a2=some (r1,r2)→
 Calls prog 138 #[.int .i64 a0,.int .i64 a1,.int .i64 a2] w (pT w KI 3 r1 r2):=by
 have HB:=bR w
 unfold Z6.f
 refine ib fun t255 A4=>iB ?_ ?_<;>rintro rfl
 ·refine ib fun aB A6=>i2 ?_;rintro rfl rfl
  go_in
  go_wp2_with (first|((with_reducible refine ga 197 ?_);refine gp func197 (m3.calls k a0 a1 a2 true _ A4.1) fun nd=>?_)|((with_reducible refine ga 199 ?_);refine gR func199 (U5.calls k a0 a1 a2 aB _ A6.1) bz ?_;clear HB;intro v257 w7 aA HB))
  go_ret2
  exact⟨_,fe,rR aA,bz⟩
 refine i2 ?_;rintro rfl rfl
 go_in
 go_wp2_with ((with_reducible refine ga 197 ?_);refine gp func197 (m3.calls k a0 a1 a2 false _ A4.1) fun nd=>?_)
 go_ret2
 exact⟨_,fe,nz,bz⟩
def x1.f (a b:Int):Option (Bool):=(E3.f a 0 12).bind fun c=>(if c=true then((E3.f b 0 a).bind fun d=>(some d))else(some false))
theorem x1.calls (a0 a1 r w):x1.f a0 a1=some r→
 Calls prog 200 #[.int .i64 a0,.int .i64 a1] w (pD w (.bool r)):=by
 unfold x1.f
 refine ib fun t259 A3=>iB ?_ ?_<;>rintro rfl
 ·refine ib fun aA A5=>i1 ?_;rintro rfl
  go_in
  go_wp2_with (first|((with_reducible refine ga 83 ?_);refine gp func83 (E3.calls a0 0 12 true _ A3.1) fun nd=>?_)|(go_at_call 83;(with_reducible refine qp (E3.calls a1 0 a0 aA _ A5.1) fun nd=>?_)))
  go_ret
  exact⟨fz,dz⟩
 refine i1 ?_;rintro rfl
 go_in
 go_wp2_with ((with_reducible refine ga 83 ?_);refine gp func83 (E3.calls a0 0 12 false _ A3.1) fun nd=>?_)
 go_ret
 exact⟨fz,dz⟩
def L6.l0:Nat→Int→Int→List (List Int)→Int→Int→Option ((List (List Int)))
 |0,_,_,_,_,_=>none
 |k+1,c,d,b,e,a=>if a<e then((M1.f k c d a).bind fun f=>(if b.length<5864062014805 then(L6.l0 k c d (b++ [f]) e (wrap64 (a+1)))else(none)))else(some b)
def L6.f (k:Nat)(a b:Int):Option ((List (List Int))):=(I9.f k a b).bind fun c=>(L6.l0 k a b (([]:List (List Int))) c 0)
theorem L6.calls (k a0 a1 r w):L6.f k a0 a1=some r→
 Calls prog 201 #[.int .i64 a0,.int .i64 a1] w fun e w'=>∃v0_:Value,e=.returned (v0_)∧Kd.S KS 22 w' w.heap.size (fun _=>True) v0_ r∧Below w.heap.size w w':=by
 have HB:=bR w
 unfold L6.f
 intro H
 obtain⟨y261,aE⟩:=ey (([]:List (List Int)):List (List Int))
 rw[←aE.1]at H
 revert H
 refine ib fun aJ A3=>ia fun H'=>?_
 go_in
 go_wp2_with (first|((with_reducible refine P8 (N:=7) rfl ?_);refine Kd.S_lit KS _ 22 ?hg (N:=7) ?hd (xs:=([]:List (List Int))) (inner:=[]) (ok:=fun _=>True) (okp:=fun _=>True) ?hr ?hp (fun _ hk=>hk) trivial (Below.refl _ _) (Nat.le_refl _) (by simp) ?_;(case hd=>rfl);(case hg=>rfl);(case hr=>first|(go_simp;done)|(go_simp;rfl));(case hp=>exact(J7.none _ _));intro v262 w4 aK hb hg_ hnew_;clear hg_ hnew_;(first|rw[←aE.1]at aK|(simp only[Int.reduceToNat]at aK;rw[←aE.1]at aK));have aM:=am (Kd.S_lower aK (C5 bz));replace HB:=bS hb;clear hb aK)|((with_reducible refine ga 203 ?_);refine gp func203 (I9.calls k a0 a1 aJ _ A3.1) fun nd=>?_))
 go_loopg [5,11] k (fun kq v5 v11 w'=>∃ (aG:List (List Int)) (aC:Int),v11=.int .i64 aC∧Aside0 (L6.l0 kq a0 a1 aG aJ aC=some r)∧Aside0 (kq≤k)∧Aside0 (Kd.S KS 22 w' w.heap.size (fun _=>True) v5 aG)∧Aside0 (Below w.heap.size w w'))
 case atStart=>exact⟨_,_,fz,H',lr,⟨rS aM⟩,⟨bz⟩⟩
 case round =>
 obtain⟨aG,aC,rfl,⟨H⟩,aV,aA,HB⟩:=hrel
 cases gk with
 |zero=>cases H
 |succ k1 =>
 simp only[L6.l0]at H
 revert H
 refine iD ?_ ?_<;>intro c6b0
 ·refine ib fun aH A7=>il fun aT=>?_
  generalize aI:(aG++ [aH])=y268
  replace aI:=am aI.symm
  refine ia fun H'=>?_
  go_wp2_with (first|((with_reducible refine ga 198 ?_);refine gs func198 (M1.calls k1 a0 a1 aC aH _ A7.1) ?_;rintro v266 w9 ⟨aU,hb⟩;replace aA:=am (Kd.S_elder' (rS aA) (Kd.R_base aU) hb);have aD:=am (Kd.R_lower aU (C5 bz));replace HB:=bS hb;clear hb aU;obtain⟨aN,aQ,rfl⟩:=Kd.R_slice aD.1)|((with_reducible refine Y1 (b:=.append) (xs:=#[.tmp 14,.tmp 19]) rfl ?_);at_builtin;refine Kd.S_append KS (w0:=w) w.heap.size rfl (.tmp 14) (.tmp 19) 127 22 (.slice none 0 0) 24 rfl underlying127 Ae5 rfl (by decide) (by omega) u5 aG aH [.slice aN aH.length aQ] (fun _=>True) (fun k_=>some k_=(.slice aN aH.length aQ:Value).ownBlock) rfl rfl ?aP (fun k_ hk_=>((Kd.R_mono (ok':=fun k_=>((fun _=>True)) k_∧some k_≠(u5:Value).ownBlock) (Kd.R_apart' (aD.1) (Kd.S_typed aA.1) (by decide)) (fun k_ hk=>⟨trivial,hk.2⟩))).1 k_ hk_.symm) ?aF ?aO ?aB ?aS ?aL ?_;(case aP=>exact Kd.M_row (Kd.R_mono (Kd.R_tight rfl (Kd.R_mono (ok':=fun k_=>((fun _=>True)) k_∧some k_≠(u5:Value).ownBlock) (Kd.R_apart' (aD.1) (Kd.S_typed aA.1) (by decide)) (fun k_ hk=>⟨trivial,hk.2⟩))) (fun _ h_=>h_)));(case aB=>exact bz);(case aF=>exact(fun _ _=>trivial));(case aO=>exact(by(with_reducible repeat(first|apply Kd.S_alloc|apply Kd.S_drewN|apply Kd.S_drew));exact Kd.S_mono aA.1 (fun k_ hk=>⟨trivial,fun e_=>hk.2 e_⟩)));(case aS=>exact(C5 bz));(case aL=>have:=aT.1;omega);intro v269 w10 ho hb hg hat;rw[←aI.1]at ho;replace HB:=am (hb);have aR:=am (ho);clear aA aD;clear ho hb hg hat))
  go_roundg k1
  case measure=>exact lm aV
  case rel=>exact⟨_,_,fz,H',la aV,⟨rS aR⟩,⟨bz⟩⟩
 refine i1 ?_;rintro rfl
 go_wp2
 go_ret
 exact⟨_,fe,rS aA,bz⟩
def x5.l0:Nat→Int→List Int→Int→Int→Option (Int)
 |0,_,_,_,_=>none
 |k+1,c,b,d,a=>if a<d then(if 0≤a then(if a< (b.length:Int)then(x5.l0 k (wrap64 (c+ (rd b a))) b d (wrap64 (a+1)))else(none))else(none))else(some c)
def x5.f (k:Nat)(a:List Int):Option (Int):=x5.l0 k 0 a (a.length:Int) 0
theorem x5.calls (k A0 c0 l0 r w):Kd.C KI w A0 l0.length l0→l0.length≤c0→x5.f k l0=some r→
 Calls prog 202 #[.slice A0 l0.length c0] w (pD w (.int .i64 r)):=by
 refine pa fun HR0 HC0=>?_
 unfold x5.f
 refine ia fun H'=>?_
 go_in
 go_wp2
 go_loopg [3,8] k (fun kq v3 v8 w'=>∃ (aB aA:Int),v3=.int .i64 aB∧v8=.int .i64 aA∧Aside0 (x5.l0 kq aB l0 (l0.length:Int) aA=some r)∧Aside0 (kq≤k)∧Drawn0 w w')
 case atStart=>exact⟨_,_,fz,fz,H',lr,dz⟩
 case round =>
 obtain⟨aB,aA,rfl,rfl,⟨H⟩,aD,⟨m1,rfl⟩⟩:=hrel
 cases gk with
 |zero=>cases H
 |succ k1 =>
 simp only[x5.l0]at H
 revert H
 refine iD ?_ ?_<;>intro c2b0
 ·refine U9 fun c3b0=>U9 fun c4b0=>ia fun H'=>?_
  obtain⟨p271,q271,aE,rfl,aC⟩:=ai HR0.1 aA
  go_wp2
  go_roundg k1
  case measure=>exact lm aD
  case rel=>exact⟨_,_,fz,fz,H',la aD,dz⟩
 refine i1 ?_;rintro rfl
 go_wp2
 go_ret
 exact⟨fz,dz⟩
def L1.l0:Nat→Int→Int→Int→List (List Int)→Int→Int→Option (Int×Int×Bool)
 |0,_,_,_,_,_,_=>none
 |k+1,d,e,c,b,f,a=>if a<f then(if 0≤a then(if a< (b.length:Int)then((x5.f k (k9 b a)).bind fun g=>(L1.l0 k d e (wrap64 (c+ (Int.tmod g 2))) b f (wrap64 (a+1))))else(none))else(none))else((I9.f k d e).bind fun h=>(some (wrap64 (h - c),c,true)))
def L1.f (k:Nat)(a b:Int):Option (Int×Int×Bool):=(x1.f a b).bind fun d=>(if d=true then((L6.f k a b).bind fun c=>(L1.l0 k a b 0 c (c.length:Int) 0))else(some (0,0,false)))
theorem L1.calls (k a0 a1 r1 r2 r3 w):L1.f k a0 a1=some (r1,r2,r3)→
 Calls prog 139 #[.int .i64 a0,.int .i64 a1] w (pB w (.tuple #[.int .i64 r1,.int .i64 r2,.bool r3])):=by
 have HB:=bR w
 unfold L1.f
 refine ib fun t272 A3=>iB ?_ ?_<;>rintro rfl
 ·refine ib fun aC A5=>ia fun H'=>?_
  go_in
  go_wp2_with (first|((with_reducible refine ga 200 ?_);refine gp func200 (x1.calls a0 a1 true _ A3.1) fun nd=>?_)|((with_reducible refine ga 201 ?_);refine gs func201 (L6.calls k a0 a1 aC _ A5.1) ?_;rintro v274 w6 ⟨aY,hb⟩;have aM:=am (Kd.S_lower aY (C5 bz));replace HB:=bS hb;clear hb aY;obtain⟨Ao7,co7,rfl⟩:=Kd.S_slice aM.1))
  go_loopg [7,18] k (fun kq v7 v18 w'=>∃ (aN aA:Int),v7=.int .i64 aN∧v18=.int .i64 aA∧Aside0 (L1.l0 kq a0 a1 aN aC (aC.length:Int) aA=some (r1,r2,r3))∧Aside0 (kq≤k)∧Aside0 (Kd.S KS 22 w' w.heap.size (fun _=>True) (.slice Ao7 aC.length co7) aC)∧Aside0 (Below w.heap.size w w'))
  case atStart=>exact⟨_,_,fz,fz,H',lr,⟨rS aM⟩,⟨bz⟩⟩
  case round =>
  obtain⟨aN,aA,rfl,rfl,⟨H⟩,aZ,aD,HB⟩:=hrel
  cases gk with
  |zero=>cases H
  |succ k1 =>
  simp only[L1.l0]at H
  revert H
  refine iD ?_ ?_<;>intro c8b0
  ·refine U9 fun c9b0=>U9 fun bA=>ib fun aU A11=>ia fun H'=>?_
   have aF:0≤(aA:Int):=od
   have aG:aA< (aC.length:Int):=od
   obtain⟨bB,aO,aP,aV,aH,aI,aJ⟩:=Ai5 (Kd.S_reads' aD.1).2.2 aA aF aG
   cases aV
   obtain⟨bC,aW,aQ,aR⟩:=Kd.S_get aD.1 [] aA aF (by first|exact aG|exact od|(have e_:=(Kd.S_reads' aD.1).1;omega))
   obtain⟨aS,rfl,aE⟩:=aQ
   have aB:=aR 0 _ rfl
   rw[Nat.add_zero,show(KS).sz=1 from rfl,Nat.mul_one]at aB
   replace aB:=Option.some.inj (aB.symm.trans aH)
   rw[aB]at aE
   have aT:=am (show Kd.R KI 3 _ _ _ _ (k9 aC aA)from aE)
   have aK:=am aJ
   have aL:=am aI
   replace aF:=eq_true aF
   replace aG:=eq_true aG
   go_wp2_with ((with_reducible refine ga 202 ?_);refine gp func202 (x5.calls k1 aO aP (k9 aC aA) aU _ (cd aK) aL.1 A11.1) fun nd=>?_)
   go_roundg k1
   case measure=>exact lm aZ
   case rel=>exact⟨_,_,fz,fz,H',la aZ,⟨rS aD⟩,⟨bz⟩⟩
  refine ib fun aX A12=>i3 ?_;rintro rfl rfl rfl
  go_wp2_with ((with_reducible refine ga 203 ?_);refine gp func203 (I9.calls k1 a0 a1 aX _ A12.1) fun nd=>?_)
  go_ret3
  exact⟨fe,bz⟩
 refine i3 ?_;rintro rfl rfl rfl
 go_in
 go_wp2_with ((with_reducible refine ga 200 ?_);refine gp func200 (x1.calls a0 a1 false _ A3.1) fun nd=>?_)
 go_ret3
 exact⟨fe,bz⟩
mutual
def H6.l0:Nat→Int→Int→List Int→Int→Int→Option (Int)
 |0,_,_,_,_,_=>none
 |k+1,c,d,b,e,a=>if a<e then(if 0≤a then(if a< (b.length:Int)then(H6.l0 k c d (b.set (a:Int).toNat 1) e (wrap64 (a+1)))else(none))else(none))else(H6.l1 k c d b 1)
def H6.l1:Nat→Int→Int→List Int→Int→Option (Int)
 |0,_,_,_,_=>none
 |k+1,a,b,c,d=>if d≤b then(H6.l2 k a b c d (wrap64 ((wrap64 ((wrap64 (a+b)) - d))+1)) 0)else(if 0≤a then(if a< (c.length:Int)then(some (rd c a))else(none))else(none))
def H6.l2:Nat→Int→Int→List Int→Int→Int→Int→Option (Int)
 |0,_,_,_,_,_,_=>none
 |k+1,c,d,b,f,e,a=>if a<e then(if 0≤a then(if a< (b.length:Int)then(if 0≤(wrap64 (a+1))then(if(wrap64 (a+1))< (b.length:Int)then(H6.l2 k c d (b.set (a:Int).toNat (wrap64 ((wrap64 (a* (rd b a)))+ (rd b (wrap64 (a+1)))))) f e (wrap64 (a+1)))else(none))else(none))else(none))else(none))else(H6.l1 k c d b (wrap64 (f+1)))
end
def H6.f (k:Nat)(a b:Int):Option (Int):=if 0≤(wrap64 ((wrap64 (a+b))+1))then(if(wrap64 ((wrap64 (a+b))+1):Int).toNat≤35184372088832 then((some (List.replicate (wrap64 ((wrap64 (a+b))+1):Int).toNat 0:List Int)).bind fun c=>(H6.l0 k a b c (c.length:Int) 0))else(none))else(none)
def H6.T13:Bool×List (List Nat×List Nat):=(true,[([],[]),([],[]),([],[]),([],[]),([],[]),([3,4],[3,4]),([5],[5]),([2,6],[2,6]),([],[]),([],[]),([9],[9]),([8,10],[8,10]),([11],[11]),([7,12],[7,12]),([0,1,0,1,2,3,4,5,6,7,8,9,10,11,12,13],[0,1]),([14,13,0,1,2,3,4,5,6,7,8,9,10,11,12,13],[13,14])])
def H6.B13:List Nat:=[0,0,0,0,0,24,56,124,0,0,512,1792,3840,8188,16383,32767]
theorem H6.tab13:AA0 .any (AC6 f204 13)=H6.T13:=by kernel_rfl
theorem H6.bits13:l6 H6.T13.2 H6.B13=true:=by kernel_rfl
theorem H6.calls (k a0 a1 r w):H6.f k a0 a1=some r→
 Calls prog 204 #[.int .i64 a0,.int .i64 a1] w (pB w (.int .i64 r)):=by
 have HB:=bR w
 unfold H6.f
 intro H
 obtain⟨bK,aN⟩:=ex (wrap64 ((wrap64 (a0+a1))+1):Int)
 first|rw[aN]at H|simp only[aN]at H
 have cG:(IntKind.i64.wrap ((wrap64 (a0+a1))+1))=bK:=(P9 _).trans aN
 revert H
 refine if' fun c4b0 c4b1=>if' fun c5b0 c5b1=>iy fun aY aP=>ia fun H'=>?_
 go_in
 go_wp2_with ((with_reducible refine P8 (N:=13) rfl ?_);refine Kd.R_make KI _ 3 rfl (N:=13) rfl 22 _ _ rfl bK rfl rfl underlying22 (.int .i64 0) 8 J9 rfl (by decide) (by omega) 0 (ok:=fun _=>True) (okp:=fun _=>True) rfl (fun _ hk=>hk) trivial (od) (Nat.le_trans (Nat.mul_le_mul_right _ (od:bK.toNat≤35184372088832)) (by omega)) (Below.refl _ _) (Nat.le_refl _) ?_;intro v280 w6 aZ hb hg_ hnew_;clear hg_ hnew_;(first|rw[←aP.1]at aZ|(simp only[Int.reduceToNat]at aZ;rw[←aP.1]at aZ));have aQ:=am (Kd.R_lower aZ (C5 bz));replace HB:=bS hb;clear hb aZ;obtain⟨bL,bG,rfl⟩:=Kd.R_slice aQ.1)
 go_loopg [16] k (fun kq v16 w'=>∃ (aJ:List Int) (aC:Int),v16=.int .i64 aC∧Aside0 (H6.l0 kq a0 a1 aJ (aY.length:Int) aC=some r)∧Aside0 (kq≤k)∧Aside0 (Kd.R KI 3 w' w.heap.size (fun _=>True) (.slice bL aY.length bG) aJ)∧Aside0 (Below w.heap.size w w'))
 case atStart=>exact⟨_,_,fz,H',lr,⟨rR aQ⟩,⟨bz⟩⟩
 case round =>
 obtain⟨aJ,aC,rfl,⟨H⟩,aX,aA,HB⟩:=hrel
 have aD:=(Kd.R_reads' aA.1).1
 rw[aD]at aA
 (try simp only[aD])
 cases gk with
 |zero=>cases H
 |succ k1 =>
 simp only[H6.l0]at H
 revert H
 refine iD (fun bA=>?_) fun bA=>?_
 ·refine U9 fun cH=>U9 fun cI=>?_
  generalize aK:(aJ.set (aC:Int).toNat 1)=y282
  replace aK:=am aK.symm
  refine ia fun H'=>?_
  have bM:0≤(aC:Int):=od
  have bN:(aC:Int)< ((aJ.length:Int):Int):=od
  obtain⟨aR,co12,bO,bP,gl12,cl12,bQ⟩:=Kd.R_form aA.1 (by omega)
  cases bO
  have bT:=am bP
  have GG12:=am bQ
  obtain⟨bU,bV⟩:=Kd.R_celln 0 aA.1 (aC:Int) bM bN
  replace bM:=eq_true bM
  replace bN:=eq_true bN
  have aS:=Kd.R_putg aA.1 (aC:Int) 1
  go_wp2_with ((with_reducible refine gt 3 21 ?_);refine se 3 21 (wr.setCell ⟨aR,(aC:Int).toNat,none⟩ (.int .i64 1)) ?_;intro bW hw;have hg:wr.grownBy bW (some aR):=(by rw[hw];exact aS.2);have hp_:Kd.R KI 3 bW w.heap.size (fun _=>True) (.slice (some ⟨aR,0,none⟩) aJ.length bG) y282:=(by rw[hw,aK.1];exact aS.1);clear aS;replace aA:=am (hp_);replace HB:=am ((by rw[hw];exact S0 (HB.1) bT.1:Below w.heap.size w bW));clear hg hw hp_)
  (try simp only[←aD])
  go_roundg k1
  case measure=>exact lm aX
  case rel=>exact⟨_,_,fz,H',la aX,⟨rX aD aA⟩,⟨bz⟩⟩
 (try (have c9bn:decide (aC< (aJ.length:Int))=false:=by rw[←aD];exact bA))
 refine ia fun H'=>?_
 go_wp2
 go_loopg [7] k1 (fun kq v7 w'=>∃ (aO:List Int) (aL:Int),v7=.int .i64 aL∧Aside0 (H6.l1 kq a0 a1 aO aL=some r)∧Aside0 (kq≤k1)∧Aside0 (Kd.R KI 3 w' w.heap.size (fun _=>True) (.slice bL aJ.length bG) aO)∧Aside0 (Below w.heap.size w w'))
 case atStart=>exact⟨_,_,fz,H',lr,⟨rX aD aA⟩,⟨bz⟩⟩
 case round =>
 obtain⟨aO,aL,rfl,⟨H⟩,bH,aA,HB⟩:=hrel
 have aF:=(Kd.R_reads' aA.1).1
 rw[aF]at aA
 (try simp only[aF])
 cases gk with
 |zero=>cases H
 |succ k2 =>
 simp only[H6.l1]at H
 revert H
 refine iD ?_ ?_<;>intro cJ
 ·refine ia fun H'=>?_
  go_wp2
  go_loopg [34] k2 (fun kq v34 w'=>∃ (aE:List Int) (aB:Int),v34=.int .i64 aB∧Aside0 (H6.l2 kq a0 a1 aE aL (wrap64 ((wrap64 ((wrap64 (a0+a1)) - aL))+1)) aB=some r)∧Aside0 (kq≤k2)∧Aside0 (Kd.R KI 3 w' w.heap.size (fun _=>True) (.slice bL aO.length bG) aE)∧Aside0 (Below w.heap.size w w'))
  case atStart=>exact⟨_,_,fz,H',lr,⟨rY aD aF aA⟩,⟨bz⟩⟩
  case round =>
  obtain⟨aE,aB,rfl,⟨H⟩,bI,aA,HB⟩:=hrel
  have aG:=(Kd.R_reads' aA.1).1
  rw[aG]at aA
  (try simp only[aG])
  cases gk with
  |zero=>cases H
  |succ k3 =>
  simp only[H6.l2]at H
  revert H
  refine iD ?_ ?_<;>intro cK
  ·refine U9 fun cL=>U9 fun cM=>?_
   generalize hji19:(wrap64 (aB+1))=ji19
   have bX:=(P9 _).trans hji19
   refine U9 fun cN=>U9 fun cO=>?_
   generalize aM:(aE.set (aB:Int).toNat (wrap64 ((wrap64 (aB* (rd aE aB)))+ (rd aE (ji19)))))=y286
   replace aM:=am aM.symm
   refine ia fun H'=>?_
   try go_wp2
   replace aA:=am (Kd.R_drew aA.1)
   replace HB:=am (F8 HB.1)
   obtain⟨p284,q284,bB,rfl,aH⟩:=ai (Kd.R_reads' aA.1).2.2 aB
   have aT:0≤((ji19):Int):=od
   have aU:(ji19)< (aE.length:Int):=od
   obtain⟨bC,bY,aI⟩:=Kd.at_int (Kd.R_reads' aA.1).2.2 (ji19) aT aU
   obtain rfl:bB=bC:=(by injection bY)
   replace aT:=eq_true aT
   replace aU:=eq_true aU
   have bZ:0≤(aB:Int):=od
   have cA:(aB:Int)< ((aE.length:Int):Int):=od
   obtain⟨bD,co22,cB,cC,gl22,cl22,cD⟩:=Kd.R_form aA.1 (by omega)
   cases cB
   have cE:=am cC
   have cF:=am cD
   (first|simp only[k6]at aH|skip)
   (first|simp only[k6]at aI|skip)
   obtain⟨aV,aW⟩:=Kd.R_celln 0 aA.1 (aB:Int) bZ cA
   replace bZ:=eq_true bZ
   replace cA:=eq_true cA
   have bE:=Kd.R_putn aA.1 (aB:Int) (wrap64 ((wrap64 (aB* (rd aE aB)))+ (rd aE (ji19))))
   rw[←aM.1]at bE
   have bF:=am bE
   refine sq 16 (fun w'=>w'.cell? ⟨bD,(aB).toNat,none⟩=some (.int .i64 (rd aE aB))∧w'.cell? ⟨bD,((ji19)).toNat,none⟩=some (.int .i64 (rd aE (ji19)))) [15] H6.tab13 H6.bits13 ⟨aH,aI⟩ fun hHeld HT_ HW_=>?_
   generalize wr.drew=w23 at aA HB cF bF aW aV aH aI hHeld ⊢
   refine rg [0,1,2,3,4,5,8,9,10,11,6,7,12,13,14] ?_
   refine ls 15 ?_
   try go_wp2
   (try simp only[←aG])
   go_roundg k3
   case measure=>exact lx aX bH bI
   case rel=>exact⟨(y286),(ji19),(by first|rfl|(simp;done)|(simp only[←hji19]<;> (first|rfl|simp))|(simp[*];done)),H',ly aX bH bI,⟨by(try simp only[aD]);(try simp only[aF]);(try simp only[aG]);(with_reducible repeat(first|apply Kd.R_alloc|apply Kd.R_drewN|apply Kd.R_drew));exact bF.1⟩,⟨bs cE.1⟩⟩
  refine ia fun H'=>?_
  go_wp2
  (try simp only[←aF,←aG])
  go_roundg k3
  case measure=>exact lx aX bH bI
  case rel=>exact⟨_,_,fz,H',ly aX bH bI,⟨by(try simp only[aD]);(try simp only[aF]);(try simp only[aG]);(with_reducible repeat(first|apply Kd.R_alloc|apply Kd.R_drewN|apply Kd.R_drew));exact aA.1⟩,⟨bz⟩⟩
 refine U9 fun cP=>U9 fun cQ=>i1 ?_;rintro rfl
 obtain⟨p283,q283,cR,rfl,bJ⟩:=ai (Kd.R_reads' aA.1).2.2 a0
 go_wp2
 go_ret
 exact⟨by first|rfl|(simp[M7,M6]<;>rfl)|(simp only[←aN];first|rfl|(simp[M7,M6]<;>rfl))|(simp[*,M7,M6]<;>rfl),bz⟩
mutual
def J2.j0:Nat→Int→Int→Bool→Option (List Int×Bool)
 |0,_,_,_=>none
 |k+1,a,b,c=>if c=true then(some (([]:List Int),false))else(J2.l0 k a b (([]:List Int)) 0 a 0)
def J2.l0:Nat→Int→Int→List Int→Int→Int→Int→Option (List Int×Bool)
 |0,_,_,_,_,_,_=>none
 |k+1,e,c,f,a,g,d=>if d<g then((H6.f k a (wrap64 ((wrap64 (e - d)) - 1))).bind fun b=>(if b=0 then(none)else((H6.f k a (wrap64 ((wrap64 (e - d)) - 1))).bind fun h=>(if f.length<17592186044416 then(J2.l0 k e (wrap64 (c - (wrap64 ((mn a (wrap64 (Int.tdiv c b)))*h)))) (f++ [mn a (wrap64 (Int.tdiv c b))]) (mx a (wrap64 ((mn a (wrap64 (Int.tdiv c b)))+1))) g (wrap64 (d+1)))else(none)))))else(some (f,true))
end
def J2.f (k:Nat)(a b:Int):Option (List Int×Bool):=(E3.f a 1 12).bind fun c=>(if c=true then((H6.f k 0 a).bind fun d=>((E3.f b 0 (wrap64 (d - 1))).bind fun e=>(J2.j0 k a b (!e))))else(J2.j0 k a b true))
theorem J2.calls (k:Nat)(a0 a1:Int)(r1:List Int)(r2:Bool)(w:World)(h:J2.f k a0 a1=some (r1,r2)) :
 Calls prog 140 #[.int .i64 a0,.int .i64 a1] w (pT w KI 3 r1 r2):=by
 have HB:=am (Below.refl w.heap.size w)
 have H:=h
 unfold J2.f at H
 have HC3:=am H
 go_in
 go_upto_region 1 with(fail)
 go_cut [20] (fun v20 wc=>∃ (kq:Nat) (aJ:Bool),v20=.bool aJ∧Aside0 (J2.j0 kq a0 a1 aJ=some (r1,r2))∧Aside0 (kq≤k)∧Aside0 (Below w.heap.size w wc))
 case first =>
  have H:=HC3.1
  replace H:=bi H;obtain⟨t287,A4,H⟩:=H
  replace H:=jb H;rcases H with⟨rfl,H⟩|⟨rfl,H⟩
  ·replace H:=bi H;obtain⟨aT,A6,H⟩:=H
   replace H:=bi H;obtain⟨aU,A7,H⟩:=H
   have H':=am H
   go_wp2_with (first|((with_reducible refine J0 (f:=83) rfl ?_);refine gl' 11 func83 #[.int .i64 a0,.int .i64 1,.int .i64 12] ?_;(with_reducible refine(E3.calls a0 1 12 true _ A4.1).mono ?_);rintro e w' ⟨rfl,⟨nd,rfl⟩⟩;refine⟨_,rfl,?_⟩)|(go_at_call 204;(with_reducible refine(H6.calls k 0 a0 aT _ A6.1).mono ?_);rintro e w8 ⟨rfl,hb⟩;replace HB:=am (E8 bz hb);clear hb)|(go_at_call 83;(with_reducible refine(E3.calls a1 0 (wrap64 (aT - 1)) aU _ A7.1).mono ?_);rintro e w' ⟨rfl,⟨nd,rfl⟩⟩))
   go_meet
   case rel=>exact⟨_,(!aU),fz,H',lo,⟨bz⟩⟩
  have H':=am H
  go_wp2_with ((with_reducible refine J0 (f:=83) rfl ?_);refine gl' 11 func83 #[.int .i64 a0,.int .i64 1,.int .i64 12] ?_;(with_reducible refine(E3.calls a0 1 12 false _ A4.1).mono ?_);rintro e w' ⟨rfl,⟨nd,rfl⟩⟩;refine⟨_,rfl,?_⟩)
  go_meet
  case rel=>exact⟨_,(true),fz,H',lo,⟨bz⟩⟩
 case rest =>
 try clear c1
 try clear p2
 try clear c5
 try clear p6
 try clear c8
 obtain⟨kq,aJ,rfl,HA,bF,HB⟩:=hcut
 cases kq with
 |zero=>exact absurd HA.1 (by simp[J2.j0])
 |succ bG =>
 have H:=HA.1
 simp only[J2.j0]at H
 replace H:=jb H;rcases H with⟨rfl,H⟩|⟨rfl,H⟩
 ·replace H:=s2 H;obtain⟨rfl,rfl⟩:=H
  go_wp2
  go_ret2
  exact⟨_,fe,nz,bz⟩
 obtain⟨y290,aK⟩:=ey (([]:List Int):List Int)
 rw[←aK.1]at H
 have H':=am H
 go_wp2_with ((with_reducible refine P8 (N:=21) rfl ?_);refine Kd.R_lit KI _ 3 ?hg (N:=21) ?hd (xs:=([]:List Int)) (inner:=[]) (ok:=fun _=>True) (okp:=fun _=>True) ?hr ?hp (fun _ hk=>hk) trivial (Below.refl _ _) (Nat.le_refl _) (by simp) ?_;(case hd=>rfl);(case hg=>rfl);(case hr=>first|(go_simp;done)|(go_simp;rfl));(case hp=>exact(J7.none _ _));intro v291 w10 aM hb hg_ hnew_;clear hg_ hnew_;(first|rw[←aK.1]at aM|(simp only[Int.reduceToNat]at aM;rw[←aK.1]at aM));have aV:=am (Kd.R_lower aM (C5 bz));replace HB:=am (E8 bz hb);clear hb aM)
 go_loopg [1,6,7,23] bG (fun kq v1 v6 v7 v23 w'=>∃ (aH:Int) (aN:List Int) (aA aC:Int),v1=.int .i64 aH∧v7=.int .i64 aA∧v23=.int .i64 aC∧Aside0 (J2.l0 kq a0 aH aN aA a0 aC=some (r1,r2))∧Aside0 (kq≤bG)∧Aside0 (Kd.R KI 3 w' w.heap.size (fun _=>True) v6 aN)∧Aside0 (Below w.heap.size w w'))
 case atStart=>exact⟨_,_,_,_,fz,fz,fz,H',lr,⟨rR aV⟩,⟨bz⟩⟩
 case round =>
 try clear c1
 try clear p2
 try clear c5
 try clear p6
 try clear c8
 try clear c9
 try clear p2
 try clear p6
 obtain⟨aH,aN,aA,aC,rfl,rfl,rfl,HA,bH,aI,HB⟩:=hrel
 cases gk with
 |zero=>exact absurd HA.1 (by simp[J2.l0])
 |succ k2 =>
 have H:=HA.1
 simp only[J2.l0]at H
 revert H;refine io ?_ ?_<;>intro bI H
 ·have aW:=decide_eq_true bI
  replace H:=bi H;obtain⟨aQ,bB,H⟩:=H
  replace H:=je H;obtain⟨bJ,H⟩:=H
  have bK:=beq_eq_false_iff_ne.mpr bJ
  have bL:=bne_iff_ne.mpr bJ
  obtain⟨aE,aG⟩:=ex (mn aA (wrap64 (Int.tdiv aH aQ)):Int)
  first|rw[aG]at H|simp only[aG]at H
  (try rw[aG]at bB)
  have bC:(if(wrap64 (Int.tdiv aH aQ))<aA then(wrap64 (Int.tdiv aH aQ))else aA)=aE:=aG
  replace H:=bi H;obtain⟨aX,bM,H⟩:=H
  replace H:=jt H;obtain⟨c17,H⟩:=H
  have aY:=am c17
  obtain⟨bD,aR⟩:=ey (aN++ [aE]:List Int)
  rw[←aR.1]at H
  obtain⟨aZ,aD⟩:=ex (mx aA (wrap64 ((aE)+1)):Int)
  first|rw[aD]at H|simp only[aD]at H
  (try rw[aD]at bB)
  (try rw[aD]at bM)
  have bE:(if aA< (wrap64 ((aE)+1))then(wrap64 ((aE)+1))else aA)=aZ:=aD
  have H':=am H
  go_wp2_with (first|((with_reducible refine J0 (f:=204) rfl ?_);refine gl' 33 func204 #[.int .i64 aA,.int .i64 (wrap64 ((wrap64 (a0 - aC)) - 1))] ?_;(with_reducible refine(H6.calls k2 aA (wrap64 ((wrap64 (a0 - aC)) - 1)) aQ _ bB.1).mono ?_);rintro e w19 ⟨rfl,hb⟩;refine⟨_,rfl,?_⟩;replace aI:=am (Kd.R_below (rR aI) hb);replace HB:=am (E8 bz hb);clear hb)|((with_reducible refine J0 (f:=204) rfl ?_);refine gl' 43 func204 #[.int .i64 aA,.int .i64 (wrap64 ((wrap64 (a0 - aC)) - 1))] ?_;(with_reducible refine(H6.calls k2 aA (wrap64 ((wrap64 (a0 - aC)) - 1)) aX _ bM.1).mono ?_);rintro e w20 ⟨rfl,hb⟩;refine⟨_,rfl,?_⟩;replace aI:=am (Kd.R_below (rR aI) hb);replace HB:=am (E8 bz hb);clear hb)|((with_reducible refine Y1 (b:=.append) (xs:=#[.tmp 46,.tmp 48]) rfl ?_);at_builtin;refine Kd.R_append KI (w0:=w) w.heap.size rfl (.tmp 46) (.tmp 48) 22 3 (.int .i64 0) 8 rfl underlying22 J9 rfl (by decide) (by omega) u6 aN aE [.int .i64 aE] (fun _=>True) (fun _=>False) rfl rfl ?aP (fun _ hk=>hk.elim) ?aF ?aO ?aB ?aS ?aL ?_;(case aP=>exact rfl);(case aB=>exact bz);(case aF=>exact(fun _ _=>trivial));(case aO=>exact(rR aI));(case aS=>exact(C5 bz));(case aL=>have:=aY.1;omega);intro v296 w21 ho hb hg hat;rw[←aR.1]at ho;replace HB:=am (hb);have bA:=am (ho);clear aI ho hb hg hat))
  go_roundg k2
  case measure=>exact lu bF bH
  case rel=>exact⟨(wrap64 (aH - (wrap64 ((aE)*aX)))),(bD),(aZ),(wrap64 (aC+1)),(by first|rfl|(simp;done)|(simp only[←aG]<;> (first|rfl|simp))|(simp[*];done)),(by first|rfl|(simp;done)|(simp only[←aD]<;> (first|rfl|simp))|(simp[*];done)),fz,H',lv bF bH,⟨rR bA⟩,⟨bz⟩⟩
 have aW:=decide_eq_false bI
 replace H:=s2 H;obtain⟨rfl,rfl⟩:=H
 go_wp2
 go_ret2
 exact⟨_,fe,rR aI,bz⟩
end Go.Proofs.YtpiogigidgejpaaGreatDoor.PFnExactStepLine
