import Derived.Test.YtpiogigidgejpaaGreatDoorPFnExactStepLinex10
namespace Go.Proofs.YtpiogigidgejpaaGreatDoor.PFnExactStepLine
open Go.RowKit Go.Proofs.YtpiogigidgejpaaGreatDoorW.PrintWords Go.Proofs.YtpiogigidgejpaaGreatDoorW.PrintLast Go.Proofs.YtpiogigidgejpaaGreatDoorW.PrintMore Go.Proofs.YtpiogigidgejpaaGreatDoor.Sq Tryz
attribute [local go_sem] g8 g9 s8 q8 Y0 X9 b8 e6
set_option maxHeartbeats 8000000
set_option maxRecDepth 100000
set_option linter.unusedVariables false
set_option linter.unusedSimpArgs false
mutual
def H4.l0:Nat→List Int→List Int→Int→Int→Int→Int→Option (List Int)
 |0,_,_,_,_,_,_=>none
 |k+1,c,d,a,e,b,f=>if a<b then(if 0≤(wrap64 ((wrap64 (b - 1)) - a))then(if(wrap64 ((wrap64 (b - 1)) - a))< (c.length:Int)then(if 0≤a then(if a< (d.length:Int)then(H4.l0 k c (d.set (a:Int).toNat (rd c (wrap64 ((wrap64 (b - 1)) - a)))) (wrap64 (a+1)) e b f)else(none))else(none))else(none))else(none))else(some d)
def H4.l1:Nat→List Int→List Int→Int→Int→Int→Int→Option (List Int)
 |0,_,_,_,_,_,_=>none
 |k+1,c,d,a,e,b,f=>if a<b then(if b=0 then(none)else(if 0≤(Int.tmod (wrap64 (a+1)) b)then(if(Int.tmod (wrap64 (a+1)) b)< (c.length:Int)then(if 0≤a then(if a< (d.length:Int)then(H4.l1 k c (d.set (a:Int).toNat (rd c (Int.tmod (wrap64 (a+1)) b))) (wrap64 (a+1)) e b f)else(none))else(none))else(none))else(none)))else(some d)
end
def H4.f (k:Nat)(c:List Int)(e a b:Int):Option (List Int):=(Q3.f c).bind fun d=>(if e=0 then(if 0≤b then(if b< (c.length:Int)then(if 0≤a then(if a< (d.length:Int)then(if a< (c.length:Int)then(if b< (d.length:Int)then(some ((d.set (a:Int).toNat (rd c b)).set (b:Int).toNat (rd c a)))else(none))else(none))else(none))else(none))else(none))else(none))else(if e=1 then(H4.l0 k c d 0 e a b)else(H4.l1 k c d 0 e a b)))
def H4.T8:Bool×List (List Nat×List Nat):=(true,[([],[]),([],[]),([1],[1]),([],[]),([],[]),([4],[4]),([3,5],[3,5]),([6],[6]),([0,2,0,1,2,3,4,5,6,7],[0,2]),([8,7,0,1,2,3,4,5,6,7],[7,8])])
def H4.B8:List Nat:=[0,0,2,0,0,16,56,120,255,511]
theorem H4.tab8:AA0 .any (AC6 f223 8)=H4.T8:=by kernel_rfl
theorem H4.bits8:l6 H4.T8.2 H4.B8=true:=by kernel_rfl
theorem H4.tab9:AA0 .any (AC6 f223 9)=H4.T8:=by kernel_rfl
theorem H4.calls (k A0 c0 l0 a1_0 a1_1 a1_2 r w):Kd.C KI w A0 l0.length l0→l0.length≤c0→H4.f k l0 a1_0 a1_1 a1_2=some r→
 Calls prog 223 #[.slice A0 l0.length c0,.agg #[.int .i64 a1_0,.int .i64 a1_1,.int .i64 a1_2]] w (pR w KI 3 r):=by
 have eN:=underlying103
 have HB:=bR w
 refine pa fun aX dL=>?_
 unfold H4.f
 refine ib fun aK A3=>iE (fun dM dN=>?_) fun c4 dM dN=>?_
 ·refine U9 fun c5b0=>U9 fun c6b0=>U9 fun c7b0=>U9 fun c8b0=>?_
  generalize aN:(aK.set (a1_1:Int).toNat (rd l0 a1_2))=y762
  replace aN:=am aN.symm
  refine U9 fun eO=>U9 fun eP=>?_
  generalize aO:(y762.set (a1_2:Int).toNat (rd l0 a1_1))=y764
  replace aO:=am aO.symm
  refine i1 ?_;rintro rfl
  go_in
  try go_wp2_with (first|((with_reducible refine gd 3 ?_);refine be #[.int .i64 a1_0,.int .i64 a1_1,.int .i64 a1_2] 103 bz ?_;clear HB;intro aC w13 aA aV aD HB)|((with_reducible refine ga 48 ?_);refine gs func48 (Q3.calls A0 c0 l0 aK _ (M8 (Kd.C_below aX.1 HB.1)) dL.1 A3.1) ?_;rintro aS w14 ⟨aW,hb⟩;have aB:=am (Kd.R_lower aW (C5 (bs aD.1)));replace aA:=am (Y2 (g:=aC) (o:=.cells #[.int .i64 a1_0,.int .i64 a1_1,.int .i64 a1_2] 103 (0,0)) (bk aA) hb);replace HB:=am (E8 (bs aD.1) hb);clear hb aW;have bV:=bq aA 0 (.int .i64 a1_0);have bW:=bq aA 1 (.int .i64 a1_1);have bX:=bq aA 2 (.int .i64 a1_2);have bY:=C9 aA.1 0;have bZ:=C9 aA.1 1;have cA:=C9 aA.1 2))
  replace aB:=am (Kd.R_drew aB.1)
  replace aA:=am (m4 aA.1)
  replace HB:=am (F8 HB.1)
  have aY:0≤(a1_2:Int):=od
  have aZ:a1_2< (l0.length:Int):=od
  obtain⟨aP,dO,aG⟩:=Kd.at_int aX.1 a1_2 aY aZ
  have aT:=aG
  cases dO
  replace aG:=cl aG
  replace aY:=eq_true aY
  replace aZ:=eq_true aZ
  have p9:0≤(a1_1:Int):=od
  have q9:(a1_1:Int)< ((aK.length:Int):Int):=od
  obtain⟨bJ,co9,eo9,gb9,gl9,cl9,HG9⟩:=Kd.R_form aB.1 (by omega)
  cases eo9
  have eQ:=am gb9
  have GG9:=am HG9
  obtain⟨bK,bL⟩:=Kd.R_celln 0 aB.1 (a1_1:Int) p9 q9
  replace p9:=eq_true p9
  replace q9:=eq_true q9
  have bM:=Kd.R_putn aB.1 (a1_1:Int) (rd l0 a1_2)
  rw[←aN.1]at bM
  have bA:=am bM
  refine sq 10 (fun w'=>w'.cell? ⟨aC,0,none⟩=some (.int .i64 a1_0)∧w'.cell? ⟨aC,1,none⟩=some (.int .i64 a1_1)∧w'.cell? ⟨aC,2,none⟩=some (.int .i64 a1_2)∧w'.cell? (aP.add (a1_2).toNat)=some (.int .i64 (rd l0 a1_2))) [9] H4.tab8 H4.bits8 ⟨(I5 aA.1 0).trans rfl,(I5 aA.1 1).trans rfl,(I5 aA.1 2).trans rfl,(cz aT)⟩ fun hHeld HT_ HW_=>?_
  generalize w14.drew=w16 at aB aA HB GG9 bA bL aG bK hHeld ⊢
  refine rg [0,1,3,4,2,5,6,7,8] ?_
  refine ls 9 ?_
  try go_wp2
  have eR:Aside0 (Kd.R KI 3 (w16.setCell ⟨bJ,(a1_1:Int).toNat,none⟩ (.int .i64 (rd l0 a1_2))) w.heap.size (fun _=>True) (.slice (some ⟨bJ,0,none⟩) aK.length co9) y762):=⟨rR bA⟩
  have eS:Aside0 ((w16.setCell ⟨bJ,(a1_1:Int).toNat,none⟩ (.int .i64 (rd l0 a1_2))).heap[aC]? =some (.cells #[.int .i64 a1_0,.int .i64 a1_1,.int .i64 a1_2] 103 (0,0))):=⟨by(with_reducible repeat(first|refine AG2 ?_ _|refine m4 ?_|refine Aa2 ?_ _));refine AG3 ?_ (by have h_:=Kd.R_ne aB.1 aA.1 (by decide);intro e_;exact h_ (by rw[e_];rfl)) _;(with_reducible repeat(first|refine AG2 ?_ _|refine m4 ?_|refine Aa2 ?_ _));exact aA.1⟩
  have eU:Aside0 (Below w.heap.size w (w16.setCell ⟨bJ,(a1_1:Int).toNat,none⟩ (.int .i64 (rd l0 a1_2)))):=⟨by repeat(first|(with_reducible first|exact HB.1|apply R2|apply J8|apply F8|refine S0 ?_ eQ.1|refine S0 ?_ aD.1)|exact HB.1)⟩
  generalize (w16.setCell ⟨bJ,(a1_1:Int).toNat,none⟩ (.int .i64 (rd l0 a1_2)))=w18 at eR eS eU ⊢
  have aB:=eR
  have aA:=eS
  have HB:=eU
  replace aB:=am (Kd.R_drew aB.1)
  replace aA:=am (m4 aA.1)
  replace HB:=am (F8 HB.1)
  have bB:0≤(a1_1:Int):=od
  have bC:a1_1< (l0.length:Int):=od
  obtain⟨bN,dP,aH⟩:=Kd.at_int aX.1 a1_1 bB bC
  have aU:=aH
  obtain rfl:aP=bN:=(by injection dP)
  replace aH:=cl aH
  replace bB:=eq_true bB
  replace bC:=eq_true bC
  have dQ:0≤(a1_2:Int):=od
  have dR:(a1_2:Int)< ((aK.length:Int):Int):=od
  obtain⟨bD,bE⟩:=Kd.R_celln 0 aB.1 (a1_2:Int) dQ dR
  replace dQ:=eq_true dQ
  replace dR:=eq_true dR
  have bO:=Kd.R_putn aB.1 (a1_2:Int) (rd l0 a1_1)
  rw[←aO.1]at bO
  have bP:=am bO
  refine sq 10 (fun w'=>w'.cell? ⟨aC,0,none⟩=some (.int .i64 a1_0)∧w'.cell? ⟨aC,1,none⟩=some (.int .i64 a1_1)∧w'.cell? ⟨aC,2,none⟩=some (.int .i64 a1_2)∧w'.cell? (aP.add (a1_1).toNat)=some (.int .i64 (rd l0 a1_1))) [9] H4.tab9 H4.bits8 ⟨(I5 aA.1 0).trans rfl,(I5 aA.1 1).trans rfl,(I5 aA.1 2).trans rfl,(cz aU)⟩ fun hHeld HT_ HW_=>?_
  generalize w18.drew=w19 at aB aA HB bA bP bE bD aH hHeld ⊢
  refine rg [0,1,3,4,2,5,6,7,8] ?_
  refine ls 9 ?_
  try go_wp2
  go_ret
  exact⟨_,fe,rR bP,by repeat(first|(with_reducible first|exact HB.1|apply R2|apply J8|apply F8|refine S0 ?_ eQ.1|refine S0 ?_ aD.1)|exact HB.1)⟩
 refine iE (fun bQ bT=>?_) fun c21 bQ bT=>?_
 ·refine ia fun H'=>?_
  go_in
  go_wp2_with (first|((with_reducible refine gd 3 ?_);refine be #[.int .i64 a1_0,.int .i64 a1_1,.int .i64 a1_2] 103 bz ?_;clear HB;intro aC w22 aA aV aD HB)|((with_reducible refine ga 48 ?_);refine gs func48 (Q3.calls A0 c0 l0 aK _ (M8 (Kd.C_below aX.1 HB.1)) dL.1 A3.1) ?_;rintro aS w23 ⟨aW,hb⟩;have aB:=am (Kd.R_lower aW (C5 (bs aD.1)));replace aA:=am (Y2 (g:=aC) (o:=.cells #[.int .i64 a1_0,.int .i64 a1_1,.int .i64 a1_2] 103 (0,0)) (bk aA) hb);replace HB:=am (E8 (bs aD.1) hb);clear hb aW;have cB:=bq aA 0 (.int .i64 a1_0);have cC:=bq aA 1 (.int .i64 a1_1);have cD:=bq aA 2 (.int .i64 a1_2);have cE:=C9 aA.1 0;have cF:=C9 aA.1 1;have cG:=C9 aA.1 2))
  go_loopg [6] k (fun kq v6 w'=>∃ (aF:List Int) (aI:Int),v6=.int .i64 aI∧Aside0 (H4.l0 kq l0 aF aI a1_0 a1_1 a1_2=some r)∧Aside0 (kq≤k)∧Aside0 (Kd.R KI 3 w' w.heap.size (fun _=>True) aS aF)∧Aside0 (w'.heap[aC]? =some (.cells #[.int .i64 a1_0,.int .i64 a1_1,.int .i64 a1_2] 103 (0,0)))∧Aside0 (Below w.heap.size w w'))
  case atStart=>exact⟨_,_,fz,H',lr,⟨rR aB⟩,⟨bk aA⟩,⟨bs aD.1⟩⟩
  case round =>
  obtain⟨aF,aI,rfl,⟨H⟩,bU,aE,aA,HB⟩:=hrel
  cases gk with
  |zero=>cases H
  |succ k1 =>
  simp only[H4.l0]at H
  revert H
  refine iD ?_ ?_<;>intro eV
  ·generalize hji26:(wrap64 ((wrap64 (a1_1 - 1)) - aI))=ji26
   have dS:=(P9 _).trans hji26
   refine U9 fun eW=>U9 fun eX=>U9 fun eY=>U9 fun eZ=>?_
   generalize aQ:(aF.set (aI:Int).toNat (rd l0 (ji26)))=y766
   replace aQ:=am aQ.symm
   refine ia fun H'=>?_
   have cH:=bq aA 0 (.int .i64 a1_0)
   have cI:=bq aA 1 (.int .i64 a1_1)
   have cJ:=bq aA 2 (.int .i64 a1_2)
   have cK:=C9 aA.1 0
   have cL:=C9 aA.1 1
   have cM:=C9 aA.1 2
   obtain⟨p765,q765,fA,rfl,aL⟩:=ai aX.1 (ji26)
   replace aL:=cl aL
   have dT:0≤(aI:Int):=od
   have dU:(aI:Int)< ((aF.length:Int):Int):=od
   obtain⟨bF,dV,dW,dX,gl31,cl31,dY⟩:=Kd.R_form aE.1 (by omega)
   cases dW
   have dZ:=am dX
   have GG31:=am dY
   obtain⟨eA,eB⟩:=Kd.R_celln 0 aE.1 (aI:Int) dT dU
   replace dT:=eq_true dT
   replace dU:=eq_true dU
   have bG:=Kd.R_putg aE.1 (aI:Int) (rd l0 (ji26))
   go_wp2_with ((with_reducible refine gt 3 67 ?_);refine se 3 67 (wr.setCell ⟨bF,(aI:Int).toNat,none⟩ (.int .i64 (rd l0 (ji26)))) ?_;intro eC hw;have hg:wr.grownBy eC (some bF):=(by rw[hw];exact bG.2);have hp_:Kd.R KI 3 eC w.heap.size (fun _=>True) (.slice (some ⟨bF,0,none⟩) aF.length dV) y766:=(by rw[hw,aQ.1];exact bG.1);clear bG;replace aA:=am (AL1 (g:=aC) (o:=.cells #[.int .i64 a1_0,.int .i64 a1_1,.int .i64 a1_2] 103 (0,0)) (bk aA) hg (Kd.R_ne aE.1 aA.1 (by decide)));replace aE:=am (hp_);replace HB:=am ((by rw[hw];exact S0 (HB.1) dZ.1:Below w.heap.size w eC));clear hg hw hp_)
   go_roundg k1
   case measure=>exact lm bU
   case rel=>exact⟨_,_,fz,H',la bU,⟨rR aE⟩,⟨bk aA⟩,⟨bs aD.1⟩⟩
  refine i1 ?_;rintro rfl
  have cN:=bq aA 0 (.int .i64 a1_0)
  have cO:=bq aA 1 (.int .i64 a1_1)
  have cP:=bq aA 2 (.int .i64 a1_2)
  have cQ:=C9 aA.1 0
  have cR:=C9 aA.1 1
  have cS:=C9 aA.1 2
  go_wp2
  go_ret
  exact⟨_,fe,rR aE,bs aD.1⟩
 refine ia fun H'=>?_
 go_in
 go_wp2_with (first|((with_reducible refine gd 3 ?_);refine be #[.int .i64 a1_0,.int .i64 a1_1,.int .i64 a1_2] 103 bz ?_;clear HB;intro aC w36 aA aV aD HB)|((with_reducible refine ga 48 ?_);refine gs func48 (Q3.calls A0 c0 l0 aK _ (M8 (Kd.C_below aX.1 HB.1)) dL.1 A3.1) ?_;rintro aS w37 ⟨aW,hb⟩;have aB:=am (Kd.R_lower aW (C5 (bs aD.1)));replace aA:=am (Y2 (g:=aC) (o:=.cells #[.int .i64 a1_0,.int .i64 a1_1,.int .i64 a1_2] 103 (0,0)) (bk aA) hb);replace HB:=am (E8 (bs aD.1) hb);clear hb aW;have cT:=bq aA 0 (.int .i64 a1_0);have cU:=bq aA 1 (.int .i64 a1_1);have cV:=bq aA 2 (.int .i64 a1_2);have cW:=C9 aA.1 0;have cX:=C9 aA.1 1;have cY:=C9 aA.1 2))
 go_loopg [7] k (fun kq v7 w'=>∃ (aF:List Int) (aJ:Int),v7=.int .i64 aJ∧Aside0 (H4.l1 kq l0 aF aJ a1_0 a1_1 a1_2=some r)∧Aside0 (kq≤k)∧Aside0 (Kd.R KI 3 w' w.heap.size (fun _=>True) aS aF)∧Aside0 (w'.heap[aC]? =some (.cells #[.int .i64 a1_0,.int .i64 a1_1,.int .i64 a1_2] 103 (0,0)))∧Aside0 (Below w.heap.size w w'))
 case atStart=>exact⟨_,_,fz,H',lr,⟨rR aB⟩,⟨bk aA⟩,⟨bs aD.1⟩⟩
 case round =>
 obtain⟨aF,aJ,rfl,⟨H⟩,bU,aE,aA,HB⟩:=hrel
 cases gk with
 |zero=>cases H
 |succ k1 =>
 simp only[H4.l1]at H
 revert H
 refine iD ?_ ?_<;>intro fB
 ·refine iN fun c40 fC fD=>?_
  generalize hji41:(Int.tmod (wrap64 (aJ+1)) a1_1)=ji41
  refine U9 fun fE=>U9 fun fF=>U9 fun fG=>U9 fun fH=>?_
  generalize aR:(aF.set (aJ:Int).toNat (rd l0 (ji41)))=y768
  replace aR:=am aR.symm
  refine ia fun H'=>?_
  have cZ:=bq aA 0 (.int .i64 a1_0)
  have dA:=bq aA 1 (.int .i64 a1_1)
  have dB:=bq aA 2 (.int .i64 a1_2)
  have dC:=C9 aA.1 0
  have dD:=C9 aA.1 1
  have dE:=C9 aA.1 2
  obtain⟨p767,q767,fI,rfl,aM⟩:=ai aX.1 (ji41)
  replace aM:=cl aM
  have eD:0≤(aJ:Int):=od
  have eE:(aJ:Int)< ((aF.length:Int):Int):=od
  obtain⟨bH,eF,eG,eH,gl46,cl46,eI⟩:=Kd.R_form aE.1 (by omega)
  cases eG
  have eJ:=am eH
  have GG46:=am eI
  obtain⟨eK,eL⟩:=Kd.R_celln 0 aE.1 (aJ:Int) eD eE
  replace eD:=eq_true eD
  replace eE:=eq_true eE
  have bI:=Kd.R_putg aE.1 (aJ:Int) (rd l0 (ji41))
  go_wp2_with ((with_reducible refine gt 3 28 ?_);refine se 3 28 (wr.setCell ⟨bH,(aJ:Int).toNat,none⟩ (.int .i64 (rd l0 (ji41)))) ?_;intro eM hw;have hg:wr.grownBy eM (some bH):=(by rw[hw];exact bI.2);have hp_:Kd.R KI 3 eM w.heap.size (fun _=>True) (.slice (some ⟨bH,0,none⟩) aF.length eF) y768:=(by rw[hw,aR.1];exact bI.1);clear bI;replace aA:=am (AL1 (g:=aC) (o:=.cells #[.int .i64 a1_0,.int .i64 a1_1,.int .i64 a1_2] 103 (0,0)) (bk aA) hg (Kd.R_ne aE.1 aA.1 (by decide)));replace aE:=am (hp_);replace HB:=am ((by rw[hw];exact S0 (HB.1) eJ.1:Below w.heap.size w eM));clear hg hw hp_)
  go_roundg k1
  case measure=>exact lm bU
  case rel=>exact⟨_,_,fz,H',la bU,⟨rR aE⟩,⟨bk aA⟩,⟨bs aD.1⟩⟩
 refine i1 ?_;rintro rfl
 have dF:=bq aA 0 (.int .i64 a1_0)
 have dG:=bq aA 1 (.int .i64 a1_1)
 have dH:=bq aA 2 (.int .i64 a1_2)
 have dI:=C9 aA.1 0
 have dJ:=C9 aA.1 1
 have dK:=C9 aA.1 2
 go_wp2
 go_ret
 exact⟨_,fe,rR aE,bs aD.1⟩
def V9.f (k:Nat)(a:List Int)(b c d:Int):Option (List Int×Bool):=(E0.f k a).bind fun e=>(if e=true then((AB2.f (a.length:Int) b c d).bind fun f=>(if f=true then((H4.f k a b c d).bind fun g=>(some (g,true)))else(some (([]:List Int),false))))else(some (([]:List Int),false)))
theorem V9.calls (k A0 c0 l0 a1_0 a1_1 a1_2 r1 r2 w):Kd.C KI w A0 l0.length l0→l0.length≤c0→V9.f k l0 a1_0 a1_1 a1_2=some (r1,r2)→
 Calls prog 149 #[.slice A0 l0.length c0,.agg #[.int .i64 a1_0,.int .i64 a1_1,.int .i64 a1_2]] w (pT w KI 3 r1 r2):=by
 have bA:=underlying103
 have HB:=bR w
 refine pa fun aF aG=>?_
 unfold V9.f
 refine ib fun t770 A3=>iB ?_ ?_<;>rintro rfl
 ·refine ib fun t771 A5=>iB ?_ ?_<;>rintro rfl
  ·refine ib fun aT A7=>i2 ?_;rintro rfl rfl
   go_in
   go_wp2_with (first|((with_reducible refine P8 (N:=3) rfl ?_);(try (refine V3 (by rfl) ?_;dsimp only));refine j6 ?hg (N:=3) ?hd (cs:=#[.int .i64 a1_0,.int .i64 a1_1,.int .i64 a1_2]) (t:=103) ?hr ?_;(case hd=>rfl);(case hg=>rfl);(case hr=>first|(go_simp;done)|(go_simp;rfl));intro aB hg w8 hbox hb;have aA:=am (hbox);have aD:=am ((by rw[hg];exact(C5 bz):w.heap.size≤aB));have aC:=am ((by rw[hg];exact(C5 bz):w.heap.size≤aB));replace HB:=bS hb;clear hb hbox hg)|((with_reducible refine ga 45 ?_);refine gp func45 (E0.calls k A0 c0 l0 true _ (M8 (Kd.C_below aF.1 HB.1)) aG.1 A3.1) fun nd=>?_;have aU:=bq aA 0 (.int .i64 a1_0);have aV:=bq aA 1 (.int .i64 a1_1);have aW:=bq aA 2 (.int .i64 a1_2);have aX:=C9 aA.1 0;have aY:=C9 aA.1 1;have aZ:=C9 aA.1 2)|(go_at_call 222;(with_reducible refine(AB2.calls (l0.length:Int) a1_0 a1_1 a1_2 true _ A5.1).mono ?_);rintro e w10 ⟨rfl,hb⟩;replace aA:=am (Y2 (g:=aB) (o:=.cells #[.int .i64 a1_0,.int .i64 a1_1,.int .i64 a1_2] 103 (0,0)) (bk aA) hb);replace HB:=am (E8 (bs aC.1) hb);clear hb;have aH:=bq aA 0 (.int .i64 a1_0);have aI:=bq aA 1 (.int .i64 a1_1);have aJ:=bq aA 2 (.int .i64 a1_2);have aK:=C9 aA.1 0;have aL:=C9 aA.1 1;have aM:=C9 aA.1 2)|((with_reducible refine ga 223 ?_);refine gs func223 (H4.calls k A0 c0 l0 a1_0 a1_1 a1_2 aT _ (M8 (Kd.C_below aF.1 HB.1)) aG.1 A7.1) ?_;rintro v773 w12 ⟨bB,hb⟩;have aE:=am (Kd.R_lower bB (C5 (bs aC.1)));replace aA:=am (Y2 (g:=aB) (o:=.cells #[.int .i64 a1_0,.int .i64 a1_1,.int .i64 a1_2] 103 (0,0)) (bk aA) hb);replace HB:=am (E8 (bs aC.1) hb);clear hb bB))
   go_ret2
   exact⟨_,fe,rR aE,bs aC.1⟩
  refine i2 ?_;rintro rfl rfl
  go_in
  go_wp2_with (first|((with_reducible refine P8 (N:=3) rfl ?_);(try (refine V3 (by rfl) ?_;dsimp only));refine j6 ?hg (N:=3) ?hd (cs:=#[.int .i64 a1_0,.int .i64 a1_1,.int .i64 a1_2]) (t:=103) ?hr ?_;(case hd=>rfl);(case hg=>rfl);(case hr=>first|(go_simp;done)|(go_simp;rfl));intro aB hg w13 hbox hb;have aA:=am (hbox);have aD:=am ((by rw[hg];exact(C5 bz):w.heap.size≤aB));have aC:=am ((by rw[hg];exact(C5 bz):w.heap.size≤aB));replace HB:=bS hb;clear hb hbox hg)|((with_reducible refine ga 45 ?_);refine gp func45 (E0.calls k A0 c0 l0 true _ (M8 (Kd.C_below aF.1 HB.1)) aG.1 A3.1) fun nd=>?_;have aN:=bq aA 0 (.int .i64 a1_0);have aO:=bq aA 1 (.int .i64 a1_1);have aP:=bq aA 2 (.int .i64 a1_2);have aQ:=C9 aA.1 0;have aR:=C9 aA.1 1;have aS:=C9 aA.1 2)|(go_at_call 222;(with_reducible refine(AB2.calls (l0.length:Int) a1_0 a1_1 a1_2 false _ A5.1).mono ?_);rintro e w15 ⟨rfl,hb⟩;replace aA:=am (Y2 (g:=aB) (o:=.cells #[.int .i64 a1_0,.int .i64 a1_1,.int .i64 a1_2] 103 (0,0)) (bk aA) hb);replace HB:=am (E8 (bs aC.1) hb);clear hb))
  go_ret2
  exact⟨_,fe,nz,bs aC.1⟩
 refine i2 ?_;rintro rfl rfl
 go_in
 go_wp2_with (first|((with_reducible refine P8 (N:=3) rfl ?_);(try (refine V3 (by rfl) ?_;dsimp only));refine j6 ?hg (N:=3) ?hd (cs:=#[.int .i64 a1_0,.int .i64 a1_1,.int .i64 a1_2]) (t:=103) ?hr ?_;(case hd=>rfl);(case hg=>rfl);(case hr=>first|(go_simp;done)|(go_simp;rfl));intro aB hg w16 hbox hb;have aA:=am (hbox);have aD:=am ((by rw[hg];exact(C5 bz):w.heap.size≤aB));have aC:=am ((by rw[hg];exact(C5 bz):w.heap.size≤aB));replace HB:=bS hb;clear hb hbox hg)|((with_reducible refine ga 45 ?_);refine gp func45 (E0.calls k A0 c0 l0 false _ (M8 (Kd.C_below aF.1 HB.1)) aG.1 A3.1) fun nd=>?_))
 go_ret2
 exact⟨_,fe,nz,bs aC.1⟩
def K3.f (k:Nat) (x y z:List Int)(a:ByteArray):Option (ByteArray×List Int):=if a.toList=([116,97,107,101]:List UInt8)then((E0.f k y).bind fun b=>some (H5.f x y b (⟨#[111,107]⟩:ByteArray)))else(if a.toList=([110,101,120,116]:List UInt8)then((V2.f k x).bind fun t=>some (H5.f x t.1 t.2 (⟨#[111,107]⟩:ByteArray)))else(if a.toList=([116,114,111,116]:List UInt8)then((Q4.f k x).bind fun t=>((O5.f k t.2.1).bind fun s=>some (H5.f x t.1 t.2.2 s)))else(if 1≤z.length then(if a.toList=([115,119,97,112]:List UInt8)then(if 2≤z.length then((V9.f k x 0 (rd z 0) (rd z 1)).bind fun t=>some (H5.f x t.1 t.2 (⟨#[111,107]⟩:ByteArray)))else none)else(if a.toList=([114,101,118,101,114,115,101]:List UInt8)then((V9.f k x 1 (rd z 0) 0).bind fun t=>some (H5.f x t.1 t.2 (⟨#[111,107]⟩:ByteArray)))else((V9.f k x 2 (rd z 0) 0).bind fun t=>some (H5.f x t.1 t.2 (⟨#[111,107]⟩:ByteArray)))))else none)))
theorem K3.calls (k g:Nat) (x y z:List Int)(a r1:ByteArray)(r2:List Int)(B:Nat)(w:World)(hco:H2.Co w g x y z)(hB:B≤g)(h:K3.f k x y z a=some (r1,r2)) :
 Calls prog 105 #[.pointer (some ⟨g,0,none⟩),.string a] w fun e w'=>e=.returned (.string r1)∧H2.Co w' g r2 y z∧Below B w w':=by
 have HCO:=am hco
 have HB:Aside0 (Below B w w):=am (Below.refl _ _)
 have hu_:=underlying86
 obtain⟨A0,c0,A1,c1,A2,c2,h1,h2,h3,h4⟩:=hco
 have HBL:Aside0 (B≤w.heap.size):=am (Nat.le_trans hB (Nat.le_of_lt (AT9 h1)))
 have HX:=am h2
 have HY:=am h3
 have HZ:=am h4
 clear h2 h3 h4
 have H:=h
 clear h
 unfold K3.f at H
 revert H;refine io ?_ ?_<;>intro aN H
 ·have c1b:=beq_iff_eq.mpr aN
  replace H:=bi H;obtain⟨b,A5,H⟩:=H
  have H:=Option.some.inj H
  have e1:r1=(H5.f x y b (⟨#[111,107]⟩:ByteArray)).1:=by rw[H]
  have e2:r2=(H5.f x y b (⟨#[111,107]⟩:ByteArray)).2:=by rw[H]
  subst e1
  subst e2
  clear H
  have aK:w.drew.cell? ⟨g,1,none⟩=some (.slice A1 y.length c1):=(I5 h1 1).trans rfl
  go_in
  try go_wp2
  replace HCO:=am (HCO.1.below (o6 (Below.refl _ _)))
  replace HY:Aside0 (Kd.C KI w.drew A1 y.length y∧y.length≤c1):=am ⟨Kd.C_drew HY.1.1,HY.1.2⟩
  replace HB:=am (HB.1.trans (o6 (Below.refl _ _)))
  refine sr 12 (fun w'=>w'.cell? ⟨g,1,none⟩=some (.slice A1 y.length c1)) [10] aK fun hHeld=>?_
  generalize w.drew=w1 at HCO HB HY aK hHeld ⊢
  refine rg [0,1,2,3,4,5,6,7,8] ?_
  refine AD4 (i:=9) (N:=some 25) (lb 12 1023) rfl rfl (by kernel_rfl) (by decide) (fun K hK=>?_)
  refine gs' func45 #[.slice A1 y.length c1] ?_
  with_reducible refine(E0.calls k _ _ y b _ ?side1 ?side2 A5.1).mono ?_
  case side1=>exact HY.1.1
  case side2=>exact HY.1.2
  rintro e w' ⟨rfl,⟨nd,rfl⟩⟩
  refine⟨_,rfl,?_⟩
  refine hK.out _ _ hHeld (fun hHeld=>?_)
  clear hK K
  refine nm 25 ?_
  refine ol 10 func146 (H5.calls g x y z y A1 c1 b (⟨#[111,107]⟩:ByteArray) B _ (HCO.1.below (J8 (Below.refl _ _) nd)) (Kd.C_drewN HY.1.1 nd) HY.1.2 hB) ?_
  rintro e w9 ⟨rfl,aA,aF⟩
  refine⟨_,rfl,nm 26 ?_⟩
  refine pw 11 ?_
  refine dn ?_
  go_wp2
  go_ret
  exact⟨rfl,aA,HB.1.trans ((J8 (Below.refl _ _) nd).trans aF)⟩
 have c1b:=beq_eq_false_iff_ne.mpr aN
 have aB:w.cell? ⟨g,0,none⟩=some (.slice A0 x.length c0):=(I5 h1 0).trans rfl
 revert H;refine io ?_ ?_<;>intro aO H
 ·have c2b:=beq_iff_eq.mpr aO
  replace H:=bi H;obtain⟨⟨t1,t2⟩,A5,H⟩:=H
  have H:=Option.some.inj H
  have e1:r1=(H5.f x t1 t2 (⟨#[111,107]⟩:ByteArray)).1:=by rw[H]
  have e2:r2=(H5.f x t1 t2 (⟨#[111,107]⟩:ByteArray)).2:=by rw[H]
  subst e1
  subst e2
  clear H
  clear h1
  go_in
  go_wp2_with (first|((with_reducible refine ga 147 ?_);refine gs func147 (V2.calls k A0 c0 x t1 t2 _ HX.1.1 HX.1.2 A5.1) ?_;rintro v2 w2 ⟨ho,hb⟩;replace HCO:=am (HCO.1.below hb);replace HB:=am (HB.1.trans (hb.mono HBL.1));have HO:=am ho;clear ho hb;obtain⟨Ao,co,rfl⟩:=Kd.R_slice HO.1)|((with_reducible refine ga 146 ?_);refine ge func146 (H5.calls g x y z t1 Ao co t2 (⟨#[111,107]⟩:ByteArray) B _ HCO.1 (Kd.R_reads' HO.1).2.2 (Kd.R_reads' HO.1).2.1 hB) ?_;rintro w9 ⟨aA,aF⟩;replace HCO:=am aA;replace HB:=am (HB.1.trans aF);clear aA aF))
  go_ret
  exact⟨rfl,HCO.1,HB.1⟩
 have c2b:=beq_eq_false_iff_ne.mpr aO
 revert H;refine io ?_ ?_<;>intro aP H
 ·have c3b:=beq_iff_eq.mpr aP
  replace H:=bi H;obtain⟨⟨t1,t2,t3⟩,A5,H⟩:=H
  replace H:=bi H;obtain⟨s,A6,H⟩:=H
  have H:=Option.some.inj H
  have e1:r1=(H5.f x t1 t3 s).1:=by rw[H]
  have e2:r2=(H5.f x t1 t3 s).2:=by rw[H]
  subst e1
  subst e2
  clear H
  clear h1
  go_in
  go_wp2_with (first|((with_reducible refine ga 148 ?_);refine gs func148 (Q4.calls k A0 c0 x t1 t2 t3 _ HX.1.1 HX.1.2 A5.1) ?_;rintro v2 w2 ⟨ho,hb⟩;replace HCO:=am (HCO.1.below hb);replace HB:=am (HB.1.trans (hb.mono HBL.1));have HO:=am ho;clear ho hb;obtain⟨Ao,co,rfl⟩:=Kd.R_slice HO.1)|((with_reducible refine ga 68 ?_);refine ge func68 (O5.calls k t2 s _ A6.1) ?_;rintro w3 hb;replace HCO:=am (HCO.1.below hb);replace HB:=am (HB.1.trans (hb.mono (Nat.le_trans HBL.1 HB.1.size)));replace HO:=am (Kd.R_below HO.1 hb);clear hb)|((with_reducible refine ga 146 ?_);refine ge func146 (H5.calls g x y z t1 Ao co t3 s B _ HCO.1 (Kd.R_reads' HO.1).2.2 (Kd.R_reads' HO.1).2.1 hB) ?_;rintro w9 ⟨aA,aF⟩;replace HCO:=am aA;replace HB:=am (HB.1.trans aF);clear aA aF))
  go_ret
  exact⟨rfl,HCO.1,HB.1⟩
 have c3b:=beq_eq_false_iff_ne.mpr aP
 replace H:=jt H;obtain⟨dz,H⟩:=H
 have hm_:=underlying103
 have aG:w.cell? ⟨g,2,none⟩=some (.slice A2 z.length c2):=(I5 h1 2).trans rfl
 obtain⟨ad,ead,aL⟩:=H2.at0 HZ.1.1 (by omega)
 cases ead
 have q0:(0<z.length)=True:=eq_true (by omega)
 have q1:((0:Int)< (z.length:Int))=True:=eq_true (by omega)
 have aJ:=am aB
 have H':=am H
 clear H h1
 go_in
 go_upto_region 13 with(first|((with_reducible refine P8 (N:=10) rfl ?_);refine j6 ?hg (N:=10) ?hd (cs:=#[.int .i64 0,.int .i64 0,.int .i64 0]) (t:=103) ?hr ?_;(case hd=>rfl);(case hg=>rfl);(case hr=>first|(go_simp;done)|(go_simp;rfl));intro gm hg w2 hbox hb;have HGM:=am ((by rw[hg];exact HBL.1:B≤gm));have HGE:=am ((by rw[hg];exact Nat.le_refl _:w.heap.size≤gm));have HBW:=am hb;have BK:=am hbox;have aC:=bq BK 0 (.int .i64 0);have aE:=bq BK 1 (.int .i64 0);have aD:=bq BK 2 (.int .i64 0);have aH:=C9 BK.1 0;have aM:=C9 BK.1 1;have aI:=C9 BK.1 2;clear hb hbox hg))
 obtain⟨w3,hw3⟩:∃w3,w3=(((w2.setCell ⟨gm,0,none⟩ (.int .i64 0)).setCell ⟨gm,1,none⟩ (.int .i64 (rd z 0))).setCell ⟨gm,2,none⟩ (.int .i64 0)):=⟨_,rfl⟩
 rw[←hw3]
 replace BK:Aside0 (w3.heap[gm]? =some (.cells #[.int .i64 0,.int .i64 (rd z 0),.int .i64 0] 103 (0,0))):=⟨by rw[hw3];exact U2 (U2 (U2 BK.1 0 _) 1 _) 2 _⟩
 replace HBW:Aside0 (Below w.heap.size w w3):=⟨by rw[hw3];exact((HBW.1.setCell HGE.1 _).setCell HGE.1 _).setCell HGE.1 _⟩
 clear aC aE aD aH aM aI hw3 q0 q1
 have up:∀{p:Addr} {v:Value},w.cell? p=some v→w3.cell? p=some v:=fun h_=>(HBW.1.cell (World.block_lt_of_cell? w _ h_)).trans h_
 replace aB:=up aB
 replace aG:=up aG
 replace aL:=up aL
 have aC:=bq BK 0 (.int .i64 0)
 have aD:=bq BK 2 (.int .i64 0)
 have aH:=C9 BK.1 0
 have aI:=C9 BK.1 2
 have H:=H'.1
 revert H;refine io ?_ ?_<;>intro aQ H
 ·have c4b:=beq_iff_eq.mpr aQ
  replace H:=jt H;obtain⟨dz1,H⟩:=H
  have hx1:=H2.at1 (Kd.C_below HZ.1.1 HBW.1) (by omega)
  have q2:(1<z.length)=True:=eq_true (by omega)
  have q3:((1:Int)< (z.length:Int))=True:=eq_true (by omega)
  replace H:=bi H;obtain⟨⟨t1,t2⟩,A5,H⟩:=H
  have H:=Option.some.inj H
  have e1:r1=(H5.f x t1 t2 (⟨#[111,107]⟩:ByteArray)).1:=by rw[H]
  have e2:r2=(H5.f x t1 t2 (⟨#[111,107]⟩:ByteArray)).2:=by rw[H]
  subst e1
  subst e2
  clear H
  go_upto_region 17 with(fail)
  obtain⟨w4,hw4⟩:∃w4,w4=(w3.setCell ⟨gm,2,none⟩ (.int .i64 (rd z 1))):=⟨_,rfl⟩
  rw[←hw4]
  replace BK:Aside0 (w4.heap[gm]? =some (.cells #[.int .i64 0,.int .i64 (rd z 0),.int .i64 (rd z 1)] 103 (0,0))):=⟨by rw[hw4];exact U2 BK.1 2 _⟩
  replace HBW:Aside0 (Below w.heap.size w w4):=⟨by rw[hw4];exact HBW.1.setCell HGE.1 _⟩
  clear aB aG aL aC aD aH aI hw4 up
  skip
  have aB:w4.drew.cell? ⟨g,0,none⟩=some (.slice A0 x.length c0):=(HBW.1.cell (World.block_lt_of_cell? w _ aJ.1)).trans aJ.1
  have aC:w4.drew.cell? ⟨gm,0,none⟩=some (.int .i64 0):=(I5 BK.1 0).trans rfl
  have aE:w4.drew.cell? ⟨gm,1,none⟩=some (.int .i64 (rd z 0)):=(I5 BK.1 1).trans rfl
  have aD:w4.drew.cell? ⟨gm,2,none⟩=some (.int .i64 (rd z 1)):=(I5 BK.1 2).trans rfl
  replace HBW:=am (HBW.1.trans (o6 (Below.refl _ _)))
  refine sr 11 (fun w'=>w'.cell? ⟨g,0,none⟩=some (.slice A0 x.length c0)∧w'.cell? ⟨gm,0,none⟩=some (.int .i64 0)∧w'.cell? ⟨gm,1,none⟩=some (.int .i64 (rd z 0))∧w'.cell? ⟨gm,2,none⟩=some (.int .i64 (rd z 1))) [5] ⟨aB,aC,aE,aD⟩ fun hHeld=>?_
  generalize w4.drew=w5 at HBW aB aC aE aD hHeld ⊢
  refine rg [0,1,2,3,4] ?_
  refine AF0 (i:=5) (N:=some 85) (lb 11 63) rfl rfl (by kernel_rfl) (by decide) (fun K hK=>?_)
  refine gs' func149 #[.slice A0 x.length c0,.agg #[.int .i64 0,.int .i64 (rd z 0),.int .i64 (rd z 1)]] ?_
  with_reducible refine(V9.calls k _ _ x 0 (rd z 0) (rd z 1) t1 t2 _ ?side1 ?side2 A5.1).mono ?_
  case side1=>exact Kd.C_below HX.1.1 HBW.1
  case side2=>exact HX.1.2
  rintro e w6 ⟨v6,rfl,ho,hb⟩
  refine⟨_,rfl,?_⟩
  have HO:=am ho
  replace HCO:=am (HCO.1.below (E8 HBW.1 hb))
  replace HB:=am (HB.1.trans ((E8 HBW.1 hb).mono HBL.1))
  clear ho hb
  obtain⟨Ao,co,rfl⟩:=Kd.R_slice HO.1
  refine hK.out _ _ ?_
  clear hK K
  refine nm 85 ?_
  refine rg [6,7,8,9,10] ?_
  refine dn ?_
  go_wp2_with ((with_reducible refine ga 146 ?_);refine ge func146 (H5.calls g x y z t1 Ao co t2 (⟨#[111,107]⟩:ByteArray) B _ HCO.1 (Kd.R_reads' HO.1).2.2 (Kd.R_reads' HO.1).2.1 hB) ?_;rintro w9 ⟨aA,aF⟩;replace HCO:=am aA;replace HB:=am (HB.1.trans aF);clear aA aF)
  go_ret
  exact⟨rfl,HCO.1,HB.1⟩
 have c4b:=beq_eq_false_iff_ne.mpr aQ
 revert H;refine io ?_ ?_<;>intro aR H
 ·have c5b:=beq_iff_eq.mpr aR
  replace H:=bi H;obtain⟨⟨t1,t2⟩,A5,H⟩:=H
  have H:=Option.some.inj H
  have e1:r1=(H5.f x t1 t2 (⟨#[111,107]⟩:ByteArray)).1:=by rw[H]
  have e2:r2=(H5.f x t1 t2 (⟨#[111,107]⟩:ByteArray)).2:=by rw[H]
  subst e1
  subst e2
  clear H
  go_upto_region 17 with(fail)
  obtain⟨w4,hw4⟩:∃w4,w4=(w3.setCell ⟨gm,0,none⟩ (.int .i64 1)):=⟨_,rfl⟩
  rw[←hw4]
  replace BK:Aside0 (w4.heap[gm]? =some (.cells #[.int .i64 1,.int .i64 (rd z 0),.int .i64 0] 103 (0,0))):=⟨by rw[hw4];exact U2 BK.1 0 _⟩
  replace HBW:Aside0 (Below w.heap.size w w4):=⟨by rw[hw4];exact HBW.1.setCell HGE.1 _⟩
  clear aB aG aL aC aD aH aI hw4 up
  skip
  have aB:w4.drew.cell? ⟨g,0,none⟩=some (.slice A0 x.length c0):=(HBW.1.cell (World.block_lt_of_cell? w _ aJ.1)).trans aJ.1
  have aC:w4.drew.cell? ⟨gm,0,none⟩=some (.int .i64 1):=(I5 BK.1 0).trans rfl
  have aE:w4.drew.cell? ⟨gm,1,none⟩=some (.int .i64 (rd z 0)):=(I5 BK.1 1).trans rfl
  have aD:w4.drew.cell? ⟨gm,2,none⟩=some (.int .i64 0):=(I5 BK.1 2).trans rfl
  replace HBW:=am (HBW.1.trans (o6 (Below.refl _ _)))
  refine sr 11 (fun w'=>w'.cell? ⟨g,0,none⟩=some (.slice A0 x.length c0)∧w'.cell? ⟨gm,0,none⟩=some (.int .i64 1)∧w'.cell? ⟨gm,1,none⟩=some (.int .i64 (rd z 0))∧w'.cell? ⟨gm,2,none⟩=some (.int .i64 0)) [5] ⟨aB,aC,aE,aD⟩ fun hHeld=>?_
  generalize w4.drew=w5 at HBW aB aC aE aD hHeld ⊢
  refine rg [0,1,2,3,4] ?_
  refine AF0 (i:=5) (N:=some 85) (lb 11 63) rfl rfl (by kernel_rfl) (by decide) (fun K hK=>?_)
  refine gs' func149 #[.slice A0 x.length c0,.agg #[.int .i64 1,.int .i64 (rd z 0),.int .i64 0]] ?_
  with_reducible refine(V9.calls k _ _ x 1 (rd z 0) 0 t1 t2 _ ?side1 ?side2 A5.1).mono ?_
  case side1=>exact Kd.C_below HX.1.1 HBW.1
  case side2=>exact HX.1.2
  rintro e w6 ⟨v6,rfl,ho,hb⟩
  refine⟨_,rfl,?_⟩
  have HO:=am ho
  replace HCO:=am (HCO.1.below (E8 HBW.1 hb))
  replace HB:=am (HB.1.trans ((E8 HBW.1 hb).mono HBL.1))
  clear ho hb
  obtain⟨Ao,co,rfl⟩:=Kd.R_slice HO.1
  refine hK.out _ _ ?_
  clear hK K
  refine nm 85 ?_
  refine rg [6,7,8,9,10] ?_
  refine dn ?_
  go_wp2_with ((with_reducible refine ga 146 ?_);refine ge func146 (H5.calls g x y z t1 Ao co t2 (⟨#[111,107]⟩:ByteArray) B _ HCO.1 (Kd.R_reads' HO.1).2.2 (Kd.R_reads' HO.1).2.1 hB) ?_;rintro w9 ⟨aA,aF⟩;replace HCO:=am aA;replace HB:=am (HB.1.trans aF);clear aA aF)
  go_ret
  exact⟨rfl,HCO.1,HB.1⟩
 have c5b:=beq_eq_false_iff_ne.mpr aR
 replace H:=bi H;obtain⟨⟨t1,t2⟩,A5,H⟩:=H
 have H:=Option.some.inj H
 have e1:r1=(H5.f x t1 t2 (⟨#[111,107]⟩:ByteArray)).1:=by rw[H]
 have e2:r2=(H5.f x t1 t2 (⟨#[111,107]⟩:ByteArray)).2:=by rw[H]
 subst e1
 subst e2
 clear H
 go_upto_region 17 with(fail)
 obtain⟨w4,hw4⟩:∃w4,w4=(w3.setCell ⟨gm,0,none⟩ (.int .i64 2)):=⟨_,rfl⟩
 rw[←hw4]
 replace BK:Aside0 (w4.heap[gm]? =some (.cells #[.int .i64 2,.int .i64 (rd z 0),.int .i64 0] 103 (0,0))):=⟨by rw[hw4];exact U2 BK.1 0 _⟩
 replace HBW:Aside0 (Below w.heap.size w w4):=⟨by rw[hw4];exact HBW.1.setCell HGE.1 _⟩
 clear aB aG aL aC aD aH aI hw4 up
 skip
 have aB:w4.drew.cell? ⟨g,0,none⟩=some (.slice A0 x.length c0):=(HBW.1.cell (World.block_lt_of_cell? w _ aJ.1)).trans aJ.1
 have aC:w4.drew.cell? ⟨gm,0,none⟩=some (.int .i64 2):=(I5 BK.1 0).trans rfl
 have aE:w4.drew.cell? ⟨gm,1,none⟩=some (.int .i64 (rd z 0)):=(I5 BK.1 1).trans rfl
 have aD:w4.drew.cell? ⟨gm,2,none⟩=some (.int .i64 0):=(I5 BK.1 2).trans rfl
 replace HBW:=am (HBW.1.trans (o6 (Below.refl _ _)))
 refine sr 11 (fun w'=>w'.cell? ⟨g,0,none⟩=some (.slice A0 x.length c0)∧w'.cell? ⟨gm,0,none⟩=some (.int .i64 2)∧w'.cell? ⟨gm,1,none⟩=some (.int .i64 (rd z 0))∧w'.cell? ⟨gm,2,none⟩=some (.int .i64 0)) [5] ⟨aB,aC,aE,aD⟩ fun hHeld=>?_
 generalize w4.drew=w5 at HBW aB aC aE aD hHeld ⊢
 refine rg [0,1,2,3,4] ?_
 refine AF0 (i:=5) (N:=some 85) (lb 11 63) rfl rfl (by kernel_rfl) (by decide) (fun K hK=>?_)
 refine gs' func149 #[.slice A0 x.length c0,.agg #[.int .i64 2,.int .i64 (rd z 0),.int .i64 0]] ?_
 with_reducible refine(V9.calls k _ _ x 2 (rd z 0) 0 t1 t2 _ ?side1 ?side2 A5.1).mono ?_
 case side1=>exact Kd.C_below HX.1.1 HBW.1
 case side2=>exact HX.1.2
 rintro e w6 ⟨v6,rfl,ho,hb⟩
 refine⟨_,rfl,?_⟩
 have HO:=am ho
 replace HCO:=am (HCO.1.below (E8 HBW.1 hb))
 replace HB:=am (HB.1.trans ((E8 HBW.1 hb).mono HBL.1))
 clear ho hb
 obtain⟨Ao,co,rfl⟩:=Kd.R_slice HO.1
 refine hK.out _ _ ?_
 clear hK K
 refine nm 85 ?_
 refine rg [6,7,8,9,10] ?_
 refine dn ?_
 go_wp2_with ((with_reducible refine ga 146 ?_);refine ge func146 (H5.calls g x y z t1 Ao co t2 (⟨#[111,107]⟩:ByteArray) B _ HCO.1 (Kd.R_reads' HO.1).2.2 (Kd.R_reads' HO.1).2.1 hB) ?_;rintro w9 ⟨aA,aF⟩;replace HCO:=am aA;replace HB:=am (HB.1.trans aF);clear aA aF)
 go_ret
 exact⟨rfl,HCO.1,HB.1⟩
mutual
def I8.l0:Nat→List Int→List Int→List Int→Int→Int→Option (List Int)
 |0,_,_,_,_,_=>none
 |k+1,b,e,c,d,a=>if a<d then(if 0≤a then(if a< (c.length:Int)then(if a≤(b.length:Int)then(I8.l1 k b e (rd c a) 0 c d a (b.take (a:Int).toNat) ((b.take (a:Int).toNat).length:Int) 0)else(none))else(none))else(none))else(some e)
def I8.l1:Nat→List Int→List Int→Int→Int→List Int→Int→Int→List Int→Int→Int→Option (List Int)
 |0,_,_,_,_,_,_,_,_,_,_=>none
 |k+1,d,c,h,i,j,e,f,b,g,a=>if a<g then(if 0≤a then(if a< (b.length:Int)then(if(rd b a)>h then(I8.l1 k d c h (wrap64 (i+1)) j e f b g (wrap64 (a+1)))else(I8.l1 k d c h i j e f b g (wrap64 (a+1))))else(none))else(none))else(if c.length<17592186044416 then(I8.l0 k d (c++ [i]) j e (wrap64 (f+1)))else(none))
end
def I8.f (k:Nat)(a:List Int):Option (List Int):=I8.l0 k a ([]:List Int) a (a.length:Int) 0
theorem I8.calls (k A0 c0 l0 r w):Kd.C KI w A0 l0.length l0→l0.length≤c0→I8.f k l0=some r→
 Calls prog 151 #[.slice A0 l0.length c0] w (pR w KI 3 r):=by
 have HB:=bR w
 refine pa fun bA HC0=>?_
 unfold I8.f
 refine ia fun H'=>?_
 go_in
 go_wp2
 go_loopg [3,11] k (fun kq v3 v11 w'=>∃ (aD:List Int) (aA:Int),v11=.int .i64 aA∧Aside0 (I8.l0 kq l0 aD l0 (l0.length:Int) aA=some r)∧Aside0 (kq≤k)∧Aside0 (Kd.R KI 3 w' w.heap.size (fun _=>True) v3 aD)∧Aside0 (Below w.heap.size w w'))
 case atStart=>exact⟨_,_,fz,H',lr,⟨nz⟩,⟨bz⟩⟩
 case round =>
 obtain⟨aD,aA,rfl,⟨H⟩,aR,aE,HB⟩:=hrel
 cases gk with
 |zero=>cases H
 |succ k1 =>
 simp only[I8.l0]at H
 revert H
 refine iD ?_ ?_<;>intro c2b0
 ·refine U9 fun c3b0=>U9 fun c4b0=>?_
  have c5b0:=eq_true (od:0≤aA)
  refine if' fun c6b0 c6b1=>ia fun H'=>?_
  obtain⟨p775,q775,aK,rfl,aH⟩:=ai bA.1 aA
  replace aH:=cl aH
  obtain⟨i07,aY,_,aZ,_⟩:=info_parts J9
  obtain⟨bB,hA7,hC7⟩:=AA6 (P:=prog) (Value.int .i64) 0 22 3 .i64 underlying22 aY aZ (some aK) c0 l0 aA (od) (od) HC0.1
  have aS:(l0.take (aA:Int).toNat).length=(aA:Int).toNat:=by rw[List.length_take];have h_:aA≤(l0.length:Int):=od;omega
  have aO:=am (Kd.C_of_reads (h1:=fun _=>rfl) (hA7 _ (Kd.reads_of_C bA.1)))
  have bC:=am hC7
  go_wp2
  go_loopg [6,20] k1 (fun kq v6 v20 w'=>∃ (aI aB:Int),v6=.int .i64 aI∧v20=.int .i64 aB∧Aside0 (I8.l1 kq l0 aD (rd l0 aA) aI l0 (l0.length:Int) aA (l0.take (aA:Int).toNat) ((l0.take (aA:Int).toNat).length:Int) aB=some r)∧Aside0 (kq≤k1)∧Aside0 (Kd.R KI 3 w' w.heap.size (fun _=>True) u3 aD)∧Aside0 (Below w.heap.size w w'))
  case atStart=>exact⟨_,_,fz,fz,H',lr,⟨rR aE⟩,⟨bz⟩⟩
  case round =>
  obtain⟨aI,aB,rfl,rfl,⟨H⟩,aT,aE,HB⟩:=hrel
  cases gk with
  |zero=>cases H
  |succ k2 =>
  simp only[I8.l1]at H
  revert H
  refine iD (fun aP=>?_) fun aP=>?_
  ·(try (have aJ:=aP;first|rw[aS,Int.ofNat_toNat]at aJ|rw[aS]at aJ));(try have c8m0:=eq_true (of_decide_eq_true aJ))
   refine U9 fun c9b0=>it fun c10=>?_
   have aU:=decide_eq_true c10
   (try (have aL:=aU;first|rw[aS,Int.ofNat_toNat]at aL|rw[aS]at aL));(try have bD:=eq_true (of_decide_eq_true aL))
   refine iD (fun aV=>?_) fun aV=>?_
   ·refine ia fun H'=>?_
    have aF:0≤(aB:Int):=od
    have aG:aB< ((l0.take (aA:Int).toNat).length:Int):=od
    obtain⟨aM,aQ,aC⟩:=Kd.at_int aO.1 aB aF aG
    obtain rfl:aK=aM:=(by injection aQ)
    replace aC:=cl aC
    replace aF:=eq_true aF
    replace aG:=eq_true aG
    go_wp2
    go_roundg k2
    case measure=>exact lu aR aT
    case rel=>exact⟨_,_,fz,fz,H',lv aR aT,⟨rR aE⟩,⟨bz⟩⟩
   refine ia fun H'=>?_
   have aF:0≤(aB:Int):=od
   have aG:aB< ((l0.take (aA:Int).toNat).length:Int):=od
   obtain⟨aM,aQ,aC⟩:=Kd.at_int aO.1 aB aF aG
   obtain rfl:aK=aM:=(by injection aQ)
   replace aC:=cl aC
   replace aF:=eq_true aF
   replace aG:=eq_true aG
   go_wp2
   go_roundg k2
   case measure=>exact lu aR aT
   case rel=>exact⟨_,_,fz,fz,H',lv aR aT,⟨rR aE⟩,⟨bz⟩⟩
  (try (have aJ:=aP;first|rw[aS,Int.ofNat_toNat]at aJ|rw[aS]at aJ))
  refine il fun aW=>?_
  generalize aN:(aD++ [aI])=y778
  replace aN:=am aN.symm
  refine ia fun H'=>?_
  go_wp2_with ((with_reducible refine gb 30 32 ?_);at_builtin;refine ra KI underlying22 J9 u3 aD aI [.int .i64 aI] (fun _=>True) rfl (fun _ _=>trivial) (rR aE) bz (lm aW) ?_;intro v779 w13 ho hb hg hat;rw[←aN.1]at ho;replace HB:=am (hb);have aX:=am (ho);clear aE ho hb hg hat)
  go_roundg k2
  case measure=>exact lu aR aT
  case rel=>exact⟨_,_,fz,H',lv aR aT,⟨rR aX⟩,⟨bz⟩⟩
 refine i1 ?_;rintro rfl
 go_wp2
 go_ret
 exact⟨_,fe,rR aE,bz⟩
def W7.l0:Nat→Int→List Int→Int→Int→Option (Int)
 |0,_,_,_,_=>none
 |k+1,c,b,d,a=>if a<d then(if 0≤a then(if a< (b.length:Int)then(W7.l0 k (wrap64 (c+ (rd b a))) b d (wrap64 (a+1)))else(none))else(none))else(if(Int.tmod c 2)=1 then(some (-1))else(some 1))
def W7.f (k:Nat)(b:List Int):Option (Int):=(I8.f k b).bind fun a=>(W7.l0 k 0 a (a.length:Int) 0)
theorem W7.calls (k A0 c0 l0 r w):Kd.C KI w A0 l0.length l0→l0.length≤c0→W7.f k l0=some r→
 Calls prog 107 #[.slice A0 l0.length c0] w (pB w (.int .i64 r)):=by
 have HB:=bR w
 refine pa fun HR0 HC0=>?_
 unfold W7.f
 refine ib fun aA A2=>ia fun H'=>?_
 go_in
 go_wp2_with ((with_reducible refine ga 151 ?_);refine gR func151 (I8.calls k A0 c0 l0 aA _ (M8 HR0.1) HC0.1 A2.1) bz ?_;clear HB;intro v782 w3 aC HB;obtain⟨Ao4,co4,rfl⟩:=Kd.R_slice aC.1)
 go_loopg [3,9] k (fun kq v3 v9 w'=>∃ (aD aB:Int),v3=.int .i64 aD∧v9=.int .i64 aB∧Aside0 (W7.l0 kq aD aA (aA.length:Int) aB=some r)∧Aside0 (kq≤k)∧Aside0 (Kd.R KI 3 w' w.heap.size (fun _=>True) (.slice Ao4 aA.length co4) aA)∧Aside0 (Below w.heap.size w w'))
 case atStart=>exact⟨_,_,fz,fz,H',lr,⟨rR aC⟩,⟨bz⟩⟩
 case round =>
 obtain⟨aD,aB,rfl,rfl,⟨H⟩,aI,aE,HB⟩:=hrel
 cases gk with
 |zero=>cases H
 |succ k1 =>
 simp only[W7.l0]at H
 revert H
 refine iD ?_ ?_<;>intro c5b0
 ·refine U9 fun c6b0=>U9 fun c7b0=>ia fun H'=>?_
  obtain⟨p784,q784,aJ,rfl,aF⟩:=ai (Kd.R_reads' aE.1).2.2 aB
  go_wp2
  go_roundg k1
  case measure=>exact lm aI
  case rel=>exact⟨_,_,fz,fz,H',la aI,⟨rR aE⟩,⟨bz⟩⟩
 refine iE (fun aG aH=>?_) fun c8 aG aH=>?_
 ·refine i1 ?_;rintro rfl
  go_wp2
  go_ret
  exact⟨fe,bz⟩
 refine i1 ?_;rintro rfl
 go_wp2
 go_ret
 exact⟨fe,bz⟩
def l9.f (k:Nat)(a:Int)(b:Bool):Option (ByteArray):=if b=true then((O5.f k a).bind fun c=>(some c))else(some (⟨#[110,111]⟩:ByteArray))
theorem l9.calls (k a0 a1 r w):l9.f k a0 a1=some r→
 Calls prog 152 #[.int .i64 a0,.bool a1] w (pB w (.string r)):=by
 have HB:=bR w
 unfold l9.f
 refine iB ?_ ?_<;>rintro rfl
 ·refine ib fun aA A4=>i1 ?_;rintro rfl
  go_in
  go_wp2_with ((with_reducible refine ga 68 ?_);refine gB func68 (O5.calls k a0 aA _ A4.1) bz ?_;clear HB;intro w5 HB)
  go_ret
  exact⟨fe,bz⟩
 refine i1 ?_;rintro rfl
 go_in
 go_wp2
 go_ret
 exact⟨fe,bz⟩
def j9.f (a:Int):Option (Bool):=(G3.f a 1 10).bind fun b=>(some b)
theorem j9.calls (a0 r w):j9.f a0=some r→
 Calls prog 224 #[.int .i64 a0] w (pD w (.bool r)):=by
 unfold j9.f
 refine ib fun aA A2=>i1 ?_;rintro rfl
 go_in
 go_wp2_with ((with_reducible refine ga 78 ?_);refine gp func78 (G3.calls a0 1 10 aA _ A2.1) fun nd=>?_)
 go_ret
 exact⟨fz,dz⟩
def u9.f (a b:Int):Option (Bool):=if 0≤a then((G3.f b 0 (wrap64 ((shl .i64 1 a) - 1))).bind fun c=>(some c))else(none)
theorem u9.calls (a0 a1 r w):u9.f a0 a1=some r→
 Calls prog 225 #[.int .i64 a0,.int .i64 a1] w (pD w (.bool r)):=by
 unfold u9.f
 refine if' fun c3b0 c3b1=>?_
 obtain⟨ji4,aA⟩:=ex (shl .i64 1 a0:Int)
 intro H
 first|rw[aA]at H|simp only[aA]at H
 obtain⟨aC,aD,aE,aF,aG,aH⟩:=sl aA
 revert H
 refine ib fun aB A5=>i1 ?_;rintro rfl
 go_in
 go_wp2_with ((with_reducible refine ga 78 ?_);refine gp func78 (G3.calls a1 0 (wrap64 ((ji4) - 1)) aB _ A5.1) (fun nd=>?_) (hargs:=by(try simp only[List.map_toArray,List.map_cons,List.map_nil]);first|done|(simp only[aA];rfl)|rfl|(simp only[List.length_drop,List.length_take];rfl)))
 go_ret
 exact⟨by first|rfl|(simp;done)|(simp only[←aA]<;> (first|rfl|simp))|(simp[*];done),dz⟩
mutual
def N7.l0:Nat→Int→List Int→Int→Option (List Int)
 |0,_,_,_=>none
 |k+1,c,a,b=>if b≥0 then(if 0≤b then(if b< (a.length:Int)then(if 0≤(wrap64 (c - 1))then(if a.length<17592186044416 then(N7.l0 k c (a++ [wrap64 ((rd a b)+ (shl .i64 1 (wrap64 (c - 1))))]) (wrap64 (b - 1)))else(none))else(none))else(none))else(none))else(some a)
def N7.f:Nat→Int→Option (List Int)
 |0,_=>none
 |k+1,a=>if a=0 then(some (([0]:List Int)))else((N7.f k (wrap64 (a - 1))).bind fun b=>(N7.l0 k a b (wrap64 ((b.length:Int) - 1))))
end
def N7.T7:Bool×List (List Nat×List Nat):=(true,[([],[]),([],[]),([],[]),([1,2],[1,2]),([3],[3]),([],[]),([5],[5]),([6],[6]),([4,7],[4,7]),([8],[8]),([0,9],[0,9]),([10,10,0,1,2,3,4,5,6,7,8,9,10],[0,1,10])])
def N7.B7:List Nat:=[0,0,0,6,14,0,32,96,254,510,1023,2047]
theorem N7.tab7:AA0 .any (AC6 f226 7)=N7.T7:=by kernel_rfl
theorem N7.bits7:l6 N7.T7.2 N7.B7=true:=by kernel_rfl
theorem N7.calls (k:Nat):∀ (a0:Int) (r:List Int) (w:World) (h:N7.f k a0=some r),
 Calls prog 226 #[.int .i64 a0] w (pR w KI 3 r):=by
 induction k using Nat.strongRecOn with
 |_ k ih =>
 intro a0 r w h
 cases k with
 |zero=>exact absurd h (by simp[N7.f])
 |succ k =>
 simp only[N7.f]at h
 have HB:=bR w
 have H:=h
 clear h
 revert H
 refine iE (fun aY aZ=>?_) fun c2 aY aZ=>?_
 ·obtain⟨y788,aG⟩:=ey (([0]:List Int):List Int)
  intro H
  rw[←aG.1]at H
  revert H
  refine i1 ?_;rintro rfl
  go_in
  go_wp2_with ((with_reducible refine gd 7 ?_);refine rl KI 3 ([0]:List Int) [.int .i64 0] (J7.one (show Kd.M KI _ _ _ 0 [.int .i64 0]from rfl) (J7.none _ _)) ?_;intro v789 w3 aR hb;(first|rw[←aG.1]at aR|(simp only[Int.reduceToNat]at aR;rw[←aG.1]at aR));have aT:=am (Kd.R_lower aR (C5 bz));replace HB:=bS hb;clear hb aR)
  go_ret
  exact⟨_,fe,rR aT,bz⟩
 refine ib fun aN A5=>ia fun H'=>?_
 go_in
 go_wp2_with ((with_reducible refine ga 226 ?_);refine gR func226 (ih k (by omega) (wrap64 (a0 - 1)) aN _ A5.1) bz ?_;clear HB;intro v792 w6 aJ HB;obtain⟨Ao7,co7,rfl⟩:=Kd.R_slice aJ.1)
 go_loopg [3,4] k (fun kq v3 v4 w'=>∃ (aA:List Int) (aC:Int),v4=.int .i64 aC∧Aside0 (N7.l0 kq a0 aA aC=some r)∧Aside0 (kq≤k)∧Aside0 (Kd.R KI 3 w' w.heap.size (fun _=>True) v3 aA)∧Aside0 (Below w.heap.size w w'))
 case atStart=>exact⟨(aN),(wrap64 ((aN.length:Int) - 1)),fz,H',lr,⟨rR aJ⟩,⟨bz⟩⟩
 case round =>
 obtain⟨aA,aC,rfl,⟨H⟩,bK,aD,HB⟩:=hrel
 cases gk with
 |zero=>cases H
 |succ k1 =>
 simp only[N7.l0]at H
 revert H
 refine iD (fun bA=>?_) fun bA=>?_
 ·refine U9 fun c9b0=>U9 fun bL=>?_
  obtain⟨aU,aH⟩:=ex (wrap64 (a0 - 1):Int)
  intro H
  first|rw[aH]at H|simp only[aH]at H
  have bB:(IntKind.i64.wrap (a0 - 1))=aU:=(P9 _).trans aH
  revert H
  refine if' fun bM bN=>?_
  obtain⟨aQ,aI⟩:=ex (shl .i64 1 (aU):Int)
  intro H
  first|rw[aI]at H|simp only[aI]at H
  obtain⟨bC,bD,bE,bF,bG,bH⟩:=sl aI
  revert H
  refine il fun aV=>?_
  obtain⟨bI,aK⟩:=ey (aA++ [wrap64 ((rd aA aC)+ (aQ))]:List Int)
  intro H
  rw[←aK.1]at H
  revert H
  refine ia fun H'=>?_
  try go_wp2
  replace aD:=am (Kd.R_drew aD.1)
  replace HB:=am (F8 HB.1)
  obtain⟨Ao16,bJ,aW⟩:=Kd.R_slice aD.1
  (first|subst aW|(injection aW with bO f2_ bP;have f4_:=bO.symm;have f5_:=bP.symm;clear bO f2_ bP;subst f4_;subst f5_))
  obtain⟨p794,q794,aM,rfl,aE⟩:=ai (Kd.R_reads' aD.1).2.2 aC
  refine sq 12 (fun w'=>w'.cell? (aM.add (aC).toNat)=some (.int .i64 (rd aA aC))) [9,10] N7.tab7 N7.bits7 (aE) fun hHeld HT_ HW_=>?_
  generalize wr.drew=w15 at aD HB aE hHeld ⊢
  refine rg [0,1,2,3,5,6,7,4,8] ?_
  refine AF0 (i:=9) (N:=some 27) (lb 12 1023) rfl rfl (g6 HT_.1 (by kernel_rfl)) (by decide) (fun K hK=>?_)
  refine AL9 (w1:=?_) (v:=?_) (by rfl) rfl ?_ ?_
  rotate_left 2
  ·go_simp
   constructor
   ·rfl
   ·rfl
  refine hK.out _ _ ?_
  clear hK K
  refine nm 27 ?_
  refine AF0 (i:=10) (N:=some 28) (lb 12 2047) rfl rfl (g6 HT_.1 (by kernel_rfl)) (by decide) (fun K hK=>?_)
  refine Kd.R_append_step KI (w0:=w) w.heap.size (by rfl) (.tmp 18) (.tmp 27) 22 3 (.int .i64 0) 8 rfl underlying22 J9 rfl (by decide) (by omega) (.slice (some aM) aA.length bJ) aA (wrap64 ((rd aA aC)+ (aQ))) [.int .i64 (wrap64 ((rd aA aC)+ (aQ)))] (fun _=>True) (fun _=>False) rfl rfl ?aP (fun _ hk=>hk.elim) ?aF ?aO ?aB ?aS ?aL ?_
  (case aP=>exact rfl)
  (case aB=>exact bz)
  (case aF=>exact(fun _ _=>trivial))
  (case aO=>exact(rR aD))
  (case aS=>exact(C5 bz))
  (case aL=>have:=aV.1;omega)
  intro v796 w17 ho hb hg hat
  rw[←aK.1]at ho
  replace HB:=am (hb)
  have aX:=am (ho)
  clear aD
  clear ho hb hg hat
  refine hK.out _ _ ?_
  clear hK K
  refine nm 28 ?_
  refine pw 11 ?_
  refine dn ?_
  try go_wp2
  go_roundg k1
  case measure=>exact lm bK
  case rel=>exact⟨(bI),(wrap64 (aC - 1)),fz,H',la bK,⟨rR aX⟩,⟨bz⟩⟩
 refine i1 ?_;rintro rfl
 go_wp2
 go_ret
 exact⟨_,fe,rR aD,bz⟩
def Z9.f (k:Nat)(b a:Int):Option (Int×Bool):=(j9.f b).bind fun d=>(if d=true then((u9.f b a).bind fun e=>(if e=true then((N7.f k b).bind fun c=>(if 0≤a then(if a< (c.length:Int)then(some (rd c a,true))else(none))else(none)))else(some (0,false))))else(some (0,false)))
theorem Z9.calls (k a0 a1 r1 r2 w):Z9.f k a0 a1=some (r1,r2)→
 Calls prog 153 #[.int .i64 a0,.int .i64 a1] w (pB w (.tuple #[.int .i64 r1,.bool r2])):=by
 have HB:=bR w
 unfold Z9.f
 refine ib fun t798 A3=>iB ?_ ?_<;>rintro rfl
 ·refine ib fun t799 A5=>iB ?_ ?_<;>rintro rfl
  ·refine ib fun aD A7=>U9 fun c8b0=>U9 fun c9b0=>i2 ?_;rintro rfl rfl
   go_in
   go_wp2_with (first|((with_reducible refine ga 224 ?_);refine gp func224 (j9.calls a0 true _ A3.1) fun nd=>?_)|(go_at_call 225;(with_reducible refine qp (u9.calls a0 a1 true _ A5.1) fun nd=>?_))|((with_reducible refine ga 226 ?_);refine gR func226 (N7.calls k a0 aD _ A7.1) bz ?_;clear HB;intro v801 w10 aA HB;obtain⟨Ao11,co11,rfl⟩:=Kd.R_slice aA.1;have aB:0≤(a1:Int):=od;have aC:a1< (aD.length:Int):=od;obtain⟨aG,aF,aE⟩:=Kd.at_int (Kd.R_reads' aA.1).2.2 a1 aB aC;cases aF;replace aB:=eq_true aB;replace aC:=eq_true aC))
   go_ret2
   exact⟨fe,bz⟩
  refine i2 ?_;rintro rfl rfl
  go_in
  go_wp2_with (first|((with_reducible refine ga 224 ?_);refine gp func224 (j9.calls a0 true _ A3.1) fun nd=>?_)|(go_at_call 225;(with_reducible refine qp (u9.calls a0 a1 false _ A5.1) fun nd=>?_)))
  go_ret2
  exact⟨fe,bz⟩
 refine i2 ?_;rintro rfl rfl
 go_in
 go_wp2_with ((with_reducible refine ga 224 ?_);refine gp func224 (j9.calls a0 false _ A3.1) fun nd=>?_)
 go_ret2
 exact⟨fe,bz⟩
def N4.j0:Nat→Int→Int→Bool→Option (Int×Bool)
 |0,_,_,_=>none
 |k+1,c,d,e=>if e=true then(some (0,false))else((N7.f k c).bind fun a=>((P6.f k a d).bind fun b=>(some (b,true))))
def N4.f (k:Nat)(a b:Int):Option (Int×Bool):=(j9.f a).bind fun c=>(if c=true then((u9.f a b).bind fun d=>(N4.j0 k a b (!d)))else(N4.j0 k a b true))
theorem N4.calls (k a0 a1 r1 r2 w):N4.f k a0 a1=some (r1,r2)→
 Calls prog 154 #[.int .i64 a0,.int .i64 a1] w (pB w (.tuple #[.int .i64 r1,.bool r2])):=by
 have HB:=bR w
 unfold N4.f
 refine ia fun HC3=>?_
 go_in
 go_upto_region 1 with(fail)
 go_cut [14] (fun v14 wc=>∃ (kq:Nat) (aA:Bool),v14=.bool aA∧Aside0 (N4.j0 kq a0 a1 aA=some (r1,r2))∧Aside0 (kq≤k)∧Aside0 (Below w.heap.size w wc))
 case first =>
  have H:=HC3.1
  revert H
  refine ib fun t804 A4=>iB ?_ ?_<;>rintro rfl
  ·refine ib fun aC A6=>ia fun H'=>?_
   go_wp2_with (first|((with_reducible refine ga 224 ?_);refine gp func224 (j9.calls a0 true _ A4.1) fun nd=>?_)|(go_at_call 225;(with_reducible refine qp (u9.calls a0 a1 aC _ A6.1) fun nd=>?_)))
   go_meet
   case rel=>exact⟨_,(!aC),fz,H',lo,⟨bz⟩⟩
  refine ia fun H'=>?_
  go_wp2_with ((with_reducible refine ga 224 ?_);refine gp func224 (j9.calls a0 false _ A4.1) fun nd=>?_)
  go_meet
  case rel=>exact⟨_,(true),fz,H',lo,⟨bz⟩⟩
 case rest =>
 obtain⟨kq,aA,rfl,⟨H⟩,HJ2,HB⟩:=hcut
 cases kq with
 |zero=>cases H
 |succ aH =>
 simp only[N4.j0]at H
 revert H
 refine iB ?_ ?_<;>rintro rfl
 ·refine i2 ?_;rintro rfl rfl
  go_wp2
  go_ret2
  exact⟨fe,bz⟩
 refine ib fun aD A8=>ib fun aE A9=>i2 ?_;rintro rfl rfl
 go_wp2_with (first|((with_reducible refine ga 226 ?_);refine gR func226 (N7.calls aH a0 aD _ A8.1) bz ?_;clear HB;intro v807 w10 aB HB;obtain⟨aF,aG,rfl⟩:=Kd.R_slice aB.1)|((with_reducible refine ga 227 ?_);refine gp func227 (P6.calls aH aF aG aD a1 aE _ (M8 (Kd.R_reads' aB.1).2.2) ((Kd.R_reads' aB.1).2.1) A9.1) fun nd=>?_))
 go_ret2
 exact⟨fe,bz⟩
def S8.f (k:Nat)(b:List Int)(a:Bool):Option (ByteArray):=if a=true then((Q2.f k b).bind fun c=>(some c))else(some (⟨#[110,111]⟩:ByteArray))
theorem S8.calls (k A0 c0 l0 a1 r w):Kd.C KI w A0 l0.length l0→l0.length≤c0→S8.f k l0 a1=some r→
 Calls prog 155 #[.slice A0 l0.length c0,.bool a1] w (pB w (.string r)):=by
 have HB:=bR w
 refine pa fun HR0 HC0=>?_
 unfold S8.f
 refine iB ?_ ?_<;>rintro rfl
 ·refine ib fun aA A4=>i1 ?_;rintro rfl
  go_in
  go_wp2_with ((with_reducible refine ga 56 ?_);refine gB func56 (Q2.calls k A0 c0 l0 aA _ (M8 HR0.1) HC0.1 A4.1) bz ?_;clear HB;intro w5 HB)
  go_ret
  exact⟨fe,bz⟩
 refine i1 ?_;rintro rfl
 go_in
 go_wp2
 go_ret
 exact⟨fe,bz⟩
def O0.l0:Nat→Int→List Int→Int→Int→Option (Int)
 |0,_,_,_,_=>none
 |k+1,c,b,d,a=>if a<d then(if 0≤a then(if a< (b.length:Int)then(if(wrap64 (c* (rd b a)))>1000000 then(some (wrap64 (c* (rd b a))))else(O0.l0 k (wrap64 (c* (rd b a))) b d (wrap64 (a+1))))else(none))else(none))else(some c)
def O0.f (k:Nat)(a:List Int):Option (Int):=O0.l0 k 1 a (a.length:Int) 0
theorem O0.calls (k A0 c0 l0 r w):Kd.C KI w A0 l0.length l0→l0.length≤c0→O0.f k l0=some r→
 Calls prog 229 #[.slice A0 l0.length c0] w (pD w (.int .i64 r)):=by
 refine pa fun aH HC0=>?_
 unfold O0.f
 refine ia fun H'=>?_
 go_in
 go_wp2
 go_loopg [3,8] k (fun kq v3 v8 w'=>∃ (aB aA:Int),v3=.int .i64 aB∧v8=.int .i64 aA∧Aside0 (O0.l0 kq aB l0 (l0.length:Int) aA=some r)∧Aside0 (kq≤k)∧Drawn0 w w')
 case atStart=>exact⟨_,_,fz,fz,H',lr,dz⟩
 case round =>
 obtain⟨aB,aA,rfl,rfl,⟨H⟩,aI,⟨m1,rfl⟩⟩:=hrel
 cases gk with
 |zero=>cases H
 |succ k1 =>
 simp only[O0.l0]at H
 revert H
 refine iD ?_ ?_<;>intro c2b0
 ·refine U9 fun c3b0=>U9 fun c4b0=>io ?_ ?_<;>intro c5
  ·have aE:decide (1000000< (wrap64 (aB* (rd l0 aA))))=true:=(decide_eq_true c5)
   refine i1 ?_;rintro rfl
   obtain⟨aF,aG,aD,rfl,aC⟩:=ai aH.1 aA
   go_wp2
   go_ret
   exact⟨fz,dz⟩
  have aE:decide (1000000< (wrap64 (aB* (rd l0 aA))))=false:=(decide_eq_false c5)
  refine ia fun H'=>?_
  obtain⟨aF,aG,aD,rfl,aC⟩:=ai aH.1 aA
  go_wp2
  go_roundg k1
  case measure=>exact lm aI
  case rel=>exact⟨_,_,fz,fz,H',la aI,dz⟩
 refine i1 ?_;rintro rfl
 go_wp2
 go_ret
 exact⟨fz,dz⟩
def r7.f (k:Nat)(a:List Int):Option (Bool):=if(a.length:Int)≤12 then((U6.f k a 2 12).bind fun b=>(if b=true then((O0.f k a).bind fun c=>(some (decide (c≤1000000))))else(some false)))else(some false)
theorem r7.calls (k A0 c0 l0 r w):Kd.C KI w A0 l0.length l0→l0.length≤c0→r7.f k l0=some r→
 Calls prog 228 #[.slice A0 l0.length c0] w (pD w (.bool r)):=by
 refine pa fun aA aB=>?_
 unfold r7.f
 refine io ?_ ?_<;>intro c2
 ·have aC:=decide_eq_true c2
  have aD:decide (l0.length≤12)=true:=decide_eq_true (by omega)
  refine ib fun t812 A3=>iB ?_ ?_<;>rintro rfl
  ·refine ib fun aE A5=>i1 ?_;rintro rfl
   go_in
   go_wp2_with (first|(go_at_call 89;(with_reducible refine qp (U6.calls k _ _ l0 2 12 true _ (M8 aA.1) aB.1 A3.1) fun nd=>?_))|(go_at_call 229;(with_reducible refine qp (O0.calls k _ _ l0 aE _ (M8 aA.1) aB.1 A5.1) fun nd=>?_)))
   go_ret
   exact⟨fz,dz⟩
  refine i1 ?_;rintro rfl
  go_in
  go_wp2_with (go_at_call 89;(with_reducible refine qp (U6.calls k _ _ l0 2 12 false _ (M8 aA.1) aB.1 A3.1) fun nd=>?_))
  go_ret
  exact⟨fz,dz⟩
 have aC:=decide_eq_false c2
 have aD:decide (l0.length≤12)=false:=decide_eq_false (by omega)
 refine i1 ?_;rintro rfl
 go_in
 go_wp2
 go_ret
 exact⟨fz,dz⟩
end Go.Proofs.YtpiogigidgejpaaGreatDoor.PFnExactStepLine
