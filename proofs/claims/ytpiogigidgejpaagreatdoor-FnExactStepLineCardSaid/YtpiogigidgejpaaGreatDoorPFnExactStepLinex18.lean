import Derived.Test.YtpiogigidgejpaaGreatDoorPFnExactStepLinex15
import Derived.Test.YtpiogigidgejpaaGreatDoorPFnExactStepLinex17
namespace Go.Proofs.YtpiogigidgejpaaGreatDoor.PFnExactStepLine
open Go.RowKit Go.Proofs.YtpiogigidgejpaaGreatDoorW.PrintWords Go.Proofs.YtpiogigidgejpaaGreatDoorW.PrintLast Go.Proofs.YtpiogigidgejpaaGreatDoorW.PrintMore Go.Proofs.YtpiogigidgejpaaGreatDoor.Sq Tryz
attribute [local go_sem] g8 g9 s8 q8 Y0 X9 b8 e6
set_option maxHeartbeats 8000000
set_option maxRecDepth 100000
set_option linter.unusedVariables false
set_option linter.unusedSimpArgs false
mutual
def laws_FnExactStepLine.j0:Nat→List Int→ByteArray→List Int→ByteArray→Bool→List Int→List Int→ByteArray→Bool→Bool→Option (Bool)
 |0,_,_,_,_,_,_,_,_,_,_=>none
 |k+1,x0,x1,x5,x6,x7,x8,x9,x10,x11,x54=>if x54=true then(some false)else((R7.f k x0).bind fun t1142=>((N5.f k x8 t1142).bind fun t1145=>(if t1145=true then((R1.f k x8 1).bind fun bt1146=>(if bt1146.1<0 then(laws_FnExactStepLine.j1 k x0 x1 x5 x6 x7 x9 true)else((N5.f k x9 x5).bind fun t1148=>(if t1148=true then(if x10.toList=x6.toList then(laws_FnExactStepLine.j1 k x0 x1 x5 x6 x7 x9 (x11 != x7))else(laws_FnExactStepLine.j1 k x0 x1 x5 x6 x7 x9 true))else(laws_FnExactStepLine.j1 k x0 x1 x5 x6 x7 x9 true)))))else(some false))))
def laws_FnExactStepLine.j1:Nat→List Int→ByteArray→List Int→ByteArray→Bool→List Int→Bool→Option (Bool)
 |0,_,_,_,_,_,_,_=>none
 |k+1,x0,x1,x5,x6,x7,x9,x80=>if x80=true then(some false)else((R1.f k x9 1).bind fun bt1149=>((O8.f k bt1149.2 1).bind fun t1151=>(if t1151<0 then(some false)else(if t1151=bt1149.1 then((R7.f k x0).bind fun t1152=>((X8.f k t1152 x1).bind fun bt1155=>((N5.f k bt1155.1 x5).bind fun t1160=>(if t1160=true then(if bt1155.2.1.toList=x6.toList then(laws_FnExactStepLine.j2 k bt1149.2 bt1149.1 (bt1155.2.2 != x7))else(laws_FnExactStepLine.j2 k bt1149.2 bt1149.1 true))else(laws_FnExactStepLine.j2 k bt1149.2 bt1149.1 true)))))else(some false)))))
def laws_FnExactStepLine.j2:Nat→List Int→Int→Bool→Option (Bool)
 |0,_,_,_=>none
 |k+1,x9,x13,x113=>if x113=true then(some false)else((O8.f k x9 1).bind fun t1161=>(if t1161<0 then(some false)else(if t1161=x13 then(some true)else(some false))))
end
def laws_FnExactStepLine.f (k:Nat)(l0:List Int)(a1:ByteArray):Option (Bool):=if(l0.length:Int)>1048576 then(some true)else(if(a1.size:Int)>1048576 then(some true)else((R7.f k l0).bind fun t1125=>((b7.f k t1125 a1).bind fun bt1128=>((R7.f k l0).bind fun t1133=>((X8.f k t1133 a1).bind fun bt1136=>((N5.f k bt1136.1 bt1128.1).bind fun t1141=>(if t1141=true then(if bt1136.2.1.toList=bt1128.2.1.toList then(laws_FnExactStepLine.j0 k l0 a1 bt1128.1 bt1128.2.1 bt1128.2.2 t1133 bt1136.1 bt1136.2.1 bt1136.2.2 (bt1136.2.2 != bt1128.2.2))else(laws_FnExactStepLine.j0 k l0 a1 bt1128.1 bt1128.2.1 bt1128.2.2 t1133 bt1136.1 bt1136.2.1 bt1136.2.2 true))else(laws_FnExactStepLine.j0 k l0 a1 bt1128.1 bt1128.2.1 bt1128.2.2 t1133 bt1136.1 bt1136.2.1 bt1136.2.2 true))))))))
theorem laws_FnExactStepLine.calls (k:Nat)(A0:Option Addr)(c0:Nat)(l0:List Int)(a1:ByteArray)(r:Bool)(w:World)(hr0:Kd.C (Kd.int .i64) w A0 l0.length l0)(hc0:l0.length≤c0)(h:laws_FnExactStepLine.f k l0 a1=some r)(hL_:Go.Proofs.YtpiogigidgejpaaGreatDoor.Laid.A w) :
 Calls Tryz.prog 6 #[.slice A0 l0.length c0,.string a1] w fun e w'=>e=.returned (.bool r)∧Below w.heap.size w w':=by
 have HL_:=am hL_
 clear hL_
 have cW:=am hr0
 have cX:=am hc0
 clear hr0 hc0
 have HB:=am (Below.refl w.heap.size w)
 have H:=h
 clear h
 unfold laws_FnExactStepLine.f at H
 replace H:=jo H;rcases H with⟨c3,H⟩|⟨c3,H⟩
 ·have bX:decide (1048576< (l0.length:Int))=true:=(decide_eq_true c3)
  have bY:decide (1048576<l0.length)=true:=decide_eq_true (by omega)
  clear c3
  obtain rfl:=Option.some.inj H
  go_in
  go_wp2
  go_ret
  exact⟨fe,bz⟩
 have bX:decide (1048576< (l0.length:Int))=false:=(decide_eq_false c3)
 have bY:decide (1048576<l0.length)=false:=decide_eq_false (by omega)
 clear c3
 replace H:=jo H;rcases H with⟨c4,H⟩|⟨c4,H⟩
 ·have bZ:decide (1048576< (a1.size:Int))=true:=(decide_eq_true c4)
  have cA:decide (1048576<a1.size)=true:=decide_eq_true (by omega)
  clear c4
  obtain rfl:=Option.some.inj H
  go_in
  go_wp2
  go_ret
  exact⟨fe,bz⟩
 have bZ:decide (1048576< (a1.size:Int))=false:=(decide_eq_false c4)
 have cA:decide (1048576<a1.size)=false:=decide_eq_false (by omega)
 clear c4
 replace H:=bi H;obtain⟨bH,A5,H⟩:=H
 replace H:=bi H;obtain⟨⟨aF,bI,aY⟩,A6,H⟩:=H
 replace H:=bi H;obtain⟨aG,A7,H⟩:=H
 replace H:=bi H;obtain⟨⟨aB,cD,bE⟩,A8,H⟩:=H
 have dG:=am H
 clear H
 go_in
 go_upto_region 8 with(first|((with_reducible refine J0 (f:=31) rfl ?_);refine gl' 26 Tryz.func31 #[.slice A0 l0.length c0] ?_;(with_reducible refine(R7.calls k _ _ l0 bH _ ?side1 ?side2 A5.1).mono ?_);(case side1=>exact M8 cW.1);(case side2=>exact cX.1);rintro e w10 ⟨fT,rfl,aJ,hb⟩;refine⟨_,rfl,?_⟩;have aH:=am (Kd.R_lower aJ (C5 bz));replace HB:=am (E8 bz hb);clear hb;clear aJ;obtain⟨dH,dI,dJ⟩:=Kd.R_slice aH.1;subst dJ)|((with_reducible refine J0 (f:=17) rfl ?_);refine gl' 28 Tryz.func17 #[.slice dH bH.length dI,.string a1] ?_;(with_reducible refine(b7.calls k _ _ bH a1 aF bI aY _ ?side1 ?side2 A6.1).mono ?_);(case side1=>exact M8 (Kd.R_reads' aH.1).2.2);(case side2=>exact(Kd.R_reads' aH.1).2.1);rintro e w12 ⟨aU,rfl,aJ,hb⟩;refine⟨_,rfl,?_⟩;have aD:=am (Kd.R_lower (Kd.R_new' aJ (Kd.R_lt (rR aH))) (C5 bz));replace aH:=am (Kd.R_elder' (rR aH) (Kd.R_base aJ) hb);replace HB:=am (E8 bz hb);clear hb;clear aJ)|((with_reducible refine J0 (f:=31) rfl ?_);refine gl' 33 Tryz.func31 #[.slice A0 l0.length c0] ?_;(with_reducible refine(R7.calls k _ _ l0 aG _ ?side1 ?side2 A7.1).mono ?_);(case side1=>exact M8 (Kd.C_below cW.1 HB.1));(case side2=>exact cX.1);rintro e w13 ⟨fU,rfl,aJ,hb⟩;refine⟨_,rfl,?_⟩;have aK:=am (Kd.R_lower (Kd.R_new' (Kd.R_new' aJ (Kd.R_lt (rR aH))) (Kd.R_lt (rR aD))) (C5 bz));replace aH:=am (Kd.R_elder' (rR aH) (Kd.R_base aJ) hb);replace aD:=am (Kd.R_elder' (rR aD) (Kd.R_base aJ) hb);replace HB:=am (E8 bz hb);clear hb;clear aJ;obtain⟨aR,aS,dK⟩:=Kd.R_slice aK.1;subst dK)|((with_reducible refine J0 (f:=16) rfl ?_);refine gl' 37 Tryz.func16 #[.slice aR aG.length aS,.string a1] ?_;(with_reducible refine(X8.calls k _ _ aG a1 aB cD bE _ ?side1 ?side2 A8.1 (by first|exact HL_.1|exact HL_.1.drewN _|exact HL_.1.below HB.1|(refine HL_.1.below ?_;repeat(first|(with_reducible first|exact HB.1|apply R2|apply J8|apply F8)|exact HB.1))|(refine HL_.1.below ?_;repeat(first|(with_reducible first|exact Below.refl _ _|apply R2|apply J8|apply F8)|exact Below.refl _ _)))).mono ?_);(case side1=>exact M8 (Kd.R_reads' aK.1).2.2);(case side2=>exact(Kd.R_reads' aK.1).2.1);rintro e w15 ⟨aV,rfl,aJ,hb⟩;refine⟨_,rfl,?_⟩;have aI:=am (Kd.R_lower (Kd.R_new' (Kd.R_new' (Kd.R_new' aJ (Kd.R_lt (rR aH))) (Kd.R_lt (rR aD))) (Kd.R_lt (rR aK))) (C5 bz));replace aH:=am (Kd.R_elder' (rR aH) (Kd.R_base aJ) hb);replace aD:=am (Kd.R_elder' (rR aD) (Kd.R_base aJ) hb);replace aK:=am (Kd.R_elder' (rR aK) (Kd.R_base aJ) hb);replace HB:=am (E8 bz hb);clear hb;clear aJ))
 (try simp only[Act.put,List.setIfInBounds_toArray,List.set_cons_zero,List.set_cons_succ])
 go_cut [54] (fun v54 wc=>∃ (kq:Nat) (bJ:Bool),v54=.bool bJ∧Aside0 (laws_FnExactStepLine.j0 kq l0 a1 aF bI aY aG aB cD bE bJ=some r)∧Aside0 (kq≤k)∧Aside0 (Kd.R (Kd.int .i64) 3 wc w.heap.size (fun k_=>some k_≠((.slice aR aG.length aS):Value).ownBlock∧some k_≠(aV:Value).ownBlock) aU aF)∧Aside0 (Kd.R (Kd.int .i64) 3 wc w.heap.size (fun k_=>some k_≠(aU:Value).ownBlock∧some k_≠(aV:Value).ownBlock) (.slice aR aG.length aS) aG)∧Aside0 (Kd.R (Kd.int .i64) 3 wc w.heap.size (fun k_=>some k_≠(aU:Value).ownBlock∧some k_≠((.slice aR aG.length aS):Value).ownBlock) aV aB)∧Aside0 (Below w.heap.size w wc))
 case first =>
  have H:=dG.1
  clear dG
  replace H:=bi H;obtain⟨fV,dL,H⟩:=H
  replace H:=jb H;rcases H with⟨rfl,H⟩|⟨rfl,H⟩
  ·replace H:=jo H;rcases H with⟨cB,H⟩|⟨cB,H⟩
   ·have aP:=beq_iff_eq.mpr cB
    have bF:=bne_eq_false_iff_eq.mpr cB
    clear cB
    (first|rw[aP]|(simp only[P9,i6];rw[aP])|skip)
    have H':=am H
    clear H
    obtain⟨dM,dN,dO⟩:=Kd.R_slice aI.1
    subst dO
    obtain⟨dP,dQ,dR⟩:=Kd.R_slice aD.1
    subst dR
    go_wp2_with (first|((with_reducible refine J0 (f:=11) rfl ?_);refine gl' 43 Tryz.func11 #[.slice dM aB.length dN,.slice dP aF.length dQ] ?_;(with_reducible refine(N5.calls k _ _ aB _ _ aF true _ ?side1 ?side2 ?side3 ?side4 dL.1).mono ?_);(case side1=>exact M8 (Kd.R_reads' aI.1).2.2);(case side2=>exact(Kd.R_reads' aI.1).2.1);(case side3=>exact M8 (Kd.R_reads' aD.1).2.2);(case side4=>exact(Kd.R_reads' aD.1).2.1);rintro e w' ⟨rfl,⟨nd,rfl⟩⟩;refine⟨_,rfl,?_⟩))
    go_meet
    case rel=>exact⟨_,((bE != aY)),fz,H',⟨by first|omega|exact Nat.le_refl _⟩,⟨by(with_reducible repeat(first|apply Kd.R_alloc|apply Kd.R_drewN|apply Kd.R_drew));exact Kd.R_mono aD.1 (fun _ hk=>⟨hk.1.2,hk.2⟩)⟩,⟨by(with_reducible repeat(first|apply Kd.R_alloc|apply Kd.R_drewN|apply Kd.R_drew));exact Kd.R_mono aK.1 (fun _ hk=>⟨hk.1.2,hk.2⟩)⟩,⟨by(with_reducible repeat(first|apply Kd.R_alloc|apply Kd.R_drewN|apply Kd.R_drew));exact Kd.R_mono aI.1 (fun _ hk=>⟨hk.1.2,hk.2⟩)⟩,⟨bz⟩⟩
   have aP:=beq_eq_false_iff_ne.mpr cB
   have bF:=bne_iff_ne.mpr cB
   (first|rw[aP]|(simp only[P9,i6];rw[aP])|skip)
   have H':=am H
   clear H
   obtain⟨dS,dT,dU⟩:=Kd.R_slice aI.1
   subst dU
   obtain⟨dV,dW,dX⟩:=Kd.R_slice aD.1
   subst dX
   go_wp2_with (first|((with_reducible refine J0 (f:=11) rfl ?_);refine gl' 43 Tryz.func11 #[.slice dS aB.length dT,.slice dV aF.length dW] ?_;(with_reducible refine(N5.calls k _ _ aB _ _ aF true _ ?side1 ?side2 ?side3 ?side4 dL.1).mono ?_);(case side1=>exact M8 (Kd.R_reads' aI.1).2.2);(case side2=>exact(Kd.R_reads' aI.1).2.1);(case side3=>exact M8 (Kd.R_reads' aD.1).2.2);(case side4=>exact(Kd.R_reads' aD.1).2.1);rintro e w' ⟨rfl,⟨nd,rfl⟩⟩;refine⟨_,rfl,?_⟩))
   go_meet
   case rel=>exact⟨_,(true),fz,H',⟨by first|omega|exact Nat.le_refl _⟩,⟨by(with_reducible repeat(first|apply Kd.R_alloc|apply Kd.R_drewN|apply Kd.R_drew));exact Kd.R_mono aD.1 (fun _ hk=>⟨hk.1.2,hk.2⟩)⟩,⟨by(with_reducible repeat(first|apply Kd.R_alloc|apply Kd.R_drewN|apply Kd.R_drew));exact Kd.R_mono aK.1 (fun _ hk=>⟨hk.1.2,hk.2⟩)⟩,⟨by(with_reducible repeat(first|apply Kd.R_alloc|apply Kd.R_drewN|apply Kd.R_drew));exact Kd.R_mono aI.1 (fun _ hk=>⟨hk.1.2,hk.2⟩)⟩,⟨bz⟩⟩
  have H':=am H
  clear H
  obtain⟨dY,dZ,eA⟩:=Kd.R_slice aI.1
  subst eA
  obtain⟨eB,eC,eD⟩:=Kd.R_slice aD.1
  subst eD
  go_wp2_with (first|((with_reducible refine J0 (f:=11) rfl ?_);refine gl' 43 Tryz.func11 #[.slice dY aB.length dZ,.slice eB aF.length eC] ?_;(with_reducible refine(N5.calls k _ _ aB _ _ aF false _ ?side1 ?side2 ?side3 ?side4 dL.1).mono ?_);(case side1=>exact M8 (Kd.R_reads' aI.1).2.2);(case side2=>exact(Kd.R_reads' aI.1).2.1);(case side3=>exact M8 (Kd.R_reads' aD.1).2.2);(case side4=>exact(Kd.R_reads' aD.1).2.1);rintro e w' ⟨rfl,⟨nd,rfl⟩⟩;refine⟨_,rfl,?_⟩))
  go_meet
  case rel=>exact⟨_,(true),fz,H',⟨by first|omega|exact Nat.le_refl _⟩,⟨by(with_reducible repeat(first|apply Kd.R_alloc|apply Kd.R_drewN|apply Kd.R_drew));exact Kd.R_mono aD.1 (fun _ hk=>⟨hk.1.2,hk.2⟩)⟩,⟨by(with_reducible repeat(first|apply Kd.R_alloc|apply Kd.R_drewN|apply Kd.R_drew));exact Kd.R_mono aK.1 (fun _ hk=>⟨hk.1.2,hk.2⟩)⟩,⟨by(with_reducible repeat(first|apply Kd.R_alloc|apply Kd.R_drewN|apply Kd.R_drew));exact Kd.R_mono aI.1 (fun _ hk=>⟨hk.1.2,hk.2⟩)⟩,⟨bz⟩⟩
 case rest =>
  clear dG
  try clear c1
  try clear p2
  try clear c3
  try clear bX
  try clear bY
  try clear c4
  try clear bZ
  try clear cA
  try clear c6
  try clear c11
  try clear c16
  try clear c17
  try clear cB
  try clear aP
  try clear bF
  obtain⟨kq,bJ,rfl,HA,cK,aC,aN,aA,HB⟩:=hcut
  cases kq with
  |zero=>exact absurd HA.1 (by simp[laws_FnExactStepLine.j0])
  |succ cC =>
   have H:=HA.1
   clear HA
   simp only[laws_FnExactStepLine.j0]at H
   replace H:=jb H;rcases H with⟨rfl,H⟩|⟨rfl,H⟩
   ·obtain rfl:=Option.some.inj H
    go_wp2
    go_ret
    exact⟨fe,bz⟩
   replace H:=bi H;obtain⟨aQ,fW,H⟩:=H
   replace H:=bi H;obtain⟨fX,fY,H⟩:=H
   replace H:=jb H;rcases H with⟨rfl,H⟩|⟨rfl,H⟩
   ·replace H:=bi H;obtain⟨⟨cY,cZ⟩,A29,H⟩:=H
    have cL:=am H
    clear H
    go_upto_region 14 with(first|((with_reducible refine J0 (f:=31) rfl ?_);refine gl' 57 Tryz.func31 #[.slice A0 l0.length c0] ?_;(with_reducible refine(R7.calls cC _ _ l0 aQ _ ?side1 ?side2 fW.1).mono ?_);(case side1=>exact M8 (Kd.C_below cW.1 HB.1));(case side2=>exact cX.1);rintro e w31 ⟨dA,rfl,aJ,hb⟩;refine⟨_,rfl,?_⟩;have aL:=am (Kd.R_lower (Kd.R_new' (Kd.R_new' (Kd.R_new' aJ (Kd.R_lt (rR aC))) (Kd.R_lt (rR aN))) (Kd.R_lt (rR aA))) (C5 bz));replace aC:=am (Kd.R_elder' (rR aC) (Kd.R_base aJ) hb);replace aN:=am (Kd.R_elder' (rR aN) (Kd.R_base aJ) hb);replace aA:=am (Kd.R_elder' (rR aA) (Kd.R_base aJ) hb);replace HB:=am (E8 bz hb);clear hb;clear aJ;obtain⟨cM,cN,eE⟩:=Kd.R_slice aL.1;subst eE)|((with_reducible refine J0 (f:=11) rfl ?_);refine gl' 58 Tryz.func11 #[.slice aR aG.length aS,.slice cM aQ.length cN] ?_;(with_reducible refine(N5.calls cC _ _ aG _ _ aQ true _ ?side1 ?side2 ?side3 ?side4 fY.1).mono ?_);(case side1=>exact M8 (Kd.R_reads' aN.1).2.2);(case side2=>exact(Kd.R_reads' aN.1).2.1);(case side3=>exact M8 (Kd.R_reads' aL.1).2.2);(case side4=>exact(Kd.R_reads' aL.1).2.1);rintro e w' ⟨rfl,⟨nd,rfl⟩⟩;refine⟨_,rfl,?_⟩)|((with_reducible refine J0 (f:=12) rfl ?_);refine gl' 62 Tryz.func12 #[.slice aR aG.length aS,.int .i64 1] ?_;(with_reducible refine(R1.calls cC (fun k_=>some k_=(.slice aR aG.length aS:Value).ownBlock) (.slice aR aG.length aS) aG 1 cY cZ w _ ?side1 ?side2 A29.1).mono ?_);(case side1=>repeat(first|(with_reducible first|exact HB.1|apply R2|apply J8|apply F8)|exact HB.1));(case side2=>exact Kd.R_tight rfl aN.1);rintro e w33 ⟨rfl,bK,hb,hkp⟩;refine⟨_,rfl,?_⟩;replace aC:=am (Kd.R_mono (ok':=fun k_=>some k_≠(.slice aR aG.length aS:Value).ownBlock∧some k_≠(aV:Value).ownBlock∧some k_≠(.slice cM aQ.length cN:Value).ownBlock) (Kd.R_keptB (aC.1) hkp (fun k_ hk_ hs_=>(hk_.1.1) hs_)) (fun k_ hk_=>⟨hk_.1.1.1,hk_.1.1.2,hk_.1.2⟩));replace aN:=am (Kd.R_reok rfl bK (fun k_ e_=>aN.1.1 k_ e_));replace aA:=am (Kd.R_mono (ok':=fun k_=>some k_≠(aU:Value).ownBlock∧some k_≠(.slice aR aG.length aS:Value).ownBlock∧some k_≠(.slice cM aQ.length cN:Value).ownBlock) (Kd.R_keptB (aA.1) hkp (fun k_ hk_ hs_=>(hk_.1.2) hs_)) (fun k_ hk_=>⟨hk_.1.1.1,hk_.1.1.2,hk_.1.2⟩));replace aL:=am (Kd.R_mono (ok':=fun k_=>some k_≠(aU:Value).ownBlock∧some k_≠(.slice aR aG.length aS:Value).ownBlock∧some k_≠(aV:Value).ownBlock) (Kd.R_keptB (aL.1) hkp (fun k_ hk_ hs_=>(hk_.1.2) hs_)) (fun k_ hk_=>⟨hk_.1.1.1.2,hk_.1.1.2,hk_.1.2⟩));replace HB:=am (hb);clear hb;(try clear hkp);(try clear bK)))
    (try simp only[Act.put,List.setIfInBounds_toArray,List.set_cons_zero,List.set_cons_succ])
    go_cut [80] (fun v80 wc=>∃ (kq:Nat) (bD:Bool),v80=.bool bD∧Aside0 (laws_FnExactStepLine.j1 kq l0 a1 aF bI aY aB bD=some r)∧Aside0 (kq≤cC)∧Aside0 (Kd.R (Kd.int .i64) 3 wc w.heap.size (fun k_=>some k_≠(aV:Value).ownBlock) aU aF)∧Aside0 (Kd.R (Kd.int .i64) 3 wc w.heap.size (fun k_=>some k_≠(aU:Value).ownBlock) aV aB)∧Aside0 (Below w.heap.size w wc))
    case first =>
     have H:=cL.1
     clear cL
     replace H:=jo H;rcases H with⟨cO,H⟩|⟨cO,H⟩
     ·have aW:=decide_eq_true cO
      clear cO
      (first|rw[aW]|(simp only[P9,i6];rw[aW])|skip)
      have H':=am H
      clear H
      go_wp2
      go_meet
      case rel=>exact⟨_,(true),fz,H',⟨by have:=cK.1;first|omega|exact Nat.le_refl _⟩,⟨by(with_reducible repeat(first|apply Kd.R_alloc|apply Kd.R_drewN|apply Kd.R_drew));exact Kd.R_mono aC.1 (fun _ hk=>hk.2.1)⟩,⟨by(with_reducible repeat(first|apply Kd.R_alloc|apply Kd.R_drewN|apply Kd.R_drew));exact Kd.R_mono aA.1 (fun _ hk=>hk.1)⟩,⟨bz⟩⟩
     have aW:=decide_eq_false cO
     clear cO
     (first|rw[aW]|(simp only[P9,i6];rw[aW])|skip)
     replace H:=bi H;obtain⟨fZ,eF,H⟩:=H
     replace H:=jb H;rcases H with⟨rfl,H⟩|⟨rfl,H⟩
     ·replace H:=jo H;rcases H with⟨cE,H⟩|⟨cE,H⟩
      ·have bL:=beq_iff_eq.mpr cE
       have bM:=bne_eq_false_iff_eq.mpr cE
       clear cE
       have H':=am H
       clear H
       obtain⟨Ao38,co38,eG⟩:=Kd.R_slice aA.1
       subst eG
       obtain⟨Ao39,co39,eH⟩:=Kd.R_slice aC.1
       subst eH
       go_wp2_with (first|(go_at_call 11;(with_reducible refine(N5.calls cC _ _ aB _ _ aF true _ ?side1 ?side2 ?side3 ?side4 eF.1).mono ?_);(case side1=>exact M8 (Kd.R_reads' aA.1).2.2);(case side2=>exact(Kd.R_reads' aA.1).2.1);(case side3=>exact M8 (Kd.R_reads' aC.1).2.2);(case side4=>exact(Kd.R_reads' aC.1).2.1);rintro e w' ⟨rfl,⟨nd,rfl⟩⟩))
       go_meet
       case rel=>exact⟨_,((bE != aY)),fz,H',⟨by have:=cK.1;first|omega|exact Nat.le_refl _⟩,⟨by(with_reducible repeat(first|apply Kd.R_alloc|apply Kd.R_drewN|apply Kd.R_drew));exact Kd.R_mono aC.1 (fun _ hk=>hk.2.1)⟩,⟨by(with_reducible repeat(first|apply Kd.R_alloc|apply Kd.R_drewN|apply Kd.R_drew));exact Kd.R_mono aA.1 (fun _ hk=>hk.1)⟩,⟨bz⟩⟩
      have bL:=beq_eq_false_iff_ne.mpr cE
      have bM:=bne_iff_ne.mpr cE
      have H':=am H
      clear H
      obtain⟨Ao40,co40,eI⟩:=Kd.R_slice aA.1
      subst eI
      obtain⟨Ao41,co41,eJ⟩:=Kd.R_slice aC.1
      subst eJ
      go_wp2_with (first|(go_at_call 11;(with_reducible refine(N5.calls cC _ _ aB _ _ aF true _ ?side1 ?side2 ?side3 ?side4 eF.1).mono ?_);(case side1=>exact M8 (Kd.R_reads' aA.1).2.2);(case side2=>exact(Kd.R_reads' aA.1).2.1);(case side3=>exact M8 (Kd.R_reads' aC.1).2.2);(case side4=>exact(Kd.R_reads' aC.1).2.1);rintro e w' ⟨rfl,⟨nd,rfl⟩⟩))
      go_meet
      case rel=>exact⟨_,(true),fz,H',⟨by have:=cK.1;first|omega|exact Nat.le_refl _⟩,⟨by(with_reducible repeat(first|apply Kd.R_alloc|apply Kd.R_drewN|apply Kd.R_drew));exact Kd.R_mono aC.1 (fun _ hk=>hk.2.1)⟩,⟨by(with_reducible repeat(first|apply Kd.R_alloc|apply Kd.R_drewN|apply Kd.R_drew));exact Kd.R_mono aA.1 (fun _ hk=>hk.1)⟩,⟨bz⟩⟩
     have H':=am H
     clear H
     obtain⟨Ao42,co42,eK⟩:=Kd.R_slice aA.1
     subst eK
     obtain⟨Ao43,co43,eL⟩:=Kd.R_slice aC.1
     subst eL
     go_wp2_with (first|(go_at_call 11;(with_reducible refine(N5.calls cC _ _ aB _ _ aF false _ ?side1 ?side2 ?side3 ?side4 eF.1).mono ?_);(case side1=>exact M8 (Kd.R_reads' aA.1).2.2);(case side2=>exact(Kd.R_reads' aA.1).2.1);(case side3=>exact M8 (Kd.R_reads' aC.1).2.2);(case side4=>exact(Kd.R_reads' aC.1).2.1);rintro e w' ⟨rfl,⟨nd,rfl⟩⟩))
     go_meet
     case rel=>exact⟨_,(true),fz,H',⟨by have:=cK.1;first|omega|exact Nat.le_refl _⟩,⟨by(with_reducible repeat(first|apply Kd.R_alloc|apply Kd.R_drewN|apply Kd.R_drew));exact Kd.R_mono aC.1 (fun _ hk=>hk.2.1)⟩,⟨by(with_reducible repeat(first|apply Kd.R_alloc|apply Kd.R_drewN|apply Kd.R_drew));exact Kd.R_mono aA.1 (fun _ hk=>hk.1)⟩,⟨bz⟩⟩
    case rest =>
     clear cL
     try clear c1
     try clear c2
     try clear p2
     try clear c3
     try clear bX
     try clear bY
     try clear c4
     try clear bZ
     try clear cA
     try clear c6
     try clear c11
     try clear c12
     try clear c16
     try clear c17
     try clear cB
     try clear aP
     try clear bF
     try clear c25
     try clear c28
     try clear c31
     try clear cO
     try clear aW
     try clear c36
     try clear cE
     try clear bL
     try clear bM
     try clear p2
     obtain⟨kq,bD,rfl,HA,cP,aC,aA,HB⟩:=hcut
     cases kq with
     |zero=>exact absurd HA.1 (by simp[laws_FnExactStepLine.j1])
     |succ aT =>
      have H:=HA.1
      clear HA
      simp only[laws_FnExactStepLine.j1]at H
      replace H:=jb H;rcases H with⟨rfl,H⟩|⟨rfl,H⟩
      ·obtain rfl:=Option.some.inj H
       go_wp2
       go_ret
       exact⟨fe,bz⟩
      replace H:=bi H;obtain⟨⟨bG,aE⟩,eM,H⟩:=H
      replace H:=bi H;obtain⟨bN,eN,H⟩:=H
      replace H:=jo H;rcases H with⟨cU,H⟩|⟨cU,H⟩
      ·have cF:=decide_eq_true cU
       clear cU
       obtain rfl:=Option.some.inj H
       obtain⟨bO,bP,eO⟩:=Kd.R_slice aA.1
       subst eO
       go_wp2_with (first|((with_reducible refine J0 (f:=12) rfl ?_);refine gl' 83 Tryz.func12 #[.slice bO aB.length bP,.int .i64 1] ?_;(with_reducible refine(R1.calls aT (fun k_=>some k_=(.slice bO aB.length bP:Value).ownBlock) (.slice bO aB.length bP) aB 1 bG aE w _ ?side1 ?side2 eM.1).mono ?_);(case side1=>repeat(first|(with_reducible first|exact HB.1|apply R2|apply J8|apply F8)|exact HB.1));(case side2=>exact Kd.R_tight rfl aA.1);rintro e w49 ⟨rfl,bK,hb,hkp⟩;refine⟨_,rfl,?_⟩;replace aC:=am (Kd.R_mono (ok':=fun k_=>some k_≠(.slice bO aB.length bP:Value).ownBlock) (Kd.R_keptB (aC.1) hkp (fun k_ hk_ hs_=>(hk_) hs_)) (fun k_ hk_=>hk_.1));replace aA:=am (Kd.R_reok rfl bK (fun k_ e_=>aA.1.1 k_ e_));replace HB:=am (hb);clear hb;(try clear hkp);(try clear bK))|((with_reducible refine J0 (f:=13) rfl ?_);refine gl' 86 Tryz.func13 #[.slice bO aE.length bP,.int .i64 1] ?_ (hargs:=by(try simp only[List.map_toArray,List.map_cons,List.map_nil]);first|done|(rw[show aE.length=aB.length from(Kd.R_reads' aA.1).1.symm]<;>rfl)|rfl|(simp only[List.length_drop,List.length_take];rfl));(with_reducible refine(O8.calls aT _ _ aE 1 bN _ ?side1 ?side2 eN.1).mono ?_);(case side1=>exact M8 (Kd.R_reads' aA.1).2.2);(case side2=>rw[show aE.length=aB.length from(Kd.R_reads' aA.1).1.symm];exact(Kd.R_reads' aA.1).2.1);rintro e w' ⟨rfl,⟨nd,rfl⟩⟩;refine⟨_,rfl,?_⟩))
       go_ret
       exact⟨fe,bz⟩
      have cF:=decide_eq_false cU
      clear cU
      replace H:=jo H;rcases H with⟨cQ,H⟩|⟨cQ,H⟩
      ·have cG:=beq_iff_eq.mpr cQ
       have cH:=bne_eq_false_iff_eq.mpr cQ
       clear cQ
       replace H:=bi H;obtain⟨bQ,A51,H⟩:=H
       replace H:=bi H;obtain⟨⟨aX,dB,cI⟩,A52,H⟩:=H
       have cR:=am H
       clear H
       obtain⟨bA,bB,eP⟩:=Kd.R_slice aA.1
       subst eP
       go_upto_region 25 with(first|((with_reducible refine J0 (f:=12) rfl ?_);refine gl' 83 Tryz.func12 #[.slice bA aB.length bB,.int .i64 1] ?_;(with_reducible refine(R1.calls aT (fun k_=>some k_=(.slice bA aB.length bB:Value).ownBlock) (.slice bA aB.length bB) aB 1 bG aE w _ ?side1 ?side2 eM.1).mono ?_);(case side1=>repeat(first|(with_reducible first|exact HB.1|apply R2|apply J8|apply F8)|exact HB.1));(case side2=>exact Kd.R_tight rfl aA.1);rintro e w55 ⟨rfl,bK,hb,hkp⟩;refine⟨_,rfl,?_⟩;replace aC:=am (Kd.R_mono (ok':=fun k_=>some k_≠(.slice bA aB.length bB:Value).ownBlock) (Kd.R_keptB (aC.1) hkp (fun k_ hk_ hs_=>(hk_) hs_)) (fun k_ hk_=>hk_.1));replace aA:=am (Kd.R_reok rfl bK (fun k_ e_=>aA.1.1 k_ e_));replace HB:=am (hb);clear hb;(try clear hkp);(try clear bK))|((with_reducible refine J0 (f:=13) rfl ?_);refine gl' 86 Tryz.func13 #[.slice bA aE.length bB,.int .i64 1] ?_ (hargs:=by(try simp only[List.map_toArray,List.map_cons,List.map_nil]);first|done|(rw[show aE.length=aB.length from(Kd.R_reads' aA.1).1.symm]<;>rfl)|rfl|(simp only[List.length_drop,List.length_take];rfl));(with_reducible refine(O8.calls aT _ _ aE 1 bN _ ?side1 ?side2 eN.1).mono ?_);(case side1=>exact M8 (Kd.R_reads' aA.1).2.2);(case side2=>rw[show aE.length=aB.length from(Kd.R_reads' aA.1).1.symm];exact(Kd.R_reads' aA.1).2.1);rintro e w' ⟨rfl,⟨nd,rfl⟩⟩;refine⟨_,rfl,?_⟩)|((with_reducible refine J0 (f:=31) rfl ?_);refine gl' 94 Tryz.func31 #[.slice A0 l0.length c0] ?_;(with_reducible refine(R7.calls aT _ _ l0 bQ _ ?side1 ?side2 A51.1).mono ?_);(case side1=>repeat(first|exact(Kd.C_below cW.1 bz)|(with_reducible refine Kd.C_alloc ?_ _)|(with_reducible refine Kd.C_drewN ?_ _)|(with_reducible refine Kd.C_drew ?_)));(case side2=>exact cX.1);rintro e w56 ⟨gA,rfl,aJ,hb⟩;refine⟨_,rfl,?_⟩;have aO:=am (Kd.R_lower (Kd.R_new' (Kd.R_new' aJ (Kd.R_lt (rR aC))) (Kd.R_lt (rR aA))) (C5 bz));replace aC:=am (Kd.R_elder' (rR aC) (Kd.R_base aJ) hb);replace aA:=am (Kd.R_elder' (rR aA) (Kd.R_base aJ) hb);replace HB:=am (E8 bz hb);clear hb;clear aJ;obtain⟨eQ,eR,eS⟩:=Kd.R_slice aO.1;subst eS)|((with_reducible refine J0 (f:=16) rfl ?_);refine gl' 96 Tryz.func16 #[.slice eQ bQ.length eR,.string a1] ?_;(with_reducible refine(X8.calls aT _ _ bQ a1 aX dB cI _ ?side1 ?side2 A52.1 (by first|exact HL_.1|exact HL_.1.drewN _|exact HL_.1.below HB.1|(refine HL_.1.below ?_;repeat(first|(with_reducible first|exact HB.1|apply R2|apply J8|apply F8)|exact HB.1))|(refine HL_.1.below ?_;repeat(first|(with_reducible first|exact Below.refl _ _|apply R2|apply J8|apply F8)|exact Below.refl _ _)))).mono ?_);(case side1=>exact M8 (Kd.R_reads' aO.1).2.2);(case side2=>exact(Kd.R_reads' aO.1).2.1);rintro e w58 ⟨gC,rfl,aJ,hb⟩;refine⟨_,rfl,?_⟩;have aM:=am (Kd.R_lower (Kd.R_new' (Kd.R_new' (Kd.R_new' aJ (Kd.R_lt (rR aC))) (Kd.R_lt (rR aA))) (Kd.R_lt (rR aO))) (C5 bz));replace aC:=am (Kd.R_elder' (rR aC) (Kd.R_base aJ) hb);replace aA:=am (Kd.R_elder' (rR aA) (Kd.R_base aJ) hb);replace aO:=am (Kd.R_elder' (rR aO) (Kd.R_base aJ) hb);replace HB:=am (E8 bz hb);clear hb;clear aJ))
       (try simp only[Act.put,List.setIfInBounds_toArray,List.set_cons_zero,List.set_cons_succ])
       go_cut [113] (fun eU wc=>∃ (kq:Nat) (bC:Bool),eU=.bool bC∧Aside0 (laws_FnExactStepLine.j2 kq aE bG bC=some r)∧Aside0 (kq≤aT)∧Aside0 (Kd.R (Kd.int .i64) 3 wc w.heap.size (fun _=>True) (.slice bA aB.length bB) aE)∧Aside0 (Below w.heap.size w wc))
       case first =>
        have H:=cR.1
        clear cR
        replace H:=bi H;obtain⟨gD,eV,H⟩:=H
        replace H:=jb H;rcases H with⟨rfl,H⟩|⟨rfl,H⟩
        ·replace H:=jo H;rcases H with⟨cS,H⟩|⟨cS,H⟩
         ·have aZ:=beq_iff_eq.mpr cS
          have cJ:=bne_eq_false_iff_eq.mpr cS
          clear cS
          (first|rw[aZ]|(simp only[P9,i6];rw[aZ])|skip)
          have H':=am H
          clear H
          obtain⟨eW,eX,eY⟩:=Kd.R_slice aM.1
          subst eY
          obtain⟨eZ,fA,fB⟩:=Kd.R_slice aC.1
          subst fB
          go_wp2_with (first|((with_reducible refine J0 (f:=11) rfl ?_);refine gl' 102 Tryz.func11 #[.slice eW aX.length eX,.slice eZ aF.length fA] ?_;(with_reducible refine(N5.calls aT _ _ aX _ _ aF true _ ?side1 ?side2 ?side3 ?side4 eV.1).mono ?_);(case side1=>exact M8 (Kd.R_reads' aM.1).2.2);(case side2=>exact(Kd.R_reads' aM.1).2.1);(case side3=>exact M8 (Kd.R_reads' aC.1).2.2);(case side4=>exact(Kd.R_reads' aC.1).2.1);rintro e w' ⟨rfl,⟨nd,rfl⟩⟩;refine⟨_,rfl,?_⟩))
          go_meet
          case rel=>exact⟨_,((cI != aY)),fz,H',⟨by have:=cK.1;have:=cP.1;first|omega|exact Nat.le_refl _⟩,⟨by(with_reducible repeat(first|apply Kd.R_alloc|apply Kd.R_drewN|apply Kd.R_drew));exact Kd.R_mono aA.1 (fun _ hk=>trivial)⟩,⟨bz⟩⟩
         have aZ:=beq_eq_false_iff_ne.mpr cS
         have cJ:=bne_iff_ne.mpr cS
         (first|rw[aZ]|(simp only[P9,i6];rw[aZ])|skip)
         have H':=am H
         clear H
         obtain⟨fC,fD,fE⟩:=Kd.R_slice aM.1
         subst fE
         obtain⟨fF,fG,fH⟩:=Kd.R_slice aC.1
         subst fH
         go_wp2_with (first|((with_reducible refine J0 (f:=11) rfl ?_);refine gl' 102 Tryz.func11 #[.slice fC aX.length fD,.slice fF aF.length fG] ?_;(with_reducible refine(N5.calls aT _ _ aX _ _ aF true _ ?side1 ?side2 ?side3 ?side4 eV.1).mono ?_);(case side1=>exact M8 (Kd.R_reads' aM.1).2.2);(case side2=>exact(Kd.R_reads' aM.1).2.1);(case side3=>exact M8 (Kd.R_reads' aC.1).2.2);(case side4=>exact(Kd.R_reads' aC.1).2.1);rintro e w' ⟨rfl,⟨nd,rfl⟩⟩;refine⟨_,rfl,?_⟩))
         go_meet
         case rel=>exact⟨_,(true),fz,H',⟨by have:=cK.1;have:=cP.1;first|omega|exact Nat.le_refl _⟩,⟨by(with_reducible repeat(first|apply Kd.R_alloc|apply Kd.R_drewN|apply Kd.R_drew));exact Kd.R_mono aA.1 (fun _ hk=>trivial)⟩,⟨bz⟩⟩
        have H':=am H
        clear H
        obtain⟨fI,fJ,fK⟩:=Kd.R_slice aM.1
        subst fK
        obtain⟨fL,fM,fN⟩:=Kd.R_slice aC.1
        subst fN
        go_wp2_with (first|((with_reducible refine J0 (f:=11) rfl ?_);refine gl' 102 Tryz.func11 #[.slice fI aX.length fJ,.slice fL aF.length fM] ?_;(with_reducible refine(N5.calls aT _ _ aX _ _ aF false _ ?side1 ?side2 ?side3 ?side4 eV.1).mono ?_);(case side1=>exact M8 (Kd.R_reads' aM.1).2.2);(case side2=>exact(Kd.R_reads' aM.1).2.1);(case side3=>exact M8 (Kd.R_reads' aC.1).2.2);(case side4=>exact(Kd.R_reads' aC.1).2.1);rintro e w' ⟨rfl,⟨nd,rfl⟩⟩;refine⟨_,rfl,?_⟩))
        go_meet
        case rel=>exact⟨_,(true),fz,H',⟨by have:=cK.1;have:=cP.1;first|omega|exact Nat.le_refl _⟩,⟨by(with_reducible repeat(first|apply Kd.R_alloc|apply Kd.R_drewN|apply Kd.R_drew));exact Kd.R_mono aA.1 (fun _ hk=>trivial)⟩,⟨bz⟩⟩
       case rest =>
        clear cR
        try clear c1
        try clear c2
        try clear p2
        try clear c3
        try clear bX
        try clear bY
        try clear c4
        try clear bZ
        try clear cA
        try clear c5
        try clear c6
        try clear c11
        try clear c12
        try clear c13
        try clear c16
        try clear c17
        try clear cB
        try clear aP
        try clear bF
        try clear c25
        try clear c28
        try clear c31
        try clear cO
        try clear aW
        try clear c36
        try clear cE
        try clear bL
        try clear bM
        try clear c44
        try clear cU
        try clear cF
        try clear cQ
        try clear cG
        try clear cH
        try clear c60
        try clear cS
        try clear aZ
        try clear cJ
        try clear p2
        obtain⟨kq,bC,rfl,HA,HJ52,aA,HB⟩:=hcut
        have bT:=(Kd.R_reads' aA.1).1
        rw[bT]at aA
        (try simp only[bT])
        cases kq with
        |zero=>exact absurd HA.1 (by simp[laws_FnExactStepLine.j2])
        |succ cT =>
         have H:=HA.1
         clear HA
         simp only[laws_FnExactStepLine.j2]at H
         replace H:=jb H;rcases H with⟨rfl,H⟩|⟨rfl,H⟩
         ·obtain rfl:=Option.some.inj H
          go_wp2
          go_ret
          exact⟨fe,bz⟩
         replace H:=bi H;obtain⟨bU,fO,H⟩:=H
         replace H:=jo H;rcases H with⟨dC,H⟩|⟨dC,H⟩
         ·have dD:=decide_eq_true dC
          clear dC
          obtain rfl:=Option.some.inj H
          go_wp2_with (first|((with_reducible refine J0 (f:=13) rfl ?_);refine gl' 116 Tryz.func13 #[.slice bA aE.length bB,.int .i64 1] ?_;(with_reducible refine(O8.calls cT _ _ aE 1 bU _ ?side1 ?side2 fO.1).mono ?_);(case side1=>exact M8 (Kd.R_reads' aA.1).2.2);(case side2=>exact(Kd.R_reads' aA.1).2.1);rintro e w' ⟨rfl,⟨nd,rfl⟩⟩;refine⟨_,rfl,?_⟩))
          go_ret
          exact⟨fe,bz⟩
         have dD:=decide_eq_false dC
         clear dC
         replace H:=jo H;rcases H with⟨cV,H⟩|⟨cV,H⟩
         ·have dE:=beq_iff_eq.mpr cV
          have dF:=bne_eq_false_iff_eq.mpr cV
          clear cV
          obtain rfl:=Option.some.inj H
          go_wp2_with (first|((with_reducible refine J0 (f:=13) rfl ?_);refine gl' 116 Tryz.func13 #[.slice bA aE.length bB,.int .i64 1] ?_;(with_reducible refine(O8.calls cT _ _ aE 1 bU _ ?side1 ?side2 fO.1).mono ?_);(case side1=>exact M8 (Kd.R_reads' aA.1).2.2);(case side2=>exact(Kd.R_reads' aA.1).2.1);rintro e w' ⟨rfl,⟨nd,rfl⟩⟩;refine⟨_,rfl,?_⟩))
          go_ret
          exact⟨fe,bz⟩
         have dE:=beq_eq_false_iff_ne.mpr cV
         have dF:=bne_iff_ne.mpr cV
         obtain rfl:=Option.some.inj H
         go_wp2_with (first|((with_reducible refine J0 (f:=13) rfl ?_);refine gl' 116 Tryz.func13 #[.slice bA aE.length bB,.int .i64 1] ?_;(with_reducible refine(O8.calls cT _ _ aE 1 bU _ ?side1 ?side2 fO.1).mono ?_);(case side1=>exact M8 (Kd.R_reads' aA.1).2.2);(case side2=>exact(Kd.R_reads' aA.1).2.1);rintro e w' ⟨rfl,⟨nd,rfl⟩⟩;refine⟨_,rfl,?_⟩))
         go_ret
         exact⟨fe,bz⟩
      have cG:=beq_eq_false_iff_ne.mpr cQ
      have cH:=bne_iff_ne.mpr cQ
      obtain rfl:=Option.some.inj H
      obtain⟨bV,bW,fP⟩:=Kd.R_slice aA.1
      subst fP
      go_wp2_with (first|((with_reducible refine J0 (f:=12) rfl ?_);refine gl' 83 Tryz.func12 #[.slice bV aB.length bW,.int .i64 1] ?_;(with_reducible refine(R1.calls aT (fun k_=>some k_=(.slice bV aB.length bW:Value).ownBlock) (.slice bV aB.length bW) aB 1 bG aE w _ ?side1 ?side2 eM.1).mono ?_);(case side1=>repeat(first|(with_reducible first|exact HB.1|apply R2|apply J8|apply F8)|exact HB.1));(case side2=>exact Kd.R_tight rfl aA.1);rintro e w73 ⟨rfl,bK,hb,hkp⟩;refine⟨_,rfl,?_⟩;replace aC:=am (Kd.R_mono (ok':=fun k_=>some k_≠(.slice bV aB.length bW:Value).ownBlock) (Kd.R_keptB (aC.1) hkp (fun k_ hk_ hs_=>(hk_) hs_)) (fun k_ hk_=>hk_.1));replace aA:=am (Kd.R_reok rfl bK (fun k_ e_=>aA.1.1 k_ e_));replace HB:=am (hb);clear hb;(try clear hkp);(try clear bK))|((with_reducible refine J0 (f:=13) rfl ?_);refine gl' 86 Tryz.func13 #[.slice bV aE.length bW,.int .i64 1] ?_ (hargs:=by(try simp only[List.map_toArray,List.map_cons,List.map_nil]);first|done|(rw[show aE.length=aB.length from(Kd.R_reads' aA.1).1.symm]<;>rfl)|rfl|(simp only[List.length_drop,List.length_take];rfl));(with_reducible refine(O8.calls aT _ _ aE 1 bN _ ?side1 ?side2 eN.1).mono ?_);(case side1=>exact M8 (Kd.R_reads' aA.1).2.2);(case side2=>rw[show aE.length=aB.length from(Kd.R_reads' aA.1).1.symm];exact(Kd.R_reads' aA.1).2.1);rintro e w' ⟨rfl,⟨nd,rfl⟩⟩;refine⟨_,rfl,?_⟩))
      go_ret
      exact⟨fe,bz⟩
   obtain rfl:=Option.some.inj H
   go_wp2_with (first|((with_reducible refine J0 (f:=31) rfl ?_);refine gl' 57 Tryz.func31 #[.slice A0 l0.length c0] ?_;(with_reducible refine(R7.calls cC _ _ l0 aQ _ ?side1 ?side2 fW.1).mono ?_);(case side1=>exact M8 (Kd.C_below cW.1 HB.1));(case side2=>exact cX.1);rintro e w74 ⟨dA,rfl,aJ,hb⟩;refine⟨_,rfl,?_⟩;have aL:=am (Kd.R_lower (Kd.R_new' (Kd.R_new' (Kd.R_new' aJ (Kd.R_lt (rR aC))) (Kd.R_lt (rR aN))) (Kd.R_lt (rR aA))) (C5 bz));replace aC:=am (Kd.R_elder' (rR aC) (Kd.R_base aJ) hb);replace aN:=am (Kd.R_elder' (rR aN) (Kd.R_base aJ) hb);replace aA:=am (Kd.R_elder' (rR aA) (Kd.R_base aJ) hb);replace HB:=am (E8 bz hb);clear hb;clear aJ;obtain⟨fQ,fR,fS⟩:=Kd.R_slice aL.1;subst fS)|((with_reducible refine J0 (f:=11) rfl ?_);refine gl' 58 Tryz.func11 #[.slice aR aG.length aS,.slice fQ aQ.length fR] ?_;(with_reducible refine(N5.calls cC _ _ aG _ _ aQ false _ ?side1 ?side2 ?side3 ?side4 fY.1).mono ?_);(case side1=>exact M8 (Kd.R_reads' aN.1).2.2);(case side2=>exact(Kd.R_reads' aN.1).2.1);(case side3=>exact M8 (Kd.R_reads' aL.1).2.2);(case side4=>exact(Kd.R_reads' aL.1).2.1);rintro e w' ⟨rfl,⟨nd,rfl⟩⟩;refine⟨_,rfl,?_⟩))
   go_ret
   exact⟨fe,bz⟩
def laws_FnExactStepLine.Pure:Prop:=∀ (l0:List Int) (a1:ByteArray),l0.length≤maxLen→l0.length*8≤140737488351232→(∀x∈l0,(Lit.int .i64 x).wf=true)→a1.size≤140737488351232→∃k,laws_FnExactStepLine.f k l0 a1=some true
theorem laws_FnExactStepLine.walk (P:laws_FnExactStepLine.Pure)(a0:Option Addr) (len0 cap0:Nat)(z0:List Int)(a1:ByteArray)(w:World)(w0:(a0=none∧len0=0∧cap0=0∧z0=[])∨∃x,a0=some x∧len0≤cap0∧cap0≤maxLen∧z0.length=cap0∧(∀i,i<z0.length→w.cell? (x.add i)=some (.int .i64 (z0.getD i 0)))∧∀n∈z0,(Lit.int .i64 n).wf=true)(y0:len0*8≤140737488351232)(w1:a1.size≤140737488351232)(hL_:Go.Proofs.YtpiogigidgejpaaGreatDoor.Laid.A w) :
 Calls Tryz.prog 6 #[.slice a0 len0 cap0,.string a1] w fun e w'=>e=.returned (.bool true)∧Below w.heap.size w w':=by
 obtain⟨l0,rfl,hr0,hm0,hw0,hc0⟩:=V0.ofRowC w0
 obtain⟨k,h⟩:=P l0 a1 hm0 y0 hw0 w1
 refine(laws_FnExactStepLine.calls k _ _ l0 a1 true w (Kd.C_of_reads (d:=(0:Int)) (h1:=fun _=>rfl) hr0) hc0 h hL_).mono ?_
 rintro e w' ⟨rfl,hd⟩
 exact⟨rfl,hd⟩
end Go.Proofs.YtpiogigidgejpaaGreatDoor.PFnExactStepLine
