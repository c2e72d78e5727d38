import Derived.Test.YtpiogigidgejpaaGreatDoorPFnExactStepLinex4
namespace Go.Proofs.YtpiogigidgejpaaGreatDoor.PFnExactStepLine
open Go.RowKit Go.Proofs.YtpiogigidgejpaaGreatDoorW.PrintWords Go.Proofs.YtpiogigidgejpaaGreatDoorW.PrintLast Go.Proofs.YtpiogigidgejpaaGreatDoorW.PrintMore Go.Proofs.YtpiogigidgejpaaGreatDoor.Sq Tryz
attribute [local go_sem] g8 g9 s8 q8 Y0 X9 b8 e6
set_option maxHeartbeats 8000000
set_option maxRecDepth 100000
set_option linter.unusedVariables false
set_option linter.unusedSimpArgs false
mutual
def F3.l0:Nat→List Int→List (List Int)→Option ((List (List Int))×Bool)
 |0,_,_=>none
 |k+1,a,b=>if(a.length:Int)>0 then(F3.l1 k a b (a.length:Int))else(some (b,true))
def F3.l1:Nat→List Int→List (List Int)→Int→Option ((List (List Int))×Bool)
 |0,_,_,_=>none
 |k+1,b,c,a=>if 0≤a then(if a≤(b.length:Int)then((l7.f k (b.take (a:Int).toNat)).bind fun d=>(if d=true then((M5.f (b.take (a:Int).toNat)).bind fun e=>(if c.length<5864062014805 then(F3.l0 k (b.drop (a:Int).toNat) (c++ [e]))else(none)))else(F3.l1 k b c (wrap64 (a - 1)))))else(none))else(none)
end
def F3.f (k:Nat)(a:List Int):Option ((List (List Int))×Bool):=(AB3.f k a).bind fun b=>(if b=true then(F3.l0 k a (([]:List (List Int))))else(some (([]:List (List Int)),false)))
def F3.T8:Bool×List (List Nat×List Nat):=(true,[([],[]),([],[]),([],[]),([1,2],[1,2]),([3],[3]),([4],[4]),([0,5,4],[0,5]),([],[]),([],[]),([7,8],[7,8]),([6,6,0,1,2,3,4,5,6],[0,6]),([9,10,0,1,2,3,4,5,6,7,8,9,10],[1,7,9])])
def F3.B8:List Nat:=[0,0,0,6,14,30,63,0,0,384,127,2047]
theorem F3.tab8:AA0 .any (AC6 f142 8)=F3.T8:=by kernel_rfl
theorem F3.bits8:l6 F3.T8.2 F3.B8=true:=by kernel_rfl
theorem F3.calls (k:Nat)(P0_:Nat→Prop)(A0:Option Addr)(c0:Nat)(l0:List Int)(r1:List (List Int))(r2:Bool)(w:World)(hs0:Kd.V KI 3 w w.heap.size (fun k_=>P0_ k_) (.slice A0 l0.length c0) l0)(h:F3.f k l0=some (r1,r2)) :
 Calls prog 142 #[.slice A0 l0.length c0] w fun e w'=>∃v0_:Value,e=.returned (.tuple #[v0_,.bool r2])∧Kd.S KS 22 w' w.heap.size (fun k_=>(w.heap.size≤k_)) v0_ r1∧Below w.heap.size w w':=by
 have bO:=am (show Kd.V KI 3 w w.heap.size (fun k_=>(P0_ k_∨w.heap.size≤k_)) (.slice A0 l0.length c0) l0 from Kd.V_mono hs0 (fun k_ hk=>.inl hk))
 have HB:=bR w
 have H:=h
 clear h
 unfold F3.f at H
 revert H
 refine ib fun t365 A2=>iB ?_ ?_<;>rintro rfl
 ·generalize aV:([]:List (List Int))=y366
  replace aV:=am aV.symm
  refine ia fun H'=>?_
  go_in
  go_wp2_with (first|((with_reducible refine ga 207 ?_);refine gp func207 (AB3.calls k A0 c0 l0 true _ (M8 (Kd.V_reads' bO.1).2.2) ((Kd.V_reads' bO.1).2.1) A2.1) fun nd=>?_)|((with_reducible refine P8 (N:=9) rfl ?_);refine Kd.S_lit KS _ 22 ?hg (N:=9) ?hd (xs:=([]:List (List Int))) (inner:=[]) (ok:=fun _=>True) (okp:=fun _=>True) ?hr ?hp (fun _ hk=>hk) trivial (Below.refl _ _) (Nat.le_refl _) (by simp) ?_;(case hd=>rfl);(case hg=>rfl);(case hr=>first|(go_simp;done)|(go_simp;rfl));(case hp=>exact(J7.none _ _));intro v367 w4 cB hb hg_ hnew_;clear hg_ hnew_;(first|rw[←aV.1]at cB|(simp only[Int.reduceToNat]at cB;rw[←aV.1]at cB));replace bO:=am (Kd.V_elder' (rV bO) (Kd.S_base cB) hb);have cC:=am (Kd.S_lower (Kd.S_newM (M:=fun k_=>(w.heap.size≤k_)) cB (C5 bz) (fun k_ h_=>h_)) (C5 bz));replace HB:=bS hb;clear hb cB))
  go_loopg [0,4] k (fun kq v0 v4 w'=>∃ (aA:List Int) (aM:List (List Int)),Aside0 (F3.l0 kq aA aM=some (r1,r2))∧Aside0 (kq≤k)∧Aside0 (Kd.V KI 3 w' w.heap.size (fun k_=>(P0_ k_∨w.heap.size≤k_)∧some k_≠(v4:Value).ownBlock) v0 aA)∧Aside0 (Kd.S KS 22 w' w.heap.size (fun k_=>(w.heap.size≤k_)) v4 aM)∧Aside0 (Below w.heap.size w w'))
  case atStart=>exact⟨_,_,H',lr,⟨rV bO⟩,⟨by(with_reducible repeat(first|apply Kd.S_alloc|apply Kd.S_drewN|apply Kd.S_drew));exact Kd.S_mono cC.1 (fun _ hk=>hk.1)⟩,⟨bz⟩⟩
  case round =>
  obtain⟨aA,aM,⟨H⟩,cP,aE,aG,HB⟩:=hrel
  cases gk with
  |zero=>cases H
  |succ k1 =>
  simp only[F3.l0]at H
  revert H
  refine io ?_ ?_<;>intro c6
  ·have cR:decide (0< (aA.length:Int))=true:=(decide_eq_true c6)
   have cS:decide (0<aA.length)=true:=decide_eq_true (by omega)
   clear c6
   refine ia fun H'=>?_
   obtain⟨aR,aN,eo7⟩:=Kd.V_slice aE.1
   subst eo7
   go_wp2
   go_loopg [5] k1 (fun kq v5 w'=>∃ (aC:Int),v5=.int .i64 aC∧Aside0 (F3.l1 kq aA aM aC=some (r1,r2))∧Aside0 (kq≤k1)∧Aside0 (Kd.V KI 3 w' w.heap.size (fun k_=>(P0_ k_∨w.heap.size≤k_)∧some k_≠(u4:Value).ownBlock) (.slice aR aA.length aN) aA)∧Aside0 (Kd.S KS 22 w' w.heap.size (fun k_=>(w.heap.size≤k_)) u4 aM)∧Aside0 (Below w.heap.size w w'))
   case atStart=>exact⟨_,fz,H',lr,⟨rV aE⟩,⟨rS aG⟩,⟨bz⟩⟩
   case round =>
   obtain⟨aC,rfl,⟨H⟩,cQ,aE,aG,HB⟩:=hrel
   cases gk with
   |zero=>cases H
   |succ k2 =>
   simp only[F3.l1]at H
   revert H
   refine if' fun c8b0 c8b1=>if' fun c9b0 c9b1=>?_
   obtain⟨aI,aT⟩:=ey (aA.take (aC:Int).toNat:List Int)
   intro H
   replace H:((l7.f k2 aI).bind fun cD=>(if cD=true then((M5.f (aA.take (aC:Int).toNat)).bind fun aJ=>(if aM.length<5864062014805 then(F3.l0 k2 (aA.drop (aC:Int).toNat) (aM++ [aJ]))else(none)))else(F3.l1 k2 aA aM (wrap64 (aC - 1)))))=some (r1,r2):=by rw[aT.1];exact H
   revert H
   refine ib fun cD cZ=>iB ?_ ?_<;>rintro rfl
   ·have dA:=eq_true (od:0≤aC)
    have dB:=eq_true (od:aC≤(aA.length:Int))
    generalize aW:(aA.take (aC:Int).toNat)=bB
    replace aW:=am aW.symm
    refine ib fun aJ A14=>il fun cE=>?_
    obtain⟨y383,bI⟩:=ey (aM++ [aJ]:List (List Int))
    intro H
    rw[←bI.1]at H
    have dC:=eq_true (od:0≤aC)
    have dD:=eq_true (od:aC≤(aA.length:Int))
    obtain⟨aU,bE⟩:=ey (aA.drop (aC:Int).toNat:List Int)
    rw[←bE.1]at H
    revert H
    refine ia fun H'=>?_
    have cT:(aC:Int)≤((aA.length:Int):Int):=od
    obtain⟨i018,bJ,_,cF,_⟩:=info_parts J9
    have aX:aA.length≤aN:=(Kd.V_reads' aE.1).2.1
    have cG:Kd.F KI _ _ aR aA.length aA:=(Kd.V_at (base:=w.heap.size) aE.1).2.2
    have bF:=AF9 (P:=prog) 22 3 .i64 underlying22 bJ aR aA.length aN aC (od) cT aX
    have bP:=Kd.F_take (m:=(aC:Int).toNat) cG (by omega)
    have bQ:aI.length=(aC:Int).toNat:=(by rw[aT.1,List.length_take];omega)
    rw[←aT.1]at bP
    rw[←bQ]at bF
    have aD:=am (show Kd.V KI 3 _ w.heap.size _ (.slice aR aI.length aN) aI from Kd.V_mk (by omega) bP)
    have cH:=am (show aI.length≤aN from by omega)
    clear bP cG aX bJ cF
    have KY18:=am bQ
    clear bQ
    replace cT:=eq_true cT
    try go_wp2_with ((with_reducible refine ga 208 ?_);refine ge func208 (l7.calls k2 aR aN aI true _ (M8 (Kd.V_reads' aD.1).2.2) ((Kd.V_reads' aD.1).2.1) cZ.1) ?_;rintro w19 hb;replace aE:=am (Kd.V_below (rV aE) hb);replace aG:=am (Kd.S_below (rS aG) hb);replace aD:=am (Kd.V_below (rV aD) hb);replace HB:=bS hb;clear hb)
    replace aE:=am (Kd.V_drew aE.1)
    replace aG:=am (Kd.S_drew aG.1)
    replace aD:=am (Kd.V_drew aD.1)
    replace HB:=am (F8 HB.1)
    have cU:(aC:Int)≤((aA.length:Int):Int):=od
    obtain⟨i021,bK,_,cI,_⟩:=info_parts J9
    have aY:aA.length≤aN:=(Kd.V_reads' aE.1).2.1
    have cJ:Kd.F KI _ _ aR aA.length aA:=(Kd.V_at (base:=w.heap.size) aE.1).2.2
    clear bF;have bT:=AF9 (P:=prog) 22 3 .i64 underlying22 bK aR aA.length aN aC (od) cU aY
    have bU:=Kd.F_take (m:=(aC:Int).toNat) cJ (by omega)
    have bV:bB.length=(aC:Int).toNat:=(by rw[aW.1,List.length_take];omega)
    rw[←aW.1]at bU
    rw[←bV]at bT
    have aK:=am (show Kd.V KI 3 _ w.heap.size _ (.slice aR bB.length aN) bB from Kd.V_mk (by omega) bU)
    have dE:=am (show bB.length≤aN from by omega)
    clear bU cJ aY bK cI
    have KY21:=am bV
    clear bV
    replace cU:=eq_true cU
    have cV:(aC:Int)≤((aA.length:Int):Int):=od
    obtain⟨i022,bL,_,bM,_⟩:=info_parts J9
    have aH:aA.length≤aN:=(Kd.V_reads' aE.1).2.1
    have cK:Kd.F KI _ _ aR aA.length aA:=(Kd.V_at (base:=w.heap.size) aE.1).2.2
    have cW:(0:Int)≤(aC:Int):=od
    have bW:=AE0 (P:=prog) 22 3 .i64 underlying22 bL 1 bM aR aA.length aN aC cW cV
    have bG:=Kd.F_cut (m:=(aC:Int).toNat) (c:=aN) cK (by omega) aH
    obtain⟨A22,hA22⟩:∃A1,A1=(if aN=(aC:Int).toNat then aR else(aR:Option Addr).map (·.add ((aC:Int).toNat*1))):=⟨_,rfl⟩
    obtain⟨c22,hc22⟩:∃c1,c1=aN - (aC:Int).toNat:=⟨_,rfl⟩
    have bH:aU.length=aA.length - (aC:Int).toNat:=(by rw[bE.1,List.length_drop]<;>omega)
    rw[show(aA).drop (aC:Int).toNat=aU from bE.1.symm]at bG
    replace bG:Kd.F KI _ _ A22 aU.length aU:=(by rw[hA22];exact bG)
    rw[←bH,←hA22,←hc22]at bW
    have aQ:=am (show Kd.V KI 3 _ w.heap.size _ (.slice A22 aU.length c22) aU from Kd.V_mk (by rw[bH,hc22];exact Nat.sub_le_sub_right aH _) bG)
    have dF:=am (show aU.length≤c22 from by rw[bH,hc22];exact Nat.sub_le_sub_right aH _)
    clear bG cK aH bL bM hc22
    have KY22:=am bH
    have KA22:=am hA22
    clear bH hA22
    replace cV:=eq_true cV
    refine sq 12 (fun w'=>True) [] F3.tab8 F3.bits8 trivial fun hHeld HT_ HW_=>?_
    generalize w19.drew=w20 at aE aG aD HB aK aQ hHeld ⊢
    refine rg [0,1,2,3,7,8,9] ?_
    refine AD4 (i:=4) (N:=some 26) (lb 12 927) rfl rfl (g6 HT_.1 (by kernel_rfl)) (by decide) (fun K hK=>?_)
    refine gs' func76 #[.slice aR bB.length aN] ?_
    with_reducible refine(M5.calls _ _ bB aJ _ ?side1 ?side2 A14.1).mono ?_
    (case side1=>exact M8 (Kd.V_reads' aK.1).2.2)
    (case side2=>exact(Kd.V_reads' aK.1).2.1)
    rintro e w23 ⟨v381,rfl,bX,hb⟩
    refine⟨_,rfl,?_⟩
    replace aE:=am (Kd.V_elder' (rV aE) (Kd.R_base bX) hb)
    replace aG:=am (Kd.S_elder' (rS aG) (Kd.R_base bX) hb)
    replace aD:=am (Kd.V_elder' (rV aD) (Kd.R_base bX) hb)
    replace aK:=am (Kd.V_elder' (rV aK) (Kd.R_base bX) hb)
    replace aQ:=am (Kd.V_elder' (rV aQ) (Kd.R_base bX) hb)
    have aZ:=am (Kd.R_lower (Kd.R_newM (M:=fun k_=>(w.heap.size≤k_)) bX (C5 bz) (fun k_ h_=>h_)) (C5 bz))
    replace HB:=bS hb
    (try clear hb)
    (try clear hb2)
    (try clear hk)
    (try clear hi)
    (try clear bX)
    obtain⟨bC,bD,cL⟩:=Kd.R_slice aZ.1
    (first|subst cL|(injection cL with dG f2_ dH;have f4_:=dG.symm;have f5_:=dH.symm;clear dG f2_ dH;subst f4_;subst f5_))
    refine hK.out _ _ trivial (fun hHeld=>?_)
    clear hK K
    refine nm 26 ?_
    refine AD4 (i:=5) (N:=some 27) (lb 12 959) rfl rfl (g6 HT_.1 (by kernel_rfl)) (by decide) (fun K hK=>?_)
    refine AL9 (w1:=?_) (v:=?_) (by rfl) rfl ?_ ?_
    rotate_left 2
    ·go_simp
     constructor
     ·rfl
     ·rfl
    refine hK.out _ _ trivial (fun hHeld=>?_)
    clear hK K
    refine nm 27 ?_
    refine AD4 (i:=6) (N:=some 28) (lb 12 1023) rfl rfl (g6 HT_.1 (by kernel_rfl)) (by decide) (fun K hK=>?_)
    refine Kd.S_append_step KS (w0:=w) w.heap.size (by rfl) (.tmp 22) (.tmp 27) 127 22 (.slice none 0 0) 24 rfl underlying127 Ae5 rfl (by decide) (by omega) u4 aM aJ [.slice bC aJ.length bD] (fun k_=>(w.heap.size≤k_)) (fun k_=>some k_=(.slice bC aJ.length bD:Value).ownBlock) rfl rfl ?aP (fun k_ hk_=>((Kd.R_mono (ok':=fun k_=>((fun k_=>(w.heap.size≤k_))) k_∧some k_≠(u4:Value).ownBlock) (Kd.R_apart' (aZ.1) (Kd.S_typed aG.1) (by decide)) (fun k_ hk=>⟨hk.1.1,hk.2⟩))).1 k_ hk_.symm) ?aF ?aO ?aB ?aS ?aL ?_
    (case aP=>exact Kd.M_row (Kd.R_mono (Kd.R_tight rfl (Kd.R_mono (ok':=fun k_=>((fun k_=>(w.heap.size≤k_))) k_∧some k_≠(u4:Value).ownBlock) (Kd.R_apart' (aZ.1) (Kd.S_typed aG.1) (by decide)) (fun k_ hk=>⟨hk.1.1,hk.2⟩))) (fun _ h_=>h_)))
    (case aB=>exact bz)
    (case aF=>exact(fun k_ hk=>(Nat.le_trans (C5 bz) hk)))
    (case aO=>exact(by(with_reducible repeat(first|apply Kd.S_alloc|apply Kd.S_drewN|apply Kd.S_drew));exact Kd.S_mono aG.1 (fun k_ hk=>⟨hk.1,fun e_=>hk.2 e_⟩)))
    (case aS=>exact(C5 bz))
    (case aL=>have:=cE.1;omega)
    intro v384 w24 ho hb hg hat
    rw[←bI.1]at ho
    replace aE:=am (Kd.V_afterv (ok:=(fun k_=>(P0_ k_∨w.heap.size≤k_)∧some k_≠(.slice bC aJ.length bD:Value).ownBlock)) (by(with_reducible repeat(first|apply Kd.V_alloc|apply Kd.V_drewN|apply Kd.V_drew));exact Kd.V_mono aE.1 (fun _ hk=>⟨⟨hk.1.1,hk.2⟩,hk.1.2⟩)) hg hat)
    replace aD:=am (Kd.V_afterv (ok:=(fun k_=>(P0_ k_∨w.heap.size≤k_)∧some k_≠(.slice bC aJ.length bD:Value).ownBlock)) (by(with_reducible repeat(first|apply Kd.V_alloc|apply Kd.V_drewN|apply Kd.V_drew));exact Kd.V_mono aD.1 (fun _ hk=>⟨⟨hk.1.1,hk.2⟩,hk.1.2⟩)) hg hat)
    replace aK:=am (Kd.V_afterv (ok:=(fun k_=>(P0_ k_∨w.heap.size≤k_)∧some k_≠(.slice bC aJ.length bD:Value).ownBlock)) (by(with_reducible repeat(first|apply Kd.V_alloc|apply Kd.V_drewN|apply Kd.V_drew));exact Kd.V_mono aK.1 (fun _ hk=>⟨⟨hk.1.1,hk.2⟩,hk.1.2⟩)) hg hat)
    replace aQ:=am (Kd.V_afterv (ok:=(fun k_=>(P0_ k_∨w.heap.size≤k_)∧some k_≠(.slice bC aJ.length bD:Value).ownBlock)) (by(with_reducible repeat(first|apply Kd.V_alloc|apply Kd.V_drewN|apply Kd.V_drew));exact Kd.V_mono aQ.1 (fun _ hk=>⟨⟨hk.1.1,hk.2⟩,hk.1.2⟩)) hg hat)
    replace HB:=am (hb)
    have cM:=am (ho)
    clear aG
    clear aZ
    clear ho hb hg hat
    refine hK.out _ _ trivial (fun hHeld=>?_)
    clear hK K
    refine nm 28 ?_
    refine rg [10,11] ?_
    refine dn ?_
    try go_wp2
    go_roundg k2
    case measure=>exact lu cP cQ
    case rel=>exact⟨_,_,H',lv cP cQ,⟨by(with_reducible repeat(first|apply Kd.V_alloc|apply Kd.V_drewN|apply Kd.V_drew));exact Kd.V_mono aQ.1 (fun _ hk=>⟨hk.1.1,hk.2⟩)⟩,⟨rS cM⟩,⟨bz⟩⟩
   refine ia fun H'=>?_
   have cX:(aC:Int)≤((aA.length:Int):Int):=od
   obtain⟨i026,bN,_,cN,_⟩:=info_parts J9
   have bA:aA.length≤aN:=(Kd.V_reads' aE.1).2.1
   have cO:Kd.F KI _ _ aR aA.length aA:=(Kd.V_at (base:=w.heap.size) aE.1).2.2
   have bY:=AF9 (P:=prog) 22 3 .i64 underlying22 bN aR aA.length aN aC (od) cX bA
   have bZ:=Kd.F_take (m:=(aC:Int).toNat) cO (by omega)
   have cA:aI.length=(aC:Int).toNat:=(by rw[aT.1,List.length_take];omega)
   rw[←aT.1]at bZ
   rw[←cA]at bY
   have aD:=am (show Kd.V KI 3 _ w.heap.size _ (.slice aR aI.length aN) aI from Kd.V_mk (by omega) bZ)
   have cH:=am (show aI.length≤aN from by omega)
   clear bZ cO bA bN cN
   have KY26:=am cA
   clear cA
   replace cX:=eq_true cX
   go_wp2_with ((with_reducible refine ga 208 ?_);refine ge func208 (l7.calls k2 aR aN aI false _ (M8 (Kd.V_reads' aD.1).2.2) ((Kd.V_reads' aD.1).2.1) cZ.1) ?_;rintro w27 hb;replace aE:=am (Kd.V_below (rV aE) hb);replace aG:=am (Kd.S_below (rS aG) hb);replace aD:=am (Kd.V_below (rV aD) hb);replace HB:=bS hb;clear hb)
   go_roundg k2
   case measure=>exact lu cP cQ
   case rel=>exact⟨_,fz,H',lv cP cQ,⟨rV aE⟩,⟨rS aG⟩,⟨bz⟩⟩
  have cR:decide (0< (aA.length:Int))=false:=(decide_eq_false c6)
  have cS:decide (0<aA.length)=false:=decide_eq_false (by omega)
  clear c6
  refine i2 ?_;rintro rfl rfl
  obtain⟨Ao28,co28,cY⟩:=Kd.V_slice aE.1
  subst cY
  go_wp2
  go_ret2
  exact⟨_,fe,rS aG,bz⟩
 refine i2 ?_;rintro rfl rfl
 go_in
 go_wp2_with ((with_reducible refine ga 207 ?_);refine gp func207 (AB3.calls k A0 c0 l0 false _ (M8 (Kd.V_reads' bO.1).2.2) ((Kd.V_reads' bO.1).2.1) A2.1) fun nd=>?_)
 go_ret2
 exact⟨_,fe,by first|exact Kd.S_nil _ _ _ _ _|exact Kd.N_nil _ _ _ _ _|exact Kd.V_nil _ _ _ _ _|exact Kd.Q_nil _ _ _ _ _|exact Kd.R_nil _ _ _ _ _,bz⟩
def Q6.l0:Nat→Int→Int→Int→Int→Option (Int)
 |0,_,_,_,_=>none
 |k+1,a,b,c,d=>if d<c then(Q6.l0 k a (wrap64 (b*a)) c (wrap64 (d+1)))else(some b)
def Q6.f (k:Nat)(a b:Int):Option (Int):=Q6.l0 k a 1 b 0
theorem Q6.mono_l:∀k,(∀y0 y1 y2 y3,S6 (Q6.l0 k y0 y1 y2 y3) (Q6.l0 (k+1) y0 y1 y2 y3))
 |0=>fun _ _ _ _ r h=>by simp[Q6.l0]at h
 |k+1=>by
  have ih0:=Q6.mono_l k
  ·intro y0 y1 y2 y3
   unfold Q6.l0
   exact mo
theorem Q6.mono:∀a0 a1 k,S6 (Q6.f k a0 a1) (Q6.f (k+1) a0 a1):=by
 intro a0 a1 k
 have ih0:=Q6.mono_l k
 unfold Q6.f
 exact mo
theorem Q6.calls (k a0 a1 r w):Q6.f k a0 a1=some r→
 Calls prog 268 #[.int .i64 a0,.int .i64 a1] w (pD w (.int .i64 r)):=by
 unfold Q6.f
 refine ia fun H'=>?_
 go_in
 go_wp2
 go_loopg [5,7] k (fun kq v5 v7 w'=>∃ (aA aB:Int),v5=.int .i64 aA∧v7=.int .i64 aB∧Aside0 (Q6.l0 kq a0 aA a1 aB=some r)∧Aside0 (kq≤k)∧Drawn0 w w')
 case atStart=>exact⟨_,_,fz,fz,H',lr,dz⟩
 case round =>
 obtain⟨aA,aB,rfl,rfl,⟨H⟩,aC,⟨m1,rfl⟩⟩:=hrel
 cases gk with
 |zero=>cases H
 |succ k1 =>
 simp only[Q6.l0]at H
 revert H
 refine iD ?_ ?_<;>intro c3b0
 ·refine ia fun H'=>?_
  go_wp2
  go_roundg k1
  case measure=>exact lm aC
  case rel=>exact⟨_,_,fz,fz,H',la aC,dz⟩
 refine i1 ?_;rintro rfl
 go_wp2
 go_ret
 exact⟨fz,dz⟩
def S3.f (k:Nat)(a b:Int):Option (Bool):=(E3.f a 1 10).bind fun c=>(if c=true then((E3.f b 2 6).bind fun d=>(if d=true then((Q6.f k b a).bind fun e=>(some (decide (e≤1024))))else(some false)))else(some false))
theorem S3.mono:∀a0 a1 k,S6 (S3.f k a0 a1) (S3.f (k+1) a0 a1):=by
 intro a0 a1 k
 unfold S3.f
 have e0:=Q6.mono;exact mo
theorem S3.calls (k a0 a1 r w):S3.f k a0 a1=some r→
 Calls prog 209 #[.int .i64 a0,.int .i64 a1] w (pD w (.bool r)):=by
 unfold S3.f
 refine ib fun t391 A3=>iB ?_ ?_<;>rintro rfl
 ·refine ib fun t392 A5=>iB ?_ ?_<;>rintro rfl
  ·refine ib fun aA A7=>i1 ?_;rintro rfl
   go_in
   go_wp2_with (first|((with_reducible refine ga 83 ?_);refine gp func83 (E3.calls a0 1 10 true _ A3.1) fun nd=>?_)|(go_at_call 83;(with_reducible refine qp (E3.calls a1 2 6 true _ A5.1) fun nd=>?_))|(go_at_call 268;(with_reducible refine qp (Q6.calls k a1 a0 aA _ A7.1) fun nd=>?_)))
   go_ret
   exact⟨fz,dz⟩
  refine i1 ?_;rintro rfl
  go_in
  go_wp2_with (first|((with_reducible refine ga 83 ?_);refine gp func83 (E3.calls a0 1 10 true _ A3.1) fun nd=>?_)|(go_at_call 83;(with_reducible refine qp (E3.calls a1 2 6 false _ A5.1) fun nd=>?_)))
  go_ret
  exact⟨fz,dz⟩
 refine i1 ?_;rintro rfl
 go_in
 go_wp2_with ((with_reducible refine ga 83 ?_);refine gp func83 (E3.calls a0 1 10 false _ A3.1) fun nd=>?_)
 go_ret
 exact⟨fz,dz⟩
mutual
def G6.l0:Nat→List Int→Int→List Int→Int→Int→Option (List Int)
 |0,_,_,_,_,_=>none
 |k+1,a,e,c,d,b=>if b<d then(if(a.length:Int)=0 then(none)else(if 0≤(Int.tmod b (a.length:Int))then(if(Int.tmod b (a.length:Int))< (a.length:Int)then(if c.length<17592186044416 then(G6.l0 k a e (c++ [rd a (Int.tmod b (a.length:Int))]) d (wrap64 (b+1)))else(none))else(none))else(none)))else(G6.l1 k e c)
def G6.l1:Nat→Int→List Int→Option (List Int)
 |0,_,_=>none
 |k+1,b,a=>if(a.length:Int)>0 then(if 0≤(wrap64 ((a.length:Int) - 1))then(if(wrap64 ((a.length:Int) - 1))< (a.length:Int)then(if(rd a (wrap64 ((a.length:Int) - 1)))=(wrap64 (b - 1))then(if(wrap64 ((a.length:Int) - 1))≤(a.length:Int)then(G6.l1 k b (a.take ((wrap64 ((a.length:Int) - 1)):Int).toNat))else(none))else(some (a.set ((wrap64 ((a.length:Int) - 1)):Int).toNat (wrap64 ((rd a (wrap64 ((a.length:Int) - 1)))+1)))))else(none))else(none))else(some a)
end
def G6.f (k:Nat)(c:List Int)(a b:Int):Option (List Int):=G6.l0 k c b (([]:List Int)) a 0
theorem G6.mono_l:∀k,(∀y0 y1 y2 y3 y4,S6 (G6.l0 k y0 y1 y2 y3 y4) (G6.l0 (k+1) y0 y1 y2 y3 y4))∧(∀y0 y1,S6 (G6.l1 k y0 y1) (G6.l1 (k+1) y0 y1))
 |0=>⟨fun _ _ _ _ _ r h=>by simp[G6.l0]at h,fun _ _ r h=>by simp[G6.l1]at h⟩
 |k+1=>by
  obtain⟨ih0,ih1⟩:=G6.mono_l k
  refine⟨?_,?_⟩
  ·intro y0 y1 y2 y3 y4
   unfold G6.l0
   exact mo
  ·intro y0 y1
   unfold G6.l1
   exact mo
theorem G6.mono:∀a0 a1 a2 k,S6 (G6.f k a0 a1 a2) (G6.f (k+1) a0 a1 a2):=by
 intro a0 a1 a2 k
 obtain⟨ih0,ih1⟩:=G6.mono_l k
 unfold G6.f
 exact mo
theorem G6.calls (k A0 c0 l0 a1 a2 r w):Kd.C KI w A0 l0.length l0→l0.length≤c0→G6.f k l0 a1 a2=some r→
 Calls prog 269 #[.slice A0 l0.length c0,.int .i64 a1,.int .i64 a2] w (pR w KI 3 r):=by
 have HB:=bR w
 refine pa fun HR0 HC0=>?_
 unfold G6.f
 intro H
 obtain⟨y394,aI⟩:=ey (([]:List Int):List Int)
 rw[←aI.1]at H
 revert H
 refine ia fun H'=>?_
 go_in
 go_wp2_with ((with_reducible refine P8 (N:=9) rfl ?_);(try (refine V3 (by rfl) ?_;dsimp only));refine Kd.R_lit KI _ 3 ?hg (N:=9) ?hd (xs:=([]:List Int)) (inner:=[]) (ok:=fun _=>True) (okp:=fun _=>True) ?hr ?hp (fun _ hk=>hk) trivial (Below.refl _ _) (Nat.le_refl _) (by simp) ?_;(case hd=>rfl);(case hg=>rfl);(case hr=>first|(go_simp;done)|(go_simp;rfl));(case hp=>exact(J7.none _ _));intro v395 w4 aZ hb hg_ hnew_;clear hg_ hnew_;(first|rw[←aI.1]at aZ|(simp only[Int.reduceToNat]at aZ;rw[←aI.1]at aZ));have bA:=am (Kd.R_lower aZ (C5 bz));replace HB:=bS hb;clear hb aZ)
 go_loopg [7,11] k (fun kq v7 v11 w'=>∃ (aJ:List Int) (aD:Int),v11=.int .i64 aD∧Aside0 (G6.l0 kq l0 a2 aJ a1 aD=some r)∧Aside0 (kq≤k)∧Aside0 (Kd.R KI 3 w' w.heap.size (fun _=>True) v7 aJ)∧Aside0 (Below w.heap.size w w'))
 case atStart=>exact⟨_,_,fz,H',lr,⟨rR bA⟩,⟨bz⟩⟩
 case round =>
 obtain⟨aJ,aD,rfl,⟨H⟩,bN,aA,HB⟩:=hrel
 cases gk with
 |zero=>cases H
 |succ k1 =>
 simp only[G6.l0]at H
 revert H
 refine iD ?_ ?_<;>intro c6b0
 ·refine iN fun c7 c7b0 c7b1=>?_
  have c7b2:¬(l0=[]):=fun h_=>c7 (by rw[h_];rfl)
  generalize hji8:(Int.tmod aD (l0.length:Int))=ji8
  refine U9 fun c9b0=>U9 fun cG=>il fun bB=>?_
  generalize aK:(aJ++ [rd l0 (ji8)])=y398
  replace aK:=am aK.symm
  refine ia fun H'=>?_
  obtain⟨p397,q397,cH,rfl,aE⟩:=ai HR0.1 (ji8)
  replace aE:=cl aE
  go_wp2_with ((with_reducible refine Y1 (b:=.append) (xs:=#[.tmp 14,.tmp 22]) rfl ?_);(try (refine V3 (by rfl) ?_;dsimp only));at_builtin;refine Kd.R_append KI (w0:=w) w.heap.size rfl (.tmp 14) (.tmp 22) 22 3 (.int .i64 0) 8 rfl underlying22 J9 rfl (by decide) (by omega) u7 aJ (rd l0 (ji8)) [.int .i64 (rd l0 (ji8))] (fun _=>True) (fun _=>False) rfl rfl ?aP (fun _ hk=>hk.elim) ?aF ?aO ?aB ?aS ?aL ?_;(case aP=>exact rfl);(case aB=>exact bz);(case aF=>exact(fun _ _=>trivial));(case aO=>exact(rR aA));(case aS=>exact(C5 bz));(case aL=>have:=bB.1;omega);intro v399 w12 ho hb hg hat;rw[←aK.1]at ho;replace HB:=am (hb);have bC:=am (ho);clear aA ho hb hg hat)
  go_roundg k1
  case measure=>exact lm bN
  case rel=>exact⟨_,_,fz,H',la bN,⟨rR bC⟩,⟨bz⟩⟩
 refine ia fun H'=>?_
 go_wp2
 go_loopg [7] k1 (fun kq v7 w'=>∃ (aC:List Int),Aside0 (G6.l1 kq a2 aC=some r)∧Aside0 (kq≤k1)∧Aside0 (Kd.R KI 3 w' w.heap.size (fun _=>True) v7 aC)∧Aside0 (Below w.heap.size w w'))
 case atStart=>exact⟨_,H',lr,⟨rR aA⟩,⟨bz⟩⟩
 case round =>
 obtain⟨aC,⟨H⟩,cI,aA,HB⟩:=hrel
 cases gk with
 |zero=>cases H
 |succ k2 =>
 simp only[G6.l1]at H
 revert H
 refine io ?_ ?_<;>intro bO
 ·have bD:decide (0< (aC.length:Int))=true:=(decide_eq_true bO)
  have bE:decide (0<aC.length)=true:=decide_eq_true (by omega)
  clear bO
  generalize hji14:(wrap64 ((aC.length:Int) - 1))=ji14
  have bP:=(P9 _).trans hji14
  refine U9 fun cJ=>U9 fun cK=>iE (fun bF bG=>?_) fun c17 bF bG=>?_
  ·refine if' fun cL cM=>?_
   generalize aG:(aC.take ((ji14):Int).toNat)=y402
   replace aG:=am aG.symm
   refine ia fun H'=>?_
   obtain⟨Ao19,bQ,rfl⟩:=Kd.R_slice aA.1
   obtain⟨bT,bU,aM,rfl,aH⟩:=ai (Kd.R_reads' aA.1).2.2 (ji14)
   have bV:((ji14):Int)≤((aC.length:Int):Int):=od
   obtain⟨i020,aT,_,bH,_⟩:=info_parts J9
   have aU:=AF9 (P:=prog) 22 3 .i64 underlying22 aT (some aM) aC.length bQ (ji14) (od) bV (Kd.R_reads' aA.1).2.1
   have aQ:=Kd.R_take (m:=((ji14):Int).toNat) aA.1 (by omega)
   have bI:y402.length=((ji14):Int).toNat:=(by rw[aG.1,List.length_take];omega)
   rw[←aG.1]at aQ
   rw[←bI]at aQ aU
   clear bI aT bH aA
   have bJ:=am aQ
   clear aQ
   replace bV:=eq_true bV
   go_wp2
   go_roundg k2
   case measure=>exact lu bN cI
   case rel=>exact⟨_,H',lv bN cI,⟨rR bJ⟩,⟨bz⟩⟩
  generalize aN:(aC.set ((ji14):Int).toNat (wrap64 ((rd aC (ji14))+1)))=y406
  replace aN:=am aN.symm
  refine i1 ?_;rintro rfl
  obtain⟨Ao22,bW,rfl⟩:=Kd.R_slice aA.1
  obtain⟨bT,bU,aM,rfl,aH⟩:=ai (Kd.R_reads' aA.1).2.2 (ji14)
  have aV:0≤((ji14):Int):=od
  have aW:(ji14)< (aC.length:Int):=od
  obtain⟨bK,bX,aR⟩:=Kd.at_int (Kd.R_reads' aA.1).2.2 (ji14) aV aW
  obtain rfl:aM=bK:=(by injection bX)
  replace aV:=eq_true aV
  replace aW:=eq_true aW
  have bY:0≤((ji14):Int):=od
  have bZ:((ji14):Int)< ((aC.length:Int):Int):=od
  obtain⟨aX,co21,cA,bL,cB,cl21,bM⟩:=Kd.R_form aA.1 (by omega)
  cases cA
  have cC:=am bL
  have GG21:=am bM
  clear bL cB bM
  (first|simp only[k6]at aH|skip)
  (first|simp only[k6]at aR|skip)
  obtain⟨cD,cE⟩:=Kd.R_celln 0 aA.1 ((ji14):Int) bY bZ
  replace bY:=eq_true bY
  replace bZ:=eq_true bZ
  have aY:=Kd.R_putg aA.1 ((ji14):Int) (wrap64 ((rd aC (ji14))+1))
  go_wp2_with ((with_reducible refine gt 3 54 ?_);refine se 3 54 (wr.setCell ⟨aX,((ji14):Int).toNat,none⟩ (.int .i64 (wrap64 ((rd aC (ji14))+1)))) ?_;intro cF hw;have hg:wr.grownBy cF (some aX):=(by rw[hw];exact aY.2);have hp_:Kd.R KI 3 cF w.heap.size (fun _=>True) (.slice (some ⟨aX,0,none⟩) aC.length bW) y406:=(by rw[hw,aN.1];exact aY.1);clear aY;replace aA:=am (hp_);replace HB:=am ((by rw[hw];exact S0 (HB.1) cC.1:Below w.heap.size w cF));clear hg hw hp_)
  go_ret
  exact⟨_,by first|rfl|(simp[M7,M6]<;>rfl)|(simp only[←hji14];first|rfl|(simp[M7,M6]<;>rfl))|(simp[*,M7,M6]<;>rfl),rR aA,bz⟩
 have bD:decide (0< (aC.length:Int))=false:=(decide_eq_false bO)
 have bE:decide (0<aC.length)=false:=decide_eq_false (by omega)
 clear bO
 refine i1 ?_;rintro rfl
 obtain⟨Ao25,co25,rfl⟩:=Kd.R_slice aA.1
 go_wp2
 go_ret
 exact⟨_,fe,rR aA,bz⟩
def G1.l0 (p:List Int→Option Bool):Nat→Int→Int→Int→List (List Int)→List Int→Option (List (List Int)×Bool)
 |0,_,_,_,_,_=>none
 |q+1,n,k,most,out,w=>if(w.length:Int)>0 then((p w).bind fun b=>(if b=true then((M5.f w).bind fun c=>(if out.length<5864062014805 then(if((out++ [c]).length:Int)>most then some ([],false)else((G6.f q w n k).bind fun t=>G1.l0 p q n k most (out++ [c]) t))else none))else((G6.f q w n k).bind fun t=>G1.l0 p q n k most out t)))else some (out,true)
def G1.f (p:List Int→Option Bool)(k:Nat)(a b c:Int):Option (List (List Int)×Bool):=G1.l0 p k a b c [] [0]
theorem G1.mono_l (p:List Int→Option Bool):∀k,(∀y0 y1 y2 y3 y4,S6 (G1.l0 p k y0 y1 y2 y3 y4) (G1.l0 p (k+1) y0 y1 y2 y3 y4))
 |0=>fun _ _ _ _ _ r h=>by simp[G1.l0]at h
 |k+1=>by
  have ih:=G1.mono_l p k
  intro y0 y1 y2 y3 y4
  unfold G1.l0
  exact S6.ite (S6.bind (S6.refl _) (fun _=>S6.ite (S6.bind (S6.refl _) (fun _=>S6.ite (S6.ite (S6.refl _) (S6.bind (G6.mono _ _ _ _) (fun _=>ih _ _ _ _ _))) (S6.refl _))) (S6.bind (G6.mono _ _ _ _) (fun _=>ih _ _ _ _ _)))) (S6.refl _)
theorem G1.mono (p:List Int→Option Bool):∀a0 a1 a2 k,S6 (G1.f p k a0 a1 a2) (G1.f p (k+1) a0 a1 a2):=fun a0 a1 a2 k=>G1.mono_l p k _ _ _ _ _
section
variable {P:Program} {ops:Array Oper} {Q:Exit→Act→World→Prop}
theorem G1.gate_tmp {rest:List Oper} {o:Oper} {a:Act} {W:World} {t:Tmp} {xs:Array Operand} {ts:Array TypeId} (_ho:o.op=.call { callee:=.value (.tmp t),args:=xs,argTypes:=ts })(h:wpList P ops Q (o::rest) a W):wpList P ops Q (o::rest) a W:=h
theorem G1.goesV {rest:List Oper} {oi:Oper} {a:Act} {w:World} (N:Option Tmp)(hd:oi.dst=N)(hg:oi.guard=none) {t:Tmp} {f:FuncId} {fn:Func} {cap:Array Value} {xs:Array Operand} {ts:Array TypeId} (hf:P.funcs[f]? =some fn)(hname:(fn.name== "runtime.NumGoroutine")=false) (hb:fn.body.isSome=true) (args:Array Value)
 (hop:oi.op=.call { callee:=.value (.tmp t),args:=xs,argTypes:=ts }) (hv:a.eval (.tmp t)=.func (.func f) #[] cap) (hargs:xs.map a.eval++cap=args)
 (h:Calls P f args w fun e w'=>∃v,e=.returned v∧wpList P ops Q rest (a.put N v) w'):wpList P ops Q (oi::rest) a w:=by
 refine wpList_plain hg fun K hK=>?_
 have he:=Ad4 hf hname hb args w
 have hrun:(execOp a.eval oi).run P w=.ok (.enter f args) w:=by
  unfold execOp
  simp[hop,resolve,Deferred.ofValue,invoke,hv,hargs,he]
 unfold Oper.wp
 rw[hrun,Oper.upon_enter]
 refine h.mono fun e w'' hh=>?_
 obtain⟨v,rfl,hk⟩:=hh
 subst hd
 exact hK _ _ hk
end
theorem G1.infoS:(prog.info? 22).map (fun i=>(i.zero,i.size,i.bytes))=some (some (.slice none 0 0),1,24):=by kernel_rfl
theorem G1.calls (p:List Int→Option Bool)(F:FuncId)(fn:Func)(cap:Array Value)(hF:prog.funcs[F]? =some fn)(hname:(fn.name== "runtime.NumGoroutine")=false) (hbody:fn.body.isSome=true) (k:Nat) (a0 a1 a2:Int) (r1:List (List Int)) (r2:Bool) (w:World)
 (hp:∀ (W:World) (A:Option Addr) (c:Nat) (l:List Int) (b:Bool),Below w.heap.size w W→Kd.C KI W A l.length l→l.length≤c→p l=some b→Calls prog F (#[.slice A l.length c]++cap) W fun e W'=>e=.returned (.bool b)∧Drawn0 W W')
 (h:G1.f p k a0 a1 a2=some (r1,r2)) :
 Calls prog 210 #[.int .i64 a0,.int .i64 a1,.int .i64 a2,.func (.func F) #[] cap] w fun e w'=>∃v0_:Value,e=.returned (.tuple #[v0_,.bool r2])∧Kd.S KS 22 w' w.heap.size (fun _=>True) v0_ r1∧Below w.heap.size w w':=by
 have HB:=bR w
 obtain⟨y0,hy0⟩:∃y:List Int,y=[0]:=⟨_,rfl⟩
 have H':Aside0 (G1.l0 p k a0 a1 a2 [] y0=some (r1,r2)):=⟨by rw[hy0];exact h⟩
 have NY:=am hy0
 clear h hy0
 go_in
 go_wp2_with (first
  |((with_reducible refine P8 (N:=12) rfl ?_);refine Kd.S_lits KS (w0:=w) w.heap.size 22 ?hg (N:=12) ?hd (xs:=([]:List (List Int))) (inner:=[]) (ok:=fun _=>True) (fun _ _=>False) ?hr rfl (fun j x hx=>by simp at hx) (fun _ _ _ h=>h.elim) (fun _ _ h=>h.elim) trivial bz (C5 bz) (by simp) ?_;(case hd=>rfl);(case hg=>rfl);(case hr=>first|(go_simp;done)|(go_simp;rfl));intro v12 w1 ho hb hg_ hnew_;have aA:=am ho;have aE:=am hb;clear HB ho hb hg_ hnew_;have HO:=aA;have HB:=aE;clear aA aE)
  |((with_reducible refine gd 13 ?_);refine rl KI 3 ([0]:List Int) [.int .i64 0] (J7.one (show Kd.M KI _ _ _ 0 [.int .i64 0]from rfl) (J7.none _ _)) ?_;intro v13 w3 ho hb;rw[←NY.1]at ho;have aA:=am (Kd.S_elder' (rS HO) (Kd.R_base ho) hb);have aE:=am (Kd.R_lower ho (C5 bz));have aC:=am (E8 bz hb);clear HO HB ho hb;have HO:=aA;have HW:=aE;have HB:=aC;clear aA aE aC))
 go_loopg [10,11] k (fun kq v10 aM w'=>∃ (out:List (List Int)) (x:List Int),Aside0 (G1.l0 p kq a0 a1 a2 out x=some (r1,r2))∧Aside0 (kq≤k)∧Aside0 (Kd.S KS 22 w' w.heap.size (fun k_=>some k_≠(aM:Value).ownBlock) v10 out)∧Aside0 (Kd.R KI 3 w' w.heap.size (fun _=>True) aM x)∧Aside0 (Below w.heap.size w w'))
 case atStart=>exact⟨[],y0,H',lr,⟨Kd.S_mono HO.1 (fun _ hk=>hk.2)⟩,HW,HB⟩
 case round =>
 clear H' HO HW HB
 obtain⟨out,x,⟨H⟩,aH,HO,HW,HB⟩:=hrel
 cases gk with
 |zero=>cases H
 |succ k1 =>
 simp only[G1.l0]at H
 obtain⟨Ao,co,rfl⟩:=Kd.R_slice HW.1
 revert H;refine io ?_ ?_<;>intro c5 H
 ·have aI:decide (0< (x.length:Int))=true:=(decide_eq_true c5)
  have aJ:decide (0<x.length)=true:=decide_eq_true (by omega)
  clear c5
  obtain⟨b,aN,H⟩:=Option.bind_eq_some_iff.mp H
  have A1:=am aN
  clear aN
  by_cases c6:b=true
  ·subst c6
   replace H:=(if_pos rfl).symm.trans H
   obtain⟨c,hc,H⟩:=Option.bind_eq_some_iff.mp H
   have A3:=am hc
   clear hc
   by_cases c7:out.length<5864062014805
   ·rw[if_pos c7]at H
    have LM:=am c7
    clear c7
    obtain⟨y2,hy2⟩:∃y:List (List Int),y=out++ [c]:=⟨_,rfl⟩
    rw[←hy2]at H
    have aQ:=am hy2
    clear hy2
    revert H;refine io ?_ ?_<;>intro c8 H
    ·have aK:decide (a2< (y2.length:Int))=true:=(decide_eq_true c8)
     clear c8
     replace H:=s2 H;obtain⟨rfl,rfl⟩:=H
     go_wp2_with (first
      |((with_reducible refine G1.gate_tmp (t:=21) rfl ?_);refine G1.goesV (some 23) rfl rfl hF hname hbody (#[.slice Ao x.length co]++cap) rfl rfl (by(try simp only[List.map_toArray,List.map_cons,List.map_nil]);first|done|rfl) ?_;refine(hp _ Ao co x true bz (by repeat(first|exact(Kd.R_reads' HW.1).2.2|(with_reducible refine Kd.C_alloc ?_ _)|(with_reducible refine Kd.C_drewN ?_ _)|(with_reducible refine Kd.C_drew ?_))) (Kd.R_reads' HW.1).2.1 A1.1).mono ?_;rintro e w1 ⟨rfl,⟨nd,rfl⟩⟩;refine⟨_,rfl,?_⟩)
      |((with_reducible refine J0 (f:=76) rfl ?_);refine gl' 27 func76 #[.slice Ao x.length co] ?_;(with_reducible refine(M5.calls _ _ x c _ ?side1 ?side2 A3.1).mono ?_);(case side1=>exact M8 (Kd.R_reads' HW.1).2.2);(case side2=>exact(Kd.R_reads' HW.1).2.1);rintro e w27 ⟨v27,rfl,aD,hb⟩;refine⟨_,rfl,?_⟩;obtain⟨Ac,cc,ec⟩:=Kd.R_slice aD;subst ec;have aA:=am (Kd.S_elder' (rS HO) (Kd.R_base aD) hb);have aE:=am (Kd.R_elder' (rR HW) (Kd.R_base aD) hb);have aC:=am (Kd.R_lower (Kd.R_mono (ok':=fun k_=>some k_≠(.slice Ao x.length co:Value).ownBlock) (Kd.R_new' aD (Kd.R_lt (rR HW))) (fun _ hk=>hk.2)) (C5 bz));have aG:=am (E8 bz hb);clear HO HW HB aD hb;have HO:=aA;have HW:=aE;have HC:=aC;have HB:=aG;clear aA aE aC aG)
      |((with_reducible refine Y1 (b:=.append) (xs:=#[.tmp 25,.tmp 28]) rfl ?_);at_builtin;refine Kd.S_append KS (w0:=w) w.heap.size rfl (.tmp 25) (.tmp 28) 127 22 (.slice none 0 0) 24 rfl underlying127 G1.infoS rfl (by decide) (by omega) u10 out c [.slice Ac c.length cc] (fun k_=>some k_≠(.slice Ao x.length co:Value).ownBlock) (fun k_=>some k_=(.slice Ac c.length cc:Value).ownBlock) rfl rfl ?aP (fun k_ hk_=>((Kd.R_mono (ok':=fun k_=>((fun k_=>some k_≠(.slice Ao x.length co:Value).ownBlock)) k_∧some k_≠(u10:Value).ownBlock) (Kd.R_apart' (HC.1) (Kd.S_typed HO.1) (by decide)) (fun k_ hk=>⟨hk.1,hk.2⟩))).1 k_ hk_.symm) ?aF ?aO ?aB ?aS ?aL ?_;(case aP=>exact Kd.M_row (Kd.R_mono (Kd.R_tight rfl (Kd.R_mono (ok':=fun k_=>((fun k_=>some k_≠(.slice Ao x.length co:Value).ownBlock)) k_∧some k_≠(u10:Value).ownBlock) (Kd.R_apart' (HC.1) (Kd.S_typed HO.1) (by decide)) (fun k_ hk=>⟨hk.1,hk.2⟩))) (fun _ h_=>h_)));(case aB=>exact bz);(case aF=>exact(fun k_ hk=>Kd.fresh' (Kd.R_lt (rR HW)) k_ hk));(case aO=>exact(by(with_reducible repeat(first|apply Kd.S_alloc|apply Kd.S_drewN|apply Kd.S_drew));exact Kd.S_mono HO.1 (fun k_ hk=>⟨hk.1,fun e_=>hk.2 e_⟩)));(case aS=>exact(C5 bz));(case aL=>have:=LM.1;omega);intro v29 w29 ho hb hg hat;rw[←aQ.1]at ho;obtain⟨Aq,cq,eq_⟩:=Kd.S_slice ho;subst eq_;have aA:=am (Kd.R_over' (rR HW) (Kd.S_typed (rS HO)) (by decide) hg);have aE:=am hb;have aC:=am ho;clear HW HB HO HC ho hb hg hat;have HW:=aA;have HB:=aE;have HO:=aC;clear aA aE aC))
     go_ret2
     exact⟨_,rfl,Kd.S_nil _ _ _ _ _,HB.1⟩
    have aK:decide (a2< (y2.length:Int))=false:=(decide_eq_false c8)
    clear c8
    obtain⟨t,ht,H⟩:=Option.bind_eq_some_iff.mp H
    have A2:=am ht
    have H':=am H
    clear H ht
    go_wp2_with (first
     |((with_reducible refine G1.gate_tmp (t:=21) rfl ?_);refine G1.goesV (some 23) rfl rfl hF hname hbody (#[.slice Ao x.length co]++cap) rfl rfl (by(try simp only[List.map_toArray,List.map_cons,List.map_nil]);first|done|rfl) ?_;refine(hp _ Ao co x true bz (by repeat(first|exact(Kd.R_reads' HW.1).2.2|(with_reducible refine Kd.C_alloc ?_ _)|(with_reducible refine Kd.C_drewN ?_ _)|(with_reducible refine Kd.C_drew ?_))) (Kd.R_reads' HW.1).2.1 A1.1).mono ?_;rintro e w1 ⟨rfl,⟨nd,rfl⟩⟩;refine⟨_,rfl,?_⟩)
     |((with_reducible refine J0 (f:=76) rfl ?_);refine gl' 27 func76 #[.slice Ao x.length co] ?_;(with_reducible refine(M5.calls _ _ x c _ ?side1 ?side2 A3.1).mono ?_);(case side1=>exact M8 (Kd.R_reads' HW.1).2.2);(case side2=>exact(Kd.R_reads' HW.1).2.1);rintro e w27 ⟨v27,rfl,aD,hb⟩;refine⟨_,rfl,?_⟩;obtain⟨Ac,cc,ec⟩:=Kd.R_slice aD;subst ec;have aA:=am (Kd.S_elder' (rS HO) (Kd.R_base aD) hb);have aE:=am (Kd.R_elder' (rR HW) (Kd.R_base aD) hb);have aC:=am (Kd.R_lower (Kd.R_mono (ok':=fun k_=>some k_≠(.slice Ao x.length co:Value).ownBlock) (Kd.R_new' aD (Kd.R_lt (rR HW))) (fun _ hk=>hk.2)) (C5 bz));have aG:=am (E8 bz hb);clear HO HW HB aD hb;have HO:=aA;have HW:=aE;have HC:=aC;have HB:=aG;clear aA aE aC aG)
     |((with_reducible refine Y1 (b:=.append) (xs:=#[.tmp 25,.tmp 28]) rfl ?_);at_builtin;refine Kd.S_append KS (w0:=w) w.heap.size rfl (.tmp 25) (.tmp 28) 127 22 (.slice none 0 0) 24 rfl underlying127 G1.infoS rfl (by decide) (by omega) u10 out c [.slice Ac c.length cc] (fun k_=>some k_≠(.slice Ao x.length co:Value).ownBlock) (fun k_=>some k_=(.slice Ac c.length cc:Value).ownBlock) rfl rfl ?aP (fun k_ hk_=>((Kd.R_mono (ok':=fun k_=>((fun k_=>some k_≠(.slice Ao x.length co:Value).ownBlock)) k_∧some k_≠(u10:Value).ownBlock) (Kd.R_apart' (HC.1) (Kd.S_typed HO.1) (by decide)) (fun k_ hk=>⟨hk.1,hk.2⟩))).1 k_ hk_.symm) ?aF ?aO ?aB ?aS ?aL ?_;(case aP=>exact Kd.M_row (Kd.R_mono (Kd.R_tight rfl (Kd.R_mono (ok':=fun k_=>((fun k_=>some k_≠(.slice Ao x.length co:Value).ownBlock)) k_∧some k_≠(u10:Value).ownBlock) (Kd.R_apart' (HC.1) (Kd.S_typed HO.1) (by decide)) (fun k_ hk=>⟨hk.1,hk.2⟩))) (fun _ h_=>h_)));(case aB=>exact bz);(case aF=>exact(fun k_ hk=>Kd.fresh' (Kd.R_lt (rR HW)) k_ hk));(case aO=>exact(by(with_reducible repeat(first|apply Kd.S_alloc|apply Kd.S_drewN|apply Kd.S_drew));exact Kd.S_mono HO.1 (fun k_ hk=>⟨hk.1,fun e_=>hk.2 e_⟩)));(case aS=>exact(C5 bz));(case aL=>have:=LM.1;omega);intro v29 w29 ho hb hg hat;rw[←aQ.1]at ho;obtain⟨Aq,cq,eq_⟩:=Kd.S_slice ho;subst eq_;have aA:=am (Kd.R_over' (rR HW) (Kd.S_typed (rS HO)) (by decide) hg);have aE:=am hb;have aC:=am ho;clear HW HB HO HC ho hb hg hat;have HW:=aA;have HB:=aE;have HO:=aC;clear aA aE aC)
     |((with_reducible refine J0 (f:=269) rfl ?_);refine gl' 20 func269 #[.slice Ao x.length co,.int .i64 a0,.int .i64 a1] ?_;(with_reducible refine(G6.calls k1 _ _ x a0 a1 t _ ?side1 ?side2 A2.1).mono ?_);(case side1=>exact M8 (Kd.R_reads' HW.1).2.2);(case side2=>exact(Kd.R_reads' HW.1).2.1);rintro e w20 ⟨v20,rfl,aD,hb⟩;refine⟨_,rfl,?_⟩;have aA:=am (Kd.S_elder' (rS HO) (Kd.R_base aD) hb);have aC:=am (Kd.R_lower aD (C5 bz));have aG:=am (E8 bz hb);clear HO HW HB aD hb;have HO:=aA;have HW:=aC;have HB:=aG;clear aA aC aG))
    go_roundg k1
    case measure=>exact lm aH
    case rel=>exact⟨y2,t,H',la aH,⟨Kd.S_mono HO.1 (fun _ hk=>hk.2)⟩,HW,HB⟩
   ·rw[if_neg c7]at H;exact absurd H (by simp)
  ·rw[if_neg c6]at H
   obtain rfl:=Bool.eq_false_iff.mpr c6
   clear c6
   obtain⟨t,ht,H⟩:=Option.bind_eq_some_iff.mp H
   have A2:=am ht
   have H':=am H
   clear H ht
   go_wp2_with (first
    |((with_reducible refine G1.gate_tmp (t:=21) rfl ?_);refine G1.goesV (some 23) rfl rfl hF hname hbody (#[.slice Ao x.length co]++cap) rfl rfl (by(try simp only[List.map_toArray,List.map_cons,List.map_nil]);first|done|rfl) ?_;refine(hp _ Ao co x false bz (by repeat(first|exact(Kd.R_reads' HW.1).2.2|(with_reducible refine Kd.C_alloc ?_ _)|(with_reducible refine Kd.C_drewN ?_ _)|(with_reducible refine Kd.C_drew ?_))) (Kd.R_reads' HW.1).2.1 A1.1).mono ?_;rintro e w1 ⟨rfl,⟨nd,rfl⟩⟩;refine⟨_,rfl,?_⟩)
    |((with_reducible refine J0 (f:=269) rfl ?_);refine gl' 20 func269 #[.slice Ao x.length co,.int .i64 a0,.int .i64 a1] ?_;(with_reducible refine(G6.calls k1 _ _ x a0 a1 t _ ?side1 ?side2 A2.1).mono ?_);(case side1=>exact M8 (Kd.R_reads' HW.1).2.2);(case side2=>exact(Kd.R_reads' HW.1).2.1);rintro e w20 ⟨v20,rfl,aD,hb⟩;refine⟨_,rfl,?_⟩;have aA:=am (Kd.S_elder' (rS HO) (Kd.R_base aD) hb);have aC:=am (Kd.R_lower aD (C5 bz));have aG:=am (E8 bz hb);clear HO HW HB aD hb;have HO:=aA;have HW:=aC;have HB:=aG;clear aA aC aG))
   go_roundg k1
   case measure=>exact lm aH
   case rel=>exact⟨out,t,H',la aH,⟨Kd.S_mono HO.1 (fun _ hk=>hk.2)⟩,HW,HB⟩
 have aI:decide (0< (x.length:Int))=false:=(decide_eq_false c5)
 have aJ:decide (0<x.length)=false:=decide_eq_false (by omega)
 clear c5
 replace H:=s2 H;obtain⟨rfl,rfl⟩:=H
 go_wp2
 go_ret2
 exact⟨_,rfl,Kd.S_mono HO.1 (fun _ _=>trivial),HB.1⟩
def L0.is (n:Int)(l:List Int):Option Bool:=if(l.length:Int)=0 then none else some (Int.tmod n (l.length:Int)==0)
def L0.f (k:Nat)(a d:Int):Option (List Int×Bool):=(S3.f k a d).bind fun b=>(if b=true then((G1.f (L0.is a) k a d 1024).bind fun t=>((E1.f t.1).bind fun c=>(some (c,true))))else(some (([]:List Int),false)))
theorem L0.mono:∀a0 a1 k,S6 (L0.f k a0 a1) (L0.f (k+1) a0 a1):=fun a0 a1 k =>
 S6.bind (S3.mono _ _ _) (fun _=>S6.ite (S6.bind (G1.mono _ _ _ _ _) (fun _=>S6.refl _)) (S6.refl _))
theorem L0.is_calls (n:Int)(B:Nat)(W:World)(A:Option Addr)(c:Nat)(l:List Int)(b:Bool)(hc:W.cell? ⟨B,0,none⟩=some (.int .i64 n))(h:L0.is n l=some b) :
 Calls prog 211 #[.slice A l.length c,.pointer (some ⟨B,0,none⟩)] W fun e W'=>e=.returned (.bool b)∧Drawn0 W W':=by
 unfold L0.is at h
 by_cases c1:(l.length:Int)=0
 ·rw[if_pos c1]at h;cases h
 ·rw[if_neg c1]at h
  obtain rfl:=Option.some.inj h
  have hl0:=beq_eq_false_iff_ne.mpr c1
  have hnil:(l=[])=False:=eq_false (by intro e;rw[e]at c1;simp at c1)
  clear h c1
  go_in
  go_wp2
  go_ret
  exact⟨rfl,dz⟩
theorem L0.calls (k:Nat) (a0 a1:Int)(r1:List Int)(r2:Bool)(w:World)(h:L0.f k a0 a1=some (r1,r2)) :
 Calls prog 143 #[.int .i64 a0,.int .i64 a1] w (pT w KI 3 r1 r2):=by
 have HB:=bR w
 have hmf:∀ (fn:Fn) (first cap:Array Value) (w:World),(Instr.makeFunc fn first cap).run prog w=.ok (.func fn first cap) w:=fun _ _ _ _=>rfl
 unfold L0.f at h
 obtain⟨b,hb,H⟩:=Option.bind_eq_some_iff.mp h
 have A1:=am hb
 clear h hb
 by_cases c1:b=true
 ·subst c1
  replace H:=(if_pos rfl).symm.trans H
  obtain⟨⟨t1,t2⟩,ht,H⟩:=Option.bind_eq_some_iff.mp H
  have A2:=am ht
  obtain⟨c,hc,H⟩:=Option.bind_eq_some_iff.mp H
  have A3:Aside0 (E1.f t1=some c):=⟨hc⟩
  replace H:=s2 H;obtain⟨rfl,rfl⟩:=H
  clear hc ht
  go_in
  go_wp2_with (first
   |((with_reducible refine J0 (f:=209) rfl ?_);refine gl' 10 func209 #[.int .i64 a0,.int .i64 a1] ?_;(with_reducible refine(S3.calls k a0 a1 true _ A1.1).mono ?_);rintro e w1 ⟨rfl,⟨nd1,rfl⟩⟩;refine⟨_,rfl,?_⟩)
   |((with_reducible refine J0 (f:=210) rfl ?_);refine gl' 16 func210 #[.int .i64 a0,.int .i64 a1,.int .i64 1024,.func (.func 211) #[] #[.pointer (some ⟨w.heap.size,0,none⟩)]] ?_;refine(G1.calls (L0.is a0) 211 _ #[.pointer (some ⟨w.heap.size,0,none⟩)] func211 (by kernel_rfl) rfl k a0 a1 1024 t1 t2 _ ?hp A2.1).mono ?_;(case hp=>exact fun W A c l b hb _ _ hl=>AE2 (by simp) (L0.is_calls a0 w.heap.size W A c l b ((hb.cell (by simp)).trans (by go_simp)) hl));rintro e w2 ⟨v16,rfl,ho,hb⟩;refine⟨_,rfl,?_⟩;obtain⟨As,cs,es⟩:=Kd.S_slice ho;subst es;have aA:=am (Kd.S_lower ho (C5 bz));have aB:=am (E8 bz hb);clear HB ho hb;have HO:=aA;have HB:=aB;clear aA aB)
   |((with_reducible refine J0 (f:=212) rfl ?_);refine gl' 20 func212 #[.slice As t1.length cs] ?_;(with_reducible refine(E1.calls _ _ t1 c _ ?side1 ?side2 A3.1).mono ?_);(case side1=>exact M8 (Kd.S_reads' HO.1).2.2);(case side2=>exact(Kd.S_reads' HO.1).2.1);rintro e w3 ⟨v20,rfl,ho,hb⟩;refine⟨_,rfl,?_⟩;have aA:=am (Kd.R_lower ho (C5 bz));have aB:=am (E8 bz hb);clear HB ho hb;have HR:=aA;have HB:=aB;clear aA aB))
  go_ret2
  exact⟨_,rfl,HR.1,HB.1⟩
 ·rw[if_neg c1]at H
  obtain rfl:=Bool.eq_false_iff.mpr c1
  replace H:=s2 H;obtain⟨rfl,rfl⟩:=H
  go_in
  go_wp2_with (first
   |((with_reducible refine J0 (f:=209) rfl ?_);refine gl' 10 func209 #[.int .i64 a0,.int .i64 a1] ?_;(with_reducible refine(S3.calls k a0 a1 false _ A1.1).mono ?_);rintro e w1 ⟨rfl,⟨nd1,rfl⟩⟩;refine⟨_,rfl,?_⟩))
  go_ret2
  exact⟨_,rfl,Kd.R_nil _ _ _ _ _,bz⟩
end Go.Proofs.YtpiogigidgejpaaGreatDoor.PFnExactStepLine
