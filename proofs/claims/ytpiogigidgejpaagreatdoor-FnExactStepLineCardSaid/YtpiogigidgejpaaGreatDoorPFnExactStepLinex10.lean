import Derived.Test.YtpiogigidgejpaaGreatDoorPFnExactStepLinex9
namespace Go.Proofs.YtpiogigidgejpaaGreatDoor.PFnExactStepLine
open Go.RowKit Go.Proofs.YtpiogigidgejpaaGreatDoorW.PrintWords Go.Proofs.YtpiogigidgejpaaGreatDoorW.PrintLast Go.Proofs.YtpiogigidgejpaaGreatDoorW.PrintMore Go.Proofs.YtpiogigidgejpaaGreatDoor.Sq Tryz
attribute [local go_sem] g8 g9 s8 q8 Y0 X9 b8 e6
set_option maxHeartbeats 8000000
set_option maxRecDepth 100000
set_option linter.unusedVariables false
set_option linter.unusedSimpArgs false
def O4.f (b:List Int)(a:Int):Option (List Int):=if 0≤a then(if a≤(b.length:Int)then((Q3.f (b.take (a:Int).toNat)).bind fun c=>(if 0≤(wrap64 (a+1))then(if(wrap64 (a+1))≤(b.length:Int)then(if c.length+ (b.drop ((wrap64 (a+1)):Int).toNat).length<17592186044416 then(some (c++ (b.drop ((wrap64 (a+1)):Int).toNat)))else(none))else(none))else(none)))else(none))else(none)
def O4.T1:Bool×List (List Nat×List Nat):=(true,[([],[]),([],[]),([0,1],[0,1]),([2],[2]),([],[]),([],[]),([5],[5]),([4,6],[4,6]),([3,7,3],[3,7]),([8,8,0,1,2,3,4,5,6,7,8],[8])])
def O4.B1:List Nat:=[0,0,3,7,0,0,32,112,255,511]
theorem O4.tab1:AA0 .any (AC6 f274 1)=O4.T1:=by kernel_rfl
theorem O4.bits1:l6 O4.T1.2 O4.B1=true:=by kernel_rfl
theorem O4.calls (A0 c0 l0 a1 r w):Kd.C KI w A0 l0.length l0→l0.length≤c0→O4.f l0 a1=some r→
 Calls prog 274 #[.slice A0 l0.length c0,.int .i64 a1] w (pR w KI 3 r):=by
 have HB:=bR w
 refine pa fun bB bC=>?_
 unfold O4.f
 refine if' fun c3b0 c3b1=>if' fun c4b0 c4b1=>ib fun aH A5=>?_
 obtain⟨aE,aA⟩:=ex (wrap64 (a1+1):Int)
 intro H
 first|rw[aA]at H|simp only[aA]at H
 (try rw[aA]at A5)
 have bD:(IntKind.i64.wrap (a1+1))=aE:=(P9 _).trans aA
 revert H
 refine if' fun c7b0 c7b1=>if' fun c8b0 c8b1=>il fun aT=>?_
 generalize aC:(aH++ (l0.drop ((aE):Int).toNat))=y664
 replace aC:=am aC.symm
 refine i1 ?_;rintro rfl
 go_in
 try go_wp2
 replace HB:=am (F8 HB.1)
 obtain⟨i011,aI,_,aJ,_⟩:=info_parts J9
 obtain⟨aU,aV,aW⟩:=AA6 (P:=prog) (Value.int .i64) 0 22 3 .i64 underlying22 aI aJ A0 c0 l0 a1 (od) (od) bC.1
 have hl11:(l0.take (a1:Int).toNat).length=(a1:Int).toNat:=by rw[List.length_take];have h_:a1≤(l0.length:Int):=od;omega
 have aG:=am (Kd.C_of_reads (h1:=fun _=>rfl) (aV _ (Kd.reads_of_C bB.1)))
 have aK:=am aW
 obtain⟨i012,aM,_,aN,_⟩:=info_parts J9
 obtain⟨A12,aX,aY,aZ⟩:=X7 (P:=prog) (Value.int .i64) 0 22 3 .i64 underlying22 aM aN A0 c0 l0 (aE) (od) (od) bC.1
 have aD:=am (Kd.C_of_reads (h1:=fun _=>rfl) (aY _ (Kd.reads_of_C bB.1)))
 have bE:=am aZ
 refine sq 10 (fun w'=>True) [] O4.tab1 O4.bits1 trivial fun hHeld HT_ HW_=>?_
 generalize w.drew=w10 at HB aG aD hHeld ⊢
 refine rg [0,1,2,4,5,6,7] ?_
 refine AD4 (i:=3) (N:=some 8) (lb 10 255) rfl rfl (g6 HT_.1 (by kernel_rfl)) (by decide) (fun K hK=>?_)
 refine AS9 func48 (by kernel_rfl) rfl #[.slice A0 (l0.take (a1:Int).toNat).length c0] (by rfl) rfl rfl (by(try simp only[List.map_toArray,List.map_cons,List.map_nil]);first|done|(rw[show(l0.take (a1:Int).toNat).length=a1.toNat from(by rw[List.length_take];have h_:(a1:Int)≤(l0.length:Int):=od;omega)]<;>rfl)|rfl|(simp only[List.length_drop,List.length_take];rfl)) ?_
 with_reducible refine(Q3.calls _ _ (l0.take (a1:Int).toNat) aH _ ?side1 ?side2 A5.1).mono ?_
 (case side1=>exact M8 (Kd.C_below aG.1 HB.1))
 (case side2=>exact aK.1)
 rintro e w13 ⟨bA,rfl,ho0,hb⟩
 refine⟨_,rfl,?_⟩
 have aP:=am (Kd.R_lower ho0 (C5 bz))
 replace HB:=bS hb
 refine hK.out _ _ trivial (fun hHeld=>?_)
 refine nm 8 ?_
 refine AD4 (i:=8) (N:=some 13) (lb 10 511) rfl rfl (g6 HT_.1 (by kernel_rfl)) (by decide) (fun K hK=>?_)
 refine Kd.R_append_rows_step KI (w0:=w) w.heap.size (by rfl) (.tmp 8) (.tmp 12) 22 3 (.int .i64 0) 8 rfl underlying22 J9 rfl (by decide) (by omega) bA aH (l0.drop ((aE):Int).toNat) _ _ _ (fun _=>True) (fun _=>False) rfl rfl ?aO ?aR (fun _ _ h=>h) (fun _ h=>h.elim) ?aF ?aB ?aS ?aL ?_
 (case aR=>first|(rw[←show(l0.drop ((aE):Int).toNat).length=(l0.length - (aE).toNat)from List.length_drop];repeat(first|exact(Kd.C_below aD.1 HB.1)|(with_reducible refine Kd.C_alloc ?_ _)|(with_reducible refine Kd.C_drewN ?_ _)|(with_reducible refine Kd.C_drew ?_)))|(repeat(first|exact(Kd.C_below aD.1 HB.1)|(with_reducible refine Kd.C_alloc ?_ _)|(with_reducible refine Kd.C_drewN ?_ _)|(with_reducible refine Kd.C_drew ?_))))
 (case aB=>exact bz)
 (case aF=>exact(fun _ _=>trivial))
 (case aO=>exact(rR aP))
 (case aS=>exact(C5 bz))
 (case aL=>have:=aT.1;have hlx_:=(show(l0.drop ((aE):Int).toNat).length=(l0.length - (aE).toNat)from List.length_drop);omega)
 intro v665 w14 ho hb hg hat
 rw[←aC.1]at ho
 replace HB:=am (hb)
 have aQ:=am (ho)
 refine hK.out _ _ trivial (fun hHeld=>?_)
 refine nm 13 ?_
 refine pw 9 ?_
 refine dn ?_
 try go_wp2
 go_ret
 exact⟨_,by first|rfl|(simp[M7,M6]<;>rfl)|(simp only[←aA];first|rfl|(simp[M7,M6]<;>rfl))|(simp[*,M7,M6]<;>rfl),rR aQ,bz⟩
def P7.f:Nat→List Int→Int→Option (List Int)
 |0,_,_=>none
 |k+1,c,b=>if(c.length:Int)=0 then(some ([]:List Int))else((H3.f k (wrap64 ((c.length:Int) - 1))).bind fun a=>(if a=0 then(none)else(if 0≤(wrap64 (Int.tdiv b a))then(if(wrap64 (Int.tdiv b a))< (c.length:Int)then((some (([rd c (wrap64 (Int.tdiv b a))]:List Int):List Int)).bind fun e=>((O4.f c (wrap64 (Int.tdiv b a))).bind fun f=>((P7.f k f (Int.tmod b a)).bind fun d=>(if e.length+d.length<17592186044416 then(some (e++d))else(none)))))else(none))else(none))))
theorem P7.mono_l:∀k,(∀y0 y1,S6 (P7.f k y0 y1) (P7.f (k+1) y0 y1))
 |0=>fun _ _ r h=>by simp[P7.f]at h
 |k+1=>by
  have ih0:=P7.mono_l k
  ·intro y0 y1
   unfold P7.f
   have e0:=H3.mono;exact mo
theorem P7.mono:∀a0 a1 k,S6 (P7.f k a0 a1) (P7.f (k+1) a0 a1):=by
 intro a0 a1 k
 have ih0:=P7.mono_l k
 exact ih0 a0 a1
def P7.T4:Bool×List (List Nat×List Nat):=(true,[([],[]),([],[]),([],[]),([1,2],[1,2]),([0,3],[0,3]),([4],[4]),([5],[5]),([],[]),([],[]),([],[]),([8,9],[8,9]),([7,10],[7,10]),([],[]),([],[]),([12,13],[12,13]),([11,14,11],[11,14]),([6,15,15],[6,15]),([16,16,0,1,2,3,4,5,6,7,8,9,10,11,12,13,14,15,16],[16])])
def P7.B4:List Nat:=[0,0,0,6,15,31,63,0,0,0,768,1920,0,0,12288,32640,65535,131071]
theorem P7.tab4:AA0 .any (AC6 f272 4)=P7.T4:=by kernel_rfl
theorem P7.bits4:l6 P7.T4.2 P7.B4=true:=by kernel_rfl
theorem P7.calls (k:Nat):∀ (A0:Option Addr) (c0:Nat) (l0:List Int) (a1:Int) (r:List Int) (w:World) (hr0:Kd.C KI w A0 l0.length l0) (hc0:l0.length≤c0) (h:P7.f k l0 a1=some r),
 Calls prog 272 #[.slice A0 l0.length c0,.int .i64 a1] w (pR w KI 3 r):=by
 induction k using Nat.strongRecOn with
 |_ k ih =>
 intro A0 c0 l0 a1 r w hr0 hc0 h
 cases k with
 |zero=>exact absurd h (by simp[P7.f])
 |succ k =>
 simp only[P7.f]at h
 have bW:=am hr0
 have cB:=am hc0
 have HB:=bR w
 have H:=h
 revert H
 refine iE (fun bX bY=>?_) fun c3 bX bY=>?_
 ·refine i1 ?_;rintro rfl
  go_in
  go_wp2
  go_ret
  exact⟨_,fe,nz,bz⟩
 have c3b2:¬(l0=[]):=fun h_=>c3 (by rw[h_];rfl)
 refine ib fun aM A4=>iN fun c5 c5b0 c5b1=>?_
 obtain⟨aH,aT⟩:=ex (wrap64 (Int.tdiv a1 aM):Int)
 intro H
 first|rw[aT]at H|simp only[aT]at H
 (try rw[aT]at A4)
 have cC:(IntKind.i64.wrap (Int.tdiv a1 aM))=aH:=(P9 _).trans aT
 revert H
 refine U9 fun c7b0=>U9 fun c8b0=>iy fun bC aK=>ib fun aG A9=>ib fun aN bZ=>il fun bI=>?_
 generalize aX:(bC++aN)=y678
 replace aX:=am aX.symm
 refine i1 ?_;rintro rfl
 go_in
 try go_wp2_with ((with_reducible refine ga 150 ?_);refine gp func150 (H3.calls k (wrap64 ((l0.length:Int) - 1)) aM _ A4.1) fun nd=>?_)
 (rw[Ae3 w];generalize hq_:World.drewN w _=w12;have bV:=am (BM3 hq_ HB.1);clear hq_ HB;have HB:=bV;clear bV)
 replace HB:=am (F8 HB.1)
 have bG:0≤((aH):Int):=od
 have bH:(aH)< (l0.length:Int):=od
 obtain⟨aQ,cA,aI⟩:=Kd.at_int bW.1 (aH) bG bH
 have aC:=aI
 cases cA
 replace aI:=cl aI
 replace bG:=eq_true bG
 replace bH:=eq_true bH
 refine sq 18 (fun w'=>w'.cell? (aQ.add ((aH)).toNat)=some (.int .i64 (rd l0 (aH)))) [] P7.tab4 P7.bits4 ((cz aC)) fun hHeld HT_ HW_=>?_
 generalize w12.drew=w13 at HB aI hHeld ⊢
 refine rg [0,1,2,3,4,7,8,9,10,12,13,14,5] ?_
 refine BV4 (σ:=Value×Value×Value) 2 (lb 18 65535) (fun s_=>[(19,s_.1),(24,s_.2.1),(28,s_.2.2)]) (fun s_ w'=>(w'.cell? (aQ.add ((aH)).toNat)=some (.int .i64 (rd l0 (aH))))∧(Kd.R KI 3 w' w.heap.size (fun k_=>some k_≠(s_.2.1:Value).ownBlock∧some k_≠(s_.2.2:Value).ownBlock) s_.1 bC)∧(Kd.R KI 3 w' w.heap.size (fun k_=>some k_≠(s_.1:Value).ownBlock∧some k_≠(s_.2.2:Value).ownBlock) s_.2.1 aG)∧(Kd.R KI 3 w' w.heap.size (fun k_=>some k_≠(s_.1:Value).ownBlock∧some k_≠(s_.2.1:Value).ownBlock) s_.2.2 aN)∧(Below w.heap.size w w')) ?_ ?_
 rotate_left
 ·intro hCont
  refine BM8 (i:=6) (j:=11) (Ni:=some 19) (Nj:=some 24) (lb 18 30719) (lb 18 32703) rfl rfl rfl rfl (Aq4 HT_.1 (by kernel_rfl)) (by decide) (by decide) (fun K hK=>?_) (fun K hK=>?_)
  ·skip
   refine Kd.R_lit_step KI _ 3 ?hg (N:=19) ?hd (xs:=([rd l0 (aH)]:List Int)) (inner:=[.int .i64 (rd l0 (aH))]) (ok:=fun _=>True) (okp:=fun _=>True) ?hr ?hp (fun _ hk=>hk) trivial (Below.refl _ _) (Nat.le_refl _) (by simp) ?_;(case hd=>rfl);(case hg=>rfl);(case hr=>first|(go_simp;done)|(go_simp;rfl));(case hp=>exact(J7.one (show Kd.M KI _ _ _ (rd l0 (aH)) [.int .i64 (rd l0 (aH))]from rfl) (J7.none _ _)))
   intro aJ w14 bD hb hg_ hnew_
   (first|rw[←aK.1]at bD|(simp only[Int.reduceToNat]at bD;rw[←aK.1]at bD))
   have aD:=am (Kd.R_lower bD (C5 bz))
   replace HB:=bS hb
   refine hK.out _ _ ((cz aC)) (fun hHeld=>?_)
   refine nm 19 ?_
   refine AD4 (i:=11) (N:=some 24) (lb 18 32767) rfl rfl (g6 HT_.1 (by kernel_rfl)) (by decide) (fun K hK=>?_)
   refine AS9 func274 (by kernel_rfl) rfl #[.slice (some aQ) l0.length c0,.int .i64 aH] (by rfl) rfl rfl (by(try simp only[List.map_toArray,List.map_cons,List.map_nil]);first|done|(simp only[aT];rfl)|rfl|(simp only[List.length_drop,List.length_take];rfl)) ?_
   with_reducible refine(O4.calls _ _ l0 aH aG _ ?side1 ?side2 A9.1).mono ?_
   (case side1=>exact M8 (Kd.C_below bW.1 HB.1))
   (case side2=>exact cB.1)
   rintro e w16 ⟨aU,rfl,aV,hb⟩
   refine⟨_,rfl,?_⟩
   have aA:=am (Kd.R_lower (Kd.R_new' aV (Kd.R_lt (rR aD))) (C5 bz))
   replace aD:=rE aD aV hb
   replace HB:=bS hb
   obtain⟨aY,aZ,bA⟩:=Kd.R_slice aA.1
   (first|subst bA|(injection bA with bE bJ bF;have bK:=bE.symm;have bL:=bF.symm;clear bE bJ bF;subst bK;subst bL))
   refine hK.out _ _ ((cz aC)) (fun hHeld=>?_)
   refine nm 24 ?_
   refine AD4 (i:=15) (N:=some 28) (lb 18 65535) rfl rfl (g6 HT_.1 (by kernel_rfl)) (by decide) (fun K hK=>?_)
   refine gs' func272 #[.slice aY aG.length aZ,.int .i64 (Int.tmod a1 aM)] ?_
   with_reducible refine(ih k (by omega) _ _ aG (Int.tmod a1 aM) aN _ ?side1 ?side2 bZ.1).mono ?_
   (case side1=>exact M8 (Kd.R_reads' aA.1).2.2)
   (case side2=>exact(Kd.R_reads' aA.1).2.1)
   rintro e w18 ⟨aP,rfl,aV,hb⟩
   refine⟨_,rfl,?_⟩
   have aE:=am (Kd.R_lower (Kd.R_new' (Kd.R_new' aV (Kd.R_lt (rR aD))) (Kd.R_lt (rR aA))) (C5 bz))
   replace aD:=rE aD aV hb
   replace aA:=rE aA aV hb
   replace HB:=bS hb
   refine hK.out _ _ ((cz aC)) (fun hHeld=>?_)
   refine nm 28 ?_
   exact AX2 (by simp only[AI5,Act.put,List.setIfInBounds_toArray,List.set_cons_zero,List.set_cons_succ]) (hCont (aJ,.slice aY aG.length aZ,aP) _ ⟨hHeld,(rM aD (fun _ hk=>(And.intro hk.1.2 hk.2))),(rM aA (fun _ hk=>(And.intro hk.1.2 hk.2))),(rM aE (fun _ hk=>(And.intro hk.1.2 hk.2))),bz⟩)
  ·skip
   refine AS9 func274 (by kernel_rfl) rfl #[.slice (some aQ) l0.length c0,.int .i64 aH] (by rfl) rfl rfl (by(try simp only[List.map_toArray,List.map_cons,List.map_nil]);first|done|(simp only[aT];rfl)|rfl|(simp only[List.length_drop,List.length_take];rfl)) ?_
   with_reducible refine(O4.calls _ _ l0 aH aG _ ?side1 ?side2 A9.1).mono ?_
   (case side1=>exact M8 (Kd.C_below bW.1 HB.1))
   (case side2=>exact cB.1)
   rintro e w14 ⟨aU,rfl,aV,hb⟩
   refine⟨_,rfl,?_⟩
   have aA:=am (Kd.R_lower aV (C5 bz))
   replace HB:=bS hb
   refine hK.out _ _ ((cz aC)) (fun hHeld=>?_)
   refine nm 24 ?_
   refine BM8 (i:=6) (j:=15) (Ni:=some 19) (Nj:=some 28) (lb 18 32767) (lb 18 65471) rfl rfl rfl rfl (Aq4 HT_.1 (by kernel_rfl)) (by decide) (by decide) (fun K hK=>?_) (fun K hK=>?_)
   ·skip
    refine Kd.R_lit_step KI _ 3 ?hg (N:=19) ?hd (xs:=([rd l0 (aH)]:List Int)) (inner:=[.int .i64 (rd l0 (aH))]) (ok:=fun _=>True) (okp:=fun _=>True) ?hr ?hp (fun _ hk=>hk) trivial (Below.refl _ _) (Nat.le_refl _) (by simp) ?_;(case hd=>rfl);(case hg=>rfl);(case hr=>first|(go_simp;done)|(go_simp;rfl));(case hp=>exact(J7.one (show Kd.M KI _ _ _ (rd l0 (aH)) [.int .i64 (rd l0 (aH))]from rfl) (J7.none _ _)))
    intro aJ w15 bB hb hg_ hnew_
    (first|rw[←aK.1]at bB|(simp only[Int.reduceToNat]at bB;rw[←aK.1]at bB))
    have aD:=am (Kd.R_lower (Kd.R_new' bB (Kd.R_lt (rR aA))) (C5 bz))
    replace aA:=rE aA bB hb
    replace HB:=bS hb
    obtain⟨aY,aZ,bA⟩:=Kd.R_slice aA.1
    (first|subst bA|(injection bA with bE bJ bF;have bK:=bE.symm;have bL:=bF.symm;clear bE bJ bF;subst bK;subst bL))
    refine hK.out _ _ ((cz aC)) (fun hHeld=>?_)
    refine nm 19 ?_
    refine AD4 (i:=15) (N:=some 28) (lb 18 65535) rfl rfl (g6 HT_.1 (by kernel_rfl)) (by decide) (fun K hK=>?_)
    refine gs' func272 #[.slice aY aG.length aZ,.int .i64 (Int.tmod a1 aM)] ?_
    with_reducible refine(ih k (by omega) _ _ aG (Int.tmod a1 aM) aN _ ?side1 ?side2 bZ.1).mono ?_
    (case side1=>exact M8 (Kd.R_reads' aA.1).2.2)
    (case side2=>exact(Kd.R_reads' aA.1).2.1)
    rintro e w18 ⟨aP,rfl,aV,hb⟩
    refine⟨_,rfl,?_⟩
    have aE:=am (Kd.R_lower (Kd.R_new' (Kd.R_new' aV (Kd.R_lt (rR aA))) (Kd.R_lt (rR aD))) (C5 bz))
    replace aA:=rE aA aV hb
    replace aD:=rE aD aV hb
    replace HB:=bS hb
    refine hK.out _ _ ((cz aC)) (fun hHeld=>?_)
    refine nm 28 ?_
    exact AX2 (by simp only[AI5,Act.put,List.setIfInBounds_toArray,List.set_cons_zero,List.set_cons_succ]) (hCont (aJ,.slice aY aG.length aZ,aP) _ ⟨hHeld,(rM aD (fun _ hk=>(And.intro hk.1.2 hk.2))),(rM aA (fun _ hk=>(And.intro hk.1.2 hk.2))),(rM aE (fun _ hk=>(And.intro hk.2 hk.1.2))),bz⟩)
   ·skip
    obtain⟨bM,bN,rfl⟩:=Kd.R_slice aA.1
    refine gs' func272 #[.slice bM aG.length bN,.int .i64 (Int.tmod a1 aM)] ?_
    with_reducible refine(ih k (by omega) _ _ aG (Int.tmod a1 aM) aN _ ?side1 ?side2 bZ.1).mono ?_
    (case side1=>exact M8 (Kd.R_reads' aA.1).2.2)
    (case side2=>exact(Kd.R_reads' aA.1).2.1)
    rintro e w16 ⟨aP,rfl,aV,hb⟩
    refine⟨_,rfl,?_⟩
    have aE:=am (Kd.R_lower (Kd.R_new' aV (Kd.R_lt (rR aA))) (C5 bz))
    replace aA:=rE aA aV hb
    replace HB:=bS hb
    refine hK.out _ _ ((cz aC)) (fun hHeld=>?_)
    refine nm 28 ?_
    refine AD4 (i:=6) (N:=some 19) (lb 18 65535) rfl rfl (g6 HT_.1 (by kernel_rfl)) (by decide) (fun K hK=>?_)
    refine Kd.R_lit_step KI _ 3 ?hg (N:=19) ?hd (xs:=([rd l0 (aH)]:List Int)) (inner:=[.int .i64 (rd l0 (aH))]) (ok:=fun _=>True) (okp:=fun _=>True) ?hr ?hp (fun _ hk=>hk) trivial (Below.refl _ _) (Nat.le_refl _) (by simp) ?_;(case hd=>rfl);(case hg=>rfl);(case hr=>first|(go_simp;done)|(go_simp;rfl));(case hp=>exact(J7.one (show Kd.M KI _ _ _ (rd l0 (aH)) [.int .i64 (rd l0 (aH))]from rfl) (J7.none _ _)))
    intro aJ w17 aW hb hg_ hnew_
    (first|rw[←aK.1]at aW|(simp only[Int.reduceToNat]at aW;rw[←aK.1]at aW))
    have aD:=am (Kd.R_lower (Kd.R_new' (Kd.R_new' aW (Kd.R_lt (rR aA))) (Kd.R_lt (rR aE))) (C5 bz))
    replace aA:=rE aA aW hb
    replace aE:=rE aE aW hb
    replace HB:=bS hb
    refine hK.out _ _ ((cz aC)) (fun hHeld=>?_)
    refine nm 19 ?_
    exact AX2 (by simp only[AI5,Act.put,List.setIfInBounds_toArray,List.set_cons_zero,List.set_cons_succ]) (hCont (aJ,.slice bM aG.length bN,aP) _ ⟨hHeld,(rM aD (fun _ hk=>(And.intro hk.1.2 hk.2))),(rM aA (fun _ hk=>(And.intro hk.2 hk.1.2))),(rM aE (fun _ hk=>(And.intro hk.2 hk.1.2))),bz⟩)
 rintro⟨aJ,aU,aP⟩ bO ⟨hS_,h0_,h1_,h2_,h3_⟩
 have bV:Aside0 (Kd.R KI 3 bO w.heap.size (fun k_=>some k_≠(aU:Value).ownBlock∧some k_≠(aP:Value).ownBlock) aJ bC):=⟨h0_⟩
 have n1_:Aside0 (Kd.R KI 3 bO w.heap.size (fun k_=>some k_≠(aJ:Value).ownBlock∧some k_≠(aP:Value).ownBlock) aU aG):=⟨h1_⟩
 have n2_:Aside0 (Kd.R KI 3 bO w.heap.size (fun k_=>some k_≠(aJ:Value).ownBlock∧some k_≠(aU:Value).ownBlock) aP aN):=⟨h2_⟩
 have n3_:Aside0 (Below w.heap.size w bO):=⟨h3_⟩
 have aD:=bV
 have aA:=n1_
 have aE:=n2_
 have HB:=n3_
 have hHeld:bO.cell? (aQ.add ((aH)).toNat)=some (.int .i64 (rd l0 (aH))):=hS_
 obtain⟨bP,bQ,bT⟩:=Kd.R_slice aE.1
 (first|subst bT|(injection bT with bE bJ bF;have bK:=bE.symm;have bL:=bF.symm;clear bE bJ bF;subst bK;subst bL))
 refine AX2 (a':=?_) ?_ ?_
 rotate_left
 ·simp only[AI5,Act.put,List.setIfInBounds_toArray,List.set_cons_zero,List.set_cons_succ]
  rfl
 refine AD4 (i:=16) (N:=some 29) (lb 18 131071) rfl rfl (g6 HT_.1 (by kernel_rfl)) (by decide) (fun K hK=>?_)
 refine Kd.R_append_rows_step KI (w0:=w) w.heap.size (by rfl) (.tmp 19) (.tmp 28) 22 3 (.int .i64 0) 8 rfl underlying22 J9 rfl (by decide) (by omega) aJ bC aN _ _ _ (fun k_=>some k_≠(aU:Value).ownBlock∧some k_≠(.slice bP aN.length bQ:Value).ownBlock) (fun _=>False) rfl rfl ?aO ?aR (fun _ _ h=>h) (fun _ h=>h.elim) ?aF ?aB ?aS ?aL ?_
 (case aR=>repeat(first|exact(Kd.R_reads' aE.1).2.2|(with_reducible refine Kd.C_alloc ?_ _)|(with_reducible refine Kd.C_drewN ?_ _)|(with_reducible refine Kd.C_drew ?_)))
 (case aB=>exact bz)
 (case aF=>exact(fun k_ hk=>⟨Kd.fresh' (Kd.R_lt (rR aA)) k_ hk,Kd.fresh' (Kd.R_lt (rR aE)) k_ hk⟩))
 (case aO=>exact(rR aD))
 (case aS=>exact(C5 bz))
 (case aL=>have:=bI.1;omega)
 intro v679 w20 ho hb hg hat
 rw[←aX.1]at ho
 replace aA:=am (Kd.R_after (ok:=(fun k_=>some k_≠(.slice bP aN.length bQ:Value).ownBlock)) (rM aA (fun _ hk=>(And.intro hk.2 hk.1))) hg hat)
 replace aE:=am (Kd.R_after (ok:=(fun k_=>some k_≠(aU:Value).ownBlock)) (rM aE (fun _ hk=>(And.intro hk.2 hk.1))) hg hat)
 replace HB:=am (hb)
 have bU:=am (ho)
 refine hK.out _ _ ((cz aC)) (fun hHeld=>?_)
 refine nm 29 ?_
 refine pw 17 ?_
 refine dn ?_
 try go_wp2
 go_ret
 exact⟨_,by first|rfl|(simp[M7,M6]<;>rfl)|(simp only[←aT];first|rfl|(simp[M7,M6]<;>rfl))|(simp[*,M7,M6]<;>rfl),rM bU (fun _ hk=>trivial),bz⟩
def K9.l0:Nat→Int→List Int→Int→Option (List Int)
 |0,_,_,_=>none
 |k+1,c,a,b=>if b<c then(if a.length<17592186044416 then(K9.l0 k c (a++ [b]) (wrap64 (b+1)))else(none))else(some a)
def K9.f (k:Nat)(a:Int):Option (List Int):=K9.l0 k a ([]:List Int) 0
theorem K9.mono_l:∀k,(∀y0 y1 y2,S6 (K9.l0 k y0 y1 y2) (K9.l0 (k+1) y0 y1 y2))
 |0=>fun _ _ _ r h=>by simp[K9.l0]at h
 |k+1=>by
  have ih0:=K9.mono_l k
  ·intro y0 y1 y2
   unfold K9.l0
   exact mo
theorem K9.mono:∀a0 k,S6 (K9.f k a0) (K9.f (k+1) a0):=by
 intro a0 k
 have ih0:=K9.mono_l k
 unfold K9.f
 exact mo
theorem K9.calls (k a0 r w):K9.f k a0=some r→
 Calls prog 273 #[.int .i64 a0] w (pR w KI 3 r):=by
 have HB:=bR w
 unfold K9.f
 refine ia fun H'=>?_
 go_in
 go_wp2
 go_loopg [3,4] k (fun kq v3 v4 w'=>∃ (aB:List Int) (aA:Int),v4=.int .i64 aA∧Aside0 (K9.l0 kq a0 aB aA=some r)∧Aside0 (kq≤k)∧Aside0 (Kd.R KI 3 w' w.heap.size (fun _=>True) v3 aB)∧Aside0 (Below w.heap.size w w'))
 case atStart=>exact⟨_,_,fz,H',lr,⟨nz⟩,⟨bz⟩⟩
 case round =>
 obtain⟨aB,aA,rfl,⟨H⟩,aG,aD,HB⟩:=hrel
 cases gk with
 |zero=>cases H
 |succ k1 =>
 simp only[K9.l0]at H
 revert H
 refine iD ?_ ?_<;>intro c2b0
 ·refine il fun aF=>?_
  generalize aC:(aB++ [aA])=y681
  replace aC:=am aC.symm
  refine ia fun H'=>?_
  go_wp2_with ((with_reducible refine gb 10 12 ?_);at_builtin;refine ra KI underlying22 J9 u3 aB aA [.int .i64 aA] (fun _=>True) rfl (fun _ _=>trivial) (rR aD) bz (lm aF) ?_;intro v682 w4 ho hb hg hat;rw[←aC.1]at ho;replace HB:=am (hb);have aE:=am (ho);clear aD ho hb hg hat)
  go_roundg k1
  case measure=>exact lm aG
  case rel=>exact⟨_,_,fz,H',la aG,⟨rR aE⟩,⟨bz⟩⟩
 refine i1 ?_;rintro rfl
 go_wp2
 go_ret
 exact⟨_,fe,rR aD,bz⟩
def P3.j0:Nat→Int→Int→Bool→Option (List Int×Bool)
 |0,_,_,_=>none
 |k+1,c,d,e=>if e=true then(some (([]:List Int),false))else((K9.f k c).bind fun a=>((P7.f k a d).bind fun b=>(some (b,true))))
def P3.f (k:Nat)(a b:Int):Option (List Int×Bool):=(U3.f a).bind fun c=>(if c=true then((H3.f k a).bind fun d=>((G3.f b 0 (wrap64 (d - 1))).bind fun e=>(P3.j0 k a b (!e))))else(P3.j0 k a b true))
theorem P3.calls (k a0 a1 r1 r2 w):P3.f k a0 a1=some (r1,r2)→
 Calls prog 218 #[.int .i64 a0,.int .i64 a1] w (pT w KI 3 r1 r2):=by
 have HB:=bR w
 unfold P3.f
 refine ia fun HC3=>?_
 go_in
 go_upto_region 1 with(fail)
 go_cut [16] (fun v16 wc=>∃ (kq:Nat) (aB:Bool),v16=.bool aB∧Aside0 (P3.j0 kq a0 a1 aB=some (r1,r2))∧Aside0 (kq≤k)∧Aside0 (Below w.heap.size w wc))
 case first =>
  have H:=HC3.1
  revert H
  refine ib fun t684 A4=>iB ?_ ?_<;>rintro rfl
  ·refine ib fun aC A6=>ib fun aD A7=>ia fun H'=>?_
   go_wp2_with (first|((with_reducible refine ga 231 ?_);refine gp func231 (U3.calls a0 true _ A4.1) fun nd=>?_)|(go_at_call 150;(with_reducible refine qp (H3.calls k a0 aC _ A6.1) fun nd=>?_))|(go_at_call 78;(with_reducible refine qp (G3.calls a1 0 (wrap64 (aC - 1)) aD _ A7.1) fun nd=>?_)))
   go_meet
   case rel=>exact⟨_,(!aD),fz,H',lo,⟨bz⟩⟩
  refine ia fun H'=>?_
  go_wp2_with ((with_reducible refine ga 231 ?_);refine gp func231 (U3.calls a0 false _ A4.1) fun nd=>?_)
  go_meet
  case rel=>exact⟨_,(true),fz,H',lo,⟨bz⟩⟩
 case rest =>
 obtain⟨kq,aB,rfl,⟨H⟩,HJ2,HB⟩:=hcut
 cases kq with
 |zero=>cases H
 |succ aK =>
 simp only[P3.j0]at H
 revert H
 refine iB ?_ ?_<;>rintro rfl
 ·refine i2 ?_;rintro rfl rfl
  go_wp2
  go_ret2
  exact⟨_,fe,nz,bz⟩
 refine ib fun aE A9=>ib fun aG A10=>i2 ?_;rintro rfl rfl
 go_wp2_with (first|((with_reducible refine ga 273 ?_);refine gR func273 (K9.calls aK a0 aE _ A9.1) bz ?_;clear HB;intro v688 w11 aA HB;obtain⟨aH,aI,rfl⟩:=Kd.R_slice aA.1)|((with_reducible refine ga 272 ?_);refine gs func272 (P7.calls aK aH aI aE a1 aG _ (M8 (Kd.R_reads' aA.1).2.2) ((Kd.R_reads' aA.1).2.1) A10.1) ?_;rintro v691 w13 ⟨aJ,hb⟩;have aF:=am (Kd.R_lower (Kd.R_new' aJ (Kd.R_lt (rR aA))) (C5 bz));replace aA:=rE aA aJ hb;replace HB:=bS hb;clear hb aJ))
 go_ret2
 exact⟨_,fe,rM aF (fun _ hk=>trivial),bz⟩
def V2.f (k:Nat)(c:List Int):Option (List Int×Bool):=(V1.f k c).bind fun a=>(if a.2=true then((P3.f k (c.length:Int) (wrap64 (a.1+1))).bind fun b=>(some (b.1,b.2)))else(some (([]:List Int),false)))
theorem V2.calls (k A0 c0 l0 r1 r2 w):Kd.C KI w A0 l0.length l0→l0.length≤c0→V2.f k l0=some (r1,r2)→
 Calls prog 147 #[.slice A0 l0.length c0] w (pT w KI 3 r1 r2):=by
 have HB:=bR w
 refine pa fun aE aF=>?_
 unfold V2.f
 refine ib ?_;rintro⟨aA,t694⟩ A2
 refine iB ?_ ?_<;>rintro rfl
 ·refine ib ?_;rintro⟨aC,aD⟩ A4
  refine i2 ?_;rintro rfl rfl
  go_in
  go_wp2_with (first|((with_reducible refine ga 217 ?_);refine gB func217 (V1.calls k A0 c0 l0 aA true _ (M8 aE.1) aF.1 A2.1) bz ?_;clear HB;intro w5 HB)|((with_reducible refine ga 218 ?_);refine gR func218 (P3.calls k (l0.length:Int) (wrap64 (aA+1)) aC aD _ A4.1) bz ?_;clear HB;intro v697 w6 aB HB))
  go_ret2
  exact⟨_,fe,rR aB,bz⟩
 refine i2 ?_;rintro rfl rfl
 go_in
 go_wp2_with ((with_reducible refine ga 217 ?_);refine gB func217 (V1.calls k A0 c0 l0 aA false _ (M8 aE.1) aF.1 A2.1) bz ?_;clear HB;intro w7 HB)
 go_ret2
 exact⟨_,fe,nz,bz⟩
def P6.l0:Nat→Int→List Int→Int→Int→Option (Int)
 |0,_,_,_,_=>none
 |k+1,c,b,d,a=>if a<d then(if 0≤a then(if a< (b.length:Int)then(if c=(rd b a)then(some a)else(P6.l0 k c b d (wrap64 (a+1))))else(none))else(none))else(some (-1))
def P6.f (k:Nat)(a:List Int)(b:Int):Option (Int):=P6.l0 k b a (a.length:Int) 0
theorem P6.calls (k A0 c0 l0 a1 r w):Kd.C KI w A0 l0.length l0→l0.length≤c0→P6.f k l0 a1=some r→
 Calls prog 227 #[.slice A0 l0.length c0,.int .i64 a1] w (pD w (.int .i64 r)):=by
 refine pa fun aH HC0=>?_
 unfold P6.f
 refine ia fun H'=>?_
 go_in
 go_wp2
 go_loopg [9] k (fun kq v9 w'=>∃ (aA:Int),v9=.int .i64 aA∧Aside0 (P6.l0 kq a1 l0 (l0.length:Int) aA=some r)∧Aside0 (kq≤k)∧Drawn0 w w')
 case atStart=>exact⟨_,fz,H',lr,dz⟩
 case round =>
 obtain⟨aA,rfl,⟨H⟩,aI,⟨m1,rfl⟩⟩:=hrel
 cases gk with
 |zero=>cases H
 |succ k1 =>
 simp only[P6.l0]at H
 revert H
 refine iD ?_ ?_<;>intro c3b0
 ·refine U9 fun c4b0=>U9 fun c5b0=>iE (fun aD aE=>?_) fun c6 aD aE=>?_
  ·refine i1 ?_;rintro rfl
   obtain⟨aF,aG,aC,rfl,aB⟩:=ai aH.1 aA
   go_wp2
   go_ret
   exact⟨fz,dz⟩
  refine ia fun H'=>?_
  obtain⟨aF,aG,aC,rfl,aB⟩:=ai aH.1 aA
  go_wp2
  go_roundg k1
  case measure=>exact lm aI
  case rel=>exact⟨_,fz,H',la aI,dz⟩
 refine i1 ?_;rintro rfl
 go_wp2
 go_ret
 exact⟨fz,dz⟩
def S5.f:Nat→List Int→Option (Int)
 |0,_=>none
 |k+1,a=>if(a.length:Int)=0 then(some 0)else((P6.f k a (wrap64 ((a.length:Int) - 1))).bind fun b=>((O4.f a b).bind fun d=>((S5.f k d).bind fun c=>(if(Int.tmod c 2)=0 then(some (wrap64 ((wrap64 (c* (a.length:Int)))+ (wrap64 ((wrap64 ((a.length:Int) - 1)) - b)))))else(some (wrap64 ((wrap64 (c* (a.length:Int)))+b)))))))
theorem S5.calls (k:Nat):∀ (A0:Option Addr) (c0:Nat) (l0:List Int) (r:Int) (w:World) (hr0:Kd.C KI w A0 l0.length l0) (hc0:l0.length≤c0) (h:S5.f k l0=some r),
 Calls prog 219 #[.slice A0 l0.length c0] w (pB w (.int .i64 r)):=by
 induction k using Nat.strongRecOn with
 |_ k ih =>
 intro A0 c0 l0 r w hr0 hc0 h
 cases k with
 |zero=>exact absurd h (by simp[S5.f])
 |succ k =>
 simp only[S5.f]at h
 have aE:=am hr0
 have aF:=am hc0
 have HB:=bR w
 have H:=h
 revert H
 refine iE (fun aG aH=>?_) fun c2 aG aH=>?_
 ·refine i1 ?_;rintro rfl
  go_in
  go_wp2
  go_ret
  exact⟨fe,bz⟩
 have c2b2:¬(l0=[]):=fun h_=>c2 (by rw[h_];rfl)
 refine ib fun aB A3=>ib fun aC A4=>ib fun aD A5=>iE (fun aI aJ=>?_) fun c6 aI aJ=>?_
 ·refine i1 ?_;rintro rfl
  go_in
  go_wp2_with (first|((with_reducible refine ga 227 ?_);refine gp func227 (P6.calls k A0 c0 l0 (wrap64 ((l0.length:Int) - 1)) aB _ (M8 aE.1) aF.1 A3.1) fun nd=>?_)|((with_reducible refine ga 274 ?_);refine gR func274 (O4.calls A0 c0 l0 aB aC _ (M8 aE.1) aF.1 A4.1) bz ?_;clear HB;intro aK w7 aA HB;obtain⟨Ao8,co8,rfl⟩:=Kd.R_slice aA.1)|((with_reducible refine ga 219 ?_);refine ge func219 (ih k (by omega) Ao8 co8 aC aD _ (M8 (Kd.R_reads' aA.1).2.2) ((Kd.R_reads' aA.1).2.1) A5.1) ?_;rintro w9 hb;replace aA:=am (Kd.R_below (rR aA) hb);replace HB:=bS hb;clear hb))
  go_ret
  exact⟨fe,bz⟩
 refine i1 ?_;rintro rfl
 go_in
 go_wp2_with (first|((with_reducible refine ga 227 ?_);refine gp func227 (P6.calls k A0 c0 l0 (wrap64 ((l0.length:Int) - 1)) aB _ (M8 aE.1) aF.1 A3.1) fun nd=>?_)|((with_reducible refine ga 274 ?_);refine gR func274 (O4.calls A0 c0 l0 aB aC _ (M8 aE.1) aF.1 A4.1) bz ?_;clear HB;intro aK w10 aA HB;obtain⟨aL,aM,rfl⟩:=Kd.R_slice aA.1)|((with_reducible refine ga 219 ?_);refine ge func219 (ih k (by omega) aL aM aC aD _ (M8 (Kd.R_reads' aA.1).2.2) ((Kd.R_reads' aA.1).2.1) A5.1) ?_;rintro w12 hb;replace aA:=am (Kd.R_below (rR aA) hb);replace HB:=bS hb;clear hb))
 go_ret
 exact⟨fe,bz⟩
def Y7.f:Nat→Int→Int→Option (List Int)
 |0,_,_=>none
 |k+1,a,b=>if a=0 then(some ([]:List Int))else((Y7.f k (wrap64 (a - 1)) (wrap64 (Int.tdiv b a))).bind fun c=>(if(Int.tmod (wrap64 (Int.tdiv b a)) 2)=0 then(if 0≤(wrap64 ((wrap64 (a - 1)) - (Int.tmod b a)))then(if(wrap64 ((wrap64 (a - 1)) - (Int.tmod b a)))≤(c.length:Int)then((Q3.f (c.take ((wrap64 ((wrap64 (a - 1)) - (Int.tmod b a))):Int).toNat)).bind fun d=>(if d.length<17592186044416 then((some (d++ [wrap64 (a - 1)]:List Int)).bind fun f=>((some (c.drop ((wrap64 ((wrap64 (a - 1)) - (Int.tmod b a))):Int).toNat:List Int)).bind fun g=>(if f.length+g.length<17592186044416 then(some (f++g))else(none))))else(none)))else(none))else(none))else(if 0≤(Int.tmod b a)then(if(Int.tmod b a)≤(c.length:Int)then((Q3.f (c.take ((Int.tmod b a):Int).toNat)).bind fun e=>(if e.length<17592186044416 then((some (e++ [wrap64 (a - 1)]:List Int)).bind fun h=>((some (c.drop ((Int.tmod b a):Int).toNat:List Int)).bind fun i=>(if h.length+i.length<17592186044416 then(some (h++i))else(none))))else(none)))else(none))else(none))))
theorem Y7.calls (k:Nat):∀ (a0 a1:Int) (r:List Int) (w:World) (h:Y7.f k a0 a1=some r),
 Calls prog 220 #[.int .i64 a0,.int .i64 a1] w (pR w KI 3 r):=by
 induction k using Nat.strongRecOn with
 |_ k ih =>
 intro a0 a1 r w h
 cases k with
 |zero=>exact absurd h (by simp[Y7.f])
 |succ k =>
 simp only[Y7.f]at h
 have HB:=bR w
 have H:=h
 revert H
 refine iE (fun cV cW=>?_) fun c3 cV cW=>?_
 ·refine i1 ?_;rintro rfl
  go_in
  go_wp2
  go_ret
  exact⟨_,fe,nz,bz⟩
 refine ib fun aB A4=>iE (fun cX cY=>?_) fun c5 cX cY=>?_
 ·obtain⟨aH,aT⟩:=ex (wrap64 ((wrap64 (a0 - 1)) - (Int.tmod a1 a0)):Int)
  intro H
  first|rw[aT]at H|simp only[aT]at H
  (try rw[aT]at A4)
  have dO:(IntKind.i64.wrap ((wrap64 (a0 - 1)) - (Int.tmod a1 a0)))=aH:=(P9 _).trans aT
  revert H
  refine if' fun c7b0 c7b1=>if' fun c8b0 c8b1=>?_
  generalize aI:(aB.take ((aH):Int).toNat)=y708
  replace aI:=am aI.symm
  refine ib fun bZ A9=>il fun cA=>iy fun cB cC=>?_
  have dP:=eq_true (od:0≤(aH))
  have dQ:=eq_true (od:(aH)≤(aB.length:Int))
  refine iy fun aK aU=>il fun cD=>?_
  generalize aV:(cB++aK)=y722
  replace aV:=am aV.symm
  refine i1 ?_;rintro rfl
  go_in
  go_wp2_with (first|((with_reducible refine ga 220 ?_);refine gR func220 (ih k (by omega) (wrap64 (a0 - 1)) (wrap64 (Int.tdiv a1 a0)) aB _ A4.1) bz ?_;clear HB;intro cZ w14 aA HB;obtain⟨aF,aD,rfl⟩:=Kd.R_slice aA.1;have dA:((aH):Int)≤((aB.length:Int):Int):=od;obtain⟨i015,bC,_,cE,_⟩:=info_parts J9;have aQ:aB.length≤aD:=(Kd.R_reads' aA.1).2.1;have cF:Kd.C KI _ aF aB.length aB:=(Kd.R_reads' aA.1).2.2;have bO:=AF9 (P:=prog) 22 3 .i64 underlying22 bC aF aB.length aD (aH) (od) dA aQ;have bP:=Kd.C_take (m:=((aH):Int).toNat) cF (by omega);have bQ:y708.length=((aH):Int).toNat:=(by rw[aI.1,List.length_take];omega);rw[←aI.1]at bP;rw[←bQ]at bO;have aO:=am bP;have cG:=am (show y708.length≤aD from by omega);clear bP cF aQ bC cE;have KY15:=am bQ;clear bQ;have cH:=am (show((aH):Int).toNat≤aB.length from by omega);replace dA:=eq_true dA)|((with_reducible refine ga 48 ?_);refine gs func48 (Q3.calls aF aD y708 bZ _ (cd aO) cG.1 A9.1) ?_;rintro dB w17 ⟨bT,hb⟩;have bD:=am (Kd.R_lower (Kd.R_new' bT (Kd.R_lt (rR aA))) (C5 bz));replace aA:=rE aA bT hb;replace aO:=am (Kd.C_below (cd aO) hb);replace HB:=bS hb;clear hb bT)|((with_reducible refine gb 31 34 ?_);at_builtin;refine ra KI underlying22 J9 dB bZ (wrap64 (a0 - 1)) [.int .i64 (wrap64 (a0 - 1))] (fun k_=>some k_≠(.slice aF aB.length aD:Value).ownBlock) rfl (fun k_ hk=>Kd.fresh' (Kd.R_lt (rR aA)) k_ hk) (rM bD (fun _ hk=>hk.2)) bz (lm cA) ?_;intro dC w18 ho hb hg hat;rw[←cC.1]at ho;replace HB:=am (hb);replace aO:=am ((show Kd.C KI w18 aF y708.length y708 from by rw[aI.1];exact Kd.C_take (m:=((aH):Int).toNat) ((Kd.R_reads' (Kd.R_after (ok:=(fun _=>True)) (rR aA) hg hat)).2.2) cH.1));replace aA:=am (Kd.R_after (ok:=(fun _=>True)) (rR aA) hg hat);have bE:=am (ho);clear bD ho hb hg hat;have dD:((aH):Int)≤((aB.length:Int):Int):=od;obtain⟨i019,bF,_,bG,_⟩:=info_parts J9;have aL:aB.length≤aD:=(Kd.R_reads' aA.1).2.1;have cI:Kd.C KI _ aF aB.length aB:=(Kd.R_reads' aA.1).2.2;have dE:(0:Int)≤((aH):Int):=od;have bU:=AE0 (P:=prog) 22 3 .i64 underlying22 bF 1 bG aF aB.length aD (aH) dE dD;have aW:=Kd.C_drop (m:=((aH):Int).toNat) (c:=aD) cI (by omega) aL;obtain⟨A19,hA19⟩:∃A1,A1=(if aD=((aH):Int).toNat then aF else(aF:Option Addr).map (·.add (((aH):Int).toNat*1))):=⟨_,rfl⟩;obtain⟨c19,hc19⟩:∃c1,c1=aD - ((aH):Int).toNat:=⟨_,rfl⟩;have bA:aK.length=aB.length - ((aH):Int).toNat:=(by rw[aU.1,List.length_drop]<;>omega);rw[show(aB).drop ((aH):Int).toNat=aK from aU.1.symm]at aW;replace aW:Kd.C KI _ A19 aK.length aK:=(by rw[hA19];exact aW);rw[←bA,←hA19,←hc19]at bU;have bH:=am aW;have dR:=am (show aK.length≤c19 from by rw[bA,hc19];exact Nat.sub_le_sub_right aL _);clear aW cI aL bF bG hc19;have KY19:=am bA;have dF:=am hA19;clear bA hA19;have dG:=am (show((aH):Int).toNat≤aB.length from by omega);replace dD:=eq_true dD)|((with_reducible refine gb 36 39 ?_);at_builtin;refine rq KI underlying22 J9 dC cB aK (fun k_=>some k_≠(.slice aF aB.length aD:Value).ownBlock) (cd bH) (fun k_ hk=>Kd.fresh' (Kd.R_lt (rR aA)) k_ hk) (rR bE) bz (lm cD) ?_;intro v723 dS ho hb hg hat;rw[←aV.1]at ho;replace HB:=am (hb);replace aO:=am ((show Kd.C KI dS aF y708.length y708 from by rw[aI.1];exact Kd.C_take (m:=((aH):Int).toNat) ((Kd.R_reads' (Kd.R_after (ok:=(fun _=>True)) (rR aA) hg hat)).2.2) cH.1));replace bH:=am ((show Kd.C KI dS A19 aK.length aK from by rw[aU.1,dF.1];exact Kd.C_drop (m:=((aH):Int).toNat) (c:=aD) ((Kd.R_reads' (Kd.R_after (ok:=(fun _=>True)) (rR aA) hg hat)).2.2) dG.1 ((Kd.R_reads' (Kd.R_after (ok:=(fun _=>True)) (rR aA) hg hat)).2.1)));replace aA:=am (Kd.R_after (ok:=(fun _=>True)) (rR aA) hg hat);have cJ:=am (ho);clear bE ho hb hg hat))
  go_ret
  exact⟨_,by first|rfl|(simp[M7,M6]<;>rfl)|(simp only[←aT];first|rfl|(simp[M7,M6]<;>rfl))|(simp[*,M7,M6]<;>rfl),rM cJ (fun _ hk=>trivial),bz⟩
 obtain⟨aC,aR⟩:=ex (Int.tmod a1 a0:Int)
 intro H
 first|rw[aR]at H|simp only[aR]at H
 (try rw[aR]at A4)
 revert H
 refine if' fun dT dU=>if' fun dV dW=>?_
 generalize aJ:(aB.take ((aC):Int).toNat)=y725
 replace aJ:=am aJ.symm
 refine ib fun cK A24=>il fun cL=>iy fun cM cN=>?_
 have dX:=eq_true (od:0≤(aC))
 have dY:=eq_true (od:(aC)≤(aB.length:Int))
 refine iy fun aM aX=>il fun cO=>?_
 generalize aY:(cM++aM)=y739
 replace aY:=am aY.symm
 refine i1 ?_;rintro rfl
 go_in
 go_wp2_with (first|((with_reducible refine ga 220 ?_);refine gR func220 (ih k (by omega) (wrap64 (a0 - 1)) (wrap64 (Int.tdiv a1 a0)) aB _ A4.1) bz ?_;clear HB;intro cZ w29 aA HB;obtain⟨aG,aE,rfl⟩:=Kd.R_slice aA.1;have dH:((aC):Int)≤((aB.length:Int):Int):=od;obtain⟨i030,bI,_,cP,_⟩:=info_parts J9;have aS:aB.length≤aE:=(Kd.R_reads' aA.1).2.1;have cQ:Kd.C KI _ aG aB.length aB:=(Kd.R_reads' aA.1).2.2;have bV:=AF9 (P:=prog) 22 3 .i64 underlying22 bI aG aB.length aE (aC) (od) dH aS;have bW:=Kd.C_take (m:=((aC):Int).toNat) cQ (by omega);have bX:y725.length=((aC):Int).toNat:=(by rw[aJ.1,List.length_take];omega);rw[←aJ.1]at bW;rw[←bX]at bV;have aP:=am bW;have cR:=am (show y725.length≤aE from by omega);clear bW cQ aS bI cP;have KY30:=am bX;clear bX;have cS:=am (show((aC):Int).toNat≤aB.length from by omega);replace dH:=eq_true dH)|((with_reducible refine ga 48 ?_);refine gs func48 (Q3.calls aG aE y725 cK _ (cd aP) cR.1 A24.1) ?_;rintro dI w32 ⟨bT,hb⟩;have bJ:=am (Kd.R_lower (Kd.R_new' bT (Kd.R_lt (rR aA))) (C5 bz));replace aA:=rE aA bT hb;replace aP:=am (Kd.C_below (cd aP) hb);replace HB:=bS hb;clear hb bT)|((with_reducible refine gb 31 34 ?_);at_builtin;refine ra KI underlying22 J9 dI cK (wrap64 (a0 - 1)) [.int .i64 (wrap64 (a0 - 1))] (fun k_=>some k_≠(.slice aG aB.length aE:Value).ownBlock) rfl (fun k_ hk=>Kd.fresh' (Kd.R_lt (rR aA)) k_ hk) (rM bJ (fun _ hk=>hk.2)) bz (lm cL) ?_;intro dJ w33 ho hb hg hat;rw[←cN.1]at ho;replace HB:=am (hb);replace aP:=am ((show Kd.C KI w33 aG y725.length y725 from by rw[aJ.1];exact Kd.C_take (m:=((aC):Int).toNat) ((Kd.R_reads' (Kd.R_after (ok:=(fun _=>True)) (rR aA) hg hat)).2.2) cS.1));replace aA:=am (Kd.R_after (ok:=(fun _=>True)) (rR aA) hg hat);have bK:=am (ho);clear bJ ho hb hg hat;have dK:((aC):Int)≤((aB.length:Int):Int):=od;obtain⟨i034,bL,_,bM,_⟩:=info_parts J9;have aN:aB.length≤aE:=(Kd.R_reads' aA.1).2.1;have cT:Kd.C KI _ aG aB.length aB:=(Kd.R_reads' aA.1).2.2;have dL:(0:Int)≤((aC):Int):=od;have bY:=AE0 (P:=prog) 22 3 .i64 underlying22 bL 1 bM aG aB.length aE (aC) dL dK;have aZ:=Kd.C_drop (m:=((aC):Int).toNat) (c:=aE) cT (by omega) aN;obtain⟨A34,hA34⟩:∃A1,A1=(if aE=((aC):Int).toNat then aG else(aG:Option Addr).map (·.add (((aC):Int).toNat*1))):=⟨_,rfl⟩;obtain⟨c34,hc34⟩:∃c1,c1=aE - ((aC):Int).toNat:=⟨_,rfl⟩;have bB:aM.length=aB.length - ((aC):Int).toNat:=(by rw[aX.1,List.length_drop]<;>omega);rw[show(aB).drop ((aC):Int).toNat=aM from aX.1.symm]at aZ;replace aZ:Kd.C KI _ A34 aM.length aM:=(by rw[hA34];exact aZ);rw[←bB,←hA34,←hc34]at bY;have bN:=am aZ;have dZ:=am (show aM.length≤c34 from by rw[bB,hc34];exact Nat.sub_le_sub_right aN _);clear aZ cT aN bL bM hc34;have KY34:=am bB;have dM:=am hA34;clear bB hA34;have dN:=am (show((aC):Int).toNat≤aB.length from by omega);replace dK:=eq_true dK)|((with_reducible refine gb 36 39 ?_);at_builtin;refine rq KI underlying22 J9 dJ cM aM (fun k_=>some k_≠(.slice aG aB.length aE:Value).ownBlock) (cd bN) (fun k_ hk=>Kd.fresh' (Kd.R_lt (rR aA)) k_ hk) (rR bK) bz (lm cO) ?_;intro v740 eA ho hb hg hat;rw[←aY.1]at ho;replace HB:=am (hb);replace aP:=am ((show Kd.C KI eA aG y725.length y725 from by rw[aJ.1];exact Kd.C_take (m:=((aC):Int).toNat) ((Kd.R_reads' (Kd.R_after (ok:=(fun _=>True)) (rR aA) hg hat)).2.2) cS.1));replace bN:=am ((show Kd.C KI eA A34 aM.length aM from by rw[aX.1,dM.1];exact Kd.C_drop (m:=((aC):Int).toNat) (c:=aE) ((Kd.R_reads' (Kd.R_after (ok:=(fun _=>True)) (rR aA) hg hat)).2.2) dN.1 ((Kd.R_reads' (Kd.R_after (ok:=(fun _=>True)) (rR aA) hg hat)).2.1)));replace aA:=am (Kd.R_after (ok:=(fun _=>True)) (rR aA) hg hat);have cU:=am (ho);clear bK ho hb hg hat))
 go_ret
 exact⟨_,by first|rfl|(simp[M7,M6]<;>rfl)|(simp only[←aR];first|rfl|(simp[M7,M6]<;>rfl))|(simp[*,M7,M6]<;>rfl),rM cU (fun _ hk=>trivial),bz⟩
def Y3.l0:Nat→List Int→List Int→Int→Int→Option (Int)
 |0,_,_,_,_=>none
 |k+1,b,c,d,a=>if a<d then(if 0≤a then(if a< (c.length:Int)then(if a< (b.length:Int)then(if(rd c a)=(rd b a)then(Y3.l0 k b c d (wrap64 (a+1)))else(some a))else(none))else(none))else(none))else(some (-1))
def Y3.f (k:Nat)(a b:List Int):Option (Int):=Y3.l0 k b a (a.length:Int) 0
theorem Y3.calls (k A0 c0 l0 A1 c1 l1 r w):Kd.C KI w A0 l0.length l0→l0.length≤c0→Kd.C KI w A1 l1.length l1→l1.length≤c1→Y3.f k l0 l1=some r→
 Calls prog 221 #[.slice A0 l0.length c0,.slice A1 l1.length c1] w (pD w (.int .i64 r)):=by
 refine pa fun aL HC0=>pa fun aM HC1=>?_
 unfold Y3.f
 refine ia fun H'=>?_
 go_in
 go_wp2
 go_loopg [9] k (fun kq v9 w'=>∃ (aA:Int),v9=.int .i64 aA∧Aside0 (Y3.l0 kq l1 l0 (l0.length:Int) aA=some r)∧Aside0 (kq≤k)∧Drawn0 w w')
 case atStart=>exact⟨_,fz,H',lr,dz⟩
 case round =>
 obtain⟨aA,rfl,⟨H⟩,aN,⟨m1,rfl⟩⟩:=hrel
 cases gk with
 |zero=>cases H
 |succ k1 =>
 simp only[Y3.l0]at H
 revert H
 refine iD ?_ ?_<;>intro c3b0
 ·refine U9 fun c4b0=>U9 fun c5b0=>U9 fun c6b0=>iE (fun aF aG=>?_) fun c7 aF aG=>?_
  ·refine ia fun H'=>?_
   obtain⟨aH,aI,aD,rfl,aB⟩:=ai aL.1 aA
   obtain⟨aJ,aK,aE,rfl,aC⟩:=ai aM.1 aA
   go_wp2
   go_roundg k1
   case measure=>exact lm aN
   case rel=>exact⟨_,fz,H',la aN,dz⟩
  refine i1 ?_;rintro rfl
  obtain⟨aH,aI,aD,rfl,aB⟩:=ai aL.1 aA
  obtain⟨aJ,aK,aE,rfl,aC⟩:=ai aM.1 aA
  go_wp2
  go_ret
  exact⟨fz,dz⟩
 refine i1 ?_;rintro rfl
 go_wp2
 go_ret
 exact⟨fz,dz⟩
def Q4.j0:Nat→List Int→Bool→Option (List Int×Int×Bool)
 |0,_,_=>none
 |k+1,a,e=>if e=true then(some (([]:List Int),0,false))else((S5.f k a).bind fun c=>((Y7.f k (a.length:Int) (wrap64 (c+1))).bind fun b=>((Y3.f k a b).bind fun d=>(some (b,d,true)))))
def Q4.f (k:Nat)(a:List Int):Option (List Int×Int×Bool):=(E0.f k a).bind fun b=>(if b=true then((S5.f k a).bind fun c=>((H3.f k (a.length:Int)).bind fun d=>(Q4.j0 k a ((wrap64 (c+1))==d))))else(Q4.j0 k a true))
theorem Q4.calls (k A0 c0 l0 r1 r2 r3 w):Kd.C KI w A0 l0.length l0→l0.length≤c0→Q4.f k l0=some (r1,r2,r3)→
 Calls prog 148 #[.slice A0 l0.length c0] w fun e w'=>∃v0_:Value,e=.returned (.tuple #[v0_,.int .i64 r2,.bool r3])∧Kd.R KI 3 w' w.heap.size (fun _=>True) v0_ r1∧Below w.heap.size w w':=by
 have HB:=bR w
 refine pa fun aC aD=>?_
 unfold Q4.f
 refine ia fun HC2=>?_
 go_in
 go_upto_region 1 with(fail)
 go_cut [17] (fun v17 wc=>∃ (kq:Nat) (aB:Bool),v17=.bool aB∧Aside0 (Q4.j0 kq l0 aB=some (r1,r2,r3))∧Aside0 (kq≤k)∧Aside0 (Below w.heap.size w wc))
 case first =>
  have H:=HC2.1
  revert H
  refine ib fun t744 A3=>iB ?_ ?_<;>rintro rfl
  ·refine ib fun aE A5=>ib fun aF A6=>ia fun H'=>?_
   go_wp2_with (first|((with_reducible refine ga 45 ?_);refine gp func45 (E0.calls k A0 c0 l0 true _ (M8 (Kd.C_below aC.1 HB.1)) aD.1 A3.1) fun nd=>?_)|(go_at_call 219;(with_reducible refine(S5.calls k _ _ l0 aE _ ?side1 ?side2 A5.1).mono ?_);(case side1=>repeat(first|exact(Kd.C_below aC.1 bz)|(with_reducible refine Kd.C_alloc ?_ _)|(with_reducible refine Kd.C_drewN ?_ _)|(with_reducible refine Kd.C_drew ?_)));(case side2=>exact aD.1);rintro e w7 ⟨rfl,hb⟩;replace HB:=bS hb;clear hb)|(go_at_call 150;(with_reducible refine qp (H3.calls k (l0.length:Int) aF _ A6.1) fun nd=>?_)))
   go_meet
   case rel=>exact⟨_,(((wrap64 (aE+1))==aF)),fz,H',lo,⟨bz⟩⟩
  refine ia fun H'=>?_
  go_wp2_with ((with_reducible refine ga 45 ?_);refine gp func45 (E0.calls k A0 c0 l0 false _ (M8 (Kd.C_below aC.1 HB.1)) aD.1 A3.1) fun nd=>?_)
  go_meet
  case rel=>exact⟨_,(true),fz,H',lo,⟨bz⟩⟩
 case rest =>
 obtain⟨kq,aB,rfl,⟨H⟩,HJ1,HB⟩:=hcut
 cases kq with
 |zero=>cases H
 |succ aI =>
 simp only[Q4.j0]at H
 revert H
 refine iB ?_ ?_<;>rintro rfl
 ·refine i3 ?_;rintro rfl rfl rfl
  go_wp2
  go_ret3
  exact⟨_,fe,nz,bz⟩
 refine ib fun aG A9=>ib fun aH A10=>ib fun aJ A11=>i3 ?_;rintro rfl rfl rfl
 go_wp2_with (first|((with_reducible refine ga 219 ?_);refine gB func219 (S5.calls aI A0 c0 l0 aG _ (M8 (Kd.C_below aC.1 HB.1)) aD.1 A9.1) bz ?_;clear HB;intro w12 HB)|((with_reducible refine ga 220 ?_);refine gR func220 (Y7.calls aI (l0.length:Int) (wrap64 (aG+1)) aH _ A10.1) bz ?_;clear HB;intro v749 w13 aA HB;obtain⟨aK,aL,rfl⟩:=Kd.R_slice aA.1)|((with_reducible refine ga 221 ?_);refine gp func221 (Y3.calls aI A0 c0 l0 aK aL aH aJ _ (M8 (Kd.C_below aC.1 HB.1)) aD.1 (M8 (Kd.R_reads' aA.1).2.2) ((Kd.R_reads' aA.1).2.1) A11.1) fun nd=>?_))
 go_ret3
 exact⟨_,fe,rR aA,bz⟩
def AB2.f (b c d a:Int):Option (Bool):=if c=0 then((G3.f a 1 (wrap64 (b - 1))).bind fun e=>(if e=true then((G3.f d 0 (wrap64 (a - 1))).bind fun f=>(some f))else(some false)))else(if c=1 then((G3.f d 2 b).bind fun g=>(if g=true then(some (a==0))else(some false)))else(if c=2 then((G3.f d 2 b).bind fun h=>(if h=true then(some (a==0))else(some false)))else(some false)))
theorem AB2.calls (a0 a1_0 a1_1 a1_2 r w):AB2.f a0 a1_0 a1_1 a1_2=some r→
 Calls prog 222 #[.int .i64 a0,.agg #[.int .i64 a1_0,.int .i64 a1_1,.int .i64 a1_2]] w (pB w (.bool r)):=by
 have cD:=underlying103
 have HB:=bR w
 unfold AB2.f
 refine iE (fun bU bV=>?_) fun c3 bU bV=>?_
 ·refine ib fun t753 A4=>iB ?_ ?_<;>rintro rfl
  ·refine ib fun bW A6=>i1 ?_;rintro rfl
   go_in
   go_wp2_with (first|((with_reducible refine gd 3 ?_);refine be #[.int .i64 a1_0,.int .i64 a1_1,.int .i64 a1_2] 103 bz ?_;clear HB;intro aC w7 aA aD aB HB;have bX:=bq aA 0 (.int .i64 a1_0);have bY:=bq aA 1 (.int .i64 a1_1);have bZ:=bq aA 2 (.int .i64 a1_2);have cA:=C9 aA.1 0;have cB:=C9 aA.1 1;have cC:=C9 aA.1 2)|((with_reducible refine ga 78 ?_);refine gp func78 (G3.calls a1_2 1 (wrap64 (a0 - 1)) true _ A4.1) fun nd=>?_)|(go_at_call 78;(with_reducible refine qp (G3.calls a1_1 0 (wrap64 (a1_2 - 1)) bW _ A6.1) fun nd=>?_)))
   go_ret
   exact⟨fe,bs aB.1⟩
  refine i1 ?_;rintro rfl
  go_in
  go_wp2_with (first|((with_reducible refine gd 3 ?_);refine be #[.int .i64 a1_0,.int .i64 a1_1,.int .i64 a1_2] 103 bz ?_;clear HB;intro aC w9 aA aD aB HB;have aI:=bq aA 0 (.int .i64 a1_0);have aJ:=bq aA 1 (.int .i64 a1_1);have aK:=bq aA 2 (.int .i64 a1_2);have aL:=C9 aA.1 0;have aM:=C9 aA.1 1;have aN:=C9 aA.1 2)|((with_reducible refine ga 78 ?_);refine gp func78 (G3.calls a1_2 1 (wrap64 (a0 - 1)) false _ A4.1) fun nd=>?_))
  go_ret
  exact⟨fe,bs aB.1⟩
 refine iE (fun aE aF=>?_) fun c11 aE aF=>?_
 ·refine ib fun t755 cE=>iB ?_ ?_<;>rintro rfl
  ·refine i1 ?_;rintro rfl
   go_in
   go_wp2_with (first|((with_reducible refine gd 3 ?_);refine be #[.int .i64 a1_0,.int .i64 a1_1,.int .i64 a1_2] 103 bz ?_;clear HB;intro aC w14 aA aD aB HB;have aO:=bq aA 0 (.int .i64 a1_0);have aP:=bq aA 1 (.int .i64 a1_1);have aQ:=bq aA 2 (.int .i64 a1_2);have aR:=C9 aA.1 0;have aS:=C9 aA.1 1;have aT:=C9 aA.1 2)|((with_reducible refine ga 78 ?_);refine gp func78 (G3.calls a1_1 2 a0 true _ cE.1) fun nd=>?_))
   go_ret
   exact⟨fe,bs aB.1⟩
  refine i1 ?_;rintro rfl
  go_in
  go_wp2_with (first|((with_reducible refine gd 3 ?_);refine be #[.int .i64 a1_0,.int .i64 a1_1,.int .i64 a1_2] 103 bz ?_;clear HB;intro aC w16 aA aD aB HB;have aU:=bq aA 0 (.int .i64 a1_0);have aV:=bq aA 1 (.int .i64 a1_1);have aW:=bq aA 2 (.int .i64 a1_2);have aX:=C9 aA.1 0;have aY:=C9 aA.1 1;have aZ:=C9 aA.1 2)|((with_reducible refine ga 78 ?_);refine gp func78 (G3.calls a1_1 2 a0 false _ cE.1) fun nd=>?_))
  go_ret
  exact⟨fe,bs aB.1⟩
 refine iE (fun aG aH=>?_) fun c18 aG aH=>?_
 ·refine ib fun t756 cF=>iB ?_ ?_<;>rintro rfl
  ·refine i1 ?_;rintro rfl
   go_in
   go_wp2_with (first|((with_reducible refine gd 3 ?_);refine be #[.int .i64 a1_0,.int .i64 a1_1,.int .i64 a1_2] 103 bz ?_;clear HB;intro aC w21 aA aD aB HB;have bA:=bq aA 0 (.int .i64 a1_0);have bB:=bq aA 1 (.int .i64 a1_1);have bC:=bq aA 2 (.int .i64 a1_2);have bD:=C9 aA.1 0;have bE:=C9 aA.1 1;have bF:=C9 aA.1 2)|((with_reducible refine ga 78 ?_);refine gp func78 (G3.calls a1_1 2 a0 true _ cF.1) fun nd=>?_))
   go_ret
   exact⟨fe,bs aB.1⟩
  refine i1 ?_;rintro rfl
  go_in
  go_wp2_with (first|((with_reducible refine gd 3 ?_);refine be #[.int .i64 a1_0,.int .i64 a1_1,.int .i64 a1_2] 103 bz ?_;clear HB;intro aC w23 aA aD aB HB;have bG:=bq aA 0 (.int .i64 a1_0);have bH:=bq aA 1 (.int .i64 a1_1);have bI:=bq aA 2 (.int .i64 a1_2);have bJ:=C9 aA.1 0;have bK:=C9 aA.1 1;have bL:=C9 aA.1 2)|((with_reducible refine ga 78 ?_);refine gp func78 (G3.calls a1_1 2 a0 false _ cF.1) fun nd=>?_))
  go_ret
  exact⟨fe,bs aB.1⟩
 refine i1 ?_;rintro rfl
 go_in
 go_wp2_with ((with_reducible refine gd 3 ?_);refine be #[.int .i64 a1_0,.int .i64 a1_1,.int .i64 a1_2] 103 bz ?_;clear HB;intro aC w25 aA aD aB HB;have bM:=bq aA 0 (.int .i64 a1_0);have bN:=bq aA 1 (.int .i64 a1_1);have bO:=bq aA 2 (.int .i64 a1_2);have bP:=C9 aA.1 0;have bQ:=C9 aA.1 1;have bT:=C9 aA.1 2)
 go_ret
 exact⟨fe,bs aB.1⟩
end Go.Proofs.YtpiogigidgejpaaGreatDoor.PFnExactStepLine
