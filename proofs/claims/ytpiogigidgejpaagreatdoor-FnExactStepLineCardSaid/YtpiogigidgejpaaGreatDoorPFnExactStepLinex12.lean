import Derived.Test.YtpiogigidgejpaaGreatDoorPFnExactStepLinex11
namespace Go.Proofs.YtpiogigidgejpaaGreatDoor.PFnExactStepLine
open Go.RowKit Go.Proofs.YtpiogigidgejpaaGreatDoorW.PrintWords Go.Proofs.YtpiogigidgejpaaGreatDoorW.PrintLast Go.Proofs.YtpiogigidgejpaaGreatDoorW.PrintMore Go.Proofs.YtpiogigidgejpaaGreatDoor.Sq Tryz
attribute [local go_sem] g8 g9 s8 q8 Y0 X9 b8 e6
set_option maxHeartbeats 8000000
set_option maxRecDepth 100000
set_option linter.unusedVariables false
set_option linter.unusedSimpArgs false
def b9.f:Nat→List Int→Int→Option (List Int)
 |0,_,_=>none
 |k+1,c,b=>if(c.length:Int)=0 then(some ([]:List Int))else(if 1≤(c.length:Int)then((O0.f k (c.drop 1)).bind fun a=>(if a=0 then(none)else(if(Int.tmod (wrap64 (Int.tdiv b a)) 2)=1 then((some (([wrap64 (Int.tdiv b a)]:List Int):List Int)).bind fun f=>((b9.f k (c.drop 1) (wrap64 ((wrap64 (a - 1)) - (Int.tmod b a)))).bind fun d=>(if f.length+d.length<17592186044416 then(some (f++d))else(none))))else((some (([wrap64 (Int.tdiv b a)]:List Int):List Int)).bind fun g=>((b9.f k (c.drop 1) (Int.tmod b a)).bind fun e=>(if g.length+e.length<17592186044416 then(some (g++e))else(none)))))))else(none))
theorem b9.calls (k:Nat):∀ (A0:Option Addr) (c0:Nat) (l0:List Int) (a1:Int) (r:List Int) (w:World) (hr0:Kd.C KI w A0 l0.length l0) (hc0:l0.length≤c0) (h:b9.f k l0 a1=some r),
 Calls prog 230 #[.slice A0 l0.length c0,.int .i64 a1] w (pR w KI 3 r):=by
 induction k using Nat.strongRecOn with
 |_ k ih =>
 intro A0 c0 l0 a1 r w hr0 hc0 h
 cases k with
 |zero=>exact absurd h (by simp[b9.f])
 |succ k =>
 simp only[b9.f]at h
 have bO:=am hr0
 have bP:=am hc0
 have HB:=bR w
 have H:=h
 revert H
 refine iE (fun bQ bT=>?_) fun c3 bQ bT=>?_
 ·refine i1 ?_;rintro rfl
  go_in
  go_wp2
  go_ret
  exact⟨_,fe,nz,bz⟩
 have c3b2:¬(l0=[]):=fun h_=>c3 (by rw[h_];rfl)
 refine if' fun c4b0 c4b1=>ib fun aA A5=>iN fun c6 c6b0 c6b1=>iE (fun bU bV=>?_) fun c7 bU bV=>?_
 ·refine iy fun aW aN=>?_
  have c8b0:=eq_true (od:1≤(l0.length:Int))
  refine ib fun aL A9=>il fun aX=>?_
  generalize aF:(aW++aL)=y823
  replace aF:=am aF.symm
  refine i1 ?_;rintro rfl
  obtain⟨i011,aY,_,aZ,_⟩:=info_parts J9
  obtain⟨A11,aT,bW,bX⟩:=X7 (P:=prog) (Value.int .i64) 0 22 3 .i64 underlying22 aY aZ A0 c0 l0 1 (by omega) (od) bP.1
  have aG:=am (Kd.C_of_reads (h1:=fun _=>rfl) (bW _ (Kd.reads_of_C bO.1)))
  have aH:=am bX
  go_in
  go_wp2_with (first|((with_reducible refine ga 229 ?_);refine gp func229 (O0.calls k A11 (c0 - 1) (l0.drop 1) aA _ (M8 aG.1) aH.1 A5.1) (fun nd=>?_) (hargs:=by(try simp only[List.map_toArray,List.map_cons,List.map_nil]);first|done|(rw[show(l0.drop 1).length=(l0.length - 1)from List.length_drop]<;>rfl)|rfl|(simp only[List.length_drop,List.length_take];rfl)))|((with_reducible refine gd 28 ?_);refine rl KI 3 ([wrap64 (Int.tdiv a1 aA)]:List Int) [.int .i64 (wrap64 (Int.tdiv a1 aA))] (J7.one (show Kd.M KI _ _ _ (wrap64 (Int.tdiv a1 aA)) [.int .i64 (wrap64 (Int.tdiv a1 aA))]from rfl) (J7.none _ _)) ?_;intro bY w12 aI hb;(first|rw[←aN.1]at aI|(simp only[Int.reduceToNat]at aI;rw[←aN.1]at aI));have aB:=am (Kd.R_lower aI (C5 bz));replace HB:=bS hb;clear hb aI;obtain⟨i014,aO,_,aP,_⟩:=info_parts J9;clear aT;obtain⟨A14,bZ,bA,bB⟩:=X7 (P:=prog) (Value.int .i64) 0 22 3 .i64 underlying22 aO aP A0 c0 l0 1 (by omega) (od) bP.1;have bC:=am (Kd.C_of_reads (h1:=fun _=>rfl) (bA _ (Kd.reads_of_C bO.1)));have bD:=am bB;clear bA bB aO aP)|((with_reducible refine ga 230 ?_);refine gs func230 (ih k (by omega) A14 (c0 - 1) (l0.drop 1) (wrap64 ((wrap64 (aA - 1)) - (Int.tmod a1 aA))) aL _ (M8 (Kd.C_below bC.1 HB.1)) bD.1 A9.1) ?_ (hargs:=by(try simp only[List.map_toArray,List.map_cons,List.map_nil]);first|done|(rw[show(l0.drop 1).length=(l0.length - 1)from List.length_drop]<;>rfl)|rfl|(simp only[List.length_drop,List.length_take];rfl));rintro v821 w15 ⟨aU,hb⟩;have aC:=am (Kd.R_lower (Kd.R_new' aU (Kd.R_lt (rR aB))) (C5 bz));replace aB:=rE aB aU hb;replace HB:=bS hb;clear hb aU;obtain⟨cA,cB,rfl⟩:=Kd.R_slice aC.1)|((with_reducible refine gb 28 32 ?_);at_builtin;refine rq KI underlying22 J9 bY aW aL (fun k_=>some k_≠(.slice cA aL.length cB:Value).ownBlock) (by repeat(first|exact(Kd.R_reads' aC.1).2.2|(with_reducible refine Kd.C_alloc ?_ _)|(with_reducible refine Kd.C_drewN ?_ _)|(with_reducible refine Kd.C_drew ?_))) (fun k_ hk=>Kd.fresh' (Kd.R_lt (rR aC)) k_ hk) (rM aB (fun _ hk=>hk.2)) bz (lm aX) ?_;intro v824 w16 ho hb hg hat;rw[←aF.1]at ho;replace aC:=am (Kd.R_after (ok:=(fun _=>True)) (rR aC) hg hat);replace HB:=am (hb);have bE:=am (ho);clear aB ho hb hg hat))
  go_ret
  exact⟨_,fe,rM bE (fun _ hk=>trivial),bz⟩
 refine iy fun bF aQ=>?_
 have cI:=eq_true (od:1≤(l0.length:Int))
 refine ib fun aM A19=>il fun bG=>?_
 generalize aJ:(bF++aM)=y833
 replace aJ:=am aJ.symm
 refine i1 ?_;rintro rfl
 obtain⟨i021,bH,_,bI,_⟩:=info_parts J9
 obtain⟨A21,aV,cC,cD⟩:=X7 (P:=prog) (Value.int .i64) 0 22 3 .i64 underlying22 bH bI A0 c0 l0 1 (by omega) (od) bP.1
 have aG:=am (Kd.C_of_reads (h1:=fun _=>rfl) (cC _ (Kd.reads_of_C bO.1)))
 have aH:=am cD
 go_in
 go_wp2_with (first|((with_reducible refine ga 229 ?_);refine gp func229 (O0.calls k A21 (c0 - 1) (l0.drop 1) aA _ (M8 aG.1) aH.1 A5.1) (fun nd=>?_) (hargs:=by(try simp only[List.map_toArray,List.map_cons,List.map_nil]);first|done|(rw[show(l0.drop 1).length=(l0.length - 1)from List.length_drop]<;>rfl)|rfl|(simp only[List.length_drop,List.length_take];rfl)))|((with_reducible refine gd 28 ?_);refine rl KI 3 ([wrap64 (Int.tdiv a1 aA)]:List Int) [.int .i64 (wrap64 (Int.tdiv a1 aA))] (J7.one (show Kd.M KI _ _ _ (wrap64 (Int.tdiv a1 aA)) [.int .i64 (wrap64 (Int.tdiv a1 aA))]from rfl) (J7.none _ _)) ?_;intro cE w22 aK hb;(first|rw[←aQ.1]at aK|(simp only[Int.reduceToNat]at aK;rw[←aQ.1]at aK));have aD:=am (Kd.R_lower aK (C5 bz));replace HB:=bS hb;clear hb aK;obtain⟨i024,aR,_,aS,_⟩:=info_parts J9;clear aV;obtain⟨A24,cF,bJ,bK⟩:=X7 (P:=prog) (Value.int .i64) 0 22 3 .i64 underlying22 aR aS A0 c0 l0 1 (by omega) (od) bP.1;have bL:=am (Kd.C_of_reads (h1:=fun _=>rfl) (bJ _ (Kd.reads_of_C bO.1)));have bM:=am bK;clear bJ bK aR aS)|((with_reducible refine ga 230 ?_);refine gs func230 (ih k (by omega) A24 (c0 - 1) (l0.drop 1) (Int.tmod a1 aA) aM _ (M8 (Kd.C_below bL.1 HB.1)) bM.1 A19.1) ?_ (hargs:=by(try simp only[List.map_toArray,List.map_cons,List.map_nil]);first|done|(rw[show(l0.drop 1).length=(l0.length - 1)from List.length_drop]<;>rfl)|rfl|(simp only[List.length_drop,List.length_take];rfl));rintro v831 w25 ⟨aU,hb⟩;have aE:=am (Kd.R_lower (Kd.R_new' aU (Kd.R_lt (rR aD))) (C5 bz));replace aD:=rE aD aU hb;replace HB:=bS hb;clear hb aU;obtain⟨cG,cH,rfl⟩:=Kd.R_slice aE.1)|((with_reducible refine gb 28 32 ?_);at_builtin;refine rq KI underlying22 J9 cE bF aM (fun k_=>some k_≠(.slice cG aM.length cH:Value).ownBlock) (by repeat(first|exact(Kd.R_reads' aE.1).2.2|(with_reducible refine Kd.C_alloc ?_ _)|(with_reducible refine Kd.C_drewN ?_ _)|(with_reducible refine Kd.C_drew ?_))) (fun k_ hk=>Kd.fresh' (Kd.R_lt (rR aE)) k_ hk) (rM aD (fun _ hk=>hk.2)) bz (lm bG) ?_;intro v834 w26 ho hb hg hat;rw[←aJ.1]at ho;replace aE:=am (Kd.R_after (ok:=(fun _=>True)) (rR aE) hg hat);replace HB:=am (hb);have bN:=am (ho);clear aD ho hb hg hat))
 go_ret
 exact⟨_,fe,rM bN (fun _ hk=>trivial),bz⟩
def r5.f (k:Nat)(a:List Int)(b:Int):Option (List Int×Bool):=(r7.f k a).bind fun c=>(if c=true then((O0.f k a).bind fun d=>((G3.f b 0 (wrap64 (d - 1))).bind fun e=>(if e=true then((b9.f k a b).bind fun f=>(some (f,true)))else(some (([]:List Int),false)))))else(some (([]:List Int),false)))
theorem r5.calls (k A0 c0 l0 a1 r1 r2 w):Kd.C KI w A0 l0.length l0→l0.length≤c0→r5.f k l0 a1=some (r1,r2)→
 Calls prog 156 #[.slice A0 l0.length c0,.int .i64 a1] w (pT w KI 3 r1 r2):=by
 have HB:=bR w
 refine pa fun aB aC=>?_
 unfold r5.f
 refine ib fun t836 A3=>iB ?_ ?_<;>rintro rfl
 ·refine ib fun aA A5=>ib fun t838 A6=>iB ?_ ?_<;>rintro rfl
  ·refine ib fun aE A8=>i2 ?_;rintro rfl rfl
   go_in
   go_wp2_with (first|((with_reducible refine ga 228 ?_);refine gp func228 (r7.calls k A0 c0 l0 true _ (M8 aB.1) aC.1 A3.1) fun nd=>?_)|(go_at_call 229;(with_reducible refine qp (O0.calls k _ _ l0 aA _ (M8 aB.1) aC.1 A5.1) fun nd=>?_))|(go_at_call 78;(with_reducible refine qp (G3.calls a1 0 (wrap64 (aA - 1)) true _ A6.1) fun nd=>?_))|((with_reducible refine ga 230 ?_);refine gR func230 (b9.calls k A0 c0 l0 a1 aE _ (M8 aB.1) aC.1 A8.1) bz ?_;clear HB;intro v840 w9 aD HB))
   go_ret2
   exact⟨_,fe,rR aD,bz⟩
  refine i2 ?_;rintro rfl rfl
  go_in
  go_wp2_with (first|((with_reducible refine ga 228 ?_);refine gp func228 (r7.calls k A0 c0 l0 true _ (M8 aB.1) aC.1 A3.1) fun nd=>?_)|(go_at_call 229;(with_reducible refine qp (O0.calls k _ _ l0 aA _ (M8 aB.1) aC.1 A5.1) fun nd=>?_))|(go_at_call 78;(with_reducible refine qp (G3.calls a1 0 (wrap64 (aA - 1)) false _ A6.1) fun nd=>?_)))
  go_ret2
  exact⟨_,fe,nz,bz⟩
 refine i2 ?_;rintro rfl rfl
 go_in
 go_wp2_with ((with_reducible refine ga 228 ?_);refine gp func228 (r7.calls k A0 c0 l0 false _ (M8 aB.1) aC.1 A3.1) fun nd=>?_)
 go_ret2
 exact⟨_,fe,nz,bz⟩
def AD5.f (b:List (List Int))(a:Int):Option (List Int×Bool):=(G3.f a 0 (wrap64 ((b.length:Int) - 1))).bind fun c=>(if c=true then(if 0≤a then(if a< (b.length:Int)then((Q3.f (k9 b a)).bind fun d=>(some (d,true)))else(none))else(none))else(some (([]:List Int),false)))
theorem AD5.calls (A0 c0 l0 a1 r1 r2 w):Kd.C KS w A0 l0.length l0→l0.length≤c0→AD5.f l0 a1=some (r1,r2)→
 Calls prog 232 #[.slice A0 l0.length c0,.int .i64 a1] w (pT w KI 3 r1 r2):=by
 have HB:=bR w
 refine pa fun HR0 HC0=>?_
 unfold AD5.f
 refine ib fun t842 A3=>iB ?_ ?_<;>rintro rfl
 ·refine U9 fun c5b0=>U9 fun c6b0=>ib fun aK A7=>i2 ?_;rintro rfl rfl
  go_in
  go_wp2_with (first|((with_reducible refine ga 78 ?_);refine gp func78 (G3.calls a1 0 (wrap64 ((l0.length:Int) - 1)) true _ A3.1) fun nd=>?_;have aE:0≤(a1:Int):=od;have aF:a1< (l0.length:Int):=od;obtain⟨aM,aG,aH,aL,aJ,aA,aB⟩:=Ai5 HR0.1 a1 aE aF;cases aL;have aC:=am aB;have aD:=am aA;clear aB aA;replace aE:=eq_true aE;replace aF:=eq_true aF)|((with_reducible refine ga 48 ?_);refine gR func48 (Q3.calls aG aH (k9 l0 a1) aK _ (M8 aC.1) aD.1 A7.1) bz ?_;clear HB;intro v845 w8 aI HB))
  go_ret2
  exact⟨_,fe,rR aI,bz⟩
 refine i2 ?_;rintro rfl rfl
 go_in
 go_wp2_with ((with_reducible refine ga 78 ?_);refine gp func78 (G3.calls a1 0 (wrap64 ((l0.length:Int) - 1)) false _ A3.1) fun nd=>?_)
 go_ret2
 exact⟨_,fe,nz,bz⟩
mutual
def O9.l0:Nat→Int→Int→List (List Int)→Int→Option ((List (List Int)))
 |0,_,_,_,_=>none
 |k+1,a,d,e,b=>if b<a then((O9.f k a (wrap64 (d - 1)) (wrap64 (b+1))).bind fun c=>(O9.l1 k a d e b c (c.length:Int) 0))else(some e)
def O9.l1:Nat→Int→Int→List (List Int)→Int→List (List Int)→Int→Int→Option ((List (List Int)))
 |0,_,_,_,_,_,_,_=>none
 |k+1,e,f,c,d,b,g,a=>if a<g then(if 0≤a then(if a< (b.length:Int)then((some (([d]:List Int):List Int)).bind fun h=>(if h.length+ (k9 b a).length<17592186044416 then(if c.length<5864062014805 then(O9.l1 k e f (c++ [(h++ (k9 b a))]) d b g (wrap64 (a+1)))else(none))else(none)))else(none))else(none))else(O9.l0 k e f c (wrap64 (d+1)))
def O9.f:Nat→Int→Int→Int→Option ((List (List Int)))
 |0,_,_,_=>none
 |k+1,b,a,c=>if a=0 then(some (([[]]:List (List Int))))else(O9.l0 k b a ([]:List (List Int)) c)
end
theorem O9.calls (k:Nat):∀ (a0:Int) (a1:Int) (a2:Int) (r:List (List Int)) (w:World) (h:O9.f k a0 a1 a2=some r),
 Calls prog 233 #[.int .i64 a0,.int .i64 a1,.int .i64 a2] w fun e w'=>∃v0_:Value,e=.returned (v0_)∧Kd.S KS 22 w' w.heap.size (fun _=>True) v0_ r∧Below w.heap.size w w':=by
 induction k using Nat.strongRecOn with
 |_ k ih =>
 intro a0 a1 a2 r w h
 cases k with
 |zero=>exact absurd h (by simp[O9.f])
 |succ k =>
 simp only[O9.f]at h
 have HB:=bR w
 have H:=h
 revert H
 refine iE (fun bZ cA=>?_) fun c4 bZ cA=>?_
 ·generalize aQ:([[]]:List (List Int))=y847
  replace aQ:=am aQ.symm
  refine i1 ?_;rintro rfl
  go_in
  go_wp2_with ((with_reducible refine P8 (N:=13) rfl ?_);refine Kd.S_lit KS _ 22 ?hg (N:=13) ?hd (xs:=([[]]:List (List Int))) (inner:=[.slice none 0 0]) (ok:=fun _=>True) (okp:=fun _=>True) ?hr ?hp (fun _ hk=>hk) trivial (Below.refl _ _) (Nat.le_refl _) (by simp) ?_;(case hd=>rfl);(case hg=>rfl);(case hr=>first|(go_simp;done)|(go_simp;rfl));(case hp=>exact(J7.one (show Kd.M KS _ _ _ [] [.slice none 0 0]from⟨_,rfl,Kd.R_nil _ _ _ _ _⟩) (J7.none _ _)));intro v848 w5 bM hb hg_ hnew_;clear hg_ hnew_;(first|rw[←aQ.1]at bM|(simp only[Int.reduceToNat]at bM;rw[←aQ.1]at bM));have bN:=am (Kd.S_lower bM (C5 bz));replace HB:=bS hb;clear hb bM)
  go_ret
  exact⟨_,fe,rS bN,bz⟩
 refine ia fun H'=>?_
 go_in
 go_wp2
 go_loopg [7,8] k (fun kq v7 v8 w'=>∃ (bH:List (List Int)) (aJ:Int),v8=.int .i64 aJ∧Aside0 (O9.l0 kq a0 a1 bH aJ=some r)∧Aside0 (kq≤k)∧Aside0 (Kd.S KS 22 w' w.heap.size (fun _=>True) v7 bH)∧Aside0 (Below w.heap.size w w'))
 case atStart=>exact⟨_,_,fz,H',lr,⟨by first|exact Kd.S_nil _ _ _ _ _|exact Kd.N_nil _ _ _ _ _|exact Kd.V_nil _ _ _ _ _|exact Kd.Q_nil _ _ _ _ _|exact Kd.R_nil _ _ _ _ _⟩,⟨bz⟩⟩
 case round =>
 obtain⟨bH,aJ,rfl,⟨H⟩,bO,aG,HB⟩:=hrel
 cases gk with
 |zero=>cases H
 |succ k1 =>
 simp only[O9.l0]at H
 revert H
 refine iD ?_ ?_<;>intro c7b0
 ·refine ib fun aD A8=>ia fun H'=>?_
  go_wp2_with ((with_reducible refine ga 233 ?_);refine gs func233 (ih k1 (lm bO) a0 (wrap64 (a1 - 1)) (wrap64 (aJ+1)) aD _ A8.1) ?_;rintro v851 w9 ⟨cB,hb⟩;have bE:=am (Kd.S_lower (Kd.S_new' cB (Kd.S_lt (rS aG))) (C5 bz));replace aG:=am (Kd.S_elder' (rS aG) (Kd.S_base cB) hb);replace HB:=bS hb;clear hb cB;obtain⟨bP,aM,rfl⟩:=Kd.S_slice bE.1)
  go_loopg [7,27] k1 (fun kq v7 v27 w'=>∃ (aU:List (List Int)) (aE:Int),v27=.int .i64 aE∧Aside0 (O9.l1 kq a0 a1 aU aJ aD (aD.length:Int) aE=some r)∧Aside0 (kq≤k1)∧Aside0 (Kd.S KS 22 w' w.heap.size (fun k_=>some k_≠((.slice bP aD.length aM):Value).ownBlock) v7 aU)∧Aside0 (Kd.S KS 22 w' w.heap.size (fun k_=>some k_≠(v7:Value).ownBlock) (.slice bP aD.length aM) aD)∧Aside0 (Below w.heap.size w w'))
  case atStart=>exact⟨_,_,fz,H',lr,⟨by(with_reducible repeat(first|apply Kd.S_alloc|apply Kd.S_drewN|apply Kd.S_drew));exact Kd.S_mono aG.1 (fun _ hk=>hk.2)⟩,⟨by(with_reducible repeat(first|apply Kd.S_alloc|apply Kd.S_drewN|apply Kd.S_drew));exact Kd.S_mono bE.1 (fun _ hk=>hk.2)⟩,⟨bz⟩⟩
  case round =>
  obtain⟨aU,aE,rfl,⟨H⟩,bW,aG,aC,HB⟩:=hrel
  cases gk with
  |zero=>cases H
  |succ k2 =>
  simp only[O9.l1]at H
  revert H
  refine iD ?_ ?_<;>intro cF
  ·refine U9 fun cG=>U9 fun cH=>iy fun bQ bF=>il fun bT=>?_
   generalize aV:(bQ++ (k9 aD aE))=y857
   replace aV:=am aV.symm
   refine il fun bU=>?_
   generalize aW:(aU++ [y857])=y860
   replace aW:=am aW.symm
   refine ia fun H'=>?_
   have aX:0≤(aE:Int):=od
   have aY:aE< (aD.length:Int):=od
   obtain⟨aI,bI,bJ,cC,aZ,bA,bB⟩:=Ai5 (Kd.S_reads' aC.1).2.2 aE aX aY
   cases cC
   obtain⟨cI,cD,bK,bL⟩:=Kd.S_get aC.1 [] aE aX (by first|exact aY|exact od|(have e_:=(Kd.S_reads' aC.1).1;omega))
   obtain⟨bX,rfl,aR⟩:=bK
   have aH:=bL 0 _ rfl
   rw[Nat.add_zero,show(KS).sz=1 from rfl,Nat.mul_one]at aH
   replace aH:=Option.some.inj (aH.symm.trans aZ)
   rw[aH]at aR
   have aA:=am (show Kd.R KI 3 _ _ _ _ (k9 aD aE)from aR)
   have aK:=am bB
   have bY:=am bA
   replace aX:=eq_true aX
   replace aY:=eq_true aY
   go_wp2_with (first|((with_reducible refine gd 33 ?_);refine rl KI 3 ([aJ]:List Int) [.int .i64 aJ] (J7.one (show Kd.M KI _ _ _ aJ [.int .i64 aJ]from rfl) (J7.none _ _)) ?_;intro cE w16 aN hb;(first|rw[←bF.1]at aN|(simp only[Int.reduceToNat]at aN;rw[←bF.1]at aN));replace aG:=am (Kd.S_elder' (rS aG) (Kd.R_base aN) hb);replace aC:=am (Kd.S_elder' (rS aC) (Kd.R_base aN) hb);have bG:=am (Kd.R_lower (Kd.R_new' aN (Kd.R_lt (rR aA))) (C5 bz));replace aA:=rE aA aN hb;replace aK:=am (Kd.C_below (cd aK) hb);replace HB:=bS hb;clear hb aN)|((with_reducible refine gb 33 34 ?_);at_builtin;refine rq KI underlying22 J9 cE bQ (k9 aD aE) (fun k_=>some k_≠(.slice bI (k9 aD aE).length bJ:Value).ownBlock) (cd aK) (fun k_ hk=>Kd.fresh' (Kd.R_lt (rR aA)) k_ hk) (rM bG (fun _ hk=>hk.2)) bz (lm bT) ?_;intro v858 w18 ho hb hg hat;rw[←aV.1]at ho;replace aG:=am (Kd.S_after (ok:=(fun k_=>some k_≠(.slice (some aI) aD.length aM:Value).ownBlock)) (rS aG) hg hat);replace aC:=am (Kd.S_after (ok:=(fun k_=>some k_≠(u7:Value).ownBlock)) (rS aC) hg hat);replace aA:=am (Kd.R_after (ok:=(fun k_=>some k_≠(u7:Value).ownBlock∧some k_≠(.slice (some aI) aD.length aM:Value).ownBlock)) (rR aA) hg hat);replace HB:=am (hb);have aT:=am (ho);clear bG ho hb hg hat;obtain⟨bC,bD,rfl⟩:=Kd.R_slice aT.1)|((with_reducible refine Y1 (b:=.append) (xs:=#[.tmp 31,.tmp 36]) rfl ?_);at_builtin;refine Kd.S_append KS (w0:=w) w.heap.size rfl (.tmp 31) (.tmp 36) 127 22 (.slice none 0 0) 24 rfl underlying127 Ae5 rfl (by decide) (by omega) u7 aU y857 [.slice bC y857.length bD] (fun k_=>some k_≠(.slice (some aI) aD.length aM:Value).ownBlock) (fun k_=>some k_=(.slice bC y857.length bD:Value).ownBlock) rfl rfl ?aP (fun k_ hk_=>((Kd.R_mono (ok':=fun k_=>((fun k_=>some k_≠(.slice (some aI) aD.length aM:Value).ownBlock)) k_∧some k_≠(u7:Value).ownBlock) (Kd.R_apart' (Kd.R_apart' (aT.1) (Kd.S_typed aC.1) (by decide)) (Kd.S_typed aG.1) (by decide)) (fun k_ hk=>⟨hk.1.2,hk.2⟩))).1 k_ hk_.symm) ?aF ?aO ?aB ?aS ?aL ?_;(case aP=>exact Kd.M_row (Kd.R_mono (Kd.R_tight rfl (Kd.R_mono (ok':=fun k_=>((fun k_=>some k_≠(.slice (some aI) aD.length aM:Value).ownBlock)) k_∧some k_≠(u7:Value).ownBlock) (Kd.R_apart' (Kd.R_apart' (aT.1) (Kd.S_typed aC.1) (by decide)) (Kd.S_typed aG.1) (by decide)) (fun k_ hk=>⟨hk.1.2,hk.2⟩))) (fun _ h_=>h_)));(case aB=>exact bz);(case aF=>exact(fun k_ hk=>Kd.fresh' (Kd.S_lt (rS aC)) k_ hk));(case aO=>exact(by(with_reducible repeat(first|apply Kd.S_alloc|apply Kd.S_drewN|apply Kd.S_drew));exact Kd.S_mono aG.1 (fun k_ hk=>⟨hk.1,fun e_=>hk.2 e_⟩)));(case aS=>exact(C5 bz));(case aL=>have:=bU.1;omega);intro v861 w19 ho hb hg hat;rw[←aW.1]at ho;replace aC:=am (Kd.S_after (ok:=(fun k_=>some k_≠(.slice bC y857.length bD:Value).ownBlock)) (by(with_reducible repeat(first|apply Kd.S_alloc|apply Kd.S_drewN|apply Kd.S_drew));exact Kd.S_mono aC.1 (fun _ hk=>⟨hk.2,hk.1⟩)) hg hat);replace aA:=am (Kd.R_after (ok:=(fun k_=>some k_≠(.slice (some aI) aD.length aM:Value).ownBlock∧some k_≠(.slice bC y857.length bD:Value).ownBlock)) (rM aA (fun _ hk=>(And.intro (And.intro hk.1.2 hk.2) hk.1.1))) hg hat);replace HB:=am (hb);have bV:=am (ho);clear aG aT;clear ho hb hg hat))
   go_roundg k2
   case measure=>exact lu bO bW
   case rel=>exact⟨_,_,fz,H',lv bO bW,⟨rS bV⟩,⟨by(with_reducible repeat(first|apply Kd.S_alloc|apply Kd.S_drewN|apply Kd.S_drew));exact Kd.S_mono aC.1 (fun _ hk=>hk.2)⟩,⟨bz⟩⟩
  refine ia fun H'=>?_
  go_wp2
  go_roundg k2
  case measure=>exact lu bO bW
  case rel=>exact⟨_,_,fz,H',lv bO bW,⟨by(with_reducible repeat(first|apply Kd.S_alloc|apply Kd.S_drewN|apply Kd.S_drew));exact Kd.S_mono aG.1 (fun _ hk=>trivial)⟩,⟨bz⟩⟩
 refine i1 ?_;rintro rfl
 go_wp2
 go_ret
 exact⟨_,fe,rS aG,bz⟩
def O3.j0:Nat→Int→Int→Int→Bool→Option (List Int×Bool)
 |0,_,_,_,_=>none
 |k+1,c,d,f,e=>if e=true then(some (([]:List Int),false))else((O9.f k c d 0).bind fun b=>((AD5.f b f).bind fun a=>(some (a.1,a.2))))
def O3.f (k:Nat)(a b c:Int):Option (List Int×Bool):=(U3.f a).bind fun d=>(if d=true then((U3.f b).bind fun e=>(O3.j0 k a b c (!e)))else(O3.j0 k a b c true))
theorem O3.calls (k a0 a1 a2 r1 r2 w):O3.f k a0 a1 a2=some (r1,r2)→
 Calls prog 157 #[.int .i64 a0,.int .i64 a1,.int .i64 a2] w (pT w KI 3 r1 r2):=by
 have HB:=bR w
 unfold O3.f
 refine ia fun HC4=>?_
 go_in
 go_upto_region 1 with(fail)
 go_cut [15] (fun v15 wc=>∃ (kq:Nat) (aB:Bool),v15=.bool aB∧Aside0 (O3.j0 kq a0 a1 a2 aB=some (r1,r2))∧Aside0 (kq≤k)∧Aside0 (Below w.heap.size w wc))
 case first =>
  have H:=HC4.1
  revert H
  refine ib fun t863 A5=>iB ?_ ?_<;>rintro rfl
  ·refine ib fun aD A7=>ia fun H'=>?_
   go_wp2_with (first|((with_reducible refine ga 231 ?_);refine gp func231 (U3.calls a0 true _ A5.1) fun nd=>?_)|(go_at_call 231;(with_reducible refine qp (U3.calls a1 aD _ A7.1) fun nd=>?_)))
   go_meet
   case rel=>exact⟨_,(!aD),fz,H',lo,⟨bz⟩⟩
  refine ia fun H'=>?_
  go_wp2_with ((with_reducible refine ga 231 ?_);refine gp func231 (U3.calls a0 false _ A5.1) fun nd=>?_)
  go_meet
  case rel=>exact⟨_,(true),fz,H',lo,⟨bz⟩⟩
 case rest =>
 obtain⟨kq,aB,rfl,⟨H⟩,HJ3,HB⟩:=hcut
 cases kq with
 |zero=>cases H
 |succ kj3 =>
 simp only[O3.j0]at H
 revert H
 refine iB ?_ ?_<;>rintro rfl
 ·refine i2 ?_;rintro rfl rfl
  go_wp2
  go_ret2
  exact⟨_,fe,nz,bz⟩
 refine ib fun aE A9=>?_
 refine ib ?_;rintro⟨aG,aH⟩ A10
 refine i2 ?_;rintro rfl rfl
 go_wp2_with (first|((with_reducible refine ga 233 ?_);refine gs func233 (O9.calls kj3 a0 a1 0 aE _ A9.1) ?_;rintro v866 w11 ⟨aC,hb⟩;have aA:=am (Kd.S_lower aC (C5 bz));replace HB:=bS hb;clear hb aC;obtain⟨aI,aJ,rfl⟩:=Kd.S_slice aA.1)|((with_reducible refine ga 232 ?_);refine gs func232 (AD5.calls aI aJ aE a2 aG aH _ (M8 (Kd.S_reads' aA.1).2.2) ((Kd.S_reads' aA.1).2.1) A10.1) ?_;rintro v870 w13 ⟨aC,hb⟩;replace aA:=am (Kd.S_elder' (rS aA) (Kd.R_base aC) hb);have aF:=am (Kd.R_lower aC (C5 bz));replace HB:=bS hb;clear hb aC))
 go_ret2
 exact⟨_,fe,rR aF,bz⟩
def Z8.f (a b:Int):Option (Bool):=(U3.f a).bind fun c=>(if c=true then((G3.f b 0 a).bind fun d=>(some d))else(some false))
theorem Z8.calls (a0 a1 r w):Z8.f a0 a1=some r→
 Calls prog 234 #[.int .i64 a0,.int .i64 a1] w (pD w (.bool r)):=by
 unfold Z8.f
 refine ib fun t872 A3=>iB ?_ ?_<;>rintro rfl
 ·refine ib fun aA A5=>i1 ?_;rintro rfl
  go_in
  go_wp2_with (first|((with_reducible refine ga 231 ?_);refine gp func231 (U3.calls a0 true _ A3.1) fun nd=>?_)|(go_at_call 78;(with_reducible refine qp (G3.calls a1 0 a0 aA _ A5.1) fun nd=>?_)))
  go_ret
  exact⟨fz,dz⟩
 refine i1 ?_;rintro rfl
 go_in
 go_wp2_with ((with_reducible refine ga 231 ?_);refine gp func231 (U3.calls a0 false _ A3.1) fun nd=>?_)
 go_ret
 exact⟨fz,dz⟩
mutual
def I2.j0:Nat→Int→Int→Bool→Option ((List (List Int)))
 |0,_,_,_=>none
 |k+1,a,b,f=>if f=true then((K9.f k b).bind fun d=>(some (([d]:List (List Int)))))else((I2.f k (wrap64 (a - 1)) b).bind fun e=>((I2.f k (wrap64 (a - 1)) (wrap64 (b - 1))).bind fun c=>(I2.l0 k a e c (wrap64 ((c.length:Int) - 1)))))
def I2.l0:Nat→Int→List (List Int)→List (List Int)→Int→Option ((List (List Int)))
 |0,_,_,_,_=>none
 |k+1,e,b,c,a=>if a≥0 then(if 0≤a then(if a< (c.length:Int)then((Q3.f (k9 c a)).bind fun d=>(if d.length<17592186044416 then(if b.length<5864062014805 then(I2.l0 k e (b++ [(d++ [wrap64 (e - 1)])]) c (wrap64 (a - 1)))else(none))else(none)))else(none))else(none))else(some b)
def I2.f:Nat→Int→Int→Option ((List (List Int)))
 |0,_,_=>none
 |k+1,b,a=>if a=0 then(I2.j0 k b a true)else(I2.j0 k b a (a==b))
end
theorem I2.calls (k:Nat):∀ (a0:Int) (a1:Int) (r:List (List Int)) (w:World) (h:I2.f k a0 a1=some r),
 Calls prog 235 #[.int .i64 a0,.int .i64 a1] w fun e w'=>∃v0_:Value,e=.returned (v0_)∧Kd.N KS 22 w' w.heap.size (fun k_=>(w.heap.size≤k_)) v0_ r∧Below w.heap.size w w':=by
 induction k using Nat.strongRecOn with
 |_ k ih =>
 intro a0 a1 r w h
 cases k with
 |zero=>exact absurd h (by simp[I2.f])
 |succ k =>
 simp only[I2.f]at h
 have HB:=bR w
 have H:=h
 have HC3:=am H
 go_in
 go_upto_region 1 with(fail)
 go_cut [14] (fun v14 wc=>∃ (kq:Nat) (aX:Bool),v14=.bool aX∧Aside0 (I2.j0 kq a0 a1 aX=some r)∧Aside0 (kq≤k)∧Aside0 (Below w.heap.size w wc))
 case first =>
  have H:=HC3.1
  revert H
  refine iE (fun aY cE=>?_) fun c4 aY cE=>?_
  ·(first|rw[aY]|(simp only[P9,i6];rw[aY])|skip)
   refine ia fun H'=>?_
   go_wp2
   go_meet
   case rel=>exact⟨_,(true),fz,H',lo,⟨bz⟩⟩
  (first|rw[aY]|(simp only[P9,i6];rw[aY])|skip)
  refine ia fun H'=>?_
  go_wp2
  go_meet
  case rel=>exact⟨_,((a1==a0)),fz,H',lo,⟨bz⟩⟩
 case rest =>
 obtain⟨kq,aX,rfl,⟨H⟩,cB,HB⟩:=hcut
 cases kq with
 |zero=>cases H
 |succ bU =>
 simp only[I2.j0]at H
 revert H
 refine iB ?_ ?_<;>rintro rfl
 ·refine ib fun aW A6=>?_
  generalize aN:([aW]:List (List Int))=y877
  replace aN:=am aN.symm
  refine i1 ?_;rintro rfl
  go_wp2_with (first|((with_reducible refine ga 273 ?_);refine gs func273 (K9.calls bU a1 aW _ A6.1) ?_;rintro v875 w7 ⟨aM,hb⟩;have aQ:=am (Kd.R_lower (Kd.R_newM (M:=fun k_=>(w.heap.size≤k_)) aM (C5 bz) (fun k_ h_=>h_)) (C5 bz));replace HB:=bS hb;clear hb aM;obtain⟨cK,cL,rfl⟩:=Kd.R_slice aQ.1)|((with_reducible refine P8 (N:=17) rfl ?_);refine Kd.N_lit KS _ 22 ?hg (N':=17) ?hd (xs:=([aW]:List (List Int))) (inner:=[.slice cK aW.length cL]) (ok:=(fun k_=>(w.heap.size≤k_))) (okp:=(fun k_=>(w.heap.size≤k_))) ?hr ?hp (fun _ hk=>hk) ((show ∀k_,w7.heap.size≤k_→(fun k_=>(w.heap.size≤k_)) k_ from fun k_ hk=>(Nat.le_trans (C5 bz) hk)) _ (Nat.le_refl _)) (Below.refl _ _) (Nat.le_refl _) (by simp) ?_;(case hd=>rfl);(case hg=>rfl);(case hr=>first|(go_simp;done)|(go_simp;rfl));(case hp=>exact(J7.one (show Kd.FK KS _ _ aW [.slice cK aW.length cL]from(Kd.FK_slice_mk (Kd.R_reads' (Kd.R_mono (ok':=(fun k_=>(w.heap.size≤k_))) (aQ.1) (fun k_ hk=>hk.1))).2.1 (Kd.R_F (Kd.R_mono (ok':=(fun k_=>(w.heap.size≤k_))) (aQ.1) (fun k_ hk=>hk.1))))) (J7.none _ _)));intro v878 w9 aZ hb hg_ hnew_;clear hg_ hnew_;(first|rw[←aN.1]at aZ|(simp only[Int.reduceToNat]at aZ;rw[←aN.1]at aZ));have bV:=am (Kd.N_lower aZ (C5 bz));replace HB:=bS hb;clear aQ hb aZ))
  go_ret
  exact⟨_,fe,rN bV,bz⟩
 refine ib fun cF A11=>ib fun aC A12=>ia fun H'=>?_
 go_wp2_with (first|((with_reducible refine ga 235 ?_);refine gs func235 (ih bU (lm cB) (wrap64 (a0 - 1)) a1 cF _ A11.1) ?_;rintro cG w13 ⟨aM,hb⟩;have aR:=am (Kd.N_lower (Kd.N_mono (ok':=fun k_=>(w.heap.size≤k_)) aM (fun k_ hk_=>(Nat.le_trans (C5 bz) hk_))) (C5 bz));replace HB:=bS hb;clear hb aM)|((with_reducible refine ga 235 ?_);refine gs func235 (ih bU (lm cB) (wrap64 (a0 - 1)) (wrap64 (a1 - 1)) aC _ A12.1) ?_;rintro v884 w14 ⟨aM,hb⟩;have bJ:=am (Kd.N_lower (Kd.N_mono (ok':=fun k_=>(w.heap.size≤k_)∧some k_≠(cG:Value).ownBlock) aM (fun k_ hk_=>⟨(Nat.le_trans (C5 bz) hk_),(Kd.fresh' (Kd.N_lt (rN aR)) k_ hk_)⟩)) (C5 bz));replace aR:=am (Kd.N_elder' (rN aR) (Kd.N_base aM) hb);replace HB:=bS hb;clear hb aM;obtain⟨bW,aH,rfl⟩:=Kd.N_slice bJ.1))
 go_loopg [5,7] bU (fun kq v5 v7 w'=>∃ (bA:List (List Int)) (aI:Int),v7=.int .i64 aI∧Aside0 (I2.l0 kq a0 bA aC aI=some r)∧Aside0 (kq≤bU)∧Aside0 (Kd.N KS 22 w' w.heap.size (fun k_=>(w.heap.size≤k_)∧some k_≠((.slice bW aC.length aH):Value).ownBlock) v5 bA)∧Aside0 (Kd.N KS 22 w' w.heap.size (fun k_=>(w.heap.size≤k_)∧some k_≠(v5:Value).ownBlock) (.slice bW aC.length aH) aC)∧Aside0 (Below w.heap.size w w'))
 case atStart=>exact⟨_,_,fz,H',lr,⟨rN aR⟩,⟨rN bJ⟩,⟨bz⟩⟩
 case round =>
 obtain⟨bA,aI,rfl,⟨H⟩,cM,aJ,aD,HB⟩:=hrel
 cases gk with
 |zero=>cases H
 |succ k2 =>
 simp only[I2.l0]at H
 revert H
 refine iD (fun bX=>?_) fun bX=>?_
 ·refine U9 fun cN=>U9 fun cO=>ib fun bL A19=>il fun bY=>?_
  generalize bB:(bL++ [wrap64 (a0 - 1)])=y890
  replace bB:=am bB.symm
  refine il fun bZ=>?_
  generalize bC:(bA++ [y890])=y893
  replace bC:=am bC.symm
  refine ia fun H'=>?_
  have bD:0≤(aI:Int):=od
  have bE:aI< (aC.length:Int):=od
  obtain⟨aG,bM,bN,cH,bF,bG,bH⟩:=Ai5 (Kd.N_reads' aD.1).2.2 aI bD bE
  cases cH
  obtain⟨cP,cI,bO,bP⟩:=Kd.N_get aD.1 [] aI bD (by first|exact bE|exact od|(have e_:=(Kd.N_reads' aD.1).1;omega))
  obtain⟨cC,cD,rfl,aT,aU⟩:=Kd.FK_slice_open bO
  have aE:=bP 0 _ rfl
  rw[Nat.add_zero,show(KS).sz=1 from rfl,Nat.mul_one]at aE
  replace aE:=Option.some.inj (aE.symm.trans bF)
  injection aE with hva_ hvn_ hvc_
  rw[hva_]at aU
  rw[hvc_]at aT
  have aA:=am (show Kd.V KI 3 _ w.heap.size _ _ (k9 aC aI)from Kd.V_mk aT aU)
  have aK:=am bH
  have bI:=am bG
  replace bD:=eq_true bD
  replace bE:=eq_true bE
  go_wp2_with (first|((with_reducible refine ga 48 ?_);refine gs func48 (Q3.calls bM bN (k9 aC aI) bL _ (cd aK) bI.1 A19.1) ?_;rintro cJ w22 ⟨aM,hb⟩;replace aJ:=am (Kd.N_elder' (rN aJ) (Kd.R_base aM) hb);replace aD:=am (Kd.N_elder' (rN aD) (Kd.R_base aM) hb);replace aA:=am (Kd.V_elder' (rV aA) (Kd.R_base aM) hb);have bK:=am (Kd.R_lower (Kd.R_newM (M:=fun k_=>(w.heap.size≤k_)) aM (C5 bz) (fun k_ h_=>h_)) (C5 bz));replace aK:=am (Kd.C_below (cd aK) hb);replace HB:=bS hb;clear hb aM)|((with_reducible refine gb 39 42 ?_);at_builtin;refine ra KI underlying22 J9 cJ bL (wrap64 (a0 - 1)) [.int .i64 (wrap64 (a0 - 1))] (fun k_=>(w.heap.size≤k_)) rfl (fun k_ hk=>(Nat.le_trans (C5 bz) hk)) (rM bK (fun _ hk=>hk.1)) bz (lm bY) ?_;intro v891 w23 ho hb hg hat;rw[←bB.1]at ho;replace aJ:=am (Kd.N_afterv (ok:=(fun k_=>(w.heap.size≤k_)∧some k_≠(.slice (some aG) aC.length aH:Value).ownBlock)) (rN aJ) hg hat);replace aD:=am (Kd.N_afterv (ok:=(fun k_=>(w.heap.size≤k_)∧some k_≠(u5:Value).ownBlock)) (rN aD) hg hat);replace aA:=am (Kd.V_afterv (ok:=(fun k_=>(w.heap.size≤k_)∧some k_≠(u5:Value).ownBlock∧some k_≠(.slice (some aG) aC.length aH:Value).ownBlock)) (by(with_reducible repeat(first|apply Kd.V_alloc|apply Kd.V_drewN|apply Kd.V_drew));exact Kd.V_mono aA.1 (fun _ hk=>⟨⟨hk.1.1.1,⟨hk.1.1.2,hk.1.2⟩⟩,hk.2⟩)) hg hat);replace HB:=am (hb);have aV:=am (ho);clear bK ho hb hg hat;obtain⟨bQ,bT,rfl⟩:=Kd.R_slice aV.1)|((with_reducible refine Y1 (b:=.append) (xs:=#[.tmp 34,.tmp 44]) rfl ?_);at_builtin;refine Kd.N_append KS (w0:=w) w.heap.size rfl (.tmp 34) (.tmp 44) 127 22 (.slice none 0 0) 24 rfl underlying127 Ae5 rfl (by decide) (by omega) u5 bA y890 [.slice bQ y890.length bT] (fun k_=>(w.heap.size≤k_)∧some k_≠(.slice (some aG) aC.length aH:Value).ownBlock) (fun k_=>((fun k_=>(w.heap.size≤k_)∧some k_≠(.slice (some aG) aC.length aH:Value).ownBlock)) k_∧some k_≠(u5:Value).ownBlock) rfl rfl ?aP (fun _ hk=>hk) ?aF ?aO ?aB ?aS ?aL ?_;(case aP=>exact(Kd.FK_slice_mk (Kd.R_reads' (Kd.R_mono (ok':=(fun k_=>((fun k_=>(w.heap.size≤k_)∧some k_≠(.slice (some aG) aC.length aH:Value).ownBlock)) k_∧some k_≠(u5:Value).ownBlock)) (Kd.R_apart' (Kd.R_apart' (aV.1) (Kd.N_typed aD.1) (by decide)) (Kd.N_typed aJ.1) (by decide)) (fun k_ hk=>⟨⟨hk.1.1,hk.1.2⟩,hk.2⟩))).2.1 (Kd.R_F (Kd.R_mono (ok':=(fun k_=>((fun k_=>(w.heap.size≤k_)∧some k_≠(.slice (some aG) aC.length aH:Value).ownBlock)) k_∧some k_≠(u5:Value).ownBlock)) (Kd.R_apart' (Kd.R_apart' (aV.1) (Kd.N_typed aD.1) (by decide)) (Kd.N_typed aJ.1) (by decide)) (fun k_ hk=>⟨⟨hk.1.1,hk.1.2⟩,hk.2⟩)))));(case aB=>exact bz);(case aF=>exact(fun k_ hk=>⟨(Nat.le_trans (C5 bz) hk),Kd.fresh' (Kd.N_lt (rN aD)) k_ hk⟩));(case aO=>exact(by(with_reducible repeat(first|apply Kd.N_alloc|apply Kd.N_drewN|apply Kd.N_drew));exact Kd.N_mono aJ.1 (fun _ hk=>⟨hk.1.1,hk.1.2⟩)));(case aS=>exact(C5 bz));(case aL=>have:=bZ.1;omega);intro v894 w24 ho hb hg hat;rw[←bC.1]at ho;replace aD:=am (Kd.N_afterv (ok:=(fun k_=>(w.heap.size≤k_)∧some k_≠(.slice bQ y890.length bT:Value).ownBlock)) (by(with_reducible repeat(first|apply Kd.N_alloc|apply Kd.N_drewN|apply Kd.N_drew));exact Kd.N_mono aD.1 (fun _ hk=>⟨⟨hk.1.1,hk.2⟩,hk.1.2⟩)) hg hat);replace aA:=am (Kd.V_afterv (ok:=(fun k_=>(w.heap.size≤k_)∧some k_≠(.slice (some aG) aC.length aH:Value).ownBlock∧some k_≠(.slice bQ y890.length bT:Value).ownBlock)) (by(with_reducible repeat(first|apply Kd.V_alloc|apply Kd.V_drewN|apply Kd.V_drew));exact Kd.V_mono aA.1 (fun _ hk=>⟨⟨hk.1.1,⟨hk.1.2.2,hk.2⟩⟩,hk.1.2.1⟩)) hg hat);replace HB:=am (hb);have cA:=am (ho);clear aJ aV;clear ho hb hg hat))
  go_roundg k2
  case measure=>exact lu cB cM
  case rel=>exact⟨_,_,fz,H',lv cB cM,⟨rN cA⟩,⟨by(with_reducible repeat(first|apply Kd.N_alloc|apply Kd.N_drewN|apply Kd.N_drew));exact Kd.N_mono aD.1 (fun _ hk=>⟨hk.1.1,hk.2⟩)⟩,⟨bz⟩⟩
 refine i1 ?_;rintro rfl
 go_wp2
 go_ret
 exact⟨_,fe,by(with_reducible repeat(first|apply Kd.N_alloc|apply Kd.N_drewN|apply Kd.N_drew));exact Kd.N_mono aJ.1 (fun _ hk=>hk.1),bz⟩
def Z7.f (k:Nat)(a b d:Int):Option (List Int×Bool):=(Z8.f a b).bind fun e=>(if e=true then((I2.f k a b).bind fun f=>((AD5.f f d).bind fun c=>(some (c.1,c.2))))else(some (([]:List Int),false)))
theorem Z7.calls (k a0 a1 a2 r1 r2 w):Z7.f k a0 a1 a2=some (r1,r2)→
 Calls prog 158 #[.int .i64 a0,.int .i64 a1,.int .i64 a2] w (pT w KI 3 r1 r2):=by
 have HB:=bR w
 unfold Z7.f
 refine ib fun t896 A4=>iB ?_ ?_<;>rintro rfl
 ·refine ib fun aC A6=>?_
  refine ib ?_;rintro⟨aE,aF⟩ A7
  refine i2 ?_;rintro rfl rfl
  go_in
  go_wp2_with (first|((with_reducible refine ga 234 ?_);refine gp func234 (Z8.calls a0 a1 true _ A4.1) fun nd=>?_)|((with_reducible refine ga 235 ?_);refine gs func235 (I2.calls k a0 a1 aC _ A6.1) ?_;rintro v898 w8 ⟨aB,hb⟩;have aA:=am (Kd.N_lower (Kd.N_mono (ok':=fun k_=>True) aB (fun k_ hk_=>trivial)) (C5 bz));replace HB:=bS hb;clear hb aB;obtain⟨Ao9,co9,rfl⟩:=Kd.N_slice aA.1)|((with_reducible refine ga 232 ?_);refine gs func232 (AD5.calls Ao9 co9 aC a2 aE aF _ (M8 (Kd.N_reads' aA.1).2.2) ((Kd.N_reads' aA.1).2.1) A7.1) ?_;rintro v902 w10 ⟨aB,hb⟩;replace aA:=am (Kd.N_elder' (rN aA) (Kd.R_base aB) hb);have aD:=am (Kd.R_lower aB (C5 bz));replace HB:=bS hb;clear hb aB))
  go_ret2
  exact⟨_,fe,rR aD,bz⟩
 refine i2 ?_;rintro rfl rfl
 go_in
 go_wp2_with ((with_reducible refine ga 234 ?_);refine gp func234 (Z8.calls a0 a1 false _ A4.1) fun nd=>?_)
 go_ret2
 exact⟨_,fe,nz,bz⟩
def r6.f (a b:Int):Option (Int):=if a<b then(some a)else(some b)
theorem r6.calls (a0 a1 r w):r6.f a0 a1=some r→
 Calls prog 67 #[.int .i64 a0,.int .i64 a1] w (pD w (.int .i64 r)):=by
 unfold r6.f
 refine iD ?_ ?_<;>intro c3b0
 ·refine i1 ?_;rintro rfl
  go_in
  go_wp2
  go_ret
  exact⟨fz,dz⟩
 refine i1 ?_;rintro rfl
 go_in
 go_wp2
 go_ret
 exact⟨fz,dz⟩
def Z3.f:Nat→Int→Int→Option (Int)
 |0,_,_=>none
 |k+1,a,b=>if b=0 then(some 1)else((Z3.f k a (wrap64 (b - 1))).bind fun c=>((Z3.f k (wrap64 (a+1)) (wrap64 (b - 1))).bind fun d=>(some (wrap64 ((wrap64 (a*c))+d)))))
theorem Z3.calls (k:Nat):∀ (a0 a1 r:Int) (w:World) (h:Z3.f k a0 a1=some r),
 Calls prog 236 #[.int .i64 a0,.int .i64 a1] w (pD w (.int .i64 r)):=by
 induction k using Nat.strongRecOn with
 |_ k ih =>
 intro a0 a1 r w h
 cases k with
 |zero=>exact absurd h (by simp[Z3.f])
 |succ k =>
 simp only[Z3.f]at h
 have H:=h
 revert H
 refine iE (fun aA aB=>?_) fun c3 aA aB=>?_
 ·refine i1 ?_;rintro rfl
  go_in
  go_wp2
  go_ret
  exact⟨fz,dz⟩
 refine ib fun aC A4=>ib fun aD A5=>i1 ?_;rintro rfl
 go_in
 go_wp2_with (first|((with_reducible refine ga 236 ?_);refine gp func236 (ih k (by omega) a0 (wrap64 (a1 - 1)) aC _ A4.1) fun nd=>?_)|((with_reducible refine ga 236 ?_);refine gp func236 (ih k (by omega) (wrap64 (a0+1)) (wrap64 (a1 - 1)) aD _ A5.1) fun nd=>?_))
 go_ret
 exact⟨fz,dz⟩
def AD1.f (a b:Int):Option (Int):=if a>b then(some a)else(some b)
theorem AD1.calls (a0 a1 r w):AD1.f a0 a1=some r→
 Calls prog 275 #[.int .i64 a0,.int .i64 a1] w (pD w (.int .i64 r)):=by
 unfold AD1.f
 refine iD (fun aA=>?_) fun aA=>?_
 ·refine i1 ?_;rintro rfl
  go_in
  go_wp2
  go_ret
  exact⟨fz,dz⟩
 refine i1 ?_;rintro rfl
 go_in
 go_wp2
 go_ret
 exact⟨fz,dz⟩
def Z1.l0:Nat→Int→List Int→Int→Int→Option (Int)
 |0,_,_,_,_=>none
 |k+1,c,b,d,a=>if a<d then(if 0≤a then(if a< (b.length:Int)then((AD1.f c (rd b a)).bind fun e=>(Z1.l0 k e b d (wrap64 (a+1))))else(none))else(none))else(some c)
def Z1.f (k:Nat)(a:List Int):Option (Int):=Z1.l0 k (-1) a (a.length:Int) 0
theorem Z1.calls (k A0 c0 l0 r w):Kd.C KI w A0 l0.length l0→l0.length≤c0→Z1.f k l0=some r→
 Calls prog 237 #[.slice A0 l0.length c0] w (pD w (.int .i64 r)):=by
 refine pa fun HR0 HC0=>?_
 unfold Z1.f
 refine ia fun H'=>?_
 go_in
 go_wp2
 go_loopg [3,8] k (fun kq v3 v8 w'=>∃ (aB aA:Int),v3=.int .i64 aB∧v8=.int .i64 aA∧Aside0 (Z1.l0 kq aB l0 (l0.length:Int) aA=some r)∧Aside0 (kq≤k)∧Drawn0 w w')
 case atStart=>exact⟨_,_,fz,fz,H',lr,dz⟩
 case round =>
 obtain⟨aB,aA,rfl,rfl,⟨H⟩,aE,⟨m1,rfl⟩⟩:=hrel
 cases gk with
 |zero=>cases H
 |succ k1 =>
 simp only[Z1.l0]at H
 revert H
 refine iD ?_ ?_<;>intro c2b0
 ·refine U9 fun c3b0=>U9 fun c4b0=>ib fun aD A5=>ia fun H'=>?_
  obtain⟨p906,q906,aF,rfl,aC⟩:=ai HR0.1 aA
  go_wp2_with ((with_reducible refine ga 275 ?_);refine gp func275 (AD1.calls aB (rd l0 aA) aD _ A5.1) fun nd=>?_)
  go_roundg k1
  case measure=>exact lm aE
  case rel=>exact⟨_,_,fz,fz,H',la aE,dz⟩
 refine i1 ?_;rintro rfl
 go_wp2
 go_ret
 exact⟨fz,dz⟩
mutual
def K2.j0:Nat→Int→Int→Bool→Option (List Int×Bool)
 |0,_,_,_=>none
 |k+1,a,b,c=>if c=true then(some (([]:List Int),false))else(K2.l0 k a b (([0]:List Int)) 1)
def K2.l0:Nat→Int→Int→List Int→Int→Option (List Int×Bool)
 |0,_,_,_,_=>none
 |k+1,c,g,a,d=>if d<c then((Z1.f k a).bind fun e=>((Z3.f k (wrap64 (e+1)) (wrap64 ((wrap64 (c - d)) - 1))).bind fun b=>(if b=0 then(none)else((r6.f (wrap64 (Int.tdiv g b)) (wrap64 (e+1))).bind fun f=>(if a.length<17592186044416 then(K2.l0 k c (wrap64 (g - (wrap64 (f*b)))) (a++ [f]) (wrap64 (d+1)))else(none))))))else(some (a,true))
end
def K2.f (k:Nat)(a b:Int):Option (List Int×Bool):=(G3.f a 1 12).bind fun c=>(if c=true then((Z3.f k 1 (wrap64 (a - 1))).bind fun d=>((G3.f b 0 (wrap64 (d - 1))).bind fun e=>(K2.j0 k a b (!e))))else(K2.j0 k a b true))
theorem K2.calls (k a0 a1 r1 r2 w):K2.f k a0 a1=some (r1,r2)→
 Calls prog 159 #[.int .i64 a0,.int .i64 a1] w (pT w KI 3 r1 r2):=by
 have HB:=bR w
 unfold K2.f
 refine ia fun HC3=>?_
 go_in
 go_upto_region 1 with(fail)
 go_cut [22] (fun v22 wc=>∃ (kq:Nat) (aD:Bool),v22=.bool aD∧Aside0 (K2.j0 kq a0 a1 aD=some (r1,r2))∧Aside0 (kq≤k)∧Aside0 (Below w.heap.size w wc))
 case first =>
  have H:=HC3.1
  revert H
  refine ib fun t908 A4=>iB ?_ ?_<;>rintro rfl
  ·refine ib fun aK A6=>ib fun aL A7=>ia fun H'=>?_
   go_wp2_with (first|((with_reducible refine ga 78 ?_);refine gp func78 (G3.calls a0 1 12 true _ A4.1) fun nd=>?_)|(go_at_call 236;(with_reducible refine qp (Z3.calls k 1 (wrap64 (a0 - 1)) aK _ A6.1) fun nd=>?_))|(go_at_call 78;(with_reducible refine qp (G3.calls a1 0 (wrap64 (aK - 1)) aL _ A7.1) fun nd=>?_)))
   go_meet
   case rel=>exact⟨_,(!aL),fz,H',lo,⟨bz⟩⟩
  refine ia fun H'=>?_
  go_wp2_with ((with_reducible refine ga 78 ?_);refine gp func78 (G3.calls a0 1 12 false _ A4.1) fun nd=>?_)
  go_meet
  case rel=>exact⟨_,(true),fz,H',lo,⟨bz⟩⟩
 case rest =>
 obtain⟨kq,aD,rfl,⟨H⟩,aS,HB⟩:=hcut
 cases kq with
 |zero=>cases H
 |succ aT =>
 simp only[K2.j0]at H
 revert H
 refine iB ?_ ?_<;>rintro rfl
 ·refine i2 ?_;rintro rfl rfl
  go_wp2
  go_ret2
  exact⟨_,fe,nz,bz⟩
 generalize aB:([0]:List Int)=y911
 replace aB:=am aB.symm
 refine ia fun H'=>?_
 go_wp2_with ((with_reducible refine gd 23 ?_);refine rl KI 3 ([0]:List Int) [.int .i64 0] (J7.one (show Kd.M KI _ _ _ 0 [.int .i64 0]from rfl) (J7.none _ _)) ?_;intro v912 w9 aE hb;(first|rw[←aB.1]at aE|(simp only[Int.reduceToNat]at aE;rw[←aB.1]at aE));have aM:=am (Kd.R_lower aE (C5 bz));replace HB:=bS hb;clear hb aE)
 go_loopg [1,6,7] aT (fun kq v1 v6 v7 w'=>∃ (aG:Int) (aA:List Int) (aH:Int),v1=.int .i64 aG∧v7=.int .i64 aH∧Aside0 (K2.l0 kq a0 aG aA aH=some (r1,r2))∧Aside0 (kq≤aT)∧Aside0 (Kd.R KI 3 w' w.heap.size (fun _=>True) v6 aA)∧Aside0 (Below w.heap.size w w'))
 case atStart=>exact⟨_,_,_,fz,fz,H',lr,⟨rR aM⟩,⟨bz⟩⟩
 case round =>
 obtain⟨aG,aA,aH,rfl,rfl,⟨H⟩,aU,aC,HB⟩:=hrel
 cases gk with
 |zero=>cases H
 |succ k2 =>
 simp only[K2.l0]at H
 revert H
 refine iD ?_ ?_<;>intro aV
 ·refine ib fun aJ A12=>ib fun aN A13=>iN fun c14 aW aX=>ib fun aI A15=>il fun aO=>?_
  generalize aF:(aA++ [aI])=y917
  replace aF:=am aF.symm
  refine ia fun H'=>?_
  obtain⟨aP,aQ,rfl⟩:=Kd.R_slice aC.1
  go_wp2_with (first|((with_reducible refine ga 237 ?_);refine gp func237 (Z1.calls k2 aP aQ aA aJ _ (M8 (Kd.R_reads' aC.1).2.2) ((Kd.R_reads' aC.1).2.1) A12.1) fun nd=>?_)|((with_reducible refine ga 236 ?_);refine gp func236 (Z3.calls k2 (wrap64 (aJ+1)) (wrap64 ((wrap64 (a0 - aH)) - 1)) aN _ A13.1) fun nd=>?_)|((with_reducible refine ga 67 ?_);refine gp func67 (r6.calls (wrap64 (Int.tdiv aG aN)) (wrap64 (aJ+1)) aI _ A15.1) fun nd=>?_)|((with_reducible refine gb 48 50 ?_);at_builtin;refine ra KI underlying22 J9 (.slice aP aA.length aQ) aA aI [.int .i64 aI] (fun _=>True) rfl (fun _ _=>trivial) (rR aC) bz (lm aO) ?_;intro v918 w18 ho hb hg hat;rw[←aF.1]at ho;replace HB:=am (hb);have aR:=am (ho);clear aC ho hb hg hat))
  go_roundg k2
  case measure=>exact lu aS aU
  case rel=>exact⟨_,_,_,fz,fz,H',lv aS aU,⟨rR aR⟩,⟨bz⟩⟩
 refine i2 ?_;rintro rfl rfl
 go_wp2
 go_ret2
 exact⟨_,fe,rR aC,bz⟩
mutual
def F5.l0:Nat→Int→Int→List Int→Int→Int→Option (Int)
 |0,_,_,_,_,_=>none
 |k+1,c,d,b,e,a=>if a<e then(if 0≤a then(if a< (b.length:Int)then(F5.l0 k c d (b.set (a:Int).toNat 1) e (wrap64 (a+1)))else(none))else(none))else(F5.l1 k c d b 1)
def F5.l1:Nat→Int→Int→List Int→Int→Option (Int)
 |0,_,_,_,_=>none
 |k+1,b,c,a,d=>if d≤c then(if 0≤(a.length:Int)then(if((a.length:Int):Int).toNat≤35184372088832 then(F5.l2 k b c a d (List.replicate ((a.length:Int):Int).toNat 0) 0)else(none))else(none))else(if 0≤b then(if b< (a.length:Int)then(some (rd a b))else(none))else(none))
def F5.l2:Nat→Int→Int→List Int→Int→List Int→Int→Option (Int)
 |0,_,_,_,_,_,_=>none
 |k+1,e,f,b,g,c,a=>if(wrap64 (a+1))< (b.length:Int)then(if 0≤(wrap64 (a+1))then(if 0≤a then(if a< (c.length:Int)then((some (c.set (a:Int).toNat (rd b (wrap64 (a+1))):List Int)).bind fun d=>(if a>0 then(if 0≤(wrap64 (a - 1))then(if(wrap64 (a - 1))< (c.length:Int)then(F5.l2 k e f b g (d.set (a:Int).toNat (wrap64 ((rd d a)+ (rd d (wrap64 (a - 1)))))) (wrap64 (a+1)))else(none))else(none))else(F5.l2 k e f b g d (wrap64 (a+1)))))else(none))else(none))else(none))else(F5.l1 k e f c (wrap64 (g+1)))
end
def F5.f (k:Nat)(a b:Int):Option (Int):=if 0≤(wrap64 ((wrap64 (a+b))+2))then(if(wrap64 ((wrap64 (a+b))+2):Int).toNat≤35184372088832 then((some (List.replicate (wrap64 ((wrap64 (a+b))+2):Int).toNat 0:List Int)).bind fun c=>(F5.l0 k a b c (c.length:Int) 0))else(none))else(none)
def F5.T16:Bool×List (List Nat×List Nat):=(true,[([],[]),([],[]),([0,1],[0,1]),([2],[2]),([],[]),([],[]),([5],[5]),([4,6],[4,6]),([7],[7]),([3,8],[3,8]),([0,1,0,1,2,3,4,5,6,7,8,9],[0,1]),([10,9,0,1,2,3,4,5,6,7,8,9],[9,10])])
def F5.B16:List Nat:=[0,0,3,7,0,0,32,112,240,511,1023,2047]
theorem F5.tab16:AA0 .any (AC6 f238 16)=F5.T16:=by kernel_rfl
theorem F5.bits16:l6 F5.T16.2 F5.B16=true:=by kernel_rfl
theorem F5.calls (k a0 a1 r w):F5.f k a0 a1=some r→
 Calls prog 238 #[.int .i64 a0,.int .i64 a1] w (pB w (.int .i64 r)):=by
 have HB:=bR w
 unfold F5.f
 intro H
 obtain⟨cT,aY⟩:=ex (wrap64 ((wrap64 (a0+a1))+2):Int)
 first|rw[aY]at H|simp only[aY]at H
 have dP:(IntKind.i64.wrap ((wrap64 (a0+a1))+2))=cT:=(P9 _).trans aY
 revert H
 refine if' fun c4b0 c4b1=>if' fun c5b0 c5b1=>iy fun bH bC=>ia fun H'=>?_
 go_in
 go_wp2_with ((with_reducible refine P8 (N:=14) rfl ?_);refine Kd.R_make KI _ 3 rfl (N:=14) rfl 22 _ _ rfl cT rfl rfl underlying22 (.int .i64 0) 8 J9 rfl (by decide) (by omega) 0 (ok:=fun _=>True) (okp:=fun _=>True) rfl (fun _ hk=>hk) trivial (od) (Nat.le_trans (Nat.mul_le_mul_right _ (od:cT.toNat≤35184372088832)) (by omega)) (Below.refl _ _) (Nat.le_refl _) ?_;intro v921 w6 cD hb hg_ hnew_;clear hg_ hnew_;(first|rw[←bC.1]at cD|(simp only[Int.reduceToNat]at cD;rw[←bC.1]at cD));have bD:=am (Kd.R_lower cD (C5 bz));replace HB:=bS hb;clear hb cD;obtain⟨Ao8,dQ,rfl⟩:=Kd.R_slice bD.1)
 go_loopg [17] k (fun kq v17 w'=>∃ (aO:List Int) (aE:Int),v17=.int .i64 aE∧Aside0 (F5.l0 kq a0 a1 aO (bH.length:Int) aE=some r)∧Aside0 (kq≤k)∧Aside0 (Kd.R KI 3 w' w.heap.size (fun _=>True) (.slice Ao8 bH.length dQ) aO)∧Aside0 (Below w.heap.size w w'))
 case atStart=>exact⟨(bH),(0),fz,H',lr,⟨rR bD⟩,⟨bz⟩⟩
 case round =>
 obtain⟨aO,aE,rfl,⟨H⟩,bE,aB,HB⟩:=hrel
 have aC:=(Kd.R_reads' aB.1).1
 rw[aC]at aB
 (try simp only[aC])
 cases gk with
 |zero=>cases H
 |succ k1 =>
 simp only[F5.l0]at H
 revert H
 refine iD (fun cE=>?_) fun cE=>?_
 ·refine U9 fun dR=>U9 fun dS=>?_
  obtain⟨cF,bF⟩:=ey (aO.set (aE:Int).toNat 1:List Int)
  intro H
  rw[←bF.1]at H
  revert H
  refine ia fun H'=>?_
  have cU:0≤(aE:Int):=od
  have cV:(aE:Int)< ((aO.length:Int):Int):=od
  obtain⟨bI,co12,cW,cG,cX,cl12,cH⟩:=Kd.R_form aB.1 (by omega)
  cases cW
  have cY:=am cG
  have GG12:=am cH
  clear cG cX cH
  obtain⟨cZ,dA⟩:=Kd.R_celln 0 aB.1 (aE:Int) cU cV
  replace cU:=eq_true cU
  replace cV:=eq_true cV
  have bJ:=Kd.R_putg aB.1 (aE:Int) 1
  go_wp2_with ((with_reducible refine gt 3 22 ?_);refine se 3 22 (wr.setCell ⟨bI,(aE:Int).toNat,none⟩ (.int .i64 1)) ?_;intro dB hw;have hg:wr.grownBy dB (some bI):=(by rw[hw];exact bJ.2);have hp_:Kd.R KI 3 dB w.heap.size (fun _=>True) (.slice (some ⟨bI,0,none⟩) aO.length dQ) cF:=(by rw[hw,bF.1];exact bJ.1);clear bJ;replace aB:=am (hp_);replace HB:=am ((by rw[hw];exact S0 (HB.1) cY.1:Below w.heap.size w dB));clear hg hw hp_)
  (try simp only[←aC])
  go_roundg k1
  case measure=>exact lm bE
  case rel=>exact⟨(cF),(wrap64 (aE+1)),fz,H',la bE,⟨rX aC aB⟩,⟨bz⟩⟩
 (try (have c9bn:decide (aE< (aO.length:Int))=false:=by rw[←aC];exact cE))
 refine ia fun H'=>?_
 go_wp2
 go_loopg [5,7] k1 (fun kq v5 v7 w'=>∃ (aH:List Int) (aS:Int),v7=.int .i64 aS∧Aside0 (F5.l1 kq a0 a1 aH aS=some r)∧Aside0 (kq≤k1)∧Aside0 (Kd.R KI 3 w' w.heap.size (fun _=>True) v5 aH)∧Aside0 (Below w.heap.size w w'))
 case atStart=>exact⟨(aO),(1),fz,H',lr,⟨rX aC aB⟩,⟨bz⟩⟩
 case round =>
 obtain⟨aH,aS,rfl,⟨H⟩,cB,aB,HB⟩:=hrel
 cases gk with
 |zero=>cases H
 |succ k2 =>
 simp only[F5.l1]at H
 revert H
 refine iD ?_ ?_<;>intro dT
 ·refine if' fun dU dV=>if' fun dW dX=>?_
  obtain⟨dC,aT⟩:=ey (List.replicate ((aH.length:Int):Int).toNat 0:List Int)
  intro H
  rw[←aT.1]at H
  revert H
  refine ia fun H'=>?_
  obtain⟨cI,aZ,rfl⟩:=Kd.R_slice aB.1
  go_wp2_with ((with_reducible refine P8 (N:=31) rfl ?_);refine Kd.R_make KI _ 3 rfl (N:=31) rfl 22 _ _ rfl (aH.length:Int) rfl rfl underlying22 (.int .i64 0) 8 J9 rfl (by decide) (by omega) 0 (ok:=fun _=>True) (okp:=fun _=>True) rfl (fun _ hk=>hk) trivial (od) (Nat.le_trans (Nat.mul_le_mul_right _ (od:(aH.length:Int).toNat≤35184372088832)) (by omega)) (Below.refl _ _) (Nat.le_refl _) ?_;intro cJ w19 aR hb hg_ hnew_;clear hg_ hnew_;(first|rw[←aT.1]at aR|(simp only[Int.reduceToNat]at aR;rw[←aT.1]at aR));have cK:=am (Kd.R_lower (Kd.R_new' aR (Kd.R_lt (rR aB))) (C5 bz));replace aB:=rE aB aR hb;replace HB:=bS hb;clear hb aR)
  go_loopg [9] k2 (fun kq v9 w'=>∃ (aF:List Int) (aA:Int),v9=.int .i64 aA∧Aside0 (F5.l2 kq a0 a1 aH aS aF aA=some r)∧Aside0 (kq≤k2)∧Aside0 (Kd.R KI 3 w' w.heap.size (fun k_=>some k_≠(cJ:Value).ownBlock) (.slice cI aH.length aZ) aH)∧Aside0 (Kd.R KI 3 w' w.heap.size (fun k_=>some k_≠((.slice cI aH.length aZ):Value).ownBlock) cJ aF)∧Aside0 (Below w.heap.size w w'))
  case atStart=>exact⟨(dC),(0),fz,H',lr,⟨by(try simp only[aC]);(with_reducible repeat(first|apply Kd.R_alloc|apply Kd.R_drewN|apply Kd.R_drew));exact Kd.R_mono aB.1 (fun _ hk=>hk.2)⟩,⟨by(try simp only[aC]);(with_reducible repeat(first|apply Kd.R_alloc|apply Kd.R_drewN|apply Kd.R_drew));exact Kd.R_mono cK.1 (fun _ hk=>hk.2)⟩,⟨bz⟩⟩
  case round =>
  obtain⟨aF,aA,rfl,⟨H⟩,cC,aB,aD,HB⟩:=hrel
  cases gk with
  |zero=>cases H
  |succ k3 =>
  simp only[F5.l2]at H
  revert H
  refine iD ?_ ?_<;>intro cL
  ·obtain⟨aN,aM⟩:=ex (wrap64 (aA+1):Int)
   intro H
   first|rw[aM]at H|simp only[aM]at H
   (try rw[aM]at cL)
   have dD:(IntKind.i64.wrap (aA+1))=aN:=(P9 _).trans aM
   revert H
   refine U9 fun dY=>U9 fun dZ=>U9 fun eA=>iy fun aI aQ=>io ?_ ?_<;>intro cQ
   ·have cM:decide (0<aA)=true:=(decide_eq_true cQ)
    clear cQ
    obtain⟨aL,aU⟩:=ex (wrap64 (aA - 1):Int)
    intro H
    first|rw[aU]at H|simp only[aU]at H
    have dE:(IntKind.i64.wrap (aA - 1))=aL:=(P9 _).trans aU
    revert H
    refine U9 fun eB=>U9 fun eC=>?_
    obtain⟨dF,bG⟩:=ey (aI.set (aA:Int).toNat (wrap64 ((rd aI aA)+ (rd aI (aL)))):List Int)
    intro H
    rw[←bG.1]at H
    revert H
    refine ia fun H'=>?_
    obtain⟨dG,dH,aV,rfl,bA⟩:=ai (Kd.R_reads' aB.1).2.2 (aN)
    have bK:0≤(aA:Int):=od
    have bL:(aA:Int)< ((aF.length:Int):Int):=od
    obtain⟨aG,aP,bM,aW,bN,dI,aX⟩:=Kd.R_form aD.1 (by omega)
    cases bM
    have bB:=am aW
    have dJ:=am aX
    clear aW bN aX
    obtain⟨bO,bP⟩:=Kd.R_celln 0 aD.1 (aA:Int) bK bL
    replace bK:=eq_true bK
    replace bL:=eq_true bL
    have bQ:=Kd.R_putg aD.1 (aA:Int) (rd aH (aN))
    try go_wp2_with ((with_reducible refine gt 3 46 ?_);refine se 3 46 (wr.setCell ⟨aG,(aA:Int).toNat,none⟩ (.int .i64 (rd aH (aN)))) ?_;intro cR hw;have hg:wr.grownBy cR (some aG):=(by rw[hw];exact bQ.2);have hp_:Kd.R KI 3 cR w.heap.size (fun k_=>some k_≠(.slice (some aV) aH.length aZ:Value).ownBlock) (.slice (some ⟨aG,0,none⟩) aF.length aP) aI:=(by rw[hw,aQ.1];exact bQ.1);clear bQ;replace aB:=am (Kd.R_after (v:=(.slice (some ⟨aG,0,none⟩) aF.length aP)) (v1:=(.slice (some ⟨aG,0,none⟩) aF.length aP)) (ok:=(fun _=>True)) (rM aB (fun _ hk=>(And.intro trivial hk))) hg (.inl rfl));replace aD:=am (hp_);replace HB:=am ((by rw[hw];exact S0 (HB.1) bB.1:Below w.heap.size w cR));clear hg hw hp_)
    replace aB:=am (Kd.R_drew aB.1)
    replace aD:=am (Kd.R_drew aD.1)
    replace HB:=am (F8 HB.1)
    have bT:0≤(aA:Int):=od
    have bU:aA< (aI.length:Int):=(by have h_:(aA:Int)< ((aF.length:Int):Int):=od;first|(have e_:=(Kd.R_reads' aD.1).1;omega)|simpa only[aQ.1,List.length_set]using h_)
    have eD:((aA:Int)< ((aF.length:Int):Int))=True:=eq_true (od)
    obtain⟨cN,dK,aJ⟩:=Kd.at_int (Kd.R_reads' aD.1).2.2 aA bT bU
    obtain rfl:(⟨aG,0,none⟩:Addr)=cN:=(by injection dK)
    (first|simp only[k6]at aJ|simp only[AZ9]at aJ|simp only[Addr.add,Nat.zero_add]at aJ|skip)
    replace bT:=eq_true bT
    replace bU:=eq_true bU
    have bV:0≤((aL):Int):=od
    have bW:(aL)< (aI.length:Int):=(by have h_:((aL):Int)< ((aF.length:Int):Int):=od;first|(have e_:=(Kd.R_reads' aD.1).1;omega)|simpa only[aQ.1,List.length_set]using h_)
    have eE:(((aL):Int)< ((aF.length:Int):Int))=True:=eq_true (od)
    obtain⟨cO,dL,aK⟩:=Kd.at_int (Kd.R_reads' aD.1).2.2 (aL) bV bW
    obtain rfl:(⟨aG,0,none⟩:Addr)=cO:=(by injection dL)
    (first|simp only[k6]at aK|simp only[AZ9]at aK|simp only[Addr.add,Nat.zero_add]at aK|skip)
    replace bV:=eq_true bV
    replace bW:=eq_true bW
    have dM:0≤(aA:Int):=od
    have dN:(aA:Int)< ((aF.length:Int):Int):=od
    obtain⟨bX,bY⟩:=Kd.R_celln 0 aD.1 (aA:Int) dM dN
    replace dM:=eq_true dM
    replace dN:=eq_true dN
    have bZ:=Kd.R_putn aD.1 (aA:Int) (wrap64 ((rd aI aA)+ (rd aI (aL))))
    rw[←bG.1]at bZ
    have cP:=am bZ
    clear bZ
    refine sq 12 (fun w'=>w'.cell? ⟨aG,(aA).toNat,none⟩=some (.int .i64 (rd aI aA))∧w'.cell? ⟨aG,((aL)).toNat,none⟩=some (.int .i64 (rd aI (aL)))) [11] F5.tab16 F5.bits16 ⟨aJ,aK⟩ fun hHeld HT_ HW_=>?_
    generalize cR.drew=w34 at aB aD HB cP bY bX aJ aK hHeld ⊢
    refine rg [0,1,2,4,5,6,7,3,8,9,10] ?_
    refine ls 11 ?_
    try go_wp2
    go_roundg k3
    case measure=>exact lx bE cB cC
    case rel=>exact⟨(dF),(aN),(by first|rfl|(simp;done)|(simp only[←aM]<;> (first|rfl|simp))|(simp[*];done)),H',ly bE cB cC,⟨by(try simp only[aC]);(with_reducible repeat(first|apply Kd.R_alloc|apply Kd.R_drewN|apply Kd.R_drew));exact Kd.R_mono (Kd.R_far (p:=⟨aG,(aA:Int).toNat,none⟩) (Kd.R_mono aB.1 (fun k_ hk=>(⟨hk,fun e_=>hk.2 (by rw[e_];rfl)⟩:_∧k_≠aG))) (fun _ hk=>hk.2) (.int .i64 (wrap64 ((rd aI aA)+ (rd aI (aL)))))) (fun _ hk=>hk.1.2)⟩,⟨rX aC cP⟩,⟨bs bB.1⟩⟩
   have cM:decide (0<aA)=false:=(decide_eq_false cQ)
   clear cQ
   refine ia fun H'=>?_
   obtain⟨dG,dH,aV,rfl,bA⟩:=ai (Kd.R_reads' aB.1).2.2 (aN)
   have bK:0≤(aA:Int):=od
   have bL:(aA:Int)< ((aF.length:Int):Int):=od
   obtain⟨aG,aP,bM,aW,bN,dI,aX⟩:=Kd.R_form aD.1 (by omega)
   cases bM
   have bB:=am aW
   have dJ:=am aX
   clear aW bN aX
   obtain⟨bO,bP⟩:=Kd.R_celln 0 aD.1 (aA:Int) bK bL
   replace bK:=eq_true bK
   replace bL:=eq_true bL
   have cA:=Kd.R_putg aD.1 (aA:Int) (rd aH (aN))
   go_wp2_with ((with_reducible refine gt 3 46 ?_);refine se 3 46 (wr.setCell ⟨aG,(aA:Int).toNat,none⟩ (.int .i64 (rd aH (aN)))) ?_;intro dO hw;have hg:wr.grownBy dO (some aG):=(by rw[hw];exact cA.2);have hp_:Kd.R KI 3 dO w.heap.size (fun k_=>some k_≠(.slice (some aV) aH.length aZ:Value).ownBlock) (.slice (some ⟨aG,0,none⟩) aF.length aP) aI:=(by rw[hw,aQ.1];exact cA.1);clear cA;replace aB:=am (Kd.R_after (v:=(.slice (some ⟨aG,0,none⟩) aF.length aP)) (v1:=(.slice (some ⟨aG,0,none⟩) aF.length aP)) (ok:=(fun _=>True)) (rM aB (fun _ hk=>(And.intro trivial hk))) hg (.inl rfl));replace aD:=am (hp_);replace HB:=am ((by rw[hw];exact S0 (HB.1) bB.1:Below w.heap.size w dO));clear hg hw hp_)
   go_roundg k3
   case measure=>exact lx bE cB cC
   case rel=>exact⟨(aI),(aN),(by first|rfl|(simp;done)|(simp only[←aM]<;> (first|rfl|simp))|(simp[*];done)),H',ly bE cB cC,⟨by(try simp only[aC]);(with_reducible repeat(first|apply Kd.R_alloc|apply Kd.R_drewN|apply Kd.R_drew));exact Kd.R_mono aB.1 (fun _ hk=>hk.2)⟩,⟨rX aC aD⟩,⟨bz⟩⟩
  refine ia fun H'=>?_
  go_wp2
  go_roundg k3
  case measure=>exact lx bE cB cC
  case rel=>exact⟨(aF),(wrap64 (aS+1)),fz,H',ly bE cB cC,⟨by(try simp only[aC]);(with_reducible repeat(first|apply Kd.R_alloc|apply Kd.R_drewN|apply Kd.R_drew));exact Kd.R_mono aD.1 (fun _ hk=>trivial)⟩,⟨bz⟩⟩
 refine U9 fun eF=>U9 fun eG=>i1 ?_;rintro rfl
 obtain⟨Ao40,co40,rfl⟩:=Kd.R_slice aB.1
 obtain⟨p924,q924,eH,rfl,cS⟩:=ai (Kd.R_reads' aB.1).2.2 a0
 go_wp2
 go_ret
 exact⟨by first|rfl|(simp[M7,M6]<;>rfl)|(simp only[←aY];first|rfl|(simp[M7,M6]<;>rfl))|(simp[*,M7,M6]<;>rfl),bz⟩
end Go.Proofs.YtpiogigidgejpaaGreatDoor.PFnExactStepLine
