import Derived.Test.YtpiogigidgejpaaGreatDoorPFnExactStepLinex4
import Derived.Test.YtpiogigidgejpaaGreatDoorPFnExactStepLinex6
namespace Go.Proofs.YtpiogigidgejpaaGreatDoor.PFnExactStepLine
open Go.RowKit Go.Proofs.YtpiogigidgejpaaGreatDoorW.PrintWords Go.Proofs.YtpiogigidgejpaaGreatDoorW.PrintLast Go.Proofs.YtpiogigidgejpaaGreatDoorW.PrintMore Go.Proofs.YtpiogigidgejpaaGreatDoor.Sq Tryz
attribute [local go_sem] g8 g9 s8 q8 Y0 X9 b8 e6
set_option maxHeartbeats 8000000
set_option maxRecDepth 100000
set_option linter.unusedVariables false
set_option linter.unusedSimpArgs false
mutual
def G0.l0:Nat→Int→List Int→List Int→Int→Int→Option (List Int)
 |0,_,_,_,_,_=>none
 |k+1,b,d,c,g,a=>if a<g then(if 0≤a then(if a< (c.length:Int)then((F4.f k (wrap64 (b - 1)) (rd c a)).bind fun e=>((E1.f (([e,(([wrap64 (b - 1)]:List Int)),e]:List (List Int)))).bind fun f=>(G0.l1 k b d f (mn (f.length:Int) (d.length:Int)) c g a)))else(none))else(none))else(some d)
def G0.l1:Nat→Int→List Int→List Int→Int→List Int→Int→Int→Option (List Int)
 |0,_,_,_,_,_,_,_=>none
 |k+1,d,a,c,b,e,f,g=>if 0≤b then(if b≤(c.length:Int)then(if 0≤(wrap64 ((a.length:Int) - b))then(if(wrap64 ((a.length:Int) - b))≤(a.length:Int)then((D7.f k (c.take (b:Int).toNat) (a.drop ((wrap64 ((a.length:Int) - b)):Int).toNat)).bind fun i=>(if i=true then((some (c.drop (b:Int).toNat:List Int)).bind fun h=>(if a.length+h.length<17592186044416 then(G0.l0 k d (a++h) e f (wrap64 (g+1)))else(none)))else(G0.l1 k d a c (wrap64 (b - 1)) e f g)))else(none))else(none))else(none))else(none)
def G0.f:Nat→Int→Option (List Int)
 |0,_=>none
 |k+1,a=>if a=1 then(some (([0]:List Int)))else((G0.f k (wrap64 (a - 1))).bind fun c=>((J5.f k (wrap64 (a - 1)) c).bind fun b=>(G0.l0 k a (([]:List Int)) b (b.length:Int) 0)))
end
theorem G0.mono_l:∀k,(∀y0,S6 (G0.f k y0) (G0.f (k+1) y0))∧(∀y0 y1 y2 y3 y4,S6 (G0.l0 k y0 y1 y2 y3 y4) (G0.l0 (k+1) y0 y1 y2 y3 y4))∧(∀y0 y1 y2 y3 y4 y5 y6,S6 (G0.l1 k y0 y1 y2 y3 y4 y5 y6) (G0.l1 (k+1) y0 y1 y2 y3 y4 y5 y6))
 |0=>⟨fun _ r h=>by simp[G0.f]at h,fun _ _ _ _ _ r h=>by simp[G0.l0]at h,fun _ _ _ _ _ _ _ r h=>by simp[G0.l1]at h⟩
 |k+1=>by
  obtain⟨ih0,ih1,ih2⟩:=G0.mono_l k
  refine⟨?_,?_,?_⟩
  ·intro y0
   unfold G0.f
   have e0:=J5.mono;have e1:=F4.mono;have e2:=D7.mono;exact mo
  ·intro y0 y1 y2 y3 y4
   unfold G0.l0
   have e0:=J5.mono;have e1:=F4.mono;have e2:=D7.mono;exact mo
  ·intro y0 y1 y2 y3 y4 y5 y6
   unfold G0.l1
   have e0:=J5.mono;have e1:=F4.mono;have e2:=D7.mono;exact mo
theorem G0.mono:∀a0 k,S6 (G0.f k a0) (G0.f (k+1) a0):=by
 intro a0 k
 obtain⟨ih0,ih1,ih2⟩:=G0.mono_l k
 exact ih0 a0
theorem G0.calls (k:Nat):∀ (a0:Int) (r:List Int) (w:World) (h:G0.f k a0=some r),
 Calls prog 216 #[.int .i64 a0] w (pR w KI 3 r):=by
 induction k using Nat.strongRecOn with
 |_ k ih =>
 intro a0 r w h
 cases k with
 |zero=>exact absurd h (by simp[G0.f])
 |succ k =>
 simp only[G0.f]at h
 have HB:=bR w
 have H:=h
 clear h
 revert H
 refine iE (fun eU eV=>?_) fun c2 eU eV=>?_
 ·obtain⟨y419,bO⟩:=ey (([0]:List Int):List Int)
  intro H
  rw[←bO.1]at H
  revert H
  refine i1 ?_;rintro rfl
  go_in
  go_wp2_with ((with_reducible refine gd 12 ?_);refine rl KI 3 ([0]:List Int) [.int .i64 0] (J7.one (show Kd.M KI _ _ _ 0 [.int .i64 0]from rfl) (J7.none _ _)) ?_;intro dO w3 bZ hb;(first|rw[←bO.1]at bZ|(simp only[Int.reduceToNat]at bZ;rw[←bO.1]at bZ));have cK:=am (Kd.R_lower bZ (C5 bz));replace HB:=bS hb;clear hb bZ)
  repeat(go_quiet (first|((with_reducible refine gd 12 ?_);refine rl KI 3 ([0]:List Int) [.int .i64 0] (J7.one (show Kd.M KI _ _ _ 0 [.int .i64 0]from rfl) (J7.none _ _)) ?_;intro dO w3 bZ hb;(first|rw[←bO.1]at bZ|(simp only[Int.reduceToNat]at bZ;rw[←bO.1]at bZ));have cK:=am (Kd.R_lower bZ (C5 bz));replace HB:=bS hb;clear hb bZ));try go_wp2_with ((with_reducible refine gd 12 ?_);refine rl KI 3 ([0]:List Int) [.int .i64 0] (J7.one (show Kd.M KI _ _ _ 0 [.int .i64 0]from rfl) (J7.none _ _)) ?_;intro dO w3 bZ hb;(first|rw[←bO.1]at bZ|(simp only[Int.reduceToNat]at bZ;rw[←bO.1]at bZ));have cK:=am (Kd.R_lower bZ (C5 bz));replace HB:=bS hb;clear hb bZ))
  go_ret
  exact⟨_,fe,rR cK,bz⟩
 obtain⟨eW,bP⟩:=ey (([]:List Int):List Int)
 intro H
 rw[←bP.1]at H
 revert H
 refine ib fun cJ A5=>ib fun aC A6=>ia fun H'=>?_
 go_in
 go_wp2_with (first|((with_reducible refine gd 13 ?_);refine rl KI 3 ([]:List Int) [] (J7.none _ _) ?_;intro dP w7 cA hb;(first|rw[←bP.1]at cA|(simp only[Int.reduceToNat]at cA;rw[←bP.1]at cA));have aL:=am (Kd.R_lower cA (C5 bz));replace HB:=bS hb;clear hb cA)|(go_at_call 216;(with_reducible refine(ih k (by omega) (wrap64 (a0 - 1)) cJ _ A5.1).mono ?_);rintro e w9 ⟨dQ,rfl,aN,hb⟩;have aM:=am (Kd.R_lower (Kd.R_new' aN (Kd.R_lt (rR aL))) (C5 bz));replace aL:=rE aL aN hb;replace HB:=bS hb;clear hb aN;obtain⟨dR,dS,rfl⟩:=Kd.R_slice aM.1)|(go_at_call 271;(with_reducible refine(J5.calls k (wrap64 (a0 - 1)) _ _ cJ aC _ ?side1 ?side2 A6.1).mono ?_);(case side1=>exact M8 (Kd.R_reads' aM.1).2.2);(case side2=>exact(Kd.R_reads' aM.1).2.1);rintro e fF ⟨dT,rfl,aN,hb⟩;have bV:=am (Kd.R_lower (Kd.R_new' (Kd.R_new' aN (Kd.R_lt (rR aL))) (Kd.R_lt (rR aM))) (C5 bz));replace aL:=rE aL aN hb;replace aM:=rE aM aN hb;replace HB:=bS hb;clear hb aN;obtain⟨cU,aF,rfl⟩:=Kd.R_slice bV.1))
 repeat(go_quiet (first|((with_reducible refine gd 13 ?_);refine rl KI 3 ([]:List Int) [] (J7.none _ _) ?_;intro dP w7 cA hb;(first|rw[←bP.1]at cA|(simp only[Int.reduceToNat]at cA;rw[←bP.1]at cA));have aL:=am (Kd.R_lower cA (C5 bz));replace HB:=bS hb;clear hb cA)|(go_at_call 216;(with_reducible refine(ih k (by omega) (wrap64 (a0 - 1)) cJ _ A5.1).mono ?_);rintro e w9 ⟨dQ,rfl,aN,hb⟩;have aM:=am (Kd.R_lower (Kd.R_new' aN (Kd.R_lt (rR aL))) (C5 bz));replace aL:=rE aL aN hb;replace HB:=bS hb;clear hb aN;obtain⟨dR,dS,rfl⟩:=Kd.R_slice aM.1)|(go_at_call 271;(with_reducible refine(J5.calls k (wrap64 (a0 - 1)) _ _ cJ aC _ ?side1 ?side2 A6.1).mono ?_);(case side1=>exact M8 (Kd.R_reads' aM.1).2.2);(case side2=>exact(Kd.R_reads' aM.1).2.1);rintro e fF ⟨dT,rfl,aN,hb⟩;have bV:=am (Kd.R_lower (Kd.R_new' (Kd.R_new' aN (Kd.R_lt (rR aL))) (Kd.R_lt (rR aM))) (C5 bz));replace aL:=rE aL aN hb;replace aM:=rE aM aN hb;replace HB:=bS hb;clear hb aN;obtain⟨cU,aF,rfl⟩:=Kd.R_slice bV.1));try go_wp2_with (first|((with_reducible refine gd 13 ?_);refine rl KI 3 ([]:List Int) [] (J7.none _ _) ?_;intro dP w7 cA hb;(first|rw[←bP.1]at cA|(simp only[Int.reduceToNat]at cA;rw[←bP.1]at cA));have aL:=am (Kd.R_lower cA (C5 bz));replace HB:=bS hb;clear hb cA)|(go_at_call 216;(with_reducible refine(ih k (by omega) (wrap64 (a0 - 1)) cJ _ A5.1).mono ?_);rintro e w9 ⟨dQ,rfl,aN,hb⟩;have aM:=am (Kd.R_lower (Kd.R_new' aN (Kd.R_lt (rR aL))) (C5 bz));replace aL:=rE aL aN hb;replace HB:=bS hb;clear hb aN;obtain⟨dR,dS,rfl⟩:=Kd.R_slice aM.1)|(go_at_call 271;(with_reducible refine(J5.calls k (wrap64 (a0 - 1)) _ _ cJ aC _ ?side1 ?side2 A6.1).mono ?_);(case side1=>exact M8 (Kd.R_reads' aM.1).2.2);(case side2=>exact(Kd.R_reads' aM.1).2.1);rintro e fF ⟨dT,rfl,aN,hb⟩;have bV:=am (Kd.R_lower (Kd.R_new' (Kd.R_new' aN (Kd.R_lt (rR aL))) (Kd.R_lt (rR aM))) (C5 bz));replace aL:=rE aL aN hb;replace aM:=rE aM aN hb;replace HB:=bS hb;clear hb aN;obtain⟨cU,aF,rfl⟩:=Kd.R_slice bV.1)))
 go_loopg [3,22] k (fun kq v3 v22 w'=>∃ (aI:List Int) (bF:Int),v22=.int .i64 bF∧Aside0 (G0.l0 kq a0 aI aC (aC.length:Int) bF=some r)∧Aside0 (kq≤k)∧Aside0 (Kd.R KI 3 w' w.heap.size (fun k_=>some k_≠((.slice cU aC.length aF):Value).ownBlock) v3 aI)∧Aside0 (Kd.R KI 3 w' w.heap.size (fun k_=>some k_≠(v3:Value).ownBlock) (.slice cU aC.length aF) aC)∧Aside0 (Below w.heap.size w w'))
 case atStart=>exact⟨(eW),(0),fz,H',lr,⟨rM aL (fun _ hk=>hk.2)⟩,⟨rM bV (fun _ hk=>hk.1.2)⟩,⟨bz⟩⟩
 case round =>
 obtain⟨aI,bF,rfl,⟨H⟩,eN,aD,aA,HB⟩:=hrel
 cases gk with
 |zero=>cases H
 |succ k1 =>
 simp only[G0.l0]at H
 revert H
 refine iD ?_ ?_<;>intro fG
 ·refine U9 fun fH=>U9 fun fI=>ib fun aO eO=>?_
  obtain⟨bJ,bQ⟩:=ey (([wrap64 (a0 - 1)]:List Int):List Int)
  intro H
  rw[←bQ.1]at H
  obtain⟨dC,bT⟩:=ey (([aO,bJ,aO]:List (List Int)):List (List Int))
  rw[←bT.1]at H
  revert H
  refine ib fun aE eP=>?_
  obtain⟨dD,bW⟩:=ex (mn (aE.length:Int) (aI.length:Int):Int)
  intro H
  first|rw[bW]at H|simp only[bW]at H
  (try rw[bW]at eO)
  (try rw[bW]at eP)
  have dE:(if(aI.length:Int)< (aE.length:Int)then(aI.length:Int)else(aE.length:Int))=dD:=bW
  have eQ:(if aI.length<aE.length then(aI.length:Int)else(aE.length:Int))=dD:=by rw[←dE];simp only[Int.ofNat_lt]
  revert H
  refine ia fun H'=>?_
  obtain⟨p431,q431,aB,rfl,eR⟩:=ai (Kd.R_reads' aA.1).2.2 bF
  go_wp2_with (first|(go_at_call 127;(with_reducible refine(F4.calls k1 (wrap64 (a0 - 1)) (rd aC bF) aO _ eO.1).mono ?_);rintro e fJ ⟨dU,rfl,aN,hb⟩;have aG:=am (Kd.R_lower (Kd.R_new' (Kd.R_new' aN (Kd.R_lt (rR aD))) (Kd.R_lt (rR aA))) (C5 bz));replace aD:=rE aD aN hb;replace aA:=rE aA aN hb;replace HB:=bS hb;clear hb aN)|((with_reducible refine gd 33 ?_);refine rl KI 3 ([wrap64 (a0 - 1)]:List Int) [.int .i64 (wrap64 (a0 - 1))] (J7.one (show Kd.M KI _ _ _ (wrap64 (a0 - 1)) [.int .i64 (wrap64 (a0 - 1))]from rfl) (J7.none _ _)) ?_;intro dV dW aR hb;(first|rw[←bQ.1]at aR|(simp only[Int.reduceToNat]at aR;rw[←bQ.1]at aR));have aU:=am (Kd.R_lower (Kd.R_new' (Kd.R_new' (Kd.R_new' aR (Kd.R_lt (rR aD))) (Kd.R_lt (rR aA))) (Kd.R_lt (rR aG))) (C5 bz));replace aD:=rE aD aR hb;replace aA:=rE aA aR hb;replace aG:=rE aG aR hb;replace HB:=bS hb;clear hb aR;obtain⟨bG,bH,rfl⟩:=Kd.R_slice aG.1;obtain⟨cB,cC,rfl⟩:=Kd.R_slice aU.1)|((with_reducible refine P8 (N:=35) rfl ?_);refine Kd.N_lit KS _ 22 ?hg (N':=35) ?hd (xs:=([aO,bJ,aO]:List (List Int))) (inner:=[.slice bG aO.length bH,.slice cB bJ.length cC,.slice bG aO.length bH]) (ok:=(fun k_=>some k_≠(u3:Value).ownBlock∧some k_≠(.slice (some aB) aC.length aF:Value).ownBlock)) (okp:=(fun k_=>some k_≠(u3:Value).ownBlock∧some k_≠(.slice (some aB) aC.length aF:Value).ownBlock)) ?hr ?hp (fun _ hk=>hk) ((show ∀k_,dW.heap.size≤k_→(fun k_=>some k_≠(u3:Value).ownBlock∧some k_≠(.slice (some aB) aC.length aF:Value).ownBlock) k_ from fun k_ hk=>⟨Kd.fresh' (Kd.R_lt (rR aD)) k_ hk,Kd.fresh' (Kd.R_lt (rR aA)) k_ hk⟩) _ (Nat.le_refl _)) (Below.refl _ _) (Nat.le_refl _) (by simp) ?_;(case hd=>rfl);(case hg=>rfl);(case hr=>first|(go_simp;done)|(go_simp;rfl));(case hp=>exact(J7.one (show Kd.FK KS _ _ aO [.slice bG aO.length bH]from(Kd.FK_slice_mk (Kd.R_reads' (Kd.R_mono (ok':=(fun k_=>some k_≠(u3:Value).ownBlock∧some k_≠(.slice (some aB) aC.length aF:Value).ownBlock)) (aG.1) (fun k_ hk=>⟨hk.1.1.2,hk.1.2⟩))).2.1 (Kd.R_F (Kd.R_mono (ok':=(fun k_=>some k_≠(u3:Value).ownBlock∧some k_≠(.slice (some aB) aC.length aF:Value).ownBlock)) (aG.1) (fun k_ hk=>⟨hk.1.1.2,hk.1.2⟩))))) (J7.one (show Kd.FK KS _ _ bJ [.slice cB bJ.length cC]from(Kd.FK_slice_mk (Kd.R_reads' (Kd.R_mono (ok':=(fun k_=>some k_≠(u3:Value).ownBlock∧some k_≠(.slice (some aB) aC.length aF:Value).ownBlock)) (aU.1) (fun k_ hk=>⟨hk.1.1.2,hk.1.2⟩))).2.1 (Kd.R_F (Kd.R_mono (ok':=(fun k_=>some k_≠(u3:Value).ownBlock∧some k_≠(.slice (some aB) aC.length aF:Value).ownBlock)) (aU.1) (fun k_ hk=>⟨hk.1.1.2,hk.1.2⟩))))) (J7.one (show Kd.FK KS _ _ aO [.slice bG aO.length bH]from(Kd.FK_slice_mk (Kd.R_reads' (Kd.R_mono (ok':=(fun k_=>some k_≠(u3:Value).ownBlock∧some k_≠(.slice (some aB) aC.length aF:Value).ownBlock)) (aG.1) (fun k_ hk=>⟨hk.1.1.2,hk.1.2⟩))).2.1 (Kd.R_F (Kd.R_mono (ok':=(fun k_=>some k_≠(u3:Value).ownBlock∧some k_≠(.slice (some aB) aC.length aF:Value).ownBlock)) (aG.1) (fun k_ hk=>⟨hk.1.1.2,hk.1.2⟩))))) (J7.none _ _)))));intro dX fK bA hb hg_ hnew_;clear hg_ hnew_;(first|rw[←bT.1]at bA|(simp only[Int.reduceToNat]at bA;rw[←bT.1]at bA));replace aD:=am (Kd.R_below (rR aD) hb);replace aA:=am (Kd.R_below (rR aA) hb);have aS:=am (Kd.N_lower bA (C5 bz));replace HB:=bS hb;clear aG aU;clear hb bA;obtain⟨dY,dZ,rfl⟩:=Kd.N_slice aS.1)|(go_at_call 212;(with_reducible refine(E1.calls _ _ dC aE _ ?side1 ?side2 eP.1).mono ?_);(case side1=>exact M8 (Kd.N_reads' aS.1).2.2);(case side2=>exact(Kd.N_reads' aS.1).2.1);rintro e fL ⟨eA,rfl,aN,hb⟩;replace aS:=am (Kd.N_elder' (rN aS) (Kd.R_base aN) hb);have bX:=am (Kd.R_lower (Kd.R_new' (Kd.R_new' aN (Kd.R_lt (rR aD))) (Kd.R_lt (rR aA))) (C5 bz));replace aD:=rE aD aN hb;replace aA:=rE aA aN hb;replace HB:=bS hb;clear hb aN;obtain⟨aP,aK,rfl⟩:=Kd.R_slice bX.1;obtain⟨bE,aZ,rfl⟩:=Kd.R_slice aD.1))
  repeat(go_quiet (first|(go_at_call 127;(with_reducible refine(F4.calls k1 (wrap64 (a0 - 1)) (rd aC bF) aO _ eO.1).mono ?_);rintro e fJ ⟨dU,rfl,aN,hb⟩;have aG:=am (Kd.R_lower (Kd.R_new' (Kd.R_new' aN (Kd.R_lt (rR aD))) (Kd.R_lt (rR aA))) (C5 bz));replace aD:=rE aD aN hb;replace aA:=rE aA aN hb;replace HB:=bS hb;clear hb aN)|((with_reducible refine gd 33 ?_);refine rl KI 3 ([wrap64 (a0 - 1)]:List Int) [.int .i64 (wrap64 (a0 - 1))] (J7.one (show Kd.M KI _ _ _ (wrap64 (a0 - 1)) [.int .i64 (wrap64 (a0 - 1))]from rfl) (J7.none _ _)) ?_;intro dV dW aR hb;(first|rw[←bQ.1]at aR|(simp only[Int.reduceToNat]at aR;rw[←bQ.1]at aR));have aU:=am (Kd.R_lower (Kd.R_new' (Kd.R_new' (Kd.R_new' aR (Kd.R_lt (rR aD))) (Kd.R_lt (rR aA))) (Kd.R_lt (rR aG))) (C5 bz));replace aD:=rE aD aR hb;replace aA:=rE aA aR hb;replace aG:=rE aG aR hb;replace HB:=bS hb;clear hb aR;obtain⟨bG,bH,rfl⟩:=Kd.R_slice aG.1;obtain⟨cB,cC,rfl⟩:=Kd.R_slice aU.1)|((with_reducible refine P8 (N:=35) rfl ?_);refine Kd.N_lit KS _ 22 ?hg (N':=35) ?hd (xs:=([aO,bJ,aO]:List (List Int))) (inner:=[.slice bG aO.length bH,.slice cB bJ.length cC,.slice bG aO.length bH]) (ok:=(fun k_=>some k_≠(u3:Value).ownBlock∧some k_≠(.slice (some aB) aC.length aF:Value).ownBlock)) (okp:=(fun k_=>some k_≠(u3:Value).ownBlock∧some k_≠(.slice (some aB) aC.length aF:Value).ownBlock)) ?hr ?hp (fun _ hk=>hk) ((show ∀k_,dW.heap.size≤k_→(fun k_=>some k_≠(u3:Value).ownBlock∧some k_≠(.slice (some aB) aC.length aF:Value).ownBlock) k_ from fun k_ hk=>⟨Kd.fresh' (Kd.R_lt (rR aD)) k_ hk,Kd.fresh' (Kd.R_lt (rR aA)) k_ hk⟩) _ (Nat.le_refl _)) (Below.refl _ _) (Nat.le_refl _) (by simp) ?_;(case hd=>rfl);(case hg=>rfl);(case hr=>first|(go_simp;done)|(go_simp;rfl));(case hp=>exact(J7.one (show Kd.FK KS _ _ aO [.slice bG aO.length bH]from(Kd.FK_slice_mk (Kd.R_reads' (Kd.R_mono (ok':=(fun k_=>some k_≠(u3:Value).ownBlock∧some k_≠(.slice (some aB) aC.length aF:Value).ownBlock)) (aG.1) (fun k_ hk=>⟨hk.1.1.2,hk.1.2⟩))).2.1 (Kd.R_F (Kd.R_mono (ok':=(fun k_=>some k_≠(u3:Value).ownBlock∧some k_≠(.slice (some aB) aC.length aF:Value).ownBlock)) (aG.1) (fun k_ hk=>⟨hk.1.1.2,hk.1.2⟩))))) (J7.one (show Kd.FK KS _ _ bJ [.slice cB bJ.length cC]from(Kd.FK_slice_mk (Kd.R_reads' (Kd.R_mono (ok':=(fun k_=>some k_≠(u3:Value).ownBlock∧some k_≠(.slice (some aB) aC.length aF:Value).ownBlock)) (aU.1) (fun k_ hk=>⟨hk.1.1.2,hk.1.2⟩))).2.1 (Kd.R_F (Kd.R_mono (ok':=(fun k_=>some k_≠(u3:Value).ownBlock∧some k_≠(.slice (some aB) aC.length aF:Value).ownBlock)) (aU.1) (fun k_ hk=>⟨hk.1.1.2,hk.1.2⟩))))) (J7.one (show Kd.FK KS _ _ aO [.slice bG aO.length bH]from(Kd.FK_slice_mk (Kd.R_reads' (Kd.R_mono (ok':=(fun k_=>some k_≠(u3:Value).ownBlock∧some k_≠(.slice (some aB) aC.length aF:Value).ownBlock)) (aG.1) (fun k_ hk=>⟨hk.1.1.2,hk.1.2⟩))).2.1 (Kd.R_F (Kd.R_mono (ok':=(fun k_=>some k_≠(u3:Value).ownBlock∧some k_≠(.slice (some aB) aC.length aF:Value).ownBlock)) (aG.1) (fun k_ hk=>⟨hk.1.1.2,hk.1.2⟩))))) (J7.none _ _)))));intro dX fK bA hb hg_ hnew_;clear hg_ hnew_;(first|rw[←bT.1]at bA|(simp only[Int.reduceToNat]at bA;rw[←bT.1]at bA));replace aD:=am (Kd.R_below (rR aD) hb);replace aA:=am (Kd.R_below (rR aA) hb);have aS:=am (Kd.N_lower bA (C5 bz));replace HB:=bS hb;clear aG aU;clear hb bA;obtain⟨dY,dZ,rfl⟩:=Kd.N_slice aS.1)|(go_at_call 212;(with_reducible refine(E1.calls _ _ dC aE _ ?side1 ?side2 eP.1).mono ?_);(case side1=>exact M8 (Kd.N_reads' aS.1).2.2);(case side2=>exact(Kd.N_reads' aS.1).2.1);rintro e fL ⟨eA,rfl,aN,hb⟩;replace aS:=am (Kd.N_elder' (rN aS) (Kd.R_base aN) hb);have bX:=am (Kd.R_lower (Kd.R_new' (Kd.R_new' aN (Kd.R_lt (rR aD))) (Kd.R_lt (rR aA))) (C5 bz));replace aD:=rE aD aN hb;replace aA:=rE aA aN hb;replace HB:=bS hb;clear hb aN;obtain⟨aP,aK,rfl⟩:=Kd.R_slice bX.1;obtain⟨bE,aZ,rfl⟩:=Kd.R_slice aD.1));try go_wp2_with (first|(go_at_call 127;(with_reducible refine(F4.calls k1 (wrap64 (a0 - 1)) (rd aC bF) aO _ eO.1).mono ?_);rintro e fJ ⟨dU,rfl,aN,hb⟩;have aG:=am (Kd.R_lower (Kd.R_new' (Kd.R_new' aN (Kd.R_lt (rR aD))) (Kd.R_lt (rR aA))) (C5 bz));replace aD:=rE aD aN hb;replace aA:=rE aA aN hb;replace HB:=bS hb;clear hb aN)|((with_reducible refine gd 33 ?_);refine rl KI 3 ([wrap64 (a0 - 1)]:List Int) [.int .i64 (wrap64 (a0 - 1))] (J7.one (show Kd.M KI _ _ _ (wrap64 (a0 - 1)) [.int .i64 (wrap64 (a0 - 1))]from rfl) (J7.none _ _)) ?_;intro dV dW aR hb;(first|rw[←bQ.1]at aR|(simp only[Int.reduceToNat]at aR;rw[←bQ.1]at aR));have aU:=am (Kd.R_lower (Kd.R_new' (Kd.R_new' (Kd.R_new' aR (Kd.R_lt (rR aD))) (Kd.R_lt (rR aA))) (Kd.R_lt (rR aG))) (C5 bz));replace aD:=rE aD aR hb;replace aA:=rE aA aR hb;replace aG:=rE aG aR hb;replace HB:=bS hb;clear hb aR;obtain⟨bG,bH,rfl⟩:=Kd.R_slice aG.1;obtain⟨cB,cC,rfl⟩:=Kd.R_slice aU.1)|((with_reducible refine P8 (N:=35) rfl ?_);refine Kd.N_lit KS _ 22 ?hg (N':=35) ?hd (xs:=([aO,bJ,aO]:List (List Int))) (inner:=[.slice bG aO.length bH,.slice cB bJ.length cC,.slice bG aO.length bH]) (ok:=(fun k_=>some k_≠(u3:Value).ownBlock∧some k_≠(.slice (some aB) aC.length aF:Value).ownBlock)) (okp:=(fun k_=>some k_≠(u3:Value).ownBlock∧some k_≠(.slice (some aB) aC.length aF:Value).ownBlock)) ?hr ?hp (fun _ hk=>hk) ((show ∀k_,dW.heap.size≤k_→(fun k_=>some k_≠(u3:Value).ownBlock∧some k_≠(.slice (some aB) aC.length aF:Value).ownBlock) k_ from fun k_ hk=>⟨Kd.fresh' (Kd.R_lt (rR aD)) k_ hk,Kd.fresh' (Kd.R_lt (rR aA)) k_ hk⟩) _ (Nat.le_refl _)) (Below.refl _ _) (Nat.le_refl _) (by simp) ?_;(case hd=>rfl);(case hg=>rfl);(case hr=>first|(go_simp;done)|(go_simp;rfl));(case hp=>exact(J7.one (show Kd.FK KS _ _ aO [.slice bG aO.length bH]from(Kd.FK_slice_mk (Kd.R_reads' (Kd.R_mono (ok':=(fun k_=>some k_≠(u3:Value).ownBlock∧some k_≠(.slice (some aB) aC.length aF:Value).ownBlock)) (aG.1) (fun k_ hk=>⟨hk.1.1.2,hk.1.2⟩))).2.1 (Kd.R_F (Kd.R_mono (ok':=(fun k_=>some k_≠(u3:Value).ownBlock∧some k_≠(.slice (some aB) aC.length aF:Value).ownBlock)) (aG.1) (fun k_ hk=>⟨hk.1.1.2,hk.1.2⟩))))) (J7.one (show Kd.FK KS _ _ bJ [.slice cB bJ.length cC]from(Kd.FK_slice_mk (Kd.R_reads' (Kd.R_mono (ok':=(fun k_=>some k_≠(u3:Value).ownBlock∧some k_≠(.slice (some aB) aC.length aF:Value).ownBlock)) (aU.1) (fun k_ hk=>⟨hk.1.1.2,hk.1.2⟩))).2.1 (Kd.R_F (Kd.R_mono (ok':=(fun k_=>some k_≠(u3:Value).ownBlock∧some k_≠(.slice (some aB) aC.length aF:Value).ownBlock)) (aU.1) (fun k_ hk=>⟨hk.1.1.2,hk.1.2⟩))))) (J7.one (show Kd.FK KS _ _ aO [.slice bG aO.length bH]from(Kd.FK_slice_mk (Kd.R_reads' (Kd.R_mono (ok':=(fun k_=>some k_≠(u3:Value).ownBlock∧some k_≠(.slice (some aB) aC.length aF:Value).ownBlock)) (aG.1) (fun k_ hk=>⟨hk.1.1.2,hk.1.2⟩))).2.1 (Kd.R_F (Kd.R_mono (ok':=(fun k_=>some k_≠(u3:Value).ownBlock∧some k_≠(.slice (some aB) aC.length aF:Value).ownBlock)) (aG.1) (fun k_ hk=>⟨hk.1.1.2,hk.1.2⟩))))) (J7.none _ _)))));intro dX fK bA hb hg_ hnew_;clear hg_ hnew_;(first|rw[←bT.1]at bA|(simp only[Int.reduceToNat]at bA;rw[←bT.1]at bA));replace aD:=am (Kd.R_below (rR aD) hb);replace aA:=am (Kd.R_below (rR aA) hb);have aS:=am (Kd.N_lower bA (C5 bz));replace HB:=bS hb;clear aG aU;clear hb bA;obtain⟨dY,dZ,rfl⟩:=Kd.N_slice aS.1)|(go_at_call 212;(with_reducible refine(E1.calls _ _ dC aE _ ?side1 ?side2 eP.1).mono ?_);(case side1=>exact M8 (Kd.N_reads' aS.1).2.2);(case side2=>exact(Kd.N_reads' aS.1).2.1);rintro e fL ⟨eA,rfl,aN,hb⟩;replace aS:=am (Kd.N_elder' (rN aS) (Kd.R_base aN) hb);have bX:=am (Kd.R_lower (Kd.R_new' (Kd.R_new' aN (Kd.R_lt (rR aD))) (Kd.R_lt (rR aA))) (C5 bz));replace aD:=rE aD aN hb;replace aA:=rE aA aN hb;replace HB:=bS hb;clear hb aN;obtain⟨aP,aK,rfl⟩:=Kd.R_slice bX.1;obtain⟨bE,aZ,rfl⟩:=Kd.R_slice aD.1)))
  go_loopg [9] k1 (fun kq v9 w'=>∃ (aH:Int),v9=.int .i64 aH∧Aside0 (G0.l1 kq a0 aI aE aH aC (aC.length:Int) bF=some r)∧Aside0 (kq≤k1)∧Aside0 (Kd.R KI 3 w' w.heap.size (fun k_=>some k_≠((.slice aP aE.length aK):Value).ownBlock∧some k_≠((.slice (some aB) aC.length aF):Value).ownBlock) (.slice bE aI.length aZ) aI)∧Aside0 (Kd.R KI 3 w' w.heap.size (fun k_=>some k_≠((.slice bE aI.length aZ):Value).ownBlock∧some k_≠((.slice (some aB) aC.length aF):Value).ownBlock) (.slice aP aE.length aK) aE)∧Aside0 (Kd.R KI 3 w' w.heap.size (fun k_=>some k_≠((.slice bE aI.length aZ):Value).ownBlock∧some k_≠((.slice aP aE.length aK):Value).ownBlock) (.slice (some aB) aC.length aF) aC)∧Aside0 (Below w.heap.size w w'))
  case atStart=>exact⟨(dD),(by first|rfl|(simp;done)|(simp only[←bW]<;> (first|rfl|simp))|(simp[*];done)),H',lr,⟨rM aD (fun _ hk=>(And.intro hk.2 hk.1.1.1))⟩,⟨rM bX (fun _ hk=>(And.intro hk.1.2 hk.2))⟩,⟨rM aA (fun _ hk=>(And.intro hk.1.1.1 hk.2))⟩,⟨bz⟩⟩
  case round =>
  obtain⟨aH,rfl,⟨H⟩,eS,aD,aV,aA,HB⟩:=hrel
  cases gk with
  |zero=>cases H
  |succ k2 =>
  simp only[G0.l1]at H
  revert H
  refine if' fun fM fN=>if' fun fO fP=>?_
  obtain⟨bI,cD⟩:=ey (aE.take (aH:Int).toNat:List Int)
  intro H
  rw[←cD.1]at H
  obtain⟨aW,cL⟩:=ex (wrap64 ((aI.length:Int) - aH):Int)
  first|rw[cL]at H|simp only[cL]at H
  have eX:(IntKind.i64.wrap ((aI.length:Int) - aH))=aW:=(P9 _).trans cL
  revert H
  refine if' fun fQ fR=>if' fun fS fT=>?_
  obtain⟨aX,cE⟩:=ey (aI.drop ((aW):Int).toNat:List Int)
  intro H
  rw[←cE.1]at H
  revert H
  refine ib fun t454 dN=>iB ?_ ?_<;>rintro rfl
  ·have fU:=eq_true (od:0≤aH)
   have fV:=eq_true (od:aH≤(aE.length:Int))
   refine iy fun aT bY=>il fun cM=>?_
   obtain⟨eY,cG⟩:=ey (aI++aT:List Int)
   intro H
   rw[←cG.1]at H
   revert H
   refine ia fun H'=>?_
   have eZ:(aH:Int)≤((aE.length:Int):Int):=od
   obtain⟨i040,cV,_,eB,_⟩:=info_parts J9
   have cH:aE.length≤aK:=(Kd.R_reads' aV.1).2.1
   have eC:Kd.F KI _ _ aP aE.length aE:=(Kd.V_at (base:=w.heap.size) (Kd.R_V aV.1)).2.2
   have dF:=AF9 (P:=prog) 22 3 .i64 underlying22 cV aP aE.length aK aH (od) eZ cH
   have dG:=Kd.F_take (m:=(aH:Int).toNat) eC (by omega)
   have dH:bI.length=(aH:Int).toNat:=(by rw[cD.1,List.length_take];omega)
   rw[←cD.1]at dG
   rw[←dH]at dF
   have aQ:=am (show Kd.V KI 3 _ w.heap.size _ (.slice aP bI.length aK) bI from Kd.V_mk (by omega) dG)
   have eD:=am (show bI.length≤aK from by omega)
   clear dG eC cH cV eB
   have KY40:=am dH
   clear dH
   replace eZ:=eq_true eZ
   have fA:((aW):Int)≤((aI.length:Int):Int):=od
   obtain⟨i041,cW,_,cX,_⟩:=info_parts J9
   have bM:aI.length≤aZ:=(Kd.R_reads' aD.1).2.1
   have eE:Kd.F KI _ _ bE aI.length aI:=(Kd.V_at (base:=w.heap.size) (Kd.R_V aD.1)).2.2
   have fB:(0:Int)≤((aW):Int):=od
   have dI:=AE0 (P:=prog) 22 3 .i64 underlying22 cW 1 cX bE aI.length aZ (aW) fB fA
   have cN:=Kd.F_cut (m:=((aW):Int).toNat) (c:=aZ) eE (by omega) bM
   obtain⟨A41,hA41⟩:∃A1,A1=(if aZ=((aW):Int).toNat then bE else(bE:Option Addr).map (·.add (((aW):Int).toNat*1))):=⟨_,rfl⟩
   obtain⟨c41,hc41⟩:∃c1,c1=aZ - ((aW):Int).toNat:=⟨_,rfl⟩
   have cO:aX.length=aI.length - ((aW):Int).toNat:=(by rw[cE.1,List.length_drop]<;>omega)
   rw[show(aI).drop ((aW):Int).toNat=aX from cE.1.symm]at cN
   replace cN:Kd.F KI _ _ A41 aX.length aX:=(by rw[hA41];exact cN)
   rw[←cO,←hA41,←hc41]at dI
   have aY:=am (show Kd.V KI 3 _ w.heap.size _ (.slice A41 aX.length c41) aX from Kd.V_mk (by rw[cO,hc41];exact Nat.sub_le_sub_right bM _) cN)
   have eF:=am (show aX.length≤c41 from by rw[cO,hc41];exact Nat.sub_le_sub_right bM _)
   clear cN eE bM cW cX hc41
   have KY41:=am cO
   have KA41:=am hA41
   clear cO hA41
   replace fA:=eq_true fA
   go_wp2_with (first|(go_at_call 71;(with_reducible refine qp (D7.calls k2 _ _ bI _ _ aX true _ (M8 (Kd.V_reads' aQ.1).2.2) ((Kd.V_reads' aQ.1).2.1) (M8 (Kd.V_reads' aY.1).2.2) ((Kd.V_reads' aY.1).2.1) dN.1) fun nd=>?_);(try exact dd');have cP:(aH:Int)≤((aE.length:Int):Int):=od;obtain⟨eG,bK,_,bL,_⟩:=info_parts J9;have aJ:aE.length≤aK:=(Kd.R_reads' aV.1).2.1;have cF:Kd.F KI _ _ aP aE.length aE:=(Kd.V_at (base:=w.heap.size) (Kd.R_V aV.1)).2.2;have cQ:(0:Int)≤(aH:Int):=od;have bU:=AE0 (P:=prog) 22 3 .i64 underlying22 bK 1 bL aP aE.length aK aH cQ cP;have bB:=Kd.F_cut (m:=(aH:Int).toNat) (c:=aK) cF (by omega) aJ;obtain⟨A42,hA42⟩:∃A1,A1=(if aK=(aH:Int).toNat then aP else(aP:Option Addr).map (·.add ((aH:Int).toNat*1))):=⟨_,rfl⟩;obtain⟨c42,hc42⟩:∃c1,c1=aK - (aH:Int).toNat:=⟨_,rfl⟩;have bC:aT.length=aE.length - (aH:Int).toNat:=(by rw[bY.1,List.length_drop]<;>omega);rw[show(aE).drop (aH:Int).toNat=aT from bY.1.symm]at bB;replace bB:Kd.F KI _ _ A42 aT.length aT:=(by rw[hA42];exact bB);rw[←bC,←hA42,←hc42]at bU;have bD:=am (show Kd.V KI 3 _ w.heap.size _ (.slice A42 aT.length c42) aT from Kd.V_mk (by rw[bC,hc42];exact Nat.sub_le_sub_right aJ _) bB);have cY:=am (show aT.length≤c42 from by rw[bC,hc42];exact Nat.sub_le_sub_right aJ _);clear bB cF aJ bK bL hc42;have eH:=am bC;have eI:=am hA42;clear bC hA42;replace cP:=eq_true cP)|((with_reducible refine gb 55 58 ?_);at_builtin;refine rq KI underlying22 J9 (.slice bE aI.length aZ) aI aT (fun k_=>some k_≠(.slice aP aE.length aK:Value).ownBlock∧some k_≠(.slice (some aB) aC.length aF:Value).ownBlock) (by repeat(first|exact(Kd.V_reads' bD.1).2.2|(with_reducible refine Kd.C_alloc ?_ _)|(with_reducible refine Kd.C_drewN ?_ _)|(with_reducible refine Kd.C_drew ?_))) (fun k_ hk=>⟨Kd.fresh' (Kd.R_lt (rR aV)) k_ hk,Kd.fresh' (Kd.R_lt (rR aA)) k_ hk⟩) (rR aD) bz (lm cM) ?_;intro eJ fW ho hb hg hat;rw[←cG.1]at ho;replace aV:=am (Kd.R_after (ok:=(fun k_=>some k_≠(.slice (some aB) aC.length aF:Value).ownBlock)) (rM aV (fun _ hk=>(And.intro hk.2 hk.1))) hg hat);replace aA:=am (Kd.R_after (ok:=(fun k_=>some k_≠(.slice aP aE.length aK:Value).ownBlock)) (rM aA (fun _ hk=>(And.intro hk.2 hk.1))) hg hat);replace aQ:=am (Kd.V_afterv (ok:=(fun k_=>some k_≠(.slice (some aB) aC.length aF:Value).ownBlock)) (by(with_reducible repeat(first|apply Kd.V_alloc|apply Kd.V_drewN|apply Kd.V_drew));exact Kd.V_mono aQ.1 (fun _ hk=>⟨hk.2,hk.1⟩)) hg hat);replace bD:=am (Kd.V_afterv (ok:=(fun k_=>some k_≠(.slice (some aB) aC.length aF:Value).ownBlock)) (by(with_reducible repeat(first|apply Kd.V_alloc|apply Kd.V_drewN|apply Kd.V_drew));exact Kd.V_mono bD.1 (fun _ hk=>⟨hk.2,hk.1⟩)) hg hat);replace HB:=am (hb);have cR:=am (ho);clear aD ho hb hg hat))
   repeat(go_quiet (first|(go_at_call 71;(with_reducible refine qp (D7.calls k2 _ _ bI _ _ aX true _ (M8 (Kd.V_reads' aQ.1).2.2) ((Kd.V_reads' aQ.1).2.1) (M8 (Kd.V_reads' aY.1).2.2) ((Kd.V_reads' aY.1).2.1) dN.1) fun nd=>?_);(try exact dd');have cP:(aH:Int)≤((aE.length:Int):Int):=od;obtain⟨eG,bK,_,bL,_⟩:=info_parts J9;have aJ:aE.length≤aK:=(Kd.R_reads' aV.1).2.1;have cF:Kd.F KI _ _ aP aE.length aE:=(Kd.V_at (base:=w.heap.size) (Kd.R_V aV.1)).2.2;have cQ:(0:Int)≤(aH:Int):=od;have bU:=AE0 (P:=prog) 22 3 .i64 underlying22 bK 1 bL aP aE.length aK aH cQ cP;have bB:=Kd.F_cut (m:=(aH:Int).toNat) (c:=aK) cF (by omega) aJ;obtain⟨A42,hA42⟩:∃A1,A1=(if aK=(aH:Int).toNat then aP else(aP:Option Addr).map (·.add ((aH:Int).toNat*1))):=⟨_,rfl⟩;obtain⟨c42,hc42⟩:∃c1,c1=aK - (aH:Int).toNat:=⟨_,rfl⟩;have bC:aT.length=aE.length - (aH:Int).toNat:=(by rw[bY.1,List.length_drop]<;>omega);rw[show(aE).drop (aH:Int).toNat=aT from bY.1.symm]at bB;replace bB:Kd.F KI _ _ A42 aT.length aT:=(by rw[hA42];exact bB);rw[←bC,←hA42,←hc42]at bU;have bD:=am (show Kd.V KI 3 _ w.heap.size _ (.slice A42 aT.length c42) aT from Kd.V_mk (by rw[bC,hc42];exact Nat.sub_le_sub_right aJ _) bB);have cY:=am (show aT.length≤c42 from by rw[bC,hc42];exact Nat.sub_le_sub_right aJ _);clear bB cF aJ bK bL hc42;have eH:=am bC;have eI:=am hA42;clear bC hA42;replace cP:=eq_true cP)|((with_reducible refine gb 55 58 ?_);at_builtin;refine rq KI underlying22 J9 (.slice bE aI.length aZ) aI aT (fun k_=>some k_≠(.slice aP aE.length aK:Value).ownBlock∧some k_≠(.slice (some aB) aC.length aF:Value).ownBlock) (by repeat(first|exact(Kd.V_reads' bD.1).2.2|(with_reducible refine Kd.C_alloc ?_ _)|(with_reducible refine Kd.C_drewN ?_ _)|(with_reducible refine Kd.C_drew ?_))) (fun k_ hk=>⟨Kd.fresh' (Kd.R_lt (rR aV)) k_ hk,Kd.fresh' (Kd.R_lt (rR aA)) k_ hk⟩) (rR aD) bz (lm cM) ?_;intro eJ fW ho hb hg hat;rw[←cG.1]at ho;replace aV:=am (Kd.R_after (ok:=(fun k_=>some k_≠(.slice (some aB) aC.length aF:Value).ownBlock)) (rM aV (fun _ hk=>(And.intro hk.2 hk.1))) hg hat);replace aA:=am (Kd.R_after (ok:=(fun k_=>some k_≠(.slice aP aE.length aK:Value).ownBlock)) (rM aA (fun _ hk=>(And.intro hk.2 hk.1))) hg hat);replace aQ:=am (Kd.V_afterv (ok:=(fun k_=>some k_≠(.slice (some aB) aC.length aF:Value).ownBlock)) (by(with_reducible repeat(first|apply Kd.V_alloc|apply Kd.V_drewN|apply Kd.V_drew));exact Kd.V_mono aQ.1 (fun _ hk=>⟨hk.2,hk.1⟩)) hg hat);replace bD:=am (Kd.V_afterv (ok:=(fun k_=>some k_≠(.slice (some aB) aC.length aF:Value).ownBlock)) (by(with_reducible repeat(first|apply Kd.V_alloc|apply Kd.V_drewN|apply Kd.V_drew));exact Kd.V_mono bD.1 (fun _ hk=>⟨hk.2,hk.1⟩)) hg hat);replace HB:=am (hb);have cR:=am (ho);clear aD ho hb hg hat));try go_wp2_with (first|(go_at_call 71;(with_reducible refine qp (D7.calls k2 _ _ bI _ _ aX true _ (M8 (Kd.V_reads' aQ.1).2.2) ((Kd.V_reads' aQ.1).2.1) (M8 (Kd.V_reads' aY.1).2.2) ((Kd.V_reads' aY.1).2.1) dN.1) fun nd=>?_);(try exact dd');have cP:(aH:Int)≤((aE.length:Int):Int):=od;obtain⟨eG,bK,_,bL,_⟩:=info_parts J9;have aJ:aE.length≤aK:=(Kd.R_reads' aV.1).2.1;have cF:Kd.F KI _ _ aP aE.length aE:=(Kd.V_at (base:=w.heap.size) (Kd.R_V aV.1)).2.2;have cQ:(0:Int)≤(aH:Int):=od;have bU:=AE0 (P:=prog) 22 3 .i64 underlying22 bK 1 bL aP aE.length aK aH cQ cP;have bB:=Kd.F_cut (m:=(aH:Int).toNat) (c:=aK) cF (by omega) aJ;obtain⟨A42,hA42⟩:∃A1,A1=(if aK=(aH:Int).toNat then aP else(aP:Option Addr).map (·.add ((aH:Int).toNat*1))):=⟨_,rfl⟩;obtain⟨c42,hc42⟩:∃c1,c1=aK - (aH:Int).toNat:=⟨_,rfl⟩;have bC:aT.length=aE.length - (aH:Int).toNat:=(by rw[bY.1,List.length_drop]<;>omega);rw[show(aE).drop (aH:Int).toNat=aT from bY.1.symm]at bB;replace bB:Kd.F KI _ _ A42 aT.length aT:=(by rw[hA42];exact bB);rw[←bC,←hA42,←hc42]at bU;have bD:=am (show Kd.V KI 3 _ w.heap.size _ (.slice A42 aT.length c42) aT from Kd.V_mk (by rw[bC,hc42];exact Nat.sub_le_sub_right aJ _) bB);have cY:=am (show aT.length≤c42 from by rw[bC,hc42];exact Nat.sub_le_sub_right aJ _);clear bB cF aJ bK bL hc42;have eH:=am bC;have eI:=am hA42;clear bC hA42;replace cP:=eq_true cP)|((with_reducible refine gb 55 58 ?_);at_builtin;refine rq KI underlying22 J9 (.slice bE aI.length aZ) aI aT (fun k_=>some k_≠(.slice aP aE.length aK:Value).ownBlock∧some k_≠(.slice (some aB) aC.length aF:Value).ownBlock) (by repeat(first|exact(Kd.V_reads' bD.1).2.2|(with_reducible refine Kd.C_alloc ?_ _)|(with_reducible refine Kd.C_drewN ?_ _)|(with_reducible refine Kd.C_drew ?_))) (fun k_ hk=>⟨Kd.fresh' (Kd.R_lt (rR aV)) k_ hk,Kd.fresh' (Kd.R_lt (rR aA)) k_ hk⟩) (rR aD) bz (lm cM) ?_;intro eJ fW ho hb hg hat;rw[←cG.1]at ho;replace aV:=am (Kd.R_after (ok:=(fun k_=>some k_≠(.slice (some aB) aC.length aF:Value).ownBlock)) (rM aV (fun _ hk=>(And.intro hk.2 hk.1))) hg hat);replace aA:=am (Kd.R_after (ok:=(fun k_=>some k_≠(.slice aP aE.length aK:Value).ownBlock)) (rM aA (fun _ hk=>(And.intro hk.2 hk.1))) hg hat);replace aQ:=am (Kd.V_afterv (ok:=(fun k_=>some k_≠(.slice (some aB) aC.length aF:Value).ownBlock)) (by(with_reducible repeat(first|apply Kd.V_alloc|apply Kd.V_drewN|apply Kd.V_drew));exact Kd.V_mono aQ.1 (fun _ hk=>⟨hk.2,hk.1⟩)) hg hat);replace bD:=am (Kd.V_afterv (ok:=(fun k_=>some k_≠(.slice (some aB) aC.length aF:Value).ownBlock)) (by(with_reducible repeat(first|apply Kd.V_alloc|apply Kd.V_drewN|apply Kd.V_drew));exact Kd.V_mono bD.1 (fun _ hk=>⟨hk.2,hk.1⟩)) hg hat);replace HB:=am (hb);have cR:=am (ho);clear aD ho hb hg hat)))
   go_roundg k2
   case measure=>exact lu eN eS
   case rel=>exact⟨(eY),(wrap64 (bF+1)),fz,H',lv eN eS,⟨rM cR (fun _ hk=>hk.2)⟩,⟨rM aA (fun _ hk=>hk.2)⟩,⟨bz⟩⟩
  refine ia fun H'=>?_
  have fC:(aH:Int)≤((aE.length:Int):Int):=od
  obtain⟨i044,cZ,_,eK,_⟩:=info_parts J9
  have cI:aE.length≤aK:=(Kd.R_reads' aV.1).2.1
  have eL:Kd.F KI _ _ aP aE.length aE:=(Kd.V_at (base:=w.heap.size) (Kd.R_V aV.1)).2.2
  have dJ:=AF9 (P:=prog) 22 3 .i64 underlying22 cZ aP aE.length aK aH (od) fC cI
  have dK:=Kd.F_take (m:=(aH:Int).toNat) eL (by omega)
  have dL:bI.length=(aH:Int).toNat:=(by rw[cD.1,List.length_take];omega)
  rw[←cD.1]at dK
  rw[←dL]at dJ
  have aQ:=am (show Kd.V KI 3 _ w.heap.size _ (.slice aP bI.length aK) bI from Kd.V_mk (by omega) dK)
  have eD:=am (show bI.length≤aK from by omega)
  clear dK eL cI cZ eK
  have KY44:=am dL
  clear dL
  replace fC:=eq_true fC
  have fD:((aW):Int)≤((aI.length:Int):Int):=od
  obtain⟨i045,dA,_,dB,_⟩:=info_parts J9
  have bN:aI.length≤aZ:=(Kd.R_reads' aD.1).2.1
  have eM:Kd.F KI _ _ bE aI.length aI:=(Kd.V_at (base:=w.heap.size) (Kd.R_V aD.1)).2.2
  have fE:(0:Int)≤((aW):Int):=od
  have dM:=AE0 (P:=prog) 22 3 .i64 underlying22 dA 1 dB bE aI.length aZ (aW) fE fD
  have cS:=Kd.F_cut (m:=((aW):Int).toNat) (c:=aZ) eM (by omega) bN
  obtain⟨A45,hA45⟩:∃A1,A1=(if aZ=((aW):Int).toNat then bE else(bE:Option Addr).map (·.add (((aW):Int).toNat*1))):=⟨_,rfl⟩
  obtain⟨c45,hc45⟩:∃c1,c1=aZ - ((aW):Int).toNat:=⟨_,rfl⟩
  have cT:aX.length=aI.length - ((aW):Int).toNat:=(by rw[cE.1,List.length_drop]<;>omega)
  rw[show(aI).drop ((aW):Int).toNat=aX from cE.1.symm]at cS
  replace cS:Kd.F KI _ _ A45 aX.length aX:=(by rw[hA45];exact cS)
  rw[←cT,←hA45,←hc45]at dM
  have aY:=am (show Kd.V KI 3 _ w.heap.size _ (.slice A45 aX.length c45) aX from Kd.V_mk (by rw[cT,hc45];exact Nat.sub_le_sub_right bN _) cS)
  have eF:=am (show aX.length≤c45 from by rw[cT,hc45];exact Nat.sub_le_sub_right bN _)
  clear cS eM bN dA dB hc45
  have KY45:=am cT
  have KA45:=am hA45
  clear cT hA45
  replace fD:=eq_true fD
  go_wp2_with (go_at_call 71;(with_reducible refine qp (D7.calls k2 _ _ bI _ _ aX false _ (M8 (Kd.V_reads' aQ.1).2.2) ((Kd.V_reads' aQ.1).2.1) (M8 (Kd.V_reads' aY.1).2.2) ((Kd.V_reads' aY.1).2.1) dN.1) fun nd=>?_);(try exact dd'))
  repeat(go_quiet (first|(go_at_call 71;(with_reducible refine qp (D7.calls k2 _ _ bI _ _ aX false _ (M8 (Kd.V_reads' aQ.1).2.2) ((Kd.V_reads' aQ.1).2.1) (M8 (Kd.V_reads' aY.1).2.2) ((Kd.V_reads' aY.1).2.1) dN.1) fun nd=>?_);(try exact dd')));try go_wp2_with (go_at_call 71;(with_reducible refine qp (D7.calls k2 _ _ bI _ _ aX false _ (M8 (Kd.V_reads' aQ.1).2.2) ((Kd.V_reads' aQ.1).2.1) (M8 (Kd.V_reads' aY.1).2.2) ((Kd.V_reads' aY.1).2.1) dN.1) fun nd=>?_);(try exact dd')))
  go_roundg k2
  case measure=>exact lu eN eS
  case rel=>exact⟨(wrap64 (aH - 1)),fz,H',lv eN eS,⟨rR aD⟩,⟨rR aV⟩,⟨rR aA⟩,⟨bz⟩⟩
 refine i1 ?_;rintro rfl
 go_wp2
 repeat(go_quiet (fail);try go_wp2)
 go_ret
 exact⟨_,fe,rM aD (fun _ hk=>trivial),bz⟩
def AA2.f (k:Nat)(a:Int):Option (List Int×Bool):=(Z4.f a).bind fun b=>(if b=true then((G0.f k a).bind fun c=>(some (c,true)))else(some (([]:List Int),false)))
theorem AA2.calls (k a0 r1 r2 w):AA2.f k a0=some (r1,r2)→
 Calls prog 145 #[.int .i64 a0] w (pT w KI 3 r1 r2):=by
 have HB:=bR w
 unfold AA2.f
 refine ib fun t463 A2=>iB ?_ ?_<;>rintro rfl
 ·refine ib fun aB A4=>i2 ?_;rintro rfl rfl
  go_in
  go_wp2_with (first|((with_reducible refine ga 215 ?_);refine gp func215 (Z4.calls a0 true _ A2.1) fun nd=>?_)|((with_reducible refine ga 216 ?_);refine gR func216 (G0.calls k a0 aB _ A4.1) bz ?_;clear HB;intro v465 w5 aA HB))
  go_ret2
  exact⟨_,fe,rR aA,bz⟩
 refine i2 ?_;rintro rfl rfl
 go_in
 go_wp2_with ((with_reducible refine ga 215 ?_);refine gp func215 (Z4.calls a0 false _ A2.1) fun nd=>?_)
 go_ret2
 exact⟨_,fe,nz,bz⟩
end Go.Proofs.YtpiogigidgejpaaGreatDoor.PFnExactStepLine
