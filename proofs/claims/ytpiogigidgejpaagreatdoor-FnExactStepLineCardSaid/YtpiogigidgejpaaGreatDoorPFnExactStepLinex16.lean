import Derived.Test.YtpiogigidgejpaaGreatDoorPFnExactStepLinex8
namespace Go.Proofs.YtpiogigidgejpaaGreatDoor.PFnExactStepLine
open Go.RowKit Go.Proofs.YtpiogigidgejpaaGreatDoorW.PrintWords Go.Proofs.YtpiogigidgejpaaGreatDoorW.PrintLast Go.Proofs.YtpiogigidgejpaaGreatDoorW.PrintMore Go.Proofs.YtpiogigidgejpaaGreatDoor.Sq Tryz
attribute [local go_sem] g8 g9 s8 q8 Y0 X9 b8 e6
set_option maxHeartbeats 8000000
set_option maxRecDepth 100000
set_option linter.unusedVariables false
set_option linter.unusedSimpArgs false
def E9.w (x:List Int)(b:ByteArray):Option (List Int×ByteArray):=(M5.f x).bind fun c=>some (c,b)
def E9.t (k:Nat)(x:List Int)(W:List ByteArray) (y z:List Int):Option (List Int×ByteArray):=(P4.f k x (o9 ByteArray.empty W 0) y z).bind fun t=>(if t.2.2=true then some (t.1,t.2.1)else E9.w x ⟨#[110,111]⟩)
def E9.l0 (kt:Nat)(x:List Int)(W:List ByteArray)(s:ByteArray):Nat→Nat→List Int→List Int→Option (List Int×ByteArray)
 |0,_,_,_=>none
 |k+1,p,y,z=>if p<s.size then(if bt s (p:Int)<128 then(if 0≤wrap64 ((p:Int)+1)then(if wrap64 ((p:Int)+1)< (W.length:Int)then(if bt s (p:Int)=108 then((P5.f k (o9 ByteArray.empty W (wrap64 ((p:Int)+1)))).bind fun t=>(if t.2=true then E9.l0 kt x W s k (p+1) y t.1 else E9.w x ⟨#[119,104,97,116]⟩))else((U1.f (o9 ByteArray.empty W (wrap64 ((p:Int)+1)))).bind fun t=>(if y.length<17592186044416 then(if t.2=true then E9.l0 kt x W s k (p+1) (y++ [t.1]) z else E9.w x ⟨#[119,104,97,116]⟩)else none)))else none)else none)else none)else E9.t kt x W y z
def E9.f (k:Nat)(x:List Int)(a:ByteArray):Option (List Int×ByteArray):=(W5.f a ⟨#[32]⟩).bind fun W=>(if 0<W.length then((G5.f k (o9 ByteArray.empty W 0)).bind fun t=>(if t.2=true then(if wrap64 ((W.length:Int) - 1)=(t.1.size:Int)then E9.l0 k x W t.1 k 0 ([]:List Int) ([]:List Int)else E9.w x ⟨#[119,104,97,116]⟩)else E9.w x ⟨#[119,104,97,116]⟩))else none)
theorem E9.R_iter {α:Type} {d:Kd α} {e:Nat} {w:World} {base:Nat} {ok:Nat→Prop} {v:Value} {xs:List α} {g p:Nat} {s:ByteArray} (h:d.R e w base ok v xs)(hk:w.heap[g]? =some (.stringIter s p))(p':Nat):d.R e (w.iterAt g s p') base ok v xs :=
 Kd.R_mono (Kd.R_move (Kd.R_bound h) (fun k hk'=>Lib.iterAt_other w g k s p' (fun e1=>by subst e1;obtain⟨_,_,_,_,_,cells,hc⟩:=hk';rw[hk]at hc;cases hc))) (fun _ h=>h.1)
theorem E9.R_far {α:Type} {d:Kd α} {e:Nat} {w:World} {base:Nat} {ok:Nat→Prop} {v:Value} {xs:List α} {g p:Nat} {s:ByteArray} (h:d.R e w base ok v xs)(hk:w.heap[g]? =some (.stringIter s p)):some g≠v.ownBlock:=fun e1=>by obtain⟨cells,hc⟩:=Kd.R_typed h g e1.symm;rw[hk]at hc;cases hc
theorem E9.calls (k:Nat)(A0:Option Addr)(c0:Nat)(l0:List Int)(a1:ByteArray)(r1:List Int)(r2:ByteArray)(w:World)(hr0:Kd.C KI w A0 l0.length l0)(hc0:l0.length≤c0)(h:E9.f k l0 a1=some (r1,r2))(hL_:Go.Proofs.YtpiogigidgejpaaGreatDoor.Laid.A w) :
 Calls prog 44 #[.slice A0 l0.length c0,.string a1] w fun e w'=>∃v0_:Value,e=.returned (.tuple #[v0_,.string r2])∧Kd.R KI 3 w' w.heap.size (fun _=>True) v0_ r1∧Below w.heap.size w w':=by
 have aA:=am hr0
 have HL_:=am hL_
 have HB:=bR w
 clear hr0 hL_
 have H:=h
 clear h
 unfold E9.f at H
 replace H:=bi H;obtain⟨W,A3,H⟩:=H
 replace H:=jt H;obtain⟨c1_,H⟩:=H
 replace H:=bi H;obtain⟨⟨s,t⟩,A4,H⟩:=H
 have q0:(0<W.length)=True:=eq_true c1_
 have q1:((0:Int)< (W.length:Int))=True:=eq_true (by omega)
 dsimp only at H
 replace H:=(jb H).symm;rcases H with⟨rfl,H⟩|⟨rfl,H⟩
 ·unfold E9.w at H
  replace H:=bi H;obtain⟨c,A5,H⟩:=H
  replace H:=s2 H;obtain⟨rfl,rfl⟩:=H
  go_in
  go_wp2_with (first|((with_reducible refine ga 57 ?_);refine gR func57 (W5.calls a1 ⟨#[32]⟩ W _ A3.1 lz) bz ?_;clear HB;intro v5 w5 HW HB;obtain⟨AW,cW,rfl⟩:=Kd.R_slice HW.1;obtain⟨ad,ead,aB⟩:=Kd.at_string (Kd.R_reads' HW.1).2.2 0 (by omega) (by omega);cases ead;rw[show((0:Int)).toNat=0 from rfl,Addr.add_zero']at aB)|((with_reducible refine ga 75 ?_);refine gp func75 (G5.calls k (o9 ByteArray.empty W 0) s false _ A4.1) fun nd=>?_)|((with_reducible refine ga 76 ?_);refine gR func76 (M5.calls A0 c0 l0 _ _ (M8 (Kd.C_below aA.1 HB.1)) hc0 A5.1) bz ?_;clear HB;intro v9 w9 HO HB))
  go_ret2
  exact⟨_,fe,rR HO,bz⟩
 replace H:=(jo H).symm;rcases H with⟨aC,H⟩|⟨aC,H⟩
 ·have aE:=bne_iff_ne.mpr aC
  clear aC
  unfold E9.w at H
  replace H:=bi H;obtain⟨c,A5,H⟩:=H
  replace H:=s2 H;obtain⟨rfl,rfl⟩:=H
  go_in
  go_wp2_with (first|((with_reducible refine ga 57 ?_);refine gR func57 (W5.calls a1 ⟨#[32]⟩ W _ A3.1 lz) bz ?_;clear HB;intro v5 w5 HW HB;obtain⟨AW,cW,rfl⟩:=Kd.R_slice HW.1;obtain⟨ad,ead,aB⟩:=Kd.at_string (Kd.R_reads' HW.1).2.2 0 (by omega) (by omega);cases ead;rw[show((0:Int)).toNat=0 from rfl,Addr.add_zero']at aB)|((with_reducible refine ga 75 ?_);refine gp func75 (G5.calls k (o9 ByteArray.empty W 0) s true _ A4.1) fun nd=>?_)|((with_reducible refine ga 76 ?_);refine gR func76 (M5.calls A0 c0 l0 _ _ (M8 (Kd.C_below aA.1 HB.1)) hc0 A5.1) bz ?_;clear HB;intro v9 w9 HO HB))
  go_ret2
  exact⟨_,fe,rR HO,bz⟩
 have aE:=bne_eq_false_iff_eq.mpr aC
 clear aC
 have H':=am H
 clear H
 go_in
 go_upto_region 7 with(first|((with_reducible refine ga 57 ?_);refine gR func57 (W5.calls a1 ⟨#[32]⟩ W _ A3.1 lz) bz ?_;clear HB;intro v5 w5 HW HB;obtain⟨AW,cW,rfl⟩:=Kd.R_slice HW.1;obtain⟨ad,ead,aB⟩:=Kd.at_string (Kd.R_reads' HW.1).2.2 0 (by omega) (by omega);cases ead;rw[show((0:Int)).toNat=0 from rfl,Addr.add_zero']at aB)|((with_reducible refine ga 75 ?_);refine gp func75 (G5.calls k (o9 ByteArray.empty W 0) s true _ A4.1) fun nd=>?_)|((with_reducible refine gd 39 ?_);refine rl KI 3 ([]:List Int) [] (J7.none _ _) ?_;intro v6 w6 ho hb;have HN:=am (Kd.R_lower ho (C5 bz));replace HW:=am (Kd.R_below (rR HW) hb);replace HB:=bS hb;clear hb ho;obtain⟨AN,cN,rfl⟩:=Kd.R_slice HN.1))
 obtain⟨w7,hw7⟩:∃w7,w7=w6.iter s 0:=⟨_,rfl⟩
 have HI:=am (by rw[hw7];exact World.iter_heap w6 s 0:w7.heap[w6.heap.size]? =some (.stringIter s 0))
 have HG:=am (C5 HB.1)
 replace HN:=am (by rw[hw7];exact Kd.R_alloc HN.1 _:Kd.R KI 3 w7 w.heap.size (fun _=>True) (.slice AN ([]:List Int).length cN) ([]:List Int))
 replace HW:=am (by rw[hw7];exact Kd.R_alloc HW.1 _:Kd.R Kd.string 9 w7 w.heap.size (fun _=>True) (.slice (some ad) W.length cW) W)
 replace HB:=am (by rw[hw7];exact HB.1.alloc HG.1 _:Below w.heap.size w w7)
 rw[←hw7]
 clear hw7 aB aE
 generalize w6.heap.size=g at HI HG ⊢
 go_loopg [9,10] k (fun kq v9 v10 w'=>∃ (p:Nat) (y z:List Int),Aside0 (E9.l0 k l0 W s kq p y z=some (r1,r2))∧Aside0 (kq≤k)∧Aside0 (w'.heap[g]? =some (.stringIter s p))∧Aside0 (Kd.R KI 3 w' w.heap.size (fun _=>True) v9 y)∧Aside0 (Kd.R KI 3 w' w.heap.size (fun k_=>True∧some k_≠(v9:Value).ownBlock) v10 z)∧Aside0 (Kd.R Kd.string 9 w' w.heap.size (fun _=>True) (.slice (some ad) W.length cW) W)∧Aside0 (Below w.heap.size w w'))
 case atStart=>exact⟨0,[],[],H',lr,HI,HN,⟨Kd.R_nil _ _ _ _ _⟩,HW,HB⟩
 case round =>
 clear H' HI HN HW HB
 obtain⟨p,y,z,⟨H⟩,aD,HI,HY,HZ,HW,HB⟩:=hrel
 cases gk with
 |zero=>cases H
 |succ k1 =>
 simp only[E9.l0]at H
 revert H;refine io ?_ ?_<;>intro cp H
 ·replace H:=jt H;obtain⟨ca,H⟩:=H
  obtain⟨j,hj⟩:=ex (wrap64 ((p:Int)+1):Int)
  simp only[hj]at H
  have hjw:IntKind.i64.wrap ((p:Int)+1)=j:=(P9 _).trans hj
  replace H:=jt H;obtain⟨c3,H⟩:=H
  replace H:=jt H;obtain⟨c4,H⟩:=H
  have eb:bt s (p:Int)=(((s[p]'cp).toNat:Nat):Int):=by unfold bt;exact dif_pos cp
  have ha:(s[p]'cp).toNat<128:=by rw[eb]at ca;omega
  have hnx:∀ty,(Instr.next (.pointer (some ⟨g,0,none⟩)) true ty).run prog wr=_:=fun ty=>Lib.run_next_ascii_at wr g s p ty HI.1 cp ha
  obtain⟨w2,hw2⟩:∃w2,w2=wr.iterAt g s (p+1):=⟨_,rfl⟩
  rw[←hw2,←eb]at hnx
  clear eb ha ca
  replace HY:=am (by rw[hw2];exact E9.R_iter HY.1 HI.1 _:Kd.R KI 3 w2 w.heap.size (fun _=>True) _ y)
  replace HZ:=am (by rw[hw2];exact E9.R_iter HZ.1 HI.1 _:Kd.R KI 3 w2 w.heap.size (_) _ z)
  replace HW:=am (by rw[hw2];exact E9.R_iter HW.1 HI.1 _:Kd.R Kd.string 9 w2 w.heap.size (fun _=>True) (.slice (some ad) W.length cW) W)
  replace HB:=am (by rw[hw2];exact Lib.below_iterAt HB.1 HG.1 s (p+1):Below w.heap.size w w2)
  replace HI:=am (by rw[hw2];exact Lib.iterAt_heap wr g s p (p+1) HI.1:w2.heap[g]? =some (.stringIter s (p+1)))
  obtain⟨ad2,e2,aF⟩:=Kd.at_string (Kd.R_reads' HW.1).2.2 _ c3 c4
  cases e2
  have q3:=eq_true c3
  have q4:=eq_true c4
  clear c3 c4 hw2
  revert H;refine io ?_ ?_<;>intro c5 H
  ·have c5b:=beq_iff_eq.mpr c5
   clear c5
   replace H:=bi H;obtain⟨⟨t1,t2⟩,A6,H⟩:=H
   dsimp only at H
   replace H:=(jb H).symm;rcases H with⟨rfl,H⟩|⟨rfl,H⟩
   ·unfold E9.w at H
    replace H:=bi H;obtain⟨c,A5,H⟩:=H
    replace H:=s2 H;obtain⟨rfl,rfl⟩:=H
    go_wp2_with (first|((with_reducible refine ga 23 ?_);refine gs func23 (P5.calls k1 _ t1 false _ A6.1 lz) ?_;rintro v3 w3 ⟨ho,hb⟩;have HX:=am (Kd.R_lower (Kd.R_new' ho (Kd.R_lt HY.1)) (C5 bz));replace HY:=am (Kd.R_below (rR HY) hb);replace HW:=am (Kd.R_below (rR HW) hb);replace HI:=am ((hb.block _ (lt_of_block HI.1)).trans HI.1);replace HB:=bS hb;clear hb ho;obtain⟨AX,cX,rfl⟩:=Kd.R_slice HX.1)|((with_reducible refine ga 76 ?_);refine gR func76 (M5.calls A0 c0 l0 _ _ (M8 (Kd.C_below aA.1 HB.1)) hc0 A5.1) bz ?_;clear HB;intro v9 w9 HO HB))
    go_ret2
    exact⟨_,fe,rR HO,bz⟩
   have H':=am H
   clear H
   go_wp2_with ((with_reducible refine ga 23 ?_);refine gs func23 (P5.calls k1 _ t1 true _ A6.1 lz) ?_;rintro v3 w3 ⟨ho,hb⟩;have HX:=am (Kd.R_lower (Kd.R_new' ho (Kd.R_lt HY.1)) (C5 bz));replace HY:=am (Kd.R_below (rR HY) hb);replace HW:=am (Kd.R_below (rR HW) hb);replace HI:=am ((hb.block _ (lt_of_block HI.1)).trans HI.1);replace HB:=bS hb;clear hb ho;obtain⟨AX,cX,rfl⟩:=Kd.R_slice HX.1)
   go_roundg k1
   case measure=>exact lm aD
   case rel=>exact⟨p+1,y,t1,H',la aD,am HI.1,⟨rR HY⟩,⟨rR HX⟩,⟨rR HW⟩,⟨bz⟩⟩
  have c5b:=beq_eq_false_iff_ne.mpr c5
  clear c5
  replace H:=bi H;obtain⟨⟨t1,t2⟩,A6,H⟩:=H
  replace H:=jt H;obtain⟨c7,H⟩:=H
  have LM:=am c7
  clear c7
  dsimp only at H
  replace H:=(jb H).symm;rcases H with⟨rfl,H⟩|⟨rfl,H⟩
  ·unfold E9.w at H
   replace H:=bi H;obtain⟨c,A5,H⟩:=H
   replace H:=s2 H;obtain⟨rfl,rfl⟩:=H
   go_wp2_with (first|((with_reducible refine ga 58 ?_);refine ge func58 (U1.calls _ t1 false _ A6.1 lz) ?_;rintro w3 hb;replace HY:=am (Kd.R_below (rR HY) hb);replace HZ:=am (Kd.R_below (rR HZ) hb);replace HW:=am (Kd.R_below (rR HW) hb);replace HI:=am ((hb.block _ (lt_of_block HI.1)).trans HI.1);replace HB:=bS hb;clear hb;obtain⟨AY,cY,rfl⟩:=Kd.R_slice HY.1)|((with_reducible refine gb 66 68 ?_);at_builtin;refine ra KI underlying22 J9 (.slice AY y.length cY) y t1 [.int .i64 t1] (fun _=>True) rfl (fun _ _=>trivial) (rR HY) bz (lm LM) ?_;intro v9 w9 ho hb hg hat;replace HW:=am (Kd.R_over' (rR HW) (Kd.R_typed (rR HY)) (by decide) hg);replace HZ:=am (Kd.R_after (rR HZ) hg hat);replace HI:=am ((hg.block g (lt_of_block (HI.1)) (E9.R_far (rR HY) HI.1)).trans HI.1);replace HB:=am hb;have HO:=am ho;clear HY ho hb hg hat)|((with_reducible refine ga 76 ?_);refine gR func76 (M5.calls A0 c0 l0 _ _ (M8 (Kd.C_below aA.1 HB.1)) hc0 A5.1) bz ?_;clear HB;intro v9 w9 HP HB))
   go_ret2
   exact⟨_,fe,rR HP,bz⟩
  have H':=am H
  clear H
  go_wp2_with (first|((with_reducible refine ga 58 ?_);refine ge func58 (U1.calls _ t1 true _ A6.1 lz) ?_;rintro w3 hb;replace HY:=am (Kd.R_below (rR HY) hb);replace HZ:=am (Kd.R_below (rR HZ) hb);replace HW:=am (Kd.R_below (rR HW) hb);replace HI:=am ((hb.block _ (lt_of_block HI.1)).trans HI.1);replace HB:=bS hb;clear hb;obtain⟨AY,cY,rfl⟩:=Kd.R_slice HY.1)|((with_reducible refine gb 66 68 ?_);at_builtin;refine ra KI underlying22 J9 (.slice AY y.length cY) y t1 [.int .i64 t1] (fun _=>True) rfl (fun _ _=>trivial) (rR HY) bz (lm LM) ?_;intro v9 w9 ho hb hg hat;replace HW:=am (Kd.R_over' (rR HW) (Kd.R_typed (rR HY)) (by decide) hg);replace HZ:=am (Kd.R_after (rR HZ) hg hat);replace HI:=am ((hg.block g (lt_of_block (HI.1)) (E9.R_far (rR HY) HI.1)).trans HI.1);replace HB:=am hb;have HO:=am ho;clear HY ho hb hg hat))
  go_roundg k1
  case measure=>exact lm aD
  case rel=>exact⟨p+1,y++ [t1],z,H',la aD,am HI.1,⟨rR HO⟩,⟨rR HZ⟩,⟨rR HW⟩,⟨bz⟩⟩
 have hnx:∀ty,(Instr.next (.pointer (some ⟨g,0,none⟩)) true ty).run prog wr=_:=fun ty=>Lib.run_next_end_at wr g s p ty HI.1 cp
 clear cp
 unfold E9.t at H
 replace H:=bi H;obtain⟨⟨t1,t2,t3⟩,A6,H⟩:=H
 dsimp only at H
 obtain⟨AY,cY,rfl⟩:=Kd.R_slice HY.1
 obtain⟨AZ,cZ,rfl⟩:=Kd.R_slice HZ.1
 obtain⟨ad2,e2,aF⟩:=Kd.at_string (Kd.R_reads' HW.1).2.2 0 (by omega) (by omega)
 cases e2
 rw[show((0:Int)).toNat=0 from rfl,Addr.add_zero']at aF
 replace H:=(jb H).symm;rcases H with⟨rfl,H⟩|⟨rfl,H⟩
 ·unfold E9.w at H
  replace H:=bi H;obtain⟨c,A5,H⟩:=H
  replace H:=s2 H;obtain⟨rfl,rfl⟩:=H
  go_wp2_with (first|((with_reducible refine ga 77 ?_);refine gR func77 (P4.calls k A0 c0 l0 (o9 ByteArray.empty W 0) AY cY y AZ cZ z t1 t2 false _ (M8 (Kd.C_below aA.1 HB.1)) hc0 (M8 (Kd.R_reads' HY.1).2.2) ((Kd.R_reads' HY.1).2.1) (M8 (Kd.R_reads' HZ.1).2.2) ((Kd.R_reads' HZ.1).2.1) A6.1 ((HL_.1.below HB.1).tab)) bz ?_;clear HB;intro v3 w3 HX HB)|((with_reducible refine ga 76 ?_);refine gR func76 (M5.calls A0 c0 l0 _ _ (M8 (Kd.C_below aA.1 HB.1)) hc0 A5.1) bz ?_;clear HB;intro v9 w9 HO HB))
  go_ret2
  exact⟨_,fe,rR HO,bz⟩
 replace H:=s2 H;obtain⟨rfl,rfl⟩:=H
 go_wp2_with ((with_reducible refine ga 77 ?_);refine gR func77 (P4.calls k A0 c0 l0 (o9 ByteArray.empty W 0) AY cY y AZ cZ z t1 t2 true _ (M8 (Kd.C_below aA.1 HB.1)) hc0 (M8 (Kd.R_reads' HY.1).2.2) ((Kd.R_reads' HY.1).2.1) (M8 (Kd.R_reads' HZ.1).2.2) ((Kd.R_reads' HZ.1).2.1) A6.1 ((HL_.1.below HB.1).tab)) bz ?_;clear HB;intro v3 w3 HX HB)
 go_ret2
 exact⟨_,fe,rR HX,bz⟩
end Go.Proofs.YtpiogigidgejpaaGreatDoor.PFnExactStepLine
