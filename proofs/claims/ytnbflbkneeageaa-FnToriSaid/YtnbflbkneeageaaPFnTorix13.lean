-- Written for this claim by a copy of the print that meets some functions by contracts of this session.
import Derived.Test.YtnbflbkneeageaaPFnTorix0
import Derived.Test.YtnbflbkneeageaaPFnTorix1
import Derived.Test.YtnbflbkneeageaaPFnTorix3
import Derived.Test.YtnbflbkneeageaaPFnTorix6
import Derived.Test.YtnbflbkneeageaaPFnTorix7
import Derived.Test.YtnbflbkneeageaaPFnTorix8
import Derived.Test.YtnbflbkneeageaaPFnTorix9
import Derived.Test.YtnbflbkneeageaaPFnTorix10
import Derived.Test.YtnbflbkneeageaaPFnTorix11
import Derived.Test.YtnbflbkneeageaaPFnTorix12
namespace Go.Proofs.Ytnbflbkneeageaa.PFnTori
open Go.RowKit Go.Proofs.YtnbflbkneeageaaW.PrintWords Go.Proofs.YtnbflbkneeageaaW.PrintLast Go.Proofs.YtnbflbkneeageaaW.PrintMore
attribute [local go_sem] max2_int min2_int max_two min_two max_three min_three max_four min_four   -- for this text's walks alone
set_option linter.unusedVariables false
set_option linter.unusedSimpArgs false

/-! ### laws_FnTori: function 3 (a walk of this session's own, on the ways to true) -/
def laws_FnTori.first (k : Nat) (n : Int) (t : List (List Int) × Bool) : Option Unit := if t.2 = true then ((impl_IsTorus.f k t.1).bind fun i => (if i = (true, true) ∧ (t.1.length : Int) = n then some () else none)) else some ()
def laws_FnTori.at_ (ys : List (List Int)) (i j : Int) : Int := (ys.getD i.toNat []).getD j.toNat 0
def laws_FnTori.cond (ys : List (List Int)) (w : List Int) (i j bi nj : Int) : Prop := (0 ≤ i ∧ i < (ys.length : Int)) ∧ (0 ≤ bi ∧ bi < (ys.length : Int)) ∧ (0 ≤ j ∧ j < ((ys.getD i.toNat []).length : Int) ∧ j < ((ys.getD bi.toNat []).length : Int)) ∧ (0 ≤ nj ∧ nj < ((ys.getD i.toNat []).length : Int) ∧ nj < ((ys.getD bi.toNat []).length : Int)) ∧ 3 < w.length ∧ laws_FnTori.at_ ys i j = w.getD 0 0 ∧ laws_FnTori.at_ ys i nj = w.getD 1 0 ∧ laws_FnTori.at_ ys bi j = w.getD 2 0 ∧ laws_FnTori.at_ ys bi nj = w.getD 3 0
instance (ys : List (List Int)) (w : List Int) (i j bi nj : Int) : Decidable (laws_FnTori.cond ys w i j bi nj) := by unfold laws_FnTori.cond; infer_instance
def laws_FnTori.third (k : Nat) (l1 : List Int) : Option Bool := (spec_DrawTorusPlace.f k l1).bind fun d => ((impl_TorusPlace.f k d.1 d.2).bind fun p => ((spec_TorusPlace.f k d.1 d.2).bind fun q => (if q = p then (if p.2.2 = true then (if laws_FnTori.cond d.1 d.2 p.1 p.2.1 (Int.tmod (wrap64 (p.1 + 1)) (d.1.length : Int)) (Int.tmod (wrap64 (p.2.1 + 1)) ((d.1.getD (Int.tmod (wrap64 (p.1 + 1)) (d.1.length : Int)).toNat []).length : Int)) then some true else none) else some true) else none)))
def laws_FnTori.second (k : Nat) (l1 : List Int) : Option Bool := (spec_DrawTurnTorus.f k l1).bind fun u => ((impl_TurnTorus.f k u.1 u.2.1 u.2.2).bind fun v => ((spec_TurnTorus.f k u.1 u.2.1 u.2.2).bind fun v' => (if v' = v then ((impl_IsTorus.f k u.1).bind fun i => ((spec_IsTorus.f k u.1).bind fun i' => (if i' = i then ((laws_uLists.f k v.1 v.1).bind fun e => (if e = true then (if v.2 = true then ((impl_IsTorus.f k v.1).bind fun j => (if j = (i.1, true) then laws_FnTori.third k l1 else none)) else laws_FnTori.third k l1) else none)) else none))) else none)))
def laws_FnTori.f (k : Nat) (l0 l1 : List Int) : Option Bool := (laws_big.f l0 l1).bind fun b => (if b = true then some true else ((spec_DrawFirstTorus.f l0).bind fun n => ((impl_FirstTorus.f k n).bind fun t => ((spec_FirstTorus.f k n).bind fun t' => (if t' = t then ((laws_uLists.f k t.1 t.1).bind fun e => (if e = true then ((laws_FnTori.first k n t).bind fun _ => laws_FnTori.second k l1) else none)) else none)))))
def laws_FnTori.One (W : World) (g : Nat) (v : Value) (ys : List (List Int)) : Prop := spec_l1Cur_torus.Box W g v ∧ Kd.V (Kd.slice 3 (Kd.int .i64)) 36 W 0 (fun _ => True) v ys
theorem laws_FnTori.One.below {W W' : World} {g : Nat} {v : Value} {ys : List (List Int)} (h : laws_FnTori.One W g v ys) (hb : Below W.heap.size W W') : laws_FnTori.One W' g v ys := ⟨blk_below h.1 hb, Kd.V_below h.2 hb⟩
theorem laws_FnTori.One.cell {W : World} {g : Nat} {v : Value} {ys : List (List Int)} (h : laws_FnTori.One W g v ys) : W.cell? ⟨g, 0, none⟩ = some v := (blk_cell h.1 0).trans rfl
theorem laws_FnTori.One.new {W W1 W2 : World} {g : Nat} {v u : Value} {ys : List (List Int)} (h : Kd.V (Kd.slice 3 (Kd.int .i64)) 36 W 0 (fun _ => True) v ys) (hb : Below W.heap.size W W2) (hx : spec_l1Cur_torus.Box W1 g u) (hw : W2 = W1.setCell ⟨g, 0, none⟩ v) : laws_FnTori.One W2 g v ys := by
  subst hw
  exact ⟨blk_put (cs := #[u]) hx 0 _ rfl, Kd.V_below h hb⟩
theorem laws_FnTori.vrow {W : World} {b : Nat} {ok : Nat → Prop} {v : Value} {ys : List (List Int)} (h : Kd.V (Kd.slice 3 (Kd.int .i64)) 36 W b ok v ys) : Kd.V (Kd.slice 3 (Kd.int .i64)) 36 W 0 (fun _ => True) v ys := Kd.V_mono (Kd.V_lower h (Nat.zero_le b)) (fun _ _ => trivial)
theorem laws_FnTori.num {W : World} {A : Option Addr} {n : Nat} {l : List Int} (h : Kd.C (Kd.int .i64) W A n l) (j : Int) (h0 : 0 ≤ j) (h1 : j < (n : Int)) : ∃ ad, A = some ad ∧ W.cell? (ad.add j.toNat) = some (.int .i64 (l.getD j.toNat 0)) := by
  obtain ⟨ad, c, e, _, hK, hc⟩ := Kd.C_get h (0 : Int) j h0 h1
  have hq := hc 0 (.int .i64 (l.getD j.toNat 0)) (by rw [show c = [.int .i64 (l.getD j.toNat 0)] from hK]; rfl)
  rw [show (Kd.int .i64).sz = 1 from rfl, Nat.mul_one, Nat.add_zero] at hq
  exact ⟨ad, e, hq⟩
theorem laws_FnTori.row {W : World} {A : Option Addr} {n : Nat} {ys : List (List Int)} (h : Kd.C (Kd.slice 3 (Kd.int .i64)) W A n ys) (i : Int) (h0 : 0 ≤ i) (h1 : i < (n : Int)) : ∃ ad B c, A = some ad ∧ W.cell? (ad.add i.toNat) = some (.slice B (ys.getD i.toNat []).length c) ∧ (ys.getD i.toNat []).length ≤ c ∧ Kd.C (Kd.int .i64) W B (ys.getD i.toNat []).length (ys.getD i.toNat []) := by
  obtain ⟨ad, c, e, _, hK, hc0⟩ := Kd.C_get h ([] : List Int) i h0 h1
  obtain ⟨B, c1, rfl, l0, g0⟩ := hK
  have hq := hc0 0 _ rfl
  rw [show ((Kd.slice 3 (Kd.int .i64))).sz = 1 from rfl, Nat.mul_one, Nat.add_zero] at hq
  exact ⟨ad, B, c1, e, hq, l0, g0⟩
set_option maxHeartbeats 64000000 in
set_option maxRecDepth 100000 in
theorem laws_FnTori.calls (k : Nat) (A0 : Option Addr) (c0 : Nat) (l0 : List Int) (A1 : Option Addr) (c1 : Nat) (l1 : List Int) (r : Bool) (w : World) (hr0 : Kd.C (Kd.int .u8) w A0 l0.length l0) (hc0 : l0.length ≤ c0) (hr1 : Kd.C (Kd.int .u8) w A1 l1.length l1) (hc1 : l1.length ≤ c1) (h : laws_FnTori.f k l0 l1 = some r) :
    Calls Try.prog 3 #[.slice A0 l0.length c0, .slice A1 l1.length c1] w fun e w' => e = .returned (.bool r) ∧ Below w.heap.size w w' := by
  have hu27 := Try.underlying27
  have HR0 := Aside0.mk hr0
  have HC0 := Aside0.mk hc0
  have HR1 := Aside0.mk hr1
  have HC1 := Aside0.mk hc1
  clear hr0 hc0 hr1 hc1
  have HB := Aside0.mk (Below.refl w.heap.size w)
  unfold laws_FnTori.f at h
  have H := h
  clear h
  replace H := Option.bind_eq_some_iff.mp H
  obtain ⟨b, h_, H⟩ := H
  have PB := Aside0.mk h_
  clear h_
  (try dsimp only at H)
  cases b with
  | true =>
    replace H := (if_pos rfl).symm.trans H
    obtain rfl := Option.some.inj H
    clear H
    go_enter Try.func3, Try.ntmps3
    go_wp2_with (first
    | ((with_reducible refine gate_callee (f := 4) rfl ?_); refine goesL_ (some 37) rfl rfl Try.func4 (by kernel_rfl) rfl #[.slice A0 l0.length c0, .slice A1 l1.length c1] rfl (by (try simp only [List.map_toArray, List.map_cons, List.map_nil]); first | done | rfl) ?_; (with_reducible refine (laws_big.calls _ _ l0 _ _ l1 true _ ?side1 ?side2 ?side3 ?side4 PB.out).mono ?_); (case side1 => exact Kd.C_below HR0.out HB.out); (case side2 => exact HC0.out); (case side3 => exact Kd.C_below HR1.out HB.out); (case side4 => exact HC1.out); rintro e w_1 ⟨rfl, hd⟩; refine ⟨_, rfl, ?_⟩; obtain ⟨nd_, hnd_⟩ := hd; have hb : Below w.heap.size w w_1 := (by rw [hnd_]; exact pw_below_drewN (Below.refl _ _) _); clear hnd_ nd_; have m0_ := Aside0.mk (below_step HB.out hb); clear HB; have HB := m0_; clear m0_; clear hb; skip))
    go_ret
    exact ⟨rfl, HB.out⟩
  | false =>
    replace H := (if_neg (by simp)).symm.trans H
    replace H := Option.bind_eq_some_iff.mp H
    obtain ⟨n, h_, H⟩ := H
    have P1 := Aside0.mk h_
    clear h_
    (try dsimp only at H)
    replace H := Option.bind_eq_some_iff.mp H
    obtain ⟨⟨t1, t2⟩, h_, H⟩ := H
    have P2 := Aside0.mk h_
    clear h_
    (try dsimp only at H)
    replace H := Option.bind_eq_some_iff.mp H
    obtain ⟨tt, h_, H⟩ := H
    (try dsimp only at H)
    by_cases z1 : ¬ (tt = (t1, t2))
    · rw [if_neg z1] at H; exact absurd H (by simp)
    replace z1 := Decidable.not_not.mp z1
    rw [if_pos z1] at H
    subst z1
    have P3 := Aside0.mk h_
    clear h_
    (try dsimp only at H)
    replace H := Option.bind_eq_some_iff.mp H
    obtain ⟨e1, h_, H⟩ := H
    (try dsimp only at H)
    by_cases z1 : ¬ (e1 = true)
    · rw [if_neg z1] at H; exact absurd H (by simp)
    replace z1 := Decidable.not_not.mp z1
    rw [if_pos z1] at H
    subst z1
    have P4 := Aside0.mk h_
    clear h_
    (try dsimp only at H)
    replace H := Option.bind_eq_some_iff.mp H
    obtain ⟨_, h_, H⟩ := H
    have P5 := Aside0.mk h_
    clear h_
    (try dsimp only at H)
    unfold laws_FnTori.first at P5
    unfold laws_FnTori.second at H
    have HL0 := Aside0.mk H
    clear H
    go_enter Try.func3, Try.ntmps3
    go_upto_if 61 with (first
      | ((with_reducible refine gate_callee (f := 4) rfl ?_); refine goesL_ (some 37) rfl rfl Try.func4 (by kernel_rfl) rfl #[.slice A0 l0.length c0, .slice A1 l1.length c1] rfl (by (try simp only [List.map_toArray, List.map_cons, List.map_nil]); first | done | rfl) ?_; (with_reducible refine (laws_big.calls _ _ l0 _ _ l1 false _ ?side1 ?side2 ?side3 ?side4 PB.out).mono ?_); (case side1 => exact Kd.C_below HR0.out HB.out); (case side2 => exact HC0.out); (case side3 => exact Kd.C_below HR1.out HB.out); (case side4 => exact HC1.out); rintro e w_1 ⟨rfl, hd⟩; refine ⟨_, rfl, ?_⟩; obtain ⟨nd_, hnd_⟩ := hd; have hb : Below w.heap.size w w_1 := (by rw [hnd_]; exact pw_below_drewN (Below.refl _ _) _); clear hnd_ nd_; have m0_ := Aside0.mk (below_step HB.out hb); clear HB; have HB := m0_; clear m0_; clear hb; skip)
      | ((with_reducible refine gate_callee (f := 5) rfl ?_); refine goesL_ (some 39) rfl rfl Try.func5 (by kernel_rfl) rfl #[.slice A0 l0.length c0] rfl (by (try simp only [List.map_toArray, List.map_cons, List.map_nil]); first | done | rfl) ?_; (with_reducible refine (spec_DrawFirstTorus.calls _ _ l0 n _ ?side1 ?side2 P1.out).mono ?_); (case side1 => exact Kd.C_below HR0.out HB.out); (case side2 => exact HC0.out); rintro e w_2 ⟨rfl, hb⟩; refine ⟨_, rfl, ?_⟩; have m0_ := Aside0.mk (below_step HB.out hb); clear HB; have HB := m0_; clear m0_; clear hb; skip)
      | ((with_reducible refine gate_callee (f := 6) rfl ?_); refine goesL_ (some 42) rfl rfl Try.func6 (by kernel_rfl) rfl #[.int .i64 n] rfl (by (try simp only [List.map_toArray, List.map_cons, List.map_nil]); first | done | rfl) ?_; (with_reducible refine (impl_FirstTorus.calls k n t1 t2 _ P2.out).mono ?_); rintro e w_3 ⟨v_t, rfl, ho, hb⟩; refine ⟨_, rfl, ?_⟩; have nr_ := Aside0.mk (laws_FnTori.vrow (Kd.S_V (base' := 0) ho)); clear ho; have m0_ := Aside0.mk (below_step HB.out hb); clear HB; have HB := m0_; clear m0_; clear hb; have RWt := nr_; clear nr_; obtain ⟨A_t, c_t, e_t⟩ := Kd.V_slice RWt.out; subst e_t; skip)
      | ((with_reducible refine gate_dst (N := 6) rfl ?_); refine box_event ?hg (N := 6) ?hd (cs := #[.slice none 0 0]) (t := 27) ?hr ?_; (case hd => rfl); (case hg => rfl); (case hr => first | (go_simp; done) | (go_simp; rfl)); intro g6 hg w_4 hbox hb; have SB := Aside0.mk hb; have BX := Aside0.mk (show spec_l1Cur_torus.Box w_4 g6 (.slice none 0 0) from hbox); have GE := Aside0.mk (show w_3.heap.size ≤ g6 by rw [hg]; exact Nat.le_refl _); clear hb hbox hg; have hcn : w_4.cell? ⟨g6, 0, none⟩ = some (.slice none 0 0) := (blk_cell BX.out 0).trans rfl; have hfn := blk_frozen BX.out 0)
      | ((with_reducible refine gate_store (t := 27) (p := 6) rfl ?_); refine store_event (t := 27) (p := 6) (v := ?vo6w_5) (w1 := (w_4.setCell ⟨g6, 0, none⟩ (.slice A_t t1.length c_t))) ?hg ?ho ?hn ?hr ?_; (case ho => rfl); (case hg => rfl); (case hn => rfl); (case hr => first | (go_simp; done) | (go_simp; rfl)); intro w_5 hw; have hb : Below w_3.heap.size w_3 w_5 := (by rw [hw]; exact below_set SB.out GE.out); have nn_ := Aside0.mk (laws_FnTori.One.new RWt.out hb BX.out hw); clear RWt SB BX GE hw hcn hfn; have m0_ := Aside0.mk (below_step HB.out hb); clear HB; have HB := m0_; clear m0_; clear hb; have O6 := nn_; clear nn_; have hc6 := O6.out.cell; skip)
      | ((with_reducible refine gate_callee (f := 7) rfl ?_); refine goesL_ (some 47) rfl rfl Try.func7 (by kernel_rfl) rfl #[.int .i64 n] rfl (by (try simp only [List.map_toArray, List.map_cons, List.map_nil]); first | done | rfl) ?_; (with_reducible refine (spec_FirstTorus.calls k n t1 t2 _ P3.out).mono ?_); rintro e w_6 ⟨v_x, rfl, ho, hb⟩; refine ⟨_, rfl, ?_⟩; have nr_ := Aside0.mk (laws_FnTori.vrow (Kd.N_V (base' := 0) ho)); clear ho; have m0_ := Aside0.mk (below_step HB.out hb); have m1_ := Aside0.mk (O6.out.below hb); (try clear hc6); clear HB O6; have HB := m0_; clear m0_; have O6 := m1_; clear m1_; clear hb; have RWx := nr_; clear nr_; obtain ⟨A_x, c_x, e_x⟩ := Kd.V_slice RWx.out; subst e_x; have hc6 := O6.out.cell; skip)
      | ((with_reducible refine gate_dst (N := 8) rfl ?_); refine box_event ?hg (N := 8) ?hd (cs := #[.slice none 0 0]) (t := 27) ?hr ?_; (case hd => rfl); (case hg => rfl); (case hr => first | (go_simp; done) | (go_simp; rfl)); intro g8 hg w_7 hbox hb; have SB := Aside0.mk hb; have BX := Aside0.mk (show spec_l1Cur_torus.Box w_7 g8 (.slice none 0 0) from hbox); have GE := Aside0.mk (show w_6.heap.size ≤ g8 by rw [hg]; exact Nat.le_refl _); clear hb hbox hg; (try clear hc6); have hcn : w_7.cell? ⟨g8, 0, none⟩ = some (.slice none 0 0) := (blk_cell BX.out 0).trans rfl; have hfn := blk_frozen BX.out 0)
      | ((with_reducible refine gate_store (t := 27) (p := 8) rfl ?_); refine store_event (t := 27) (p := 8) (v := ?vo8w_8) (w1 := (w_7.setCell ⟨g8, 0, none⟩ (.slice A_x t1.length c_x))) ?hg ?ho ?hn ?hr ?_; (case ho => rfl); (case hg => rfl); (case hn => rfl); (case hr => first | (go_simp; done) | (go_simp; rfl)); intro w_8 hw; have hb : Below w_6.heap.size w_6 w_8 := (by rw [hw]; exact below_set SB.out GE.out); have nn_ := Aside0.mk (laws_FnTori.One.new RWx.out hb BX.out hw); clear RWx SB BX GE hw hcn hfn; have m0_ := Aside0.mk (below_step HB.out hb); have m1_ := Aside0.mk (O6.out.below hb); (try clear hc6); clear HB O6; have HB := m0_; clear m0_; have O6 := m1_; clear m1_; clear hb; have O8 := nn_; clear nn_; have hc6 := O6.out.cell; have hc8 := O8.out.cell; skip)
      | ((with_reducible refine gate_callee (f := 8) rfl ?_); refine gate_guard (by rfl) ?_; refine goesL_ (some 58) rfl rfl Try.func8 (by kernel_rfl) rfl #[.slice A_t t1.length c_t, .slice A_x t1.length c_x] rfl (by (try simp only [List.map_toArray, List.map_cons, List.map_nil]); first | done | rfl) ?_; (with_reducible refine (laws_uLists.calls k _ _ t1 _ _ t1 true _ ?side1 ?side2 ?side3 ?side4 P4.out).mono ?_); (case side1 => exact (Kd.V_reads' O6.out.2).2.2); (case side2 => exact (Kd.V_reads' O6.out.2).2.1); (case side3 => exact (Kd.V_reads' O8.out.2).2.2); (case side4 => exact (Kd.V_reads' O8.out.2).2.1); rintro e w_9 ⟨rfl, hd⟩; refine ⟨_, rfl, ?_⟩; obtain ⟨nd_, hnd_⟩ := hd; have hb : Below w_8.heap.size w_8 w_9 := (by rw [hnd_]; exact pw_below_drewN (Below.refl _ _) _); clear hnd_ nd_; have m0_ := Aside0.mk (below_step HB.out hb); have m1_ := Aside0.mk (O6.out.below hb); have m2_ := Aside0.mk (O8.out.below hb); (try clear hc6); (try clear hc8); clear HB O6 O8; have HB := m0_; clear m0_; have O6 := m1_; clear m1_; have O8 := m2_; clear m2_; clear hb; have hc6 := O6.out.cell; have hc8 := O8.out.cell; (try clear hc8); clear O8; skip))
    (try simp only [Act.put, List.setIfInBounds_toArray, List.set_cons_zero, List.set_cons_succ])
    go_cut [] from 5 (fun wc => Aside0 (Below w.heap.size w wc))
    case first =>
      as_aux_lemma =>
        have P50 := P5.out
        clear P5
        cases t2 with
        | true =>
          replace P50 := (if_pos rfl).symm.trans P50
          obtain ⟨ii1, P5a, P50⟩ := Option.bind_eq_some_iff.mp P50
          by_cases z1 : ¬ (ii1 = (true, true) ∧ (t1.length : Int) = n)
          · rw [if_neg z1] at P50; exact absurd P50 (by simp)
          replace z1 := Decidable.not_not.mp z1
          clear P50
          obtain ⟨rfl, hn_⟩ := z1
          have P5 := Aside0.mk P5a
          clear P5a
          have hnb : ((t1.length : Int) != n) = false := by rw [hn_]; simp
          clear hn_
          go_wp2_with (first
      | ((with_reducible refine gate_callee (f := 9) rfl ?_); refine goesL_ (some 64) rfl rfl Try.func9 (by kernel_rfl) rfl #[.agg #[.slice A_t t1.length c_t]] rfl (by (try simp only [List.map_toArray, List.map_cons, List.map_nil]); first | done | rfl) ?_; (with_reducible refine (impl_IsTorus.calls k _ _ t1 true true _ ?side1 ?side2 P5.out).mono ?_); (case side1 => exact (Kd.V_reads' O6.out.2).2.2); (case side2 => exact (Kd.V_reads' O6.out.2).2.1); rintro e w_10 ⟨rfl, hb⟩; refine ⟨_, rfl, ?_⟩; have m0_ := Aside0.mk (below_step HB.out hb); have m1_ := Aside0.mk (O6.out.below hb); (try clear hc6); clear HB O6; have HB := m0_; clear m0_; have O6 := m1_; clear m1_; clear hb; have hc6 := O6.out.cell; skip))
          go_meet
          case rel => exact HB
        | false =>
          go_wp2
          go_meet
          case rel => exact HB
    case rest =>
      as_aux_lemma =>
        (try clear hc6)
        (try clear O6)
        (try clear P2 P3 P4 P5)
        (try clear HB)
        have HB := hcut
        clear hcut
        have H := HL0.out
        clear HL0
        replace H := Option.bind_eq_some_iff.mp H
        obtain ⟨⟨u1, dn, sd⟩, h_, H⟩ := H
        have Q1 := Aside0.mk h_
        clear h_
        (try dsimp only at H)
        replace H := Option.bind_eq_some_iff.mp H
        obtain ⟨⟨v1, v2⟩, h_, H⟩ := H
        have Q2 := Aside0.mk h_
        clear h_
        (try dsimp only at H)
        replace H := Option.bind_eq_some_iff.mp H
        obtain ⟨vv, h_, H⟩ := H
        (try dsimp only at H)
        by_cases z1 : ¬ (vv = (v1, v2))
        · rw [if_neg z1] at H; exact absurd H (by simp)
        replace z1 := Decidable.not_not.mp z1
        rw [if_pos z1] at H
        subst z1
        have Q3 := Aside0.mk h_
        clear h_
        (try dsimp only at H)
        replace H := Option.bind_eq_some_iff.mp H
        obtain ⟨⟨i1, i2⟩, h_, H⟩ := H
        have Q4 := Aside0.mk h_
        clear h_
        (try dsimp only at H)
        replace H := Option.bind_eq_some_iff.mp H
        obtain ⟨ii, h_, H⟩ := H
        (try dsimp only at H)
        by_cases z1 : ¬ (ii = (i1, i2))
        · rw [if_neg z1] at H; exact absurd H (by simp)
        replace z1 := Decidable.not_not.mp z1
        rw [if_pos z1] at H
        subst z1
        have Q5 := Aside0.mk h_
        clear h_
        (try dsimp only at H)
        replace H := Option.bind_eq_some_iff.mp H
        obtain ⟨e1, h_, H⟩ := H
        (try dsimp only at H)
        by_cases z1 : ¬ (e1 = true)
        · rw [if_neg z1] at H; exact absurd H (by simp)
        replace z1 := Decidable.not_not.mp z1
        rw [if_pos z1] at H
        subst z1
        have Q6 := Aside0.mk h_
        clear h_
        (try dsimp only at H)
        have H2 : (if v2 = true then ((impl_IsTorus.f k v1).bind fun j => (if j = (i1, true) then some () else none)) else some ()) = some () ∧ laws_FnTori.third k l1 = some r := by
          cases v2 with
          | true =>
            replace H := (if_pos rfl).symm.trans H
            obtain ⟨j, hj, H⟩ := Option.bind_eq_some_iff.mp H
            by_cases z1 : j = (i1, true)
            · rw [if_pos z1] at H; exact ⟨(if_pos rfl).trans (Option.bind_eq_some_iff.mpr ⟨j, hj, if_pos z1⟩), H⟩
            · rw [if_neg z1] at H; exact absurd H (by simp)
          | false => exact ⟨if_neg (by simp), (if_neg (by simp)).symm.trans H⟩
        clear H
        obtain ⟨Q70, H⟩ := H2
        have Q7 := Aside0.mk Q70
        clear Q70
        unfold laws_FnTori.third at H
        have HL0 := Aside0.mk H
        clear H
        go_upto_if 131 with (first
      | ((with_reducible refine gate_callee (f := 10) rfl ?_); refine goesL_ (some 82) rfl rfl Try.func10 (by kernel_rfl) rfl #[.slice A1 l1.length c1] rfl (by (try simp only [List.map_toArray, List.map_cons, List.map_nil]); first | done | rfl) ?_; (with_reducible refine (spec_DrawTurnTorus.calls k _ _ l1 u1 dn sd _ ?side1 ?side2 Q1.out).mono ?_); (case side1 => exact Kd.C_below HR1.out HB.out); (case side2 => exact HC1.out); rintro e w_1 ⟨v_u, rfl, ho, hb⟩; refine ⟨_, rfl, ?_⟩; have nr_ := Aside0.mk (laws_FnTori.vrow (ho)); clear ho; have m0_ := Aside0.mk (below_step HB.out hb); clear HB; have HB := m0_; clear m0_; clear hb; have RWu := nr_; clear nr_; obtain ⟨A_u, c_u, e_u⟩ := Kd.V_slice RWu.out; subst e_u; skip)
      | ((with_reducible refine gate_dst (N := 12) rfl ?_); refine box_event ?hg (N := 12) ?hd (cs := #[.slice none 0 0]) (t := 27) ?hr ?_; (case hd => rfl); (case hg => rfl); (case hr => first | (go_simp; done) | (go_simp; rfl)); intro g12 hg w_2 hbox hb; have SB := Aside0.mk hb; have BX := Aside0.mk (show spec_l1Cur_torus.Box w_2 g12 (.slice none 0 0) from hbox); have GE := Aside0.mk (show w_1.heap.size ≤ g12 by rw [hg]; exact Nat.le_refl _); clear hb hbox hg; have hcn : w_2.cell? ⟨g12, 0, none⟩ = some (.slice none 0 0) := (blk_cell BX.out 0).trans rfl; have hfn := blk_frozen BX.out 0)
      | ((with_reducible refine gate_store (t := 27) (p := 12) rfl ?_); refine store_event (t := 27) (p := 12) (v := ?vo12w_3) (w1 := (w_2.setCell ⟨g12, 0, none⟩ (.slice A_u u1.length c_u))) ?hg ?ho ?hn ?hr ?_; (case ho => rfl); (case hg => rfl); (case hn => rfl); (case hr => first | (go_simp; done) | (go_simp; rfl)); intro w_3 hw; have hb : Below w_1.heap.size w_1 w_3 := (by rw [hw]; exact below_set SB.out GE.out); have nn_ := Aside0.mk (laws_FnTori.One.new RWu.out hb BX.out hw); clear RWu SB BX GE hw hcn hfn; have m0_ := Aside0.mk (below_step HB.out hb); clear HB; have HB := m0_; clear m0_; clear hb; have O12 := nn_; clear nn_; have hc12 := O12.out.cell; skip)
      | ((with_reducible refine gate_callee (f := 11) rfl ?_); refine goesL_ (some 90) rfl rfl Try.func11 (by kernel_rfl) rfl #[.agg #[.slice A_u u1.length c_u], .int .i64 dn, .int .i64 sd] rfl (by (try simp only [List.map_toArray, List.map_cons, List.map_nil]); first | done | rfl) ?_; (with_reducible refine (impl_TurnTorus.calls k _ _ u1 dn sd v1 v2 _ ?side1 ?side2 Q2.out).mono ?_); (case side1 => exact (Kd.V_reads' O12.out.2).2.2); (case side2 => exact (Kd.V_reads' O12.out.2).2.1); rintro e w_4 ⟨v_v, rfl, ho, hb⟩; refine ⟨_, rfl, ?_⟩; have nr_ := Aside0.mk (laws_FnTori.vrow (Kd.S_V (base' := 0) ho)); clear ho; have m0_ := Aside0.mk (below_step HB.out hb); have m1_ := Aside0.mk (O12.out.below hb); (try clear hc12); clear HB O12; have HB := m0_; clear m0_; have O12 := m1_; clear m1_; clear hb; have RWv := nr_; clear nr_; obtain ⟨A_v, c_v, e_v⟩ := Kd.V_slice RWv.out; subst e_v; have hc12 := O12.out.cell; skip)
      | ((with_reducible refine gate_dst (N := 15) rfl ?_); refine box_event ?hg (N := 15) ?hd (cs := #[.slice none 0 0]) (t := 27) ?hr ?_; (case hd => rfl); (case hg => rfl); (case hr => first | (go_simp; done) | (go_simp; rfl)); intro g15 hg w_5 hbox hb; have SB := Aside0.mk hb; have BX := Aside0.mk (show spec_l1Cur_torus.Box w_5 g15 (.slice none 0 0) from hbox); have GE := Aside0.mk (show w_4.heap.size ≤ g15 by rw [hg]; exact Nat.le_refl _); clear hb hbox hg; (try clear hc12); have hcn : w_5.cell? ⟨g15, 0, none⟩ = some (.slice none 0 0) := (blk_cell BX.out 0).trans rfl; have hfn := blk_frozen BX.out 0)
      | ((with_reducible refine gate_store (t := 27) (p := 15) rfl ?_); refine store_event (t := 27) (p := 15) (v := ?vo15w_6) (w1 := (w_5.setCell ⟨g15, 0, none⟩ (.slice A_v v1.length c_v))) ?hg ?ho ?hn ?hr ?_; (case ho => rfl); (case hg => rfl); (case hn => rfl); (case hr => first | (go_simp; done) | (go_simp; rfl)); intro w_6 hw; have hb : Below w_4.heap.size w_4 w_6 := (by rw [hw]; exact below_set SB.out GE.out); have nn_ := Aside0.mk (laws_FnTori.One.new RWv.out hb BX.out hw); clear RWv SB BX GE hw hcn hfn; have m0_ := Aside0.mk (below_step HB.out hb); have m1_ := Aside0.mk (O12.out.below hb); (try clear hc12); clear HB O12; have HB := m0_; clear m0_; have O12 := m1_; clear m1_; clear hb; have O15 := nn_; clear nn_; have hc12 := O12.out.cell; have hc15 := O15.out.cell; skip)
      | ((with_reducible refine gate_callee (f := 12) rfl ?_); refine goesL_ (some 97) rfl rfl Try.func12 (by kernel_rfl) rfl #[.agg #[.slice A_u u1.length c_u], .int .i64 dn, .int .i64 sd] rfl (by (try simp only [List.map_toArray, List.map_cons, List.map_nil]); first | done | rfl) ?_; (with_reducible refine (spec_TurnTorus.calls k _ _ u1 dn sd v1 v2 _ ?side1 ?side2 Q3.out).mono ?_); (case side1 => exact (Kd.V_reads' O12.out.2).2.2); (case side2 => exact (Kd.V_reads' O12.out.2).2.1); rintro e w_7 ⟨v_y, rfl, ho, hb⟩; refine ⟨_, rfl, ?_⟩; have nr_ := Aside0.mk (laws_FnTori.vrow (Kd.S_V (base' := 0) ho)); clear ho; have m0_ := Aside0.mk (below_step HB.out hb); have m1_ := Aside0.mk (O12.out.below hb); have m2_ := Aside0.mk (O15.out.below hb); (try clear hc12); (try clear hc15); clear HB O12 O15; have HB := m0_; clear m0_; have O12 := m1_; clear m1_; have O15 := m2_; clear m2_; clear hb; have RWy := nr_; clear nr_; obtain ⟨A_y, c_y, e_y⟩ := Kd.V_slice RWy.out; subst e_y; have hc12 := O12.out.cell; have hc15 := O15.out.cell; skip)
      | ((with_reducible refine gate_dst (N := 17) rfl ?_); refine box_event ?hg (N := 17) ?hd (cs := #[.slice none 0 0]) (t := 27) ?hr ?_; (case hd => rfl); (case hg => rfl); (case hr => first | (go_simp; done) | (go_simp; rfl)); intro g17 hg w_8 hbox hb; have SB := Aside0.mk hb; have BX := Aside0.mk (show spec_l1Cur_torus.Box w_8 g17 (.slice none 0 0) from hbox); have GE := Aside0.mk (show w_7.heap.size ≤ g17 by rw [hg]; exact Nat.le_refl _); clear hb hbox hg; (try clear hc12); (try clear hc15); have hcn : w_8.cell? ⟨g17, 0, none⟩ = some (.slice none 0 0) := (blk_cell BX.out 0).trans rfl; have hfn := blk_frozen BX.out 0)
      | ((with_reducible refine gate_store (t := 27) (p := 17) rfl ?_); refine store_event (t := 27) (p := 17) (v := ?vo17w_9) (w1 := (w_8.setCell ⟨g17, 0, none⟩ (.slice A_y v1.length c_y))) ?hg ?ho ?hn ?hr ?_; (case ho => rfl); (case hg => rfl); (case hn => rfl); (case hr => first | (go_simp; done) | (go_simp; rfl)); intro w_9 hw; have hb : Below w_7.heap.size w_7 w_9 := (by rw [hw]; exact below_set SB.out GE.out); have nn_ := Aside0.mk (laws_FnTori.One.new RWy.out hb BX.out hw); clear RWy SB BX GE hw hcn hfn; have m0_ := Aside0.mk (below_step HB.out hb); have m1_ := Aside0.mk (O12.out.below hb); have m2_ := Aside0.mk (O15.out.below hb); (try clear hc12); (try clear hc15); clear HB O12 O15; have HB := m0_; clear m0_; have O12 := m1_; clear m1_; have O15 := m2_; clear m2_; clear hb; have O17 := nn_; clear nn_; have hc12 := O12.out.cell; have hc15 := O15.out.cell; have hc17 := O17.out.cell; skip)
      | ((with_reducible refine gate_callee (f := 9) rfl ?_); refine goesL_ (some 102) rfl rfl Try.func9 (by kernel_rfl) rfl #[.agg #[.slice A_u u1.length c_u]] rfl (by (try simp only [List.map_toArray, List.map_cons, List.map_nil]); first | done | rfl) ?_; (with_reducible refine (impl_IsTorus.calls k _ _ u1 i1 i2 _ ?side1 ?side2 Q4.out).mono ?_); (case side1 => exact (Kd.V_reads' O12.out.2).2.2); (case side2 => exact (Kd.V_reads' O12.out.2).2.1); rintro e w_10 ⟨rfl, hb⟩; refine ⟨_, rfl, ?_⟩; have m0_ := Aside0.mk (below_step HB.out hb); have m1_ := Aside0.mk (O12.out.below hb); have m2_ := Aside0.mk (O15.out.below hb); have m3_ := Aside0.mk (O17.out.below hb); (try clear hc12); (try clear hc15); (try clear hc17); clear HB O12 O15 O17; have HB := m0_; clear m0_; have O12 := m1_; clear m1_; have O15 := m2_; clear m2_; have O17 := m3_; clear m3_; clear hb; have hc12 := O12.out.cell; have hc15 := O15.out.cell; have hc17 := O17.out.cell; skip)
      | ((with_reducible refine gate_callee (f := 13) rfl ?_); refine goesL_ (some 107) rfl rfl Try.func13 (by kernel_rfl) rfl #[.agg #[.slice A_u u1.length c_u]] rfl (by (try simp only [List.map_toArray, List.map_cons, List.map_nil]); first | done | rfl) ?_; (with_reducible refine (spec_IsTorus.calls k _ _ u1 i1 i2 _ ?side1 ?side2 Q5.out).mono ?_); (case side1 => exact (Kd.V_reads' O12.out.2).2.2); (case side2 => exact (Kd.V_reads' O12.out.2).2.1); rintro e w_11 ⟨rfl, hb⟩; refine ⟨_, rfl, ?_⟩; have m0_ := Aside0.mk (below_step HB.out hb); have m1_ := Aside0.mk (O12.out.below hb); have m2_ := Aside0.mk (O15.out.below hb); have m3_ := Aside0.mk (O17.out.below hb); (try clear hc12); (try clear hc15); (try clear hc17); clear HB O12 O15 O17; have HB := m0_; clear m0_; have O12 := m1_; clear m1_; have O15 := m2_; clear m2_; have O17 := m3_; clear m3_; clear hb; have hc12 := O12.out.cell; have hc15 := O15.out.cell; have hc17 := O17.out.cell; skip)
      | ((with_reducible refine gate_callee (f := 8) rfl ?_); refine gate_guard (by rfl) ?_; refine goesL_ (some 118) rfl rfl Try.func8 (by kernel_rfl) rfl #[.slice A_v v1.length c_v, .slice A_y v1.length c_y] rfl (by (try simp only [List.map_toArray, List.map_cons, List.map_nil]); first | done | rfl) ?_; (with_reducible refine (laws_uLists.calls k _ _ v1 _ _ v1 true _ ?side1 ?side2 ?side3 ?side4 Q6.out).mono ?_); (case side1 => exact (Kd.V_reads' O15.out.2).2.2); (case side2 => exact (Kd.V_reads' O15.out.2).2.1); (case side3 => exact (Kd.V_reads' O17.out.2).2.2); (case side4 => exact (Kd.V_reads' O17.out.2).2.1); rintro e w_12 ⟨rfl, hd⟩; refine ⟨_, rfl, ?_⟩; obtain ⟨nd_, hnd_⟩ := hd; have hb : Below w_11.heap.size w_11 w_12 := (by rw [hnd_]; exact pw_below_drewN (Below.refl _ _) _); clear hnd_ nd_; have m0_ := Aside0.mk (below_step HB.out hb); have m1_ := Aside0.mk (O12.out.below hb); have m2_ := Aside0.mk (O15.out.below hb); have m3_ := Aside0.mk (O17.out.below hb); (try clear hc12); (try clear hc15); (try clear hc17); clear HB O12 O15 O17; have HB := m0_; clear m0_; have O12 := m1_; clear m1_; have O15 := m2_; clear m2_; have O17 := m3_; clear m3_; clear hb; have hc12 := O12.out.cell; have hc15 := O15.out.cell; have hc17 := O17.out.cell; (try clear hc12); clear O12; (try clear hc17); clear O17; skip))
        (try simp only [Act.put, List.setIfInBounds_toArray, List.set_cons_zero, List.set_cons_succ])
        go_cut [] from 5 (fun wd => Aside0 (Below w.heap.size w wd))
        case first =>
          as_aux_lemma =>
            have Q70 := Q7.out
            clear Q7
            cases v2 with
            | true =>
              replace Q70 := (if_pos rfl).symm.trans Q70
              obtain ⟨jj1, Q7a, Q70⟩ := Option.bind_eq_some_iff.mp Q70
              by_cases z1 : ¬ (jj1 = (i1, true))
              · rw [if_neg z1] at Q70; exact absurd Q70 (by simp)
              replace z1 := Decidable.not_not.mp z1
              clear Q70
              subst z1
              have Q7 := Aside0.mk Q7a
              clear Q7a
              go_wp2_with (first
      | ((with_reducible refine gate_callee (f := 9) rfl ?_); refine goesL_ (some 134) rfl rfl Try.func9 (by kernel_rfl) rfl #[.agg #[.slice A_v v1.length c_v]] rfl (by (try simp only [List.map_toArray, List.map_cons, List.map_nil]); first | done | rfl) ?_; (with_reducible refine (impl_IsTorus.calls k _ _ v1 i1 true _ ?side1 ?side2 Q7.out).mono ?_); (case side1 => exact (Kd.V_reads' O15.out.2).2.2); (case side2 => exact (Kd.V_reads' O15.out.2).2.1); rintro e w_13 ⟨rfl, hb⟩; refine ⟨_, rfl, ?_⟩; have m0_ := Aside0.mk (below_step HB.out hb); have m1_ := Aside0.mk (O15.out.below hb); (try clear hc15); clear HB O15; have HB := m0_; clear m0_; have O15 := m1_; clear m1_; clear hb; have hc15 := O15.out.cell; skip))
              go_meet
              case rel => exact HB
            | false =>
              go_wp2
              go_meet
              case rel => exact HB
        case rest =>
          as_aux_lemma =>
            (try clear hc15)
            (try clear O15)
            (try clear Q1 Q2 Q3 Q4 Q5 Q6 Q7)
            (try clear HB)
            have HB := hcut
            clear hcut
            have H := HL0.out
            clear HL0
            replace H := Option.bind_eq_some_iff.mp H
            obtain ⟨⟨d1, dw⟩, h_, H⟩ := H
            have R1 := Aside0.mk h_
            clear h_
            (try dsimp only at H)
            replace H := Option.bind_eq_some_iff.mp H
            obtain ⟨⟨p1, p2, p3⟩, h_, H⟩ := H
            have R2 := Aside0.mk h_
            clear h_
            (try dsimp only at H)
            replace H := Option.bind_eq_some_iff.mp H
            obtain ⟨pp, h_, H⟩ := H
            (try dsimp only at H)
            by_cases z1 : ¬ (pp = (p1, p2, p3))
            · rw [if_neg z1] at H; exact absurd H (by simp)
            replace z1 := Decidable.not_not.mp z1
            rw [if_pos z1] at H
            subst z1
            have R3 := Aside0.mk h_
            clear h_
            (try dsimp only at H)
            have HL0 := Aside0.mk H
            clear H
            go_upto_if 176 with (first
        | ((with_reducible refine gate_callee (f := 14) rfl ?_); refine goesL_ (some 146) rfl rfl Try.func14 (by kernel_rfl) rfl #[.slice A1 l1.length c1] rfl (by (try simp only [List.map_toArray, List.map_cons, List.map_nil]); first | done | rfl) ?_; (with_reducible refine (spec_DrawTorusPlace.calls k _ _ l1 d1 dw _ ?side1 ?side2 R1.out).mono ?_); (case side1 => exact Kd.C_below HR1.out HB.out); (case side2 => exact HC1.out); rintro e w_1 ⟨v_d, v_q, rfl, ho, ho2, hb⟩; refine ⟨_, rfl, ?_⟩; have nr_ := Aside0.mk (laws_FnTori.vrow ho); have np_ := Aside0.mk (Kd.V_mono (Kd.V_lower ho2 (Nat.zero_le _)) (fun _ _ => trivial) : Kd.V (Kd.int .i64) 3 w_1 0 (fun _ => True) v_q dw); clear ho ho2; have m0_ := Aside0.mk (below_step HB.out hb); clear HB; have HB := m0_; clear m0_; clear hb; have RWd := nr_; clear nr_; obtain ⟨A_d, c_d, e_d⟩ := Kd.V_slice RWd.out; subst e_d; have RWq := np_; clear np_; obtain ⟨A_q, c_q, e_q⟩ := Kd.V_slice RWq.out; subst e_q; skip)
        | ((with_reducible refine gate_dst (N := 25) rfl ?_); refine box_event ?hg (N := 25) ?hd (cs := #[.slice none 0 0]) (t := 27) ?hr ?_; (case hd => rfl); (case hg => rfl); (case hr => first | (go_simp; done) | (go_simp; rfl)); intro g25 hg w_2 hbox hb; have SB := Aside0.mk hb; have BX := Aside0.mk (show spec_l1Cur_torus.Box w_2 g25 (.slice none 0 0) from hbox); have GE := Aside0.mk (show w_1.heap.size ≤ g25 by rw [hg]; exact Nat.le_refl _); clear hb hbox hg; have hcn : w_2.cell? ⟨g25, 0, none⟩ = some (.slice none 0 0) := (blk_cell BX.out 0).trans rfl; have hfn := blk_frozen BX.out 0)
        | ((with_reducible refine gate_store (t := 27) (p := 25) rfl ?_); refine store_event (t := 27) (p := 25) (v := ?vo25w_3) (w1 := (w_2.setCell ⟨g25, 0, none⟩ (.slice A_d d1.length c_d))) ?hg ?ho ?hn ?hr ?_; (case ho => rfl); (case hg => rfl); (case hn => rfl); (case hr => first | (go_simp; done) | (go_simp; rfl)); intro w_3 hw; have hb : Below w_1.heap.size w_1 w_3 := (by rw [hw]; exact below_set SB.out GE.out); have nn_ := Aside0.mk (laws_FnTori.One.new RWd.out hb BX.out hw); clear RWd SB BX GE hw hcn hfn; have m0_ := Aside0.mk (below_step HB.out hb); have q0_ := Aside0.mk (Kd.V_below RWq.out hb); clear HB RWq; have HB := m0_; clear m0_; have RWq := q0_; clear q0_; clear hb; have O25 := nn_; clear nn_; have hc25 := O25.out.cell; skip)
        | ((with_reducible refine gate_callee (f := 15) rfl ?_); refine goesL_ (some 152) rfl rfl Try.func15 (by kernel_rfl) rfl #[.agg #[.slice A_d d1.length c_d], .slice A_q dw.length c_q] rfl (by (try simp only [List.map_toArray, List.map_cons, List.map_nil]); first | done | rfl) ?_; (with_reducible refine (impl_TorusPlace.calls k _ _ d1 _ _ dw p1 p2 p3 _ ?side1 ?side2 ?side3 ?side4 R2.out).mono ?_); (case side1 => exact (Kd.V_reads' O25.out.2).2.2); (case side2 => exact (Kd.V_reads' O25.out.2).2.1); (case side3 => exact (Kd.V_reads' RWq.out).2.2); (case side4 => exact (Kd.V_reads' RWq.out).2.1); rintro e w_4 ⟨rfl, hb⟩; refine ⟨_, rfl, ?_⟩; have m0_ := Aside0.mk (below_step HB.out hb); have m1_ := Aside0.mk (O25.out.below hb); have q0_ := Aside0.mk (Kd.V_below RWq.out hb); (try clear hc25); clear HB O25 RWq; have HB := m0_; clear m0_; have O25 := m1_; clear m1_; have RWq := q0_; clear q0_; clear hb; have hc25 := O25.out.cell; skip)
        | ((with_reducible refine gate_callee (f := 16) rfl ?_); refine goesL_ (some 159) rfl rfl Try.func16 (by kernel_rfl) rfl #[.agg #[.slice A_d d1.length c_d], .slice A_q dw.length c_q] rfl (by (try simp only [List.map_toArray, List.map_cons, List.map_nil]); first | done | rfl) ?_; (with_reducible refine (spec_TorusPlace.calls k _ _ d1 _ _ dw p1 p2 p3 _ ?side1 ?side2 ?side3 ?side4 R3.out).mono ?_); (case side1 => exact (Kd.V_reads' O25.out.2).2.2); (case side2 => exact (Kd.V_reads' O25.out.2).2.1); (case side3 => exact (Kd.V_reads' RWq.out).2.2); (case side4 => exact (Kd.V_reads' RWq.out).2.1); rintro e w_5 ⟨rfl, hb⟩; refine ⟨_, rfl, ?_⟩; have m0_ := Aside0.mk (below_step HB.out hb); have m1_ := Aside0.mk (O25.out.below hb); have q0_ := Aside0.mk (Kd.V_below RWq.out hb); (try clear hc25); clear HB O25 RWq; have HB := m0_; clear m0_; have O25 := m1_; clear m1_; have RWq := q0_; clear q0_; clear hb; have hc25 := O25.out.cell; skip))
            have H := HL0.out
            clear HL0
            cases p3 with
            | false =>
              replace H := (if_neg (by simp)).symm.trans H
              obtain rfl := Option.some.inj H
              clear H
              go_wp2
              go_ret
              exact ⟨rfl, HB.out⟩
            | true =>
              replace H := (if_pos rfl).symm.trans H
              split at H
              · rename_i hcnd
                obtain rfl := Option.some.inj H
                clear H
                as_aux_lemma =>
                  unfold laws_FnTori.cond at hcnd
                  obtain ⟨bi, hbi⟩ : ∃ b : Int, Int.tmod (wrap64 (p1 + 1)) (d1.length : Int) = b := ⟨_, rfl⟩
                  rw [hbi] at hcnd
                  obtain ⟨nj, hnj⟩ : ∃ b : Int, Int.tmod (wrap64 (p2 + 1)) ((d1.getD bi.toNat []).length : Int) = b := ⟨_, rfl⟩
                  rw [hnj] at hcnd
                  unfold laws_FnTori.at_ at hcnd
                  obtain ⟨⟨q1a, q1b⟩, ⟨q2a, q2b⟩, ⟨q3a, q3b, q3c⟩, ⟨q4a, q4b, q4c⟩, q5, e0, e1, e2, e3⟩ := hcnd
                  obtain ⟨ad, Bi, ci, ea, hx1, hl1, hk1⟩ := laws_FnTori.row (Kd.V_reads' O25.out.2).2.2 p1 q1a q1b
                  subst ea
                  obtain ⟨ad', Bb, cb, ea, hx2, hl2, hk2⟩ := laws_FnTori.row (Kd.V_reads' O25.out.2).2.2 bi q2a q2b
                  injection ea with ea
                  subst ea
                  generalize hri : d1.getD p1.toNat [] = ri at hx1 hl1 hk1 q3b q4b e0 e1
                  generalize hrb : d1.getD bi.toNat [] = rb at hx2 hl2 hk2 q3c q4c e2 e3 hnj
                  clear hri hrb hl1 hl2
                  obtain ⟨ai, ea, hy1⟩ := laws_FnTori.num hk1 p2 q3a q3b
                  subst ea
                  obtain ⟨ai', ea, hy2⟩ := laws_FnTori.num hk1 nj q4a q4b
                  injection ea with ea
                  subst ea
                  obtain ⟨ab, ea, hy3⟩ := laws_FnTori.num hk2 p2 q3a q3c
                  subst ea
                  obtain ⟨ab', ea, hy4⟩ := laws_FnTori.num hk2 nj q4a q4c
                  injection ea with ea
                  subst ea
                  clear hk1 hk2
                  obtain ⟨aq0, ea, hz0⟩ := laws_FnTori.num (Kd.V_reads' RWq.out).2.2 0 (by decide) (by omega)
                  subst ea
                  rw [show ((0 : Int)).toNat = 0 from rfl] at hz0
                  generalize dw.getD 0 0 = z0 at hz0 e0
                  obtain ⟨aq1, ea, hz1⟩ := laws_FnTori.num (Kd.V_reads' RWq.out).2.2 1 (by decide) (by omega)
                  injection ea with ea
                  subst ea
                  rw [show ((1 : Int)).toNat = 1 from rfl] at hz1
                  generalize dw.getD 1 0 = z1 at hz1 e1
                  obtain ⟨aq2, ea, hz2⟩ := laws_FnTori.num (Kd.V_reads' RWq.out).2.2 2 (by decide) (by omega)
                  injection ea with ea
                  subst ea
                  rw [show ((2 : Int)).toNat = 2 from rfl] at hz2
                  generalize dw.getD 2 0 = z2 at hz2 e2
                  obtain ⟨aq3, ea, hz3⟩ := laws_FnTori.num (Kd.V_reads' RWq.out).2.2 3 (by decide) (by omega)
                  injection ea with ea
                  subst ea
                  rw [show ((3 : Int)).toNat = 3 from rfl] at hz3
                  generalize dw.getD 3 0 = z3 at hz3 e3
                  rw [show aq0.add 1 = ⟨aq0.block, aq0.off + 1, none⟩ by simp [Addr.add]] at hz1
                  rw [show aq0.add 2 = ⟨aq0.block, aq0.off + 2, none⟩ by simp [Addr.add]] at hz2
                  rw [show aq0.add 3 = ⟨aq0.block, aq0.off + 3, none⟩ by simp [Addr.add]] at hz3
                  rw [show aq0.add 0 = aq0 by simp [Addr.add]] at hz0
                  rw [e0] at hy1
                  rw [e1] at hy2
                  rw [e2] at hy3
                  rw [e3] at hy4
                  clear e0 e1 e2 e3
                  have hbi2 : Int.tmod (IntKind.i64.wrap (p1 + 1)) (d1.length : Int) = bi := by rw [i64_w]; exact hbi
                  have hnj2 : Int.tmod (IntKind.i64.wrap (p2 + 1)) (rb.length : Int) = nj := by rw [i64_w]; exact hnj
                  have n1_ : ((d1.length : Int) == 0) = false := beq_eq_false_iff_ne.mpr (by omega)
                  have n2_ : ((rb.length : Int) == 0) = false := beq_eq_false_iff_ne.mpr (by omega)
                  have n3_ : ((d1.length : Int) != 0) = true := bne_iff_ne.mpr (by omega)
                  have n4_ : ((rb.length : Int) != 0) = true := bne_iff_ne.mpr (by omega)
                  have n5_ : ¬ ((d1.length : Int) = 0) := by omega
                  have n6_ : ¬ ((rb.length : Int) = 0) := by omega
                  have n7_ : ¬ (d1 = []) := fun e_ => by rw [e_] at n5_; exact n5_ rfl
                  have n8_ : ¬ (rb = []) := fun e_ => by rw [e_] at n6_; exact n6_ rfl
                  have l0_ : 0 < dw.length := by omega
                  have l1_ : 1 < dw.length := by omega
                  have l2_ : 2 < dw.length := by omega
                  have m1_ : (1 : Int) < (dw.length : Int) := by omega
                  have m2_ : (2 : Int) < (dw.length : Int) := by omega
                  have m3_ : (3 : Int) < (dw.length : Int) := by omega
                  go_wp2
                  refine start_ (n := 11) (S := fun w' => w'.cell? ⟨g25, 0, none⟩ = some (.slice (some ad) d1.length c_d) ∧ w'.cell? (ad.add bi.toNat) = some (.slice (some ab) rb.length cb)) (ds := []) #[false, false, false, false, false, false, false, false, false, false, false] (by kernel_rfl) rfl rfl ⟨hc25, hx2⟩ (fun hHeld => ?_)
                  refine pure_ (i := 0) (N := some 177) (v := ?_) (a' := ?_) #[true, false, false, false, false, false, false, false, false, false, false] rfl rfl (by kernel_rfl) (fun _ _ _ h => h) (Or.inl ⟨by rfl, ?_⟩) ?_ ?_
                  rotate_left
                  · intro w'
                    go_simp
                    with_reducible rfl
                  rotate_left
                  · simp only [Act.put, List.setIfInBounds_toArray, List.set_cons_zero, List.set_cons_succ, i64_w, i32_w]
                    rfl
                  refine pure_ (i := 2) (N := some 179) (v := ?_) (a' := ?_) #[true, false, true, false, false, false, false, false, false, false, false] rfl rfl (by kernel_rfl) (fun _ _ _ h => h) (Or.inl ⟨by rfl, ?_⟩) ?_ ?_
                  rotate_left
                  · intro w'
                    go_simp
                    with_reducible rfl
                  rotate_left
                  · simp only [Act.put, List.setIfInBounds_toArray, List.set_cons_zero, List.set_cons_succ, i64_w, i32_w]
                    rfl
                  refine pure_ (i := 3) (N := some 180) (v := ?_) (a' := ?_) #[true, false, true, true, false, false, false, false, false, false, false] rfl rfl (by kernel_rfl) (fun _ _ _ h => h) (Or.inl ⟨by rfl, ?_⟩) ?_ ?_
                  rotate_left
                  · intro w'
                    go_simp
                    with_reducible rfl
                  rotate_left
                  · simp only [Act.put, List.setIfInBounds_toArray, List.set_cons_zero, List.set_cons_succ, i64_w, i32_w]
                    rfl
                  refine pure_ (i := 4) (N := some 181) (v := ?_) (a' := ?_) #[true, false, true, true, true, false, false, false, false, false, false] rfl rfl (by kernel_rfl) (fun _ _ _ h => h) (Or.inl ⟨by rfl, ?_⟩) ?_ ?_
                  rotate_left
                  · intro w'
                    go_simp
                    with_reducible rfl
                  rotate_left
                  · simp only [Act.put, List.setIfInBounds_toArray, List.set_cons_zero, List.set_cons_succ, i64_w, i32_w]
                    rfl
                  refine take_ (i := 1) (N := some 178) (v := ?_) (a' := ?_) #[true, true, true, true, true, false, false, false, false, false, false] rfl rfl (by kernel_rfl) (fun _ _ _ h => h) (Or.inl ⟨by rfl, ?_⟩) hHeld ?_ ?_
                  rotate_left
                  · rintro w' ⟨s0, s1⟩
                    go_simp
                    with_reducible rfl
                  rotate_left
                  · simp only [Act.put, List.setIfInBounds_toArray, List.set_cons_zero, List.set_cons_succ, i64_w, i32_w]
                    rfl
                  refine take_ (i := 5) (N := some 182) (v := ?_) (a' := ?_) #[true, true, true, true, true, true, false, false, false, false, false] rfl rfl (by kernel_rfl) (fun _ _ _ h => h) (Or.inl ⟨by rfl, ?_⟩) hHeld ?_ ?_
                  rotate_left
                  · rintro w' ⟨s0, s1⟩
                    go_simp
                    with_reducible rfl
                  rotate_left
                  · simp only [Act.put, List.setIfInBounds_toArray, List.set_cons_zero, List.set_cons_succ, i64_w, i32_w]
                    rfl
                  refine pure_ (i := 6) (N := some 183) (v := ?_) (a' := ?_) #[true, true, true, true, true, true, true, false, false, false, false] rfl rfl (by kernel_rfl) (fun _ _ _ h => h) (Or.inl ⟨by rfl, ?_⟩) ?_ ?_
                  rotate_left
                  · intro w'
                    go_simp
                    with_reducible rfl
                  rotate_left
                  · simp only [Act.put, List.setIfInBounds_toArray, List.set_cons_zero, List.set_cons_succ, i64_w, i32_w]
                    rfl
                  refine pure_ (i := 7) (N := some 184) (v := ?_) (a' := ?_) #[true, true, true, true, true, true, true, true, false, false, false] rfl rfl (by kernel_rfl) (fun _ _ _ h => h) (Or.inl ⟨by rfl, ?_⟩) ?_ ?_
                  rotate_left
                  · intro w'
                    go_simp
                    with_reducible rfl
                  rotate_left
                  · simp only [Act.put, List.setIfInBounds_toArray, List.set_cons_zero, List.set_cons_succ, i64_w, i32_w]
                    rfl
                  refine pure_ (i := 8) (N := some 185) (v := ?_) (a' := ?_) #[true, true, true, true, true, true, true, true, true, false, false] rfl rfl (by kernel_rfl) (fun _ _ _ h => h) (Or.inl ⟨by rfl, ?_⟩) ?_ ?_
                  rotate_left
                  · intro w'
                    go_simp
                    with_reducible rfl
                  rotate_left
                  · simp only [Act.put, List.setIfInBounds_toArray, List.set_cons_zero, List.set_cons_succ, i64_w, i32_w]
                    rfl
                  refine take_ (i := 9) (N := some 186) (v := ?_) (a' := ?_) #[true, true, true, true, true, true, true, true, true, true, false] rfl rfl (by kernel_rfl) (fun _ _ _ h => h) (Or.inl ⟨by rfl, ?_⟩) hHeld ?_ ?_
                  rotate_left
                  · rintro w' ⟨s0, s1⟩
                    go_simp
                    with_reducible rfl
                  rotate_left
                  · simp only [Act.put, List.setIfInBounds_toArray, List.set_cons_zero, List.set_cons_succ, i64_w, i32_w]
                    rfl
                  refine pure_ (i := 10) (N := some 33) (v := ?_) (a' := ?_) #[true, true, true, true, true, true, true, true, true, true, true] rfl rfl (by kernel_rfl) (fun _ _ _ h => h) (Or.inl ⟨by rfl, ?_⟩) ?_ ?_
                  rotate_left
                  · intro w'
                    go_simp
                    with_reducible rfl
                  rotate_left
                  · simp only [Act.put, List.setIfInBounds_toArray, List.set_cons_zero, List.set_cons_succ, i64_w, i32_w]
                    rfl
                  refine done_ (by kernel_rfl) ?_
                  clear hHeld
                  go_wp2
                  refine start_ (n := 47) (S := fun w' => w'.cell? ⟨g25, 0, none⟩ = some (.slice (some ad) d1.length c_d) ∧ w'.cell? (ad.add p1.toNat) = some (.slice (some ai) ri.length ci) ∧ w'.cell? (ai.add p2.toNat) = some (.int .i64 z0) ∧ w'.cell? (ai.add nj.toNat) = some (.int .i64 z1) ∧ w'.cell? (ab.add p2.toNat) = some (.int .i64 z2) ∧ w'.cell? (ab.add nj.toNat) = some (.int .i64 z3) ∧ w'.cell? aq0 = some (.int .i64 z0) ∧ w'.cell? ⟨aq0.block, aq0.off + 1, none⟩ = some (.int .i64 z1) ∧ w'.cell? ⟨aq0.block, aq0.off + 2, none⟩ = some (.int .i64 z2) ∧ w'.cell? ⟨aq0.block, aq0.off + 3, none⟩ = some (.int .i64 z3)) (ds := []) #[false, false, false, false, false, false, false, false, false, false, false, false, false, false, false, false, false, false, false, false, false, false, false, false, false, false, false, false, false, false, false, false, false, false, false, false, false, false, false, false, false, false, false, false, false, false, false] (by kernel_rfl) rfl rfl ⟨hc25, hx1, hy1, hy2, hy3, hy4, hz0, hz1, hz2, hz3⟩ (fun hHeld => ?_)
                  refine pure_ (i := 0) (N := some 192) (v := ?_) (a' := ?_) #[true, false, false, false, false, false, false, false, false, false, false, false, false, false, false, false, false, false, false, false, false, false, false, false, false, false, false, false, false, false, false, false, false, false, false, false, false, false, false, false, false, false, false, false, false, false, false] rfl rfl (by kernel_rfl) (fun _ _ _ h => h) (Or.inl ⟨by rfl, ?_⟩) ?_ ?_
                  rotate_left
                  · intro w'
                    go_simp
                    with_reducible rfl
                  rotate_left
                  · simp only [Act.put, List.setIfInBounds_toArray, List.set_cons_zero, List.set_cons_succ, i64_w, i32_w]
                    rfl
                  refine pure_ (i := 2) (N := some 194) (v := ?_) (a' := ?_) #[true, false, true, false, false, false, false, false, false, false, false, false, false, false, false, false, false, false, false, false, false, false, false, false, false, false, false, false, false, false, false, false, false, false, false, false, false, false, false, false, false, false, false, false, false, false, false] rfl rfl (by kernel_rfl) (fun _ _ _ h => h) (Or.inl ⟨by rfl, ?_⟩) ?_ ?_
                  rotate_left
                  · intro w'
                    go_simp
                    with_reducible rfl
                  rotate_left
                  · simp only [Act.put, List.setIfInBounds_toArray, List.set_cons_zero, List.set_cons_succ, i64_w, i32_w]
                    rfl
                  refine pure_ (i := 5) (N := some 197) (v := ?_) (a' := ?_) #[true, false, true, false, false, true, false, false, false, false, false, false, false, false, false, false, false, false, false, false, false, false, false, false, false, false, false, false, false, false, false, false, false, false, false, false, false, false, false, false, false, false, false, false, false, false, false] rfl rfl (by kernel_rfl) (fun _ _ _ h => h) (Or.inl ⟨by rfl, ?_⟩) ?_ ?_
                  rotate_left
                  · intro w'
                    go_simp
                    with_reducible rfl
                  rotate_left
                  · simp only [Act.put, List.setIfInBounds_toArray, List.set_cons_zero, List.set_cons_succ, i64_w, i32_w]
                    rfl
                  refine pure_ (i := 8) (N := some 200) (v := ?_) (a' := ?_) #[true, false, true, false, false, true, false, false, true, false, false, false, false, false, false, false, false, false, false, false, false, false, false, false, false, false, false, false, false, false, false, false, false, false, false, false, false, false, false, false, false, false, false, false, false, false, false] rfl rfl (by kernel_rfl) (fun _ _ _ h => h) (Or.inl ⟨by rfl, ?_⟩) ?_ ?_
                  rotate_left
                  · intro w'
                    go_simp
                    with_reducible rfl
                  rotate_left
                  · simp only [Act.put, List.setIfInBounds_toArray, List.set_cons_zero, List.set_cons_succ, i64_w, i32_w]
                    rfl
                  refine pure_ (i := 9) (N := some 201) (v := ?_) (a' := ?_) #[true, false, true, false, false, true, false, false, true, true, false, false, false, false, false, false, false, false, false, false, false, false, false, false, false, false, false, false, false, false, false, false, false, false, false, false, false, false, false, false, false, false, false, false, false, false, false] rfl rfl (by kernel_rfl) (fun _ _ _ h => h) (Or.inl ⟨by rfl, ?_⟩) ?_ ?_
                  rotate_left
                  · intro w'
                    go_simp
                    with_reducible rfl
                  rotate_left
                  · simp only [Act.put, List.setIfInBounds_toArray, List.set_cons_zero, List.set_cons_succ, i64_w, i32_w]
                    rfl
                  refine take_ (i := 1) (N := some 193) (v := ?_) (a' := ?_) #[true, true, true, false, false, true, false, false, true, true, false, false, false, false, false, false, false, false, false, false, false, false, false, false, false, false, false, false, false, false, false, false, false, false, false, false, false, false, false, false, false, false, false, false, false, false, false] rfl rfl (by kernel_rfl) (fun _ _ _ h => h) (Or.inl ⟨by rfl, ?_⟩) hHeld ?_ ?_
                  rotate_left
                  · rintro w' ⟨s0, s1, s2, s3, s4, s5, s6, s7, s8, s9⟩
                    go_simp
                    with_reducible rfl
                  rotate_left
                  · simp only [Act.put, List.setIfInBounds_toArray, List.set_cons_zero, List.set_cons_succ, i64_w, i32_w]
                    rfl
                  refine pure_ (i := 3) (N := some 195) (v := ?_) (a' := ?_) #[true, true, true, true, false, true, false, false, true, true, false, false, false, false, false, false, false, false, false, false, false, false, false, false, false, false, false, false, false, false, false, false, false, false, false, false, false, false, false, false, false, false, false, false, false, false, false] rfl rfl (by kernel_rfl) (fun _ _ _ h => h) (Or.inl ⟨by rfl, ?_⟩) ?_ ?_
                  rotate_left
                  · intro w'
                    go_simp
                    with_reducible rfl
                  rotate_left
                  · simp only [Act.put, List.setIfInBounds_toArray, List.set_cons_zero, List.set_cons_succ, i64_w, i32_w]
                    rfl
                  refine take_ (i := 4) (N := some 196) (v := ?_) (a' := ?_) #[true, true, true, true, true, true, false, false, true, true, false, false, false, false, false, false, false, false, false, false, false, false, false, false, false, false, false, false, false, false, false, false, false, false, false, false, false, false, false, false, false, false, false, false, false, false, false] rfl rfl (by kernel_rfl) (fun _ _ _ h => h) (Or.inl ⟨by rfl, ?_⟩) hHeld ?_ ?_
                  rotate_left
                  · rintro w' ⟨s0, s1, s2, s3, s4, s5, s6, s7, s8, s9⟩
                    go_simp
                    with_reducible rfl
                  rotate_left
                  · simp only [Act.put, List.setIfInBounds_toArray, List.set_cons_zero, List.set_cons_succ, i64_w, i32_w]
                    rfl
                  refine pure_ (i := 6) (N := some 198) (v := ?_) (a' := ?_) #[true, true, true, true, true, true, true, false, true, true, false, false, false, false, false, false, false, false, false, false, false, false, false, false, false, false, false, false, false, false, false, false, false, false, false, false, false, false, false, false, false, false, false, false, false, false, false] rfl rfl (by kernel_rfl) (fun _ _ _ h => h) (Or.inl ⟨by rfl, ?_⟩) ?_ ?_
                  rotate_left
                  · intro w'
                    go_simp
                    with_reducible rfl
                  rotate_left
                  · simp only [Act.put, List.setIfInBounds_toArray, List.set_cons_zero, List.set_cons_succ, i64_w, i32_w]
                    rfl
                  refine take_ (i := 7) (N := some 199) (v := ?_) (a' := ?_) #[true, true, true, true, true, true, true, true, true, true, false, false, false, false, false, false, false, false, false, false, false, false, false, false, false, false, false, false, false, false, false, false, false, false, false, false, false, false, false, false, false, false, false, false, false, false, false] rfl rfl (by kernel_rfl) (fun _ _ _ h => h) (Or.inl ⟨by rfl, ?_⟩) hHeld ?_ ?_
                  rotate_left
                  · rintro w' ⟨s0, s1, s2, s3, s4, s5, s6, s7, s8, s9⟩
                    go_simp
                    with_reducible rfl
                  rotate_left
                  · simp only [Act.put, List.setIfInBounds_toArray, List.set_cons_zero, List.set_cons_succ, i64_w, i32_w]
                    rfl
                  refine take_ (i := 10) (N := some 202) (v := ?_) (a' := ?_) #[true, true, true, true, true, true, true, true, true, true, true, false, false, false, false, false, false, false, false, false, false, false, false, false, false, false, false, false, false, false, false, false, false, false, false, false, false, false, false, false, false, false, false, false, false, false, false] rfl rfl (by kernel_rfl) (fun _ _ _ h => h) (Or.inl ⟨by rfl, ?_⟩) hHeld ?_ ?_
                  rotate_left
                  · rintro w' ⟨s0, s1, s2, s3, s4, s5, s6, s7, s8, s9⟩
                    go_simp
                    with_reducible rfl
                  rotate_left
                  · simp only [Act.put, List.setIfInBounds_toArray, List.set_cons_zero, List.set_cons_succ, i64_w, i32_w]
                    rfl
                  refine pure_ (i := 11) (N := some 203) (v := ?_) (a' := ?_) #[true, true, true, true, true, true, true, true, true, true, true, true, false, false, false, false, false, false, false, false, false, false, false, false, false, false, false, false, false, false, false, false, false, false, false, false, false, false, false, false, false, false, false, false, false, false, false] rfl rfl (by kernel_rfl) (fun _ _ _ h => h) (Or.inl ⟨by rfl, ?_⟩) ?_ ?_
                  rotate_left
                  · intro w'
                    go_simp
                    with_reducible rfl
                  rotate_left
                  · simp only [Act.put, List.setIfInBounds_toArray, List.set_cons_zero, List.set_cons_succ, i64_w, i32_w]
                    rfl
                  refine pure_ (i := 12) (N := some 204) (v := ?_) (a' := ?_) #[true, true, true, true, true, true, true, true, true, true, true, true, true, false, false, false, false, false, false, false, false, false, false, false, false, false, false, false, false, false, false, false, false, false, false, false, false, false, false, false, false, false, false, false, false, false, false] rfl rfl (by kernel_rfl) (fun _ _ _ h => h) (Or.inl ⟨by rfl, ?_⟩) ?_ ?_
                  rotate_left
                  · intro w'
                    go_simp
                    with_reducible rfl
                  rotate_left
                  · simp only [Act.put, List.setIfInBounds_toArray, List.set_cons_zero, List.set_cons_succ, i64_w, i32_w]
                    rfl
                  refine pure_ (i := 13) (N := some 205) (v := ?_) (a' := ?_) #[true, true, true, true, true, true, true, true, true, true, true, true, true, true, false, false, false, false, false, false, false, false, false, false, false, false, false, false, false, false, false, false, false, false, false, false, false, false, false, false, false, false, false, false, false, false, false] rfl rfl (by kernel_rfl) (fun _ _ _ h => h) (Or.inl ⟨by rfl, ?_⟩) ?_ ?_
                  rotate_left
                  · intro w'
                    go_simp
                    with_reducible rfl
                  rotate_left
                  · simp only [Act.put, List.setIfInBounds_toArray, List.set_cons_zero, List.set_cons_succ, i64_w, i32_w]
                    rfl
                  refine pure_ (i := 15) (N := some 207) (v := ?_) (a' := ?_) #[true, true, true, true, true, true, true, true, true, true, true, true, true, true, false, true, false, false, false, false, false, false, false, false, false, false, false, false, false, false, false, false, false, false, false, false, false, false, false, false, false, false, false, false, false, false, false] rfl rfl (by kernel_rfl) (fun _ _ _ h => h) (Or.inl ⟨by rfl, ?_⟩) ?_ ?_
                  rotate_left
                  · intro w'
                    go_simp
                    with_reducible rfl
                  rotate_left
                  · simp only [Act.put, List.setIfInBounds_toArray, List.set_cons_zero, List.set_cons_succ, i64_w, i32_w]
                    rfl
                  refine pure_ (i := 18) (N := some 210) (v := ?_) (a' := ?_) #[true, true, true, true, true, true, true, true, true, true, true, true, true, true, false, true, false, false, true, false, false, false, false, false, false, false, false, false, false, false, false, false, false, false, false, false, false, false, false, false, false, false, false, false, false, false, false] rfl rfl (by kernel_rfl) (fun _ _ _ h => h) (Or.inl ⟨by rfl, ?_⟩) ?_ ?_
                  rotate_left
                  · intro w'
                    go_simp
                    with_reducible rfl
                  rotate_left
                  · simp only [Act.put, List.setIfInBounds_toArray, List.set_cons_zero, List.set_cons_succ, i64_w, i32_w]
                    rfl
                  refine pure_ (i := 21) (N := some 213) (v := ?_) (a' := ?_) #[true, true, true, true, true, true, true, true, true, true, true, true, true, true, false, true, false, false, true, false, false, true, false, false, false, false, false, false, false, false, false, false, false, false, false, false, false, false, false, false, false, false, false, false, false, false, false] rfl rfl (by kernel_rfl) (fun _ _ _ h => h) (Or.inl ⟨by rfl, ?_⟩) ?_ ?_
                  rotate_left
                  · intro w'
                    go_simp
                    with_reducible rfl
                  rotate_left
                  · simp only [Act.put, List.setIfInBounds_toArray, List.set_cons_zero, List.set_cons_succ, i64_w, i32_w]
                    rfl
                  refine pure_ (i := 22) (N := some 214) (v := ?_) (a' := ?_) #[true, true, true, true, true, true, true, true, true, true, true, true, true, true, false, true, false, false, true, false, false, true, true, false, false, false, false, false, false, false, false, false, false, false, false, false, false, false, false, false, false, false, false, false, false, false, false] rfl rfl (by kernel_rfl) (fun _ _ _ h => h) (Or.inl ⟨by rfl, ?_⟩) ?_ ?_
                  rotate_left
                  · intro w'
                    go_simp
                    with_reducible rfl
                  rotate_left
                  · simp only [Act.put, List.setIfInBounds_toArray, List.set_cons_zero, List.set_cons_succ, i64_w, i32_w]
                    rfl
                  refine take_ (i := 14) (N := some 206) (v := ?_) (a' := ?_) #[true, true, true, true, true, true, true, true, true, true, true, true, true, true, true, true, false, false, true, false, false, true, true, false, false, false, false, false, false, false, false, false, false, false, false, false, false, false, false, false, false, false, false, false, false, false, false] rfl rfl (by kernel_rfl) (fun _ _ _ h => h) (Or.inl ⟨by rfl, ?_⟩) hHeld ?_ ?_
                  rotate_left
                  · rintro w' ⟨s0, s1, s2, s3, s4, s5, s6, s7, s8, s9⟩
                    go_simp
                    with_reducible rfl
                  rotate_left
                  · simp only [Act.put, List.setIfInBounds_toArray, List.set_cons_zero, List.set_cons_succ, i64_w, i32_w]
                    rfl
                  refine pure_ (i := 16) (N := some 208) (v := ?_) (a' := ?_) #[true, true, true, true, true, true, true, true, true, true, true, true, true, true, true, true, true, false, true, false, false, true, true, false, false, false, false, false, false, false, false, false, false, false, false, false, false, false, false, false, false, false, false, false, false, false, false] rfl rfl (by kernel_rfl) (fun _ _ _ h => h) (Or.inl ⟨by rfl, ?_⟩) ?_ ?_
                  rotate_left
                  · intro w'
                    go_simp
                    with_reducible rfl
                  rotate_left
                  · simp only [Act.put, List.setIfInBounds_toArray, List.set_cons_zero, List.set_cons_succ, i64_w, i32_w]
                    rfl
                  refine take_ (i := 17) (N := some 209) (v := ?_) (a' := ?_) #[true, true, true, true, true, true, true, true, true, true, true, true, true, true, true, true, true, true, true, false, false, true, true, false, false, false, false, false, false, false, false, false, false, false, false, false, false, false, false, false, false, false, false, false, false, false, false] rfl rfl (by kernel_rfl) (fun _ _ _ h => h) (Or.inl ⟨by rfl, ?_⟩) hHeld ?_ ?_
                  rotate_left
                  · rintro w' ⟨s0, s1, s2, s3, s4, s5, s6, s7, s8, s9⟩
                    go_simp
                    with_reducible rfl
                  rotate_left
                  · simp only [Act.put, List.setIfInBounds_toArray, List.set_cons_zero, List.set_cons_succ, i64_w, i32_w]
                    rfl
                  refine pure_ (i := 19) (N := some 211) (v := ?_) (a' := ?_) #[true, true, true, true, true, true, true, true, true, true, true, true, true, true, true, true, true, true, true, true, false, true, true, false, false, false, false, false, false, false, false, false, false, false, false, false, false, false, false, false, false, false, false, false, false, false, false] rfl rfl (by kernel_rfl) (fun _ _ _ h => h) (Or.inl ⟨by rfl, ?_⟩) ?_ ?_
                  rotate_left
                  · intro w'
                    go_simp
                    with_reducible rfl
                  rotate_left
                  · simp only [Act.put, List.setIfInBounds_toArray, List.set_cons_zero, List.set_cons_succ, i64_w, i32_w]
                    rfl
                  refine take_ (i := 20) (N := some 212) (v := ?_) (a' := ?_) #[true, true, true, true, true, true, true, true, true, true, true, true, true, true, true, true, true, true, true, true, true, true, true, false, false, false, false, false, false, false, false, false, false, false, false, false, false, false, false, false, false, false, false, false, false, false, false] rfl rfl (by kernel_rfl) (fun _ _ _ h => h) (Or.inl ⟨by rfl, ?_⟩) hHeld ?_ ?_
                  rotate_left
                  · rintro w' ⟨s0, s1, s2, s3, s4, s5, s6, s7, s8, s9⟩
                    go_simp
                    with_reducible rfl
                  rotate_left
                  · simp only [Act.put, List.setIfInBounds_toArray, List.set_cons_zero, List.set_cons_succ, i64_w, i32_w]
                    rfl
                  refine take_ (i := 23) (N := some 215) (v := ?_) (a' := ?_) #[true, true, true, true, true, true, true, true, true, true, true, true, true, true, true, true, true, true, true, true, true, true, true, true, false, false, false, false, false, false, false, false, false, false, false, false, false, false, false, false, false, false, false, false, false, false, false] rfl rfl (by kernel_rfl) (fun _ _ _ h => h) (Or.inl ⟨by rfl, ?_⟩) hHeld ?_ ?_
                  rotate_left
                  · rintro w' ⟨s0, s1, s2, s3, s4, s5, s6, s7, s8, s9⟩
                    go_simp
                    with_reducible rfl
                  rotate_left
                  · simp only [Act.put, List.setIfInBounds_toArray, List.set_cons_zero, List.set_cons_succ, i64_w, i32_w]
                    rfl
                  refine pure_ (i := 24) (N := some 216) (v := ?_) (a' := ?_) #[true, true, true, true, true, true, true, true, true, true, true, true, true, true, true, true, true, true, true, true, true, true, true, true, true, false, false, false, false, false, false, false, false, false, false, false, false, false, false, false, false, false, false, false, false, false, false] rfl rfl (by kernel_rfl) (fun _ _ _ h => h) (Or.inl ⟨by rfl, ?_⟩) ?_ ?_
                  rotate_left
                  · intro w'
                    go_simp
                    with_reducible rfl
                  rotate_left
                  · simp only [Act.put, List.setIfInBounds_toArray, List.set_cons_zero, List.set_cons_succ, i64_w, i32_w]
                    rfl
                  refine pure_ (i := 25) (N := some 217) (v := ?_) (a' := ?_) #[true, true, true, true, true, true, true, true, true, true, true, true, true, true, true, true, true, true, true, true, true, true, true, true, true, true, false, false, false, false, false, false, false, false, false, false, false, false, false, false, false, false, false, false, false, false, false] rfl rfl (by kernel_rfl) (fun _ _ _ h => h) (Or.inl ⟨by rfl, ?_⟩) ?_ ?_
                  rotate_left
                  · intro w'
                    go_simp
                    with_reducible rfl
                  rotate_left
                  · simp only [Act.put, List.setIfInBounds_toArray, List.set_cons_zero, List.set_cons_succ, i64_w, i32_w]
                    rfl
                  refine pure_ (i := 26) (N := some 218) (v := ?_) (a' := ?_) #[true, true, true, true, true, true, true, true, true, true, true, true, true, true, true, true, true, true, true, true, true, true, true, true, true, true, true, false, false, false, false, false, false, false, false, false, false, false, false, false, false, false, false, false, false, false, false] rfl rfl (by kernel_rfl) (fun _ _ _ h => h) (Or.inl ⟨by rfl, ?_⟩) ?_ ?_
                  rotate_left
                  · intro w'
                    go_simp
                    with_reducible rfl
                  rotate_left
                  · simp only [Act.put, List.setIfInBounds_toArray, List.set_cons_zero, List.set_cons_succ, i64_w, i32_w]
                    rfl
                  refine pure_ (i := 27) (N := some 219) (v := ?_) (a' := ?_) #[true, true, true, true, true, true, true, true, true, true, true, true, true, true, true, true, true, true, true, true, true, true, true, true, true, true, true, true, false, false, false, false, false, false, false, false, false, false, false, false, false, false, false, false, false, false, false] rfl rfl (by kernel_rfl) (fun _ _ _ h => h) (Or.inl ⟨by rfl, ?_⟩) ?_ ?_
                  rotate_left
                  · intro w'
                    go_simp
                    with_reducible rfl
                  rotate_left
                  · simp only [Act.put, List.setIfInBounds_toArray, List.set_cons_zero, List.set_cons_succ, i64_w, i32_w]
                    rfl
                  refine pure_ (i := 28) (N := some 220) (v := ?_) (a' := ?_) #[true, true, true, true, true, true, true, true, true, true, true, true, true, true, true, true, true, true, true, true, true, true, true, true, true, true, true, true, true, false, false, false, false, false, false, false, false, false, false, false, false, false, false, false, false, false, false] rfl rfl (by kernel_rfl) (fun _ _ _ h => h) (Or.inl ⟨by rfl, ?_⟩) ?_ ?_
                  rotate_left
                  · intro w'
                    go_simp
                    with_reducible rfl
                  rotate_left
                  · simp only [Act.put, List.setIfInBounds_toArray, List.set_cons_zero, List.set_cons_succ, i64_w, i32_w]
                    rfl
                  refine pure_ (i := 29) (N := some 221) (v := ?_) (a' := ?_) #[true, true, true, true, true, true, true, true, true, true, true, true, true, true, true, true, true, true, true, true, true, true, true, true, true, true, true, true, true, true, false, false, false, false, false, false, false, false, false, false, false, false, false, false, false, false, false] rfl rfl (by kernel_rfl) (fun _ _ _ h => h) (Or.inl ⟨by rfl, ?_⟩) ?_ ?_
                  rotate_left
                  · intro w'
                    go_simp
                    with_reducible rfl
                  rotate_left
                  · simp only [Act.put, List.setIfInBounds_toArray, List.set_cons_zero, List.set_cons_succ, i64_w, i32_w]
                    rfl
                  refine pure_ (i := 31) (N := some 223) (v := ?_) (a' := ?_) #[true, true, true, true, true, true, true, true, true, true, true, true, true, true, true, true, true, true, true, true, true, true, true, true, true, true, true, true, true, true, false, true, false, false, false, false, false, false, false, false, false, false, false, false, false, false, false] rfl rfl (by kernel_rfl) (fun _ _ _ h => h) (Or.inl ⟨by rfl, ?_⟩) ?_ ?_
                  rotate_left
                  · intro w'
                    go_simp
                    with_reducible rfl
                  rotate_left
                  · simp only [Act.put, List.setIfInBounds_toArray, List.set_cons_zero, List.set_cons_succ, i64_w, i32_w]
                    rfl
                  refine pure_ (i := 32) (N := some 224) (v := ?_) (a' := ?_) #[true, true, true, true, true, true, true, true, true, true, true, true, true, true, true, true, true, true, true, true, true, true, true, true, true, true, true, true, true, true, false, true, true, false, false, false, false, false, false, false, false, false, false, false, false, false, false] rfl rfl (by kernel_rfl) (fun _ _ _ h => h) (Or.inl ⟨by rfl, ?_⟩) ?_ ?_
                  rotate_left
                  · intro w'
                    go_simp
                    with_reducible rfl
                  rotate_left
                  · simp only [Act.put, List.setIfInBounds_toArray, List.set_cons_zero, List.set_cons_succ, i64_w, i32_w]
                    rfl
                  refine take_ (i := 30) (N := some 222) (v := ?_) (a' := ?_) #[true, true, true, true, true, true, true, true, true, true, true, true, true, true, true, true, true, true, true, true, true, true, true, true, true, true, true, true, true, true, true, true, true, false, false, false, false, false, false, false, false, false, false, false, false, false, false] rfl rfl (by kernel_rfl) (fun _ _ _ h => h) (Or.inl ⟨by rfl, ?_⟩) hHeld ?_ ?_
                  rotate_left
                  · rintro w' ⟨s0, s1, s2, s3, s4, s5, s6, s7, s8, s9⟩
                    go_simp
                    with_reducible rfl
                  rotate_left
                  · simp only [Act.put, List.setIfInBounds_toArray, List.set_cons_zero, List.set_cons_succ, i64_w, i32_w]
                    rfl
                  refine take_ (i := 33) (N := some 225) (v := ?_) (a' := ?_) #[true, true, true, true, true, true, true, true, true, true, true, true, true, true, true, true, true, true, true, true, true, true, true, true, true, true, true, true, true, true, true, true, true, true, false, false, false, false, false, false, false, false, false, false, false, false, false] rfl rfl (by kernel_rfl) (fun _ _ _ h => h) (Or.inl ⟨by rfl, ?_⟩) hHeld ?_ ?_
                  rotate_left
                  · rintro w' ⟨s0, s1, s2, s3, s4, s5, s6, s7, s8, s9⟩
                    go_simp
                    with_reducible rfl
                  rotate_left
                  · simp only [Act.put, List.setIfInBounds_toArray, List.set_cons_zero, List.set_cons_succ, i64_w, i32_w]
                    rfl
                  refine pure_ (i := 34) (N := some 226) (v := ?_) (a' := ?_) #[true, true, true, true, true, true, true, true, true, true, true, true, true, true, true, true, true, true, true, true, true, true, true, true, true, true, true, true, true, true, true, true, true, true, true, false, false, false, false, false, false, false, false, false, false, false, false] rfl rfl (by kernel_rfl) (fun _ _ _ h => h) (Or.inl ⟨by rfl, ?_⟩) ?_ ?_
                  rotate_left
                  · intro w'
                    go_simp
                    with_reducible rfl
                  rotate_left
                  · simp only [Act.put, List.setIfInBounds_toArray, List.set_cons_zero, List.set_cons_succ, i64_w, i32_w]
                    rfl
                  refine pure_ (i := 35) (N := some 227) (v := ?_) (a' := ?_) #[true, true, true, true, true, true, true, true, true, true, true, true, true, true, true, true, true, true, true, true, true, true, true, true, true, true, true, true, true, true, true, true, true, true, true, true, false, false, false, false, false, false, false, false, false, false, false] rfl rfl (by kernel_rfl) (fun _ _ _ h => h) (Or.inl ⟨by rfl, ?_⟩) ?_ ?_
                  rotate_left
                  · intro w'
                    go_simp
                    with_reducible rfl
                  rotate_left
                  · simp only [Act.put, List.setIfInBounds_toArray, List.set_cons_zero, List.set_cons_succ, i64_w, i32_w]
                    rfl
                  refine pure_ (i := 36) (N := some 228) (v := ?_) (a' := ?_) #[true, true, true, true, true, true, true, true, true, true, true, true, true, true, true, true, true, true, true, true, true, true, true, true, true, true, true, true, true, true, true, true, true, true, true, true, true, false, false, false, false, false, false, false, false, false, false] rfl rfl (by kernel_rfl) (fun _ _ _ h => h) (Or.inl ⟨by rfl, ?_⟩) ?_ ?_
                  rotate_left
                  · intro w'
                    go_simp
                    with_reducible rfl
                  rotate_left
                  · simp only [Act.put, List.setIfInBounds_toArray, List.set_cons_zero, List.set_cons_succ, i64_w, i32_w]
                    rfl
                  refine pure_ (i := 37) (N := some 229) (v := ?_) (a' := ?_) #[true, true, true, true, true, true, true, true, true, true, true, true, true, true, true, true, true, true, true, true, true, true, true, true, true, true, true, true, true, true, true, true, true, true, true, true, true, true, false, false, false, false, false, false, false, false, false] rfl rfl (by kernel_rfl) (fun _ _ _ h => h) (Or.inl ⟨by rfl, ?_⟩) ?_ ?_
                  rotate_left
                  · intro w'
                    go_simp
                    with_reducible rfl
                  rotate_left
                  · simp only [Act.put, List.setIfInBounds_toArray, List.set_cons_zero, List.set_cons_succ, i64_w, i32_w]
                    rfl
                  refine pure_ (i := 38) (N := some 230) (v := ?_) (a' := ?_) #[true, true, true, true, true, true, true, true, true, true, true, true, true, true, true, true, true, true, true, true, true, true, true, true, true, true, true, true, true, true, true, true, true, true, true, true, true, true, true, false, false, false, false, false, false, false, false] rfl rfl (by kernel_rfl) (fun _ _ _ h => h) (Or.inl ⟨by rfl, ?_⟩) ?_ ?_
                  rotate_left
                  · intro w'
                    go_simp
                    with_reducible rfl
                  rotate_left
                  · simp only [Act.put, List.setIfInBounds_toArray, List.set_cons_zero, List.set_cons_succ, i64_w, i32_w]
                    rfl
                  refine pure_ (i := 39) (N := some 231) (v := ?_) (a' := ?_) #[true, true, true, true, true, true, true, true, true, true, true, true, true, true, true, true, true, true, true, true, true, true, true, true, true, true, true, true, true, true, true, true, true, true, true, true, true, true, true, true, false, false, false, false, false, false, false] rfl rfl (by kernel_rfl) (fun _ _ _ h => h) (Or.inl ⟨by rfl, ?_⟩) ?_ ?_
                  rotate_left
                  · intro w'
                    go_simp
                    with_reducible rfl
                  rotate_left
                  · simp only [Act.put, List.setIfInBounds_toArray, List.set_cons_zero, List.set_cons_succ, i64_w, i32_w]
                    rfl
                  refine pure_ (i := 41) (N := some 233) (v := ?_) (a' := ?_) #[true, true, true, true, true, true, true, true, true, true, true, true, true, true, true, true, true, true, true, true, true, true, true, true, true, true, true, true, true, true, true, true, true, true, true, true, true, true, true, true, false, true, false, false, false, false, false] rfl rfl (by kernel_rfl) (fun _ _ _ h => h) (Or.inl ⟨by rfl, ?_⟩) ?_ ?_
                  rotate_left
                  · intro w'
                    go_simp
                    with_reducible rfl
                  rotate_left
                  · simp only [Act.put, List.setIfInBounds_toArray, List.set_cons_zero, List.set_cons_succ, i64_w, i32_w]
                    rfl
                  refine pure_ (i := 42) (N := some 234) (v := ?_) (a' := ?_) #[true, true, true, true, true, true, true, true, true, true, true, true, true, true, true, true, true, true, true, true, true, true, true, true, true, true, true, true, true, true, true, true, true, true, true, true, true, true, true, true, false, true, true, false, false, false, false] rfl rfl (by kernel_rfl) (fun _ _ _ h => h) (Or.inl ⟨by rfl, ?_⟩) ?_ ?_
                  rotate_left
                  · intro w'
                    go_simp
                    with_reducible rfl
                  rotate_left
                  · simp only [Act.put, List.setIfInBounds_toArray, List.set_cons_zero, List.set_cons_succ, i64_w, i32_w]
                    rfl
                  refine take_ (i := 40) (N := some 232) (v := ?_) (a' := ?_) #[true, true, true, true, true, true, true, true, true, true, true, true, true, true, true, true, true, true, true, true, true, true, true, true, true, true, true, true, true, true, true, true, true, true, true, true, true, true, true, true, true, true, true, false, false, false, false] rfl rfl (by kernel_rfl) (fun _ _ _ h => h) (Or.inl ⟨by rfl, ?_⟩) hHeld ?_ ?_
                  rotate_left
                  · rintro w' ⟨s0, s1, s2, s3, s4, s5, s6, s7, s8, s9⟩
                    go_simp
                    with_reducible rfl
                  rotate_left
                  · simp only [Act.put, List.setIfInBounds_toArray, List.set_cons_zero, List.set_cons_succ, i64_w, i32_w]
                    rfl
                  refine take_ (i := 43) (N := some 235) (v := ?_) (a' := ?_) #[true, true, true, true, true, true, true, true, true, true, true, true, true, true, true, true, true, true, true, true, true, true, true, true, true, true, true, true, true, true, true, true, true, true, true, true, true, true, true, true, true, true, true, true, false, false, false] rfl rfl (by kernel_rfl) (fun _ _ _ h => h) (Or.inl ⟨by rfl, ?_⟩) hHeld ?_ ?_
                  rotate_left
                  · rintro w' ⟨s0, s1, s2, s3, s4, s5, s6, s7, s8, s9⟩
                    go_simp
                    with_reducible rfl
                  rotate_left
                  · simp only [Act.put, List.setIfInBounds_toArray, List.set_cons_zero, List.set_cons_succ, i64_w, i32_w]
                    rfl
                  refine pure_ (i := 44) (N := some 236) (v := ?_) (a' := ?_) #[true, true, true, true, true, true, true, true, true, true, true, true, true, true, true, true, true, true, true, true, true, true, true, true, true, true, true, true, true, true, true, true, true, true, true, true, true, true, true, true, true, true, true, true, true, false, false] rfl rfl (by kernel_rfl) (fun _ _ _ h => h) (Or.inl ⟨by rfl, ?_⟩) ?_ ?_
                  rotate_left
                  · intro w'
                    go_simp
                    with_reducible rfl
                  rotate_left
                  · simp only [Act.put, List.setIfInBounds_toArray, List.set_cons_zero, List.set_cons_succ, i64_w, i32_w]
                    rfl
                  refine pure_ (i := 45) (N := some 237) (v := ?_) (a' := ?_) #[true, true, true, true, true, true, true, true, true, true, true, true, true, true, true, true, true, true, true, true, true, true, true, true, true, true, true, true, true, true, true, true, true, true, true, true, true, true, true, true, true, true, true, true, true, true, false] rfl rfl (by kernel_rfl) (fun _ _ _ h => h) (Or.inl ⟨by rfl, ?_⟩) ?_ ?_
                  rotate_left
                  · intro w'
                    go_simp
                    with_reducible rfl
                  rotate_left
                  · simp only [Act.put, List.setIfInBounds_toArray, List.set_cons_zero, List.set_cons_succ, i64_w, i32_w]
                    rfl
                  refine pure_ (i := 46) (N := some 4) (v := ?_) (a' := ?_) #[true, true, true, true, true, true, true, true, true, true, true, true, true, true, true, true, true, true, true, true, true, true, true, true, true, true, true, true, true, true, true, true, true, true, true, true, true, true, true, true, true, true, true, true, true, true, true] rfl rfl (by kernel_rfl) (fun _ _ _ h => h) (Or.inl ⟨by rfl, ?_⟩) ?_ ?_
                  rotate_left
                  · intro w'
                    go_simp
                    with_reducible rfl
                  rotate_left
                  · simp only [Act.put, List.setIfInBounds_toArray, List.set_cons_zero, List.set_cons_succ, i64_w, i32_w]
                    rfl
                  refine done_ (by kernel_rfl) ?_
                  go_wp2
                  go_ret
                  exact ⟨rfl, below_drew1 (below_drew1 HB.out)⟩
              · exact absurd H (by simp)
def laws_FnTori.Pure : Prop := ∀ (l0 : List Int) (l1 : List Int), l0.length ≤ maxLen → l0.length * 1 ≤ 140737488351232 → (∀ x ∈ l0, (Lit.int .u8 x).wf = true) → l1.length ≤ maxLen → l1.length * 1 ≤ 140737488351232 → (∀ x ∈ l1, (Lit.int .u8 x).wf = true) → ∃ k, laws_FnTori.f k l0 l1 = some true
theorem laws_FnTori.walk (P : laws_FnTori.Pure) (a0 : Option Addr) (len0 cap0 : Nat) (z0 : List Int) (a1 : Option Addr) (len1 cap1 : Nat) (z1 : List Int) (w : World) (w0 : (a0 = none ∧ len0 = 0 ∧ cap0 = 0 ∧ z0 = []) ∨ ∃ x, a0 = some x ∧ len0 ≤ cap0 ∧ cap0 ≤ maxLen ∧ z0.length = cap0 ∧ (∀ i, i < z0.length → w.cell? (x.add i) = some (.int .u8 (z0.getD i 0))) ∧ ∀ n ∈ z0, (Lit.int .u8 n).wf = true) (y0 : len0 * 1 ≤ 140737488351232) (w1 : (a1 = none ∧ len1 = 0 ∧ cap1 = 0 ∧ z1 = []) ∨ ∃ x, a1 = some x ∧ len1 ≤ cap1 ∧ cap1 ≤ maxLen ∧ z1.length = cap1 ∧ (∀ i, i < z1.length → w.cell? (x.add i) = some (.int .u8 (z1.getD i 0))) ∧ ∀ n ∈ z1, (Lit.int .u8 n).wf = true) (y1 : len1 * 1 ≤ 140737488351232) :
    Calls Try.prog 3 #[.slice a0 len0 cap0, .slice a1 len1 cap1] w fun e w' => e = .returned (.bool true) ∧ Below w.heap.size w w' := by
  obtain ⟨l0, rfl, hr0, hm0, hw0, hc0⟩ := ReadsInt.ofRowC w0
  obtain ⟨l1, rfl, hr1, hm1, hw1, hc1⟩ := ReadsInt.ofRowC w1
  obtain ⟨k, h⟩ := P l0 l1 hm0 y0 hw0 hm1 y1 hw1
  refine (laws_FnTori.calls k _ _ l0 _ _ l1 true w (Kd.C_of_reads (d := (0 : Int)) (h1 := fun _ => rfl) hr0) hc0 (Kd.C_of_reads (d := (0 : Int)) (h1 := fun _ => rfl) hr1) hc1 h).mono ?_
  rintro e w' ⟨rfl, hd⟩
  exact ⟨rfl, hd⟩

end Go.Proofs.Ytnbflbkneeageaa.PFnTori
