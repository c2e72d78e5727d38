-- Written for this claim by a copy of the print that meets some functions by contracts of this session.
import Derived.Test.YtfbafdlgnjkioaaPFnExactFirstTorusx0
import Derived.Test.YtfbafdlgnjkioaaPFnExactFirstTorusx1
import Derived.Test.YtfbafdlgnjkioaaPFnExactFirstTorusx4
import Derived.Test.YtfbafdlgnjkioaaPFnExactFirstTorusx5
namespace Go.Proofs.Ytfbafdlgnjkioaa.PFnExactFirstTorus
open Go.RowKit Go.Proofs.YtfbafdlgnjkioaaW.PrintWords Go.Proofs.YtfbafdlgnjkioaaW.PrintLast Go.Proofs.YtfbafdlgnjkioaaW.PrintMore
attribute [local go_sem] max2_int min2_int max_two min_two max_three min_three max_four min_four   -- for this text's walks alone
set_option linter.unusedVariables false
set_option linter.unusedSimpArgs false

/-! ### impl_copied: function 90 -/
def impl_copied.f (l0 : List Int) : Option (List Int) := (some (([] : List Int) : List Int)).bind fun y198 => (if y198.length + l0.length < 17592186044416 then (some (y198 ++ l0)) else (none))
set_option maxHeartbeats 8000000 in
set_option maxRecDepth 100000 in
theorem impl_copied.calls (A0 : Option Addr) (c0 : Nat) (l0 : List Int) (r : List Int) (w : World) (hr0 : Kd.C (Kd.int .i64) w A0 l0.length l0) (hc0 : l0.length ≤ c0) (h : impl_copied.f l0 = some r) :
    Calls Try.prog 90 #[.slice A0 l0.length c0] w fun e w' => ∃ v0_ : Value, e = .returned (v0_) ∧ Kd.R (Kd.int .i64) 3 w' w.heap.size (fun _ => True) v0_ r ∧ Below w.heap.size w w' := by
  have HR0 := Aside0.mk hr0
  have HC0 := Aside0.mk hc0
  clear hr0 hc0
  have HB := Aside0.mk (Below.refl w.heap.size w)
  have H : ((some (([] : List Int) : List Int)).bind fun y198 => (if y198.length + l0.length < 17592186044416 then (some (y198 ++ l0)) else (none))) = some r := h
  clear h
  obtain ⟨y198, hy198⟩ : ∃ y_ : List Int, y_ = (([] : List Int)) := ⟨_, rfl⟩
  replace H : (if y198.length + l0.length < 17592186044416 then (some (y198 ++ l0)) else (none)) = some r := by first | (rw [hy198]; with_reducible exact H) | (have H2_ := (Option.bind_some _ _).symm.trans H; rw [hy198]; with_reducible exact H2_) | (have H2_ := (Option.bind_some _ _).symm.trans H; with_reducible exact H2_) | with_reducible exact H | (rw [hy198]; exact H) | exact H
  have Ny198 := Aside0.mk hy198
  clear hy198
  by_cases c2 : y198.length + l0.length < 17592186044416
  · rw [if_pos c2] at H
    have LMc2 := Aside0.mk c2
    clear c2
    obtain ⟨y201, hy201⟩ : ∃ y_ : List Int, y_ = (y198 ++ l0) := ⟨_, rfl⟩
    replace H : (some y201) = some r := by first | (rw [hy201]; with_reducible exact H) | (have H2_ := (Option.bind_some _ _).symm.trans H; rw [hy201]; with_reducible exact H2_) | (have H2_ := (Option.bind_some _ _).symm.trans H; with_reducible exact H2_) | with_reducible exact H | (rw [hy201]; exact H) | exact H
    have Ny201 := Aside0.mk hy201
    clear hy201
    obtain rfl := Option.some.inj H
    go_enter Try.func90, Try.ntmps90
    go_wp2_with (first | ((with_reducible refine gate_dst (N := 3) rfl ?_); refine Kd.R_lit (Kd.int .i64) _ 3 ?hg (N := 3) ?hd (xs := ([] : List Int)) (inner := []) (ok := fun _ => True) (okp := fun _ => True) ?hr ?hp (fun _ hk => hk) trivial (Below.refl _ _) (Nat.le_refl _) (by simp) ?_; (case hd => rfl); (case hg => rfl); (case hr => first | (go_simp; done) | (go_simp; rfl)); (case hp => exact (Reps.none _ _)); intro v199 w3 ho4 hb hg_ hnew_; clear hg_ hnew_; (first | rw [← Ny198.out] at ho4 | (simp only [Int.reduceToNat] at ho4; rw [← Ny198.out] at ho4)); have n0_ := Aside0.mk (Kd.R_lower ho4 (below_size (by repeat (first | (with_reducible first | exact HB.out | apply below_alloc | apply pw_below_drewN | apply below_drew1) | exact HB.out)))); have n1_ := Aside0.mk (below_step (by repeat (first | (with_reducible first | exact HB.out | apply below_alloc | apply pw_below_drewN | apply below_drew1) | exact HB.out)) hb); clear HB; have HO200 := n0_; have HB := n1_; clear n0_ n1_; clear hb ho4) | ((with_reducible refine gate_builtin (b := .append) (xs := #[.tmp 3, .tmp 4]) rfl ?_); at_builtin; refine Kd.R_append_rows (Kd.int .i64) (w0 := w) w.heap.size rfl (.tmp 3) (.tmp 4) 44 3 (.int .i64 0) 8 rfl Try.underlying44 info3 rfl (by decide) (by omega) v199 y198 l0 _ _ _ (fun _ => True) (fun _ => False) rfl rfl ?aO ?aR (fun _ _ h => h) (fun _ h => h.elim) ?aF ?aB ?aS ?aL ?_; (case aR => repeat (first | exact (Kd.C_below HR0.out HB.out) | (with_reducible refine Kd.C_alloc ?_ _) | (with_reducible refine Kd.C_drewN ?_ _) | (with_reducible refine Kd.C_drew ?_))); (case aB => exact (by repeat (first | (with_reducible first | exact HB.out | apply below_alloc | apply pw_below_drewN | apply below_drew1) | exact HB.out))); (case aF => exact (fun _ _ => trivial)); (case aO => exact (by (with_reducible repeat (first | apply Kd.R_alloc | apply Kd.R_drewN | apply Kd.R_drew)); exact HO200.out)); (case aS => exact (below_size (by repeat (first | (with_reducible first | exact HB.out | apply below_alloc | apply pw_below_drewN | apply below_drew1) | exact HB.out)))); (case aL => have := LMc2.out; omega); intro v202 w5 ho hb hg hat; rw [← Ny201.out] at ho; have n0_ := Aside0.mk (hb); have n1_ := Aside0.mk (ho); clear HB; clear HO200; have HB := n0_; have HO203 := n1_; clear n0_ n1_; clear ho hb hg hat))
    go_ret
    exact ⟨_, by first | rfl | (simp [errW_none, errW_some] <;> rfl) | (simp [*, errW_none, errW_some] <;> rfl), by (with_reducible repeat (first | apply Kd.R_alloc | apply Kd.R_drewN | apply Kd.R_drew)); exact HO203.out, by repeat (first | (with_reducible first | exact HB.out | apply below_alloc | apply pw_below_drewN | apply below_drew1) | exact HB.out)⟩
  · rw [if_neg c2] at H
    exact absurd H (by simp)

/-! ### impl_torusOf: function 77 -/
def impl_torusOf.l0 : Nat → Int → List Int → Int → Int → List (List Int) → Option ((List (List Int)))
  | 0, _, _, _, _, _ => none
  | k + 1, x0, x1, x8, x9, x206000 => if x9 < x8 then (if x0 = 0 then (none) else (if 0 ≤ (wrap64 (Int.tdiv (wrap64 (x9 * 16)) x0)) then (if (wrap64 (Int.tdiv (wrap64 (x9 * 16)) x0)) ≤ (wrap64 (Int.tdiv (wrap64 ((wrap64 (x9 + 1)) * 16)) x0)) then (if (wrap64 (Int.tdiv (wrap64 ((wrap64 (x9 + 1)) * 16)) x0)) ≤ (x1.length : Int) then ((impl_copied.f ((x1.take ((wrap64 (Int.tdiv (wrap64 ((wrap64 (x9 + 1)) * 16)) x0)) : Int).toNat).drop ((wrap64 (Int.tdiv (wrap64 (x9 * 16)) x0)) : Int).toNat)).bind fun t207 => (if x206000.length < 5864062014805 then (impl_torusOf.l0 k x0 x1 x8 (wrap64 (x9 + 1)) (x206000 ++ [t207])) else (none))) else (none)) else (none)) else (none))) else (some x206000)
def impl_torusOf.f (k : Nat) (a0 : Int) (l1 : List Int) : Option ((List (List Int))) := impl_torusOf.l0 k a0 l1 a0 0 ([] : List (List Int))
theorem impl_torusOf.mono_l : ∀ k, (∀ y0 y1 y2 y3 y4, LeO (impl_torusOf.l0 k y0 y1 y2 y3 y4) (impl_torusOf.l0 (k + 1) y0 y1 y2 y3 y4))
  | 0 => fun _ _ _ _ _ r h => by simp [impl_torusOf.l0] at h
  | k + 1 => by
    have ih0 := impl_torusOf.mono_l k
    · intro y0 y1 y2 y3 y4
      unfold impl_torusOf.l0
      repeat' first
      | (with_reducible exact ih0 _ _ _ _ _)
      | (with_reducible exact LeO.refl _)
      | (with_reducible exact LeO.none _)
      | (with_reducible refine LeO.ite ?_ ?_)
      | (with_reducible refine LeO.bind ?_ (fun _ => ?_))
      | exact ih0 _ _ _ _ _
      | exact LeO.none _
      | refine LeO.ite ?_ ?_
      | refine LeO.bind ?_ (fun _ => ?_)
theorem impl_torusOf.mono : ∀ a0 a1 k, LeO (impl_torusOf.f k a0 a1) (impl_torusOf.f (k + 1) a0 a1) := by
  intro a0 a1 k
  have ih0 := impl_torusOf.mono_l k
  unfold impl_torusOf.f
  repeat' first
      | (with_reducible exact ih0 _ _ _ _ _)
      | (with_reducible exact LeO.refl _)
      | (with_reducible exact LeO.none _)
      | (with_reducible refine LeO.ite ?_ ?_)
      | (with_reducible refine LeO.bind ?_ (fun _ => ?_))
      | exact ih0 _ _ _ _ _
      | exact LeO.none _
      | refine LeO.ite ?_ ?_
      | refine LeO.bind ?_ (fun _ => ?_)
def impl_torusOf.T5 : Bool × List (List Nat × List Nat) := (true, [([], []), ([0], [0]), ([], []), ([], []), ([3], [3]), ([], []), ([4, 5], [4, 5]), ([], []), ([7], [7]), ([8], [8]), ([], []), ([9, 10], [9, 10]), ([2, 6, 11], [2, 6, 11]), ([12], [12]), ([13], [13]), ([1, 14, 13], [1, 14]), ([0, 1, 2, 3, 4, 5, 6, 7, 8, 9, 10, 11, 12, 13, 14, 15], []), ([16, 15, 15, 0, 1, 2, 3, 4, 5, 6, 7, 8, 9, 10, 11, 12, 13, 14, 15], [15, 16])])
def impl_torusOf.B5 : List Nat := [0, 1, 0, 0, 8, 0, 56, 0, 128, 384, 0, 1920, 4092, 8188, 16380, 32767, 65535, 131071]
theorem impl_torusOf.tab5 : rtab .any (opsOf Try.f77 5) = impl_torusOf.T5 := by kernel_rfl
theorem impl_torusOf.bits5 : waitsOk impl_torusOf.T5.2 impl_torusOf.B5 = true := by kernel_rfl
set_option maxHeartbeats 8000000 in
set_option maxRecDepth 100000 in
theorem impl_torusOf.calls (k : Nat) (a0 : Int) (A1 : Option Addr) (c1 : Nat) (l1 : List Int) (r : List (List Int)) (w : World) (hr1 : Kd.C (Kd.int .i64) w A1 l1.length l1) (hc1 : l1.length ≤ c1) (h : impl_torusOf.f k a0 l1 = some r) :
    Calls Try.prog 77 #[.int .i64 a0, .slice A1 l1.length c1] w fun e w' => ∃ v0_ : Value, e = .returned (.agg #[v0_]) ∧ Kd.S (Kd.slice 3 (Kd.int .i64)) 44 w' w.heap.size (fun _ => True) v0_ r ∧ Below w.heap.size w w' := by
  have hu26 := Try.underlying26
  have HR1 := Aside0.mk hr1
  have HC1 := Aside0.mk hc1
  clear hr1 hc1
  have HB := Aside0.mk (Below.refl w.heap.size w)
  have H : (impl_torusOf.l0 k a0 l1 a0 0 ([] : List (List Int))) = some r := h
  clear h
  have H' := Aside0.mk H
  clear H
  go_enter Try.func77, Try.ntmps77
  go_wp2_with (first | ((with_reducible refine gate_dst (N := 4) rfl ?_); refine box_event ?hg (N := 4) ?hd (cs := #[.slice none 0 0]) (t := 26) ?hr ?_; (case hd => rfl); (case hg => rfl); (case hr => first | (go_simp; done) | (go_simp; rfl)); intro gb204 hg w3 hbox hb; have n0_ := Aside0.mk (below_step (by repeat (first | (with_reducible first | exact HB.out | apply below_alloc | apply pw_below_drewN | apply below_drew1) | exact HB.out)) hb); have n1_ := Aside0.mk (hbox); have n2_ := Aside0.mk ((by rw [hg]; exact (below_size (by repeat (first | (with_reducible first | exact HB.out | apply below_alloc | apply pw_below_drewN | apply below_drew1) | exact HB.out))) : w.heap.size ≤ gb204)); have n3_ := Aside0.mk ((by rw [hg]; exact (below_size (by repeat (first | (with_reducible first | exact HB.out | apply below_alloc | apply pw_below_drewN | apply below_drew1) | exact HB.out))) : w.heap.size ≤ gb204)); clear HB; have HB := n0_; have BK204 := n1_; have GW204 := n2_; have GE204 := n3_; clear n0_ n1_ n2_ n3_; clear hb hbox hg) | ((with_reducible refine gate_dst (N := 5) rfl ?_); refine box_event ?hg (N := 5) ?hd (cs := #[.slice none 0 0]) (t := 26) ?hr ?_; (case hd => rfl); (case hg => rfl); (case hr => first | (go_simp; done) | (go_simp; rfl)); intro gb205 hg w4 hbox hb; have n0_ := Aside0.mk (blk_below (g := gb204) (o := .cells #[.slice none 0 0] 26 (0, 0)) (by (with_reducible repeat (first | refine blk_drewN ?_ _ | refine blk_drew ?_ | refine blk_alloc ?_ _)); exact BK204.out) hb); have n1_ := Aside0.mk (below_step (by repeat (first | (with_reducible first | exact HB.out | apply below_alloc | apply pw_below_drewN | apply below_drew1 | refine below_set ?_ GE204.out) | exact HB.out)) hb); have n2_ := Aside0.mk (hbox); have n3_ := Aside0.mk ((by rw [hg]; exact (below_size (by repeat (first | (with_reducible first | exact HB.out | apply below_alloc | apply pw_below_drewN | apply below_drew1 | refine below_set ?_ GE204.out) | exact HB.out))) : w.heap.size ≤ gb205)); have n4_ := Aside0.mk ((by rw [hg]; exact (below_size (by repeat (first | (with_reducible first | exact HB.out | apply below_alloc | apply pw_below_drewN | apply below_drew1 | refine below_set ?_ GE204.out) | exact HB.out))) : w.heap.size ≤ gb205)); have n5_ := Aside0.mk ((by rw [hg]; exact Nat.ne_of_lt (blk_lt (g := gb204) (o := .cells #[.slice none 0 0] 26 (0, 0)) (by (with_reducible repeat (first | refine blk_drewN ?_ _ | refine blk_drew ?_ | refine blk_alloc ?_ _)); exact BK204.out)) : gb204 ≠ gb205)); have n6_ := Aside0.mk ((by rw [hg]; exact Nat.ne_of_gt (blk_lt (g := gb204) (o := .cells #[.slice none 0 0] 26 (0, 0)) (by (with_reducible repeat (first | refine blk_drewN ?_ _ | refine blk_drew ?_ | refine blk_alloc ?_ _)); exact BK204.out)) : gb205 ≠ gb204)); clear BK204; clear HB; have BK204 := n0_; have HB := n1_; have BK205 := n2_; have GW205 := n3_; have GE205 := n4_; have NB204_205 := n5_; have NB205_204 := n6_; clear n0_ n1_ n2_ n3_ n4_ n5_ n6_; clear hb hbox hg; have hnb5 := NB205_204.out; have hnc5 := NB204_205.out; have hcz6_0 : w4.cell? ⟨gb205, 0, none⟩ = some (.slice none 0 0) := (blk_cell BK205.out 0).trans rfl; have hfz6_0 := blk_frozen BK205.out 0))
  go_loopg [9] k (fun kq v9 w' => ∃ (x9_1 : Int) (x206000_1 : List (List Int)) (u206000 : Value), v9 = .int .i64 x9_1 ∧ Aside0 (impl_torusOf.l0 kq a0 l1 a0 x9_1 x206000_1 = some r) ∧ Aside0 (kq ≤ k) ∧ Aside0 (Kd.S (Kd.slice 3 (Kd.int .i64)) 44 w' w.heap.size (fun _ => True) u206000 x206000_1) ∧ Aside0 (w'.heap[gb204]? = some (.cells #[(.slice none 0 0)] 26 (0, 0))) ∧ Aside0 (w'.heap[gb205]? = some (.cells #[u206000] 26 (0, 0))) ∧ Aside0 (Below w.heap.size w w'))
  case atStart => exact ⟨(0), (([] : List (List Int))), (.slice none 0 0), (by first | rfl | (simp; done) | (simp [*]; done)), H', ⟨Nat.le_refl _⟩, ⟨by first | exact Kd.S_nil _ _ _ _ _ | exact Kd.N_nil _ _ _ _ _ | exact Kd.V_nil _ _ _ _ _ | exact Kd.Q_nil _ _ _ _ _ | exact Kd.R_nil _ _ _ _ _⟩, ⟨by (with_reducible repeat (first | refine blk_drewN ?_ _ | refine blk_drew ?_ | refine blk_alloc ?_ _)); refine blk_far ?_ NB204_205.out _; (with_reducible repeat (first | refine blk_drewN ?_ _ | refine blk_drew ?_ | refine blk_alloc ?_ _)); exact BK204.out⟩, ⟨by (with_reducible repeat (first | refine blk_drewN ?_ _ | refine blk_drew ?_ | refine blk_alloc ?_ _)); refine blk_put (cs := #[.slice none 0 0]) ?_ 0 _ rfl; (with_reducible repeat (first | refine blk_drewN ?_ _ | refine blk_drew ?_ | refine blk_alloc ?_ _)); exact BK205.out⟩, ⟨by repeat (first | (with_reducible first | exact HB.out | apply below_alloc | apply pw_below_drewN | apply below_drew1 | refine below_set ?_ GE204.out | refine below_set ?_ GE205.out) | exact HB.out)⟩⟩
  case round =>
    clear H'
    try clear c1
    try clear p2
    try clear c5
    try clear hcz6_0
    try clear hfz6_0
    obtain ⟨x9_1, x206000_1, u206000, rfl, HA, HK1, HO_206000, BK204, BK205, HB⟩ := hrel
    cases gk with
    | zero => exact absurd HA.out (by simp [impl_torusOf.l0])
    | succ k1 =>
      have H := HA.out
      clear HA
      simp only [impl_torusOf.l0] at H
      by_cases c7 : x9_1 < a0
      · rw [if_pos c7] at H
        have c7b0 : decide (x9_1 < a0) = true := decide_eq_true c7
        clear c7
        by_cases c8 : a0 = 0
        · rw [if_pos c8] at H
          exact absurd H (by simp)
        · rw [if_neg c8] at H
          have c8b0 : (a0 == 0) = false := beq_eq_false_iff_ne.mpr c8
          have c8b1 : (a0 != 0) = true := bne_iff_ne.mpr c8
          obtain ⟨ji9, hji9⟩ : ∃ j_ : Int, (wrap64 (Int.tdiv (wrap64 (x9_1 * 16)) a0)) = j_ := ⟨_, rfl⟩
          replace H : (if 0 ≤ (ji9) then (if (ji9) ≤ (wrap64 (Int.tdiv (wrap64 ((wrap64 (x9_1 + 1)) * 16)) a0)) then (if (wrap64 (Int.tdiv (wrap64 ((wrap64 (x9_1 + 1)) * 16)) a0)) ≤ (l1.length : Int) then ((impl_copied.f ((l1.take ((wrap64 (Int.tdiv (wrap64 ((wrap64 (x9_1 + 1)) * 16)) a0)) : Int).toNat).drop ((ji9) : Int).toNat)).bind fun t207 => (if x206000_1.length < 5864062014805 then (impl_torusOf.l0 k1 a0 l1 a0 (wrap64 (x9_1 + 1)) (x206000_1 ++ [t207])) else (none))) else (none)) else (none)) else (none)) = some r := by first | (rw [hji9] at H; exact H) | (simp only [hji9] at H ⊢; exact H)
          have hji9w : (IntKind.i64.wrap (Int.tdiv (wrap64 (x9_1 * 16)) a0)) = ji9 := (i64_w _).trans hji9
          by_cases c10 : 0 ≤ (ji9)
          · rw [if_pos c10] at H
            have c10b0 := eq_true c10
            have c10b1 : decide (0 ≤ (ji9)) = true := decide_eq_true c10
            clear c10
            by_cases c11 : (ji9) ≤ (wrap64 (Int.tdiv (wrap64 ((wrap64 (x9_1 + 1)) * 16)) a0))
            · rw [if_pos c11] at H
              have c11b0 := eq_true c11
              have c11b1 : decide ((ji9) ≤ (wrap64 (Int.tdiv (wrap64 ((wrap64 (x9_1 + 1)) * 16)) a0))) = true := decide_eq_true c11
              by_cases c12 : (wrap64 (Int.tdiv (wrap64 ((wrap64 (x9_1 + 1)) * 16)) a0)) ≤ (l1.length : Int)
              · rw [if_pos c12] at H
                have c12b0 := eq_true c12
                have c12b1 : decide ((wrap64 (Int.tdiv (wrap64 ((wrap64 (x9_1 + 1)) * 16)) a0)) ≤ (l1.length : Int)) = true := decide_eq_true c12
                replace H := Option.bind_eq_some_iff.mp H
                obtain ⟨t207, A130, H⟩ := H
                replace H : (if x206000_1.length < 5864062014805 then (impl_torusOf.l0 k1 a0 l1 a0 (wrap64 (x9_1 + 1)) (x206000_1 ++ [t207])) else (none)) = some r := H
                have A13 := Aside0.mk A130
                clear A130
                by_cases c14 : x206000_1.length < 5864062014805
                · rw [if_pos c14] at H
                  have LMc14 := Aside0.mk c14
                  clear c14
                  obtain ⟨y210, hy210⟩ : ∃ y_ : List (List Int), y_ = (x206000_1 ++ [t207]) := ⟨_, rfl⟩
                  replace H : (impl_torusOf.l0 k1 a0 l1 a0 (wrap64 (x9_1 + 1)) y210) = some r := by first | (rw [hy210]; with_reducible exact H) | (have H2_ := (Option.bind_some _ _).symm.trans H; rw [hy210]; with_reducible exact H2_) | (have H2_ := (Option.bind_some _ _).symm.trans H; with_reducible exact H2_) | with_reducible exact H | (rw [hy210]; exact H) | exact H
                  have Ny210 := Aside0.mk hy210
                  clear hy210
                  have H' := Aside0.mk H
                  clear H
                  try go_wp2
                  have n0_ := Aside0.mk (Kd.S_drew HO_206000.out)
                  have n1_ := Aside0.mk (blk_drew BK204.out)
                  have n2_ := Aside0.mk (blk_drew BK205.out)
                  have n3_ := Aside0.mk (below_drew1 HB.out)
                  clear HO_206000
                  clear BK204
                  clear BK205
                  clear HB
                  have HO_206000 := n0_
                  have BK204 := n1_
                  have BK205 := n2_
                  have HB := n3_
                  clear n0_ n1_ n2_ n3_
                  obtain ⟨i016, hi016, _, hsz16, _⟩ := info_parts info3
                  obtain ⟨A16, hcut16, hA16, hC16⟩ := print_mid_of (P := Try.prog) (Value.int .i64) 0 44 3 .i64 .i64 Try.underlying44 hi016 hsz16 A1 c1 l1 (ji9) (wrap64 (Int.tdiv (wrap64 ((wrap64 (x9_1 + 1)) * 16)) a0)) (of_decide_eq_true (by first | (with_reducible assumption) | assumption)) (by first | omega | exact of_decide_eq_true (by first | (with_reducible assumption) | assumption)) (of_decide_eq_true (by first | (with_reducible assumption) | assumption)) HC1.out
                  have HR206 := Aside0.mk (Kd.C_of_reads (h1 := fun _ => rfl) (hA16 _ (Kd.reads_of_C HR1.out)))
                  have HC206 := Aside0.mk hC16
                  clear hA16 hC16 hi016 hsz16
                  refine start_ (n := 18) (S := fun w' => w'.cell? ⟨gb205, 0, none⟩ = some (u206000)) (ds := [17]) #[false, false, false, false, false, false, false, false, false, false, false, false, false, false, false, false, false, false] (by kernel_rfl) rfl rfl ((blk_cell BK205.out 0).trans rfl) (fun hHeld => ?_); refine with_tabW impl_torusOf.tab5 impl_torusOf.bits5 (fun HT_ HW_ => ?_)
                  generalize wr.drew = w15 at HO_206000 BK204 BK205 HB HR206 hHeld ⊢
                  refine pure_ (i := 0) (N := some 12) (v := ?_) (a' := ?_) #[true, false, false, false, false, false, false, false, false, false, false, false, false, false, false, false, false, false] rfl rfl (any_of HT_.out (by kernel_rfl)) (fun _ _ _ h => h) (Or.inl ⟨by rfl, ?_⟩) ?_ ?_
                  rotate_left
                  · intro w'
                    go_simp
                    with_reducible rfl
                  rotate_left
                  · simp only [Act.put, List.setIfInBounds_toArray, List.set_cons_zero, List.set_cons_succ, i64_w, i32_w]
                    rfl
                  refine pure_ (i := 2) (N := some 14) (v := ?_) (a' := ?_) #[true, false, true, false, false, false, false, false, false, false, false, false, false, false, false, false, false, false] rfl rfl (any_of HT_.out (by kernel_rfl)) (fun _ _ _ h => h) (Or.inl ⟨by rfl, ?_⟩) ?_ ?_
                  rotate_left
                  · intro w'
                    go_simp
                    with_reducible rfl
                  rotate_left
                  · simp only [Act.put, List.setIfInBounds_toArray, List.set_cons_zero, List.set_cons_succ, i64_w, i32_w]
                    rfl
                  refine pure_ (i := 3) (N := some 15) (v := ?_) (a' := ?_) #[true, false, true, true, false, false, false, false, false, false, false, false, false, false, false, false, false, false] rfl rfl (any_of HT_.out (by kernel_rfl)) (fun _ _ _ h => h) (Or.inl ⟨by rfl, ?_⟩) ?_ ?_
                  rotate_left
                  · intro w'
                    go_simp
                    with_reducible rfl
                  rotate_left
                  · simp only [Act.put, List.setIfInBounds_toArray, List.set_cons_zero, List.set_cons_succ, i64_w, i32_w]
                    rfl
                  refine pure_ (i := 4) (N := some 16) (v := ?_) (a' := ?_) #[true, false, true, true, true, false, false, false, false, false, false, false, false, false, false, false, false, false] rfl rfl (any_of HT_.out (by kernel_rfl)) (fun _ _ _ h => h) (Or.inl ⟨by rfl, ?_⟩) ?_ ?_
                  rotate_left
                  · intro w'
                    go_simp
                    with_reducible rfl
                  rotate_left
                  · simp only [Act.put, List.setIfInBounds_toArray, List.set_cons_zero, List.set_cons_succ, i64_w, i32_w]
                    rfl
                  refine pure_ (i := 5) (N := some 17) (v := ?_) (a' := ?_) #[true, false, true, true, true, true, false, false, false, false, false, false, false, false, false, false, false, false] rfl rfl (any_of HT_.out (by kernel_rfl)) (fun _ _ _ h => h) (Or.inl ⟨by rfl, ?_⟩) ?_ ?_
                  rotate_left
                  · intro w'
                    go_simp
                    with_reducible rfl
                  rotate_left
                  · simp only [Act.put, List.setIfInBounds_toArray, List.set_cons_zero, List.set_cons_succ, i64_w, i32_w]
                    rfl
                  refine pure_ (i := 6) (N := some 18) (v := ?_) (a' := ?_) #[true, false, true, true, true, true, true, false, false, false, false, false, false, false, false, false, false, false] rfl rfl (any_of HT_.out (by kernel_rfl)) (fun _ _ _ h => h) (Or.inl ⟨by rfl, ?_⟩) ?_ ?_
                  rotate_left
                  · intro w'
                    go_simp
                    with_reducible rfl
                  rotate_left
                  · simp only [Act.put, List.setIfInBounds_toArray, List.set_cons_zero, List.set_cons_succ, i64_w, i32_w]
                    rfl
                  refine pure_ (i := 7) (N := some 19) (v := ?_) (a' := ?_) #[true, false, true, true, true, true, true, true, false, false, false, false, false, false, false, false, false, false] rfl rfl (any_of HT_.out (by kernel_rfl)) (fun _ _ _ h => h) (Or.inl ⟨by rfl, ?_⟩) ?_ ?_
                  rotate_left
                  · intro w'
                    go_simp
                    with_reducible rfl
                  rotate_left
                  · simp only [Act.put, List.setIfInBounds_toArray, List.set_cons_zero, List.set_cons_succ, i64_w, i32_w]
                    rfl
                  refine pure_ (i := 8) (N := some 20) (v := ?_) (a' := ?_) #[true, false, true, true, true, true, true, true, true, false, false, false, false, false, false, false, false, false] rfl rfl (any_of HT_.out (by kernel_rfl)) (fun _ _ _ h => h) (Or.inl ⟨by rfl, ?_⟩) ?_ ?_
                  rotate_left
                  · intro w'
                    go_simp
                    with_reducible rfl
                  rotate_left
                  · simp only [Act.put, List.setIfInBounds_toArray, List.set_cons_zero, List.set_cons_succ, i64_w, i32_w]
                    rfl
                  refine pure_ (i := 9) (N := some 21) (v := ?_) (a' := ?_) #[true, false, true, true, true, true, true, true, true, true, false, false, false, false, false, false, false, false] rfl rfl (any_of HT_.out (by kernel_rfl)) (fun _ _ _ h => h) (Or.inl ⟨by rfl, ?_⟩) ?_ ?_
                  rotate_left
                  · intro w'
                    go_simp
                    with_reducible rfl
                  rotate_left
                  · simp only [Act.put, List.setIfInBounds_toArray, List.set_cons_zero, List.set_cons_succ, i64_w, i32_w]
                    rfl
                  refine pure_ (i := 10) (N := some 22) (v := ?_) (a' := ?_) #[true, false, true, true, true, true, true, true, true, true, true, false, false, false, false, false, false, false] rfl rfl (any_of HT_.out (by kernel_rfl)) (fun _ _ _ h => h) (Or.inl ⟨by rfl, ?_⟩) ?_ ?_
                  rotate_left
                  · intro w'
                    go_simp
                    with_reducible rfl
                  rotate_left
                  · simp only [Act.put, List.setIfInBounds_toArray, List.set_cons_zero, List.set_cons_succ, i64_w, i32_w]
                    rfl
                  refine pure_ (i := 11) (N := some 23) (v := ?_) (a' := ?_) #[true, false, true, true, true, true, true, true, true, true, true, true, false, false, false, false, false, false] rfl rfl (any_of HT_.out (by kernel_rfl)) (fun _ _ _ h => h) (Or.inl ⟨by rfl, ?_⟩) ?_ ?_
                  rotate_left
                  · intro w'
                    go_simp
                    with_reducible rfl
                  rotate_left
                  · simp only [Act.put, List.setIfInBounds_toArray, List.set_cons_zero, List.set_cons_succ, i64_w, i32_w]
                    rfl
                  refine pure_ (i := 12) (N := some 24) (v := ?_) (a' := ?_) #[true, false, true, true, true, true, true, true, true, true, true, true, true, false, false, false, false, false] rfl rfl (any_of HT_.out (by kernel_rfl)) (fun _ _ _ h => h) (Or.inl ⟨by rfl, ?_⟩) ?_ ?_
                  rotate_left
                  · intro w'
                    go_simp
                    with_reducible rfl
                  rotate_left
                  · simp only [Act.put, List.setIfInBounds_toArray, List.set_cons_zero, List.set_cons_succ, i64_w, i32_w]
                    rfl
                  refine take_ (i := 1) (N := some 13) (v := ?_) (a' := ?_) #[true, true, true, true, true, true, true, true, true, true, true, true, true, false, false, false, false, false] rfl rfl (take_ofW HT_.out HW_.out (by kernel_rfl)) (fun _ _ _ h => h) (Or.inl ⟨by rfl, ?_⟩) hHeld ?_ ?_
                  rotate_left
                  · intro w' s0
                    go_simp
                    with_reducible rfl
                  rotate_left
                  · simp only [Act.put, List.setIfInBounds_toArray, List.set_cons_zero, List.set_cons_succ, i64_w, i32_w]
                    rfl
                  refine one_ (i := 13) (N := some 25) #[true, true, true, true, true, true, true, true, true, true, true, true, true, true, false, false, false, false] rfl rfl (one_of HT_.out (by kernel_rfl)) (by decide) (fun K hK => ?_)
                  refine goes_ Try.func90 (by kernel_rfl) rfl #[.slice A16 ((l1.take ((wrap64 (Int.tdiv (wrap64 ((wrap64 (x9_1 + 1)) * 16)) a0)) : Int).toNat).drop ((ji9) : Int).toNat).length (c1 - (ji9).toNat)] (by rfl) rfl rfl (by (try simp only [List.map_toArray, List.map_cons, List.map_nil]); first | done | (rw [show ((l1.take ((wrap64 (Int.tdiv (wrap64 ((wrap64 (x9_1 + 1)) * 16)) a0)) : Int).toNat).drop ((ji9) : Int).toNat).length = ((wrap64 (Int.tdiv (wrap64 ((wrap64 (x9_1 + 1)) * 16)) a0)).toNat - (ji9).toNat) from (by rw [List.length_drop, List.length_take]; have h_ : ((wrap64 (Int.tdiv (wrap64 ((wrap64 (x9_1 + 1)) * 16)) a0)) : Int) ≤ (l1.length : Int) := of_decide_eq_true (by first | (with_reducible assumption) | assumption); omega)] <;> rfl) | (simp only [hji9]; rfl) | rfl | (simp only [List.length_drop, List.length_take]; rfl)) ?_
                  with_reducible refine (impl_copied.calls _ _ ((l1.take ((wrap64 (Int.tdiv (wrap64 ((wrap64 (x9_1 + 1)) * 16)) a0)) : Int).toNat).drop ((ji9) : Int).toNat) t207 _ ?side1 ?side2 A13.out).mono ?_
                  (case side1 => repeat (first | exact (Kd.C_below HR206.out HB.out) | (with_reducible refine Kd.C_alloc ?_ _) | (with_reducible refine Kd.C_drewN ?_ _) | (with_reducible refine Kd.C_drew ?_)))
                  (case side2 => exact HC206.out)
                  rintro e w17 ⟨v208, rfl, ho0, hb⟩
                  refine ⟨_, rfl, ?_⟩
                  have n0_ := Aside0.mk (Kd.S_elder' (by (with_reducible repeat (first | apply Kd.S_alloc | apply Kd.S_drewN | apply Kd.S_drew)); exact HO_206000.out) (Kd.R_base ho0) hb)
                  have n1_ := Aside0.mk (Kd.R_lower ho0 (below_size (by repeat (first | (with_reducible first | exact HB.out | apply below_alloc | apply pw_below_drewN | apply below_drew1 | refine below_set ?_ GE204.out | refine below_set ?_ GE205.out) | exact HB.out))))
                  have n2_ := Aside0.mk (blk_below (g := gb204) (o := .cells #[.slice none 0 0] 26 (0, 0)) (by (with_reducible repeat (first | refine blk_drewN ?_ _ | refine blk_drew ?_ | refine blk_alloc ?_ _)); exact BK204.out) hb)
                  have n3_ := Aside0.mk (blk_below (g := gb205) (o := .cells #[u206000] 26 (0, 0)) (by (with_reducible repeat (first | refine blk_drewN ?_ _ | refine blk_drew ?_ | refine blk_alloc ?_ _)); exact BK205.out) hb)
                  have n4_ := Aside0.mk (below_step (by repeat (first | (with_reducible first | exact HB.out | apply below_alloc | apply pw_below_drewN | apply below_drew1 | refine below_set ?_ GE204.out | refine below_set ?_ GE205.out) | exact HB.out)) hb)
                  clear HO_206000
                  clear BK204
                  clear BK205
                  clear HB
                  have HO_206000 := n0_
                  have HO209 := n1_
                  have BK204 := n2_
                  have BK205 := n3_
                  have HB := n4_
                  clear n0_ n1_ n2_ n3_ n4_
                  (try clear hb)
                  (try clear hb2)
                  (try clear hk)
                  (try clear hi)
                  (try clear ho0)
                  obtain ⟨Ao19, co19, eo19⟩ := Kd.R_slice HO209.out
                  (first | subst eo19 | (injection eo19 with f1_ f2_ f3_; have f4_ := f1_.symm; have f5_ := f3_.symm; clear f1_ f2_ f3_; subst f4_; subst f5_))
                  refine hK.out _ _ ((blk_cell BK205.out 0).trans rfl) (fun hHeld => ?_)
                  clear hK K
                  refine norm_ (a' := ?_) ?_ ?_
                  rotate_left
                  · show Act.put _ (some 25) _ = _
                    simp only [Act.put, List.setIfInBounds_toArray, List.set_cons_zero, List.set_cons_succ, i64_w, i32_w]
                    rfl
                  refine one_ (i := 14) (N := some 26) #[true, true, true, true, true, true, true, true, true, true, true, true, true, true, true, false, false, false] rfl rfl (one_of HT_.out (by kernel_rfl)) (by decide) (fun K hK => ?_)
                  refine value_ (w1 := ?_) (v := ?_) (by rfl) rfl ?_ ?_
                  rotate_left 2
                  · go_simp
                    constructor
                    · rfl
                    · rfl
                  refine hK.out _ _ ((blk_cell (blk_alloc BK205.out _) 0).trans rfl) (fun hHeld => ?_)
                  clear hK K
                  refine norm_ (a' := ?_) ?_ ?_
                  rotate_left
                  · show Act.put _ (some 26) _ = _
                    simp only [Act.put, List.setIfInBounds_toArray, List.set_cons_zero, List.set_cons_succ, i64_w, i32_w]
                    rfl
                  refine one_ (i := 15) (N := some 27) #[true, true, true, true, true, true, true, true, true, true, true, true, true, true, true, true, false, false] rfl rfl (one_of HT_.out (by kernel_rfl)) (by decide) (fun K hK => ?_)
                  refine Kd.S_append_step (Kd.slice 3 (Kd.int .i64)) (w0 := w) w.heap.size (by rfl) (.tmp 13) (.tmp 26) 22 44 (.slice none 0 0) 24 rfl Try.underlying22 info44 rfl (by decide) (by omega) u206000 x206000_1 t207 [.slice Ao19 t207.length co19] (fun _ => True) (fun k_ => some k_ = (.slice Ao19 t207.length co19 : Value).ownBlock) rfl rfl ?aP (fun k_ hk_ => ((Kd.R_mono (ok' := fun k_ => ((fun _ => True)) k_ ∧ some k_ ≠ (u206000 : Value).ownBlock) (Kd.R_apart' (HO209.out) (Kd.S_typed HO_206000.out) (by decide)) (fun k_ hk => ⟨trivial, hk.2⟩))).1 k_ hk_.symm) ?aF ?aO ?aB ?aS ?aL ?_
                  (case aP => exact Kd.M_row (Kd.R_mono (Kd.R_tight rfl (Kd.R_mono (ok' := fun k_ => ((fun _ => True)) k_ ∧ some k_ ≠ (u206000 : Value).ownBlock) (Kd.R_apart' (HO209.out) (Kd.S_typed HO_206000.out) (by decide)) (fun k_ hk => ⟨trivial, hk.2⟩))) (fun _ h_ => h_)))
                  (case aB => exact (by repeat (first | (with_reducible first | exact HB.out | apply below_alloc | apply pw_below_drewN | apply below_drew1 | refine below_set ?_ GE204.out | refine below_set ?_ GE205.out) | exact HB.out)))
                  (case aF => exact (fun _ _ => trivial))
                  (case aO => exact (by (with_reducible repeat (first | apply Kd.S_alloc | apply Kd.S_drewN | apply Kd.S_drew)); exact Kd.S_mono HO_206000.out (fun k_ hk => ⟨trivial, fun e_ => hk.2 e_⟩)))
                  (case aS => exact (below_size (by repeat (first | (with_reducible first | exact HB.out | apply below_alloc | apply pw_below_drewN | apply below_drew1 | refine below_set ?_ GE204.out | refine below_set ?_ GE205.out) | exact HB.out))))
                  (case aL => have := LMc14.out; omega)
                  intro v211 w18 ho hb hg hat
                  rw [← Ny210.out] at ho
                  have n0_ := Aside0.mk (blk_grown (g := gb204) (o := .cells #[.slice none 0 0] 26 (0, 0)) (by (with_reducible repeat (first | refine blk_drewN ?_ _ | refine blk_drew ?_ | refine blk_alloc ?_ _)); exact BK204.out) hg (Kd.S_ne HO_206000.out BK204.out (by decide)))
                  have n1_ := Aside0.mk (blk_grown (g := gb205) (o := .cells #[u206000] 26 (0, 0)) (by (with_reducible repeat (first | refine blk_drewN ?_ _ | refine blk_drew ?_ | refine blk_alloc ?_ _)); exact BK205.out) hg (Kd.S_ne HO_206000.out BK205.out (by decide)))
                  have n2_ := Aside0.mk (hb)
                  have n3_ := Aside0.mk (ho)
                  clear BK204
                  clear BK205
                  clear HB
                  clear HO_206000
                  clear HO209
                  have BK204 := n0_
                  have BK205 := n1_
                  have HB := n2_
                  have HO212 := n3_
                  clear n0_ n1_ n2_ n3_
                  clear ho hb hg hat
                  obtain ⟨Ao20, co20, eo20⟩ := Kd.S_slice HO212.out
                  (first | subst eo20 | (injection eo20 with f1_ f2_ f3_; have f4_ := f1_.symm; have f5_ := f3_.symm; clear f1_ f2_ f3_; subst f4_; subst f5_))
                  refine hK.out _ _ ((blk_cell BK205.out 0).trans rfl) (fun hHeld => ?_)
                  clear hK K
                  refine norm_ (a' := ?_) ?_ ?_
                  rotate_left
                  · show Act.put _ (some 27) _ = _
                    simp only [Act.put, List.setIfInBounds_toArray, List.set_cons_zero, List.set_cons_succ, i64_w, i32_w]
                    rfl
                  refine pure_ (i := 16) (N := some 28) (v := ?_) (a' := ?_) #[true, true, true, true, true, true, true, true, true, true, true, true, true, true, true, true, true, false] rfl rfl (any_of HT_.out (by kernel_rfl)) (fun _ _ _ h => h) (Or.inl ⟨by rfl, ?_⟩) ?_ ?_
                  rotate_left
                  · intro w'
                    go_simp
                    with_reducible rfl
                  rotate_left
                  · simp only [Act.put, List.setIfInBounds_toArray, List.set_cons_zero, List.set_cons_succ, i64_w, i32_w]
                    rfl
                  refine last_ (i := 17) (N := none) #[true, true, true, true, true, true, true, true, true, true, true, true, true, true, true, true, true, true] rfl rfl (one_of HT_.out (by kernel_rfl)) (by decide) (fun K hK => ?_)
                  have hs21 : w18.cell? ⟨gb205, 0, none⟩ = some (u206000) := (blk_cell BK205.out 0).trans rfl
                  have hfs21 := blk_frozen BK205.out 0
                  have hns21_0 := NB204_205.out
                  have hms21_0 := NB205_204.out
                  refine skip_ (w1 := ?_) (by rfl) rfl ?_ ?_
                  rotate_left
                  · go_simp
                    rfl
                  refine hK.out _ _ ?_
                  clear hK K
                  refine done_ (done_of HT_.out (by kernel_rfl)) ?_
                  try go_wp2
                  go_roundg k1
                  case measure => have := HK1.out; omega
                  case rel => exact ⟨(wrap64 (x9_1 + 1)), (y210), (.slice Ao20 y210.length co20), (by first | rfl | (simp; done) | (simp [*]; done)), H', ⟨by have := HK1.out; omega⟩, ⟨by (with_reducible repeat (first | apply Kd.S_alloc | apply Kd.S_drewN | apply Kd.S_drew)); exact Kd.S_mono (Kd.S_far (p := ⟨gb205, 0, none⟩) (Kd.S_types HO212.out BK205.out (by decide)) (fun _ hk => hk.2) (.slice Ao20 y210.length co20)) (fun _ hk => trivial)⟩, ⟨by (with_reducible repeat (first | refine blk_drewN ?_ _ | refine blk_drew ?_ | refine blk_alloc ?_ _)); refine blk_far ?_ NB204_205.out _; (with_reducible repeat (first | refine blk_drewN ?_ _ | refine blk_drew ?_ | refine blk_alloc ?_ _)); exact BK204.out⟩, ⟨by (with_reducible repeat (first | refine blk_drewN ?_ _ | refine blk_drew ?_ | refine blk_alloc ?_ _)); refine blk_put (cs := #[u206000]) ?_ 0 _ rfl; (with_reducible repeat (first | refine blk_drewN ?_ _ | refine blk_drew ?_ | refine blk_alloc ?_ _)); exact BK205.out⟩, ⟨by repeat (first | (with_reducible first | exact HB.out | apply below_alloc | apply pw_below_drewN | apply below_drew1 | refine below_set ?_ GE204.out | refine below_set ?_ GE205.out) | exact HB.out)⟩⟩
                · rw [if_neg c14] at H
                  exact absurd H (by simp)
              · rw [if_neg c12] at H
                exact absurd H (by simp)
            · rw [if_neg c11] at H
              exact absurd H (by simp)
          · rw [if_neg c10] at H
            exact absurd H (by simp)
      · rw [if_neg c7] at H
        have c7b0 : decide (x9_1 < a0) = false := decide_eq_false c7
        clear c7
        obtain rfl := Option.some.inj H
        have hnb22 := NB205_204.out
        have hnc22 := NB204_205.out
        have hcz23_0 : wr.cell? ⟨gb205, 0, none⟩ = some (u206000) := (blk_cell BK205.out 0).trans rfl
        have hfz23_0 := blk_frozen BK205.out 0
        obtain ⟨Ao24, co24, eo24⟩ := Kd.S_slice HO_206000.out
        subst eo24
        have hcz25_0 : wr.cell? ⟨gb204, 0, none⟩ = some (.slice none 0 0) := (blk_cell BK204.out 0).trans rfl
        have hfz25_0 := blk_frozen BK204.out 0
        go_wp2
        refine bodyPost_ret (results_cell_row rfl _ _ gb204 26 #[.slice Ao24 x206000_1.length co24] (0, 0) _ rfl (by (with_reducible repeat (first | refine blk_drewN ?_ _ | refine blk_drew ?_ | refine blk_alloc ?_ _)); refine blk_put (cs := #[.slice none 0 0]) ?_ 0 _ rfl; (with_reducible repeat (first | refine blk_drewN ?_ _ | refine blk_drew ?_ | refine blk_alloc ?_ _)); exact BK204.out) Try.underlying26 rfl (by kernel_rfl)) rfl ?_
        exact ⟨_, by first | rfl | (simp [errW_none, errW_some] <;> rfl) | (simp [*, errW_none, errW_some] <;> rfl), by (with_reducible repeat (first | apply Kd.S_alloc | apply Kd.S_drewN | apply Kd.S_drew)); exact Kd.S_mono (Kd.S_far (p := ⟨gb204, 0, none⟩) (Kd.S_types HO_206000.out BK204.out (by decide)) (fun _ hk => hk.2) (.slice Ao24 x206000_1.length co24)) (fun _ hk => trivial), by repeat (first | (with_reducible first | exact HB.out | apply below_alloc | apply pw_below_drewN | apply below_drew1 | refine below_set ?_ GE204.out | refine below_set ?_ GE205.out) | exact HB.out)⟩

/-! ### impl_FirstTorus: function 18 (a contract of this session's own) -/
def impl_FirstTorus.is (n : Int) (q : Nat) (l : List Int) : Option Bool := (impl_torusOf.f q n l).bind fun t => impl_windowsDiffer.f q t
theorem impl_FirstTorus.is_mono (n : Int) : ∀ l q, LeO (impl_FirstTorus.is n q l) (impl_FirstTorus.is n (q + 1) l) := fun l q => LeO.bind (impl_torusOf.mono _ _ _) (fun _ => impl_windowsDiffer.mono _ _)
def impl_FirstTorus.f (k : Nat) (a0 : Int) : Option (List (List Int) × Bool) := (slices_Contains_int_int.f k ([1, 2, 4, 8, 16] : List Int) a0).bind fun b => (if b = true then ((impl_firstWord.f (impl_FirstTorus.is a0) k 16 2).bind fun r => (if r.2 = true then ((impl_torusOf.f k a0 r.1).bind fun t => some (t, true)) else some (([] : List (List Int)), false))) else some (([] : List (List Int)), false))
theorem impl_FirstTorus.mono : ∀ a0 k, LeO (impl_FirstTorus.f k a0) (impl_FirstTorus.f (k + 1) a0) := fun a0 k =>
  LeO.bind (slices_Contains_int_int.mono _ _ _) (fun _ => LeO.ite (LeO.bind (impl_firstWord.mono (impl_FirstTorus.is_mono a0) _ _ _) (fun _ => LeO.ite (LeO.bind (impl_torusOf.mono _ _ _) (fun _ => LeO.refl _)) (LeO.refl _))) (LeO.refl _))
set_option maxHeartbeats 8000000 in
set_option maxRecDepth 100000 in
theorem impl_FirstTorus.is_calls (n : Int) (q B : Nat) (W : World) (A : Option Addr) (c : Nat) (l : List Int) (b : Bool) (hc : W.cell? ⟨B, 0, none⟩ = some (.int .i64 n)) (hC : Kd.C (Kd.int .i64) W A l.length l) (hl : l.length ≤ c) (h : impl_FirstTorus.is n q l = some b) :
    Calls Try.prog 75 #[.slice A l.length c, .pointer (some ⟨B, 0, none⟩)] W fun e W' => e = .returned (.bool b) ∧ Below W.heap.size W W' := by
  have HC := Aside0.mk hC
  have HL := Aside0.mk hl
  have HB := Aside0.mk (Below.refl W.heap.size W)
  unfold impl_FirstTorus.is at h
  obtain ⟨t, ht, h⟩ := Option.bind_eq_some_iff.mp h
  have A1 := Aside0.mk ht
  have A2 := Aside0.mk h
  clear hC h ht
  go_enter Try.func75, Try.ntmps75
  go_wp2_with (first
    | ((with_reducible refine gate_callee (f := 77) rfl ?_); refine goesL_ (some 6) rfl rfl Try.func77 (by kernel_rfl) rfl #[.int .i64 n, .slice A l.length c] rfl (by (try simp only [List.map_toArray, List.map_cons, List.map_nil]); first | done | rfl) ?_; (with_reducible refine (impl_torusOf.calls q n _ _ l t _ ?side1 ?side2 A1.out).mono ?_); (case side1 => exact HC.out); (case side2 => exact HL.out); rintro e w1 ⟨v1, rfl, ho, hb⟩; refine ⟨_, rfl, ?_⟩; obtain ⟨A_t, c_t, e_t⟩ := Kd.S_slice ho; subst e_t; have HT := Aside0.mk ho; have n1_ := Aside0.mk (below_step HB.out hb); clear HB hb ho; have HB := n1_; clear n1_)
    | ((with_reducible refine gate_callee (f := 76) rfl ?_); refine goesL_ (some 7) rfl rfl Try.func76 (by kernel_rfl) rfl #[.agg #[.slice A_t t.length c_t]] rfl (by (try simp only [List.map_toArray, List.map_cons, List.map_nil]); first | done | rfl) ?_; (with_reducible refine (impl_windowsDiffer.calls q _ _ t b _ ?side1 ?side2 A2.out).mono ?_); (case side1 => exact (Kd.S_reads' HT.out).2.2); (case side2 => exact (Kd.S_reads' HT.out).2.1); rintro e w2 ⟨rfl, hb⟩; refine ⟨_, rfl, ?_⟩; have n1_ := Aside0.mk (below_step HB.out hb); clear HB hb; have HB := n1_; clear n1_))
  go_ret
  exact ⟨rfl, HB.out⟩
theorem impl_FirstTorus.kset (W : World) (g : Nat) (v : Value) : Kept W (W.setCell ⟨g, 0, none⟩ v) (fun k_ => k_ = g) :=
  ⟨by simp, fun i _ hn => Below.heap_setCell W ⟨g, 0, none⟩ v i hn⟩
theorem impl_FirstTorus.fresh {w0 W W1 : World} {v : Value} {l : List (List Int)} (h : Kd.S (Kd.slice 3 (Kd.int .i64)) 44 W1 W.heap.size (fun _ => True) v l) (hb : w0.heap.size ≤ W.heap.size) : Kd.S (Kd.slice 3 (Kd.int .i64)) 44 W1 w0.heap.size (fun k_ => W.heap.size ≤ k_ ∧ k_ < W1.heap.size) v l :=
  Kd.S_lower (Kd.S_mono (Kd.S_bound h) (fun _ hk => ⟨hk.2.1, hk.2.2.1⟩)) hb
theorem impl_FirstTorus.bound {W1 : World} {b n : Nat} {P : Nat → Prop} {v : Value} {l : List (List Int)} (h : Kd.S (Kd.slice 3 (Kd.int .i64)) 44 W1 b (fun k_ => P k_ ∨ n ≤ k_) v l) : Kd.S (Kd.slice 3 (Kd.int .i64)) 44 W1 b (fun k_ => P k_ ∨ (n ≤ k_ ∧ k_ < W1.heap.size)) v l :=
  Kd.S_mono (Kd.S_bound h) (fun _ hk => hk.1.imp id (fun h_ => ⟨h_, hk.2.2.1⟩))
set_option maxHeartbeats 16000000 in
set_option maxRecDepth 100000 in
theorem impl_FirstTorus.calls (k : Nat) (a0 : Int) (r1 : List (List Int)) (r2 : Bool) (w : World) (h : impl_FirstTorus.f k a0 = some (r1, r2)) :
    Calls Try.prog 18 #[.int .i64 a0] w fun e w' => ∃ v0_ : Value, e = .returned (.tuple #[.agg #[v0_], .bool r2]) ∧ Kd.S (Kd.slice 3 (Kd.int .i64)) 44 w' w.heap.size (fun _ => True) v0_ r1 ∧ Below w.heap.size w w' := by
  have hu26 := Try.underlying26
  have HB := Aside0.mk (Below.refl w.heap.size w)
  have hmf : ∀ (fn : Fn) (first cap : Array Value) (w : World), (Instr.makeFunc fn first cap).run Try.prog w = .ok (.func fn first cap) w := fun _ _ _ _ => rfl
  unfold impl_FirstTorus.f at h
  replace h := Option.bind_eq_some_iff.mp h
  obtain ⟨b, hb, H⟩ := h
  have A1 := Aside0.mk hb
  clear hb
  by_cases c1 : b = true
  · subst c1
    replace H := (if_pos rfl).symm.trans H
    replace H := Option.bind_eq_some_iff.mp H
    obtain ⟨⟨x, y⟩, hx, H⟩ := H
    have A2 := Aside0.mk hx
    clear hx
    dsimp only at H
    by_cases c2 : y = true
    · subst c2
      replace H := (if_pos rfl).symm.trans H
      replace H := Option.bind_eq_some_iff.mp H
      obtain ⟨t, ht, H⟩ := H
      have A3 := Aside0.mk ht
      clear ht
      simp only [Option.some.injEq, Prod.mk.injEq] at H
      obtain ⟨rfl, rfl⟩ := H
      go_enter Try.func18, Try.ntmps18
      go_wp2_with (first
      | ((with_reducible refine gate_dst (N := 1) rfl ?_); refine box_event ?hg (N := 1) ?hd (cs := #[.int .i64 a0]) (t := 3) ?hr ?_; (case hd => rfl); (case hg => rfl); (case hr => first | (go_simp; done) | (go_simp; rfl)); intro g1 hg w_1 hbox hb; have n0_ := Aside0.mk (below_step HB.out hb); clear HB; have HB := n0_; clear n0_; have BX1 := Aside0.mk hbox; have SG1 := Aside0.mk hg; have SZw_1 := Aside0.mk hb.size; have SL1 := Aside0.mk (blk_lt hbox); clear hb hbox hg; have GE1 := Aside0.mk (show w.heap.size ≤ g1 by have := SG1.out; omega); have hc1_w_1 : w_1.cell? ⟨g1, 0, none⟩ = some (.int .i64 a0) := (blk_cell BX1.out 0).trans rfl; have hf1_w_1 := blk_frozen BX1.out 0; skip)
      | ((with_reducible refine gate_dst (N := 2) rfl ?_); refine box_event ?hg (N := 2) ?hd (cs := #[.slice none 0 0]) (t := 26) ?hr ?_; (case hd => rfl); (case hg => rfl); (case hr => first | (go_simp; done) | (go_simp; rfl)); intro g2 hg w_2 hbox hb; (try clear hc1_w_1); (try clear hf1_w_1); have n0_ := Aside0.mk (blk_below (g := g1) (o := .cells #[.int .i64 a0] 3 (0, 0)) BX1.out hb); have n1_ := Aside0.mk (below_step HB.out hb); clear BX1 HB; have BX1 := n0_; have HB := n1_; clear n0_ n1_; have BX2 := Aside0.mk hbox; have SG2 := Aside0.mk hg; have SZw_2 := Aside0.mk hb.size; have SL2 := Aside0.mk (blk_lt hbox); clear hb hbox hg; have GE2 := Aside0.mk (show w.heap.size ≤ g2 by have := SG1.out; have := SZw_1.out; have := SL1.out; have := SG2.out; omega); have hc1_w_2 : w_2.cell? ⟨g1, 0, none⟩ = some (.int .i64 a0) := (blk_cell BX1.out 0).trans rfl; have hf1_w_2 := blk_frozen BX1.out 0; have hc2_w_2 : w_2.cell? ⟨g2, 0, none⟩ = some (.slice none 0 0) := (blk_cell BX2.out 0).trans rfl; have hf2_w_2 := blk_frozen BX2.out 0; skip)
      | ((with_reducible refine gate_dst (N := 6) rfl ?_); refine Kd.R_lit (Kd.int .i64) _ 3 ?hg (N := 6) ?hd (xs := ([1, 2, 4, 8, 16] : List Int)) (inner := [.int .i64 1, .int .i64 2, .int .i64 4, .int .i64 8, .int .i64 16]) (ok := fun _ => True) (okp := fun _ => True) ?hr ?hp (fun _ hk => hk) trivial (Below.refl _ _) (Nat.le_refl _) (by simp) ?_; (case hd => rfl); (case hg => rfl); (case hr => first | (go_simp; done) | (go_simp; rfl)); (case hp => exact (Reps.one (show Kd.M (Kd.int .i64) _ _ _ 1 [.int .i64 1] from rfl) (Reps.one (show Kd.M (Kd.int .i64) _ _ _ 2 [.int .i64 2] from rfl) (Reps.one (show Kd.M (Kd.int .i64) _ _ _ 4 [.int .i64 4] from rfl) (Reps.one (show Kd.M (Kd.int .i64) _ _ _ 8 [.int .i64 8] from rfl) (Reps.one (show Kd.M (Kd.int .i64) _ _ _ 16 [.int .i64 16] from rfl) (Reps.none _ _))))))); intro v_l w_3 ho hb hg_ hnew_; clear hg_ hnew_; (try clear hc1_w_2); (try clear hf1_w_2); (try clear hc2_w_2); (try clear hf2_w_2); have n0_ := Aside0.mk (blk_below (g := g1) (o := .cells #[.int .i64 a0] 3 (0, 0)) BX1.out hb); have n1_ := Aside0.mk (blk_below (g := g2) (o := .cells #[.slice none 0 0] 26 (0, 0)) BX2.out hb); have n2_ := Aside0.mk (below_step HB.out hb); clear BX1 BX2 HB; have BX1 := n0_; have BX2 := n1_; have HB := n2_; clear n0_ n1_ n2_; have SZw_3 := Aside0.mk hb.size; have RL := Aside0.mk ho; clear hb ho; obtain ⟨A_l, c_l, e_l⟩ := Kd.R_slice RL.out; subst e_l; have hc1_w_3 : w_3.cell? ⟨g1, 0, none⟩ = some (.int .i64 a0) := (blk_cell BX1.out 0).trans rfl; have hf1_w_3 := blk_frozen BX1.out 0; have hc2_w_3 : w_3.cell? ⟨g2, 0, none⟩ = some (.slice none 0 0) := (blk_cell BX2.out 0).trans rfl; have hf2_w_3 := blk_frozen BX2.out 0; skip)
      | ((with_reducible refine gate_callee (f := 73) rfl ?_); refine goesL_ (some 8) rfl rfl Try.func73 (by kernel_rfl) rfl #[.slice A_l ([1, 2, 4, 8, 16] : List Int).length c_l, .int .i64 a0] rfl (by (try simp only [List.map_toArray, List.map_cons, List.map_nil]); first | done | rfl) ?_; (with_reducible refine (slices_Contains_int_int.calls k _ _ ([1, 2, 4, 8, 16] : List Int) a0 true _ ?side1 ?side2 A1.out).mono ?_); (case side1 => exact (Kd.R_reads' RL.out).2.2); (case side2 => exact (Kd.R_reads' RL.out).2.1); rintro e w_4 ⟨rfl, hd⟩; refine ⟨_, rfl, ?_⟩; obtain ⟨nd_, hnd_⟩ := hd; have hb : Below w_3.heap.size w_3 w_4 := (by rw [hnd_]; exact pw_below_drewN (Below.refl _ _) _); clear hnd_ nd_; (try clear hc1_w_3); (try clear hf1_w_3); (try clear hc2_w_3); (try clear hf2_w_3); clear RL; have n0_ := Aside0.mk (blk_below (g := g1) (o := .cells #[.int .i64 a0] 3 (0, 0)) BX1.out hb); have n1_ := Aside0.mk (blk_below (g := g2) (o := .cells #[.slice none 0 0] 26 (0, 0)) BX2.out hb); have n2_ := Aside0.mk (below_step HB.out hb); clear BX1 BX2 HB; have BX1 := n0_; have BX2 := n1_; have HB := n2_; clear n0_ n1_ n2_; have SZw_4 := Aside0.mk hb.size; clear hb; have hc1_w_4 : w_4.cell? ⟨g1, 0, none⟩ = some (.int .i64 a0) := (blk_cell BX1.out 0).trans rfl; have hf1_w_4 := blk_frozen BX1.out 0; have hc2_w_4 : w_4.cell? ⟨g2, 0, none⟩ = some (.slice none 0 0) := (blk_cell BX2.out 0).trans rfl; have hf2_w_4 := blk_frozen BX2.out 0; skip)
      | ((with_reducible refine gate_callee (f := 74) rfl ?_); refine goesL_ (some 13) rfl rfl Try.func74 (by kernel_rfl) rfl #[.int .i64 16, .int .i64 2, .func (.func 75) #[] #[.pointer (some ⟨g1, 0, none⟩)]] rfl (by (try simp only [List.map_toArray, List.map_cons, List.map_nil]); first | done | rfl) ?_; refine (impl_firstWord.calls (impl_FirstTorus.is a0) 75 _ #[.pointer (some ⟨g1, 0, none⟩)] Try.func75 (by kernel_rfl) rfl k 16 2 x true _ ?hp A2.out).mono ?_; (case hp => exact fun q W A c l b hb hC hl hr => calls_of_args (by simp) (impl_FirstTorus.is_calls a0 q g1 W A c l b ((blk_cell (blk_below BX1.out hb) 0).trans rfl) hC hl hr)); rintro e w_5 ⟨v_x, rfl, ho, hb⟩; refine ⟨_, rfl, ?_⟩; (try clear hc1_w_4); (try clear hf1_w_4); (try clear hc2_w_4); (try clear hf2_w_4); have RX := Aside0.mk ho; have n0_ := Aside0.mk (blk_below (g := g1) (o := .cells #[.int .i64 a0] 3 (0, 0)) BX1.out hb); have n1_ := Aside0.mk (blk_below (g := g2) (o := .cells #[.slice none 0 0] 26 (0, 0)) BX2.out hb); have n2_ := Aside0.mk (below_step HB.out hb); clear BX1 BX2 HB; have BX1 := n0_; have BX2 := n1_; have HB := n2_; clear n0_ n1_ n2_; have SZw_5 := Aside0.mk hb.size; clear hb ho; obtain ⟨A_x, c_x, e_x⟩ := Kd.R_slice RX.out; subst e_x; have hc1_w_5 : w_5.cell? ⟨g1, 0, none⟩ = some (.int .i64 a0) := (blk_cell BX1.out 0).trans rfl; have hf1_w_5 := blk_frozen BX1.out 0; have hc2_w_5 : w_5.cell? ⟨g2, 0, none⟩ = some (.slice none 0 0) := (blk_cell BX2.out 0).trans rfl; have hf2_w_5 := blk_frozen BX2.out 0; skip)
      | ((with_reducible refine gate_callee (f := 77) rfl ?_); refine goesL_ (some 21) rfl rfl Try.func77 (by kernel_rfl) rfl #[.int .i64 a0, .slice A_x x.length c_x] rfl (by (try simp only [List.map_toArray, List.map_cons, List.map_nil]); first | done | rfl) ?_; (with_reducible refine (impl_torusOf.calls k a0 _ _ x t _ ?side1 ?side2 A3.out).mono ?_); (case side1 => exact (Kd.R_reads' RX.out).2.2); (case side2 => exact (Kd.R_reads' RX.out).2.1); rintro e w_6 ⟨v_t, rfl, ho, hb⟩; refine ⟨_, rfl, ?_⟩; (try clear hc1_w_5); (try clear hf1_w_5); (try clear hc2_w_5); (try clear hf2_w_5); have RWt := Aside0.mk (impl_FirstTorus.fresh (w0 := w) ho (below_size HB.out)); have n0_ := Aside0.mk (blk_below (g := g1) (o := .cells #[.int .i64 a0] 3 (0, 0)) BX1.out hb); have n1_ := Aside0.mk (blk_below (g := g2) (o := .cells #[.slice none 0 0] 26 (0, 0)) BX2.out hb); have n2_ := Aside0.mk (below_step HB.out hb); clear BX1 BX2 HB; have BX1 := n0_; have BX2 := n1_; have HB := n2_; clear n0_ n1_ n2_; have SZw_6 := Aside0.mk hb.size; clear hb ho; obtain ⟨A_t, c_t, e_t⟩ := Kd.S_slice RWt.out; subst e_t; have hc1_w_6 : w_6.cell? ⟨g1, 0, none⟩ = some (.int .i64 a0) := (blk_cell BX1.out 0).trans rfl; have hf1_w_6 := blk_frozen BX1.out 0; have hc2_w_6 : w_6.cell? ⟨g2, 0, none⟩ = some (.slice none 0 0) := (blk_cell BX2.out 0).trans rfl; have hf2_w_6 := blk_frozen BX2.out 0; skip)
      | ((with_reducible refine gate_store (t := 26) (p := 2) rfl ?_); refine store_event (t := 26) (p := 2) (v := ?vo_w_7) (w1 := (w_6.setCell ⟨g2, 0, none⟩ (.slice A_t t.length c_t))) ?hg ?ho ?hn ?hr ?_; (case ho => rfl); (case hg => rfl); (case hn => rfl); (case hr => first | (go_simp; done) | (go_simp; rfl)); intro w_7 hw; have hk : Kept w_6 w_7 (fun k_ => k_ = g2) := (by rw [hw]; exact impl_FirstTorus.kset _ _ _); (try clear hc1_w_6); (try clear hf1_w_6); (try clear hc2_w_6); (try clear hf2_w_6); have n0_ := Aside0.mk (blk_kept (g := g1) (o := .cells #[.int .i64 a0] 3 (0, 0)) BX1.out hk (fun h_ => by (try dsimp only at h_); have := SG1.out; have := SZw_1.out; have := SL1.out; have := SG2.out; have := SZw_2.out; have := SL2.out; have := SZw_3.out; have := SZw_4.out; have := SZw_5.out; have := SZw_6.out; omega)); have n1_ := Aside0.mk (Kd.S_kept RWt.out hk (fun k_ h1_ h2_ => by (try dsimp only at h1_ h2_); have := SG1.out; have := SZw_1.out; have := SL1.out; have := SG2.out; have := SZw_2.out; have := SL2.out; have := SZw_3.out; have := SZw_4.out; have := SZw_5.out; have := SZw_6.out; omega)); have n2_ := Aside0.mk ((by rw [hw]; exact below_set HB.out GE2.out : Below w.heap.size w w_7)); have n3_ := Aside0.mk ((by rw [hw]; exact blk_put (cs := #[.slice none 0 0]) BX2.out 0 _ rfl : w_7.heap[g2]? = some (.cells #[.slice A_t t.length c_t] 26 (0, 0)))); clear BX1 RWt HB BX2; have BX1 := n0_; have RWt := n1_; have HB := n2_; have BX2 := n3_; clear n0_ n1_ n2_ n3_; have SZw_7 := Aside0.mk hk.1; clear hk hw; have hc1_w_7 : w_7.cell? ⟨g1, 0, none⟩ = some (.int .i64 a0) := (blk_cell BX1.out 0).trans rfl; have hf1_w_7 := blk_frozen BX1.out 0; have hc2_w_7 : w_7.cell? ⟨g2, 0, none⟩ = some (.slice A_t t.length c_t) := (blk_cell BX2.out 0).trans rfl; have hf2_w_7 := blk_frozen BX2.out 0; skip))
      refine bodyPost_ret (results_ct rfl _ _ g2 26 #[.slice A_t t.length c_t] (0, 0) _ rfl BX2.out Try.underlying26 rfl (by kernel_rfl)) rfl ?_
      exact ⟨_, rfl, Kd.S_mono RWt.out (fun _ _ => trivial), HB.out⟩
    · rw [if_neg c2] at H
      replace c2 := Bool.eq_false_iff.mpr c2
      subst c2
      simp only [Option.some.injEq, Prod.mk.injEq] at H
      obtain ⟨rfl, rfl⟩ := H
      go_enter Try.func18, Try.ntmps18
      go_wp2_with (first
      | ((with_reducible refine gate_dst (N := 1) rfl ?_); refine box_event ?hg (N := 1) ?hd (cs := #[.int .i64 a0]) (t := 3) ?hr ?_; (case hd => rfl); (case hg => rfl); (case hr => first | (go_simp; done) | (go_simp; rfl)); intro g1 hg w_1 hbox hb; have n0_ := Aside0.mk (below_step HB.out hb); clear HB; have HB := n0_; clear n0_; have BX1 := Aside0.mk hbox; have SG1 := Aside0.mk hg; have SZw_1 := Aside0.mk hb.size; have SL1 := Aside0.mk (blk_lt hbox); clear hb hbox hg; have GE1 := Aside0.mk (show w.heap.size ≤ g1 by have := SG1.out; omega); have hc1_w_1 : w_1.cell? ⟨g1, 0, none⟩ = some (.int .i64 a0) := (blk_cell BX1.out 0).trans rfl; have hf1_w_1 := blk_frozen BX1.out 0; skip)
      | ((with_reducible refine gate_dst (N := 2) rfl ?_); refine box_event ?hg (N := 2) ?hd (cs := #[.slice none 0 0]) (t := 26) ?hr ?_; (case hd => rfl); (case hg => rfl); (case hr => first | (go_simp; done) | (go_simp; rfl)); intro g2 hg w_2 hbox hb; (try clear hc1_w_1); (try clear hf1_w_1); have n0_ := Aside0.mk (blk_below (g := g1) (o := .cells #[.int .i64 a0] 3 (0, 0)) BX1.out hb); have n1_ := Aside0.mk (below_step HB.out hb); clear BX1 HB; have BX1 := n0_; have HB := n1_; clear n0_ n1_; have BX2 := Aside0.mk hbox; have SG2 := Aside0.mk hg; have SZw_2 := Aside0.mk hb.size; have SL2 := Aside0.mk (blk_lt hbox); clear hb hbox hg; have GE2 := Aside0.mk (show w.heap.size ≤ g2 by have := SG1.out; have := SZw_1.out; have := SL1.out; have := SG2.out; omega); have hc1_w_2 : w_2.cell? ⟨g1, 0, none⟩ = some (.int .i64 a0) := (blk_cell BX1.out 0).trans rfl; have hf1_w_2 := blk_frozen BX1.out 0; have hc2_w_2 : w_2.cell? ⟨g2, 0, none⟩ = some (.slice none 0 0) := (blk_cell BX2.out 0).trans rfl; have hf2_w_2 := blk_frozen BX2.out 0; skip)
      | ((with_reducible refine gate_dst (N := 6) rfl ?_); refine Kd.R_lit (Kd.int .i64) _ 3 ?hg (N := 6) ?hd (xs := ([1, 2, 4, 8, 16] : List Int)) (inner := [.int .i64 1, .int .i64 2, .int .i64 4, .int .i64 8, .int .i64 16]) (ok := fun _ => True) (okp := fun _ => True) ?hr ?hp (fun _ hk => hk) trivial (Below.refl _ _) (Nat.le_refl _) (by simp) ?_; (case hd => rfl); (case hg => rfl); (case hr => first | (go_simp; done) | (go_simp; rfl)); (case hp => exact (Reps.one (show Kd.M (Kd.int .i64) _ _ _ 1 [.int .i64 1] from rfl) (Reps.one (show Kd.M (Kd.int .i64) _ _ _ 2 [.int .i64 2] from rfl) (Reps.one (show Kd.M (Kd.int .i64) _ _ _ 4 [.int .i64 4] from rfl) (Reps.one (show Kd.M (Kd.int .i64) _ _ _ 8 [.int .i64 8] from rfl) (Reps.one (show Kd.M (Kd.int .i64) _ _ _ 16 [.int .i64 16] from rfl) (Reps.none _ _))))))); intro v_l w_3 ho hb hg_ hnew_; clear hg_ hnew_; (try clear hc1_w_2); (try clear hf1_w_2); (try clear hc2_w_2); (try clear hf2_w_2); have n0_ := Aside0.mk (blk_below (g := g1) (o := .cells #[.int .i64 a0] 3 (0, 0)) BX1.out hb); have n1_ := Aside0.mk (blk_below (g := g2) (o := .cells #[.slice none 0 0] 26 (0, 0)) BX2.out hb); have n2_ := Aside0.mk (below_step HB.out hb); clear BX1 BX2 HB; have BX1 := n0_; have BX2 := n1_; have HB := n2_; clear n0_ n1_ n2_; have SZw_3 := Aside0.mk hb.size; have RL := Aside0.mk ho; clear hb ho; obtain ⟨A_l, c_l, e_l⟩ := Kd.R_slice RL.out; subst e_l; have hc1_w_3 : w_3.cell? ⟨g1, 0, none⟩ = some (.int .i64 a0) := (blk_cell BX1.out 0).trans rfl; have hf1_w_3 := blk_frozen BX1.out 0; have hc2_w_3 : w_3.cell? ⟨g2, 0, none⟩ = some (.slice none 0 0) := (blk_cell BX2.out 0).trans rfl; have hf2_w_3 := blk_frozen BX2.out 0; skip)
      | ((with_reducible refine gate_callee (f := 73) rfl ?_); refine goesL_ (some 8) rfl rfl Try.func73 (by kernel_rfl) rfl #[.slice A_l ([1, 2, 4, 8, 16] : List Int).length c_l, .int .i64 a0] rfl (by (try simp only [List.map_toArray, List.map_cons, List.map_nil]); first | done | rfl) ?_; (with_reducible refine (slices_Contains_int_int.calls k _ _ ([1, 2, 4, 8, 16] : List Int) a0 true _ ?side1 ?side2 A1.out).mono ?_); (case side1 => exact (Kd.R_reads' RL.out).2.2); (case side2 => exact (Kd.R_reads' RL.out).2.1); rintro e w_4 ⟨rfl, hd⟩; refine ⟨_, rfl, ?_⟩; obtain ⟨nd_, hnd_⟩ := hd; have hb : Below w_3.heap.size w_3 w_4 := (by rw [hnd_]; exact pw_below_drewN (Below.refl _ _) _); clear hnd_ nd_; (try clear hc1_w_3); (try clear hf1_w_3); (try clear hc2_w_3); (try clear hf2_w_3); clear RL; have n0_ := Aside0.mk (blk_below (g := g1) (o := .cells #[.int .i64 a0] 3 (0, 0)) BX1.out hb); have n1_ := Aside0.mk (blk_below (g := g2) (o := .cells #[.slice none 0 0] 26 (0, 0)) BX2.out hb); have n2_ := Aside0.mk (below_step HB.out hb); clear BX1 BX2 HB; have BX1 := n0_; have BX2 := n1_; have HB := n2_; clear n0_ n1_ n2_; have SZw_4 := Aside0.mk hb.size; clear hb; have hc1_w_4 : w_4.cell? ⟨g1, 0, none⟩ = some (.int .i64 a0) := (blk_cell BX1.out 0).trans rfl; have hf1_w_4 := blk_frozen BX1.out 0; have hc2_w_4 : w_4.cell? ⟨g2, 0, none⟩ = some (.slice none 0 0) := (blk_cell BX2.out 0).trans rfl; have hf2_w_4 := blk_frozen BX2.out 0; skip)
      | ((with_reducible refine gate_callee (f := 74) rfl ?_); refine goesL_ (some 13) rfl rfl Try.func74 (by kernel_rfl) rfl #[.int .i64 16, .int .i64 2, .func (.func 75) #[] #[.pointer (some ⟨g1, 0, none⟩)]] rfl (by (try simp only [List.map_toArray, List.map_cons, List.map_nil]); first | done | rfl) ?_; refine (impl_firstWord.calls (impl_FirstTorus.is a0) 75 _ #[.pointer (some ⟨g1, 0, none⟩)] Try.func75 (by kernel_rfl) rfl k 16 2 x false _ ?hp A2.out).mono ?_; (case hp => exact fun q W A c l b hb hC hl hr => calls_of_args (by simp) (impl_FirstTorus.is_calls a0 q g1 W A c l b ((blk_cell (blk_below BX1.out hb) 0).trans rfl) hC hl hr)); rintro e w_5 ⟨v_x, rfl, ho, hb⟩; refine ⟨_, rfl, ?_⟩; (try clear hc1_w_4); (try clear hf1_w_4); (try clear hc2_w_4); (try clear hf2_w_4); have RX := Aside0.mk ho; have n0_ := Aside0.mk (blk_below (g := g1) (o := .cells #[.int .i64 a0] 3 (0, 0)) BX1.out hb); have n1_ := Aside0.mk (blk_below (g := g2) (o := .cells #[.slice none 0 0] 26 (0, 0)) BX2.out hb); have n2_ := Aside0.mk (below_step HB.out hb); clear BX1 BX2 HB; have BX1 := n0_; have BX2 := n1_; have HB := n2_; clear n0_ n1_ n2_; have SZw_5 := Aside0.mk hb.size; clear hb ho; obtain ⟨A_x, c_x, e_x⟩ := Kd.R_slice RX.out; subst e_x; have hc1_w_5 : w_5.cell? ⟨g1, 0, none⟩ = some (.int .i64 a0) := (blk_cell BX1.out 0).trans rfl; have hf1_w_5 := blk_frozen BX1.out 0; have hc2_w_5 : w_5.cell? ⟨g2, 0, none⟩ = some (.slice none 0 0) := (blk_cell BX2.out 0).trans rfl; have hf2_w_5 := blk_frozen BX2.out 0; skip)
      | ((with_reducible refine gate_store (t := 26) (p := 2) rfl ?_); refine store_event (t := 26) (p := 2) (v := ?vo_w_6) (w1 := (w_5.setCell ⟨g2, 0, none⟩ (.slice none 0 0))) ?hg ?ho ?hn ?hr ?_; (case ho => rfl); (case hg => rfl); (case hn => rfl); (case hr => first | (go_simp; done) | (go_simp; rfl)); intro w_6 hw; have hk : Kept w_5 w_6 (fun k_ => k_ = g2) := (by rw [hw]; exact impl_FirstTorus.kset _ _ _); (try clear hc1_w_5); (try clear hf1_w_5); (try clear hc2_w_5); (try clear hf2_w_5); have n0_ := Aside0.mk (blk_kept (g := g1) (o := .cells #[.int .i64 a0] 3 (0, 0)) BX1.out hk (fun h_ => by (try dsimp only at h_); have := SG1.out; have := SZw_1.out; have := SL1.out; have := SG2.out; have := SZw_2.out; have := SL2.out; have := SZw_3.out; have := SZw_4.out; have := SZw_5.out; omega)); have n1_ := Aside0.mk ((by rw [hw]; exact below_set HB.out GE2.out : Below w.heap.size w w_6)); have n2_ := Aside0.mk ((by rw [hw]; exact blk_put (cs := #[.slice none 0 0]) BX2.out 0 _ rfl : w_6.heap[g2]? = some (.cells #[.slice none 0 0] 26 (0, 0)))); clear BX1 HB BX2; have BX1 := n0_; have HB := n1_; have BX2 := n2_; clear n0_ n1_ n2_; have SZw_6 := Aside0.mk hk.1; clear hk hw; have hc1_w_6 : w_6.cell? ⟨g1, 0, none⟩ = some (.int .i64 a0) := (blk_cell BX1.out 0).trans rfl; have hf1_w_6 := blk_frozen BX1.out 0; have hc2_w_6 : w_6.cell? ⟨g2, 0, none⟩ = some (.slice none 0 0) := (blk_cell BX2.out 0).trans rfl; have hf2_w_6 := blk_frozen BX2.out 0; skip))
      refine bodyPost_ret (results_ct rfl _ _ g2 26 #[.slice none 0 0] (0, 0) _ rfl BX2.out Try.underlying26 rfl (by kernel_rfl)) rfl ?_
      exact ⟨_, rfl, Kd.S_nil _ _ _ _ _, HB.out⟩
  · rw [if_neg c1] at H
    replace c1 := Bool.eq_false_iff.mpr c1
    subst c1
    simp only [Option.some.injEq, Prod.mk.injEq] at H
    obtain ⟨rfl, rfl⟩ := H
    go_enter Try.func18, Try.ntmps18
    go_wp2_with (first
      | ((with_reducible refine gate_dst (N := 1) rfl ?_); refine box_event ?hg (N := 1) ?hd (cs := #[.int .i64 a0]) (t := 3) ?hr ?_; (case hd => rfl); (case hg => rfl); (case hr => first | (go_simp; done) | (go_simp; rfl)); intro g1 hg w_1 hbox hb; have n0_ := Aside0.mk (below_step HB.out hb); clear HB; have HB := n0_; clear n0_; have BX1 := Aside0.mk hbox; have SG1 := Aside0.mk hg; have SZw_1 := Aside0.mk hb.size; have SL1 := Aside0.mk (blk_lt hbox); clear hb hbox hg; have GE1 := Aside0.mk (show w.heap.size ≤ g1 by have := SG1.out; omega); have hc1_w_1 : w_1.cell? ⟨g1, 0, none⟩ = some (.int .i64 a0) := (blk_cell BX1.out 0).trans rfl; have hf1_w_1 := blk_frozen BX1.out 0; skip)
      | ((with_reducible refine gate_dst (N := 2) rfl ?_); refine box_event ?hg (N := 2) ?hd (cs := #[.slice none 0 0]) (t := 26) ?hr ?_; (case hd => rfl); (case hg => rfl); (case hr => first | (go_simp; done) | (go_simp; rfl)); intro g2 hg w_2 hbox hb; (try clear hc1_w_1); (try clear hf1_w_1); have n0_ := Aside0.mk (blk_below (g := g1) (o := .cells #[.int .i64 a0] 3 (0, 0)) BX1.out hb); have n1_ := Aside0.mk (below_step HB.out hb); clear BX1 HB; have BX1 := n0_; have HB := n1_; clear n0_ n1_; have BX2 := Aside0.mk hbox; have SG2 := Aside0.mk hg; have SZw_2 := Aside0.mk hb.size; have SL2 := Aside0.mk (blk_lt hbox); clear hb hbox hg; have GE2 := Aside0.mk (show w.heap.size ≤ g2 by have := SG1.out; have := SZw_1.out; have := SL1.out; have := SG2.out; omega); have hc1_w_2 : w_2.cell? ⟨g1, 0, none⟩ = some (.int .i64 a0) := (blk_cell BX1.out 0).trans rfl; have hf1_w_2 := blk_frozen BX1.out 0; have hc2_w_2 : w_2.cell? ⟨g2, 0, none⟩ = some (.slice none 0 0) := (blk_cell BX2.out 0).trans rfl; have hf2_w_2 := blk_frozen BX2.out 0; skip)
      | ((with_reducible refine gate_dst (N := 6) rfl ?_); refine Kd.R_lit (Kd.int .i64) _ 3 ?hg (N := 6) ?hd (xs := ([1, 2, 4, 8, 16] : List Int)) (inner := [.int .i64 1, .int .i64 2, .int .i64 4, .int .i64 8, .int .i64 16]) (ok := fun _ => True) (okp := fun _ => True) ?hr ?hp (fun _ hk => hk) trivial (Below.refl _ _) (Nat.le_refl _) (by simp) ?_; (case hd => rfl); (case hg => rfl); (case hr => first | (go_simp; done) | (go_simp; rfl)); (case hp => exact (Reps.one (show Kd.M (Kd.int .i64) _ _ _ 1 [.int .i64 1] from rfl) (Reps.one (show Kd.M (Kd.int .i64) _ _ _ 2 [.int .i64 2] from rfl) (Reps.one (show Kd.M (Kd.int .i64) _ _ _ 4 [.int .i64 4] from rfl) (Reps.one (show Kd.M (Kd.int .i64) _ _ _ 8 [.int .i64 8] from rfl) (Reps.one (show Kd.M (Kd.int .i64) _ _ _ 16 [.int .i64 16] from rfl) (Reps.none _ _))))))); intro v_l w_3 ho hb hg_ hnew_; clear hg_ hnew_; (try clear hc1_w_2); (try clear hf1_w_2); (try clear hc2_w_2); (try clear hf2_w_2); have n0_ := Aside0.mk (blk_below (g := g1) (o := .cells #[.int .i64 a0] 3 (0, 0)) BX1.out hb); have n1_ := Aside0.mk (blk_below (g := g2) (o := .cells #[.slice none 0 0] 26 (0, 0)) BX2.out hb); have n2_ := Aside0.mk (below_step HB.out hb); clear BX1 BX2 HB; have BX1 := n0_; have BX2 := n1_; have HB := n2_; clear n0_ n1_ n2_; have SZw_3 := Aside0.mk hb.size; have RL := Aside0.mk ho; clear hb ho; obtain ⟨A_l, c_l, e_l⟩ := Kd.R_slice RL.out; subst e_l; have hc1_w_3 : w_3.cell? ⟨g1, 0, none⟩ = some (.int .i64 a0) := (blk_cell BX1.out 0).trans rfl; have hf1_w_3 := blk_frozen BX1.out 0; have hc2_w_3 : w_3.cell? ⟨g2, 0, none⟩ = some (.slice none 0 0) := (blk_cell BX2.out 0).trans rfl; have hf2_w_3 := blk_frozen BX2.out 0; skip)
      | ((with_reducible refine gate_callee (f := 73) rfl ?_); refine goesL_ (some 8) rfl rfl Try.func73 (by kernel_rfl) rfl #[.slice A_l ([1, 2, 4, 8, 16] : List Int).length c_l, .int .i64 a0] rfl (by (try simp only [List.map_toArray, List.map_cons, List.map_nil]); first | done | rfl) ?_; (with_reducible refine (slices_Contains_int_int.calls k _ _ ([1, 2, 4, 8, 16] : List Int) a0 false _ ?side1 ?side2 A1.out).mono ?_); (case side1 => exact (Kd.R_reads' RL.out).2.2); (case side2 => exact (Kd.R_reads' RL.out).2.1); rintro e w_4 ⟨rfl, hd⟩; refine ⟨_, rfl, ?_⟩; obtain ⟨nd_, hnd_⟩ := hd; have hb : Below w_3.heap.size w_3 w_4 := (by rw [hnd_]; exact pw_below_drewN (Below.refl _ _) _); clear hnd_ nd_; (try clear hc1_w_3); (try clear hf1_w_3); (try clear hc2_w_3); (try clear hf2_w_3); clear RL; have n0_ := Aside0.mk (blk_below (g := g1) (o := .cells #[.int .i64 a0] 3 (0, 0)) BX1.out hb); have n1_ := Aside0.mk (blk_below (g := g2) (o := .cells #[.slice none 0 0] 26 (0, 0)) BX2.out hb); have n2_ := Aside0.mk (below_step HB.out hb); clear BX1 BX2 HB; have BX1 := n0_; have BX2 := n1_; have HB := n2_; clear n0_ n1_ n2_; have SZw_4 := Aside0.mk hb.size; clear hb; have hc1_w_4 : w_4.cell? ⟨g1, 0, none⟩ = some (.int .i64 a0) := (blk_cell BX1.out 0).trans rfl; have hf1_w_4 := blk_frozen BX1.out 0; have hc2_w_4 : w_4.cell? ⟨g2, 0, none⟩ = some (.slice none 0 0) := (blk_cell BX2.out 0).trans rfl; have hf2_w_4 := blk_frozen BX2.out 0; skip)
      | ((with_reducible refine gate_store (t := 26) (p := 2) rfl ?_); refine store_event (t := 26) (p := 2) (v := ?vo_w_5) (w1 := (w_4.setCell ⟨g2, 0, none⟩ (.slice none 0 0))) ?hg ?ho ?hn ?hr ?_; (case ho => rfl); (case hg => rfl); (case hn => rfl); (case hr => first | (go_simp; done) | (go_simp; rfl)); intro w_5 hw; have hk : Kept w_4 w_5 (fun k_ => k_ = g2) := (by rw [hw]; exact impl_FirstTorus.kset _ _ _); (try clear hc1_w_4); (try clear hf1_w_4); (try clear hc2_w_4); (try clear hf2_w_4); have n0_ := Aside0.mk (blk_kept (g := g1) (o := .cells #[.int .i64 a0] 3 (0, 0)) BX1.out hk (fun h_ => by (try dsimp only at h_); have := SG1.out; have := SZw_1.out; have := SL1.out; have := SG2.out; have := SZw_2.out; have := SL2.out; have := SZw_3.out; have := SZw_4.out; omega)); have n1_ := Aside0.mk ((by rw [hw]; exact below_set HB.out GE2.out : Below w.heap.size w w_5)); have n2_ := Aside0.mk ((by rw [hw]; exact blk_put (cs := #[.slice none 0 0]) BX2.out 0 _ rfl : w_5.heap[g2]? = some (.cells #[.slice none 0 0] 26 (0, 0)))); clear BX1 HB BX2; have BX1 := n0_; have HB := n1_; have BX2 := n2_; clear n0_ n1_ n2_; have SZw_5 := Aside0.mk hk.1; clear hk hw; have hc1_w_5 : w_5.cell? ⟨g1, 0, none⟩ = some (.int .i64 a0) := (blk_cell BX1.out 0).trans rfl; have hf1_w_5 := blk_frozen BX1.out 0; have hc2_w_5 : w_5.cell? ⟨g2, 0, none⟩ = some (.slice none 0 0) := (blk_cell BX2.out 0).trans rfl; have hf2_w_5 := blk_frozen BX2.out 0; skip))
    refine bodyPost_ret (results_ct rfl _ _ g2 26 #[.slice none 0 0] (0, 0) _ rfl BX2.out Try.underlying26 rfl (by kernel_rfl)) rfl ?_
    exact ⟨_, rfl, Kd.S_nil _ _ _ _ _, HB.out⟩

/-! ### laws_FnExactFirstTorus: function 4 (a walk of this session's own, on the one way to true) -/
def laws_FnExactFirstTorus.f (k : Nat) (a0 : Int) : Option Bool := (spec_FirstTorus.f k a0).bind fun u => ((impl_FirstTorus.f k a0).bind fun v => (if v = u then ((laws_eqTorus.f k u.1 u.1).bind fun e => (if e = true then ((laws_markTorus.f k u.1 1).bind fun y => (if 0 ≤ y.1 then ((laws_heldTorus.f k y.2 1).bind fun q => (if q = y.1 then some true else none)) else none)) else none)) else none))
theorem laws_FnExactFirstTorus.kset (W : World) (g : Nat) (v : Value) : Kept W (W.setCell ⟨g, 0, none⟩ v) (fun k_ => k_ = g) :=
  ⟨by simp, fun i _ hn => Below.heap_setCell W ⟨g, 0, none⟩ v i hn⟩
theorem laws_FnExactFirstTorus.fresh {w0 W W1 : World} {v : Value} {l : List (List Int)} (h : Kd.S (Kd.slice 3 (Kd.int .i64)) 44 W1 W.heap.size (fun _ => True) v l) (hb : w0.heap.size ≤ W.heap.size) : Kd.S (Kd.slice 3 (Kd.int .i64)) 44 W1 w0.heap.size (fun k_ => W.heap.size ≤ k_ ∧ k_ < W1.heap.size) v l :=
  Kd.S_lower (Kd.S_mono (Kd.S_bound h) (fun _ hk => ⟨hk.2.1, hk.2.2.1⟩)) hb
theorem laws_FnExactFirstTorus.bound {W1 : World} {b n : Nat} {P : Nat → Prop} {v : Value} {l : List (List Int)} (h : Kd.S (Kd.slice 3 (Kd.int .i64)) 44 W1 b (fun k_ => P k_ ∨ n ≤ k_) v l) : Kd.S (Kd.slice 3 (Kd.int .i64)) 44 W1 b (fun k_ => P k_ ∨ (n ≤ k_ ∧ k_ < W1.heap.size)) v l :=
  Kd.S_mono (Kd.S_bound h) (fun _ hk => hk.1.imp id (fun h_ => ⟨h_, hk.2.2.1⟩))
theorem laws_FnExactFirstTorus.freshN {w0 W W1 : World} {v : Value} {l : List (List Int)} (h : Kd.N (Kd.slice 3 (Kd.int .i64)) 44 W1 W.heap.size (fun k_ => W.heap.size ≤ k_) v l) (hb : w0.heap.size ≤ W.heap.size) : Kd.N (Kd.slice 3 (Kd.int .i64)) 44 W1 w0.heap.size (fun k_ => W.heap.size ≤ k_ ∧ k_ < W1.heap.size) v l :=
  Kd.N_lower (Kd.N_bound h) hb
set_option maxHeartbeats 32000000 in
set_option maxRecDepth 100000 in
theorem laws_FnExactFirstTorus.calls (k : Nat) (a0 : Int) (r : Bool) (w : World) (h : laws_FnExactFirstTorus.f k a0 = some r) :
    Calls Try.prog 4 #[.int .i64 a0] w fun e w' => e = .returned (.bool r) ∧ Below w.heap.size w w' := by
  have hu26 := Try.underlying26
  have HB := Aside0.mk (Below.refl w.heap.size w)
  unfold laws_FnExactFirstTorus.f at h
  have H := h
  clear h
  replace H := Option.bind_eq_some_iff.mp H
  obtain ⟨⟨u1, u2⟩, h_, H⟩ := H
  (try dsimp only at H)
  have PU := Aside0.mk h_
  clear h_
  replace H := Option.bind_eq_some_iff.mp H
  obtain ⟨⟨v1, v2⟩, h_, H⟩ := H
  (try dsimp only at H)
  have PV := Aside0.mk h_
  clear h_
  by_cases c2 : ¬ ((v1, v2) = (u1, u2))
  · rw [if_neg c2] at H; exact absurd H (by simp)
  replace c2 := Decidable.not_not.mp c2
  rw [if_pos c2] at H
  obtain ⟨rfl, rfl⟩ := Prod.mk.inj c2
  clear c2
  replace H := Option.bind_eq_some_iff.mp H
  obtain ⟨e1, h_, H⟩ := H
  (try dsimp only at H)
  have PE := Aside0.mk h_
  clear h_
  by_cases c2 : ¬ (e1 = true)
  · rw [if_neg c2] at H; exact absurd H (by simp)
  replace c2 := Decidable.not_not.mp c2
  rw [if_pos c2] at H
  subst c2
  replace H := Option.bind_eq_some_iff.mp H
  obtain ⟨⟨y1, y2⟩, h_, H⟩ := H
  (try dsimp only at H)
  have PY := Aside0.mk h_
  clear h_
  by_cases c2 : ¬ (0 ≤ y1)
  · rw [if_neg c2] at H; exact absurd H (by simp)
  replace c2 := Decidable.not_not.mp c2
  rw [if_pos c2] at H
  have cy : decide (y1 < 0) = false := decide_eq_false (by omega)
  clear c2
  replace H := Option.bind_eq_some_iff.mp H
  obtain ⟨q, h_, H⟩ := H
  (try dsimp only at H)
  have PQ := Aside0.mk h_
  clear h_
  by_cases c2 : ¬ (q = y1)
  · rw [if_neg c2] at H; exact absurd H (by simp)
  replace c2 := Decidable.not_not.mp c2
  rw [if_pos c2] at H
  replace c2 := c2.symm
  subst c2
  obtain rfl := Option.some.inj H
  clear H
  go_enter Try.func4, Try.ntmps4
  go_wp2_with (first
      | ((with_reducible refine gate_callee (f := 17) rfl ?_); refine goesL_ (some 13) rfl rfl Try.func17 (by kernel_rfl) rfl #[.int .i64 a0] rfl (by (try simp only [List.map_toArray, List.map_cons, List.map_nil]); first | done | rfl) ?_; (with_reducible refine (spec_FirstTorus.calls k a0 v1 v2 _  PU.out).mono ?_); rintro e w_1 ⟨v_p, rfl, ho, hb⟩; refine ⟨_, rfl, ?_⟩; have RWp := Aside0.mk (laws_FnExactFirstTorus.freshN (w0 := w) ho (below_size HB.out)); have n0_ := Aside0.mk (below_step HB.out hb); clear HB; have HB := n0_; clear n0_; have SZw_1 := Aside0.mk hb.size; clear hb ho; obtain ⟨A_p, c_p, e_p⟩ := Kd.N_slice RWp.out; subst e_p; skip)
      | ((with_reducible refine gate_dst (N := 3) rfl ?_); refine box_event ?hg (N := 3) ?hd (cs := #[.slice none 0 0]) (t := 26) ?hr ?_; (case hd => rfl); (case hg => rfl); (case hr => first | (go_simp; done) | (go_simp; rfl)); intro g3 hg w_2 hbox hb; have n0_ := Aside0.mk (Kd.N_below RWp.out hb); have n1_ := Aside0.mk (below_step HB.out hb); clear RWp HB; have RWp := n0_; have HB := n1_; clear n0_ n1_; have BX3 := Aside0.mk hbox; have SG3 := Aside0.mk hg; have SZw_2 := Aside0.mk hb.size; have SL3 := Aside0.mk (blk_lt hbox); clear hb hbox hg; have GE3 := Aside0.mk (show w.heap.size ≤ g3 by have := SZw_1.out; have := SG3.out; omega); have hc3_w_2 : w_2.cell? ⟨g3, 0, none⟩ = some (.slice none 0 0) := (blk_cell BX3.out 0).trans rfl; have hf3_w_2 := blk_frozen BX3.out 0; skip)
      | ((with_reducible refine gate_store (t := 26) (p := 3) rfl ?_); refine store_event (t := 26) (p := 3) (v := ?vo_w_3) (w1 := (w_2.setCell ⟨g3, 0, none⟩ (.slice A_p v1.length c_p))) ?hg ?ho ?hn ?hr ?_; (case ho => rfl); (case hg => rfl); (case hn => rfl); (case hr => first | (go_simp; done) | (go_simp; rfl)); intro w_3 hw; have hk : Kept w_2 w_3 (fun k_ => k_ = g3) := (by rw [hw]; exact laws_FnExactFirstTorus.kset _ _ _); (try clear hc3_w_2); (try clear hf3_w_2); have n0_ := Aside0.mk (Kd.N_kept RWp.out hk (fun k_ h1_ h2_ => by (try dsimp only at h1_ h2_); have := SZw_1.out; have := SG3.out; have := SZw_2.out; have := SL3.out; omega)); have n1_ := Aside0.mk ((by rw [hw]; exact below_set HB.out GE3.out : Below w.heap.size w w_3)); have n2_ := Aside0.mk ((by rw [hw]; exact blk_put (cs := #[.slice none 0 0]) BX3.out 0 _ rfl : w_3.heap[g3]? = some (.cells #[.slice A_p v1.length c_p] 26 (0, 0)))); clear RWp HB BX3; have RWp := n0_; have HB := n1_; have BX3 := n2_; clear n0_ n1_ n2_; have SZw_3 := Aside0.mk hk.1; clear hk hw; have hc3_w_3 : w_3.cell? ⟨g3, 0, none⟩ = some (.slice A_p v1.length c_p) := (blk_cell BX3.out 0).trans rfl; have hf3_w_3 := blk_frozen BX3.out 0; skip)
      | ((with_reducible refine gate_callee (f := 18) rfl ?_); refine goesL_ (some 18) rfl rfl Try.func18 (by kernel_rfl) rfl #[.int .i64 a0] rfl (by (try simp only [List.map_toArray, List.map_cons, List.map_nil]); first | done | rfl) ?_; (with_reducible refine (impl_FirstTorus.calls k a0 v1 v2 _  PV.out).mono ?_); rintro e w_4 ⟨v_g, rfl, ho, hb⟩; refine ⟨_, rfl, ?_⟩; (try clear hc3_w_3); (try clear hf3_w_3); have RWg := Aside0.mk (laws_FnExactFirstTorus.fresh (w0 := w) ho (below_size HB.out)); have n0_ := Aside0.mk (blk_below (g := g3) (o := .cells #[.slice A_p v1.length c_p] 26 (0, 0)) BX3.out hb); have n1_ := Aside0.mk (Kd.N_below RWp.out hb); have n2_ := Aside0.mk (below_step HB.out hb); clear BX3 RWp HB; have BX3 := n0_; have RWp := n1_; have HB := n2_; clear n0_ n1_ n2_; have SZw_4 := Aside0.mk hb.size; clear hb ho; obtain ⟨A_g, c_g, e_g⟩ := Kd.S_slice RWg.out; subst e_g; have hc3_w_4 : w_4.cell? ⟨g3, 0, none⟩ = some (.slice A_p v1.length c_p) := (blk_cell BX3.out 0).trans rfl; have hf3_w_4 := blk_frozen BX3.out 0; skip)
      | ((with_reducible refine gate_dst (N := 5) rfl ?_); refine box_event ?hg (N := 5) ?hd (cs := #[.slice none 0 0]) (t := 26) ?hr ?_; (case hd => rfl); (case hg => rfl); (case hr => first | (go_simp; done) | (go_simp; rfl)); intro g5 hg w_5 hbox hb; (try clear hc3_w_4); (try clear hf3_w_4); have n0_ := Aside0.mk (blk_below (g := g3) (o := .cells #[.slice A_p v1.length c_p] 26 (0, 0)) BX3.out hb); have n1_ := Aside0.mk (Kd.N_below RWp.out hb); have n2_ := Aside0.mk (Kd.S_below RWg.out hb); have n3_ := Aside0.mk (below_step HB.out hb); clear BX3 RWp RWg HB; have BX3 := n0_; have RWp := n1_; have RWg := n2_; have HB := n3_; clear n0_ n1_ n2_ n3_; have BX5 := Aside0.mk hbox; have SG5 := Aside0.mk hg; have SZw_5 := Aside0.mk hb.size; have SL5 := Aside0.mk (blk_lt hbox); clear hb hbox hg; have GE5 := Aside0.mk (show w.heap.size ≤ g5 by have := SZw_1.out; have := SG3.out; have := SZw_2.out; have := SL3.out; have := SZw_3.out; have := SZw_4.out; have := SG5.out; omega); have hc3_w_5 : w_5.cell? ⟨g3, 0, none⟩ = some (.slice A_p v1.length c_p) := (blk_cell BX3.out 0).trans rfl; have hf3_w_5 := blk_frozen BX3.out 0; have hc5_w_5 : w_5.cell? ⟨g5, 0, none⟩ = some (.slice none 0 0) := (blk_cell BX5.out 0).trans rfl; have hf5_w_5 := blk_frozen BX5.out 0; skip)
      | ((with_reducible refine gate_store (t := 26) (p := 5) rfl ?_); refine store_event (t := 26) (p := 5) (v := ?vo_w_6) (w1 := (w_5.setCell ⟨g5, 0, none⟩ (.slice A_g v1.length c_g))) ?hg ?ho ?hn ?hr ?_; (case ho => rfl); (case hg => rfl); (case hn => rfl); (case hr => first | (go_simp; done) | (go_simp; rfl)); intro w_6 hw; have hk : Kept w_5 w_6 (fun k_ => k_ = g5) := (by rw [hw]; exact laws_FnExactFirstTorus.kset _ _ _); (try clear hc3_w_5); (try clear hf3_w_5); (try clear hc5_w_5); (try clear hf5_w_5); have n0_ := Aside0.mk (blk_kept (g := g3) (o := .cells #[.slice A_p v1.length c_p] 26 (0, 0)) BX3.out hk (fun h_ => by (try dsimp only at h_); have := SZw_1.out; have := SG3.out; have := SZw_2.out; have := SL3.out; have := SZw_3.out; have := SZw_4.out; have := SG5.out; have := SZw_5.out; have := SL5.out; omega)); have n1_ := Aside0.mk (Kd.N_kept RWp.out hk (fun k_ h1_ h2_ => by (try dsimp only at h1_ h2_); have := SZw_1.out; have := SG3.out; have := SZw_2.out; have := SL3.out; have := SZw_3.out; have := SZw_4.out; have := SG5.out; have := SZw_5.out; have := SL5.out; omega)); have n2_ := Aside0.mk (Kd.S_kept RWg.out hk (fun k_ h1_ h2_ => by (try dsimp only at h1_ h2_); have := SZw_1.out; have := SG3.out; have := SZw_2.out; have := SL3.out; have := SZw_3.out; have := SZw_4.out; have := SG5.out; have := SZw_5.out; have := SL5.out; omega)); have n3_ := Aside0.mk ((by rw [hw]; exact below_set HB.out GE5.out : Below w.heap.size w w_6)); have n4_ := Aside0.mk ((by rw [hw]; exact blk_put (cs := #[.slice none 0 0]) BX5.out 0 _ rfl : w_6.heap[g5]? = some (.cells #[.slice A_g v1.length c_g] 26 (0, 0)))); clear BX3 RWp RWg HB BX5; have BX3 := n0_; have RWp := n1_; have RWg := n2_; have HB := n3_; have BX5 := n4_; clear n0_ n1_ n2_ n3_ n4_; have SZw_6 := Aside0.mk hk.1; clear hk hw; have hc3_w_6 : w_6.cell? ⟨g3, 0, none⟩ = some (.slice A_p v1.length c_p) := (blk_cell BX3.out 0).trans rfl; have hf3_w_6 := blk_frozen BX3.out 0; have hc5_w_6 : w_6.cell? ⟨g5, 0, none⟩ = some (.slice A_g v1.length c_g) := (blk_cell BX5.out 0).trans rfl; have hf5_w_6 := blk_frozen BX5.out 0; skip)
      | ((with_reducible refine gate_callee (f := 14) rfl ?_); refine goesL_ (some 23) rfl rfl Try.func14 (by kernel_rfl) rfl #[.agg #[.slice A_g v1.length c_g], .agg #[.slice A_p v1.length c_p]] rfl (by (try simp only [List.map_toArray, List.map_cons, List.map_nil]); first | done | rfl) ?_; (with_reducible refine (laws_eqTorus.calls k _ _ v1 _ _ v1 true _ ?side1 ?side2 ?side3 ?side4 PE.out).mono ?_); (case side1 => exact (Kd.S_reads' RWg.out).2.2); (case side2 => exact (Kd.S_reads' RWg.out).2.1); (case side3 => exact (Kd.N_reads' RWp.out).2.2); (case side4 => exact (Kd.N_reads' RWp.out).2.1); rintro e w_7 ⟨rfl, hb⟩; refine ⟨_, rfl, ?_⟩; (try clear hc3_w_6); (try clear hf3_w_6); (try clear hc5_w_6); (try clear hf5_w_6); have n0_ := Aside0.mk (blk_below (g := g3) (o := .cells #[.slice A_p v1.length c_p] 26 (0, 0)) BX3.out hb); have n1_ := Aside0.mk (blk_below (g := g5) (o := .cells #[.slice A_g v1.length c_g] 26 (0, 0)) BX5.out hb); have n2_ := Aside0.mk (Kd.N_below RWp.out hb); have n3_ := Aside0.mk (Kd.S_below RWg.out hb); have n4_ := Aside0.mk (below_step HB.out hb); clear BX3 BX5 RWp RWg HB; have BX3 := n0_; have BX5 := n1_; have RWp := n2_; have RWg := n3_; have HB := n4_; clear n0_ n1_ n2_ n3_ n4_; have SZw_7 := Aside0.mk hb.size; clear hb; have hc3_w_7 : w_7.cell? ⟨g3, 0, none⟩ = some (.slice A_p v1.length c_p) := (blk_cell BX3.out 0).trans rfl; have hf3_w_7 := blk_frozen BX3.out 0; have hc5_w_7 : w_7.cell? ⟨g5, 0, none⟩ = some (.slice A_g v1.length c_g) := (blk_cell BX5.out 0).trans rfl; have hf5_w_7 := blk_frozen BX5.out 0; skip)
      | ((with_reducible refine gate_callee (f := 15) rfl ?_); refine goesL_ (some 32) rfl rfl Try.func15 (by kernel_rfl) rfl #[.agg #[.slice A_g (v1).length c_g], .int .i64 1] rfl (by (try simp only [List.map_toArray, List.map_cons, List.map_nil]); first | done | rfl) ?_; (with_reducible refine (laws_markTorus.calls k (fun k_ => w_3.heap.size ≤ k_ ∧ k_ < w_4.heap.size) (.slice A_g (v1).length c_g) (v1) 1 y1 y2 w _ HB.out RWg.out PY.out).mono ?_); rintro e w_8 ⟨rfl, hy, hB2, hk⟩; refine ⟨_, rfl, ?_⟩; (try clear hc3_w_7); (try clear hf3_w_7); (try clear hc5_w_7); (try clear hf5_w_7); have n0_ := Aside0.mk (blk_kept (g := g3) (o := .cells #[.slice A_p v1.length c_p] 26 (0, 0)) BX3.out hk (fun h_ => by (try dsimp only at h_); have := SZw_1.out; have := SG3.out; have := SZw_2.out; have := SL3.out; have := SZw_3.out; have := SZw_4.out; have := SG5.out; have := SZw_5.out; have := SL5.out; have := SZw_6.out; have := SZw_7.out; omega)); have n1_ := Aside0.mk (blk_kept (g := g5) (o := .cells #[.slice A_g v1.length c_g] 26 (0, 0)) BX5.out hk (fun h_ => by (try dsimp only at h_); have := SZw_1.out; have := SG3.out; have := SZw_2.out; have := SL3.out; have := SZw_3.out; have := SZw_4.out; have := SG5.out; have := SZw_5.out; have := SL5.out; have := SZw_6.out; have := SZw_7.out; omega)); have n2_ := Aside0.mk (Kd.N_kept RWp.out hk (fun k_ h1_ h2_ => by (try dsimp only at h1_ h2_); have := SZw_1.out; have := SG3.out; have := SZw_2.out; have := SL3.out; have := SZw_3.out; have := SZw_4.out; have := SG5.out; have := SZw_5.out; have := SL5.out; have := SZw_6.out; have := SZw_7.out; omega)); have n3_ := Aside0.mk (hB2); have n4_ := Aside0.mk (laws_FnExactFirstTorus.bound hy); clear BX3 BX5 RWp HB RWg; have BX3 := n0_; have BX5 := n1_; have RWp := n2_; have HB := n3_; have RWg := n4_; clear n0_ n1_ n2_ n3_ n4_; have SZw_8 := Aside0.mk hk.1; clear hk hB2 hy; have hc3_w_8 : w_8.cell? ⟨g3, 0, none⟩ = some (.slice A_p v1.length c_p) := (blk_cell BX3.out 0).trans rfl; have hf3_w_8 := blk_frozen BX3.out 0; have hc5_w_8 : w_8.cell? ⟨g5, 0, none⟩ = some (.slice A_g v1.length c_g) := (blk_cell BX5.out 0).trans rfl; have hf5_w_8 := blk_frozen BX5.out 0; skip)
      | ((with_reducible refine gate_callee (f := 16) rfl ?_); refine goesL_ (some 35) rfl rfl Try.func16 (by kernel_rfl) rfl #[.agg #[.slice A_g y2.length c_g], .int .i64 1] rfl (by (try simp only [List.map_toArray, List.map_cons, List.map_nil]); first | done | (rw [show y2.length = v1.length from (Kd.S_reads' RWg.out).1.symm] <;> rfl) | rfl) ?_; (with_reducible refine (laws_heldTorus.calls k _ _ y2 1 y1 _ ?side1 ?side2 PQ.out).mono ?_); (case side1 => exact (Kd.S_reads' RWg.out).2.2); (case side2 => rw [show y2.length = v1.length from (Kd.S_reads' RWg.out).1.symm]; exact (Kd.S_reads' RWg.out).2.1); rintro e w_9 ⟨rfl, hb⟩; refine ⟨_, rfl, ?_⟩; (try clear hc3_w_8); (try clear hf3_w_8); (try clear hc5_w_8); (try clear hf5_w_8); have n0_ := Aside0.mk (blk_below (g := g3) (o := .cells #[.slice A_p v1.length c_p] 26 (0, 0)) BX3.out hb); have n1_ := Aside0.mk (blk_below (g := g5) (o := .cells #[.slice A_g v1.length c_g] 26 (0, 0)) BX5.out hb); have n2_ := Aside0.mk (Kd.N_below RWp.out hb); have n3_ := Aside0.mk (Kd.S_below RWg.out hb); have n4_ := Aside0.mk (below_step HB.out hb); clear BX3 BX5 RWp RWg HB; have BX3 := n0_; have BX5 := n1_; have RWp := n2_; have RWg := n3_; have HB := n4_; clear n0_ n1_ n2_ n3_ n4_; have SZw_9 := Aside0.mk hb.size; clear hb; have hc3_w_9 : w_9.cell? ⟨g3, 0, none⟩ = some (.slice A_p v1.length c_p) := (blk_cell BX3.out 0).trans rfl; have hf3_w_9 := blk_frozen BX3.out 0; have hc5_w_9 : w_9.cell? ⟨g5, 0, none⟩ = some (.slice A_g v1.length c_g) := (blk_cell BX5.out 0).trans rfl; have hf5_w_9 := blk_frozen BX5.out 0; skip)
      | ((with_reducible refine gate_callee (f := 18) rfl ?_); refine goesL_ (some 43) rfl rfl Try.func18 (by kernel_rfl) rfl #[.int .i64 a0] rfl (by (try simp only [List.map_toArray, List.map_cons, List.map_nil]); first | done | rfl) ?_; (with_reducible refine (impl_FirstTorus.calls k a0 v1 v2 _  PV.out).mono ?_); rintro e w_10 ⟨v_i, rfl, ho, hb⟩; refine ⟨_, rfl, ?_⟩; (try clear hc3_w_9); (try clear hf3_w_9); (try clear hc5_w_9); (try clear hf5_w_9); have RWi := Aside0.mk (laws_FnExactFirstTorus.fresh (w0 := w) ho (below_size HB.out)); have n0_ := Aside0.mk (blk_below (g := g3) (o := .cells #[.slice A_p v1.length c_p] 26 (0, 0)) BX3.out hb); have n1_ := Aside0.mk (blk_below (g := g5) (o := .cells #[.slice A_g v1.length c_g] 26 (0, 0)) BX5.out hb); have n2_ := Aside0.mk (Kd.N_below RWp.out hb); have n3_ := Aside0.mk (Kd.S_below RWg.out hb); have n4_ := Aside0.mk (below_step HB.out hb); clear BX3 BX5 RWp RWg HB; have BX3 := n0_; have BX5 := n1_; have RWp := n2_; have RWg := n3_; have HB := n4_; clear n0_ n1_ n2_ n3_ n4_; have SZw_10 := Aside0.mk hb.size; clear hb ho; obtain ⟨A_i, c_i, e_i⟩ := Kd.S_slice RWi.out; subst e_i; have hc3_w_10 : w_10.cell? ⟨g3, 0, none⟩ = some (.slice A_p v1.length c_p) := (blk_cell BX3.out 0).trans rfl; have hf3_w_10 := blk_frozen BX3.out 0; have hc5_w_10 : w_10.cell? ⟨g5, 0, none⟩ = some (.slice A_g v1.length c_g) := (blk_cell BX5.out 0).trans rfl; have hf5_w_10 := blk_frozen BX5.out 0; skip)
      | ((with_reducible refine gate_dst (N := 9) rfl ?_); refine box_event ?hg (N := 9) ?hd (cs := #[.slice none 0 0]) (t := 26) ?hr ?_; (case hd => rfl); (case hg => rfl); (case hr => first | (go_simp; done) | (go_simp; rfl)); intro g9 hg w_11 hbox hb; (try clear hc3_w_10); (try clear hf3_w_10); (try clear hc5_w_10); (try clear hf5_w_10); have n0_ := Aside0.mk (blk_below (g := g3) (o := .cells #[.slice A_p v1.length c_p] 26 (0, 0)) BX3.out hb); have n1_ := Aside0.mk (blk_below (g := g5) (o := .cells #[.slice A_g v1.length c_g] 26 (0, 0)) BX5.out hb); have n2_ := Aside0.mk (Kd.N_below RWp.out hb); have n3_ := Aside0.mk (Kd.S_below RWg.out hb); have n4_ := Aside0.mk (Kd.S_below RWi.out hb); have n5_ := Aside0.mk (below_step HB.out hb); clear BX3 BX5 RWp RWg RWi HB; have BX3 := n0_; have BX5 := n1_; have RWp := n2_; have RWg := n3_; have RWi := n4_; have HB := n5_; clear n0_ n1_ n2_ n3_ n4_ n5_; have BX9 := Aside0.mk hbox; have SG9 := Aside0.mk hg; have SZw_11 := Aside0.mk hb.size; have SL9 := Aside0.mk (blk_lt hbox); clear hb hbox hg; have GE9 := Aside0.mk (show w.heap.size ≤ g9 by have := SZw_1.out; have := SG3.out; have := SZw_2.out; have := SL3.out; have := SZw_3.out; have := SZw_4.out; have := SG5.out; have := SZw_5.out; have := SL5.out; have := SZw_6.out; have := SZw_7.out; have := SZw_8.out; have := SZw_9.out; have := SZw_10.out; have := SG9.out; omega); have hc3_w_11 : w_11.cell? ⟨g3, 0, none⟩ = some (.slice A_p v1.length c_p) := (blk_cell BX3.out 0).trans rfl; have hf3_w_11 := blk_frozen BX3.out 0; have hc5_w_11 : w_11.cell? ⟨g5, 0, none⟩ = some (.slice A_g v1.length c_g) := (blk_cell BX5.out 0).trans rfl; have hf5_w_11 := blk_frozen BX5.out 0; have hc9_w_11 : w_11.cell? ⟨g9, 0, none⟩ = some (.slice none 0 0) := (blk_cell BX9.out 0).trans rfl; have hf9_w_11 := blk_frozen BX9.out 0; skip)
      | ((with_reducible refine gate_store (t := 26) (p := 9) rfl ?_); refine store_event (t := 26) (p := 9) (v := ?vo_w_12) (w1 := (w_11.setCell ⟨g9, 0, none⟩ (.slice A_i v1.length c_i))) ?hg ?ho ?hn ?hr ?_; (case ho => rfl); (case hg => rfl); (case hn => rfl); (case hr => first | (go_simp; done) | (go_simp; rfl)); intro w_12 hw; have hk : Kept w_11 w_12 (fun k_ => k_ = g9) := (by rw [hw]; exact laws_FnExactFirstTorus.kset _ _ _); (try clear hc3_w_11); (try clear hf3_w_11); (try clear hc5_w_11); (try clear hf5_w_11); (try clear hc9_w_11); (try clear hf9_w_11); have n0_ := Aside0.mk (blk_kept (g := g3) (o := .cells #[.slice A_p v1.length c_p] 26 (0, 0)) BX3.out hk (fun h_ => by (try dsimp only at h_); have := SZw_1.out; have := SG3.out; have := SZw_2.out; have := SL3.out; have := SZw_3.out; have := SZw_4.out; have := SG5.out; have := SZw_5.out; have := SL5.out; have := SZw_6.out; have := SZw_7.out; have := SZw_8.out; have := SZw_9.out; have := SZw_10.out; have := SG9.out; have := SZw_11.out; have := SL9.out; omega)); have n1_ := Aside0.mk (blk_kept (g := g5) (o := .cells #[.slice A_g v1.length c_g] 26 (0, 0)) BX5.out hk (fun h_ => by (try dsimp only at h_); have := SZw_1.out; have := SG3.out; have := SZw_2.out; have := SL3.out; have := SZw_3.out; have := SZw_4.out; have := SG5.out; have := SZw_5.out; have := SL5.out; have := SZw_6.out; have := SZw_7.out; have := SZw_8.out; have := SZw_9.out; have := SZw_10.out; have := SG9.out; have := SZw_11.out; have := SL9.out; omega)); have n2_ := Aside0.mk (Kd.N_kept RWp.out hk (fun k_ h1_ h2_ => by (try dsimp only at h1_ h2_); have := SZw_1.out; have := SG3.out; have := SZw_2.out; have := SL3.out; have := SZw_3.out; have := SZw_4.out; have := SG5.out; have := SZw_5.out; have := SL5.out; have := SZw_6.out; have := SZw_7.out; have := SZw_8.out; have := SZw_9.out; have := SZw_10.out; have := SG9.out; have := SZw_11.out; have := SL9.out; omega)); have n3_ := Aside0.mk (Kd.S_kept RWg.out hk (fun k_ h1_ h2_ => by (try dsimp only at h1_ h2_); have := SZw_1.out; have := SG3.out; have := SZw_2.out; have := SL3.out; have := SZw_3.out; have := SZw_4.out; have := SG5.out; have := SZw_5.out; have := SL5.out; have := SZw_6.out; have := SZw_7.out; have := SZw_8.out; have := SZw_9.out; have := SZw_10.out; have := SG9.out; have := SZw_11.out; have := SL9.out; omega)); have n4_ := Aside0.mk (Kd.S_kept RWi.out hk (fun k_ h1_ h2_ => by (try dsimp only at h1_ h2_); have := SZw_1.out; have := SG3.out; have := SZw_2.out; have := SL3.out; have := SZw_3.out; have := SZw_4.out; have := SG5.out; have := SZw_5.out; have := SL5.out; have := SZw_6.out; have := SZw_7.out; have := SZw_8.out; have := SZw_9.out; have := SZw_10.out; have := SG9.out; have := SZw_11.out; have := SL9.out; omega)); have n5_ := Aside0.mk ((by rw [hw]; exact below_set HB.out GE9.out : Below w.heap.size w w_12)); have n6_ := Aside0.mk ((by rw [hw]; exact blk_put (cs := #[.slice none 0 0]) BX9.out 0 _ rfl : w_12.heap[g9]? = some (.cells #[.slice A_i v1.length c_i] 26 (0, 0)))); clear BX3 BX5 RWp RWg RWi HB BX9; have BX3 := n0_; have BX5 := n1_; have RWp := n2_; have RWg := n3_; have RWi := n4_; have HB := n5_; have BX9 := n6_; clear n0_ n1_ n2_ n3_ n4_ n5_ n6_; have SZw_12 := Aside0.mk hk.1; clear hk hw; have hc3_w_12 : w_12.cell? ⟨g3, 0, none⟩ = some (.slice A_p v1.length c_p) := (blk_cell BX3.out 0).trans rfl; have hf3_w_12 := blk_frozen BX3.out 0; have hc5_w_12 : w_12.cell? ⟨g5, 0, none⟩ = some (.slice A_g v1.length c_g) := (blk_cell BX5.out 0).trans rfl; have hf5_w_12 := blk_frozen BX5.out 0; have hc9_w_12 : w_12.cell? ⟨g9, 0, none⟩ = some (.slice A_i v1.length c_i) := (blk_cell BX9.out 0).trans rfl; have hf9_w_12 := blk_frozen BX9.out 0; skip)
      | ((with_reducible refine gate_callee (f := 14) rfl ?_); refine goesL_ (some 48) rfl rfl Try.func14 (by kernel_rfl) rfl #[.agg #[.slice A_i v1.length c_i], .agg #[.slice A_p v1.length c_p]] rfl (by (try simp only [List.map_toArray, List.map_cons, List.map_nil]); first | done | rfl) ?_; (with_reducible refine (laws_eqTorus.calls k _ _ v1 _ _ v1 true _ ?side1 ?side2 ?side3 ?side4 PE.out).mono ?_); (case side1 => exact (Kd.S_reads' RWi.out).2.2); (case side2 => exact (Kd.S_reads' RWi.out).2.1); (case side3 => exact (Kd.N_reads' RWp.out).2.2); (case side4 => exact (Kd.N_reads' RWp.out).2.1); rintro e w_13 ⟨rfl, hb⟩; refine ⟨_, rfl, ?_⟩; (try clear hc3_w_12); (try clear hf3_w_12); (try clear hc5_w_12); (try clear hf5_w_12); (try clear hc9_w_12); (try clear hf9_w_12); have n0_ := Aside0.mk (blk_below (g := g3) (o := .cells #[.slice A_p v1.length c_p] 26 (0, 0)) BX3.out hb); have n1_ := Aside0.mk (blk_below (g := g5) (o := .cells #[.slice A_g v1.length c_g] 26 (0, 0)) BX5.out hb); have n2_ := Aside0.mk (blk_below (g := g9) (o := .cells #[.slice A_i v1.length c_i] 26 (0, 0)) BX9.out hb); have n3_ := Aside0.mk (Kd.N_below RWp.out hb); have n4_ := Aside0.mk (Kd.S_below RWg.out hb); have n5_ := Aside0.mk (Kd.S_below RWi.out hb); have n6_ := Aside0.mk (below_step HB.out hb); clear BX3 BX5 BX9 RWp RWg RWi HB; have BX3 := n0_; have BX5 := n1_; have BX9 := n2_; have RWp := n3_; have RWg := n4_; have RWi := n5_; have HB := n6_; clear n0_ n1_ n2_ n3_ n4_ n5_ n6_; have SZw_13 := Aside0.mk hb.size; clear hb; have hc3_w_13 : w_13.cell? ⟨g3, 0, none⟩ = some (.slice A_p v1.length c_p) := (blk_cell BX3.out 0).trans rfl; have hf3_w_13 := blk_frozen BX3.out 0; have hc5_w_13 : w_13.cell? ⟨g5, 0, none⟩ = some (.slice A_g v1.length c_g) := (blk_cell BX5.out 0).trans rfl; have hf5_w_13 := blk_frozen BX5.out 0; have hc9_w_13 : w_13.cell? ⟨g9, 0, none⟩ = some (.slice A_i v1.length c_i) := (blk_cell BX9.out 0).trans rfl; have hf9_w_13 := blk_frozen BX9.out 0; skip)
      | ((with_reducible refine gate_callee (f := 16) rfl ?_); refine goesL_ (some 57) rfl rfl Try.func16 (by kernel_rfl) rfl #[.agg #[.slice A_g y2.length c_g], .int .i64 1] rfl (by (try simp only [List.map_toArray, List.map_cons, List.map_nil]); first | done | (rw [show y2.length = v1.length from (Kd.S_reads' RWg.out).1.symm] <;> rfl) | rfl) ?_; (with_reducible refine (laws_heldTorus.calls k _ _ y2 1 y1 _ ?side1 ?side2 PQ.out).mono ?_); (case side1 => exact (Kd.S_reads' RWg.out).2.2); (case side2 => rw [show y2.length = v1.length from (Kd.S_reads' RWg.out).1.symm]; exact (Kd.S_reads' RWg.out).2.1); rintro e w_14 ⟨rfl, hb⟩; refine ⟨_, rfl, ?_⟩; (try clear hc3_w_13); (try clear hf3_w_13); (try clear hc5_w_13); (try clear hf5_w_13); (try clear hc9_w_13); (try clear hf9_w_13); have n0_ := Aside0.mk (blk_below (g := g3) (o := .cells #[.slice A_p v1.length c_p] 26 (0, 0)) BX3.out hb); have n1_ := Aside0.mk (blk_below (g := g5) (o := .cells #[.slice A_g v1.length c_g] 26 (0, 0)) BX5.out hb); have n2_ := Aside0.mk (blk_below (g := g9) (o := .cells #[.slice A_i v1.length c_i] 26 (0, 0)) BX9.out hb); have n3_ := Aside0.mk (Kd.N_below RWp.out hb); have n4_ := Aside0.mk (Kd.S_below RWg.out hb); have n5_ := Aside0.mk (Kd.S_below RWi.out hb); have n6_ := Aside0.mk (below_step HB.out hb); clear BX3 BX5 BX9 RWp RWg RWi HB; have BX3 := n0_; have BX5 := n1_; have BX9 := n2_; have RWp := n3_; have RWg := n4_; have RWi := n5_; have HB := n6_; clear n0_ n1_ n2_ n3_ n4_ n5_ n6_; have SZw_14 := Aside0.mk hb.size; clear hb; have hc3_w_14 : w_14.cell? ⟨g3, 0, none⟩ = some (.slice A_p v1.length c_p) := (blk_cell BX3.out 0).trans rfl; have hf3_w_14 := blk_frozen BX3.out 0; have hc5_w_14 : w_14.cell? ⟨g5, 0, none⟩ = some (.slice A_g v1.length c_g) := (blk_cell BX5.out 0).trans rfl; have hf5_w_14 := blk_frozen BX5.out 0; have hc9_w_14 : w_14.cell? ⟨g9, 0, none⟩ = some (.slice A_i v1.length c_i) := (blk_cell BX9.out 0).trans rfl; have hf9_w_14 := blk_frozen BX9.out 0; skip))
  go_ret
  exact ⟨rfl, HB.out⟩

end Go.Proofs.Ytfbafdlgnjkioaa.PFnExactFirstTorus
