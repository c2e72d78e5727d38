-- Written for this claim by a copy of the print that meets some functions by contracts of this session.
import Derived.Test.YtnbflbkneeageaaPFnTorix0
import Derived.Test.YtnbflbkneeageaaPFnTorix1
import Derived.Test.YtnbflbkneeageaaPFnTorix2
namespace Go.Proofs.Ytnbflbkneeageaa.PFnTori
open Go.RowKit Go.Proofs.YtnbflbkneeageaaW.PrintWords Go.Proofs.YtnbflbkneeageaaW.PrintLast Go.Proofs.YtnbflbkneeageaaW.PrintMore
attribute [local go_sem] max2_int min2_int max_two min_two max_three min_three max_four min_four   -- for this text's walks alone
set_option linter.unusedVariables false
set_option linter.unusedSimpArgs false

/-! ### impl_torusOf: function 22 -/
def impl_torusOf.l0 : Nat → Int → List Int → Int → Int → List (List Int) → Option ((List (List Int)))
  | 0, _, _, _, _, _ => none
  | k + 1, x0, x1, x8, x9, x148000 => if x9 < x8 then (if x0 = 0 then (none) else (if 0 ≤ (wrap64 (Int.tdiv (wrap64 (x9 * 16)) x0)) then (if (wrap64 (Int.tdiv (wrap64 (x9 * 16)) x0)) ≤ (wrap64 (Int.tdiv (wrap64 ((wrap64 (x9 + 1)) * 16)) x0)) then (if (wrap64 (Int.tdiv (wrap64 ((wrap64 (x9 + 1)) * 16)) x0)) ≤ (x1.length : Int) then ((impl_copied.f ((x1.take ((wrap64 (Int.tdiv (wrap64 ((wrap64 (x9 + 1)) * 16)) x0)) : Int).toNat).drop ((wrap64 (Int.tdiv (wrap64 (x9 * 16)) x0)) : Int).toNat)).bind fun t149 => (if x148000.length < 5864062014805 then (impl_torusOf.l0 k x0 x1 x8 (wrap64 (x9 + 1)) (x148000 ++ [t149])) else (none))) else (none)) else (none)) else (none))) else (some x148000)
def impl_torusOf.f (k : Nat) (a0 : Int) (l1 : List Int) : Option ((List (List Int))) := impl_torusOf.l0 k a0 l1 a0 0 ([] : List (List Int))
theorem impl_torusOf.mono_l : ∀ k, (∀ y0 y1 y2 y3 y4, LeO (impl_torusOf.l0 k y0 y1 y2 y3 y4) (impl_torusOf.l0 (k + 1) y0 y1 y2 y3 y4))
  | 0 => fun _ _ _ _ _ r h => by simp [impl_torusOf.l0] at h
  | k + 1 => by
    have ih0 := impl_torusOf.mono_l k
    · intro y0 y1 y2 y3 y4
      unfold impl_torusOf.l0
      repeat' first
      | (with_reducible exact ih0 _ _ _ _ _)
      | (with_reducible exact LeO.refl _)
      | (with_reducible exact LeO.none _)
      | (with_reducible refine LeO.ite ?_ ?_)
      | (with_reducible refine LeO.bind ?_ (fun _ => ?_))
      | exact ih0 _ _ _ _ _
      | exact LeO.none _
      | refine LeO.ite ?_ ?_
      | refine LeO.bind ?_ (fun _ => ?_)
theorem impl_torusOf.mono : ∀ a0 a1 k, LeO (impl_torusOf.f k a0 a1) (impl_torusOf.f (k + 1) a0 a1) := by
  intro a0 a1 k
  have ih0 := impl_torusOf.mono_l k
  unfold impl_torusOf.f
  repeat' first
      | (with_reducible exact ih0 _ _ _ _ _)
      | (with_reducible exact LeO.refl _)
      | (with_reducible exact LeO.none _)
      | (with_reducible refine LeO.ite ?_ ?_)
      | (with_reducible refine LeO.bind ?_ (fun _ => ?_))
      | exact ih0 _ _ _ _ _
      | exact LeO.none _
      | refine LeO.ite ?_ ?_
      | refine LeO.bind ?_ (fun _ => ?_)
def impl_torusOf.T5 : Bool × List (List Nat × List Nat) := (true, [([], []), ([0], [0]), ([], []), ([], []), ([3], [3]), ([], []), ([4, 5], [4, 5]), ([], []), ([7], [7]), ([8], [8]), ([], []), ([9, 10], [9, 10]), ([2, 6, 11], [2, 6, 11]), ([12], [12]), ([13], [13]), ([1, 14, 13], [1, 14]), ([0, 1, 2, 3, 4, 5, 6, 7, 8, 9, 10, 11, 12, 13, 14, 15], []), ([16, 15, 15, 0, 1, 2, 3, 4, 5, 6, 7, 8, 9, 10, 11, 12, 13, 14, 15], [15, 16])])
def impl_torusOf.B5 : List Nat := [0, 1, 0, 0, 8, 0, 56, 0, 128, 384, 0, 1920, 4092, 8188, 16380, 32767, 65535, 131071]
theorem impl_torusOf.tab5 : rtab .any (opsOf Try.f22 5) = impl_torusOf.T5 := by kernel_rfl
theorem impl_torusOf.bits5 : waitsOk impl_torusOf.T5.2 impl_torusOf.B5 = true := by kernel_rfl
set_option maxHeartbeats 8000000 in
set_option maxRecDepth 100000 in
theorem impl_torusOf.calls (k : Nat) (a0 : Int) (A1 : Option Addr) (c1 : Nat) (l1 : List Int) (r : List (List Int)) (w : World) (hr1 : Kd.C (Kd.int .i64) w A1 l1.length l1) (hc1 : l1.length ≤ c1) (h : impl_torusOf.f k a0 l1 = some r) :
    Calls Try.prog 22 #[.int .i64 a0, .slice A1 l1.length c1] w fun e w' => ∃ v0_ : Value, e = .returned (.agg #[v0_]) ∧ Kd.S (Kd.slice 3 (Kd.int .i64)) 36 w' w.heap.size (fun _ => True) v0_ r ∧ Below w.heap.size w w' := by
  have hu27 := Try.underlying27
  have HR1 := Aside0.mk hr1
  have HC1 := Aside0.mk hc1
  clear hr1 hc1
  have HB := Aside0.mk (Below.refl w.heap.size w)
  have H : (impl_torusOf.l0 k a0 l1 a0 0 ([] : List (List Int))) = some r := h
  clear h
  have H' := Aside0.mk H
  clear H
  go_enter Try.func22, Try.ntmps22
  go_wp2_with (first | ((with_reducible refine gate_dst (N := 4) rfl ?_); refine box_event ?hg (N := 4) ?hd (cs := #[.slice none 0 0]) (t := 27) ?hr ?_; (case hd => rfl); (case hg => rfl); (case hr => first | (go_simp; done) | (go_simp; rfl)); intro gb146 hg w3 hbox hb; have n0_ := Aside0.mk (below_step (by repeat (first | (with_reducible first | exact HB.out | apply below_alloc | apply pw_below_drewN | apply below_drew1) | exact HB.out)) hb); have n1_ := Aside0.mk (hbox); have n2_ := Aside0.mk ((by rw [hg]; exact (below_size (by repeat (first | (with_reducible first | exact HB.out | apply below_alloc | apply pw_below_drewN | apply below_drew1) | exact HB.out))) : w.heap.size ≤ gb146)); have n3_ := Aside0.mk ((by rw [hg]; exact (below_size (by repeat (first | (with_reducible first | exact HB.out | apply below_alloc | apply pw_below_drewN | apply below_drew1) | exact HB.out))) : w.heap.size ≤ gb146)); clear HB; have HB := n0_; have BK146 := n1_; have GW146 := n2_; have GE146 := n3_; clear n0_ n1_ n2_ n3_; clear hb hbox hg) | ((with_reducible refine gate_dst (N := 5) rfl ?_); refine box_event ?hg (N := 5) ?hd (cs := #[.slice none 0 0]) (t := 27) ?hr ?_; (case hd => rfl); (case hg => rfl); (case hr => first | (go_simp; done) | (go_simp; rfl)); intro gb147 hg w4 hbox hb; have n0_ := Aside0.mk (blk_below (g := gb146) (o := .cells #[.slice none 0 0] 27 (0, 0)) (by (with_reducible repeat (first | refine blk_drewN ?_ _ | refine blk_drew ?_ | refine blk_alloc ?_ _)); exact BK146.out) hb); have n1_ := Aside0.mk (below_step (by repeat (first | (with_reducible first | exact HB.out | apply below_alloc | apply pw_below_drewN | apply below_drew1 | refine below_set ?_ GE146.out) | exact HB.out)) hb); have n2_ := Aside0.mk (hbox); have n3_ := Aside0.mk ((by rw [hg]; exact (below_size (by repeat (first | (with_reducible first | exact HB.out | apply below_alloc | apply pw_below_drewN | apply below_drew1 | refine below_set ?_ GE146.out) | exact HB.out))) : w.heap.size ≤ gb147)); have n4_ := Aside0.mk ((by rw [hg]; exact (below_size (by repeat (first | (with_reducible first | exact HB.out | apply below_alloc | apply pw_below_drewN | apply below_drew1 | refine below_set ?_ GE146.out) | exact HB.out))) : w.heap.size ≤ gb147)); have n5_ := Aside0.mk ((by rw [hg]; exact Nat.ne_of_lt (blk_lt (g := gb146) (o := .cells #[.slice none 0 0] 27 (0, 0)) (by (with_reducible repeat (first | refine blk_drewN ?_ _ | refine blk_drew ?_ | refine blk_alloc ?_ _)); exact BK146.out)) : gb146 ≠ gb147)); have n6_ := Aside0.mk ((by rw [hg]; exact Nat.ne_of_gt (blk_lt (g := gb146) (o := .cells #[.slice none 0 0] 27 (0, 0)) (by (with_reducible repeat (first | refine blk_drewN ?_ _ | refine blk_drew ?_ | refine blk_alloc ?_ _)); exact BK146.out)) : gb147 ≠ gb146)); clear BK146; clear HB; have BK146 := n0_; have HB := n1_; have BK147 := n2_; have GW147 := n3_; have GE147 := n4_; have NB146_147 := n5_; have NB147_146 := n6_; clear n0_ n1_ n2_ n3_ n4_ n5_ n6_; clear hb hbox hg; have hnb5 := NB147_146.out; have hnc5 := NB146_147.out; have hcz6_0 : w4.cell? ⟨gb147, 0, none⟩ = some (.slice none 0 0) := (blk_cell BK147.out 0).trans rfl; have hfz6_0 := blk_frozen BK147.out 0))
  go_loopg [9] k (fun kq v9 w' => ∃ (x9_1 : Int) (x148000_1 : List (List Int)) (u148000 : Value), v9 = .int .i64 x9_1 ∧ Aside0 (impl_torusOf.l0 kq a0 l1 a0 x9_1 x148000_1 = some r) ∧ Aside0 (kq ≤ k) ∧ Aside0 (Kd.S (Kd.slice 3 (Kd.int .i64)) 36 w' w.heap.size (fun _ => True) u148000 x148000_1) ∧ Aside0 (w'.heap[gb146]? = some (.cells #[(.slice none 0 0)] 27 (0, 0))) ∧ Aside0 (w'.heap[gb147]? = some (.cells #[u148000] 27 (0, 0))) ∧ Aside0 (Below w.heap.size w w'))
  case atStart => exact ⟨(0), (([] : List (List Int))), (.slice none 0 0), (by first | rfl | (simp; done) | (simp [*]; done)), H', ⟨Nat.le_refl _⟩, ⟨by first | exact Kd.S_nil _ _ _ _ _ | exact Kd.N_nil _ _ _ _ _ | exact Kd.V_nil _ _ _ _ _ | exact Kd.Q_nil _ _ _ _ _ | exact Kd.R_nil _ _ _ _ _⟩, ⟨by (with_reducible repeat (first | refine blk_drewN ?_ _ | refine blk_drew ?_ | refine blk_alloc ?_ _)); refine blk_far ?_ NB146_147.out _; (with_reducible repeat (first | refine blk_drewN ?_ _ | refine blk_drew ?_ | refine blk_alloc ?_ _)); exact BK146.out⟩, ⟨by (with_reducible repeat (first | refine blk_drewN ?_ _ | refine blk_drew ?_ | refine blk_alloc ?_ _)); refine blk_put (cs := #[.slice none 0 0]) ?_ 0 _ rfl; (with_reducible repeat (first | refine blk_drewN ?_ _ | refine blk_drew ?_ | refine blk_alloc ?_ _)); exact BK147.out⟩, ⟨by repeat (first | (with_reducible first | exact HB.out | apply below_alloc | apply pw_below_drewN | apply below_drew1 | refine below_set ?_ GE146.out | refine below_set ?_ GE147.out) | exact HB.out)⟩⟩
  case round =>
    clear H'
    try clear c1
    try clear c2
    try clear p2
    try clear c5
    try clear hcz6_0
    try clear hfz6_0
    obtain ⟨x9_1, x148000_1, u148000, rfl, HA, HK1, HO_148000, BK146, BK147, HB⟩ := hrel
    cases gk with
    | zero => exact absurd HA.out (by simp [impl_torusOf.l0])
    | succ k1 =>
      have H := HA.out
      clear HA
      simp only [impl_torusOf.l0] at H
      by_cases c7 : x9_1 < a0
      · rw [if_pos c7] at H
        have c7b0 : decide (x9_1 < a0) = true := decide_eq_true c7
        clear c7
        by_cases c8 : a0 = 0
        · rw [if_pos c8] at H
          exact absurd H (by simp)
        · rw [if_neg c8] at H
          have c8b0 : (a0 == 0) = false := beq_eq_false_iff_ne.mpr c8
          have c8b1 : (a0 != 0) = true := bne_iff_ne.mpr c8
          obtain ⟨ji9, hji9⟩ : ∃ j_ : Int, (wrap64 (Int.tdiv (wrap64 (x9_1 * 16)) a0)) = j_ := ⟨_, rfl⟩
          replace H : (if 0 ≤ (ji9) then (if (ji9) ≤ (wrap64 (Int.tdiv (wrap64 ((wrap64 (x9_1 + 1)) * 16)) a0)) then (if (wrap64 (Int.tdiv (wrap64 ((wrap64 (x9_1 + 1)) * 16)) a0)) ≤ (l1.length : Int) then ((impl_copied.f ((l1.take ((wrap64 (Int.tdiv (wrap64 ((wrap64 (x9_1 + 1)) * 16)) a0)) : Int).toNat).drop ((ji9) : Int).toNat)).bind fun t149 => (if x148000_1.length < 5864062014805 then (impl_torusOf.l0 k1 a0 l1 a0 (wrap64 (x9_1 + 1)) (x148000_1 ++ [t149])) else (none))) else (none)) else (none)) else (none)) = some r := by first | (rw [hji9] at H; exact H) | (simp only [hji9] at H ⊢; exact H)
          have hji9w : (IntKind.i64.wrap (Int.tdiv (wrap64 (x9_1 * 16)) a0)) = ji9 := (i64_w _).trans hji9
          by_cases c10 : 0 ≤ (ji9)
          · rw [if_pos c10] at H
            have c10b0 := eq_true c10
            have c10b1 : decide (0 ≤ (ji9)) = true := decide_eq_true c10
            clear c10
            by_cases c11 : (ji9) ≤ (wrap64 (Int.tdiv (wrap64 ((wrap64 (x9_1 + 1)) * 16)) a0))
            · rw [if_pos c11] at H
              have c11b0 := eq_true c11
              have c11b1 : decide ((ji9) ≤ (wrap64 (Int.tdiv (wrap64 ((wrap64 (x9_1 + 1)) * 16)) a0))) = true := decide_eq_true c11
              by_cases c12 : (wrap64 (Int.tdiv (wrap64 ((wrap64 (x9_1 + 1)) * 16)) a0)) ≤ (l1.length : Int)
              · rw [if_pos c12] at H
                have c12b0 := eq_true c12
                have c12b1 : decide ((wrap64 (Int.tdiv (wrap64 ((wrap64 (x9_1 + 1)) * 16)) a0)) ≤ (l1.length : Int)) = true := decide_eq_true c12
                replace H := Option.bind_eq_some_iff.mp H
                obtain ⟨t149, A130, H⟩ := H
                replace H : (if x148000_1.length < 5864062014805 then (impl_torusOf.l0 k1 a0 l1 a0 (wrap64 (x9_1 + 1)) (x148000_1 ++ [t149])) else (none)) = some r := H
                have A13 := Aside0.mk A130
                clear A130
                by_cases c14 : x148000_1.length < 5864062014805
                · rw [if_pos c14] at H
                  have LMc14 := Aside0.mk c14
                  clear c14
                  obtain ⟨y152, hy152⟩ : ∃ y_ : List (List Int), y_ = (x148000_1 ++ [t149]) := ⟨_, rfl⟩
                  replace H : (impl_torusOf.l0 k1 a0 l1 a0 (wrap64 (x9_1 + 1)) y152) = some r := by first | (rw [hy152]; with_reducible exact H) | (have H2_ := (Option.bind_some _ _).symm.trans H; rw [hy152]; with_reducible exact H2_) | (have H2_ := (Option.bind_some _ _).symm.trans H; with_reducible exact H2_) | with_reducible exact H | (rw [hy152]; exact H) | exact H
                  have Ny152 := Aside0.mk hy152
                  clear hy152
                  have H' := Aside0.mk H
                  clear H
                  try go_wp2
                  have n0_ := Aside0.mk (Kd.S_drew HO_148000.out)
                  have n1_ := Aside0.mk (blk_drew BK146.out)
                  have n2_ := Aside0.mk (blk_drew BK147.out)
                  have n3_ := Aside0.mk (below_drew1 HB.out)
                  clear HO_148000
                  clear BK146
                  clear BK147
                  clear HB
                  have HO_148000 := n0_
                  have BK146 := n1_
                  have BK147 := n2_
                  have HB := n3_
                  clear n0_ n1_ n2_ n3_
                  obtain ⟨i016, hi016, _, hsz16, _⟩ := info_parts info3
                  obtain ⟨A16, hcut16, hA16, hC16⟩ := print_mid_of (P := Try.prog) (Value.int .i64) 0 36 3 .i64 .i64 Try.underlying36 hi016 hsz16 A1 c1 l1 (ji9) (wrap64 (Int.tdiv (wrap64 ((wrap64 (x9_1 + 1)) * 16)) a0)) (of_decide_eq_true (by first | (with_reducible assumption) | assumption)) (by first | omega | exact of_decide_eq_true (by first | (with_reducible assumption) | assumption)) (of_decide_eq_true (by first | (with_reducible assumption) | assumption)) HC1.out
                  have HR148 := Aside0.mk (Kd.C_of_reads (h1 := fun _ => rfl) (hA16 _ (Kd.reads_of_C HR1.out)))
                  have HC148 := Aside0.mk hC16
                  clear hA16 hC16 hi016 hsz16
                  refine start_ (n := 18) (S := fun w' => w'.cell? ⟨gb147, 0, none⟩ = some (u148000)) (ds := [17]) #[false, false, false, false, false, false, false, false, false, false, false, false, false, false, false, false, false, false] (by kernel_rfl) rfl rfl ((blk_cell BK147.out 0).trans rfl) (fun hHeld => ?_); refine with_tabW impl_torusOf.tab5 impl_torusOf.bits5 (fun HT_ HW_ => ?_)
                  generalize wr.drew = w15 at HO_148000 BK146 BK147 HB HR148 hHeld ⊢
                  refine pure_ (i := 0) (N := some 12) (v := ?_) (a' := ?_) #[true, false, false, false, false, false, false, false, false, false, false, false, false, false, false, false, false, false] rfl rfl (any_of HT_.out (by kernel_rfl)) (fun _ _ _ h => h) (Or.inl ⟨by rfl, ?_⟩) ?_ ?_
                  rotate_left
                  · intro w'
                    go_simp
                    with_reducible rfl
                  rotate_left
                  · simp only [Act.put, List.setIfInBounds_toArray, List.set_cons_zero, List.set_cons_succ, i64_w, i32_w]
                    rfl
                  refine pure_ (i := 2) (N := some 14) (v := ?_) (a' := ?_) #[true, false, true, false, false, false, false, false, false, false, false, false, false, false, false, false, false, false] rfl rfl (any_of HT_.out (by kernel_rfl)) (fun _ _ _ h => h) (Or.inl ⟨by rfl, ?_⟩) ?_ ?_
                  rotate_left
                  · intro w'
                    go_simp
                    with_reducible rfl
                  rotate_left
                  · simp only [Act.put, List.setIfInBounds_toArray, List.set_cons_zero, List.set_cons_succ, i64_w, i32_w]
                    rfl
                  refine pure_ (i := 3) (N := some 15) (v := ?_) (a' := ?_) #[true, false, true, true, false, false, false, false, false, false, false, false, false, false, false, false, false, false] rfl rfl (any_of HT_.out (by kernel_rfl)) (fun _ _ _ h => h) (Or.inl ⟨by rfl, ?_⟩) ?_ ?_
                  rotate_left
                  · intro w'
                    go_simp
                    with_reducible rfl
                  rotate_left
                  · simp only [Act.put, List.setIfInBounds_toArray, List.set_cons_zero, List.set_cons_succ, i64_w, i32_w]
                    rfl
                  refine pure_ (i := 4) (N := some 16) (v := ?_) (a' := ?_) #[true, false, true, true, true, false, false, false, false, false, false, false, false, false, false, false, false, false] rfl rfl (any_of HT_.out (by kernel_rfl)) (fun _ _ _ h => h) (Or.inl ⟨by rfl, ?_⟩) ?_ ?_
                  rotate_left
                  · intro w'
                    go_simp
                    with_reducible rfl
                  rotate_left
                  · simp only [Act.put, List.setIfInBounds_toArray, List.set_cons_zero, List.set_cons_succ, i64_w, i32_w]
                    rfl
                  refine pure_ (i := 5) (N := some 17) (v := ?_) (a' := ?_) #[true, false, true, true, true, true, false, false, false, false, false, false, false, false, false, false, false, false] rfl rfl (any_of HT_.out (by kernel_rfl)) (fun _ _ _ h => h) (Or.inl ⟨by rfl, ?_⟩) ?_ ?_
                  rotate_left
                  · intro w'
                    go_simp
                    with_reducible rfl
                  rotate_left
                  · simp only [Act.put, List.setIfInBounds_toArray, List.set_cons_zero, List.set_cons_succ, i64_w, i32_w]
                    rfl
                  refine pure_ (i := 6) (N := some 18) (v := ?_) (a' := ?_) #[true, false, true, true, true, true, true, false, false, false, false, false, false, false, false, false, false, false] rfl rfl (any_of HT_.out (by kernel_rfl)) (fun _ _ _ h => h) (Or.inl ⟨by rfl, ?_⟩) ?_ ?_
                  rotate_left
                  · intro w'
                    go_simp
                    with_reducible rfl
                  rotate_left
                  · simp only [Act.put, List.setIfInBounds_toArray, List.set_cons_zero, List.set_cons_succ, i64_w, i32_w]
                    rfl
                  refine pure_ (i := 7) (N := some 19) (v := ?_) (a' := ?_) #[true, false, true, true, true, true, true, true, false, false, false, false, false, false, false, false, false, false] rfl rfl (any_of HT_.out (by kernel_rfl)) (fun _ _ _ h => h) (Or.inl ⟨by rfl, ?_⟩) ?_ ?_
                  rotate_left
                  · intro w'
                    go_simp
                    with_reducible rfl
                  rotate_left
                  · simp only [Act.put, List.setIfInBounds_toArray, List.set_cons_zero, List.set_cons_succ, i64_w, i32_w]
                    rfl
                  refine pure_ (i := 8) (N := some 20) (v := ?_) (a' := ?_) #[true, false, true, true, true, true, true, true, true, false, false, false, false, false, false, false, false, false] rfl rfl (any_of HT_.out (by kernel_rfl)) (fun _ _ _ h => h) (Or.inl ⟨by rfl, ?_⟩) ?_ ?_
                  rotate_left
                  · intro w'
                    go_simp
                    with_reducible rfl
                  rotate_left
                  · simp only [Act.put, List.setIfInBounds_toArray, List.set_cons_zero, List.set_cons_succ, i64_w, i32_w]
                    rfl
                  refine pure_ (i := 9) (N := some 21) (v := ?_) (a' := ?_) #[true, false, true, true, true, true, true, true, true, true, false, false, false, false, false, false, false, false] rfl rfl (any_of HT_.out (by kernel_rfl)) (fun _ _ _ h => h) (Or.inl ⟨by rfl, ?_⟩) ?_ ?_
                  rotate_left
                  · intro w'
                    go_simp
                    with_reducible rfl
                  rotate_left
                  · simp only [Act.put, List.setIfInBounds_toArray, List.set_cons_zero, List.set_cons_succ, i64_w, i32_w]
                    rfl
                  refine pure_ (i := 10) (N := some 22) (v := ?_) (a' := ?_) #[true, false, true, true, true, true, true, true, true, true, true, false, false, false, false, false, false, false] rfl rfl (any_of HT_.out (by kernel_rfl)) (fun _ _ _ h => h) (Or.inl ⟨by rfl, ?_⟩) ?_ ?_
                  rotate_left
                  · intro w'
                    go_simp
                    with_reducible rfl
                  rotate_left
                  · simp only [Act.put, List.setIfInBounds_toArray, List.set_cons_zero, List.set_cons_succ, i64_w, i32_w]
                    rfl
                  refine pure_ (i := 11) (N := some 23) (v := ?_) (a' := ?_) #[true, false, true, true, true, true, true, true, true, true, true, true, false, false, false, false, false, false] rfl rfl (any_of HT_.out (by kernel_rfl)) (fun _ _ _ h => h) (Or.inl ⟨by rfl, ?_⟩) ?_ ?_
                  rotate_left
                  · intro w'
                    go_simp
                    with_reducible rfl
                  rotate_left
                  · simp only [Act.put, List.setIfInBounds_toArray, List.set_cons_zero, List.set_cons_succ, i64_w, i32_w]
                    rfl
                  refine pure_ (i := 12) (N := some 24) (v := ?_) (a' := ?_) #[true, false, true, true, true, true, true, true, true, true, true, true, true, false, false, false, false, false] rfl rfl (any_of HT_.out (by kernel_rfl)) (fun _ _ _ h => h) (Or.inl ⟨by rfl, ?_⟩) ?_ ?_
                  rotate_left
                  · intro w'
                    go_simp
                    with_reducible rfl
                  rotate_left
                  · simp only [Act.put, List.setIfInBounds_toArray, List.set_cons_zero, List.set_cons_succ, i64_w, i32_w]
                    rfl
                  refine take_ (i := 1) (N := some 13) (v := ?_) (a' := ?_) #[true, true, true, true, true, true, true, true, true, true, true, true, true, false, false, false, false, false] rfl rfl (take_ofW HT_.out HW_.out (by kernel_rfl)) (fun _ _ _ h => h) (Or.inl ⟨by rfl, ?_⟩) hHeld ?_ ?_
                  rotate_left
                  · intro w' s0
                    go_simp
                    with_reducible rfl
                  rotate_left
                  · simp only [Act.put, List.setIfInBounds_toArray, List.set_cons_zero, List.set_cons_succ, i64_w, i32_w]
                    rfl
                  refine one_ (i := 13) (N := some 25) #[true, true, true, true, true, true, true, true, true, true, true, true, true, true, false, false, false, false] rfl rfl (one_of HT_.out (by kernel_rfl)) (by decide) (fun K hK => ?_)
                  refine goes_ Try.func44 (by kernel_rfl) rfl #[.slice A16 ((l1.take ((wrap64 (Int.tdiv (wrap64 ((wrap64 (x9_1 + 1)) * 16)) a0)) : Int).toNat).drop ((ji9) : Int).toNat).length (c1 - (ji9).toNat)] (by rfl) rfl rfl (by (try simp only [List.map_toArray, List.map_cons, List.map_nil]); first | done | (rw [show ((l1.take ((wrap64 (Int.tdiv (wrap64 ((wrap64 (x9_1 + 1)) * 16)) a0)) : Int).toNat).drop ((ji9) : Int).toNat).length = ((wrap64 (Int.tdiv (wrap64 ((wrap64 (x9_1 + 1)) * 16)) a0)).toNat - (ji9).toNat) from (by rw [List.length_drop, List.length_take]; have h_ : ((wrap64 (Int.tdiv (wrap64 ((wrap64 (x9_1 + 1)) * 16)) a0)) : Int) ≤ (l1.length : Int) := of_decide_eq_true (by first | (with_reducible assumption) | assumption); omega)] <;> rfl) | (simp only [hji9]; rfl) | rfl | (simp only [List.length_drop, List.length_take]; rfl)) ?_
                  with_reducible refine (impl_copied.calls _ _ ((l1.take ((wrap64 (Int.tdiv (wrap64 ((wrap64 (x9_1 + 1)) * 16)) a0)) : Int).toNat).drop ((ji9) : Int).toNat) t149 _ ?side1 ?side2 A13.out).mono ?_
                  (case side1 => repeat (first | exact (Kd.C_below HR148.out HB.out) | (with_reducible refine Kd.C_alloc ?_ _) | (with_reducible refine Kd.C_drewN ?_ _) | (with_reducible refine Kd.C_drew ?_)))
                  (case side2 => exact HC148.out)
                  rintro e w17 ⟨v150, rfl, ho0, hb⟩
                  refine ⟨_, rfl, ?_⟩
                  have n0_ := Aside0.mk (Kd.S_elder' (by (with_reducible repeat (first | apply Kd.S_alloc | apply Kd.S_drewN | apply Kd.S_drew)); exact HO_148000.out) (Kd.R_base ho0) hb)
                  have n1_ := Aside0.mk (Kd.R_lower ho0 (below_size (by repeat (first | (with_reducible first | exact HB.out | apply below_alloc | apply pw_below_drewN | apply below_drew1 | refine below_set ?_ GE146.out | refine below_set ?_ GE147.out) | exact HB.out))))
                  have n2_ := Aside0.mk (blk_below (g := gb146) (o := .cells #[.slice none 0 0] 27 (0, 0)) (by (with_reducible repeat (first | refine blk_drewN ?_ _ | refine blk_drew ?_ | refine blk_alloc ?_ _)); exact BK146.out) hb)
                  have n3_ := Aside0.mk (blk_below (g := gb147) (o := .cells #[u148000] 27 (0, 0)) (by (with_reducible repeat (first | refine blk_drewN ?_ _ | refine blk_drew ?_ | refine blk_alloc ?_ _)); exact BK147.out) hb)
                  have n4_ := Aside0.mk (below_step (by repeat (first | (with_reducible first | exact HB.out | apply below_alloc | apply pw_below_drewN | apply below_drew1 | refine below_set ?_ GE146.out | refine below_set ?_ GE147.out) | exact HB.out)) hb)
                  clear HO_148000
                  clear BK146
                  clear BK147
                  clear HB
                  have HO_148000 := n0_
                  have HO151 := n1_
                  have BK146 := n2_
                  have BK147 := n3_
                  have HB := n4_
                  clear n0_ n1_ n2_ n3_ n4_
                  (try clear hb)
                  (try clear hb2)
                  (try clear hk)
                  (try clear hi)
                  (try clear ho0)
                  obtain ⟨Ao19, co19, eo19⟩ := Kd.R_slice HO151.out
                  (first | subst eo19 | (injection eo19 with f1_ f2_ f3_; have f4_ := f1_.symm; have f5_ := f3_.symm; clear f1_ f2_ f3_; subst f4_; subst f5_))
                  refine hK.out _ _ ((blk_cell BK147.out 0).trans rfl) (fun hHeld => ?_)
                  clear hK K
                  refine norm_ (a' := ?_) ?_ ?_
                  rotate_left
                  · show Act.put _ (some 25) _ = _
                    simp only [Act.put, List.setIfInBounds_toArray, List.set_cons_zero, List.set_cons_succ, i64_w, i32_w]
                    rfl
                  refine one_ (i := 14) (N := some 26) #[true, true, true, true, true, true, true, true, true, true, true, true, true, true, true, false, false, false] rfl rfl (one_of HT_.out (by kernel_rfl)) (by decide) (fun K hK => ?_)
                  refine value_ (w1 := ?_) (v := ?_) (by rfl) rfl ?_ ?_
                  rotate_left 2
                  · go_simp
                    constructor
                    · rfl
                    · rfl
                  refine hK.out _ _ ((blk_cell (blk_alloc BK147.out _) 0).trans rfl) (fun hHeld => ?_)
                  clear hK K
                  refine norm_ (a' := ?_) ?_ ?_
                  rotate_left
                  · show Act.put _ (some 26) _ = _
                    simp only [Act.put, List.setIfInBounds_toArray, List.set_cons_zero, List.set_cons_succ, i64_w, i32_w]
                    rfl
                  refine one_ (i := 15) (N := some 27) #[true, true, true, true, true, true, true, true, true, true, true, true, true, true, true, true, false, false] rfl rfl (one_of HT_.out (by kernel_rfl)) (by decide) (fun K hK => ?_)
                  refine Kd.S_append_step (Kd.slice 3 (Kd.int .i64)) (w0 := w) w.heap.size (by rfl) (.tmp 13) (.tmp 26) 25 36 (.slice none 0 0) 24 rfl Try.underlying25 info36 rfl (by decide) (by omega) u148000 x148000_1 t149 [.slice Ao19 t149.length co19] (fun _ => True) (fun k_ => some k_ = (.slice Ao19 t149.length co19 : Value).ownBlock) rfl rfl ?aP (fun k_ hk_ => ((Kd.R_mono (ok' := fun k_ => ((fun _ => True)) k_ ∧ some k_ ≠ (u148000 : Value).ownBlock) (Kd.R_apart' (HO151.out) (Kd.S_typed HO_148000.out) (by decide)) (fun k_ hk => ⟨trivial, hk.2⟩))).1 k_ hk_.symm) ?aF ?aO ?aB ?aS ?aL ?_
                  (case aP => exact Kd.M_row (Kd.R_mono (Kd.R_tight rfl (Kd.R_mono (ok' := fun k_ => ((fun _ => True)) k_ ∧ some k_ ≠ (u148000 : Value).ownBlock) (Kd.R_apart' (HO151.out) (Kd.S_typed HO_148000.out) (by decide)) (fun k_ hk => ⟨trivial, hk.2⟩))) (fun _ h_ => h_)))
                  (case aB => exact (by repeat (first | (with_reducible first | exact HB.out | apply below_alloc | apply pw_below_drewN | apply below_drew1 | refine below_set ?_ GE146.out | refine below_set ?_ GE147.out) | exact HB.out)))
                  (case aF => exact (fun _ _ => trivial))
                  (case aO => exact (by (with_reducible repeat (first | apply Kd.S_alloc | apply Kd.S_drewN | apply Kd.S_drew)); exact Kd.S_mono HO_148000.out (fun k_ hk => ⟨trivial, fun e_ => hk.2 e_⟩)))
                  (case aS => exact (below_size (by repeat (first | (with_reducible first | exact HB.out | apply below_alloc | apply pw_below_drewN | apply below_drew1 | refine below_set ?_ GE146.out | refine below_set ?_ GE147.out) | exact HB.out))))
                  (case aL => have := LMc14.out; omega)
                  intro v153 w18 ho hb hg hat
                  rw [← Ny152.out] at ho
                  have n0_ := Aside0.mk (blk_grown (g := gb146) (o := .cells #[.slice none 0 0] 27 (0, 0)) (by (with_reducible repeat (first | refine blk_drewN ?_ _ | refine blk_drew ?_ | refine blk_alloc ?_ _)); exact BK146.out) hg (Kd.S_ne HO_148000.out BK146.out (by decide)))
                  have n1_ := Aside0.mk (blk_grown (g := gb147) (o := .cells #[u148000] 27 (0, 0)) (by (with_reducible repeat (first | refine blk_drewN ?_ _ | refine blk_drew ?_ | refine blk_alloc ?_ _)); exact BK147.out) hg (Kd.S_ne HO_148000.out BK147.out (by decide)))
                  have n2_ := Aside0.mk (hb)
                  have n3_ := Aside0.mk (ho)
                  clear BK146
                  clear BK147
                  clear HB
                  clear HO_148000
                  clear HO151
                  have BK146 := n0_
                  have BK147 := n1_
                  have HB := n2_
                  have HO154 := n3_
                  clear n0_ n1_ n2_ n3_
                  clear ho hb hg hat
                  obtain ⟨Ao20, co20, eo20⟩ := Kd.S_slice HO154.out
                  (first | subst eo20 | (injection eo20 with f1_ f2_ f3_; have f4_ := f1_.symm; have f5_ := f3_.symm; clear f1_ f2_ f3_; subst f4_; subst f5_))
                  refine hK.out _ _ ((blk_cell BK147.out 0).trans rfl) (fun hHeld => ?_)
                  clear hK K
                  refine norm_ (a' := ?_) ?_ ?_
                  rotate_left
                  · show Act.put _ (some 27) _ = _
                    simp only [Act.put, List.setIfInBounds_toArray, List.set_cons_zero, List.set_cons_succ, i64_w, i32_w]
                    rfl
                  refine pure_ (i := 16) (N := some 28) (v := ?_) (a' := ?_) #[true, true, true, true, true, true, true, true, true, true, true, true, true, true, true, true, true, false] rfl rfl (any_of HT_.out (by kernel_rfl)) (fun _ _ _ h => h) (Or.inl ⟨by rfl, ?_⟩) ?_ ?_
                  rotate_left
                  · intro w'
                    go_simp
                    with_reducible rfl
                  rotate_left
                  · simp only [Act.put, List.setIfInBounds_toArray, List.set_cons_zero, List.set_cons_succ, i64_w, i32_w]
                    rfl
                  refine last_ (i := 17) (N := none) #[true, true, true, true, true, true, true, true, true, true, true, true, true, true, true, true, true, true] rfl rfl (one_of HT_.out (by kernel_rfl)) (by decide) (fun K hK => ?_)
                  have hs21 : w18.cell? ⟨gb147, 0, none⟩ = some (u148000) := (blk_cell BK147.out 0).trans rfl
                  have hfs21 := blk_frozen BK147.out 0
                  have hns21_0 := NB146_147.out
                  have hms21_0 := NB147_146.out
                  refine skip_ (w1 := ?_) (by rfl) rfl ?_ ?_
                  rotate_left
                  · go_simp
                    rfl
                  refine hK.out _ _ ?_
                  clear hK K
                  refine done_ (done_of HT_.out (by kernel_rfl)) ?_
                  try go_wp2
                  go_roundg k1
                  case measure => have := HK1.out; omega
                  case rel => exact ⟨(wrap64 (x9_1 + 1)), (y152), (.slice Ao20 y152.length co20), (by first | rfl | (simp; done) | (simp [*]; done)), H', ⟨by have := HK1.out; omega⟩, ⟨by (with_reducible repeat (first | apply Kd.S_alloc | apply Kd.S_drewN | apply Kd.S_drew)); exact Kd.S_mono (Kd.S_far (p := ⟨gb147, 0, none⟩) (Kd.S_types HO154.out BK147.out (by decide)) (fun _ hk => hk.2) (.slice Ao20 y152.length co20)) (fun _ hk => trivial)⟩, ⟨by (with_reducible repeat (first | refine blk_drewN ?_ _ | refine blk_drew ?_ | refine blk_alloc ?_ _)); refine blk_far ?_ NB146_147.out _; (with_reducible repeat (first | refine blk_drewN ?_ _ | refine blk_drew ?_ | refine blk_alloc ?_ _)); exact BK146.out⟩, ⟨by (with_reducible repeat (first | refine blk_drewN ?_ _ | refine blk_drew ?_ | refine blk_alloc ?_ _)); refine blk_put (cs := #[u148000]) ?_ 0 _ rfl; (with_reducible repeat (first | refine blk_drewN ?_ _ | refine blk_drew ?_ | refine blk_alloc ?_ _)); exact BK147.out⟩, ⟨by repeat (first | (with_reducible first | exact HB.out | apply below_alloc | apply pw_below_drewN | apply below_drew1 | refine below_set ?_ GE146.out | refine below_set ?_ GE147.out) | exact HB.out)⟩⟩
                · rw [if_neg c14] at H
                  exact absurd H (by simp)
              · rw [if_neg c12] at H
                exact absurd H (by simp)
            · rw [if_neg c11] at H
              exact absurd H (by simp)
          · rw [if_neg c10] at H
            exact absurd H (by simp)
      · rw [if_neg c7] at H
        have c7b0 : decide (x9_1 < a0) = false := decide_eq_false c7
        clear c7
        obtain rfl := Option.some.inj H
        have hnb22 := NB147_146.out
        have hnc22 := NB146_147.out
        have hcz23_0 : wr.cell? ⟨gb147, 0, none⟩ = some (u148000) := (blk_cell BK147.out 0).trans rfl
        have hfz23_0 := blk_frozen BK147.out 0
        obtain ⟨Ao24, co24, eo24⟩ := Kd.S_slice HO_148000.out
        subst eo24
        have hcz25_0 : wr.cell? ⟨gb146, 0, none⟩ = some (.slice none 0 0) := (blk_cell BK146.out 0).trans rfl
        have hfz25_0 := blk_frozen BK146.out 0
        go_wp2
        refine bodyPost_ret (results_cell_row rfl _ _ gb146 27 #[.slice Ao24 x148000_1.length co24] (0, 0) _ rfl (by (with_reducible repeat (first | refine blk_drewN ?_ _ | refine blk_drew ?_ | refine blk_alloc ?_ _)); refine blk_put (cs := #[.slice none 0 0]) ?_ 0 _ rfl; (with_reducible repeat (first | refine blk_drewN ?_ _ | refine blk_drew ?_ | refine blk_alloc ?_ _)); exact BK146.out) Try.underlying27 rfl (by kernel_rfl)) rfl ?_
        exact ⟨_, by first | rfl | (simp [errW_none, errW_some] <;> rfl) | (simp [*, errW_none, errW_some] <;> rfl), by (with_reducible repeat (first | apply Kd.S_alloc | apply Kd.S_drewN | apply Kd.S_drew)); exact Kd.S_mono (Kd.S_far (p := ⟨gb146, 0, none⟩) (Kd.S_types HO_148000.out BK146.out (by decide)) (fun _ hk => hk.2) (.slice Ao24 x148000_1.length co24)) (fun _ hk => trivial), by repeat (first | (with_reducible first | exact HB.out | apply below_alloc | apply pw_below_drewN | apply below_drew1 | refine below_set ?_ GE146.out | refine below_set ?_ GE147.out) | exact HB.out)⟩

/-! ### impl_FirstTorus: function 6 (a contract of this session's own) -/
def impl_FirstTorus.is (n : Int) (q : Nat) (l : List Int) : Option Bool := (impl_torusOf.f q n l).bind fun t => impl_windowsDiffer.f q t
theorem impl_FirstTorus.is_mono (n : Int) : ∀ l q, LeO (impl_FirstTorus.is n q l) (impl_FirstTorus.is n (q + 1) l) := fun l q => LeO.bind (impl_torusOf.mono _ _ _) (fun _ => impl_windowsDiffer.mono _ _)
def impl_FirstTorus.f (k : Nat) (a0 : Int) : Option (List (List Int) × Bool) := (slices_Contains_int_int.f k ([1, 2, 4, 8, 16] : List Int) a0).bind fun b => (if b = true then ((impl_firstWord.f (impl_FirstTorus.is a0) k 16 2).bind fun r => (if r.2 = true then ((impl_torusOf.f k a0 r.1).bind fun t => some (t, true)) else some (([] : List (List Int)), false))) else some (([] : List (List Int)), false))
theorem impl_FirstTorus.mono : ∀ a0 k, LeO (impl_FirstTorus.f k a0) (impl_FirstTorus.f (k + 1) a0) := fun a0 k =>
  LeO.bind (slices_Contains_int_int.mono _ _ _) (fun _ => LeO.ite (LeO.bind (impl_firstWord.mono (impl_FirstTorus.is_mono a0) _ _ _) (fun _ => LeO.ite (LeO.bind (impl_torusOf.mono _ _ _) (fun _ => LeO.refl _)) (LeO.refl _))) (LeO.refl _))
set_option maxHeartbeats 8000000 in
set_option maxRecDepth 100000 in
theorem impl_FirstTorus.is_calls (n : Int) (q B : Nat) (W : World) (A : Option Addr) (c : Nat) (l : List Int) (b : Bool) (hc : W.cell? ⟨B, 0, none⟩ = some (.int .i64 n)) (hC : Kd.C (Kd.int .i64) W A l.length l) (hl : l.length ≤ c) (h : impl_FirstTorus.is n q l = some b) :
    Calls Try.prog 20 #[.slice A l.length c, .pointer (some ⟨B, 0, none⟩)] W fun e W' => e = .returned (.bool b) ∧ Below W.heap.size W W' := by
  have HC := Aside0.mk hC
  have HL := Aside0.mk hl
  have HB := Aside0.mk (Below.refl W.heap.size W)
  unfold impl_FirstTorus.is at h
  obtain ⟨t, ht, h⟩ := Option.bind_eq_some_iff.mp h
  have A1 := Aside0.mk ht
  have A2 := Aside0.mk h
  clear hC h ht
  go_enter Try.func20, Try.ntmps20
  go_wp2_with (first
    | ((with_reducible refine gate_callee (f := 22) rfl ?_); refine goesL_ (some 6) rfl rfl Try.func22 (by kernel_rfl) rfl #[.int .i64 n, .slice A l.length c] rfl (by (try simp only [List.map_toArray, List.map_cons, List.map_nil]); first | done | rfl) ?_; (with_reducible refine (impl_torusOf.calls q n _ _ l t _ ?side1 ?side2 A1.out).mono ?_); (case side1 => exact HC.out); (case side2 => exact HL.out); rintro e w1 ⟨v1, rfl, ho, hb⟩; refine ⟨_, rfl, ?_⟩; obtain ⟨A_t, c_t, e_t⟩ := Kd.S_slice ho; subst e_t; have HT := Aside0.mk ho; have n1_ := Aside0.mk (below_step HB.out hb); clear HB hb ho; have HB := n1_; clear n1_)
    | ((with_reducible refine gate_callee (f := 21) rfl ?_); refine goesL_ (some 7) rfl rfl Try.func21 (by kernel_rfl) rfl #[.agg #[.slice A_t t.length c_t]] rfl (by (try simp only [List.map_toArray, List.map_cons, List.map_nil]); first | done | rfl) ?_; (with_reducible refine (impl_windowsDiffer.calls q _ _ t b _ ?side1 ?side2 A2.out).mono ?_); (case side1 => exact (Kd.S_reads' HT.out).2.2); (case side2 => exact (Kd.S_reads' HT.out).2.1); rintro e w2 ⟨rfl, hb⟩; refine ⟨_, rfl, ?_⟩; have n1_ := Aside0.mk (below_step HB.out hb); clear HB hb; have HB := n1_; clear n1_))
  go_ret
  exact ⟨rfl, HB.out⟩
theorem impl_FirstTorus.kset (W : World) (g : Nat) (v : Value) : Kept W (W.setCell ⟨g, 0, none⟩ v) (fun k_ => k_ = g) :=
  ⟨by simp, fun i _ hn => Below.heap_setCell W ⟨g, 0, none⟩ v i hn⟩
theorem impl_FirstTorus.fresh {w0 W W1 : World} {v : Value} {l : List (List Int)} (h : Kd.S (Kd.slice 3 (Kd.int .i64)) 36 W1 W.heap.size (fun _ => True) v l) (hb : w0.heap.size ≤ W.heap.size) : Kd.S (Kd.slice 3 (Kd.int .i64)) 36 W1 w0.heap.size (fun k_ => W.heap.size ≤ k_ ∧ k_ < W1.heap.size) v l :=
  Kd.S_lower (Kd.S_mono (Kd.S_bound h) (fun _ hk => ⟨hk.2.1, hk.2.2.1⟩)) hb
theorem impl_FirstTorus.bound {W1 : World} {b n : Nat} {P : Nat → Prop} {v : Value} {l : List (List Int)} (h : Kd.S (Kd.slice 3 (Kd.int .i64)) 36 W1 b (fun k_ => P k_ ∨ n ≤ k_) v l) : Kd.S (Kd.slice 3 (Kd.int .i64)) 36 W1 b (fun k_ => P k_ ∨ (n ≤ k_ ∧ k_ < W1.heap.size)) v l :=
  Kd.S_mono (Kd.S_bound h) (fun _ hk => hk.1.imp id (fun h_ => ⟨h_, hk.2.2.1⟩))
set_option maxHeartbeats 16000000 in
set_option maxRecDepth 100000 in
theorem impl_FirstTorus.calls (k : Nat) (a0 : Int) (r1 : List (List Int)) (r2 : Bool) (w : World) (h : impl_FirstTorus.f k a0 = some (r1, r2)) :
    Calls Try.prog 6 #[.int .i64 a0] w fun e w' => ∃ v0_ : Value, e = .returned (.tuple #[.agg #[v0_], .bool r2]) ∧ Kd.S (Kd.slice 3 (Kd.int .i64)) 36 w' w.heap.size (fun _ => True) v0_ r1 ∧ Below w.heap.size w w' := by
  have hu26 := Try.underlying27
  have HB := Aside0.mk (Below.refl w.heap.size w)
  have hmf : ∀ (fn : Fn) (first cap : Array Value) (w : World), (Instr.makeFunc fn first cap).run Try.prog w = .ok (.func fn first cap) w := fun _ _ _ _ => rfl
  unfold impl_FirstTorus.f at h
  replace h := Option.bind_eq_some_iff.mp h
  obtain ⟨b, hb, H⟩ := h
  have A1 := Aside0.mk hb
  clear hb
  by_cases c1 : b = true
  · subst c1
    replace H := (if_pos rfl).symm.trans H
    replace H := Option.bind_eq_some_iff.mp H
    obtain ⟨⟨x, y⟩, hx, H⟩ := H
    have A2 := Aside0.mk hx
    clear hx
    dsimp only at H
    by_cases c2 : y = true
    · subst c2
      replace H := (if_pos rfl).symm.trans H
      replace H := Option.bind_eq_some_iff.mp H
      obtain ⟨t, ht, H⟩ := H
      have A3 := Aside0.mk ht
      clear ht
      simp only [Option.some.injEq, Prod.mk.injEq] at H
      obtain ⟨rfl, rfl⟩ := H
      go_enter Try.func6, Try.ntmps6
      go_wp2_with (first
      | ((with_reducible refine gate_dst (N := 1) rfl ?_); refine box_event ?hg (N := 1) ?hd (cs := #[.int .i64 a0]) (t := 3) ?hr ?_; (case hd => rfl); (case hg => rfl); (case hr => first | (go_simp; done) | (go_simp; rfl)); intro g1 hg w_1 hbox hb; have n0_ := Aside0.mk (below_step HB.out hb); clear HB; have HB := n0_; clear n0_; have BX1 := Aside0.mk hbox; have SG1 := Aside0.mk hg; have SZw_1 := Aside0.mk hb.size; have SL1 := Aside0.mk (blk_lt hbox); clear hb hbox hg; have GE1 := Aside0.mk (show w.heap.size ≤ g1 by have := SG1.out; omega); have hc1_w_1 : w_1.cell? ⟨g1, 0, none⟩ = some (.int .i64 a0) := (blk_cell BX1.out 0).trans rfl; have hf1_w_1 := blk_frozen BX1.out 0; skip)
      | ((with_reducible refine gate_dst (N := 2) rfl ?_); refine box_event ?hg (N := 2) ?hd (cs := #[.slice none 0 0]) (t := 27) ?hr ?_; (case hd => rfl); (case hg => rfl); (case hr => first | (go_simp; done) | (go_simp; rfl)); intro g2 hg w_2 hbox hb; (try clear hc1_w_1); (try clear hf1_w_1); have n0_ := Aside0.mk (blk_below (g := g1) (o := .cells #[.int .i64 a0] 3 (0, 0)) BX1.out hb); have n1_ := Aside0.mk (below_step HB.out hb); clear BX1 HB; have BX1 := n0_; have HB := n1_; clear n0_ n1_; have BX2 := Aside0.mk hbox; have SG2 := Aside0.mk hg; have SZw_2 := Aside0.mk hb.size; have SL2 := Aside0.mk (blk_lt hbox); clear hb hbox hg; have GE2 := Aside0.mk (show w.heap.size ≤ g2 by have := SG1.out; have := SZw_1.out; have := SL1.out; have := SG2.out; omega); have hc1_w_2 : w_2.cell? ⟨g1, 0, none⟩ = some (.int .i64 a0) := (blk_cell BX1.out 0).trans rfl; have hf1_w_2 := blk_frozen BX1.out 0; have hc2_w_2 : w_2.cell? ⟨g2, 0, none⟩ = some (.slice none 0 0) := (blk_cell BX2.out 0).trans rfl; have hf2_w_2 := blk_frozen BX2.out 0; skip)
      | ((with_reducible refine gate_dst (N := 6) rfl ?_); refine Kd.R_lit (Kd.int .i64) _ 3 ?hg (N := 6) ?hd (xs := ([1, 2, 4, 8, 16] : List Int)) (inner := [.int .i64 1, .int .i64 2, .int .i64 4, .int .i64 8, .int .i64 16]) (ok := fun _ => True) (okp := fun _ => True) ?hr ?hp (fun _ hk => hk) trivial (Below.refl _ _) (Nat.le_refl _) (by simp) ?_; (case hd => rfl); (case hg => rfl); (case hr => first | (go_simp; done) | (go_simp; rfl)); (case hp => exact (Reps.one (show Kd.M (Kd.int .i64) _ _ _ 1 [.int .i64 1] from rfl) (Reps.one (show Kd.M (Kd.int .i64) _ _ _ 2 [.int .i64 2] from rfl) (Reps.one (show Kd.M (Kd.int .i64) _ _ _ 4 [.int .i64 4] from rfl) (Reps.one (show Kd.M (Kd.int .i64) _ _ _ 8 [.int .i64 8] from rfl) (Reps.one (show Kd.M (Kd.int .i64) _ _ _ 16 [.int .i64 16] from rfl) (Reps.none _ _))))))); intro v_l w_3 ho hb hg_ hnew_; clear hg_ hnew_; (try clear hc1_w_2); (try clear hf1_w_2); (try clear hc2_w_2); (try clear hf2_w_2); have n0_ := Aside0.mk (blk_below (g := g1) (o := .cells #[.int .i64 a0] 3 (0, 0)) BX1.out hb); have n1_ := Aside0.mk (blk_below (g := g2) (o := .cells #[.slice none 0 0] 27 (0, 0)) BX2.out hb); have n2_ := Aside0.mk (below_step HB.out hb); clear BX1 BX2 HB; have BX1 := n0_; have BX2 := n1_; have HB := n2_; clear n0_ n1_ n2_; have SZw_3 := Aside0.mk hb.size; have RL := Aside0.mk ho; clear hb ho; obtain ⟨A_l, c_l, e_l⟩ := Kd.R_slice RL.out; subst e_l; have hc1_w_3 : w_3.cell? ⟨g1, 0, none⟩ = some (.int .i64 a0) := (blk_cell BX1.out 0).trans rfl; have hf1_w_3 := blk_frozen BX1.out 0; have hc2_w_3 : w_3.cell? ⟨g2, 0, none⟩ = some (.slice none 0 0) := (blk_cell BX2.out 0).trans rfl; have hf2_w_3 := blk_frozen BX2.out 0; skip)
      | ((with_reducible refine gate_callee (f := 18) rfl ?_); refine goesL_ (some 8) rfl rfl Try.func18 (by kernel_rfl) rfl #[.slice A_l ([1, 2, 4, 8, 16] : List Int).length c_l, .int .i64 a0] rfl (by (try simp only [List.map_toArray, List.map_cons, List.map_nil]); first | done | rfl) ?_; (with_reducible refine (slices_Contains_int_int.calls k _ _ ([1, 2, 4, 8, 16] : List Int) a0 true _ ?side1 ?side2 A1.out).mono ?_); (case side1 => exact (Kd.R_reads' RL.out).2.2); (case side2 => exact (Kd.R_reads' RL.out).2.1); rintro e w_4 ⟨rfl, hd⟩; refine ⟨_, rfl, ?_⟩; obtain ⟨nd_, hnd_⟩ := hd; have hb : Below w_3.heap.size w_3 w_4 := (by rw [hnd_]; exact pw_below_drewN (Below.refl _ _) _); clear hnd_ nd_; (try clear hc1_w_3); (try clear hf1_w_3); (try clear hc2_w_3); (try clear hf2_w_3); clear RL; have n0_ := Aside0.mk (blk_below (g := g1) (o := .cells #[.int .i64 a0] 3 (0, 0)) BX1.out hb); have n1_ := Aside0.mk (blk_below (g := g2) (o := .cells #[.slice none 0 0] 27 (0, 0)) BX2.out hb); have n2_ := Aside0.mk (below_step HB.out hb); clear BX1 BX2 HB; have BX1 := n0_; have BX2 := n1_; have HB := n2_; clear n0_ n1_ n2_; have SZw_4 := Aside0.mk hb.size; clear hb; have hc1_w_4 : w_4.cell? ⟨g1, 0, none⟩ = some (.int .i64 a0) := (blk_cell BX1.out 0).trans rfl; have hf1_w_4 := blk_frozen BX1.out 0; have hc2_w_4 : w_4.cell? ⟨g2, 0, none⟩ = some (.slice none 0 0) := (blk_cell BX2.out 0).trans rfl; have hf2_w_4 := blk_frozen BX2.out 0; skip)
      | ((with_reducible refine gate_callee (f := 19) rfl ?_); refine goesL_ (some 13) rfl rfl Try.func19 (by kernel_rfl) rfl #[.int .i64 16, .int .i64 2, .func (.func 20) #[] #[.pointer (some ⟨g1, 0, none⟩)]] rfl (by (try simp only [List.map_toArray, List.map_cons, List.map_nil]); first | done | rfl) ?_; refine (impl_firstWord.calls (impl_FirstTorus.is a0) 20 _ #[.pointer (some ⟨g1, 0, none⟩)] Try.func20 (by kernel_rfl) rfl k 16 2 x true _ ?hp A2.out).mono ?_; (case hp => exact fun q W A c l b hb hC hl hr => calls_of_args (by simp) (impl_FirstTorus.is_calls a0 q g1 W A c l b ((blk_cell (blk_below BX1.out hb) 0).trans rfl) hC hl hr)); rintro e w_5 ⟨v_x, rfl, ho, hb⟩; refine ⟨_, rfl, ?_⟩; (try clear hc1_w_4); (try clear hf1_w_4); (try clear hc2_w_4); (try clear hf2_w_4); have RX := Aside0.mk ho; have n0_ := Aside0.mk (blk_below (g := g1) (o := .cells #[.int .i64 a0] 3 (0, 0)) BX1.out hb); have n1_ := Aside0.mk (blk_below (g := g2) (o := .cells #[.slice none 0 0] 27 (0, 0)) BX2.out hb); have n2_ := Aside0.mk (below_step HB.out hb); clear BX1 BX2 HB; have BX1 := n0_; have BX2 := n1_; have HB := n2_; clear n0_ n1_ n2_; have SZw_5 := Aside0.mk hb.size; clear hb ho; obtain ⟨A_x, c_x, e_x⟩ := Kd.R_slice RX.out; subst e_x; have hc1_w_5 : w_5.cell? ⟨g1, 0, none⟩ = some (.int .i64 a0) := (blk_cell BX1.out 0).trans rfl; have hf1_w_5 := blk_frozen BX1.out 0; have hc2_w_5 : w_5.cell? ⟨g2, 0, none⟩ = some (.slice none 0 0) := (blk_cell BX2.out 0).trans rfl; have hf2_w_5 := blk_frozen BX2.out 0; skip)
      | ((with_reducible refine gate_callee (f := 22) rfl ?_); refine goesL_ (some 21) rfl rfl Try.func22 (by kernel_rfl) rfl #[.int .i64 a0, .slice A_x x.length c_x] rfl (by (try simp only [List.map_toArray, List.map_cons, List.map_nil]); first | done | rfl) ?_; (with_reducible refine (impl_torusOf.calls k a0 _ _ x t _ ?side1 ?side2 A3.out).mono ?_); (case side1 => exact (Kd.R_reads' RX.out).2.2); (case side2 => exact (Kd.R_reads' RX.out).2.1); rintro e w_6 ⟨v_t, rfl, ho, hb⟩; refine ⟨_, rfl, ?_⟩; (try clear hc1_w_5); (try clear hf1_w_5); (try clear hc2_w_5); (try clear hf2_w_5); have RWt := Aside0.mk (impl_FirstTorus.fresh (w0 := w) ho (below_size HB.out)); have n0_ := Aside0.mk (blk_below (g := g1) (o := .cells #[.int .i64 a0] 3 (0, 0)) BX1.out hb); have n1_ := Aside0.mk (blk_below (g := g2) (o := .cells #[.slice none 0 0] 27 (0, 0)) BX2.out hb); have n2_ := Aside0.mk (below_step HB.out hb); clear BX1 BX2 HB; have BX1 := n0_; have BX2 := n1_; have HB := n2_; clear n0_ n1_ n2_; have SZw_6 := Aside0.mk hb.size; clear hb ho; obtain ⟨A_t, c_t, e_t⟩ := Kd.S_slice RWt.out; subst e_t; have hc1_w_6 : w_6.cell? ⟨g1, 0, none⟩ = some (.int .i64 a0) := (blk_cell BX1.out 0).trans rfl; have hf1_w_6 := blk_frozen BX1.out 0; have hc2_w_6 : w_6.cell? ⟨g2, 0, none⟩ = some (.slice none 0 0) := (blk_cell BX2.out 0).trans rfl; have hf2_w_6 := blk_frozen BX2.out 0; skip)
      | ((with_reducible refine gate_store (t := 27) (p := 2) rfl ?_); refine store_event (t := 27) (p := 2) (v := ?vo_w_7) (w1 := (w_6.setCell ⟨g2, 0, none⟩ (.slice A_t t.length c_t))) ?hg ?ho ?hn ?hr ?_; (case ho => rfl); (case hg => rfl); (case hn => rfl); (case hr => first | (go_simp; done) | (go_simp; rfl)); intro w_7 hw; have hk : Kept w_6 w_7 (fun k_ => k_ = g2) := (by rw [hw]; exact impl_FirstTorus.kset _ _ _); (try clear hc1_w_6); (try clear hf1_w_6); (try clear hc2_w_6); (try clear hf2_w_6); have n0_ := Aside0.mk (blk_kept (g := g1) (o := .cells #[.int .i64 a0] 3 (0, 0)) BX1.out hk (fun h_ => by (try dsimp only at h_); have := SG1.out; have := SZw_1.out; have := SL1.out; have := SG2.out; have := SZw_2.out; have := SL2.out; have := SZw_3.out; have := SZw_4.out; have := SZw_5.out; have := SZw_6.out; omega)); have n1_ := Aside0.mk (Kd.S_kept RWt.out hk (fun k_ h1_ h2_ => by (try dsimp only at h1_ h2_); have := SG1.out; have := SZw_1.out; have := SL1.out; have := SG2.out; have := SZw_2.out; have := SL2.out; have := SZw_3.out; have := SZw_4.out; have := SZw_5.out; have := SZw_6.out; omega)); have n2_ := Aside0.mk ((by rw [hw]; exact below_set HB.out GE2.out : Below w.heap.size w w_7)); have n3_ := Aside0.mk ((by rw [hw]; exact blk_put (cs := #[.slice none 0 0]) BX2.out 0 _ rfl : w_7.heap[g2]? = some (.cells #[.slice A_t t.length c_t] 27 (0, 0)))); clear BX1 RWt HB BX2; have BX1 := n0_; have RWt := n1_; have HB := n2_; have BX2 := n3_; clear n0_ n1_ n2_ n3_; have SZw_7 := Aside0.mk hk.1; clear hk hw; have hc1_w_7 : w_7.cell? ⟨g1, 0, none⟩ = some (.int .i64 a0) := (blk_cell BX1.out 0).trans rfl; have hf1_w_7 := blk_frozen BX1.out 0; have hc2_w_7 : w_7.cell? ⟨g2, 0, none⟩ = some (.slice A_t t.length c_t) := (blk_cell BX2.out 0).trans rfl; have hf2_w_7 := blk_frozen BX2.out 0; skip))
      refine bodyPost_ret (results_ct rfl _ _ g2 27 #[.slice A_t t.length c_t] (0, 0) _ rfl BX2.out Try.underlying27 rfl (by kernel_rfl)) rfl ?_
      exact ⟨_, rfl, Kd.S_mono RWt.out (fun _ _ => trivial), HB.out⟩
    · rw [if_neg c2] at H
      replace c2 := Bool.eq_false_iff.mpr c2
      subst c2
      simp only [Option.some.injEq, Prod.mk.injEq] at H
      obtain ⟨rfl, rfl⟩ := H
      go_enter Try.func6, Try.ntmps6
      go_wp2_with (first
      | ((with_reducible refine gate_dst (N := 1) rfl ?_); refine box_event ?hg (N := 1) ?hd (cs := #[.int .i64 a0]) (t := 3) ?hr ?_; (case hd => rfl); (case hg => rfl); (case hr => first | (go_simp; done) | (go_simp; rfl)); intro g1 hg w_1 hbox hb; have n0_ := Aside0.mk (below_step HB.out hb); clear HB; have HB := n0_; clear n0_; have BX1 := Aside0.mk hbox; have SG1 := Aside0.mk hg; have SZw_1 := Aside0.mk hb.size; have SL1 := Aside0.mk (blk_lt hbox); clear hb hbox hg; have GE1 := Aside0.mk (show w.heap.size ≤ g1 by have := SG1.out; omega); have hc1_w_1 : w_1.cell? ⟨g1, 0, none⟩ = some (.int .i64 a0) := (blk_cell BX1.out 0).trans rfl; have hf1_w_1 := blk_frozen BX1.out 0; skip)
      | ((with_reducible refine gate_dst (N := 2) rfl ?_); refine box_event ?hg (N := 2) ?hd (cs := #[.slice none 0 0]) (t := 27) ?hr ?_; (case hd => rfl); (case hg => rfl); (case hr => first | (go_simp; done) | (go_simp; rfl)); intro g2 hg w_2 hbox hb; (try clear hc1_w_1); (try clear hf1_w_1); have n0_ := Aside0.mk (blk_below (g := g1) (o := .cells #[.int .i64 a0] 3 (0, 0)) BX1.out hb); have n1_ := Aside0.mk (below_step HB.out hb); clear BX1 HB; have BX1 := n0_; have HB := n1_; clear n0_ n1_; have BX2 := Aside0.mk hbox; have SG2 := Aside0.mk hg; have SZw_2 := Aside0.mk hb.size; have SL2 := Aside0.mk (blk_lt hbox); clear hb hbox hg; have GE2 := Aside0.mk (show w.heap.size ≤ g2 by have := SG1.out; have := SZw_1.out; have := SL1.out; have := SG2.out; omega); have hc1_w_2 : w_2.cell? ⟨g1, 0, none⟩ = some (.int .i64 a0) := (blk_cell BX1.out 0).trans rfl; have hf1_w_2 := blk_frozen BX1.out 0; have hc2_w_2 : w_2.cell? ⟨g2, 0, none⟩ = some (.slice none 0 0) := (blk_cell BX2.out 0).trans rfl; have hf2_w_2 := blk_frozen BX2.out 0; skip)
      | ((with_reducible refine gate_dst (N := 6) rfl ?_); refine Kd.R_lit (Kd.int .i64) _ 3 ?hg (N := 6) ?hd (xs := ([1, 2, 4, 8, 16] : List Int)) (inner := [.int .i64 1, .int .i64 2, .int .i64 4, .int .i64 8, .int .i64 16]) (ok := fun _ => True) (okp := fun _ => True) ?hr ?hp (fun _ hk => hk) trivial (Below.refl _ _) (Nat.le_refl _) (by simp) ?_; (case hd => rfl); (case hg => rfl); (case hr => first | (go_simp; done) | (go_simp; rfl)); (case hp => exact (Reps.one (show Kd.M (Kd.int .i64) _ _ _ 1 [.int .i64 1] from rfl) (Reps.one (show Kd.M (Kd.int .i64) _ _ _ 2 [.int .i64 2] from rfl) (Reps.one (show Kd.M (Kd.int .i64) _ _ _ 4 [.int .i64 4] from rfl) (Reps.one (show Kd.M (Kd.int .i64) _ _ _ 8 [.int .i64 8] from rfl) (Reps.one (show Kd.M (Kd.int .i64) _ _ _ 16 [.int .i64 16] from rfl) (Reps.none _ _))))))); intro v_l w_3 ho hb hg_ hnew_; clear hg_ hnew_; (try clear hc1_w_2); (try clear hf1_w_2); (try clear hc2_w_2); (try clear hf2_w_2); have n0_ := Aside0.mk (blk_below (g := g1) (o := .cells #[.int .i64 a0] 3 (0, 0)) BX1.out hb); have n1_ := Aside0.mk (blk_below (g := g2) (o := .cells #[.slice none 0 0] 27 (0, 0)) BX2.out hb); have n2_ := Aside0.mk (below_step HB.out hb); clear BX1 BX2 HB; have BX1 := n0_; have BX2 := n1_; have HB := n2_; clear n0_ n1_ n2_; have SZw_3 := Aside0.mk hb.size; have RL := Aside0.mk ho; clear hb ho; obtain ⟨A_l, c_l, e_l⟩ := Kd.R_slice RL.out; subst e_l; have hc1_w_3 : w_3.cell? ⟨g1, 0, none⟩ = some (.int .i64 a0) := (blk_cell BX1.out 0).trans rfl; have hf1_w_3 := blk_frozen BX1.out 0; have hc2_w_3 : w_3.cell? ⟨g2, 0, none⟩ = some (.slice none 0 0) := (blk_cell BX2.out 0).trans rfl; have hf2_w_3 := blk_frozen BX2.out 0; skip)
      | ((with_reducible refine gate_callee (f := 18) rfl ?_); refine goesL_ (some 8) rfl rfl Try.func18 (by kernel_rfl) rfl #[.slice A_l ([1, 2, 4, 8, 16] : List Int).length c_l, .int .i64 a0] rfl (by (try simp only [List.map_toArray, List.map_cons, List.map_nil]); first | done | rfl) ?_; (with_reducible refine (slices_Contains_int_int.calls k _ _ ([1, 2, 4, 8, 16] : List Int) a0 true _ ?side1 ?side2 A1.out).mono ?_); (case side1 => exact (Kd.R_reads' RL.out).2.2); (case side2 => exact (Kd.R_reads' RL.out).2.1); rintro e w_4 ⟨rfl, hd⟩; refine ⟨_, rfl, ?_⟩; obtain ⟨nd_, hnd_⟩ := hd; have hb : Below w_3.heap.size w_3 w_4 := (by rw [hnd_]; exact pw_below_drewN (Below.refl _ _) _); clear hnd_ nd_; (try clear hc1_w_3); (try clear hf1_w_3); (try clear hc2_w_3); (try clear hf2_w_3); clear RL; have n0_ := Aside0.mk (blk_below (g := g1) (o := .cells #[.int .i64 a0] 3 (0, 0)) BX1.out hb); have n1_ := Aside0.mk (blk_below (g := g2) (o := .cells #[.slice none 0 0] 27 (0, 0)) BX2.out hb); have n2_ := Aside0.mk (below_step HB.out hb); clear BX1 BX2 HB; have BX1 := n0_; have BX2 := n1_; have HB := n2_; clear n0_ n1_ n2_; have SZw_4 := Aside0.mk hb.size; clear hb; have hc1_w_4 : w_4.cell? ⟨g1, 0, none⟩ = some (.int .i64 a0) := (blk_cell BX1.out 0).trans rfl; have hf1_w_4 := blk_frozen BX1.out 0; have hc2_w_4 : w_4.cell? ⟨g2, 0, none⟩ = some (.slice none 0 0) := (blk_cell BX2.out 0).trans rfl; have hf2_w_4 := blk_frozen BX2.out 0; skip)
      | ((with_reducible refine gate_callee (f := 19) rfl ?_); refine goesL_ (some 13) rfl rfl Try.func19 (by kernel_rfl) rfl #[.int .i64 16, .int .i64 2, .func (.func 20) #[] #[.pointer (some ⟨g1, 0, none⟩)]] rfl (by (try simp only [List.map_toArray, List.map_cons, List.map_nil]); first | done | rfl) ?_; refine (impl_firstWord.calls (impl_FirstTorus.is a0) 20 _ #[.pointer (some ⟨g1, 0, none⟩)] Try.func20 (by kernel_rfl) rfl k 16 2 x false _ ?hp A2.out).mono ?_; (case hp => exact fun q W A c l b hb hC hl hr => calls_of_args (by simp) (impl_FirstTorus.is_calls a0 q g1 W A c l b ((blk_cell (blk_below BX1.out hb) 0).trans rfl) hC hl hr)); rintro e w_5 ⟨v_x, rfl, ho, hb⟩; refine ⟨_, rfl, ?_⟩; (try clear hc1_w_4); (try clear hf1_w_4); (try clear hc2_w_4); (try clear hf2_w_4); have RX := Aside0.mk ho; have n0_ := Aside0.mk (blk_below (g := g1) (o := .cells #[.int .i64 a0] 3 (0, 0)) BX1.out hb); have n1_ := Aside0.mk (blk_below (g := g2) (o := .cells #[.slice none 0 0] 27 (0, 0)) BX2.out hb); have n2_ := Aside0.mk (below_step HB.out hb); clear BX1 BX2 HB; have BX1 := n0_; have BX2 := n1_; have HB := n2_; clear n0_ n1_ n2_; have SZw_5 := Aside0.mk hb.size; clear hb ho; obtain ⟨A_x, c_x, e_x⟩ := Kd.R_slice RX.out; subst e_x; have hc1_w_5 : w_5.cell? ⟨g1, 0, none⟩ = some (.int .i64 a0) := (blk_cell BX1.out 0).trans rfl; have hf1_w_5 := blk_frozen BX1.out 0; have hc2_w_5 : w_5.cell? ⟨g2, 0, none⟩ = some (.slice none 0 0) := (blk_cell BX2.out 0).trans rfl; have hf2_w_5 := blk_frozen BX2.out 0; skip)
      | ((with_reducible refine gate_store (t := 27) (p := 2) rfl ?_); refine store_event (t := 27) (p := 2) (v := ?vo_w_6) (w1 := (w_5.setCell ⟨g2, 0, none⟩ (.slice none 0 0))) ?hg ?ho ?hn ?hr ?_; (case ho => rfl); (case hg => rfl); (case hn => rfl); (case hr => first | (go_simp; done) | (go_simp; rfl)); intro w_6 hw; have hk : Kept w_5 w_6 (fun k_ => k_ = g2) := (by rw [hw]; exact impl_FirstTorus.kset _ _ _); (try clear hc1_w_5); (try clear hf1_w_5); (try clear hc2_w_5); (try clear hf2_w_5); have n0_ := Aside0.mk (blk_kept (g := g1) (o := .cells #[.int .i64 a0] 3 (0, 0)) BX1.out hk (fun h_ => by (try dsimp only at h_); have := SG1.out; have := SZw_1.out; have := SL1.out; have := SG2.out; have := SZw_2.out; have := SL2.out; have := SZw_3.out; have := SZw_4.out; have := SZw_5.out; omega)); have n1_ := Aside0.mk ((by rw [hw]; exact below_set HB.out GE2.out : Below w.heap.size w w_6)); have n2_ := Aside0.mk ((by rw [hw]; exact blk_put (cs := #[.slice none 0 0]) BX2.out 0 _ rfl : w_6.heap[g2]? = some (.cells #[.slice none 0 0] 27 (0, 0)))); clear BX1 HB BX2; have BX1 := n0_; have HB := n1_; have BX2 := n2_; clear n0_ n1_ n2_; have SZw_6 := Aside0.mk hk.1; clear hk hw; have hc1_w_6 : w_6.cell? ⟨g1, 0, none⟩ = some (.int .i64 a0) := (blk_cell BX1.out 0).trans rfl; have hf1_w_6 := blk_frozen BX1.out 0; have hc2_w_6 : w_6.cell? ⟨g2, 0, none⟩ = some (.slice none 0 0) := (blk_cell BX2.out 0).trans rfl; have hf2_w_6 := blk_frozen BX2.out 0; skip))
      refine bodyPost_ret (results_ct rfl _ _ g2 27 #[.slice none 0 0] (0, 0) _ rfl BX2.out Try.underlying27 rfl (by kernel_rfl)) rfl ?_
      exact ⟨_, rfl, Kd.S_nil _ _ _ _ _, HB.out⟩
  · rw [if_neg c1] at H
    replace c1 := Bool.eq_false_iff.mpr c1
    subst c1
    simp only [Option.some.injEq, Prod.mk.injEq] at H
    obtain ⟨rfl, rfl⟩ := H
    go_enter Try.func6, Try.ntmps6
    go_wp2_with (first
      | ((with_reducible refine gate_dst (N := 1) rfl ?_); refine box_event ?hg (N := 1) ?hd (cs := #[.int .i64 a0]) (t := 3) ?hr ?_; (case hd => rfl); (case hg => rfl); (case hr => first | (go_simp; done) | (go_simp; rfl)); intro g1 hg w_1 hbox hb; have n0_ := Aside0.mk (below_step HB.out hb); clear HB; have HB := n0_; clear n0_; have BX1 := Aside0.mk hbox; have SG1 := Aside0.mk hg; have SZw_1 := Aside0.mk hb.size; have SL1 := Aside0.mk (blk_lt hbox); clear hb hbox hg; have GE1 := Aside0.mk (show w.heap.size ≤ g1 by have := SG1.out; omega); have hc1_w_1 : w_1.cell? ⟨g1, 0, none⟩ = some (.int .i64 a0) := (blk_cell BX1.out 0).trans rfl; have hf1_w_1 := blk_frozen BX1.out 0; skip)
      | ((with_reducible refine gate_dst (N := 2) rfl ?_); refine box_event ?hg (N := 2) ?hd (cs := #[.slice none 0 0]) (t := 27) ?hr ?_; (case hd => rfl); (case hg => rfl); (case hr => first | (go_simp; done) | (go_simp; rfl)); intro g2 hg w_2 hbox hb; (try clear hc1_w_1); (try clear hf1_w_1); have n0_ := Aside0.mk (blk_below (g := g1) (o := .cells #[.int .i64 a0] 3 (0, 0)) BX1.out hb); have n1_ := Aside0.mk (below_step HB.out hb); clear BX1 HB; have BX1 := n0_; have HB := n1_; clear n0_ n1_; have BX2 := Aside0.mk hbox; have SG2 := Aside0.mk hg; have SZw_2 := Aside0.mk hb.size; have SL2 := Aside0.mk (blk_lt hbox); clear hb hbox hg; have GE2 := Aside0.mk (show w.heap.size ≤ g2 by have := SG1.out; have := SZw_1.out; have := SL1.out; have := SG2.out; omega); have hc1_w_2 : w_2.cell? ⟨g1, 0, none⟩ = some (.int .i64 a0) := (blk_cell BX1.out 0).trans rfl; have hf1_w_2 := blk_frozen BX1.out 0; have hc2_w_2 : w_2.cell? ⟨g2, 0, none⟩ = some (.slice none 0 0) := (blk_cell BX2.out 0).trans rfl; have hf2_w_2 := blk_frozen BX2.out 0; skip)
      | ((with_reducible refine gate_dst (N := 6) rfl ?_); refine Kd.R_lit (Kd.int .i64) _ 3 ?hg (N := 6) ?hd (xs := ([1, 2, 4, 8, 16] : List Int)) (inner := [.int .i64 1, .int .i64 2, .int .i64 4, .int .i64 8, .int .i64 16]) (ok := fun _ => True) (okp := fun _ => True) ?hr ?hp (fun _ hk => hk) trivial (Below.refl _ _) (Nat.le_refl _) (by simp) ?_; (case hd => rfl); (case hg => rfl); (case hr => first | (go_simp; done) | (go_simp; rfl)); (case hp => exact (Reps.one (show Kd.M (Kd.int .i64) _ _ _ 1 [.int .i64 1] from rfl) (Reps.one (show Kd.M (Kd.int .i64) _ _ _ 2 [.int .i64 2] from rfl) (Reps.one (show Kd.M (Kd.int .i64) _ _ _ 4 [.int .i64 4] from rfl) (Reps.one (show Kd.M (Kd.int .i64) _ _ _ 8 [.int .i64 8] from rfl) (Reps.one (show Kd.M (Kd.int .i64) _ _ _ 16 [.int .i64 16] from rfl) (Reps.none _ _))))))); intro v_l w_3 ho hb hg_ hnew_; clear hg_ hnew_; (try clear hc1_w_2); (try clear hf1_w_2); (try clear hc2_w_2); (try clear hf2_w_2); have n0_ := Aside0.mk (blk_below (g := g1) (o := .cells #[.int .i64 a0] 3 (0, 0)) BX1.out hb); have n1_ := Aside0.mk (blk_below (g := g2) (o := .cells #[.slice none 0 0] 27 (0, 0)) BX2.out hb); have n2_ := Aside0.mk (below_step HB.out hb); clear BX1 BX2 HB; have BX1 := n0_; have BX2 := n1_; have HB := n2_; clear n0_ n1_ n2_; have SZw_3 := Aside0.mk hb.size; have RL := Aside0.mk ho; clear hb ho; obtain ⟨A_l, c_l, e_l⟩ := Kd.R_slice RL.out; subst e_l; have hc1_w_3 : w_3.cell? ⟨g1, 0, none⟩ = some (.int .i64 a0) := (blk_cell BX1.out 0).trans rfl; have hf1_w_3 := blk_frozen BX1.out 0; have hc2_w_3 : w_3.cell? ⟨g2, 0, none⟩ = some (.slice none 0 0) := (blk_cell BX2.out 0).trans rfl; have hf2_w_3 := blk_frozen BX2.out 0; skip)
      | ((with_reducible refine gate_callee (f := 18) rfl ?_); refine goesL_ (some 8) rfl rfl Try.func18 (by kernel_rfl) rfl #[.slice A_l ([1, 2, 4, 8, 16] : List Int).length c_l, .int .i64 a0] rfl (by (try simp only [List.map_toArray, List.map_cons, List.map_nil]); first | done | rfl) ?_; (with_reducible refine (slices_Contains_int_int.calls k _ _ ([1, 2, 4, 8, 16] : List Int) a0 false _ ?side1 ?side2 A1.out).mono ?_); (case side1 => exact (Kd.R_reads' RL.out).2.2); (case side2 => exact (Kd.R_reads' RL.out).2.1); rintro e w_4 ⟨rfl, hd⟩; refine ⟨_, rfl, ?_⟩; obtain ⟨nd_, hnd_⟩ := hd; have hb : Below w_3.heap.size w_3 w_4 := (by rw [hnd_]; exact pw_below_drewN (Below.refl _ _) _); clear hnd_ nd_; (try clear hc1_w_3); (try clear hf1_w_3); (try clear hc2_w_3); (try clear hf2_w_3); clear RL; have n0_ := Aside0.mk (blk_below (g := g1) (o := .cells #[.int .i64 a0] 3 (0, 0)) BX1.out hb); have n1_ := Aside0.mk (blk_below (g := g2) (o := .cells #[.slice none 0 0] 27 (0, 0)) BX2.out hb); have n2_ := Aside0.mk (below_step HB.out hb); clear BX1 BX2 HB; have BX1 := n0_; have BX2 := n1_; have HB := n2_; clear n0_ n1_ n2_; have SZw_4 := Aside0.mk hb.size; clear hb; have hc1_w_4 : w_4.cell? ⟨g1, 0, none⟩ = some (.int .i64 a0) := (blk_cell BX1.out 0).trans rfl; have hf1_w_4 := blk_frozen BX1.out 0; have hc2_w_4 : w_4.cell? ⟨g2, 0, none⟩ = some (.slice none 0 0) := (blk_cell BX2.out 0).trans rfl; have hf2_w_4 := blk_frozen BX2.out 0; skip)
      | ((with_reducible refine gate_store (t := 27) (p := 2) rfl ?_); refine store_event (t := 27) (p := 2) (v := ?vo_w_5) (w1 := (w_4.setCell ⟨g2, 0, none⟩ (.slice none 0 0))) ?hg ?ho ?hn ?hr ?_; (case ho => rfl); (case hg => rfl); (case hn => rfl); (case hr => first | (go_simp; done) | (go_simp; rfl)); intro w_5 hw; have hk : Kept w_4 w_5 (fun k_ => k_ = g2) := (by rw [hw]; exact impl_FirstTorus.kset _ _ _); (try clear hc1_w_4); (try clear hf1_w_4); (try clear hc2_w_4); (try clear hf2_w_4); have n0_ := Aside0.mk (blk_kept (g := g1) (o := .cells #[.int .i64 a0] 3 (0, 0)) BX1.out hk (fun h_ => by (try dsimp only at h_); have := SG1.out; have := SZw_1.out; have := SL1.out; have := SG2.out; have := SZw_2.out; have := SL2.out; have := SZw_3.out; have := SZw_4.out; omega)); have n1_ := Aside0.mk ((by rw [hw]; exact below_set HB.out GE2.out : Below w.heap.size w w_5)); have n2_ := Aside0.mk ((by rw [hw]; exact blk_put (cs := #[.slice none 0 0]) BX2.out 0 _ rfl : w_5.heap[g2]? = some (.cells #[.slice none 0 0] 27 (0, 0)))); clear BX1 HB BX2; have BX1 := n0_; have HB := n1_; have BX2 := n2_; clear n0_ n1_ n2_; have SZw_5 := Aside0.mk hk.1; clear hk hw; have hc1_w_5 : w_5.cell? ⟨g1, 0, none⟩ = some (.int .i64 a0) := (blk_cell BX1.out 0).trans rfl; have hf1_w_5 := blk_frozen BX1.out 0; have hc2_w_5 : w_5.cell? ⟨g2, 0, none⟩ = some (.slice none 0 0) := (blk_cell BX2.out 0).trans rfl; have hf2_w_5 := blk_frozen BX2.out 0; skip))
    refine bodyPost_ret (results_ct rfl _ _ g2 27 #[.slice none 0 0] (0, 0) _ rfl BX2.out Try.underlying27 rfl (by kernel_rfl)) rfl ?_
    exact ⟨_, rfl, Kd.S_nil _ _ _ _ _, HB.out⟩

/-! ### spec_l1In: function 23 -/
def spec_l1In.f (a0 : Int) (a1 : Int) (a2 : Int) : Option (Bool) := if a0 ≥ a1 then (some (decide (a0 ≤ a2))) else (some false)
set_option maxHeartbeats 8000000 in
set_option maxRecDepth 100000 in
theorem spec_l1In.calls (a0 : Int) (a1 : Int) (a2 : Int) (r : Bool) (w : World) (h : spec_l1In.f a0 a1 a2 = some r) :
    Calls Try.prog 23 #[.int .i64 a0, .int .i64 a1, .int .i64 a2] w fun e w' => e = .returned (.bool r) ∧ Drawn0 w w' := by
  have H : (if a0 ≥ a1 then (some (decide (a0 ≤ a2))) else (some false)) = some r := h
  clear h
  by_cases c4 : a0 ≥ a1
  · rw [if_pos c4] at H
    have c4b0 : decide (a1 ≤ a0) = true := decide_eq_true c4
    clear c4
    obtain rfl := Option.some.inj H
    go_enter Try.func23, Try.ntmps23
    go_wp2
    go_ret
    exact ⟨by first | rfl | (simp; done) | (simp [*]; done), by repeat (first | exact Drawn0.refl _ | apply Drawn0.step)⟩
  · rw [if_neg c4] at H
    have c4b0 : decide (a1 ≤ a0) = false := decide_eq_false c4
    clear c4
    obtain rfl := Option.some.inj H
    go_enter Try.func23, Try.ntmps23
    go_wp2
    go_ret
    exact ⟨by first | rfl | (simp; done) | (simp [*]; done), by repeat (first | exact Drawn0.refl _ | apply Drawn0.step)⟩

/-! ### spec_suCount: function 24 -/
def spec_suCount.l0 : Nat → Int → Int → List Int → Int → Option (List Int)
  | 0, _, _, _, _ => none
  | k + 1, x1, x2, x7, x8 => if x8 ≥ 0 then (if x1 = 0 then (none) else (if 0 ≤ x8 then (if x8 < (x7.length : Int) then (spec_suCount.l0 k x1 (wrap64 (Int.tdiv x2 x1)) (x7.set (x8 : Int).toNat (Int.tmod x2 x1)) (wrap64 (x8 - 1))) else (none)) else (none))) else (some x7)
def spec_suCount.f (k : Nat) (a0 : Int) (a1 : Int) (a2 : Int) : Option (List Int) := if 0 ≤ a0 then (if (a0 : Int).toNat ≤ 35184372088832 then (spec_suCount.l0 k a1 a2 (List.replicate (a0 : Int).toNat 0) (wrap64 (a0 - 1))) else (none)) else (none)
theorem spec_suCount.mono_l : ∀ k, (∀ y0 y1 y2 y3, LeO (spec_suCount.l0 k y0 y1 y2 y3) (spec_suCount.l0 (k + 1) y0 y1 y2 y3))
  | 0 => fun _ _ _ _ r h => by simp [spec_suCount.l0] at h
  | k + 1 => by
    have ih0 := spec_suCount.mono_l k
    · intro y0 y1 y2 y3
      unfold spec_suCount.l0
      repeat' first
      | (with_reducible exact ih0 _ _ _ _)
      | (with_reducible exact LeO.refl _)
      | (with_reducible exact LeO.none _)
      | (with_reducible refine LeO.ite ?_ ?_)
      | (with_reducible refine LeO.bind ?_ (fun _ => ?_))
      | exact ih0 _ _ _ _
      | exact LeO.none _
      | refine LeO.ite ?_ ?_
      | refine LeO.bind ?_ (fun _ => ?_)
theorem spec_suCount.mono : ∀ a0 a1 a2 k, LeO (spec_suCount.f k a0 a1 a2) (spec_suCount.f (k + 1) a0 a1 a2) := by
  intro a0 a1 a2 k
  have ih0 := spec_suCount.mono_l k
  unfold spec_suCount.f
  repeat' first
      | (with_reducible exact ih0 _ _ _ _)
      | (with_reducible exact LeO.refl _)
      | (with_reducible exact LeO.none _)
      | (with_reducible refine LeO.ite ?_ ?_)
      | (with_reducible refine LeO.bind ?_ (fun _ => ?_))
      | exact ih0 _ _ _ _
      | exact LeO.none _
      | refine LeO.ite ?_ ?_
      | refine LeO.bind ?_ (fun _ => ?_)
set_option maxHeartbeats 8000000 in
set_option maxRecDepth 100000 in
theorem spec_suCount.calls (k : Nat) (a0 : Int) (a1 : Int) (a2 : Int) (r : List Int) (w : World) (h : spec_suCount.f k a0 a1 a2 = some r) :
    Calls Try.prog 24 #[.int .i64 a0, .int .i64 a1, .int .i64 a2] w fun e w' => ∃ v0_ : Value, e = .returned (v0_) ∧ Kd.R (Kd.int .i64) 3 w' w.heap.size (fun _ => True) v0_ r ∧ Below w.heap.size w w' := by
  have HB := Aside0.mk (Below.refl w.heap.size w)
  have H : (if 0 ≤ a0 then (if (a0 : Int).toNat ≤ 35184372088832 then (spec_suCount.l0 k a1 a2 (List.replicate (a0 : Int).toNat 0) (wrap64 (a0 - 1))) else (none)) else (none)) = some r := h
  clear h
  by_cases c4 : 0 ≤ a0
  · rw [if_pos c4] at H
    have c4b0 := eq_true c4
    have c4b1 : decide (0 ≤ a0) = true := decide_eq_true c4
    clear c4
    by_cases c5 : (a0 : Int).toNat ≤ 35184372088832
    · rw [if_pos c5] at H
      have c5b0 := eq_true c5
      have c5b1 : decide ((a0 : Int).toNat ≤ 35184372088832) = true := decide_eq_true c5
      clear c5
      obtain ⟨y155, hy155⟩ : ∃ y_ : List Int, y_ = (List.replicate (a0 : Int).toNat 0) := ⟨_, rfl⟩
      replace H : (spec_suCount.l0 k a1 a2 y155 (wrap64 (a0 - 1))) = some r := by first | (rw [hy155]; with_reducible exact H) | (have H2_ := (Option.bind_some _ _).symm.trans H; rw [hy155]; with_reducible exact H2_) | (have H2_ := (Option.bind_some _ _).symm.trans H; with_reducible exact H2_) | with_reducible exact H | (rw [hy155]; exact H) | exact H
      have Ny155 := Aside0.mk hy155
      clear hy155
      have H' := Aside0.mk H
      clear H
      go_enter Try.func24, Try.ntmps24
      go_wp2_with (first | ((with_reducible refine gate_dst (N := 10) rfl ?_); refine Kd.R_make (Kd.int .i64) _ 3 rfl (N := 10) rfl 36 _ _ rfl a0 rfl rfl Try.underlying36 (.int .i64 0) 8 info3 rfl (by decide) (by omega) 0 (ok := fun _ => True) (okp := fun _ => True) rfl (fun _ hk => hk) trivial (of_decide_eq_true (by first | (with_reducible assumption) | assumption)) (Nat.le_trans (Nat.mul_le_mul_right _ (of_decide_eq_true (by first | (with_reducible assumption) | assumption) : a0.toNat ≤ 35184372088832)) (by omega)) (Below.refl _ _) (Nat.le_refl _) ?_; intro v156 w6 ho7 hb hg_ hnew_; clear hg_ hnew_; (first | rw [← Ny155.out] at ho7 | (simp only [Int.reduceToNat] at ho7; rw [← Ny155.out] at ho7)); have n0_ := Aside0.mk (Kd.R_lower ho7 (below_size (by repeat (first | (with_reducible first | exact HB.out | apply below_alloc | apply pw_below_drewN | apply below_drew1) | exact HB.out)))); have n1_ := Aside0.mk (below_step (by repeat (first | (with_reducible first | exact HB.out | apply below_alloc | apply pw_below_drewN | apply below_drew1) | exact HB.out)) hb); clear HB; have HO157 := n0_; have HB := n1_; clear n0_ n1_; clear hb ho7))
      go_loopg [2, 8] k (fun kq v2 v8 w' => ∃ (x2_1 : Int) (x7_1 : List Int) (x8_1 : Int), v2 = .int .i64 x2_1 ∧ v8 = .int .i64 x8_1 ∧ Aside0 (spec_suCount.l0 kq a1 x2_1 x7_1 x8_1 = some r) ∧ Aside0 (kq ≤ k) ∧ Aside0 (Kd.R (Kd.int .i64) 3 w' w.heap.size (fun _ => True) v156 x7_1) ∧ Aside0 (Below w.heap.size w w'))
      case atStart => exact ⟨(a2), (y155), (wrap64 (a0 - 1)), (by first | rfl | (simp; done) | (simp [*]; done)), (by first | rfl | (simp; done) | (simp [*]; done)), H', ⟨Nat.le_refl _⟩, ⟨by (with_reducible repeat (first | apply Kd.R_alloc | apply Kd.R_drewN | apply Kd.R_drew)); exact HO157.out⟩, ⟨by repeat (first | (with_reducible first | exact HB.out | apply below_alloc | apply pw_below_drewN | apply below_drew1) | exact HB.out)⟩⟩
      case round =>
        clear H'
        try clear c2
        try clear p2
        try clear c4
        try clear c4b0
        try clear c4b1
        try clear c5
        try clear c5b0
        try clear c5b1
        try clear p6
        obtain ⟨x2_1, x7_1, x8_1, rfl, rfl, HA, HK1, HO_7, HB⟩ := hrel
        cases gk with
        | zero => exact absurd HA.out (by simp [spec_suCount.l0])
        | succ k1 =>
          have H := HA.out
          clear HA
          simp only [spec_suCount.l0] at H
          by_cases c8 : x8_1 ≥ 0
          · rw [if_pos c8] at H
            have c8b0 : decide (0 ≤ x8_1) = true := decide_eq_true c8
            clear c8
            by_cases c9 : a1 = 0
            · rw [if_pos c9] at H
              exact absurd H (by simp)
            · rw [if_neg c9] at H
              have c9b0 : (a1 == 0) = false := beq_eq_false_iff_ne.mpr c9
              have c9b1 : (a1 != 0) = true := bne_iff_ne.mpr c9
              by_cases c10 : 0 ≤ x8_1
              · rw [if_pos c10] at H
                have c10b0 : decide (0 ≤ x8_1) = true := decide_eq_true c10
                clear c10
                by_cases c11 : x8_1 < (x7_1.length : Int)
                · rw [if_pos c11] at H
                  have c11b0 : decide (x8_1 < (x7_1.length : Int)) = true := decide_eq_true c11
                  clear c11
                  obtain ⟨y158, hy158⟩ : ∃ y_ : List Int, y_ = (x7_1.set (x8_1 : Int).toNat (Int.tmod x2_1 a1)) := ⟨_, rfl⟩
                  replace H : (spec_suCount.l0 k1 a1 (wrap64 (Int.tdiv x2_1 a1)) y158 (wrap64 (x8_1 - 1))) = some r := by first | (rw [hy158]; with_reducible exact H) | (have H2_ := (Option.bind_some _ _).symm.trans H; rw [hy158]; with_reducible exact H2_) | (have H2_ := (Option.bind_some _ _).symm.trans H; with_reducible exact H2_) | with_reducible exact H | (rw [hy158]; exact H) | exact H
                  have Ny158 := Aside0.mk hy158
                  clear hy158
                  have H' := Aside0.mk H
                  clear H
                  have p12 : 0 ≤ (x8_1 : Int) := of_decide_eq_true (by first | (with_reducible assumption) | assumption)
                  have q12 : (x8_1 : Int) < ((x7_1.length : Int) : Int) := of_decide_eq_true (by first | (with_reducible assumption) | assumption)
                  obtain ⟨go12, co12, eo12, gb12, gl12, cl12, HG12⟩ := Kd.R_form HO_7.out (by omega)
                  (first | cases eo12 | (injection eo12 with ea_ en_ ec_; (first | subst ea_ | (injection ea_ with ea_; subst ea_)); subst ec_; clear en_))
                  have GB12 := Aside0.mk gb12
                  have GG12 := Aside0.mk HG12
                  clear gb12 gl12 HG12
                  obtain ⟨hx12_0, hf12_0⟩ := Kd.R_celln 0 HO_7.out (x8_1 : Int) p12 q12
                  replace p12 := eq_true p12
                  replace q12 := eq_true q12
                  have HP13 := Kd.R_putg HO_7.out (x8_1 : Int) (Int.tmod x2_1 a1)
                  go_wp2_with (first | ((with_reducible refine gate_store (t := 3) (p := 22) rfl ?_); refine store_event (t := 3) (p := 22) (v := ?vo_w14) (w1 := (wr.setCell ⟨go12, (x8_1 : Int).toNat, none⟩ (.int .i64 (Int.tmod x2_1 a1)))) ?hg ?ho ?hn ?hr ?_; (case ho => rfl); (case hg => rfl); (case hn => rfl); (case hr => first | (go_simp; done) | (go_simp; rfl)); intro w14 hw; have hg : wr.grownBy w14 (some go12) := (by rw [hw]; exact HP13.2); have hp_ : Kd.R (Kd.int .i64) 3 w14 w.heap.size (fun _ => True) (.slice (some ⟨go12, 0, none⟩) x7_1.length co12) y158 := (by rw [hw, Ny158.out]; exact HP13.1); clear HP13; have n0_ := Aside0.mk (hp_); have n1_ := Aside0.mk ((by rw [hw]; exact below_set (HB.out) GB12.out : Below w.heap.size w w14)); clear HO_7; clear HB; have HO_7 := n0_; have HB := n1_; clear n0_ n1_; clear hg hw hp_))
                  go_roundg k1
                  case measure => have := HK1.out; omega
                  case rel => exact ⟨(wrap64 (Int.tdiv x2_1 a1)), (y158), (wrap64 (x8_1 - 1)), (by first | rfl | (simp; done) | (simp [*]; done)), (by first | rfl | (simp; done) | (simp [*]; done)), H', ⟨by have := HK1.out; omega⟩, ⟨by (with_reducible repeat (first | apply Kd.R_alloc | apply Kd.R_drewN | apply Kd.R_drew)); exact HO_7.out⟩, ⟨by repeat (first | (with_reducible first | exact HB.out | apply below_alloc | apply pw_below_drewN | apply below_drew1) | exact HB.out)⟩⟩
                · rw [if_neg c11] at H
                  exact absurd H (by simp)
              · rw [if_neg c10] at H
                exact absurd H (by simp)
          · rw [if_neg c8] at H
            have c8b0 : decide (0 ≤ x8_1) = false := decide_eq_false c8
            clear c8
            obtain rfl := Option.some.inj H
            go_wp2
            go_ret
            exact ⟨_, by first | rfl | (simp [errW_none, errW_some] <;> rfl) | (simp [*, errW_none, errW_some] <;> rfl), by (with_reducible repeat (first | apply Kd.R_alloc | apply Kd.R_drewN | apply Kd.R_drew)); exact HO_7.out, by repeat (first | (with_reducible first | exact HB.out | apply below_alloc | apply pw_below_drewN | apply below_drew1) | exact HB.out)⟩
    · rw [if_neg c5] at H
      exact absurd H (by simp)
  · rw [if_neg c4] at H
    exact absurd H (by simp)

end Go.Proofs.Ytnbflbkneeageaa.PFnTori
