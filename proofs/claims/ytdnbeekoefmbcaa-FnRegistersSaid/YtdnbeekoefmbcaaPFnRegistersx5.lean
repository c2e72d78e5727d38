-- Written for this claim by a copy of the print that meets some functions by contracts of this session.
import Derived.Test.YtdnbeekoefmbcaaPFnRegistersx0
import Derived.Test.YtdnbeekoefmbcaaPFnRegistersx1
import Derived.Test.YtdnbeekoefmbcaaPFnRegistersx2
import Derived.Test.YtdnbeekoefmbcaaPFnRegistersx4
namespace Go.Proofs.Ytdnbeekoefmbcaa.PFnRegisters
open Go.RowKit Go.Proofs.YtdnbeekoefmbcaaW.PrintWords Go.Proofs.YtdnbeekoefmbcaaW.PrintLast Go.Proofs.YtdnbeekoefmbcaaW.PrintMore
attribute [local go_sem] max2_int min2_int max_two min_two max_three min_three max_four min_four   -- for this text's walks alone
set_option linter.unusedVariables false
set_option linter.unusedSimpArgs false

/-! ### spec_l1Put: function 173 -/
def spec_l1Put.l0 : Nat → List Int → Int → Int → Option (List Int)
  | 0, _, _, _ => none
  | k + 1, x0, x1, x5 => if x5 < (x0.length : Int) then (if 0 ≤ x5 then (if (rd x0 x5) < x1 then (spec_l1Put.l0 k x0 x1 (wrap64 (x5 + 1))) else (if (rd x0 x5) = x1 then (some x0) else ((some (([] : List Int) : List Int)).bind fun y163 => (if x5 ≤ (x0.length : Int) then ((some (x0.take (x5 : Int).toNat : List Int)).bind fun y166 => (if y163.length + y166.length < 17592186044416 then ((some (y163 ++ y166 : List Int)).bind fun y170 => (if y170.length < 17592186044416 then ((some (y170 ++ [x1] : List Int)).bind fun y173 => ((some (x0.drop (x5 : Int).toNat : List Int)).bind fun y176 => (if y173.length + y176.length < 17592186044416 then (some (y173 ++ y176)) else (none)))) else (none))) else (none))) else (none))))) else (none)) else ((some (([] : List Int) : List Int)).bind fun y183 => (if 0 ≤ x5 then (if x5 ≤ (x0.length : Int) then ((some (x0.take (x5 : Int).toNat : List Int)).bind fun y186 => (if y183.length + y186.length < 17592186044416 then ((some (y183 ++ y186 : List Int)).bind fun y190 => (if y190.length < 17592186044416 then ((some (y190 ++ [x1] : List Int)).bind fun y193 => ((some (x0.drop (x5 : Int).toNat : List Int)).bind fun y196 => (if y193.length + y196.length < 17592186044416 then (some (y193 ++ y196)) else (none)))) else (none))) else (none))) else (none)) else (none)))
def spec_l1Put.f (k : Nat) (l0 : List Int) (a1 : Int) : Option (List Int) := spec_l1Put.l0 k l0 a1 0
theorem spec_l1Put.mono_l : ∀ k, (∀ y0 y1 y2, LeO (spec_l1Put.l0 k y0 y1 y2) (spec_l1Put.l0 (k + 1) y0 y1 y2))
  | 0 => fun _ _ _ r h => by simp [spec_l1Put.l0] at h
  | k + 1 => by
    have ih0 := spec_l1Put.mono_l k
    · intro y0 y1 y2
      unfold spec_l1Put.l0
      repeat' first
      | (with_reducible exact ih0 _ _ _)
      | (with_reducible exact LeO.refl _)
      | (with_reducible exact LeO.none _)
      | (with_reducible refine LeO.ite ?_ ?_)
      | (with_reducible refine LeO.bind ?_ (fun _ => ?_))
      | exact ih0 _ _ _
      | exact LeO.none _
      | refine LeO.ite ?_ ?_
      | refine LeO.bind ?_ (fun _ => ?_)
theorem spec_l1Put.mono : ∀ a0 a1 k, LeO (spec_l1Put.f k a0 a1) (spec_l1Put.f (k + 1) a0 a1) := by
  intro a0 a1 k
  have ih0 := spec_l1Put.mono_l k
  unfold spec_l1Put.f
  repeat' first
      | (with_reducible exact ih0 _ _ _)
      | (with_reducible exact LeO.refl _)
      | (with_reducible exact LeO.none _)
      | (with_reducible refine LeO.ite ?_ ?_)
      | (with_reducible refine LeO.bind ?_ (fun _ => ?_))
      | exact ih0 _ _ _
      | exact LeO.none _
      | refine LeO.ite ?_ ?_
      | refine LeO.bind ?_ (fun _ => ?_)
set_option maxHeartbeats 8000000 in
set_option maxRecDepth 100000 in
theorem spec_l1Put.calls (k : Nat) (P0_ : Nat → Prop) (u9000_ : Value) (l0 : List Int) (a1 : Int) (r : List Int) (w0 w : World) (hB : Below w0.heap.size w0 w) (ho0 : Kd.R (Kd.int .i64) 3 w w0.heap.size P0_ u9000_ l0) (h : spec_l1Put.f k l0 a1 = some r) :
    Calls Try.prog 173 #[u9000_, .int .i64 a1] w fun e w' => ∃ v0_ : Value, e = .returned (v0_) ∧ Kd.R (Kd.int .i64) 3 w' w0.heap.size (fun k_ => (P0_ k_ ∨ w.heap.size ≤ k_)) v0_ r ∧ Below w0.heap.size w0 w' ∧ Kept w w' (fun k_ => P0_ k_) := by
  have HO0 := Aside0.mk (show Kd.R (Kd.int .i64) 3 w w0.heap.size (fun k_ => (P0_ k_ ∨ w.heap.size ≤ k_)) u9000_ l0 from Kd.R_mono ho0 (fun k_ hk => (.inl hk)))
  have HK := Aside0.mk (Kept.refl w (fun k_ => P0_ k_))
  have HW0 := Aside0.mk hB.size
  have HB := Aside0.mk hB
  clear hB
  have H : (spec_l1Put.l0 k l0 a1 0) = some r := h
  clear h
  have H' := Aside0.mk H
  clear H
  go_enter Try.func173, Try.ntmps173
  go_wp2
  go_loopg [5] k (fun kq v5 w' => ∃ (x5_1 : Int), v5 = .int .i64 x5_1 ∧ Aside0 (spec_l1Put.l0 kq l0 a1 x5_1 = some r) ∧ Aside0 (kq ≤ k) ∧ Aside0 (Kd.R (Kd.int .i64) 3 w' w0.heap.size (fun k_ => (P0_ k_ ∨ w.heap.size ≤ k_)) u9000_ l0) ∧ Aside0 (Kept w w' (fun k_ => P0_ k_)) ∧ Aside0 (Below w0.heap.size w0 w'))
  case atStart => exact ⟨(0), (by first | rfl | (simp; done) | (simp [*]; done)), H', ⟨Nat.le_refl _⟩, ⟨by (with_reducible repeat (first | apply Kd.R_alloc | apply Kd.R_drewN | apply Kd.R_drew)); exact HO0.out⟩, ⟨by repeat (first | (with_reducible first | exact HK.out | apply Kept.alloc | apply Kept.drewN | apply Kept.drew) | exact HK.out)⟩, ⟨by repeat (first | (with_reducible first | exact HB.out | apply below_alloc | apply pw_below_drewN | apply below_drew1) | exact HB.out)⟩⟩
  case round =>
    clear H'
    try clear c1
    try clear p2
    obtain ⟨x5_1, rfl, HA, HK1, HO_0, HK, HB⟩ := hrel
    cases gk with
    | zero => exact absurd HA.out (by simp [spec_l1Put.l0])
    | succ k1 =>
      have H := HA.out
      clear HA
      simp only [spec_l1Put.l0] at H
      by_cases c3 : x5_1 < (l0.length : Int)
      · rw [if_pos c3] at H
        have c3b0 : decide (x5_1 < (l0.length : Int)) = true := decide_eq_true c3
        clear c3
        by_cases c4 : 0 ≤ x5_1
        · rw [if_pos c4] at H
          have c4b0 : decide (0 ≤ x5_1) = true := decide_eq_true c4
          clear c4
          by_cases c5 : (rd l0 x5_1) < a1
          · rw [if_pos c5] at H
            have c5b0 : decide ((rd l0 x5_1) < a1) = true := decide_eq_true c5
            clear c5
            have H' := Aside0.mk H
            clear H
            obtain ⟨Ao6, co6, eo6⟩ := Kd.R_slice HO_0.out
            subst eo6
            have p161 : 0 ≤ (x5_1 : Int) := of_decide_eq_true (by first | (with_reducible assumption) | assumption)
            have q161 : x5_1 < (l0.length : Int) := of_decide_eq_true (by first | (with_reducible assumption) | assumption)
            obtain ⟨ad161, e161, hx161_0⟩ := Kd.at_int (Kd.R_reads' HO_0.out).2.2 x5_1 p161 q161
            cases e161
            replace p161 := eq_true p161
            replace q161 := eq_true q161
            go_wp2
            go_roundg k1
            case measure => have := HK1.out; omega
            case rel => exact ⟨(wrap64 (x5_1 + 1)), (by first | rfl | (simp; done) | (simp [*]; done)), H', ⟨by have := HK1.out; omega⟩, ⟨by (with_reducible repeat (first | apply Kd.R_alloc | apply Kd.R_drewN | apply Kd.R_drew)); exact HO_0.out⟩, ⟨by repeat (first | (with_reducible first | exact HK.out | apply Kept.alloc | apply Kept.drewN | apply Kept.drew) | exact HK.out)⟩, ⟨by repeat (first | (with_reducible first | exact HB.out | apply below_alloc | apply pw_below_drewN | apply below_drew1) | exact HB.out)⟩⟩
          · rw [if_neg c5] at H
            have c5b0 : decide ((rd l0 x5_1) < a1) = false := decide_eq_false c5
            clear c5
            by_cases c7 : (rd l0 x5_1) = a1
            · rw [if_pos c7] at H
              have c7b0 : ((rd l0 x5_1) == a1) = true := beq_iff_eq.mpr c7
              have c7b1 : ((rd l0 x5_1) != a1) = false := bne_eq_false_iff_eq.mpr c7
              clear c7
              obtain rfl := Option.some.inj H
              obtain ⟨Ao8, co8, eo8⟩ := Kd.R_slice HO_0.out
              subst eo8
              have p161 : 0 ≤ (x5_1 : Int) := of_decide_eq_true (by first | (with_reducible assumption) | assumption)
              have q161 : x5_1 < (l0.length : Int) := of_decide_eq_true (by first | (with_reducible assumption) | assumption)
              obtain ⟨ad161, e161, hx161_0⟩ := Kd.at_int (Kd.R_reads' HO_0.out).2.2 x5_1 p161 q161
              cases e161
              replace p161 := eq_true p161
              replace q161 := eq_true q161
              have p162 : 0 ≤ (x5_1 : Int) := of_decide_eq_true (by first | (with_reducible assumption) | assumption)
              have q162 : x5_1 < (l0.length : Int) := of_decide_eq_true (by first | (with_reducible assumption) | assumption)
              obtain ⟨ad162, e162, hx162_0⟩ := Kd.at_int (Kd.R_reads' HO_0.out).2.2 x5_1 p162 q162
              obtain rfl : ad161 = ad162 := (by injection e162)
              replace p162 := eq_true p162
              replace q162 := eq_true q162
              go_wp2
              go_ret
              exact ⟨_, by first | rfl | (simp [errW_none, errW_some] <;> rfl) | (simp [*, errW_none, errW_some] <;> rfl), by (with_reducible repeat (first | apply Kd.R_alloc | apply Kd.R_drewN | apply Kd.R_drew)); exact HO_0.out, by repeat (first | (with_reducible first | exact HB.out | apply below_alloc | apply pw_below_drewN | apply below_drew1) | exact HB.out), by repeat (first | (with_reducible first | exact HK.out | apply Kept.alloc | apply Kept.drewN | apply Kept.drew) | exact HK.out)⟩
            · rw [if_neg c7] at H
              have c7b0 : ((rd l0 x5_1) == a1) = false := beq_eq_false_iff_ne.mpr c7
              have c7b1 : ((rd l0 x5_1) != a1) = true := bne_iff_ne.mpr c7
              obtain ⟨y163, hy163⟩ : ∃ y_ : List Int, y_ = (([] : List Int)) := ⟨_, rfl⟩
              replace H : (if x5_1 ≤ (l0.length : Int) then ((some (l0.take (x5_1 : Int).toNat : List Int)).bind fun y166 => (if y163.length + y166.length < 17592186044416 then ((some (y163 ++ y166 : List Int)).bind fun y170 => (if y170.length < 17592186044416 then ((some (y170 ++ [a1] : List Int)).bind fun y173 => ((some (l0.drop (x5_1 : Int).toNat : List Int)).bind fun y176 => (if y173.length + y176.length < 17592186044416 then (some (y173 ++ y176)) else (none)))) else (none))) else (none))) else (none)) = some r := by first | (rw [hy163]; with_reducible exact H) | (have H2_ := (Option.bind_some _ _).symm.trans H; rw [hy163]; with_reducible exact H2_) | (have H2_ := (Option.bind_some _ _).symm.trans H; with_reducible exact H2_) | with_reducible exact H | (rw [hy163]; exact H) | exact H
              have Ny163 := Aside0.mk hy163
              clear hy163
              have c9b0 := eq_true (of_decide_eq_true (by first | (with_reducible assumption) | assumption) : 0 ≤ x5_1)
              by_cases c10 : x5_1 ≤ (l0.length : Int)
              · rw [if_pos c10] at H
                have c10b0 := eq_true c10
                have c10b1 : decide (x5_1 ≤ (l0.length : Int)) = true := decide_eq_true c10
                clear c10
                obtain ⟨y166, hy166⟩ : ∃ y_ : List Int, y_ = (l0.take (x5_1 : Int).toNat) := ⟨_, rfl⟩
                replace H : (if y163.length + y166.length < 17592186044416 then ((some (y163 ++ y166 : List Int)).bind fun y170 => (if y170.length < 17592186044416 then ((some (y170 ++ [a1] : List Int)).bind fun y173 => ((some (l0.drop (x5_1 : Int).toNat : List Int)).bind fun y176 => (if y173.length + y176.length < 17592186044416 then (some (y173 ++ y176)) else (none)))) else (none))) else (none)) = some r := by first | (rw [hy166]; with_reducible exact H) | (have H2_ := (Option.bind_some _ _).symm.trans H; rw [hy166]; with_reducible exact H2_) | (have H2_ := (Option.bind_some _ _).symm.trans H; with_reducible exact H2_) | with_reducible exact H | (rw [hy166]; exact H) | exact H
                have Ny166 := Aside0.mk hy166
                clear hy166
                by_cases c11 : y163.length + y166.length < 17592186044416
                · rw [if_pos c11] at H
                  have LMc11 := Aside0.mk c11
                  clear c11
                  obtain ⟨y170, hy170⟩ : ∃ y_ : List Int, y_ = (y163 ++ y166) := ⟨_, rfl⟩
                  replace H : (if y170.length < 17592186044416 then ((some (y170 ++ [a1] : List Int)).bind fun y173 => ((some (l0.drop (x5_1 : Int).toNat : List Int)).bind fun y176 => (if y173.length + y176.length < 17592186044416 then (some (y173 ++ y176)) else (none)))) else (none)) = some r := by first | (rw [hy170]; with_reducible exact H) | (have H2_ := (Option.bind_some _ _).symm.trans H; rw [hy170]; with_reducible exact H2_) | (have H2_ := (Option.bind_some _ _).symm.trans H; with_reducible exact H2_) | with_reducible exact H | (rw [hy170]; exact H) | exact H
                  have Ny170 := Aside0.mk hy170
                  clear hy170
                  by_cases c12 : y170.length < 17592186044416
                  · rw [if_pos c12] at H
                    have LMc12 := Aside0.mk c12
                    clear c12
                    obtain ⟨y173, hy173⟩ : ∃ y_ : List Int, y_ = (y170 ++ [a1]) := ⟨_, rfl⟩
                    replace H : ((some (l0.drop (x5_1 : Int).toNat : List Int)).bind fun y176 => (if y173.length + y176.length < 17592186044416 then (some (y173 ++ y176)) else (none))) = some r := by first | (rw [hy173]; with_reducible exact H) | (have H2_ := (Option.bind_some _ _).symm.trans H; rw [hy173]; with_reducible exact H2_) | (have H2_ := (Option.bind_some _ _).symm.trans H; with_reducible exact H2_) | with_reducible exact H | (rw [hy173]; exact H) | exact H
                    have Ny173 := Aside0.mk hy173
                    clear hy173
                    have c13b0 := eq_true (of_decide_eq_true (by first | (with_reducible assumption) | assumption) : 0 ≤ x5_1)
                    have c14b0 := eq_true (of_decide_eq_true (by first | (with_reducible assumption) | assumption) : x5_1 ≤ (l0.length : Int))
                    obtain ⟨y176, hy176⟩ : ∃ y_ : List Int, y_ = (l0.drop (x5_1 : Int).toNat) := ⟨_, rfl⟩
                    replace H : (if y173.length + y176.length < 17592186044416 then (some (y173 ++ y176)) else (none)) = some r := by first | (rw [hy176]; with_reducible exact H) | (have H2_ := (Option.bind_some _ _).symm.trans H; rw [hy176]; with_reducible exact H2_) | (have H2_ := (Option.bind_some _ _).symm.trans H; with_reducible exact H2_) | with_reducible exact H | (rw [hy176]; exact H) | exact H
                    have Ny176 := Aside0.mk hy176
                    clear hy176
                    by_cases c15 : y173.length + y176.length < 17592186044416
                    · rw [if_pos c15] at H
                      have LMc15 := Aside0.mk c15
                      clear c15
                      obtain ⟨y180, hy180⟩ : ∃ y_ : List Int, y_ = (y173 ++ y176) := ⟨_, rfl⟩
                      replace H : (some y180) = some r := by first | (rw [hy180]; with_reducible exact H) | (have H2_ := (Option.bind_some _ _).symm.trans H; rw [hy180]; with_reducible exact H2_) | (have H2_ := (Option.bind_some _ _).symm.trans H; with_reducible exact H2_) | with_reducible exact H | (rw [hy180]; exact H) | exact H
                      have Ny180 := Aside0.mk hy180
                      clear hy180
                      obtain rfl := Option.some.inj H
                      obtain ⟨Ao16, co16, eo16⟩ := Kd.R_slice HO_0.out
                      subst eo16
                      have p161 : 0 ≤ (x5_1 : Int) := of_decide_eq_true (by first | (with_reducible assumption) | assumption)
                      have q161 : x5_1 < (l0.length : Int) := of_decide_eq_true (by first | (with_reducible assumption) | assumption)
                      obtain ⟨ad161, e161, hx161_0⟩ := Kd.at_int (Kd.R_reads' HO_0.out).2.2 x5_1 p161 q161
                      cases e161
                      replace p161 := eq_true p161
                      replace q161 := eq_true q161
                      have p162 : 0 ≤ (x5_1 : Int) := of_decide_eq_true (by first | (with_reducible assumption) | assumption)
                      have q162 : x5_1 < (l0.length : Int) := of_decide_eq_true (by first | (with_reducible assumption) | assumption)
                      obtain ⟨ad162, e162, hx162_0⟩ := Kd.at_int (Kd.R_reads' HO_0.out).2.2 x5_1 p162 q162
                      obtain rfl : ad161 = ad162 := (by injection e162)
                      replace p162 := eq_true p162
                      replace q162 := eq_true q162
                      go_wp2_with (first | ((with_reducible refine gate_dst (N := 34) rfl ?_); refine Kd.R_lit (Kd.int .i64) _ 3 ?hg (N := 34) ?hd (xs := ([] : List Int)) (inner := []) (ok := fun _ => True) (okp := fun _ => True) ?hr ?hp (fun _ hk => hk) trivial (Below.refl _ _) (Nat.le_refl _) (by simp) ?_; (case hd => rfl); (case hg => rfl); (case hr => first | (go_simp; done) | (go_simp; rfl)); (case hp => exact (Reps.none _ _)); intro v164 w17 ho18 hb hg_ hnew_; clear hg_ hnew_; (first | rw [← Ny163.out] at ho18 | (simp only [Int.reduceToNat] at ho18; rw [← Ny163.out] at ho18)); have n0_ := Aside0.mk (Kd.R_elder' (by (with_reducible repeat (first | apply Kd.R_alloc | apply Kd.R_drewN | apply Kd.R_drew)); exact HO_0.out) (Kd.R_base ho18) hb); have n1_ := Aside0.mk (Kd.R_lower (Kd.R_new' (Kd.R_newM (M := fun k_ => (P0_ k_ ∨ w.heap.size ≤ k_)) ho18 (by first | exact HK.out.1 | exact (show Kept w _ (fun k_ => P0_ k_) from by repeat (first | (with_reducible first | exact HK.out | apply Kept.alloc | apply Kept.drewN | apply Kept.drew) | exact HK.out)).1) (fun k_ h_ => .inr h_)) (Kd.R_lt (by (with_reducible repeat (first | apply Kd.R_alloc | apply Kd.R_drewN | apply Kd.R_drew)); exact HO_0.out))) (below_size (by repeat (first | (with_reducible first | exact HB.out | apply below_alloc | apply pw_below_drewN | apply below_drew1) | exact HB.out)))); have n2_ := Aside0.mk (Kept.below (S := (fun k_ => P0_ k_)) (by repeat (first | (with_reducible first | exact HK.out | apply Kept.alloc | apply Kept.drewN | apply Kept.drew) | exact HK.out)) hb); have n3_ := Aside0.mk (below_step (by repeat (first | (with_reducible first | exact HB.out | apply below_alloc | apply pw_below_drewN | apply below_drew1) | exact HB.out)) hb); clear HO_0; clear HK; clear HB; have HO_0 := n0_; have HO165 := n1_; have HK := n2_; have HB := n3_; clear n0_ n1_ n2_ n3_; clear hb ho18; have q19 : (x5_1 : Int) ≤ ((l0.length : Int) : Int) := of_decide_eq_true (by first | (with_reducible assumption) | assumption); obtain ⟨i019, hi019, _, hsz19, _⟩ := info_parts info3; have hroom19 : l0.length ≤ co16 := (Kd.R_reads' HO_0.out).2.1; have hC19 : Kd.C (Kd.int .i64) _ (some ad161) l0.length l0 := (Kd.R_reads' HO_0.out).2.2; have hcut19 := cut_to (P := Try.prog) 22 3 .i64 Try.underlying22 hi019 (some ad161) l0.length co16 x5_1 (of_decide_eq_true (by first | (with_reducible assumption) | assumption)) q19 hroom19; have hr19 := Kd.C_take (m := (x5_1 : Int).toNat) hC19 (by omega); have hy19 : y166.length = (x5_1 : Int).toNat := (by rw [Ny166.out, List.length_take]; omega); rw [← Ny166.out] at hr19; rw [← hy19] at hcut19; have HR169 := Aside0.mk hr19; have HC169 := Aside0.mk (show y166.length ≤ co16 from by omega); clear hr19 hC19 hroom19 hi019 hsz19; have KY19 := Aside0.mk hy19; clear hy19; have KL19 := Aside0.mk (show (x5_1 : Int).toNat ≤ l0.length from by omega); replace q19 := eq_true q19) | ((with_reducible refine gate_builtin (b := .append) (xs := #[.tmp 34, .tmp 37]) rfl ?_); at_builtin; refine Kd.R_append_rows (Kd.int .i64) (w0 := w0) w0.heap.size rfl (.tmp 34) (.tmp 37) 22 3 (.int .i64 0) 8 rfl Try.underlying22 info3 rfl (by decide) (by omega) v164 y163 y166 _ _ _ (fun k_ => (P0_ k_ ∨ w.heap.size ≤ k_) ∧ some k_ ≠ (.slice (some ad161) l0.length co16 : Value).ownBlock) (fun _ => False) rfl rfl ?aO ?aR (fun _ _ h => h) (fun _ h => h.elim) ?aF ?aB ?aS ?aL ?_; (case aR => repeat (first | exact (by repeat (first | (with_reducible exact HR169.out) | (with_reducible refine Kd.C_alloc ?_ _) | (with_reducible refine Kd.C_drewN ?_ _) | (with_reducible refine Kd.C_drew ?_) | exact HR169.out)) | (with_reducible refine Kd.C_alloc ?_ _) | (with_reducible refine Kd.C_drewN ?_ _) | (with_reducible refine Kd.C_drew ?_))); (case aB => exact (by repeat (first | (with_reducible first | exact HB.out | apply below_alloc | apply pw_below_drewN | apply below_drew1) | exact HB.out))); (case aF => exact (fun k_ hk => ⟨(.inr (Nat.le_trans (by first | exact HK.out.1 | exact (show Kept w _ (fun k_ => P0_ k_) from by repeat (first | (with_reducible first | exact HK.out | apply Kept.alloc | apply Kept.drewN | apply Kept.drew) | exact HK.out)).1) hk)), Kd.fresh' (Kd.R_lt (by (with_reducible repeat (first | apply Kd.R_alloc | apply Kd.R_drewN | apply Kd.R_drew)); exact HO_0.out)) k_ hk⟩)); (case aO => exact (by (with_reducible repeat (first | apply Kd.R_alloc | apply Kd.R_drewN | apply Kd.R_drew)); exact Kd.R_mono HO165.out (fun _ hk => ⟨hk.1.1, hk.2⟩))); (case aS => exact (below_size (by repeat (first | (with_reducible first | exact HB.out | apply below_alloc | apply pw_below_drewN | apply below_drew1) | exact HB.out)))); (case aL => have := LMc11.out; omega); intro v171 w20 ho hb hg hat; rw [← Ny170.out] at ho; have n0_ := Aside0.mk (Kd.R_after (ok := (fun k_ => (P0_ k_ ∨ w.heap.size ≤ k_))) (by (with_reducible repeat (first | apply Kd.R_alloc | apply Kd.R_drewN | apply Kd.R_drew)); exact HO_0.out) hg hat); have n1_ := Aside0.mk (hb); have n2_ := Aside0.mk (Kept.of_grown (S := (fun k_ => P0_ k_)) hg (by repeat (first | (with_reducible first | exact HK.out | apply Kept.alloc | apply Kept.drewN | apply Kept.drew) | exact HK.out)) (fun k_ e_ => (HO165.out.1 k_ e_).1.1)); have n3_ := Aside0.mk ((show Kd.C (Kd.int .i64) w20 (some ad161) y166.length y166 from by rw [Ny166.out]; exact Kd.C_take (m := (x5_1 : Int).toNat) ((Kd.R_reads' (Kd.R_after (ok := (fun k_ => (P0_ k_ ∨ w.heap.size ≤ k_))) (by (with_reducible repeat (first | apply Kd.R_alloc | apply Kd.R_drewN | apply Kd.R_drew)); exact HO_0.out) hg hat)).2.2) KL19.out)); have n4_ := Aside0.mk (ho); clear HO_0; clear HB; clear HK; clear HR169; clear HO165; have HO_0 := n0_; have HB := n1_; have HK := n2_; have HR169 := n3_; have HO172 := n4_; clear n0_ n1_ n2_ n3_ n4_; clear ho hb hg hat) | ((with_reducible refine gate_builtin (b := .append) (xs := #[.tmp 39, .tmp 41]) rfl ?_); at_builtin; refine Kd.R_append (Kd.int .i64) (w0 := w0) w0.heap.size rfl (.tmp 39) (.tmp 41) 22 3 (.int .i64 0) 8 rfl Try.underlying22 info3 rfl (by decide) (by omega) v171 y170 a1 [.int .i64 a1] (fun k_ => (P0_ k_ ∨ w.heap.size ≤ k_) ∧ some k_ ≠ (.slice (some ad161) l0.length co16 : Value).ownBlock) (fun _ => False) rfl rfl ?aP (fun _ hk => hk.elim) ?aF ?aO ?aB ?aS ?aL ?_; (case aP => exact rfl); (case aB => exact (by repeat (first | (with_reducible first | exact HB.out | apply below_alloc | apply pw_below_drewN | apply below_drew1) | exact HB.out))); (case aF => exact (fun k_ hk => ⟨(.inr (Nat.le_trans (by first | exact HK.out.1 | exact (show Kept w _ (fun k_ => P0_ k_) from by repeat (first | (with_reducible first | exact HK.out | apply Kept.alloc | apply Kept.drewN | apply Kept.drew) | exact HK.out)).1) hk)), Kd.fresh' (Kd.R_lt (by (with_reducible repeat (first | apply Kd.R_alloc | apply Kd.R_drewN | apply Kd.R_drew)); exact HO_0.out)) k_ hk⟩)); (case aO => exact (by (with_reducible repeat (first | apply Kd.R_alloc | apply Kd.R_drewN | apply Kd.R_drew)); exact HO172.out)); (case aS => exact (below_size (by repeat (first | (with_reducible first | exact HB.out | apply below_alloc | apply pw_below_drewN | apply below_drew1) | exact HB.out)))); (case aL => have := LMc12.out; omega); intro v174 w21 ho hb hg hat; rw [← Ny173.out] at ho; have n0_ := Aside0.mk (Kd.R_after (ok := (fun k_ => (P0_ k_ ∨ w.heap.size ≤ k_))) (by (with_reducible repeat (first | apply Kd.R_alloc | apply Kd.R_drewN | apply Kd.R_drew)); exact HO_0.out) hg hat); have n1_ := Aside0.mk (hb); have n2_ := Aside0.mk (Kept.of_grown (S := (fun k_ => P0_ k_)) hg (by repeat (first | (with_reducible first | exact HK.out | apply Kept.alloc | apply Kept.drewN | apply Kept.drew) | exact HK.out)) (fun k_ e_ => (HO172.out.1 k_ e_).1)); have n3_ := Aside0.mk ((show Kd.C (Kd.int .i64) w21 (some ad161) y166.length y166 from by rw [Ny166.out]; exact Kd.C_take (m := (x5_1 : Int).toNat) ((Kd.R_reads' (Kd.R_after (ok := (fun k_ => (P0_ k_ ∨ w.heap.size ≤ k_))) (by (with_reducible repeat (first | apply Kd.R_alloc | apply Kd.R_drewN | apply Kd.R_drew)); exact HO_0.out) hg hat)).2.2) KL19.out)); have n4_ := Aside0.mk (ho); clear HO_0; clear HB; clear HK; clear HR169; clear HO172; have HO_0 := n0_; have HB := n1_; have HK := n2_; have HR169 := n3_; have HO175 := n4_; clear n0_ n1_ n2_ n3_ n4_; clear ho hb hg hat; have q22 : (x5_1 : Int) ≤ ((l0.length : Int) : Int) := of_decide_eq_true (by first | (with_reducible assumption) | assumption); obtain ⟨i022, hi022, _, hsz22, _⟩ := info_parts info3; have hroom22 : l0.length ≤ co16 := (Kd.R_reads' HO_0.out).2.1; have hC22 : Kd.C (Kd.int .i64) _ (some ad161) l0.length l0 := (Kd.R_reads' HO_0.out).2.2; have q022 : (0 : Int) ≤ (x5_1 : Int) := of_decide_eq_true (by first | (with_reducible assumption) | assumption); have hcut22 := cut_from (P := Try.prog) 22 3 .i64 Try.underlying22 hi022 1 hsz22 (some ad161) l0.length co16 x5_1 q022 q22; have hr22 := Kd.C_drop (m := (x5_1 : Int).toNat) (c := co16) hC22 (by omega) hroom22; obtain ⟨A22, hA22⟩ : ∃ A1, A1 = (if co16 = (x5_1 : Int).toNat then (some ad161) else ((some ad161) : Option Addr).map (·.add ((x5_1 : Int).toNat * 1))) := ⟨_, rfl⟩; obtain ⟨c22, hc22⟩ : ∃ c1, c1 = co16 - (x5_1 : Int).toNat := ⟨_, rfl⟩; have hy22 : y176.length = l0.length - (x5_1 : Int).toNat := (by rw [Ny176.out, List.length_drop] <;> omega); rw [show (l0).drop (x5_1 : Int).toNat = y176 from Ny176.out.symm] at hr22; replace hr22 : Kd.C (Kd.int .i64) _ A22 y176.length y176 := (by rw [hA22]; exact hr22); rw [← hy22, ← hA22, ← hc22] at hcut22; have HR179 := Aside0.mk hr22; have HC179 := Aside0.mk (show y176.length ≤ c22 from by rw [hy22, hc22]; exact Nat.sub_le_sub_right hroom22 _); clear hr22 hC22 hroom22 hi022 hsz22 hc22; have KY22 := Aside0.mk hy22; have KA22 := Aside0.mk hA22; clear hy22 hA22; have KL22 := Aside0.mk (show (x5_1 : Int).toNat ≤ l0.length from by omega); replace q22 := eq_true q22) | ((with_reducible refine gate_builtin (b := .append) (xs := #[.tmp 43, .tmp 46]) rfl ?_); at_builtin; refine Kd.R_append_rows (Kd.int .i64) (w0 := w0) w0.heap.size rfl (.tmp 43) (.tmp 46) 22 3 (.int .i64 0) 8 rfl Try.underlying22 info3 rfl (by decide) (by omega) v174 y173 y176 _ _ _ (fun k_ => (P0_ k_ ∨ w.heap.size ≤ k_) ∧ some k_ ≠ (.slice (some ad161) l0.length co16 : Value).ownBlock) (fun _ => False) rfl rfl ?aO ?aR (fun _ _ h => h) (fun _ h => h.elim) ?aF ?aB ?aS ?aL ?_; (case aR => repeat (first | exact (by repeat (first | (with_reducible exact HR179.out) | (with_reducible refine Kd.C_alloc ?_ _) | (with_reducible refine Kd.C_drewN ?_ _) | (with_reducible refine Kd.C_drew ?_) | exact HR179.out)) | (with_reducible refine Kd.C_alloc ?_ _) | (with_reducible refine Kd.C_drewN ?_ _) | (with_reducible refine Kd.C_drew ?_))); (case aB => exact (by repeat (first | (with_reducible first | exact HB.out | apply below_alloc | apply pw_below_drewN | apply below_drew1) | exact HB.out))); (case aF => exact (fun k_ hk => ⟨(.inr (Nat.le_trans (by first | exact HK.out.1 | exact (show Kept w _ (fun k_ => P0_ k_) from by repeat (first | (with_reducible first | exact HK.out | apply Kept.alloc | apply Kept.drewN | apply Kept.drew) | exact HK.out)).1) hk)), Kd.fresh' (Kd.R_lt (by (with_reducible repeat (first | apply Kd.R_alloc | apply Kd.R_drewN | apply Kd.R_drew)); exact HO_0.out)) k_ hk⟩)); (case aO => exact (by (with_reducible repeat (first | apply Kd.R_alloc | apply Kd.R_drewN | apply Kd.R_drew)); exact HO175.out)); (case aS => exact (below_size (by repeat (first | (with_reducible first | exact HB.out | apply below_alloc | apply pw_below_drewN | apply below_drew1) | exact HB.out)))); (case aL => have := LMc15.out; omega); intro v181 w23 ho hb hg hat; rw [← Ny180.out] at ho; have n0_ := Aside0.mk (Kd.R_after (ok := (fun k_ => (P0_ k_ ∨ w.heap.size ≤ k_))) (by (with_reducible repeat (first | apply Kd.R_alloc | apply Kd.R_drewN | apply Kd.R_drew)); exact HO_0.out) hg hat); have n1_ := Aside0.mk (hb); have n2_ := Aside0.mk (Kept.of_grown (S := (fun k_ => P0_ k_)) hg (by repeat (first | (with_reducible first | exact HK.out | apply Kept.alloc | apply Kept.drewN | apply Kept.drew) | exact HK.out)) (fun k_ e_ => (HO175.out.1 k_ e_).1)); have n3_ := Aside0.mk ((show Kd.C (Kd.int .i64) w23 (some ad161) y166.length y166 from by rw [Ny166.out]; exact Kd.C_take (m := (x5_1 : Int).toNat) ((Kd.R_reads' (Kd.R_after (ok := (fun k_ => (P0_ k_ ∨ w.heap.size ≤ k_))) (by (with_reducible repeat (first | apply Kd.R_alloc | apply Kd.R_drewN | apply Kd.R_drew)); exact HO_0.out) hg hat)).2.2) KL19.out)); have n4_ := Aside0.mk ((show Kd.C (Kd.int .i64) w23 A22 y176.length y176 from by rw [Ny176.out, KA22.out]; exact Kd.C_drop (m := (x5_1 : Int).toNat) (c := co16) ((Kd.R_reads' (Kd.R_after (ok := (fun k_ => (P0_ k_ ∨ w.heap.size ≤ k_))) (by (with_reducible repeat (first | apply Kd.R_alloc | apply Kd.R_drewN | apply Kd.R_drew)); exact HO_0.out) hg hat)).2.2) KL22.out ((Kd.R_reads' (Kd.R_after (ok := (fun k_ => (P0_ k_ ∨ w.heap.size ≤ k_))) (by (with_reducible repeat (first | apply Kd.R_alloc | apply Kd.R_drewN | apply Kd.R_drew)); exact HO_0.out) hg hat)).2.1))); have n5_ := Aside0.mk (ho); clear HO_0; clear HB; clear HK; clear HR169; clear HR179; clear HO175; have HO_0 := n0_; have HB := n1_; have HK := n2_; have HR169 := n3_; have HR179 := n4_; have HO182 := n5_; clear n0_ n1_ n2_ n3_ n4_ n5_; clear ho hb hg hat))
                      go_ret
                      exact ⟨_, by first | rfl | (simp [errW_none, errW_some] <;> rfl) | (simp [*, errW_none, errW_some] <;> rfl), by (with_reducible repeat (first | apply Kd.R_alloc | apply Kd.R_drewN | apply Kd.R_drew)); exact Kd.R_mono HO182.out (fun _ hk => hk.1), by repeat (first | (with_reducible first | exact HB.out | apply below_alloc | apply pw_below_drewN | apply below_drew1) | exact HB.out), by repeat (first | (with_reducible first | exact HK.out | apply Kept.alloc | apply Kept.drewN | apply Kept.drew) | exact HK.out)⟩
                    · rw [if_neg c15] at H
                      exact absurd H (by simp)
                  · rw [if_neg c12] at H
                    exact absurd H (by simp)
                · rw [if_neg c11] at H
                  exact absurd H (by simp)
              · rw [if_neg c10] at H
                exact absurd H (by simp)
        · rw [if_neg c4] at H
          exact absurd H (by simp)
      · rw [if_neg c3] at H
        have c3b0 : decide (x5_1 < (l0.length : Int)) = false := decide_eq_false c3
        clear c3
        obtain ⟨y183, hy183⟩ : ∃ y_ : List Int, y_ = (([] : List Int)) := ⟨_, rfl⟩
        replace H : (if 0 ≤ x5_1 then (if x5_1 ≤ (l0.length : Int) then ((some (l0.take (x5_1 : Int).toNat : List Int)).bind fun y186 => (if y183.length + y186.length < 17592186044416 then ((some (y183 ++ y186 : List Int)).bind fun y190 => (if y190.length < 17592186044416 then ((some (y190 ++ [a1] : List Int)).bind fun y193 => ((some (l0.drop (x5_1 : Int).toNat : List Int)).bind fun y196 => (if y193.length + y196.length < 17592186044416 then (some (y193 ++ y196)) else (none)))) else (none))) else (none))) else (none)) else (none)) = some r := by first | (rw [hy183]; with_reducible exact H) | (have H2_ := (Option.bind_some _ _).symm.trans H; rw [hy183]; with_reducible exact H2_) | (have H2_ := (Option.bind_some _ _).symm.trans H; with_reducible exact H2_) | with_reducible exact H | (rw [hy183]; exact H) | exact H
        have Ny183 := Aside0.mk hy183
        clear hy183
        by_cases c24 : 0 ≤ x5_1
        · rw [if_pos c24] at H
          have c24b0 := eq_true c24
          have c24b1 : decide (0 ≤ x5_1) = true := decide_eq_true c24
          clear c24
          by_cases c25 : x5_1 ≤ (l0.length : Int)
          · rw [if_pos c25] at H
            have c25b0 := eq_true c25
            have c25b1 : decide (x5_1 ≤ (l0.length : Int)) = true := decide_eq_true c25
            clear c25
            obtain ⟨y186, hy186⟩ : ∃ y_ : List Int, y_ = (l0.take (x5_1 : Int).toNat) := ⟨_, rfl⟩
            replace H : (if y183.length + y186.length < 17592186044416 then ((some (y183 ++ y186 : List Int)).bind fun y190 => (if y190.length < 17592186044416 then ((some (y190 ++ [a1] : List Int)).bind fun y193 => ((some (l0.drop (x5_1 : Int).toNat : List Int)).bind fun y196 => (if y193.length + y196.length < 17592186044416 then (some (y193 ++ y196)) else (none)))) else (none))) else (none)) = some r := by first | (rw [hy186]; with_reducible exact H) | (have H2_ := (Option.bind_some _ _).symm.trans H; rw [hy186]; with_reducible exact H2_) | (have H2_ := (Option.bind_some _ _).symm.trans H; with_reducible exact H2_) | with_reducible exact H | (rw [hy186]; exact H) | exact H
            have Ny186 := Aside0.mk hy186
            clear hy186
            by_cases c26 : y183.length + y186.length < 17592186044416
            · rw [if_pos c26] at H
              have LMc26 := Aside0.mk c26
              clear c26
              obtain ⟨y190, hy190⟩ : ∃ y_ : List Int, y_ = (y183 ++ y186) := ⟨_, rfl⟩
              replace H : (if y190.length < 17592186044416 then ((some (y190 ++ [a1] : List Int)).bind fun y193 => ((some (l0.drop (x5_1 : Int).toNat : List Int)).bind fun y196 => (if y193.length + y196.length < 17592186044416 then (some (y193 ++ y196)) else (none)))) else (none)) = some r := by first | (rw [hy190]; with_reducible exact H) | (have H2_ := (Option.bind_some _ _).symm.trans H; rw [hy190]; with_reducible exact H2_) | (have H2_ := (Option.bind_some _ _).symm.trans H; with_reducible exact H2_) | with_reducible exact H | (rw [hy190]; exact H) | exact H
              have Ny190 := Aside0.mk hy190
              clear hy190
              by_cases c27 : y190.length < 17592186044416
              · rw [if_pos c27] at H
                have LMc27 := Aside0.mk c27
                clear c27
                obtain ⟨y193, hy193⟩ : ∃ y_ : List Int, y_ = (y190 ++ [a1]) := ⟨_, rfl⟩
                replace H : ((some (l0.drop (x5_1 : Int).toNat : List Int)).bind fun y196 => (if y193.length + y196.length < 17592186044416 then (some (y193 ++ y196)) else (none))) = some r := by first | (rw [hy193]; with_reducible exact H) | (have H2_ := (Option.bind_some _ _).symm.trans H; rw [hy193]; with_reducible exact H2_) | (have H2_ := (Option.bind_some _ _).symm.trans H; with_reducible exact H2_) | with_reducible exact H | (rw [hy193]; exact H) | exact H
                have Ny193 := Aside0.mk hy193
                clear hy193
                have c28b0 := eq_true (of_decide_eq_true (by first | (with_reducible assumption) | assumption) : 0 ≤ x5_1)
                have c29b0 := eq_true (of_decide_eq_true (by first | (with_reducible assumption) | assumption) : x5_1 ≤ (l0.length : Int))
                obtain ⟨y196, hy196⟩ : ∃ y_ : List Int, y_ = (l0.drop (x5_1 : Int).toNat) := ⟨_, rfl⟩
                replace H : (if y193.length + y196.length < 17592186044416 then (some (y193 ++ y196)) else (none)) = some r := by first | (rw [hy196]; with_reducible exact H) | (have H2_ := (Option.bind_some _ _).symm.trans H; rw [hy196]; with_reducible exact H2_) | (have H2_ := (Option.bind_some _ _).symm.trans H; with_reducible exact H2_) | with_reducible exact H | (rw [hy196]; exact H) | exact H
                have Ny196 := Aside0.mk hy196
                clear hy196
                by_cases c30 : y193.length + y196.length < 17592186044416
                · rw [if_pos c30] at H
                  have LMc30 := Aside0.mk c30
                  clear c30
                  obtain ⟨y200, hy200⟩ : ∃ y_ : List Int, y_ = (y193 ++ y196) := ⟨_, rfl⟩
                  replace H : (some y200) = some r := by first | (rw [hy200]; with_reducible exact H) | (have H2_ := (Option.bind_some _ _).symm.trans H; rw [hy200]; with_reducible exact H2_) | (have H2_ := (Option.bind_some _ _).symm.trans H; with_reducible exact H2_) | with_reducible exact H | (rw [hy200]; exact H) | exact H
                  have Ny200 := Aside0.mk hy200
                  clear hy200
                  obtain rfl := Option.some.inj H
                  obtain ⟨Ao31, co31, eo31⟩ := Kd.R_slice HO_0.out
                  subst eo31
                  go_wp2_with (first | ((with_reducible refine gate_dst (N := 34) rfl ?_); refine Kd.R_lit (Kd.int .i64) _ 3 ?hg (N := 34) ?hd (xs := ([] : List Int)) (inner := []) (ok := fun _ => True) (okp := fun _ => True) ?hr ?hp (fun _ hk => hk) trivial (Below.refl _ _) (Nat.le_refl _) (by simp) ?_; (case hd => rfl); (case hg => rfl); (case hr => first | (go_simp; done) | (go_simp; rfl)); (case hp => exact (Reps.none _ _)); intro v184 w32 ho33 hb hg_ hnew_; clear hg_ hnew_; (first | rw [← Ny183.out] at ho33 | (simp only [Int.reduceToNat] at ho33; rw [← Ny183.out] at ho33)); have n0_ := Aside0.mk (Kd.R_elder' (by (with_reducible repeat (first | apply Kd.R_alloc | apply Kd.R_drewN | apply Kd.R_drew)); exact HO_0.out) (Kd.R_base ho33) hb); have n1_ := Aside0.mk (Kd.R_lower (Kd.R_new' (Kd.R_newM (M := fun k_ => (P0_ k_ ∨ w.heap.size ≤ k_)) ho33 (by first | exact HK.out.1 | exact (show Kept w _ (fun k_ => P0_ k_) from by repeat (first | (with_reducible first | exact HK.out | apply Kept.alloc | apply Kept.drewN | apply Kept.drew) | exact HK.out)).1) (fun k_ h_ => .inr h_)) (Kd.R_lt (by (with_reducible repeat (first | apply Kd.R_alloc | apply Kd.R_drewN | apply Kd.R_drew)); exact HO_0.out))) (below_size (by repeat (first | (with_reducible first | exact HB.out | apply below_alloc | apply pw_below_drewN | apply below_drew1) | exact HB.out)))); have n2_ := Aside0.mk (Kept.below (S := (fun k_ => P0_ k_)) (by repeat (first | (with_reducible first | exact HK.out | apply Kept.alloc | apply Kept.drewN | apply Kept.drew) | exact HK.out)) hb); have n3_ := Aside0.mk (below_step (by repeat (first | (with_reducible first | exact HB.out | apply below_alloc | apply pw_below_drewN | apply below_drew1) | exact HB.out)) hb); clear HO_0; clear HK; clear HB; have HO_0 := n0_; have HO185 := n1_; have HK := n2_; have HB := n3_; clear n0_ n1_ n2_ n3_; clear hb ho33; have q34 : (x5_1 : Int) ≤ ((l0.length : Int) : Int) := of_decide_eq_true (by first | (with_reducible assumption) | assumption); obtain ⟨i034, hi034, _, hsz34, _⟩ := info_parts info3; have hroom34 : l0.length ≤ co31 := (Kd.R_reads' HO_0.out).2.1; have hC34 : Kd.C (Kd.int .i64) _ Ao31 l0.length l0 := (Kd.R_reads' HO_0.out).2.2; have hcut34 := cut_to (P := Try.prog) 22 3 .i64 Try.underlying22 hi034 Ao31 l0.length co31 x5_1 (of_decide_eq_true (by first | (with_reducible assumption) | assumption)) q34 hroom34; have hr34 := Kd.C_take (m := (x5_1 : Int).toNat) hC34 (by omega); have hy34 : y186.length = (x5_1 : Int).toNat := (by rw [Ny186.out, List.length_take]; omega); rw [← Ny186.out] at hr34; rw [← hy34] at hcut34; have HR189 := Aside0.mk hr34; have HC189 := Aside0.mk (show y186.length ≤ co31 from by omega); clear hr34 hC34 hroom34 hi034 hsz34; have KY34 := Aside0.mk hy34; clear hy34; have KL34 := Aside0.mk (show (x5_1 : Int).toNat ≤ l0.length from by omega); replace q34 := eq_true q34) | ((with_reducible refine gate_builtin (b := .append) (xs := #[.tmp 34, .tmp 37]) rfl ?_); at_builtin; refine Kd.R_append_rows (Kd.int .i64) (w0 := w0) w0.heap.size rfl (.tmp 34) (.tmp 37) 22 3 (.int .i64 0) 8 rfl Try.underlying22 info3 rfl (by decide) (by omega) v184 y183 y186 _ _ _ (fun k_ => (P0_ k_ ∨ w.heap.size ≤ k_) ∧ some k_ ≠ (.slice Ao31 l0.length co31 : Value).ownBlock) (fun _ => False) rfl rfl ?aO ?aR (fun _ _ h => h) (fun _ h => h.elim) ?aF ?aB ?aS ?aL ?_; (case aR => repeat (first | exact (by repeat (first | (with_reducible exact HR189.out) | (with_reducible refine Kd.C_alloc ?_ _) | (with_reducible refine Kd.C_drewN ?_ _) | (with_reducible refine Kd.C_drew ?_) | exact HR189.out)) | (with_reducible refine Kd.C_alloc ?_ _) | (with_reducible refine Kd.C_drewN ?_ _) | (with_reducible refine Kd.C_drew ?_))); (case aB => exact (by repeat (first | (with_reducible first | exact HB.out | apply below_alloc | apply pw_below_drewN | apply below_drew1) | exact HB.out))); (case aF => exact (fun k_ hk => ⟨(.inr (Nat.le_trans (by first | exact HK.out.1 | exact (show Kept w _ (fun k_ => P0_ k_) from by repeat (first | (with_reducible first | exact HK.out | apply Kept.alloc | apply Kept.drewN | apply Kept.drew) | exact HK.out)).1) hk)), Kd.fresh' (Kd.R_lt (by (with_reducible repeat (first | apply Kd.R_alloc | apply Kd.R_drewN | apply Kd.R_drew)); exact HO_0.out)) k_ hk⟩)); (case aO => exact (by (with_reducible repeat (first | apply Kd.R_alloc | apply Kd.R_drewN | apply Kd.R_drew)); exact Kd.R_mono HO185.out (fun _ hk => ⟨hk.1.1, hk.2⟩))); (case aS => exact (below_size (by repeat (first | (with_reducible first | exact HB.out | apply below_alloc | apply pw_below_drewN | apply below_drew1) | exact HB.out)))); (case aL => have := LMc26.out; omega); intro v191 w35 ho hb hg hat; rw [← Ny190.out] at ho; have n0_ := Aside0.mk (Kd.R_after (ok := (fun k_ => (P0_ k_ ∨ w.heap.size ≤ k_))) (by (with_reducible repeat (first | apply Kd.R_alloc | apply Kd.R_drewN | apply Kd.R_drew)); exact HO_0.out) hg hat); have n1_ := Aside0.mk (hb); have n2_ := Aside0.mk (Kept.of_grown (S := (fun k_ => P0_ k_)) hg (by repeat (first | (with_reducible first | exact HK.out | apply Kept.alloc | apply Kept.drewN | apply Kept.drew) | exact HK.out)) (fun k_ e_ => (HO185.out.1 k_ e_).1.1)); have n3_ := Aside0.mk ((show Kd.C (Kd.int .i64) w35 Ao31 y186.length y186 from by rw [Ny186.out]; exact Kd.C_take (m := (x5_1 : Int).toNat) ((Kd.R_reads' (Kd.R_after (ok := (fun k_ => (P0_ k_ ∨ w.heap.size ≤ k_))) (by (with_reducible repeat (first | apply Kd.R_alloc | apply Kd.R_drewN | apply Kd.R_drew)); exact HO_0.out) hg hat)).2.2) KL34.out)); have n4_ := Aside0.mk (ho); clear HO_0; clear HB; clear HK; clear HR189; clear HO185; have HO_0 := n0_; have HB := n1_; have HK := n2_; have HR189 := n3_; have HO192 := n4_; clear n0_ n1_ n2_ n3_ n4_; clear ho hb hg hat) | ((with_reducible refine gate_builtin (b := .append) (xs := #[.tmp 39, .tmp 41]) rfl ?_); at_builtin; refine Kd.R_append (Kd.int .i64) (w0 := w0) w0.heap.size rfl (.tmp 39) (.tmp 41) 22 3 (.int .i64 0) 8 rfl Try.underlying22 info3 rfl (by decide) (by omega) v191 y190 a1 [.int .i64 a1] (fun k_ => (P0_ k_ ∨ w.heap.size ≤ k_) ∧ some k_ ≠ (.slice Ao31 l0.length co31 : Value).ownBlock) (fun _ => False) rfl rfl ?aP (fun _ hk => hk.elim) ?aF ?aO ?aB ?aS ?aL ?_; (case aP => exact rfl); (case aB => exact (by repeat (first | (with_reducible first | exact HB.out | apply below_alloc | apply pw_below_drewN | apply below_drew1) | exact HB.out))); (case aF => exact (fun k_ hk => ⟨(.inr (Nat.le_trans (by first | exact HK.out.1 | exact (show Kept w _ (fun k_ => P0_ k_) from by repeat (first | (with_reducible first | exact HK.out | apply Kept.alloc | apply Kept.drewN | apply Kept.drew) | exact HK.out)).1) hk)), Kd.fresh' (Kd.R_lt (by (with_reducible repeat (first | apply Kd.R_alloc | apply Kd.R_drewN | apply Kd.R_drew)); exact HO_0.out)) k_ hk⟩)); (case aO => exact (by (with_reducible repeat (first | apply Kd.R_alloc | apply Kd.R_drewN | apply Kd.R_drew)); exact HO192.out)); (case aS => exact (below_size (by repeat (first | (with_reducible first | exact HB.out | apply below_alloc | apply pw_below_drewN | apply below_drew1) | exact HB.out)))); (case aL => have := LMc27.out; omega); intro v194 w36 ho hb hg hat; rw [← Ny193.out] at ho; have n0_ := Aside0.mk (Kd.R_after (ok := (fun k_ => (P0_ k_ ∨ w.heap.size ≤ k_))) (by (with_reducible repeat (first | apply Kd.R_alloc | apply Kd.R_drewN | apply Kd.R_drew)); exact HO_0.out) hg hat); have n1_ := Aside0.mk (hb); have n2_ := Aside0.mk (Kept.of_grown (S := (fun k_ => P0_ k_)) hg (by repeat (first | (with_reducible first | exact HK.out | apply Kept.alloc | apply Kept.drewN | apply Kept.drew) | exact HK.out)) (fun k_ e_ => (HO192.out.1 k_ e_).1)); have n3_ := Aside0.mk ((show Kd.C (Kd.int .i64) w36 Ao31 y186.length y186 from by rw [Ny186.out]; exact Kd.C_take (m := (x5_1 : Int).toNat) ((Kd.R_reads' (Kd.R_after (ok := (fun k_ => (P0_ k_ ∨ w.heap.size ≤ k_))) (by (with_reducible repeat (first | apply Kd.R_alloc | apply Kd.R_drewN | apply Kd.R_drew)); exact HO_0.out) hg hat)).2.2) KL34.out)); have n4_ := Aside0.mk (ho); clear HO_0; clear HB; clear HK; clear HR189; clear HO192; have HO_0 := n0_; have HB := n1_; have HK := n2_; have HR189 := n3_; have HO195 := n4_; clear n0_ n1_ n2_ n3_ n4_; clear ho hb hg hat; have q37 : (x5_1 : Int) ≤ ((l0.length : Int) : Int) := of_decide_eq_true (by first | (with_reducible assumption) | assumption); obtain ⟨i037, hi037, _, hsz37, _⟩ := info_parts info3; have hroom37 : l0.length ≤ co31 := (Kd.R_reads' HO_0.out).2.1; have hC37 : Kd.C (Kd.int .i64) _ Ao31 l0.length l0 := (Kd.R_reads' HO_0.out).2.2; have q037 : (0 : Int) ≤ (x5_1 : Int) := of_decide_eq_true (by first | (with_reducible assumption) | assumption); have hcut37 := cut_from (P := Try.prog) 22 3 .i64 Try.underlying22 hi037 1 hsz37 Ao31 l0.length co31 x5_1 q037 q37; have hr37 := Kd.C_drop (m := (x5_1 : Int).toNat) (c := co31) hC37 (by omega) hroom37; obtain ⟨A37, hA37⟩ : ∃ A1, A1 = (if co31 = (x5_1 : Int).toNat then Ao31 else (Ao31 : Option Addr).map (·.add ((x5_1 : Int).toNat * 1))) := ⟨_, rfl⟩; obtain ⟨c37, hc37⟩ : ∃ c1, c1 = co31 - (x5_1 : Int).toNat := ⟨_, rfl⟩; have hy37 : y196.length = l0.length - (x5_1 : Int).toNat := (by rw [Ny196.out, List.length_drop] <;> omega); rw [show (l0).drop (x5_1 : Int).toNat = y196 from Ny196.out.symm] at hr37; replace hr37 : Kd.C (Kd.int .i64) _ A37 y196.length y196 := (by rw [hA37]; exact hr37); rw [← hy37, ← hA37, ← hc37] at hcut37; have HR199 := Aside0.mk hr37; have HC199 := Aside0.mk (show y196.length ≤ c37 from by rw [hy37, hc37]; exact Nat.sub_le_sub_right hroom37 _); clear hr37 hC37 hroom37 hi037 hsz37 hc37; have KY37 := Aside0.mk hy37; have KA37 := Aside0.mk hA37; clear hy37 hA37; have KL37 := Aside0.mk (show (x5_1 : Int).toNat ≤ l0.length from by omega); replace q37 := eq_true q37) | ((with_reducible refine gate_builtin (b := .append) (xs := #[.tmp 43, .tmp 46]) rfl ?_); at_builtin; refine Kd.R_append_rows (Kd.int .i64) (w0 := w0) w0.heap.size rfl (.tmp 43) (.tmp 46) 22 3 (.int .i64 0) 8 rfl Try.underlying22 info3 rfl (by decide) (by omega) v194 y193 y196 _ _ _ (fun k_ => (P0_ k_ ∨ w.heap.size ≤ k_) ∧ some k_ ≠ (.slice Ao31 l0.length co31 : Value).ownBlock) (fun _ => False) rfl rfl ?aO ?aR (fun _ _ h => h) (fun _ h => h.elim) ?aF ?aB ?aS ?aL ?_; (case aR => repeat (first | exact (by repeat (first | (with_reducible exact HR199.out) | (with_reducible refine Kd.C_alloc ?_ _) | (with_reducible refine Kd.C_drewN ?_ _) | (with_reducible refine Kd.C_drew ?_) | exact HR199.out)) | (with_reducible refine Kd.C_alloc ?_ _) | (with_reducible refine Kd.C_drewN ?_ _) | (with_reducible refine Kd.C_drew ?_))); (case aB => exact (by repeat (first | (with_reducible first | exact HB.out | apply below_alloc | apply pw_below_drewN | apply below_drew1) | exact HB.out))); (case aF => exact (fun k_ hk => ⟨(.inr (Nat.le_trans (by first | exact HK.out.1 | exact (show Kept w _ (fun k_ => P0_ k_) from by repeat (first | (with_reducible first | exact HK.out | apply Kept.alloc | apply Kept.drewN | apply Kept.drew) | exact HK.out)).1) hk)), Kd.fresh' (Kd.R_lt (by (with_reducible repeat (first | apply Kd.R_alloc | apply Kd.R_drewN | apply Kd.R_drew)); exact HO_0.out)) k_ hk⟩)); (case aO => exact (by (with_reducible repeat (first | apply Kd.R_alloc | apply Kd.R_drewN | apply Kd.R_drew)); exact HO195.out)); (case aS => exact (below_size (by repeat (first | (with_reducible first | exact HB.out | apply below_alloc | apply pw_below_drewN | apply below_drew1) | exact HB.out)))); (case aL => have := LMc30.out; omega); intro v201 w38 ho hb hg hat; rw [← Ny200.out] at ho; have n0_ := Aside0.mk (Kd.R_after (ok := (fun k_ => (P0_ k_ ∨ w.heap.size ≤ k_))) (by (with_reducible repeat (first | apply Kd.R_alloc | apply Kd.R_drewN | apply Kd.R_drew)); exact HO_0.out) hg hat); have n1_ := Aside0.mk (hb); have n2_ := Aside0.mk (Kept.of_grown (S := (fun k_ => P0_ k_)) hg (by repeat (first | (with_reducible first | exact HK.out | apply Kept.alloc | apply Kept.drewN | apply Kept.drew) | exact HK.out)) (fun k_ e_ => (HO195.out.1 k_ e_).1)); have n3_ := Aside0.mk ((show Kd.C (Kd.int .i64) w38 Ao31 y186.length y186 from by rw [Ny186.out]; exact Kd.C_take (m := (x5_1 : Int).toNat) ((Kd.R_reads' (Kd.R_after (ok := (fun k_ => (P0_ k_ ∨ w.heap.size ≤ k_))) (by (with_reducible repeat (first | apply Kd.R_alloc | apply Kd.R_drewN | apply Kd.R_drew)); exact HO_0.out) hg hat)).2.2) KL34.out)); have n4_ := Aside0.mk ((show Kd.C (Kd.int .i64) w38 A37 y196.length y196 from by rw [Ny196.out, KA37.out]; exact Kd.C_drop (m := (x5_1 : Int).toNat) (c := co31) ((Kd.R_reads' (Kd.R_after (ok := (fun k_ => (P0_ k_ ∨ w.heap.size ≤ k_))) (by (with_reducible repeat (first | apply Kd.R_alloc | apply Kd.R_drewN | apply Kd.R_drew)); exact HO_0.out) hg hat)).2.2) KL37.out ((Kd.R_reads' (Kd.R_after (ok := (fun k_ => (P0_ k_ ∨ w.heap.size ≤ k_))) (by (with_reducible repeat (first | apply Kd.R_alloc | apply Kd.R_drewN | apply Kd.R_drew)); exact HO_0.out) hg hat)).2.1))); have n5_ := Aside0.mk (ho); clear HO_0; clear HB; clear HK; clear HR189; clear HR199; clear HO195; have HO_0 := n0_; have HB := n1_; have HK := n2_; have HR189 := n3_; have HR199 := n4_; have HO202 := n5_; clear n0_ n1_ n2_ n3_ n4_ n5_; clear ho hb hg hat))
                  go_ret
                  exact ⟨_, by first | rfl | (simp [errW_none, errW_some] <;> rfl) | (simp [*, errW_none, errW_some] <;> rfl), by (with_reducible repeat (first | apply Kd.R_alloc | apply Kd.R_drewN | apply Kd.R_drew)); exact Kd.R_mono HO202.out (fun _ hk => hk.1), by repeat (first | (with_reducible first | exact HB.out | apply below_alloc | apply pw_below_drewN | apply below_drew1) | exact HB.out), by repeat (first | (with_reducible first | exact HK.out | apply Kept.alloc | apply Kept.drewN | apply Kept.drew) | exact HK.out)⟩
                · rw [if_neg c30] at H
                  exact absurd H (by simp)
              · rw [if_neg c27] at H
                exact absurd H (by simp)
            · rw [if_neg c26] at H
              exact absurd H (by simp)
          · rw [if_neg c25] at H
            exact absurd H (by simp)
        · rw [if_neg c24] at H
          exact absurd H (by simp)

/-! ### spec_l1Cur_taps: function 140 (a contract of this session's own) -/
def spec_l1Cur_taps.last (n : Int) (taps : List Int) (d : List Int) (a s : Int) : Option (List Int × Int × Int × Int) := (spec_l1Cur_pick.f d a s 12).bind fun c => (if c.1 = 0 then (if 1 ≤ taps.length then some (taps.drop 1, n, c.2.1, c.2.2) else none) else (if c.1 = 1 then (if taps.length < 1000000 then some (taps ++ [n], n, c.2.1, c.2.2) else none) else some (taps, n, c.2.1, c.2.2)))
def spec_l1Cur_taps.l0 : Nat → Int → List Int → Int → List Int → Int → Int → Option (List Int × Int × Int × Int)
  | 0, _, _, _, _, _, _ => none
  | k + 1, n, taps, m, d, a, s => if m > 0 then (if n > 1 then ((spec_l1Cur_pick.f d a s n).bind fun p => ((spec_l1Put.f k taps p.1).bind fun t => spec_l1Cur_taps.l0 k n t (wrap64 (m - 1)) d p.2.1 p.2.2)) else spec_l1Cur_taps.last n taps d a s) else spec_l1Cur_taps.last n taps d a s
def spec_l1Cur_taps.rest (k : Nat) (n : Int) (d : List Int) (a s : Int) : Option (List Int × Int × Int × Int) := (spec_l1Cur_pick.f d a s 3).bind fun m => spec_l1Cur_taps.l0 k n [0] m.1 d m.2.1 m.2.2
def spec_l1Cur_taps.f (k : Nat) (d : List Int) (a s : Int) : Option (List Int × Int × Int × Int) := (spec_l1Cur_pick.f d a s 6).bind fun p => ((spec_l1Cur_one.f d p.2.1 p.2.2 10).bind fun b => (if b.1 = true then ((spec_l1Cur_among.f d b.2.1 b.2.2 [-1, 0, 10, 11]).bind fun q => spec_l1Cur_taps.rest k q.1 d q.2.1 q.2.2) else spec_l1Cur_taps.rest k (wrap64 (1 + p.1)) d b.2.1 b.2.2))
theorem spec_l1Cur_taps.mono_l : ∀ k, (∀ y0 y1 y2 y3 y4 y5, LeO (spec_l1Cur_taps.l0 k y0 y1 y2 y3 y4 y5) (spec_l1Cur_taps.l0 (k + 1) y0 y1 y2 y3 y4 y5))
  | 0 => fun _ _ _ _ _ _ r h => by simp [spec_l1Cur_taps.l0] at h
  | k + 1 => by
    have ih := spec_l1Cur_taps.mono_l k
    intro y0 y1 y2 y3 y4 y5
    unfold spec_l1Cur_taps.l0
    exact LeO.ite (LeO.ite (LeO.bind (LeO.refl _) (fun _ => LeO.bind (spec_l1Put.mono _ _ _) (fun _ => ih _ _ _ _ _ _))) (LeO.refl _)) (LeO.refl _)
theorem spec_l1Cur_taps.mono : ∀ a0 a1 a2 k, LeO (spec_l1Cur_taps.f k a0 a1 a2) (spec_l1Cur_taps.f (k + 1) a0 a1 a2) := fun a0 a1 a2 k =>
  LeO.bind (LeO.refl _) (fun _ => LeO.bind (LeO.refl _) (fun _ => LeO.ite (LeO.bind (LeO.refl _) (fun _ => LeO.bind (LeO.refl _) (fun _ => spec_l1Cur_taps.mono_l k _ _ _ _ _ _))) (LeO.bind (LeO.refl _) (fun _ => spec_l1Cur_taps.mono_l k _ _ _ _ _ _))))
def spec_l1Cur_taps.Inv (w0 w W : World) (g : Nat) (d : List Int) (a s : Int) : Prop := IsS82 w0 W g d a s ∧ Below w0.heap.size w0 W ∧ KeepBut w W g none ∧ g < w.heap.size ∧ w0.heap.size ≤ w.heap.size
theorem spec_l1Cur_taps.keep {w0 w W W' : World} {g : Nat} {d : List Int} {a s a' s' : Int} (h : spec_l1Cur_taps.Inv w0 w W g d a s) (h1 : IsS82 w0 W' g d a' s') (h2 : Below w0.heap.size w0 W') (h3 : KeepBut W W' g none) : spec_l1Cur_taps.Inv w0 w W' g d a' s' :=
  ⟨h1, h2, KeepBut.trans h.2.2.1 h3 (.inl rfl), h.2.2.2.1, h.2.2.2.2⟩
theorem spec_l1Cur_taps.grown {w0 w W W' : World} {g : Nat} {d : List Int} {a s : Int} {row : Option Nat} (h : spec_l1Cur_taps.Inv w0 w W g d a s) (hg : W.grownBy W' row) (hr : ∀ k, row = some k → w.heap.size ≤ k) : spec_l1Cur_taps.Inv w0 w W' g d a s := by
  obtain ⟨h1, h2, h3, h4, h5⟩ := h
  refine ⟨IsS82.grown h1 hg (fun e => absurd h4 (Nat.not_lt.mpr (hr g e.symm))), h2.grown hg h2.size (fun k hk => Nat.le_trans h5 (hr k hk)), KeepBut.trans h3 (KeepBut.of_grown hg g) ?_, h4, h5⟩
  cases row with
  | none => exact .inl rfl
  | some b => exact .inr ⟨b, rfl, hr b rfl⟩
theorem spec_l1Cur_taps.put {w0 w W W' : World} {g : Nat} {d : List Int} {a s : Int} (h : spec_l1Cur_taps.Inv w0 w W g d a s) (h2 : Below w0.heap.size w0 W') (hK : Kept W W' (fun k_ => w.heap.size ≤ k_)) : spec_l1Cur_taps.Inv w0 w W' g d a s := by
  obtain ⟨⟨A0, c0, hb, hg, hr⟩, _, h3, h4, h5⟩ := h
  have hlt := Nat.lt_of_lt_of_le h4 h3.1
  exact ⟨⟨A0, c0, (hK.2 g hlt (Nat.not_le.mpr h4)).trans hb, hg, hr⟩, h2, ⟨Nat.le_trans h3.1 hK.1, fun i hi hn hq => (hK.2 i (Nat.lt_of_lt_of_le hi h3.1) (Nat.not_le.mpr hi)).trans (h3.2 i hi hn hq)⟩, h4, h5⟩
theorem spec_l1Cur_taps.rebase {W : World} {b b' : Nat} {v : Value} {l : List Int} (h : Kd.R (Kd.int .i64) 3 W b (fun k_ => b' ≤ k_) v l) : Kd.R (Kd.int .i64) 3 W b' (fun _ => True) v l := by
  obtain ⟨h1, h2⟩ := Kd.own_of_R h
  have hok := h.1
  refine Kd.R_of_own ⟨h1, ?_⟩ (fun _ _ => trivial)
  rcases h2 with h2 | ⟨g, cap, cur, e, q1, q2⟩
  · exact .inl h2
  · exact .inr ⟨g, cap, cur, e, hok g (by rw [e]; rfl), q2⟩
set_option maxHeartbeats 16000000 in
set_option maxRecDepth 100000 in
theorem spec_l1Cur_taps.calls (k : Nat) (g : Nat) (d : List Int) (s0_1 : Int) (s0_2 : Int) (r1 : List Int) (r2 : Int) (r3 : Int) (r4 : Int) (w0 w : World) (hI : IsS82 w0 w g d s0_1 s0_2) (hB : Below w0.heap.size w0 w) (h : spec_l1Cur_taps.f k d s0_1 s0_2 = some (r1, r2, r3, r4)) :
    Calls Try.prog 140 #[.pointer (some ⟨g, 0, none⟩)] w fun e w' => ∃ v0_ : Value, e = .returned (.tuple #[v0_, .int .i64 r2]) ∧ Kd.Q (Kd.int .i64) 3 w' w.heap.size (fun _ => True) v0_ r1 ∧ IsS82 w0 w' g d r3 r4 ∧ Below w0.heap.size w0 w' ∧ KeepBut w w' g none := by
  have HI : Aside0 (spec_l1Cur_taps.Inv w0 w w g d s0_1 s0_2) := ⟨hI, hB, KeepBut.refl w g none, by obtain ⟨A0, c0, hb, _⟩ := hI; exact blk_lt hb, hB.size⟩
  clear hI hB
  unfold spec_l1Cur_taps.f at h
  obtain ⟨p, hp, H⟩ := Option.bind_eq_some_iff.mp h
  have A1 := Aside0.mk hp
  clear h hp
  obtain ⟨⟨bb, ba, bs⟩, hb, H⟩ := Option.bind_eq_some_iff.mp H
  have A2 := Aside0.mk hb
  clear hb
  dsimp only at H
  by_cases c0 : bb = true
  · subst c0
    replace H := (if_pos rfl).symm.trans H
    obtain ⟨q, hq, H⟩ := Option.bind_eq_some_iff.mp H
    have A3 := Aside0.mk hq
    clear hq
    obtain ⟨n, hn⟩ : ∃ n : Int, q.1 = n := ⟨_, rfl⟩
    rw [hn] at H
    unfold spec_l1Cur_taps.rest at H
    obtain ⟨mm, hmm, H⟩ := Option.bind_eq_some_iff.mp H
    have A5 := Aside0.mk hmm
    have H' := Aside0.mk H
    clear hmm H
    obtain ⟨y0, hy0⟩ : ∃ y : List Int, y = [0] := ⟨_, rfl⟩
    rw [← hy0] at H'
    have Ny := Aside0.mk hy0
    clear hy0
    go_enter Try.func140, Try.ntmps140
    go_wp2_with (first
      | ((with_reducible refine gate_callee (f := 117) rfl ?_); refine goesL_ (some 8) rfl rfl Try.func117 (by kernel_rfl) rfl #[.pointer (some ⟨g, 0, none⟩), .int .i64 6] rfl (by (try simp only [List.map_toArray, List.map_cons, List.map_nil]); first | done | rfl) ?_; refine (spec_l1Cur_pick.calls g d s0_1 s0_2 6 p.1 p.2.1 p.2.2 w0 _ HI.out.1 HI.out.2.1 A1.out).mono ?_; rintro e wn ⟨rfl, hi_, hb_, hk_⟩; refine ⟨_, rfl, ?_⟩; have n0_ := Aside0.mk (spec_l1Cur_taps.keep HI.out hi_ hb_ hk_); clear HI hi_ hb_ hk_; have HI := n0_; clear n0_)
      | ((with_reducible refine gate_callee (f := 119) rfl ?_); refine goesL_ (some 11) rfl rfl Try.func119 (by kernel_rfl) rfl #[.pointer (some ⟨g, 0, none⟩), .int .i64 10] rfl (by (try simp only [List.map_toArray, List.map_cons, List.map_nil]); first | done | rfl) ?_; refine (spec_l1Cur_one.calls g d p.2.1 p.2.2 10 true ba bs w0 _ HI.out.1 HI.out.2.1 A2.out).mono ?_; rintro e wn ⟨rfl, hi_, hb_, hk_⟩; refine ⟨_, rfl, ?_⟩; have n0_ := Aside0.mk (spec_l1Cur_taps.keep HI.out hi_ hb_ hk_); clear HI hi_ hb_ hk_; have HI := n0_; clear n0_)
      | ((with_reducible refine gate_dst (N := 13) rfl ?_); refine Kd.R_lit (Kd.int .i64) w.heap.size 3 ?hg (N := 13) ?hd (xs := [-1, 0, 10, 11]) (inner := [.int .i64 (-1), .int .i64 0, .int .i64 10, .int .i64 11]) (ok := (fun k_ => w.heap.size ≤ k_)) (okp := fun _ => False) ?hr ?hp (fun _ hk => hk.elim) HI.out.2.2.1.1 (Below.refl _ _) HI.out.2.2.1.1 (by simp) ?_; (case hd => rfl); (case hg => rfl); (case hr => first | (go_simp; done) | (go_simp; rfl)); (case hp => exact ⟨rfl, fun i p hp => by match i, hp with | 0, hp => cases hp; rfl | 1, hp => cases hp; rfl | 2, hp => cases hp; rfl | 3, hp => cases hp; rfl⟩); intro v13 w13 ho hb hg_ hnew_; have n0_ := Aside0.mk (spec_l1Cur_taps.grown HI.out hg_ (fun k_ hk_ => by cases hk_)); obtain ⟨A13, c13, e13⟩ := Kd.R_slice ho; subst e13; have HL := Aside0.mk ho; clear HI ho hb hg_ hnew_; have HI := n0_; clear n0_)
      | ((with_reducible refine gate_callee (f := 118) rfl ?_); refine goesL_ (some 14) rfl rfl Try.func118 (by kernel_rfl) rfl #[.pointer (some ⟨g, 0, none⟩), .slice A13 4 c13] rfl (by (try simp only [List.map_toArray, List.map_cons, List.map_nil]); first | done | rfl) ?_; refine (spec_l1Cur_among.calls g d ba bs A13 c13 [-1, 0, 10, 11] q.1 q.2.1 q.2.2 w0 _ HI.out.1 HI.out.2.1 (Kd.R_reads' HL.out).2.2 (Kd.R_reads' HL.out).2.1 (fun ad had _ e_ => by subst had; have h8_ := HL.out.1 ad.block rfl; have h9_ := HI.out.2.2.2.1; rw [← e_] at h9_; exact absurd h9_ (Nat.not_lt.mpr h8_)) A3.out).mono ?_; rintro e wn ⟨rfl, hi_, hb_, hk_⟩; refine ⟨_, rfl, ?_⟩; have n0_ := Aside0.mk (spec_l1Cur_taps.keep HI.out hi_ hb_ hk_); clear HI hi_ hb_ hk_; have HI := n0_; clear n0_)
      | ((with_reducible refine gate_dst (N := 15) rfl ?_); refine Kd.R_lit (Kd.int .i64) w.heap.size 3 ?hg (N := 15) ?hd (xs := ([0] : List Int)) (inner := [.int .i64 0]) (ok := (fun k_ => w.heap.size ≤ k_)) (okp := fun _ => False) ?hr ?hp (fun _ hk => hk.elim) HI.out.2.2.1.1 (Below.refl _ _) HI.out.2.2.1.1 (by simp) ?_; (case hd => rfl); (case hg => rfl); (case hr => first | (go_simp; done) | (go_simp; rfl)); (case hp => exact (Reps.one (show Kd.M (Kd.int .i64) _ _ _ 0 [.int .i64 0] from rfl) (Reps.none _ _))); intro v15 w15 ho hb hg_ hnew_; rw [← Ny.out] at ho; have n0_ := Aside0.mk (spec_l1Cur_taps.grown HI.out hg_ (fun k_ hk_ => by cases hk_)); have n1_ := Aside0.mk (Kd.R_lower ho HI.out.2.2.2.2); clear HI ho hb hg_ hnew_; have HI := n0_; have HO := n1_; clear n0_ n1_)
      | ((with_reducible refine gate_callee (f := 117) rfl ?_); refine goesL_ (some 17) rfl rfl Try.func117 (by kernel_rfl) rfl #[.pointer (some ⟨g, 0, none⟩), .int .i64 3] rfl (by (try simp only [List.map_toArray, List.map_cons, List.map_nil]); first | done | rfl) ?_; refine (spec_l1Cur_pick.calls g d q.2.1 q.2.2 3 mm.1 mm.2.1 mm.2.2 w0 _ HI.out.1 HI.out.2.1 A5.out).mono ?_; rintro e wn ⟨rfl, hi_, hb_, hk_⟩; refine ⟨_, rfl, ?_⟩; have n0_ := Aside0.mk (spec_l1Cur_taps.keep HI.out hi_ hb_ hk_); have n1_ := Aside0.mk (Kd.R_keep HO.out hk_ (fun k_ hk1_ e_ => by have h9_ := HI.out.2.2.2.1; rw [← e_] at h9_; exact absurd h9_ (Nat.not_lt.mpr hk1_))); clear HI HO hi_ hb_ hk_; have HI := n0_; have HO := n1_; clear n0_ n1_))
    go_loopg [5, 6] k (fun kq v5 v6 w' => ∃ (taps : List Int) (m a s : Int), v6 = .int .i64 m ∧ Aside0 (spec_l1Cur_taps.l0 kq n taps m d a s = some (r1, r2, r3, r4)) ∧ Aside0 (kq ≤ k) ∧ Aside0 (spec_l1Cur_taps.Inv w0 w w' g d a s) ∧ Aside0 (Kd.R (Kd.int .i64) 3 w' w0.heap.size (fun k_ => w.heap.size ≤ k_) v5 taps))
    case atStart => exact ⟨y0, mm.1, mm.2.1, mm.2.2, (by first | rfl | (simp; done) | (simp [*]; done)), H', ⟨Nat.le_refl _⟩, HI, HO⟩
    case round =>
      clear H' HI HO
      obtain ⟨taps, m, a, s, rfl, HA, HK1, HI, HO⟩ := hrel
      cases gk with
      | zero => exact absurd HA.out (by simp [spec_l1Cur_taps.l0])
      | succ k1 =>
        have H := HA.out
        clear HA
        simp only [spec_l1Cur_taps.l0] at H
        by_cases c1 : m > 0
        · rw [if_pos c1] at H
          have c1b : decide (m > 0) = true := decide_eq_true c1
          clear c1
          by_cases c2 : n > 1
          · rw [if_pos c2] at H
            have c2b : decide (n > 1) = true := decide_eq_true c2
            clear c2
            obtain ⟨p, hp, H⟩ := Option.bind_eq_some_iff.mp H
            have B1 := Aside0.mk hp
            obtain ⟨tn, htn, H⟩ := Option.bind_eq_some_iff.mp H
            have B2 := Aside0.mk htn
            have H' := Aside0.mk H
            clear hp htn H
            go_wp2_with (first
              | ((with_reducible refine gate_callee (f := 117) rfl ?_); refine goesL_ (some 29) rfl rfl Try.func117 (by kernel_rfl) rfl #[.pointer (some ⟨g, 0, none⟩), .int .i64 n] rfl (by (try simp only [List.map_toArray, List.map_cons, List.map_nil]); first | done | rfl) ?_; refine (spec_l1Cur_pick.calls g d a s n p.1 p.2.1 p.2.2 w0 _ HI.out.1 HI.out.2.1 B1.out).mono ?_; rintro e wn ⟨rfl, hi_, hb_, hk_⟩; refine ⟨_, rfl, ?_⟩; have n0_ := Aside0.mk (spec_l1Cur_taps.keep HI.out hi_ hb_ hk_); have n1_ := Aside0.mk (Kd.R_keep HO.out hk_ (fun k_ hk1_ e_ => by have h9_ := HI.out.2.2.2.1; rw [← e_] at h9_; exact absurd h9_ (Nat.not_lt.mpr hk1_))); clear HI HO hi_ hb_ hk_; have HI := n0_; have HO := n1_; clear n0_ n1_)
              | ((with_reducible refine gate_callee (f := 173) rfl ?_); refine goesL_ (some 30) rfl rfl Try.func173 (by kernel_rfl) rfl #[u5, .int .i64 p.1] rfl (by (try simp only [List.map_toArray, List.map_cons, List.map_nil]); first | done | rfl) ?_; refine (spec_l1Put.calls k1 (fun k_ => w.heap.size ≤ k_) u5 taps p.1 tn w0 _ HI.out.2.1 HO.out B2.out).mono ?_; rintro e wn ⟨v30, rfl, ho_, hb_, hk_⟩; refine ⟨_, rfl, ?_⟩; have n1_ := Aside0.mk (Kd.R_mono (ok' := (fun k_ => w.heap.size ≤ k_)) ho_ (fun k_ hk1_ => hk1_.elim id (fun h_ => Nat.le_trans HI.out.2.2.1.1 h_))); have n0_ := Aside0.mk (spec_l1Cur_taps.put HI.out hb_ hk_); clear HI HO ho_ hb_ hk_; have HI := n0_; have HO := n1_; clear n0_ n1_))
            go_roundg k1
            case measure => have := HK1.out; omega
            case rel => exact ⟨tn, wrap64 (m - 1), p.2.1, p.2.2, (by first | rfl | (simp; done) | (simp [*]; done)), H', ⟨by have := HK1.out; omega⟩, HI, HO⟩
          · rw [if_neg c2] at H
            have c2b : decide (n > 1) = false := decide_eq_false c2
            clear c2
            unfold spec_l1Cur_taps.last at H
            obtain ⟨cc, hcc, H⟩ := Option.bind_eq_some_iff.mp H
            have B9 := Aside0.mk hcc
            clear hcc
            by_cases e1 : cc.1 = 0
            · rw [if_pos e1] at H
              have e1b : (cc.1 == 0) = true := beq_iff_eq.mpr e1
              clear e1
              by_cases e2 : 1 ≤ taps.length
              · rw [if_pos e2] at H
                simp only [Option.some.injEq, Prod.mk.injEq] at H
                obtain ⟨rfl, rfl, rfl, rfl⟩ := H
                obtain ⟨Ao, co, eo⟩ := Kd.R_slice HO.out
                subst eo
                obtain ⟨i0, hi0, _, hsz, _⟩ := info_parts info3
                have hcut := cut_from (P := Try.prog) 22 3 .i64 Try.underlying22 hi0 1 hsz Ao taps.length co 1 (by omega) (by omega)
                clear hi0 hsz
                obtain ⟨vq, hvq⟩ : ∃ vq : Value, Value.slice (if co = 1 then Ao else Ao.map (·.add (1 * 1))) (taps.length - 1) (co - 1) = vq := ⟨_, rfl⟩
                have hcut2 : ∀ W : World, (Instr.slice 22 (.slice Ao taps.length co) (some (.int .i64 1)) none none).run Try.prog W = .ok vq W := fun W => by rw [hcut W, ← hvq]; rfl
                clear hcut
                have VQ := Aside0.mk hvq
                clear hvq
                go_wp2_with (first
                  | ((with_reducible refine gate_callee (f := 117) rfl ?_); refine goesL_ (some 32) rfl rfl Try.func117 (by kernel_rfl) rfl #[.pointer (some ⟨g, 0, none⟩), .int .i64 12] rfl (by (try simp only [List.map_toArray, List.map_cons, List.map_nil]); first | done | rfl) ?_; refine (spec_l1Cur_pick.calls g d a s 12 cc.1 cc.2.1 cc.2.2 w0 _ HI.out.1 HI.out.2.1 B9.out).mono ?_; rintro e wn ⟨rfl, hi_, hb_, hk_⟩; refine ⟨_, rfl, ?_⟩; have n0_ := Aside0.mk (spec_l1Cur_taps.keep HI.out hi_ hb_ hk_); have n1_ := Aside0.mk (Kd.R_keep HO.out hk_ (fun k_ hk1_ e_ => by have h9_ := HI.out.2.2.2.1; rw [← e_] at h9_; exact absurd h9_ (Nat.not_lt.mpr hk1_))); clear HI HO hi_ hb_ hk_; have HI := n0_; have HO := n1_; clear n0_ n1_))
                first | go_ret2 | skip
                exact ⟨_, rfl, (by rw [← VQ.out]; exact Kd.Q_drop (Kd.Q_of_R (spec_l1Cur_taps.rebase HO.out)) e2), HI.out.1, HI.out.2.1, HI.out.2.2.1⟩
              · rw [if_neg e2] at H; exact absurd H (by simp)
            · rw [if_neg e1] at H
              have e1b : (cc.1 == 0) = false := beq_eq_false_iff_ne.mpr e1
              clear e1
              by_cases e3 : cc.1 = 1
              · rw [if_pos e3] at H
                have e3b : (cc.1 == 1) = true := beq_iff_eq.mpr e3
                clear e3
                by_cases e4 : taps.length < 1000000
                · rw [if_pos e4] at H
                  have CL := Aside0.mk e4
                  clear e4
                  simp only [Option.some.injEq, Prod.mk.injEq] at H
                  obtain ⟨hT, rfl, rfl, rfl⟩ := H
                  have Ny2 := Aside0.mk hT.symm
                  clear hT
                  go_wp2_with (first
                    | ((with_reducible refine gate_callee (f := 117) rfl ?_); refine goesL_ (some 32) rfl rfl Try.func117 (by kernel_rfl) rfl #[.pointer (some ⟨g, 0, none⟩), .int .i64 12] rfl (by (try simp only [List.map_toArray, List.map_cons, List.map_nil]); first | done | rfl) ?_; refine (spec_l1Cur_pick.calls g d a s 12 cc.1 cc.2.1 cc.2.2 w0 _ HI.out.1 HI.out.2.1 B9.out).mono ?_; rintro e wn ⟨rfl, hi_, hb_, hk_⟩; refine ⟨_, rfl, ?_⟩; have n0_ := Aside0.mk (spec_l1Cur_taps.keep HI.out hi_ hb_ hk_); have n1_ := Aside0.mk (Kd.R_keep HO.out hk_ (fun k_ hk1_ e_ => by have h9_ := HI.out.2.2.2.1; rw [← e_] at h9_; exact absurd h9_ (Nat.not_lt.mpr hk1_))); clear HI HO hi_ hb_ hk_; have HI := n0_; have HO := n1_; clear n0_ n1_)
                    | ((with_reducible refine gate_builtin (b := .append) (xs := #[.tmp 39, .tmp 41]) rfl ?_); at_builtin; refine Kd.R_append (Kd.int .i64) (w0 := w0) w0.heap.size rfl (.tmp 39) (.tmp 41) 22 3 (.int .i64 0) 8 rfl Try.underlying22 info3 rfl (by decide) (by omega) u5 taps n [.int .i64 n] (fun k_ => w.heap.size ≤ k_) (fun _ => False) rfl rfl ?aP (fun _ hk => hk.elim) ?aF ?aO ?aB ?aS ?aL ?_; (case aP => exact rfl); (case aB => exact HI.out.2.1); (case aF => exact fun k_ hk_ => Nat.le_trans HI.out.2.2.1.1 hk_); (case aO => exact (by (with_reducible repeat (first | apply Kd.R_alloc | apply Kd.R_drewN | apply Kd.R_drew)); exact HO.out)); (case aS => exact HI.out.2.1.size); (case aL => have := CL.out; omega); intro v42 w42 ho hb hg hat; rw [← Ny2.out] at ho; have n0_ := Aside0.mk (spec_l1Cur_taps.grown HI.out hg (fun k_ hk_ => HO.out.1 k_ hk_)); have n1_ := Aside0.mk ho; clear HI HO ho hb hg hat; have HI := n0_; have HO := n1_; clear n0_ n1_))
                  go_ret2
                  exact ⟨_, rfl, Kd.Q_of_R (spec_l1Cur_taps.rebase HO.out), HI.out.1, HI.out.2.1, HI.out.2.2.1⟩
                · rw [if_neg e4] at H; exact absurd H (by simp)
              · rw [if_neg e3] at H
                have e3b : (cc.1 == 1) = false := beq_eq_false_iff_ne.mpr e3
                clear e3
                simp only [Option.some.injEq, Prod.mk.injEq] at H
                obtain ⟨rfl, rfl, rfl, rfl⟩ := H
                go_wp2_with (first
                  | ((with_reducible refine gate_callee (f := 117) rfl ?_); refine goesL_ (some 32) rfl rfl Try.func117 (by kernel_rfl) rfl #[.pointer (some ⟨g, 0, none⟩), .int .i64 12] rfl (by (try simp only [List.map_toArray, List.map_cons, List.map_nil]); first | done | rfl) ?_; refine (spec_l1Cur_pick.calls g d a s 12 cc.1 cc.2.1 cc.2.2 w0 _ HI.out.1 HI.out.2.1 B9.out).mono ?_; rintro e wn ⟨rfl, hi_, hb_, hk_⟩; refine ⟨_, rfl, ?_⟩; have n0_ := Aside0.mk (spec_l1Cur_taps.keep HI.out hi_ hb_ hk_); have n1_ := Aside0.mk (Kd.R_keep HO.out hk_ (fun k_ hk1_ e_ => by have h9_ := HI.out.2.2.2.1; rw [← e_] at h9_; exact absurd h9_ (Nat.not_lt.mpr hk1_))); clear HI HO hi_ hb_ hk_; have HI := n0_; have HO := n1_; clear n0_ n1_))
                go_ret2
                exact ⟨_, rfl, Kd.Q_of_R (spec_l1Cur_taps.rebase HO.out), HI.out.1, HI.out.2.1, HI.out.2.2.1⟩
        · rw [if_neg c1] at H
          have c1b : decide (m > 0) = false := decide_eq_false c1
          clear c1
          unfold spec_l1Cur_taps.last at H
          obtain ⟨cc, hcc, H⟩ := Option.bind_eq_some_iff.mp H
          have B9 := Aside0.mk hcc
          clear hcc
          by_cases e1 : cc.1 = 0
          · rw [if_pos e1] at H
            have e1b : (cc.1 == 0) = true := beq_iff_eq.mpr e1
            clear e1
            by_cases e2 : 1 ≤ taps.length
            · rw [if_pos e2] at H
              simp only [Option.some.injEq, Prod.mk.injEq] at H
              obtain ⟨rfl, rfl, rfl, rfl⟩ := H
              obtain ⟨Ao, co, eo⟩ := Kd.R_slice HO.out
              subst eo
              obtain ⟨i0, hi0, _, hsz, _⟩ := info_parts info3
              have hcut := cut_from (P := Try.prog) 22 3 .i64 Try.underlying22 hi0 1 hsz Ao taps.length co 1 (by omega) (by omega)
              clear hi0 hsz
              obtain ⟨vq, hvq⟩ : ∃ vq : Value, Value.slice (if co = 1 then Ao else Ao.map (·.add (1 * 1))) (taps.length - 1) (co - 1) = vq := ⟨_, rfl⟩
              have hcut2 : ∀ W : World, (Instr.slice 22 (.slice Ao taps.length co) (some (.int .i64 1)) none none).run Try.prog W = .ok vq W := fun W => by rw [hcut W, ← hvq]; rfl
              clear hcut
              have VQ := Aside0.mk hvq
              clear hvq
              go_wp2_with (first
                | ((with_reducible refine gate_callee (f := 117) rfl ?_); refine goesL_ (some 32) rfl rfl Try.func117 (by kernel_rfl) rfl #[.pointer (some ⟨g, 0, none⟩), .int .i64 12] rfl (by (try simp only [List.map_toArray, List.map_cons, List.map_nil]); first | done | rfl) ?_; refine (spec_l1Cur_pick.calls g d a s 12 cc.1 cc.2.1 cc.2.2 w0 _ HI.out.1 HI.out.2.1 B9.out).mono ?_; rintro e wn ⟨rfl, hi_, hb_, hk_⟩; refine ⟨_, rfl, ?_⟩; have n0_ := Aside0.mk (spec_l1Cur_taps.keep HI.out hi_ hb_ hk_); have n1_ := Aside0.mk (Kd.R_keep HO.out hk_ (fun k_ hk1_ e_ => by have h9_ := HI.out.2.2.2.1; rw [← e_] at h9_; exact absurd h9_ (Nat.not_lt.mpr hk1_))); clear HI HO hi_ hb_ hk_; have HI := n0_; have HO := n1_; clear n0_ n1_))
              first | go_ret2 | skip
              exact ⟨_, rfl, (by rw [← VQ.out]; exact Kd.Q_drop (Kd.Q_of_R (spec_l1Cur_taps.rebase HO.out)) e2), HI.out.1, HI.out.2.1, HI.out.2.2.1⟩
            · rw [if_neg e2] at H; exact absurd H (by simp)
          · rw [if_neg e1] at H
            have e1b : (cc.1 == 0) = false := beq_eq_false_iff_ne.mpr e1
            clear e1
            by_cases e3 : cc.1 = 1
            · rw [if_pos e3] at H
              have e3b : (cc.1 == 1) = true := beq_iff_eq.mpr e3
              clear e3
              by_cases e4 : taps.length < 1000000
              · rw [if_pos e4] at H
                have CL := Aside0.mk e4
                clear e4
                simp only [Option.some.injEq, Prod.mk.injEq] at H
                obtain ⟨hT, rfl, rfl, rfl⟩ := H
                have Ny2 := Aside0.mk hT.symm
                clear hT
                go_wp2_with (first
                  | ((with_reducible refine gate_callee (f := 117) rfl ?_); refine goesL_ (some 32) rfl rfl Try.func117 (by kernel_rfl) rfl #[.pointer (some ⟨g, 0, none⟩), .int .i64 12] rfl (by (try simp only [List.map_toArray, List.map_cons, List.map_nil]); first | done | rfl) ?_; refine (spec_l1Cur_pick.calls g d a s 12 cc.1 cc.2.1 cc.2.2 w0 _ HI.out.1 HI.out.2.1 B9.out).mono ?_; rintro e wn ⟨rfl, hi_, hb_, hk_⟩; refine ⟨_, rfl, ?_⟩; have n0_ := Aside0.mk (spec_l1Cur_taps.keep HI.out hi_ hb_ hk_); have n1_ := Aside0.mk (Kd.R_keep HO.out hk_ (fun k_ hk1_ e_ => by have h9_ := HI.out.2.2.2.1; rw [← e_] at h9_; exact absurd h9_ (Nat.not_lt.mpr hk1_))); clear HI HO hi_ hb_ hk_; have HI := n0_; have HO := n1_; clear n0_ n1_)
                  | ((with_reducible refine gate_builtin (b := .append) (xs := #[.tmp 39, .tmp 41]) rfl ?_); at_builtin; refine Kd.R_append (Kd.int .i64) (w0 := w0) w0.heap.size rfl (.tmp 39) (.tmp 41) 22 3 (.int .i64 0) 8 rfl Try.underlying22 info3 rfl (by decide) (by omega) u5 taps n [.int .i64 n] (fun k_ => w.heap.size ≤ k_) (fun _ => False) rfl rfl ?aP (fun _ hk => hk.elim) ?aF ?aO ?aB ?aS ?aL ?_; (case aP => exact rfl); (case aB => exact HI.out.2.1); (case aF => exact fun k_ hk_ => Nat.le_trans HI.out.2.2.1.1 hk_); (case aO => exact (by (with_reducible repeat (first | apply Kd.R_alloc | apply Kd.R_drewN | apply Kd.R_drew)); exact HO.out)); (case aS => exact HI.out.2.1.size); (case aL => have := CL.out; omega); intro v42 w42 ho hb hg hat; rw [← Ny2.out] at ho; have n0_ := Aside0.mk (spec_l1Cur_taps.grown HI.out hg (fun k_ hk_ => HO.out.1 k_ hk_)); have n1_ := Aside0.mk ho; clear HI HO ho hb hg hat; have HI := n0_; have HO := n1_; clear n0_ n1_))
                go_ret2
                exact ⟨_, rfl, Kd.Q_of_R (spec_l1Cur_taps.rebase HO.out), HI.out.1, HI.out.2.1, HI.out.2.2.1⟩
              · rw [if_neg e4] at H; exact absurd H (by simp)
            · rw [if_neg e3] at H
              have e3b : (cc.1 == 1) = false := beq_eq_false_iff_ne.mpr e3
              clear e3
              simp only [Option.some.injEq, Prod.mk.injEq] at H
              obtain ⟨rfl, rfl, rfl, rfl⟩ := H
              go_wp2_with (first
                | ((with_reducible refine gate_callee (f := 117) rfl ?_); refine goesL_ (some 32) rfl rfl Try.func117 (by kernel_rfl) rfl #[.pointer (some ⟨g, 0, none⟩), .int .i64 12] rfl (by (try simp only [List.map_toArray, List.map_cons, List.map_nil]); first | done | rfl) ?_; refine (spec_l1Cur_pick.calls g d a s 12 cc.1 cc.2.1 cc.2.2 w0 _ HI.out.1 HI.out.2.1 B9.out).mono ?_; rintro e wn ⟨rfl, hi_, hb_, hk_⟩; refine ⟨_, rfl, ?_⟩; have n0_ := Aside0.mk (spec_l1Cur_taps.keep HI.out hi_ hb_ hk_); have n1_ := Aside0.mk (Kd.R_keep HO.out hk_ (fun k_ hk1_ e_ => by have h9_ := HI.out.2.2.2.1; rw [← e_] at h9_; exact absurd h9_ (Nat.not_lt.mpr hk1_))); clear HI HO hi_ hb_ hk_; have HI := n0_; have HO := n1_; clear n0_ n1_))
              go_ret2
              exact ⟨_, rfl, Kd.Q_of_R (spec_l1Cur_taps.rebase HO.out), HI.out.1, HI.out.2.1, HI.out.2.2.1⟩
  · rw [if_neg c0] at H
    obtain rfl := Bool.eq_false_iff.mpr c0
    clear c0
    obtain ⟨n, hn⟩ : ∃ n : Int, wrap64 (1 + p.1) = n := ⟨_, rfl⟩
    rw [hn] at H
    unfold spec_l1Cur_taps.rest at H
    obtain ⟨mm, hmm, H⟩ := Option.bind_eq_some_iff.mp H
    have A5 := Aside0.mk hmm
    have H' := Aside0.mk H
    clear hmm H
    obtain ⟨y0, hy0⟩ : ∃ y : List Int, y = [0] := ⟨_, rfl⟩
    rw [← hy0] at H'
    have Ny := Aside0.mk hy0
    clear hy0
    go_enter Try.func140, Try.ntmps140
    go_wp2_with (first
      | ((with_reducible refine gate_callee (f := 117) rfl ?_); refine goesL_ (some 8) rfl rfl Try.func117 (by kernel_rfl) rfl #[.pointer (some ⟨g, 0, none⟩), .int .i64 6] rfl (by (try simp only [List.map_toArray, List.map_cons, List.map_nil]); first | done | rfl) ?_; refine (spec_l1Cur_pick.calls g d s0_1 s0_2 6 p.1 p.2.1 p.2.2 w0 _ HI.out.1 HI.out.2.1 A1.out).mono ?_; rintro e wn ⟨rfl, hi_, hb_, hk_⟩; refine ⟨_, rfl, ?_⟩; have n0_ := Aside0.mk (spec_l1Cur_taps.keep HI.out hi_ hb_ hk_); clear HI hi_ hb_ hk_; have HI := n0_; clear n0_)
      | ((with_reducible refine gate_callee (f := 119) rfl ?_); refine goesL_ (some 11) rfl rfl Try.func119 (by kernel_rfl) rfl #[.pointer (some ⟨g, 0, none⟩), .int .i64 10] rfl (by (try simp only [List.map_toArray, List.map_cons, List.map_nil]); first | done | rfl) ?_; refine (spec_l1Cur_one.calls g d p.2.1 p.2.2 10 false ba bs w0 _ HI.out.1 HI.out.2.1 A2.out).mono ?_; rintro e wn ⟨rfl, hi_, hb_, hk_⟩; refine ⟨_, rfl, ?_⟩; have n0_ := Aside0.mk (spec_l1Cur_taps.keep HI.out hi_ hb_ hk_); clear HI hi_ hb_ hk_; have HI := n0_; clear n0_)
      | ((with_reducible refine gate_dst (N := 15) rfl ?_); refine Kd.R_lit (Kd.int .i64) w.heap.size 3 ?hg (N := 15) ?hd (xs := ([0] : List Int)) (inner := [.int .i64 0]) (ok := (fun k_ => w.heap.size ≤ k_)) (okp := fun _ => False) ?hr ?hp (fun _ hk => hk.elim) HI.out.2.2.1.1 (Below.refl _ _) HI.out.2.2.1.1 (by simp) ?_; (case hd => rfl); (case hg => rfl); (case hr => first | (go_simp; done) | (go_simp; rfl)); (case hp => exact (Reps.one (show Kd.M (Kd.int .i64) _ _ _ 0 [.int .i64 0] from rfl) (Reps.none _ _))); intro v15 w15 ho hb hg_ hnew_; rw [← Ny.out] at ho; have n0_ := Aside0.mk (spec_l1Cur_taps.grown HI.out hg_ (fun k_ hk_ => by cases hk_)); have n1_ := Aside0.mk (Kd.R_lower ho HI.out.2.2.2.2); clear HI ho hb hg_ hnew_; have HI := n0_; have HO := n1_; clear n0_ n1_)
      | ((with_reducible refine gate_callee (f := 117) rfl ?_); refine goesL_ (some 17) rfl rfl Try.func117 (by kernel_rfl) rfl #[.pointer (some ⟨g, 0, none⟩), .int .i64 3] rfl (by (try simp only [List.map_toArray, List.map_cons, List.map_nil]); first | done | rfl) ?_; refine (spec_l1Cur_pick.calls g d ba bs 3 mm.1 mm.2.1 mm.2.2 w0 _ HI.out.1 HI.out.2.1 A5.out).mono ?_; rintro e wn ⟨rfl, hi_, hb_, hk_⟩; refine ⟨_, rfl, ?_⟩; have n0_ := Aside0.mk (spec_l1Cur_taps.keep HI.out hi_ hb_ hk_); have n1_ := Aside0.mk (Kd.R_keep HO.out hk_ (fun k_ hk1_ e_ => by have h9_ := HI.out.2.2.2.1; rw [← e_] at h9_; exact absurd h9_ (Nat.not_lt.mpr hk1_))); clear HI HO hi_ hb_ hk_; have HI := n0_; have HO := n1_; clear n0_ n1_))
    go_loopg [5, 6] k (fun kq v5 v6 w' => ∃ (taps : List Int) (m a s : Int), v6 = .int .i64 m ∧ Aside0 (spec_l1Cur_taps.l0 kq n taps m d a s = some (r1, r2, r3, r4)) ∧ Aside0 (kq ≤ k) ∧ Aside0 (spec_l1Cur_taps.Inv w0 w w' g d a s) ∧ Aside0 (Kd.R (Kd.int .i64) 3 w' w0.heap.size (fun k_ => w.heap.size ≤ k_) v5 taps))
    case atStart => exact ⟨y0, mm.1, mm.2.1, mm.2.2, (by first | rfl | (simp; done) | (simp [*]; done)), H', ⟨Nat.le_refl _⟩, HI, HO⟩
    case round =>
      clear H' HI HO
      obtain ⟨taps, m, a, s, rfl, HA, HK1, HI, HO⟩ := hrel
      cases gk with
      | zero => exact absurd HA.out (by simp [spec_l1Cur_taps.l0])
      | succ k1 =>
        have H := HA.out
        clear HA
        simp only [spec_l1Cur_taps.l0] at H
        by_cases c1 : m > 0
        · rw [if_pos c1] at H
          have c1b : decide (m > 0) = true := decide_eq_true c1
          clear c1
          by_cases c2 : n > 1
          · rw [if_pos c2] at H
            have c2b : decide (n > 1) = true := decide_eq_true c2
            clear c2
            obtain ⟨p, hp, H⟩ := Option.bind_eq_some_iff.mp H
            have B1 := Aside0.mk hp
            obtain ⟨tn, htn, H⟩ := Option.bind_eq_some_iff.mp H
            have B2 := Aside0.mk htn
            have H' := Aside0.mk H
            clear hp htn H
            go_wp2_with (first
              | ((with_reducible refine gate_callee (f := 117) rfl ?_); refine goesL_ (some 29) rfl rfl Try.func117 (by kernel_rfl) rfl #[.pointer (some ⟨g, 0, none⟩), .int .i64 n] rfl (by (try simp only [List.map_toArray, List.map_cons, List.map_nil]); first | done | rfl) ?_; refine (spec_l1Cur_pick.calls g d a s n p.1 p.2.1 p.2.2 w0 _ HI.out.1 HI.out.2.1 B1.out).mono ?_; rintro e wn ⟨rfl, hi_, hb_, hk_⟩; refine ⟨_, rfl, ?_⟩; have n0_ := Aside0.mk (spec_l1Cur_taps.keep HI.out hi_ hb_ hk_); have n1_ := Aside0.mk (Kd.R_keep HO.out hk_ (fun k_ hk1_ e_ => by have h9_ := HI.out.2.2.2.1; rw [← e_] at h9_; exact absurd h9_ (Nat.not_lt.mpr hk1_))); clear HI HO hi_ hb_ hk_; have HI := n0_; have HO := n1_; clear n0_ n1_)
              | ((with_reducible refine gate_callee (f := 173) rfl ?_); refine goesL_ (some 30) rfl rfl Try.func173 (by kernel_rfl) rfl #[u5, .int .i64 p.1] rfl (by (try simp only [List.map_toArray, List.map_cons, List.map_nil]); first | done | rfl) ?_; refine (spec_l1Put.calls k1 (fun k_ => w.heap.size ≤ k_) u5 taps p.1 tn w0 _ HI.out.2.1 HO.out B2.out).mono ?_; rintro e wn ⟨v30, rfl, ho_, hb_, hk_⟩; refine ⟨_, rfl, ?_⟩; have n1_ := Aside0.mk (Kd.R_mono (ok' := (fun k_ => w.heap.size ≤ k_)) ho_ (fun k_ hk1_ => hk1_.elim id (fun h_ => Nat.le_trans HI.out.2.2.1.1 h_))); have n0_ := Aside0.mk (spec_l1Cur_taps.put HI.out hb_ hk_); clear HI HO ho_ hb_ hk_; have HI := n0_; have HO := n1_; clear n0_ n1_))
            go_roundg k1
            case measure => have := HK1.out; omega
            case rel => exact ⟨tn, wrap64 (m - 1), p.2.1, p.2.2, (by first | rfl | (simp; done) | (simp [*]; done)), H', ⟨by have := HK1.out; omega⟩, HI, HO⟩
          · rw [if_neg c2] at H
            have c2b : decide (n > 1) = false := decide_eq_false c2
            clear c2
            unfold spec_l1Cur_taps.last at H
            obtain ⟨cc, hcc, H⟩ := Option.bind_eq_some_iff.mp H
            have B9 := Aside0.mk hcc
            clear hcc
            by_cases e1 : cc.1 = 0
            · rw [if_pos e1] at H
              have e1b : (cc.1 == 0) = true := beq_iff_eq.mpr e1
              clear e1
              by_cases e2 : 1 ≤ taps.length
              · rw [if_pos e2] at H
                simp only [Option.some.injEq, Prod.mk.injEq] at H
                obtain ⟨rfl, rfl, rfl, rfl⟩ := H
                obtain ⟨Ao, co, eo⟩ := Kd.R_slice HO.out
                subst eo
                obtain ⟨i0, hi0, _, hsz, _⟩ := info_parts info3
                have hcut := cut_from (P := Try.prog) 22 3 .i64 Try.underlying22 hi0 1 hsz Ao taps.length co 1 (by omega) (by omega)
                clear hi0 hsz
                obtain ⟨vq, hvq⟩ : ∃ vq : Value, Value.slice (if co = 1 then Ao else Ao.map (·.add (1 * 1))) (taps.length - 1) (co - 1) = vq := ⟨_, rfl⟩
                have hcut2 : ∀ W : World, (Instr.slice 22 (.slice Ao taps.length co) (some (.int .i64 1)) none none).run Try.prog W = .ok vq W := fun W => by rw [hcut W, ← hvq]; rfl
                clear hcut
                have VQ := Aside0.mk hvq
                clear hvq
                go_wp2_with (first
                  | ((with_reducible refine gate_callee (f := 117) rfl ?_); refine goesL_ (some 32) rfl rfl Try.func117 (by kernel_rfl) rfl #[.pointer (some ⟨g, 0, none⟩), .int .i64 12] rfl (by (try simp only [List.map_toArray, List.map_cons, List.map_nil]); first | done | rfl) ?_; refine (spec_l1Cur_pick.calls g d a s 12 cc.1 cc.2.1 cc.2.2 w0 _ HI.out.1 HI.out.2.1 B9.out).mono ?_; rintro e wn ⟨rfl, hi_, hb_, hk_⟩; refine ⟨_, rfl, ?_⟩; have n0_ := Aside0.mk (spec_l1Cur_taps.keep HI.out hi_ hb_ hk_); have n1_ := Aside0.mk (Kd.R_keep HO.out hk_ (fun k_ hk1_ e_ => by have h9_ := HI.out.2.2.2.1; rw [← e_] at h9_; exact absurd h9_ (Nat.not_lt.mpr hk1_))); clear HI HO hi_ hb_ hk_; have HI := n0_; have HO := n1_; clear n0_ n1_))
                first | go_ret2 | skip
                exact ⟨_, rfl, (by rw [← VQ.out]; exact Kd.Q_drop (Kd.Q_of_R (spec_l1Cur_taps.rebase HO.out)) e2), HI.out.1, HI.out.2.1, HI.out.2.2.1⟩
              · rw [if_neg e2] at H; exact absurd H (by simp)
            · rw [if_neg e1] at H
              have e1b : (cc.1 == 0) = false := beq_eq_false_iff_ne.mpr e1
              clear e1
              by_cases e3 : cc.1 = 1
              · rw [if_pos e3] at H
                have e3b : (cc.1 == 1) = true := beq_iff_eq.mpr e3
                clear e3
                by_cases e4 : taps.length < 1000000
                · rw [if_pos e4] at H
                  have CL := Aside0.mk e4
                  clear e4
                  simp only [Option.some.injEq, Prod.mk.injEq] at H
                  obtain ⟨hT, rfl, rfl, rfl⟩ := H
                  have Ny2 := Aside0.mk hT.symm
                  clear hT
                  go_wp2_with (first
                    | ((with_reducible refine gate_callee (f := 117) rfl ?_); refine goesL_ (some 32) rfl rfl Try.func117 (by kernel_rfl) rfl #[.pointer (some ⟨g, 0, none⟩), .int .i64 12] rfl (by (try simp only [List.map_toArray, List.map_cons, List.map_nil]); first | done | rfl) ?_; refine (spec_l1Cur_pick.calls g d a s 12 cc.1 cc.2.1 cc.2.2 w0 _ HI.out.1 HI.out.2.1 B9.out).mono ?_; rintro e wn ⟨rfl, hi_, hb_, hk_⟩; refine ⟨_, rfl, ?_⟩; have n0_ := Aside0.mk (spec_l1Cur_taps.keep HI.out hi_ hb_ hk_); have n1_ := Aside0.mk (Kd.R_keep HO.out hk_ (fun k_ hk1_ e_ => by have h9_ := HI.out.2.2.2.1; rw [← e_] at h9_; exact absurd h9_ (Nat.not_lt.mpr hk1_))); clear HI HO hi_ hb_ hk_; have HI := n0_; have HO := n1_; clear n0_ n1_)
                    | ((with_reducible refine gate_builtin (b := .append) (xs := #[.tmp 39, .tmp 41]) rfl ?_); at_builtin; refine Kd.R_append (Kd.int .i64) (w0 := w0) w0.heap.size rfl (.tmp 39) (.tmp 41) 22 3 (.int .i64 0) 8 rfl Try.underlying22 info3 rfl (by decide) (by omega) u5 taps n [.int .i64 n] (fun k_ => w.heap.size ≤ k_) (fun _ => False) rfl rfl ?aP (fun _ hk => hk.elim) ?aF ?aO ?aB ?aS ?aL ?_; (case aP => exact rfl); (case aB => exact HI.out.2.1); (case aF => exact fun k_ hk_ => Nat.le_trans HI.out.2.2.1.1 hk_); (case aO => exact (by (with_reducible repeat (first | apply Kd.R_alloc | apply Kd.R_drewN | apply Kd.R_drew)); exact HO.out)); (case aS => exact HI.out.2.1.size); (case aL => have := CL.out; omega); intro v42 w42 ho hb hg hat; rw [← Ny2.out] at ho; have n0_ := Aside0.mk (spec_l1Cur_taps.grown HI.out hg (fun k_ hk_ => HO.out.1 k_ hk_)); have n1_ := Aside0.mk ho; clear HI HO ho hb hg hat; have HI := n0_; have HO := n1_; clear n0_ n1_))
                  go_ret2
                  exact ⟨_, rfl, Kd.Q_of_R (spec_l1Cur_taps.rebase HO.out), HI.out.1, HI.out.2.1, HI.out.2.2.1⟩
                · rw [if_neg e4] at H; exact absurd H (by simp)
              · rw [if_neg e3] at H
                have e3b : (cc.1 == 1) = false := beq_eq_false_iff_ne.mpr e3
                clear e3
                simp only [Option.some.injEq, Prod.mk.injEq] at H
                obtain ⟨rfl, rfl, rfl, rfl⟩ := H
                go_wp2_with (first
                  | ((with_reducible refine gate_callee (f := 117) rfl ?_); refine goesL_ (some 32) rfl rfl Try.func117 (by kernel_rfl) rfl #[.pointer (some ⟨g, 0, none⟩), .int .i64 12] rfl (by (try simp only [List.map_toArray, List.map_cons, List.map_nil]); first | done | rfl) ?_; refine (spec_l1Cur_pick.calls g d a s 12 cc.1 cc.2.1 cc.2.2 w0 _ HI.out.1 HI.out.2.1 B9.out).mono ?_; rintro e wn ⟨rfl, hi_, hb_, hk_⟩; refine ⟨_, rfl, ?_⟩; have n0_ := Aside0.mk (spec_l1Cur_taps.keep HI.out hi_ hb_ hk_); have n1_ := Aside0.mk (Kd.R_keep HO.out hk_ (fun k_ hk1_ e_ => by have h9_ := HI.out.2.2.2.1; rw [← e_] at h9_; exact absurd h9_ (Nat.not_lt.mpr hk1_))); clear HI HO hi_ hb_ hk_; have HI := n0_; have HO := n1_; clear n0_ n1_))
                go_ret2
                exact ⟨_, rfl, Kd.Q_of_R (spec_l1Cur_taps.rebase HO.out), HI.out.1, HI.out.2.1, HI.out.2.2.1⟩
        · rw [if_neg c1] at H
          have c1b : decide (m > 0) = false := decide_eq_false c1
          clear c1
          unfold spec_l1Cur_taps.last at H
          obtain ⟨cc, hcc, H⟩ := Option.bind_eq_some_iff.mp H
          have B9 := Aside0.mk hcc
          clear hcc
          by_cases e1 : cc.1 = 0
          · rw [if_pos e1] at H
            have e1b : (cc.1 == 0) = true := beq_iff_eq.mpr e1
            clear e1
            by_cases e2 : 1 ≤ taps.length
            · rw [if_pos e2] at H
              simp only [Option.some.injEq, Prod.mk.injEq] at H
              obtain ⟨rfl, rfl, rfl, rfl⟩ := H
              obtain ⟨Ao, co, eo⟩ := Kd.R_slice HO.out
              subst eo
              obtain ⟨i0, hi0, _, hsz, _⟩ := info_parts info3
              have hcut := cut_from (P := Try.prog) 22 3 .i64 Try.underlying22 hi0 1 hsz Ao taps.length co 1 (by omega) (by omega)
              clear hi0 hsz
              obtain ⟨vq, hvq⟩ : ∃ vq : Value, Value.slice (if co = 1 then Ao else Ao.map (·.add (1 * 1))) (taps.length - 1) (co - 1) = vq := ⟨_, rfl⟩
              have hcut2 : ∀ W : World, (Instr.slice 22 (.slice Ao taps.length co) (some (.int .i64 1)) none none).run Try.prog W = .ok vq W := fun W => by rw [hcut W, ← hvq]; rfl
              clear hcut
              have VQ := Aside0.mk hvq
              clear hvq
              go_wp2_with (first
                | ((with_reducible refine gate_callee (f := 117) rfl ?_); refine goesL_ (some 32) rfl rfl Try.func117 (by kernel_rfl) rfl #[.pointer (some ⟨g, 0, none⟩), .int .i64 12] rfl (by (try simp only [List.map_toArray, List.map_cons, List.map_nil]); first | done | rfl) ?_; refine (spec_l1Cur_pick.calls g d a s 12 cc.1 cc.2.1 cc.2.2 w0 _ HI.out.1 HI.out.2.1 B9.out).mono ?_; rintro e wn ⟨rfl, hi_, hb_, hk_⟩; refine ⟨_, rfl, ?_⟩; have n0_ := Aside0.mk (spec_l1Cur_taps.keep HI.out hi_ hb_ hk_); have n1_ := Aside0.mk (Kd.R_keep HO.out hk_ (fun k_ hk1_ e_ => by have h9_ := HI.out.2.2.2.1; rw [← e_] at h9_; exact absurd h9_ (Nat.not_lt.mpr hk1_))); clear HI HO hi_ hb_ hk_; have HI := n0_; have HO := n1_; clear n0_ n1_))
              first | go_ret2 | skip
              exact ⟨_, rfl, (by rw [← VQ.out]; exact Kd.Q_drop (Kd.Q_of_R (spec_l1Cur_taps.rebase HO.out)) e2), HI.out.1, HI.out.2.1, HI.out.2.2.1⟩
            · rw [if_neg e2] at H; exact absurd H (by simp)
          · rw [if_neg e1] at H
            have e1b : (cc.1 == 0) = false := beq_eq_false_iff_ne.mpr e1
            clear e1
            by_cases e3 : cc.1 = 1
            · rw [if_pos e3] at H
              have e3b : (cc.1 == 1) = true := beq_iff_eq.mpr e3
              clear e3
              by_cases e4 : taps.length < 1000000
              · rw [if_pos e4] at H
                have CL := Aside0.mk e4
                clear e4
                simp only [Option.some.injEq, Prod.mk.injEq] at H
                obtain ⟨hT, rfl, rfl, rfl⟩ := H
                have Ny2 := Aside0.mk hT.symm
                clear hT
                go_wp2_with (first
                  | ((with_reducible refine gate_callee (f := 117) rfl ?_); refine goesL_ (some 32) rfl rfl Try.func117 (by kernel_rfl) rfl #[.pointer (some ⟨g, 0, none⟩), .int .i64 12] rfl (by (try simp only [List.map_toArray, List.map_cons, List.map_nil]); first | done | rfl) ?_; refine (spec_l1Cur_pick.calls g d a s 12 cc.1 cc.2.1 cc.2.2 w0 _ HI.out.1 HI.out.2.1 B9.out).mono ?_; rintro e wn ⟨rfl, hi_, hb_, hk_⟩; refine ⟨_, rfl, ?_⟩; have n0_ := Aside0.mk (spec_l1Cur_taps.keep HI.out hi_ hb_ hk_); have n1_ := Aside0.mk (Kd.R_keep HO.out hk_ (fun k_ hk1_ e_ => by have h9_ := HI.out.2.2.2.1; rw [← e_] at h9_; exact absurd h9_ (Nat.not_lt.mpr hk1_))); clear HI HO hi_ hb_ hk_; have HI := n0_; have HO := n1_; clear n0_ n1_)
                  | ((with_reducible refine gate_builtin (b := .append) (xs := #[.tmp 39, .tmp 41]) rfl ?_); at_builtin; refine Kd.R_append (Kd.int .i64) (w0 := w0) w0.heap.size rfl (.tmp 39) (.tmp 41) 22 3 (.int .i64 0) 8 rfl Try.underlying22 info3 rfl (by decide) (by omega) u5 taps n [.int .i64 n] (fun k_ => w.heap.size ≤ k_) (fun _ => False) rfl rfl ?aP (fun _ hk => hk.elim) ?aF ?aO ?aB ?aS ?aL ?_; (case aP => exact rfl); (case aB => exact HI.out.2.1); (case aF => exact fun k_ hk_ => Nat.le_trans HI.out.2.2.1.1 hk_); (case aO => exact (by (with_reducible repeat (first | apply Kd.R_alloc | apply Kd.R_drewN | apply Kd.R_drew)); exact HO.out)); (case aS => exact HI.out.2.1.size); (case aL => have := CL.out; omega); intro v42 w42 ho hb hg hat; rw [← Ny2.out] at ho; have n0_ := Aside0.mk (spec_l1Cur_taps.grown HI.out hg (fun k_ hk_ => HO.out.1 k_ hk_)); have n1_ := Aside0.mk ho; clear HI HO ho hb hg hat; have HI := n0_; have HO := n1_; clear n0_ n1_))
                go_ret2
                exact ⟨_, rfl, Kd.Q_of_R (spec_l1Cur_taps.rebase HO.out), HI.out.1, HI.out.2.1, HI.out.2.2.1⟩
              · rw [if_neg e4] at H; exact absurd H (by simp)
            · rw [if_neg e3] at H
              have e3b : (cc.1 == 1) = false := beq_eq_false_iff_ne.mpr e3
              clear e3
              simp only [Option.some.injEq, Prod.mk.injEq] at H
              obtain ⟨rfl, rfl, rfl, rfl⟩ := H
              go_wp2_with (first
                | ((with_reducible refine gate_callee (f := 117) rfl ?_); refine goesL_ (some 32) rfl rfl Try.func117 (by kernel_rfl) rfl #[.pointer (some ⟨g, 0, none⟩), .int .i64 12] rfl (by (try simp only [List.map_toArray, List.map_cons, List.map_nil]); first | done | rfl) ?_; refine (spec_l1Cur_pick.calls g d a s 12 cc.1 cc.2.1 cc.2.2 w0 _ HI.out.1 HI.out.2.1 B9.out).mono ?_; rintro e wn ⟨rfl, hi_, hb_, hk_⟩; refine ⟨_, rfl, ?_⟩; have n0_ := Aside0.mk (spec_l1Cur_taps.keep HI.out hi_ hb_ hk_); have n1_ := Aside0.mk (Kd.R_keep HO.out hk_ (fun k_ hk1_ e_ => by have h9_ := HI.out.2.2.2.1; rw [← e_] at h9_; exact absurd h9_ (Nat.not_lt.mpr hk1_))); clear HI HO hi_ hb_ hk_; have HI := n0_; have HO := n1_; clear n0_ n1_))
              go_ret2
              exact ⟨_, rfl, Kd.Q_of_R (spec_l1Cur_taps.rebase HO.out), HI.out.1, HI.out.2.1, HI.out.2.2.1⟩

/-! ### spec_DrawRegisterWord: function 60 -/
def spec_DrawRegisterWord.f (k : Nat) (l0 : List Int) : Option (List Int × Int) := (spec_l1Cur_taps.f k l0 0 0).bind fun bt204 => (some (bt204.1, bt204.2.1))
theorem spec_DrawRegisterWord.mono : ∀ a0 k, LeO (spec_DrawRegisterWord.f k a0) (spec_DrawRegisterWord.f (k + 1) a0) := by
  intro a0 k
  unfold spec_DrawRegisterWord.f
  repeat' first
      | (with_reducible exact spec_l1Cur_taps.mono _ _ _ _)
      | (with_reducible exact LeO.refl _)
      | (with_reducible exact LeO.none _)
      | (with_reducible refine LeO.ite ?_ ?_)
      | (with_reducible refine LeO.bind ?_ (fun _ => ?_))
      | exact spec_l1Cur_taps.mono _ _ _ _
      | exact LeO.none _
      | refine LeO.ite ?_ ?_
      | refine LeO.bind ?_ (fun _ => ?_)
set_option maxHeartbeats 8000000 in
set_option maxRecDepth 100000 in
theorem spec_DrawRegisterWord.calls (k : Nat) (A0 : Option Addr) (c0 : Nat) (l0 : List Int) (r1 : List Int) (r2 : Int) (w : World) (hr0 : Kd.C (Kd.int .u8) w A0 l0.length l0) (hc0 : l0.length ≤ c0) (h : spec_DrawRegisterWord.f k l0 = some (r1, r2)) :
    Calls Try.prog 60 #[.slice A0 l0.length c0] w fun e w' => ∃ v0_ : Value, e = .returned (.tuple #[v0_, .int .i64 r2]) ∧ Kd.Q (Kd.int .i64) 3 w' w.heap.size (fun _ => True) v0_ r1 ∧ Below w.heap.size w w' := by
  have hu82 := Try.underlying82
  have HR0 := Aside0.mk hr0
  have HC0 := Aside0.mk hc0
  clear hr0 hc0
  have HB := Aside0.mk (Below.refl w.heap.size w)
  have H : ((spec_l1Cur_taps.f k l0 0 0).bind fun bt204 => (some (bt204.1, bt204.2.1))) = some (r1, r2) := h
  clear h
  replace H := Option.bind_eq_some_iff.mp H
  obtain ⟨⟨t204, t207, t208, t209⟩, A20, H⟩ := H
  replace H : (some (t204, t207)) = some (r1, r2) := H
  have A2 := Aside0.mk A20
  clear A20
  simp only [Option.some.injEq, Prod.mk.injEq] at H
  obtain ⟨rfl, rfl⟩ := H
  go_enter Try.func60, Try.ntmps60
  go_wp2_with (first | ((with_reducible refine gate_dst (N := 7) rfl ?_); refine box_event ?hg (N := 7) ?hd (cs := #[.slice A0 l0.length c0, .int .i64 0, .int .u64 0]) (t := 82) ?hr ?_; (case hd => rfl); (case hg => rfl); (case hr => first | (go_simp; done) | (go_simp; rfl)); intro gb203 hg w3 hbox hb; have n0_ := Aside0.mk (below_step (by repeat (first | (with_reducible first | exact HB.out | apply below_alloc | apply pw_below_drewN | apply below_drew1) | exact HB.out)) hb); have n1_ := Aside0.mk ((⟨_, _, hbox, (by rw [hg]; exact (below_size (by repeat (first | (with_reducible first | exact HB.out | apply below_alloc | apply pw_below_drewN | apply below_drew1) | exact HB.out))) : w.heap.size ≤ gb203), HR0.out⟩ : IsS82 w w3 gb203 l0 0 0)); clear HB; have HB := n0_; have HI203 := n1_; clear n0_ n1_; clear hb hbox hg) | ((with_reducible refine gate_callee (f := 140) rfl ?_); refine goesL_ (some 9) rfl rfl Try.func140 (by kernel_rfl) rfl #[.pointer (some ⟨gb203, 0, none⟩)] rfl (by (try simp only [List.map_toArray, List.map_cons, List.map_nil]); first | done | rfl | (simp only [List.length_drop, List.length_take]; rfl)) ?_; (with_reducible refine (spec_l1Cur_taps.calls k gb203 l0 0 0 t204 t207 t208 t209 w _ ?side1 ?side2 A2.out).mono ?_); (case side1 => repeat (first | (with_reducible first | exact HI203.out | apply IsS82.alloc | apply IsS82.drewN | apply IsS82.drew | apply IsS82.set_1 | apply IsS82.set_2) | exact HI203.out)); (case side2 => repeat (first | (with_reducible first | exact HB.out | apply below_alloc | apply pw_below_drewN | apply below_drew1 | refine below_set ?_ (IsS82.ge HI203.out)) | exact HB.out)); rintro e w4 ⟨v205, rfl, ho0, hi, hb, hk⟩; refine ⟨_, rfl, ?_⟩; have n0_ := Aside0.mk (Kd.Q_lower ho0 (below_size (by repeat (first | (with_reducible first | exact HB.out | apply below_alloc | apply pw_below_drewN | apply below_drew1 | refine below_set ?_ (IsS82.ge HI203.out)) | exact HB.out)))); have n1_ := Aside0.mk (hb); have n2_ := Aside0.mk (hi); clear HB; clear HI203; have HO206 := n0_; have HB := n1_; have HI203 := n2_; clear n0_ n1_ n2_; (try clear hb); (try clear hb2); (try clear hk); (try clear hi); (try clear ho0)))
  go_ret2
  exact ⟨_, by first | rfl | (simp [errW_none, errW_some] <;> rfl) | (simp [*, errW_none, errW_some] <;> rfl), by (with_reducible repeat (first | apply Kd.Q_alloc | apply Kd.Q_drewN | apply Kd.Q_drew)); exact HO206.out, by repeat (first | (with_reducible first | exact HB.out | apply below_alloc | apply pw_below_drewN | apply below_drew1 | refine below_set ?_ (IsS82.ge HI203.out)) | exact HB.out)⟩

/-! ### impl_areTaps: function 141 -/
def impl_areTaps.f (k : Nat) (l0 : List Int) (a1 : Int) : Option (Bool) := (impl_within.f a1 1 10).bind fun t210 => (if t210 = true then (if (l0.length : Int) > 0 then ((impl_increasing.f k l0).bind fun t211 => (if t211 = true then ((impl_allWithin.f k l0 0 (wrap64 (a1 - 1))).bind fun t212 => (if t212 = true then (if 0 < (l0.length : Int) then (some ((rd l0 0) == 0)) else (none)) else (some false))) else (some false))) else (some false)) else (some false))
theorem impl_areTaps.mono : ∀ a0 a1 k, LeO (impl_areTaps.f k a0 a1) (impl_areTaps.f (k + 1) a0 a1) := by
  intro a0 a1 k
  unfold impl_areTaps.f
  repeat' first
      | (with_reducible exact impl_allWithin.mono _ _ _ _)
      | (with_reducible exact impl_increasing.mono _ _)
      | (with_reducible exact LeO.refl _)
      | (with_reducible exact LeO.none _)
      | (with_reducible refine LeO.ite ?_ ?_)
      | (with_reducible refine LeO.bind ?_ (fun _ => ?_))
      | exact impl_allWithin.mono _ _ _ _
      | exact impl_increasing.mono _ _
      | exact LeO.none _
      | refine LeO.ite ?_ ?_
      | refine LeO.bind ?_ (fun _ => ?_)
set_option maxHeartbeats 8000000 in
set_option maxRecDepth 100000 in
theorem impl_areTaps.calls (k : Nat) (A0 : Option Addr) (c0 : Nat) (l0 : List Int) (a1 : Int) (r : Bool) (w : World) (hr0 : Kd.C (Kd.int .i64) w A0 l0.length l0) (hc0 : l0.length ≤ c0) (h : impl_areTaps.f k l0 a1 = some r) :
    Calls Try.prog 141 #[.slice A0 l0.length c0, .int .i64 a1] w fun e w' => e = .returned (.bool r) ∧ Drawn0 w w' := by
  have HR0 := Aside0.mk hr0
  have HC0 := Aside0.mk hc0
  clear hr0 hc0
  have H : ((impl_within.f a1 1 10).bind fun t210 => (if t210 = true then (if (l0.length : Int) > 0 then ((impl_increasing.f k l0).bind fun t211 => (if t211 = true then ((impl_allWithin.f k l0 0 (wrap64 (a1 - 1))).bind fun t212 => (if t212 = true then (if 0 < (l0.length : Int) then (some ((rd l0 0) == 0)) else (none)) else (some false))) else (some false))) else (some false)) else (some false))) = some r := h
  clear h
  replace H := Option.bind_eq_some_iff.mp H
  obtain ⟨t210, A30, H⟩ := H
  replace H : (if t210 = true then (if (l0.length : Int) > 0 then ((impl_increasing.f k l0).bind fun t211 => (if t211 = true then ((impl_allWithin.f k l0 0 (wrap64 (a1 - 1))).bind fun t212 => (if t212 = true then (if 0 < (l0.length : Int) then (some ((rd l0 0) == 0)) else (none)) else (some false))) else (some false))) else (some false)) else (some false)) = some r := H
  have A3 := Aside0.mk A30
  clear A30
  by_cases c4 : t210 = true
  · subst c4
    have H1 : (if (l0.length : Int) > 0 then ((impl_increasing.f k l0).bind fun t211 => (if t211 = true then ((impl_allWithin.f k l0 0 (wrap64 (a1 - 1))).bind fun t212 => (if t212 = true then (if 0 < (l0.length : Int) then (some ((rd l0 0) == 0)) else (none)) else (some false))) else (some false))) else (some false)) = some r := by rw [if_pos rfl] at H; exact H
    clear H
    have H := H1
    clear H1
    by_cases c5 : (l0.length : Int) > 0
    · rw [if_pos c5] at H
      have c5b0 : decide (0 < (l0.length : Int)) = true := decide_eq_true c5
      have c5b1 : decide (0 < l0.length) = true := decide_eq_true (by omega)
      clear c5
      replace H := Option.bind_eq_some_iff.mp H
      obtain ⟨t211, A60, H⟩ := H
      replace H : (if t211 = true then ((impl_allWithin.f k l0 0 (wrap64 (a1 - 1))).bind fun t212 => (if t212 = true then (if 0 < (l0.length : Int) then (some ((rd l0 0) == 0)) else (none)) else (some false))) else (some false)) = some r := H
      have A6 := Aside0.mk A60
      clear A60
      by_cases c7 : t211 = true
      · subst c7
        have H1 : ((impl_allWithin.f k l0 0 (wrap64 (a1 - 1))).bind fun t212 => (if t212 = true then (if 0 < (l0.length : Int) then (some ((rd l0 0) == 0)) else (none)) else (some false))) = some r := by rw [if_pos rfl] at H; exact H
        clear H
        have H := H1
        clear H1
        replace H := Option.bind_eq_some_iff.mp H
        obtain ⟨t212, A80, H⟩ := H
        replace H : (if t212 = true then (if 0 < (l0.length : Int) then (some ((rd l0 0) == 0)) else (none)) else (some false)) = some r := H
        have A8 := Aside0.mk A80
        clear A80
        by_cases c9 : t212 = true
        · subst c9
          have H1 : (if 0 < (l0.length : Int) then (some ((rd l0 0) == 0)) else (none)) = some r := by rw [if_pos rfl] at H; exact H
          clear H
          have H := H1
          clear H1
          by_cases c10 : 0 < (l0.length : Int)
          · rw [if_pos c10] at H
            have c10b0 : decide (0 < (l0.length : Int)) = true := decide_eq_true c10
            have c10b1 : decide (0 < l0.length) = true := decide_eq_true (by omega)
            clear c10
            obtain rfl := Option.some.inj H
            go_enter Try.func141, Try.ntmps141
            go_wp2_with (first | ((with_reducible refine gate_callee (f := 80) rfl ?_); refine goesL_ (some 6) rfl rfl Try.func80 (by kernel_rfl) rfl #[.int .i64 a1, .int .i64 1, .int .i64 10] rfl (by (try simp only [List.map_toArray, List.map_cons, List.map_nil]); first | done | rfl | (simp only [List.length_drop, List.length_take]; rfl)) ?_; (with_reducible refine (impl_within.calls a1 1 10 true _ A3.out).mono ?_); rintro e w' ⟨rfl, ⟨nd, rfl⟩⟩; refine ⟨_, rfl, ?_⟩) | (go_at_call 161; (with_reducible refine (impl_increasing.calls k _ _ l0 true _ ?side1 ?side2 A6.out).mono ?_); (case side1 => repeat (first | exact HR0.out | (with_reducible refine Kd.C_alloc ?_ _) | (with_reducible refine Kd.C_drewN ?_ _) | (with_reducible refine Kd.C_drew ?_))); (case side2 => exact HC0.out); rintro e w' ⟨rfl, ⟨nd, rfl⟩⟩) | (go_at_call 153; (with_reducible refine (impl_allWithin.calls k _ _ l0 0 (wrap64 (a1 - 1)) true _ ?side1 ?side2 A8.out).mono ?_); (case side1 => repeat (first | exact HR0.out | (with_reducible refine Kd.C_alloc ?_ _) | (with_reducible refine Kd.C_drewN ?_ _) | (with_reducible refine Kd.C_drew ?_))); (case side2 => exact HC0.out); rintro e w' ⟨rfl, ⟨nd, rfl⟩⟩; have p213 : 0 ≤ (0 : Int) := (by omega); have q213 : 0 < (l0.length : Int) := of_decide_eq_true (by first | (with_reducible assumption) | assumption); obtain ⟨ad213, e213, hx213_0⟩ := Kd.at_int HR0.out 0 p213 q213; cases e213; have qi213 : (0 < l0.length) = True := eq_true (by omega); (try rw [show ((0 : Int)).toNat = 0 from rfl] at hx213_0); (try rw [Addr.add_zero'] at hx213_0); replace p213 := eq_true p213; replace q213 := eq_true q213))
            go_ret
            exact ⟨by first | rfl | (simp; done) | (simp [*]; done), by repeat (first | exact Drawn0.refl _ | apply Drawn0.step)⟩
          · rw [if_neg c10] at H
            exact absurd H (by simp)
        · replace c9 := Bool.eq_false_iff.mpr c9
          subst c9
          have H1 : (some false) = some r := by rw [if_neg (show ¬ (false = true) by decide)] at H; exact H
          clear H
          have H := H1
          clear H1
          obtain rfl := Option.some.inj H
          go_enter Try.func141, Try.ntmps141
          go_wp2_with (first | ((with_reducible refine gate_callee (f := 80) rfl ?_); refine goesL_ (some 6) rfl rfl Try.func80 (by kernel_rfl) rfl #[.int .i64 a1, .int .i64 1, .int .i64 10] rfl (by (try simp only [List.map_toArray, List.map_cons, List.map_nil]); first | done | rfl | (simp only [List.length_drop, List.length_take]; rfl)) ?_; (with_reducible refine (impl_within.calls a1 1 10 true _ A3.out).mono ?_); rintro e w' ⟨rfl, ⟨nd, rfl⟩⟩; refine ⟨_, rfl, ?_⟩) | (go_at_call 161; (with_reducible refine (impl_increasing.calls k _ _ l0 true _ ?side1 ?side2 A6.out).mono ?_); (case side1 => repeat (first | exact HR0.out | (with_reducible refine Kd.C_alloc ?_ _) | (with_reducible refine Kd.C_drewN ?_ _) | (with_reducible refine Kd.C_drew ?_))); (case side2 => exact HC0.out); rintro e w' ⟨rfl, ⟨nd, rfl⟩⟩) | (go_at_call 153; (with_reducible refine (impl_allWithin.calls k _ _ l0 0 (wrap64 (a1 - 1)) false _ ?side1 ?side2 A8.out).mono ?_); (case side1 => repeat (first | exact HR0.out | (with_reducible refine Kd.C_alloc ?_ _) | (with_reducible refine Kd.C_drewN ?_ _) | (with_reducible refine Kd.C_drew ?_))); (case side2 => exact HC0.out); rintro e w' ⟨rfl, ⟨nd, rfl⟩⟩))
          go_ret
          exact ⟨by first | rfl | (simp; done) | (simp [*]; done), by repeat (first | exact Drawn0.refl _ | apply Drawn0.step)⟩
      · replace c7 := Bool.eq_false_iff.mpr c7
        subst c7
        have H1 : (some false) = some r := by rw [if_neg (show ¬ (false = true) by decide)] at H; exact H
        clear H
        have H := H1
        clear H1
        obtain rfl := Option.some.inj H
        go_enter Try.func141, Try.ntmps141
        go_wp2_with (first | ((with_reducible refine gate_callee (f := 80) rfl ?_); refine goesL_ (some 6) rfl rfl Try.func80 (by kernel_rfl) rfl #[.int .i64 a1, .int .i64 1, .int .i64 10] rfl (by (try simp only [List.map_toArray, List.map_cons, List.map_nil]); first | done | rfl | (simp only [List.length_drop, List.length_take]; rfl)) ?_; (with_reducible refine (impl_within.calls a1 1 10 true _ A3.out).mono ?_); rintro e w' ⟨rfl, ⟨nd, rfl⟩⟩; refine ⟨_, rfl, ?_⟩) | (go_at_call 161; (with_reducible refine (impl_increasing.calls k _ _ l0 false _ ?side1 ?side2 A6.out).mono ?_); (case side1 => repeat (first | exact HR0.out | (with_reducible refine Kd.C_alloc ?_ _) | (with_reducible refine Kd.C_drewN ?_ _) | (with_reducible refine Kd.C_drew ?_))); (case side2 => exact HC0.out); rintro e w' ⟨rfl, ⟨nd, rfl⟩⟩))
        go_ret
        exact ⟨by first | rfl | (simp; done) | (simp [*]; done), by repeat (first | exact Drawn0.refl _ | apply Drawn0.step)⟩
    · rw [if_neg c5] at H
      have c5b0 : decide (0 < (l0.length : Int)) = false := decide_eq_false c5
      have c5b1 : decide (0 < l0.length) = false := decide_eq_false (by omega)
      clear c5
      obtain rfl := Option.some.inj H
      go_enter Try.func141, Try.ntmps141
      go_wp2_with (first | ((with_reducible refine gate_callee (f := 80) rfl ?_); refine goesL_ (some 6) rfl rfl Try.func80 (by kernel_rfl) rfl #[.int .i64 a1, .int .i64 1, .int .i64 10] rfl (by (try simp only [List.map_toArray, List.map_cons, List.map_nil]); first | done | rfl | (simp only [List.length_drop, List.length_take]; rfl)) ?_; (with_reducible refine (impl_within.calls a1 1 10 true _ A3.out).mono ?_); rintro e w' ⟨rfl, ⟨nd, rfl⟩⟩; refine ⟨_, rfl, ?_⟩))
      go_ret
      exact ⟨by first | rfl | (simp; done) | (simp [*]; done), by repeat (first | exact Drawn0.refl _ | apply Drawn0.step)⟩
  · replace c4 := Bool.eq_false_iff.mpr c4
    subst c4
    have H1 : (some false) = some r := by rw [if_neg (show ¬ (false = true) by decide)] at H; exact H
    clear H
    have H := H1
    clear H1
    obtain rfl := Option.some.inj H
    go_enter Try.func141, Try.ntmps141
    go_wp2_with (first | ((with_reducible refine gate_callee (f := 80) rfl ?_); refine goesL_ (some 6) rfl rfl Try.func80 (by kernel_rfl) rfl #[.int .i64 a1, .int .i64 1, .int .i64 10] rfl (by (try simp only [List.map_toArray, List.map_cons, List.map_nil]); first | done | rfl | (simp only [List.length_drop, List.length_take]; rfl)) ?_; (with_reducible refine (impl_within.calls a1 1 10 false _ A3.out).mono ?_); rintro e w' ⟨rfl, ⟨nd, rfl⟩⟩; refine ⟨_, rfl, ?_⟩))
    go_ret
    exact ⟨by first | rfl | (simp; done) | (simp [*]; done), by repeat (first | exact Drawn0.refl _ | apply Drawn0.step)⟩

end Go.Proofs.Ytdnbeekoefmbcaa.PFnRegisters
