-- Written for this claim by a copy of the print that meets some functions by contracts of this session.
import Derived.Test.YtdnbeekoefmbcaaPFnBruijnWordsx0
import Derived.Test.YtdnbeekoefmbcaaPFnBruijnWordsx1
import Derived.Test.YtdnbeekoefmbcaaPFnBruijnWordsx3
namespace Go.Proofs.Ytdnbeekoefmbcaa.PFnBruijnWords
open Go.RowKit Go.Proofs.YtdnbeekoefmbcaaW.PrintWords Go.Proofs.YtdnbeekoefmbcaaW.PrintLast Go.Proofs.YtdnbeekoefmbcaaW.PrintMore
attribute [local go_sem] max2_int min2_int max_two min_two max_three min_three max_four min_four   -- for this text's walks alone
set_option linter.unusedVariables false
set_option linter.unusedSimpArgs false

/-! ### spec_lyNext: function 133 -/
mutual
def spec_lyNext.l0 : Nat → List Int → Int → Int → List Int → Option (List Int)
  | 0, _, _, _, _ => none
  | k + 1, x0, x1, x2, x7 => if (x7.length : Int) < x1 then (if (x0.length : Int) = 0 then (none) else (if 0 ≤ ((x7.length : Int) % (x0.length : Int)) then (if ((x7.length : Int) % (x0.length : Int)) < (x0.length : Int) then (if x7.length < 17592186044416 then (spec_lyNext.l0 k x0 x1 x2 (x7 ++ [rd x0 ((x7.length : Int) % (x0.length : Int))])) else (none)) else (none)) else (none))) else (spec_lyNext.l1 k x2 x7)
def spec_lyNext.l1 : Nat → Int → List Int → Option (List Int)
  | 0, _, _ => none
  | k + 1, x2, x7 => if (x7.length : Int) > 0 then (if 0 ≤ (wrap64 ((x7.length : Int) - 1)) then (if (wrap64 ((x7.length : Int) - 1)) < (x7.length : Int) then (if (rd x7 (wrap64 ((x7.length : Int) - 1))) = (wrap64 (x2 - 1)) then (if (wrap64 ((x7.length : Int) - 1)) ≤ (x7.length : Int) then (spec_lyNext.l1 k x2 (x7.take ((wrap64 ((x7.length : Int) - 1)) : Int).toNat)) else (none)) else (some (x7.set ((wrap64 ((x7.length : Int) - 1)) : Int).toNat (wrap64 ((rd x7 (wrap64 ((x7.length : Int) - 1))) + 1))))) else (none)) else (none)) else (some x7)
end
def spec_lyNext.f (k : Nat) (l0 : List Int) (a1 : Int) (a2 : Int) : Option (List Int) := spec_lyNext.l0 k l0 a1 a2 ([] : List Int)
theorem spec_lyNext.mono_l : ∀ k, (∀ y0 y1 y2 y3, LeO (spec_lyNext.l0 k y0 y1 y2 y3) (spec_lyNext.l0 (k + 1) y0 y1 y2 y3)) ∧ (∀ y0 y1, LeO (spec_lyNext.l1 k y0 y1) (spec_lyNext.l1 (k + 1) y0 y1))
  | 0 => ⟨fun _ _ _ _ r h => by simp [spec_lyNext.l0] at h, fun _ _ r h => by simp [spec_lyNext.l1] at h⟩
  | k + 1 => by
    obtain ⟨ih0, ih1⟩ := spec_lyNext.mono_l k
    refine ⟨?_, ?_⟩
    · intro y0 y1 y2 y3
      unfold spec_lyNext.l0
      repeat' first
      | (with_reducible exact ih0 _ _ _ _)
      | (with_reducible exact ih1 _ _)
      | (with_reducible exact LeO.refl _)
      | (with_reducible exact LeO.none _)
      | (with_reducible refine LeO.ite ?_ ?_)
      | (with_reducible refine LeO.bind ?_ (fun _ => ?_))
      | exact ih0 _ _ _ _
      | exact ih1 _ _
      | exact LeO.none _
      | refine LeO.ite ?_ ?_
      | refine LeO.bind ?_ (fun _ => ?_)
    · intro y0 y1
      unfold spec_lyNext.l1
      repeat' first
      | (with_reducible exact ih0 _ _ _ _)
      | (with_reducible exact ih1 _ _)
      | (with_reducible exact LeO.refl _)
      | (with_reducible exact LeO.none _)
      | (with_reducible refine LeO.ite ?_ ?_)
      | (with_reducible refine LeO.bind ?_ (fun _ => ?_))
      | exact ih0 _ _ _ _
      | exact ih1 _ _
      | exact LeO.none _
      | refine LeO.ite ?_ ?_
      | refine LeO.bind ?_ (fun _ => ?_)
theorem spec_lyNext.mono : ∀ a0 a1 a2 k, LeO (spec_lyNext.f k a0 a1 a2) (spec_lyNext.f (k + 1) a0 a1 a2) := by
  intro a0 a1 a2 k
  obtain ⟨ih0, ih1⟩ := spec_lyNext.mono_l k
  unfold spec_lyNext.f
  repeat' first
      | (with_reducible exact ih0 _ _ _ _)
      | (with_reducible exact ih1 _ _)
      | (with_reducible exact LeO.refl _)
      | (with_reducible exact LeO.none _)
      | (with_reducible refine LeO.ite ?_ ?_)
      | (with_reducible refine LeO.bind ?_ (fun _ => ?_))
      | exact ih0 _ _ _ _
      | exact ih1 _ _
      | exact LeO.none _
      | refine LeO.ite ?_ ?_
      | refine LeO.bind ?_ (fun _ => ?_)
set_option maxHeartbeats 8000000 in
set_option maxRecDepth 100000 in
theorem spec_lyNext.calls (k : Nat) (A0 : Option Addr) (c0 : Nat) (l0 : List Int) (a1 : Int) (a2 : Int) (r : List Int) (w : World) (hr0 : Kd.C (Kd.int .i64) w A0 l0.length l0) (hc0 : l0.length ≤ c0) (h : spec_lyNext.f k l0 a1 a2 = some r) :
    Calls Try.prog 133 #[.slice A0 l0.length c0, .int .i64 a1, .int .i64 a2] w fun e w' => ∃ v0_ : Value, e = .returned (v0_) ∧ Kd.R (Kd.int .i64) 3 w' w.heap.size (fun _ => True) v0_ r ∧ Below w.heap.size w w' := by
  have HR0 := Aside0.mk hr0
  have HC0 := Aside0.mk hc0
  clear hr0 hc0
  have HB := Aside0.mk (Below.refl w.heap.size w)
  have H : (spec_lyNext.l0 k l0 a1 a2 ([] : List Int)) = some r := h
  clear h
  have H' := Aside0.mk H
  clear H
  go_enter Try.func133, Try.ntmps133
  go_wp2
  go_loopg [7] k (fun kq v7 w' => ∃ (x7_1 : List Int), Aside0 (spec_lyNext.l0 kq l0 a1 a2 x7_1 = some r) ∧ Aside0 (kq ≤ k) ∧ Aside0 (Kd.R (Kd.int .i64) 3 w' w.heap.size (fun _ => True) v7 x7_1) ∧ Aside0 (Below w.heap.size w w'))
  case atStart => exact ⟨(([] : List Int)), H', ⟨Nat.le_refl _⟩, ⟨by first | exact Kd.R_nil _ _ _ _ _ | exact Kd.N_nil _ _ _ _ _ | exact Kd.V_nil _ _ _ _ _ | exact Kd.Q_nil _ _ _ _ _ | exact Kd.S_nil _ _ _ _ _⟩, ⟨by repeat (first | (with_reducible first | exact HB.out | apply below_alloc | apply pw_below_drewN | apply below_drew1) | exact HB.out)⟩⟩
  case round =>
    clear H'
    try clear c1
    try clear p2
    obtain ⟨x7_1, HA, HK1, HO_7, HB⟩ := hrel
    cases gk with
    | zero => exact absurd HA.out (by simp [spec_lyNext.l0])
    | succ k1 =>
      have H := HA.out
      clear HA
      simp only [spec_lyNext.l0] at H
      by_cases c4 : (x7_1.length : Int) < a1
      · rw [if_pos c4] at H
        have c4b0 : decide ((x7_1.length : Int) < a1) = true := decide_eq_true c4
        clear c4
        by_cases c5 : (l0.length : Int) = 0
        · rw [if_pos c5] at H
          exact absurd H (by simp)
        · rw [if_neg c5] at H
          have c5b0 : ((l0.length : Int) == 0) = false := beq_eq_false_iff_ne.mpr c5
          have c5b1 : ((l0.length : Int) != 0) = true := bne_iff_ne.mpr c5
          have c5b2 : ¬ (l0 = []) := fun h_ => c5 (by rw [h_]; rfl)
          obtain ⟨ji6, hji6⟩ : ∃ j_ : Int, ((x7_1.length : Int) % (l0.length : Int)) = j_ := ⟨_, rfl⟩
          replace H : (if 0 ≤ (ji6) then (if (ji6) < (l0.length : Int) then (if x7_1.length < 17592186044416 then (spec_lyNext.l0 k1 l0 a1 a2 (x7_1 ++ [rd l0 (ji6)])) else (none)) else (none)) else (none)) = some r := by first | (rw [hji6] at H; exact H) | (simp only [hji6] at H ⊢; exact H)
          by_cases c7 : 0 ≤ (ji6)
          · rw [if_pos c7] at H
            have c7b0 : decide (0 ≤ (ji6)) = true := decide_eq_true c7
            clear c7
            by_cases c8 : (ji6) < (l0.length : Int)
            · rw [if_pos c8] at H
              have c8b0 : decide ((ji6) < (l0.length : Int)) = true := decide_eq_true c8
              clear c8
              by_cases c9 : x7_1.length < 17592186044416
              · rw [if_pos c9] at H
                have LMc9 := Aside0.mk c9
                clear c9
                obtain ⟨y205, hy205⟩ : ∃ y_ : List Int, y_ = (x7_1 ++ [rd l0 (ji6)]) := ⟨_, rfl⟩
                replace H : (spec_lyNext.l0 k1 l0 a1 a2 y205) = some r := by first | (rw [hy205]; with_reducible exact H) | (have H2_ := (Option.bind_some _ _).symm.trans H; rw [hy205]; with_reducible exact H2_) | (have H2_ := (Option.bind_some _ _).symm.trans H; with_reducible exact H2_) | with_reducible exact H | (rw [hy205]; exact H) | exact H
                have Ny205 := Aside0.mk hy205
                clear hy205
                have H' := Aside0.mk H
                clear H
                obtain ⟨Ao10, co10, eo10⟩ := Kd.R_slice HO_7.out
                subst eo10
                have p204 : 0 ≤ ((ji6) : Int) := of_decide_eq_true (by first | (with_reducible assumption) | assumption)
                have q204 : (ji6) < (l0.length : Int) := of_decide_eq_true (by first | (with_reducible assumption) | assumption)
                obtain ⟨ad204, e204, hx204_0⟩ := Kd.at_int HR0.out (ji6) p204 q204
                cases e204
                replace hx204_0 := (HB.out.cell (World.block_lt_of_cell? w _ hx204_0)).trans hx204_0
                replace p204 := eq_true p204
                replace q204 := eq_true q204
                go_wp2_with (first | ((with_reducible refine gate_builtin (b := .append) (xs := #[.tmp 12, .tmp 21]) rfl ?_); (try (refine gate_guard (by rfl) ?_; dsimp only)); at_builtin; refine Kd.R_append (Kd.int .i64) (w0 := w) w.heap.size rfl (.tmp 12) (.tmp 21) 22 3 (.int .i64 0) 8 rfl Try.underlying22 info3 rfl (by decide) (by omega) (.slice Ao10 x7_1.length co10) x7_1 (rd l0 (ji6)) [.int .i64 (rd l0 (ji6))] (fun _ => True) (fun _ => False) rfl rfl ?aP (fun _ hk => hk.elim) ?aF ?aO ?aB ?aS ?aL ?_; (case aP => exact rfl); (case aB => exact (by repeat (first | (with_reducible first | exact HB.out | apply below_alloc | apply pw_below_drewN | apply below_drew1) | exact HB.out))); (case aF => exact (fun _ _ => trivial)); (case aO => exact (by (with_reducible repeat (first | apply Kd.R_alloc | apply Kd.R_drewN | apply Kd.R_drew)); exact HO_7.out)); (case aS => exact (below_size (by repeat (first | (with_reducible first | exact HB.out | apply below_alloc | apply pw_below_drewN | apply below_drew1) | exact HB.out)))); (case aL => have := LMc9.out; omega); intro v206 w11 ho hb hg hat; rw [← Ny205.out] at ho; have n0_ := Aside0.mk (hb); have n1_ := Aside0.mk (ho); clear HB; clear HO_7; have HB := n0_; have HO207 := n1_; clear n0_ n1_; clear ho hb hg hat))
                go_roundg k1
                case measure => have := HK1.out; omega
                case rel => exact ⟨(y205), H', ⟨by have := HK1.out; omega⟩, ⟨by (with_reducible repeat (first | apply Kd.R_alloc | apply Kd.R_drewN | apply Kd.R_drew)); exact HO207.out⟩, ⟨by repeat (first | (with_reducible first | exact HB.out | apply below_alloc | apply pw_below_drewN | apply below_drew1) | exact HB.out)⟩⟩
              · rw [if_neg c9] at H
                exact absurd H (by simp)
            · rw [if_neg c8] at H
              exact absurd H (by simp)
          · rw [if_neg c7] at H
            exact absurd H (by simp)
      · rw [if_neg c4] at H
        have c4b0 : decide ((x7_1.length : Int) < a1) = false := decide_eq_false c4
        clear c4
        have H' := Aside0.mk H
        clear H
        obtain ⟨Ao12, co12, eo12⟩ := Kd.R_slice HO_7.out
        subst eo12
        go_wp2
        go_loopg [7] k1 (fun kq v7 w' => ∃ (x7_2 : List Int), Aside0 (spec_lyNext.l1 kq a2 x7_2 = some r) ∧ Aside0 (kq ≤ k1) ∧ Aside0 (Kd.R (Kd.int .i64) 3 w' w.heap.size (fun _ => True) v7 x7_2) ∧ Aside0 (Below w.heap.size w w'))
        case atStart => exact ⟨(x7_1), H', ⟨Nat.le_refl _⟩, ⟨by (with_reducible repeat (first | apply Kd.R_alloc | apply Kd.R_drewN | apply Kd.R_drew)); exact HO_7.out⟩, ⟨by repeat (first | (with_reducible first | exact HB.out | apply below_alloc | apply pw_below_drewN | apply below_drew1) | exact HB.out)⟩⟩
        case round =>
          clear H'
          try clear c1
          try clear p2
          try clear q2
          try clear hx2
          try clear c4
          try clear c4b0
          try clear c5
          try clear c5b0
          try clear c5b1
          try clear c5b2
          try clear c7
          try clear c7b0
          try clear c8
          try clear c8b0
          try clear c9
          try clear hx204_0
          try clear p2
          try clear p204
          try clear q204
          obtain ⟨x7_2, HA, HK2, HO_7, HB⟩ := hrel
          cases gk with
          | zero => exact absurd HA.out (by simp [spec_lyNext.l1])
          | succ k2 =>
            have H := HA.out
            clear HA
            simp only [spec_lyNext.l1] at H
            by_cases c13 : (x7_2.length : Int) > 0
            · rw [if_pos c13] at H
              have c13b0 : decide (0 < (x7_2.length : Int)) = true := decide_eq_true c13
              have c13b1 : decide (0 < x7_2.length) = true := decide_eq_true (by omega)
              clear c13
              obtain ⟨ji14, hji14⟩ : ∃ j_ : Int, (wrap64 ((x7_2.length : Int) - 1)) = j_ := ⟨_, rfl⟩
              replace H : (if 0 ≤ (ji14) then (if (ji14) < (x7_2.length : Int) then (if (rd x7_2 (ji14)) = (wrap64 (a2 - 1)) then (if (ji14) ≤ (x7_2.length : Int) then (spec_lyNext.l1 k2 a2 (x7_2.take ((ji14) : Int).toNat)) else (none)) else (some (x7_2.set ((ji14) : Int).toNat (wrap64 ((rd x7_2 (ji14)) + 1))))) else (none)) else (none)) = some r := by first | (rw [hji14] at H; exact H) | (simp only [hji14] at H ⊢; exact H)
              have hji14w : (IntKind.i64.wrap ((x7_2.length : Int) - 1)) = ji14 := (i64_w _).trans hji14
              by_cases c15 : 0 ≤ (ji14)
              · rw [if_pos c15] at H
                have c15b0 : decide (0 ≤ (ji14)) = true := decide_eq_true c15
                clear c15
                by_cases c16 : (ji14) < (x7_2.length : Int)
                · rw [if_pos c16] at H
                  have c16b0 : decide ((ji14) < (x7_2.length : Int)) = true := decide_eq_true c16
                  clear c16
                  by_cases c17 : (rd x7_2 (ji14)) = (wrap64 (a2 - 1))
                  · rw [if_pos c17] at H
                    have c17b0 : ((rd x7_2 (ji14)) == (wrap64 (a2 - 1))) = true := beq_iff_eq.mpr c17
                    have c17b1 : ((rd x7_2 (ji14)) != (wrap64 (a2 - 1))) = false := bne_eq_false_iff_eq.mpr c17
                    clear c17
                    by_cases c18 : (ji14) ≤ (x7_2.length : Int)
                    · rw [if_pos c18] at H
                      have c18b0 := eq_true c18
                      have c18b1 : decide ((ji14) ≤ (x7_2.length : Int)) = true := decide_eq_true c18
                      clear c18
                      obtain ⟨y209, hy209⟩ : ∃ y_ : List Int, y_ = (x7_2.take ((ji14) : Int).toNat) := ⟨_, rfl⟩
                      replace H : (spec_lyNext.l1 k2 a2 y209) = some r := by first | (rw [hy209]; with_reducible exact H) | (have H2_ := (Option.bind_some _ _).symm.trans H; rw [hy209]; with_reducible exact H2_) | (have H2_ := (Option.bind_some _ _).symm.trans H; with_reducible exact H2_) | with_reducible exact H | (rw [hy209]; exact H) | exact H
                      have Ny209 := Aside0.mk hy209
                      clear hy209
                      have H' := Aside0.mk H
                      clear H
                      obtain ⟨Ao19, co19, eo19⟩ := Kd.R_slice HO_7.out
                      subst eo19
                      have p208 : 0 ≤ ((ji14) : Int) := of_decide_eq_true (by first | (with_reducible assumption) | assumption)
                      have q208 : (ji14) < (x7_2.length : Int) := of_decide_eq_true (by first | (with_reducible assumption) | assumption)
                      obtain ⟨ad208, e208, hx208_0⟩ := Kd.at_int (Kd.R_reads' HO_7.out).2.2 (ji14) p208 q208
                      cases e208
                      replace p208 := eq_true p208
                      replace q208 := eq_true q208
                      have q20 : ((ji14) : Int) ≤ ((x7_2.length : Int) : Int) := of_decide_eq_true (by first | (with_reducible assumption) | assumption)
                      obtain ⟨i020, hi020, _, hsz20, _⟩ := info_parts info3
                      have hcut20 := cut_to (P := Try.prog) 22 3 .i64 Try.underlying22 hi020 (some ad208) x7_2.length co19 (ji14) (of_decide_eq_true (by first | (with_reducible assumption) | assumption)) q20 (Kd.R_reads' HO_7.out).2.1
                      have hr20 := Kd.R_take (m := ((ji14) : Int).toNat) HO_7.out (by omega)
                      have hy20 : y209.length = ((ji14) : Int).toNat := (by rw [Ny209.out, List.length_take]; omega)
                      rw [← Ny209.out] at hr20
                      rw [← hy20] at hr20 hcut20
                      clear hy20 hi020 hsz20 HO_7
                      have HO211 := Aside0.mk hr20
                      clear hr20
                      replace q20 := eq_true q20
                      go_wp2
                      go_roundg k2
                      case measure => have := HK1.out; have := HK2.out; omega
                      case rel => exact ⟨(y209), H', ⟨by have := HK1.out; have := HK2.out; omega⟩, ⟨by (with_reducible repeat (first | apply Kd.R_alloc | apply Kd.R_drewN | apply Kd.R_drew)); exact HO211.out⟩, ⟨by repeat (first | (with_reducible first | exact HB.out | apply below_alloc | apply pw_below_drewN | apply below_drew1) | exact HB.out)⟩⟩
                    · rw [if_neg c18] at H
                      exact absurd H (by simp)
                  · rw [if_neg c17] at H
                    have c17b0 : ((rd x7_2 (ji14)) == (wrap64 (a2 - 1))) = false := beq_eq_false_iff_ne.mpr c17
                    have c17b1 : ((rd x7_2 (ji14)) != (wrap64 (a2 - 1))) = true := bne_iff_ne.mpr c17
                    obtain ⟨y213, hy213⟩ : ∃ y_ : List Int, y_ = (x7_2.set ((ji14) : Int).toNat (wrap64 ((rd x7_2 (ji14)) + 1))) := ⟨_, rfl⟩
                    replace H : (some y213) = some r := by first | (rw [hy213]; with_reducible exact H) | (have H2_ := (Option.bind_some _ _).symm.trans H; rw [hy213]; with_reducible exact H2_) | (have H2_ := (Option.bind_some _ _).symm.trans H; with_reducible exact H2_) | with_reducible exact H | (rw [hy213]; exact H) | exact H
                    have Ny213 := Aside0.mk hy213
                    clear hy213
                    obtain rfl := Option.some.inj H
                    obtain ⟨Ao22, co22, eo22⟩ := Kd.R_slice HO_7.out
                    subst eo22
                    have p208 : 0 ≤ ((ji14) : Int) := of_decide_eq_true (by first | (with_reducible assumption) | assumption)
                    have q208 : (ji14) < (x7_2.length : Int) := of_decide_eq_true (by first | (with_reducible assumption) | assumption)
                    obtain ⟨ad208, e208, hx208_0⟩ := Kd.at_int (Kd.R_reads' HO_7.out).2.2 (ji14) p208 q208
                    cases e208
                    replace p208 := eq_true p208
                    replace q208 := eq_true q208
                    have p212 : 0 ≤ ((ji14) : Int) := of_decide_eq_true (by first | (with_reducible assumption) | assumption)
                    have q212 : (ji14) < (x7_2.length : Int) := of_decide_eq_true (by first | (with_reducible assumption) | assumption)
                    obtain ⟨ad212, e212, hx212_0⟩ := Kd.at_int (Kd.R_reads' HO_7.out).2.2 (ji14) p212 q212
                    obtain rfl : ad208 = ad212 := (by injection e212)
                    replace p212 := eq_true p212
                    replace q212 := eq_true q212
                    have p21 : 0 ≤ ((ji14) : Int) := of_decide_eq_true (by first | (with_reducible assumption) | assumption)
                    have q21 : ((ji14) : Int) < ((x7_2.length : Int) : Int) := of_decide_eq_true (by first | (with_reducible assumption) | assumption)
                    obtain ⟨go21, co21, eo21, gb21, gl21, cl21, HG21⟩ := Kd.R_form HO_7.out (by omega)
                    (first | cases eo21 | (injection eo21 with ea_ en_ ec_; (first | subst ea_ | (injection ea_ with ea_; subst ea_)); subst ec_; clear en_))
                    have GB21 := Aside0.mk gb21
                    have GG21 := Aside0.mk HG21
                    clear gb21 gl21 HG21
                    (first | simp only [add_plain] at hx208_0 | skip)
                    (first | simp only [add_plain] at hx212_0 | skip)
                    obtain ⟨hx21_0, hf21_0⟩ := Kd.R_celln 0 HO_7.out ((ji14) : Int) p21 q21
                    replace p21 := eq_true p21
                    replace q21 := eq_true q21
                    have HP23 := Kd.R_putg HO_7.out ((ji14) : Int) (wrap64 ((rd x7_2 (ji14)) + 1))
                    go_wp2_with (first | ((with_reducible refine gate_store (t := 3) (p := 52) rfl ?_); refine store_event (t := 3) (p := 52) (v := ?vo_w24) (w1 := (wr.setCell ⟨go21, ((ji14) : Int).toNat, none⟩ (.int .i64 (wrap64 ((rd x7_2 (ji14)) + 1))))) ?hg ?ho ?hn ?hr ?_; (case ho => rfl); (case hg => rfl); (case hn => rfl); (case hr => first | (go_simp; done) | (go_simp; rfl)); intro w24 hw; have hg : wr.grownBy w24 (some go21) := (by rw [hw]; exact HP23.2); have hp_ : Kd.R (Kd.int .i64) 3 w24 w.heap.size (fun _ => True) (.slice (some ⟨go21, 0, none⟩) x7_2.length co22) y213 := (by rw [hw, Ny213.out]; exact HP23.1); clear HP23; have n0_ := Aside0.mk (hp_); have n1_ := Aside0.mk ((by rw [hw]; exact below_set (HB.out) GB21.out : Below w.heap.size w w24)); clear HO_7; clear HB; have HO_7 := n0_; have HB := n1_; clear n0_ n1_; clear hg hw hp_))
                    go_ret
                    exact ⟨_, by first | rfl | (simp [errW_none, errW_some] <;> rfl) | (simp only [← hji14]; first | rfl | (simp [errW_none, errW_some] <;> rfl)) | (simp [*, errW_none, errW_some] <;> rfl), by (with_reducible repeat (first | apply Kd.R_alloc | apply Kd.R_drewN | apply Kd.R_drew)); exact HO_7.out, by repeat (first | (with_reducible first | exact HB.out | apply below_alloc | apply pw_below_drewN | apply below_drew1) | exact HB.out)⟩
                · rw [if_neg c16] at H
                  exact absurd H (by simp)
              · rw [if_neg c15] at H
                exact absurd H (by simp)
            · rw [if_neg c13] at H
              have c13b0 : decide (0 < (x7_2.length : Int)) = false := decide_eq_false c13
              have c13b1 : decide (0 < x7_2.length) = false := decide_eq_false (by omega)
              clear c13
              obtain rfl := Option.some.inj H
              obtain ⟨Ao25, co25, eo25⟩ := Kd.R_slice HO_7.out
              subst eo25
              go_wp2
              go_ret
              exact ⟨_, by first | rfl | (simp [errW_none, errW_some] <;> rfl) | (simp [*, errW_none, errW_some] <;> rfl), by (with_reducible repeat (first | apply Kd.R_alloc | apply Kd.R_drewN | apply Kd.R_drew)); exact HO_7.out, by repeat (first | (with_reducible first | exact HB.out | apply below_alloc | apply pw_below_drewN | apply below_drew1) | exact HB.out)⟩

/-! ### spec_LeastBruijn: function 53 -/
def spec_LeastBruijn.l0 : Nat → Int → Int → List Int → List Int → Option (List Int × Bool)
  | 0, _, _, _, _ => none
  | k + 1, x0, x1, x6, x7 => if (x7.length : Int) > 0 then (if (x7.length : Int) = 0 then (none) else (if (Int.tmod x0 (x7.length : Int)) = 0 then (if x6.length + x7.length < 17592186044416 then ((spec_lyNext.f k x7 x0 x1).bind fun t221 => (spec_LeastBruijn.l0 k x0 x1 (x6 ++ x7) t221)) else (none)) else ((spec_lyNext.f k x7 x0 x1).bind fun t224 => (spec_LeastBruijn.l0 k x0 x1 x6 t224)))) else (some (x6, true))
def spec_LeastBruijn.f (k : Nat) (a0 : Int) (a1 : Int) : Option (List Int × Bool) := (spec_brKind.f k a0 a1).bind fun t214 => (if t214 = true then (spec_LeastBruijn.l0 k a0 a1 ([] : List Int) (([0] : List Int))) else (some (([] : List Int), false)))
theorem spec_LeastBruijn.mono_l : ∀ k, (∀ y0 y1 y2 y3, LeO (spec_LeastBruijn.l0 k y0 y1 y2 y3) (spec_LeastBruijn.l0 (k + 1) y0 y1 y2 y3))
  | 0 => fun _ _ _ _ r h => by simp [spec_LeastBruijn.l0] at h
  | k + 1 => by
    have ih0 := spec_LeastBruijn.mono_l k
    · intro y0 y1 y2 y3
      unfold spec_LeastBruijn.l0
      repeat' first
      | (with_reducible exact ih0 _ _ _ _)
      | (with_reducible exact spec_brKind.mono _ _ _)
      | (with_reducible exact spec_lyNext.mono _ _ _ _)
      | (with_reducible exact LeO.refl _)
      | (with_reducible exact LeO.none _)
      | (with_reducible refine LeO.ite ?_ ?_)
      | (with_reducible refine LeO.bind ?_ (fun _ => ?_))
      | exact ih0 _ _ _ _
      | exact spec_brKind.mono _ _ _
      | exact spec_lyNext.mono _ _ _ _
      | exact LeO.none _
      | refine LeO.ite ?_ ?_
      | refine LeO.bind ?_ (fun _ => ?_)
theorem spec_LeastBruijn.mono : ∀ a0 a1 k, LeO (spec_LeastBruijn.f k a0 a1) (spec_LeastBruijn.f (k + 1) a0 a1) := by
  intro a0 a1 k
  have ih0 := spec_LeastBruijn.mono_l k
  unfold spec_LeastBruijn.f
  repeat' first
      | (with_reducible exact ih0 _ _ _ _)
      | (with_reducible exact spec_brKind.mono _ _ _)
      | (with_reducible exact spec_lyNext.mono _ _ _ _)
      | (with_reducible exact LeO.refl _)
      | (with_reducible exact LeO.none _)
      | (with_reducible refine LeO.ite ?_ ?_)
      | (with_reducible refine LeO.bind ?_ (fun _ => ?_))
      | exact ih0 _ _ _ _
      | exact spec_brKind.mono _ _ _
      | exact spec_lyNext.mono _ _ _ _
      | exact LeO.none _
      | refine LeO.ite ?_ ?_
      | refine LeO.bind ?_ (fun _ => ?_)
set_option maxHeartbeats 8000000 in
set_option maxRecDepth 100000 in
theorem spec_LeastBruijn.calls (k : Nat) (a0 : Int) (a1 : Int) (r1 : List Int) (r2 : Bool) (w : World) (h : spec_LeastBruijn.f k a0 a1 = some (r1, r2)) :
    Calls Try.prog 53 #[.int .i64 a0, .int .i64 a1] w fun e w' => ∃ v0_ : Value, e = .returned (.tuple #[v0_, .bool r2]) ∧ Kd.R (Kd.int .i64) 3 w' w.heap.size (fun _ => True) v0_ r1 ∧ Below w.heap.size w w' := by
  have HB := Aside0.mk (Below.refl w.heap.size w)
  have H : ((spec_brKind.f k a0 a1).bind fun t214 => (if t214 = true then (spec_LeastBruijn.l0 k a0 a1 ([] : List Int) (([0] : List Int))) else (some (([] : List Int), false)))) = some (r1, r2) := h
  clear h
  replace H := Option.bind_eq_some_iff.mp H
  obtain ⟨t214, A30, H⟩ := H
  replace H : (if t214 = true then (spec_LeastBruijn.l0 k a0 a1 ([] : List Int) (([0] : List Int))) else (some (([] : List Int), false))) = some (r1, r2) := H
  have A3 := Aside0.mk A30
  clear A30
  by_cases c4 : t214 = true
  · subst c4
    have H1 : (spec_LeastBruijn.l0 k a0 a1 ([] : List Int) (([0] : List Int))) = some (r1, r2) := by rw [if_pos rfl] at H; exact H
    clear H
    have H := H1
    clear H1
    obtain ⟨y215, hy215⟩ : ∃ y_ : List Int, y_ = (([0] : List Int)) := ⟨_, rfl⟩
    replace H : (spec_LeastBruijn.l0 k a0 a1 ([] : List Int) y215) = some (r1, r2) := by first | (rw [hy215]; with_reducible exact H) | (have H2_ := (Option.bind_some _ _).symm.trans H; rw [hy215]; with_reducible exact H2_) | (have H2_ := (Option.bind_some _ _).symm.trans H; with_reducible exact H2_) | with_reducible exact H | (rw [hy215]; exact H) | exact H
    have Ny215 := Aside0.mk hy215
    clear hy215
    have H' := Aside0.mk H
    clear H
    go_enter Try.func53, Try.ntmps53
    go_wp2_with (first | ((with_reducible refine gate_callee (f := 88) rfl ?_); refine goesL_ (some 10) rfl rfl Try.func88 (by kernel_rfl) rfl #[.int .i64 a0, .int .i64 a1] rfl (by (try simp only [List.map_toArray, List.map_cons, List.map_nil]); first | done | rfl | (simp only [List.length_drop, List.length_take]; rfl)) ?_; (with_reducible refine (spec_brKind.calls k a0 a1 true _ A3.out).mono ?_); rintro e w' ⟨rfl, ⟨nd, rfl⟩⟩; refine ⟨_, rfl, ?_⟩) | ((with_reducible refine gate_dst (N := 12) rfl ?_); refine Kd.R_lit (Kd.int .i64) _ 3 ?hg (N := 12) ?hd (xs := ([0] : List Int)) (inner := [.int .i64 0]) (ok := fun _ => True) (okp := fun _ => True) ?hr ?hp (fun _ hk => hk) trivial (Below.refl _ _) (Nat.le_refl _) (by simp) ?_; (case hd => rfl); (case hg => rfl); (case hr => first | (go_simp; done) | (go_simp; rfl)); (case hp => exact (Reps.one (show Kd.M (Kd.int .i64) _ _ _ 0 [.int .i64 0] from rfl) (Reps.none _ _))); intro v216 w5 ho6 hb hg_ hnew_; clear hg_ hnew_; (first | rw [← Ny215.out] at ho6 | (simp only [Int.reduceToNat] at ho6; rw [← Ny215.out] at ho6)); have n0_ := Aside0.mk (Kd.R_lower ho6 (below_size (by repeat (first | (with_reducible first | exact HB.out | apply below_alloc | apply pw_below_drewN | apply below_drew1) | exact HB.out)))); have n1_ := Aside0.mk (below_step (by repeat (first | (with_reducible first | exact HB.out | apply below_alloc | apply pw_below_drewN | apply below_drew1) | exact HB.out)) hb); clear HB; have HO217 := n0_; have HB := n1_; clear n0_ n1_; clear hb ho6))
    go_loopg [6, 7] k (fun kq v6 v7 w' => ∃ (x6_1 : List Int) (x7_1 : List Int), Aside0 (spec_LeastBruijn.l0 kq a0 a1 x6_1 x7_1 = some (r1, r2)) ∧ Aside0 (kq ≤ k) ∧ Aside0 (Kd.R (Kd.int .i64) 3 w' w.heap.size (fun k_ => some k_ ≠ (v7 : Value).ownBlock) v6 x6_1) ∧ Aside0 (Kd.R (Kd.int .i64) 3 w' w.heap.size (fun k_ => some k_ ≠ (v6 : Value).ownBlock) v7 x7_1) ∧ Aside0 (Below w.heap.size w w'))
    case atStart => exact ⟨(([] : List Int)), (y215), H', ⟨Nat.le_refl _⟩, ⟨by first | exact Kd.R_nil _ _ _ _ _ | exact Kd.N_nil _ _ _ _ _ | exact Kd.V_nil _ _ _ _ _ | exact Kd.Q_nil _ _ _ _ _ | exact Kd.S_nil _ _ _ _ _⟩, ⟨by (with_reducible repeat (first | apply Kd.R_alloc | apply Kd.R_drewN | apply Kd.R_drew)); exact Kd.R_mono HO217.out (fun _ hk => (by simp [Value.ownBlock]))⟩, ⟨by repeat (first | (with_reducible first | exact HB.out | apply below_alloc | apply pw_below_drewN | apply below_drew1) | exact HB.out)⟩⟩
    case round =>
      clear H'
      try clear p2
      try clear c4
      try clear c5
      obtain ⟨x6_1, x7_1, HA, HK1, HO_6, HO_7, HB⟩ := hrel
      cases gk with
      | zero => exact absurd HA.out (by simp [spec_LeastBruijn.l0])
      | succ k1 =>
        have H := HA.out
        clear HA
        simp only [spec_LeastBruijn.l0] at H
        by_cases c7 : (x7_1.length : Int) > 0
        · rw [if_pos c7] at H
          have c7b0 : decide (0 < (x7_1.length : Int)) = true := decide_eq_true c7
          have c7b1 : decide (0 < x7_1.length) = true := decide_eq_true (by omega)
          clear c7
          by_cases c8 : (x7_1.length : Int) = 0
          · rw [if_pos c8] at H
            exact absurd H (by simp)
          · rw [if_neg c8] at H
            have c8b0 : ((x7_1.length : Int) == 0) = false := beq_eq_false_iff_ne.mpr c8
            have c8b1 : ((x7_1.length : Int) != 0) = true := bne_iff_ne.mpr c8
            have c8b2 : ¬ (x7_1 = []) := fun h_ => c8 (by rw [h_]; rfl)
            by_cases c9 : (Int.tmod a0 (x7_1.length : Int)) = 0
            · rw [if_pos c9] at H
              have c9b0 : ((Int.tmod a0 (x7_1.length : Int)) == 0) = true := beq_iff_eq.mpr c9
              have c9b1 : ((Int.tmod a0 (x7_1.length : Int)) != 0) = false := bne_eq_false_iff_eq.mpr c9
              clear c9
              by_cases c10 : x6_1.length + x7_1.length < 17592186044416
              · rw [if_pos c10] at H
                have LMc10 := Aside0.mk c10
                clear c10
                obtain ⟨y218, hy218⟩ : ∃ y_ : List Int, y_ = (x6_1 ++ x7_1) := ⟨_, rfl⟩
                replace H : ((spec_lyNext.f k1 x7_1 a0 a1).bind fun t221 => (spec_LeastBruijn.l0 k1 a0 a1 y218 t221)) = some (r1, r2) := by first | (rw [hy218]; with_reducible exact H) | (have H2_ := (Option.bind_some _ _).symm.trans H; rw [hy218]; with_reducible exact H2_) | (have H2_ := (Option.bind_some _ _).symm.trans H; with_reducible exact H2_) | with_reducible exact H | (rw [hy218]; exact H) | exact H
                have Ny218 := Aside0.mk hy218
                clear hy218
                replace H := Option.bind_eq_some_iff.mp H
                obtain ⟨t221, A110, H⟩ := H
                replace H : (spec_LeastBruijn.l0 k1 a0 a1 y218 t221) = some (r1, r2) := H
                have A11 := Aside0.mk A110
                clear A110
                have H' := Aside0.mk H
                clear H
                obtain ⟨Ao12, co12, eo12⟩ := Kd.R_slice HO_7.out
                subst eo12
                go_wp2_with (first | ((with_reducible refine gate_builtin (b := .append) (xs := #[.tmp 25, .tmp 26]) rfl ?_); at_builtin; refine Kd.R_append_rows (Kd.int .i64) (w0 := w) w.heap.size rfl (.tmp 25) (.tmp 26) 22 3 (.int .i64 0) 8 rfl Try.underlying22 info3 rfl (by decide) (by omega) u6 x6_1 x7_1 _ _ _ (fun k_ => some k_ ≠ (.slice Ao12 x7_1.length co12 : Value).ownBlock) (fun _ => False) rfl rfl ?aO ?aR (fun _ _ h => h) (fun _ h => h.elim) ?aF ?aB ?aS ?aL ?_; (case aR => repeat (first | exact (Kd.R_reads' HO_7.out).2.2 | (with_reducible refine Kd.C_alloc ?_ _) | (with_reducible refine Kd.C_drewN ?_ _) | (with_reducible refine Kd.C_drew ?_))); (case aB => exact (by repeat (first | (with_reducible first | exact HB.out | apply below_alloc | apply pw_below_drewN | apply below_drew1) | exact HB.out))); (case aF => exact (fun k_ hk => Kd.fresh' (Kd.R_lt (by (with_reducible repeat (first | apply Kd.R_alloc | apply Kd.R_drewN | apply Kd.R_drew)); exact HO_7.out)) k_ hk)); (case aO => exact (by (with_reducible repeat (first | apply Kd.R_alloc | apply Kd.R_drewN | apply Kd.R_drew)); exact HO_6.out)); (case aS => exact (below_size (by repeat (first | (with_reducible first | exact HB.out | apply below_alloc | apply pw_below_drewN | apply below_drew1) | exact HB.out)))); (case aL => have := LMc10.out; omega); intro v219 w13 ho hb hg hat; rw [← Ny218.out] at ho; have n0_ := Aside0.mk (Kd.R_after (ok := (fun _ => True)) (by (with_reducible repeat (first | apply Kd.R_alloc | apply Kd.R_drewN | apply Kd.R_drew)); exact Kd.R_mono HO_7.out (fun _ hk => ⟨trivial, hk⟩)) hg hat); have n1_ := Aside0.mk (hb); have n2_ := Aside0.mk (ho); clear HO_7; clear HB; clear HO_6; have HO_7 := n0_; have HB := n1_; have HO220 := n2_; clear n0_ n1_ n2_; clear ho hb hg hat) | ((with_reducible refine gate_callee (f := 133) rfl ?_); refine goesL_ (some 19) rfl rfl Try.func133 (by kernel_rfl) rfl #[.slice Ao12 x7_1.length co12, .int .i64 a0, .int .i64 a1] rfl (by (try simp only [List.map_toArray, List.map_cons, List.map_nil]); first | done | rfl | (simp only [List.length_drop, List.length_take]; rfl)) ?_; (with_reducible refine (spec_lyNext.calls k1 _ _ x7_1 a0 a1 t221 _ ?side1 ?side2 A11.out).mono ?_); (case side1 => repeat (first | exact (Kd.R_reads' HO_7.out).2.2 | (with_reducible refine Kd.C_alloc ?_ _) | (with_reducible refine Kd.C_drewN ?_ _) | (with_reducible refine Kd.C_drew ?_))); (case side2 => exact (Kd.R_reads' HO_7.out).2.1); rintro e w14 ⟨v222, rfl, ho0, hb⟩; refine ⟨_, rfl, ?_⟩; have n0_ := Aside0.mk (Kd.R_elder' (by (with_reducible repeat (first | apply Kd.R_alloc | apply Kd.R_drewN | apply Kd.R_drew)); exact HO_7.out) (Kd.R_base ho0) hb); have n1_ := Aside0.mk (Kd.R_elder' (by (with_reducible repeat (first | apply Kd.R_alloc | apply Kd.R_drewN | apply Kd.R_drew)); exact HO220.out) (Kd.R_base ho0) hb); have n2_ := Aside0.mk (Kd.R_lower (Kd.R_new' (Kd.R_new' ho0 (Kd.R_lt (by (with_reducible repeat (first | apply Kd.R_alloc | apply Kd.R_drewN | apply Kd.R_drew)); exact HO_7.out))) (Kd.R_lt (by (with_reducible repeat (first | apply Kd.R_alloc | apply Kd.R_drewN | apply Kd.R_drew)); exact HO220.out))) (below_size (by repeat (first | (with_reducible first | exact HB.out | apply below_alloc | apply pw_below_drewN | apply below_drew1) | exact HB.out)))); have n3_ := Aside0.mk (below_step (by repeat (first | (with_reducible first | exact HB.out | apply below_alloc | apply pw_below_drewN | apply below_drew1) | exact HB.out)) hb); clear HO_7; clear HO220; clear HB; have HO_7 := n0_; have HO220 := n1_; have HO223 := n2_; have HB := n3_; clear n0_ n1_ n2_ n3_; (try clear hb); (try clear hb2); (try clear hk); (try clear hi); (try clear ho0)))
                go_roundg k1
                case measure => have := HK1.out; omega
                case rel => exact ⟨(y218), (t221), H', ⟨by have := HK1.out; omega⟩, ⟨by (with_reducible repeat (first | apply Kd.R_alloc | apply Kd.R_drewN | apply Kd.R_drew)); exact Kd.R_mono HO220.out (fun _ hk => hk.2)⟩, ⟨by (with_reducible repeat (first | apply Kd.R_alloc | apply Kd.R_drewN | apply Kd.R_drew)); exact Kd.R_mono HO223.out (fun _ hk => hk.2)⟩, ⟨by repeat (first | (with_reducible first | exact HB.out | apply below_alloc | apply pw_below_drewN | apply below_drew1) | exact HB.out)⟩⟩
              · rw [if_neg c10] at H
                exact absurd H (by simp)
            · rw [if_neg c9] at H
              have c9b0 : ((Int.tmod a0 (x7_1.length : Int)) == 0) = false := beq_eq_false_iff_ne.mpr c9
              have c9b1 : ((Int.tmod a0 (x7_1.length : Int)) != 0) = true := bne_iff_ne.mpr c9
              replace H := Option.bind_eq_some_iff.mp H
              obtain ⟨t224, A150, H⟩ := H
              replace H : (spec_LeastBruijn.l0 k1 a0 a1 x6_1 t224) = some (r1, r2) := H
              have A15 := Aside0.mk A150
              clear A150
              have H' := Aside0.mk H
              clear H
              obtain ⟨Ao16, co16, eo16⟩ := Kd.R_slice HO_7.out
              subst eo16
              go_wp2_with (first | ((with_reducible refine gate_callee (f := 133) rfl ?_); refine goesL_ (some 19) rfl rfl Try.func133 (by kernel_rfl) rfl #[.slice Ao16 x7_1.length co16, .int .i64 a0, .int .i64 a1] rfl (by (try simp only [List.map_toArray, List.map_cons, List.map_nil]); first | done | rfl | (simp only [List.length_drop, List.length_take]; rfl)) ?_; (with_reducible refine (spec_lyNext.calls k1 _ _ x7_1 a0 a1 t224 _ ?side1 ?side2 A15.out).mono ?_); (case side1 => repeat (first | exact (Kd.R_reads' HO_7.out).2.2 | (with_reducible refine Kd.C_alloc ?_ _) | (with_reducible refine Kd.C_drewN ?_ _) | (with_reducible refine Kd.C_drew ?_))); (case side2 => exact (Kd.R_reads' HO_7.out).2.1); rintro e w17 ⟨v225, rfl, ho0, hb⟩; refine ⟨_, rfl, ?_⟩; have n0_ := Aside0.mk (Kd.R_elder' (by (with_reducible repeat (first | apply Kd.R_alloc | apply Kd.R_drewN | apply Kd.R_drew)); exact HO_6.out) (Kd.R_base ho0) hb); have n1_ := Aside0.mk (Kd.R_elder' (by (with_reducible repeat (first | apply Kd.R_alloc | apply Kd.R_drewN | apply Kd.R_drew)); exact HO_7.out) (Kd.R_base ho0) hb); have n2_ := Aside0.mk (Kd.R_lower (Kd.R_new' (Kd.R_new' ho0 (Kd.R_lt (by (with_reducible repeat (first | apply Kd.R_alloc | apply Kd.R_drewN | apply Kd.R_drew)); exact HO_6.out))) (Kd.R_lt (by (with_reducible repeat (first | apply Kd.R_alloc | apply Kd.R_drewN | apply Kd.R_drew)); exact HO_7.out))) (below_size (by repeat (first | (with_reducible first | exact HB.out | apply below_alloc | apply pw_below_drewN | apply below_drew1) | exact HB.out)))); have n3_ := Aside0.mk (below_step (by repeat (first | (with_reducible first | exact HB.out | apply below_alloc | apply pw_below_drewN | apply below_drew1) | exact HB.out)) hb); clear HO_6; clear HO_7; clear HB; have HO_6 := n0_; have HO_7 := n1_; have HO226 := n2_; have HB := n3_; clear n0_ n1_ n2_ n3_; (try clear hb); (try clear hb2); (try clear hk); (try clear hi); (try clear ho0)))
              go_roundg k1
              case measure => have := HK1.out; omega
              case rel => exact ⟨(x6_1), (t224), H', ⟨by have := HK1.out; omega⟩, ⟨by (with_reducible repeat (first | apply Kd.R_alloc | apply Kd.R_drewN | apply Kd.R_drew)); exact Kd.R_mono HO_6.out (fun _ hk => hk.2)⟩, ⟨by (with_reducible repeat (first | apply Kd.R_alloc | apply Kd.R_drewN | apply Kd.R_drew)); exact Kd.R_mono HO226.out (fun _ hk => hk.1.2)⟩, ⟨by repeat (first | (with_reducible first | exact HB.out | apply below_alloc | apply pw_below_drewN | apply below_drew1) | exact HB.out)⟩⟩
        · rw [if_neg c7] at H
          have c7b0 : decide (0 < (x7_1.length : Int)) = false := decide_eq_false c7
          have c7b1 : decide (0 < x7_1.length) = false := decide_eq_false (by omega)
          clear c7
          simp only [Option.some.injEq, Prod.mk.injEq] at H
          obtain ⟨rfl, rfl⟩ := H
          obtain ⟨Ao18, co18, eo18⟩ := Kd.R_slice HO_7.out
          subst eo18
          go_wp2
          go_ret2
          exact ⟨_, by first | rfl | (simp [errW_none, errW_some] <;> rfl) | (simp [*, errW_none, errW_some] <;> rfl), by (with_reducible repeat (first | apply Kd.R_alloc | apply Kd.R_drewN | apply Kd.R_drew)); exact Kd.R_mono HO_6.out (fun _ hk => trivial), by repeat (first | (with_reducible first | exact HB.out | apply below_alloc | apply pw_below_drewN | apply below_drew1) | exact HB.out)⟩
  · replace c4 := Bool.eq_false_iff.mpr c4
    subst c4
    have H1 : (some (([] : List Int), false)) = some (r1, r2) := by rw [if_neg (show ¬ (false = true) by decide)] at H; exact H
    clear H
    have H := H1
    clear H1
    simp only [Option.some.injEq, Prod.mk.injEq] at H
    obtain ⟨rfl, rfl⟩ := H
    go_enter Try.func53, Try.ntmps53
    go_wp2_with (first | ((with_reducible refine gate_callee (f := 88) rfl ?_); refine goesL_ (some 10) rfl rfl Try.func88 (by kernel_rfl) rfl #[.int .i64 a0, .int .i64 a1] rfl (by (try simp only [List.map_toArray, List.map_cons, List.map_nil]); first | done | rfl | (simp only [List.length_drop, List.length_take]; rfl)) ?_; (with_reducible refine (spec_brKind.calls k a0 a1 false _ A3.out).mono ?_); rintro e w' ⟨rfl, ⟨nd, rfl⟩⟩; refine ⟨_, rfl, ?_⟩))
    go_ret2
    exact ⟨_, by first | rfl | (simp [errW_none, errW_some] <;> rfl) | (simp [*, errW_none, errW_some] <;> rfl), by first | exact Kd.R_nil _ _ _ _ _ | exact Kd.N_nil _ _ _ _ _ | exact Kd.V_nil _ _ _ _ _ | exact Kd.Q_nil _ _ _ _ _ | exact Kd.S_nil _ _ _ _ _, by repeat (first | (with_reducible first | exact HB.out | apply below_alloc | apply pw_below_drewN | apply below_drew1) | exact HB.out)⟩

/-! ### slices_Clone_int_int: function 134 (a contract of this session's own) -/
def slices_Clone_int_int.f (l0 : List Int) : Option (List Int) := if l0.length < 17592186044416 then (some l0) else (none)
set_option maxHeartbeats 8000000 in
set_option maxRecDepth 100000 in
theorem slices_Clone_int_int.calls (A0 : Option Addr) (c0 : Nat) (l0 : List Int) (r : List Int) (w : World) (hr0 : Kd.C (Kd.int .i64) w A0 l0.length l0) (hc0 : l0.length ≤ c0) (h : slices_Clone_int_int.f l0 = some r) :
    Calls Try.prog 134 #[.slice A0 l0.length c0] w fun e w' => ∃ v0_ : Value, e = .returned (v0_) ∧ Kd.R (Kd.int .i64) 3 w' w.heap.size (fun _ => True) v0_ r ∧ Below w.heap.size w w' := by
  unfold slices_Clone_int_int.f at h
  by_cases c2 : l0.length < 17592186044416
  · rw [if_pos c2] at h
    obtain rfl := Option.some.inj h
    have kn := fun W : World => Lib.run_eql_slice_nil (P := Try.prog) W 22 3 A0 l0.length c0 0 0 Try.underlying22
    cases A0 with
    | none =>
      have hl : l0.length = 0 := by
        rcases Nat.eq_zero_or_pos l0.length with h0 | h0
        · exact h0
        · obtain ⟨ad, e, _⟩ := hr0.2.2 h0
          cases e
      have hn : l0 = [] := List.eq_nil_of_length_eq_zero hl
      have HN := Aside0.mk hn
      clear hr0 hl hn
      go_enter Try.func134, Try.ntmps134
      go_wp2
      go_ret
      exact ⟨_, rfl, by rw [HN.out]; exact Kd.R_nil _ _ _ _ _, Below.refl _ _⟩
    | some ad =>
      have HR0 := Aside0.mk hr0
      have LM := Aside0.mk c2
      have HB := Aside0.mk (Below.refl w.heap.size w)
      obtain ⟨y1, hy1⟩ : ∃ y_ : List Int, y_ = (([] : List Int)) := ⟨_, rfl⟩
      have Ny1 := Aside0.mk hy1
      clear hr0 hc0 c2 hy1
      go_enter Try.func134, Try.ntmps134
      go_wp2_with (first | ((with_reducible refine gate_dst (N := 5) rfl ?_); refine Kd.R_lit (Kd.int .i64) _ 3 ?hg (N := 5) ?hd (xs := ([] : List Int)) (inner := []) (ok := fun _ => True) (okp := fun _ => True) ?hr ?hp (fun _ hk => hk) trivial (Below.refl _ _) (Nat.le_refl _) (by simp) ?_; (case hd => rfl); (case hg => rfl); (case hr => first | (go_simp; done) | (go_simp; rfl)); (case hp => exact (Reps.none _ _)); intro v145 w3 ho4 hb hg_ hnew_; clear hg_ hnew_; (first | rw [← Ny1.out] at ho4 | (simp only [Int.reduceToNat] at ho4; rw [← Ny1.out] at ho4)); have n0_ := Aside0.mk (Kd.R_lower ho4 (below_size (by repeat (first | (with_reducible first | exact HB.out | apply below_alloc | apply pw_below_drewN | apply below_drew1) | exact HB.out)))); have n1_ := Aside0.mk (below_step (by repeat (first | (with_reducible first | exact HB.out | apply below_alloc | apply pw_below_drewN | apply below_drew1) | exact HB.out)) hb); clear HB; have HO146 := n0_; have HB := n1_; clear n0_ n1_; clear hb ho4) | ((with_reducible refine gate_builtin (b := .append) (xs := #[.tmp 5, .tmp 6]) rfl ?_); at_builtin; refine Kd.R_append_rows (Kd.int .i64) (w0 := w) w.heap.size rfl (.tmp 5) (.tmp 6) 22 3 (.int .i64 0) 8 rfl Try.underlying22 info3 rfl (by decide) (by omega) v145 y1 l0 _ _ _ (fun _ => True) (fun _ => False) rfl rfl ?aO ?aR (fun _ _ h => h) (fun _ h => h.elim) ?aF ?aB ?aS ?aL ?_; (case aR => repeat (first | exact (Kd.C_below HR0.out HB.out) | (with_reducible refine Kd.C_alloc ?_ _) | (with_reducible refine Kd.C_drewN ?_ _) | (with_reducible refine Kd.C_drew ?_))); (case aB => exact (by repeat (first | (with_reducible first | exact HB.out | apply below_alloc | apply pw_below_drewN | apply below_drew1) | exact HB.out))); (case aF => exact (fun _ _ => trivial)); (case aO => exact (by (with_reducible repeat (first | apply Kd.R_alloc | apply Kd.R_drewN | apply Kd.R_drew)); exact HO146.out)); (case aS => exact (below_size (by repeat (first | (with_reducible first | exact HB.out | apply below_alloc | apply pw_below_drewN | apply below_drew1) | exact HB.out)))); (case aL => have := LM.out; rw [Ny1.out]; simp; omega); intro v148 w5 ho hb hg hat; have n0_ := Aside0.mk (hb); have n1_ := Aside0.mk (ho); clear HB; clear HO146; have HB := n0_; have HO149 := n1_; clear n0_ n1_; clear ho hb hg hat))
      go_ret
      exact ⟨_, rfl, by have z := HO149.out; rw [Ny1.out, List.nil_append] at z; exact z, HB.out⟩
  · rw [if_neg c2] at h
    exact absurd h (by simp)

/-! ### impl_GreedyBruijn: function 54 (a contract of this session's own) -/
def impl_GreedyBruijn.next (kk size code x : Int) : Int := Int.tmod (wrap64 (wrap64 (code * kk) + x)) size
def impl_GreedyBruijn.l0 : Nat → Int → Int → List Int → Nat → Int → Int → Option (List Int × Bool)
  | 0, _, _, _, _, _, _ => none
  | k + 1, kk, size, out, m, code, x => if 0 ≤ x then (if size ≠ 0 then (if (decide (0 ≤ impl_GreedyBruijn.next kk size code x) && m.testBit (impl_GreedyBruijn.next kk size code x).toNat) = true then (impl_GreedyBruijn.l0 k kk size out m code (wrap64 (x - 1))) else (if 0 ≤ impl_GreedyBruijn.next kk size code x then (if out.length < 17592186044416 then (impl_GreedyBruijn.l0 k kk size (out ++ [x]) (m ||| (1 <<< (impl_GreedyBruijn.next kk size code x).toNat)) (impl_GreedyBruijn.next kk size code x) (wrap64 (kk - 1))) else none) else none)) else none) else (if 0 ≤ size then (if size ≤ (out.length : Int) then ((slices_Clone_int_int.f (out.take size.toNat)).bind fun t => (some (t, true))) else none) else none)
def impl_GreedyBruijn.f (k : Nat) (a0 : Int) (a1 : Int) : Option (List Int × Bool) := (impl_isBruijnSize.f k a0 a1).bind fun b => (if b = true then ((impl_power.f k a1 a0).bind fun size => (if 0 ≤ a0 then (if a0.toNat ≤ 35184372088832 then (impl_GreedyBruijn.l0 k a1 size (List.replicate a0.toNat 0) 1 0 (wrap64 (a1 - 1))) else none) else none)) else (some (([] : List Int), false)))
theorem impl_GreedyBruijn.mono_l : ∀ k, (∀ y0 y1 y2 y3 y4 y5, LeO (impl_GreedyBruijn.l0 k y0 y1 y2 y3 y4 y5) (impl_GreedyBruijn.l0 (k + 1) y0 y1 y2 y3 y4 y5))
  | 0 => fun _ _ _ _ _ _ r h => by simp [impl_GreedyBruijn.l0] at h
  | k + 1 => by
    have ih := impl_GreedyBruijn.mono_l k
    intro y0 y1 y2 y3 y4 y5
    unfold impl_GreedyBruijn.l0
    exact LeO.ite (LeO.ite (LeO.ite (ih _ _ _ _ _ _) (LeO.ite (LeO.ite (ih _ _ _ _ _ _) (LeO.refl _)) (LeO.refl _))) (LeO.refl _)) (LeO.refl _)
theorem impl_GreedyBruijn.mono : ∀ a0 a1 k, LeO (impl_GreedyBruijn.f k a0 a1) (impl_GreedyBruijn.f (k + 1) a0 a1) := fun a0 a1 k =>
  LeO.bind (impl_isBruijnSize.mono _ _ _) (fun _ => LeO.ite (LeO.bind (impl_power.mono _ _ _) (fun _ => LeO.ite (LeO.ite (impl_GreedyBruijn.mono_l k _ _ _ _ _ _) (LeO.refl _)) (LeO.refl _))) (LeO.refl _))
open Go.Proofs.Ytdnbeekoefmbcaa.MapSets Go.Maps in
theorem impl_GreedyBruijn.zeroB (w : World) : (zeroValue 4).run Try.prog w = .ok (.bool false) w := by kernel_rfl
open Go.Proofs.Ytdnbeekoefmbcaa.MapSets in
set_option maxHeartbeats 8000000 in
set_option maxRecDepth 100000 in
theorem impl_GreedyBruijn.calls (k : Nat) (a0 a1 : Int) (r1 : List Int) (r2 : Bool) (w : World) (h : impl_GreedyBruijn.f k a0 a1 = some (r1, r2)) :
    Calls Try.prog 54 #[.int .i64 a0, .int .i64 a1] w fun e w' => ∃ v0_ : Value, e = .returned (.tuple #[v0_, .bool r2]) ∧ Kd.R (Kd.int .i64) 3 w' w.heap.size (fun _ => True) v0_ r1 ∧ Below w.heap.size w w' := by
  have HB := Aside0.mk (Below.refl w.heap.size w)
  have hmm := @run_makeMap Try.prog
  unfold impl_GreedyBruijn.f at h
  obtain ⟨b, hb, H⟩ := Option.bind_eq_some_iff.mp h
  clear h
  have A1 := Aside0.mk hb
  clear hb
  by_cases c1 : b = true
  · subst c1
    replace H := (if_pos rfl).symm.trans H
    obtain ⟨size, hs, H⟩ := Option.bind_eq_some_iff.mp H
    have A2 := Aside0.mk hs
    clear hs
    by_cases c2 : 0 ≤ a0
    · rw [if_pos c2] at H
      have c2b := decide_eq_true c2
      by_cases c3 : a0.toNat ≤ 35184372088832
      · rw [if_pos c3] at H
        have H' := Aside0.mk H
        clear H
        have C2 := Aside0.mk c2
        have C3 := Aside0.mk c3
        clear c2 c3
        obtain ⟨y, hy⟩ : ∃ y : List Int, y = List.replicate a0.toNat 0 := ⟨_, rfl⟩
        rw [← hy] at H'
        have Ny := Aside0.mk hy
        clear hy
        go_enter Try.func54, Try.ntmps54
        go_wp2_with (first
          | ((with_reducible refine gate_callee (f := 93) rfl ?_); refine goesL_ (some 13) rfl rfl Try.func93 (by kernel_rfl) rfl #[.int .i64 a0, .int .i64 a1] rfl (by (try simp only [List.map_toArray, List.map_cons, List.map_nil]); first | done | rfl) ?_; (with_reducible refine (impl_isBruijnSize.calls k a0 a1 true _ A1.out).mono ?_); rintro e w' ⟨rfl, ⟨nd1, rfl⟩⟩; refine ⟨_, rfl, ?_⟩)
          | ((with_reducible refine gate_callee (f := 104) rfl ?_); refine goesL_ (some 17) rfl rfl Try.func104 (by kernel_rfl) rfl #[.int .i64 a1, .int .i64 a0] rfl (by (try simp only [List.map_toArray, List.map_cons, List.map_nil]); first | done | rfl) ?_; (with_reducible refine (impl_power.calls k a1 a0 size _ A2.out).mono ?_); rintro e w' ⟨rfl, ⟨nd2, rfl⟩⟩; refine ⟨_, rfl, ?_⟩)
          | ((with_reducible refine gate_dst (N := 19) rfl ?_); refine Kd.R_make (Kd.int .i64) _ 3 rfl (N := 19) rfl 22 _ _ rfl a0 rfl rfl Try.underlying22 (.int .i64 0) 8 info3 rfl (by decide) (by omega) 0 (ok := fun _ => True) (okp := fun _ => True) rfl (fun _ hk => hk) trivial (of_decide_eq_true c2b) (Nat.le_trans (Nat.mul_le_mul_right _ C3.out) (by omega)) (Below.refl _ _) (Nat.le_refl _) ?_; intro v19 w3 ho hb hg_ hnew_; clear hg_ hnew_; rw [← Ny.out] at ho)
          | ((with_reducible refine gate_insert (t := 74) (m := .tmp 20) rfl ?_); refine update_op (t := 74) (k := 3) (e := 4) rfl _ _ _ (.inr rfl) (Go.Maps.int_keyed Try.underlying3) Try.underlying74 Try.underlying4 rfl (KSet.made _) (by unfold maxLen; omega) _ (.int .i64 0) rfl rfl (Go.Maps.keyOf_int_mk Try.underlying3 (by decide)) ?_; intro w4 hs4 hg4; simp only [Bool.false_eq_true, if_false] at hs4))
        have hb3 : Below w.heap.size w w3 := below_step (pw_below_drewN (Below.refl _ _) _) hb
        have hB3 := hb3.size
        have ha4 : some w3.heap.size ≠ v19.ownBlock := fun e => by have := Kd.R_lt ho _ e.symm; omega
        have n0_ : Aside0 (Below w.heap.size w w4) := ⟨(below_alloc hb3 _).grown hg4 (below_alloc hb3 _).size (fun j hj => by cases hj; exact hb3.size)⟩
        have n1_ : Aside0 (Kd.R (Kd.int .i64) 3 w4 w.heap.size (fun _ => True) v19 y) := ⟨Kd.R_grown2 (Kd.R_alloc (Kd.R_lower ho (by simp)) _) rfl hg4 (fun k hk => by cases hk; exact ha4)⟩
        have n2_ : Aside0 (BSet Try.prog 3 4 w4 w3.heap.size (y.length + 1) 1) := ⟨_, _, hs4.mono (by omega), fun c => by simpa using bset_add (m := 0) (S := fun _ => false) (by simp) (c := 0) (by omega) c⟩
        have n3_ : Aside0 (y.length < 17592186044417 * 2) := ⟨by rw [Ny.out, List.length_replicate]; have := C3.out; omega⟩
        clear HB hs4 hg4 ho hb ha4
        have HB := n0_
        have HO := n1_
        have HS := n2_
        have HL := n3_
        clear n0_ n1_ n2_ n3_ hb3
        go_loopg [7, 9] k (fun kq v7 v9 w' => ∃ (out : List Int) (m : Nat) (code : Int), v9 = .int .i64 code ∧ Aside0 (impl_GreedyBruijn.l0 kq a1 size out m code (wrap64 (a1 - 1)) = some (r1, r2)) ∧ Aside0 (kq ≤ k) ∧ Aside0 (Kd.R (Kd.int .i64) 3 w' w.heap.size (fun _ => True) v7 out) ∧ Aside0 (BSet Try.prog 3 4 w' w3.heap.size (out.length + 1) m) ∧ Aside0 (out.length < 17592186044417 * 2) ∧ Aside0 (Below w.heap.size w w'))
        case atStart => exact ⟨y, 1, 0, rfl, H', ⟨Nat.le_refl _⟩, HO, HS, HL, HB⟩
        case round =>
          clear H' HO HS HL HB
          obtain ⟨out, m, code, rfl, HA, HK1, HO, HS, HL, HB⟩ := hrel
          cases gk with
          | zero => exact absurd HA.out (by simp [impl_GreedyBruijn.l0])
          | succ k1 =>
            go_wp2
            go_loopg [10] (k1 + 1) (fun kq v10 w' => ∃ (x : Int), v10 = .int .i64 x ∧ Aside0 (impl_GreedyBruijn.l0 kq a1 size out m code x = some (r1, r2)) ∧ Aside0 (kq ≤ k1 + 1) ∧ Aside0 (Kd.R (Kd.int .i64) 3 w' w.heap.size (fun _ => True) u7 out) ∧ Aside0 (BSet Try.prog 3 4 w' w3.heap.size (out.length + 1) m) ∧ Aside0 (Below w.heap.size w w'))
            case atStart => exact ⟨wrap64 (a1 - 1), (by first | rfl | (simp; done)), HA, ⟨Nat.le_refl _⟩, ⟨(by (with_reducible repeat (first | apply Kd.R_alloc | apply Kd.R_drewN | apply Kd.R_drew)); exact HO.out)⟩, ⟨by obtain ⟨S, z, h1, h2⟩ := HS.out; exact ⟨S, z, (by repeat (first | exact h1 | apply KSet.alloc | apply KSet.drewN | apply KSet.drew)), h2⟩⟩, ⟨(by repeat (first | (with_reducible first | exact HB.out | apply below_alloc | apply pw_below_drewN | apply below_drew1) | exact HB.out))⟩⟩
            case round =>
              clear HA HO HS HB
              obtain ⟨x, rfl, HA, HK2, HO, HS, HB⟩ := hrel
              cases gk with
              | zero => exact absurd HA.out (by simp [impl_GreedyBruijn.l0])
              | succ k3 =>
                have H := HA.out
                clear HA
                simp only [impl_GreedyBruijn.l0] at H
                obtain ⟨S, z, hK, hS⟩ := HS.out
                have HKS := Aside0.mk hK
                have HSS := Aside0.mk hS
                clear hK hS HS
                by_cases cx : 0 ≤ x
                · rw [if_pos cx] at H
                  have cxb : decide (0 ≤ x) = true := decide_eq_true cx
                  clear cx
                  by_cases cz : size ≠ 0
                  · rw [if_pos cz] at H
                    have czb : (size == 0) = false := beq_eq_false_iff_ne.mpr cz
                    have czc : (size = 0) = False := eq_false cz
                    clear cz
                    have hwf : Aside0 ((Lit.int .i64 (impl_GreedyBruijn.next a1 size code x)).wf = true) := ⟨tmod_wf (wrap64_wf _)⟩
                    by_cases cm : (decide (0 ≤ impl_GreedyBruijn.next a1 size code x) && m.testBit (impl_GreedyBruijn.next a1 size code x).toNat) = true
                    · rw [if_pos cm] at H
                      have H' := Aside0.mk H
                      clear H
                      have hval : S (.int .i64 (impl_GreedyBruijn.next a1 size code x)) = true := (HSS.out _).trans cm
                      clear cm
                      go_wp2_with (first
                        | ((with_reducible refine gate_lookup (t := 74) (m := .tmp 27) rfl ?_); refine gate_guard (by rfl) ?_; refine lookup_op (t := 74) (k := 3) (e := 4) rfl _ _ rfl (Go.Maps.int_keyed Try.underlying3) Try.underlying74 Try.underlying4 (impl_GreedyBruijn.zeroB _) rfl (by repeat (first | exact HKS.out | apply KSet.alloc | apply KSet.drewN | apply KSet.drew)) _ (.int .i64 (impl_GreedyBruijn.next a1 size code x)) rfl (Go.Maps.keyOf_int_mk Try.underlying3 hwf.out) ?_; rw [hval]))
                      go_roundg k3
                      case measure => have := HK2.out; omega
                      case rel => exact ⟨wrap64 (x - 1), (by first | rfl | (simp; done)), H', ⟨by have := HK2.out; omega⟩, ⟨(by (with_reducible repeat (first | apply Kd.R_alloc | apply Kd.R_drewN | apply Kd.R_drew)); exact HO.out)⟩, ⟨S, z, (by repeat (first | exact HKS.out | apply KSet.alloc | apply KSet.drewN | apply KSet.drew)), HSS.out⟩, ⟨(by repeat (first | (with_reducible first | exact HB.out | apply below_alloc | apply pw_below_drewN | apply below_drew1) | exact HB.out))⟩⟩
                    · rw [if_neg cm] at H
                      have hval : S (.int .i64 (impl_GreedyBruijn.next a1 size code x)) = false := (HSS.out _).trans (Bool.eq_false_iff.mpr cm)
                      clear cm
                      by_cases cn : 0 ≤ impl_GreedyBruijn.next a1 size code x
                      · rw [if_pos cn] at H
                        have CN := Aside0.mk cn
                        clear cn
                        by_cases cl : out.length < 17592186044416
                        · rw [if_pos cl] at H
                          have H' := Aside0.mk H
                          have CL := Aside0.mk cl
                          clear H cl
                          have cxn : decide (x < 0) = false := decide_eq_false (by have := of_decide_eq_true cxb; omega)
                          obtain ⟨y2, hy2⟩ : ∃ y_ : List Int, y_ = out ++ [x] := ⟨_, rfl⟩
                          rw [← hy2] at H'
                          have Ny2 := Aside0.mk hy2
                          clear hy2
                          go_wp2_with (first
                            | ((with_reducible refine gate_lookup (t := 74) (m := .tmp 27) rfl ?_); refine gate_guard (by rfl) ?_; refine lookup_op (t := 74) (k := 3) (e := 4) rfl _ _ rfl (Go.Maps.int_keyed Try.underlying3) Try.underlying74 Try.underlying4 (impl_GreedyBruijn.zeroB _) rfl (by repeat (first | exact HKS.out | apply KSet.alloc | apply KSet.drewN | apply KSet.drew)) _ (.int .i64 (impl_GreedyBruijn.next a1 size code x)) rfl (Go.Maps.keyOf_int_mk Try.underlying3 hwf.out) ?_; rw [hval])
                            | ((with_reducible refine gate_update (t := 74) (m := .tmp 52) rfl ?_); refine update_op (t := 74) (k := 3) (e := 4) rfl _ _ _ (.inl rfl) (Go.Maps.int_keyed Try.underlying3) Try.underlying74 Try.underlying4 rfl (by repeat (first | exact HKS.out | apply KSet.alloc | apply KSet.drewN | apply KSet.drew)) (by have := CL.out; unfold maxLen; omega) _ (.int .i64 (impl_GreedyBruijn.next a1 size code x)) rfl rfl (Go.Maps.keyOf_int_mk Try.underlying3 hwf.out) ?_; intro w5 hs5 hg5; have hap := KSet.apart HKS.out (v := u7) (fun g hg => by obtain ⟨cells, hc⟩ := Kd.R_typed HO.out g hg; exact ⟨cells, _, hc⟩); have n0_ : Aside0 (Below w.heap.size w w5) := ⟨((by repeat (first | (with_reducible first | exact HB.out | apply below_alloc | apply pw_below_drewN | apply below_drew1) | exact HB.out)) : Below w.heap.size w _).grown hg5 (below_size (by repeat (first | (with_reducible first | exact HB.out | apply below_alloc | apply pw_below_drewN | apply below_drew1) | exact HB.out))) (fun j hj => by cases hj; exact hB3)⟩; have n1_ : Aside0 (Kd.R (Kd.int .i64) 3 w5 w.heap.size (fun _ => True) u7 out) := ⟨Kd.R_grown2 (by (with_reducible repeat (first | apply Kd.R_alloc | apply Kd.R_drewN | apply Kd.R_drew)); exact HO.out) rfl hg5 (fun k hk => by cases hk; exact hap)⟩; have n2_ := Aside0.mk hs5; clear HB HO hg5 hs5 hap; have HB := n0_; have HO := n1_; have HS5 := n2_; clear n0_ n1_ n2_)
                            | ((with_reducible refine gate_builtin (b := .append) (xs := #[.tmp 54, .tmp 56]) rfl ?_); at_builtin; refine Kd.R_append (Kd.int .i64) (w0 := w) w.heap.size rfl (.tmp 54) (.tmp 56) 22 3 (.int .i64 0) 8 rfl Try.underlying22 info3 rfl (by decide) (by omega) u7 out x [.int .i64 x] (fun _ => True) (fun _ => False) rfl rfl ?aP (fun _ hk => hk.elim) ?aF ?aO ?aB ?aS ?aL ?_; (case aP => exact rfl); (case aB => exact (by repeat (first | (with_reducible first | exact HB.out | apply below_alloc | apply pw_below_drewN | apply below_drew1) | exact HB.out))); (case aF => exact fun _ _ => trivial); (case aO => exact (by (with_reducible repeat (first | apply Kd.R_alloc | apply Kd.R_drewN | apply Kd.R_drew)); exact HO.out)); (case aS => exact (below_size (by repeat (first | (with_reducible first | exact HB.out | apply below_alloc | apply pw_below_drewN | apply below_drew1) | exact HB.out)))); (case aL => have := CL.out; omega); intro v6 w6 ho hb hg hat; rw [← Ny2.out] at ho))
                          have hap5 := KSet.apart HS5.out (v := u7) (fun g hg => by obtain ⟨cells, hc⟩ := Kd.R_typed HO.out g hg; exact ⟨cells, _, hc⟩)
                          have hlen : y2.length = out.length + 1 := by rw [Ny2.out]; simp
                          go_roundg k3
                          case measure => have := HK2.out; omega
                          case rel => exact ⟨y2, _, _, (by first | rfl | (simp; done)), H', ⟨by have := HK1.out; have := HK2.out; omega⟩, ⟨ho⟩, ⟨_, _, (HS5.out.kept hg hap5).mono (by omega), bset_add HSS.out CN.out⟩, ⟨by have := CL.out; omega⟩, ⟨hb⟩⟩
                        · rw [if_neg cl] at H; exact absurd H (by simp)
                      · rw [if_neg cn] at H; exact absurd H (by simp)
                  · rw [if_neg cz] at H; exact absurd H (by simp)
                · rw [if_neg cx] at H
                  have cxb : decide (0 ≤ x) = false := decide_eq_false cx
                  have cxn : decide (x < 0) = true := decide_eq_true (by omega)
                  clear cx
                  by_cases cs : 0 ≤ size
                  · rw [if_pos cs] at H
                    have csb : decide (0 ≤ size) = true := decide_eq_true cs
                    by_cases cl : size ≤ (out.length : Int)
                    · rw [if_pos cl] at H
                      obtain ⟨y3, hy3⟩ : ∃ y_ : List Int, y_ = out.take size.toNat := ⟨_, rfl⟩
                      rw [← hy3] at H
                      have Ny3 := Aside0.mk hy3
                      clear hy3
                      obtain ⟨t, ht, H⟩ := Option.bind_eq_some_iff.mp H
                      have A3 := Aside0.mk ht
                      clear ht
                      simp only [Option.some.injEq, Prod.mk.injEq] at H
                      obtain ⟨rfl, rfl⟩ := H
                      obtain ⟨Ao, co, eo⟩ := Kd.R_slice HO.out
                      subst eo
                      obtain ⟨i0, hi0, _, hsz, _⟩ := info_parts info3
                      have hroom : out.length ≤ co := (Kd.R_reads' HO.out).2.1
                      have hC : Kd.C (Kd.int .i64) _ Ao out.length out := (Kd.R_reads' HO.out).2.2
                      have hcut := cut_to (P := Try.prog) 22 3 .i64 Try.underlying22 hi0 Ao out.length co size cs cl hroom
                      have hr := Kd.C_take (m := size.toNat) hC (by omega)
                      have hy3l : y3.length = size.toNat := (by rw [Ny3.out, List.length_take]; omega)
                      rw [← Ny3.out] at hr
                      rw [← hy3l] at hcut
                      have HR := Aside0.mk hr
                      have HC := Aside0.mk (show y3.length ≤ co from by omega)
                      clear hr hC hroom hi0 hsz hy3l cs cl
                      go_wp2_with (first
                        | ((with_reducible refine gate_lookup (t := 74) (m := .tmp 27) rfl ?_); refine skip_guard (by rfl) ?_)
                        | ((with_reducible refine gate_callee (f := 134) rfl ?_); refine goesL_ (some 44) rfl rfl Try.func134 (by kernel_rfl) rfl #[.slice Ao y3.length co] rfl (by (try simp only [List.map_toArray, List.map_cons, List.map_nil]); first | done | rfl) ?_; (with_reducible refine (slices_Clone_int_int.calls _ _ y3 t _ ?side1 ?side2 A3.out).mono ?_); (case side1 => exact (by repeat (first | (with_reducible exact HR.out) | (with_reducible refine Kd.C_alloc ?_ _) | (with_reducible refine Kd.C_drewN ?_ _) | (with_reducible refine Kd.C_drew ?_) | exact HR.out))); (case side2 => exact HC.out); rintro e w9 ⟨v9_, rfl, ho9, hb9⟩; refine ⟨_, rfl, ?_⟩; have n0_ := Aside0.mk (Kd.R_lower ho9 (below_size (by repeat (first | (with_reducible first | exact HB.out | apply below_alloc | apply pw_below_drewN | apply below_drew1) | exact HB.out)))); have n1_ := Aside0.mk (below_step (by repeat (first | (with_reducible first | exact HB.out | apply below_alloc | apply pw_below_drewN | apply below_drew1) | exact HB.out)) hb9); clear HB ho9 hb9; have HO9 := n0_; have HB := n1_; clear n0_ n1_))
                      go_ret2
                      exact ⟨_, (by first | rfl | (simp; done)), HO9.out, HB.out⟩
                    · rw [if_neg cl] at H; exact absurd H (by simp)
                  · rw [if_neg cs] at H; exact absurd H (by simp)
      · rw [if_neg c3] at H; exact absurd H (by simp)
    · rw [if_neg c2] at H; exact absurd H (by simp)
  · rw [if_neg c1] at H
    obtain rfl := Bool.eq_false_iff.mpr c1
    simp only [Option.some.injEq, Prod.mk.injEq] at H
    obtain ⟨rfl, rfl⟩ := H
    go_enter Try.func54, Try.ntmps54
    go_wp2_with (first
      | ((with_reducible refine gate_callee (f := 93) rfl ?_); refine goesL_ (some 13) rfl rfl Try.func93 (by kernel_rfl) rfl #[.int .i64 a0, .int .i64 a1] rfl (by (try simp only [List.map_toArray, List.map_cons, List.map_nil]); first | done | rfl) ?_; (with_reducible refine (impl_isBruijnSize.calls k a0 a1 false _ A1.out).mono ?_); rintro e w' ⟨rfl, ⟨nd1, rfl⟩⟩; refine ⟨_, rfl, ?_⟩))
    go_ret2
    exact ⟨_, rfl, Kd.R_nil _ _ _ _ _, pw_below_drewN HB.out _⟩

/-! ### spec_l1Own: function 92 -/
def spec_l1Own.f (l0 : List Int) : Option (List Int) := (some (([] : List Int) : List Int)).bind fun y227 => (if y227.length + l0.length < 17592186044416 then (some (y227 ++ l0)) else (none))
set_option maxHeartbeats 8000000 in
set_option maxRecDepth 100000 in
theorem spec_l1Own.calls (A0 : Option Addr) (c0 : Nat) (l0 : List Int) (r : List Int) (w : World) (hr0 : Kd.C (Kd.int .i64) w A0 l0.length l0) (hc0 : l0.length ≤ c0) (h : spec_l1Own.f l0 = some r) :
    Calls Try.prog 92 #[.slice A0 l0.length c0] w fun e w' => ∃ v0_ : Value, e = .returned (v0_) ∧ Kd.R (Kd.int .i64) 3 w' w.heap.size (fun _ => True) v0_ r ∧ Below w.heap.size w w' := by
  have HR0 := Aside0.mk hr0
  have HC0 := Aside0.mk hc0
  clear hr0 hc0
  have HB := Aside0.mk (Below.refl w.heap.size w)
  have H : ((some (([] : List Int) : List Int)).bind fun y227 => (if y227.length + l0.length < 17592186044416 then (some (y227 ++ l0)) else (none))) = some r := h
  clear h
  obtain ⟨y227, hy227⟩ : ∃ y_ : List Int, y_ = (([] : List Int)) := ⟨_, rfl⟩
  replace H : (if y227.length + l0.length < 17592186044416 then (some (y227 ++ l0)) else (none)) = some r := by first | (rw [hy227]; with_reducible exact H) | (have H2_ := (Option.bind_some _ _).symm.trans H; rw [hy227]; with_reducible exact H2_) | (have H2_ := (Option.bind_some _ _).symm.trans H; with_reducible exact H2_) | with_reducible exact H | (rw [hy227]; exact H) | exact H
  have Ny227 := Aside0.mk hy227
  clear hy227
  by_cases c2 : y227.length + l0.length < 17592186044416
  · rw [if_pos c2] at H
    have LMc2 := Aside0.mk c2
    clear c2
    obtain ⟨y230, hy230⟩ : ∃ y_ : List Int, y_ = (y227 ++ l0) := ⟨_, rfl⟩
    replace H : (some y230) = some r := by first | (rw [hy230]; with_reducible exact H) | (have H2_ := (Option.bind_some _ _).symm.trans H; rw [hy230]; with_reducible exact H2_) | (have H2_ := (Option.bind_some _ _).symm.trans H; with_reducible exact H2_) | with_reducible exact H | (rw [hy230]; exact H) | exact H
    have Ny230 := Aside0.mk hy230
    clear hy230
    obtain rfl := Option.some.inj H
    go_enter Try.func92, Try.ntmps92
    go_wp2_with (first | ((with_reducible refine gate_dst (N := 3) rfl ?_); refine Kd.R_lit (Kd.int .i64) _ 3 ?hg (N := 3) ?hd (xs := ([] : List Int)) (inner := []) (ok := fun _ => True) (okp := fun _ => True) ?hr ?hp (fun _ hk => hk) trivial (Below.refl _ _) (Nat.le_refl _) (by simp) ?_; (case hd => rfl); (case hg => rfl); (case hr => first | (go_simp; done) | (go_simp; rfl)); (case hp => exact (Reps.none _ _)); intro v228 w3 ho4 hb hg_ hnew_; clear hg_ hnew_; (first | rw [← Ny227.out] at ho4 | (simp only [Int.reduceToNat] at ho4; rw [← Ny227.out] at ho4)); have n0_ := Aside0.mk (Kd.R_lower ho4 (below_size (by repeat (first | (with_reducible first | exact HB.out | apply below_alloc | apply pw_below_drewN | apply below_drew1) | exact HB.out)))); have n1_ := Aside0.mk (below_step (by repeat (first | (with_reducible first | exact HB.out | apply below_alloc | apply pw_below_drewN | apply below_drew1) | exact HB.out)) hb); clear HB; have HO229 := n0_; have HB := n1_; clear n0_ n1_; clear hb ho4) | ((with_reducible refine gate_builtin (b := .append) (xs := #[.tmp 3, .tmp 4]) rfl ?_); at_builtin; refine Kd.R_append_rows (Kd.int .i64) (w0 := w) w.heap.size rfl (.tmp 3) (.tmp 4) 22 3 (.int .i64 0) 8 rfl Try.underlying22 info3 rfl (by decide) (by omega) v228 y227 l0 _ _ _ (fun _ => True) (fun _ => False) rfl rfl ?aO ?aR (fun _ _ h => h) (fun _ h => h.elim) ?aF ?aB ?aS ?aL ?_; (case aR => repeat (first | exact (Kd.C_below HR0.out HB.out) | (with_reducible refine Kd.C_alloc ?_ _) | (with_reducible refine Kd.C_drewN ?_ _) | (with_reducible refine Kd.C_drew ?_))); (case aB => exact (by repeat (first | (with_reducible first | exact HB.out | apply below_alloc | apply pw_below_drewN | apply below_drew1) | exact HB.out))); (case aF => exact (fun _ _ => trivial)); (case aO => exact (by (with_reducible repeat (first | apply Kd.R_alloc | apply Kd.R_drewN | apply Kd.R_drew)); exact HO229.out)); (case aS => exact (below_size (by repeat (first | (with_reducible first | exact HB.out | apply below_alloc | apply pw_below_drewN | apply below_drew1) | exact HB.out)))); (case aL => have := LMc2.out; omega); intro v231 w5 ho hb hg hat; rw [← Ny230.out] at ho; have n0_ := Aside0.mk (hb); have n1_ := Aside0.mk (ho); clear HB; clear HO229; have HB := n0_; have HO232 := n1_; clear n0_ n1_; clear ho hb hg hat))
    go_ret
    exact ⟨_, by first | rfl | (simp [errW_none, errW_some] <;> rfl) | (simp [*, errW_none, errW_some] <;> rfl), by (with_reducible repeat (first | apply Kd.R_alloc | apply Kd.R_drewN | apply Kd.R_drew)); exact HO232.out, by repeat (first | (with_reducible first | exact HB.out | apply below_alloc | apply pw_below_drewN | apply below_drew1) | exact HB.out)⟩
  · rw [if_neg c2] at H
    exact absurd H (by simp)

/-! ### spec_brNumber: function 136 -/
def spec_brNumber.l0 : Nat → Int → Int → List Int → Int → Int → Option (Int)
  | 0, _, _, _, _, _ => none
  | k + 1, x1, x5, x8, x9, x10 => if x10 < x9 then (if 0 ≤ x10 then (if x10 < (x8.length : Int) then (spec_brNumber.l0 k x1 (wrap64 ((wrap64 (x5 * x1)) + (rd x8 x10))) x8 x9 (wrap64 (x10 + 1))) else (none)) else (none)) else (some x5)
def spec_brNumber.f (k : Nat) (l0 : List Int) (a1 : Int) : Option (Int) := spec_brNumber.l0 k a1 0 l0 (l0.length : Int) 0
theorem spec_brNumber.mono_l : ∀ k, (∀ y0 y1 y2 y3 y4, LeO (spec_brNumber.l0 k y0 y1 y2 y3 y4) (spec_brNumber.l0 (k + 1) y0 y1 y2 y3 y4))
  | 0 => fun _ _ _ _ _ r h => by simp [spec_brNumber.l0] at h
  | k + 1 => by
    have ih0 := spec_brNumber.mono_l k
    · intro y0 y1 y2 y3 y4
      unfold spec_brNumber.l0
      repeat' first
      | (with_reducible exact ih0 _ _ _ _ _)
      | (with_reducible exact LeO.refl _)
      | (with_reducible exact LeO.none _)
      | (with_reducible refine LeO.ite ?_ ?_)
      | (with_reducible refine LeO.bind ?_ (fun _ => ?_))
      | exact ih0 _ _ _ _ _
      | exact LeO.none _
      | refine LeO.ite ?_ ?_
      | refine LeO.bind ?_ (fun _ => ?_)
theorem spec_brNumber.mono : ∀ a0 a1 k, LeO (spec_brNumber.f k a0 a1) (spec_brNumber.f (k + 1) a0 a1) := by
  intro a0 a1 k
  have ih0 := spec_brNumber.mono_l k
  unfold spec_brNumber.f
  repeat' first
      | (with_reducible exact ih0 _ _ _ _ _)
      | (with_reducible exact LeO.refl _)
      | (with_reducible exact LeO.none _)
      | (with_reducible refine LeO.ite ?_ ?_)
      | (with_reducible refine LeO.bind ?_ (fun _ => ?_))
      | exact ih0 _ _ _ _ _
      | exact LeO.none _
      | refine LeO.ite ?_ ?_
      | refine LeO.bind ?_ (fun _ => ?_)
set_option maxHeartbeats 8000000 in
set_option maxRecDepth 100000 in
theorem spec_brNumber.calls (k : Nat) (A0 : Option Addr) (c0 : Nat) (l0 : List Int) (a1 : Int) (r : Int) (w : World) (hr0 : Kd.C (Kd.int .i64) w A0 l0.length l0) (hc0 : l0.length ≤ c0) (h : spec_brNumber.f k l0 a1 = some r) :
    Calls Try.prog 136 #[.slice A0 l0.length c0, .int .i64 a1] w fun e w' => e = .returned (.int .i64 r) ∧ Drawn0 w w' := by
  have HR0 := Aside0.mk hr0
  have HC0 := Aside0.mk hc0
  clear hr0 hc0
  have H : (spec_brNumber.l0 k a1 0 l0 (l0.length : Int) 0) = some r := h
  clear h
  have H' := Aside0.mk H
  clear H
  go_enter Try.func136, Try.ntmps136
  go_wp2
  go_loopg [5, 10] k (fun kq v5 v10 w' => ∃ (x5_1 : Int) (x10_1 : Int), v5 = .int .i64 x5_1 ∧ v10 = .int .i64 x10_1 ∧ Aside0 (spec_brNumber.l0 kq a1 x5_1 l0 (l0.length : Int) x10_1 = some r) ∧ Aside0 (kq ≤ k) ∧ Drawn0 w w')
  case atStart => exact ⟨(0), (0), (by first | rfl | (simp; done) | (simp [*]; done)), (by first | rfl | (simp; done) | (simp [*]; done)), H', ⟨Nat.le_refl _⟩, by repeat (first | exact Drawn0.refl _ | apply Drawn0.step)⟩
  case round =>
    clear H'
    try clear c1
    try clear p2
    obtain ⟨x5_1, x10_1, rfl, rfl, HA, HK1, ⟨m1, rfl⟩⟩ := hrel
    cases gk with
    | zero => exact absurd HA.out (by simp [spec_brNumber.l0])
    | succ k1 =>
      have H := HA.out
      clear HA
      simp only [spec_brNumber.l0] at H
      by_cases c3 : x10_1 < (l0.length : Int)
      · rw [if_pos c3] at H
        have c3b0 : decide (x10_1 < (l0.length : Int)) = true := decide_eq_true c3
        clear c3
        by_cases c4 : 0 ≤ x10_1
        · rw [if_pos c4] at H
          have c4b0 : decide (0 ≤ x10_1) = true := decide_eq_true c4
          clear c4
          by_cases c5 : x10_1 < (l0.length : Int)
          · rw [if_pos c5] at H
            have c5b0 : decide (x10_1 < (l0.length : Int)) = true := decide_eq_true c5
            clear c5
            have H' := Aside0.mk H
            clear H
            have p233 : 0 ≤ (x10_1 : Int) := of_decide_eq_true (by first | (with_reducible assumption) | assumption)
            have q233 : x10_1 < (l0.length : Int) := of_decide_eq_true (by first | (with_reducible assumption) | assumption)
            obtain ⟨ad233, e233, hx233_0⟩ := Kd.at_int HR0.out x10_1 p233 q233
            cases e233
            replace p233 := eq_true p233
            replace q233 := eq_true q233
            go_wp2
            go_roundg k1
            case measure => have := HK1.out; omega
            case rel => exact ⟨(wrap64 ((wrap64 (x5_1 * a1)) + (rd l0 x10_1))), (wrap64 (x10_1 + 1)), (by first | rfl | (simp; done) | (simp [*]; done)), (by first | rfl | (simp; done) | (simp [*]; done)), H', ⟨by have := HK1.out; omega⟩, by repeat (first | exact Drawn0.refl _ | apply Drawn0.step)⟩
          · rw [if_neg c5] at H
            exact absurd H (by simp)
        · rw [if_neg c4] at H
          exact absurd H (by simp)
      · rw [if_neg c3] at H
        have c3b0 : decide (x10_1 < (l0.length : Int)) = false := decide_eq_false c3
        clear c3
        obtain rfl := Option.some.inj H
        go_wp2
        go_ret
        exact ⟨by first | rfl | (simp; done) | (simp [*]; done), by repeat (first | exact Drawn0.refl _ | apply Drawn0.step)⟩

end Go.Proofs.Ytdnbeekoefmbcaa.PFnBruijnWords
