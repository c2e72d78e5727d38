/- The pure statement of SuperLength: program and reference answer alike, for all arguments; no condition. -/
import Derived.Test.YtdhmdlecagjohaaPFnExactSuperLengthx1
import Derived.Test.YtdhmdlecagjohaaBase
namespace Go.Proofs.Ytdhmdlecagjohaa.Pure
open Go.RowKit Go.Proofs.Ytdhmdlecagjohaa.PFnExactSuperLength Go.Proofs.YtdhmdlecagjohaaW.PrintWords Go.Proofs.YtdhmdlecagjohaaW.PrintLast Go.Proofs.Ytdhmdlecagjohaa.Base
set_option maxRecDepth 10000

theorem impl_within_eq (a lo hi : Int) : impl_within.f a lo hi = some (inB a lo hi) := by
  unfold impl_within.f inB
  by_cases h : a ≥ lo
  · rw [if_pos h]; simp [h]
  · rw [if_neg h]; simp [show ¬ lo ≤ a from h]

theorem spec_l1In_eq (a lo hi : Int) : spec_l1In.f a lo hi = some (inB a lo hi) := by
  unfold spec_l1In.f inB
  by_cases h : a ≥ lo
  · rw [if_pos h]; simp [h]
  · rw [if_neg h]; simp [show ¬ lo ≤ a from h]

theorem FnExactSuperLength : laws_FnExactSuperLength.Pure := by
  intro n h
  refine Ev.rounds (r := true) ?_
  by_cases hn : 1 ≤ n ∧ n ≤ 5
  · have h5 : n = 1 ∨ n = 2 ∨ n = 3 ∨ n = 4 ∨ n = 5 := by omega
    rcases h5 with rfl | rfl | rfl | rfl | rfl <;> exact Ev.of (fun k => laws_FnExactSuperLength.mono _ k) (k := 12) (by kernel_rfl)
  · have hb : inB n 1 5 = false := inB_not.mpr hn
    have e1 : spec_suSize.f n = some false := by unfold spec_suSize.f; rw [spec_l1In_eq, hb]; rfl
    have e2 : impl_isSuperSize.f n = some false := by unfold impl_isSuperSize.f; rw [impl_within_eq, hb]; rfl
    unfold laws_FnExactSuperLength.f spec_SuperLength.f impl_SuperLength.f
    rw [e1, e2]
    exact Ev.now _

end Go.Proofs.Ytdhmdlecagjohaa.Pure
