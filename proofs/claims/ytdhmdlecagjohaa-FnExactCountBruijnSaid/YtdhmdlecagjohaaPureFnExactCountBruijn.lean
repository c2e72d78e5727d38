/- The pure statement of CountBruijn: program and reference answer alike, for all arguments; no condition. -/
import Derived.Test.YtdhmdlecagjohaaPFnExactCountBruijnx2
import Derived.Test.YtdhmdlecagjohaaBase
import Derived.Test.YtdhmdlecagjohaaLists
namespace Go.Proofs.Ytdhmdlecagjohaa.Pure
open Go.RowKit Go.Proofs.Ytdhmdlecagjohaa.PFnExactCountBruijn Go.Proofs.YtdhmdlecagjohaaW.PrintWords Go.Proofs.YtdhmdlecagjohaaW.PrintLast Go.Proofs.Ytdhmdlecagjohaa.Base
set_option maxRecDepth 10000

def kindB (n k : Int) : Bool := inB n 1 10 && (inB k 2 6 && decide (k.toNat ^ n.toNat ≤ 1024))
theorem kindB_iff {n k : Int} : kindB n k = true ↔ (1 ≤ n ∧ n ≤ 10) ∧ (2 ≤ k ∧ k ≤ 6) ∧ k.toNat ^ n.toNat ≤ 1024 := by simp [kindB, inB_iff]
theorem kindB_nat {n k : Int} (h : kindB n k = true) : ∃ n' k' : Nat, n = n' ∧ k = k' ∧ 1 ≤ n' ∧ n' ≤ 10 ∧ 2 ≤ k' ∧ k' ≤ 6 ∧ k' ^ n' ≤ 1024 := by
  obtain ⟨h1, h2, h3⟩ := kindB_iff.mp h
  exact ⟨n.toNat, k.toNat, by omega, by omega, by omega, by omega, by omega, by omega, h3⟩

theorem impl_within_eq (a lo hi : Int) : impl_within.f a lo hi = some (inB a lo hi) := by
  unfold impl_within.f inB
  by_cases h : a ≥ lo
  · rw [if_pos h]; simp [h]
  · rw [if_neg h]; simp [show ¬ lo ≤ a from h]

theorem impl_power_ev (a n : Nat) (ha : a ≤ 6) (hn : n ≤ 12) : Ev (fun k => impl_power.f k (a : Int) (n : Int)) ((a ^ n : Nat) : Int) := by
  have hb : ∀ j, j ≤ n → a ^ j ≤ 2176782336 := fun j hj => Nat.le_trans (Nat.pow_le_pow_left ha j) (Nat.le_trans (Nat.pow_le_pow_right (by omega) (show j ≤ 12 by omega)) (by decide))
  unfold impl_power.f
  refine ev_iter (fun (o : Nat) i k => impl_power.l0 k (a : Int) (o : Int) (n : Int) (i : Int)) (fun o _ => o * a) (fun i o => o = a ^ i) n ?_ n 0 1 (by omega) rfl ?_
  · intro o i hi hI
    refine ⟨by rw [hI, Nat.pow_succ], fun r k => ?_⟩
    have h1 := hb (i + 1) (by omega)
    rw [Nat.pow_succ, ← hI] at h1
    refine Ev.step (fun k => by simp only [impl_power.l0]; rfl) ?_
    refine ev_pos (by omega) ?_
    rw [wrap_succ (by omega), show (o : Int) * (a : Int) = ((o * a : Nat) : Int) by simp, wrap_id (by omega)]
    exact k
  · intro h
    refine Ev.step (fun k => by simp only [impl_power.l0]; rfl) (ev_neg (by omega) (ev_some (by rw [h])))

theorem impl_isBruijnSize_ev (n k : Int) : Ev (fun q => impl_isBruijnSize.f q n k) (kindB n k) := by
  unfold impl_isBruijnSize.f kindB
  refine ev_plain (impl_within_eq _ _ _) (ev_if (fun h1 => ?_) (fun h1 => ev_some (by simp [Bool.eq_false_iff.mpr h1])))
  refine ev_plain (impl_within_eq _ _ _) (ev_if (fun h2 => ?_) (fun h2 => ev_some (by simp [Bool.eq_false_iff.mpr h2])))
  have e1 := inB_iff.mp h1
  have e2 := inB_iff.mp h2
  obtain ⟨n, rfl⟩ := Int.eq_ofNat_of_zero_le (show 0 ≤ n by omega)
  obtain ⟨k, rfl⟩ := Int.eq_ofNat_of_zero_le (show 0 ≤ k by omega)
  refine ev_call (impl_power_ev k n (by omega) (by omega)) (ev_some ?_)
  rw [h1, h2]
  simp only [Bool.true_and, Int.toNat_natCast]
  exact decide_eq_decide.mpr (by omega)

theorem spec_l1In_eq (a lo hi : Int) : spec_l1In.f a lo hi = some (inB a lo hi) := by
  unfold spec_l1In.f inB
  by_cases h : a ≥ lo
  · rw [if_pos h]; simp [h]
  · rw [if_neg h]; simp [show ¬ lo ≤ a from h]

theorem spec_lyPower_loop (a : Nat) (ha : a ≤ 6) : ∀ (e j : Nat), e + j ≤ 12 → Ev (fun k => spec_lyPower.l0 k (a : Int) (e : Int) ((a ^ j : Nat) : Int)) ((a ^ (j + e) : Nat) : Int) := by
  intro e
  induction e with
  | zero =>
    intro j h
    exact Ev.step (fun k => by simp only [spec_lyPower.l0]; rfl) (ev_neg (by omega) (Ev.now _))
  | succ e ih =>
    intro j h
    have h1 : a ^ (j + 1) ≤ 2176782336 := Nat.le_trans (Nat.pow_le_pow_left ha (j + 1)) (Nat.le_trans (Nat.pow_le_pow_right (by omega) (show j + 1 ≤ 12 by omega)) (by decide))
    refine Ev.step (fun k => by simp only [spec_lyPower.l0]; rfl) ?_
    refine ev_pos (by omega) ?_
    rw [wrap_pred (by omega), show ((a ^ j : Nat) : Int) * (a : Int) = ((a ^ (j + 1) : Nat) : Int) by rw [Nat.pow_succ]; simp, wrap_id (by omega)]
    exact ev_to (ih (j + 1) (by omega)) (by rw [show j + 1 + e = j + (e + 1) by omega])
theorem spec_lyPower_ev (a n : Nat) (ha : a ≤ 6) (hn : n ≤ 12) : Ev (fun k => spec_lyPower.f k (a : Int) (n : Int)) ((a ^ n : Nat) : Int) :=
  ev_to (spec_lyPower_loop a ha n 0 (by omega)) (by simp)

theorem spec_brKind_ev (n k : Int) : Ev (fun q => spec_brKind.f q n k) (kindB n k) := by
  unfold spec_brKind.f kindB
  refine ev_plain (spec_l1In_eq _ _ _) (ev_if (fun h1 => ?_) (fun h1 => ev_some (by simp [Bool.eq_false_iff.mpr h1])))
  refine ev_plain (spec_l1In_eq _ _ _) (ev_if (fun h2 => ?_) (fun h2 => ev_some (by simp [Bool.eq_false_iff.mpr h2])))
  have e1 := inB_iff.mp h1
  have e2 := inB_iff.mp h2
  obtain ⟨n, rfl⟩ := Int.eq_ofNat_of_zero_le (show 0 ≤ n by omega)
  obtain ⟨k, rfl⟩ := Int.eq_ofNat_of_zero_le (show 0 ≤ k by omega)
  refine ev_call (spec_lyPower_ev k n (by omega) (by omega)) (ev_some ?_)
  rw [h1, h2]
  simp only [Bool.true_and, Int.toNat_natCast]
  exact decide_eq_decide.mpr (by omega)

theorem count_all : ((List.range 11).all fun n => (List.range 7).all fun k => !(decide (1 ≤ n) && decide (2 ≤ k) && decide (k ^ n ≤ 1024)) || (laws_FnExactCountBruijn.f 700 (n : Int) (k : Int) == some true)) = true := by kernel_rfl
theorem count_cases (n : Nat) (hn : n < 11) (k : Nat) (hk : k < 7) (h1 : 1 ≤ n) (h2 : 2 ≤ k) (h3 : k ^ n ≤ 1024) : laws_FnExactCountBruijn.f 700 (n : Int) (k : Int) = some true := by
  have h := List.all_eq_true.mp (List.all_eq_true.mp count_all n (List.mem_range.mpr hn)) k (List.mem_range.mpr hk)
  rw [decide_eq_true h1, decide_eq_true h2, decide_eq_true h3] at h
  simpa using h
theorem FnExactCountBruijn : laws_FnExactCountBruijn.Pure := by
  intro n k _ _
  by_cases h : kindB n k = true
  · obtain ⟨n', k', rfl, rfl, h1, h2, h3, h4, h5⟩ := kindB_nat h
    exact ⟨700, count_cases n' (by omega) k' (by omega) h1 h3 h5⟩
  · have hb := Bool.eq_false_iff.mpr h
    refine Ev.rounds (r := true) ?_
    unfold laws_FnExactCountBruijn.f spec_CountBruijn.f impl_CountBruijn.f
    have e1 := spec_brKind_ev n k
    have e2 := impl_isBruijnSize_ev n k
    rw [hb] at e1 e2
    refine ev_call (a := (0, false)) (ev_call e1 (ev_neg (by simp) (Ev.now _))) ?_
    refine ev_call (a := (0, false)) (ev_call e2 (ev_neg (by simp) (Ev.now _))) ?_
    exact Ev.now _

end Go.Proofs.Ytdhmdlecagjohaa.Pure
