/- The pure statement of LeastBruijn: program and reference answer alike, for all arguments; no condition. -/
import Derived.Test.YtbmgpafijkfdbaaPFnExactLeastBruijnx3
import Derived.Test.YtbmgpafijkfdbaaBase
import Derived.Test.YtbmgpafijkfdbaaLists
namespace Go.Proofs.Ytbmgpafijkfdbaa.Pure
open Go.RowKit Go.Proofs.Ytbmgpafijkfdbaa.PFnExactLeastBruijn Go.Proofs.YtbmgpafijkfdbaaW.PrintWords Go.Proofs.YtbmgpafijkfdbaaW.PrintLast Go.Proofs.Ytbmgpafijkfdbaa.Base
set_option maxRecDepth 10000
set_option linter.unusedVariables false
set_option linter.unusedSimpArgs false

def kindB (n k : Int) : Bool := inB n 1 10 && (inB k 2 6 && decide (k.toNat ^ n.toNat ≤ 1024))
theorem kindB_iff {n k : Int} : kindB n k = true ↔ (1 ≤ n ∧ n ≤ 10) ∧ (2 ≤ k ∧ k ≤ 6) ∧ k.toNat ^ n.toNat ≤ 1024 := by simp [kindB, inB_iff]
theorem kindB_nat {n k : Int} (h : kindB n k = true) : ∃ n' k' : Nat, n = n' ∧ k = k' ∧ 1 ≤ n' ∧ n' ≤ 10 ∧ 2 ≤ k' ∧ k' ≤ 6 ∧ k' ^ n' ≤ 1024 := by
  obtain ⟨h1, h2, h3⟩ := kindB_iff.mp h
  exact ⟨n.toNat, k.toNat, by omega, by omega, by omega, by omega, by omega, by omega, h3⟩

theorem impl_within_eq (a lo hi : Int) : impl_within.f a lo hi = some (inB a lo hi) := by
  unfold impl_within.f inB
  by_cases h : a ≥ lo
  · rw [if_pos h]; simp [h]
  · rw [if_neg h]; simp [show ¬ lo ≤ a from h]

theorem impl_power_ev (a n : Nat) (ha : a ≤ 6) (hn : n ≤ 12) : Ev (fun k => impl_power.f k (a : Int) (n : Int)) ((a ^ n : Nat) : Int) := by
  have hb : ∀ j, j ≤ n → a ^ j ≤ 2176782336 := fun j hj => Nat.le_trans (Nat.pow_le_pow_left ha j) (Nat.le_trans (Nat.pow_le_pow_right (by omega) (show j ≤ 12 by omega)) (by decide))
  unfold impl_power.f
  refine ev_iter (fun (o : Nat) i k => impl_power.l0 k (a : Int) (o : Int) (n : Int) (i : Int)) (fun o _ => o * a) (fun i o => o = a ^ i) n ?_ n 0 1 (by omega) rfl ?_
  · intro o i hi hI
    refine ⟨by rw [hI, Nat.pow_succ], fun r k => ?_⟩
    have h1 := hb (i + 1) (by omega)
    rw [Nat.pow_succ, ← hI] at h1
    refine Ev.step (fun k => by simp only [impl_power.l0]; rfl) ?_
    refine ev_pos (by omega) ?_
    rw [wrap_succ (by omega), show (o : Int) * (a : Int) = ((o * a : Nat) : Int) by simp, wrap_id (by omega)]
    exact k
  · intro h
    refine Ev.step (fun k => by simp only [impl_power.l0]; rfl) (ev_neg (by omega) (ev_some (by rw [h])))

theorem impl_isBruijnSize_ev (n k : Int) : Ev (fun q => impl_isBruijnSize.f q n k) (kindB n k) := by
  unfold impl_isBruijnSize.f kindB
  refine ev_plain (impl_within_eq _ _ _) (ev_if (fun h1 => ?_) (fun h1 => ev_some (by simp [Bool.eq_false_iff.mpr h1])))
  refine ev_plain (impl_within_eq _ _ _) (ev_if (fun h2 => ?_) (fun h2 => ev_some (by simp [Bool.eq_false_iff.mpr h2])))
  have e1 := inB_iff.mp h1
  have e2 := inB_iff.mp h2
  obtain ⟨n, rfl⟩ := Int.eq_ofNat_of_zero_le (show 0 ≤ n by omega)
  obtain ⟨k, rfl⟩ := Int.eq_ofNat_of_zero_le (show 0 ≤ k by omega)
  refine ev_call (impl_power_ev k n (by omega) (by omega)) (ev_some ?_)
  rw [h1, h2]
  simp only [Bool.true_and, Int.toNat_natCast]
  exact decide_eq_decide.mpr (by omega)

theorem spec_l1In_eq (a lo hi : Int) : spec_l1In.f a lo hi = some (inB a lo hi) := by
  unfold spec_l1In.f inB
  by_cases h : a ≥ lo
  · rw [if_pos h]; simp [h]
  · rw [if_neg h]; simp [show ¬ lo ≤ a from h]

theorem spec_lyPower_loop (a : Nat) (ha : a ≤ 6) : ∀ (e j : Nat), e + j ≤ 12 → Ev (fun k => spec_lyPower.l0 k (a : Int) (e : Int) ((a ^ j : Nat) : Int)) ((a ^ (j + e) : Nat) : Int) := by
  intro e
  induction e with
  | zero =>
    intro j h
    exact Ev.step (fun k => by simp only [spec_lyPower.l0]; rfl) (ev_neg (by omega) (Ev.now _))
  | succ e ih =>
    intro j h
    have h1 : a ^ (j + 1) ≤ 2176782336 := Nat.le_trans (Nat.pow_le_pow_left ha (j + 1)) (Nat.le_trans (Nat.pow_le_pow_right (by omega) (show j + 1 ≤ 12 by omega)) (by decide))
    refine Ev.step (fun k => by simp only [spec_lyPower.l0]; rfl) ?_
    refine ev_pos (by omega) ?_
    rw [wrap_pred (by omega), show ((a ^ j : Nat) : Int) * (a : Int) = ((a ^ (j + 1) : Nat) : Int) by rw [Nat.pow_succ]; simp, wrap_id (by omega)]
    exact ev_to (ih (j + 1) (by omega)) (by rw [show j + 1 + e = j + (e + 1) by omega])
theorem spec_lyPower_ev (a n : Nat) (ha : a ≤ 6) (hn : n ≤ 12) : Ev (fun k => spec_lyPower.f k (a : Int) (n : Int)) ((a ^ n : Nat) : Int) :=
  ev_to (spec_lyPower_loop a ha n 0 (by omega)) (by simp)

theorem spec_brKind_ev (n k : Int) : Ev (fun q => spec_brKind.f q n k) (kindB n k) := by
  unfold spec_brKind.f kindB
  refine ev_plain (spec_l1In_eq _ _ _) (ev_if (fun h1 => ?_) (fun h1 => ev_some (by simp [Bool.eq_false_iff.mpr h1])))
  refine ev_plain (spec_l1In_eq _ _ _) (ev_if (fun h2 => ?_) (fun h2 => ev_some (by simp [Bool.eq_false_iff.mpr h2])))
  have e1 := inB_iff.mp h1
  have e2 := inB_iff.mp h2
  obtain ⟨n, rfl⟩ := Int.eq_ofNat_of_zero_le (show 0 ≤ n by omega)
  obtain ⟨k, rfl⟩ := Int.eq_ofNat_of_zero_le (show 0 ≤ k by omega)
  refine ev_call (spec_lyPower_ev k n (by omega) (by omega)) (ev_some ?_)
  rw [h1, h2]
  simp only [Bool.true_and, Int.toNat_natCast]
  exact decide_eq_decide.mpr (by omega)

def least2_one (n k : Nat) : Bool := !(decide (1 ≤ n) && decide (2 ≤ k) && decide (k ^ n ≤ 1024)) || (match spec_LeastBruijn.f 2000 (n : Int) (k : Int), impl_LeastBruijn.f 2000 (n : Int) (k : Int) with | some (r, b), some (r', b') => (r == r') && ((b == b') && decide (r.length ≤ 1024)) | _, _ => false)
theorem least2_1_2 : least2_one 1 2 = true := by kernel_rfl
theorem least2_1_3 : least2_one 1 3 = true := by kernel_rfl
theorem least2_1_4 : least2_one 1 4 = true := by kernel_rfl
theorem least2_1_5 : least2_one 1 5 = true := by kernel_rfl
theorem least2_1_6 : least2_one 1 6 = true := by kernel_rfl
theorem least2_2_2 : least2_one 2 2 = true := by kernel_rfl
theorem least2_2_3 : least2_one 2 3 = true := by kernel_rfl
theorem least2_2_4 : least2_one 2 4 = true := by kernel_rfl
theorem least2_2_5 : least2_one 2 5 = true := by kernel_rfl
theorem least2_2_6 : least2_one 2 6 = true := by kernel_rfl
theorem least2_3_2 : least2_one 3 2 = true := by kernel_rfl
theorem least2_3_3 : least2_one 3 3 = true := by kernel_rfl
theorem least2_3_4 : least2_one 3 4 = true := by kernel_rfl
theorem least2_3_5 : least2_one 3 5 = true := by kernel_rfl
theorem least2_3_6 : least2_one 3 6 = true := by kernel_rfl
theorem least2_4_2 : least2_one 4 2 = true := by kernel_rfl
theorem least2_4_3 : least2_one 4 3 = true := by kernel_rfl
theorem least2_4_4 : least2_one 4 4 = true := by kernel_rfl
theorem least2_4_5 : least2_one 4 5 = true := by kernel_rfl
theorem least2_5_2 : least2_one 5 2 = true := by kernel_rfl
theorem least2_5_3 : least2_one 5 3 = true := by kernel_rfl
theorem least2_5_4 : least2_one 5 4 = true := by kernel_rfl
theorem least2_6_2 : least2_one 6 2 = true := by kernel_rfl
theorem least2_6_3 : least2_one 6 3 = true := by kernel_rfl
theorem least2_7_2 : least2_one 7 2 = true := by kernel_rfl
theorem least2_8_2 : least2_one 8 2 = true := by kernel_rfl
theorem least2_9_2 : least2_one 9 2 = true := by kernel_rfl
theorem least2_10_2 : least2_one 10 2 = true := by kernel_rfl
theorem least_all2 (n k : Nat) (h1 : 1 ≤ n) (h2 : n ≤ 10) (h3 : 2 ≤ k) (h4 : k ≤ 6) (h5 : k ^ n ≤ 1024) : least2_one n k = true := by
  have hn : n = 1 ∨ n = 2 ∨ n = 3 ∨ n = 4 ∨ n = 5 ∨ n = 6 ∨ n = 7 ∨ n = 8 ∨ n = 9 ∨ n = 10 := by omega
  have hk : k = 2 ∨ k = 3 ∨ k = 4 ∨ k = 5 ∨ k = 6 := by omega
  rcases hn with rfl | rfl | rfl | rfl | rfl | rfl | rfl | rfl | rfl | rfl <;> rcases hk with rfl | rfl | rfl | rfl | rfl
  · exact least2_1_2
  · exact least2_1_3
  · exact least2_1_4
  · exact least2_1_5
  · exact least2_1_6
  · exact least2_2_2
  · exact least2_2_3
  · exact least2_2_4
  · exact least2_2_5
  · exact least2_2_6
  · exact least2_3_2
  · exact least2_3_3
  · exact least2_3_4
  · exact least2_3_5
  · exact least2_3_6
  · exact least2_4_2
  · exact least2_4_3
  · exact least2_4_4
  · exact least2_4_5
  · exact absurd h5 (by decide +kernel)
  · exact least2_5_2
  · exact least2_5_3
  · exact least2_5_4
  · exact absurd h5 (by decide +kernel)
  · exact absurd h5 (by decide +kernel)
  · exact least2_6_2
  · exact least2_6_3
  · exact absurd h5 (by decide +kernel)
  · exact absurd h5 (by decide +kernel)
  · exact absurd h5 (by decide +kernel)
  · exact least2_7_2
  · exact absurd h5 (by decide +kernel)
  · exact absurd h5 (by decide +kernel)
  · exact absurd h5 (by decide +kernel)
  · exact absurd h5 (by decide +kernel)
  · exact least2_8_2
  · exact absurd h5 (by decide +kernel)
  · exact absurd h5 (by decide +kernel)
  · exact absurd h5 (by decide +kernel)
  · exact absurd h5 (by decide +kernel)
  · exact least2_9_2
  · exact absurd h5 (by decide +kernel)
  · exact absurd h5 (by decide +kernel)
  · exact absurd h5 (by decide +kernel)
  · exact absurd h5 (by decide +kernel)
  · exact least2_10_2
  · exact absurd h5 (by decide +kernel)
  · exact absurd h5 (by decide +kernel)
  · exact absurd h5 (by decide +kernel)
  · exact absurd h5 (by decide +kernel)
theorem least_both (n k : Int) : ∃ r : List Int, ∃ b : Bool, r.length ≤ 1048576 ∧ Ev (fun q => impl_LeastBruijn.f q n k) (r, b) ∧ Ev (fun q => spec_LeastBruijn.f q n k) (r, b) := by
  by_cases h : kindB n k = true
  · obtain ⟨n, k, rfl, rfl, n1, n2, k1, k2, hp⟩ := kindB_nat h
    have h := least_all2 n k n1 n2 k1 k2 hp
    unfold least2_one at h
    rw [decide_eq_true n1, decide_eq_true k1, decide_eq_true hp] at h
    cases hs : spec_LeastBruijn.f 2000 (n : Int) (k : Int) with
    | none => rw [hs] at h; simp at h
    | some p =>
      cases hi : impl_LeastBruijn.f 2000 (n : Int) (k : Int) with
      | none => rw [hs, hi] at h; simp at h
      | some p' =>
        obtain ⟨r, b⟩ := p
        obtain ⟨r', b'⟩ := p'
        rw [hs, hi] at h
        simp at h
        obtain ⟨rfl, rfl, hl⟩ := h
        exact ⟨r, b, by omega, Ev.of (fun k => impl_LeastBruijn.mono _ _ k) (k := 2000) hi, Ev.of (fun k => spec_LeastBruijn.mono _ _ k) (k := 2000) hs⟩
  · have hb := Bool.eq_false_iff.mpr h
    have e1 := spec_brKind_ev n k
    have e2 := impl_isBruijnSize_ev n k
    rw [hb] at e1 e2
    refine ⟨[], false, by simp, ?_, ?_⟩
    · unfold impl_LeastBruijn.f
      exact ev_call e2 (ev_neg (by simp) (Ev.now _))
    · unfold spec_LeastBruijn.f
      exact ev_call e1 (ev_neg (by simp) (Ev.now _))

theorem laws_eqIntS_loop (l : List Int) (hl : l.length ≤ 35184372088832) : ∀ (d i : Nat), i + d = l.length → Ev (fun k => laws_eqIntS.l0 k l l (i : Int)) true := by
  intro d
  induction d with
  | zero =>
    intro i h
    refine Ev.step (f := fun _ => some true) (fun k => ?_) (Ev.now _)
    simp only [laws_eqIntS.l0]; rw [if_neg (by omega)]
  | succ d ih =>
    intro i h
    refine Ev.step (f := fun k => laws_eqIntS.l0 k l l ((i + 1 : Nat) : Int)) (fun k => ?_) (ih (i + 1) (by omega))
    simp only [laws_eqIntS.l0]; rw [if_pos (by omega), if_pos (by omega), if_pos (by omega), if_pos trivial, wrap_succ (by omega)]
theorem laws_eqIntS_ev (l : List Int) (hl : l.length ≤ 35184372088832) : Ev (fun k => laws_eqIntS.f k l l) true := by
  unfold laws_eqIntS.f
  exact ev_pos rfl (laws_eqIntS_loop l hl l.length 0 (by omega))

theorem laws_markIntS_loop : ∀ (d i : Nat) (ys : List Int) (m : Int), i + d = ys.length → 0 ≤ m → m + d ≤ 1000000000000000 → ys.length ≤ 35184372088832 →
    Ev (fun k => laws_markIntS.l0 k ys m (i : Int)) (m + (d : Int), ys.take i ++ marks m d) := by
  intro d
  induction d with
  | zero =>
    intro i ys m h1 h2 h3 h4
    refine Ev.step (f := fun _ => some (m, ys)) (fun k => ?_) (ev_some ?_)
    · simp only [laws_markIntS.l0]; rw [if_neg (by omega)]
    · rw [List.take_of_length_le (by omega)]; simp [marks]
  | succ d ih =>
    intro i ys m h1 h2 h3 h4
    refine Ev.step (f := fun k => laws_markIntS.l0 k (ys.set i m) (m + 1) ((i + 1 : Nat) : Int)) (fun k => ?_) (ev_to (ih (i + 1) _ (m + 1) (by simp; omega) (by omega) (by omega) (by simpa using h4)) ?_)
    · simp only [laws_markIntS.l0]; rw [if_pos (by omega), if_pos (by omega), wrap_succ (by omega), wrap_id (by omega), Int.toNat_natCast]
    · rw [marks_succ, List.take_succ_eq_append_getElem (by simp; omega), List.take_set, List.set_eq_of_length_le (by simp; omega)]
      refine Prod.ext (by simp; omega) ?_
      simp
theorem laws_markIntS_ev (l : List Int) (m : Int) (h2 : 0 ≤ m) (h3 : m ≤ 900000000000000) (h4 : l.length ≤ 35184372088832) : Ev (fun k => laws_markIntS.f k l m) (m + (l.length : Int), marks m l.length) :=
  ev_to (laws_markIntS_loop l.length 0 l m (by omega) h2 (by omega) h4) (by simp)

theorem laws_heldIntS_loop (zs : List Int) (hz : zs.length ≤ 35184372088832) : ∀ (d i : Nat) (m : Int), i + d = zs.length → 0 ≤ m → m + d ≤ 1000000000000000 → zs.drop i = marks m d →
    Ev (fun k => laws_heldIntS.l0 k zs m (i : Int)) (m + (d : Int)) := by
  intro d
  induction d with
  | zero =>
    intro i m h1 h2 h3 h4
    refine Ev.step (f := fun _ => some m) (fun k => ?_) (ev_some (by simp))
    simp only [laws_heldIntS.l0]; rw [if_neg (by omega)]
  | succ d ih =>
    intro i m h1 h2 h3 h4
    rw [drop_rd zs i (by omega), marks_succ, List.cons.injEq] at h4
    refine Ev.step (f := fun k => laws_heldIntS.l0 k zs (m + 1) ((i + 1 : Nat) : Int)) (fun k => ?_) (ev_to (ih (i + 1) (m + 1) (by omega) (by omega) (by omega) h4.2) (by omega))
    simp only [laws_heldIntS.l0]; rw [if_pos (by omega), if_pos (by omega), if_pos h4.1, wrap_succ (by omega), wrap_id (by omega)]
theorem laws_heldIntS_ev (m : Int) (n : Nat) (h2 : 0 ≤ m) (h3 : m ≤ 900000000000000) (h4 : n ≤ 35184372088832) : Ev (fun k => laws_heldIntS.f k (marks m n) m) (m + (n : Int)) :=
  laws_heldIntS_loop (marks m n) (by simpa [marks_length] using h4) n 0 m (by simp [marks_length]) h2 (by omega) rfl

theorem FnExactLeastBruijn : laws_FnExactLeastBruijn.Pure := by
  intro n k h_n h_k
  refine Ev.rounds (r := true) ?_
  unfold laws_FnExactLeastBruijn.f
  have hw_n := wf_in h_n
  have hw_k := wf_in h_k
  obtain ⟨r_, b_, hr, I_, S_⟩ := least_both n k
  repeat (first
    | exact Ev.now _
    | (refine ev_call S_ ?_; try dsimp only)
    | (refine ev_call I_ ?_; try dsimp only)
    | refine ev_call (laws_eqIntS_ev _ (by first | assumption | omega)) ?_
    | (refine ev_call (laws_markIntS_ev _ _ (by omega) (by omega) (by omega)) ?_; dsimp only)
    | refine ev_call (laws_heldIntS_ev _ _ (by omega) (by omega) (by omega)) ?_
    | refine ev_pos rfl ?_
    | refine ev_neg (bne_no _) ?_
    | refine ev_neg (by omega) ?_
    | refine Ev.step (fun k => by simp only [laws_FnExactLeastBruijn.j0]; rfl) ?_
    | refine Ev.step (fun k => by simp only [laws_FnExactLeastBruijn.j1]; rfl) ?_)

end Go.Proofs.Ytbmgpafijkfdbaa.Pure
