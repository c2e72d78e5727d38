/- The pure statement of SuperOf: program and reference answer alike, for all arguments; no condition. -/
import Derived.Test.YtdnbeekoefmbcaaPFnExactSuperOfx7
import Derived.Test.YtdnbeekoefmbcaaBase
import Derived.Test.YtdnbeekoefmbcaaLists
namespace Go.Proofs.Ytdnbeekoefmbcaa.Pure
open Go.RowKit Go.Proofs.Ytdnbeekoefmbcaa.PFnExactSuperOf Go.Proofs.YtdnbeekoefmbcaaW.PrintWords Go.Proofs.YtdnbeekoefmbcaaW.PrintLast Go.Proofs.Ytdnbeekoefmbcaa.Base
set_option maxRecDepth 10000
set_option linter.unusedVariables false
set_option linter.unusedSimpArgs false

theorem impl_within_eq (a lo hi : Int) : impl_within.f a lo hi = some (inB a lo hi) := by
  unfold impl_within.f inB
  by_cases h : a ≥ lo
  · rw [if_pos h]; simp [h]
  · rw [if_neg h]; simp [show ¬ lo ≤ a from h]

theorem impl_isSuperSize_eq (n : Int) : impl_isSuperSize.f n = some (inB n 1 5) := by unfold impl_isSuperSize.f; rw [impl_within_eq]; rfl

theorem spec_l1In_eq (a lo hi : Int) : spec_l1In.f a lo hi = some (inB a lo hi) := by
  unfold spec_l1In.f inB
  by_cases h : a ≥ lo
  · rw [if_pos h]; simp [h]
  · rw [if_neg h]; simp [show ¬ lo ≤ a from h]

theorem spec_suSize_eq (n : Int) : spec_suSize.f n = some (inB n 1 5) := by unfold spec_suSize.f; rw [spec_l1In_eq]; rfl

def superOk (n : Int) (w : List Int) : Bool := inB n 1 5 && superWordB w
theorem superOk_nat {n : Int} {w : List Int} (h : superOk n w = true) : ∃ m : Nat, n = m ∧ 1 ≤ m ∧ m ≤ 5 ∧ w.length ≤ 200 := by
  simp only [superOk, superWordB, Bool.and_eq_true, inB_iff, decide_eq_true_eq] at h
  exact ⟨n.toNat, by omega, by omega, by omega, by omega⟩
def RanksInM (n : Int) (w : List Int) : List Int × Bool := if superOk n w = true then (comingsM n.toNat w, true) else ([], false)
theorem RanksInM_length (n : Int) (w : List Int) : (RanksInM n w).1.length ≤ 1024 := by
  unfold RanksInM
  split
  · rename_i h
    obtain ⟨m, rfl, _, _, h4⟩ := superOk_nat h
    have := comingsM_length m w
    simp; omega
  · simp
def IsSuperM (n : Int) (w : List Int) : Bool × Bool := if superOk n w = true then (((comingsM n.toNat w).length : Int) == ((fact n.toNat : Nat) : Int), true) else (false, false)
def WastedInM (n : Int) (w : List Int) : Int × Bool := if superOk n w = true then (((w.length + 1 - n.toNat - (comingsM n.toNat w).length : Nat) : Int), true) else (0, false)

theorem impl_identity_ev (n : Nat) (hn : n ≤ 1000000000000) : Ev (fun k => impl_identity.f k (n : Int)) (idl n) := by
  unfold impl_identity.f
  refine ev_iter (fun (acc : List Int) i k => impl_identity.l0 k acc (n : Int) (i : Int)) (fun acc i => acc ++ [(i : Int)]) (fun i acc => acc = idl i) n ?_ n 0 [] (by omega) (by simp [idl]) ?_
  · intro acc i hi hI
    refine ⟨by rw [hI, idl_succ], fun r k => ?_⟩
    refine Ev.step (fun k => by simp only [impl_identity.l0]; rfl) ?_
    rw [wrap_succ (by omega)]
    exact ev_pos (by omega) (ev_pos (by rw [hI, idl_length]; omega) k)
  · intro h
    exact Ev.step (fun k => by simp only [impl_identity.l0]; rfl) (ev_neg (by omega) (ev_some h))

theorem slices_Equal_int_int_loop (a b : List Int) (ha : a.length ≤ 1000000000000) (hab : a.length = b.length) : ∀ (d i : Nat), i + d = a.length →
    Ev (fun k => slices_Equal_int_int.l0 k a b (a.length : Int) (i : Int)) (decide (a.drop i = b.drop i)) := by
  intro d
  induction d with
  | zero =>
    intro i h
    rw [List.drop_eq_nil_of_le (by omega), List.drop_eq_nil_of_le (by omega)]
    refine Ev.step (f := fun _ => some true) (fun k => ?_) (Ev.now _)
    simp only [slices_Equal_int_int.l0]; rw [if_neg (by omega)]
  | succ d ih =>
    intro i h
    rw [drop_rd a i (by omega), drop_rd b i (by omega)]
    refine Ev.step (f := fun k => if rd a (i : Int) = rd b (i : Int) then slices_Equal_int_int.l0 k a b (a.length : Int) ((i + 1 : Nat) : Int) else some false) (fun k => ?_) ?_
    · simp only [slices_Equal_int_int.l0]; rw [if_pos (by omega), if_pos (by omega), if_pos (by omega), if_pos (by omega), wrap_succ (by omega)]
    · exact ev_if (fun e => ev_to (ih (i + 1) (by omega)) (by simp [e])) (fun e => ev_some (by simp [e]))
theorem slices_Equal_int_int_ev (a b : List Int) (ha : a.length ≤ 1000000000000) : Ev (fun k => slices_Equal_int_int.f k a b) (decide (a = b)) := by
  unfold slices_Equal_int_int.f
  refine ev_if (fun h => ?_) (fun h => ev_some ?_)
  · exact slices_Equal_int_int_loop a b ha (by omega) a.length 0 (by omega)
  · rw [eq_comm, decide_eq_false_iff_not]; intro e; exact h (by rw [e])

theorem impl_IsPermutation_ev (l : List Int) : Ev (fun k => impl_IsPermutation.f k l) (permB l) := by
  unfold impl_IsPermutation.f
  refine ev_if (fun h => ?_) (fun h => ev_some (by simp [permB, h]))
  refine ev_call (impl_identity_ev l.length (by omega)) ?_
  refine ev_to (slices_Equal_int_int_ev (srt l) (idl l.length) (by rw [srt_length]; omega)) ?_
  rw [Bool.eq_iff_iff, permB_iff, decide_eq_true_eq, srt_idl]
  exact ⟨fun h' => ⟨h, h'⟩, fun h' => h'.2⟩

theorem impl_factorial_ev (n : Nat) (hn : n ≤ 12) : Ev (fun k => impl_factorial.f k (n : Int)) ((fact n : Nat) : Int) := by
  have h13 : n = 0 ∨ n = 1 ∨ n = 2 ∨ n = 3 ∨ n = 4 ∨ n = 5 ∨ n = 6 ∨ n = 7 ∨ n = 8 ∨ n = 9 ∨ n = 10 ∨ n = 11 ∨ n = 12 := by omega
  rcases h13 with rfl | rfl | rfl | rfl | rfl | rfl | rfl | rfl | rfl | rfl | rfl | rfl | rfl <;> exact Ev.of (fun k => impl_factorial.mono _ k) (k := 20) (by kernel_rfl)

theorem impl_permutationRank_in (l : List Int) (acc i : Nat) (r : Int) (hl : l.length ≤ 12) (hi : i < l.length)
    (k : Ev (fun k => (impl_factorial.f k (wrap64 ((wrap64 ((l.length : Int) - (i : Int))) - 1))).bind fun t => impl_permutationRank.l0 k l (wrap64 ((acc : Int) + wrap64 (((((l.drop (i + 1)).countP (fun y => decide (y < rd l (i : Int)))) : Nat) : Int) * t))) l (l.length : Int) (wrap64 ((i : Int) + 1))) r) :
    Ev (fun k => impl_permutationRank.l1 k l (acc : Int) (i : Int) (rd l (i : Int)) 0 l (l.length : Int) (i : Int) (l.drop (i + 1)) ((l.drop (i + 1)).length : Int) 0) r := by
  refine ev_iter (fun (c : Nat) j k => impl_permutationRank.l1 k l (acc : Int) (i : Int) (rd l (i : Int)) (c : Int) l (l.length : Int) (i : Int) (l.drop (i + 1)) ((l.drop (i + 1)).length : Int) (j : Int)) (fun c j => if (l.drop (i + 1)).getD j 0 < rd l (i : Int) then c + 1 else c) (fun j c => c ≤ j) (l.drop (i + 1)).length ?_ (l.drop (i + 1)).length 0 0 (by omega) (by omega) ?_
  · intro c j hj hI
    have hj2 : j < 12 := by simp at hj; omega
    refine ⟨by split <;> omega, fun r k => ?_⟩
    refine Ev.step (fun k => by simp only [impl_permutationRank.l1]; rfl) ?_
    rw [wrap_succ (i := j) (by omega), rd_nat (l.drop (i + 1)) j]
    refine ev_pos (by omega) (ev_pos (by omega) (ev_pos (by omega) ?_))
    refine ev_if (fun e => ?_) (fun e => ?_)
    · rw [wrap_succ (i := c) (by omega)]
      rw [if_pos e] at k; exact k
    · rw [if_neg e] at k; exact k
  · intro _
    refine Ev.step (fun k => by simp only [impl_permutationRank.l1]; rfl) (ev_neg (by omega) ?_)
    rw [count_index]
    exact k
theorem impl_permutationRank_loop (l : List Int) (hl : l.length ≤ 12) : ∀ (d i acc : Nat), i + d = l.length → acc + rankM (l.drop i) ≤ 1000000000 →
    Ev (fun k => impl_permutationRank.l0 k l (acc : Int) l (l.length : Int) (i : Int)) ((acc + rankM (l.drop i) : Nat) : Int) := by
  intro d
  induction d with
  | zero =>
    intro i acc h hb
    rw [List.drop_eq_nil_of_le (by omega)]
    exact Ev.step (fun k => by simp only [impl_permutationRank.l0]; rfl) (ev_neg (by omega) (ev_some (by simp [rankM])))
  | succ d ih =>
    intro i acc h hb
    have hd := drop_rd l i (by omega)
    rw [hd] at hb ⊢
    simp only [rankM, List.length_drop] at hb ⊢
    refine Ev.step (fun k => by simp only [impl_permutationRank.l0]; rfl) ?_
    rw [wrap_succ (i := i) (by omega)]
    refine ev_pos (by omega) (ev_pos (by omega) (ev_pos (by omega) (ev_pos (by omega) (ev_pos (by omega) ?_))))
    rw [Int.toNat_natCast]
    refine impl_permutationRank_in l acc i _ hl (by omega) ?_
    rw [wrap_id (x := (l.length : Int) - (i : Int)) (by omega), wrap_id (x := (l.length : Int) - (i : Int) - 1) (by omega), show (l.length : Int) - (i : Int) - 1 = ((l.length - (i + 1) : Nat) : Int) by omega, wrap_succ (i := i) (by omega)]
    refine ev_call (impl_factorial_ev _ (by omega)) ?_
    rw [show ∀ a b : Nat, (a : Int) * (b : Int) = ((a * b : Nat) : Int) from fun a b => by simp, wrap_id (x := (((l.drop (i + 1)).countP (fun y => decide (y < rd l (i : Int))) * fact (l.length - (i + 1)) : Nat) : Int)) (by omega), show ∀ a b : Nat, (a : Int) + (b : Int) = ((a + b : Nat) : Int) from fun a b => by simp, wrap_id (by omega)]
    exact ev_to (ih (i + 1) _ (by omega) (by omega)) (by rw [Nat.add_assoc])
theorem impl_permutationRank_ev (l : List Int) (hl : l.length ≤ 12) : Ev (fun k => impl_permutationRank.f k l) ((rankM l : Nat) : Int) := by
  have h1 := rankM_lt l
  have h2 := fact_12 hl
  exact ev_to (impl_permutationRank_loop l hl l.length 0 0 (by omega) (by simp; omega)) (by simp)

theorem slices_Index_loop (l : List Int) (x : Int) (hl : l.length ≤ 1000000000000) : ∀ (d i : Nat), i + d = l.length → ∃ r : Int, (r ≥ 0 ↔ x ∈ l.drop i) ∧ Ev (fun k => slices_Index_int_int.l0 k l x (l.length : Int) (i : Int)) r := by
  intro d
  induction d with
  | zero =>
    intro i h
    rw [List.drop_eq_nil_of_le (by omega)]
    exact ⟨-1, by simp, Ev.step (fun k => by simp only [slices_Index_int_int.l0]; rfl) (ev_neg (by omega) (Ev.now _))⟩
  | succ d ih =>
    intro i h
    rw [drop_rd l i (by omega)]
    obtain ⟨r, h1, h2⟩ := ih (i + 1) (by omega)
    by_cases e : x = rd l (i : Int)
    · refine ⟨(i : Int), by simp [e], Ev.step (fun k => by simp only [slices_Index_int_int.l0]; rfl) ?_⟩
      exact ev_pos (by omega) (ev_pos (by omega) (ev_pos (by omega) (ev_pos e (Ev.now _))))
    · refine ⟨r, by rw [h1, List.mem_cons]; exact ⟨.inr, fun h => h.resolve_left e⟩, Ev.step (fun k => by simp only [slices_Index_int_int.l0]; rfl) ?_⟩
      rw [wrap_succ (by omega)]
      exact ev_pos (by omega) (ev_pos (by omega) (ev_pos (by omega) (ev_neg e h2)))
theorem slices_Contains_int_int_ev (l : List Int) (x : Int) (hl : l.length ≤ 1000000000000) : Ev (fun k => slices_Contains_int_int.f k l x) (decide (x ∈ l)) := by
  unfold slices_Contains_int_int.f slices_Index_int_int.f
  obtain ⟨r, h1, h2⟩ := slices_Index_loop l x hl l.length 0 (by omega)
  refine ev_call h2 (ev_some (decide_eq_decide.mpr ?_))
  simpa using h1

theorem impl_comings_ev (n : Nat) (w : List Int) (hn : 1 ≤ n) (hn2 : n ≤ 12) (hw : w.length ≤ 200) : Ev (fun k => impl_comings.f k (n : Int) w) (comingsM n w) := by
  unfold impl_comings.f comingsM
  by_cases hnl : n ≤ w.length + 1
  · refine ev_iter (fun (out : List Int) i k => impl_comings.l0 k (n : Int) w out (i : Int)) (stepC n w) (fun i out => n ≤ i ∧ out.length ≤ i) (w.length + 1) ?_ (w.length + 1 - n) n [] (by omega) ⟨Nat.le_refl _, by simp⟩ ?_
    · intro out i hi hI
      have hs := stepC_length n w out i
      refine ⟨⟨by omega, by omega⟩, fun r k => ?_⟩
      refine Ev.step (fun k => by simp only [impl_comings.l0]; rfl) ?_
      rw [wrap_id (x := (i : Int) - (n : Int)) (by omega), wrap_succ (by omega), show (i : Int) - (n : Int) = ((i - n : Nat) : Int) by omega, Int.toNat_natCast, Int.toNat_natCast]
      refine ev_pos (by omega) (ev_pos (by omega) (ev_pos (by omega) (ev_call (impl_IsPermutation_ev _) ?_)))
      unfold stepC at k
      refine ev_if (fun e => ?_) (fun e => ?_)
      · rw [if_pos e] at k
        refine ev_call (impl_permutationRank_ev _ (permB_iff.mp e).1) (ev_call (slices_Contains_int_int_ev out _ (by omega)) (ev_if (fun e2 => ?_) (fun e2 => ?_)))
        · rw [if_pos (by simpa using e2)] at k; exact k
        · rw [if_neg (by simpa using e2)] at k; exact ev_pos (by omega) k
      · rw [if_neg e] at k; exact k
    · intro _
      exact Ev.step (fun k => by simp only [impl_comings.l0]; rfl) (ev_neg (by omega) (Ev.now _))
  · rw [show w.length + 1 - n = 0 by omega]
    exact Ev.step (fun k => by simp only [impl_comings.l0]; rfl) (ev_neg (by omega) (Ev.now _))

def superW (n : Nat) : List Int := (spec_suMade.f 3000 (n : Int)).getD []
def rankW (n : Nat) : List Int := comingsM n (superW n)
theorem superW_1 : spec_suMade.f 3000 ((1 : Nat) : Int) = some (superW 1) := by kernel_rfl
theorem superW_2 : spec_suMade.f 3000 ((2 : Nat) : Int) = some (superW 2) := by kernel_rfl
theorem superW_3 : spec_suMade.f 3000 ((3 : Nat) : Int) = some (superW 3) := by kernel_rfl
theorem superW_4 : spec_suMade.f 3000 ((4 : Nat) : Int) = some (superW 4) := by kernel_rfl
theorem superW_5 : spec_suMade.f 3000 ((5 : Nat) : Int) = some (superW 5) := by kernel_rfl
theorem superL_2 : impl_superOf.l0 3000 ((2 : Nat) : Int) [] (rankW 1) ((rankW 1).length : Int) 0 = some (superW 2) := by kernel_rfl
theorem superL_3 : impl_superOf.l0 3000 ((3 : Nat) : Int) [] (rankW 2) ((rankW 2).length : Int) 0 = some (superW 3) := by kernel_rfl
theorem superL_4 : impl_superOf.l0 3000 ((4 : Nat) : Int) [] (rankW 3) ((rankW 3).length : Int) 0 = some (superW 4) := by kernel_rfl
theorem superL_5 : impl_superOf.l0 3000 ((5 : Nat) : Int) [] (rankW 4) ((rankW 4).length : Int) 0 = some (superW 5) := by kernel_rfl
theorem superW_small : (superW 1).length ≤ 200 ∧ (superW 2).length ≤ 200 ∧ (superW 3).length ≤ 200 ∧ (superW 4).length ≤ 200 ∧ (superW 5).length ≤ 200 := by decide +kernel
theorem impl_superOf_1 : Ev (fun q => impl_superOf.f q ((1 : Nat) : Int)) (superW 1) :=
  Ev.step (fun k => by simp only [impl_superOf.f]; rfl) (ev_pos (by omega) (ev_some (by kernel_rfl)))
theorem impl_superOf_next (n : Nat) (hn : 1 ≤ n ∧ n ≤ 4) (hw : (superW n).length ≤ 200) (h : Ev (fun q => impl_superOf.f q (n : Int)) (superW n)) (hl : impl_superOf.l0 3000 ((n + 1 : Nat) : Int) [] (rankW n) ((rankW n).length : Int) 0 = some (superW (n + 1))) :
    Ev (fun q => impl_superOf.f q ((n + 1 : Nat) : Int)) (superW (n + 1)) := by
  refine Ev.step (fun k => by simp only [impl_superOf.f]; rfl) (ev_neg (by omega) ?_)
  rw [wrap_pred (by omega)]
  exact ev_call h (ev_call (impl_comings_ev n (superW n) hn.1 (by omega) hw) (Ev.of (fun k => (impl_superOf.mono_l k).2.1 _ _ _ _ _) (k := 3000) hl))
theorem superOf_ok (n : Nat) (hn : 1 ≤ n ∧ n ≤ 5) : (superW n).length ≤ 200 ∧ Ev (fun q => impl_superOf.f q (n : Int)) (superW n) ∧ Ev (fun q => spec_suMade.f q (n : Int)) (superW n) := by
  obtain ⟨s1, s2, s3, s4, s5⟩ := superW_small
  have e1 := impl_superOf_1
  have e2 := impl_superOf_next 1 (by omega) s1 e1 superL_2
  have e3 := impl_superOf_next 2 (by omega) s2 e2 superL_3
  have e4 := impl_superOf_next 3 (by omega) s3 e3 superL_4
  have e5 := impl_superOf_next 4 (by omega) s4 e4 superL_5
  obtain rfl | rfl | rfl | rfl | rfl : n = 1 ∨ n = 2 ∨ n = 3 ∨ n = 4 ∨ n = 5 := by omega
  · exact ⟨s1, e1, Ev.of (fun k => spec_suMade.mono _ k) (k := 3000) superW_1⟩
  · exact ⟨s2, e2, Ev.of (fun k => spec_suMade.mono _ k) (k := 3000) superW_2⟩
  · exact ⟨s3, e3, Ev.of (fun k => spec_suMade.mono _ k) (k := 3000) superW_3⟩
  · exact ⟨s4, e4, Ev.of (fun k => spec_suMade.mono _ k) (k := 3000) superW_4⟩
  · exact ⟨s5, e5, Ev.of (fun k => spec_suMade.mono _ k) (k := 3000) superW_5⟩
theorem superOf_both (n : Int) : ∃ r : List Int, ∃ b : Bool, r.length ≤ 1048576 ∧ Ev (fun q => impl_SuperOf.f q n) (r, b) ∧ Ev (fun q => spec_SuperOf.f q n) (r, b) := by
  have e1 := impl_isSuperSize_eq n
  have e2 := spec_suSize_eq n
  by_cases h : inB n 1 5 = true
  · have h1 := inB_iff.mp h
    obtain ⟨n, rfl⟩ := Int.eq_ofNat_of_zero_le (show 0 ≤ n by omega)
    obtain ⟨s, i, p⟩ := superOf_ok n (by omega)
    refine ⟨superW n, true, by omega, ?_, ?_⟩
    · unfold impl_SuperOf.f
      exact ev_plain e1 (ev_pos h (ev_call i (Ev.now _)))
    · unfold spec_SuperOf.f
      exact ev_plain e2 (ev_pos h (ev_call p (Ev.now _)))
  · refine ⟨[], false, by simp, ?_, ?_⟩
    · unfold impl_SuperOf.f
      exact ev_plain e1 (ev_neg h (Ev.now _))
    · unfold spec_SuperOf.f
      exact ev_plain e2 (ev_neg h (Ev.now _))

theorem laws_eqIntS_loop (l : List Int) (hl : l.length ≤ 35184372088832) : ∀ (d i : Nat), i + d = l.length → Ev (fun k => laws_eqIntS.l0 k l l (i : Int)) true := by
  intro d
  induction d with
  | zero =>
    intro i h
    refine Ev.step (f := fun _ => some true) (fun k => ?_) (Ev.now _)
    simp only [laws_eqIntS.l0]; rw [if_neg (by omega)]
  | succ d ih =>
    intro i h
    refine Ev.step (f := fun k => laws_eqIntS.l0 k l l ((i + 1 : Nat) : Int)) (fun k => ?_) (ih (i + 1) (by omega))
    simp only [laws_eqIntS.l0]; rw [if_pos (by omega), if_pos (by omega), if_pos (by omega), if_pos trivial, wrap_succ (by omega)]
theorem laws_eqIntS_ev (l : List Int) (hl : l.length ≤ 35184372088832) : Ev (fun k => laws_eqIntS.f k l l) true := by
  unfold laws_eqIntS.f
  exact ev_pos rfl (laws_eqIntS_loop l hl l.length 0 (by omega))

theorem laws_markIntS_loop : ∀ (d i : Nat) (ys : List Int) (m : Int), i + d = ys.length → 0 ≤ m → m + d ≤ 1000000000000000 → ys.length ≤ 35184372088832 →
    Ev (fun k => laws_markIntS.l0 k ys m (i : Int)) (m + (d : Int), ys.take i ++ marks m d) := by
  intro d
  induction d with
  | zero =>
    intro i ys m h1 h2 h3 h4
    refine Ev.step (f := fun _ => some (m, ys)) (fun k => ?_) (ev_some ?_)
    · simp only [laws_markIntS.l0]; rw [if_neg (by omega)]
    · rw [List.take_of_length_le (by omega)]; simp [marks]
  | succ d ih =>
    intro i ys m h1 h2 h3 h4
    refine Ev.step (f := fun k => laws_markIntS.l0 k (ys.set i m) (m + 1) ((i + 1 : Nat) : Int)) (fun k => ?_) (ev_to (ih (i + 1) _ (m + 1) (by simp; omega) (by omega) (by omega) (by simpa using h4)) ?_)
    · simp only [laws_markIntS.l0]; rw [if_pos (by omega), if_pos (by omega), wrap_succ (by omega), wrap_id (by omega), Int.toNat_natCast]
    · rw [marks_succ, List.take_succ_eq_append_getElem (by simp; omega), List.take_set, List.set_eq_of_length_le (by simp; omega)]
      refine Prod.ext (by simp; omega) ?_
      simp
theorem laws_markIntS_ev (l : List Int) (m : Int) (h2 : 0 ≤ m) (h3 : m ≤ 900000000000000) (h4 : l.length ≤ 35184372088832) : Ev (fun k => laws_markIntS.f k l m) (m + (l.length : Int), marks m l.length) :=
  ev_to (laws_markIntS_loop l.length 0 l m (by omega) h2 (by omega) h4) (by simp)

theorem laws_heldIntS_loop (zs : List Int) (hz : zs.length ≤ 35184372088832) : ∀ (d i : Nat) (m : Int), i + d = zs.length → 0 ≤ m → m + d ≤ 1000000000000000 → zs.drop i = marks m d →
    Ev (fun k => laws_heldIntS.l0 k zs m (i : Int)) (m + (d : Int)) := by
  intro d
  induction d with
  | zero =>
    intro i m h1 h2 h3 h4
    refine Ev.step (f := fun _ => some m) (fun k => ?_) (ev_some (by simp))
    simp only [laws_heldIntS.l0]; rw [if_neg (by omega)]
  | succ d ih =>
    intro i m h1 h2 h3 h4
    rw [drop_rd zs i (by omega), marks_succ, List.cons.injEq] at h4
    refine Ev.step (f := fun k => laws_heldIntS.l0 k zs (m + 1) ((i + 1 : Nat) : Int)) (fun k => ?_) (ev_to (ih (i + 1) (m + 1) (by omega) (by omega) (by omega) h4.2) (by omega))
    simp only [laws_heldIntS.l0]; rw [if_pos (by omega), if_pos (by omega), if_pos h4.1, wrap_succ (by omega), wrap_id (by omega)]
theorem laws_heldIntS_ev (m : Int) (n : Nat) (h2 : 0 ≤ m) (h3 : m ≤ 900000000000000) (h4 : n ≤ 35184372088832) : Ev (fun k => laws_heldIntS.f k (marks m n) m) (m + (n : Int)) :=
  laws_heldIntS_loop (marks m n) (by simpa [marks_length] using h4) n 0 m (by simp [marks_length]) h2 (by omega) rfl

theorem FnExactSuperOf : laws_FnExactSuperOf.Pure := by
  intro n h_n
  refine Ev.rounds (r := true) ?_
  unfold laws_FnExactSuperOf.f
  have hw_n := wf_in h_n
  obtain ⟨r_, b_, hr, I_, S_⟩ := superOf_both n
  repeat (first
    | exact Ev.now _
    | (refine ev_call S_ ?_; try dsimp only)
    | (refine ev_call I_ ?_; try dsimp only)
    | refine ev_call (laws_eqIntS_ev _ (by first | assumption | omega)) ?_
    | (refine ev_call (laws_markIntS_ev _ _ (by omega) (by omega) (by omega)) ?_; dsimp only)
    | refine ev_call (laws_heldIntS_ev _ _ (by omega) (by omega) (by omega)) ?_
    | refine ev_pos rfl ?_
    | refine ev_neg (bne_no _) ?_
    | refine ev_neg (by omega) ?_
    | refine Ev.step (fun k => by simp only [laws_FnExactSuperOf.j0]; rfl) ?_
    | refine Ev.step (fun k => by simp only [laws_FnExactSuperOf.j1]; rfl) ?_)

end Go.Proofs.Ytdnbeekoefmbcaa.Pure
