/- The pure statement of IsSuper: program and reference answer alike, for all arguments; no condition. -/
import Derived.Test.YtaimmgonhanhoaaPFnExactIsSuperx4
import Derived.Test.YtaimmgonhanhoaaBase
import Derived.Test.YtaimmgonhanhoaaLists
namespace Go.Proofs.Ytaimmgonhanhoaa.Pure
open Go.RowKit Go.Proofs.Ytaimmgonhanhoaa.PFnExactIsSuper Go.Proofs.YtaimmgonhanhoaaW.PrintWords Go.Proofs.YtaimmgonhanhoaaW.PrintLast Go.Proofs.Ytaimmgonhanhoaa.Base
set_option maxRecDepth 10000

def superOk (n : Int) (w : List Int) : Bool := inB n 1 5 && superWordB w
theorem superOk_nat {n : Int} {w : List Int} (h : superOk n w = true) : ∃ m : Nat, n = m ∧ 1 ≤ m ∧ m ≤ 5 ∧ w.length ≤ 200 := by
  simp only [superOk, superWordB, Bool.and_eq_true, inB_iff, decide_eq_true_eq] at h
  exact ⟨n.toNat, by omega, by omega, by omega, by omega⟩
def RanksInM (n : Int) (w : List Int) : List Int × Bool := if superOk n w = true then (comingsM n.toNat w, true) else ([], false)
theorem RanksInM_length (n : Int) (w : List Int) : (RanksInM n w).1.length ≤ 1024 := by
  unfold RanksInM
  split
  · rename_i h
    obtain ⟨m, rfl, _, _, h4⟩ := superOk_nat h
    have := comingsM_length m w
    simp; omega
  · simp
def IsSuperM (n : Int) (w : List Int) : Bool × Bool := if superOk n w = true then (((comingsM n.toNat w).length : Int) == ((fact n.toNat : Nat) : Int), true) else (false, false)
def WastedInM (n : Int) (w : List Int) : Int × Bool := if superOk n w = true then (((w.length + 1 - n.toNat - (comingsM n.toNat w).length : Nat) : Int), true) else (0, false)

theorem impl_within_eq (a lo hi : Int) : impl_within.f a lo hi = some (inB a lo hi) := by
  unfold impl_within.f inB
  by_cases h : a ≥ lo
  · rw [if_pos h]; simp [h]
  · rw [if_neg h]; simp [show ¬ lo ≤ a from h]

theorem impl_isSuperSize_eq (n : Int) : impl_isSuperSize.f n = some (inB n 1 5) := by unfold impl_isSuperSize.f; rw [impl_within_eq]; rfl

theorem impl_allWithin_loop (lo hi : Int) (xs : List Int) (hx : xs.length ≤ 1000000000000) : ∀ (d i : Nat), i + d = xs.length →
    Ev (fun k => impl_allWithin.l0 k lo hi xs (xs.length : Int) (i : Int)) (allB (xs.drop i) lo hi) := by
  intro d
  induction d with
  | zero =>
    intro i h
    rw [List.drop_eq_nil_of_le (by omega)]
    refine Ev.step (f := fun _ => some true) (fun k => ?_) (Ev.now _)
    simp only [impl_allWithin.l0]; rw [if_neg (by omega)]
  | succ d ih =>
    intro i h
    have hlt : i < xs.length := by omega
    rw [drop_rd xs i hlt]
    refine Ev.step (f := fun k => if inB (rd xs (i : Int)) lo hi = true then impl_allWithin.l0 k lo hi xs (xs.length : Int) ((i + 1 : Nat) : Int) else some false) (fun k => ?_) ?_
    · simp only [impl_allWithin.l0]; rw [if_pos (by omega), if_pos (by omega), if_pos (by omega), impl_within_eq, wrap_succ (by omega)]; rfl
    · by_cases hb : inB (rd xs (i : Int)) lo hi = true
      · exact ev_pos hb (ev_to (ih (i + 1) (by omega)) (by simp [allB, hb]))
      · exact ev_neg hb (ev_some (by simp [allB, Bool.eq_false_iff.mpr hb]))
theorem impl_allWithin_ev (lo hi : Int) (xs : List Int) (hx : xs.length ≤ 1000000000000) : Ev (fun k => impl_allWithin.f k xs lo hi) (allB xs lo hi) :=
  impl_allWithin_loop lo hi xs hx xs.length 0 (by omega)

theorem impl_isSuperWord_ev (w : List Int) (hw : w.length ≤ 1048576) : Ev (fun k => impl_isSuperWord.f k w) (superWordB w) := by
  unfold impl_isSuperWord.f superWordB
  exact ev_if (fun h => ev_call (impl_allWithin_ev _ _ _ (by omega)) (ev_some (by rw [decide_eq_true h]; simp))) (fun h => ev_some (by rw [decide_eq_false h]; simp))

theorem impl_identity_ev (n : Nat) (hn : n ≤ 1000000000000) : Ev (fun k => impl_identity.f k (n : Int)) (idl n) := by
  unfold impl_identity.f
  refine ev_iter (fun (acc : List Int) i k => impl_identity.l0 k acc (n : Int) (i : Int)) (fun acc i => acc ++ [(i : Int)]) (fun i acc => acc = idl i) n ?_ n 0 [] (by omega) (by simp [idl]) ?_
  · intro acc i hi hI
    refine ⟨by rw [hI, idl_succ], fun r k => ?_⟩
    refine Ev.step (fun k => by simp only [impl_identity.l0]; rfl) ?_
    rw [wrap_succ (by omega)]
    exact ev_pos (by omega) (ev_pos (by rw [hI, idl_length]; omega) k)
  · intro h
    exact Ev.step (fun k => by simp only [impl_identity.l0]; rfl) (ev_neg (by omega) (ev_some h))

theorem slices_Equal_int_int_loop (a b : List Int) (ha : a.length ≤ 1000000000000) (hab : a.length = b.length) : ∀ (d i : Nat), i + d = a.length →
    Ev (fun k => slices_Equal_int_int.l0 k a b (a.length : Int) (i : Int)) (decide (a.drop i = b.drop i)) := by
  intro d
  induction d with
  | zero =>
    intro i h
    rw [List.drop_eq_nil_of_le (by omega), List.drop_eq_nil_of_le (by omega)]
    refine Ev.step (f := fun _ => some true) (fun k => ?_) (Ev.now _)
    simp only [slices_Equal_int_int.l0]; rw [if_neg (by omega)]
  | succ d ih =>
    intro i h
    rw [drop_rd a i (by omega), drop_rd b i (by omega)]
    refine Ev.step (f := fun k => if rd a (i : Int) = rd b (i : Int) then slices_Equal_int_int.l0 k a b (a.length : Int) ((i + 1 : Nat) : Int) else some false) (fun k => ?_) ?_
    · simp only [slices_Equal_int_int.l0]; rw [if_pos (by omega), if_pos (by omega), if_pos (by omega), if_pos (by omega), wrap_succ (by omega)]
    · exact ev_if (fun e => ev_to (ih (i + 1) (by omega)) (by simp [e])) (fun e => ev_some (by simp [e]))
theorem slices_Equal_int_int_ev (a b : List Int) (ha : a.length ≤ 1000000000000) : Ev (fun k => slices_Equal_int_int.f k a b) (decide (a = b)) := by
  unfold slices_Equal_int_int.f
  refine ev_if (fun h => ?_) (fun h => ev_some ?_)
  · exact slices_Equal_int_int_loop a b ha (by omega) a.length 0 (by omega)
  · rw [eq_comm, decide_eq_false_iff_not]; intro e; exact h (by rw [e])

theorem impl_IsPermutation_ev (l : List Int) : Ev (fun k => impl_IsPermutation.f k l) (permB l) := by
  unfold impl_IsPermutation.f
  refine ev_if (fun h => ?_) (fun h => ev_some (by simp [permB, h]))
  refine ev_call (impl_identity_ev l.length (by omega)) ?_
  refine ev_to (slices_Equal_int_int_ev (srt l) (idl l.length) (by rw [srt_length]; omega)) ?_
  rw [Bool.eq_iff_iff, permB_iff, decide_eq_true_eq, srt_idl]
  exact ⟨fun h' => ⟨h, h'⟩, fun h' => h'.2⟩

theorem impl_factorial_ev (n : Nat) (hn : n ≤ 12) : Ev (fun k => impl_factorial.f k (n : Int)) ((fact n : Nat) : Int) := by
  have h13 : n = 0 ∨ n = 1 ∨ n = 2 ∨ n = 3 ∨ n = 4 ∨ n = 5 ∨ n = 6 ∨ n = 7 ∨ n = 8 ∨ n = 9 ∨ n = 10 ∨ n = 11 ∨ n = 12 := by omega
  rcases h13 with rfl | rfl | rfl | rfl | rfl | rfl | rfl | rfl | rfl | rfl | rfl | rfl | rfl <;> exact Ev.of (fun k => impl_factorial.mono _ k) (k := 20) (by kernel_rfl)

theorem impl_permutationRank_in (l : List Int) (acc i : Nat) (r : Int) (hl : l.length ≤ 12) (hi : i < l.length)
    (k : Ev (fun k => (impl_factorial.f k (wrap64 ((wrap64 ((l.length : Int) - (i : Int))) - 1))).bind fun t => impl_permutationRank.l0 k l (wrap64 ((acc : Int) + wrap64 (((((l.drop (i + 1)).countP (fun y => decide (y < rd l (i : Int)))) : Nat) : Int) * t))) l (l.length : Int) (wrap64 ((i : Int) + 1))) r) :
    Ev (fun k => impl_permutationRank.l1 k l (acc : Int) (i : Int) (rd l (i : Int)) 0 l (l.length : Int) (i : Int) (l.drop (i + 1)) ((l.drop (i + 1)).length : Int) 0) r := by
  refine ev_iter (fun (c : Nat) j k => impl_permutationRank.l1 k l (acc : Int) (i : Int) (rd l (i : Int)) (c : Int) l (l.length : Int) (i : Int) (l.drop (i + 1)) ((l.drop (i + 1)).length : Int) (j : Int)) (fun c j => if (l.drop (i + 1)).getD j 0 < rd l (i : Int) then c + 1 else c) (fun j c => c ≤ j) (l.drop (i + 1)).length ?_ (l.drop (i + 1)).length 0 0 (by omega) (by omega) ?_
  · intro c j hj hI
    have hj2 : j < 12 := by simp at hj; omega
    refine ⟨by split <;> omega, fun r k => ?_⟩
    refine Ev.step (fun k => by simp only [impl_permutationRank.l1]; rfl) ?_
    rw [wrap_succ (i := j) (by omega), rd_nat (l.drop (i + 1)) j]
    refine ev_pos (by omega) (ev_pos (by omega) (ev_pos (by omega) ?_))
    refine ev_if (fun e => ?_) (fun e => ?_)
    · rw [wrap_succ (i := c) (by omega)]
      rw [if_pos e] at k; exact k
    · rw [if_neg e] at k; exact k
  · intro _
    refine Ev.step (fun k => by simp only [impl_permutationRank.l1]; rfl) (ev_neg (by omega) ?_)
    rw [count_index]
    exact k
theorem impl_permutationRank_loop (l : List Int) (hl : l.length ≤ 12) : ∀ (d i acc : Nat), i + d = l.length → acc + rankM (l.drop i) ≤ 1000000000 →
    Ev (fun k => impl_permutationRank.l0 k l (acc : Int) l (l.length : Int) (i : Int)) ((acc + rankM (l.drop i) : Nat) : Int) := by
  intro d
  induction d with
  | zero =>
    intro i acc h hb
    rw [List.drop_eq_nil_of_le (by omega)]
    exact Ev.step (fun k => by simp only [impl_permutationRank.l0]; rfl) (ev_neg (by omega) (ev_some (by simp [rankM])))
  | succ d ih =>
    intro i acc h hb
    have hd := drop_rd l i (by omega)
    rw [hd] at hb ⊢
    simp only [rankM, List.length_drop] at hb ⊢
    refine Ev.step (fun k => by simp only [impl_permutationRank.l0]; rfl) ?_
    rw [wrap_succ (i := i) (by omega)]
    refine ev_pos (by omega) (ev_pos (by omega) (ev_pos (by omega) (ev_pos (by omega) (ev_pos (by omega) ?_))))
    rw [Int.toNat_natCast]
    refine impl_permutationRank_in l acc i _ hl (by omega) ?_
    rw [wrap_id (x := (l.length : Int) - (i : Int)) (by omega), wrap_id (x := (l.length : Int) - (i : Int) - 1) (by omega), show (l.length : Int) - (i : Int) - 1 = ((l.length - (i + 1) : Nat) : Int) by omega, wrap_succ (i := i) (by omega)]
    refine ev_call (impl_factorial_ev _ (by omega)) ?_
    rw [show ∀ a b : Nat, (a : Int) * (b : Int) = ((a * b : Nat) : Int) from fun a b => by simp, wrap_id (x := (((l.drop (i + 1)).countP (fun y => decide (y < rd l (i : Int))) * fact (l.length - (i + 1)) : Nat) : Int)) (by omega), show ∀ a b : Nat, (a : Int) + (b : Int) = ((a + b : Nat) : Int) from fun a b => by simp, wrap_id (by omega)]
    exact ev_to (ih (i + 1) _ (by omega) (by omega)) (by rw [Nat.add_assoc])
theorem impl_permutationRank_ev (l : List Int) (hl : l.length ≤ 12) : Ev (fun k => impl_permutationRank.f k l) ((rankM l : Nat) : Int) := by
  have h1 := rankM_lt l
  have h2 := fact_12 hl
  exact ev_to (impl_permutationRank_loop l hl l.length 0 0 (by omega) (by simp; omega)) (by simp)

theorem slices_Index_loop (l : List Int) (x : Int) (hl : l.length ≤ 1000000000000) : ∀ (d i : Nat), i + d = l.length → ∃ r : Int, (r ≥ 0 ↔ x ∈ l.drop i) ∧ Ev (fun k => slices_Index_int_int.l0 k l x (l.length : Int) (i : Int)) r := by
  intro d
  induction d with
  | zero =>
    intro i h
    rw [List.drop_eq_nil_of_le (by omega)]
    exact ⟨-1, by simp, Ev.step (fun k => by simp only [slices_Index_int_int.l0]; rfl) (ev_neg (by omega) (Ev.now _))⟩
  | succ d ih =>
    intro i h
    rw [drop_rd l i (by omega)]
    obtain ⟨r, h1, h2⟩ := ih (i + 1) (by omega)
    by_cases e : x = rd l (i : Int)
    · refine ⟨(i : Int), by simp [e], Ev.step (fun k => by simp only [slices_Index_int_int.l0]; rfl) ?_⟩
      exact ev_pos (by omega) (ev_pos (by omega) (ev_pos (by omega) (ev_pos e (Ev.now _))))
    · refine ⟨r, by rw [h1, List.mem_cons]; exact ⟨.inr, fun h => h.resolve_left e⟩, Ev.step (fun k => by simp only [slices_Index_int_int.l0]; rfl) ?_⟩
      rw [wrap_succ (by omega)]
      exact ev_pos (by omega) (ev_pos (by omega) (ev_pos (by omega) (ev_neg e h2)))
theorem slices_Contains_int_int_ev (l : List Int) (x : Int) (hl : l.length ≤ 1000000000000) : Ev (fun k => slices_Contains_int_int.f k l x) (decide (x ∈ l)) := by
  unfold slices_Contains_int_int.f slices_Index_int_int.f
  obtain ⟨r, h1, h2⟩ := slices_Index_loop l x hl l.length 0 (by omega)
  refine ev_call h2 (ev_some (decide_eq_decide.mpr ?_))
  simpa using h1

theorem impl_comings_ev (n : Nat) (w : List Int) (hn : 1 ≤ n) (hn2 : n ≤ 12) (hw : w.length ≤ 200) : Ev (fun k => impl_comings.f k (n : Int) w) (comingsM n w) := by
  unfold impl_comings.f comingsM
  by_cases hnl : n ≤ w.length + 1
  · refine ev_iter (fun (out : List Int) i k => impl_comings.l0 k (n : Int) w out (i : Int)) (stepC n w) (fun i out => n ≤ i ∧ out.length ≤ i) (w.length + 1) ?_ (w.length + 1 - n) n [] (by omega) ⟨Nat.le_refl _, by simp⟩ ?_
    · intro out i hi hI
      have hs := stepC_length n w out i
      refine ⟨⟨by omega, by omega⟩, fun r k => ?_⟩
      refine Ev.step (fun k => by simp only [impl_comings.l0]; rfl) ?_
      rw [wrap_id (x := (i : Int) - (n : Int)) (by omega), wrap_succ (by omega), show (i : Int) - (n : Int) = ((i - n : Nat) : Int) by omega, Int.toNat_natCast, Int.toNat_natCast]
      refine ev_pos (by omega) (ev_pos (by omega) (ev_pos (by omega) (ev_call (impl_IsPermutation_ev _) ?_)))
      unfold stepC at k
      refine ev_if (fun e => ?_) (fun e => ?_)
      · rw [if_pos e] at k
        refine ev_call (impl_permutationRank_ev _ (permB_iff.mp e).1) (ev_call (slices_Contains_int_int_ev out _ (by omega)) (ev_if (fun e2 => ?_) (fun e2 => ?_)))
        · rw [if_pos (by simpa using e2)] at k; exact k
        · rw [if_neg (by simpa using e2)] at k; exact ev_pos (by omega) k
      · rw [if_neg e] at k; exact k
    · intro _
      exact Ev.step (fun k => by simp only [impl_comings.l0]; rfl) (ev_neg (by omega) (Ev.now _))
  · rw [show w.length + 1 - n = 0 by omega]
    exact Ev.step (fun k => by simp only [impl_comings.l0]; rfl) (ev_neg (by omega) (Ev.now _))

theorem impl_IsSuper_ev (n : Int) (w : List Int) (hw : w.length ≤ 1048576) : Ev (fun k => impl_IsSuper.f k n w) (IsSuperM n w) := by
  unfold impl_IsSuper.f IsSuperM
  refine ev_plain (impl_isSuperSize_eq n) (ev_if (fun h1 => ?_) (fun h1 => ?_))
  · refine ev_call (impl_isSuperWord_ev w hw) (Ev.step (fun k => by simp only [impl_IsSuper.j0]; rfl) ?_)
    refine ev_if (fun h2 => ev_some (by rw [if_neg (fun h => by simp only [superOk, Bool.and_eq_true] at h; simp [h.2] at h2)])) (fun h2 => ?_)
    have hok : superOk n w = true := by simp only [superOk, Bool.and_eq_true]; exact ⟨h1, by simpa using h2⟩
    rw [if_pos hok]
    obtain ⟨m, rfl, m1, m2, hl⟩ := superOk_nat hok
    exact ev_call (impl_comings_ev m w m1 (by omega) hl) (ev_call (impl_factorial_ev m (by omega)) (ev_some (by simp)))
  · refine Ev.step (fun k => by simp only [impl_IsSuper.j0]; rfl) ?_
    exact ev_pos (by trivial) (ev_some (by rw [if_neg (fun h => h1 (by simp only [superOk, Bool.and_eq_true] at h; exact h.1))]))

theorem spec_l1In_eq (a lo hi : Int) : spec_l1In.f a lo hi = some (inB a lo hi) := by
  unfold spec_l1In.f inB
  by_cases h : a ≥ lo
  · rw [if_pos h]; simp [h]
  · rw [if_neg h]; simp [show ¬ lo ≤ a from h]

theorem spec_suSize_eq (n : Int) : spec_suSize.f n = some (inB n 1 5) := by unfold spec_suSize.f; rw [spec_l1In_eq]; rfl

theorem spec_l1All_loop (lo hi : Int) (xs : List Int) (hx : xs.length ≤ 1000000000000) : ∀ (d i : Nat), i + d = xs.length →
    Ev (fun k => spec_l1All.l0 k lo hi xs (xs.length : Int) (i : Int)) (allB (xs.drop i) lo hi) := by
  intro d
  induction d with
  | zero =>
    intro i h
    rw [List.drop_eq_nil_of_le (by omega)]
    refine Ev.step (f := fun _ => some true) (fun k => ?_) (Ev.now _)
    simp only [spec_l1All.l0]; rw [if_neg (by omega)]
  | succ d ih =>
    intro i h
    have hlt : i < xs.length := by omega
    rw [drop_rd xs i hlt]
    refine Ev.step (f := fun k => if inB (rd xs (i : Int)) lo hi = true then spec_l1All.l0 k lo hi xs (xs.length : Int) ((i + 1 : Nat) : Int) else some false) (fun k => ?_) ?_
    · simp only [spec_l1All.l0]; rw [if_pos (by omega), if_pos (by omega), if_pos (by omega), spec_l1In_eq, wrap_succ (by omega)]; rfl
    · by_cases hb : inB (rd xs (i : Int)) lo hi = true
      · exact ev_pos hb (ev_to (ih (i + 1) (by omega)) (by simp [allB, hb]))
      · exact ev_neg hb (ev_some (by simp [allB, Bool.eq_false_iff.mpr hb]))
theorem spec_l1All_ev (lo hi : Int) (xs : List Int) (hx : xs.length ≤ 1000000000000) : Ev (fun k => spec_l1All.f k xs lo hi) (allB xs lo hi) :=
  spec_l1All_loop lo hi xs hx xs.length 0 (by omega)

theorem spec_suWord_ev (w : List Int) (hw : w.length ≤ 1048576) : Ev (fun k => spec_suWord.f k w) (superWordB w) := by
  unfold spec_suWord.f superWordB
  exact ev_if (fun h => ev_call (spec_l1All_ev _ _ _ (by omega)) (ev_some (by rw [decide_eq_true h]; simp))) (fun h => ev_some (by rw [decide_eq_false h]; simp))

theorem spec_l1Has_loop (l : List Int) (x : Int) (hl : l.length ≤ 1000000000000) : ∀ (d i : Nat), i + d = l.length → Ev (fun k => spec_l1Has.l0 k x l (l.length : Int) (i : Int)) (decide (x ∈ l.drop i)) := by
  intro d
  induction d with
  | zero =>
    intro i h
    rw [List.drop_eq_nil_of_le (by omega)]
    exact Ev.step (fun k => by simp only [spec_l1Has.l0]; rfl) (ev_neg (by omega) (ev_some (by simp)))
  | succ d ih =>
    intro i h
    rw [drop_rd l i (by omega)]
    refine Ev.step (fun k => by simp only [spec_l1Has.l0]; rfl) ?_
    rw [wrap_succ (by omega)]
    refine ev_pos (by omega) (ev_pos (by omega) (ev_pos (by omega) ?_))
    exact ev_if (fun e => ev_some (by simp [e])) (fun e => ev_to (ih (i + 1) (by omega)) (by rw [decide_eq_decide, List.mem_cons]; exact ⟨.inr, fun h => h.resolve_left (fun h => e h.symm)⟩))
theorem spec_l1Has_ev (l : List Int) (x : Int) (hl : l.length ≤ 1000000000000) : Ev (fun k => spec_l1Has.f k l x) (decide (x ∈ l)) :=
  spec_l1Has_loop l x hl l.length 0 (by omega)

theorem spec_raPermutation_loop (l : List Int) (hl : l.length ≤ 1000000000000) : ∀ (d i : Nat), i + d = l.length → i ≤ 12 → (l.take i).Nodup → (∀ x ∈ l.take i, 0 ≤ x ∧ x ≤ (l.length : Int) - 1) →
    Ev (fun k => spec_raPermutation.l0 k l l (l.length : Int) (i : Int)) (permB l) := by
  intro d
  induction d with
  | zero =>
    intro i h1 h2 h3 h4
    rw [List.take_of_length_le (by omega)] at h3 h4
    exact Ev.step (fun k => by simp only [spec_raPermutation.l0]; rfl) (ev_neg (by omega) (ev_some (by rw [eq_comm, permB_iff]; exact ⟨by omega, h3, h4⟩)))
  | succ d ih =>
    intro i h1 h2 h3 h4
    have hmem : rd l (i : Int) ∈ l := by rw [rd_get l i (by omega)]; exact List.getElem_mem _
    have ht := take_rd l i (by omega)
    have hsplit : l = l.take i ++ rd l (i : Int) :: l.drop (i + 1) := by rw [← drop_rd l i (by omega), List.take_append_drop]
    have no : ∀ {P : Prop}, (permB l = true → P → False) → P → false = permB l := fun h p => by
      rw [eq_comm, Bool.eq_false_iff]; exact fun hb => h hb p
    refine Ev.step (fun k => by simp only [spec_raPermutation.l0]; rfl) ?_
    refine ev_pos (by omega) (ev_pos (by omega) (ev_pos (by omega) ?_))
    refine ev_if (fun e => ev_some (no (fun hb _ => by have := (permB_iff.mp hb).1; omega) trivial)) (fun e => ?_)
    rw [wrap_id (x := (l.length : Int) - 1) (by omega), wrap_succ (by omega), Int.toNat_natCast]
    refine ev_plain (spec_l1In_eq _ _ _) (ev_if (fun h5 => ?_) (fun h5 => ev_some (no (fun hb _ => h5 (inB_iff.mpr ((permB_iff.mp hb).2.2 _ hmem))) trivial)))
    refine ev_pos (by omega) (ev_call (spec_l1Has_ev (l.take i) (rd l (i : Int)) (by simp; omega)) (ev_if (fun h6 => ev_some (no (fun hb _ => ?_) trivial)) (fun h6 => ?_)))
    · have hn := (permB_iff.mp hb).2.1
      rw [hsplit, List.nodup_append] at hn
      exact hn.2.2 _ (by simpa using h6) (rd l (i : Int)) (by simp) rfl
    · have hni : rd l (i : Int) ∉ l.take i := by simpa using h6
      refine ih (i + 1) (by omega) (by omega) ?_ ?_
      · rw [ht, List.nodup_append]
        refine ⟨h3, by simp, fun a ha b hb => ?_⟩
        simp only [List.mem_singleton] at hb
        rw [hb]
        intro hab
        exact hni (hab ▸ ha)
      · intro x hx
        rw [ht, List.mem_append] at hx
        rcases hx with hx | hx
        · exact h4 x hx
        · simp only [List.mem_singleton] at hx
          rw [hx]; exact inB_iff.mp h5
theorem spec_raPermutation_ev (l : List Int) (hl : l.length ≤ 1000000000000) : Ev (fun k => spec_raPermutation.f k l) (permB l) :=
  spec_raPermutation_loop l hl l.length 0 (by omega) (by omega) (by simp) (by simp)

theorem spec_raFactorial_ev (n : Nat) (hn : n ≤ 12) : Ev (fun k => spec_raFactorial.f k (n : Int)) ((fact n : Nat) : Int) := by
  have h13 : n = 0 ∨ n = 1 ∨ n = 2 ∨ n = 3 ∨ n = 4 ∨ n = 5 ∨ n = 6 ∨ n = 7 ∨ n = 8 ∨ n = 9 ∨ n = 10 ∨ n = 11 ∨ n = 12 := by omega
  rcases h13 with rfl | rfl | rfl | rfl | rfl | rfl | rfl | rfl | rfl | rfl | rfl | rfl | rfl <;> exact Ev.of (fun k => spec_raFactorial.mono _ k) (k := 20) (by kernel_rfl)

theorem spec_raRank_in (l : List Int) (r : Int) (hl : l.length ≤ 12) (h0 : 0 < l.length)
    (k : Ev (fun k => (spec_raFactorial.f k (wrap64 ((l.length : Int) - 1))).bind fun t => (if 1 ≤ (l.length : Int) then ((spec_raRank.f k (l.drop 1)).bind fun u => some (wrap64 ((wrap64 (((l.countP (fun y => decide (y < rd l 0)) : Nat) : Int) * t)) + u))) else none)) r) :
    Ev (fun k => spec_raRank.l0 k l 0 l (l.length : Int) 0) r := by
  refine ev_iter (fun (c : Nat) j k => spec_raRank.l0 k l (c : Int) l (l.length : Int) (j : Int)) (fun c j => if l.getD j 0 < rd l 0 then c + 1 else c) (fun j c => c ≤ j) l.length ?_ l.length 0 0 (by omega) (by omega) ?_
  · intro c j hj hI
    refine ⟨by split <;> omega, fun r k => ?_⟩
    refine Ev.step (fun k => by simp only [spec_raRank.l0]; rfl) ?_
    rw [wrap_succ (i := j) (by omega), rd_nat l j]
    refine ev_pos (by omega) (ev_pos (by omega) (ev_pos (by omega) (ev_pos (by omega) ?_)))
    refine ev_if (fun e => ?_) (fun e => ?_)
    · rw [wrap_succ (i := c) (by omega)]
      rw [if_pos e] at k; exact k
    · rw [if_neg e] at k; exact k
  · intro _
    refine Ev.step (fun k => by simp only [spec_raRank.l0]; rfl) (ev_neg (by omega) ?_)
    rw [count_index]
    exact k
theorem spec_raRank_ev : ∀ (n : Nat) (l : List Int), l.length = n → n ≤ 12 → Ev (fun k => spec_raRank.f k l) ((rankM l : Nat) : Int) := by
  intro n
  induction n with
  | zero =>
    intro l h _
    obtain rfl := List.eq_nil_of_length_eq_zero h
    refine Ev.step (fun k => by simp only [spec_raRank.f]; rfl) ?_
    exact ev_pos (by simp) (Ev.now _)
  | succ n ih =>
    intro l h hn
    cases l with
    | nil => simp at h
    | cons x t =>
    have hlt := rankM_lt (x :: t)
    have hf := fact_12 (n := (x :: t).length) (by omega)
    have ht : t.length = n := by simpa using h
    refine Ev.step (fun k => by simp only [spec_raRank.f]; rfl) ?_
    refine ev_neg (by simp; omega) (spec_raRank_in (x :: t) _ (by omega) (by simp) ?_)
    have hx : rd (x :: t) 0 = x := by simp [rd]
    have hc : (x :: t).countP (fun y => decide (y < rd (x :: t) 0)) = t.countP (fun y => decide (y < x)) := by rw [hx, List.countP_cons]; simp
    rw [hc, wrap_id (x := (((x :: t).length : Nat) : Int) - 1) (by omega), show (((x :: t).length : Nat) : Int) - 1 = ((t.length : Nat) : Int) by simp]
    refine ev_call (spec_raFactorial_ev _ (by omega)) (ev_pos (by simp; omega) (ev_call (ih t ht (by omega)) (ev_some ?_)))
    simp only [rankM] at hlt ⊢
    rw [show ∀ a b : Nat, (a : Int) * (b : Int) = ((a * b : Nat) : Int) from fun a b => by simp, wrap_id (x := ((t.countP (fun y => decide (y < x)) * fact t.length : Nat) : Int)) (by omega), show ∀ a b : Nat, (a : Int) + (b : Int) = ((a + b : Nat) : Int) from fun a b => by simp, wrap_id (by omega)]

theorem spec_suFirsts_ev (n : Nat) (w : List Int) (hn : 1 ≤ n) (hn2 : n ≤ 12) (hw : w.length ≤ 200) : Ev (fun k => spec_suFirsts.f k (n : Int) w) (comingsM n w, ((w.length + 1 - n - (comingsM n w).length : Nat) : Int)) := by
  unfold spec_suFirsts.f
  rw [wrap_id (x := (n : Int) - 1) (by omega)]
  by_cases hnl : n ≤ w.length + 1
  · have h := ev_iter (r := (comingsM n w, ((w.length + 1 - n - (comingsM n w).length : Nat) : Int))) (fun (out : List Int) i k => spec_suFirsts.l0 k (n : Int) w out ((i - n - out.length : Nat) : Int) ((i : Int) - 1)) (stepC n w) (fun i out => n ≤ i ∧ out.length + n ≤ i) (w.length + 1) ?_ (w.length + 1 - n) n [] (by omega) ⟨Nat.le_refl _, by simp⟩ ?_
    · simpa using h
    · intro out i hi hI
      have hs := stepC_length n w out i
      refine ⟨⟨by omega, by omega⟩, fun r k => ?_⟩
      refine Ev.step (fun k => by simp only [spec_suFirsts.l0]; rfl) ?_
      have e1 : wrap64 (wrap64 ((i : Int) - 1 - (n : Int)) + 1) = ((i - n : Nat) : Int) := by rw [wrap_id (x := (i : Int) - 1 - (n : Int)) (by omega), wrap_id (by omega)]; omega
      have e2 : wrap64 ((i : Int) - 1 + 1) = (i : Int) := by rw [wrap_id (by omega)]; omega
      rw [e1, e2, Int.toNat_natCast, Int.toNat_natCast]
      have e3 : ((i + 1 : Nat) : Int) - 1 = (i : Int) := by omega
      rw [e3] at k
      refine ev_pos (by omega) (ev_pos (by omega) (ev_pos (by omega) (ev_pos (by omega) (ev_call (spec_raPermutation_ev _ (by simp; omega)) ?_))))
      have up : ∀ m : Nat, m ≤ 1000 → wrap64 ((m : Int) + 1) = ((m + 1 : Nat) : Int) := fun m hm => wrap_succ (by omega)
      unfold stepC at k
      refine ev_if (fun e => ?_) (fun e => ?_)
      · rw [if_pos e] at k
        have hr := spec_raRank_ev _ ((w.take i).drop (i - n)) rfl (permB_iff.mp e).1
        refine ev_call hr (ev_call (spec_l1Has_ev out _ (by omega)) (ev_if (fun e2 => ?_) (fun e2 => ?_)))
        · rw [if_pos (by simpa using e2), show i + 1 - n - out.length = (i - n - out.length) + 1 by omega] at k
          rw [up _ (by omega)]; exact k
        · rw [if_neg (by simpa using e2), List.length_append, List.length_singleton, show i + 1 - n - (out.length + 1) = i - n - out.length by omega] at k
          exact ev_call hr (ev_pos (by omega) k)
      · rw [if_neg e, show i + 1 - n - out.length = (i - n - out.length) + 1 by omega] at k
        rw [up _ (by omega)]; exact k
    · intro _
      exact Ev.step (fun k => by simp only [spec_suFirsts.l0]; rfl) (ev_neg (by omega) (Ev.now _))
  · have e : comingsM n w = [] := by unfold comingsM; rw [show w.length + 1 - n = 0 by omega]; rfl
    rw [e, show w.length + 1 - n = 0 by omega]
    exact Ev.step (fun k => by simp only [spec_suFirsts.l0]; rfl) (ev_neg (by omega) (Ev.now _))

theorem spec_IsSuper_ev (n : Int) (w : List Int) (hw : w.length ≤ 1048576) : Ev (fun k => spec_IsSuper.f k n w) (IsSuperM n w) := by
  unfold spec_IsSuper.f IsSuperM
  refine ev_plain (spec_suSize_eq n) (ev_if (fun h1 => ?_) (fun h1 => ev_some (by rw [if_neg (fun h => h1 (by simp only [superOk, Bool.and_eq_true] at h; exact h.1))])))
  refine ev_call (spec_suWord_ev w hw) (ev_if (fun h2 => ?_) (fun h2 => ev_some (by rw [if_neg (fun h => h2 (by simp only [superOk, Bool.and_eq_true] at h; exact h.2))])))
  have hok : superOk n w = true := by simp [superOk, h1, h2]
  rw [if_pos hok]
  obtain ⟨m, rfl, m1, m2, hl⟩ := superOk_nat hok
  refine ev_call (a := ((comingsM m w).length : Int) == ((fact m : Nat) : Int)) ?_ (ev_some (by simp))
  unfold spec_suSuper.f
  exact ev_call (spec_suFirsts_ev m w m1 (by omega) hl) (ev_call (spec_raFactorial_ev m (by omega)) (ev_some rfl))

theorem laws_toIntS_loop (l : List Int) (hl : l.length ≤ 35184372088832) : ∀ (d i : Nat) (ys : List Int), i + d = l.length → ys.length = l.length → ys.take i = l.take i →
    Ev (fun k => laws_toIntS.l0 k l ys (i : Int)) l := by
  intro d
  induction d with
  | zero =>
    intro i ys h1 h2 h3
    refine Ev.step (f := fun _ => some ys) (fun k => ?_) (ev_some ?_)
    · simp only [laws_toIntS.l0]; rw [if_neg (by omega)]
    · rw [List.take_of_length_le (by omega), List.take_of_length_le (by omega)] at h3
      exact h3
  | succ d ih =>
    intro i ys h1 h2 h3
    have hi : i < l.length := by omega
    refine Ev.step (f := fun k => laws_toIntS.l0 k l (ys.set i (rd l (i : Int))) ((i + 1 : Nat) : Int)) (fun k => ?_) (ih (i + 1) _ (by omega) (by simp [h2]) ?_)
    · simp only [laws_toIntS.l0]; rw [if_pos (by omega), if_pos (by omega), if_pos (by omega), wrap_succ (by omega), Int.toNat_natCast]
    · rw [take_rd l i hi, List.take_succ_eq_append_getElem (by simp; omega)]
      rw [List.take_set, h3, List.set_eq_of_length_le (by simp; omega)]; simp
theorem laws_toIntS_ev (l : List Int) (hl : l.length ≤ 35184372088832) : Ev (fun k => laws_toIntS.f k l) l := by
  unfold laws_toIntS.f
  refine ev_pos (by omega) (ev_pos (by omega) ?_)
  exact laws_toIntS_loop l hl l.length 0 _ (by omega) (by simp) rfl

theorem laws_eqIntS_loop (l : List Int) (hl : l.length ≤ 35184372088832) : ∀ (d i : Nat), i + d = l.length → Ev (fun k => laws_eqIntS.l0 k l l (i : Int)) true := by
  intro d
  induction d with
  | zero =>
    intro i h
    refine Ev.step (f := fun _ => some true) (fun k => ?_) (Ev.now _)
    simp only [laws_eqIntS.l0]; rw [if_neg (by omega)]
  | succ d ih =>
    intro i h
    refine Ev.step (f := fun k => laws_eqIntS.l0 k l l ((i + 1 : Nat) : Int)) (fun k => ?_) (ih (i + 1) (by omega))
    simp only [laws_eqIntS.l0]; rw [if_pos (by omega), if_pos (by omega), if_pos (by omega), if_pos trivial, wrap_succ (by omega)]
theorem laws_eqIntS_ev (l : List Int) (hl : l.length ≤ 35184372088832) : Ev (fun k => laws_eqIntS.f k l l) true := by
  unfold laws_eqIntS.f
  exact ev_pos rfl (laws_eqIntS_loop l hl l.length 0 (by omega))

theorem FnExactIsSuper : laws_FnExactIsSuper.Pure := by
  intro n w h_n h_w1 h_w2 h_w3
  refine Ev.rounds (r := true) ?_
  unfold laws_FnExactIsSuper.f
  have hw_n := wf_in h_n
  refine ev_if (fun _ => Ev.now _) (fun hb_w => ?_)
  have hl_w : w.length ≤ 1048576 := by omega
  clear h_w1 h_w2 hb_w
  have I_ := impl_IsSuper_ev n w (by omega)
  have S_ := spec_IsSuper_ev n w (by omega)
  generalize IsSuperM n w = m_ at I_ S_
  obtain ⟨r_, b_⟩ := m_
  repeat (first
    | exact Ev.now _
    | refine ev_call (laws_toIntS_ev w (by omega)) ?_
    | (refine ev_call S_ ?_; try dsimp only)
    | (refine ev_call I_ ?_; try dsimp only)
    | refine ev_call (laws_eqIntS_ev _ (by first | assumption | omega)) ?_
    | refine ev_pos rfl ?_
    | refine ev_neg (bne_no _) ?_
    | refine ev_neg (by omega) ?_
    | refine Ev.step (fun k => by simp only [laws_FnExactIsSuper.j0]; rfl) ?_)

end Go.Proofs.Ytaimmgonhanhoaa.Pure
