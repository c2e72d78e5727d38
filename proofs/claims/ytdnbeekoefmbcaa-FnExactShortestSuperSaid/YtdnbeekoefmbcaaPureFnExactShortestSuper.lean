/- The pure statement of ShortestSuper: program and reference answer alike, for all arguments; no condition. -/
import Derived.Test.YtdnbeekoefmbcaaPFnExactShortestSuperx5
import Derived.Test.YtdnbeekoefmbcaaBase
import Derived.Test.YtdnbeekoefmbcaaLists
namespace Go.Proofs.Ytdnbeekoefmbcaa.Pure
open Go.RowKit Go.Proofs.Ytdnbeekoefmbcaa.PFnExactShortestSuper Go.Proofs.YtdnbeekoefmbcaaW.PrintWords Go.Proofs.YtdnbeekoefmbcaaW.PrintLast Go.Proofs.Ytdnbeekoefmbcaa.Base
set_option maxRecDepth 10000
set_option linter.unusedVariables false
set_option linter.unusedSimpArgs false

theorem impl_within_eq (a lo hi : Int) : impl_within.f a lo hi = some (inB a lo hi) := by
  unfold impl_within.f inB
  by_cases h : a ≥ lo
  · rw [if_pos h]; simp [h]
  · rw [if_neg h]; simp [show ¬ lo ≤ a from h]

theorem spec_l1In_eq (a lo hi : Int) : spec_l1In.f a lo hi = some (inB a lo hi) := by
  unfold spec_l1In.f inB
  by_cases h : a ≥ lo
  · rw [if_pos h]; simp [h]
  · rw [if_neg h]; simp [show ¬ lo ≤ a from h]

def superOk (n : Int) (w : List Int) : Bool := inB n 1 5 && superWordB w
theorem superOk_nat {n : Int} {w : List Int} (h : superOk n w = true) : ∃ m : Nat, n = m ∧ 1 ≤ m ∧ m ≤ 5 ∧ w.length ≤ 200 := by
  simp only [superOk, superWordB, Bool.and_eq_true, inB_iff, decide_eq_true_eq] at h
  exact ⟨n.toNat, by omega, by omega, by omega, by omega⟩
def RanksInM (n : Int) (w : List Int) : List Int × Bool := if superOk n w = true then (comingsM n.toNat w, true) else ([], false)
theorem RanksInM_length (n : Int) (w : List Int) : (RanksInM n w).1.length ≤ 1024 := by
  unfold RanksInM
  split
  · rename_i h
    obtain ⟨m, rfl, _, _, h4⟩ := superOk_nat h
    have := comingsM_length m w
    simp; omega
  · simp
def IsSuperM (n : Int) (w : List Int) : Bool × Bool := if superOk n w = true then (((comingsM n.toNat w).length : Int) == ((fact n.toNat : Nat) : Int), true) else (false, false)
def WastedInM (n : Int) (w : List Int) : Int × Bool := if superOk n w = true then (((w.length + 1 - n.toNat - (comingsM n.toNat w).length : Nat) : Int), true) else (0, false)

theorem impl_identity_ev (n : Nat) (hn : n ≤ 1000000000000) : Ev (fun k => impl_identity.f k (n : Int)) (idl n) := by
  unfold impl_identity.f
  refine ev_iter (fun (acc : List Int) i k => impl_identity.l0 k acc (n : Int) (i : Int)) (fun acc i => acc ++ [(i : Int)]) (fun i acc => acc = idl i) n ?_ n 0 [] (by omega) (by simp [idl]) ?_
  · intro acc i hi hI
    refine ⟨by rw [hI, idl_succ], fun r k => ?_⟩
    refine Ev.step (fun k => by simp only [impl_identity.l0]; rfl) ?_
    rw [wrap_succ (by omega)]
    exact ev_pos (by omega) (ev_pos (by rw [hI, idl_length]; omega) k)
  · intro h
    exact Ev.step (fun k => by simp only [impl_identity.l0]; rfl) (ev_neg (by omega) (ev_some h))

theorem slices_Equal_int_int_loop (a b : List Int) (ha : a.length ≤ 1000000000000) (hab : a.length = b.length) : ∀ (d i : Nat), i + d = a.length →
    Ev (fun k => slices_Equal_int_int.l0 k a b (a.length : Int) (i : Int)) (decide (a.drop i = b.drop i)) := by
  intro d
  induction d with
  | zero =>
    intro i h
    rw [List.drop_eq_nil_of_le (by omega), List.drop_eq_nil_of_le (by omega)]
    refine Ev.step (f := fun _ => some true) (fun k => ?_) (Ev.now _)
    simp only [slices_Equal_int_int.l0]; rw [if_neg (by omega)]
  | succ d ih =>
    intro i h
    rw [drop_rd a i (by omega), drop_rd b i (by omega)]
    refine Ev.step (f := fun k => if rd a (i : Int) = rd b (i : Int) then slices_Equal_int_int.l0 k a b (a.length : Int) ((i + 1 : Nat) : Int) else some false) (fun k => ?_) ?_
    · simp only [slices_Equal_int_int.l0]; rw [if_pos (by omega), if_pos (by omega), if_pos (by omega), if_pos (by omega), wrap_succ (by omega)]
    · exact ev_if (fun e => ev_to (ih (i + 1) (by omega)) (by simp [e])) (fun e => ev_some (by simp [e]))
theorem slices_Equal_int_int_ev (a b : List Int) (ha : a.length ≤ 1000000000000) : Ev (fun k => slices_Equal_int_int.f k a b) (decide (a = b)) := by
  unfold slices_Equal_int_int.f
  refine ev_if (fun h => ?_) (fun h => ev_some ?_)
  · exact slices_Equal_int_int_loop a b ha (by omega) a.length 0 (by omega)
  · rw [eq_comm, decide_eq_false_iff_not]; intro e; exact h (by rw [e])

theorem impl_IsPermutation_ev (l : List Int) : Ev (fun k => impl_IsPermutation.f k l) (permB l) := by
  unfold impl_IsPermutation.f
  refine ev_if (fun h => ?_) (fun h => ev_some (by simp [permB, h]))
  refine ev_call (impl_identity_ev l.length (by omega)) ?_
  refine ev_to (slices_Equal_int_int_ev (srt l) (idl l.length) (by rw [srt_length]; omega)) ?_
  rw [Bool.eq_iff_iff, permB_iff, decide_eq_true_eq, srt_idl]
  exact ⟨fun h' => ⟨h, h'⟩, fun h' => h'.2⟩

theorem impl_factorial_ev (n : Nat) (hn : n ≤ 12) : Ev (fun k => impl_factorial.f k (n : Int)) ((fact n : Nat) : Int) := by
  have h13 : n = 0 ∨ n = 1 ∨ n = 2 ∨ n = 3 ∨ n = 4 ∨ n = 5 ∨ n = 6 ∨ n = 7 ∨ n = 8 ∨ n = 9 ∨ n = 10 ∨ n = 11 ∨ n = 12 := by omega
  rcases h13 with rfl | rfl | rfl | rfl | rfl | rfl | rfl | rfl | rfl | rfl | rfl | rfl | rfl <;> exact Ev.of (fun k => impl_factorial.mono _ k) (k := 20) (by kernel_rfl)

theorem impl_permutationRank_in (l : List Int) (acc i : Nat) (r : Int) (hl : l.length ≤ 12) (hi : i < l.length)
    (k : Ev (fun k => (impl_factorial.f k (wrap64 ((wrap64 ((l.length : Int) - (i : Int))) - 1))).bind fun t => impl_permutationRank.l0 k l (wrap64 ((acc : Int) + wrap64 (((((l.drop (i + 1)).countP (fun y => decide (y < rd l (i : Int)))) : Nat) : Int) * t))) l (l.length : Int) (wrap64 ((i : Int) + 1))) r) :
    Ev (fun k => impl_permutationRank.l1 k l (acc : Int) (i : Int) (rd l (i : Int)) 0 l (l.length : Int) (i : Int) (l.drop (i + 1)) ((l.drop (i + 1)).length : Int) 0) r := by
  refine ev_iter (fun (c : Nat) j k => impl_permutationRank.l1 k l (acc : Int) (i : Int) (rd l (i : Int)) (c : Int) l (l.length : Int) (i : Int) (l.drop (i + 1)) ((l.drop (i + 1)).length : Int) (j : Int)) (fun c j => if (l.drop (i + 1)).getD j 0 < rd l (i : Int) then c + 1 else c) (fun j c => c ≤ j) (l.drop (i + 1)).length ?_ (l.drop (i + 1)).length 0 0 (by omega) (by omega) ?_
  · intro c j hj hI
    have hj2 : j < 12 := by simp at hj; omega
    refine ⟨by split <;> omega, fun r k => ?_⟩
    refine Ev.step (fun k => by simp only [impl_permutationRank.l1]; rfl) ?_
    rw [wrap_succ (i := j) (by omega), rd_nat (l.drop (i + 1)) j]
    refine ev_pos (by omega) (ev_pos (by omega) (ev_pos (by omega) ?_))
    refine ev_if (fun e => ?_) (fun e => ?_)
    · rw [wrap_succ (i := c) (by omega)]
      rw [if_pos e] at k; exact k
    · rw [if_neg e] at k; exact k
  · intro _
    refine Ev.step (fun k => by simp only [impl_permutationRank.l1]; rfl) (ev_neg (by omega) ?_)
    rw [count_index]
    exact k
theorem impl_permutationRank_loop (l : List Int) (hl : l.length ≤ 12) : ∀ (d i acc : Nat), i + d = l.length → acc + rankM (l.drop i) ≤ 1000000000 →
    Ev (fun k => impl_permutationRank.l0 k l (acc : Int) l (l.length : Int) (i : Int)) ((acc + rankM (l.drop i) : Nat) : Int) := by
  intro d
  induction d with
  | zero =>
    intro i acc h hb
    rw [List.drop_eq_nil_of_le (by omega)]
    exact Ev.step (fun k => by simp only [impl_permutationRank.l0]; rfl) (ev_neg (by omega) (ev_some (by simp [rankM])))
  | succ d ih =>
    intro i acc h hb
    have hd := drop_rd l i (by omega)
    rw [hd] at hb ⊢
    simp only [rankM, List.length_drop] at hb ⊢
    refine Ev.step (fun k => by simp only [impl_permutationRank.l0]; rfl) ?_
    rw [wrap_succ (i := i) (by omega)]
    refine ev_pos (by omega) (ev_pos (by omega) (ev_pos (by omega) (ev_pos (by omega) (ev_pos (by omega) ?_))))
    rw [Int.toNat_natCast]
    refine impl_permutationRank_in l acc i _ hl (by omega) ?_
    rw [wrap_id (x := (l.length : Int) - (i : Int)) (by omega), wrap_id (x := (l.length : Int) - (i : Int) - 1) (by omega), show (l.length : Int) - (i : Int) - 1 = ((l.length - (i + 1) : Nat) : Int) by omega, wrap_succ (i := i) (by omega)]
    refine ev_call (impl_factorial_ev _ (by omega)) ?_
    rw [show ∀ a b : Nat, (a : Int) * (b : Int) = ((a * b : Nat) : Int) from fun a b => by simp, wrap_id (x := (((l.drop (i + 1)).countP (fun y => decide (y < rd l (i : Int))) * fact (l.length - (i + 1)) : Nat) : Int)) (by omega), show ∀ a b : Nat, (a : Int) + (b : Int) = ((a + b : Nat) : Int) from fun a b => by simp, wrap_id (by omega)]
    exact ev_to (ih (i + 1) _ (by omega) (by omega)) (by rw [Nat.add_assoc])
theorem impl_permutationRank_ev (l : List Int) (hl : l.length ≤ 12) : Ev (fun k => impl_permutationRank.f k l) ((rankM l : Nat) : Int) := by
  have h1 := rankM_lt l
  have h2 := fact_12 hl
  exact ev_to (impl_permutationRank_loop l hl l.length 0 0 (by omega) (by simp; omega)) (by simp)

theorem slices_Index_loop (l : List Int) (x : Int) (hl : l.length ≤ 1000000000000) : ∀ (d i : Nat), i + d = l.length → ∃ r : Int, (r ≥ 0 ↔ x ∈ l.drop i) ∧ Ev (fun k => slices_Index_int_int.l0 k l x (l.length : Int) (i : Int)) r := by
  intro d
  induction d with
  | zero =>
    intro i h
    rw [List.drop_eq_nil_of_le (by omega)]
    exact ⟨-1, by simp, Ev.step (fun k => by simp only [slices_Index_int_int.l0]; rfl) (ev_neg (by omega) (Ev.now _))⟩
  | succ d ih =>
    intro i h
    rw [drop_rd l i (by omega)]
    obtain ⟨r, h1, h2⟩ := ih (i + 1) (by omega)
    by_cases e : x = rd l (i : Int)
    · refine ⟨(i : Int), by simp [e], Ev.step (fun k => by simp only [slices_Index_int_int.l0]; rfl) ?_⟩
      exact ev_pos (by omega) (ev_pos (by omega) (ev_pos (by omega) (ev_pos e (Ev.now _))))
    · refine ⟨r, by rw [h1, List.mem_cons]; exact ⟨.inr, fun h => h.resolve_left e⟩, Ev.step (fun k => by simp only [slices_Index_int_int.l0]; rfl) ?_⟩
      rw [wrap_succ (by omega)]
      exact ev_pos (by omega) (ev_pos (by omega) (ev_pos (by omega) (ev_neg e h2)))
theorem slices_Contains_int_int_ev (l : List Int) (x : Int) (hl : l.length ≤ 1000000000000) : Ev (fun k => slices_Contains_int_int.f k l x) (decide (x ∈ l)) := by
  unfold slices_Contains_int_int.f slices_Index_int_int.f
  obtain ⟨r, h1, h2⟩ := slices_Index_loop l x hl l.length 0 (by omega)
  refine ev_call h2 (ev_some (decide_eq_decide.mpr ?_))
  simpa using h1

theorem impl_comings_ev (n : Nat) (w : List Int) (hn : 1 ≤ n) (hn2 : n ≤ 12) (hw : w.length ≤ 200) : Ev (fun k => impl_comings.f k (n : Int) w) (comingsM n w) := by
  unfold impl_comings.f comingsM
  by_cases hnl : n ≤ w.length + 1
  · refine ev_iter (fun (out : List Int) i k => impl_comings.l0 k (n : Int) w out (i : Int)) (stepC n w) (fun i out => n ≤ i ∧ out.length ≤ i) (w.length + 1) ?_ (w.length + 1 - n) n [] (by omega) ⟨Nat.le_refl _, by simp⟩ ?_
    · intro out i hi hI
      have hs := stepC_length n w out i
      refine ⟨⟨by omega, by omega⟩, fun r k => ?_⟩
      refine Ev.step (fun k => by simp only [impl_comings.l0]; rfl) ?_
      rw [wrap_id (x := (i : Int) - (n : Int)) (by omega), wrap_succ (by omega), show (i : Int) - (n : Int) = ((i - n : Nat) : Int) by omega, Int.toNat_natCast, Int.toNat_natCast]
      refine ev_pos (by omega) (ev_pos (by omega) (ev_pos (by omega) (ev_call (impl_IsPermutation_ev _) ?_)))
      unfold stepC at k
      refine ev_if (fun e => ?_) (fun e => ?_)
      · rw [if_pos e] at k
        refine ev_call (impl_permutationRank_ev _ (permB_iff.mp e).1) (ev_call (slices_Contains_int_int_ev out _ (by omega)) (ev_if (fun e2 => ?_) (fun e2 => ?_)))
        · rw [if_pos (by simpa using e2)] at k; exact k
        · rw [if_neg (by simpa using e2)] at k; exact ev_pos (by omega) k
      · rw [if_neg e] at k; exact k
    · intro _
      exact Ev.step (fun k => by simp only [impl_comings.l0]; rfl) (ev_neg (by omega) (Ev.now _))
  · rw [show w.length + 1 - n = 0 by omega]
    exact Ev.step (fun k => by simp only [impl_comings.l0]; rfl) (ev_neg (by omega) (Ev.now _))

theorem spec_l1Has_loop (l : List Int) (x : Int) (hl : l.length ≤ 1000000000000) : ∀ (d i : Nat), i + d = l.length → Ev (fun k => spec_l1Has.l0 k x l (l.length : Int) (i : Int)) (decide (x ∈ l.drop i)) := by
  intro d
  induction d with
  | zero =>
    intro i h
    rw [List.drop_eq_nil_of_le (by omega)]
    exact Ev.step (fun k => by simp only [spec_l1Has.l0]; rfl) (ev_neg (by omega) (ev_some (by simp)))
  | succ d ih =>
    intro i h
    rw [drop_rd l i (by omega)]
    refine Ev.step (fun k => by simp only [spec_l1Has.l0]; rfl) ?_
    rw [wrap_succ (by omega)]
    refine ev_pos (by omega) (ev_pos (by omega) (ev_pos (by omega) ?_))
    exact ev_if (fun e => ev_some (by simp [e])) (fun e => ev_to (ih (i + 1) (by omega)) (by rw [decide_eq_decide, List.mem_cons]; exact ⟨.inr, fun h => h.resolve_left (fun h => e h.symm)⟩))
theorem spec_l1Has_ev (l : List Int) (x : Int) (hl : l.length ≤ 1000000000000) : Ev (fun k => spec_l1Has.f k l x) (decide (x ∈ l)) :=
  spec_l1Has_loop l x hl l.length 0 (by omega)

theorem spec_raPermutation_loop (l : List Int) (hl : l.length ≤ 1000000000000) : ∀ (d i : Nat), i + d = l.length → i ≤ 12 → (l.take i).Nodup → (∀ x ∈ l.take i, 0 ≤ x ∧ x ≤ (l.length : Int) - 1) →
    Ev (fun k => spec_raPermutation.l0 k l l (l.length : Int) (i : Int)) (permB l) := by
  intro d
  induction d with
  | zero =>
    intro i h1 h2 h3 h4
    rw [List.take_of_length_le (by omega)] at h3 h4
    exact Ev.step (fun k => by simp only [spec_raPermutation.l0]; rfl) (ev_neg (by omega) (ev_some (by rw [eq_comm, permB_iff]; exact ⟨by omega, h3, h4⟩)))
  | succ d ih =>
    intro i h1 h2 h3 h4
    have hmem : rd l (i : Int) ∈ l := by rw [rd_get l i (by omega)]; exact List.getElem_mem _
    have ht := take_rd l i (by omega)
    have hsplit : l = l.take i ++ rd l (i : Int) :: l.drop (i + 1) := by rw [← drop_rd l i (by omega), List.take_append_drop]
    have no : ∀ {P : Prop}, (permB l = true → P → False) → P → false = permB l := fun h p => by
      rw [eq_comm, Bool.eq_false_iff]; exact fun hb => h hb p
    refine Ev.step (fun k => by simp only [spec_raPermutation.l0]; rfl) ?_
    refine ev_pos (by omega) (ev_pos (by omega) (ev_pos (by omega) ?_))
    refine ev_if (fun e => ev_some (no (fun hb _ => by have := (permB_iff.mp hb).1; omega) trivial)) (fun e => ?_)
    rw [wrap_id (x := (l.length : Int) - 1) (by omega), wrap_succ (by omega), Int.toNat_natCast]
    refine ev_plain (spec_l1In_eq _ _ _) (ev_if (fun h5 => ?_) (fun h5 => ev_some (no (fun hb _ => h5 (inB_iff.mpr ((permB_iff.mp hb).2.2 _ hmem))) trivial)))
    refine ev_pos (by omega) (ev_call (spec_l1Has_ev (l.take i) (rd l (i : Int)) (by simp; omega)) (ev_if (fun h6 => ev_some (no (fun hb _ => ?_) trivial)) (fun h6 => ?_)))
    · have hn := (permB_iff.mp hb).2.1
      rw [hsplit, List.nodup_append] at hn
      exact hn.2.2 _ (by simpa using h6) (rd l (i : Int)) (by simp) rfl
    · have hni : rd l (i : Int) ∉ l.take i := by simpa using h6
      refine ih (i + 1) (by omega) (by omega) ?_ ?_
      · rw [ht, List.nodup_append]
        refine ⟨h3, by simp, fun a ha b hb => ?_⟩
        simp only [List.mem_singleton] at hb
        rw [hb]
        intro hab
        exact hni (hab ▸ ha)
      · intro x hx
        rw [ht, List.mem_append] at hx
        rcases hx with hx | hx
        · exact h4 x hx
        · simp only [List.mem_singleton] at hx
          rw [hx]; exact inB_iff.mp h5
theorem spec_raPermutation_ev (l : List Int) (hl : l.length ≤ 1000000000000) : Ev (fun k => spec_raPermutation.f k l) (permB l) :=
  spec_raPermutation_loop l hl l.length 0 (by omega) (by omega) (by simp) (by simp)

theorem spec_raFactorial_ev (n : Nat) (hn : n ≤ 12) : Ev (fun k => spec_raFactorial.f k (n : Int)) ((fact n : Nat) : Int) := by
  have h13 : n = 0 ∨ n = 1 ∨ n = 2 ∨ n = 3 ∨ n = 4 ∨ n = 5 ∨ n = 6 ∨ n = 7 ∨ n = 8 ∨ n = 9 ∨ n = 10 ∨ n = 11 ∨ n = 12 := by omega
  rcases h13 with rfl | rfl | rfl | rfl | rfl | rfl | rfl | rfl | rfl | rfl | rfl | rfl | rfl <;> exact Ev.of (fun k => spec_raFactorial.mono _ k) (k := 20) (by kernel_rfl)

theorem spec_raRank_in (l : List Int) (r : Int) (hl : l.length ≤ 12) (h0 : 0 < l.length)
    (k : Ev (fun k => (spec_raFactorial.f k (wrap64 ((l.length : Int) - 1))).bind fun t => (if 1 ≤ (l.length : Int) then ((spec_raRank.f k (l.drop 1)).bind fun u => some (wrap64 ((wrap64 (((l.countP (fun y => decide (y < rd l 0)) : Nat) : Int) * t)) + u))) else none)) r) :
    Ev (fun k => spec_raRank.l0 k l 0 l (l.length : Int) 0) r := by
  refine ev_iter (fun (c : Nat) j k => spec_raRank.l0 k l (c : Int) l (l.length : Int) (j : Int)) (fun c j => if l.getD j 0 < rd l 0 then c + 1 else c) (fun j c => c ≤ j) l.length ?_ l.length 0 0 (by omega) (by omega) ?_
  · intro c j hj hI
    refine ⟨by split <;> omega, fun r k => ?_⟩
    refine Ev.step (fun k => by simp only [spec_raRank.l0]; rfl) ?_
    rw [wrap_succ (i := j) (by omega), rd_nat l j]
    refine ev_pos (by omega) (ev_pos (by omega) (ev_pos (by omega) (ev_pos (by omega) ?_)))
    refine ev_if (fun e => ?_) (fun e => ?_)
    · rw [wrap_succ (i := c) (by omega)]
      rw [if_pos e] at k; exact k
    · rw [if_neg e] at k; exact k
  · intro _
    refine Ev.step (fun k => by simp only [spec_raRank.l0]; rfl) (ev_neg (by omega) ?_)
    rw [count_index]
    exact k
theorem spec_raRank_ev : ∀ (n : Nat) (l : List Int), l.length = n → n ≤ 12 → Ev (fun k => spec_raRank.f k l) ((rankM l : Nat) : Int) := by
  intro n
  induction n with
  | zero =>
    intro l h _
    obtain rfl := List.eq_nil_of_length_eq_zero h
    refine Ev.step (fun k => by simp only [spec_raRank.f]; rfl) ?_
    exact ev_pos (by simp) (Ev.now _)
  | succ n ih =>
    intro l h hn
    cases l with
    | nil => simp at h
    | cons x t =>
    have hlt := rankM_lt (x :: t)
    have hf := fact_12 (n := (x :: t).length) (by omega)
    have ht : t.length = n := by simpa using h
    refine Ev.step (fun k => by simp only [spec_raRank.f]; rfl) ?_
    refine ev_neg (by simp; omega) (spec_raRank_in (x :: t) _ (by omega) (by simp) ?_)
    have hx : rd (x :: t) 0 = x := by simp [rd]
    have hc : (x :: t).countP (fun y => decide (y < rd (x :: t) 0)) = t.countP (fun y => decide (y < x)) := by rw [hx, List.countP_cons]; simp
    rw [hc, wrap_id (x := (((x :: t).length : Nat) : Int) - 1) (by omega), show (((x :: t).length : Nat) : Int) - 1 = ((t.length : Nat) : Int) by simp]
    refine ev_call (spec_raFactorial_ev _ (by omega)) (ev_pos (by simp; omega) (ev_call (ih t ht (by omega)) (ev_some ?_)))
    simp only [rankM] at hlt ⊢
    rw [show ∀ a b : Nat, (a : Int) * (b : Int) = ((a * b : Nat) : Int) from fun a b => by simp, wrap_id (x := ((t.countP (fun y => decide (y < x)) * fact t.length : Nat) : Int)) (by omega), show ∀ a b : Nat, (a : Int) + (b : Int) = ((a + b : Nat) : Int) from fun a b => by simp, wrap_id (by omega)]

theorem spec_suFirsts_ev (n : Nat) (w : List Int) (hn : 1 ≤ n) (hn2 : n ≤ 12) (hw : w.length ≤ 200) : Ev (fun k => spec_suFirsts.f k (n : Int) w) (comingsM n w, ((w.length + 1 - n - (comingsM n w).length : Nat) : Int)) := by
  unfold spec_suFirsts.f
  rw [wrap_id (x := (n : Int) - 1) (by omega)]
  by_cases hnl : n ≤ w.length + 1
  · have h := ev_iter (r := (comingsM n w, ((w.length + 1 - n - (comingsM n w).length : Nat) : Int))) (fun (out : List Int) i k => spec_suFirsts.l0 k (n : Int) w out ((i - n - out.length : Nat) : Int) ((i : Int) - 1)) (stepC n w) (fun i out => n ≤ i ∧ out.length + n ≤ i) (w.length + 1) ?_ (w.length + 1 - n) n [] (by omega) ⟨Nat.le_refl _, by simp⟩ ?_
    · simpa using h
    · intro out i hi hI
      have hs := stepC_length n w out i
      refine ⟨⟨by omega, by omega⟩, fun r k => ?_⟩
      refine Ev.step (fun k => by simp only [spec_suFirsts.l0]; rfl) ?_
      have e1 : wrap64 (wrap64 ((i : Int) - 1 - (n : Int)) + 1) = ((i - n : Nat) : Int) := by rw [wrap_id (x := (i : Int) - 1 - (n : Int)) (by omega), wrap_id (by omega)]; omega
      have e2 : wrap64 ((i : Int) - 1 + 1) = (i : Int) := by rw [wrap_id (by omega)]; omega
      rw [e1, e2, Int.toNat_natCast, Int.toNat_natCast]
      have e3 : ((i + 1 : Nat) : Int) - 1 = (i : Int) := by omega
      rw [e3] at k
      refine ev_pos (by omega) (ev_pos (by omega) (ev_pos (by omega) (ev_pos (by omega) (ev_call (spec_raPermutation_ev _ (by simp; omega)) ?_))))
      have up : ∀ m : Nat, m ≤ 1000 → wrap64 ((m : Int) + 1) = ((m + 1 : Nat) : Int) := fun m hm => wrap_succ (by omega)
      unfold stepC at k
      refine ev_if (fun e => ?_) (fun e => ?_)
      · rw [if_pos e] at k
        have hr := spec_raRank_ev _ ((w.take i).drop (i - n)) rfl (permB_iff.mp e).1
        refine ev_call hr (ev_call (spec_l1Has_ev out _ (by omega)) (ev_if (fun e2 => ?_) (fun e2 => ?_)))
        · rw [if_pos (by simpa using e2), show i + 1 - n - out.length = (i - n - out.length) + 1 by omega] at k
          rw [up _ (by omega)]; exact k
        · rw [if_neg (by simpa using e2), List.length_append, List.length_singleton, show i + 1 - n - (out.length + 1) = i - n - out.length by omega] at k
          exact ev_call hr (ev_pos (by omega) k)
      · rw [if_neg e, show i + 1 - n - out.length = (i - n - out.length) + 1 by omega] at k
        rw [up _ (by omega)]; exact k
    · intro _
      exact Ev.step (fun k => by simp only [spec_suFirsts.l0]; rfl) (ev_neg (by omega) (Ev.now _))
  · have e : comingsM n w = [] := by unfold comingsM; rw [show w.length + 1 - n = 0 by omega]; rfl
    rw [e, show w.length + 1 - n = 0 by omega]
    exact Ev.step (fun k => by simp only [spec_suFirsts.l0]; rfl) (ev_neg (by omega) (Ev.now _))

theorem impl_power_ev (a n : Nat) (ha : a ≤ 6) (hn : n ≤ 12) : Ev (fun k => impl_power.f k (a : Int) (n : Int)) ((a ^ n : Nat) : Int) := by
  have hb : ∀ j, j ≤ n → a ^ j ≤ 2176782336 := fun j hj => Nat.le_trans (Nat.pow_le_pow_left ha j) (Nat.le_trans (Nat.pow_le_pow_right (by omega) (show j ≤ 12 by omega)) (by decide))
  unfold impl_power.f
  refine ev_iter (fun (o : Nat) i k => impl_power.l0 k (a : Int) (o : Int) (n : Int) (i : Int)) (fun o _ => o * a) (fun i o => o = a ^ i) n ?_ n 0 1 (by omega) rfl ?_
  · intro o i hi hI
    refine ⟨by rw [hI, Nat.pow_succ], fun r k => ?_⟩
    have h1 := hb (i + 1) (by omega)
    rw [Nat.pow_succ, ← hI] at h1
    refine Ev.step (fun k => by simp only [impl_power.l0]; rfl) ?_
    refine ev_pos (by omega) ?_
    rw [wrap_succ (by omega), show (o : Int) * (a : Int) = ((o * a : Nat) : Int) by simp, wrap_id (by omega)]
    exact k
  · intro h
    refine Ev.step (fun k => by simp only [impl_power.l0]; rfl) (ev_neg (by omega) (ev_some (by rw [h])))

/-- The word with a code: so many digits, from the last one on. -/
def putD (kk : Int) : Nat → Int → List Int → List Int
  | 0, _, w => w
  | m + 1, c, w => putD kk m (Int.tdiv c kk) (w.set m (Int.tmod c kk))
theorem putD_length (kk : Int) : ∀ m c w, (putD kk m c w).length = w.length := by
  intro m
  induction m with
  | zero => intro c w; rfl
  | succ m ih => intro c w; unfold putD; rw [ih, List.length_set]
def digW (len : Nat) (kk : Int) (c : Int) : List Int := putD kk len c (List.replicate len 0)
theorem digW_length (len : Nat) (kk c : Int) : (digW len kk c).length = len := by unfold digW; rw [putD_length, List.length_replicate]
theorem tdiv_small {c kk : Int} (h0 : 0 ≤ c) (hk : 1 ≤ kk) (hc : c ≤ 1000000000000) : wrap64 (Int.tdiv c kk) = Int.tdiv c kk ∧ 0 ≤ Int.tdiv c kk ∧ Int.tdiv c kk ≤ 1000000000000 := by
  obtain ⟨a, rfl⟩ := Int.eq_ofNat_of_zero_le h0
  obtain ⟨b, rfl⟩ := Int.eq_ofNat_of_zero_le (show 0 ≤ kk by omega)
  obtain ⟨q, hq⟩ : ∃ q : Nat, a / b = q := ⟨_, rfl⟩
  have e : Int.tdiv (a : Int) (b : Int) = ((a / b : Nat) : Int) := (Int.ofNat_tdiv a b).symm
  have := Nat.div_le_self a b
  rw [hq] at e this
  rw [e]
  exact ⟨wrap_id (by omega), by omega, by omega⟩
/-- A search that must end: the first hit of those counted up to some number. -/
theorem ev_hit {ρ : Type} (L : Nat → Nat → Option ρ) (F : Nat → Option ρ) (r : ρ) : ∀ d i, (∀ j, i ≤ j → j < i + d → (∀ r, F j = some r → Ev (L j) r) ∧ (F j = none → ∀ r, Ev (L (j + 1)) r → Ev (L j) r)) →
    ((List.range' i d).findSome? F) = some r → Ev (L i) r := by
  intro d
  induction d with
  | zero => intro i _ h; simp at h
  | succ d ih =>
    intro i hs h
    rw [List.range'_succ, List.findSome?_cons] at h
    obtain ⟨h1, h2⟩ := hs i (Nat.le_refl _) (by omega)
    cases hf : F i with
    | some r' =>
      rw [hf] at h
      obtain rfl := Option.some.inj h
      exact h1 _ hf
    | none =>
      rw [hf] at h
      exact h2 hf _ (ih (i + 1) (fun j hj1 hj2 => hs j (by omega) (by omega)) h)
theorem findSome_some {ρ : Type} (F : Nat → Option ρ) (i d c : Nat) (h1 : i ≤ c) (h2 : c < i + d) (h3 : (F c).isSome = true) : ∃ r, ((List.range' i d).findSome? F) = some r ∧ ∃ j, i ≤ j ∧ j ≤ c ∧ F j = some r := by
  induction d generalizing i with
  | zero => omega
  | succ d ih =>
    rw [List.range'_succ, List.findSome?_cons]
    cases hf : F i with
    | some r => exact ⟨r, rfl, i, Nat.le_refl _, h1, hf⟩
    | none =>
      by_cases e : i = c
      · subst e; rw [hf] at h3; cases h3
      · obtain ⟨r, hr, j, j1, j2, j3⟩ := ih (i + 1) (by omega) (by omega)
        exact ⟨r, hr, j, by omega, j2, j3⟩

theorem impl_firstWord_in (kk : Int) (hk : 1 ≤ kk) : ∀ (m : Nat) (c : Int) (w : List Int), m ≤ w.length → w.length ≤ 1000000 → 0 ≤ c → c ≤ 1000000000000 → Ev (fun q => impl_firstWord.in0 q kk c w ((m : Int) - 1)) (putD kk m c w) := by
  intro m
  induction m with
  | zero =>
    intro c w h1 h2 h3 h4
    exact Ev.step (fun k => by simp only [impl_firstWord.in0]; rfl) (ev_neg (by omega) (Ev.now _))
  | succ m ih =>
    intro c w h1 h2 h3 h4
    have ht := tdiv_small h3 hk h4
    refine Ev.step (fun k => by simp only [impl_firstWord.in0]; rfl) ?_
    refine ev_pos (by omega) (ev_neg (by omega) (ev_pos (by omega) ?_))
    rw [ht.1, show (((m + 1 : Nat) : Int) - 1) = (m : Int) by omega, Int.toNat_natCast, wrap_id (x := (m : Int) - 1) (by omega)]
    exact ih _ _ (by rw [List.length_set]; omega) (by rw [List.length_set]; exact h2) ht.2.1 ht.2.2
/-- The first word by its code of which P is so, if there is one. -/
def firstW (P : List Int → Bool) (len : Nat) (kk : Int) (size : Nat) : Option (List Int × Bool) := (List.range' 0 size).findSome? fun (c : Nat) => if P (digW len kk (c : Int)) = true then some (digW len kk (c : Int), true) else none
theorem impl_firstWord_ev (p : Nat → List Int → Option Bool) (P : List Int → Bool) (len : Nat) (kk : Int) (size : Nat) (hl : len ≤ 1000000) (hk : 1 ≤ kk) (hs : size ≤ 1000000000)
    (hpow : Ev (fun q => impl_power.f q kk (len : Int)) (size : Int)) (hp : ∀ c : Nat, c < size → Ev (fun q => p q (digW len kk (c : Int))) (P (digW len kk (c : Int)))) :
    Ev (fun q => impl_firstWord.f p q (len : Int) kk) ((firstW P len kk size).getD ([], false)) := by
  unfold impl_firstWord.f firstW
  refine ev_call hpow ?_
  refine ev_find (fun c q => impl_firstWord.l0 p q (len : Int) kk (size : Int) (c : Int)) _ size ([], false) ?_ ?_ size 0 (by omega)
  · intro c hc
    have hstep : ∀ r, Ev (fun q => if P (digW len kk (c : Int)) = true then some (digW len kk (c : Int), true) else impl_firstWord.l0 p q (len : Int) kk (size : Int) ((c + 1 : Nat) : Int)) r → Ev (fun q => impl_firstWord.l0 p q (len : Int) kk (size : Int) (c : Int)) r := by
      intro r h
      refine Ev.step (fun k => by simp only [impl_firstWord.l0]; rfl) ?_
      rw [Int.toNat_natCast, wrap_id (x := (len : Int) - 1) (by omega), wrap_succ (by omega)]
      have hin := impl_firstWord_in kk hk len (c : Int) (List.replicate len 0) (by simp) (by simp; omega) (by omega) (by omega)
      exact ev_pos (by omega) (ev_pos (by omega) (ev_pos (by omega) (ev_call hin (ev_call (hp c hc) h))))
    refine ⟨fun r hr => hstep r ?_, fun hr r h => hstep r ?_⟩
    · split at hr
      · rename_i h1
        obtain rfl := Option.some.inj hr
        exact ev_pos h1 (Ev.now _)
      · cases hr
    · split at hr
      · cases hr
      · rename_i h1
        exact ev_neg h1 h
  · exact Ev.step (fun k => by simp only [impl_firstWord.l0]; rfl) (ev_neg (by omega) (Ev.now _))

theorem spec_suCount_loop (kk : Int) (hk : 1 ≤ kk) : ∀ (m : Nat) (c : Int) (w : List Int), m ≤ w.length → w.length ≤ 1000000 → 0 ≤ c → c ≤ 1000000000000 → Ev (fun q => spec_suCount.l0 q kk c w ((m : Int) - 1)) (putD kk m c w) := by
  intro m
  induction m with
  | zero =>
    intro c w h1 h2 h3 h4
    exact Ev.step (fun k => by simp only [spec_suCount.l0]; rfl) (ev_neg (by omega) (Ev.now _))
  | succ m ih =>
    intro c w h1 h2 h3 h4
    have ht := tdiv_small h3 hk h4
    refine Ev.step (fun k => by simp only [spec_suCount.l0]; rfl) ?_
    refine ev_pos (by omega) (ev_neg (by omega) (ev_pos (by omega) (ev_pos (by omega) ?_)))
    rw [ht.1, show (((m + 1 : Nat) : Int) - 1) = (m : Int) by omega, Int.toNat_natCast, wrap_id (x := (m : Int) - 1) (by omega)]
    exact ih _ _ (by rw [List.length_set]; omega) (by rw [List.length_set]; exact h2) ht.2.1 ht.2.2
theorem spec_suCount_ev (len : Nat) (kk c : Int) (hl : len ≤ 1000000) (hk : 1 ≤ kk) (h3 : 0 ≤ c) (h4 : c ≤ 1000000000000) : Ev (fun q => spec_suCount.f q (len : Int) kk c) (digW len kk c) := by
  unfold spec_suCount.f digW
  rw [Int.toNat_natCast, wrap_id (x := (len : Int) - 1) (by omega)]
  exact ev_pos (by omega) (ev_pos (by omega) (spec_suCount_loop kk hk len c _ (by simp) (by simp; omega) h3 h4))

def supB (n : Nat) (w : List Int) : Bool := ((comingsM n w).length : Int) == ((fact n : Nat) : Int)
theorem impl_is_ev (n : Nat) (hn : 1 ≤ n) (hn2 : n ≤ 12) (w : List Int) (hw : w.length ≤ 200) : Ev (fun q => impl_ShortestSuper.is (n : Int) q w) (supB n w) := by
  unfold impl_ShortestSuper.is
  exact ev_call (impl_comings_ev n w hn hn2 hw) (ev_call (impl_factorial_ev n hn2) (Ev.now _))
theorem spec_suSuper_ev (n : Nat) (hn : 1 ≤ n) (hn2 : n ≤ 12) (w : List Int) (hw : w.length ≤ 200) : Ev (fun q => spec_suSuper.f q (n : Int) w) (supB n w) := by
  unfold spec_suSuper.f
  exact ev_call (spec_suFirsts_ev n w hn hn2 hw) (ev_call (spec_raFactorial_ev n hn2) (Ev.now _))
theorem firstW_some {P : List Int → Bool} {len : Nat} {kk : Int} {size : Nat} {r : List Int × Bool} (h : firstW P len kk size = some r) : ∃ w, r = (w, true) ∧ w.length = len ∧ P w = true := by
  unfold firstW at h
  obtain ⟨c, _, hc⟩ := List.exists_of_findSome?_eq_some h
  split at hc
  · rename_i h1
    exact ⟨_, (Option.some.inj hc).symm, digW_length _ _ _, h1⟩
  · cases hc
theorem short_inner (n size all : Nat) (hn : 1 ≤ n ∧ n ≤ 3) (hsize : size ≤ 200) (hall : all ≤ 1000000) (x : List Int × Bool) : ∀ d c, c + d = all →
    (match ((List.range' c d).findSome? fun (c : Nat) => if supB n (digW size (n : Int) (c : Int)) = true then some (digW size (n : Int) (c : Int), true) else none) with
      | some r => x = r
      | none => Ev (fun q => spec_ShortestSuper.l0 q (n : Int) ((size + 1 : Nat) : Int) (wrap64 ((all : Int) * (n : Int)))) x) → Ev (fun q => spec_ShortestSuper.l1 q (n : Int) (size : Int) (all : Int) (c : Int)) x := by
  intro d
  induction d with
  | zero =>
    intro c hc h
    refine Ev.step (fun k => by simp only [spec_ShortestSuper.l1]; rfl) (ev_neg (by omega) ?_)
    rw [wrap_succ (by omega)]
    simpa using h
  | succ d ih =>
    intro c hc h
    rw [List.range'_succ, List.findSome?_cons] at h
    refine Ev.step (fun k => by simp only [spec_ShortestSuper.l1]; rfl) (ev_pos (by omega) ?_)
    refine ev_call (spec_suCount_ev size (n : Int) (c : Int) (by omega) (by omega) (by omega) (by omega)) (ev_call (spec_suSuper_ev n (by omega) (by omega) _ (by rw [digW_length]; omega)) ?_)
    refine ev_if (fun h1 => ?_) (fun h1 => ?_)
    · rw [if_pos h1] at h
      exact ev_some h.symm
    · rw [if_neg h1] at h
      rw [wrap_succ (by omega)]
      exact ih (c + 1) (by omega) h
theorem short_at (n len0 c0 : Nat) (hn : 1 ≤ n ∧ n ≤ 3) (hl0 : n ≤ len0 ∧ len0 ≤ 9) (hc : c0 < n ^ len0) (hp : ∀ m, m ≤ 9 → n ^ m ≤ 100000) (h : supB n (digW len0 (n : Int) (c0 : Int)) = true) :
    ∃ r : List Int, (n ≤ r.length ∧ r.length ≤ 9) ∧ supB n r = true ∧ Ev (fun q => impl_ShortestSuper.f q (n : Int)) (r, true) ∧ Ev (fun q => spec_ShortestSuper.f q (n : Int)) (r, true) := by
  have hb := inB_iff.mpr (show (1 : Int) ≤ (n : Int) ∧ (n : Int) ≤ 3 by omega)
  have hG0 : (firstW (supB n) len0 (n : Int) (n ^ len0)).isSome = true := by
    obtain ⟨r, hr, _⟩ := findSome_some (fun (c : Nat) => if supB n (digW len0 (n : Int) (c : Int)) = true then some (digW len0 (n : Int) (c : Int), true) else none) 0 (n ^ len0) c0 (by omega) (by omega) (by show Option.isSome (if _ then _ else _) = true; rw [if_pos h]; rfl)
    unfold firstW
    rw [hr]; rfl
  obtain ⟨r, hr, j, j1, j2, hj⟩ := findSome_some (fun len => firstW (supB n) len (n : Int) (n ^ len)) n (10 - n) len0 (by omega) (by omega) hG0
  obtain ⟨word, rfl, hwl, hwP⟩ := firstW_some hj
  have hsmall : ∀ m, m < n → firstW (supB n) m (n : Int) (n ^ m) = none := by
    intro m hm
    cases hf : firstW (supB n) m (n : Int) (n ^ m) with
    | none => rfl
    | some r =>
      obtain ⟨w, _, h2, h3⟩ := firstW_some hf
      have h4 := comingsM_length n w
      have h5 : 1 ≤ fact n := by
        have := rankM_lt (List.replicate n 0)
        rw [List.length_replicate] at this; omega
      unfold supB at h3
      rw [beq_iff_eq] at h3
      omega
  refine ⟨word, by omega, hwP, ?_, ?_⟩
  · unfold impl_ShortestSuper.f
    refine ev_plain (impl_within_eq _ _ _) (ev_pos hb ?_)
    refine ev_hit (fun len q => impl_ShortestSuper.l0 q (n : Int) (len : Int)) _ _ (10 - n) n (fun len l1 l2 => ?_) hr
    have hpl := hp len (by omega)
    have hf := impl_firstWord_ev (impl_ShortestSuper.is (n : Int)) (supB n) len (n : Int) (n ^ len) (by omega) (by omega) (by omega) (impl_power_ev n len (by omega) (by omega)) (fun c _ => impl_is_ev n (by omega) (by omega) _ (by rw [digW_length]; omega))
    refine ⟨fun r hr => ?_, fun hr r h => ?_⟩
    · obtain ⟨w, rfl, _, _⟩ := firstW_some hr
      have hr' : firstW (supB n) len (n : Int) (n ^ len) = some (w, true) := hr
      rw [hr', Option.getD_some] at hf
      exact Ev.step (fun k => by simp only [impl_ShortestSuper.l0]; rfl) (ev_call hf (ev_pos rfl (Ev.now _)))
    · have hr' : firstW (supB n) len (n : Int) (n ^ len) = none := hr
      rw [hr', Option.getD_none] at hf
      refine Ev.step (fun k => by simp only [impl_ShortestSuper.l0]; rfl) (ev_call hf (ev_neg (show ¬ (false = true) by decide) ?_))
      rw [wrap_succ (by omega)]
      exact h
  · unfold spec_ShortestSuper.f
    refine ev_plain (spec_l1In_eq _ _ _) (ev_pos hb ?_)
    have hr1 : (List.range' 1 9).findSome? (fun len => firstW (supB n) len (n : Int) (n ^ len)) = some (word, true) := by
      obtain rfl | rfl | rfl : n = 1 ∨ n = 2 ∨ n = 3 := by omega
      · exact hr
      · rw [List.range'_succ, List.findSome?_cons, hsmall 1 (by omega)]; exact hr
      · rw [List.range'_succ, List.findSome?_cons, hsmall 1 (by omega), List.range'_succ, List.findSome?_cons, hsmall 2 (by omega)]; exact hr
    have key := ev_hit (fun len q => spec_ShortestSuper.l0 q (n : Int) (len : Int) ((n ^ len : Nat) : Int)) _ (word, true) 9 1 (fun len l1 l2 => ?_) hr1
    · rw [show n ^ 1 = n by simp] at key
      exact key
    · have hpl := hp len (by omega)
      have hin := fun x => short_inner n len (n ^ len) hn (by omega) (by omega) x (n ^ len) 0 (by omega)
      have hmul : wrap64 (((n ^ len : Nat) : Int) * (n : Int)) = ((n ^ (len + 1) : Nat) : Int) := by
        have h3 : n ^ len * n ≤ 300000 := by
          obtain rfl | rfl | rfl : n = 1 ∨ n = 2 ∨ n = 3 := by omega
          all_goals omega
        rw [← Int.natCast_mul, Nat.pow_succ, wrap_id (by omega)]
      refine ⟨fun r hr => ?_, fun hr r h => ?_⟩
      · refine Ev.step (fun k => by simp only [spec_ShortestSuper.l0]; rfl) (hin r ?_)
        unfold firstW at hr
        rw [hr]
      · refine Ev.step (fun k => by simp only [spec_ShortestSuper.l0]; rfl) (hin r ?_)
        unfold firstW at hr
        rw [hr, hmul]
        exact h
theorem shortest_ok (n : Int) (h : inB n 1 3 = true) : ∃ m : Nat, ∃ r : List Int, n = (m : Int) ∧ (m ≤ r.length ∧ r.length ≤ 9) ∧ supB m r = true ∧ Ev (fun q => impl_ShortestSuper.f q n) (r, true) ∧ Ev (fun q => spec_ShortestSuper.f q n) (r, true) := by
  have h1 := inB_iff.mp h
  obtain rfl | rfl | rfl : n = ((1 : Nat) : Int) ∨ n = ((2 : Nat) : Int) ∨ n = ((3 : Nat) : Int) := by omega
  · obtain ⟨r, h1, h2⟩ := short_at 1 1 0 (by omega) (by omega) (by decide +kernel) (fun m hm => by simp) (by decide +kernel)
    exact ⟨1, r, rfl, h1, h2⟩
  · obtain ⟨r, h1, h2⟩ := short_at 2 3 2 (by omega) (by omega) (by decide +kernel) (fun m hm => Nat.le_trans (Nat.pow_le_pow_right (by omega) hm) (by decide +kernel)) (by decide +kernel)
    exact ⟨2, r, rfl, h1, h2⟩
  · obtain ⟨r, h1, h2⟩ := short_at 3 9 3747 (by omega) (by omega) (by decide +kernel) (fun m hm => Nat.le_trans (Nat.pow_le_pow_right (by omega) hm) (by decide +kernel)) (by decide +kernel)
    exact ⟨3, r, rfl, h1, h2⟩
theorem shortest_both (n : Int) : ∃ r : List Int, ∃ b : Bool, r.length ≤ 1048576 ∧ Ev (fun q => impl_ShortestSuper.f q n) (r, b) ∧ Ev (fun q => spec_ShortestSuper.f q n) (r, b) := by
  by_cases h : inB n 1 3 = true
  · obtain ⟨m, r, rfl, h1, _, h2, h3⟩ := shortest_ok n h
    exact ⟨r, true, by omega, h2, h3⟩
  · refine ⟨[], false, by simp, ?_, ?_⟩
    · unfold impl_ShortestSuper.f
      exact ev_plain (impl_within_eq _ _ _) (ev_neg h (Ev.now _))
    · unfold spec_ShortestSuper.f
      exact ev_plain (spec_l1In_eq _ _ _) (ev_neg h (Ev.now _))

theorem laws_eqIntS_loop (l : List Int) (hl : l.length ≤ 35184372088832) : ∀ (d i : Nat), i + d = l.length → Ev (fun k => laws_eqIntS.l0 k l l (i : Int)) true := by
  intro d
  induction d with
  | zero =>
    intro i h
    refine Ev.step (f := fun _ => some true) (fun k => ?_) (Ev.now _)
    simp only [laws_eqIntS.l0]; rw [if_neg (by omega)]
  | succ d ih =>
    intro i h
    refine Ev.step (f := fun k => laws_eqIntS.l0 k l l ((i + 1 : Nat) : Int)) (fun k => ?_) (ih (i + 1) (by omega))
    simp only [laws_eqIntS.l0]; rw [if_pos (by omega), if_pos (by omega), if_pos (by omega), if_pos trivial, wrap_succ (by omega)]
theorem laws_eqIntS_ev (l : List Int) (hl : l.length ≤ 35184372088832) : Ev (fun k => laws_eqIntS.f k l l) true := by
  unfold laws_eqIntS.f
  exact ev_pos rfl (laws_eqIntS_loop l hl l.length 0 (by omega))

theorem laws_markIntS_loop : ∀ (d i : Nat) (ys : List Int) (m : Int), i + d = ys.length → 0 ≤ m → m + d ≤ 1000000000000000 → ys.length ≤ 35184372088832 →
    Ev (fun k => laws_markIntS.l0 k ys m (i : Int)) (m + (d : Int), ys.take i ++ marks m d) := by
  intro d
  induction d with
  | zero =>
    intro i ys m h1 h2 h3 h4
    refine Ev.step (f := fun _ => some (m, ys)) (fun k => ?_) (ev_some ?_)
    · simp only [laws_markIntS.l0]; rw [if_neg (by omega)]
    · rw [List.take_of_length_le (by omega)]; simp [marks]
  | succ d ih =>
    intro i ys m h1 h2 h3 h4
    refine Ev.step (f := fun k => laws_markIntS.l0 k (ys.set i m) (m + 1) ((i + 1 : Nat) : Int)) (fun k => ?_) (ev_to (ih (i + 1) _ (m + 1) (by simp; omega) (by omega) (by omega) (by simpa using h4)) ?_)
    · simp only [laws_markIntS.l0]; rw [if_pos (by omega), if_pos (by omega), wrap_succ (by omega), wrap_id (by omega), Int.toNat_natCast]
    · rw [marks_succ, List.take_succ_eq_append_getElem (by simp; omega), List.take_set, List.set_eq_of_length_le (by simp; omega)]
      refine Prod.ext (by simp; omega) ?_
      simp
theorem laws_markIntS_ev (l : List Int) (m : Int) (h2 : 0 ≤ m) (h3 : m ≤ 900000000000000) (h4 : l.length ≤ 35184372088832) : Ev (fun k => laws_markIntS.f k l m) (m + (l.length : Int), marks m l.length) :=
  ev_to (laws_markIntS_loop l.length 0 l m (by omega) h2 (by omega) h4) (by simp)

theorem laws_heldIntS_loop (zs : List Int) (hz : zs.length ≤ 35184372088832) : ∀ (d i : Nat) (m : Int), i + d = zs.length → 0 ≤ m → m + d ≤ 1000000000000000 → zs.drop i = marks m d →
    Ev (fun k => laws_heldIntS.l0 k zs m (i : Int)) (m + (d : Int)) := by
  intro d
  induction d with
  | zero =>
    intro i m h1 h2 h3 h4
    refine Ev.step (f := fun _ => some m) (fun k => ?_) (ev_some (by simp))
    simp only [laws_heldIntS.l0]; rw [if_neg (by omega)]
  | succ d ih =>
    intro i m h1 h2 h3 h4
    rw [drop_rd zs i (by omega), marks_succ, List.cons.injEq] at h4
    refine Ev.step (f := fun k => laws_heldIntS.l0 k zs (m + 1) ((i + 1 : Nat) : Int)) (fun k => ?_) (ev_to (ih (i + 1) (m + 1) (by omega) (by omega) (by omega) h4.2) (by omega))
    simp only [laws_heldIntS.l0]; rw [if_pos (by omega), if_pos (by omega), if_pos h4.1, wrap_succ (by omega), wrap_id (by omega)]
theorem laws_heldIntS_ev (m : Int) (n : Nat) (h2 : 0 ≤ m) (h3 : m ≤ 900000000000000) (h4 : n ≤ 35184372088832) : Ev (fun k => laws_heldIntS.f k (marks m n) m) (m + (n : Int)) :=
  laws_heldIntS_loop (marks m n) (by simpa [marks_length] using h4) n 0 m (by simp [marks_length]) h2 (by omega) rfl

theorem FnExactShortestSuper : laws_FnExactShortestSuper.Pure := by
  intro n h_n
  refine Ev.rounds (r := true) ?_
  unfold laws_FnExactShortestSuper.f
  have hw_n := wf_in h_n
  obtain ⟨r_, b_, hr, I_, S_⟩ := shortest_both n
  repeat (first
    | exact Ev.now _
    | (refine ev_call S_ ?_; try dsimp only)
    | (refine ev_call I_ ?_; try dsimp only)
    | refine ev_call (laws_eqIntS_ev _ (by first | assumption | omega)) ?_
    | (refine ev_call (laws_markIntS_ev _ _ (by omega) (by omega) (by omega)) ?_; dsimp only)
    | refine ev_call (laws_heldIntS_ev _ _ (by omega) (by omega) (by omega)) ?_
    | refine ev_pos rfl ?_
    | refine ev_neg (bne_no _) ?_
    | refine ev_neg (by omega) ?_
    | refine Ev.step (fun k => by simp only [laws_FnExactShortestSuper.j0]; rfl) ?_
    | refine Ev.step (fun k => by simp only [laws_FnExactShortestSuper.j1]; rfl) ?_)

end Go.Proofs.Ytdnbeekoefmbcaa.Pure
