/- The pure statement of OrderCycle: program and reference answer alike, for all arguments; no condition. -/
import Derived.Test.YtdnbeekoefmbcaaPFnExactOrderCyclex5
import Derived.Test.YtdnbeekoefmbcaaBase
import Derived.Test.YtdnbeekoefmbcaaLists
namespace Go.Proofs.Ytdnbeekoefmbcaa.Pure
open Go.RowKit Go.Proofs.Ytdnbeekoefmbcaa.PFnExactOrderCycle Go.Proofs.YtdnbeekoefmbcaaW.PrintWords Go.Proofs.YtdnbeekoefmbcaaW.PrintLast Go.Proofs.Ytdnbeekoefmbcaa.Base
set_option maxRecDepth 10000
set_option linter.unusedVariables false
set_option linter.unusedSimpArgs false

theorem impl_within_eq (a lo hi : Int) : impl_within.f a lo hi = some (inB a lo hi) := by
  unfold impl_within.f inB
  by_cases h : a ≥ lo
  · rw [if_pos h]; simp [h]
  · rw [if_neg h]; simp [show ¬ lo ≤ a from h]

theorem spec_l1In_eq (a lo hi : Int) : spec_l1In.f a lo hi = some (inB a lo hi) := by
  unfold spec_l1In.f inB
  by_cases h : a ≥ lo
  · rw [if_pos h]; simp [h]
  · rw [if_neg h]; simp [show ¬ lo ≤ a from h]

def orderM (l : List Int) : List Int := l.map fun x => ((l.countP (fun y => decide (y < x)) : Nat) : Int)
theorem orderM_length (l : List Int) : (orderM l).length = l.length := by simp [orderM]
theorem orderM_take (l : List Int) (i : Nat) (h : i < l.length) : (orderM l).take (i + 1) = (orderM l).take i ++ [((l.countP (fun y => decide (y < rd l (i : Int))) : Nat) : Int)] := by
  rw [rd_get l i h, List.take_succ_eq_append_getElem (by rw [orderM_length]; exact h)]
  simp [orderM]
def OrderOfM (l : List Int) : List Int × Bool := if l.length ≤ 12 ∧ l.Nodup then (orderM l, true) else ([], false)
theorem OrderOfM_length (l : List Int) : (OrderOfM l).1.length ≤ 1024 := by
  unfold OrderOfM
  split
  · rw [orderM_length]; omega
  · simp

def superOk (n : Int) (w : List Int) : Bool := inB n 1 5 && superWordB w
theorem superOk_nat {n : Int} {w : List Int} (h : superOk n w = true) : ∃ m : Nat, n = m ∧ 1 ≤ m ∧ m ≤ 5 ∧ w.length ≤ 200 := by
  simp only [superOk, superWordB, Bool.and_eq_true, inB_iff, decide_eq_true_eq] at h
  exact ⟨n.toNat, by omega, by omega, by omega, by omega⟩
def RanksInM (n : Int) (w : List Int) : List Int × Bool := if superOk n w = true then (comingsM n.toNat w, true) else ([], false)
theorem RanksInM_length (n : Int) (w : List Int) : (RanksInM n w).1.length ≤ 1024 := by
  unfold RanksInM
  split
  · rename_i h
    obtain ⟨m, rfl, _, _, h4⟩ := superOk_nat h
    have := comingsM_length m w
    simp; omega
  · simp
def IsSuperM (n : Int) (w : List Int) : Bool × Bool := if superOk n w = true then (((comingsM n.toNat w).length : Int) == ((fact n.toNat : Nat) : Int), true) else (false, false)
def WastedInM (n : Int) (w : List Int) : Int × Bool := if superOk n w = true then (((w.length + 1 - n.toNat - (comingsM n.toNat w).length : Nat) : Int), true) else (0, false)

def ordR (w : List Int) (n i : Nat) : Nat := rankM (orderM (win w i n))
theorem ordR_lt (w : List Int) (n i : Nat) : ordR w n i + 1 ≤ fact n := by
  have h := rankM_lt (orderM (win w i n))
  rw [orderM_length, win_length] at h
  exact h
/-- What the program's walk answers, from round i on with so many ranks met. -/
def ocI (n : Nat) (w : List Int) : Nat → Nat → List Int → Bool
  | 0, _, met => decide (w.length = fact n) && decide (met.length = w.length)
  | d + 1, i, met => if (win w i n).Nodup then ocI n w d (i + 1) (if met.contains ((ordR w n i : Nat) : Int) = true then met else met ++ [((ordR w n i : Nat) : Int)]) else false
/-- What the reference's walk answers. -/
def ocS (n : Nat) (w : List Int) : Nat → Nat → List Int → Bool
  | 0, _, _ => true
  | d + 1, i, met => if (win w i n).Nodup then (if met.contains ((ordR w n i : Nat) : Int) = true then false else ocS n w d (i + 1) (met ++ [((ordR w n i : Nat) : Int)])) else false
theorem ocI_short (n : Nat) (w : List Int) : ∀ d i met, i + d = w.length → met.length < i → ocI n w d i met = false := by
  intro d
  induction d with
  | zero =>
    intro i met h1 h2
    unfold ocI
    rw [decide_eq_false (show ¬ met.length = w.length by omega)]; simp
  | succ d ih =>
    intro i met h1 h2
    unfold ocI
    split
    · refine ih (i + 1) _ (by omega) ?_
      split
      · omega
      · simp; omega
    · rfl
theorem ocI_eq (n : Nat) (w : List Int) (hw : w.length = fact n) : ∀ d i met, i + d = w.length → met.length = i → ocI n w d i met = ocS n w d i met := by
  intro d
  induction d with
  | zero =>
    intro i met h1 h2
    unfold ocI ocS
    rw [decide_eq_true hw, decide_eq_true (show met.length = w.length by omega)]; rfl
  | succ d ih =>
    intro i met h1 h2
    unfold ocI ocS
    split
    · by_cases c : met.contains ((ordR w n i : Nat) : Int) = true
      · rw [if_pos c, if_pos c]
        exact ocI_short n w d (i + 1) met (by omega) (by omega)
      · rw [if_neg c, if_neg c]
        exact ih (i + 1) _ (by omega) (by simp; omega)
    · rfl
theorem ocI_len (n : Nat) (w : List Int) (hw : ¬ w.length = fact n) : ∀ d i met, ocI n w d i met = false := by
  intro d
  induction d with
  | zero =>
    intro i met
    unfold ocI
    rw [decide_eq_false hw]; rfl
  | succ d ih =>
    intro i met
    unfold ocI
    split
    · exact ih _ _
    · rfl
def ordB (n : Nat) (w : List Int) : Bool := ocI n w w.length 0 []

theorem impl_window_loop (w : List Int) (n p : Nat) (hw : 0 < w.length) (hwl : w.length ≤ 1000000000000) (hn : n ≤ 1000000000000) (hp : p ≤ 1000000000000) : ∀ (d i : Nat) (acc : List Int), i + d = n → acc.length = i →
    Ev (fun k => impl_window.l0 k w (p : Int) acc (n : Int) (i : Int)) (acc ++ (List.range' i d).map fun j => w.getD ((p + j) % w.length) 0) := by
  intro d
  induction d with
  | zero =>
    intro i acc h ha
    refine Ev.step (f := fun _ => some acc) (fun k => ?_) (ev_some (by simp))
    simp only [impl_window.l0]; rw [if_neg (by omega)]
  | succ d ih =>
    intro i acc h ha
    refine Ev.step (f := fun k => impl_window.l0 k w (p : Int) (acc ++ [w.getD ((p + i) % w.length) 0]) (n : Int) ((i + 1 : Nat) : Int)) (fun k => ?_) (ev_to (ih (i + 1) _ (by omega) (by simp [ha])) ?_)
    · simp only [impl_window.l0]
      rw [if_pos (by omega), if_neg (by omega), wrap_id (x := (p : Int) + (i : Int)) (by omega), show (p : Int) + (i : Int) = ((p + i : Nat) : Int) by omega, tmod_nat, wrap_succ (by omega)]
      have hm := Nat.mod_lt (p + i) hw
      rw [if_pos (by omega), if_pos (by omega), if_pos (by omega), rd_nat]
    · simp [List.range'_succ]
theorem impl_window_ev (w : List Int) (n p : Nat) (hw : 0 < w.length) (hwl : w.length ≤ 1000000000000) (hn : n ≤ 1000000000000) (hp : p ≤ 1000000000000) : Ev (fun k => impl_window.f k w (n : Int) (p : Int)) (win w p n) :=
  ev_to (impl_window_loop w n p hw hwl hn hp n 0 [] (by omega) rfl) (by simp [win])

theorem impl_increasing_loop (l : List Int) (hl : l.length ≤ 1000000000000) : ∀ (d j : Nat), j + 1 + d = l.length → Ev (fun k => impl_increasing.l0 k l ((j + 1 : Nat) : Int)) (chainB (l.drop j)) := by
  intro d
  induction d with
  | zero =>
    intro j h
    rw [drop_rd l j (by omega), List.drop_eq_nil_of_le (by omega)]
    exact Ev.step (fun k => by simp only [impl_increasing.l0]; rfl) (ev_neg (by omega) (ev_some (by simp [chainB])))
  | succ d ih =>
    intro j h
    rw [drop_rd l j (by omega), drop_rd l (j + 1) (by omega)]
    refine Ev.step (fun k => by simp only [impl_increasing.l0]; rfl) ?_
    rw [wrap_pred (by omega), wrap_succ (by omega)]
    refine ev_pos (by omega) (ev_pos (by omega) (ev_pos (by omega) (ev_pos (by omega) ?_)))
    refine ev_if (fun e => ev_some ?_) (fun e => ev_to (ih (j + 1) (by omega)) ?_)
    · simp only [chainB]; rw [decide_eq_false (by omega)]; rfl
    · rw [drop_rd l (j + 1) (by omega)]; simp only [chainB]; rw [decide_eq_true (by omega)]; rfl
theorem impl_increasing_ev (l : List Int) (hl : l.length ≤ 1000000000000) : Ev (fun k => impl_increasing.f k l) (chainB l) := by
  unfold impl_increasing.f
  by_cases h : l.length = 0
  · obtain rfl := List.eq_nil_of_length_eq_zero h
    exact Ev.step (fun k => by simp only [impl_increasing.l0]; rfl) (ev_neg (by simp) (Ev.now _))
  · exact impl_increasing_loop l hl (l.length - 1) 0 (by omega)

theorem impl_different_ev (l : List Int) (hl : l.length ≤ 1000000000000) : Ev (fun k => impl_different.f k l) (decide l.Nodup) := by
  unfold impl_different.f
  refine ev_pos (by omega) ?_
  rw [← chain_srt]
  exact impl_increasing_ev (srt l) (by rw [srt_length]; exact hl)

theorem impl_orderOf_in (l acc : List Int) (i : Nat) (r : List Int) (hl : l.length ≤ 1024) (ha : acc.length ≤ 1024) (hi : i < l.length)
    (k : Ev (fun k => impl_orderOf.l0 k l (acc ++ [((l.countP (fun y => decide (y < rd l (i : Int))) : Nat) : Int)]) l (l.length : Int) ((i + 1 : Nat) : Int)) r) :
    Ev (fun k => impl_orderOf.l1 k l acc (rd l (i : Int)) 0 l (l.length : Int) (i : Int) l (l.length : Int) 0) r := by
  refine ev_iter (fun (c : Nat) j k => impl_orderOf.l1 k l acc (rd l (i : Int)) (c : Int) l (l.length : Int) (i : Int) l (l.length : Int) (j : Int)) (fun c j => if l.getD j 0 < rd l (i : Int) then c + 1 else c) (fun j c => c ≤ j) l.length ?_ l.length 0 0 (by omega) (by omega) ?_
  · intro c j hj hI
    refine ⟨by split <;> omega, fun r k => ?_⟩
    refine Ev.step (fun k => by simp only [impl_orderOf.l1]; rfl) ?_
    rw [wrap_succ (i := j) (by omega), rd_nat l j]
    refine ev_pos (by omega) (ev_pos (by omega) (ev_pos (by omega) ?_))
    refine ev_if (fun e => ?_) (fun e => ?_)
    · rw [wrap_succ (i := c) (by omega)]
      rw [if_pos e] at k; exact k
    · rw [if_neg e] at k; exact k
  · intro _
    refine Ev.step (fun k => by simp only [impl_orderOf.l1]; rfl) (ev_neg (by omega) (ev_pos (by omega) ?_))
    rw [count_index, wrap_succ (i := i) (by omega)]
    exact k
theorem impl_orderOf_ev (l : List Int) (hl : l.length ≤ 1024) : Ev (fun k => impl_orderOf.f k l) (orderM l) := by
  unfold impl_orderOf.f
  refine ev_iter (fun (acc : List Int) i k => impl_orderOf.l0 k l acc l (l.length : Int) (i : Int)) (fun acc i => acc ++ [((l.countP (fun y => decide (y < rd l (i : Int))) : Nat) : Int)]) (fun i acc => acc = (orderM l).take i) l.length ?_ l.length 0 [] (by omega) (by simp) ?_
  · intro acc i hi hI
    refine ⟨by rw [hI, orderM_take l i hi], fun r k => ?_⟩
    refine Ev.step (fun k => by simp only [impl_orderOf.l0]; rfl) (ev_pos (by omega) (ev_pos (by omega) (ev_pos (by omega) ?_)))
    exact impl_orderOf_in l acc i r hl (by rw [hI]; simp; omega) hi k
  · intro h
    exact Ev.step (fun k => by simp only [impl_orderOf.l0]; rfl) (ev_neg (by omega) (ev_some (by rw [h, List.take_of_length_le (by rw [orderM_length]; omega)])))

theorem impl_factorial_ev (n : Nat) (hn : n ≤ 12) : Ev (fun k => impl_factorial.f k (n : Int)) ((fact n : Nat) : Int) := by
  have h13 : n = 0 ∨ n = 1 ∨ n = 2 ∨ n = 3 ∨ n = 4 ∨ n = 5 ∨ n = 6 ∨ n = 7 ∨ n = 8 ∨ n = 9 ∨ n = 10 ∨ n = 11 ∨ n = 12 := by omega
  rcases h13 with rfl | rfl | rfl | rfl | rfl | rfl | rfl | rfl | rfl | rfl | rfl | rfl | rfl <;> exact Ev.of (fun k => impl_factorial.mono _ k) (k := 20) (by kernel_rfl)

theorem impl_permutationRank_in (l : List Int) (acc i : Nat) (r : Int) (hl : l.length ≤ 12) (hi : i < l.length)
    (k : Ev (fun k => (impl_factorial.f k (wrap64 ((wrap64 ((l.length : Int) - (i : Int))) - 1))).bind fun t => impl_permutationRank.l0 k l (wrap64 ((acc : Int) + wrap64 (((((l.drop (i + 1)).countP (fun y => decide (y < rd l (i : Int)))) : Nat) : Int) * t))) l (l.length : Int) (wrap64 ((i : Int) + 1))) r) :
    Ev (fun k => impl_permutationRank.l1 k l (acc : Int) (i : Int) (rd l (i : Int)) 0 l (l.length : Int) (i : Int) (l.drop (i + 1)) ((l.drop (i + 1)).length : Int) 0) r := by
  refine ev_iter (fun (c : Nat) j k => impl_permutationRank.l1 k l (acc : Int) (i : Int) (rd l (i : Int)) (c : Int) l (l.length : Int) (i : Int) (l.drop (i + 1)) ((l.drop (i + 1)).length : Int) (j : Int)) (fun c j => if (l.drop (i + 1)).getD j 0 < rd l (i : Int) then c + 1 else c) (fun j c => c ≤ j) (l.drop (i + 1)).length ?_ (l.drop (i + 1)).length 0 0 (by omega) (by omega) ?_
  · intro c j hj hI
    have hj2 : j < 12 := by simp at hj; omega
    refine ⟨by split <;> omega, fun r k => ?_⟩
    refine Ev.step (fun k => by simp only [impl_permutationRank.l1]; rfl) ?_
    rw [wrap_succ (i := j) (by omega), rd_nat (l.drop (i + 1)) j]
    refine ev_pos (by omega) (ev_pos (by omega) (ev_pos (by omega) ?_))
    refine ev_if (fun e => ?_) (fun e => ?_)
    · rw [wrap_succ (i := c) (by omega)]
      rw [if_pos e] at k; exact k
    · rw [if_neg e] at k; exact k
  · intro _
    refine Ev.step (fun k => by simp only [impl_permutationRank.l1]; rfl) (ev_neg (by omega) ?_)
    rw [count_index]
    exact k
theorem impl_permutationRank_loop (l : List Int) (hl : l.length ≤ 12) : ∀ (d i acc : Nat), i + d = l.length → acc + rankM (l.drop i) ≤ 1000000000 →
    Ev (fun k => impl_permutationRank.l0 k l (acc : Int) l (l.length : Int) (i : Int)) ((acc + rankM (l.drop i) : Nat) : Int) := by
  intro d
  induction d with
  | zero =>
    intro i acc h hb
    rw [List.drop_eq_nil_of_le (by omega)]
    exact Ev.step (fun k => by simp only [impl_permutationRank.l0]; rfl) (ev_neg (by omega) (ev_some (by simp [rankM])))
  | succ d ih =>
    intro i acc h hb
    have hd := drop_rd l i (by omega)
    rw [hd] at hb ⊢
    simp only [rankM, List.length_drop] at hb ⊢
    refine Ev.step (fun k => by simp only [impl_permutationRank.l0]; rfl) ?_
    rw [wrap_succ (i := i) (by omega)]
    refine ev_pos (by omega) (ev_pos (by omega) (ev_pos (by omega) (ev_pos (by omega) (ev_pos (by omega) ?_))))
    rw [Int.toNat_natCast]
    refine impl_permutationRank_in l acc i _ hl (by omega) ?_
    rw [wrap_id (x := (l.length : Int) - (i : Int)) (by omega), wrap_id (x := (l.length : Int) - (i : Int) - 1) (by omega), show (l.length : Int) - (i : Int) - 1 = ((l.length - (i + 1) : Nat) : Int) by omega, wrap_succ (i := i) (by omega)]
    refine ev_call (impl_factorial_ev _ (by omega)) ?_
    rw [show ∀ a b : Nat, (a : Int) * (b : Int) = ((a * b : Nat) : Int) from fun a b => by simp, wrap_id (x := (((l.drop (i + 1)).countP (fun y => decide (y < rd l (i : Int))) * fact (l.length - (i + 1)) : Nat) : Int)) (by omega), show ∀ a b : Nat, (a : Int) + (b : Int) = ((a + b : Nat) : Int) from fun a b => by simp, wrap_id (by omega)]
    exact ev_to (ih (i + 1) _ (by omega) (by omega)) (by rw [Nat.add_assoc])
theorem impl_permutationRank_ev (l : List Int) (hl : l.length ≤ 12) : Ev (fun k => impl_permutationRank.f k l) ((rankM l : Nat) : Int) := by
  have h1 := rankM_lt l
  have h2 := fact_12 hl
  exact ev_to (impl_permutationRank_loop l hl l.length 0 0 (by omega) (by simp; omega)) (by simp)

theorem impl_isOrderCycle_loop (n : Nat) (hn : n ≤ 12) (w : List Int) (hw : w.length ≤ 1048576) : ∀ d i met, i + d = w.length →
    Ev (fun k => impl_isOrderCycle.l0 k (n : Int) w met (i : Int)) (ocI n w d i met) := by
  intro d
  induction d with
  | zero =>
    intro i met h1
    refine Ev.step (fun k => by simp only [impl_isOrderCycle.l0]; rfl) (ev_neg (by omega) (ev_call (impl_factorial_ev n hn) ?_))
    unfold ocI
    refine ev_if (fun h => ev_some ?_) (fun h => ev_some ?_)
    · rw [decide_eq_true (show w.length = fact n by omega), Bool.true_and, Bool.eq_iff_iff, beq_iff_eq, decide_eq_true_eq]; omega
    · rw [decide_eq_false (show ¬ w.length = fact n by omega)]; rfl
  | succ d ih =>
    intro i met h1
    have hlt := ordR_lt w n i
    have hf : fact n ≤ 479001600 := by
      have : ∀ m, m ≤ 12 → fact m ≤ 479001600 := by decide +kernel
      exact this n hn
    refine Ev.step (fun k => by simp only [impl_isOrderCycle.l0]; rfl) ?_
    refine ev_pos (by omega) (ev_pos (by omega) (ev_call (impl_window_ev w n i (by omega) (by omega) (by omega) (by omega)) (ev_call (impl_different_ev _ (by rw [win_length]; omega)) ?_)))
    unfold ocI
    by_cases c : (win w i n).Nodup
    · rw [if_pos c]
      refine ev_pos (by simpa using c) (ev_call (impl_orderOf_ev _ (by rw [win_length]; omega)) (ev_call (impl_permutationRank_ev _ (by rw [orderM_length, win_length]; omega)) ?_))
      refine ev_pos ?_ ?_
      · have : rankM (orderM (win w i n)) = ordR w n i := rfl
        rw [this]
        simp only [Lit.wf, IntKind.min, IntKind.max, IntKind.signed, IntKind.bits, Bool.and_eq_true, decide_eq_true_eq, if_true]
        omega
      · rw [wrap_succ (by omega)]
        exact ih (i + 1) _ (by omega)
    · rw [if_neg c]
      exact ev_neg (by simpa using c) (ev_some rfl)
theorem impl_isOrderCycle_ev (n : Nat) (hn : n ≤ 12) (w : List Int) (hw : w.length ≤ 1048576) : Ev (fun k => impl_isOrderCycle.f k (n : Int) w) (ordB n w) :=
  impl_isOrderCycle_loop n hn w hw w.length 0 [] (by omega)

theorem spec_suRound_loop (w : List Int) (n p : Nat) (hw : 0 < w.length) (hwl : w.length ≤ 1000000000000) (hn : n ≤ 1000000000000) (hp : p ≤ 1000000000000) : ∀ (d i : Nat) (acc : List Int), i + d = n → acc.length = i →
    Ev (fun k => spec_suRound.l0 k w (p : Int) (n : Int) acc (i : Int)) (acc ++ (List.range' i d).map fun j => w.getD ((p + j) % w.length) 0) := by
  intro d
  induction d with
  | zero =>
    intro i acc h ha
    refine Ev.step (f := fun _ => some acc) (fun k => ?_) (ev_some (by simp))
    simp only [spec_suRound.l0]; rw [if_neg (by omega)]
  | succ d ih =>
    intro i acc h ha
    refine Ev.step (f := fun k => spec_suRound.l0 k w (p : Int) (n : Int) (acc ++ [w.getD ((p + i) % w.length) 0]) ((i + 1 : Nat) : Int)) (fun k => ?_) (ev_to (ih (i + 1) _ (by omega) (by simp [ha])) ?_)
    · simp only [spec_suRound.l0]
      rw [if_pos (by omega), if_neg (by omega), wrap_id (x := (p : Int) + (i : Int)) (by omega), show (p : Int) + (i : Int) = ((p + i : Nat) : Int) by omega, tmod_nat, wrap_succ (by omega)]
      have hm := Nat.mod_lt (p + i) hw
      rw [if_pos (by omega), if_pos (by omega), if_pos (by omega), rd_nat]
    · simp [List.range'_succ]
theorem spec_suRound_ev (w : List Int) (n p : Nat) (hw : 0 < w.length) (hwl : w.length ≤ 1000000000000) (hn : n ≤ 1000000000000) (hp : p ≤ 1000000000000) : Ev (fun k => spec_suRound.f k w (p : Int) (n : Int)) (win w p n) :=
  ev_to (spec_suRound_loop w n p hw hwl hn hp n 0 [] (by omega) rfl) (by simp [win])

theorem spec_l1Has_loop (l : List Int) (x : Int) (hl : l.length ≤ 1000000000000) : ∀ (d i : Nat), i + d = l.length → Ev (fun k => spec_l1Has.l0 k x l (l.length : Int) (i : Int)) (decide (x ∈ l.drop i)) := by
  intro d
  induction d with
  | zero =>
    intro i h
    rw [List.drop_eq_nil_of_le (by omega)]
    exact Ev.step (fun k => by simp only [spec_l1Has.l0]; rfl) (ev_neg (by omega) (ev_some (by simp)))
  | succ d ih =>
    intro i h
    rw [drop_rd l i (by omega)]
    refine Ev.step (fun k => by simp only [spec_l1Has.l0]; rfl) ?_
    rw [wrap_succ (by omega)]
    refine ev_pos (by omega) (ev_pos (by omega) (ev_pos (by omega) ?_))
    exact ev_if (fun e => ev_some (by simp [e])) (fun e => ev_to (ih (i + 1) (by omega)) (by rw [decide_eq_decide, List.mem_cons]; exact ⟨.inr, fun h => h.resolve_left (fun h => e h.symm)⟩))
theorem spec_l1Has_ev (l : List Int) (x : Int) (hl : l.length ≤ 1000000000000) : Ev (fun k => spec_l1Has.f k l x) (decide (x ∈ l)) :=
  spec_l1Has_loop l x hl l.length 0 (by omega)

theorem spec_suOrder_in (l acc : List Int) (i : Nat) (r : List Int × Bool) (hl : l.length ≤ 1024) (ha : acc.length ≤ 1024) (hi : i < l.length)
    (k : Ev (fun k => spec_suOrder.l0 k l (acc ++ [((l.countP (fun y => decide (y < rd l (i : Int))) : Nat) : Int)]) l (l.length : Int) ((i + 1 : Nat) : Int)) r) :
    Ev (fun k => spec_suOrder.l1 k l acc (rd l (i : Int)) 0 l (l.length : Int) (i : Int) l (l.length : Int) 0) r := by
  refine ev_iter (fun (c : Nat) j k => spec_suOrder.l1 k l acc (rd l (i : Int)) (c : Int) l (l.length : Int) (i : Int) l (l.length : Int) (j : Int)) (fun c j => if l.getD j 0 < rd l (i : Int) then c + 1 else c) (fun j c => c ≤ j) l.length ?_ l.length 0 0 (by omega) (by omega) ?_
  · intro c j hj hI
    refine ⟨by split <;> omega, fun r k => ?_⟩
    refine Ev.step (fun k => by simp only [spec_suOrder.l1]; rfl) ?_
    rw [wrap_succ (i := j) (by omega), rd_nat l j]
    refine ev_pos (by omega) (ev_pos (by omega) (ev_pos (by omega) ?_))
    refine ev_if (fun e => ?_) (fun e => ?_)
    · rw [wrap_succ (i := c) (by omega)]
      rw [if_pos e] at k; exact k
    · rw [if_neg e] at k; exact k
  · intro _
    refine Ev.step (fun k => by simp only [spec_suOrder.l1]; rfl) (ev_neg (by omega) (ev_pos (by omega) ?_))
    rw [count_index, wrap_succ (i := i) (by omega)]
    exact k
theorem spec_suOrder_loop (l : List Int) (hl : l.length ≤ 1024) : ∀ (d i : Nat), i + d = l.length → (l.take i).Nodup →
    Ev (fun k => spec_suOrder.l0 k l ((orderM l).take i) l (l.length : Int) (i : Int)) (if l.Nodup then (orderM l, true) else ([], false)) := by
  intro d
  induction d with
  | zero =>
    intro i h1 h2
    rw [List.take_of_length_le (by omega)] at h2
    rw [if_pos h2]
    exact Ev.step (fun k => by simp only [spec_suOrder.l0]; rfl) (ev_neg (by omega) (ev_some (by rw [List.take_of_length_le (by rw [orderM_length]; omega)])))
  | succ d ih =>
    intro i h1 h2
    have ht := take_rd l i (by omega)
    have hsplit : l = l.take i ++ rd l (i : Int) :: l.drop (i + 1) := by rw [← drop_rd l i (by omega), List.take_append_drop]
    refine Ev.step (fun k => by simp only [spec_suOrder.l0]; rfl) ?_
    rw [Int.toNat_natCast]
    refine ev_pos (by omega) (ev_pos (by omega) (ev_pos (by omega) (ev_pos (by omega) (ev_call (spec_l1Has_ev (l.take i) (rd l (i : Int)) (by simp; omega)) (ev_if (fun h6 => ev_some ?_) (fun h6 => ?_))))))
    · rw [if_neg]
      intro hn
      rw [hsplit, List.nodup_append] at hn
      exact hn.2.2 _ (by simpa using h6) (rd l (i : Int)) (by simp) rfl
    · have hni : rd l (i : Int) ∉ l.take i := by simpa using h6
      refine spec_suOrder_in l _ i _ hl (by simp; omega) (by omega) ?_
      rw [← orderM_take l i (by omega)]
      refine ih (i + 1) (by omega) ?_
      rw [ht, List.nodup_append]
      refine ⟨h2, by simp, fun a ha b hb => ?_⟩
      simp only [List.mem_singleton] at hb
      rw [hb]
      intro hab
      exact hni (hab ▸ ha)
theorem spec_suOrder_ev (l : List Int) (hl : l.length ≤ 1024) : Ev (fun k => spec_suOrder.f k l) (if l.Nodup then (orderM l, true) else ([], false)) := by
  unfold spec_suOrder.f
  exact spec_suOrder_loop l hl l.length 0 (by omega) (by simp)

theorem spec_raFactorial_ev (n : Nat) (hn : n ≤ 12) : Ev (fun k => spec_raFactorial.f k (n : Int)) ((fact n : Nat) : Int) := by
  have h13 : n = 0 ∨ n = 1 ∨ n = 2 ∨ n = 3 ∨ n = 4 ∨ n = 5 ∨ n = 6 ∨ n = 7 ∨ n = 8 ∨ n = 9 ∨ n = 10 ∨ n = 11 ∨ n = 12 := by omega
  rcases h13 with rfl | rfl | rfl | rfl | rfl | rfl | rfl | rfl | rfl | rfl | rfl | rfl | rfl <;> exact Ev.of (fun k => spec_raFactorial.mono _ k) (k := 20) (by kernel_rfl)

theorem spec_raRank_in (l : List Int) (r : Int) (hl : l.length ≤ 12) (h0 : 0 < l.length)
    (k : Ev (fun k => (spec_raFactorial.f k (wrap64 ((l.length : Int) - 1))).bind fun t => (if 1 ≤ (l.length : Int) then ((spec_raRank.f k (l.drop 1)).bind fun u => some (wrap64 ((wrap64 (((l.countP (fun y => decide (y < rd l 0)) : Nat) : Int) * t)) + u))) else none)) r) :
    Ev (fun k => spec_raRank.l0 k l 0 l (l.length : Int) 0) r := by
  refine ev_iter (fun (c : Nat) j k => spec_raRank.l0 k l (c : Int) l (l.length : Int) (j : Int)) (fun c j => if l.getD j 0 < rd l 0 then c + 1 else c) (fun j c => c ≤ j) l.length ?_ l.length 0 0 (by omega) (by omega) ?_
  · intro c j hj hI
    refine ⟨by split <;> omega, fun r k => ?_⟩
    refine Ev.step (fun k => by simp only [spec_raRank.l0]; rfl) ?_
    rw [wrap_succ (i := j) (by omega), rd_nat l j]
    refine ev_pos (by omega) (ev_pos (by omega) (ev_pos (by omega) (ev_pos (by omega) ?_)))
    refine ev_if (fun e => ?_) (fun e => ?_)
    · rw [wrap_succ (i := c) (by omega)]
      rw [if_pos e] at k; exact k
    · rw [if_neg e] at k; exact k
  · intro _
    refine Ev.step (fun k => by simp only [spec_raRank.l0]; rfl) (ev_neg (by omega) ?_)
    rw [count_index]
    exact k
theorem spec_raRank_ev : ∀ (n : Nat) (l : List Int), l.length = n → n ≤ 12 → Ev (fun k => spec_raRank.f k l) ((rankM l : Nat) : Int) := by
  intro n
  induction n with
  | zero =>
    intro l h _
    obtain rfl := List.eq_nil_of_length_eq_zero h
    refine Ev.step (fun k => by simp only [spec_raRank.f]; rfl) ?_
    exact ev_pos (by simp) (Ev.now _)
  | succ n ih =>
    intro l h hn
    cases l with
    | nil => simp at h
    | cons x t =>
    have hlt := rankM_lt (x :: t)
    have hf := fact_12 (n := (x :: t).length) (by omega)
    have ht : t.length = n := by simpa using h
    refine Ev.step (fun k => by simp only [spec_raRank.f]; rfl) ?_
    refine ev_neg (by simp; omega) (spec_raRank_in (x :: t) _ (by omega) (by simp) ?_)
    have hx : rd (x :: t) 0 = x := by simp [rd]
    have hc : (x :: t).countP (fun y => decide (y < rd (x :: t) 0)) = t.countP (fun y => decide (y < x)) := by rw [hx, List.countP_cons]; simp
    rw [hc, wrap_id (x := (((x :: t).length : Nat) : Int) - 1) (by omega), show (((x :: t).length : Nat) : Int) - 1 = ((t.length : Nat) : Int) by simp]
    refine ev_call (spec_raFactorial_ev _ (by omega)) (ev_pos (by simp; omega) (ev_call (ih t ht (by omega)) (ev_some ?_)))
    simp only [rankM] at hlt ⊢
    rw [show ∀ a b : Nat, (a : Int) * (b : Int) = ((a * b : Nat) : Int) from fun a b => by simp, wrap_id (x := ((t.countP (fun y => decide (y < x)) * fact t.length : Nat) : Int)) (by omega), show ∀ a b : Nat, (a : Int) + (b : Int) = ((a + b : Nat) : Int) from fun a b => by simp, wrap_id (by omega)]

theorem spec_suOrders_loop (n : Nat) (hn : n ≤ 12) (w : List Int) (hw : w.length ≤ 1048576) (hl : w.length = fact n) : ∀ d i met (seen : List Bool), i + d = w.length → seen.length = w.length →
    (∀ j : Nat, j < w.length → rdOf false seen (j : Int) = met.contains (j : Int)) → Ev (fun k => spec_suOrders.l0 k (n : Int) w seen (w.length : Int) (i : Int)) (ocS n w d i met) := by
  intro d
  induction d with
  | zero =>
    intro i met seen h1 h2 h3
    exact Ev.step (fun k => by simp only [spec_suOrders.l0]; rfl) (ev_neg (by omega) (ev_some rfl))
  | succ d ih =>
    intro i met seen h1 h2 h3
    have hlt := ordR_lt w n i
    refine Ev.step (fun k => by simp only [spec_suOrders.l0]; rfl) ?_
    refine ev_pos (by omega) (ev_call (spec_suRound_ev w n i (by omega) (by omega) (by omega) (by omega)) (ev_call (spec_suOrder_ev _ (by rw [win_length]; omega)) ?_))
    unfold ocS
    by_cases c : (win w i n).Nodup
    · rw [if_pos c, if_pos c]
      dsimp only
      refine ev_pos (by trivial) ?_
      have hr := spec_raRank_ev n (orderM (win w i n)) (by rw [orderM_length, win_length]) hn
      have he : rankM (orderM (win w i n)) = ordR w n i := rfl
      rw [he] at hr
      refine ev_call hr (ev_pos (by omega) (ev_pos (by omega) ?_))
      have h4 := h3 (ordR w n i) (by omega)
      rw [h4]
      refine ev_if (fun h5 => by rw [if_pos h5]; exact Ev.now _) (fun h5 => ?_)
      rw [if_neg h5]
      refine ev_call hr (ev_pos (by omega) (ev_pos (by omega) ?_))
      rw [wrap_succ (by omega), Int.toNat_natCast]
      refine ih (i + 1) _ _ (by omega) (by rw [List.length_set]; exact h2) (fun j hj => ?_)
      have h6 := h3 j hj
      by_cases e : j = ordR w n i
      · subst e
        simp [rdOf, List.getD_eq_getElem?_getD, List.getElem?_set_self (show ordR w n i < seen.length by omega)]
      · simp only [rdOf, Int.toNat_natCast, List.getD_eq_getElem?_getD] at h6 ⊢
        rw [List.getElem?_set_ne (fun h => e h.symm), h6]
        refine Bool.eq_iff_iff.mpr ?_
        have : ¬ (j : Int) = ((ordR w n i : Nat) : Int) := by omega
        simp [this]
    · rw [if_neg c, if_neg c]
      dsimp only
      exact ev_neg (by simp) (ev_some rfl)
theorem spec_suOrders_ev (n : Nat) (hn : n ≤ 12) (w : List Int) (hw : w.length ≤ 1048576) : Ev (fun k => spec_suOrders.f k (n : Int) w) (ordB n w) := by
  unfold spec_suOrders.f ordB
  refine ev_call (spec_raFactorial_ev n hn) (ev_if (fun h => ?_) (fun h => ev_some (ocI_len n w (by omega) _ _ _).symm))
  rw [ocI_eq n w (by omega) w.length 0 [] (by omega) rfl]
  refine ev_pos (by omega) (ev_pos (by omega) ?_)
  refine spec_suOrders_loop n hn w hw (by omega) w.length 0 [] _ (by omega) (by simp) (fun j hj => ?_)
  simp [rdOf, List.getD_eq_getElem?_getD, List.getElem?_replicate]
  split <;> rfl

theorem impl_power_ev (a n : Nat) (ha : a ≤ 6) (hn : n ≤ 12) : Ev (fun k => impl_power.f k (a : Int) (n : Int)) ((a ^ n : Nat) : Int) := by
  have hb : ∀ j, j ≤ n → a ^ j ≤ 2176782336 := fun j hj => Nat.le_trans (Nat.pow_le_pow_left ha j) (Nat.le_trans (Nat.pow_le_pow_right (by omega) (show j ≤ 12 by omega)) (by decide))
  unfold impl_power.f
  refine ev_iter (fun (o : Nat) i k => impl_power.l0 k (a : Int) (o : Int) (n : Int) (i : Int)) (fun o _ => o * a) (fun i o => o = a ^ i) n ?_ n 0 1 (by omega) rfl ?_
  · intro o i hi hI
    refine ⟨by rw [hI, Nat.pow_succ], fun r k => ?_⟩
    have h1 := hb (i + 1) (by omega)
    rw [Nat.pow_succ, ← hI] at h1
    refine Ev.step (fun k => by simp only [impl_power.l0]; rfl) ?_
    refine ev_pos (by omega) ?_
    rw [wrap_succ (by omega), show (o : Int) * (a : Int) = ((o * a : Nat) : Int) by simp, wrap_id (by omega)]
    exact k
  · intro h
    refine Ev.step (fun k => by simp only [impl_power.l0]; rfl) (ev_neg (by omega) (ev_some (by rw [h])))

/-- The word with a code: so many digits, from the last one on. -/
def putD (kk : Int) : Nat → Int → List Int → List Int
  | 0, _, w => w
  | m + 1, c, w => putD kk m (Int.tdiv c kk) (w.set m (Int.tmod c kk))
theorem putD_length (kk : Int) : ∀ m c w, (putD kk m c w).length = w.length := by
  intro m
  induction m with
  | zero => intro c w; rfl
  | succ m ih => intro c w; unfold putD; rw [ih, List.length_set]
def digW (len : Nat) (kk : Int) (c : Int) : List Int := putD kk len c (List.replicate len 0)
theorem digW_length (len : Nat) (kk c : Int) : (digW len kk c).length = len := by unfold digW; rw [putD_length, List.length_replicate]
theorem tdiv_small {c kk : Int} (h0 : 0 ≤ c) (hk : 1 ≤ kk) (hc : c ≤ 1000000000000) : wrap64 (Int.tdiv c kk) = Int.tdiv c kk ∧ 0 ≤ Int.tdiv c kk ∧ Int.tdiv c kk ≤ 1000000000000 := by
  obtain ⟨a, rfl⟩ := Int.eq_ofNat_of_zero_le h0
  obtain ⟨b, rfl⟩ := Int.eq_ofNat_of_zero_le (show 0 ≤ kk by omega)
  obtain ⟨q, hq⟩ : ∃ q : Nat, a / b = q := ⟨_, rfl⟩
  have e : Int.tdiv (a : Int) (b : Int) = ((a / b : Nat) : Int) := (Int.ofNat_tdiv a b).symm
  have := Nat.div_le_self a b
  rw [hq] at e this
  rw [e]
  exact ⟨wrap_id (by omega), by omega, by omega⟩
/-- A search that must end: the first hit of those counted up to some number. -/
theorem ev_hit {ρ : Type} (L : Nat → Nat → Option ρ) (F : Nat → Option ρ) (r : ρ) : ∀ d i, (∀ j, i ≤ j → j < i + d → (∀ r, F j = some r → Ev (L j) r) ∧ (F j = none → ∀ r, Ev (L (j + 1)) r → Ev (L j) r)) →
    ((List.range' i d).findSome? F) = some r → Ev (L i) r := by
  intro d
  induction d with
  | zero => intro i _ h; simp at h
  | succ d ih =>
    intro i hs h
    rw [List.range'_succ, List.findSome?_cons] at h
    obtain ⟨h1, h2⟩ := hs i (Nat.le_refl _) (by omega)
    cases hf : F i with
    | some r' =>
      rw [hf] at h
      obtain rfl := Option.some.inj h
      exact h1 _ hf
    | none =>
      rw [hf] at h
      exact h2 hf _ (ih (i + 1) (fun j hj1 hj2 => hs j (by omega) (by omega)) h)
theorem findSome_some {ρ : Type} (F : Nat → Option ρ) (i d c : Nat) (h1 : i ≤ c) (h2 : c < i + d) (h3 : (F c).isSome = true) : ∃ r, ((List.range' i d).findSome? F) = some r ∧ ∃ j, i ≤ j ∧ j ≤ c ∧ F j = some r := by
  induction d generalizing i with
  | zero => omega
  | succ d ih =>
    rw [List.range'_succ, List.findSome?_cons]
    cases hf : F i with
    | some r => exact ⟨r, rfl, i, Nat.le_refl _, h1, hf⟩
    | none =>
      by_cases e : i = c
      · subst e; rw [hf] at h3; cases h3
      · obtain ⟨r, hr, j, j1, j2, j3⟩ := ih (i + 1) (by omega) (by omega)
        exact ⟨r, hr, j, by omega, j2, j3⟩

theorem impl_firstWord_in (kk : Int) (hk : 1 ≤ kk) : ∀ (m : Nat) (c : Int) (w : List Int), m ≤ w.length → w.length ≤ 1000000 → 0 ≤ c → c ≤ 1000000000000 → Ev (fun q => impl_firstWord.in0 q kk c w ((m : Int) - 1)) (putD kk m c w) := by
  intro m
  induction m with
  | zero =>
    intro c w h1 h2 h3 h4
    exact Ev.step (fun k => by simp only [impl_firstWord.in0]; rfl) (ev_neg (by omega) (Ev.now _))
  | succ m ih =>
    intro c w h1 h2 h3 h4
    have ht := tdiv_small h3 hk h4
    refine Ev.step (fun k => by simp only [impl_firstWord.in0]; rfl) ?_
    refine ev_pos (by omega) (ev_neg (by omega) (ev_pos (by omega) ?_))
    rw [ht.1, show (((m + 1 : Nat) : Int) - 1) = (m : Int) by omega, Int.toNat_natCast, wrap_id (x := (m : Int) - 1) (by omega)]
    exact ih _ _ (by rw [List.length_set]; omega) (by rw [List.length_set]; exact h2) ht.2.1 ht.2.2
/-- The first word by its code of which P is so, if there is one. -/
def firstW (P : List Int → Bool) (len : Nat) (kk : Int) (size : Nat) : Option (List Int × Bool) := (List.range' 0 size).findSome? fun (c : Nat) => if P (digW len kk (c : Int)) = true then some (digW len kk (c : Int), true) else none
theorem impl_firstWord_ev (p : Nat → List Int → Option Bool) (P : List Int → Bool) (len : Nat) (kk : Int) (size : Nat) (hl : len ≤ 1000000) (hk : 1 ≤ kk) (hs : size ≤ 1000000000)
    (hpow : Ev (fun q => impl_power.f q kk (len : Int)) (size : Int)) (hp : ∀ c : Nat, c < size → Ev (fun q => p q (digW len kk (c : Int))) (P (digW len kk (c : Int)))) :
    Ev (fun q => impl_firstWord.f p q (len : Int) kk) ((firstW P len kk size).getD ([], false)) := by
  unfold impl_firstWord.f firstW
  refine ev_call hpow ?_
  refine ev_find (fun c q => impl_firstWord.l0 p q (len : Int) kk (size : Int) (c : Int)) _ size ([], false) ?_ ?_ size 0 (by omega)
  · intro c hc
    have hstep : ∀ r, Ev (fun q => if P (digW len kk (c : Int)) = true then some (digW len kk (c : Int), true) else impl_firstWord.l0 p q (len : Int) kk (size : Int) ((c + 1 : Nat) : Int)) r → Ev (fun q => impl_firstWord.l0 p q (len : Int) kk (size : Int) (c : Int)) r := by
      intro r h
      refine Ev.step (fun k => by simp only [impl_firstWord.l0]; rfl) ?_
      rw [Int.toNat_natCast, wrap_id (x := (len : Int) - 1) (by omega), wrap_succ (by omega)]
      have hin := impl_firstWord_in kk hk len (c : Int) (List.replicate len 0) (by simp) (by simp; omega) (by omega) (by omega)
      exact ev_pos (by omega) (ev_pos (by omega) (ev_pos (by omega) (ev_call hin (ev_call (hp c hc) h))))
    refine ⟨fun r hr => hstep r ?_, fun hr r h => hstep r ?_⟩
    · split at hr
      · rename_i h1
        obtain rfl := Option.some.inj hr
        exact ev_pos h1 (Ev.now _)
      · cases hr
    · split at hr
      · cases hr
      · rename_i h1
        exact ev_neg h1 h
  · exact Ev.step (fun k => by simp only [impl_firstWord.l0]; rfl) (ev_neg (by omega) (Ev.now _))

theorem spec_suCount_loop (kk : Int) (hk : 1 ≤ kk) : ∀ (m : Nat) (c : Int) (w : List Int), m ≤ w.length → w.length ≤ 1000000 → 0 ≤ c → c ≤ 1000000000000 → Ev (fun q => spec_suCount.l0 q kk c w ((m : Int) - 1)) (putD kk m c w) := by
  intro m
  induction m with
  | zero =>
    intro c w h1 h2 h3 h4
    exact Ev.step (fun k => by simp only [spec_suCount.l0]; rfl) (ev_neg (by omega) (Ev.now _))
  | succ m ih =>
    intro c w h1 h2 h3 h4
    have ht := tdiv_small h3 hk h4
    refine Ev.step (fun k => by simp only [spec_suCount.l0]; rfl) ?_
    refine ev_pos (by omega) (ev_neg (by omega) (ev_pos (by omega) (ev_pos (by omega) ?_)))
    rw [ht.1, show (((m + 1 : Nat) : Int) - 1) = (m : Int) by omega, Int.toNat_natCast, wrap_id (x := (m : Int) - 1) (by omega)]
    exact ih _ _ (by rw [List.length_set]; omega) (by rw [List.length_set]; exact h2) ht.2.1 ht.2.2
theorem spec_suCount_ev (len : Nat) (kk c : Int) (hl : len ≤ 1000000) (hk : 1 ≤ kk) (h3 : 0 ≤ c) (h4 : c ≤ 1000000000000) : Ev (fun q => spec_suCount.f q (len : Int) kk c) (digW len kk c) := by
  unfold spec_suCount.f digW
  rw [Int.toNat_natCast, wrap_id (x := (len : Int) - 1) (by omega)]
  exact ev_pos (by omega) (ev_pos (by omega) (spec_suCount_loop kk hk len c _ (by simp) (by simp; omega) h3 h4))

theorem orderCycle_at (n c0 size : Nat) (hn : 2 ≤ n ∧ n ≤ 3) (hf : fact n ≤ 6) (hsz : (n + 1) ^ fact n = size) (hs : size ≤ 4096) (hc : c0 < size) (h : ordB n (digW (fact n) ((n + 1 : Nat) : Int) (c0 : Int)) = true) :
    ∃ r : List Int, r.length ≤ 1048576 ∧ Ev (fun q => impl_OrderCycle.f q (n : Int)) (r, true) ∧ Ev (fun q => spec_OrderCycle.f q (n : Int)) (r, true) := by
  have hb := inB_iff.mpr (show (2 : Int) ≤ (n : Int) ∧ (n : Int) ≤ 3 by omega)
  obtain ⟨r, hr, j, _, _, hj⟩ := findSome_some (fun c => if ordB n (digW (fact n) ((n + 1 : Nat) : Int) (c : Int)) = true then some (digW (fact n) ((n + 1 : Nat) : Int) (c : Int), true) else none) 0 size c0 (by omega) (by omega) (by show Option.isSome (if _ then _ else _) = true; rw [if_pos h]; rfl)
  split at hj
  case isFalse => cases hj
  obtain rfl := Option.some.inj hj
  refine ⟨digW (fact n) ((n + 1 : Nat) : Int) (j : Int), by rw [digW_length]; omega, ?_, ?_⟩
  · unfold impl_OrderCycle.f
    refine ev_plain (impl_within_eq _ _ _) (ev_pos hb (ev_call (impl_factorial_ev n (by omega)) ?_))
    rw [wrap_succ (by omega)]
    have := impl_firstWord_ev (fun q l => impl_isOrderCycle.f q (n : Int) l) (ordB n) (fact n) ((n + 1 : Nat) : Int) size (by omega) (by omega) (by omega) (by rw [← hsz]; exact impl_power_ev (n + 1) (fact n) (by omega) (by omega))
      (fun c _ => impl_isOrderCycle_ev n (by omega) _ (by rw [digW_length]; omega))
    unfold firstW at this
    rw [hr] at this
    exact this
  · unfold spec_OrderCycle.f
    refine ev_plain (spec_l1In_eq _ _ _) (ev_pos hb ?_)
    refine ev_hit (fun c q => spec_OrderCycle.l0 q (n : Int) (c : Int)) _ _ size 0 (fun c _ hc => ?_) hr
    have hstep : ∀ r, Ev (fun q => if ordB n (digW (fact n) ((n + 1 : Nat) : Int) (c : Int)) = true then some (digW (fact n) ((n + 1 : Nat) : Int) (c : Int), true) else spec_OrderCycle.l0 q (n : Int) ((c + 1 : Nat) : Int)) r → Ev (fun q => spec_OrderCycle.l0 q (n : Int) (c : Int)) r := by
      intro r h
      refine Ev.step (fun k => by simp only [spec_OrderCycle.l0]; rfl) (ev_call (spec_raFactorial_ev n (by omega)) ?_)
      rw [wrap_succ (by omega), wrap_succ (by omega)]
      exact ev_call (spec_suCount_ev (fact n) ((n + 1 : Nat) : Int) (c : Int) (by omega) (by omega) (by omega) (by omega)) (ev_call (spec_suOrders_ev n (by omega) _ (by rw [digW_length]; omega)) h)
    refine ⟨fun r hr => hstep r ?_, fun hr r h => hstep r ?_⟩
    · split at hr
      · rename_i h1
        obtain rfl := Option.some.inj hr
        exact ev_pos h1 (Ev.now _)
      · cases hr
    · split at hr
      · cases hr
      · rename_i h1
        exact ev_neg h1 h
theorem orderCycle_both (n : Int) : ∃ r : List Int, ∃ b : Bool, r.length ≤ 1048576 ∧ Ev (fun q => impl_OrderCycle.f q n) (r, b) ∧ Ev (fun q => spec_OrderCycle.f q n) (r, b) := by
  by_cases h : inB n 2 3 = true
  · have h1 := inB_iff.mp h
    obtain rfl | rfl : n = ((2 : Nat) : Int) ∨ n = ((3 : Nat) : Int) := by omega
    · obtain ⟨r, h1, h2, h3⟩ := orderCycle_at 2 1 9 (by omega) (by decide +kernel) (by decide +kernel) (by decide +kernel) (by decide +kernel) (by decide +kernel)
      exact ⟨r, true, h1, h2, h3⟩
    · obtain ⟨r, h1, h2, h3⟩ := orderCycle_at 3 398 4096 (by omega) (by decide +kernel) (by decide +kernel) (by decide +kernel) (by decide +kernel) (by decide +kernel)
      exact ⟨r, true, h1, h2, h3⟩
  · refine ⟨[], false, by simp, ?_, ?_⟩
    · unfold impl_OrderCycle.f
      exact ev_plain (impl_within_eq _ _ _) (ev_neg h (Ev.now _))
    · unfold spec_OrderCycle.f
      exact ev_plain (spec_l1In_eq _ _ _) (ev_neg h (Ev.now _))

theorem laws_eqIntS_loop (l : List Int) (hl : l.length ≤ 35184372088832) : ∀ (d i : Nat), i + d = l.length → Ev (fun k => laws_eqIntS.l0 k l l (i : Int)) true := by
  intro d
  induction d with
  | zero =>
    intro i h
    refine Ev.step (f := fun _ => some true) (fun k => ?_) (Ev.now _)
    simp only [laws_eqIntS.l0]; rw [if_neg (by omega)]
  | succ d ih =>
    intro i h
    refine Ev.step (f := fun k => laws_eqIntS.l0 k l l ((i + 1 : Nat) : Int)) (fun k => ?_) (ih (i + 1) (by omega))
    simp only [laws_eqIntS.l0]; rw [if_pos (by omega), if_pos (by omega), if_pos (by omega), if_pos trivial, wrap_succ (by omega)]
theorem laws_eqIntS_ev (l : List Int) (hl : l.length ≤ 35184372088832) : Ev (fun k => laws_eqIntS.f k l l) true := by
  unfold laws_eqIntS.f
  exact ev_pos rfl (laws_eqIntS_loop l hl l.length 0 (by omega))

theorem laws_markIntS_loop : ∀ (d i : Nat) (ys : List Int) (m : Int), i + d = ys.length → 0 ≤ m → m + d ≤ 1000000000000000 → ys.length ≤ 35184372088832 →
    Ev (fun k => laws_markIntS.l0 k ys m (i : Int)) (m + (d : Int), ys.take i ++ marks m d) := by
  intro d
  induction d with
  | zero =>
    intro i ys m h1 h2 h3 h4
    refine Ev.step (f := fun _ => some (m, ys)) (fun k => ?_) (ev_some ?_)
    · simp only [laws_markIntS.l0]; rw [if_neg (by omega)]
    · rw [List.take_of_length_le (by omega)]; simp [marks]
  | succ d ih =>
    intro i ys m h1 h2 h3 h4
    refine Ev.step (f := fun k => laws_markIntS.l0 k (ys.set i m) (m + 1) ((i + 1 : Nat) : Int)) (fun k => ?_) (ev_to (ih (i + 1) _ (m + 1) (by simp; omega) (by omega) (by omega) (by simpa using h4)) ?_)
    · simp only [laws_markIntS.l0]; rw [if_pos (by omega), if_pos (by omega), wrap_succ (by omega), wrap_id (by omega), Int.toNat_natCast]
    · rw [marks_succ, List.take_succ_eq_append_getElem (by simp; omega), List.take_set, List.set_eq_of_length_le (by simp; omega)]
      refine Prod.ext (by simp; omega) ?_
      simp
theorem laws_markIntS_ev (l : List Int) (m : Int) (h2 : 0 ≤ m) (h3 : m ≤ 900000000000000) (h4 : l.length ≤ 35184372088832) : Ev (fun k => laws_markIntS.f k l m) (m + (l.length : Int), marks m l.length) :=
  ev_to (laws_markIntS_loop l.length 0 l m (by omega) h2 (by omega) h4) (by simp)

theorem laws_heldIntS_loop (zs : List Int) (hz : zs.length ≤ 35184372088832) : ∀ (d i : Nat) (m : Int), i + d = zs.length → 0 ≤ m → m + d ≤ 1000000000000000 → zs.drop i = marks m d →
    Ev (fun k => laws_heldIntS.l0 k zs m (i : Int)) (m + (d : Int)) := by
  intro d
  induction d with
  | zero =>
    intro i m h1 h2 h3 h4
    refine Ev.step (f := fun _ => some m) (fun k => ?_) (ev_some (by simp))
    simp only [laws_heldIntS.l0]; rw [if_neg (by omega)]
  | succ d ih =>
    intro i m h1 h2 h3 h4
    rw [drop_rd zs i (by omega), marks_succ, List.cons.injEq] at h4
    refine Ev.step (f := fun k => laws_heldIntS.l0 k zs (m + 1) ((i + 1 : Nat) : Int)) (fun k => ?_) (ev_to (ih (i + 1) (m + 1) (by omega) (by omega) (by omega) h4.2) (by omega))
    simp only [laws_heldIntS.l0]; rw [if_pos (by omega), if_pos (by omega), if_pos h4.1, wrap_succ (by omega), wrap_id (by omega)]
theorem laws_heldIntS_ev (m : Int) (n : Nat) (h2 : 0 ≤ m) (h3 : m ≤ 900000000000000) (h4 : n ≤ 35184372088832) : Ev (fun k => laws_heldIntS.f k (marks m n) m) (m + (n : Int)) :=
  laws_heldIntS_loop (marks m n) (by simpa [marks_length] using h4) n 0 m (by simp [marks_length]) h2 (by omega) rfl

theorem FnExactOrderCycle : laws_FnExactOrderCycle.Pure := by
  intro n h_n
  refine Ev.rounds (r := true) ?_
  unfold laws_FnExactOrderCycle.f
  have hw_n := wf_in h_n
  obtain ⟨r_, b_, hr, I_, S_⟩ := orderCycle_both n
  repeat (first
    | exact Ev.now _
    | (refine ev_call S_ ?_; try dsimp only)
    | (refine ev_call I_ ?_; try dsimp only)
    | refine ev_call (laws_eqIntS_ev _ (by first | assumption | omega)) ?_
    | (refine ev_call (laws_markIntS_ev _ _ (by omega) (by omega) (by omega)) ?_; dsimp only)
    | refine ev_call (laws_heldIntS_ev _ _ (by omega) (by omega) (by omega)) ?_
    | refine ev_pos rfl ?_
    | refine ev_neg (bne_no _) ?_
    | refine ev_neg (by omega) ?_
    | refine Ev.step (fun k => by simp only [laws_FnExactOrderCycle.j0]; rfl) ?_
    | refine Ev.step (fun k => by simp only [laws_FnExactOrderCycle.j1]; rfl) ?_)

end Go.Proofs.Ytdnbeekoefmbcaa.Pure
