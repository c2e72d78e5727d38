/- The pure statement of IsBruijn: program and reference answer alike, for all arguments; no condition. -/
import Derived.Test.YtaimmgonhanhoaaPFnExactIsBruijnx3
import Derived.Test.YtaimmgonhanhoaaBase
import Derived.Test.YtaimmgonhanhoaaLists
namespace Go.Proofs.Ytaimmgonhanhoaa.Pure
open Go.RowKit Go.Proofs.Ytaimmgonhanhoaa.PFnExactIsBruijn Go.Proofs.YtaimmgonhanhoaaW.PrintWords Go.Proofs.YtaimmgonhanhoaaW.PrintLast Go.Proofs.Ytaimmgonhanhoaa.Base
set_option maxRecDepth 10000

def kindB (n k : Int) : Bool := inB n 1 10 && (inB k 2 6 && decide (k.toNat ^ n.toNat ≤ 1024))
theorem kindB_iff {n k : Int} : kindB n k = true ↔ (1 ≤ n ∧ n ≤ 10) ∧ (2 ≤ k ∧ k ≤ 6) ∧ k.toNat ^ n.toNat ≤ 1024 := by simp [kindB, inB_iff]
theorem kindB_nat {n k : Int} (h : kindB n k = true) : ∃ n' k' : Nat, n = n' ∧ k = k' ∧ 1 ≤ n' ∧ n' ≤ 10 ∧ 2 ≤ k' ∧ k' ≤ 6 ∧ k' ^ n' ≤ 1024 := by
  obtain ⟨h1, h2, h3⟩ := kindB_iff.mp h
  exact ⟨n.toNat, k.toNat, by omega, by omega, by omega, by omega, by omega, by omega, h3⟩

theorem codesM_take (w : List Int) (n k i : Nat) (h : i < w.length) : (codesM w n k).take (i + 1) = (codesM w n k).take i ++ [codeN k (win w i n)] := by
  rw [List.take_succ_eq_append_getElem (by simp [codesM]; exact h)]
  simp [codesM]
theorem codesM_length (w : List Int) (n k : Nat) : (codesM w n k).length = w.length := by simp [codesM]
theorem codeN_take (k : Nat) (xs : List Int) (j : Nat) (h : j < xs.length) : codeN k (xs.take (j + 1)) = codeN k (xs.take j) * (k : Int) + rd xs (j : Int) := by
  rw [take_rd xs j h, codeN_snoc]
def IsBruijnM (w : List Int) (n k : Int) : Bool × Bool := if kindB n k = true ∧ cycleB w k = true then (bruijnB w n.toNat k.toNat, true) else (false, false)
theorem pow_le_1024 {k n j : Nat} (hk : 2 ≤ k) (h : k ^ n ≤ 1024) (hj : j ≤ n) : k ^ j ≤ 1024 := Nat.le_trans (Nat.pow_le_pow_right (by omega) hj) h
/-- The number of a beginning of a window, and the next step, lie in bounds. -/
theorem code_step {k n j : Nat} {xs : List Int} (hk : 2 ≤ k) (hk6 : k ≤ 6) (h : k ^ n ≤ 1024) (hx : xs.length = n) (hxs : ∀ x ∈ xs, 0 ≤ x ∧ x ≤ (k : Int) - 1) (hj : j < n) :
    wrap64 (wrap64 (codeN k (xs.take j) * (k : Int)) + rd xs (j : Int)) = codeN k (xs.take (j + 1)) := by
  have h1 := codeN_range k j (xs.take j) (by simp; omega) (fun x hx' => hxs x (List.mem_of_mem_take hx'))
  have h2 := pow_le_1024 hk h (show j ≤ n by omega)
  have h3 : codeN k (xs.take j) * (k : Int) ≤ 1024 * 6 := Int.mul_le_mul (by omega) (by omega) (by omega) (by omega)
  have h4 : 0 ≤ codeN k (xs.take j) * (k : Int) := Int.mul_nonneg h1.1 (by omega)
  have h5 : 0 ≤ rd xs (j : Int) ∧ rd xs (j : Int) ≤ (k : Int) - 1 := hxs _ (by rw [rd_get xs j (by omega)]; exact List.getElem_mem _)
  rw [wrap_id (x := codeN k (xs.take j) * (k : Int)) (by omega), wrap_id (by omega), codeN_take k xs j (by omega)]

theorem impl_within_eq (a lo hi : Int) : impl_within.f a lo hi = some (inB a lo hi) := by
  unfold impl_within.f inB
  by_cases h : a ≥ lo
  · rw [if_pos h]; simp [h]
  · rw [if_neg h]; simp [show ¬ lo ≤ a from h]

theorem impl_power_ev (a n : Nat) (ha : a ≤ 6) (hn : n ≤ 12) : Ev (fun k => impl_power.f k (a : Int) (n : Int)) ((a ^ n : Nat) : Int) := by
  have hb : ∀ j, j ≤ n → a ^ j ≤ 2176782336 := fun j hj => Nat.le_trans (Nat.pow_le_pow_left ha j) (Nat.le_trans (Nat.pow_le_pow_right (by omega) (show j ≤ 12 by omega)) (by decide))
  unfold impl_power.f
  refine ev_iter (fun (o : Nat) i k => impl_power.l0 k (a : Int) (o : Int) (n : Int) (i : Int)) (fun o _ => o * a) (fun i o => o = a ^ i) n ?_ n 0 1 (by omega) rfl ?_
  · intro o i hi hI
    refine ⟨by rw [hI, Nat.pow_succ], fun r k => ?_⟩
    have h1 := hb (i + 1) (by omega)
    rw [Nat.pow_succ, ← hI] at h1
    refine Ev.step (fun k => by simp only [impl_power.l0]; rfl) ?_
    refine ev_pos (by omega) ?_
    rw [wrap_succ (by omega), show (o : Int) * (a : Int) = ((o * a : Nat) : Int) by simp, wrap_id (by omega)]
    exact k
  · intro h
    refine Ev.step (fun k => by simp only [impl_power.l0]; rfl) (ev_neg (by omega) (ev_some (by rw [h])))

theorem impl_isBruijnSize_ev (n k : Int) : Ev (fun q => impl_isBruijnSize.f q n k) (kindB n k) := by
  unfold impl_isBruijnSize.f kindB
  refine ev_plain (impl_within_eq _ _ _) (ev_if (fun h1 => ?_) (fun h1 => ev_some (by simp [Bool.eq_false_iff.mpr h1])))
  refine ev_plain (impl_within_eq _ _ _) (ev_if (fun h2 => ?_) (fun h2 => ev_some (by simp [Bool.eq_false_iff.mpr h2])))
  have e1 := inB_iff.mp h1
  have e2 := inB_iff.mp h2
  obtain ⟨n, rfl⟩ := Int.eq_ofNat_of_zero_le (show 0 ≤ n by omega)
  obtain ⟨k, rfl⟩ := Int.eq_ofNat_of_zero_le (show 0 ≤ k by omega)
  refine ev_call (impl_power_ev k n (by omega) (by omega)) (ev_some ?_)
  rw [h1, h2]
  simp only [Bool.true_and, Int.toNat_natCast]
  exact decide_eq_decide.mpr (by omega)

theorem impl_allWithin_loop (lo hi : Int) (xs : List Int) (hx : xs.length ≤ 1000000000000) : ∀ (d i : Nat), i + d = xs.length →
    Ev (fun k => impl_allWithin.l0 k lo hi xs (xs.length : Int) (i : Int)) (allB (xs.drop i) lo hi) := by
  intro d
  induction d with
  | zero =>
    intro i h
    rw [List.drop_eq_nil_of_le (by omega)]
    refine Ev.step (f := fun _ => some true) (fun k => ?_) (Ev.now _)
    simp only [impl_allWithin.l0]; rw [if_neg (by omega)]
  | succ d ih =>
    intro i h
    have hlt : i < xs.length := by omega
    rw [drop_rd xs i hlt]
    refine Ev.step (f := fun k => if inB (rd xs (i : Int)) lo hi = true then impl_allWithin.l0 k lo hi xs (xs.length : Int) ((i + 1 : Nat) : Int) else some false) (fun k => ?_) ?_
    · simp only [impl_allWithin.l0]; rw [if_pos (by omega), if_pos (by omega), if_pos (by omega), impl_within_eq, wrap_succ (by omega)]; rfl
    · by_cases hb : inB (rd xs (i : Int)) lo hi = true
      · exact ev_pos hb (ev_to (ih (i + 1) (by omega)) (by simp [allB, hb]))
      · exact ev_neg hb (ev_some (by simp [allB, Bool.eq_false_iff.mpr hb]))
theorem impl_allWithin_ev (lo hi : Int) (xs : List Int) (hx : xs.length ≤ 1000000000000) : Ev (fun k => impl_allWithin.f k xs lo hi) (allB xs lo hi) :=
  impl_allWithin_loop lo hi xs hx xs.length 0 (by omega)

theorem impl_IsCycle_ev (xs : List Int) (k : Int) (hx : xs.length ≤ 1000000000000) (hk : -9223372036854775808 ≤ k) (hk2 : k ≤ 9223372036854775807) : Ev (fun n => impl_IsCycle.f n xs k) (cycleB xs k) := by
  unfold impl_IsCycle.f cycleB
  refine ev_plain (impl_within_eq _ _ _) ?_
  refine ev_if (fun h => ?_) (fun h => ev_some (by simp [Bool.eq_false_iff.mpr h]))
  refine ev_plain (impl_within_eq _ _ _) ?_
  refine ev_if (fun h2 => ?_) (fun h2 => ev_some (by simp [Bool.eq_false_iff.mpr h2]))
  have h' := inB_iff.mp h
  rw [wrap_id (by omega)]
  exact ev_call (impl_allWithin_ev _ _ _ hx) (ev_some (by simp [h, h2]))

theorem impl_window_loop (w : List Int) (n p : Nat) (hw : 0 < w.length) (hwl : w.length ≤ 1000000000000) (hn : n ≤ 1000000000000) (hp : p ≤ 1000000000000) : ∀ (d i : Nat) (acc : List Int), i + d = n → acc.length = i →
    Ev (fun k => impl_window.l0 k w (p : Int) acc (n : Int) (i : Int)) (acc ++ (List.range' i d).map fun j => w.getD ((p + j) % w.length) 0) := by
  intro d
  induction d with
  | zero =>
    intro i acc h ha
    refine Ev.step (f := fun _ => some acc) (fun k => ?_) (ev_some (by simp))
    simp only [impl_window.l0]; rw [if_neg (by omega)]
  | succ d ih =>
    intro i acc h ha
    refine Ev.step (f := fun k => impl_window.l0 k w (p : Int) (acc ++ [w.getD ((p + i) % w.length) 0]) (n : Int) ((i + 1 : Nat) : Int)) (fun k => ?_) (ev_to (ih (i + 1) _ (by omega) (by simp [ha])) ?_)
    · simp only [impl_window.l0]
      rw [if_pos (by omega), if_neg (by omega), wrap_id (x := (p : Int) + (i : Int)) (by omega), show (p : Int) + (i : Int) = ((p + i : Nat) : Int) by omega, tmod_nat, wrap_succ (by omega)]
      have hm := Nat.mod_lt (p + i) hw
      rw [if_pos (by omega), if_pos (by omega), if_pos (by omega), rd_nat]
    · simp [List.range'_succ]
theorem impl_window_ev (w : List Int) (n p : Nat) (hw : 0 < w.length) (hwl : w.length ≤ 1000000000000) (hn : n ≤ 1000000000000) (hp : p ≤ 1000000000000) : Ev (fun k => impl_window.f k w (n : Int) (p : Int)) (win w p n) :=
  ev_to (impl_window_loop w n p hw hwl hn hp n 0 [] (by omega) rfl) (by simp [win])

theorem impl_codes_in (w acc : List Int) (n k i : Nat) (r : List Int) (hk : 2 ≤ k) (hk6 : k ≤ 6) (h : k ^ n ≤ 1024) (hn : n ≤ 1000) (hw : w.length ≤ 1024) (hx : ∀ x ∈ w, 0 ≤ x ∧ x ≤ (k : Int) - 1) (ha : acc.length ≤ 1024) (hi : i < w.length)
    (q : Ev (fun q => impl_codes.l0 q w (n : Int) (k : Int) (acc ++ [codeN k (win w i n)]) (w.length : Int) ((i + 1 : Nat) : Int)) r) :
    Ev (fun q => impl_codes.l1 q w (n : Int) (k : Int) acc 0 (w.length : Int) (i : Int) (win w i n) ((win w i n).length : Int) 0) r := by
  have hwl := win_length w i n
  refine ev_iter (fun (c : Int) j q => impl_codes.l1 q w (n : Int) (k : Int) acc c (w.length : Int) (i : Int) (win w i n) ((win w i n).length : Int) (j : Int)) (fun c j => wrap64 (wrap64 (c * (k : Int)) + rd (win w i n) (j : Int))) (fun j c => c = codeN k ((win w i n).take j)) (win w i n).length ?_ (win w i n).length 0 0 (by omega) (by simp [codeN]) ?_
  · intro c j hj hI
    refine ⟨by rw [hI]; exact code_step hk hk6 h hwl (fun x hx' => hx x (mem_win (by omega) hx')) (by omega), fun r q => ?_⟩
    refine Ev.step (fun k => by simp only [impl_codes.l1]; rfl) ?_
    rw [wrap_succ (i := j) (by omega)]
    exact ev_pos (by omega) (ev_pos (by omega) (ev_pos (by omega) q))
  · intro hI
    refine Ev.step (fun k => by simp only [impl_codes.l1]; rfl) (ev_neg (by omega) (ev_pos (by omega) ?_))
    rw [hI, List.take_of_length_le (by omega), wrap_succ (i := i) (by omega)]
    exact q
theorem impl_codes_ev (w : List Int) (n k : Nat) (hk : 2 ≤ k) (hk6 : k ≤ 6) (h : k ^ n ≤ 1024) (hn : n ≤ 1000) (hw : w.length ≤ 1024) (hx : ∀ x ∈ w, 0 ≤ x ∧ x ≤ (k : Int) - 1) : Ev (fun q => impl_codes.f q w (n : Int) (k : Int)) (codesM w n k) := by
  unfold impl_codes.f
  refine ev_iter (fun (acc : List Int) i q => impl_codes.l0 q w (n : Int) (k : Int) acc (w.length : Int) (i : Int)) (fun acc i => acc ++ [codeN k (win w i n)]) (fun i acc => acc = (codesM w n k).take i) w.length ?_ w.length 0 [] (by omega) (by simp) ?_
  · intro acc i hi hI
    refine ⟨by rw [hI, codesM_take w n k i hi], fun r q => ?_⟩
    refine Ev.step (fun k => by simp only [impl_codes.l0]; rfl) (ev_pos (by omega) (ev_call (impl_window_ev w n i (by omega) (by omega) (by omega) (by omega)) ?_))
    exact impl_codes_in w acc n k i r hk hk6 h hn hw hx (by rw [hI]; simp; omega) hi q
  · intro hI
    exact Ev.step (fun k => by simp only [impl_codes.l0]; rfl) (ev_neg (by omega) (ev_some (by rw [hI, List.take_of_length_le (by rw [codesM_length]; omega)])))

theorem impl_increasing_loop (l : List Int) (hl : l.length ≤ 1000000000000) : ∀ (d j : Nat), j + 1 + d = l.length → Ev (fun k => impl_increasing.l0 k l ((j + 1 : Nat) : Int)) (chainB (l.drop j)) := by
  intro d
  induction d with
  | zero =>
    intro j h
    rw [drop_rd l j (by omega), List.drop_eq_nil_of_le (by omega)]
    exact Ev.step (fun k => by simp only [impl_increasing.l0]; rfl) (ev_neg (by omega) (ev_some (by simp [chainB])))
  | succ d ih =>
    intro j h
    rw [drop_rd l j (by omega), drop_rd l (j + 1) (by omega)]
    refine Ev.step (fun k => by simp only [impl_increasing.l0]; rfl) ?_
    rw [wrap_pred (by omega), wrap_succ (by omega)]
    refine ev_pos (by omega) (ev_pos (by omega) (ev_pos (by omega) (ev_pos (by omega) ?_)))
    refine ev_if (fun e => ev_some ?_) (fun e => ev_to (ih (j + 1) (by omega)) ?_)
    · simp only [chainB]; rw [decide_eq_false (by omega)]; rfl
    · rw [drop_rd l (j + 1) (by omega)]; simp only [chainB]; rw [decide_eq_true (by omega)]; rfl
theorem impl_increasing_ev (l : List Int) (hl : l.length ≤ 1000000000000) : Ev (fun k => impl_increasing.f k l) (chainB l) := by
  unfold impl_increasing.f
  by_cases h : l.length = 0
  · obtain rfl := List.eq_nil_of_length_eq_zero h
    exact Ev.step (fun k => by simp only [impl_increasing.l0]; rfl) (ev_neg (by simp) (Ev.now _))
  · exact impl_increasing_loop l hl (l.length - 1) 0 (by omega)

theorem impl_different_ev (l : List Int) (hl : l.length ≤ 1000000000000) : Ev (fun k => impl_different.f k l) (decide l.Nodup) := by
  unfold impl_different.f
  refine ev_pos (by omega) ?_
  rw [← chain_srt]
  exact impl_increasing_ev (srt l) (by rw [srt_length]; exact hl)

theorem impl_isBruijn_ev (w : List Int) (n k : Nat) (hk : 2 ≤ k) (hk6 : k ≤ 6) (h : k ^ n ≤ 1024) (hn : n ≤ 10) (hw : w.length ≤ 1024) (hx : ∀ x ∈ w, 0 ≤ x ∧ x ≤ (k : Int) - 1) : Ev (fun q => impl_isBruijn.f q w (n : Int) (k : Int)) (bruijnB w n k) := by
  unfold impl_isBruijn.f bruijnB
  refine ev_call (impl_power_ev k n hk6 (by omega)) (ev_if (fun e => ?_) (fun e => ev_some (by rw [decide_eq_false (by omega)]; rfl)))
  refine ev_call (impl_codes_ev w n k hk hk6 h (by omega) hw hx) (ev_call (impl_different_ev _ (by rw [codesM_length]; omega)) (ev_some ?_))
  rw [decide_eq_true (show w.length = k ^ n by omega)]; rfl

theorem impl_IsBruijn_ev (w : List Int) (n k : Int) (hw : w.length ≤ 1048576) (hk : -9223372036854775808 ≤ k ∧ k ≤ 9223372036854775807) : Ev (fun q => impl_IsBruijn.f q w n k) (IsBruijnM w n k) := by
  unfold impl_IsBruijn.f IsBruijnM
  refine ev_call (impl_isBruijnSize_ev n k) (ev_if (fun h1 => ?_) (fun h1 => ev_some (by rw [if_neg (fun h => h1 h.1)])))
  refine ev_call (impl_IsCycle_ev w k (by omega) hk.1 hk.2) (ev_if (fun h2 => ?_) (fun h2 => ev_some (by rw [if_neg (fun h => h2 h.2)])))
  rw [if_pos ⟨h1, h2⟩]
  have hc := cycleB_iff.mp h2
  obtain ⟨n, k, rfl, rfl, n1, n2, k1, k2, hp⟩ := kindB_nat h1
  exact ev_call (impl_isBruijn_ev w n k k1 k2 hp n2 hc.2.1.2 hc.2.2) (ev_some (by simp))

theorem spec_l1In_eq (a lo hi : Int) : spec_l1In.f a lo hi = some (inB a lo hi) := by
  unfold spec_l1In.f inB
  by_cases h : a ≥ lo
  · rw [if_pos h]; simp [h]
  · rw [if_neg h]; simp [show ¬ lo ≤ a from h]

theorem spec_lyPower_loop (a : Nat) (ha : a ≤ 6) : ∀ (e j : Nat), e + j ≤ 12 → Ev (fun k => spec_lyPower.l0 k (a : Int) (e : Int) ((a ^ j : Nat) : Int)) ((a ^ (j + e) : Nat) : Int) := by
  intro e
  induction e with
  | zero =>
    intro j h
    exact Ev.step (fun k => by simp only [spec_lyPower.l0]; rfl) (ev_neg (by omega) (Ev.now _))
  | succ e ih =>
    intro j h
    have h1 : a ^ (j + 1) ≤ 2176782336 := Nat.le_trans (Nat.pow_le_pow_left ha (j + 1)) (Nat.le_trans (Nat.pow_le_pow_right (by omega) (show j + 1 ≤ 12 by omega)) (by decide))
    refine Ev.step (fun k => by simp only [spec_lyPower.l0]; rfl) ?_
    refine ev_pos (by omega) ?_
    rw [wrap_pred (by omega), show ((a ^ j : Nat) : Int) * (a : Int) = ((a ^ (j + 1) : Nat) : Int) by rw [Nat.pow_succ]; simp, wrap_id (by omega)]
    exact ev_to (ih (j + 1) (by omega)) (by rw [show j + 1 + e = j + (e + 1) by omega])
theorem spec_lyPower_ev (a n : Nat) (ha : a ≤ 6) (hn : n ≤ 12) : Ev (fun k => spec_lyPower.f k (a : Int) (n : Int)) ((a ^ n : Nat) : Int) :=
  ev_to (spec_lyPower_loop a ha n 0 (by omega)) (by simp)

theorem spec_brKind_ev (n k : Int) : Ev (fun q => spec_brKind.f q n k) (kindB n k) := by
  unfold spec_brKind.f kindB
  refine ev_plain (spec_l1In_eq _ _ _) (ev_if (fun h1 => ?_) (fun h1 => ev_some (by simp [Bool.eq_false_iff.mpr h1])))
  refine ev_plain (spec_l1In_eq _ _ _) (ev_if (fun h2 => ?_) (fun h2 => ev_some (by simp [Bool.eq_false_iff.mpr h2])))
  have e1 := inB_iff.mp h1
  have e2 := inB_iff.mp h2
  obtain ⟨n, rfl⟩ := Int.eq_ofNat_of_zero_le (show 0 ≤ n by omega)
  obtain ⟨k, rfl⟩ := Int.eq_ofNat_of_zero_le (show 0 ≤ k by omega)
  refine ev_call (spec_lyPower_ev k n (by omega) (by omega)) (ev_some ?_)
  rw [h1, h2]
  simp only [Bool.true_and, Int.toNat_natCast]
  exact decide_eq_decide.mpr (by omega)

theorem spec_l1All_loop (lo hi : Int) (xs : List Int) (hx : xs.length ≤ 1000000000000) : ∀ (d i : Nat), i + d = xs.length →
    Ev (fun k => spec_l1All.l0 k lo hi xs (xs.length : Int) (i : Int)) (allB (xs.drop i) lo hi) := by
  intro d
  induction d with
  | zero =>
    intro i h
    rw [List.drop_eq_nil_of_le (by omega)]
    refine Ev.step (f := fun _ => some true) (fun k => ?_) (Ev.now _)
    simp only [spec_l1All.l0]; rw [if_neg (by omega)]
  | succ d ih =>
    intro i h
    have hlt : i < xs.length := by omega
    rw [drop_rd xs i hlt]
    refine Ev.step (f := fun k => if inB (rd xs (i : Int)) lo hi = true then spec_l1All.l0 k lo hi xs (xs.length : Int) ((i + 1 : Nat) : Int) else some false) (fun k => ?_) ?_
    · simp only [spec_l1All.l0]; rw [if_pos (by omega), if_pos (by omega), if_pos (by omega), spec_l1In_eq, wrap_succ (by omega)]; rfl
    · by_cases hb : inB (rd xs (i : Int)) lo hi = true
      · exact ev_pos hb (ev_to (ih (i + 1) (by omega)) (by simp [allB, hb]))
      · exact ev_neg hb (ev_some (by simp [allB, Bool.eq_false_iff.mpr hb]))
theorem spec_l1All_ev (lo hi : Int) (xs : List Int) (hx : xs.length ≤ 1000000000000) : Ev (fun k => spec_l1All.f k xs lo hi) (allB xs lo hi) :=
  spec_l1All_loop lo hi xs hx xs.length 0 (by omega)

theorem spec_brCycle_ev (xs : List Int) (k : Int) (hx : xs.length ≤ 1000000000000) (hk : -9223372036854775808 ≤ k) (hk2 : k ≤ 9223372036854775807) : Ev (fun n => spec_brCycle.f n xs k) (cycleB xs k) := by
  unfold spec_brCycle.f cycleB
  refine ev_plain (spec_l1In_eq _ _ _) ?_
  refine ev_if (fun h => ?_) (fun h => ev_some (by simp [Bool.eq_false_iff.mpr h]))
  refine ev_plain (spec_l1In_eq _ _ _) ?_
  refine ev_if (fun h2 => ?_) (fun h2 => ev_some (by simp [Bool.eq_false_iff.mpr h2]))
  have h' := inB_iff.mp h
  rw [wrap_id (by omega)]
  exact ev_call (spec_l1All_ev _ _ _ hx) (ev_some (by simp [h, h2]))

theorem spec_brNumber_ev (xs : List Int) (n k : Nat) (hk : 2 ≤ k) (hk6 : k ≤ 6) (h : k ^ n ≤ 1024) (hx : xs.length = n) (hn : n ≤ 1000) (hxs : ∀ x ∈ xs, 0 ≤ x ∧ x ≤ (k : Int) - 1) : Ev (fun q => spec_brNumber.f q xs (k : Int)) (codeN k xs) := by
  unfold spec_brNumber.f
  refine ev_iter (fun (c : Int) j q => spec_brNumber.l0 q (k : Int) c xs (xs.length : Int) (j : Int)) (fun c j => wrap64 (wrap64 (c * (k : Int)) + rd xs (j : Int))) (fun j c => c = codeN k (xs.take j)) xs.length ?_ xs.length 0 0 (by omega) (by simp [codeN]) ?_
  · intro c j hj hI
    refine ⟨by rw [hI]; exact code_step hk hk6 h hx hxs (by omega), fun r q => ?_⟩
    refine Ev.step (fun k => by simp only [spec_brNumber.l0]; rfl) ?_
    rw [wrap_succ (i := j) (by omega)]
    exact ev_pos (by omega) (ev_pos (by omega) (ev_pos (by omega) q))
  · intro hI
    exact Ev.step (fun k => by simp only [spec_brNumber.l0]; rfl) (ev_neg (by omega) (ev_some (by rw [hI, List.take_of_length_le (by omega)])))

theorem spec_brWindow_loop (w : List Int) (n p : Nat) (hw : 0 < w.length) (hwl : w.length ≤ 1000000000000) (hn : n ≤ 1000000000000) (hp : p ≤ 1000000000000) : ∀ (d i : Nat) (acc : List Int), i + d = n → acc.length = i →
    Ev (fun k => spec_brWindow.l0 k w (n : Int) (p : Int) acc (i : Int)) (acc ++ (List.range' i d).map fun j => w.getD ((p + j) % w.length) 0) := by
  intro d
  induction d with
  | zero =>
    intro i acc h ha
    refine Ev.step (f := fun _ => some acc) (fun k => ?_) (ev_some (by simp))
    simp only [spec_brWindow.l0]; rw [if_neg (by omega)]
  | succ d ih =>
    intro i acc h ha
    refine Ev.step (f := fun k => spec_brWindow.l0 k w (n : Int) (p : Int) (acc ++ [w.getD ((p + i) % w.length) 0]) ((i + 1 : Nat) : Int)) (fun k => ?_) (ev_to (ih (i + 1) _ (by omega) (by simp [ha])) ?_)
    · simp only [spec_brWindow.l0]
      rw [if_pos (by omega), if_neg (by omega), wrap_id (x := (p : Int) + (i : Int)) (by omega), show (p : Int) + (i : Int) = ((p + i : Nat) : Int) by omega, tmod_nat, wrap_succ (by omega)]
      have hm := Nat.mod_lt (p + i) hw
      rw [if_pos (by omega), if_pos (by omega), if_pos (by omega), rd_nat]
    · simp [List.range'_succ]
theorem spec_brWindow_ev (w : List Int) (n p : Nat) (hw : 0 < w.length) (hwl : w.length ≤ 1000000000000) (hn : n ≤ 1000000000000) (hp : p ≤ 1000000000000) : Ev (fun k => spec_brWindow.f k w (n : Int) (p : Int)) (win w p n) :=
  ev_to (spec_brWindow_loop w n p hw hwl hn hp n 0 [] (by omega) rfl) (by simp [win])

theorem spec_brNumbers_ev (w : List Int) (n k : Nat) (hk : 2 ≤ k) (hk6 : k ≤ 6) (h : k ^ n ≤ 1024) (hn : n ≤ 1000) (hw : w.length ≤ 1024) (hx : ∀ x ∈ w, 0 ≤ x ∧ x ≤ (k : Int) - 1) : Ev (fun q => spec_brNumbers.f q w (n : Int) (k : Int)) (codesM w n k) := by
  unfold spec_brNumbers.f
  refine ev_iter (fun (acc : List Int) i q => spec_brNumbers.l0 q w (n : Int) (k : Int) acc (w.length : Int) (i : Int)) (fun acc i => acc ++ [codeN k (win w i n)]) (fun i acc => acc = (codesM w n k).take i) w.length ?_ w.length 0 [] (by omega) (by simp) ?_
  · intro acc i hi hI
    refine ⟨by rw [hI, codesM_take w n k i hi], fun r q => ?_⟩
    refine Ev.step (fun k => by simp only [spec_brNumbers.l0]; rfl) ?_
    rw [wrap_succ (i := i) (by omega)]
    exact ev_pos (by omega) (ev_call (spec_brWindow_ev w n i (by omega) (by omega) (by omega) (by omega)) (ev_call (spec_brNumber_ev _ n k hk hk6 h (win_length _ _ _) hn (fun x hx' => hx x (mem_win (by omega) hx'))) (ev_pos (by rw [hI]; simp; omega) q)))
  · intro hI
    exact Ev.step (fun k => by simp only [spec_brNumbers.l0]; rfl) (ev_neg (by omega) (ev_some (by rw [hI, List.take_of_length_le (by rw [codesM_length]; omega)])))

theorem spec_brDifferent_loop (l : List Int) (most : Nat) (hl : l.length ≤ 1000000000000) (hx : ∀ x ∈ l, 0 ≤ x ∧ x < (most : Int)) : ∀ (d i : Nat) (seen : List Bool), i + d = l.length → seen.length = most →
    (∀ v : Nat, v < most → seen.getD v false = decide ((v : Int) ∈ l.take i)) → (l.take i).Nodup → Ev (fun k => spec_brDifferent.l0 k seen l (l.length : Int) (i : Int)) (decide l.Nodup) := by
  intro d
  induction d with
  | zero =>
    intro i seen h1 h2 h3 h4
    rw [List.take_of_length_le (by omega)] at h4
    exact Ev.step (fun k => by simp only [spec_brDifferent.l0]; rfl) (ev_neg (by omega) (ev_some (by simp [h4])))
  | succ d ih =>
    intro i seen h1 h2 h3 h4
    have hmem : rd l (i : Int) ∈ l := by rw [rd_get l i (by omega)]; exact List.getElem_mem _
    have hr := hx _ hmem
    obtain ⟨v, hv⟩ := Int.eq_ofNat_of_zero_le hr.1
    have hs := h3 v (by omega)
    have ht := take_rd l i (by omega)
    have hsplit : l = l.take i ++ rd l (i : Int) :: l.drop (i + 1) := by rw [← drop_rd l i (by omega), List.take_append_drop]
    refine Ev.step (fun k => by simp only [spec_brDifferent.l0]; rfl) ?_
    rw [wrap_succ (by omega), hv, Int.toNat_natCast]
    refine ev_pos (by omega) (ev_pos (by omega) (ev_pos (by omega) (ev_pos (by omega) (ev_pos (by omega) ?_))))
    have hro : rdOf false seen (v : Int) = seen.getD v false := by simp [rdOf]
    rw [hro, hs]
    refine ev_if (fun e => ev_some ?_) (fun e => ?_)
    · rw [eq_comm, decide_eq_false_iff_not]
      intro hn
      rw [hsplit, List.nodup_append] at hn
      exact hn.2.2 _ (by simpa using e) (rd l (i : Int)) (by simp) hv.symm
    · have hni : (v : Int) ∉ l.take i := by simpa using e
      refine ih (i + 1) _ (by omega) (by simpa using h2) (fun u hu => ?_) ?_
      · rw [ht, List.getD_eq_getElem?_getD, List.getElem?_set]
        by_cases huv : v = u
        · subst huv; simp [h2, hu, hv]
        · rw [if_neg huv, ← List.getD_eq_getElem?_getD, h3 u hu]
          simp [hv]
          intro h; omega
      · rw [ht, List.nodup_append]
        refine ⟨h4, by simp, fun a ha b hb => ?_⟩
        simp only [List.mem_singleton] at hb
        rw [hb, hv]
        intro hab
        exact hni (hab ▸ ha)
theorem spec_brDifferent_ev (l : List Int) (most : Nat) (hl : l.length ≤ 1000000000000) (hm : most ≤ 1000000000000) (hx : ∀ x ∈ l, 0 ≤ x ∧ x < (most : Int)) : Ev (fun k => spec_brDifferent.f k l (most : Int)) (decide l.Nodup) := by
  unfold spec_brDifferent.f
  refine ev_pos (by omega) (ev_pos (by omega) ?_)
  rw [Int.toNat_natCast]
  refine spec_brDifferent_loop l most hl hx l.length 0 _ (by omega) (by simp) (fun v hv => ?_) (by simp)
  simp [List.getD_eq_getElem?_getD, hv]

theorem spec_brBruijn_ev (w : List Int) (n k : Nat) (hk : 2 ≤ k) (hk6 : k ≤ 6) (h : k ^ n ≤ 1024) (hn : n ≤ 10) (hw : w.length ≤ 1024) (hx : ∀ x ∈ w, 0 ≤ x ∧ x ≤ (k : Int) - 1) : Ev (fun q => spec_brBruijn.f q w (n : Int) (k : Int)) (bruijnB w n k) := by
  unfold spec_brBruijn.f bruijnB
  refine ev_call (spec_lyPower_ev k n hk6 (by omega)) (ev_if (fun e => ?_) (fun e => ev_some (by rw [decide_eq_false (by omega)]; rfl)))
  refine ev_call (spec_brNumbers_ev w n k hk hk6 h (by omega) hw hx) (ev_call (spec_lyPower_ev k n hk6 (by omega)) (ev_call (spec_brDifferent_ev _ (k ^ n) (by rw [codesM_length]; omega) (by omega) (codesM_range hx)) (ev_some ?_)))
  rw [decide_eq_true (show w.length = k ^ n by omega)]; rfl

theorem spec_IsBruijn_ev (w : List Int) (n k : Int) (hw : w.length ≤ 1048576) (hk : -9223372036854775808 ≤ k ∧ k ≤ 9223372036854775807) : Ev (fun q => spec_IsBruijn.f q w n k) (IsBruijnM w n k) := by
  unfold spec_IsBruijn.f IsBruijnM
  refine ev_call (spec_brKind_ev n k) (ev_if (fun h1 => ?_) (fun h1 => ev_some (by rw [if_neg (fun h => h1 h.1)])))
  refine ev_call (spec_brCycle_ev w k (by omega) hk.1 hk.2) (ev_if (fun h2 => ?_) (fun h2 => ev_some (by rw [if_neg (fun h => h2 h.2)])))
  rw [if_pos ⟨h1, h2⟩]
  have hc := cycleB_iff.mp h2
  obtain ⟨n, k, rfl, rfl, n1, n2, k1, k2, hp⟩ := kindB_nat h1
  exact ev_call (spec_brBruijn_ev w n k k1 k2 hp n2 hc.2.1.2 hc.2.2) (ev_some (by simp))

theorem laws_toIntS_loop (l : List Int) (hl : l.length ≤ 35184372088832) : ∀ (d i : Nat) (ys : List Int), i + d = l.length → ys.length = l.length → ys.take i = l.take i →
    Ev (fun k => laws_toIntS.l0 k l ys (i : Int)) l := by
  intro d
  induction d with
  | zero =>
    intro i ys h1 h2 h3
    refine Ev.step (f := fun _ => some ys) (fun k => ?_) (ev_some ?_)
    · simp only [laws_toIntS.l0]; rw [if_neg (by omega)]
    · rw [List.take_of_length_le (by omega), List.take_of_length_le (by omega)] at h3
      exact h3
  | succ d ih =>
    intro i ys h1 h2 h3
    have hi : i < l.length := by omega
    refine Ev.step (f := fun k => laws_toIntS.l0 k l (ys.set i (rd l (i : Int))) ((i + 1 : Nat) : Int)) (fun k => ?_) (ih (i + 1) _ (by omega) (by simp [h2]) ?_)
    · simp only [laws_toIntS.l0]; rw [if_pos (by omega), if_pos (by omega), if_pos (by omega), wrap_succ (by omega), Int.toNat_natCast]
    · rw [take_rd l i hi, List.take_succ_eq_append_getElem (by simp; omega)]
      rw [List.take_set, h3, List.set_eq_of_length_le (by simp; omega)]; simp
theorem laws_toIntS_ev (l : List Int) (hl : l.length ≤ 35184372088832) : Ev (fun k => laws_toIntS.f k l) l := by
  unfold laws_toIntS.f
  refine ev_pos (by omega) (ev_pos (by omega) ?_)
  exact laws_toIntS_loop l hl l.length 0 _ (by omega) (by simp) rfl

theorem laws_eqIntS_loop (l : List Int) (hl : l.length ≤ 35184372088832) : ∀ (d i : Nat), i + d = l.length → Ev (fun k => laws_eqIntS.l0 k l l (i : Int)) true := by
  intro d
  induction d with
  | zero =>
    intro i h
    refine Ev.step (f := fun _ => some true) (fun k => ?_) (Ev.now _)
    simp only [laws_eqIntS.l0]; rw [if_neg (by omega)]
  | succ d ih =>
    intro i h
    refine Ev.step (f := fun k => laws_eqIntS.l0 k l l ((i + 1 : Nat) : Int)) (fun k => ?_) (ih (i + 1) (by omega))
    simp only [laws_eqIntS.l0]; rw [if_pos (by omega), if_pos (by omega), if_pos (by omega), if_pos trivial, wrap_succ (by omega)]
theorem laws_eqIntS_ev (l : List Int) (hl : l.length ≤ 35184372088832) : Ev (fun k => laws_eqIntS.f k l l) true := by
  unfold laws_eqIntS.f
  exact ev_pos rfl (laws_eqIntS_loop l hl l.length 0 (by omega))

theorem FnExactIsBruijn : laws_FnExactIsBruijn.Pure := by
  intro l n k h_l1 h_l2 h_l3 h_n h_k
  refine Ev.rounds (r := true) ?_
  unfold laws_FnExactIsBruijn.f
  refine ev_if (fun _ => Ev.now _) (fun hb_l => ?_)
  have hl_l : l.length ≤ 1048576 := by omega
  clear h_l1 h_l2 hb_l
  have hw_n := wf_in h_n
  have hw_k := wf_in h_k
  have I_ := impl_IsBruijn_ev l n k (by omega) hw_k
  have S_ := spec_IsBruijn_ev l n k (by omega) hw_k
  generalize IsBruijnM l n k = m_ at I_ S_
  obtain ⟨r_, b_⟩ := m_
  repeat (first
    | exact Ev.now _
    | refine ev_call (laws_toIntS_ev l (by omega)) ?_
    | (refine ev_call S_ ?_; try dsimp only)
    | (refine ev_call I_ ?_; try dsimp only)
    | refine ev_call (laws_eqIntS_ev _ (by first | assumption | omega)) ?_
    | refine ev_pos rfl ?_
    | refine ev_neg (bne_no _) ?_
    | refine ev_neg (by omega) ?_
    | refine Ev.step (fun k => by simp only [laws_FnExactIsBruijn.j0]; rfl) ?_)

end Go.Proofs.Ytaimmgonhanhoaa.Pure
