/- The pure statement of GreedyBruijn: program and reference answer alike, for all arguments; no condition. -/
import Derived.Test.YtdhmdlecagjohaaPFnExactGreedyBruijnx3
import Derived.Test.YtdhmdlecagjohaaBase
import Derived.Test.YtdhmdlecagjohaaLists
namespace Go.Proofs.Ytdhmdlecagjohaa.Pure
open Go.RowKit Go.Proofs.Ytdhmdlecagjohaa.PFnExactGreedyBruijn Go.Proofs.YtdhmdlecagjohaaW.PrintWords Go.Proofs.YtdhmdlecagjohaaW.PrintLast Go.Proofs.Ytdhmdlecagjohaa.Base
set_option maxRecDepth 10000
set_option linter.unusedVariables false
set_option linter.unusedSimpArgs false

def kindB (n k : Int) : Bool := inB n 1 10 && (inB k 2 6 && decide (k.toNat ^ n.toNat ≤ 1024))
theorem kindB_iff {n k : Int} : kindB n k = true ↔ (1 ≤ n ∧ n ≤ 10) ∧ (2 ≤ k ∧ k ≤ 6) ∧ k.toNat ^ n.toNat ≤ 1024 := by simp [kindB, inB_iff]
theorem kindB_nat {n k : Int} (h : kindB n k = true) : ∃ n' k' : Nat, n = n' ∧ k = k' ∧ 1 ≤ n' ∧ n' ≤ 10 ∧ 2 ≤ k' ∧ k' ≤ 6 ∧ k' ^ n' ≤ 1024 := by
  obtain ⟨h1, h2, h3⟩ := kindB_iff.mp h
  exact ⟨n.toNat, k.toNat, by omega, by omega, by omega, by omega, by omega, by omega, h3⟩

theorem codesM_take (w : List Int) (n k i : Nat) (h : i < w.length) : (codesM w n k).take (i + 1) = (codesM w n k).take i ++ [codeN k (win w i n)] := by
  rw [List.take_succ_eq_append_getElem (by simp [codesM]; exact h)]
  simp [codesM]
theorem codesM_length (w : List Int) (n k : Nat) : (codesM w n k).length = w.length := by simp [codesM]
theorem codeN_take (k : Nat) (xs : List Int) (j : Nat) (h : j < xs.length) : codeN k (xs.take (j + 1)) = codeN k (xs.take j) * (k : Int) + rd xs (j : Int) := by
  rw [take_rd xs j h, codeN_snoc]
def IsBruijnM (w : List Int) (n k : Int) : Bool × Bool := if kindB n k = true ∧ cycleB w k = true then (bruijnB w n.toNat k.toNat, true) else (false, false)
theorem pow_le_1024 {k n j : Nat} (hk : 2 ≤ k) (h : k ^ n ≤ 1024) (hj : j ≤ n) : k ^ j ≤ 1024 := Nat.le_trans (Nat.pow_le_pow_right (by omega) hj) h
/-- The number of a beginning of a window, and the next step, lie in bounds. -/
theorem code_step {k n j : Nat} {xs : List Int} (hk : 2 ≤ k) (hk6 : k ≤ 6) (h : k ^ n ≤ 1024) (hx : xs.length = n) (hxs : ∀ x ∈ xs, 0 ≤ x ∧ x ≤ (k : Int) - 1) (hj : j < n) :
    wrap64 (wrap64 (codeN k (xs.take j) * (k : Int)) + rd xs (j : Int)) = codeN k (xs.take (j + 1)) := by
  have h1 := codeN_range k j (xs.take j) (by simp; omega) (fun x hx' => hxs x (List.mem_of_mem_take hx'))
  have h2 := pow_le_1024 hk h (show j ≤ n by omega)
  have h3 : codeN k (xs.take j) * (k : Int) ≤ 1024 * 6 := Int.mul_le_mul (by omega) (by omega) (by omega) (by omega)
  have h4 : 0 ≤ codeN k (xs.take j) * (k : Int) := Int.mul_nonneg h1.1 (by omega)
  have h5 : 0 ≤ rd xs (j : Int) ∧ rd xs (j : Int) ≤ (k : Int) - 1 := hxs _ (by rw [rd_get xs j (by omega)]; exact List.getElem_mem _)
  rw [wrap_id (x := codeN k (xs.take j) * (k : Int)) (by omega), wrap_id (by omega), codeN_take k xs j (by omega)]

def pickG (k size m code : Nat) : Nat → Option Nat
  | 0 => none
  | j + 1 => if m.testBit ((code * k + j) % size) = true then pickG k size m code j else some j
/-- The walk by greatest letters: how long the word is when no letter is free. -/
def grun (k size : Nat) : Nat → Nat → Nat → Nat → Option Nat
  | 0, _, _, _ => none
  | f + 1, len, m, code => match pickG k size m code k with
    | none => some len
    | some x => grun k size f (len + 1) (m ||| (1 <<< ((code * k + x) % size))) ((code * k + x) % size)
theorem pickG_lt {k size m code : Nat} : ∀ {j x : Nat}, pickG k size m code j = some x → x < j := by
  intro j
  induction j with
  | zero => intro x h; simp [pickG] at h
  | succ j ih =>
    intro x h
    unfold pickG at h
    split at h
    · have := ih h; omega
    · simp at h; omega
theorem grun_all : ((List.range 11).all fun n => (List.range 7).all fun k => !(decide (1 ≤ n) && decide (2 ≤ k) && decide (k ^ n ≤ 1024)) || (match grun k (k ^ n) 1100 n 1 0 with | some L => decide (k ^ n ≤ L) | none => false)) = true := by kernel_rfl
theorem grun_ok (n k : Nat) (h1 : 1 ≤ n) (hn : n ≤ 10) (h2 : 2 ≤ k) (hk : k ≤ 6) (h3 : k ^ n ≤ 1024) : ∃ L, grun k (k ^ n) 1100 n 1 0 = some L ∧ k ^ n ≤ L := by
  have h := List.all_eq_true.mp (List.all_eq_true.mp grun_all n (List.mem_range.mpr (by omega))) k (List.mem_range.mpr (by omega))
  rw [decide_eq_true h1, decide_eq_true h2, decide_eq_true h3] at h
  cases hg : grun k (k ^ n) 1100 n 1 0 with
  | none => rw [hg] at h; simp at h
  | some L => rw [hg] at h; exact ⟨L, rfl, by simpa using h⟩
theorem codeN_from (k : Nat) : ∀ (t : List Int) (c : Int), t.foldl (fun c x => c * (k : Int) + x) c = c * ((k ^ t.length : Nat) : Int) + codeN k t := by
  intro t
  induction t with
  | nil => intro c; simp [codeN]
  | cons x t ih =>
    intro c
    have h0 := ih (0 * (k : Int) + x)
    simp only [codeN, List.foldl_cons, List.length_cons] at *
    rw [ih (c * (k : Int) + x), h0, Nat.pow_succ]
    simp only [Int.zero_mul, Int.zero_add, Int.add_mul, Int.natCast_mul, Int.mul_assoc, Int.add_assoc]
    rw [Int.mul_comm (k : Int)]
theorem codeN_cons (k : Nat) (a : Int) (t : List Int) : codeN k (a :: t) = a * ((k ^ t.length : Nat) : Int) + codeN k t := by
  unfold codeN
  rw [List.foldl_cons, Int.zero_mul, Int.zero_add]
  exact codeN_from k t a
/-- What the last letters tell: the next number, by both ways of reckoning it. -/
theorem next_code {n k : Nat} (hn : 1 ≤ n) (hk : 1 ≤ k) {out : List Int} (hl : n ≤ out.length) (ho : ∀ x ∈ out, 0 ≤ x ∧ x ≤ (k : Int) - 1) {code : Nat} (hc : codeN k (out.drop (out.length - n)) = code) :
    ∃ last : Nat, codeN k (out.drop (out.length - n + 1)) = last ∧ last < k ^ (n - 1) ∧ ∀ x : Nat, x < k → (code * k + x) % k ^ n = last * k + x := by
  have hr := codeN_range k (n - 1) (out.drop (out.length - n + 1)) (by simp; omega) (fun x hx => ho x (List.mem_of_mem_drop hx))
  obtain ⟨last, hlast⟩ : ∃ l : Nat, codeN k (out.drop (out.length - n + 1)) = l := ⟨(codeN k (out.drop (out.length - n + 1))).toNat, by omega⟩
  rw [hlast] at hr
  refine ⟨last, hlast, by omega, fun x hx => ?_⟩
  rw [drop_rd out (out.length - n) (by omega), codeN_cons, hlast] at hc
  have ha := ho (rd out ((out.length - n : Nat) : Int)) (by rw [rd_get out _ (by omega)]; exact List.getElem_mem _)
  obtain ⟨a, ha2⟩ : ∃ a : Nat, rd out ((out.length - n : Nat) : Int) = a := ⟨(rd out ((out.length - n : Nat) : Int)).toNat, by omega⟩
  rw [ha2, List.length_drop, show out.length - (out.length - n + 1) = n - 1 by omega] at hc
  have hc2 : code = a * k ^ (n - 1) + last := by
    have : ((a * k ^ (n - 1) + last : Nat) : Int) = (code : Int) := by rw [← hc]; simp
    omega
  obtain ⟨p, rfl⟩ : ∃ p, n = p + 1 := ⟨n - 1, by omega⟩
  rw [Nat.add_sub_cancel] at *
  have hlt : last * k + x < k ^ (p + 1) := by
    rw [Nat.pow_succ]
    have : (last + 1) * k ≤ k ^ p * k := Nat.mul_le_mul_right _ (by omega)
    rw [Nat.add_mul] at this
    omega
  rw [hc2, Nat.add_mul, Nat.mul_assoc, ← Nat.pow_succ, Nat.add_assoc, Nat.mul_comm a, Nat.mul_add_mod, Nat.mod_eq_of_lt hlt]
def metL (m size : Nat) : List Bool := (List.range size).map fun i => m.testBit i
theorem metL_length (m size : Nat) : (metL m size).length = size := by simp [metL]
theorem metL_rd (m size i : Nat) (h : i < size) : rdOf false (metL m size) (i : Int) = m.testBit i := by
  simp [rdOf, metL, List.getD_eq_getElem?_getD, List.getElem?_range h]
theorem metL_set (m size c : Nat) : (metL m size).set c true = metL (m ||| (1 <<< c)) size := by
  apply List.ext_getElem?
  intro i
  rw [List.getElem?_set]
  by_cases hi : i < size
  · simp only [metL, List.length_map, List.length_range, List.getElem?_map, List.getElem?_range hi, Option.map_some, Nat.testBit_or, Nat.testBit_shiftLeft]
    by_cases e : c = i
    · subst e
      simp [hi]
    · rw [if_neg e]
      by_cases hle : c ≤ i
      · obtain ⟨q, hq⟩ : ∃ q, i - c = q + 1 := ⟨i - c - 1, by omega⟩
        simp [hle, hq, Nat.testBit_succ]
      · simp [hle]
  · have h1 : (metL m size)[i]? = none := List.getElem?_eq_none (by rw [metL_length]; omega)
    have h2 : (metL (m ||| (1 <<< c)) size)[i]? = none := List.getElem?_eq_none (by rw [metL_length]; omega)
    rw [h1, h2]
    by_cases e : c = i
    · rw [if_pos e, if_neg (by rw [metL_length]; omega)]
    · rw [if_neg e]
def pickI : Option Nat → Int
  | none => -1
  | some x => (x : Int)

theorem spec_brNumber_ev (xs : List Int) (n k : Nat) (hk : 2 ≤ k) (hk6 : k ≤ 6) (h : k ^ n ≤ 1024) (hx : xs.length = n) (hn : n ≤ 1000) (hxs : ∀ x ∈ xs, 0 ≤ x ∧ x ≤ (k : Int) - 1) : Ev (fun q => spec_brNumber.f q xs (k : Int)) (codeN k xs) := by
  unfold spec_brNumber.f
  refine ev_iter (fun (c : Int) j q => spec_brNumber.l0 q (k : Int) c xs (xs.length : Int) (j : Int)) (fun c j => wrap64 (wrap64 (c * (k : Int)) + rd xs (j : Int))) (fun j c => c = codeN k (xs.take j)) xs.length ?_ xs.length 0 0 (by omega) (by simp [codeN]) ?_
  · intro c j hj hI
    refine ⟨by rw [hI]; exact code_step hk hk6 h hx hxs (by omega), fun r q => ?_⟩
    refine Ev.step (fun k => by simp only [spec_brNumber.l0]; rfl) ?_
    rw [wrap_succ (i := j) (by omega)]
    exact ev_pos (by omega) (ev_pos (by omega) (ev_pos (by omega) q))
  · intro hI
    exact Ev.step (fun k => by simp only [spec_brNumber.l0]; rfl) (ev_neg (by omega) (ev_some (by rw [hI, List.take_of_length_le (by omega)])))

theorem spec_brFree_loop (k n m code last : Nat) (hk : k ≤ 6) (hp : k ^ n ≤ 1024) (hlast : last ≤ 1024) (hx : ∀ x : Nat, x < k → (code * k + x) % k ^ n = last * k + x ∧ last * k + x < k ^ n) :
    ∀ j, j ≤ k → Ev (fun q => spec_brFree.l0 q (k : Int) (metL m (k ^ n)) (last : Int) ((j : Int) - 1)) (pickI (pickG k (k ^ n) m code j)) := by
  have hlk : last * k ≤ 1024 * 6 := Nat.mul_le_mul hlast hk
  intro j
  induction j with
  | zero =>
    intro _
    exact Ev.step (fun k => by simp only [spec_brFree.l0]; rfl) (ev_neg (by omega) (Ev.now _))
  | succ j ih =>
    intro hj
    obtain ⟨h1, h2⟩ := hx j (by omega)
    refine Ev.step (fun k => by simp only [spec_brFree.l0]; rfl) ?_
    refine ev_pos (by omega) ?_
    rw [show ((j + 1 : Nat) : Int) - 1 = (j : Int) by omega, show (last : Int) * (k : Int) = ((last * k : Nat) : Int) by simp, wrap_id (x := ((last * k : Nat) : Int)) (by omega), wrap_id (x := ((last * k : Nat) : Int) + (j : Int)) (by omega), show ((last * k : Nat) : Int) + (j : Int) = ((last * k + j : Nat) : Int) by omega]
    refine ev_pos (by omega) (ev_pos (by rw [metL_length]; omega) ?_)
    rw [metL_rd _ _ _ h2, wrap_id (x := (j : Int) - 1) (by omega)]
    unfold pickG
    rw [h1]
    refine ev_if (fun e => ?_) (fun e => ?_)
    · rw [if_pos e]; exact ih (by omega)
    · rw [if_neg e]; exact Ev.now _
theorem spec_brFree_ev (k n m code : Nat) (hn : 1 ≤ n) (hn10 : n ≤ 10) (hk2 : 2 ≤ k) (hk : k ≤ 6) (hp : k ^ n ≤ 1024) (out : List Int) (hl : n ≤ out.length) (hle : out.length ≤ 1000000) (ho : ∀ x ∈ out, 0 ≤ x ∧ x ≤ (k : Int) - 1) (hc : codeN k (out.drop (out.length - n)) = code) :
    Ev (fun q => spec_brFree.f q out (n : Int) (k : Int) (metL m (k ^ n))) (pickI (pickG k (k ^ n) m code k)) := by
  obtain ⟨last, h1, h2, h3⟩ := next_code hn (show 1 ≤ k by omega) hl ho hc
  have hp1 : k ^ (n - 1) ≤ 1024 := Nat.le_trans (Nat.pow_le_pow_right (by omega) (by omega)) hp
  unfold spec_brFree.f
  rw [wrap_id (x := (out.length : Int) - (n : Int)) (by omega), wrap_id (x := (out.length : Int) - (n : Int) + 1) (by omega), show (out.length : Int) - (n : Int) + 1 = ((out.length - n + 1 : Nat) : Int) by omega, Int.toNat_natCast]
  refine ev_pos (by omega) (ev_pos (by omega) ?_)
  refine ev_call (spec_brNumber_ev _ (n - 1) k hk2 hk hp1 (by simp; omega) (by omega) (fun x hx => ho x (List.mem_of_mem_drop hx))) ?_
  rw [h1, wrap_id (x := (k : Int) - 1) (by omega)]
  refine spec_brFree_loop k n m code last hk hp (by omega) (fun x hx => ⟨h3 x hx, ?_⟩) k (Nat.le_refl _)
  rw [← h3 x hx]
  exact Nat.mod_lt _ (Nat.pow_pos (by omega))

theorem impl_within_eq (a lo hi : Int) : impl_within.f a lo hi = some (inB a lo hi) := by
  unfold impl_within.f inB
  by_cases h : a ≥ lo
  · rw [if_pos h]; simp [h]
  · rw [if_neg h]; simp [show ¬ lo ≤ a from h]

theorem impl_power_ev (a n : Nat) (ha : a ≤ 6) (hn : n ≤ 12) : Ev (fun k => impl_power.f k (a : Int) (n : Int)) ((a ^ n : Nat) : Int) := by
  have hb : ∀ j, j ≤ n → a ^ j ≤ 2176782336 := fun j hj => Nat.le_trans (Nat.pow_le_pow_left ha j) (Nat.le_trans (Nat.pow_le_pow_right (by omega) (show j ≤ 12 by omega)) (by decide))
  unfold impl_power.f
  refine ev_iter (fun (o : Nat) i k => impl_power.l0 k (a : Int) (o : Int) (n : Int) (i : Int)) (fun o _ => o * a) (fun i o => o = a ^ i) n ?_ n 0 1 (by omega) rfl ?_
  · intro o i hi hI
    refine ⟨by rw [hI, Nat.pow_succ], fun r k => ?_⟩
    have h1 := hb (i + 1) (by omega)
    rw [Nat.pow_succ, ← hI] at h1
    refine Ev.step (fun k => by simp only [impl_power.l0]; rfl) ?_
    refine ev_pos (by omega) ?_
    rw [wrap_succ (by omega), show (o : Int) * (a : Int) = ((o * a : Nat) : Int) by simp, wrap_id (by omega)]
    exact k
  · intro h
    refine Ev.step (fun k => by simp only [impl_power.l0]; rfl) (ev_neg (by omega) (ev_some (by rw [h])))

theorem impl_isBruijnSize_ev (n k : Int) : Ev (fun q => impl_isBruijnSize.f q n k) (kindB n k) := by
  unfold impl_isBruijnSize.f kindB
  refine ev_plain (impl_within_eq _ _ _) (ev_if (fun h1 => ?_) (fun h1 => ev_some (by simp [Bool.eq_false_iff.mpr h1])))
  refine ev_plain (impl_within_eq _ _ _) (ev_if (fun h2 => ?_) (fun h2 => ev_some (by simp [Bool.eq_false_iff.mpr h2])))
  have e1 := inB_iff.mp h1
  have e2 := inB_iff.mp h2
  obtain ⟨n, rfl⟩ := Int.eq_ofNat_of_zero_le (show 0 ≤ n by omega)
  obtain ⟨k, rfl⟩ := Int.eq_ofNat_of_zero_le (show 0 ≤ k by omega)
  refine ev_call (impl_power_ev k n (by omega) (by omega)) (ev_some ?_)
  rw [h1, h2]
  simp only [Bool.true_and, Int.toNat_natCast]
  exact decide_eq_decide.mpr (by omega)

theorem spec_l1In_eq (a lo hi : Int) : spec_l1In.f a lo hi = some (inB a lo hi) := by
  unfold spec_l1In.f inB
  by_cases h : a ≥ lo
  · rw [if_pos h]; simp [h]
  · rw [if_neg h]; simp [show ¬ lo ≤ a from h]

theorem spec_lyPower_loop (a : Nat) (ha : a ≤ 6) : ∀ (e j : Nat), e + j ≤ 12 → Ev (fun k => spec_lyPower.l0 k (a : Int) (e : Int) ((a ^ j : Nat) : Int)) ((a ^ (j + e) : Nat) : Int) := by
  intro e
  induction e with
  | zero =>
    intro j h
    exact Ev.step (fun k => by simp only [spec_lyPower.l0]; rfl) (ev_neg (by omega) (Ev.now _))
  | succ e ih =>
    intro j h
    have h1 : a ^ (j + 1) ≤ 2176782336 := Nat.le_trans (Nat.pow_le_pow_left ha (j + 1)) (Nat.le_trans (Nat.pow_le_pow_right (by omega) (show j + 1 ≤ 12 by omega)) (by decide))
    refine Ev.step (fun k => by simp only [spec_lyPower.l0]; rfl) ?_
    refine ev_pos (by omega) ?_
    rw [wrap_pred (by omega), show ((a ^ j : Nat) : Int) * (a : Int) = ((a ^ (j + 1) : Nat) : Int) by rw [Nat.pow_succ]; simp, wrap_id (by omega)]
    exact ev_to (ih (j + 1) (by omega)) (by rw [show j + 1 + e = j + (e + 1) by omega])
theorem spec_lyPower_ev (a n : Nat) (ha : a ≤ 6) (hn : n ≤ 12) : Ev (fun k => spec_lyPower.f k (a : Int) (n : Int)) ((a ^ n : Nat) : Int) :=
  ev_to (spec_lyPower_loop a ha n 0 (by omega)) (by simp)

theorem spec_brKind_ev (n k : Int) : Ev (fun q => spec_brKind.f q n k) (kindB n k) := by
  unfold spec_brKind.f kindB
  refine ev_plain (spec_l1In_eq _ _ _) (ev_if (fun h1 => ?_) (fun h1 => ev_some (by simp [Bool.eq_false_iff.mpr h1])))
  refine ev_plain (spec_l1In_eq _ _ _) (ev_if (fun h2 => ?_) (fun h2 => ev_some (by simp [Bool.eq_false_iff.mpr h2])))
  have e1 := inB_iff.mp h1
  have e2 := inB_iff.mp h2
  obtain ⟨n, rfl⟩ := Int.eq_ofNat_of_zero_le (show 0 ≤ n by omega)
  obtain ⟨k, rfl⟩ := Int.eq_ofNat_of_zero_le (show 0 ≤ k by omega)
  refine ev_call (spec_lyPower_ev k n (by omega) (by omega)) (ev_some ?_)
  rw [h1, h2]
  simp only [Bool.true_and, Int.toNat_natCast]
  exact decide_eq_decide.mpr (by omega)

theorem gnext_eq (code x k size : Nat) (hc : code ≤ 1024) (hk : k ≤ 6) (hx : x ≤ 6) : impl_GreedyBruijn.next (k : Int) (size : Int) (code : Int) (x : Int) = (((code * k + x) % size : Nat) : Int) := by
  have h := Nat.mul_le_mul hc hk
  unfold impl_GreedyBruijn.next
  rw [show (code : Int) * (k : Int) = ((code * k : Nat) : Int) by simp, wrap_id (x := ((code * k : Nat) : Int)) (by omega), wrap_id (x := ((code * k : Nat) : Int) + (x : Int)) (by omega), show ((code * k : Nat) : Int) + (x : Int) = ((code * k + x : Nat) : Int) by omega, tmod_nat]
/-- The program's search for the greatest free letter, from x downward. -/
theorem gsearch (k size m code : Nat) (out : List Int) (hk : k ≤ 6) (hc : code ≤ 1024) (hs : 1 ≤ size) (r : List Int × Bool)
    (hno : pickG k size m code k = none → Ev (fun q => impl_GreedyBruijn.l0 q (k : Int) (size : Int) out m (code : Int) (-1)) r)
    (hyes : ∀ x, pickG k size m code k = some x → x < k → Ev (fun q => if out.length < 17592186044416 then (impl_GreedyBruijn.l0 q (k : Int) (size : Int) (out ++ [(x : Int)]) (m ||| (1 <<< ((code * k + x) % size))) (((code * k + x) % size : Nat) : Int) (wrap64 ((k : Int) - 1))) else none) r) :
    Ev (fun q => impl_GreedyBruijn.l0 q (k : Int) (size : Int) out m (code : Int) (wrap64 ((k : Int) - 1))) r := by
  have main : ∀ j, j ≤ k → pickG k size m code k = pickG k size m code j → Ev (fun q => impl_GreedyBruijn.l0 q (k : Int) (size : Int) out m (code : Int) ((j : Int) - 1)) r := by
    intro j
    induction j with
    | zero => intro _ e; exact hno e
    | succ j ih =>
      intro hj e
      refine Ev.step (fun k => by simp only [impl_GreedyBruijn.l0]; rfl) ?_
      rw [show ((j + 1 : Nat) : Int) - 1 = (j : Int) by omega, gnext_eq code j k size hc hk (by omega), Int.toNat_natCast, wrap_id (x := (j : Int) - 1) (by omega)]
      refine ev_pos (by omega) (ev_pos (by omega) ?_)
      rw [show pickG k size m code (j + 1) = if m.testBit ((code * k + j) % size) = true then pickG k size m code j else some j from rfl] at e
      by_cases ht : m.testBit ((code * k + j) % size) = true
      · rw [if_pos ht] at e
        exact ev_pos (by rw [ht, decide_eq_true (by omega)]; rfl) (ih (by omega) e)
      · rw [if_neg ht] at e
        exact ev_neg (by rw [Bool.eq_false_iff.mpr ht]; simp) (ev_pos (by omega) (hyes j e (by omega)))
  have := main k (Nat.le_refl _) rfl
  rw [wrap_id (x := (k : Int) - 1) (by omega)]
  rw [wrap_id (x := (k : Int) - 1) (by omega)] at hyes
  exact this
theorem gsim (n k : Nat) (hn : 1 ≤ n) (hn10 : n ≤ 10) (hk2 : 2 ≤ k) (hk : k ≤ 6) (hp : k ^ n ≤ 1024) : ∀ (f len m code L : Nat), grun k (k ^ n) f len m code = some L → k ^ n ≤ L → ∀ out : List Int, out.length = len → len + f ≤ 5000 → n ≤ len → (∀ x ∈ out, 0 ≤ x ∧ x ≤ (k : Int) - 1) → codeN k (out.drop (out.length - n)) = code →
    ∃ r : List Int, ∃ b : Bool, r.length ≤ 1048576 ∧ Ev (fun q => impl_GreedyBruijn.l0 q (k : Int) ((k ^ n : Nat) : Int) out m (code : Int) (wrap64 ((k : Int) - 1))) (r, b) ∧
      Ev (fun q => (spec_brFree.f q out (n : Int) (k : Int) (metL m (k ^ n))).bind fun t => spec_GreedyBruijn.l0 q (n : Int) (k : Int) (metL m (k ^ n)) out t) (r, b) := by
  have hpos : 1 ≤ k ^ n := Nat.one_le_iff_ne_zero.mpr (by have := Nat.pow_pos (n := n) (show 0 < k by omega); omega)
  intro f
  induction f with
  | zero => intro len m code L h; simp [grun] at h
  | succ f ih =>
    intro len m code L h hL out hlen hf hnl ho hc
    have hcl : code < k ^ n := by
      have := codeN_range k n (out.drop (out.length - n)) (by simp; omega) (fun x hx => ho x (List.mem_of_mem_drop hx))
      omega
    have hfree := spec_brFree_ev k n m code hn hn10 hk2 hk hp out (by omega) (by omega) ho hc
    obtain ⟨last, h1, h2, h3⟩ := next_code hn (show 1 ≤ k by omega) (show n ≤ out.length by omega) ho hc
    unfold grun at h
    cases hpick : pickG k (k ^ n) m code k with
    | none =>
      rw [hpick] at h hfree
      obtain rfl : len = L := Option.some.inj h
      refine ⟨out.take (k ^ n), true, by simp; omega, ?_, ?_⟩
      · refine gsearch k (k ^ n) m code out hk (by omega) hpos _ (fun _ => ?_) (fun x e => by rw [hpick] at e; cases e)
        refine Ev.step (fun k => by simp only [impl_GreedyBruijn.l0]; rfl) ?_
        refine ev_neg (by omega) (ev_pos (by omega) (ev_pos (by omega) ?_))
        rw [Int.toNat_natCast]
        refine ev_plain (a := out.take (k ^ n)) ?_ (Ev.now _)
        unfold slices_Clone_int_int.f
        rw [if_pos (by simp; omega)]
      · refine ev_call hfree ?_
        refine Ev.step (fun k => by simp only [spec_GreedyBruijn.l0]; rfl) ?_
        refine ev_neg (by simp [pickI]) (ev_call (spec_lyPower_ev k n hk (by omega)) (ev_pos (by omega) (ev_pos (by omega) ?_)))
        rw [Int.toNat_natCast]
        refine ev_plain (a := out.take (k ^ n)) ?_ (Ev.now _)
        unfold spec_l1Own.f
        rw [Option.bind_some, if_pos (by simp; omega)]; rfl
    | some x =>
      rw [hpick] at h hfree
      dsimp only at h
      have hx := pickG_lt hpick
      have hnew : ∀ y ∈ out ++ [(x : Int)], 0 ≤ y ∧ y ≤ (k : Int) - 1 := by
        intro y hy
        rcases List.mem_append.mp hy with hy | hy
        · exact ho y hy
        · rw [List.mem_singleton] at hy; omega
      have hl2 : (out ++ [(x : Int)]).length = len + 1 := by simp [hlen]
      have hd : (out ++ [(x : Int)]).drop ((out ++ [(x : Int)]).length - n) = out.drop (out.length - n + 1) ++ [(x : Int)] := by
        rw [hl2, List.drop_append_of_le_length (by omega), hlen, show len + 1 - n = len - n + 1 by omega]
      have hc2 : codeN k ((out ++ [(x : Int)]).drop ((out ++ [(x : Int)]).length - n)) = (((code * k + x) % k ^ n : Nat) : Int) := by
        rw [hd, codeN_snoc, h1, h3 x hx]; simp
      obtain ⟨r, b, hr, hi, hs⟩ := ih (len + 1) _ _ L h hL (out ++ [(x : Int)]) hl2 (by omega) (by omega) hnew hc2
      refine ⟨r, b, hr, ?_, ?_⟩
      · refine gsearch k (k ^ n) m code out hk (by omega) hpos _ (fun e => by rw [hpick] at e; cases e) (fun y e hy => ?_)
        obtain rfl : x = y := by rw [hpick] at e; exact Option.some.inj e
        exact ev_pos (by omega) hi
      · have hfree2 : Ev (fun q => spec_brFree.f q out (n : Int) (k : Int) (metL m (k ^ n))) (x : Int) := hfree
        refine ev_call hfree2 ?_
        have hmod : (code * k + x) % k ^ n < k ^ n := Nat.mod_lt _ (by omega)
        refine Ev.step (fun k => by simp only [spec_GreedyBruijn.l0]; rfl) ?_
        refine ev_pos (by omega) (ev_pos (by omega) (ev_plain rfl ?_))
        rw [hl2, wrap_id (x := ((len + 1 : Nat) : Int) - (n : Int)) (by omega), show ((len + 1 : Nat) : Int) - (n : Int) = ((len + 1 - n : Nat) : Int) by omega, Int.toNat_natCast]
        refine ev_pos (by omega) (ev_pos (by omega) ?_)
        rw [hl2] at hc2
        refine ev_call (spec_brNumber_ev _ n k hk2 hk hp (by rw [List.length_drop, hl2]; omega) (by omega) (fun y hy => hnew y (List.mem_of_mem_drop hy))) ?_
        rw [hc2]
        generalize (code * k + x) % k ^ n = cc at hmod hs ⊢
        refine ev_pos (by omega) (ev_pos (by rw [metL_length]; omega) (ev_plain rfl ?_))
        rw [Int.toNat_natCast, metL_set]
        exact hs
theorem greedy_both (n k : Int) : ∃ r : List Int, ∃ b : Bool, r.length ≤ 1048576 ∧ Ev (fun q => impl_GreedyBruijn.f q n k) (r, b) ∧ Ev (fun q => spec_GreedyBruijn.f q n k) (r, b) := by
  have e1 := spec_brKind_ev n k
  have e2 := impl_isBruijnSize_ev n k
  unfold impl_GreedyBruijn.f spec_GreedyBruijn.f
  by_cases h : kindB n k = true
  · obtain ⟨n, k, rfl, rfl, h1, h2, h3, h4, h5⟩ := kindB_nat h
    rw [h] at e1 e2
    obtain ⟨L, hL1, hL2⟩ := grun_ok n k h1 h2 h3 h4 h5
    have hpos : 1 ≤ k ^ n := Nat.one_le_iff_ne_zero.mpr (by have := Nat.pow_pos (n := n) (show 0 < k by omega); omega)
    have hz : codeN k ((List.replicate n (0 : Int)).drop ((List.replicate n (0 : Int)).length - n)) = ((0 : Nat) : Int) := by
      rw [List.length_replicate, Nat.sub_self, List.drop_zero]
      have : ∀ m, codeN k (List.replicate m 0) = 0 := by
        intro m
        induction m with
        | zero => rfl
        | succ m ih => rw [List.replicate_succ', codeN_snoc, ih]; simp
      rw [this]; rfl
    obtain ⟨r, b, hr, hi, hs⟩ := gsim n k h1 h2 h3 h4 h5 1100 n 1 0 L hL1 hL2 (List.replicate n 0) (by simp) (by omega) (Nat.le_refl _) (fun x hx => by rw [List.eq_of_mem_replicate hx]; omega) hz
    have hm : metL 1 (k ^ n) = (List.replicate (k ^ n) false).set 0 true := by
      have h0 : metL 0 (k ^ n) = List.replicate (k ^ n) false := by
        apply List.ext_getElem?
        intro i
        by_cases hi : i < k ^ n
        · simp [metL, List.getElem?_range hi, List.getElem?_replicate, hi]
        · rw [List.getElem?_eq_none (by rw [metL_length]; omega), List.getElem?_eq_none (by simp; omega)]
      rw [← h0, metL_set]; rfl
    refine ⟨r, b, hr, ?_, ?_⟩
    · refine ev_call e2 (ev_pos (by trivial) (ev_call (impl_power_ev k n h4 (by omega)) (ev_pos (by omega) (ev_pos (by omega) ?_))))
      rw [Int.toNat_natCast]
      exact hi
    · refine ev_call e1 (ev_pos (by trivial) (ev_call (spec_lyPower_ev k n h4 (by omega)) (ev_pos (by omega) (ev_pos (by omega) (ev_plain rfl ?_)))))
      rw [Int.toNat_natCast]
      refine ev_pos (by rw [List.length_replicate]; omega) (ev_plain rfl (ev_pos (by omega) (ev_pos (by omega) (ev_plain rfl ?_))))
      rw [Int.toNat_natCast, show (0 : Int).toNat = 0 from rfl, ← hm]
      exact hs
  · have hb := Bool.eq_false_iff.mpr h
    rw [hb] at e1 e2
    exact ⟨[], false, by simp, ev_call e2 (ev_neg (by simp) (Ev.now _)), ev_call e1 (ev_neg (by simp) (Ev.now _))⟩

theorem laws_eqIntS_loop (l : List Int) (hl : l.length ≤ 35184372088832) : ∀ (d i : Nat), i + d = l.length → Ev (fun k => laws_eqIntS.l0 k l l (i : Int)) true := by
  intro d
  induction d with
  | zero =>
    intro i h
    refine Ev.step (f := fun _ => some true) (fun k => ?_) (Ev.now _)
    simp only [laws_eqIntS.l0]; rw [if_neg (by omega)]
  | succ d ih =>
    intro i h
    refine Ev.step (f := fun k => laws_eqIntS.l0 k l l ((i + 1 : Nat) : Int)) (fun k => ?_) (ih (i + 1) (by omega))
    simp only [laws_eqIntS.l0]; rw [if_pos (by omega), if_pos (by omega), if_pos (by omega), if_pos trivial, wrap_succ (by omega)]
theorem laws_eqIntS_ev (l : List Int) (hl : l.length ≤ 35184372088832) : Ev (fun k => laws_eqIntS.f k l l) true := by
  unfold laws_eqIntS.f
  exact ev_pos rfl (laws_eqIntS_loop l hl l.length 0 (by omega))

theorem laws_markIntS_loop : ∀ (d i : Nat) (ys : List Int) (m : Int), i + d = ys.length → 0 ≤ m → m + d ≤ 1000000000000000 → ys.length ≤ 35184372088832 →
    Ev (fun k => laws_markIntS.l0 k ys m (i : Int)) (m + (d : Int), ys.take i ++ marks m d) := by
  intro d
  induction d with
  | zero =>
    intro i ys m h1 h2 h3 h4
    refine Ev.step (f := fun _ => some (m, ys)) (fun k => ?_) (ev_some ?_)
    · simp only [laws_markIntS.l0]; rw [if_neg (by omega)]
    · rw [List.take_of_length_le (by omega)]; simp [marks]
  | succ d ih =>
    intro i ys m h1 h2 h3 h4
    refine Ev.step (f := fun k => laws_markIntS.l0 k (ys.set i m) (m + 1) ((i + 1 : Nat) : Int)) (fun k => ?_) (ev_to (ih (i + 1) _ (m + 1) (by simp; omega) (by omega) (by omega) (by simpa using h4)) ?_)
    · simp only [laws_markIntS.l0]; rw [if_pos (by omega), if_pos (by omega), wrap_succ (by omega), wrap_id (by omega), Int.toNat_natCast]
    · rw [marks_succ, List.take_succ_eq_append_getElem (by simp; omega), List.take_set, List.set_eq_of_length_le (by simp; omega)]
      refine Prod.ext (by simp; omega) ?_
      simp
theorem laws_markIntS_ev (l : List Int) (m : Int) (h2 : 0 ≤ m) (h3 : m ≤ 900000000000000) (h4 : l.length ≤ 35184372088832) : Ev (fun k => laws_markIntS.f k l m) (m + (l.length : Int), marks m l.length) :=
  ev_to (laws_markIntS_loop l.length 0 l m (by omega) h2 (by omega) h4) (by simp)

theorem laws_heldIntS_loop (zs : List Int) (hz : zs.length ≤ 35184372088832) : ∀ (d i : Nat) (m : Int), i + d = zs.length → 0 ≤ m → m + d ≤ 1000000000000000 → zs.drop i = marks m d →
    Ev (fun k => laws_heldIntS.l0 k zs m (i : Int)) (m + (d : Int)) := by
  intro d
  induction d with
  | zero =>
    intro i m h1 h2 h3 h4
    refine Ev.step (f := fun _ => some m) (fun k => ?_) (ev_some (by simp))
    simp only [laws_heldIntS.l0]; rw [if_neg (by omega)]
  | succ d ih =>
    intro i m h1 h2 h3 h4
    rw [drop_rd zs i (by omega), marks_succ, List.cons.injEq] at h4
    refine Ev.step (f := fun k => laws_heldIntS.l0 k zs (m + 1) ((i + 1 : Nat) : Int)) (fun k => ?_) (ev_to (ih (i + 1) (m + 1) (by omega) (by omega) (by omega) h4.2) (by omega))
    simp only [laws_heldIntS.l0]; rw [if_pos (by omega), if_pos (by omega), if_pos h4.1, wrap_succ (by omega), wrap_id (by omega)]
theorem laws_heldIntS_ev (m : Int) (n : Nat) (h2 : 0 ≤ m) (h3 : m ≤ 900000000000000) (h4 : n ≤ 35184372088832) : Ev (fun k => laws_heldIntS.f k (marks m n) m) (m + (n : Int)) :=
  laws_heldIntS_loop (marks m n) (by simpa [marks_length] using h4) n 0 m (by simp [marks_length]) h2 (by omega) rfl

theorem FnExactGreedyBruijn : laws_FnExactGreedyBruijn.Pure := by
  intro n k h_n h_k
  refine Ev.rounds (r := true) ?_
  unfold laws_FnExactGreedyBruijn.f
  have hw_n := wf_in h_n
  have hw_k := wf_in h_k
  obtain ⟨r_, b_, hr, I_, S_⟩ := greedy_both n k
  repeat (first
    | exact Ev.now _
    | (refine ev_call S_ ?_; try dsimp only)
    | (refine ev_call I_ ?_; try dsimp only)
    | refine ev_call (laws_eqIntS_ev _ (by first | assumption | omega)) ?_
    | (refine ev_call (laws_markIntS_ev _ _ (by omega) (by omega) (by omega)) ?_; dsimp only)
    | refine ev_call (laws_heldIntS_ev _ _ (by omega) (by omega) (by omega)) ?_
    | refine ev_pos rfl ?_
    | refine ev_neg (bne_no _) ?_
    | refine ev_neg (by omega) ?_
    | refine Ev.step (fun k => by simp only [laws_FnExactGreedyBruijn.j0]; rfl) ?_
    | refine Ev.step (fun k => by simp only [laws_FnExactGreedyBruijn.j1]; rfl) ?_)

end Go.Proofs.Ytdhmdlecagjohaa.Pure
