/- Plain lemmas about shift registers: the word of a register, its round, and that the round ends; no condition. -/
import Derived.Test.YtnbflbkneeageaaLists
namespace Go.Proofs.Ytnbflbkneeageaa.Base
open Go.RowKit Go.Proofs.YtnbflbkneeageaaW.PrintWords

def startM (n : Nat) : List Int := List.replicate (n - 1) 0 ++ [1]
def nxF (l : List Int) (b t : Int) : Int := (b + rd l t) % 2
def nxM (taps l : List Int) : Int := taps.foldl (nxF l) 0
/-- What the register holds behind so many steps, and the word up to there. -/
def regS (taps : List Int) (n : Nat) : Nat → List Int
  | 0 => startM n
  | j + 1 => (regS taps n j).tail ++ [nxM taps (regS taps n j)]
def regW (taps : List Int) (n : Nat) : Nat → List Int
  | 0 => startM n
  | j + 1 => regW taps n j ++ [nxM taps (regS taps n j)]
def tapsB (taps : List Int) (n : Int) : Bool := inB n 1 10 && (chainB taps && (allB taps 0 (n - 1) && (taps.head? == some 0)))
def perM (taps : List Int) (n : Nat) : Nat := ((List.range' 1 (2 ^ n)).find? fun p => decide (regS taps n p = startM n)).getD 0
def regM (taps : List Int) (n : Nat) : List Int := (regW taps n (perM taps n)).take (perM taps n)
def bitsL (l : List Int) : Prop := ∀ x ∈ l, 0 ≤ x ∧ x ≤ (2 : Int) - 1

theorem startM_length {n : Nat} (h : 1 ≤ n) : (startM n).length = n := by simp [startM]; omega
theorem startM_bits (n : Nat) : bitsL (startM n) := by
  intro x hx
  simp [startM] at hx
  omega
theorem nxF_range (l : List Int) (b t : Int) : 0 ≤ nxF l b t ∧ nxF l b t ≤ (2 : Int) - 1 := by unfold nxF; omega
theorem nx_fold_range (l : List Int) : ∀ (ts : List Int) (b : Int), 0 ≤ b ∧ b ≤ (2 : Int) - 1 → 0 ≤ ts.foldl (nxF l) b ∧ ts.foldl (nxF l) b ≤ (2 : Int) - 1 := by
  intro ts
  induction ts with
  | nil => intro b h; exact h
  | cons t ts ih => intro b _; exact ih _ (nxF_range _ _ _)
theorem nxM_range (taps l : List Int) : 0 ≤ nxM taps l ∧ nxM taps l ≤ (2 : Int) - 1 := nx_fold_range l taps 0 (by omega)
theorem regW_length (taps : List Int) {n : Nat} (h : 1 ≤ n) : ∀ j, (regW taps n j).length = n + j := by
  intro j
  induction j with
  | zero => exact startM_length h
  | succ j ih => simp [regW, ih]; omega
theorem regW_bits (taps : List Int) (n : Nat) : ∀ j, bitsL (regW taps n j) := by
  intro j
  induction j with
  | zero => exact startM_bits n
  | succ j ih =>
    intro x hx
    simp only [regW, List.mem_append, List.mem_singleton] at hx
    rcases hx with hx | rfl
    · exact ih x hx
    · exact nxM_range _ _
theorem regW_drop (taps : List Int) {n : Nat} (h : 1 ≤ n) : ∀ j, (regW taps n j).drop j = regS taps n j := by
  intro j
  induction j with
  | zero => rfl
  | succ j ih =>
    simp only [regW, regS]
    rw [List.drop_append_of_le_length (by rw [regW_length taps h]; omega), ← ih, List.tail_drop]
theorem regS_length (taps : List Int) {n : Nat} (h : 1 ≤ n) (j : Nat) : (regS taps n j).length = n := by
  rw [← regW_drop taps h, List.length_drop, regW_length taps h]; omega
theorem regS_bits (taps : List Int) {n : Nat} (h : 1 ≤ n) (j : Nat) : bitsL (regS taps n j) := by
  intro x hx
  rw [← regW_drop taps h] at hx
  exact regW_bits taps n j x (List.mem_of_mem_drop hx)
theorem regS_rd (taps : List Int) {n : Nat} (h : 1 ≤ n) (j : Nat) (t : Nat) : rd (regW taps n j) ((j + t : Nat) : Int) = rd (regS taps n j) (t : Int) := by
  rw [← regW_drop taps h, rd_nat, rd_nat]
  simp [List.getD_eq_getElem?_getD]
theorem nx_fold_add (l : List Int) : ∀ (ts : List Int) (b : Int), (ts.foldl (nxF l) b) % 2 = (b + ts.foldl (nxF l) 0) % 2 := by
  intro ts
  induction ts with
  | nil => intro b; simp
  | cons t ts ih =>
    intro b
    simp only [List.foldl_cons]
    rw [ih (nxF l b t)]
    have := ih (nxF l 0 t)
    simp only [nxF] at *
    omega
theorem nx_fold_congr (a b : Int) (u : List Int) : ∀ (ts : List Int) (c : Int), (∀ t ∈ ts, 1 ≤ t) → ts.foldl (nxF (a :: u)) c = ts.foldl (nxF (b :: u)) c := by
  intro ts
  induction ts with
  | nil => intro c _; rfl
  | cons t ts ih =>
    intro c h
    simp only [List.foldl_cons]
    have e : nxF (a :: u) c t = nxF (b :: u) c t := by
      have h1 := h t (by simp)
      obtain ⟨m, rfl⟩ : ∃ m : Nat, t = ((m + 1 : Nat) : Int) := ⟨(t - 1).toNat, by omega⟩
      unfold nxF
      rw [rd_nat, rd_nat]; rfl
    rw [e]
    exact ih _ (fun t ht => h t (by simp [ht]))
theorem tapsB_iff {taps : List Int} {n : Int} : tapsB taps n = true ↔ (1 ≤ n ∧ n ≤ 10) ∧ chainB taps = true ∧ (∀ x ∈ taps, 0 ≤ x ∧ x ≤ n - 1) ∧ taps.head? = some 0 := by
  simp only [tapsB, Bool.and_eq_true, inB_iff, allB_iff, beq_iff_eq]
theorem taps_cons {taps : List Int} {n : Int} (h : tapsB taps n = true) : ∃ ts, taps = 0 :: ts ∧ ∀ t ∈ ts, 1 ≤ t := by
  obtain ⟨_, h2, _, h4⟩ := tapsB_iff.mp h
  cases taps with
  | nil => simp at h4
  | cons a ts =>
    simp at h4
    subst h4
    refine ⟨ts, rfl, fun t ht => ?_⟩
    have := (List.pairwise_cons.mp ((chainB_iff _).mp h2)).1 t ht
    omega
theorem snoc_inj {a b : List Int} {x y : Int} (h : a ++ [x] = b ++ [y]) : a = b ∧ x = y := by
  have := List.append_inj' h rfl
  exact ⟨this.1, by simpa using this.2⟩
/-- A step of the register can be taken back. -/
theorem step_inj {taps : List Int} {m : Int} (h : tapsB taps m = true) {l l' : List Int} (hl : l.length = l'.length) (hb : bitsL l) (hb' : bitsL l')
    (e : l.tail ++ [nxM taps l] = l'.tail ++ [nxM taps l']) : l = l' := by
  obtain ⟨ts, rfl, ht⟩ := taps_cons h
  obtain ⟨e1, e2⟩ := snoc_inj e
  cases l with
  | nil => cases l' with
    | nil => rfl
    | cons b u' => simp at hl
  | cons a u => cases l' with
    | nil => simp at hl
    | cons b u' =>
      simp only [List.tail_cons] at e1
      subst e1
      have ha := hb a (by simp)
      have hb2 := hb' b (by simp)
      simp only [nxM, List.foldl_cons] at e2
      rw [nx_fold_congr a b u ts _ ht] at e2
      have h1 := nx_fold_add (b :: u) ts (nxF (a :: u) 0 0)
      have h2 := nx_fold_add (b :: u) ts (nxF (b :: u) 0 0)
      rw [e2] at h1
      have g1 : nxF (a :: u) 0 0 = a := by simp [nxF, rd]; omega
      have g2 : nxF (b :: u) 0 0 = b := by simp [nxF, rd]; omega
      rw [g1] at h1
      rw [g2] at h1 h2
      have : a = b := by omega
      rw [this]
theorem codeN_inj : ∀ (n : Nat) (xs ys : List Int), xs.length = n → ys.length = n → bitsL xs → bitsL ys → codeN 2 xs = codeN 2 ys → xs = ys := by
  intro n
  induction n with
  | zero => intro xs ys h h' _ _ _; rw [List.eq_nil_of_length_eq_zero h, List.eq_nil_of_length_eq_zero h']
  | succ n ih =>
    intro xs ys h h' hx hy e
    rcases List.eq_nil_or_concat xs with rfl | ⟨us, u, rfl⟩
    · simp at h
    rcases List.eq_nil_or_concat ys with rfl | ⟨vs, v, rfl⟩
    · simp at h'
    rw [List.concat_eq_append] at *
    rw [List.concat_eq_append] at *
    rw [codeN_snoc, codeN_snoc] at e
    have h1 := hx u (by simp)
    have h2 := hy v (by simp)
    have := ih us vs (by simpa using h) (by simpa using h') (fun x hx' => hx x (by simp [hx'])) (fun x hx' => hy x (by simp [hx'])) (by omega)
    subst this
    have : u = v := by omega
    rw [this]
/-- More numbers than places: two are equal. -/
theorem pigeon : ∀ (N : Nat) (f : Nat → Nat), (∀ i, i ≤ N → f i < N) → ∃ i j, i < j ∧ j ≤ N ∧ f i = f j := by
  intro N
  induction N with
  | zero => intro f h; exact absurd (h 0 (by omega)) (by omega)
  | succ N ih =>
    intro f h
    by_cases hd : ∃ i, i ≤ N ∧ f i = f (N + 1)
    · obtain ⟨i, hi, e⟩ := hd
      exact ⟨i, N + 1, by omega, by omega, e⟩
    · -- take the last value out
      have hne : ∀ i, i ≤ N → f i ≠ f (N + 1) := fun i hi e => hd ⟨i, hi, e⟩
      obtain ⟨i, j, h1, h2, e⟩ := ih (fun i => if f i < f (N + 1) then f i else f i - 1) (fun i hi => by
        have a := h i (by omega)
        have b := h (N + 1) (by omega)
        have c := hne i hi
        split <;> omega)
      refine ⟨i, j, h1, by omega, ?_⟩
      have a := hne i (by omega)
      have b := hne j (by omega)
      split at e <;> split at e <;> omega
theorem regS_back {taps : List Int} {m : Int} (h : tapsB taps m = true) {n : Nat} (hn : 1 ≤ n) : ∀ i d, regS taps n i = regS taps n (i + d) → regS taps n d = startM n := by
  intro i
  induction i with
  | zero => intro d e; simpa [regS] using e.symm
  | succ i ih =>
    intro d e
    rw [show i + 1 + d = (i + d) + 1 by omega] at e
    exact ih d (step_inj h (by rw [regS_length taps hn, regS_length taps hn]) (regS_bits taps hn _) (regS_bits taps hn _) e)
theorem perM_spec {taps : List Int} {m : Int} (h : tapsB taps m = true) {n : Nat} (hn : 1 ≤ n) :
    (1 ≤ perM taps n ∧ perM taps n ≤ 2 ^ n) ∧ regS taps n (perM taps n) = startM n ∧ ∀ q, 1 ≤ q → q < perM taps n → regS taps n q ≠ startM n := by
  have hc : ∀ j, 0 ≤ codeN 2 (regS taps n j) ∧ codeN 2 (regS taps n j) < ((2 ^ n : Nat) : Int) := fun j => codeN_range 2 n _ (regS_length taps hn j) (regS_bits taps hn j)
  obtain ⟨i, j, h1, h2, e⟩ := pigeon (2 ^ n) (fun j => (codeN 2 (regS taps n j)).toNat) (fun j _ => by have := hc j; omega)
  have e' : codeN 2 (regS taps n i) = codeN 2 (regS taps n j) := by have := hc i; have := hc j; omega
  have e2 := codeN_inj n _ _ (regS_length taps hn i) (regS_length taps hn j) (regS_bits taps hn i) (regS_bits taps hn j) e'
  have e3 := regS_back h hn i (j - i) (by rw [show i + (j - i) = j by omega]; exact e2)
  cases hf : (List.range' 1 (2 ^ n)).find? (fun p => decide (regS taps n p = startM n)) with
  | none =>
    have := List.find?_eq_none.mp hf (j - i) (by simp [List.mem_range'_1]; omega)
    simp [e3] at this
  | some p =>
    have hp : perM taps n = p := by unfold perM; rw [hf]; rfl
    rw [hp]
    obtain ⟨a, b, c⟩ := List.find?_range'_eq_some.mp hf
    simp [List.mem_range'_1] at a b c
    refine ⟨by omega, a, fun q hq1 hq2 e => ?_⟩
    exact c q hq1 hq2 e
theorem regM_length {taps : List Int} {n : Nat} (hn : 1 ≤ n) : (regM taps n).length = perM taps n := by
  unfold regM
  rw [List.length_take, regW_length taps hn]
  omega
theorem start_code (n : Nat) : codeN 2 (startM n) = 1 := by
  unfold startM
  rw [codeN_snoc]
  have : ∀ m, codeN 2 (List.replicate m 0) = 0 := by
    intro m
    induction m with
    | zero => rfl
    | succ m ih => rw [List.replicate_succ', codeN_snoc, ih]; rfl
  rw [this]; rfl
def RegisterWordM (taps : List Int) (n : Int) : List Int × Bool := if tapsB taps n = true then (regM taps n.toNat, true) else ([], false)
def IsFullRegisterM (taps : List Int) (n : Int) : Bool × Bool := if tapsB taps n = true then (decide (((perM taps n.toNat : Nat) : Int) = ((2 ^ n.toNat : Nat) : Int) - 1), true) else (false, false)
end Go.Proofs.Ytnbflbkneeageaa.Base
