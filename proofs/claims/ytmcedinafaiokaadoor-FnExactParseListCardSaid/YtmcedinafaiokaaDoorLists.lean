/- Plain lemmas about lists of numbers: sorted ones, different ones, permutations and their ranks; no condition. -/
import Derived.Test.YtmcedinafaiokaaDoorBase
namespace Go.Proofs.YtmcedinafaiokaaDoor.Base
open Go.RowKit Go.Proofs.YtmcedinafaiokaaDoorW.PrintWords

def srt (l : List Int) : List Int := l.mergeSort fun x y => decide (x ≤ y)
theorem srt_perm (l : List Int) : (srt l).Perm l := List.mergeSort_perm l _
theorem srt_length (l : List Int) : (srt l).length = l.length := (srt_perm l).length_eq
theorem srt_sorted (l : List Int) : (srt l).Pairwise (· ≤ ·) := by
  have h := List.pairwise_mergeSort (le := fun x y : Int => decide (x ≤ y)) (fun a b c h1 h2 => by simp at *; omega) (fun a b => by simp; omega) l
  exact h.imp (fun h => by simpa using h)
/-- Is each number less than the next one? -/
def chainB : List Int → Bool
  | a :: b :: t => decide (a < b) && chainB (b :: t)
  | _ => true
theorem chainB_iff (l : List Int) : chainB l = true ↔ l.Pairwise (· < ·) := by
  induction l with
  | nil => simp [chainB]
  | cons a t ih =>
    cases t with
    | nil => simp [chainB]
    | cons b t =>
      simp only [chainB, Bool.and_eq_true, decide_eq_true_eq, ih]
      constructor
      · rintro ⟨h1, h2⟩
        refine List.pairwise_cons.mpr ⟨fun x hx => ?_, h2⟩
        rcases List.mem_cons.mp hx with rfl | hx
        · exact h1
        · exact Int.lt_trans h1 ((List.pairwise_cons.mp h2).1 x hx)
      · intro h
        exact ⟨(List.pairwise_cons.mp h).1 b (by simp), (List.pairwise_cons.mp h).2⟩
theorem sorted_nodup {l : List Int} (h : l.Pairwise (· ≤ ·)) : l.Pairwise (· < ·) ↔ l.Nodup := by
  constructor
  · intro h2
    exact h2.imp (fun h => Int.ne_of_lt h)
  · intro h2
    exact (h.and h2).imp (fun h => by omega)
theorem chain_srt (l : List Int) : chainB (srt l) = decide l.Nodup := by
  rw [Bool.eq_iff_iff, chainB_iff, sorted_nodup (srt_sorted l), (srt_perm l).nodup_iff]; simp
/-- The numbers below n. -/
def idl (n : Nat) : List Int := (List.range' 0 n).map fun (j : Nat) => (j : Int)
theorem idl_length (n : Nat) : (idl n).length = n := by simp [idl]
theorem mem_idl {n : Nat} {x : Int} : x ∈ idl n ↔ 0 ≤ x ∧ x < n := by
  simp only [idl, List.mem_map, List.mem_range'_1]
  constructor
  · rintro ⟨j, hj, rfl⟩; omega
  · intro h; exact ⟨x.toNat, by omega, by omega⟩
theorem range_of_chain : ∀ (l : List Int) (a : Nat), l.Pairwise (· < ·) → (∀ x ∈ l, (a : Int) ≤ x ∧ x < ((a + l.length : Nat) : Int)) → l = (List.range' a l.length).map fun (j : Nat) => (j : Int) := by
  intro l
  induction l with
  | nil => intro a _ _; rfl
  | cons h t ih =>
    intro a hp hm
    have h0 := hm h (by simp)
    obtain ⟨hp1, hp2⟩ := List.pairwise_cons.mp hp
    have ht := ih (a + 1) hp2 (fun x hx => by
      have := hm x (by simp [hx])
      have := hp1 x hx
      simp at *
      omega)
    rw [List.length_cons, List.range'_succ, List.map_cons, ← ht]
    congr 1
    cases t with
    | nil => simp at h0; omega
    | cons b t =>
      rw [List.length_cons, List.range'_succ, List.map_cons, List.cons.injEq] at ht
      have := hp1 b (by simp)
      omega
def permB (l : List Int) : Bool := decide (l.length ≤ 12) && (decide l.Nodup && l.all fun x => inB x 0 ((l.length : Int) - 1))
theorem permB_iff {l : List Int} : permB l = true ↔ l.length ≤ 12 ∧ l.Nodup ∧ ∀ x ∈ l, 0 ≤ x ∧ x ≤ (l.length : Int) - 1 := by
  simp [permB, List.all_eq_true, inB_iff]
theorem srt_idl (l : List Int) : srt l = idl l.length ↔ l.Nodup ∧ ∀ x ∈ l, 0 ≤ x ∧ x ≤ (l.length : Int) - 1 := by
  constructor
  · intro h
    have hp := srt_perm l
    rw [h] at hp
    refine ⟨hp.nodup_iff.mp ?_, fun x hx => ?_⟩
    · unfold idl
      refine List.Pairwise.map _ (fun a b h => ?_) (List.pairwise_lt_range' (s := 0) (n := l.length))
      omega
    · have := mem_idl.mp (hp.mem_iff.mpr hx)
      omega
  · rintro ⟨h1, h2⟩
    have h3 := (sorted_nodup (srt_sorted l)).mpr ((srt_perm l).nodup_iff.mpr h1)
    have h4 := range_of_chain (srt l) 0 h3 (fun x hx => by
      have := h2 x ((srt_perm l).mem_iff.mp hx)
      rw [srt_length]
      omega)
    rw [h4, srt_length]; rfl
def fact : Nat → Nat
  | 0 => 1
  | n + 1 => (n + 1) * fact n
theorem fact_pos (n : Nat) : 1 ≤ fact n := by
  induction n with
  | zero => simp [fact]
  | succ n ih => simp only [fact]; exact Nat.mul_pos (by omega) ih
theorem fact_mono {a b : Nat} (h : a ≤ b) : fact a ≤ fact b := by
  induction b with
  | zero => obtain rfl : a = 0 := by omega
            exact Nat.le_refl _
  | succ b ih =>
    by_cases e : a = b + 1
    · rw [e]; exact Nat.le_refl _
    · exact Nat.le_trans (ih (by omega)) (by simp only [fact]; exact Nat.le_mul_of_pos_left _ (by omega))
theorem fact_12 {n : Nat} (h : n ≤ 12) : fact n ≤ 479001600 := Nat.le_trans (fact_mono h) (by decide)
/-- The rank among all orders of the same numbers. -/
def rankM : List Int → Nat
  | [] => 0
  | x :: t => t.countP (fun y => decide (y < x)) * fact t.length + rankM t
theorem rankM_lt : ∀ l : List Int, rankM l + 1 ≤ fact l.length := by
  intro l
  induction l with
  | nil => simp [rankM, fact]
  | cons x t ih =>
    simp only [rankM, List.length_cons, fact]
    have h1 : t.countP (fun y => decide (y < x)) ≤ t.length := List.countP_le_length
    have h2 := Nat.mul_le_mul_right (fact t.length) h1
    rw [Nat.add_mul, Nat.one_mul]
    omega
theorem idl_succ (n : Nat) : idl (n + 1) = idl n ++ [(n : Int)] := by
  unfold idl
  rw [← List.range'_append (s := 0) (m := n) (n := 1) (step := 1), List.map_append]
  simp
/-- A fold by index is a fold over the list. -/
theorem foldl_index {σ : Type} (g : σ → Int → σ) (l : List Int) : ∀ (d i : Nat) (s : σ), i + d = l.length → (List.range' i d).foldl (fun s j => g s (l.getD j 0)) s = (l.drop i).foldl g s := by
  intro d
  induction d with
  | zero =>
    intro i s h
    rw [List.drop_eq_nil_of_le (by omega)]; rfl
  | succ d ih =>
    intro i s h
    rw [List.range'_succ, List.foldl_cons, ih (i + 1) _ (by omega), drop_rd l i (by omega), List.foldl_cons, rd_nat]
theorem foldl_count (x : Int) (l : List Int) : ∀ c : Nat, l.foldl (fun c y => if y < x then c + 1 else c) c = c + l.countP (fun y => decide (y < x)) := by
  induction l with
  | nil => intro c; simp
  | cons y t ih =>
    intro c
    rw [List.foldl_cons, ih, List.countP_cons]
    by_cases h : y < x
    · simp [h]; omega
    · simp [h]
theorem count_index (x : Int) (l : List Int) : (List.range' 0 l.length).foldl (fun c j => if l.getD j 0 < x then c + 1 else c) 0 = l.countP (fun y => decide (y < x)) := by
  rw [foldl_index (fun c y => if y < x then c + 1 else c) l l.length 0 0 (by omega), foldl_count]; simp
/-- The letters as digits to the base k. -/
def codeN (k : Nat) (xs : List Int) : Int := xs.foldl (fun c x => c * (k : Int) + x) 0
theorem codeN_snoc (k : Nat) (xs : List Int) (x : Int) : codeN k (xs ++ [x]) = codeN k xs * (k : Int) + x := by simp [codeN]
theorem codeN_range (k : Nat) : ∀ (n : Nat) (xs : List Int), xs.length = n → (∀ x ∈ xs, 0 ≤ x ∧ x ≤ (k : Int) - 1) → 0 ≤ codeN k xs ∧ codeN k xs < ((k ^ n : Nat) : Int) := by
  intro n
  induction n with
  | zero => intro xs h _; obtain rfl := List.eq_nil_of_length_eq_zero h; simp [codeN]
  | succ n ih =>
    intro xs h hx
    rcases List.eq_nil_or_concat xs with rfl | ⟨ys, y, rfl⟩
    · simp at h
    · rw [List.concat_eq_append] at *
      have h1 := ih ys (by simpa using h) (fun x hx' => hx x (by simp [hx']))
      have h2 := hx y (by simp)
      rw [codeN_snoc]
      have h3 : codeN k ys * (k : Int) ≤ (((k ^ n : Nat) : Int) - 1) * (k : Int) := Int.mul_le_mul_of_nonneg_right (by omega) (by omega)
      have h4 : 0 ≤ codeN k ys * (k : Int) := Int.mul_nonneg h1.1 (by omega)
      have h5 : (((k ^ n : Nat) : Int) - 1) * (k : Int) = ((k ^ (n + 1) : Nat) : Int) - (k : Int) := by rw [Int.sub_mul, Nat.pow_succ]; simp
      omega
theorem mem_win {w : List Int} {p n : Nat} (hw : 0 < w.length) {x : Int} (h : x ∈ win w p n) : x ∈ w := by
  simp only [win, List.mem_map] at h
  obtain ⟨j, _, rfl⟩ := h
  rw [List.getD_eq_getElem?_getD, List.getElem?_eq_getElem (Nat.mod_lt _ hw)]
  exact List.getElem_mem _
/-- The numbers of all windows. -/
def codesM (w : List Int) (n k : Nat) : List Int := (List.range' 0 w.length).map fun p => codeN k (win w p n)
theorem codesM_range {w : List Int} {n k : Nat} (hx : ∀ x ∈ w, 0 ≤ x ∧ x ≤ (k : Int) - 1) : ∀ c ∈ codesM w n k, 0 ≤ c ∧ c < ((k ^ n : Nat) : Int) := by
  intro c hc
  simp only [codesM, List.mem_map, List.mem_range'_1] at hc
  obtain ⟨p, hp, rfl⟩ := hc
  exact codeN_range k n _ (win_length _ _ _) (fun x hx' => hx x (mem_win (by omega) hx'))
def bruijnB (w : List Int) (n k : Nat) : Bool := decide (w.length = k ^ n) && decide (codesM w n k).Nodup
/-- One end of a window of numbers in a row: the rank is told where a permutation comes for the first time. -/
def stepC (n : Nat) (w : List Int) (out : List Int) (i : Nat) : List Int :=
  if permB ((w.take i).drop (i - n)) = true then (if (rankM ((w.take i).drop (i - n)) : Int) ∈ out then out else out ++ [(rankM ((w.take i).drop (i - n)) : Int)]) else out
def comingsM (n : Nat) (w : List Int) : List Int := (List.range' n (w.length + 1 - n)).foldl (stepC n w) []
theorem stepC_length (n : Nat) (w : List Int) (out : List Int) (i : Nat) : (stepC n w out i).length ≤ out.length + 1 := by
  unfold stepC
  split
  · split
    · omega
    · simp
  · omega
theorem comings_fold_length (n : Nat) (w : List Int) : ∀ d i out, ((List.range' i d).foldl (stepC n w) out).length ≤ out.length + d := by
  intro d
  induction d with
  | zero => intro i out; simp
  | succ d ih =>
    intro i out
    rw [List.range'_succ, List.foldl_cons]
    have := ih (i + 1) (stepC n w out i)
    have := stepC_length n w out i
    omega
theorem comingsM_length (n : Nat) (w : List Int) : (comingsM n w).length ≤ w.length + 1 - n := by
  have := comings_fold_length n w (w.length + 1 - n) n []
  simpa [comingsM] using this
def superWordB (w : List Int) : Bool := decide ((w.length : Int) ≤ 200) && allB w 0 11
end Go.Proofs.YtmcedinafaiokaaDoor.Base
