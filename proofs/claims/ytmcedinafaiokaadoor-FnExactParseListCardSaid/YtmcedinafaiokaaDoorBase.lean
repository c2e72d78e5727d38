/- Plain lemmas about rounds, wrapped numbers and lists that the pure proofs of this seat use; no condition. -/
import Derived.Test.YtmcedinafaiokaaDoorWWords
import Derived.Test.YtmcedinafaiokaaDoorWSized
/-- The printed rows ask for this word under this name. -/
abbrev Go.Proofs.YtmcedinafaiokaaDoor.PrintWords.sized_ints := @Go.Proofs.YtmcedinafaiokaaDoorW.PrintWords.sized_ints
namespace Go.Proofs.YtmcedinafaiokaaDoor.Base
open Go.RowKit Go.Proofs.YtmcedinafaiokaaDoorW.PrintWords

theorem ev_pos {α : Type} {c : Prop} [Decidable c] {A B : Nat → Option α} {r : α} (h : c) (k : Ev A r) : Ev (fun n => if c then A n else B n) r :=
  Ev.congr (fun _ => if_pos h) k
theorem ev_neg {α : Type} {c : Prop} [Decidable c] {A B : Nat → Option α} {r : α} (h : ¬ c) (k : Ev B r) : Ev (fun n => if c then A n else B n) r :=
  Ev.congr (fun _ => if_neg h) k
theorem ev_some {α : Type} {a r : α} (h : a = r) : Ev (fun _ => some a) r := by subst h; exact Ev.now _
theorem ev_to {α : Type} {g : Nat → Option α} {a r : α} (k : Ev g a) (h : a = r) : Ev g r := h ▸ k
/-- A callee that answers a, then what goes on from a. -/
theorem ev_call {α β : Type} {g : Nat → Option α} {f : Nat → α → Option β} {a : α} {r : β} (h : Ev g a) (k : Ev (fun n => f n a) r) : Ev (fun n => (g n).bind (fun t => f n t)) r := Ev.bind h k
/-- A callee without rounds. -/
theorem ev_plain {α β : Type} {g : Option α} {f : Nat → α → Option β} {a : α} {r : β} (h : g = some a) (k : Ev (fun n => f n a) r) : Ev (fun n => g.bind (fun t => f n t)) r := by
  subst h; exact k
theorem ev_const {α : Type} {g : Option α} {a : α} (h : g = some a) : Ev (fun _ => g) a := by subst h; exact Ev.now _
theorem ev_det {α : Type} {g : Nat → Option α} {a b : α} (h : Ev g a) (k : Ev g b) : a = b := by
  obtain ⟨K, h⟩ := h
  obtain ⟨K', k⟩ := k
  have h1 := h (max K K') (by omega)
  have h2 := k (max K K') (by omega)
  rw [h1] at h2
  exact Option.some.inj h2
theorem ev_if {α : Type} {c : Prop} [Decidable c] {A B : Nat → Option α} {r : α} (h1 : c → Ev A r) (h2 : ¬ c → Ev B r) : Ev (fun n => if c then A n else B n) r := by
  by_cases h : c
  · exact ev_pos h (h1 h)
  · exact ev_neg h (h2 h)

/-- A counted loop, told by its state: what holds behind it holds ahead of it. -/
theorem ev_iter {σ ρ : Type} (L : σ → Nat → Nat → Option ρ) (step : σ → Nat → σ) (I : Nat → σ → Prop) (n : Nat)
    (hs : ∀ s i, i < n → I i s → I (i + 1) (step s i) ∧ ∀ r, Ev (L (step s i) (i + 1)) r → Ev (L s i) r) {r : ρ} :
    ∀ d i s, i + d = n → I i s → (I n ((List.range' i d).foldl step s) → Ev (L ((List.range' i d).foldl step s) n) r) → Ev (L s i) r := by
  intro d
  induction d with
  | zero =>
    intro i s h hi k
    obtain rfl : i = n := by omega
    exact k hi
  | succ d ih =>
    intro i s h hi k
    obtain ⟨h1, h2⟩ := hs s i (by omega) hi
    exact h2 r (ih (i + 1) _ (by omega) h1 (by simpa [List.range'_succ] using k))
/-- A counted search that ends at the first hit. -/
theorem ev_find {ρ : Type} (L : Nat → Nat → Option ρ) (p : Nat → Option ρ) (n : Nat) (r0 : ρ)
    (hs : ∀ i, i < n → (∀ r, p i = some r → Ev (L i) r) ∧ (p i = none → ∀ r, Ev (L (i + 1)) r → Ev (L i) r)) (he : Ev (L n) r0) :
    ∀ d i, i + d = n → Ev (L i) (((List.range' i d).findSome? p).getD r0) := by
  intro d
  induction d with
  | zero =>
    intro i h
    obtain rfl : i = n := by omega
    exact he
  | succ d ih =>
    intro i h
    obtain ⟨h1, h2⟩ := hs i (by omega)
    rw [List.range'_succ, List.findSome?_cons]
    cases hp : p i with
    | some r => exact h1 r hp
    | none => exact h2 hp _ (ih (i + 1) (by omega))
/-- An answer at every start, by a measure that each round lowers. -/
theorem nat_strong {P : Nat → Prop} (h : ∀ n, (∀ m, m < n → P m) → P n) (n : Nat) : P n := Nat.strongRecOn n h
theorem foldl_inv {α β : Type} (P : β → Prop) (f : β → α → β) (l : List α) (b : β) (h0 : P b) (h : ∀ b a, a ∈ l → P b → P (f b a)) : P (l.foldl f b) := by
  induction l generalizing b with
  | nil => exact h0
  | cons a l ih => exact ih _ (h b a (by simp) h0) (fun b' a' ha => h b' a' (by simp [ha]))
theorem foldl_congr' {α β : Type} {f g : β → α → β} {l : List α} {b : β} (h : ∀ b a, a ∈ l → f b a = g b a) : l.foldl f b = l.foldl g b := by
  induction l generalizing b with
  | nil => rfl
  | cons a l ih => rw [List.foldl_cons, List.foldl_cons, h b a (by simp)]; exact ih (fun b' a' ha => h b' a' (by simp [ha]))

theorem bne_no (b : Bool) : ¬ ((b != b) = true) := by simp
theorem wrap_id {x : Int} (h : -9223372036854775808 ≤ x ∧ x ≤ 9223372036854775807) : wrap64 x = x := by unfold wrap64; omega
theorem wrap_succ {i : Nat} (h : i < 9223372036854775807) : wrap64 ((i : Int) + 1) = ((i + 1 : Nat) : Int) := by unfold wrap64; omega
theorem wrap_pred {i : Nat} (h : i < 9223372036854775807) : wrap64 (((i + 1 : Nat) : Int) - 1) = (i : Int) := by unfold wrap64; omega

/-! lists of whole numbers, by index -/
theorem rd_nat (xs : List Int) (i : Nat) : rd xs (i : Int) = xs.getD i 0 := by simp [rd]
theorem rd_get (xs : List Int) (i : Nat) (h : i < xs.length) : rd xs (i : Int) = xs[i] := by simp [rd, List.getD_eq_getElem?_getD, List.getElem?_eq_getElem h]
theorem drop_rd (xs : List Int) (i : Nat) (h : i < xs.length) : xs.drop i = rd xs (i : Int) :: xs.drop (i + 1) := by
  rw [rd_get xs i h]; exact List.drop_eq_getElem_cons h
theorem take_rd (xs : List Int) (i : Nat) (h : i < xs.length) : xs.take (i + 1) = xs.take i ++ [rd xs (i : Int)] := by
  rw [rd_get xs i h]; exact List.take_succ_eq_append_getElem h
theorem wf_in {x : Int} (h : (Lit.int .i64 x).wf = true) : -9223372036854775808 ≤ x ∧ x ≤ 9223372036854775807 := by
  simp only [Lit.wf, IntKind.min, IntKind.max, IntKind.signed, IntKind.bits, Bool.and_eq_true, decide_eq_true_eq, if_true] at h
  omega
theorem tmod_nat (a b : Nat) : Int.tmod (a : Int) (b : Int) = ((a % b : Nat) : Int) := (Int.ofNat_tmod a b).symm

/-! words of the specifications -/
def inB (a lo hi : Int) : Bool := decide (lo ≤ a) && decide (a ≤ hi)
theorem inB_iff {a lo hi : Int} : inB a lo hi = true ↔ lo ≤ a ∧ a ≤ hi := by simp [inB]
theorem inB_not {a lo hi : Int} : inB a lo hi = false ↔ ¬ (lo ≤ a ∧ a ≤ hi) := by
  rw [← inB_iff]; simp
def allB (xs : List Int) (lo hi : Int) : Bool := xs.all fun x => inB x lo hi
theorem allB_iff {xs : List Int} {lo hi : Int} : allB xs lo hi = true ↔ ∀ x ∈ xs, lo ≤ x ∧ x ≤ hi := by
  simp [allB, List.all_eq_true, inB_iff]
def cycleB (w : List Int) (k : Int) : Bool := inB k 1 6 && (inB (w.length : Int) 1 1024 && allB w 0 (k - 1))
theorem cycleB_iff {w : List Int} {k : Int} : cycleB w k = true ↔ (1 ≤ k ∧ k ≤ 6) ∧ (1 ≤ w.length ∧ w.length ≤ 1024) ∧ ∀ x ∈ w, 0 ≤ x ∧ x ≤ k - 1 := by
  simp only [cycleB, Bool.and_eq_true, inB_iff, allB_iff]
  refine and_congr Iff.rfl (and_congr ⟨fun h => ⟨by omega, by omega⟩, fun h => ⟨by omega, by omega⟩⟩ Iff.rfl)
/-- The window of length n at a place p. -/
def win (w : List Int) (p n : Nat) : List Int := (List.range' 0 n).map fun j => w.getD ((p + j) % w.length) 0
theorem win_length (w : List Int) (p n : Nat) : (win w p n).length = n := by simp [win]
theorem win_get (w : List Int) (p n j : Nat) (h : j < n) : (win w p n).getD j 0 = w.getD ((p + j) % w.length) 0 := by
  simp [win, List.getD_eq_getElem?_getD, h]
/-- So many numbers, counted from m on. -/
def marks (m : Int) (n : Nat) : List Int := (List.range' 0 n).map fun (j : Nat) => m + (j : Int)
theorem marks_length (m : Int) (n : Nat) : (marks m n).length = n := by simp [marks]
theorem marks_succ (m : Int) (n : Nat) : marks m (n + 1) = m :: marks (m + 1) n := by
  simp only [marks, List.range'_succ, List.map_cons]
  congr 1
  · simp
  · rw [show 0 + 1 = 0 + 1 from rfl, List.range'_eq_map_range, List.range'_eq_map_range, List.map_map, List.map_map]
    apply List.map_congr_left
    intro a _
    simp; omega
/-- At how many of the first n indices two words differ. -/
def far (f g : Nat → Int) (n : Nat) : Nat := (List.range' 0 n).foldl (fun c j => if f j = g j then c else c + 1) 0
theorem far_succ (f g : Nat → Int) (n : Nat) : far f g (n + 1) = far f g n + if f n = g n then 0 else 1 := by
  unfold far
  rw [← List.range'_append (s := 0) (m := n) (n := 1) (step := 1), List.foldl_append]
  simp
  split <;> simp
theorem far_le (f g : Nat → Int) (n : Nat) : far f g n ≤ n := by
  induction n with
  | zero => simp [far]
  | succ n ih => rw [far_succ]; split <;> omega
theorem far_congr {f g f' g' : Nat → Int} {n : Nat} (h : ∀ j, j < n → f j = f' j ∧ g j = g' j) : far f g n = far f' g' n := by
  unfold far
  refine foldl_congr' (fun c j hj => ?_)
  simp at hj
  rw [(h j hj).1, (h j hj).2]
theorem far_comm (f g : Nat → Int) (n : Nat) : far f g n = far g f n := by
  unfold far
  exact foldl_congr' (fun c j _ => by simp only [eq_comm])
def at_ (w : List Int) (p j : Nat) : Int := w.getD ((p + j) % w.length) 0
/-- At how many places the windows of length n at a and at b differ. -/
def farW (w : List Int) (n a b : Nat) : Nat := far (at_ w a) (at_ w b) n
/-- The least number of places at which windows at two places differ, but n at most. -/
def spreadIn (w : List Int) (n : Nat) (i : Nat) (m : Nat) : Nat := (List.range' 0 i).foldl (fun m j => min m (farW w n i j)) m
def spreadM (w : List Int) (n : Nat) : Nat := (List.range' 0 w.length).foldl (fun m i => spreadIn w n i m) n
theorem spreadIn_le (w : List Int) (n i m : Nat) : spreadIn w n i m ≤ m :=
  foldl_inv (fun x => x ≤ m) _ _ _ (Nat.le_refl _) (fun b a _ h => by omega)
theorem spreadM_le (w : List Int) (n : Nat) : spreadM w n ≤ n :=
  foldl_inv (fun x => x ≤ n) _ _ _ (Nat.le_refl _) (fun b a _ h => Nat.le_trans (spreadIn_le w n a b) h)
end Go.Proofs.YtmcedinafaiokaaDoor.Base
