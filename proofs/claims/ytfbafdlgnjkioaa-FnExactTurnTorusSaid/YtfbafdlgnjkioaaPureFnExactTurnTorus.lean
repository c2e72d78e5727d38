/- The pure statement of TurnTorus: program and reference answer alike, for all arguments; no condition. -/
import Derived.Test.YtfbafdlgnjkioaaPFnExactTurnTorusx6
import Derived.Test.YtfbafdlgnjkioaaBase
import Derived.Test.YtfbafdlgnjkioaaLists
import Derived.Test.YtfbafdlgnjkioaaRegs
namespace Go.Proofs.Ytfbafdlgnjkioaa.Pure
open Go.RowKit Go.Proofs.Ytfbafdlgnjkioaa.PFnExactTurnTorus Go.Proofs.YtfbafdlgnjkioaaW.PrintWords Go.Proofs.YtfbafdlgnjkioaaW.PrintLast Go.Proofs.Ytfbafdlgnjkioaa.Base
set_option maxRecDepth 10000
set_option linter.unusedVariables false
set_option linter.unusedSimpArgs false

def rowT (t : List (List Int)) (i : Nat) : List Int := t.getD i []
theorem rd_L1_nat (t : List (List Int)) (i : Nat) : rd_L1 t (i : Int) = rowT t i := by simp [rd_L1, rowT]
theorem rowT_get (t : List (List Int)) (i : Nat) (h : i < t.length) : rowT t i = t[i] := by simp [rowT, List.getD_eq_getElem?_getD, List.getElem?_eq_getElem h]
theorem rowT_mem (t : List (List Int)) (i : Nat) (h : i < t.length) : rowT t i ∈ t := by rw [rowT_get t i h]; exact List.getElem_mem h
theorem drop_rowT (t : List (List Int)) (i : Nat) (h : i < t.length) : t.drop i = rowT t i :: t.drop (i + 1) := by rw [rowT_get t i h]; exact List.drop_eq_getElem_cons h
def rowOk (n : Nat) (row : List Int) : Bool := decide (row.length * n = 16) && allB row 0 1
def formB (t : List (List Int)) : Bool := inB (t.length : Int) 1 16 && t.all (rowOk t.length)
theorem formB_iff {t : List (List Int)} : formB t = true ↔ (1 ≤ t.length ∧ t.length ≤ 16) ∧ ∀ row ∈ t, row.length * t.length = 16 ∧ ∀ x ∈ row, 0 ≤ x ∧ x ≤ 1 := by
  simp only [formB, rowOk, Bool.and_eq_true, inB_iff, List.all_eq_true, decide_eq_true_eq, allB_iff]
  exact and_congr ⟨fun h => ⟨by omega, by omega⟩, fun h => ⟨by omega, by omega⟩⟩ Iff.rfl
/-- The window of a torus, whose rows have c letters. -/
def twin (t : List (List Int)) (c i j : Nat) : List Int := [rd (rowT t i) (j : Int), rd (rowT t i) (((j + 1) % c : Nat) : Int), rd (rowT t ((i + 1) % t.length)) (j : Int), rd (rowT t ((i + 1) % t.length)) (((j + 1) % c : Nat) : Int)]
def rowsW (t : List (List Int)) (c i d : Nat) : List (List Int) := (List.range' i d).flatMap fun i => (List.range' 0 c).map (twin t c i)
theorem rowsW_succ (t : List (List Int)) (c i d : Nat) : rowsW t c i (d + 1) = (List.range' 0 c).map (twin t c i) ++ rowsW t c (i + 1) d := by
  unfold rowsW
  rw [List.range'_succ, List.flatMap_cons]
def bits4 (w : List Int) : Prop := w.length = 4 ∧ ∀ x ∈ w, 0 ≤ x ∧ x ≤ (2 : Int) - 1
theorem twin_bits {t : List (List Int)} {c i j : Nat} (h : formB t = true) (hc : c * t.length = 16) (hi : i < t.length) (hj : j < c) : bits4 (twin t c i j) := by
  obtain ⟨h1, h2⟩ := formB_iff.mp h
  have hrow : ∀ i, i < t.length → ∀ k : Nat, k < c → 0 ≤ rd (rowT t i) (k : Int) ∧ rd (rowT t i) (k : Int) ≤ (2 : Int) - 1 := fun i hi k hk => by
    obtain ⟨g1, g2⟩ := h2 _ (rowT_mem t i hi)
    have hl : (rowT t i).length = c := Nat.eq_of_mul_eq_mul_right (by omega) (g1.trans hc.symm)
    have := g2 (rd (rowT t i) (k : Int)) (by rw [rd_get _ k (by omega)]; exact List.getElem_mem _)
    omega
  have hm := Nat.mod_lt (i + 1) (show 0 < t.length by omega)
  have hk := Nat.mod_lt (j + 1) (show 0 < c by omega)
  refine ⟨rfl, fun x hx => ?_⟩
  simp only [twin, List.mem_cons, List.not_mem_nil, or_false] at hx
  rcases hx with rfl | rfl | rfl | rfl
  · exact hrow i hi j hj
  · exact hrow i hi _ hk
  · exact hrow _ hm j hj
  · exact hrow _ hm _ hk
theorem rowsW_bits {t : List (List Int)} {c : Nat} (h : formB t = true) (hc : c * t.length = 16) : ∀ w ∈ rowsW t c 0 t.length, bits4 w := by
  intro w hw
  simp only [rowsW, List.mem_flatMap, List.mem_range'_1, List.mem_map] at hw
  obtain ⟨i, hi, j, hj, rfl⟩ := hw
  exact twin_bits h hc (by omega) (by omega)
theorem rowsW_length (t : List (List Int)) (c : Nat) : ∀ d i, (rowsW t c i d).length = c * d := by
  intro d
  induction d with
  | zero => intro i; simp [rowsW]
  | succ d ih => intro i; rw [rowsW_succ, List.length_append, ih, List.length_map, List.length_range', Nat.mul_succ, Nat.add_comm]
def codeW (w : List Int) : Nat := (codeN 2 w).toNat
theorem codeW_lt {w : List Int} (h : bits4 w) : codeW w < 16 := by
  have := codeN_range 2 4 w h.1 (fun x hx => by have := h.2 x hx; omega)
  unfold codeW
  have : (2 ^ 4 : Nat) = 16 := rfl
  omega
theorem codeW_inj {u v : List Int} (h : bits4 u) (k : bits4 v) (e : codeW u = codeW v) : u = v := by
  have h1 := codeN_range 2 4 u h.1 (fun x hx => by have := h.2 x hx; omega)
  have h2 := codeN_range 2 4 v k.1 (fun x hx => by have := k.2 x hx; omega)
  unfold codeW at e
  exact codeN_inj 4 u v h.1 k.1 h.2 k.2 (by omega)
def maskF (m : Nat) (w : List Int) : Nat := m ||| (1 <<< codeW w)
theorem maskF_bit (d : Nat) : ∀ (l : List (List Int)) (m : Nat), (l.foldl maskF m).testBit d = (m.testBit d || decide (∃ w ∈ l, codeW w = d)) := by
  intro l
  induction l with
  | nil => intro m; simp
  | cons a l ih =>
    intro m
    rw [List.foldl_cons, ih]
    unfold maskF
    rw [Nat.testBit_or, Bool.or_assoc]
    congr 1
    rw [Bool.eq_iff_iff, Bool.or_eq_true, decide_eq_true_eq, decide_eq_true_eq, Nat.one_shiftLeft, Nat.testBit_two_pow, decide_eq_true_eq]
    simp
theorem maskF_lt : ∀ (l : List (List Int)) (m : Nat), (∀ w ∈ l, bits4 w) → m < 65536 → l.foldl maskF m < 65536 := by
  intro l
  induction l with
  | nil => intro m _ h; exact h
  | cons a l ih =>
    intro m h hm
    rw [List.foldl_cons]
    refine ih _ (fun w hw => h w (by simp [hw])) ?_
    have hc := codeW_lt (h a (by simp))
    have h1 : (1 <<< codeW a) < 2 ^ 16 := by rw [Nat.one_shiftLeft]; exact Nat.pow_lt_pow_right (by omega) hc
    exact Nat.or_lt_two_pow (n := 16) hm h1
theorem mask_all {m : Nat} (hm : m < 65536) : m = 65535 ↔ ∀ d, d < 16 → m.testBit d = true := by
  have e : (65535 : Nat) = 2 ^ 16 - 1 := rfl
  constructor
  · rintro rfl d hd
    rw [e, Nat.testBit_two_pow_sub_one]; exact decide_eq_true hd
  · intro h
    apply Nat.eq_of_testBit_eq
    intro d
    rw [e, Nat.testBit_two_pow_sub_one]
    by_cases hd : d < 16
    · rw [h d hd, decide_eq_true hd]
    · rw [decide_eq_false hd]
      exact Nat.testBit_lt_two_pow (Nat.lt_of_lt_of_le hm (by rw [show (65536 : Nat) = 2 ^ 16 from rfl]; exact Nat.pow_le_pow_right (by omega) (by omega)))
/-- Sixteen windows: all numbers come just where no window comes twice. -/
theorem mask_nodup (l : List (List Int)) (hl : l.length = 16) (hb : ∀ w ∈ l, bits4 w) : l.foldl maskF 0 = 65535 ↔ l.Nodup := by
  have hget : ∀ i, (h : i < l.length) → bits4 l[i] := fun i h => hb _ (List.getElem_mem h)
  rw [mask_all (maskF_lt l 0 hb (by omega))]
  simp only [maskF_bit, Nat.zero_testBit, Bool.false_or, decide_eq_true_eq]
  constructor
  · intro h
    refine List.pairwise_iff_getElem.mpr (fun i j hi hj hij e => ?_)
    have hex : ∀ d, d < 16 → ∃ p, ∃ hp : p < l.length, codeW l[p] = d ∧ p ≠ j := fun d hd => by
      obtain ⟨w, hw, hc⟩ := h d hd
      obtain ⟨p, hp, rfl⟩ := List.getElem_of_mem hw
      by_cases c : p = j
      · subst c
        exact ⟨i, hi, by rw [e]; exact hc, by omega⟩
      · exact ⟨p, hp, hc, c⟩
    have hf : ∃ f : Nat → Nat, ∀ d, d < 16 → ∃ hp : f d < l.length, codeW (l[f d]) = d ∧ f d ≠ j := by
      refine ⟨fun d => if hd : d < 16 then (hex d hd).choose else 0, fun d hd => ?_⟩
      simp only [dif_pos hd]
      exact (hex d hd).choose_spec
    obtain ⟨f, hf⟩ := hf
    obtain ⟨a, b, h1, h2, h3⟩ := pigeon 15 (fun d => if f d < j then f d else f d - 1) (fun d hd => by
      obtain ⟨hp, _, hne⟩ := hf d (by omega)
      show (if f d < j then f d else f d - 1) < 15
      split <;> omega)
    obtain ⟨pa, ca, na⟩ := hf a (by omega)
    obtain ⟨pb, cb, nb⟩ := hf b (by omega)
    have h4 : (if f a < j then f a else f a - 1) = (if f b < j then f b else f b - 1) := h3
    have h5 : f a = f b := by split at h4 <;> split at h4 <;> omega
    have h6 : codeW (l[f a]'pa) = codeW (l[f b]'pb) := by congr 1; exact getElem_congr rfl h5 _
    omega
  · intro hn d hd
    have hpw := List.pairwise_iff_getElem.mp hn
    obtain ⟨i, j, h1, h2, e⟩ := pigeon 16 (fun i => if h : i < l.length then codeW l[i] else d) (fun i hi => by
      show (if h : i < l.length then codeW l[i] else d) < 16
      split
      · rename_i h; exact codeW_lt (hget i h)
      · exact hd)
    have e2 : (if h : i < l.length then codeW l[i] else d) = (if h : j < l.length then codeW l[j] else d) := e
    rw [dif_pos (show i < l.length by omega)] at e2
    by_cases c : j < l.length
    · rw [dif_pos c] at e2
      exact absurd (codeW_inj (hget i (by omega)) (hget j c) e2) (hpw i j (by omega) c h1)
    · rw [dif_neg c] at e2
      exact ⟨l[i]'(by omega), List.getElem_mem _, e2⟩
def specW : List (List Int) → List (List Int) → Bool
  | _, [] => true
  | acc, w :: l => if w ∈ acc then false else specW (acc ++ [w]) l
theorem specW_iff : ∀ (l acc : List (List Int)), acc.Nodup → (specW acc l = true ↔ (acc ++ l).Nodup) := by
  intro l
  induction l with
  | nil => intro acc h; simp [specW, h]
  | cons w l ih =>
    intro acc h
    unfold specW
    by_cases c : w ∈ acc
    · rw [if_pos c]
      refine ⟨fun h => (by cases h), fun hn => ?_⟩
      rw [List.nodup_append] at hn
      exact absurd rfl (hn.2.2 w c w (by simp))
    · rw [if_neg c, ih (acc ++ [w]) (by
        rw [List.nodup_append]
        refine ⟨h, by simp, fun a ha b hb => ?_⟩
        rw [List.mem_singleton] at hb
        rintro rfl
        exact c (hb ▸ ha)), List.append_assoc]
      rfl

theorem impl_within_eq (a lo hi : Int) : impl_within.f a lo hi = some (inB a lo hi) := by
  unfold impl_within.f inB
  by_cases h : a ≥ lo
  · rw [if_pos h]; simp [h]
  · rw [if_neg h]; simp [show ¬ lo ≤ a from h]

theorem impl_allWithin_loop (lo hi : Int) (xs : List Int) (hx : xs.length ≤ 1000000000000) : ∀ (d i : Nat), i + d = xs.length →
    Ev (fun k => impl_allWithin.l0 k lo hi xs (xs.length : Int) (i : Int)) (allB (xs.drop i) lo hi) := by
  intro d
  induction d with
  | zero =>
    intro i h
    rw [List.drop_eq_nil_of_le (by omega)]
    refine Ev.step (f := fun _ => some true) (fun k => ?_) (Ev.now _)
    simp only [impl_allWithin.l0]; rw [if_neg (by omega)]
  | succ d ih =>
    intro i h
    have hlt : i < xs.length := by omega
    rw [drop_rd xs i hlt]
    refine Ev.step (f := fun k => if inB (rd xs (i : Int)) lo hi = true then impl_allWithin.l0 k lo hi xs (xs.length : Int) ((i + 1 : Nat) : Int) else some false) (fun k => ?_) ?_
    · simp only [impl_allWithin.l0]; rw [if_pos (by omega), if_pos (by omega), if_pos (by omega), impl_within_eq, wrap_succ (by omega)]; rfl
    · by_cases hb : inB (rd xs (i : Int)) lo hi = true
      · exact ev_pos hb (ev_to (ih (i + 1) (by omega)) (by simp [allB, hb]))
      · exact ev_neg hb (ev_some (by simp [allB, Bool.eq_false_iff.mpr hb]))
theorem impl_allWithin_ev (lo hi : Int) (xs : List Int) (hx : xs.length ≤ 1000000000000) : Ev (fun k => impl_allWithin.f k xs lo hi) (allB xs lo hi) :=
  impl_allWithin_loop lo hi xs hx xs.length 0 (by omega)

theorem impl_isTorusForm_loop (t : List (List Int)) (ht : t.length ≤ 16) (hr : ∀ row ∈ t, row.length ≤ 1048576) : ∀ d i : Nat, i + d = t.length → Ev (fun q => impl_isTorusForm.l0 q t (t.length : Int) (i : Int) t) ((t.drop i).all (rowOk t.length)) := by
  intro d
  induction d with
  | zero =>
    intro i h
    rw [List.drop_eq_nil_of_le (by omega)]
    exact Ev.step (fun k => by simp only [impl_isTorusForm.l0]; rfl) (ev_neg (by omega) (ev_some rfl))
  | succ d ih =>
    intro i h
    have hb := hr _ (rowT_mem t i (by omega))
    rw [drop_rowT t i (by omega), List.all_cons]
    refine Ev.step (fun k => by simp only [impl_isTorusForm.l0]; rfl) (ev_pos (by omega) (ev_pos (by omega) (ev_pos (by omega) ?_)))
    have hmul : (rowT t i).length * t.length ≤ 1048576 * 16 := Nat.mul_le_mul hb ht
    rw [rd_L1_nat, wrap_succ (by omega), ← Int.natCast_mul, wrap_id (by omega)]
    refine ev_if (fun h1 => ?_) (fun h1 => ?_)
    · refine ev_call (impl_allWithin_ev 0 1 _ (by omega)) (ev_if (fun h2 => ?_) (fun h2 => ev_some ?_))
      · refine ev_to (ih (i + 1) (by omega)) ?_
        have : rowOk t.length (rowT t i) = true := by unfold rowOk; rw [decide_eq_true (by omega), h2]; rfl
        rw [this]; rfl
      · have : rowOk t.length (rowT t i) = false := by unfold rowOk; rw [Bool.eq_false_iff.mpr h2]; simp
        rw [this]; rfl
    · refine ev_some ?_
      have : rowOk t.length (rowT t i) = false := by unfold rowOk; rw [decide_eq_false (by omega)]; rfl
      rw [this]; rfl
theorem impl_isTorusForm_ev (t : List (List Int)) (hr : ∀ row ∈ t, row.length ≤ 1048576) : Ev (fun q => impl_isTorusForm.f q t) (formB t) := by
  unfold impl_isTorusForm.f formB
  refine ev_plain (impl_within_eq _ _ _) (ev_if (fun h => ?_) (fun h => ev_some (by rw [Bool.eq_false_iff.mpr h]; rfl)))
  have := inB_iff.mp h
  refine ev_to (impl_isTorusForm_loop t (by omega) hr t.length 0 (by omega)) ?_
  rw [h]; rfl

theorem spec_l1In_eq (a lo hi : Int) : spec_l1In.f a lo hi = some (inB a lo hi) := by
  unfold spec_l1In.f inB
  by_cases h : a ≥ lo
  · rw [if_pos h]; simp [h]
  · rw [if_neg h]; simp [show ¬ lo ≤ a from h]

theorem spec_l1All_loop (lo hi : Int) (xs : List Int) (hx : xs.length ≤ 1000000000000) : ∀ (d i : Nat), i + d = xs.length →
    Ev (fun k => spec_l1All.l0 k lo hi xs (xs.length : Int) (i : Int)) (allB (xs.drop i) lo hi) := by
  intro d
  induction d with
  | zero =>
    intro i h
    rw [List.drop_eq_nil_of_le (by omega)]
    refine Ev.step (f := fun _ => some true) (fun k => ?_) (Ev.now _)
    simp only [spec_l1All.l0]; rw [if_neg (by omega)]
  | succ d ih =>
    intro i h
    have hlt : i < xs.length := by omega
    rw [drop_rd xs i hlt]
    refine Ev.step (f := fun k => if inB (rd xs (i : Int)) lo hi = true then spec_l1All.l0 k lo hi xs (xs.length : Int) ((i + 1 : Nat) : Int) else some false) (fun k => ?_) ?_
    · simp only [spec_l1All.l0]; rw [if_pos (by omega), if_pos (by omega), if_pos (by omega), spec_l1In_eq, wrap_succ (by omega)]; rfl
    · by_cases hb : inB (rd xs (i : Int)) lo hi = true
      · exact ev_pos hb (ev_to (ih (i + 1) (by omega)) (by simp [allB, hb]))
      · exact ev_neg hb (ev_some (by simp [allB, Bool.eq_false_iff.mpr hb]))
theorem spec_l1All_ev (lo hi : Int) (xs : List Int) (hx : xs.length ≤ 1000000000000) : Ev (fun k => spec_l1All.f k xs lo hi) (allB xs lo hi) :=
  spec_l1All_loop lo hi xs hx xs.length 0 (by omega)

theorem div16 (n : Nat) (h : 1 ≤ n) : wrap64 ((16 : Int) / (n : Int)) = ((16 / n : Nat) : Int) := by
  have e : (16 : Int) / (n : Int) = ((16 / n : Nat) : Int) := by rw [Int.natCast_ediv]; rfl
  have hle := Nat.div_le_self 16 n
  rw [e]
  clear e
  generalize 16 / n = q at hle ⊢
  exact wrap_id (by omega)
theorem spec_suTorus_loop (t : List (List Int)) (ht : 1 ≤ t.length ∧ t.length ≤ 16) (hd : 16 % t.length = 0) (hr : ∀ row ∈ t, row.length ≤ 1048576) : ∀ d i : Nat, i + d = t.length → Ev (fun q => spec_suTorus.l0 q (t.length : Int) t (t.length : Int) (i : Int)) ((t.drop i).all (rowOk t.length)) := by
  intro d
  induction d with
  | zero =>
    intro i h
    rw [List.drop_eq_nil_of_le (by omega)]
    exact Ev.step (fun k => by simp only [spec_suTorus.l0]; rfl) (ev_neg (by omega) (ev_some rfl))
  | succ d ih =>
    intro i h
    have hb := hr _ (rowT_mem t i (by omega))
    have hiff : (rowT t i).length = 16 / t.length ↔ (rowT t i).length * t.length = 16 := by
      have hm := Nat.div_mul_cancel (Nat.dvd_of_mod_eq_zero hd)
      constructor
      · intro e; rw [e]; exact hm
      · intro e; exact Nat.eq_of_mul_eq_mul_right (by omega) (e.trans hm.symm)
    rw [drop_rowT t i (by omega), List.all_cons]
    refine Ev.step (fun k => by simp only [spec_suTorus.l0]; rfl) (ev_pos (by omega) (ev_pos (by omega) (ev_pos (by omega) (ev_neg (by omega) ?_))))
    rw [rd_L1_nat, wrap_succ (by omega), div16 _ ht.1]
    refine ev_if (fun h1 => ?_) (fun h1 => ?_)
    · refine ev_call (spec_l1All_ev 0 1 _ (by omega)) (ev_if (fun h2 => ?_) (fun h2 => ev_some ?_))
      · refine ev_to (ih (i + 1) (by omega)) ?_
        have : rowOk t.length (rowT t i) = true := by unfold rowOk; rw [decide_eq_true (hiff.mp (by omega)), h2]; rfl
        rw [this]; rfl
      · have : rowOk t.length (rowT t i) = false := by unfold rowOk; rw [Bool.eq_false_iff.mpr h2]; simp
        rw [this]; rfl
    · refine ev_some ?_
      have : rowOk t.length (rowT t i) = false := by unfold rowOk; rw [decide_eq_false (fun e => h1 (by have := hiff.mpr e; omega))]; rfl
      rw [this]; rfl
theorem spec_suTorus_ev (t : List (List Int)) (hr : ∀ row ∈ t, row.length ≤ 1048576) : Ev (fun q => spec_suTorus.f q t) (formB t) := by
  unfold spec_suTorus.f
  refine ev_plain (spec_l1In_eq _ _ _) (ev_if (fun h => ?_) (fun h => ?_))
  · have hl := inB_iff.mp h
    refine ev_neg (by omega) (Ev.step (fun k => by simp only [spec_suTorus.j0]; rfl) ?_)
    rw [show ((16 : Int) % (t.length : Int)) = ((16 % t.length : Nat) : Int) by simp]
    by_cases c : 16 % t.length = 0
    · refine ev_neg (by rw [c]; simp) (ev_to (spec_suTorus_loop t (by omega) c hr t.length 0 (by omega)) ?_)
      unfold formB
      rw [h]; rfl
    · refine ev_pos (by simp only [bne_iff_ne, ne_eq]; omega) (ev_some ?_)
      cases hf : formB t with
      | false => rfl
      | true =>
        obtain ⟨_, h2⟩ := formB_iff.mp hf
        have h3 := (h2 _ (rowT_mem t 0 (by omega))).1
        exact absurd (by rw [← h3, Nat.mul_mod_left]) c
  · refine Ev.step (fun k => by simp only [spec_suTorus.j0]; rfl) (ev_pos (by trivial) (ev_some ?_))
    unfold formB
    rw [Bool.eq_false_iff.mpr h]; rfl

theorem laws_toIntS_loop (l : List Int) (hl : l.length ≤ 35184372088832) : ∀ (d i : Nat) (ys : List Int), i + d = l.length → ys.length = l.length → ys.take i = l.take i →
    Ev (fun k => laws_toIntS.l0 k l ys (i : Int)) l := by
  intro d
  induction d with
  | zero =>
    intro i ys h1 h2 h3
    refine Ev.step (f := fun _ => some ys) (fun k => ?_) (ev_some ?_)
    · simp only [laws_toIntS.l0]; rw [if_neg (by omega)]
    · rw [List.take_of_length_le (by omega), List.take_of_length_le (by omega)] at h3
      exact h3
  | succ d ih =>
    intro i ys h1 h2 h3
    have hi : i < l.length := by omega
    refine Ev.step (f := fun k => laws_toIntS.l0 k l (ys.set i (rd l (i : Int))) ((i + 1 : Nat) : Int)) (fun k => ?_) (ih (i + 1) _ (by omega) (by simp [h2]) ?_)
    · simp only [laws_toIntS.l0]; rw [if_pos (by omega), if_pos (by omega), if_pos (by omega), wrap_succ (by omega), Int.toNat_natCast]
    · rw [take_rd l i hi, List.take_succ_eq_append_getElem (by simp; omega)]
      rw [List.take_set, h3, List.set_eq_of_length_le (by simp; omega)]; simp
theorem laws_toIntS_ev (l : List Int) (hl : l.length ≤ 35184372088832) : Ev (fun k => laws_toIntS.f k l) l := by
  unfold laws_toIntS.f
  refine ev_pos (by omega) (ev_pos (by omega) ?_)
  exact laws_toIntS_loop l hl l.length 0 _ (by omega) (by simp) rfl

theorem laws_eqIntS_loop (l : List Int) (hl : l.length ≤ 35184372088832) : ∀ (d i : Nat), i + d = l.length → Ev (fun k => laws_eqIntS.l0 k l l (i : Int)) true := by
  intro d
  induction d with
  | zero =>
    intro i h
    refine Ev.step (f := fun _ => some true) (fun k => ?_) (Ev.now _)
    simp only [laws_eqIntS.l0]; rw [if_neg (by omega)]
  | succ d ih =>
    intro i h
    refine Ev.step (f := fun k => laws_eqIntS.l0 k l l ((i + 1 : Nat) : Int)) (fun k => ?_) (ih (i + 1) (by omega))
    simp only [laws_eqIntS.l0]; rw [if_pos (by omega), if_pos (by omega), if_pos (by omega), if_pos trivial, wrap_succ (by omega)]
theorem laws_eqIntS_ev (l : List Int) (hl : l.length ≤ 35184372088832) : Ev (fun k => laws_eqIntS.f k l l) true := by
  unfold laws_eqIntS.f
  exact ev_pos rfl (laws_eqIntS_loop l hl l.length 0 (by omega))

theorem szIntSS_loop (t : List (List Int)) (ht : t.length ≤ 1048576) (hr : ∀ row ∈ t, row.length ≤ maxLen) : ∀ (d i : Nat) (x : Int), i + d = t.length → 0 ≤ x → x ≤ 1048576 → ∃ r : Int, Ev (fun q => laws_szIntSS.l0 q t x (i : Int)) r ∧ (0 ≤ r → ∀ row ∈ t.drop i, row.length ≤ 1048576) := by
  intro d
  induction d with
  | zero =>
    intro i x h _ _
    refine ⟨x, ?_, fun _ row hrow => by rw [List.drop_eq_nil_of_le (by omega)] at hrow; cases hrow⟩
    refine Ev.step (fun k => by simp only [laws_szIntSS.l0]; rfl) ?_
    exact ev_neg (by omega) (Ev.now _)
  | succ d ih =>
    intro i x h h0 h1
    have hlen := hr _ (rowT_mem t i (by omega))
    have ew : wrap64 (x - ((rowT t i).length : Int)) = x - ((rowT t i).length : Int) := by unfold maxLen at hlen; exact wrap_id (by omega)
    rw [drop_rowT t i (by omega)]
    by_cases c : x - ((rowT t i).length : Int) < 0
    · have hsz : laws_szIntS.f (rowT t i) x = some (-1) := by unfold laws_szIntS.f; rw [ew, if_pos c]
      refine ⟨-1, ?_, fun h => by omega⟩
      refine Ev.step (fun k => by simp only [laws_szIntSS.l0]; rfl) ?_
      refine ev_pos (by omega) ?_
      refine ev_pos (by omega) ?_
      rw [rd_L1_nat]
      refine ev_plain hsz ?_
      exact ev_pos (by omega) (Ev.now _)
    · have hsz : laws_szIntS.f (rowT t i) x = some (x - ((rowT t i).length : Int)) := by unfold laws_szIntS.f; rw [ew, if_neg c]
      clear ew
      obtain ⟨r, e, hh⟩ := ih (i + 1) (x - ((rowT t i).length : Int)) (by omega) (by omega) (by omega)
      refine ⟨r, ?_, fun h row hrow => ?_⟩
      · refine Ev.step (fun k => by simp only [laws_szIntSS.l0]; rfl) ?_
        refine ev_pos (by omega) ?_
        refine ev_pos (by omega) ?_
        rw [rd_L1_nat]
        refine ev_plain hsz ?_
        refine ev_neg (by omega) ?_
        rw [wrap_succ (by omega)]
        exact e
      · rcases List.mem_cons.mp hrow with rfl | m
        · omega
        · exact hh h row m
theorem szTorus_ev (t : List (List Int)) (ht : t.length ≤ maxLen) (hr : ∀ row ∈ t, row.length ≤ maxLen) : ∃ r : Int, Ev (fun q => laws_szTorus.f q t 1048576) r ∧ (0 ≤ r → t.length ≤ 1048576 ∧ ∀ row ∈ t, row.length ≤ 1048576) := by
  have ew : wrap64 (1048576 - (t.length : Int)) = 1048576 - (t.length : Int) := by unfold maxLen at ht; exact wrap_id (by omega)
  unfold laws_szTorus.f laws_szIntSS.f
  rw [ew]
  clear ew
  by_cases c : 1048576 - (t.length : Int) < 0
  · exact ⟨-1, ev_call (ev_pos c (Ev.now _)) (ev_pos (by omega) (Ev.now _)), fun h => by omega⟩
  · obtain ⟨r, e, hh⟩ := szIntSS_loop t (by omega) hr t.length 0 (1048576 - (t.length : Int)) (by omega) (by omega) (by omega)
    by_cases c2 : r < 0
    · exact ⟨-1, ev_call (ev_neg c e) (ev_pos c2 (Ev.now _)), fun h => by omega⟩
    · refine ⟨r, ev_call (ev_neg c e) (ev_neg c2 (Ev.now _)), fun h => ⟨by omega, fun row hrow => hh h row (by rw [List.drop_zero]; exact hrow)⟩⟩
theorem toIntSS_loop (t : List (List Int)) (ht : t.length ≤ 1048576) (hr : ∀ row ∈ t, row.length ≤ 1048576) : ∀ (d i : Nat) (y : List (List Int)), i + d = t.length → y.length = t.length → y.take i = t.take i → Ev (fun q => laws_toIntSS.l0 q t y (i : Int)) t := by
  intro d
  induction d with
  | zero =>
    intro i y h hy hk
    refine Ev.step (fun k => by simp only [laws_toIntSS.l0]; rfl) ?_
    refine ev_neg (by omega) (ev_some ?_)
    rw [List.take_of_length_le (by omega), List.take_of_length_le (by omega)] at hk
    exact hk
  | succ d ih =>
    intro i y h hy hk
    have hlen := hr _ (rowT_mem t i (by omega))
    refine Ev.step (fun k => by simp only [laws_toIntSS.l0]; rfl) ?_
    refine ev_pos (by omega) ?_
    refine ev_pos (by omega) ?_
    rw [rd_L1_nat, wrap_succ (by omega), Int.toNat_natCast]
    refine ev_call (laws_toIntS_ev _ (by omega)) ?_
    refine ev_pos (by omega) ?_
    refine ih (i + 1) _ (by omega) (by rw [List.length_set]; exact hy) ?_
    rw [List.take_succ_eq_append_getElem (by rw [List.length_set]; omega), List.take_succ_eq_append_getElem (by omega), List.take_set_of_le (by omega), hk, List.getElem_set_self, rowT_get t i (by omega)]
theorem toTorus_ev (t : List (List Int)) (ht : t.length ≤ 1048576) (hr : ∀ row ∈ t, row.length ≤ 1048576) : Ev (fun q => laws_toTorus.f q t) t := by
  unfold laws_toTorus.f laws_toIntSS.f
  refine ev_call (ev_pos (by omega) (ev_pos (by omega) (toIntSS_loop t ht hr t.length 0 _ (by omega) (by simp) (by simp)))) (Ev.now _)
theorem eqIntSS_loop (t : List (List Int)) (ht : t.length ≤ 1048576) (hr : ∀ row ∈ t, row.length ≤ 1048576) : ∀ (d i : Nat), i + d = t.length → Ev (fun q => laws_eqIntSS.l0 q t t (i : Int)) true := by
  intro d
  induction d with
  | zero =>
    intro i h
    refine Ev.step (fun k => by simp only [laws_eqIntSS.l0]; rfl) ?_
    exact ev_neg (by omega) (Ev.now _)
  | succ d ih =>
    intro i h
    have hlen := hr _ (rowT_mem t i (by omega))
    refine Ev.step (fun k => by simp only [laws_eqIntSS.l0]; rfl) ?_
    refine ev_pos (by omega) ?_
    refine ev_pos (by omega) ?_
    refine ev_pos (by omega) ?_
    rw [rd_L1_nat, wrap_succ (by omega)]
    refine ev_call (laws_eqIntS_ev _ (by omega)) ?_
    exact ev_pos rfl (ih (i + 1) (by omega))
theorem eqTorus_ev (t : List (List Int)) (ht : t.length ≤ 1048576) (hr : ∀ row ∈ t, row.length ≤ 1048576) : Ev (fun q => laws_eqTorus.f q t t) true := by
  unfold laws_eqTorus.f laws_eqIntSS.f
  exact ev_call (ev_pos rfl (eqIntSS_loop t ht hr t.length 0 (by omega))) (ev_pos rfl (Ev.now _))

def colsT (t : List (List Int)) : Nat := 16 / t.length
theorem form_row {t : List (List Int)} (h : formB t = true) {i : Nat} (hi : i < t.length) : (rowT t i).length = colsT t := by
  obtain ⟨⟨h1, h2⟩, h3⟩ := formB_iff.mp h
  have := (h3 _ (rowT_mem t i hi)).1
  unfold colsT
  exact (Nat.div_eq_of_eq_mul_left (by omega) this.symm).symm
theorem form_cols {t : List (List Int)} (h : formB t = true) : colsT t * t.length = 16 := by
  obtain ⟨⟨h1, h2⟩, h3⟩ := formB_iff.mp h
  rw [← form_row h (i := 0) (by omega)]
  exact (h3 _ (rowT_mem t 0 (by omega))).1
theorem tmod_nat (a b : Nat) : Int.tmod (a : Int) (b : Int) = ((a % b : Nat) : Int) := rfl

def turnT (t : List (List Int)) (down right : Nat) : List (List Int) := (List.range' 0 t.length).map fun i => win (rowT t ((i + down) % t.length)) right (colsT t)
def TurnTorusM (t : List (List Int)) (down right : Int) : List (List Int) × Bool := if formB t = true ∧ inB down 0 ((t.length : Int) - 1) = true ∧ inB right 0 ((colsT t : Int) - 1) = true then (turnT t down.toNat right.toNat, true) else ([], false)
theorem turnT_row {t : List (List Int)} {down right : Nat} : ∀ row ∈ turnT t down right, row.length ≤ 16 := by
  intro row h
  obtain ⟨i, _, rfl⟩ := List.mem_map.mp h
  rw [win_length]
  unfold colsT
  exact Nat.div_le_self _ _
theorem TurnTorusM_small (t : List (List Int)) (down right : Int) : (TurnTorusM t down right).1.length ≤ 16 ∧ ∀ row ∈ (TurnTorusM t down right).1, row.length ≤ 16 := by
  unfold TurnTorusM
  split
  · rename_i h
    have := (formB_iff.mp h.1).1
    exact ⟨by unfold turnT; simp; omega, turnT_row⟩
  · exact ⟨by simp, fun row h => by cases h⟩

theorem laws_markIntS_loop : ∀ (d i : Nat) (ys : List Int) (m : Int), i + d = ys.length → 0 ≤ m → m + d ≤ 1000000000000000 → ys.length ≤ 35184372088832 →
    Ev (fun k => laws_markIntS.l0 k ys m (i : Int)) (m + (d : Int), ys.take i ++ marks m d) := by
  intro d
  induction d with
  | zero =>
    intro i ys m h1 h2 h3 h4
    refine Ev.step (f := fun _ => some (m, ys)) (fun k => ?_) (ev_some ?_)
    · simp only [laws_markIntS.l0]; rw [if_neg (by omega)]
    · rw [List.take_of_length_le (by omega)]; simp [marks]
  | succ d ih =>
    intro i ys m h1 h2 h3 h4
    refine Ev.step (f := fun k => laws_markIntS.l0 k (ys.set i m) (m + 1) ((i + 1 : Nat) : Int)) (fun k => ?_) (ev_to (ih (i + 1) _ (m + 1) (by simp; omega) (by omega) (by omega) (by simpa using h4)) ?_)
    · simp only [laws_markIntS.l0]; rw [if_pos (by omega), if_pos (by omega), wrap_succ (by omega), wrap_id (by omega), Int.toNat_natCast]
    · rw [marks_succ, List.take_succ_eq_append_getElem (by simp; omega), List.take_set, List.set_eq_of_length_le (by simp; omega)]
      refine Prod.ext (by simp; omega) ?_
      simp
theorem laws_markIntS_ev (l : List Int) (m : Int) (h2 : 0 ≤ m) (h3 : m ≤ 900000000000000) (h4 : l.length ≤ 35184372088832) : Ev (fun k => laws_markIntS.f k l m) (m + (l.length : Int), marks m l.length) :=
  ev_to (laws_markIntS_loop l.length 0 l m (by omega) h2 (by omega) h4) (by simp)

theorem laws_heldIntS_loop (zs : List Int) (hz : zs.length ≤ 35184372088832) : ∀ (d i : Nat) (m : Int), i + d = zs.length → 0 ≤ m → m + d ≤ 1000000000000000 → zs.drop i = marks m d →
    Ev (fun k => laws_heldIntS.l0 k zs m (i : Int)) (m + (d : Int)) := by
  intro d
  induction d with
  | zero =>
    intro i m h1 h2 h3 h4
    refine Ev.step (f := fun _ => some m) (fun k => ?_) (ev_some (by simp))
    simp only [laws_heldIntS.l0]; rw [if_neg (by omega)]
  | succ d ih =>
    intro i m h1 h2 h3 h4
    rw [drop_rd zs i (by omega), marks_succ, List.cons.injEq] at h4
    refine Ev.step (f := fun k => laws_heldIntS.l0 k zs (m + 1) ((i + 1 : Nat) : Int)) (fun k => ?_) (ev_to (ih (i + 1) (m + 1) (by omega) (by omega) (by omega) h4.2) (by omega))
    simp only [laws_heldIntS.l0]; rw [if_pos (by omega), if_pos (by omega), if_pos h4.1, wrap_succ (by omega), wrap_id (by omega)]
theorem laws_heldIntS_ev (m : Int) (n : Nat) (h2 : 0 ≤ m) (h3 : m ≤ 900000000000000) (h4 : n ≤ 35184372088832) : Ev (fun k => laws_heldIntS.f k (marks m n) m) (m + (n : Int)) :=
  laws_heldIntS_loop (marks m n) (by simpa [marks_length] using h4) n 0 m (by simp [marks_length]) h2 (by omega) rfl

def marksSS : Int → List (List Int) → List (List Int)
  | _, [] => []
  | m, row :: t => marks m row.length :: marksSS (m + (row.length : Int)) t
def totalL : List (List Int) → Nat
  | [] => 0
  | row :: t => row.length + totalL t
theorem totalL_cons (row : List Int) (t : List (List Int)) : totalL (row :: t) = row.length + totalL t := rfl
theorem totalL_le (c : Nat) : ∀ (t : List (List Int)), (∀ row ∈ t, row.length ≤ c) → totalL t ≤ t.length * c
  | [], _ => by simp [totalL]
  | row :: t, h => by
    have h1 := h row (by simp)
    have h2 := totalL_le c t (fun r hr => h r (by simp [hr]))
    unfold totalL
    rw [List.length_cons, Nat.add_mul, Nat.one_mul]
    omega
theorem marksSS_length : ∀ (t : List (List Int)) (m : Int), (marksSS m t).length = t.length
  | [], _ => rfl
  | row :: t, m => by unfold marksSS; rw [List.length_cons, marksSS_length t, List.length_cons]
theorem getD_mid (done rest : List (List Int)) (row : List Int) : (done ++ row :: rest).getD ((done.length : Nat) : Int).toNat [] = row := by
  rw [Int.toNat_natCast, List.getD_eq_getElem?_getD, List.getElem?_append_right (Nat.le_refl _), Nat.sub_self]
  rfl
theorem laws_markIntSS_ev : ∀ (rest done : List (List Int)) (m : Int), 0 ≤ m → m + (totalL rest : Int) ≤ 10000000000000 → done.length + rest.length ≤ 1000000000000 → Ev (fun q => laws_markIntSS.l0 q (done ++ rest) m ((done.length : Nat) : Int)) (m + (totalL rest : Int), done ++ marksSS m rest) := by
  intro rest
  induction rest with
  | nil =>
    intro done m h0 h1 h2
    refine Ev.step (fun k => by simp only [laws_markIntSS.l0]; rfl) ?_
    refine ev_neg (by simp) (ev_some ?_)
    simp [totalL, marksSS]
  | cons row rest ih =>
    intro done m h0 h1 h2
    have ht : (totalL (row :: rest) : Int) = (row.length : Int) + (totalL rest : Int) := by rw [totalL_cons]; omega
    rw [List.length_cons] at h2
    refine Ev.step (fun k => by simp only [laws_markIntSS.l0]; rfl) ?_
    refine ev_pos (by simp; omega) ?_
    refine ev_pos (by omega) ?_
    rw [getD_mid]
    refine ev_call (laws_markIntS_ev row m h0 (by omega) (by omega)) ?_
    dsimp only
    have hs : (done ++ row :: rest).set ((done.length : Nat) : Int).toNat (marks m row.length) = (done ++ [marks m row.length]) ++ rest := by
      rw [Int.toNat_natCast, List.set_append_right _ _ (Nat.le_refl _), Nat.sub_self]
      simp
    have hl : wrap64 (((done.length : Nat) : Int) + 1) = (((done ++ [marks m row.length]).length : Nat) : Int) := by rw [wrap_succ (by omega)]; simp
    rw [hs, hl]
    refine ev_to (ih (done ++ [marks m row.length]) (m + (row.length : Int)) (by omega) (by omega) (by simp; omega)) ?_
    rw [ht]
    show _ = (_, done ++ (marks m row.length :: marksSS (m + (row.length : Int)) rest))
    rw [List.append_assoc]
    congr 1
    omega
theorem laws_heldIntSS_ev : ∀ (rest : List (List Int)) (done : List (List Int)) (m : Int), 0 ≤ m → m + (totalL rest : Int) ≤ 10000000000000 → done.length + rest.length ≤ 1000000000000 → Ev (fun q => laws_heldIntSS.l0 q (done ++ marksSS m rest) m ((done.length : Nat) : Int)) (m + (totalL rest : Int)) := by
  intro rest
  induction rest with
  | nil =>
    intro done m h0 h1 h2
    refine Ev.step (fun k => by simp only [laws_heldIntSS.l0]; rfl) ?_
    refine ev_neg (by simp [marksSS]) (ev_some ?_)
    simp [totalL]
  | cons row rest ih =>
    intro done m h0 h1 h2
    have ht : (totalL (row :: rest) : Int) = (row.length : Int) + (totalL rest : Int) := by rw [totalL_cons]; omega
    rw [List.length_cons] at h2
    have hrd : rd_L1 (done ++ marksSS m (row :: rest)) ((done.length : Nat) : Int) = marks m row.length := by
      rw [rd_L1_nat]
      unfold rowT marksSS
      rw [List.getD_eq_getElem?_getD, List.getElem?_append_right (Nat.le_refl _), Nat.sub_self]
      rfl
    refine Ev.step (fun k => by simp only [laws_heldIntSS.l0]; rfl) ?_
    refine ev_pos (by rw [List.length_append, marksSS_length, List.length_cons]; omega) ?_
    refine ev_pos (by omega) ?_
    rw [hrd]
    refine ev_call (laws_heldIntS_ev m row.length h0 (by omega) (by omega)) ?_
    refine ev_neg (by omega) ?_
    have hl : wrap64 (((done.length : Nat) : Int) + 1) = (((done ++ [marks m row.length]).length : Nat) : Int) := by rw [wrap_succ (by omega)]; simp
    have hd : done ++ marksSS m (row :: rest) = (done ++ [marks m row.length]) ++ marksSS (m + (row.length : Int)) rest := by
      rw [List.append_assoc]; rfl
    rw [hl, hd, ht]
    refine ev_to (ih (done ++ [marks m row.length]) (m + (row.length : Int)) (by omega) (by omega) (by simp; omega)) (by omega)

theorem spec_suRound_loop (w : List Int) (n p : Nat) (hw : 0 < w.length) (hwl : w.length ≤ 1000000000000) (hn : n ≤ 1000000000000) (hp : p ≤ 1000000000000) : ∀ (d i : Nat) (acc : List Int), i + d = n → acc.length = i →
    Ev (fun k => spec_suRound.l0 k w (p : Int) (n : Int) acc (i : Int)) (acc ++ (List.range' i d).map fun j => w.getD ((p + j) % w.length) 0) := by
  intro d
  induction d with
  | zero =>
    intro i acc h ha
    refine Ev.step (f := fun _ => some acc) (fun k => ?_) (ev_some (by simp))
    simp only [spec_suRound.l0]; rw [if_neg (by omega)]
  | succ d ih =>
    intro i acc h ha
    refine Ev.step (f := fun k => spec_suRound.l0 k w (p : Int) (n : Int) (acc ++ [w.getD ((p + i) % w.length) 0]) ((i + 1 : Nat) : Int)) (fun k => ?_) (ev_to (ih (i + 1) _ (by omega) (by simp [ha])) ?_)
    · simp only [spec_suRound.l0]
      rw [if_pos (by omega), if_neg (by omega), wrap_id (x := (p : Int) + (i : Int)) (by omega), show (p : Int) + (i : Int) = ((p + i : Nat) : Int) by omega, tmod_nat, wrap_succ (by omega)]
      have hm := Nat.mod_lt (p + i) hw
      rw [if_pos (by omega), if_pos (by omega), if_pos (by omega), rd_nat]
    · simp [List.range'_succ]
theorem spec_suRound_ev (w : List Int) (n p : Nat) (hw : 0 < w.length) (hwl : w.length ≤ 1000000000000) (hn : n ≤ 1000000000000) (hp : p ≤ 1000000000000) : Ev (fun k => spec_suRound.f k w (p : Int) (n : Int)) (win w p n) :=
  ev_to (spec_suRound_loop w n p hw hwl hn hp n 0 [] (by omega) rfl) (by simp [win])

theorem impl_window_loop (w : List Int) (n p : Nat) (hw : 0 < w.length) (hwl : w.length ≤ 1000000000000) (hn : n ≤ 1000000000000) (hp : p ≤ 1000000000000) : ∀ (d i : Nat) (acc : List Int), i + d = n → acc.length = i →
    Ev (fun k => impl_window.l0 k w (p : Int) acc (n : Int) (i : Int)) (acc ++ (List.range' i d).map fun j => w.getD ((p + j) % w.length) 0) := by
  intro d
  induction d with
  | zero =>
    intro i acc h ha
    refine Ev.step (f := fun _ => some acc) (fun k => ?_) (ev_some (by simp))
    simp only [impl_window.l0]; rw [if_neg (by omega)]
  | succ d ih =>
    intro i acc h ha
    refine Ev.step (f := fun k => impl_window.l0 k w (p : Int) (acc ++ [w.getD ((p + i) % w.length) 0]) (n : Int) ((i + 1 : Nat) : Int)) (fun k => ?_) (ev_to (ih (i + 1) _ (by omega) (by simp [ha])) ?_)
    · simp only [impl_window.l0]
      rw [if_pos (by omega), if_neg (by omega), wrap_id (x := (p : Int) + (i : Int)) (by omega), show (p : Int) + (i : Int) = ((p + i : Nat) : Int) by omega, tmod_nat, wrap_succ (by omega)]
      have hm := Nat.mod_lt (p + i) hw
      rw [if_pos (by omega), if_pos (by omega), if_pos (by omega), rd_nat]
    · simp [List.range'_succ]
theorem impl_window_ev (w : List Int) (n p : Nat) (hw : 0 < w.length) (hwl : w.length ≤ 1000000000000) (hn : n ≤ 1000000000000) (hp : p ≤ 1000000000000) : Ev (fun k => impl_window.f k w (n : Int) (p : Int)) (win w p n) :=
  ev_to (impl_window_loop w n p hw hwl hn hp n 0 [] (by omega) rfl) (by simp [win])

theorem spec_TurnTorus_loop {t : List (List Int)} (h : formB t = true) (down right : Nat) (hd : down < t.length) (hr : right < colsT t) : ∀ (d i : Nat) (acc : List (List Int)), i + d = t.length → acc.length = i →
    Ev (fun q => spec_TurnTorus.l0 q (down : Int) (right : Int) (t.length : Int) (i : Int) t acc) (acc ++ (List.range' i d).map (fun i => win (rowT t ((i + down) % t.length)) right (colsT t)), true) := by
  have hf := (formB_iff.mp h).1
  have hc := form_cols h
  have hcl : colsT t ≤ 16 := by unfold colsT; exact Nat.div_le_self _ _
  intro d
  induction d with
  | zero =>
    intro i acc h1 h2
    refine Ev.step (fun k => by simp only [spec_TurnTorus.l0]; rfl) ?_
    exact ev_neg (by omega) (ev_some (by simp))
  | succ d ih =>
    intro i acc h1 h2
    have hm : (i + down) % t.length < t.length := Nat.mod_lt _ (by omega)
    refine Ev.step (fun k => by simp only [spec_TurnTorus.l0]; rfl) ?_
    rw [wrap_succ (by omega), wrap_id (x := (i : Int) + (down : Int)) (by omega), show (i : Int) + (down : Int) = ((i + down : Nat) : Int) by omega, tmod_nat, rd_L1_nat, form_row h hm]
    refine ev_pos (by omega) ?_
    refine ev_neg (by omega) ?_
    refine ev_pos (by omega) ?_
    refine ev_pos (by omega) ?_
    refine ev_call (spec_suRound_ev _ (colsT t) right (by rw [form_row h hm]; omega) (by rw [form_row h hm]; omega) (by omega) (by omega)) ?_
    refine ev_pos (by omega) ?_
    refine ev_to (ih (i + 1) _ (by omega) (by simp [h2])) ?_
    rw [List.range'_succ, List.map_cons, List.append_assoc]; rfl
theorem impl_TurnTorus_loop {t : List (List Int)} (h : formB t = true) (down right : Nat) (hd : down < t.length) (hr : right < colsT t) : ∀ (d i : Nat) (acc : List (List Int)), i + d = t.length → acc.length = i →
    Ev (fun q => impl_TurnTorus.l0 q (down : Int) (right : Int) (t.length : Int) (i : Int) t acc) (acc ++ (List.range' i d).map (fun i => win (rowT t ((i + down) % t.length)) right (colsT t)), true) := by
  have hf := (formB_iff.mp h).1
  have hc := form_cols h
  have hcl : colsT t ≤ 16 := by unfold colsT; exact Nat.div_le_self _ _
  have h0 : rd_L1 t 0 = rowT t 0 := rd_L1_nat t 0
  intro d
  induction d with
  | zero =>
    intro i acc h1 h2
    refine Ev.step (fun k => by simp only [impl_TurnTorus.l0]; rfl) ?_
    exact ev_neg (by omega) (ev_some (by simp))
  | succ d ih =>
    intro i acc h1 h2
    have hm : (i + down) % t.length < t.length := Nat.mod_lt _ (by omega)
    refine Ev.step (fun k => by simp only [impl_TurnTorus.l0]; rfl) ?_
    rw [wrap_succ (by omega), wrap_id (x := (i : Int) + (down : Int)) (by omega), show (i : Int) + (down : Int) = ((i + down : Nat) : Int) by omega, tmod_nat, rd_L1_nat, h0, form_row h (i := 0) (by omega)]
    refine ev_pos (by omega) ?_
    refine ev_neg (by omega) ?_
    refine ev_pos (by omega) ?_
    refine ev_pos (by omega) ?_
    refine ev_pos (by omega) ?_
    refine ev_call (impl_window_ev _ (colsT t) right (by rw [form_row h hm]; omega) (by rw [form_row h hm]; omega) (by omega) (by omega)) ?_
    refine ev_pos (by omega) ?_
    refine ev_to (ih (i + 1) _ (by omega) (by simp [h2])) ?_
    rw [List.range'_succ, List.map_cons, List.append_assoc]; rfl
theorem spec_TurnTorus_ev (t : List (List Int)) (down right : Int) (hr : ∀ row ∈ t, row.length ≤ 1048576) : Ev (fun q => spec_TurnTorus.f q t down right) (TurnTorusM t down right) := by
  unfold spec_TurnTorus.f TurnTorusM
  refine ev_call (spec_suTorus_ev t hr) (ev_if (fun h => ?_) (fun h => ?_))
  · have hf := (formB_iff.mp h).1
    have hc := form_cols h
    have hcl : colsT t ≤ 16 := by unfold colsT; exact Nat.div_le_self _ _
    have h0 : rd_L1 t 0 = rowT t 0 := rd_L1_nat t 0
    have hcp : 1 ≤ colsT t := by
      rcases Nat.eq_zero_or_pos (colsT t) with e | e
      · rw [e] at hc; omega
      · exact e
    rw [wrap_id (x := (t.length : Int) - 1) (by omega), h0, form_row h (i := 0) (by omega), wrap_id (x := (colsT t : Int) - 1) (by omega)]
    refine ev_plain (spec_l1In_eq _ _ _) (ev_if (fun h1 => ?_) (fun h1 => ?_))
    · refine ev_pos (by omega) ?_
      refine ev_plain (spec_l1In_eq _ _ _) ?_
      refine Ev.step (fun k => by simp only [spec_TurnTorus.j0]; rfl) ?_
      by_cases h2 : inB right 0 ((colsT t : Int) - 1) = true
      · rw [if_pos ⟨h, h1, h2⟩, h2]
        refine ev_neg (by decide) ?_
        obtain ⟨d1, d2⟩ := inB_iff.mp h1
        obtain ⟨r1, r2⟩ := inB_iff.mp h2
        obtain ⟨dn, rfl⟩ := Int.eq_ofNat_of_zero_le d1
        obtain ⟨rn, rfl⟩ := Int.eq_ofNat_of_zero_le r1
        rw [show ((0 : Int)) = ((0 : Nat) : Int) from rfl]
        refine ev_to (spec_TurnTorus_loop h dn rn (by omega) (by omega) t.length 0 [] (by omega) rfl) ?_
        simp [turnT]
      · rw [if_neg (fun c => h2 c.2.2), Bool.eq_false_iff.mpr h2]
        exact ev_pos (by rfl) (Ev.now _)
    · rw [if_neg (fun c => h1 c.2.1)]
      refine Ev.step (fun k => by simp only [spec_TurnTorus.j0]; rfl) ?_
      exact ev_pos (by trivial) (Ev.now _)
  · rw [if_neg (fun c => h c.1)]
    refine Ev.step (fun k => by simp only [spec_TurnTorus.j0]; rfl) ?_
    exact ev_pos (by trivial) (Ev.now _)
theorem impl_TurnTorus_ev (t : List (List Int)) (down right : Int) (hr : ∀ row ∈ t, row.length ≤ 1048576) : Ev (fun q => impl_TurnTorus.f q t down right) (TurnTorusM t down right) := by
  unfold impl_TurnTorus.f TurnTorusM
  refine ev_call (impl_isTorusForm_ev t hr) (ev_if (fun h => ?_) (fun h => ?_))
  · have hf := (formB_iff.mp h).1
    have hc := form_cols h
    have hcl : colsT t ≤ 16 := by unfold colsT; exact Nat.div_le_self _ _
    have h0 : rd_L1 t 0 = rowT t 0 := rd_L1_nat t 0
    have hcp : 1 ≤ colsT t := by
      rcases Nat.eq_zero_or_pos (colsT t) with e | e
      · rw [e] at hc; omega
      · exact e
    rw [wrap_id (x := (t.length : Int) - 1) (by omega), h0, form_row h (i := 0) (by omega), wrap_id (x := (colsT t : Int) - 1) (by omega)]
    refine ev_plain (impl_within_eq _ _ _) (ev_if (fun h1 => ?_) (fun h1 => ?_))
    · refine ev_pos (by omega) ?_
      refine ev_plain (impl_within_eq _ _ _) ?_
      refine Ev.step (fun k => by simp only [impl_TurnTorus.j0]; rfl) ?_
      by_cases h2 : inB right 0 ((colsT t : Int) - 1) = true
      · rw [if_pos ⟨h, h1, h2⟩, h2]
        refine ev_neg (by decide) ?_
        obtain ⟨d1, d2⟩ := inB_iff.mp h1
        obtain ⟨r1, r2⟩ := inB_iff.mp h2
        obtain ⟨dn, rfl⟩ := Int.eq_ofNat_of_zero_le d1
        obtain ⟨rn, rfl⟩ := Int.eq_ofNat_of_zero_le r1
        rw [show ((0 : Int)) = ((0 : Nat) : Int) from rfl]
        refine ev_to (impl_TurnTorus_loop h dn rn (by omega) (by omega) t.length 0 [] (by omega) rfl) ?_
        simp [turnT]
      · rw [if_neg (fun c => h2 c.2.2), Bool.eq_false_iff.mpr h2]
        exact ev_pos (by rfl) (Ev.now _)
    · rw [if_neg (fun c => h1 c.2.1)]
      refine Ev.step (fun k => by simp only [impl_TurnTorus.j0]; rfl) ?_
      exact ev_pos (by trivial) (Ev.now _)
  · rw [if_neg (fun c => h c.1)]
    refine Ev.step (fun k => by simp only [impl_TurnTorus.j0]; rfl) ?_
    exact ev_pos (by trivial) (Ev.now _)
theorem totalL_ge : ∀ (t : List (List Int)), 0 ≤ (totalL t : Int) := fun t => Int.natCast_nonneg _
theorem heldTorus_ev (t : List (List Int)) (hl : t.length ≤ 1048576) (ht : (totalL t : Int) ≤ 5000000000000) : Ev (fun q => laws_heldTorus.f q (marksSS 1 t) 1) (1 + (totalL t : Int)) := by
  unfold laws_heldTorus.f laws_heldIntSS.f
  have h := laws_heldIntSS_ev t [] 1 (by omega) (by omega) (by simp; omega)
  simp only [List.nil_append, List.length_nil] at h
  exact ev_call h (ev_neg (by have := totalL_ge t; omega) (Ev.now _))
theorem markTorus_ev (t : List (List Int)) (hl : t.length ≤ 1048576) (ht : (totalL t : Int) ≤ 5000000000000) : Ev (fun q => laws_markTorus.f q t 1) (1 + (totalL t : Int), marksSS 1 t) := by
  unfold laws_markTorus.f laws_markIntSS.f
  have h := laws_markIntSS_ev t [] 1 (by omega) (by omega) (by simp; omega)
  simp only [List.nil_append, List.length_nil] at h
  exact h
theorem FnExactTurnTorus (l : List (List Int)) (a1 a2 : Int) (hl : l.length ≤ maxLen) (hr : ∀ row ∈ l, row.length ≤ maxLen ∧ ∀ x ∈ row, (Lit.int .i64 x).wf = true) (_ : (Lit.int .i64 a1).wf = true) (_ : (Lit.int .i64 a2).wf = true) : ∃ k, laws_FnExactTurnTorus.f k l a1 a2 = some true := by
  refine Ev.rounds (r := true) ?_
  unfold laws_FnExactTurnTorus.f
  obtain ⟨r, e, hh⟩ := szTorus_ev l hl (fun row h => (hr row h).1)
  refine ev_call e ?_
  by_cases c : r < 0
  · exact ev_pos c (Ev.now _)
  · refine ev_neg c ?_
    obtain ⟨h1, h2⟩ := hh (by omega)
    have ht := toTorus_ev l h1 h2
    obtain ⟨m1, m2⟩ := TurnTorusM_small l a1 a2
    have m3 : ∀ row ∈ (TurnTorusM l a1 a2).1, row.length ≤ 1048576 := fun row h => by have := m2 row h; omega
    have t1 : (totalL l : Int) ≤ 5000000000000 := by
      have := totalL_le 1048576 l h2
      have := Nat.mul_le_mul_right 1048576 h1
      omega
    have t2 : (totalL (TurnTorusM l a1 a2).1 : Int) ≤ 5000000000000 := by
      have := totalL_le 16 _ m2
      omega
    refine ev_call ht (ev_call (spec_TurnTorus_ev l a1 a2 h2) (ev_call (impl_TurnTorus_ev l a1 a2 h2) (ev_pos rfl ?_)))
    refine ev_call (eqTorus_ev _ (by omega) m3) (ev_pos rfl ?_)
    refine ev_call (eqTorus_ev l h1 h2) (ev_pos rfl ?_)
    refine ev_call (markTorus_ev l h1 t1) (ev_pos (by have := totalL_ge l; dsimp only; omega) ?_)
    refine ev_call (markTorus_ev _ (by omega) t2) (ev_pos (by have := totalL_ge (TurnTorusM l a1 a2).1; dsimp only; omega) ?_)
    exact ev_call (heldTorus_ev _ (by omega) t2) (ev_pos rfl (Ev.now _))

end Go.Proofs.Ytfbafdlgnjkioaa.Pure
