/- The pure statement of FirstTorus: program and reference answer alike, for all arguments; no condition. -/
import Derived.Test.YtfbafdlgnjkioaaPFnExactFirstTorusx6
import Derived.Test.YtfbafdlgnjkioaaBase
import Derived.Test.YtfbafdlgnjkioaaLists
import Derived.Test.YtfbafdlgnjkioaaRegs
namespace Go.Proofs.Ytfbafdlgnjkioaa.Pure
open Go.RowKit Go.Proofs.Ytfbafdlgnjkioaa.PFnExactFirstTorus Go.Proofs.YtfbafdlgnjkioaaW.PrintWords Go.Proofs.YtfbafdlgnjkioaaW.PrintLast Go.Proofs.Ytfbafdlgnjkioaa.Base
set_option maxRecDepth 10000
set_option linter.unusedVariables false
set_option linter.unusedSimpArgs false

def rowT (t : List (List Int)) (i : Nat) : List Int := t.getD i []
theorem rd_L1_nat (t : List (List Int)) (i : Nat) : rd_L1 t (i : Int) = rowT t i := by simp [rd_L1, rowT]
theorem rowT_get (t : List (List Int)) (i : Nat) (h : i < t.length) : rowT t i = t[i] := by simp [rowT, List.getD_eq_getElem?_getD, List.getElem?_eq_getElem h]
theorem rowT_mem (t : List (List Int)) (i : Nat) (h : i < t.length) : rowT t i ∈ t := by rw [rowT_get t i h]; exact List.getElem_mem h
theorem drop_rowT (t : List (List Int)) (i : Nat) (h : i < t.length) : t.drop i = rowT t i :: t.drop (i + 1) := by rw [rowT_get t i h]; exact List.drop_eq_getElem_cons h
def rowOk (n : Nat) (row : List Int) : Bool := decide (row.length * n = 16) && allB row 0 1
def formB (t : List (List Int)) : Bool := inB (t.length : Int) 1 16 && t.all (rowOk t.length)
theorem formB_iff {t : List (List Int)} : formB t = true ↔ (1 ≤ t.length ∧ t.length ≤ 16) ∧ ∀ row ∈ t, row.length * t.length = 16 ∧ ∀ x ∈ row, 0 ≤ x ∧ x ≤ 1 := by
  simp only [formB, rowOk, Bool.and_eq_true, inB_iff, List.all_eq_true, decide_eq_true_eq, allB_iff]
  exact and_congr ⟨fun h => ⟨by omega, by omega⟩, fun h => ⟨by omega, by omega⟩⟩ Iff.rfl
/-- The window of a torus, whose rows have c letters. -/
def twin (t : List (List Int)) (c i j : Nat) : List Int := [rd (rowT t i) (j : Int), rd (rowT t i) (((j + 1) % c : Nat) : Int), rd (rowT t ((i + 1) % t.length)) (j : Int), rd (rowT t ((i + 1) % t.length)) (((j + 1) % c : Nat) : Int)]
def rowsW (t : List (List Int)) (c i d : Nat) : List (List Int) := (List.range' i d).flatMap fun i => (List.range' 0 c).map (twin t c i)
theorem rowsW_succ (t : List (List Int)) (c i d : Nat) : rowsW t c i (d + 1) = (List.range' 0 c).map (twin t c i) ++ rowsW t c (i + 1) d := by
  unfold rowsW
  rw [List.range'_succ, List.flatMap_cons]
def bits4 (w : List Int) : Prop := w.length = 4 ∧ ∀ x ∈ w, 0 ≤ x ∧ x ≤ (2 : Int) - 1
theorem twin_bits {t : List (List Int)} {c i j : Nat} (h : formB t = true) (hc : c * t.length = 16) (hi : i < t.length) (hj : j < c) : bits4 (twin t c i j) := by
  obtain ⟨h1, h2⟩ := formB_iff.mp h
  have hrow : ∀ i, i < t.length → ∀ k : Nat, k < c → 0 ≤ rd (rowT t i) (k : Int) ∧ rd (rowT t i) (k : Int) ≤ (2 : Int) - 1 := fun i hi k hk => by
    obtain ⟨g1, g2⟩ := h2 _ (rowT_mem t i hi)
    have hl : (rowT t i).length = c := Nat.eq_of_mul_eq_mul_right (by omega) (g1.trans hc.symm)
    have := g2 (rd (rowT t i) (k : Int)) (by rw [rd_get _ k (by omega)]; exact List.getElem_mem _)
    omega
  have hm := Nat.mod_lt (i + 1) (show 0 < t.length by omega)
  have hk := Nat.mod_lt (j + 1) (show 0 < c by omega)
  refine ⟨rfl, fun x hx => ?_⟩
  simp only [twin, List.mem_cons, List.not_mem_nil, or_false] at hx
  rcases hx with rfl | rfl | rfl | rfl
  · exact hrow i hi j hj
  · exact hrow i hi _ hk
  · exact hrow _ hm j hj
  · exact hrow _ hm _ hk
theorem rowsW_bits {t : List (List Int)} {c : Nat} (h : formB t = true) (hc : c * t.length = 16) : ∀ w ∈ rowsW t c 0 t.length, bits4 w := by
  intro w hw
  simp only [rowsW, List.mem_flatMap, List.mem_range'_1, List.mem_map] at hw
  obtain ⟨i, hi, j, hj, rfl⟩ := hw
  exact twin_bits h hc (by omega) (by omega)
theorem rowsW_length (t : List (List Int)) (c : Nat) : ∀ d i, (rowsW t c i d).length = c * d := by
  intro d
  induction d with
  | zero => intro i; simp [rowsW]
  | succ d ih => intro i; rw [rowsW_succ, List.length_append, ih, List.length_map, List.length_range', Nat.mul_succ, Nat.add_comm]
def codeW (w : List Int) : Nat := (codeN 2 w).toNat
theorem codeW_lt {w : List Int} (h : bits4 w) : codeW w < 16 := by
  have := codeN_range 2 4 w h.1 (fun x hx => by have := h.2 x hx; omega)
  unfold codeW
  have : (2 ^ 4 : Nat) = 16 := rfl
  omega
theorem codeW_inj {u v : List Int} (h : bits4 u) (k : bits4 v) (e : codeW u = codeW v) : u = v := by
  have h1 := codeN_range 2 4 u h.1 (fun x hx => by have := h.2 x hx; omega)
  have h2 := codeN_range 2 4 v k.1 (fun x hx => by have := k.2 x hx; omega)
  unfold codeW at e
  exact codeN_inj 4 u v h.1 k.1 h.2 k.2 (by omega)
def maskF (m : Nat) (w : List Int) : Nat := m ||| (1 <<< codeW w)
theorem maskF_bit (d : Nat) : ∀ (l : List (List Int)) (m : Nat), (l.foldl maskF m).testBit d = (m.testBit d || decide (∃ w ∈ l, codeW w = d)) := by
  intro l
  induction l with
  | nil => intro m; simp
  | cons a l ih =>
    intro m
    rw [List.foldl_cons, ih]
    unfold maskF
    rw [Nat.testBit_or, Bool.or_assoc]
    congr 1
    rw [Bool.eq_iff_iff, Bool.or_eq_true, decide_eq_true_eq, decide_eq_true_eq, Nat.one_shiftLeft, Nat.testBit_two_pow, decide_eq_true_eq]
    simp
theorem maskF_lt : ∀ (l : List (List Int)) (m : Nat), (∀ w ∈ l, bits4 w) → m < 65536 → l.foldl maskF m < 65536 := by
  intro l
  induction l with
  | nil => intro m _ h; exact h
  | cons a l ih =>
    intro m h hm
    rw [List.foldl_cons]
    refine ih _ (fun w hw => h w (by simp [hw])) ?_
    have hc := codeW_lt (h a (by simp))
    have h1 : (1 <<< codeW a) < 2 ^ 16 := by rw [Nat.one_shiftLeft]; exact Nat.pow_lt_pow_right (by omega) hc
    exact Nat.or_lt_two_pow (n := 16) hm h1
theorem mask_all {m : Nat} (hm : m < 65536) : m = 65535 ↔ ∀ d, d < 16 → m.testBit d = true := by
  have e : (65535 : Nat) = 2 ^ 16 - 1 := rfl
  constructor
  · rintro rfl d hd
    rw [e, Nat.testBit_two_pow_sub_one]; exact decide_eq_true hd
  · intro h
    apply Nat.eq_of_testBit_eq
    intro d
    rw [e, Nat.testBit_two_pow_sub_one]
    by_cases hd : d < 16
    · rw [h d hd, decide_eq_true hd]
    · rw [decide_eq_false hd]
      exact Nat.testBit_lt_two_pow (Nat.lt_of_lt_of_le hm (by rw [show (65536 : Nat) = 2 ^ 16 from rfl]; exact Nat.pow_le_pow_right (by omega) (by omega)))
/-- Sixteen windows: all numbers come just where no window comes twice. -/
theorem mask_nodup (l : List (List Int)) (hl : l.length = 16) (hb : ∀ w ∈ l, bits4 w) : l.foldl maskF 0 = 65535 ↔ l.Nodup := by
  have hget : ∀ i, (h : i < l.length) → bits4 l[i] := fun i h => hb _ (List.getElem_mem h)
  rw [mask_all (maskF_lt l 0 hb (by omega))]
  simp only [maskF_bit, Nat.zero_testBit, Bool.false_or, decide_eq_true_eq]
  constructor
  · intro h
    refine List.pairwise_iff_getElem.mpr (fun i j hi hj hij e => ?_)
    have hex : ∀ d, d < 16 → ∃ p, ∃ hp : p < l.length, codeW l[p] = d ∧ p ≠ j := fun d hd => by
      obtain ⟨w, hw, hc⟩ := h d hd
      obtain ⟨p, hp, rfl⟩ := List.getElem_of_mem hw
      by_cases c : p = j
      · subst c
        exact ⟨i, hi, by rw [e]; exact hc, by omega⟩
      · exact ⟨p, hp, hc, c⟩
    have hf : ∃ f : Nat → Nat, ∀ d, d < 16 → ∃ hp : f d < l.length, codeW (l[f d]) = d ∧ f d ≠ j := by
      refine ⟨fun d => if hd : d < 16 then (hex d hd).choose else 0, fun d hd => ?_⟩
      simp only [dif_pos hd]
      exact (hex d hd).choose_spec
    obtain ⟨f, hf⟩ := hf
    obtain ⟨a, b, h1, h2, h3⟩ := pigeon 15 (fun d => if f d < j then f d else f d - 1) (fun d hd => by
      obtain ⟨hp, _, hne⟩ := hf d (by omega)
      show (if f d < j then f d else f d - 1) < 15
      split <;> omega)
    obtain ⟨pa, ca, na⟩ := hf a (by omega)
    obtain ⟨pb, cb, nb⟩ := hf b (by omega)
    have h4 : (if f a < j then f a else f a - 1) = (if f b < j then f b else f b - 1) := h3
    have h5 : f a = f b := by split at h4 <;> split at h4 <;> omega
    have h6 : codeW (l[f a]'pa) = codeW (l[f b]'pb) := by congr 1; exact getElem_congr rfl h5 _
    omega
  · intro hn d hd
    have hpw := List.pairwise_iff_getElem.mp hn
    obtain ⟨i, j, h1, h2, e⟩ := pigeon 16 (fun i => if h : i < l.length then codeW l[i] else d) (fun i hi => by
      show (if h : i < l.length then codeW l[i] else d) < 16
      split
      · rename_i h; exact codeW_lt (hget i h)
      · exact hd)
    have e2 : (if h : i < l.length then codeW l[i] else d) = (if h : j < l.length then codeW l[j] else d) := e
    rw [dif_pos (show i < l.length by omega)] at e2
    by_cases c : j < l.length
    · rw [dif_pos c] at e2
      exact absurd (codeW_inj (hget i (by omega)) (hget j c) e2) (hpw i j (by omega) c h1)
    · rw [dif_neg c] at e2
      exact ⟨l[i]'(by omega), List.getElem_mem _, e2⟩
def specW : List (List Int) → List (List Int) → Bool
  | _, [] => true
  | acc, w :: l => if w ∈ acc then false else specW (acc ++ [w]) l
theorem specW_iff : ∀ (l acc : List (List Int)), acc.Nodup → (specW acc l = true ↔ (acc ++ l).Nodup) := by
  intro l
  induction l with
  | nil => intro acc h; simp [specW, h]
  | cons w l ih =>
    intro acc h
    unfold specW
    by_cases c : w ∈ acc
    · rw [if_pos c]
      refine ⟨fun h => (by cases h), fun hn => ?_⟩
      rw [List.nodup_append] at hn
      exact absurd rfl (hn.2.2 w c w (by simp))
    · rw [if_neg c, ih (acc ++ [w]) (by
        rw [List.nodup_append]
        refine ⟨h, by simp, fun a ha b hb => ?_⟩
        rw [List.mem_singleton] at hb
        rintro rfl
        exact c (hb ▸ ha)), List.append_assoc]
      rfl

def colsT (t : List (List Int)) : Nat := 16 / t.length
theorem form_row {t : List (List Int)} (h : formB t = true) {i : Nat} (hi : i < t.length) : (rowT t i).length = colsT t := by
  obtain ⟨⟨h1, h2⟩, h3⟩ := formB_iff.mp h
  have := (h3 _ (rowT_mem t i hi)).1
  unfold colsT
  exact (Nat.div_eq_of_eq_mul_left (by omega) this.symm).symm
theorem form_cols {t : List (List Int)} (h : formB t = true) : colsT t * t.length = 16 := by
  obtain ⟨⟨h1, h2⟩, h3⟩ := formB_iff.mp h
  rw [← form_row h (i := 0) (by omega)]
  exact (h3 _ (rowT_mem t 0 (by omega))).1
theorem tmod_nat (a b : Nat) : Int.tmod (a : Int) (b : Int) = ((a % b : Nat) : Int) := rfl

theorem impl_torusWindow_eq {t : List (List Int)} (h : formB t = true) {i j : Nat} (hi : i < t.length) (hj : j < colsT t) : impl_torusWindow.f t (i : Int) (j : Int) = some (twin t (colsT t) i j) := by
  have hn := (formB_iff.mp h).1
  have hc := form_cols h
  have hi1 : (i + 1) % t.length < t.length := Nat.mod_lt _ (by omega)
  have hj1 : (j + 1) % colsT t < colsT t := Nat.mod_lt _ (by omega)
  have hcl : colsT t ≤ 16 := by unfold colsT; exact Nat.div_le_self _ _
  have e1 : wrap64 ((i : Int) + 1) = ((i + 1 : Nat) : Int) := wrap_succ (by omega)
  have e2 : wrap64 ((j : Int) + 1) = ((j + 1 : Nat) : Int) := wrap_succ (by omega)
  unfold impl_torusWindow.f twin
  simp only [e1, e2, tmod_nat, rd_L1_nat, form_row h hi, form_row h hi1]
  clear e1 e2
  rw [if_pos (by omega), if_pos (by omega), if_neg (by omega), if_pos (by omega), if_pos (by omega), if_neg (by omega), if_pos (by omega), if_pos (by omega), if_pos (by omega), if_pos (by omega), if_pos (by omega), if_pos (by omega)]
theorem spec_suWindow_eq {t : List (List Int)} (h : formB t = true) {i j : Nat} (hi : i < t.length) (hj : j < colsT t) : spec_suWindow.f t (i : Int) (j : Int) = some (twin t (colsT t) i j) := by
  have hn := (formB_iff.mp h).1
  have hc := form_cols h
  have hi1 : (i + 1) % t.length < t.length := Nat.mod_lt _ (by omega)
  have hj1 : (j + 1) % colsT t < colsT t := Nat.mod_lt _ (by omega)
  have hcl : colsT t ≤ 16 := by unfold colsT; exact Nat.div_le_self _ _
  have e1 : wrap64 ((i : Int) + 1) = ((i + 1 : Nat) : Int) := wrap_succ (by omega)
  have e2 : wrap64 ((j : Int) + 1) = ((j + 1 : Nat) : Int) := wrap_succ (by omega)
  unfold spec_suWindow.f twin
  simp only [e1, e2, tmod_nat, rd_L1_nat, form_row h hi, form_row h hi1]
  clear e1 e2
  rw [if_neg (by omega), if_pos (by omega), if_pos (by omega), if_neg (by omega), if_pos (by omega), if_pos (by omega), if_pos (by omega), if_pos (by omega), if_pos (by omega), if_pos (by omega), if_pos (by omega), if_pos (by omega)]

theorem code4 {w : List Int} (h : bits4 w) : wrap64 ((wrap64 ((wrap64 ((wrap64 (8 * (rd w 0))) + (wrap64 (4 * (rd w 1))))) + (wrap64 (2 * (rd w 2))))) + (rd w 3)) = ((codeW w : Nat) : Int) := by
  obtain ⟨hl, hb⟩ := h
  match w, hl with
  | [a, b, c, d], _ =>
    have ha := hb a (by simp)
    have hbb := hb b (by simp)
    have hc := hb c (by simp)
    have hd := hb d (by simp)
    have e : codeN 2 [a, b, c, d] = 8 * a + 4 * b + 2 * c + d := by simp [codeN]; omega
    unfold codeW
    rw [e]
    show wrap64 ((wrap64 ((wrap64 ((wrap64 (8 * a)) + (wrap64 (4 * b)))) + (wrap64 (2 * c)))) + d) = _
    rw [wrap_id (x := 8 * a) (by omega), wrap_id (x := 4 * b) (by omega), wrap_id (x := 2 * c) (by omega), wrap_id (x := 8 * a + 4 * b) (by omega), wrap_id (x := 8 * a + 4 * b + 2 * c) (by omega), wrap_id (x := 8 * a + 4 * b + 2 * c + d) (by omega)]
    omega
theorem or_shl (m c : Nat) (hm : m < 65536) (hc : c < 16) : Go.bits .or .i64 (m : Int) (shl .i64 1 (c : Int)) = ((m ||| (1 <<< c) : Nat) : Int) := by
  have hs : shl .i64 1 (c : Int) = ((1 <<< c : Nat) : Int) := by
    have : ∀ c : Nat, c < 16 → shl .i64 1 (c : Int) = ((1 <<< c : Nat) : Int) := by decide +kernel
    exact this c hc
  have hc2 : 1 <<< c < 2 ^ 20 := by
    have : ∀ c : Nat, c < 16 → 1 <<< c < 2 ^ 20 := by decide +kernel
    exact this c hc
  rw [hs]
  exact (Go.bits_nat .i64 20 (by decide) (fun n h0 h1 => by rw [Go.IntKind.wrap_i64]; omega) m (1 <<< c) (by omega) hc2).2
theorem impl_windowsDiffer_row {t : List (List Int)} (h : formB t = true) (i : Nat) (hi : i < t.length) (r : Bool) : ∀ (d j m : Nat), j + d = colsT t → m < 65536 →
    Ev (fun q => impl_windowsDiffer.l0 q ((((List.range' j d).map (twin t (colsT t) i)).foldl maskF m : Nat) : Int) t (t.length : Int) ((i + 1 : Nat) : Int) t) r →
    Ev (fun q => impl_windowsDiffer.l1 q (m : Int) (i : Int) t (t.length : Int) (i : Int) ((colsT t : Nat) : Int) (j : Int) t) r := by
  have hn := (formB_iff.mp h).1
  have hcl : colsT t ≤ 16 := by unfold colsT; exact Nat.div_le_self _ _
  intro d
  induction d with
  | zero =>
    intro j m hd _ k
    refine Ev.step (fun k => by simp only [impl_windowsDiffer.l1]; rfl) ?_
    refine ev_neg (by omega) ?_
    rw [wrap_succ (by omega)]
    exact k
  | succ d ih =>
    intro j m hd hm k
    have hb := twin_bits h (form_cols h) hi (j := j) (by omega)
    have hlt := codeW_lt hb
    have hl := hb.1
    refine Ev.step (fun k => by simp only [impl_windowsDiffer.l1]; rfl) ?_
    refine ev_pos (by omega) ?_
    refine ev_plain (impl_torusWindow_eq h hi (by omega)) ?_
    refine ev_pos (by omega) ?_
    refine ev_pos (by omega) ?_
    refine ev_pos (by omega) ?_
    refine ev_pos (by omega) ?_
    rw [code4 hb, or_shl m _ hm hlt, wrap_succ (by omega)]
    refine ev_pos (by omega) ?_
    refine ih (j + 1) (m ||| (1 <<< codeW (twin t (colsT t) i j))) (by omega) (maskF_lt [twin t (colsT t) i j] m (by intro w hw; simp at hw; subst hw; exact hb) hm) ?_
    rw [List.range'_succ, List.map_cons, List.foldl_cons] at k
    exact k
theorem impl_windowsDiffer_all {t : List (List Int)} (h : formB t = true) : ∀ (d i m : Nat), i + d = t.length → m < 65536 → Ev (fun q => impl_windowsDiffer.l0 q (m : Int) t (t.length : Int) (i : Int) t) (decide ((rowsW t (colsT t) i d).foldl maskF m = 65535)) := by
  have hn := (formB_iff.mp h).1
  intro d
  induction d with
  | zero =>
    intro i m hd _
    refine Ev.step (fun k => by simp only [impl_windowsDiffer.l0]; rfl) ?_
    refine ev_neg (by omega) (ev_some ?_)
    have e : rowsW t (colsT t) i 0 = [] := rfl
    rw [e, List.foldl_nil]
    by_cases c : m = 65535
    · subst c; rfl
    · rw [decide_eq_false c]; exact beq_eq_false_iff_ne.mpr (by omega)
  | succ d ih =>
    intro i m hd hm
    refine Ev.step (fun k => by simp only [impl_windowsDiffer.l0]; rfl) ?_
    refine ev_pos (by omega) ?_
    refine ev_pos (by omega) ?_
    refine ev_pos (by omega) ?_
    rw [rd_L1_nat, form_row h (i := i) (by omega)]
    refine impl_windowsDiffer_row h i (by omega) _ (colsT t) 0 m (by omega) hm ?_
    rw [rowsW_succ, List.foldl_append]
    exact ih (i + 1) _ (by omega) (maskF_lt _ m (fun w hw => by
      obtain ⟨j, hj, rfl⟩ := List.mem_map.mp hw
      exact twin_bits h (form_cols h) (by omega) (by simp [List.mem_range'_1] at hj; omega)) hm)
theorem impl_windowsDiffer_ev {t : List (List Int)} (h : formB t = true) : Ev (fun q => impl_windowsDiffer.f q t) (decide (rowsW t (colsT t) 0 t.length).Nodup) := by
  unfold impl_windowsDiffer.f
  refine ev_to (impl_windowsDiffer_all h t.length 0 0 (by omega) (by omega)) ?_
  rw [decide_eq_decide]
  exact mask_nodup _ (by rw [rowsW_length]; exact form_cols h) (rowsW_bits h (form_cols h))

theorem spec_l1Same_loop (a b : List Int) (ha : a.length ≤ 1000000000000) (hab : a.length = b.length) : ∀ (d i : Nat), i + d = a.length → Ev (fun k => spec_l1Same.l0 k a b (a.length : Int) (i : Int)) (decide (a.drop i = b.drop i)) := by
  intro d
  induction d with
  | zero =>
    intro i h
    rw [List.drop_eq_nil_of_le (by omega), List.drop_eq_nil_of_le (by omega)]
    refine Ev.step (fun k => by simp only [spec_l1Same.l0]; rfl) ?_
    exact ev_neg (by omega) (ev_some (by simp))
  | succ d ih =>
    intro i h
    rw [drop_rd a i (by omega), drop_rd b i (by omega)]
    refine Ev.step (fun k => by simp only [spec_l1Same.l0]; rfl) ?_
    refine ev_pos (by omega) ?_
    refine ev_pos (by omega) ?_
    refine ev_pos (by omega) ?_
    refine ev_pos (by omega) ?_
    rw [wrap_succ (by omega)]
    exact ev_if (fun e => ev_to (ih (i + 1) (by omega)) (by rw [e]; simp)) (fun e => ev_some (by rw [decide_eq_false]; intro c; exact e (List.cons.inj c).1))
theorem spec_l1Same_ev (a b : List Int) (ha : a.length ≤ 1000000000000) : Ev (fun k => spec_l1Same.f k a b) (decide (a = b)) := by
  unfold spec_l1Same.f
  refine ev_if (fun h => ?_) (fun h => ev_some (by rw [decide_eq_false]; intro c; exact h (by rw [c])))
  exact spec_l1Same_loop a b ha (by omega) a.length 0 (by omega)
theorem spec_raPlace_loop (w : List Int) (acc : List (List Int)) (hl : acc.length ≤ 1000) (ha : ∀ u ∈ acc, u.length ≤ 100) : ∀ (d i : Nat), i + d = acc.length → ∃ r : Int, (r ≥ 0 ↔ w ∈ acc.drop i) ∧ Ev (fun k => spec_raPlace.l0 k w acc (acc.length : Int) (i : Int)) r := by
  intro d
  induction d with
  | zero =>
    intro i h
    refine ⟨-1, by rw [List.drop_eq_nil_of_le (by omega)]; simp, ?_⟩
    refine Ev.step (fun k => by simp only [spec_raPlace.l0]; rfl) ?_
    exact ev_neg (by omega) (Ev.now _)
  | succ d ih =>
    intro i h
    obtain ⟨r, hr, e⟩ := ih (i + 1) (by omega)
    have hs := spec_l1Same_ev (rowT acc i) w (by have := ha _ (rowT_mem acc i (by omega)); omega)
    rw [drop_rowT acc i (by omega)]
    by_cases c : rowT acc i = w
    · refine ⟨(i : Int), by rw [c]; simp, ?_⟩
      refine Ev.step (fun k => by simp only [spec_raPlace.l0]; rfl) ?_
      refine ev_pos (by omega) ?_
      refine ev_pos (by omega) ?_
      refine ev_pos (by omega) ?_
      rw [rd_L1_nat]
      exact ev_call hs (ev_pos (by rw [decide_eq_true c]) (Ev.now _))
    · refine ⟨r, by rw [List.mem_cons]; exact ⟨fun h => .inr (hr.mp h), fun h => hr.mpr (h.resolve_left (fun h => c h.symm))⟩, ?_⟩
      refine Ev.step (fun k => by simp only [spec_raPlace.l0]; rfl) ?_
      refine ev_pos (by omega) ?_
      refine ev_pos (by omega) ?_
      refine ev_pos (by omega) ?_
      rw [rd_L1_nat, wrap_succ (by omega)]
      exact ev_call hs (ev_neg (by rw [decide_eq_false c]; simp) e)
theorem spec_raPlace_ev (w : List Int) (acc : List (List Int)) (hl : acc.length ≤ 1000) (ha : ∀ u ∈ acc, u.length ≤ 100) : ∃ r : Int, (r ≥ 0 ↔ w ∈ acc) ∧ Ev (fun k => spec_raPlace.f k acc w) r := by
  obtain ⟨r, hr, e⟩ := spec_raPlace_loop w acc hl ha acc.length 0 (by omega)
  exact ⟨r, by rw [hr, List.drop_zero], e⟩
theorem spec_suWindows_row {t : List (List Int)} (h : formB t = true) (i : Nat) (hi : i < t.length) (rest : List (List Int)) : ∀ (d j : Nat) (acc : List (List Int)), j + d = colsT t → acc.length + d ≤ 1000 → (∀ u ∈ acc, u.length ≤ 100) →
    (∀ acc' : List (List Int), acc' = acc ++ (List.range' j d).map (twin t (colsT t) i) → Ev (fun q => spec_suWindows.l0 q acc' t (t.length : Int) ((i + 1 : Nat) : Int) t) (specW acc' rest)) →
    Ev (fun q => spec_suWindows.l1 q acc (i : Int) t (t.length : Int) (i : Int) ((colsT t : Nat) : Int) (j : Int) t) (specW acc ((List.range' j d).map (twin t (colsT t) i) ++ rest)) := by
  have hn := (formB_iff.mp h).1
  have hcl : colsT t ≤ 16 := by unfold colsT; exact Nat.div_le_self _ _
  intro d
  induction d with
  | zero =>
    intro j acc hd _ _ k
    refine Ev.step (fun k => by simp only [spec_suWindows.l1]; rfl) ?_
    refine ev_neg (by omega) ?_
    rw [wrap_succ (by omega)]
    exact k acc (by simp)
  | succ d ih =>
    intro j acc hd hl ha k
    have hb := twin_bits h (form_cols h) hi (j := j) (by omega)
    obtain ⟨r, hr, e⟩ := spec_raPlace_ev (twin t (colsT t) i j) acc (by omega) ha
    refine Ev.step (fun k => by simp only [spec_suWindows.l1]; rfl) ?_
    refine ev_pos (by omega) ?_
    refine ev_plain (spec_suWindow_eq h hi (by omega)) ?_
    refine ev_call e ?_
    rw [List.range'_succ, List.map_cons, List.cons_append]
    unfold specW
    refine ev_if (fun c => ?_) (fun c => ?_)
    · rw [if_pos (hr.mp c)]
      exact Ev.now _
    · rw [if_neg (fun m => c (hr.mpr m))]
      refine ev_pos (by omega) ?_
      rw [wrap_succ (by omega)]
      refine ih (j + 1) _ (by omega) (by simp; omega) (fun u hu => ?_) (fun acc' e' => k acc' ?_)
      · rcases List.mem_append.mp hu with m | m
        · exact ha u m
        · simp at m; subst m; have := hb.1; omega
      · rw [e', List.range'_succ, List.map_cons, List.append_assoc]; rfl
theorem spec_suWindows_all {t : List (List Int)} (h : formB t = true) : ∀ (d i : Nat) (acc : List (List Int)), i + d = t.length → acc.length + d * 16 ≤ 900 → (∀ u ∈ acc, u.length ≤ 100) → Ev (fun q => spec_suWindows.l0 q acc t (t.length : Int) (i : Int) t) (specW acc (rowsW t (colsT t) i d)) := by
  have hn := (formB_iff.mp h).1
  have hcl : colsT t ≤ 16 := by unfold colsT; exact Nat.div_le_self _ _
  intro d
  induction d with
  | zero =>
    intro i acc hd _ _
    refine Ev.step (fun k => by simp only [spec_suWindows.l0]; rfl) ?_
    refine ev_neg (by omega) (ev_some ?_)
    have e : rowsW t (colsT t) i 0 = [] := rfl
    rw [e]
    unfold specW
    rfl
  | succ d ih =>
    intro i acc hd hl ha
    refine Ev.step (fun k => by simp only [spec_suWindows.l0]; rfl) ?_
    refine ev_pos (by omega) ?_
    refine ev_pos (by omega) ?_
    refine ev_pos (by omega) ?_
    rw [rd_L1_nat, form_row h (i := i) (by omega), rowsW_succ]
    refine spec_suWindows_row h i (by omega) _ (colsT t) 0 acc (by omega) (by omega) ha (fun acc' e => ?_)
    have hlen : acc'.length = acc.length + colsT t := by rw [e]; simp
    refine ih (i + 1) acc' (by omega) (by omega) (fun u hu => ?_)
    rw [e] at hu
    rcases List.mem_append.mp hu with m | m
    · exact ha u m
    · obtain ⟨j, hj, rfl⟩ := List.mem_map.mp m
      have := (twin_bits h (form_cols h) (i := i) (j := j) (by omega) (by simp [List.mem_range'_1] at hj; omega)).1
      omega
theorem spec_suWindows_ev {t : List (List Int)} (h : formB t = true) : Ev (fun q => spec_suWindows.f q t) (decide (rowsW t (colsT t) 0 t.length).Nodup) := by
  have hn := (formB_iff.mp h).1
  unfold spec_suWindows.f
  refine ev_to (spec_suWindows_all h t.length 0 [] (by omega) (by simp; omega) (by simp)) ?_
  have := specW_iff (rowsW t (colsT t) 0 t.length) [] (by simp)
  rw [List.nil_append] at this
  by_cases c : (rowsW t (colsT t) 0 t.length).Nodup
  · rw [decide_eq_true c]; exact this.mpr c
  · rw [decide_eq_false c]; exact Bool.eq_false_iff.mpr (fun e => c (this.mp e))

/-- The word with a code: so many digits, from the last one on. -/
def putD (kk : Int) : Nat → Int → List Int → List Int
  | 0, _, w => w
  | m + 1, c, w => putD kk m (Int.tdiv c kk) (w.set m (Int.tmod c kk))
theorem putD_length (kk : Int) : ∀ m c w, (putD kk m c w).length = w.length := by
  intro m
  induction m with
  | zero => intro c w; rfl
  | succ m ih => intro c w; unfold putD; rw [ih, List.length_set]
def digW (len : Nat) (kk : Int) (c : Int) : List Int := putD kk len c (List.replicate len 0)
theorem digW_length (len : Nat) (kk c : Int) : (digW len kk c).length = len := by unfold digW; rw [putD_length, List.length_replicate]
theorem putD_range (kk : Int) (hk : 1 ≤ kk) : ∀ m c w, 0 ≤ c → (∀ x ∈ w, 0 ≤ x ∧ x < kk) → ∀ x ∈ putD kk m c w, 0 ≤ x ∧ x < kk := by
  intro m
  induction m with
  | zero => intro c w _ h; exact h
  | succ m ih =>
    intro c w hc h
    unfold putD
    refine ih _ _ (Int.tdiv_nonneg hc (by omega)) (fun x hx => ?_)
    rcases List.mem_or_eq_of_mem_set hx with hx | rfl
    · exact h x hx
    · exact ⟨Int.tmod_nonneg _ hc, Int.tmod_lt_of_pos _ (by omega)⟩
theorem digW_range (len : Nat) (kk : Int) (hk : 1 ≤ kk) (c : Int) (hc : 0 ≤ c) : ∀ x ∈ digW len kk c, 0 ≤ x ∧ x < kk := by
  unfold digW
  exact putD_range kk hk len c _ hc (fun x hx => by have := List.eq_of_mem_replicate hx; omega)
theorem tdiv_small {c kk : Int} (h0 : 0 ≤ c) (hk : 1 ≤ kk) (hc : c ≤ 1000000000000) : wrap64 (Int.tdiv c kk) = Int.tdiv c kk ∧ 0 ≤ Int.tdiv c kk ∧ Int.tdiv c kk ≤ 1000000000000 := by
  obtain ⟨a, rfl⟩ := Int.eq_ofNat_of_zero_le h0
  obtain ⟨b, rfl⟩ := Int.eq_ofNat_of_zero_le (show 0 ≤ kk by omega)
  obtain ⟨q, hq⟩ : ∃ q : Nat, a / b = q := ⟨_, rfl⟩
  have e : Int.tdiv (a : Int) (b : Int) = ((a / b : Nat) : Int) := (Int.ofNat_tdiv a b).symm
  have := Nat.div_le_self a b
  rw [hq] at e this
  rw [e]
  exact ⟨wrap_id (by omega), by omega, by omega⟩
/-- A search that must end: the first hit of those counted up to some number. -/
theorem ev_hit {ρ : Type} (L : Nat → Nat → Option ρ) (F : Nat → Option ρ) (r : ρ) : ∀ d i, (∀ j, i ≤ j → j < i + d → (∀ r, F j = some r → Ev (L j) r) ∧ (F j = none → ∀ r, Ev (L (j + 1)) r → Ev (L j) r)) →
    ((List.range' i d).findSome? F) = some r → Ev (L i) r := by
  intro d
  induction d with
  | zero => intro i _ h; simp at h
  | succ d ih =>
    intro i hs h
    rw [List.range'_succ, List.findSome?_cons] at h
    obtain ⟨h1, h2⟩ := hs i (Nat.le_refl _) (by omega)
    cases hf : F i with
    | some r' =>
      rw [hf] at h
      obtain rfl := Option.some.inj h
      exact h1 _ hf
    | none =>
      rw [hf] at h
      exact h2 hf _ (ih (i + 1) (fun j hj1 hj2 => hs j (by omega) (by omega)) h)
theorem findSome_some {ρ : Type} (F : Nat → Option ρ) (i d c : Nat) (h1 : i ≤ c) (h2 : c < i + d) (h3 : (F c).isSome = true) : ∃ r, ((List.range' i d).findSome? F) = some r ∧ ∃ j, i ≤ j ∧ j ≤ c ∧ F j = some r := by
  induction d generalizing i with
  | zero => omega
  | succ d ih =>
    rw [List.range'_succ, List.findSome?_cons]
    cases hf : F i with
    | some r => exact ⟨r, rfl, i, Nat.le_refl _, h1, hf⟩
    | none =>
      by_cases e : i = c
      · subst e; rw [hf] at h3; cases h3
      · obtain ⟨r, hr, j, j1, j2, j3⟩ := ih (i + 1) (by omega) (by omega)
        exact ⟨r, hr, j, by omega, j2, j3⟩

theorem impl_firstWord_in (kk : Int) (hk : 1 ≤ kk) : ∀ (m : Nat) (c : Int) (w : List Int), m ≤ w.length → w.length ≤ 1000000 → 0 ≤ c → c ≤ 1000000000000 → Ev (fun q => impl_firstWord.in0 q kk c w ((m : Int) - 1)) (putD kk m c w) := by
  intro m
  induction m with
  | zero =>
    intro c w h1 h2 h3 h4
    exact Ev.step (fun k => by simp only [impl_firstWord.in0]; rfl) (ev_neg (by omega) (Ev.now _))
  | succ m ih =>
    intro c w h1 h2 h3 h4
    have ht := tdiv_small h3 hk h4
    refine Ev.step (fun k => by simp only [impl_firstWord.in0]; rfl) ?_
    refine ev_pos (by omega) (ev_neg (by omega) (ev_pos (by omega) ?_))
    rw [ht.1, show (((m + 1 : Nat) : Int) - 1) = (m : Int) by omega, Int.toNat_natCast, wrap_id (x := (m : Int) - 1) (by omega)]
    exact ih _ _ (by rw [List.length_set]; omega) (by rw [List.length_set]; exact h2) ht.2.1 ht.2.2
/-- The first word by its code of which P is so, if there is one. -/
def firstW (P : List Int → Bool) (len : Nat) (kk : Int) (size : Nat) : Option (List Int × Bool) := (List.range' 0 size).findSome? fun (c : Nat) => if P (digW len kk (c : Int)) = true then some (digW len kk (c : Int), true) else none
theorem impl_firstWord_ev (p : Nat → List Int → Option Bool) (P : List Int → Bool) (len : Nat) (kk : Int) (size : Nat) (hl : len ≤ 1000000) (hk : 1 ≤ kk) (hs : size ≤ 1000000000)
    (hpow : Ev (fun q => impl_power.f q kk (len : Int)) (size : Int)) (hp : ∀ c : Nat, c < size → Ev (fun q => p q (digW len kk (c : Int))) (P (digW len kk (c : Int)))) :
    Ev (fun q => impl_firstWord.f p q (len : Int) kk) ((firstW P len kk size).getD ([], false)) := by
  unfold impl_firstWord.f firstW
  refine ev_call hpow ?_
  refine ev_find (fun c q => impl_firstWord.l0 p q (len : Int) kk (size : Int) (c : Int)) _ size ([], false) ?_ ?_ size 0 (by omega)
  · intro c hc
    have hstep : ∀ r, Ev (fun q => if P (digW len kk (c : Int)) = true then some (digW len kk (c : Int), true) else impl_firstWord.l0 p q (len : Int) kk (size : Int) ((c + 1 : Nat) : Int)) r → Ev (fun q => impl_firstWord.l0 p q (len : Int) kk (size : Int) (c : Int)) r := by
      intro r h
      refine Ev.step (fun k => by simp only [impl_firstWord.l0]; rfl) ?_
      rw [Int.toNat_natCast, wrap_id (x := (len : Int) - 1) (by omega), wrap_succ (by omega)]
      have hin := impl_firstWord_in kk hk len (c : Int) (List.replicate len 0) (by simp) (by simp; omega) (by omega) (by omega)
      exact ev_pos (by omega) (ev_pos (by omega) (ev_pos (by omega) (ev_call hin (ev_call (hp c hc) h))))
    refine ⟨fun r hr => hstep r ?_, fun hr r h => hstep r ?_⟩
    · split at hr
      · rename_i h1
        obtain rfl := Option.some.inj hr
        exact ev_pos h1 (Ev.now _)
      · cases hr
    · split at hr
      · cases hr
      · rename_i h1
        exact ev_neg h1 h
  · exact Ev.step (fun k => by simp only [impl_firstWord.l0]; rfl) (ev_neg (by omega) (Ev.now _))

theorem spec_suCount_loop (kk : Int) (hk : 1 ≤ kk) : ∀ (m : Nat) (c : Int) (w : List Int), m ≤ w.length → w.length ≤ 1000000 → 0 ≤ c → c ≤ 1000000000000 → Ev (fun q => spec_suCount.l0 q kk c w ((m : Int) - 1)) (putD kk m c w) := by
  intro m
  induction m with
  | zero =>
    intro c w h1 h2 h3 h4
    exact Ev.step (fun k => by simp only [spec_suCount.l0]; rfl) (ev_neg (by omega) (Ev.now _))
  | succ m ih =>
    intro c w h1 h2 h3 h4
    have ht := tdiv_small h3 hk h4
    refine Ev.step (fun k => by simp only [spec_suCount.l0]; rfl) ?_
    refine ev_pos (by omega) (ev_neg (by omega) (ev_pos (by omega) (ev_pos (by omega) ?_)))
    rw [ht.1, show (((m + 1 : Nat) : Int) - 1) = (m : Int) by omega, Int.toNat_natCast, wrap_id (x := (m : Int) - 1) (by omega)]
    exact ih _ _ (by rw [List.length_set]; omega) (by rw [List.length_set]; exact h2) ht.2.1 ht.2.2
theorem spec_suCount_ev (len : Nat) (kk c : Int) (hl : len ≤ 1000000) (hk : 1 ≤ kk) (h3 : 0 ≤ c) (h4 : c ≤ 1000000000000) : Ev (fun q => spec_suCount.f q (len : Int) kk c) (digW len kk c) := by
  unfold spec_suCount.f digW
  rw [Int.toNat_natCast, wrap_id (x := (len : Int) - 1) (by omega)]
  exact ev_pos (by omega) (ev_pos (by omega) (spec_suCount_loop kk hk len c _ (by simp) (by simp; omega) h3 h4))

theorem slices_Index_loop (l : List Int) (x : Int) (hl : l.length ≤ 1000000000000) : ∀ (d i : Nat), i + d = l.length → ∃ r : Int, (r ≥ 0 ↔ x ∈ l.drop i) ∧ Ev (fun k => slices_Index_int_int.l0 k l x (l.length : Int) (i : Int)) r := by
  intro d
  induction d with
  | zero =>
    intro i h
    rw [List.drop_eq_nil_of_le (by omega)]
    exact ⟨-1, by simp, Ev.step (fun k => by simp only [slices_Index_int_int.l0]; rfl) (ev_neg (by omega) (Ev.now _))⟩
  | succ d ih =>
    intro i h
    rw [drop_rd l i (by omega)]
    obtain ⟨r, h1, h2⟩ := ih (i + 1) (by omega)
    by_cases e : x = rd l (i : Int)
    · refine ⟨(i : Int), by simp [e], Ev.step (fun k => by simp only [slices_Index_int_int.l0]; rfl) ?_⟩
      exact ev_pos (by omega) (ev_pos (by omega) (ev_pos (by omega) (ev_pos e (Ev.now _))))
    · refine ⟨r, by rw [h1, List.mem_cons]; exact ⟨.inr, fun h => h.resolve_left e⟩, Ev.step (fun k => by simp only [slices_Index_int_int.l0]; rfl) ?_⟩
      rw [wrap_succ (by omega)]
      exact ev_pos (by omega) (ev_pos (by omega) (ev_pos (by omega) (ev_neg e h2)))
theorem slices_Contains_int_int_ev (l : List Int) (x : Int) (hl : l.length ≤ 1000000000000) : Ev (fun k => slices_Contains_int_int.f k l x) (decide (x ∈ l)) := by
  unfold slices_Contains_int_int.f slices_Index_int_int.f
  obtain ⟨r, h1, h2⟩ := slices_Index_loop l x hl l.length 0 (by omega)
  refine ev_call h2 (ev_some (decide_eq_decide.mpr ?_))
  simpa using h1

theorem spec_l1In_eq (a lo hi : Int) : spec_l1In.f a lo hi = some (inB a lo hi) := by
  unfold spec_l1In.f inB
  by_cases h : a ≥ lo
  · rw [if_pos h]; simp [h]
  · rw [if_neg h]; simp [show ¬ lo ≤ a from h]

theorem impl_copied_eq (w : List Int) (h : w.length < 17592186044416) : impl_copied.f w = some w := by
  unfold impl_copied.f
  rw [Option.bind_some, if_pos (by simpa using h)]; simp
theorem spec_l1Own_eq (w : List Int) (h : w.length < 17592186044416) : spec_l1Own.f w = some w := by
  unfold spec_l1Own.f
  rw [Option.bind_some, if_pos (by simpa using h)]; simp
/-- The torus with so many rows of c letters. -/
def torusR (R c : Nat) (w : List Int) : List (List Int) := (List.range' 0 R).map fun i => (w.take ((i + 1) * c)).drop (i * c)
def sizeT (R c : Nat) : Prop := c * R = 16
theorem torusR_length (R c : Nat) (w : List Int) : (torusR R c w).length = R := by simp [torusR]
theorem torusR_mem {R c : Nat} {w : List Int} (hs : sizeT R c) (hw : w.length = 16) {row : List Int} (h : row ∈ torusR R c w) : row.length = c ∧ ∀ x ∈ row, x ∈ w := by
  simp only [torusR, List.mem_map, List.mem_range'_1] at h
  obtain ⟨i, hi, rfl⟩ := h
  have hb : (i + 1) * c ≤ R * c := Nat.mul_le_mul_right _ (by omega)
  unfold sizeT at hs
  rw [Nat.mul_comm R c, hs] at hb
  refine ⟨?_, fun x hx => List.mem_of_mem_take (List.mem_of_mem_drop hx)⟩
  rw [List.length_drop, List.length_take, hw, Nat.min_eq_left hb, Nat.add_mul]
  omega
theorem sizeT_iff (R c : Nat) (h : sizeT R c) : (1 ≤ R ∧ R ≤ 16) ∧ (1 ≤ c ∧ c ≤ 16) := by
  unfold sizeT at h
  have h1 : 1 ≤ R := by
    rcases Nat.eq_zero_or_pos R with e | e
    · rw [e] at h; omega
    · exact e
  have h2 : 1 ≤ c := by
    rcases Nat.eq_zero_or_pos c with e | e
    · rw [e] at h; omega
    · exact e
  have h3 : R ≤ c * R := Nat.le_mul_of_pos_left _ h2
  have h4 : c ≤ c * R := Nat.le_mul_of_pos_right _ h1
  omega
theorem torusR_form {R c : Nat} {w : List Int} (hs : sizeT R c) (hw : w.length = 16) (hx : ∀ x ∈ w, 0 ≤ x ∧ x ≤ 1) : formB (torusR R c w) = true := by
  have := sizeT_iff R c hs
  refine formB_iff.mpr ⟨by rw [torusR_length]; omega, fun row h => ?_⟩
  obtain ⟨h1, h2⟩ := torusR_mem hs hw h
  rw [torusR_length, h1]
  exact ⟨hs, fun x h => hx x (h2 x h)⟩
def differB (t : List (List Int)) : Bool := decide (rowsW t (colsT t) 0 t.length).Nodup
def wordT (w : List Int) : Prop := w.length = 16 ∧ ∀ x ∈ w, 0 ≤ x ∧ x ≤ 1
theorem wordT_dig (c : Nat) : wordT (digW 16 2 (c : Int)) := ⟨digW_length _ _ _, fun x hx => by have := digW_range 16 2 (by omega) (c : Int) (by omega) x hx; omega⟩
theorem impl_torusOf_ev {R c : Nat} (hs : sizeT R c) {w : List Int} (hw : wordT w) : Ev (fun q => impl_torusOf.f q (R : Int) w) (torusR R c w) := by
  have hb := sizeT_iff R c hs
  have hq : ∀ i : Nat, i ≤ R → wrap64 (Int.tdiv (wrap64 ((i : Int) * 16)) (R : Int)) = ((i * c : Nat) : Int) := by
    intro i hi
    have h1 : i * 16 / R = i * c := by
      unfold sizeT at hs
      rw [← hs, ← Nat.mul_assoc]; exact Nat.mul_div_cancel _ (by omega)
    have h2 : i * c ≤ R * c := Nat.mul_le_mul_right _ hi
    unfold sizeT at hs
    rw [Nat.mul_comm R c, hs] at h2
    rw [wrap_id (x := (i : Int) * 16) (by omega), show (i : Int) * 16 = ((i * 16 : Nat) : Int) by omega, show Int.tdiv ((i * 16 : Nat) : Int) (R : Int) = ((i * 16 / R : Nat) : Int) from rfl, h1]
    generalize i * c = m at h2
    exact wrap_id (by omega)
  unfold impl_torusOf.f torusR
  have : ∀ (d i : Nat) (acc : List (List Int)), i + d = R → acc.length = i → Ev (fun q => impl_torusOf.l0 q (R : Int) w (R : Int) (i : Int) acc) (acc ++ (List.range' i d).map fun i => (w.take ((i + 1) * c)).drop (i * c)) := by
    intro d
    induction d with
    | zero =>
      intro i acc h ha
      refine Ev.step (fun k => by simp only [impl_torusOf.l0]; rfl) ?_
      exact ev_neg (by omega) (ev_some (by simp))
    | succ d ih =>
      intro i acc h ha
      have h2 : (i + 1) * c ≤ R * c := Nat.mul_le_mul_right _ (by omega)
      have h3 : i * c ≤ (i + 1) * c := Nat.mul_le_mul_right _ (by omega)
      have hs' := hs
      unfold sizeT at hs'
      rw [Nat.mul_comm R c, hs'] at h2
      refine Ev.step (fun k => by simp only [impl_torusOf.l0]; rfl) ?_
      rw [wrap_succ (by omega), hq i (by omega), hq (i + 1) (by omega), Int.toNat_natCast, Int.toNat_natCast]
      refine ev_pos (by omega) ?_
      refine ev_neg (by omega) ?_
      refine ev_pos (Int.natCast_nonneg _) ?_
      refine ev_pos (Int.ofNat_le.mpr h3) ?_
      refine ev_pos (by rw [hw.1]; exact Int.ofNat_le.mpr h2) ?_
      refine ev_plain (impl_copied_eq _ (by rw [List.length_drop, List.length_take, hw.1]; omega)) ?_
      refine ev_pos (by omega) ?_
      refine ev_to (ih (i + 1) _ (by omega) (by simp [ha])) ?_
      rw [List.range'_succ, List.map_cons, List.append_assoc]; rfl
  refine ev_to (this R 0 [] (by omega) rfl) (by simp)
theorem impl_is_ev {R c : Nat} (hs : sizeT R c) {w : List Int} (hw : wordT w) : Ev (fun q => impl_FirstTorus.is (R : Int) q w) (differB (torusR R c w)) := by
  unfold impl_FirstTorus.is differB
  exact ev_call (impl_torusOf_ev hs hw) (impl_windowsDiffer_ev (torusR_form hs hw.1 hw.2))
theorem spec_suOwn_ev (t : List (List Int)) (ht : t.length ≤ 1048576) (hr : ∀ row ∈ t, row.length ≤ 1048576) : Ev (fun q => spec_suOwn.f q t) t := by
  unfold spec_suOwn.f
  have : ∀ (d i : Nat) (acc : List (List Int)), i + d = t.length → acc.length = i → Ev (fun q => spec_suOwn.l0 q t (t.length : Int) (i : Int) acc) (acc ++ t.drop i) := by
    intro d
    induction d with
    | zero =>
      intro i acc h ha
      refine Ev.step (fun k => by simp only [spec_suOwn.l0]; rfl) ?_
      exact ev_neg (by omega) (ev_some (by rw [List.drop_eq_nil_of_le (by omega), List.append_nil]))
    | succ d ih =>
      intro i acc h ha
      have hlen := hr _ (rowT_mem t i (by omega))
      refine Ev.step (fun k => by simp only [spec_suOwn.l0]; rfl) ?_
      refine ev_pos (by omega) (ev_pos (by omega) (ev_pos (by omega) ?_))
      rw [rd_L1_nat, wrap_succ (by omega)]
      refine ev_plain (spec_l1Own_eq _ (by omega)) (ev_pos (by omega) ?_)
      refine ev_to (ih (i + 1) _ (by omega) (by simp [ha])) ?_
      rw [drop_rowT t i (by omega), List.append_assoc]; rfl
  refine ev_to (this t.length 0 [] (by omega) rfl) (by simp)
/-- What both answer: the first word whose torus has different windows. -/
def firstT (R c : Nat) : List (List Int) × Bool := match firstW (fun w => differB (torusR R c w)) 16 2 65536 with
  | some (w, _) => (torusR R c w, true)
  | none => ([], false)
theorem firstT_small (R c : Nat) (hs : sizeT R c) : (firstT R c).1.length ≤ 16 ∧ (∀ row ∈ (firstT R c).1, row.length ≤ 16) ∧ ((firstT R c).2 = true → formB (firstT R c).1 = true ∧ differB (firstT R c).1 = true ∧ (firstT R c).1.length = R) ∧ ((firstT R c).2 = false → (firstT R c).1 = []) := by
  have hb := sizeT_iff R c hs
  unfold firstT
  cases h : firstW (fun w => differB (torusR R c w)) 16 2 65536 with
  | none => exact ⟨by simp, (fun row h => by cases h), (fun h => by cases h), (fun _ => rfl)⟩
  | some p =>
    obtain ⟨w, b⟩ := p
    dsimp only
    unfold firstW at h
    obtain ⟨m, _, hm⟩ := List.exists_of_findSome?_eq_some h
    split at hm
    · rename_i h1
      obtain ⟨rfl, rfl⟩ := Prod.mk.inj (Option.some.inj hm)
      have hw := wordT_dig m
      exact ⟨by rw [torusR_length]; omega, fun row hr => by rw [(torusR_mem hs hw.1 hr).1]; omega, (fun _ => ⟨torusR_form hs hw.1 hw.2, h1, torusR_length _ _ _⟩), (fun h => by cases h)⟩
    · cases hm
theorem power16 : Ev (fun q => impl_power.f q 2 ((16 : Nat) : Int)) ((65536 : Nat) : Int) := Ev.of (fun q => impl_power.mono 2 ((16 : Nat) : Int) q) (k := 100) (by kernel_rfl)
theorem impl_FirstTorus_at {R c : Nat} (hs : sizeT R c) (hR : (R : Int) ∈ ([1, 2, 4, 8, 16] : List Int)) : Ev (fun q => impl_FirstTorus.f q (R : Int)) (firstT R c) := by
  unfold impl_FirstTorus.f firstT
  refine ev_call (slices_Contains_int_int_ev [1, 2, 4, 8, 16] (R : Int) (by simp)) (ev_pos (decide_eq_true hR) ?_)
  have hf : Ev (fun q => impl_firstWord.f (impl_FirstTorus.is (R : Int)) q 16 2) ((firstW (fun w => differB (torusR R c w)) 16 2 65536).getD ([], false)) := impl_firstWord_ev (impl_FirstTorus.is (R : Int)) (fun w => differB (torusR R c w)) 16 2 65536 (by omega) (by omega) (by omega) power16 (fun m _ => impl_is_ev hs (wordT_dig m))
  have hS : ∀ w b, firstW (fun w => differB (torusR R c w)) 16 2 65536 = some (w, b) → wordT w ∧ b = true := by
    intro w b h
    unfold firstW at h
    obtain ⟨m, _, hm⟩ := List.exists_of_findSome?_eq_some h
    split at hm
    · obtain ⟨rfl, rfl⟩ := Prod.mk.inj (Option.some.inj hm)
      exact ⟨wordT_dig m, rfl⟩
    · cases hm
  generalize firstW (fun w => differB (torusR R c w)) 16 2 65536 = F at hf hS ⊢
  refine ev_call hf ?_
  cases F with
  | none => exact ev_neg (by simp) (Ev.now _)
  | some p =>
    obtain ⟨w, b⟩ := p
    obtain ⟨hw, rfl⟩ := hS w b rfl
    exact ev_pos rfl (ev_call (impl_torusOf_ev hs hw) (Ev.now _))
theorem spec_rows_ev {R c : Nat} (hs : sizeT R c) {w : List Int} (hw : wordT w) (x4 : Int) {r : List (List Int) × Bool} (e : Ev (fun q => (spec_suWindows.f q (torusR R c w)).bind fun t => (if t = true then ((spec_suOwn.f q (torusR R c w)).bind fun u => (some (u, true))) else (spec_FirstTorus.l0 q (R : Int) (wrap64 (x4 + 1))))) r) : ∀ (d i : Nat), i + d = R → Ev (fun q => spec_FirstTorus.l1 q (R : Int) x4 w ((i * c : Nat) : Int) ((List.range' 0 i).map fun i => (w.take ((i + 1) * c)).drop (i * c))) r := by
  have hb := sizeT_iff R c hs
  have hdiv : wrap64 ((16 : Int) / (R : Int)) = (c : Int) := by
    unfold sizeT at hs
    rw [show ((16 : Int) / (R : Int)) = ((16 / R : Nat) : Int) from rfl, ← hs, Nat.mul_div_cancel _ (by omega : 0 < R)]
    exact wrap_id (by omega)
  have hs' := hs
  unfold sizeT at hs'
  intro d
  induction d with
  | zero =>
    intro i h
    obtain rfl : i = R := by omega
    refine Ev.step (fun k => by simp only [spec_FirstTorus.l1]; rfl) ?_
    refine ev_neg (by rw [Nat.mul_comm i c, hs']; decide) ?_
    exact e
  | succ d ih =>
    intro i h
    have h2 : (i + 1) * c ≤ R * c := Nat.mul_le_mul_right _ (by omega)
    rw [Nat.mul_comm R c, hs'] at h2
    have h3 : (i + 1) * c = i * c + c := by rw [Nat.add_mul, Nat.one_mul]
    refine Ev.step (fun k => by simp only [spec_FirstTorus.l1]; rfl) ?_
    rw [hdiv]
    have h4 := ih (i + 1) (by omega)
    rw [← List.range'_append (s := 0) (m := i) (n := 1) (step := 1), List.map_append] at h4
    rw [h3] at h2 h4
    generalize hm : i * c = m at *
    rw [wrap_id (x := (m : Int) + (c : Int)) (by omega), show (m : Int) + (c : Int) = ((m + c : Nat) : Int) by omega, Int.toNat_natCast, Int.toNat_natCast]
    refine ev_pos (by omega) (ev_neg (by omega) (ev_pos (by omega) (ev_pos (by omega) (ev_pos (by rw [hw.1]; omega) (ev_pos (by simp; omega) ?_)))))
    have e5 : (List.range' (0 + 1 * i) 1).map (fun i => (w.take ((i + 1) * c)).drop (i * c)) = [(w.take (m + c)).drop m] := by
      rw [show 0 + 1 * i = i by omega]
      simp only [List.range'_succ, List.range'_zero, List.map_cons, List.map_nil]
      rw [h3, hm]
    rw [e5] at h4
    exact h4
theorem spec_search_ev {R c : Nat} (hs : sizeT R c) : ∀ (d m : Nat), m + d = 65536 → Ev (fun q => spec_FirstTorus.l0 q (R : Int) (m : Int)) (match (List.range' m d).findSome? fun (c' : Nat) => if differB (torusR R c (digW 16 2 (c' : Int))) = true then some (digW 16 2 (c' : Int), true) else none with
      | some (w, _) => (torusR R c w, true)
      | none => ([], false)) := by
  have hb := sizeT_iff R c hs
  intro d
  induction d with
  | zero =>
    intro m h
    refine Ev.step (fun k => by simp only [spec_FirstTorus.l0]; rfl) ?_
    exact ev_neg (by omega) (Ev.now _)
  | succ d ih =>
    intro m h
    have hw := wordT_dig m
    refine Ev.step (fun k => by simp only [spec_FirstTorus.l0]; rfl) ?_
    refine ev_pos (by omega) (ev_call (spec_suCount_ev 16 2 (m : Int) (by omega) (by omega) (by omega) (by omega)) ?_)
    have hform := torusR_form hs hw.1 hw.2
    have hlen : (torusR R c (digW 16 2 (m : Int))).length ≤ 1048576 := by rw [torusR_length]; omega
    have hrow : ∀ row ∈ torusR R c (digW 16 2 (m : Int)), row.length ≤ 1048576 := fun row hr => by rw [(torusR_mem hs hw.1 hr).1]; omega
    rw [List.range'_succ, List.findSome?_cons]
    have key := spec_rows_ev hs hw (m : Int) (r := (match (if differB (torusR R c (digW 16 2 (m : Int))) = true then some (digW 16 2 (m : Int), true) else none) with
        | some b => some b
        | none => (List.range' (m + 1) d).findSome? fun (c' : Nat) => if differB (torusR R c (digW 16 2 (c' : Int))) = true then some (digW 16 2 (c' : Int), true) else none).elim ([], false) (fun p => (torusR R c p.1, true))) ?_ R 0 (by omega)
    · rw [Nat.zero_mul] at key
      refine ev_to key ?_
      by_cases c1 : differB (torusR R c (digW 16 2 (m : Int))) = true
      · rw [if_pos c1]; rfl
      · rw [if_neg c1]
        dsimp only
        split <;> (rename_i h1; rw [h1]; rfl)
    · refine ev_call (spec_suWindows_ev hform) ?_
      by_cases c1 : differB (torusR R c (digW 16 2 (m : Int))) = true
      · rw [if_pos c1]
        exact ev_pos c1 (ev_call (spec_suOwn_ev _ hlen hrow) (Ev.now _))
      · rw [if_neg c1]
        refine ev_neg c1 ?_
        rw [wrap_succ (by omega)]
        refine ev_to (ih (m + 1) (by omega)) ?_
        dsimp only
        split <;> (rename_i h1; rw [h1]; rfl)
theorem spec_FirstTorus_at {R c : Nat} (hs : sizeT R c) : Ev (fun q => spec_FirstTorus.f q (R : Int)) (firstT R c) := by
  have hb := sizeT_iff R c hs
  have hmod : (16 : Int) % (R : Int) = 0 := by
    unfold sizeT at hs
    rw [show ((16 : Int) % (R : Int)) = ((16 % R : Nat) : Int) from rfl, ← hs, Nat.mul_mod_left]; rfl
  unfold spec_FirstTorus.f
  refine ev_plain (spec_l1In_eq _ _ _) (ev_pos (inB_iff.mpr (by omega)) (ev_neg (by omega) ?_))
  refine Ev.step (fun k => by simp only [spec_FirstTorus.j0]; rfl) ?_
  refine ev_neg (by rw [hmod]; decide) ?_
  exact spec_search_ev hs 65536 0 (by omega)
theorem firstTorus_both (a0 : Int) : ∃ r : List (List Int) × Bool, Ev (fun q => spec_FirstTorus.f q a0) r ∧ Ev (fun q => impl_FirstTorus.f q a0) r ∧ (r.1.length ≤ 16 ∧ ∀ row ∈ r.1, row.length ≤ 16) ∧ (r.2 = true → formB r.1 = true ∧ differB r.1 = true ∧ (r.1.length : Int) = a0) := by
  by_cases h : a0 ∈ ([1, 2, 4, 8, 16] : List Int)
  · have h2 : a0 = 1 ∨ a0 = 2 ∨ a0 = 4 ∨ a0 = 8 ∨ a0 = 16 := by simpa using h
    have go : ∀ R c : Nat, sizeT R c → a0 = (R : Int) → ∃ r : List (List Int) × Bool, Ev (fun q => spec_FirstTorus.f q a0) r ∧ Ev (fun q => impl_FirstTorus.f q a0) r ∧ (r.1.length ≤ 16 ∧ ∀ row ∈ r.1, row.length ≤ 16) ∧ (r.2 = true → formB r.1 = true ∧ differB r.1 = true ∧ (r.1.length : Int) = a0) := by
      intro R c hs e
      subst e
      obtain ⟨m1, m2, m3, _⟩ := firstT_small R c hs
      exact ⟨firstT R c, spec_FirstTorus_at hs, impl_FirstTorus_at hs h, ⟨m1, m2⟩, fun g => ⟨(m3 g).1, (m3 g).2.1, by rw [(m3 g).2.2]⟩⟩
    rcases h2 with e | e | e | e | e
    · exact go 1 16 rfl e
    · exact go 2 8 rfl e
    · exact go 4 4 rfl e
    · exact go 8 2 rfl e
    · exact go 16 1 rfl e
  · refine ⟨([], false), ?_, ?_, ⟨by simp, fun row h => by cases h⟩, fun h => by cases h⟩
    · unfold spec_FirstTorus.f
      refine ev_plain (spec_l1In_eq _ _ _) (ev_if (fun h1 => ?_) (fun h1 => ?_))
      · have h1 := inB_iff.mp h1
        refine ev_neg (by omega) ?_
        refine Ev.step (fun k => by simp only [spec_FirstTorus.j0]; rfl) ?_
        refine ev_pos ?_ (Ev.now _)
        have h3 : a0 = 1 ∨ a0 = 2 ∨ a0 = 3 ∨ a0 = 4 ∨ a0 = 5 ∨ a0 = 6 ∨ a0 = 7 ∨ a0 = 8 ∨ a0 = 9 ∨ a0 = 10 ∨ a0 = 11 ∨ a0 = 12 ∨ a0 = 13 ∨ a0 = 14 ∨ a0 = 15 ∨ a0 = 16 := by omega
        rcases h3 with rfl | rfl | rfl | rfl | rfl | rfl | rfl | rfl | rfl | rfl | rfl | rfl | rfl | rfl | rfl | rfl <;> first | decide | exact absurd (by simp) h
      · refine Ev.step (fun k => by simp only [spec_FirstTorus.j0]; rfl) ?_
        exact ev_pos (by trivial) (Ev.now _)
    · unfold impl_FirstTorus.f
      exact ev_call (slices_Contains_int_int_ev [1, 2, 4, 8, 16] a0 (by simp)) (ev_neg (by rw [decide_eq_false h]; decide) (Ev.now _))

theorem laws_eqIntS_loop (l : List Int) (hl : l.length ≤ 35184372088832) : ∀ (d i : Nat), i + d = l.length → Ev (fun k => laws_eqIntS.l0 k l l (i : Int)) true := by
  intro d
  induction d with
  | zero =>
    intro i h
    refine Ev.step (f := fun _ => some true) (fun k => ?_) (Ev.now _)
    simp only [laws_eqIntS.l0]; rw [if_neg (by omega)]
  | succ d ih =>
    intro i h
    refine Ev.step (f := fun k => laws_eqIntS.l0 k l l ((i + 1 : Nat) : Int)) (fun k => ?_) (ih (i + 1) (by omega))
    simp only [laws_eqIntS.l0]; rw [if_pos (by omega), if_pos (by omega), if_pos (by omega), if_pos trivial, wrap_succ (by omega)]
theorem laws_eqIntS_ev (l : List Int) (hl : l.length ≤ 35184372088832) : Ev (fun k => laws_eqIntS.f k l l) true := by
  unfold laws_eqIntS.f
  exact ev_pos rfl (laws_eqIntS_loop l hl l.length 0 (by omega))

theorem eqIntSS_loop (t : List (List Int)) (ht : t.length ≤ 1048576) (hr : ∀ row ∈ t, row.length ≤ 1048576) : ∀ (d i : Nat), i + d = t.length → Ev (fun q => laws_eqIntSS.l0 q t t (i : Int)) true := by
  intro d
  induction d with
  | zero =>
    intro i h
    refine Ev.step (fun k => by simp only [laws_eqIntSS.l0]; rfl) ?_
    exact ev_neg (by omega) (Ev.now _)
  | succ d ih =>
    intro i h
    have hlen := hr _ (rowT_mem t i (by omega))
    refine Ev.step (fun k => by simp only [laws_eqIntSS.l0]; rfl) ?_
    refine ev_pos (by omega) ?_
    refine ev_pos (by omega) ?_
    refine ev_pos (by omega) ?_
    rw [rd_L1_nat, wrap_succ (by omega)]
    refine ev_call (laws_eqIntS_ev _ (by omega)) ?_
    exact ev_pos rfl (ih (i + 1) (by omega))
theorem eqTorus_ev (t : List (List Int)) (ht : t.length ≤ 1048576) (hr : ∀ row ∈ t, row.length ≤ 1048576) : Ev (fun q => laws_eqTorus.f q t t) true := by
  unfold laws_eqTorus.f laws_eqIntSS.f
  exact ev_call (ev_pos rfl (eqIntSS_loop t ht hr t.length 0 (by omega))) (ev_pos rfl (Ev.now _))

theorem laws_markIntS_loop : ∀ (d i : Nat) (ys : List Int) (m : Int), i + d = ys.length → 0 ≤ m → m + d ≤ 1000000000000000 → ys.length ≤ 35184372088832 →
    Ev (fun k => laws_markIntS.l0 k ys m (i : Int)) (m + (d : Int), ys.take i ++ marks m d) := by
  intro d
  induction d with
  | zero =>
    intro i ys m h1 h2 h3 h4
    refine Ev.step (f := fun _ => some (m, ys)) (fun k => ?_) (ev_some ?_)
    · simp only [laws_markIntS.l0]; rw [if_neg (by omega)]
    · rw [List.take_of_length_le (by omega)]; simp [marks]
  | succ d ih =>
    intro i ys m h1 h2 h3 h4
    refine Ev.step (f := fun k => laws_markIntS.l0 k (ys.set i m) (m + 1) ((i + 1 : Nat) : Int)) (fun k => ?_) (ev_to (ih (i + 1) _ (m + 1) (by simp; omega) (by omega) (by omega) (by simpa using h4)) ?_)
    · simp only [laws_markIntS.l0]; rw [if_pos (by omega), if_pos (by omega), wrap_succ (by omega), wrap_id (by omega), Int.toNat_natCast]
    · rw [marks_succ, List.take_succ_eq_append_getElem (by simp; omega), List.take_set, List.set_eq_of_length_le (by simp; omega)]
      refine Prod.ext (by simp; omega) ?_
      simp
theorem laws_markIntS_ev (l : List Int) (m : Int) (h2 : 0 ≤ m) (h3 : m ≤ 900000000000000) (h4 : l.length ≤ 35184372088832) : Ev (fun k => laws_markIntS.f k l m) (m + (l.length : Int), marks m l.length) :=
  ev_to (laws_markIntS_loop l.length 0 l m (by omega) h2 (by omega) h4) (by simp)

theorem laws_heldIntS_loop (zs : List Int) (hz : zs.length ≤ 35184372088832) : ∀ (d i : Nat) (m : Int), i + d = zs.length → 0 ≤ m → m + d ≤ 1000000000000000 → zs.drop i = marks m d →
    Ev (fun k => laws_heldIntS.l0 k zs m (i : Int)) (m + (d : Int)) := by
  intro d
  induction d with
  | zero =>
    intro i m h1 h2 h3 h4
    refine Ev.step (f := fun _ => some m) (fun k => ?_) (ev_some (by simp))
    simp only [laws_heldIntS.l0]; rw [if_neg (by omega)]
  | succ d ih =>
    intro i m h1 h2 h3 h4
    rw [drop_rd zs i (by omega), marks_succ, List.cons.injEq] at h4
    refine Ev.step (f := fun k => laws_heldIntS.l0 k zs (m + 1) ((i + 1 : Nat) : Int)) (fun k => ?_) (ev_to (ih (i + 1) (m + 1) (by omega) (by omega) (by omega) h4.2) (by omega))
    simp only [laws_heldIntS.l0]; rw [if_pos (by omega), if_pos (by omega), if_pos h4.1, wrap_succ (by omega), wrap_id (by omega)]
theorem laws_heldIntS_ev (m : Int) (n : Nat) (h2 : 0 ≤ m) (h3 : m ≤ 900000000000000) (h4 : n ≤ 35184372088832) : Ev (fun k => laws_heldIntS.f k (marks m n) m) (m + (n : Int)) :=
  laws_heldIntS_loop (marks m n) (by simpa [marks_length] using h4) n 0 m (by simp [marks_length]) h2 (by omega) rfl

def marksSS : Int → List (List Int) → List (List Int)
  | _, [] => []
  | m, row :: t => marks m row.length :: marksSS (m + (row.length : Int)) t
def totalL : List (List Int) → Nat
  | [] => 0
  | row :: t => row.length + totalL t
theorem totalL_cons (row : List Int) (t : List (List Int)) : totalL (row :: t) = row.length + totalL t := rfl
theorem totalL_le (c : Nat) : ∀ (t : List (List Int)), (∀ row ∈ t, row.length ≤ c) → totalL t ≤ t.length * c
  | [], _ => by simp [totalL]
  | row :: t, h => by
    have h1 := h row (by simp)
    have h2 := totalL_le c t (fun r hr => h r (by simp [hr]))
    unfold totalL
    rw [List.length_cons, Nat.add_mul, Nat.one_mul]
    omega
theorem marksSS_length : ∀ (t : List (List Int)) (m : Int), (marksSS m t).length = t.length
  | [], _ => rfl
  | row :: t, m => by unfold marksSS; rw [List.length_cons, marksSS_length t, List.length_cons]
theorem getD_mid (done rest : List (List Int)) (row : List Int) : (done ++ row :: rest).getD ((done.length : Nat) : Int).toNat [] = row := by
  rw [Int.toNat_natCast, List.getD_eq_getElem?_getD, List.getElem?_append_right (Nat.le_refl _), Nat.sub_self]
  rfl
theorem laws_markIntSS_ev : ∀ (rest done : List (List Int)) (m : Int), 0 ≤ m → m + (totalL rest : Int) ≤ 10000000000000 → done.length + rest.length ≤ 1000000000000 → Ev (fun q => laws_markIntSS.l0 q (done ++ rest) m ((done.length : Nat) : Int)) (m + (totalL rest : Int), done ++ marksSS m rest) := by
  intro rest
  induction rest with
  | nil =>
    intro done m h0 h1 h2
    refine Ev.step (fun k => by simp only [laws_markIntSS.l0]; rfl) ?_
    refine ev_neg (by simp) (ev_some ?_)
    simp [totalL, marksSS]
  | cons row rest ih =>
    intro done m h0 h1 h2
    have ht : (totalL (row :: rest) : Int) = (row.length : Int) + (totalL rest : Int) := by rw [totalL_cons]; omega
    rw [List.length_cons] at h2
    refine Ev.step (fun k => by simp only [laws_markIntSS.l0]; rfl) ?_
    refine ev_pos (by simp; omega) ?_
    refine ev_pos (by omega) ?_
    rw [getD_mid]
    refine ev_call (laws_markIntS_ev row m h0 (by omega) (by omega)) ?_
    dsimp only
    have hs : (done ++ row :: rest).set ((done.length : Nat) : Int).toNat (marks m row.length) = (done ++ [marks m row.length]) ++ rest := by
      rw [Int.toNat_natCast, List.set_append_right _ _ (Nat.le_refl _), Nat.sub_self]
      simp
    have hl : wrap64 (((done.length : Nat) : Int) + 1) = (((done ++ [marks m row.length]).length : Nat) : Int) := by rw [wrap_succ (by omega)]; simp
    rw [hs, hl]
    refine ev_to (ih (done ++ [marks m row.length]) (m + (row.length : Int)) (by omega) (by omega) (by simp; omega)) ?_
    rw [ht]
    show _ = (_, done ++ (marks m row.length :: marksSS (m + (row.length : Int)) rest))
    rw [List.append_assoc]
    congr 1
    omega
theorem laws_heldIntSS_ev : ∀ (rest : List (List Int)) (done : List (List Int)) (m : Int), 0 ≤ m → m + (totalL rest : Int) ≤ 10000000000000 → done.length + rest.length ≤ 1000000000000 → Ev (fun q => laws_heldIntSS.l0 q (done ++ marksSS m rest) m ((done.length : Nat) : Int)) (m + (totalL rest : Int)) := by
  intro rest
  induction rest with
  | nil =>
    intro done m h0 h1 h2
    refine Ev.step (fun k => by simp only [laws_heldIntSS.l0]; rfl) ?_
    refine ev_neg (by simp [marksSS]) (ev_some ?_)
    simp [totalL]
  | cons row rest ih =>
    intro done m h0 h1 h2
    have ht : (totalL (row :: rest) : Int) = (row.length : Int) + (totalL rest : Int) := by rw [totalL_cons]; omega
    rw [List.length_cons] at h2
    have hrd : rd_L1 (done ++ marksSS m (row :: rest)) ((done.length : Nat) : Int) = marks m row.length := by
      rw [rd_L1_nat]
      unfold rowT marksSS
      rw [List.getD_eq_getElem?_getD, List.getElem?_append_right (Nat.le_refl _), Nat.sub_self]
      rfl
    refine Ev.step (fun k => by simp only [laws_heldIntSS.l0]; rfl) ?_
    refine ev_pos (by rw [List.length_append, marksSS_length, List.length_cons]; omega) ?_
    refine ev_pos (by omega) ?_
    rw [hrd]
    refine ev_call (laws_heldIntS_ev m row.length h0 (by omega) (by omega)) ?_
    refine ev_neg (by omega) ?_
    have hl : wrap64 (((done.length : Nat) : Int) + 1) = (((done ++ [marks m row.length]).length : Nat) : Int) := by rw [wrap_succ (by omega)]; simp
    have hd : done ++ marksSS m (row :: rest) = (done ++ [marks m row.length]) ++ marksSS (m + (row.length : Int)) rest := by
      rw [List.append_assoc]; rfl
    rw [hl, hd, ht]
    refine ev_to (ih (done ++ [marks m row.length]) (m + (row.length : Int)) (by omega) (by omega) (by simp; omega)) (by omega)

theorem totalL_ge : ∀ (t : List (List Int)), 0 ≤ (totalL t : Int) := fun t => Int.natCast_nonneg _
theorem heldTorus_ev (t : List (List Int)) (hl : t.length ≤ 1048576) (ht : (totalL t : Int) ≤ 5000000000000) : Ev (fun q => laws_heldTorus.f q (marksSS 1 t) 1) (1 + (totalL t : Int)) := by
  unfold laws_heldTorus.f laws_heldIntSS.f
  have h := laws_heldIntSS_ev t [] 1 (by omega) (by omega) (by simp; omega)
  simp only [List.nil_append, List.length_nil] at h
  exact ev_call h (ev_neg (by have := totalL_ge t; omega) (Ev.now _))
theorem markTorus_ev (t : List (List Int)) (hl : t.length ≤ 1048576) (ht : (totalL t : Int) ≤ 5000000000000) : Ev (fun q => laws_markTorus.f q t 1) (1 + (totalL t : Int), marksSS 1 t) := by
  unfold laws_markTorus.f laws_markIntSS.f
  have h := laws_markIntSS_ev t [] 1 (by omega) (by omega) (by simp; omega)
  simp only [List.nil_append, List.length_nil] at h
  exact h

theorem FnExactFirstTorus (a0 : Int) (_ : (Lit.int .i64 a0).wf = true) : ∃ k, laws_FnExactFirstTorus.f k a0 = some true := by
  refine Ev.rounds (r := true) ?_
  unfold laws_FnExactFirstTorus.f
  obtain ⟨r, e1, e2, ⟨m1, m2⟩, _⟩ := firstTorus_both a0
  have m3 : ∀ row ∈ r.1, row.length ≤ 1048576 := fun row h => by have := m2 row h; omega
  have t2 : (totalL r.1 : Int) ≤ 5000000000000 := by
    have := totalL_le 16 _ m2
    omega
  refine ev_call e1 (ev_call e2 (ev_pos rfl ?_))
  refine ev_call (eqTorus_ev _ (by omega) m3) (ev_pos rfl ?_)
  refine ev_call (markTorus_ev _ (by omega) t2) (ev_pos (by have := totalL_ge r.1; dsimp only; omega) ?_)
  exact ev_call (heldTorus_ev _ (by omega) t2) (ev_pos rfl (Ev.now _))

end Go.Proofs.Ytfbafdlgnjkioaa.Pure
