/- The pure statement of TorusPlace: program and reference answer alike, for all arguments; no condition. -/
import Derived.Test.YtenmdfeldcjdfaaPFnExactTorusPlacex7
import Derived.Test.YtenmdfeldcjdfaaBase
import Derived.Test.YtenmdfeldcjdfaaLists
import Derived.Test.YtenmdfeldcjdfaaRegs
namespace Go.Proofs.Ytenmdfeldcjdfaa.Pure
open Go.RowKit Go.Proofs.Ytenmdfeldcjdfaa.PFnExactTorusPlace Go.Proofs.YtenmdfeldcjdfaaW.PrintWords Go.Proofs.YtenmdfeldcjdfaaW.PrintLast Go.Proofs.Ytenmdfeldcjdfaa.Base
set_option maxRecDepth 10000
set_option linter.unusedVariables false
set_option linter.unusedSimpArgs false

def rowT (t : List (List Int)) (i : Nat) : List Int := t.getD i []
theorem rd_L1_nat (t : List (List Int)) (i : Nat) : rd_L1 t (i : Int) = rowT t i := by simp [rd_L1, rowT]
theorem rowT_get (t : List (List Int)) (i : Nat) (h : i < t.length) : rowT t i = t[i] := by simp [rowT, List.getD_eq_getElem?_getD, List.getElem?_eq_getElem h]
theorem rowT_mem (t : List (List Int)) (i : Nat) (h : i < t.length) : rowT t i ∈ t := by rw [rowT_get t i h]; exact List.getElem_mem h
theorem drop_rowT (t : List (List Int)) (i : Nat) (h : i < t.length) : t.drop i = rowT t i :: t.drop (i + 1) := by rw [rowT_get t i h]; exact List.drop_eq_getElem_cons h
def rowOk (n : Nat) (row : List Int) : Bool := decide (row.length * n = 16) && allB row 0 1
def formB (t : List (List Int)) : Bool := inB (t.length : Int) 1 16 && t.all (rowOk t.length)
theorem formB_iff {t : List (List Int)} : formB t = true ↔ (1 ≤ t.length ∧ t.length ≤ 16) ∧ ∀ row ∈ t, row.length * t.length = 16 ∧ ∀ x ∈ row, 0 ≤ x ∧ x ≤ 1 := by
  simp only [formB, rowOk, Bool.and_eq_true, inB_iff, List.all_eq_true, decide_eq_true_eq, allB_iff]
  exact and_congr ⟨fun h => ⟨by omega, by omega⟩, fun h => ⟨by omega, by omega⟩⟩ Iff.rfl
/-- The window of a torus, whose rows have c letters. -/
def twin (t : List (List Int)) (c i j : Nat) : List Int := [rd (rowT t i) (j : Int), rd (rowT t i) (((j + 1) % c : Nat) : Int), rd (rowT t ((i + 1) % t.length)) (j : Int), rd (rowT t ((i + 1) % t.length)) (((j + 1) % c : Nat) : Int)]
def rowsW (t : List (List Int)) (c i d : Nat) : List (List Int) := (List.range' i d).flatMap fun i => (List.range' 0 c).map (twin t c i)
theorem rowsW_succ (t : List (List Int)) (c i d : Nat) : rowsW t c i (d + 1) = (List.range' 0 c).map (twin t c i) ++ rowsW t c (i + 1) d := by
  unfold rowsW
  rw [List.range'_succ, List.flatMap_cons]
def bits4 (w : List Int) : Prop := w.length = 4 ∧ ∀ x ∈ w, 0 ≤ x ∧ x ≤ (2 : Int) - 1
theorem twin_bits {t : List (List Int)} {c i j : Nat} (h : formB t = true) (hc : c * t.length = 16) (hi : i < t.length) (hj : j < c) : bits4 (twin t c i j) := by
  obtain ⟨h1, h2⟩ := formB_iff.mp h
  have hrow : ∀ i, i < t.length → ∀ k : Nat, k < c → 0 ≤ rd (rowT t i) (k : Int) ∧ rd (rowT t i) (k : Int) ≤ (2 : Int) - 1 := fun i hi k hk => by
    obtain ⟨g1, g2⟩ := h2 _ (rowT_mem t i hi)
    have hl : (rowT t i).length = c := Nat.eq_of_mul_eq_mul_right (by omega) (g1.trans hc.symm)
    have := g2 (rd (rowT t i) (k : Int)) (by rw [rd_get _ k (by omega)]; exact List.getElem_mem _)
    omega
  have hm := Nat.mod_lt (i + 1) (show 0 < t.length by omega)
  have hk := Nat.mod_lt (j + 1) (show 0 < c by omega)
  refine ⟨rfl, fun x hx => ?_⟩
  simp only [twin, List.mem_cons, List.not_mem_nil, or_false] at hx
  rcases hx with rfl | rfl | rfl | rfl
  · exact hrow i hi j hj
  · exact hrow i hi _ hk
  · exact hrow _ hm j hj
  · exact hrow _ hm _ hk
theorem rowsW_bits {t : List (List Int)} {c : Nat} (h : formB t = true) (hc : c * t.length = 16) : ∀ w ∈ rowsW t c 0 t.length, bits4 w := by
  intro w hw
  simp only [rowsW, List.mem_flatMap, List.mem_range'_1, List.mem_map] at hw
  obtain ⟨i, hi, j, hj, rfl⟩ := hw
  exact twin_bits h hc (by omega) (by omega)
theorem rowsW_length (t : List (List Int)) (c : Nat) : ∀ d i, (rowsW t c i d).length = c * d := by
  intro d
  induction d with
  | zero => intro i; simp [rowsW]
  | succ d ih => intro i; rw [rowsW_succ, List.length_append, ih, List.length_map, List.length_range', Nat.mul_succ, Nat.add_comm]
def codeW (w : List Int) : Nat := (codeN 2 w).toNat
theorem codeW_lt {w : List Int} (h : bits4 w) : codeW w < 16 := by
  have := codeN_range 2 4 w h.1 (fun x hx => by have := h.2 x hx; omega)
  unfold codeW
  have : (2 ^ 4 : Nat) = 16 := rfl
  omega
theorem codeW_inj {u v : List Int} (h : bits4 u) (k : bits4 v) (e : codeW u = codeW v) : u = v := by
  have h1 := codeN_range 2 4 u h.1 (fun x hx => by have := h.2 x hx; omega)
  have h2 := codeN_range 2 4 v k.1 (fun x hx => by have := k.2 x hx; omega)
  unfold codeW at e
  exact codeN_inj 4 u v h.1 k.1 h.2 k.2 (by omega)
def maskF (m : Nat) (w : List Int) : Nat := m ||| (1 <<< codeW w)
theorem maskF_bit (d : Nat) : ∀ (l : List (List Int)) (m : Nat), (l.foldl maskF m).testBit d = (m.testBit d || decide (∃ w ∈ l, codeW w = d)) := by
  intro l
  induction l with
  | nil => intro m; simp
  | cons a l ih =>
    intro m
    rw [List.foldl_cons, ih]
    unfold maskF
    rw [Nat.testBit_or, Bool.or_assoc]
    congr 1
    rw [Bool.eq_iff_iff, Bool.or_eq_true, decide_eq_true_eq, decide_eq_true_eq, Nat.one_shiftLeft, Nat.testBit_two_pow, decide_eq_true_eq]
    simp
theorem maskF_lt : ∀ (l : List (List Int)) (m : Nat), (∀ w ∈ l, bits4 w) → m < 65536 → l.foldl maskF m < 65536 := by
  intro l
  induction l with
  | nil => intro m _ h; exact h
  | cons a l ih =>
    intro m h hm
    rw [List.foldl_cons]
    refine ih _ (fun w hw => h w (by simp [hw])) ?_
    have hc := codeW_lt (h a (by simp))
    have h1 : (1 <<< codeW a) < 2 ^ 16 := by rw [Nat.one_shiftLeft]; exact Nat.pow_lt_pow_right (by omega) hc
    exact Nat.or_lt_two_pow (n := 16) hm h1
theorem mask_all {m : Nat} (hm : m < 65536) : m = 65535 ↔ ∀ d, d < 16 → m.testBit d = true := by
  have e : (65535 : Nat) = 2 ^ 16 - 1 := rfl
  constructor
  · rintro rfl d hd
    rw [e, Nat.testBit_two_pow_sub_one]; exact decide_eq_true hd
  · intro h
    apply Nat.eq_of_testBit_eq
    intro d
    rw [e, Nat.testBit_two_pow_sub_one]
    by_cases hd : d < 16
    · rw [h d hd, decide_eq_true hd]
    · rw [decide_eq_false hd]
      exact Nat.testBit_lt_two_pow (Nat.lt_of_lt_of_le hm (by rw [show (65536 : Nat) = 2 ^ 16 from rfl]; exact Nat.pow_le_pow_right (by omega) (by omega)))
/-- Sixteen windows: all numbers come just where no window comes twice. -/
theorem mask_nodup (l : List (List Int)) (hl : l.length = 16) (hb : ∀ w ∈ l, bits4 w) : l.foldl maskF 0 = 65535 ↔ l.Nodup := by
  have hget : ∀ i, (h : i < l.length) → bits4 l[i] := fun i h => hb _ (List.getElem_mem h)
  rw [mask_all (maskF_lt l 0 hb (by omega))]
  simp only [maskF_bit, Nat.zero_testBit, Bool.false_or, decide_eq_true_eq]
  constructor
  · intro h
    refine List.pairwise_iff_getElem.mpr (fun i j hi hj hij e => ?_)
    have hex : ∀ d, d < 16 → ∃ p, ∃ hp : p < l.length, codeW l[p] = d ∧ p ≠ j := fun d hd => by
      obtain ⟨w, hw, hc⟩ := h d hd
      obtain ⟨p, hp, rfl⟩ := List.getElem_of_mem hw
      by_cases c : p = j
      · subst c
        exact ⟨i, hi, by rw [e]; exact hc, by omega⟩
      · exact ⟨p, hp, hc, c⟩
    have hf : ∃ f : Nat → Nat, ∀ d, d < 16 → ∃ hp : f d < l.length, codeW (l[f d]) = d ∧ f d ≠ j := by
      refine ⟨fun d => if hd : d < 16 then (hex d hd).choose else 0, fun d hd => ?_⟩
      simp only [dif_pos hd]
      exact (hex d hd).choose_spec
    obtain ⟨f, hf⟩ := hf
    obtain ⟨a, b, h1, h2, h3⟩ := pigeon 15 (fun d => if f d < j then f d else f d - 1) (fun d hd => by
      obtain ⟨hp, _, hne⟩ := hf d (by omega)
      show (if f d < j then f d else f d - 1) < 15
      split <;> omega)
    obtain ⟨pa, ca, na⟩ := hf a (by omega)
    obtain ⟨pb, cb, nb⟩ := hf b (by omega)
    have h4 : (if f a < j then f a else f a - 1) = (if f b < j then f b else f b - 1) := h3
    have h5 : f a = f b := by split at h4 <;> split at h4 <;> omega
    have h6 : codeW (l[f a]'pa) = codeW (l[f b]'pb) := by congr 1; exact getElem_congr rfl h5 _
    omega
  · intro hn d hd
    have hpw := List.pairwise_iff_getElem.mp hn
    obtain ⟨i, j, h1, h2, e⟩ := pigeon 16 (fun i => if h : i < l.length then codeW l[i] else d) (fun i hi => by
      show (if h : i < l.length then codeW l[i] else d) < 16
      split
      · rename_i h; exact codeW_lt (hget i h)
      · exact hd)
    have e2 : (if h : i < l.length then codeW l[i] else d) = (if h : j < l.length then codeW l[j] else d) := e
    rw [dif_pos (show i < l.length by omega)] at e2
    by_cases c : j < l.length
    · rw [dif_pos c] at e2
      exact absurd (codeW_inj (hget i (by omega)) (hget j c) e2) (hpw i j (by omega) c h1)
    · rw [dif_neg c] at e2
      exact ⟨l[i]'(by omega), List.getElem_mem _, e2⟩
def specW : List (List Int) → List (List Int) → Bool
  | _, [] => true
  | acc, w :: l => if w ∈ acc then false else specW (acc ++ [w]) l
theorem specW_iff : ∀ (l acc : List (List Int)), acc.Nodup → (specW acc l = true ↔ (acc ++ l).Nodup) := by
  intro l
  induction l with
  | nil => intro acc h; simp [specW, h]
  | cons w l ih =>
    intro acc h
    unfold specW
    by_cases c : w ∈ acc
    · rw [if_pos c]
      refine ⟨fun h => (by cases h), fun hn => ?_⟩
      rw [List.nodup_append] at hn
      exact absurd rfl (hn.2.2 w c w (by simp))
    · rw [if_neg c, ih (acc ++ [w]) (by
        rw [List.nodup_append]
        refine ⟨h, by simp, fun a ha b hb => ?_⟩
        rw [List.mem_singleton] at hb
        rintro rfl
        exact c (hb ▸ ha)), List.append_assoc]
      rfl

theorem impl_within_eq (a lo hi : Int) : impl_within.f a lo hi = some (inB a lo hi) := by
  unfold impl_within.f inB
  by_cases h : a ≥ lo
  · rw [if_pos h]; simp [h]
  · rw [if_neg h]; simp [show ¬ lo ≤ a from h]

theorem impl_allWithin_loop (lo hi : Int) (xs : List Int) (hx : xs.length ≤ 1000000000000) : ∀ (d i : Nat), i + d = xs.length →
    Ev (fun k => impl_allWithin.l0 k lo hi xs (xs.length : Int) (i : Int)) (allB (xs.drop i) lo hi) := by
  intro d
  induction d with
  | zero =>
    intro i h
    rw [List.drop_eq_nil_of_le (by omega)]
    refine Ev.step (f := fun _ => some true) (fun k => ?_) (Ev.now _)
    simp only [impl_allWithin.l0]; rw [if_neg (by omega)]
  | succ d ih =>
    intro i h
    have hlt : i < xs.length := by omega
    rw [drop_rd xs i hlt]
    refine Ev.step (f := fun k => if inB (rd xs (i : Int)) lo hi = true then impl_allWithin.l0 k lo hi xs (xs.length : Int) ((i + 1 : Nat) : Int) else some false) (fun k => ?_) ?_
    · simp only [impl_allWithin.l0]; rw [if_pos (by omega), if_pos (by omega), if_pos (by omega), impl_within_eq, wrap_succ (by omega)]; rfl
    · by_cases hb : inB (rd xs (i : Int)) lo hi = true
      · exact ev_pos hb (ev_to (ih (i + 1) (by omega)) (by simp [allB, hb]))
      · exact ev_neg hb (ev_some (by simp [allB, Bool.eq_false_iff.mpr hb]))
theorem impl_allWithin_ev (lo hi : Int) (xs : List Int) (hx : xs.length ≤ 1000000000000) : Ev (fun k => impl_allWithin.f k xs lo hi) (allB xs lo hi) :=
  impl_allWithin_loop lo hi xs hx xs.length 0 (by omega)

theorem impl_isTorusForm_loop (t : List (List Int)) (ht : t.length ≤ 16) (hr : ∀ row ∈ t, row.length ≤ 1048576) : ∀ d i : Nat, i + d = t.length → Ev (fun q => impl_isTorusForm.l0 q t (t.length : Int) (i : Int) t) ((t.drop i).all (rowOk t.length)) := by
  intro d
  induction d with
  | zero =>
    intro i h
    rw [List.drop_eq_nil_of_le (by omega)]
    exact Ev.step (fun k => by simp only [impl_isTorusForm.l0]; rfl) (ev_neg (by omega) (ev_some rfl))
  | succ d ih =>
    intro i h
    have hb := hr _ (rowT_mem t i (by omega))
    rw [drop_rowT t i (by omega), List.all_cons]
    refine Ev.step (fun k => by simp only [impl_isTorusForm.l0]; rfl) (ev_pos (by omega) (ev_pos (by omega) (ev_pos (by omega) ?_)))
    have hmul : (rowT t i).length * t.length ≤ 1048576 * 16 := Nat.mul_le_mul hb ht
    rw [rd_L1_nat, wrap_succ (by omega), ← Int.natCast_mul, wrap_id (by omega)]
    refine ev_if (fun h1 => ?_) (fun h1 => ?_)
    · refine ev_call (impl_allWithin_ev 0 1 _ (by omega)) (ev_if (fun h2 => ?_) (fun h2 => ev_some ?_))
      · refine ev_to (ih (i + 1) (by omega)) ?_
        have : rowOk t.length (rowT t i) = true := by unfold rowOk; rw [decide_eq_true (by omega), h2]; rfl
        rw [this]; rfl
      · have : rowOk t.length (rowT t i) = false := by unfold rowOk; rw [Bool.eq_false_iff.mpr h2]; simp
        rw [this]; rfl
    · refine ev_some ?_
      have : rowOk t.length (rowT t i) = false := by unfold rowOk; rw [decide_eq_false (by omega)]; rfl
      rw [this]; rfl
theorem impl_isTorusForm_ev (t : List (List Int)) (hr : ∀ row ∈ t, row.length ≤ 1048576) : Ev (fun q => impl_isTorusForm.f q t) (formB t) := by
  unfold impl_isTorusForm.f formB
  refine ev_plain (impl_within_eq _ _ _) (ev_if (fun h => ?_) (fun h => ev_some (by rw [Bool.eq_false_iff.mpr h]; rfl)))
  have := inB_iff.mp h
  refine ev_to (impl_isTorusForm_loop t (by omega) hr t.length 0 (by omega)) ?_
  rw [h]; rfl

theorem spec_l1In_eq (a lo hi : Int) : spec_l1In.f a lo hi = some (inB a lo hi) := by
  unfold spec_l1In.f inB
  by_cases h : a ≥ lo
  · rw [if_pos h]; simp [h]
  · rw [if_neg h]; simp [show ¬ lo ≤ a from h]

theorem spec_l1All_loop (lo hi : Int) (xs : List Int) (hx : xs.length ≤ 1000000000000) : ∀ (d i : Nat), i + d = xs.length →
    Ev (fun k => spec_l1All.l0 k lo hi xs (xs.length : Int) (i : Int)) (allB (xs.drop i) lo hi) := by
  intro d
  induction d with
  | zero =>
    intro i h
    rw [List.drop_eq_nil_of_le (by omega)]
    refine Ev.step (f := fun _ => some true) (fun k => ?_) (Ev.now _)
    simp only [spec_l1All.l0]; rw [if_neg (by omega)]
  | succ d ih =>
    intro i h
    have hlt : i < xs.length := by omega
    rw [drop_rd xs i hlt]
    refine Ev.step (f := fun k => if inB (rd xs (i : Int)) lo hi = true then spec_l1All.l0 k lo hi xs (xs.length : Int) ((i + 1 : Nat) : Int) else some false) (fun k => ?_) ?_
    · simp only [spec_l1All.l0]; rw [if_pos (by omega), if_pos (by omega), if_pos (by omega), spec_l1In_eq, wrap_succ (by omega)]; rfl
    · by_cases hb : inB (rd xs (i : Int)) lo hi = true
      · exact ev_pos hb (ev_to (ih (i + 1) (by omega)) (by simp [allB, hb]))
      · exact ev_neg hb (ev_some (by simp [allB, Bool.eq_false_iff.mpr hb]))
theorem spec_l1All_ev (lo hi : Int) (xs : List Int) (hx : xs.length ≤ 1000000000000) : Ev (fun k => spec_l1All.f k xs lo hi) (allB xs lo hi) :=
  spec_l1All_loop lo hi xs hx xs.length 0 (by omega)

theorem div16 (n : Nat) (h : 1 ≤ n) : wrap64 ((16 : Int) / (n : Int)) = ((16 / n : Nat) : Int) := by
  have e : (16 : Int) / (n : Int) = ((16 / n : Nat) : Int) := by rw [Int.natCast_ediv]; rfl
  have hle := Nat.div_le_self 16 n
  rw [e]
  clear e
  generalize 16 / n = q at hle ⊢
  exact wrap_id (by omega)
theorem spec_suTorus_loop (t : List (List Int)) (ht : 1 ≤ t.length ∧ t.length ≤ 16) (hd : 16 % t.length = 0) (hr : ∀ row ∈ t, row.length ≤ 1048576) : ∀ d i : Nat, i + d = t.length → Ev (fun q => spec_suTorus.l0 q (t.length : Int) t (t.length : Int) (i : Int)) ((t.drop i).all (rowOk t.length)) := by
  intro d
  induction d with
  | zero =>
    intro i h
    rw [List.drop_eq_nil_of_le (by omega)]
    exact Ev.step (fun k => by simp only [spec_suTorus.l0]; rfl) (ev_neg (by omega) (ev_some rfl))
  | succ d ih =>
    intro i h
    have hb := hr _ (rowT_mem t i (by omega))
    have hiff : (rowT t i).length = 16 / t.length ↔ (rowT t i).length * t.length = 16 := by
      have hm := Nat.div_mul_cancel (Nat.dvd_of_mod_eq_zero hd)
      constructor
      · intro e; rw [e]; exact hm
      · intro e; exact Nat.eq_of_mul_eq_mul_right (by omega) (e.trans hm.symm)
    rw [drop_rowT t i (by omega), List.all_cons]
    refine Ev.step (fun k => by simp only [spec_suTorus.l0]; rfl) (ev_pos (by omega) (ev_pos (by omega) (ev_pos (by omega) (ev_neg (by omega) ?_))))
    rw [rd_L1_nat, wrap_succ (by omega), div16 _ ht.1]
    refine ev_if (fun h1 => ?_) (fun h1 => ?_)
    · refine ev_call (spec_l1All_ev 0 1 _ (by omega)) (ev_if (fun h2 => ?_) (fun h2 => ev_some ?_))
      · refine ev_to (ih (i + 1) (by omega)) ?_
        have : rowOk t.length (rowT t i) = true := by unfold rowOk; rw [decide_eq_true (hiff.mp (by omega)), h2]; rfl
        rw [this]; rfl
      · have : rowOk t.length (rowT t i) = false := by unfold rowOk; rw [Bool.eq_false_iff.mpr h2]; simp
        rw [this]; rfl
    · refine ev_some ?_
      have : rowOk t.length (rowT t i) = false := by unfold rowOk; rw [decide_eq_false (fun e => h1 (by have := hiff.mpr e; omega))]; rfl
      rw [this]; rfl
theorem spec_suTorus_ev (t : List (List Int)) (hr : ∀ row ∈ t, row.length ≤ 1048576) : Ev (fun q => spec_suTorus.f q t) (formB t) := by
  unfold spec_suTorus.f
  refine ev_plain (spec_l1In_eq _ _ _) (ev_if (fun h => ?_) (fun h => ?_))
  · have hl := inB_iff.mp h
    refine ev_neg (by omega) (Ev.step (fun k => by simp only [spec_suTorus.j0]; rfl) ?_)
    rw [show ((16 : Int) % (t.length : Int)) = ((16 % t.length : Nat) : Int) by simp]
    by_cases c : 16 % t.length = 0
    · refine ev_neg (by rw [c]; simp) (ev_to (spec_suTorus_loop t (by omega) c hr t.length 0 (by omega)) ?_)
      unfold formB
      rw [h]; rfl
    · refine ev_pos (by simp only [bne_iff_ne, ne_eq]; omega) (ev_some ?_)
      cases hf : formB t with
      | false => rfl
      | true =>
        obtain ⟨_, h2⟩ := formB_iff.mp hf
        have h3 := (h2 _ (rowT_mem t 0 (by omega))).1
        exact absurd (by rw [← h3, Nat.mul_mod_left]) c
  · refine Ev.step (fun k => by simp only [spec_suTorus.j0]; rfl) (ev_pos (by trivial) (ev_some ?_))
    unfold formB
    rw [Bool.eq_false_iff.mpr h]; rfl

def colsT (t : List (List Int)) : Nat := 16 / t.length
theorem form_row {t : List (List Int)} (h : formB t = true) {i : Nat} (hi : i < t.length) : (rowT t i).length = colsT t := by
  obtain ⟨⟨h1, h2⟩, h3⟩ := formB_iff.mp h
  have := (h3 _ (rowT_mem t i hi)).1
  unfold colsT
  exact (Nat.div_eq_of_eq_mul_left (by omega) this.symm).symm
theorem form_cols {t : List (List Int)} (h : formB t = true) : colsT t * t.length = 16 := by
  obtain ⟨⟨h1, h2⟩, h3⟩ := formB_iff.mp h
  rw [← form_row h (i := 0) (by omega)]
  exact (h3 _ (rowT_mem t 0 (by omega))).1
theorem tmod_nat (a b : Nat) : Int.tmod (a : Int) (b : Int) = ((a % b : Nat) : Int) := rfl
theorem impl_torusWindow_eq {t : List (List Int)} (h : formB t = true) {i j : Nat} (hi : i < t.length) (hj : j < colsT t) : impl_torusWindow.f t (i : Int) (j : Int) = some (twin t (colsT t) i j) := by
  have hn := (formB_iff.mp h).1
  have hc := form_cols h
  have hi1 : (i + 1) % t.length < t.length := Nat.mod_lt _ (by omega)
  have hj1 : (j + 1) % colsT t < colsT t := Nat.mod_lt _ (by omega)
  have hcl : colsT t ≤ 16 := by unfold colsT; exact Nat.div_le_self _ _
  have e1 : wrap64 ((i : Int) + 1) = ((i + 1 : Nat) : Int) := wrap_succ (by omega)
  have e2 : wrap64 ((j : Int) + 1) = ((j + 1 : Nat) : Int) := wrap_succ (by omega)
  unfold impl_torusWindow.f twin
  simp only [e1, e2, tmod_nat, rd_L1_nat, form_row h hi, form_row h hi1]
  clear e1 e2
  rw [if_pos (by omega), if_pos (by omega), if_neg (by omega), if_pos (by omega), if_pos (by omega), if_neg (by omega), if_pos (by omega), if_pos (by omega), if_pos (by omega), if_pos (by omega), if_pos (by omega), if_pos (by omega)]
theorem spec_suWindow_eq {t : List (List Int)} (h : formB t = true) {i j : Nat} (hi : i < t.length) (hj : j < colsT t) : spec_suWindow.f t (i : Int) (j : Int) = some (twin t (colsT t) i j) := by
  have hn := (formB_iff.mp h).1
  have hc := form_cols h
  have hi1 : (i + 1) % t.length < t.length := Nat.mod_lt _ (by omega)
  have hj1 : (j + 1) % colsT t < colsT t := Nat.mod_lt _ (by omega)
  have hcl : colsT t ≤ 16 := by unfold colsT; exact Nat.div_le_self _ _
  have e1 : wrap64 ((i : Int) + 1) = ((i + 1 : Nat) : Int) := wrap_succ (by omega)
  have e2 : wrap64 ((j : Int) + 1) = ((j + 1 : Nat) : Int) := wrap_succ (by omega)
  unfold spec_suWindow.f twin
  simp only [e1, e2, tmod_nat, rd_L1_nat, form_row h hi, form_row h hi1]
  clear e1 e2
  rw [if_neg (by omega), if_pos (by omega), if_pos (by omega), if_neg (by omega), if_pos (by omega), if_pos (by omega), if_pos (by omega), if_pos (by omega), if_pos (by omega), if_pos (by omega), if_pos (by omega), if_pos (by omega)]

theorem code4 {w : List Int} (h : bits4 w) : wrap64 ((wrap64 ((wrap64 ((wrap64 (8 * (rd w 0))) + (wrap64 (4 * (rd w 1))))) + (wrap64 (2 * (rd w 2))))) + (rd w 3)) = ((codeW w : Nat) : Int) := by
  obtain ⟨hl, hb⟩ := h
  match w, hl with
  | [a, b, c, d], _ =>
    have ha := hb a (by simp)
    have hbb := hb b (by simp)
    have hc := hb c (by simp)
    have hd := hb d (by simp)
    have e : codeN 2 [a, b, c, d] = 8 * a + 4 * b + 2 * c + d := by simp [codeN]; omega
    unfold codeW
    rw [e]
    show wrap64 ((wrap64 ((wrap64 ((wrap64 (8 * a)) + (wrap64 (4 * b)))) + (wrap64 (2 * c)))) + d) = _
    rw [wrap_id (x := 8 * a) (by omega), wrap_id (x := 4 * b) (by omega), wrap_id (x := 2 * c) (by omega), wrap_id (x := 8 * a + 4 * b) (by omega), wrap_id (x := 8 * a + 4 * b + 2 * c) (by omega), wrap_id (x := 8 * a + 4 * b + 2 * c + d) (by omega)]
    omega
theorem or_shl (m c : Nat) (hm : m < 65536) (hc : c < 16) : Go.bits .or .i64 (m : Int) (shl .i64 1 (c : Int)) = ((m ||| (1 <<< c) : Nat) : Int) := by
  have hs : shl .i64 1 (c : Int) = ((1 <<< c : Nat) : Int) := by
    have : ∀ c : Nat, c < 16 → shl .i64 1 (c : Int) = ((1 <<< c : Nat) : Int) := by decide +kernel
    exact this c hc
  have hc2 : 1 <<< c < 2 ^ 20 := by
    have : ∀ c : Nat, c < 16 → 1 <<< c < 2 ^ 20 := by decide +kernel
    exact this c hc
  rw [hs]
  exact (Go.bits_nat .i64 20 (by decide) (fun n h0 h1 => by rw [Go.IntKind.wrap_i64]; omega) m (1 <<< c) (by omega) hc2).2
theorem impl_windowsDiffer_row {t : List (List Int)} (h : formB t = true) (i : Nat) (hi : i < t.length) (r : Bool) : ∀ (d j m : Nat), j + d = colsT t → m < 65536 →
    Ev (fun q => impl_windowsDiffer.l0 q ((((List.range' j d).map (twin t (colsT t) i)).foldl maskF m : Nat) : Int) t (t.length : Int) ((i + 1 : Nat) : Int) t) r →
    Ev (fun q => impl_windowsDiffer.l1 q (m : Int) (i : Int) t (t.length : Int) (i : Int) ((colsT t : Nat) : Int) (j : Int) t) r := by
  have hn := (formB_iff.mp h).1
  have hcl : colsT t ≤ 16 := by unfold colsT; exact Nat.div_le_self _ _
  intro d
  induction d with
  | zero =>
    intro j m hd _ k
    refine Ev.step (fun k => by simp only [impl_windowsDiffer.l1]; rfl) ?_
    refine ev_neg (by omega) ?_
    rw [wrap_succ (by omega)]
    exact k
  | succ d ih =>
    intro j m hd hm k
    have hb := twin_bits h (form_cols h) hi (j := j) (by omega)
    have hlt := codeW_lt hb
    have hl := hb.1
    refine Ev.step (fun k => by simp only [impl_windowsDiffer.l1]; rfl) ?_
    refine ev_pos (by omega) ?_
    refine ev_plain (impl_torusWindow_eq h hi (by omega)) ?_
    refine ev_pos (by omega) ?_
    refine ev_pos (by omega) ?_
    refine ev_pos (by omega) ?_
    refine ev_pos (by omega) ?_
    rw [code4 hb, or_shl m _ hm hlt, wrap_succ (by omega)]
    refine ev_pos (by omega) ?_
    refine ih (j + 1) (m ||| (1 <<< codeW (twin t (colsT t) i j))) (by omega) (maskF_lt [twin t (colsT t) i j] m (by intro w hw; simp at hw; subst hw; exact hb) hm) ?_
    rw [List.range'_succ, List.map_cons, List.foldl_cons] at k
    exact k
theorem impl_windowsDiffer_all {t : List (List Int)} (h : formB t = true) : ∀ (d i m : Nat), i + d = t.length → m < 65536 → Ev (fun q => impl_windowsDiffer.l0 q (m : Int) t (t.length : Int) (i : Int) t) (decide ((rowsW t (colsT t) i d).foldl maskF m = 65535)) := by
  have hn := (formB_iff.mp h).1
  intro d
  induction d with
  | zero =>
    intro i m hd _
    refine Ev.step (fun k => by simp only [impl_windowsDiffer.l0]; rfl) ?_
    refine ev_neg (by omega) (ev_some ?_)
    have e : rowsW t (colsT t) i 0 = [] := rfl
    rw [e, List.foldl_nil]
    by_cases c : m = 65535
    · subst c; rfl
    · rw [decide_eq_false c]; exact beq_eq_false_iff_ne.mpr (by omega)
  | succ d ih =>
    intro i m hd hm
    refine Ev.step (fun k => by simp only [impl_windowsDiffer.l0]; rfl) ?_
    refine ev_pos (by omega) ?_
    refine ev_pos (by omega) ?_
    refine ev_pos (by omega) ?_
    rw [rd_L1_nat, form_row h (i := i) (by omega)]
    refine impl_windowsDiffer_row h i (by omega) _ (colsT t) 0 m (by omega) hm ?_
    rw [rowsW_succ, List.foldl_append]
    exact ih (i + 1) _ (by omega) (maskF_lt _ m (fun w hw => by
      obtain ⟨j, hj, rfl⟩ := List.mem_map.mp hw
      exact twin_bits h (form_cols h) (by omega) (by simp [List.mem_range'_1] at hj; omega)) hm)
theorem impl_windowsDiffer_ev {t : List (List Int)} (h : formB t = true) : Ev (fun q => impl_windowsDiffer.f q t) (decide (rowsW t (colsT t) 0 t.length).Nodup) := by
  unfold impl_windowsDiffer.f
  refine ev_to (impl_windowsDiffer_all h t.length 0 0 (by omega) (by omega)) ?_
  rw [decide_eq_decide]
  exact mask_nodup _ (by rw [rowsW_length]; exact form_cols h) (rowsW_bits h (form_cols h))

theorem spec_l1Same_loop (a b : List Int) (ha : a.length ≤ 1000000000000) (hab : a.length = b.length) : ∀ (d i : Nat), i + d = a.length → Ev (fun k => spec_l1Same.l0 k a b (a.length : Int) (i : Int)) (decide (a.drop i = b.drop i)) := by
  intro d
  induction d with
  | zero =>
    intro i h
    rw [List.drop_eq_nil_of_le (by omega), List.drop_eq_nil_of_le (by omega)]
    refine Ev.step (fun k => by simp only [spec_l1Same.l0]; rfl) ?_
    exact ev_neg (by omega) (ev_some (by simp))
  | succ d ih =>
    intro i h
    rw [drop_rd a i (by omega), drop_rd b i (by omega)]
    refine Ev.step (fun k => by simp only [spec_l1Same.l0]; rfl) ?_
    refine ev_pos (by omega) ?_
    refine ev_pos (by omega) ?_
    refine ev_pos (by omega) ?_
    refine ev_pos (by omega) ?_
    rw [wrap_succ (by omega)]
    exact ev_if (fun e => ev_to (ih (i + 1) (by omega)) (by rw [e]; simp)) (fun e => ev_some (by rw [decide_eq_false]; intro c; exact e (List.cons.inj c).1))
theorem spec_l1Same_ev (a b : List Int) (ha : a.length ≤ 1000000000000) : Ev (fun k => spec_l1Same.f k a b) (decide (a = b)) := by
  unfold spec_l1Same.f
  refine ev_if (fun h => ?_) (fun h => ev_some (by rw [decide_eq_false]; intro c; exact h (by rw [c])))
  exact spec_l1Same_loop a b ha (by omega) a.length 0 (by omega)
theorem spec_raPlace_loop (w : List Int) (acc : List (List Int)) (hl : acc.length ≤ 1000) (ha : ∀ u ∈ acc, u.length ≤ 100) : ∀ (d i : Nat), i + d = acc.length → ∃ r : Int, (r ≥ 0 ↔ w ∈ acc.drop i) ∧ Ev (fun k => spec_raPlace.l0 k w acc (acc.length : Int) (i : Int)) r := by
  intro d
  induction d with
  | zero =>
    intro i h
    refine ⟨-1, by rw [List.drop_eq_nil_of_le (by omega)]; simp, ?_⟩
    refine Ev.step (fun k => by simp only [spec_raPlace.l0]; rfl) ?_
    exact ev_neg (by omega) (Ev.now _)
  | succ d ih =>
    intro i h
    obtain ⟨r, hr, e⟩ := ih (i + 1) (by omega)
    have hs := spec_l1Same_ev (rowT acc i) w (by have := ha _ (rowT_mem acc i (by omega)); omega)
    rw [drop_rowT acc i (by omega)]
    by_cases c : rowT acc i = w
    · refine ⟨(i : Int), by rw [c]; simp, ?_⟩
      refine Ev.step (fun k => by simp only [spec_raPlace.l0]; rfl) ?_
      refine ev_pos (by omega) ?_
      refine ev_pos (by omega) ?_
      refine ev_pos (by omega) ?_
      rw [rd_L1_nat]
      exact ev_call hs (ev_pos (by rw [decide_eq_true c]) (Ev.now _))
    · refine ⟨r, by rw [List.mem_cons]; exact ⟨fun h => .inr (hr.mp h), fun h => hr.mpr (h.resolve_left (fun h => c h.symm))⟩, ?_⟩
      refine Ev.step (fun k => by simp only [spec_raPlace.l0]; rfl) ?_
      refine ev_pos (by omega) ?_
      refine ev_pos (by omega) ?_
      refine ev_pos (by omega) ?_
      rw [rd_L1_nat, wrap_succ (by omega)]
      exact ev_call hs (ev_neg (by rw [decide_eq_false c]; simp) e)
theorem spec_raPlace_ev (w : List Int) (acc : List (List Int)) (hl : acc.length ≤ 1000) (ha : ∀ u ∈ acc, u.length ≤ 100) : ∃ r : Int, (r ≥ 0 ↔ w ∈ acc) ∧ Ev (fun k => spec_raPlace.f k acc w) r := by
  obtain ⟨r, hr, e⟩ := spec_raPlace_loop w acc hl ha acc.length 0 (by omega)
  exact ⟨r, by rw [hr, List.drop_zero], e⟩
theorem spec_suWindows_row {t : List (List Int)} (h : formB t = true) (i : Nat) (hi : i < t.length) (rest : List (List Int)) : ∀ (d j : Nat) (acc : List (List Int)), j + d = colsT t → acc.length + d ≤ 1000 → (∀ u ∈ acc, u.length ≤ 100) →
    (∀ acc' : List (List Int), acc' = acc ++ (List.range' j d).map (twin t (colsT t) i) → Ev (fun q => spec_suWindows.l0 q acc' t (t.length : Int) ((i + 1 : Nat) : Int) t) (specW acc' rest)) →
    Ev (fun q => spec_suWindows.l1 q acc (i : Int) t (t.length : Int) (i : Int) ((colsT t : Nat) : Int) (j : Int) t) (specW acc ((List.range' j d).map (twin t (colsT t) i) ++ rest)) := by
  have hn := (formB_iff.mp h).1
  have hcl : colsT t ≤ 16 := by unfold colsT; exact Nat.div_le_self _ _
  intro d
  induction d with
  | zero =>
    intro j acc hd _ _ k
    refine Ev.step (fun k => by simp only [spec_suWindows.l1]; rfl) ?_
    refine ev_neg (by omega) ?_
    rw [wrap_succ (by omega)]
    exact k acc (by simp)
  | succ d ih =>
    intro j acc hd hl ha k
    have hb := twin_bits h (form_cols h) hi (j := j) (by omega)
    obtain ⟨r, hr, e⟩ := spec_raPlace_ev (twin t (colsT t) i j) acc (by omega) ha
    refine Ev.step (fun k => by simp only [spec_suWindows.l1]; rfl) ?_
    refine ev_pos (by omega) ?_
    refine ev_plain (spec_suWindow_eq h hi (by omega)) ?_
    refine ev_call e ?_
    rw [List.range'_succ, List.map_cons, List.cons_append]
    unfold specW
    refine ev_if (fun c => ?_) (fun c => ?_)
    · rw [if_pos (hr.mp c)]
      exact Ev.now _
    · rw [if_neg (fun m => c (hr.mpr m))]
      refine ev_pos (by omega) ?_
      rw [wrap_succ (by omega)]
      refine ih (j + 1) _ (by omega) (by simp; omega) (fun u hu => ?_) (fun acc' e' => k acc' ?_)
      · rcases List.mem_append.mp hu with m | m
        · exact ha u m
        · simp at m; subst m; have := hb.1; omega
      · rw [e', List.range'_succ, List.map_cons, List.append_assoc]; rfl
theorem spec_suWindows_all {t : List (List Int)} (h : formB t = true) : ∀ (d i : Nat) (acc : List (List Int)), i + d = t.length → acc.length + d * 16 ≤ 900 → (∀ u ∈ acc, u.length ≤ 100) → Ev (fun q => spec_suWindows.l0 q acc t (t.length : Int) (i : Int) t) (specW acc (rowsW t (colsT t) i d)) := by
  have hn := (formB_iff.mp h).1
  have hcl : colsT t ≤ 16 := by unfold colsT; exact Nat.div_le_self _ _
  intro d
  induction d with
  | zero =>
    intro i acc hd _ _
    refine Ev.step (fun k => by simp only [spec_suWindows.l0]; rfl) ?_
    refine ev_neg (by omega) (ev_some ?_)
    have e : rowsW t (colsT t) i 0 = [] := rfl
    rw [e]
    unfold specW
    rfl
  | succ d ih =>
    intro i acc hd hl ha
    refine Ev.step (fun k => by simp only [spec_suWindows.l0]; rfl) ?_
    refine ev_pos (by omega) ?_
    refine ev_pos (by omega) ?_
    refine ev_pos (by omega) ?_
    rw [rd_L1_nat, form_row h (i := i) (by omega), rowsW_succ]
    refine spec_suWindows_row h i (by omega) _ (colsT t) 0 acc (by omega) (by omega) ha (fun acc' e => ?_)
    have hlen : acc'.length = acc.length + colsT t := by rw [e]; simp
    refine ih (i + 1) acc' (by omega) (by omega) (fun u hu => ?_)
    rw [e] at hu
    rcases List.mem_append.mp hu with m | m
    · exact ha u m
    · obtain ⟨j, hj, rfl⟩ := List.mem_map.mp m
      have := (twin_bits h (form_cols h) (i := i) (j := j) (by omega) (by simp [List.mem_range'_1] at hj; omega)).1
      omega
theorem spec_suWindows_ev {t : List (List Int)} (h : formB t = true) : Ev (fun q => spec_suWindows.f q t) (decide (rowsW t (colsT t) 0 t.length).Nodup) := by
  have hn := (formB_iff.mp h).1
  unfold spec_suWindows.f
  refine ev_to (spec_suWindows_all h t.length 0 [] (by omega) (by simp; omega) (by simp)) ?_
  have := specW_iff (rowsW t (colsT t) 0 t.length) [] (by simp)
  rw [List.nil_append] at this
  by_cases c : (rowsW t (colsT t) 0 t.length).Nodup
  · rw [decide_eq_true c]; exact this.mpr c
  · rw [decide_eq_false c]; exact Bool.eq_false_iff.mpr (fun e => c (this.mp e))

theorem laws_toIntS_loop (l : List Int) (hl : l.length ≤ 35184372088832) : ∀ (d i : Nat) (ys : List Int), i + d = l.length → ys.length = l.length → ys.take i = l.take i →
    Ev (fun k => laws_toIntS.l0 k l ys (i : Int)) l := by
  intro d
  induction d with
  | zero =>
    intro i ys h1 h2 h3
    refine Ev.step (f := fun _ => some ys) (fun k => ?_) (ev_some ?_)
    · simp only [laws_toIntS.l0]; rw [if_neg (by omega)]
    · rw [List.take_of_length_le (by omega), List.take_of_length_le (by omega)] at h3
      exact h3
  | succ d ih =>
    intro i ys h1 h2 h3
    have hi : i < l.length := by omega
    refine Ev.step (f := fun k => laws_toIntS.l0 k l (ys.set i (rd l (i : Int))) ((i + 1 : Nat) : Int)) (fun k => ?_) (ih (i + 1) _ (by omega) (by simp [h2]) ?_)
    · simp only [laws_toIntS.l0]; rw [if_pos (by omega), if_pos (by omega), if_pos (by omega), wrap_succ (by omega), Int.toNat_natCast]
    · rw [take_rd l i hi, List.take_succ_eq_append_getElem (by simp; omega)]
      rw [List.take_set, h3, List.set_eq_of_length_le (by simp; omega)]; simp
theorem laws_toIntS_ev (l : List Int) (hl : l.length ≤ 35184372088832) : Ev (fun k => laws_toIntS.f k l) l := by
  unfold laws_toIntS.f
  refine ev_pos (by omega) (ev_pos (by omega) ?_)
  exact laws_toIntS_loop l hl l.length 0 _ (by omega) (by simp) rfl

theorem laws_eqIntS_loop (l : List Int) (hl : l.length ≤ 35184372088832) : ∀ (d i : Nat), i + d = l.length → Ev (fun k => laws_eqIntS.l0 k l l (i : Int)) true := by
  intro d
  induction d with
  | zero =>
    intro i h
    refine Ev.step (f := fun _ => some true) (fun k => ?_) (Ev.now _)
    simp only [laws_eqIntS.l0]; rw [if_neg (by omega)]
  | succ d ih =>
    intro i h
    refine Ev.step (f := fun k => laws_eqIntS.l0 k l l ((i + 1 : Nat) : Int)) (fun k => ?_) (ih (i + 1) (by omega))
    simp only [laws_eqIntS.l0]; rw [if_pos (by omega), if_pos (by omega), if_pos (by omega), if_pos trivial, wrap_succ (by omega)]
theorem laws_eqIntS_ev (l : List Int) (hl : l.length ≤ 35184372088832) : Ev (fun k => laws_eqIntS.f k l l) true := by
  unfold laws_eqIntS.f
  exact ev_pos rfl (laws_eqIntS_loop l hl l.length 0 (by omega))

theorem szIntSS_loop (t : List (List Int)) (ht : t.length ≤ 1048576) (hr : ∀ row ∈ t, row.length ≤ maxLen) : ∀ (d i : Nat) (x : Int), i + d = t.length → 0 ≤ x → x ≤ 1048576 → ∃ r : Int, Ev (fun q => laws_szIntSS.l0 q t x (i : Int)) r ∧ (0 ≤ r → ∀ row ∈ t.drop i, row.length ≤ 1048576) := by
  intro d
  induction d with
  | zero =>
    intro i x h _ _
    refine ⟨x, ?_, fun _ row hrow => by rw [List.drop_eq_nil_of_le (by omega)] at hrow; cases hrow⟩
    refine Ev.step (fun k => by simp only [laws_szIntSS.l0]; rfl) ?_
    exact ev_neg (by omega) (Ev.now _)
  | succ d ih =>
    intro i x h h0 h1
    have hlen := hr _ (rowT_mem t i (by omega))
    have ew : wrap64 (x - ((rowT t i).length : Int)) = x - ((rowT t i).length : Int) := by unfold maxLen at hlen; exact wrap_id (by omega)
    rw [drop_rowT t i (by omega)]
    by_cases c : x - ((rowT t i).length : Int) < 0
    · have hsz : laws_szIntS.f (rowT t i) x = some (-1) := by unfold laws_szIntS.f; rw [ew, if_pos c]
      refine ⟨-1, ?_, fun h => by omega⟩
      refine Ev.step (fun k => by simp only [laws_szIntSS.l0]; rfl) ?_
      refine ev_pos (by omega) ?_
      refine ev_pos (by omega) ?_
      rw [rd_L1_nat]
      refine ev_plain hsz ?_
      exact ev_pos (by omega) (Ev.now _)
    · have hsz : laws_szIntS.f (rowT t i) x = some (x - ((rowT t i).length : Int)) := by unfold laws_szIntS.f; rw [ew, if_neg c]
      clear ew
      obtain ⟨r, e, hh⟩ := ih (i + 1) (x - ((rowT t i).length : Int)) (by omega) (by omega) (by omega)
      refine ⟨r, ?_, fun h row hrow => ?_⟩
      · refine Ev.step (fun k => by simp only [laws_szIntSS.l0]; rfl) ?_
        refine ev_pos (by omega) ?_
        refine ev_pos (by omega) ?_
        rw [rd_L1_nat]
        refine ev_plain hsz ?_
        refine ev_neg (by omega) ?_
        rw [wrap_succ (by omega)]
        exact e
      · rcases List.mem_cons.mp hrow with rfl | m
        · omega
        · exact hh h row m
theorem szTorus_ev (t : List (List Int)) (ht : t.length ≤ maxLen) (hr : ∀ row ∈ t, row.length ≤ maxLen) : ∃ r : Int, Ev (fun q => laws_szTorus.f q t 1048576) r ∧ (0 ≤ r → t.length ≤ 1048576 ∧ ∀ row ∈ t, row.length ≤ 1048576) := by
  have ew : wrap64 (1048576 - (t.length : Int)) = 1048576 - (t.length : Int) := by unfold maxLen at ht; exact wrap_id (by omega)
  unfold laws_szTorus.f laws_szIntSS.f
  rw [ew]
  clear ew
  by_cases c : 1048576 - (t.length : Int) < 0
  · exact ⟨-1, ev_call (ev_pos c (Ev.now _)) (ev_pos (by omega) (Ev.now _)), fun h => by omega⟩
  · obtain ⟨r, e, hh⟩ := szIntSS_loop t (by omega) hr t.length 0 (1048576 - (t.length : Int)) (by omega) (by omega) (by omega)
    by_cases c2 : r < 0
    · exact ⟨-1, ev_call (ev_neg c e) (ev_pos c2 (Ev.now _)), fun h => by omega⟩
    · refine ⟨r, ev_call (ev_neg c e) (ev_neg c2 (Ev.now _)), fun h => ⟨by omega, fun row hrow => hh h row (by rw [List.drop_zero]; exact hrow)⟩⟩
theorem toIntSS_loop (t : List (List Int)) (ht : t.length ≤ 1048576) (hr : ∀ row ∈ t, row.length ≤ 1048576) : ∀ (d i : Nat) (y : List (List Int)), i + d = t.length → y.length = t.length → y.take i = t.take i → Ev (fun q => laws_toIntSS.l0 q t y (i : Int)) t := by
  intro d
  induction d with
  | zero =>
    intro i y h hy hk
    refine Ev.step (fun k => by simp only [laws_toIntSS.l0]; rfl) ?_
    refine ev_neg (by omega) (ev_some ?_)
    rw [List.take_of_length_le (by omega), List.take_of_length_le (by omega)] at hk
    exact hk
  | succ d ih =>
    intro i y h hy hk
    have hlen := hr _ (rowT_mem t i (by omega))
    refine Ev.step (fun k => by simp only [laws_toIntSS.l0]; rfl) ?_
    refine ev_pos (by omega) ?_
    refine ev_pos (by omega) ?_
    rw [rd_L1_nat, wrap_succ (by omega), Int.toNat_natCast]
    refine ev_call (laws_toIntS_ev _ (by omega)) ?_
    refine ev_pos (by omega) ?_
    refine ih (i + 1) _ (by omega) (by rw [List.length_set]; exact hy) ?_
    rw [List.take_succ_eq_append_getElem (by rw [List.length_set]; omega), List.take_succ_eq_append_getElem (by omega), List.take_set_of_le (by omega), hk, List.getElem_set_self, rowT_get t i (by omega)]
theorem toTorus_ev (t : List (List Int)) (ht : t.length ≤ 1048576) (hr : ∀ row ∈ t, row.length ≤ 1048576) : Ev (fun q => laws_toTorus.f q t) t := by
  unfold laws_toTorus.f laws_toIntSS.f
  refine ev_call (ev_pos (by omega) (ev_pos (by omega) (toIntSS_loop t ht hr t.length 0 _ (by omega) (by simp) (by simp)))) (Ev.now _)
theorem eqIntSS_loop (t : List (List Int)) (ht : t.length ≤ 1048576) (hr : ∀ row ∈ t, row.length ≤ 1048576) : ∀ (d i : Nat), i + d = t.length → Ev (fun q => laws_eqIntSS.l0 q t t (i : Int)) true := by
  intro d
  induction d with
  | zero =>
    intro i h
    refine Ev.step (fun k => by simp only [laws_eqIntSS.l0]; rfl) ?_
    exact ev_neg (by omega) (Ev.now _)
  | succ d ih =>
    intro i h
    have hlen := hr _ (rowT_mem t i (by omega))
    refine Ev.step (fun k => by simp only [laws_eqIntSS.l0]; rfl) ?_
    refine ev_pos (by omega) ?_
    refine ev_pos (by omega) ?_
    refine ev_pos (by omega) ?_
    rw [rd_L1_nat, wrap_succ (by omega)]
    refine ev_call (laws_eqIntS_ev _ (by omega)) ?_
    exact ev_pos rfl (ih (i + 1) (by omega))
theorem eqTorus_ev (t : List (List Int)) (ht : t.length ≤ 1048576) (hr : ∀ row ∈ t, row.length ≤ 1048576) : Ev (fun q => laws_eqTorus.f q t t) true := by
  unfold laws_eqTorus.f laws_eqIntSS.f
  exact ev_call (ev_pos rfl (eqIntSS_loop t ht hr t.length 0 (by omega))) (ev_pos rfl (Ev.now _))

theorem slices_Equal_int_int_loop (a b : List Int) (ha : a.length ≤ 1000000000000) (hab : a.length = b.length) : ∀ (d i : Nat), i + d = a.length →
    Ev (fun k => slices_Equal_int_int.l0 k a b (a.length : Int) (i : Int)) (decide (a.drop i = b.drop i)) := by
  intro d
  induction d with
  | zero =>
    intro i h
    rw [List.drop_eq_nil_of_le (by omega), List.drop_eq_nil_of_le (by omega)]
    refine Ev.step (f := fun _ => some true) (fun k => ?_) (Ev.now _)
    simp only [slices_Equal_int_int.l0]; rw [if_neg (by omega)]
  | succ d ih =>
    intro i h
    rw [drop_rd a i (by omega), drop_rd b i (by omega)]
    refine Ev.step (f := fun k => if rd a (i : Int) = rd b (i : Int) then slices_Equal_int_int.l0 k a b (a.length : Int) ((i + 1 : Nat) : Int) else some false) (fun k => ?_) ?_
    · simp only [slices_Equal_int_int.l0]; rw [if_pos (by omega), if_pos (by omega), if_pos (by omega), if_pos (by omega), wrap_succ (by omega)]
    · exact ev_if (fun e => ev_to (ih (i + 1) (by omega)) (by simp [e])) (fun e => ev_some (by simp [e]))
theorem slices_Equal_int_int_ev (a b : List Int) (ha : a.length ≤ 1000000000000) : Ev (fun k => slices_Equal_int_int.f k a b) (decide (a = b)) := by
  unfold slices_Equal_int_int.f
  refine ev_if (fun h => ?_) (fun h => ev_some ?_)
  · exact slices_Equal_int_int_loop a b ha (by omega) a.length 0 (by omega)
  · rw [eq_comm, decide_eq_false_iff_not]; intro e; exact h (by rw [e])

def rowHit (t : List (List Int)) (c : Nat) (g : List Int) (i : Nat) : Nat → Nat → Option Nat
  | 0, _ => none
  | d + 1, j => if twin t c i j = g then some j else rowHit t c g i d (j + 1)
def allHit (t : List (List Int)) (c : Nat) (g : List Int) : Nat → Nat → Int × Int × Bool
  | 0, _ => (0, 0, false)
  | d + 1, i => match rowHit t c g i c 0 with
    | some j => ((i : Int), (j : Int), true)
    | none => allHit t c g d (i + 1)
theorem rowHit_none {t : List (List Int)} {c : Nat} {g : List Int} (i : Nat) (h : ∀ j, j < c → twin t c i j ≠ g) : ∀ (d j : Nat), j + d = c → rowHit t c g i d j = none := by
  intro d
  induction d with
  | zero => intro j _; rfl
  | succ d ih =>
    intro j hd
    unfold rowHit
    rw [if_neg (h j (by omega))]
    exact ih (j + 1) (by omega)
theorem allHit_none {t : List (List Int)} {c : Nat} {g : List Int} (h : ∀ i, i < t.length → ∀ j, j < c → twin t c i j ≠ g) : ∀ (d i : Nat), i + d = t.length → allHit t c g d i = (0, 0, false) := by
  intro d
  induction d with
  | zero => intro i _; rfl
  | succ d ih =>
    intro i hd
    unfold allHit
    rw [rowHit_none i (h i (by omega)) c 0 (by omega)]
    exact ih (i + 1) (by omega)
def TorusPlaceM (t : List (List Int)) (g : List Int) : Int × Int × Bool := if formB t = true ∧ (rowsW t (colsT t) 0 t.length).Nodup then allHit t (colsT t) g t.length 0 else (0, 0, false)
theorem impl_TorusPlace_row {t : List (List Int)} (h : formB t = true) (g : List Int) (i : Nat) (hi : i < t.length) (R : Int × Int × Bool) : ∀ (d j : Nat), j + d = colsT t →
    (rowHit t (colsT t) g i d j = none → Ev (fun q => impl_TorusPlace.l0 q g t (t.length : Int) ((i + 1 : Nat) : Int) t) R) → (∀ j', rowHit t (colsT t) g i d j = some j' → R = ((i : Int), (j' : Int), true)) →
    Ev (fun q => impl_TorusPlace.l1 q g (i : Int) t (t.length : Int) (i : Int) ((colsT t : Nat) : Int) (j : Int) t) R := by
  have hn := (formB_iff.mp h).1
  have hcl : colsT t ≤ 16 := by unfold colsT; exact Nat.div_le_self _ _
  intro d
  induction d with
  | zero =>
    intro j hd k _
    refine Ev.step (fun k => by simp only [impl_TorusPlace.l1]; rfl) ?_
    refine ev_neg (by omega) ?_
    rw [wrap_succ (by omega)]
    exact k rfl
  | succ d ih =>
    intro j hd k k2
    have hb := twin_bits h (form_cols h) hi (j := j) (by omega)
    refine Ev.step (fun k => by simp only [impl_TorusPlace.l1]; rfl) ?_
    refine ev_pos (by omega) ?_
    refine ev_plain (impl_torusWindow_eq h hi (by omega)) ?_
    refine ev_call (slices_Equal_int_int_ev _ _ (by have := hb.1; omega)) ?_
    by_cases c : twin t (colsT t) i j = g
    · have e := k2 j (by unfold rowHit; rw [if_pos c])
      refine ev_pos (by rw [decide_eq_true c]) (ev_some e.symm)
    · refine ev_neg (by rw [decide_eq_false c]; simp) ?_
      rw [wrap_succ (by omega)]
      refine ih (j + 1) (by omega) (fun e => k (by unfold rowHit; rw [if_neg c]; exact e)) (fun j' e => k2 j' (by unfold rowHit; rw [if_neg c]; exact e))
theorem impl_TorusPlace_all {t : List (List Int)} (h : formB t = true) (g : List Int) : ∀ (d i : Nat), i + d = t.length → Ev (fun q => impl_TorusPlace.l0 q g t (t.length : Int) (i : Int) t) (allHit t (colsT t) g d i) := by
  have hn := (formB_iff.mp h).1
  intro d
  induction d with
  | zero =>
    intro i hd
    refine Ev.step (fun k => by simp only [impl_TorusPlace.l0]; rfl) ?_
    refine ev_neg (by omega) (ev_some rfl)
  | succ d ih =>
    intro i hd
    refine Ev.step (fun k => by simp only [impl_TorusPlace.l0]; rfl) ?_
    refine ev_pos (by omega) ?_
    refine ev_pos (by omega) ?_
    refine ev_pos (by omega) ?_
    rw [rd_L1_nat, form_row h (i := i) (by omega)]
    refine impl_TorusPlace_row h g i (by omega) _ (colsT t) 0 (by omega) (fun e => ?_) (fun j' e => ?_)
    · unfold allHit
      rw [e]
      exact ih (i + 1) (by omega)
    · unfold allHit
      rw [e]
theorem spec_TorusPlace_row {t : List (List Int)} (h : formB t = true) (g : List Int) (i : Nat) (hi : i < t.length) (R : Int × Int × Bool) : ∀ (d j : Nat), j + d = colsT t →
    (rowHit t (colsT t) g i d j = none → Ev (fun q => spec_TorusPlace.l0 q g t (t.length : Int) ((i + 1 : Nat) : Int) t) R) → (∀ j', rowHit t (colsT t) g i d j = some j' → R = ((i : Int), (j' : Int), true)) →
    Ev (fun q => spec_TorusPlace.l1 q g (i : Int) t (t.length : Int) (i : Int) ((colsT t : Nat) : Int) (j : Int) t) R := by
  have hn := (formB_iff.mp h).1
  have hcl : colsT t ≤ 16 := by unfold colsT; exact Nat.div_le_self _ _
  intro d
  induction d with
  | zero =>
    intro j hd k _
    refine Ev.step (fun k => by simp only [spec_TorusPlace.l1]; rfl) ?_
    refine ev_neg (by omega) ?_
    rw [wrap_succ (by omega)]
    exact k rfl
  | succ d ih =>
    intro j hd k k2
    have hb := twin_bits h (form_cols h) hi (j := j) (by omega)
    refine Ev.step (fun k => by simp only [spec_TorusPlace.l1]; rfl) ?_
    refine ev_pos (by omega) ?_
    refine ev_plain (spec_suWindow_eq h hi (by omega)) ?_
    refine ev_call (spec_l1Same_ev _ _ (by have := hb.1; omega)) ?_
    by_cases c : twin t (colsT t) i j = g
    · have e := k2 j (by unfold rowHit; rw [if_pos c])
      refine ev_pos (by rw [decide_eq_true c]) (ev_some e.symm)
    · refine ev_neg (by rw [decide_eq_false c]; simp) ?_
      rw [wrap_succ (by omega)]
      refine ih (j + 1) (by omega) (fun e => k (by unfold rowHit; rw [if_neg c]; exact e)) (fun j' e => k2 j' (by unfold rowHit; rw [if_neg c]; exact e))
theorem spec_TorusPlace_all {t : List (List Int)} (h : formB t = true) (g : List Int) : ∀ (d i : Nat), i + d = t.length → Ev (fun q => spec_TorusPlace.l0 q g t (t.length : Int) (i : Int) t) (allHit t (colsT t) g d i) := by
  have hn := (formB_iff.mp h).1
  intro d
  induction d with
  | zero =>
    intro i hd
    refine Ev.step (fun k => by simp only [spec_TorusPlace.l0]; rfl) ?_
    refine ev_neg (by omega) (ev_some rfl)
  | succ d ih =>
    intro i hd
    refine Ev.step (fun k => by simp only [spec_TorusPlace.l0]; rfl) ?_
    refine ev_pos (by omega) ?_
    refine ev_pos (by omega) ?_
    refine ev_pos (by omega) ?_
    rw [rd_L1_nat, form_row h (i := i) (by omega)]
    refine spec_TorusPlace_row h g i (by omega) _ (colsT t) 0 (by omega) (fun e => ?_) (fun j' e => ?_)
    · unfold allHit
      rw [e]
      exact ih (i + 1) (by omega)
    · unfold allHit
      rw [e]
theorem impl_TorusPlace_ev (t : List (List Int)) (g : List Int) (hr : ∀ row ∈ t, row.length ≤ 1048576) : Ev (fun q => impl_TorusPlace.f q t g) (TorusPlaceM t g) := by
  have no : Ev (fun q => impl_TorusPlace.j0 q g true t) (0, 0, false) := Ev.step (fun k => by simp only [impl_TorusPlace.j0]; rfl) (ev_pos (by trivial) (Ev.now _))
  unfold impl_TorusPlace.f TorusPlaceM
  refine ev_call (impl_isTorusForm_ev t hr) (ev_if (fun h => ?_) (fun h => by rw [if_neg (fun c => h c.1)]; exact no))
  refine ev_call (impl_windowsDiffer_ev h) ?_
  by_cases c : (rowsW t (colsT t) 0 t.length).Nodup
  · rw [if_pos ⟨h, c⟩, decide_eq_true c]
    refine Ev.step (fun k => by simp only [impl_TorusPlace.j0]; rfl) ?_
    refine ev_neg (by simp) ?_
    exact impl_TorusPlace_all h g t.length 0 (by omega)
  · rw [if_neg (fun e => c e.2), decide_eq_false c]
    exact no
theorem spec_TorusPlace_ev (t : List (List Int)) (g : List Int) (hg : g.length ≤ 1048576) (hr : ∀ row ∈ t, row.length ≤ 1048576) : Ev (fun q => spec_TorusPlace.f q t g) (TorusPlaceM t g) := by
  have no : Ev (fun q => spec_TorusPlace.j0 q g true t) (0, 0, false) := Ev.step (fun k => by simp only [spec_TorusPlace.j0]; rfl) (ev_pos (by trivial) (Ev.now _))
  unfold spec_TorusPlace.f TorusPlaceM
  refine ev_call (spec_suTorus_ev t hr) (ev_if (fun h => ?_) (fun h => by rw [if_neg (fun c => h c.1)]; exact no))
  refine ev_call (spec_suWindows_ev h) (ev_if (fun c => ?_) (fun c => by rw [if_neg (fun e => c (decide_eq_true e.2))]; exact no))
  have c' := of_decide_eq_true c
  rw [if_pos ⟨h, c'⟩]
  have wrong : (∀ i, i < t.length → ∀ j, j < colsT t → twin t (colsT t) i j ≠ g) → Ev (fun q => spec_TorusPlace.j0 q g true t) (allHit t (colsT t) g t.length 0) := fun hh => by
    rw [allHit_none hh t.length 0 (by omega)]
    exact no
  refine ev_if (fun h4 => ?_) (fun h4 => wrong (fun i hi j hj e => ?_))
  · refine ev_call (spec_l1All_ev 0 1 g (by omega)) ?_
    by_cases ha : allB g 0 1 = true
    · rw [ha]
      refine Ev.step (fun k => by simp only [spec_TorusPlace.j0]; rfl) ?_
      refine ev_neg (by simp) ?_
      exact spec_TorusPlace_all h g t.length 0 (by omega)
    · rw [Bool.eq_false_iff.mpr ha]
      refine wrong (fun i hi j hj e => ha ?_)
      have hb := (twin_bits h (form_cols h) hi hj).2
      rw [e] at hb
      exact allB_iff.mpr (fun x hx => by have := hb x hx; omega)
  · have hb := (twin_bits h (form_cols h) hi hj).1
    rw [e] at hb
    exact h4 (by omega)
theorem FnExactTorusPlace (l : List (List Int)) (g : List Int) (hl : l.length ≤ maxLen) (hr : ∀ row ∈ l, row.length ≤ maxLen ∧ ∀ x ∈ row, (Lit.int .i64 x).wf = true) (hg : g.length ≤ maxLen) (hw : ∀ x ∈ g, (Lit.int .i64 x).wf = true) : ∃ k, laws_FnExactTorusPlace.f k l g = some true := by
  refine Ev.rounds (r := true) ?_
  unfold laws_FnExactTorusPlace.f
  refine ev_if (fun _ => Ev.now _) (fun hgl => ?_)
  obtain ⟨r, e, hh⟩ := szTorus_ev l hl (fun row h => (hr row h).1)
  refine ev_call e ?_
  by_cases c : r < 0
  · exact ev_pos c (Ev.now _)
  · refine ev_neg c ?_
    obtain ⟨h1, h2⟩ := hh (by omega)
    have ht := toTorus_ev l h1 h2
    have hi := laws_toIntS_ev g (by omega)
    refine ev_call ht (ev_call hi (ev_call (spec_TorusPlace_ev l g (by omega) h2) (ev_call ht (ev_call hi (ev_call (impl_TorusPlace_ev l g h2) ?_)))))
    refine ev_pos rfl (ev_pos rfl ?_)
    rw [show ((TorusPlaceM l g).2.2 != (TorusPlaceM l g).2.2) = false by simp]
    refine Ev.step (fun k => by simp only [laws_FnExactTorusPlace.j0]; rfl) ?_
    refine ev_neg (by simp) ?_
    refine ev_call ht (ev_call (eqTorus_ev l h1 h2) ?_)
    refine ev_pos rfl ?_
    exact ev_call hi (ev_call (laws_eqIntS_ev g (by omega)) (ev_pos rfl (Ev.now _)))

end Go.Proofs.Ytenmdfeldcjdfaa.Pure
