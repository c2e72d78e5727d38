/- The pure statement of Tori: a torus whose windows differ keeps this behind turns, each window is found at its place, and the windows of a first torus differ; no condition. -/
import Derived.Test.YtnbflbkneeageaaPFnTorix13
import Derived.Test.YtnbflbkneeageaaBase
import Derived.Test.YtnbflbkneeageaaLists
import Derived.Test.YtnbflbkneeageaaRegs
namespace Go.Proofs.Ytnbflbkneeageaa.Pure
open Go.RowKit Go.Proofs.Ytnbflbkneeageaa.PFnTori Go.Proofs.YtnbflbkneeageaaW.PrintWords Go.Proofs.YtnbflbkneeageaaW.PrintLast Go.Proofs.Ytnbflbkneeageaa.Base
set_option maxRecDepth 10000
set_option linter.unusedVariables false
set_option linter.unusedSimpArgs false

def rowT (t : List (List Int)) (i : Nat) : List Int := t.getD i []
theorem rd_L1_nat (t : List (List Int)) (i : Nat) : rd_L2 t (i : Int) = rowT t i := by simp [rd_L2, rowT]
theorem rowT_get (t : List (List Int)) (i : Nat) (h : i < t.length) : rowT t i = t[i] := by simp [rowT, List.getD_eq_getElem?_getD, List.getElem?_eq_getElem h]
theorem rowT_mem (t : List (List Int)) (i : Nat) (h : i < t.length) : rowT t i ∈ t := by rw [rowT_get t i h]; exact List.getElem_mem h
theorem drop_rowT (t : List (List Int)) (i : Nat) (h : i < t.length) : t.drop i = rowT t i :: t.drop (i + 1) := by rw [rowT_get t i h]; exact List.drop_eq_getElem_cons h
def rowOk (n : Nat) (row : List Int) : Bool := decide (row.length * n = 16) && allB row 0 1
def formB (t : List (List Int)) : Bool := inB (t.length : Int) 1 16 && t.all (rowOk t.length)
theorem formB_iff {t : List (List Int)} : formB t = true ↔ (1 ≤ t.length ∧ t.length ≤ 16) ∧ ∀ row ∈ t, row.length * t.length = 16 ∧ ∀ x ∈ row, 0 ≤ x ∧ x ≤ 1 := by
  simp only [formB, rowOk, Bool.and_eq_true, inB_iff, List.all_eq_true, decide_eq_true_eq, allB_iff]
  exact and_congr ⟨fun h => ⟨by omega, by omega⟩, fun h => ⟨by omega, by omega⟩⟩ Iff.rfl
/-- The window of a torus, whose rows have c letters. -/
def twin (t : List (List Int)) (c i j : Nat) : List Int := [rd (rowT t i) (j : Int), rd (rowT t i) (((j + 1) % c : Nat) : Int), rd (rowT t ((i + 1) % t.length)) (j : Int), rd (rowT t ((i + 1) % t.length)) (((j + 1) % c : Nat) : Int)]
def rowsW (t : List (List Int)) (c i d : Nat) : List (List Int) := (List.range' i d).flatMap fun i => (List.range' 0 c).map (twin t c i)
theorem rowsW_succ (t : List (List Int)) (c i d : Nat) : rowsW t c i (d + 1) = (List.range' 0 c).map (twin t c i) ++ rowsW t c (i + 1) d := by
  unfold rowsW
  rw [List.range'_succ, List.flatMap_cons]
def bits4 (w : List Int) : Prop := w.length = 4 ∧ ∀ x ∈ w, 0 ≤ x ∧ x ≤ (2 : Int) - 1
theorem twin_bits {t : List (List Int)} {c i j : Nat} (h : formB t = true) (hc : c * t.length = 16) (hi : i < t.length) (hj : j < c) : bits4 (twin t c i j) := by
  obtain ⟨h1, h2⟩ := formB_iff.mp h
  have hrow : ∀ i, i < t.length → ∀ k : Nat, k < c → 0 ≤ rd (rowT t i) (k : Int) ∧ rd (rowT t i) (k : Int) ≤ (2 : Int) - 1 := fun i hi k hk => by
    obtain ⟨g1, g2⟩ := h2 _ (rowT_mem t i hi)
    have hl : (rowT t i).length = c := Nat.eq_of_mul_eq_mul_right (by omega) (g1.trans hc.symm)
    have := g2 (rd (rowT t i) (k : Int)) (by rw [rd_get _ k (by omega)]; exact List.getElem_mem _)
    omega
  have hm := Nat.mod_lt (i + 1) (show 0 < t.length by omega)
  have hk := Nat.mod_lt (j + 1) (show 0 < c by omega)
  refine ⟨rfl, fun x hx => ?_⟩
  simp only [twin, List.mem_cons, List.not_mem_nil, or_false] at hx
  rcases hx with rfl | rfl | rfl | rfl
  · exact hrow i hi j hj
  · exact hrow i hi _ hk
  · exact hrow _ hm j hj
  · exact hrow _ hm _ hk
theorem rowsW_bits {t : List (List Int)} {c : Nat} (h : formB t = true) (hc : c * t.length = 16) : ∀ w ∈ rowsW t c 0 t.length, bits4 w := by
  intro w hw
  simp only [rowsW, List.mem_flatMap, List.mem_range'_1, List.mem_map] at hw
  obtain ⟨i, hi, j, hj, rfl⟩ := hw
  exact twin_bits h hc (by omega) (by omega)
theorem rowsW_length (t : List (List Int)) (c : Nat) : ∀ d i, (rowsW t c i d).length = c * d := by
  intro d
  induction d with
  | zero => intro i; simp [rowsW]
  | succ d ih => intro i; rw [rowsW_succ, List.length_append, ih, List.length_map, List.length_range', Nat.mul_succ, Nat.add_comm]
def codeW (w : List Int) : Nat := (codeN 2 w).toNat
theorem codeW_lt {w : List Int} (h : bits4 w) : codeW w < 16 := by
  have := codeN_range 2 4 w h.1 (fun x hx => by have := h.2 x hx; omega)
  unfold codeW
  have : (2 ^ 4 : Nat) = 16 := rfl
  omega
theorem codeW_inj {u v : List Int} (h : bits4 u) (k : bits4 v) (e : codeW u = codeW v) : u = v := by
  have h1 := codeN_range 2 4 u h.1 (fun x hx => by have := h.2 x hx; omega)
  have h2 := codeN_range 2 4 v k.1 (fun x hx => by have := k.2 x hx; omega)
  unfold codeW at e
  exact codeN_inj 4 u v h.1 k.1 h.2 k.2 (by omega)
def maskF (m : Nat) (w : List Int) : Nat := m ||| (1 <<< codeW w)
theorem maskF_bit (d : Nat) : ∀ (l : List (List Int)) (m : Nat), (l.foldl maskF m).testBit d = (m.testBit d || decide (∃ w ∈ l, codeW w = d)) := by
  intro l
  induction l with
  | nil => intro m; simp
  | cons a l ih =>
    intro m
    rw [List.foldl_cons, ih]
    unfold maskF
    rw [Nat.testBit_or, Bool.or_assoc]
    congr 1
    rw [Bool.eq_iff_iff, Bool.or_eq_true, decide_eq_true_eq, decide_eq_true_eq, Nat.one_shiftLeft, Nat.testBit_two_pow, decide_eq_true_eq]
    simp
theorem maskF_lt : ∀ (l : List (List Int)) (m : Nat), (∀ w ∈ l, bits4 w) → m < 65536 → l.foldl maskF m < 65536 := by
  intro l
  induction l with
  | nil => intro m _ h; exact h
  | cons a l ih =>
    intro m h hm
    rw [List.foldl_cons]
    refine ih _ (fun w hw => h w (by simp [hw])) ?_
    have hc := codeW_lt (h a (by simp))
    have h1 : (1 <<< codeW a) < 2 ^ 16 := by rw [Nat.one_shiftLeft]; exact Nat.pow_lt_pow_right (by omega) hc
    exact Nat.or_lt_two_pow (n := 16) hm h1
theorem mask_all {m : Nat} (hm : m < 65536) : m = 65535 ↔ ∀ d, d < 16 → m.testBit d = true := by
  have e : (65535 : Nat) = 2 ^ 16 - 1 := rfl
  constructor
  · rintro rfl d hd
    rw [e, Nat.testBit_two_pow_sub_one]; exact decide_eq_true hd
  · intro h
    apply Nat.eq_of_testBit_eq
    intro d
    rw [e, Nat.testBit_two_pow_sub_one]
    by_cases hd : d < 16
    · rw [h d hd, decide_eq_true hd]
    · rw [decide_eq_false hd]
      exact Nat.testBit_lt_two_pow (Nat.lt_of_lt_of_le hm (by rw [show (65536 : Nat) = 2 ^ 16 from rfl]; exact Nat.pow_le_pow_right (by omega) (by omega)))
/-- Sixteen windows: all numbers come just where no window comes twice. -/
theorem mask_nodup (l : List (List Int)) (hl : l.length = 16) (hb : ∀ w ∈ l, bits4 w) : l.foldl maskF 0 = 65535 ↔ l.Nodup := by
  have hget : ∀ i, (h : i < l.length) → bits4 l[i] := fun i h => hb _ (List.getElem_mem h)
  rw [mask_all (maskF_lt l 0 hb (by omega))]
  simp only [maskF_bit, Nat.zero_testBit, Bool.false_or, decide_eq_true_eq]
  constructor
  · intro h
    refine List.pairwise_iff_getElem.mpr (fun i j hi hj hij e => ?_)
    have hex : ∀ d, d < 16 → ∃ p, ∃ hp : p < l.length, codeW l[p] = d ∧ p ≠ j := fun d hd => by
      obtain ⟨w, hw, hc⟩ := h d hd
      obtain ⟨p, hp, rfl⟩ := List.getElem_of_mem hw
      by_cases c : p = j
      · subst c
        exact ⟨i, hi, by rw [e]; exact hc, by omega⟩
      · exact ⟨p, hp, hc, c⟩
    have hf : ∃ f : Nat → Nat, ∀ d, d < 16 → ∃ hp : f d < l.length, codeW (l[f d]) = d ∧ f d ≠ j := by
      refine ⟨fun d => if hd : d < 16 then (hex d hd).choose else 0, fun d hd => ?_⟩
      simp only [dif_pos hd]
      exact (hex d hd).choose_spec
    obtain ⟨f, hf⟩ := hf
    obtain ⟨a, b, h1, h2, h3⟩ := pigeon 15 (fun d => if f d < j then f d else f d - 1) (fun d hd => by
      obtain ⟨hp, _, hne⟩ := hf d (by omega)
      show (if f d < j then f d else f d - 1) < 15
      split <;> omega)
    obtain ⟨pa, ca, na⟩ := hf a (by omega)
    obtain ⟨pb, cb, nb⟩ := hf b (by omega)
    have h4 : (if f a < j then f a else f a - 1) = (if f b < j then f b else f b - 1) := h3
    have h5 : f a = f b := by split at h4 <;> split at h4 <;> omega
    have h6 : codeW (l[f a]'pa) = codeW (l[f b]'pb) := by congr 1; exact getElem_congr rfl h5 _
    omega
  · intro hn d hd
    have hpw := List.pairwise_iff_getElem.mp hn
    obtain ⟨i, j, h1, h2, e⟩ := pigeon 16 (fun i => if h : i < l.length then codeW l[i] else d) (fun i hi => by
      show (if h : i < l.length then codeW l[i] else d) < 16
      split
      · rename_i h; exact codeW_lt (hget i h)
      · exact hd)
    have e2 : (if h : i < l.length then codeW l[i] else d) = (if h : j < l.length then codeW l[j] else d) := e
    rw [dif_pos (show i < l.length by omega)] at e2
    by_cases c : j < l.length
    · rw [dif_pos c] at e2
      exact absurd (codeW_inj (hget i (by omega)) (hget j c) e2) (hpw i j (by omega) c h1)
    · rw [dif_neg c] at e2
      exact ⟨l[i]'(by omega), List.getElem_mem _, e2⟩
def specW : List (List Int) → List (List Int) → Bool
  | _, [] => true
  | acc, w :: l => if w ∈ acc then false else specW (acc ++ [w]) l
theorem specW_iff : ∀ (l acc : List (List Int)), acc.Nodup → (specW acc l = true ↔ (acc ++ l).Nodup) := by
  intro l
  induction l with
  | nil => intro acc h; simp [specW, h]
  | cons w l ih =>
    intro acc h
    unfold specW
    by_cases c : w ∈ acc
    · rw [if_pos c]
      refine ⟨fun h => (by cases h), fun hn => ?_⟩
      rw [List.nodup_append] at hn
      exact absurd rfl (hn.2.2 w c w (by simp))
    · rw [if_neg c, ih (acc ++ [w]) (by
        rw [List.nodup_append]
        refine ⟨h, by simp, fun a ha b hb => ?_⟩
        rw [List.mem_singleton] at hb
        rintro rfl
        exact c (hb ▸ ha)), List.append_assoc]
      rfl

theorem impl_within_eq (a lo hi : Int) : impl_within.f a lo hi = some (inB a lo hi) := by
  unfold impl_within.f inB
  by_cases h : a ≥ lo
  · rw [if_pos h]; simp [h]
  · rw [if_neg h]; simp [show ¬ lo ≤ a from h]

theorem impl_allWithin_loop (lo hi : Int) (xs : List Int) (hx : xs.length ≤ 1000000000000) : ∀ (d i : Nat), i + d = xs.length →
    Ev (fun k => impl_allWithin.l0 k lo hi xs (xs.length : Int) (i : Int)) (allB (xs.drop i) lo hi) := by
  intro d
  induction d with
  | zero =>
    intro i h
    rw [List.drop_eq_nil_of_le (by omega)]
    refine Ev.step (f := fun _ => some true) (fun k => ?_) (Ev.now _)
    simp only [impl_allWithin.l0]; rw [if_neg (by omega)]
  | succ d ih =>
    intro i h
    have hlt : i < xs.length := by omega
    rw [drop_rd xs i hlt]
    refine Ev.step (f := fun k => if inB (rd xs (i : Int)) lo hi = true then impl_allWithin.l0 k lo hi xs (xs.length : Int) ((i + 1 : Nat) : Int) else some false) (fun k => ?_) ?_
    · simp only [impl_allWithin.l0]; rw [if_pos (by omega), if_pos (by omega), if_pos (by omega), impl_within_eq, wrap_succ (by omega)]; rfl
    · by_cases hb : inB (rd xs (i : Int)) lo hi = true
      · exact ev_pos hb (ev_to (ih (i + 1) (by omega)) (by simp [allB, hb]))
      · exact ev_neg hb (ev_some (by simp [allB, Bool.eq_false_iff.mpr hb]))
theorem impl_allWithin_ev (lo hi : Int) (xs : List Int) (hx : xs.length ≤ 1000000000000) : Ev (fun k => impl_allWithin.f k xs lo hi) (allB xs lo hi) :=
  impl_allWithin_loop lo hi xs hx xs.length 0 (by omega)

theorem impl_isTorusForm_loop (t : List (List Int)) (ht : t.length ≤ 16) (hr : ∀ row ∈ t, row.length ≤ 1048576) : ∀ d i : Nat, i + d = t.length → Ev (fun q => impl_isTorusForm.l0 q t (t.length : Int) (i : Int) t) ((t.drop i).all (rowOk t.length)) := by
  intro d
  induction d with
  | zero =>
    intro i h
    rw [List.drop_eq_nil_of_le (by omega)]
    exact Ev.step (fun k => by simp only [impl_isTorusForm.l0]; rfl) (ev_neg (by omega) (ev_some rfl))
  | succ d ih =>
    intro i h
    have hb := hr _ (rowT_mem t i (by omega))
    rw [drop_rowT t i (by omega), List.all_cons]
    refine Ev.step (fun k => by simp only [impl_isTorusForm.l0]; rfl) (ev_pos (by omega) (ev_pos (by omega) (ev_pos (by omega) ?_)))
    have hmul : (rowT t i).length * t.length ≤ 1048576 * 16 := Nat.mul_le_mul hb ht
    rw [rd_L1_nat, wrap_succ (by omega), ← Int.natCast_mul, wrap_id (by omega)]
    refine ev_if (fun h1 => ?_) (fun h1 => ?_)
    · refine ev_call (impl_allWithin_ev 0 1 _ (by omega)) (ev_if (fun h2 => ?_) (fun h2 => ev_some ?_))
      · refine ev_to (ih (i + 1) (by omega)) ?_
        have : rowOk t.length (rowT t i) = true := by unfold rowOk; rw [decide_eq_true (by omega), h2]; rfl
        rw [this]; rfl
      · have : rowOk t.length (rowT t i) = false := by unfold rowOk; rw [Bool.eq_false_iff.mpr h2]; simp
        rw [this]; rfl
    · refine ev_some ?_
      have : rowOk t.length (rowT t i) = false := by unfold rowOk; rw [decide_eq_false (by omega)]; rfl
      rw [this]; rfl
theorem impl_isTorusForm_ev (t : List (List Int)) (hr : ∀ row ∈ t, row.length ≤ 1048576) : Ev (fun q => impl_isTorusForm.f q t) (formB t) := by
  unfold impl_isTorusForm.f formB
  refine ev_plain (impl_within_eq _ _ _) (ev_if (fun h => ?_) (fun h => ev_some (by rw [Bool.eq_false_iff.mpr h]; rfl)))
  have := inB_iff.mp h
  refine ev_to (impl_isTorusForm_loop t (by omega) hr t.length 0 (by omega)) ?_
  rw [h]; rfl

theorem spec_l1In_eq (a lo hi : Int) : spec_l1In.f a lo hi = some (inB a lo hi) := by
  unfold spec_l1In.f inB
  by_cases h : a ≥ lo
  · rw [if_pos h]; simp [h]
  · rw [if_neg h]; simp [show ¬ lo ≤ a from h]

theorem spec_l1All_loop (lo hi : Int) (xs : List Int) (hx : xs.length ≤ 1000000000000) : ∀ (d i : Nat), i + d = xs.length →
    Ev (fun k => spec_l1All.l0 k lo hi xs (xs.length : Int) (i : Int)) (allB (xs.drop i) lo hi) := by
  intro d
  induction d with
  | zero =>
    intro i h
    rw [List.drop_eq_nil_of_le (by omega)]
    refine Ev.step (f := fun _ => some true) (fun k => ?_) (Ev.now _)
    simp only [spec_l1All.l0]; rw [if_neg (by omega)]
  | succ d ih =>
    intro i h
    have hlt : i < xs.length := by omega
    rw [drop_rd xs i hlt]
    refine Ev.step (f := fun k => if inB (rd xs (i : Int)) lo hi = true then spec_l1All.l0 k lo hi xs (xs.length : Int) ((i + 1 : Nat) : Int) else some false) (fun k => ?_) ?_
    · simp only [spec_l1All.l0]; rw [if_pos (by omega), if_pos (by omega), if_pos (by omega), spec_l1In_eq, wrap_succ (by omega)]; rfl
    · by_cases hb : inB (rd xs (i : Int)) lo hi = true
      · exact ev_pos hb (ev_to (ih (i + 1) (by omega)) (by simp [allB, hb]))
      · exact ev_neg hb (ev_some (by simp [allB, Bool.eq_false_iff.mpr hb]))
theorem spec_l1All_ev (lo hi : Int) (xs : List Int) (hx : xs.length ≤ 1000000000000) : Ev (fun k => spec_l1All.f k xs lo hi) (allB xs lo hi) :=
  spec_l1All_loop lo hi xs hx xs.length 0 (by omega)

theorem div16 (n : Nat) (h : 1 ≤ n) : wrap64 ((16 : Int) / (n : Int)) = ((16 / n : Nat) : Int) := by
  have e : (16 : Int) / (n : Int) = ((16 / n : Nat) : Int) := by rw [Int.natCast_ediv]; rfl
  have hle := Nat.div_le_self 16 n
  rw [e]
  clear e
  generalize 16 / n = q at hle ⊢
  exact wrap_id (by omega)
theorem spec_suTorus_loop (t : List (List Int)) (ht : 1 ≤ t.length ∧ t.length ≤ 16) (hd : 16 % t.length = 0) (hr : ∀ row ∈ t, row.length ≤ 1048576) : ∀ d i : Nat, i + d = t.length → Ev (fun q => spec_suTorus.l0 q (t.length : Int) t (t.length : Int) (i : Int)) ((t.drop i).all (rowOk t.length)) := by
  intro d
  induction d with
  | zero =>
    intro i h
    rw [List.drop_eq_nil_of_le (by omega)]
    exact Ev.step (fun k => by simp only [spec_suTorus.l0]; rfl) (ev_neg (by omega) (ev_some rfl))
  | succ d ih =>
    intro i h
    have hb := hr _ (rowT_mem t i (by omega))
    have hiff : (rowT t i).length = 16 / t.length ↔ (rowT t i).length * t.length = 16 := by
      have hm := Nat.div_mul_cancel (Nat.dvd_of_mod_eq_zero hd)
      constructor
      · intro e; rw [e]; exact hm
      · intro e; exact Nat.eq_of_mul_eq_mul_right (by omega) (e.trans hm.symm)
    rw [drop_rowT t i (by omega), List.all_cons]
    refine Ev.step (fun k => by simp only [spec_suTorus.l0]; rfl) (ev_pos (by omega) (ev_pos (by omega) (ev_pos (by omega) (ev_neg (by omega) ?_))))
    rw [rd_L1_nat, wrap_succ (by omega), div16 _ ht.1]
    refine ev_if (fun h1 => ?_) (fun h1 => ?_)
    · refine ev_call (spec_l1All_ev 0 1 _ (by omega)) (ev_if (fun h2 => ?_) (fun h2 => ev_some ?_))
      · refine ev_to (ih (i + 1) (by omega)) ?_
        have : rowOk t.length (rowT t i) = true := by unfold rowOk; rw [decide_eq_true (hiff.mp (by omega)), h2]; rfl
        rw [this]; rfl
      · have : rowOk t.length (rowT t i) = false := by unfold rowOk; rw [Bool.eq_false_iff.mpr h2]; simp
        rw [this]; rfl
    · refine ev_some ?_
      have : rowOk t.length (rowT t i) = false := by unfold rowOk; rw [decide_eq_false (fun e => h1 (by have := hiff.mpr e; omega))]; rfl
      rw [this]; rfl
theorem spec_suTorus_ev (t : List (List Int)) (hr : ∀ row ∈ t, row.length ≤ 1048576) : Ev (fun q => spec_suTorus.f q t) (formB t) := by
  unfold spec_suTorus.f
  refine ev_plain (spec_l1In_eq _ _ _) (ev_if (fun h => ?_) (fun h => ?_))
  · have hl := inB_iff.mp h
    refine ev_neg (by omega) (Ev.step (fun k => by simp only [spec_suTorus.j0]; rfl) ?_)
    rw [show ((16 : Int) % (t.length : Int)) = ((16 % t.length : Nat) : Int) by simp]
    by_cases c : 16 % t.length = 0
    · refine ev_neg (by rw [c]; simp) (ev_to (spec_suTorus_loop t (by omega) c hr t.length 0 (by omega)) ?_)
      unfold formB
      rw [h]; rfl
    · refine ev_pos (by simp only [bne_iff_ne, ne_eq]; omega) (ev_some ?_)
      cases hf : formB t with
      | false => rfl
      | true =>
        obtain ⟨_, h2⟩ := formB_iff.mp hf
        have h3 := (h2 _ (rowT_mem t 0 (by omega))).1
        exact absurd (by rw [← h3, Nat.mul_mod_left]) c
  · refine Ev.step (fun k => by simp only [spec_suTorus.j0]; rfl) (ev_pos (by trivial) (ev_some ?_))
    unfold formB
    rw [Bool.eq_false_iff.mpr h]; rfl

def colsT (t : List (List Int)) : Nat := 16 / t.length
theorem form_row {t : List (List Int)} (h : formB t = true) {i : Nat} (hi : i < t.length) : (rowT t i).length = colsT t := by
  obtain ⟨⟨h1, h2⟩, h3⟩ := formB_iff.mp h
  have := (h3 _ (rowT_mem t i hi)).1
  unfold colsT
  exact (Nat.div_eq_of_eq_mul_left (by omega) this.symm).symm
theorem form_cols {t : List (List Int)} (h : formB t = true) : colsT t * t.length = 16 := by
  obtain ⟨⟨h1, h2⟩, h3⟩ := formB_iff.mp h
  rw [← form_row h (i := 0) (by omega)]
  exact (h3 _ (rowT_mem t 0 (by omega))).1
theorem tmod_nat (a b : Nat) : Int.tmod (a : Int) (b : Int) = ((a % b : Nat) : Int) := rfl

theorem impl_torusWindow_eq {t : List (List Int)} (h : formB t = true) {i j : Nat} (hi : i < t.length) (hj : j < colsT t) : impl_torusWindow.f t (i : Int) (j : Int) = some (twin t (colsT t) i j) := by
  have hn := (formB_iff.mp h).1
  have hc := form_cols h
  have hi1 : (i + 1) % t.length < t.length := Nat.mod_lt _ (by omega)
  have hj1 : (j + 1) % colsT t < colsT t := Nat.mod_lt _ (by omega)
  have hcl : colsT t ≤ 16 := by unfold colsT; exact Nat.div_le_self _ _
  have e1 : wrap64 ((i : Int) + 1) = ((i + 1 : Nat) : Int) := wrap_succ (by omega)
  have e2 : wrap64 ((j : Int) + 1) = ((j + 1 : Nat) : Int) := wrap_succ (by omega)
  unfold impl_torusWindow.f twin
  simp only [e1, e2, tmod_nat, rd_L1_nat, form_row h hi, form_row h hi1]
  clear e1 e2
  rw [if_pos (by omega), if_pos (by omega), if_neg (by omega), if_pos (by omega), if_pos (by omega), if_neg (by omega), if_pos (by omega), if_pos (by omega), if_pos (by omega), if_pos (by omega), if_pos (by omega), if_pos (by omega)]
theorem spec_suWindow_eq {t : List (List Int)} (h : formB t = true) {i j : Nat} (hi : i < t.length) (hj : j < colsT t) : spec_suWindow.f t (i : Int) (j : Int) = some (twin t (colsT t) i j) := by
  have hn := (formB_iff.mp h).1
  have hc := form_cols h
  have hi1 : (i + 1) % t.length < t.length := Nat.mod_lt _ (by omega)
  have hj1 : (j + 1) % colsT t < colsT t := Nat.mod_lt _ (by omega)
  have hcl : colsT t ≤ 16 := by unfold colsT; exact Nat.div_le_self _ _
  have e1 : wrap64 ((i : Int) + 1) = ((i + 1 : Nat) : Int) := wrap_succ (by omega)
  have e2 : wrap64 ((j : Int) + 1) = ((j + 1 : Nat) : Int) := wrap_succ (by omega)
  unfold spec_suWindow.f twin
  simp only [e1, e2, tmod_nat, rd_L1_nat, form_row h hi, form_row h hi1]
  clear e1 e2
  rw [if_neg (by omega), if_pos (by omega), if_pos (by omega), if_neg (by omega), if_pos (by omega), if_pos (by omega), if_pos (by omega), if_pos (by omega), if_pos (by omega), if_pos (by omega), if_pos (by omega), if_pos (by omega)]

theorem code4 {w : List Int} (h : bits4 w) : wrap64 ((wrap64 ((wrap64 ((wrap64 (8 * (rd w 0))) + (wrap64 (4 * (rd w 1))))) + (wrap64 (2 * (rd w 2))))) + (rd w 3)) = ((codeW w : Nat) : Int) := by
  obtain ⟨hl, hb⟩ := h
  match w, hl with
  | [a, b, c, d], _ =>
    have ha := hb a (by simp)
    have hbb := hb b (by simp)
    have hc := hb c (by simp)
    have hd := hb d (by simp)
    have e : codeN 2 [a, b, c, d] = 8 * a + 4 * b + 2 * c + d := by simp [codeN]; omega
    unfold codeW
    rw [e]
    show wrap64 ((wrap64 ((wrap64 ((wrap64 (8 * a)) + (wrap64 (4 * b)))) + (wrap64 (2 * c)))) + d) = _
    rw [wrap_id (x := 8 * a) (by omega), wrap_id (x := 4 * b) (by omega), wrap_id (x := 2 * c) (by omega), wrap_id (x := 8 * a + 4 * b) (by omega), wrap_id (x := 8 * a + 4 * b + 2 * c) (by omega), wrap_id (x := 8 * a + 4 * b + 2 * c + d) (by omega)]
    omega
theorem or_shl (m c : Nat) (hm : m < 65536) (hc : c < 16) : Go.bits .or .i64 (m : Int) (shl .i64 1 (c : Int)) = ((m ||| (1 <<< c) : Nat) : Int) := by
  have hs : shl .i64 1 (c : Int) = ((1 <<< c : Nat) : Int) := by
    have : ∀ c : Nat, c < 16 → shl .i64 1 (c : Int) = ((1 <<< c : Nat) : Int) := by decide +kernel
    exact this c hc
  have hc2 : 1 <<< c < 2 ^ 20 := by
    have : ∀ c : Nat, c < 16 → 1 <<< c < 2 ^ 20 := by decide +kernel
    exact this c hc
  rw [hs]
  exact (Go.bits_nat .i64 20 (by decide) (fun n h0 h1 => by rw [Go.IntKind.wrap_i64]; omega) m (1 <<< c) (by omega) hc2).2
theorem impl_windowsDiffer_row {t : List (List Int)} (h : formB t = true) (i : Nat) (hi : i < t.length) (r : Bool) : ∀ (d j m : Nat), j + d = colsT t → m < 65536 →
    Ev (fun q => impl_windowsDiffer.l0 q ((((List.range' j d).map (twin t (colsT t) i)).foldl maskF m : Nat) : Int) t (t.length : Int) ((i + 1 : Nat) : Int) t) r →
    Ev (fun q => impl_windowsDiffer.l1 q (m : Int) (i : Int) t (t.length : Int) (i : Int) ((colsT t : Nat) : Int) (j : Int) t) r := by
  have hn := (formB_iff.mp h).1
  have hcl : colsT t ≤ 16 := by unfold colsT; exact Nat.div_le_self _ _
  intro d
  induction d with
  | zero =>
    intro j m hd _ k
    refine Ev.step (fun k => by simp only [impl_windowsDiffer.l1]; rfl) ?_
    refine ev_neg (by omega) ?_
    rw [wrap_succ (by omega)]
    exact k
  | succ d ih =>
    intro j m hd hm k
    have hb := twin_bits h (form_cols h) hi (j := j) (by omega)
    have hlt := codeW_lt hb
    have hl := hb.1
    refine Ev.step (fun k => by simp only [impl_windowsDiffer.l1]; rfl) ?_
    refine ev_pos (by omega) ?_
    refine ev_plain (impl_torusWindow_eq h hi (by omega)) ?_
    refine ev_pos (by omega) ?_
    refine ev_pos (by omega) ?_
    refine ev_pos (by omega) ?_
    refine ev_pos (by omega) ?_
    rw [code4 hb, or_shl m _ hm hlt, wrap_succ (by omega)]
    refine ev_pos (by omega) ?_
    refine ih (j + 1) (m ||| (1 <<< codeW (twin t (colsT t) i j))) (by omega) (maskF_lt [twin t (colsT t) i j] m (by intro w hw; simp at hw; subst hw; exact hb) hm) ?_
    rw [List.range'_succ, List.map_cons, List.foldl_cons] at k
    exact k
theorem impl_windowsDiffer_all {t : List (List Int)} (h : formB t = true) : ∀ (d i m : Nat), i + d = t.length → m < 65536 → Ev (fun q => impl_windowsDiffer.l0 q (m : Int) t (t.length : Int) (i : Int) t) (decide ((rowsW t (colsT t) i d).foldl maskF m = 65535)) := by
  have hn := (formB_iff.mp h).1
  intro d
  induction d with
  | zero =>
    intro i m hd _
    refine Ev.step (fun k => by simp only [impl_windowsDiffer.l0]; rfl) ?_
    refine ev_neg (by omega) (ev_some ?_)
    have e : rowsW t (colsT t) i 0 = [] := rfl
    rw [e, List.foldl_nil]
    by_cases c : m = 65535
    · subst c; rfl
    · rw [decide_eq_false c]; exact beq_eq_false_iff_ne.mpr (by omega)
  | succ d ih =>
    intro i m hd hm
    refine Ev.step (fun k => by simp only [impl_windowsDiffer.l0]; rfl) ?_
    refine ev_pos (by omega) ?_
    refine ev_pos (by omega) ?_
    refine ev_pos (by omega) ?_
    rw [rd_L1_nat, form_row h (i := i) (by omega)]
    refine impl_windowsDiffer_row h i (by omega) _ (colsT t) 0 m (by omega) hm ?_
    rw [rowsW_succ, List.foldl_append]
    exact ih (i + 1) _ (by omega) (maskF_lt _ m (fun w hw => by
      obtain ⟨j, hj, rfl⟩ := List.mem_map.mp hw
      exact twin_bits h (form_cols h) (by omega) (by simp [List.mem_range'_1] at hj; omega)) hm)
theorem impl_windowsDiffer_ev {t : List (List Int)} (h : formB t = true) : Ev (fun q => impl_windowsDiffer.f q t) (decide (rowsW t (colsT t) 0 t.length).Nodup) := by
  unfold impl_windowsDiffer.f
  refine ev_to (impl_windowsDiffer_all h t.length 0 0 (by omega) (by omega)) ?_
  rw [decide_eq_decide]
  exact mask_nodup _ (by rw [rowsW_length]; exact form_cols h) (rowsW_bits h (form_cols h))

theorem spec_l1Same_loop (a b : List Int) (ha : a.length ≤ 1000000000000) (hab : a.length = b.length) : ∀ (d i : Nat), i + d = a.length → Ev (fun k => spec_l1Same.l0 k a b (a.length : Int) (i : Int)) (decide (a.drop i = b.drop i)) := by
  intro d
  induction d with
  | zero =>
    intro i h
    rw [List.drop_eq_nil_of_le (by omega), List.drop_eq_nil_of_le (by omega)]
    refine Ev.step (fun k => by simp only [spec_l1Same.l0]; rfl) ?_
    exact ev_neg (by omega) (ev_some (by simp))
  | succ d ih =>
    intro i h
    rw [drop_rd a i (by omega), drop_rd b i (by omega)]
    refine Ev.step (fun k => by simp only [spec_l1Same.l0]; rfl) ?_
    refine ev_pos (by omega) ?_
    refine ev_pos (by omega) ?_
    refine ev_pos (by omega) ?_
    refine ev_pos (by omega) ?_
    rw [wrap_succ (by omega)]
    exact ev_if (fun e => ev_to (ih (i + 1) (by omega)) (by rw [e]; simp)) (fun e => ev_some (by rw [decide_eq_false]; intro c; exact e (List.cons.inj c).1))
theorem spec_l1Same_ev (a b : List Int) (ha : a.length ≤ 1000000000000) : Ev (fun k => spec_l1Same.f k a b) (decide (a = b)) := by
  unfold spec_l1Same.f
  refine ev_if (fun h => ?_) (fun h => ev_some (by rw [decide_eq_false]; intro c; exact h (by rw [c])))
  exact spec_l1Same_loop a b ha (by omega) a.length 0 (by omega)
theorem spec_raPlace_loop (w : List Int) (acc : List (List Int)) (hl : acc.length ≤ 1000) (ha : ∀ u ∈ acc, u.length ≤ 100) : ∀ (d i : Nat), i + d = acc.length → ∃ r : Int, (r ≥ 0 ↔ w ∈ acc.drop i) ∧ Ev (fun k => spec_raPlace.l0 k w acc (acc.length : Int) (i : Int)) r := by
  intro d
  induction d with
  | zero =>
    intro i h
    refine ⟨-1, by rw [List.drop_eq_nil_of_le (by omega)]; simp, ?_⟩
    refine Ev.step (fun k => by simp only [spec_raPlace.l0]; rfl) ?_
    exact ev_neg (by omega) (Ev.now _)
  | succ d ih =>
    intro i h
    obtain ⟨r, hr, e⟩ := ih (i + 1) (by omega)
    have hs := spec_l1Same_ev (rowT acc i) w (by have := ha _ (rowT_mem acc i (by omega)); omega)
    rw [drop_rowT acc i (by omega)]
    by_cases c : rowT acc i = w
    · refine ⟨(i : Int), by rw [c]; simp, ?_⟩
      refine Ev.step (fun k => by simp only [spec_raPlace.l0]; rfl) ?_
      refine ev_pos (by omega) ?_
      refine ev_pos (by omega) ?_
      refine ev_pos (by omega) ?_
      rw [rd_L1_nat]
      exact ev_call hs (ev_pos (by rw [decide_eq_true c]) (Ev.now _))
    · refine ⟨r, by rw [List.mem_cons]; exact ⟨fun h => .inr (hr.mp h), fun h => hr.mpr (h.resolve_left (fun h => c h.symm))⟩, ?_⟩
      refine Ev.step (fun k => by simp only [spec_raPlace.l0]; rfl) ?_
      refine ev_pos (by omega) ?_
      refine ev_pos (by omega) ?_
      refine ev_pos (by omega) ?_
      rw [rd_L1_nat, wrap_succ (by omega)]
      exact ev_call hs (ev_neg (by rw [decide_eq_false c]; simp) e)
theorem spec_raPlace_ev (w : List Int) (acc : List (List Int)) (hl : acc.length ≤ 1000) (ha : ∀ u ∈ acc, u.length ≤ 100) : ∃ r : Int, (r ≥ 0 ↔ w ∈ acc) ∧ Ev (fun k => spec_raPlace.f k acc w) r := by
  obtain ⟨r, hr, e⟩ := spec_raPlace_loop w acc hl ha acc.length 0 (by omega)
  exact ⟨r, by rw [hr, List.drop_zero], e⟩
theorem spec_suWindows_row {t : List (List Int)} (h : formB t = true) (i : Nat) (hi : i < t.length) (rest : List (List Int)) : ∀ (d j : Nat) (acc : List (List Int)), j + d = colsT t → acc.length + d ≤ 1000 → (∀ u ∈ acc, u.length ≤ 100) →
    (∀ acc' : List (List Int), acc' = acc ++ (List.range' j d).map (twin t (colsT t) i) → Ev (fun q => spec_suWindows.l0 q acc' t (t.length : Int) ((i + 1 : Nat) : Int) t) (specW acc' rest)) →
    Ev (fun q => spec_suWindows.l1 q acc (i : Int) t (t.length : Int) (i : Int) ((colsT t : Nat) : Int) (j : Int) t) (specW acc ((List.range' j d).map (twin t (colsT t) i) ++ rest)) := by
  have hn := (formB_iff.mp h).1
  have hcl : colsT t ≤ 16 := by unfold colsT; exact Nat.div_le_self _ _
  intro d
  induction d with
  | zero =>
    intro j acc hd _ _ k
    refine Ev.step (fun k => by simp only [spec_suWindows.l1]; rfl) ?_
    refine ev_neg (by omega) ?_
    rw [wrap_succ (by omega)]
    exact k acc (by simp)
  | succ d ih =>
    intro j acc hd hl ha k
    have hb := twin_bits h (form_cols h) hi (j := j) (by omega)
    obtain ⟨r, hr, e⟩ := spec_raPlace_ev (twin t (colsT t) i j) acc (by omega) ha
    refine Ev.step (fun k => by simp only [spec_suWindows.l1]; rfl) ?_
    refine ev_pos (by omega) ?_
    refine ev_plain (spec_suWindow_eq h hi (by omega)) ?_
    refine ev_call e ?_
    rw [List.range'_succ, List.map_cons, List.cons_append]
    unfold specW
    refine ev_if (fun c => ?_) (fun c => ?_)
    · rw [if_pos (hr.mp c)]
      exact Ev.now _
    · rw [if_neg (fun m => c (hr.mpr m))]
      refine ev_pos (by omega) ?_
      rw [wrap_succ (by omega)]
      refine ih (j + 1) _ (by omega) (by simp; omega) (fun u hu => ?_) (fun acc' e' => k acc' ?_)
      · rcases List.mem_append.mp hu with m | m
        · exact ha u m
        · simp at m; subst m; have := hb.1; omega
      · rw [e', List.range'_succ, List.map_cons, List.append_assoc]; rfl
theorem spec_suWindows_all {t : List (List Int)} (h : formB t = true) : ∀ (d i : Nat) (acc : List (List Int)), i + d = t.length → acc.length + d * 16 ≤ 900 → (∀ u ∈ acc, u.length ≤ 100) → Ev (fun q => spec_suWindows.l0 q acc t (t.length : Int) (i : Int) t) (specW acc (rowsW t (colsT t) i d)) := by
  have hn := (formB_iff.mp h).1
  have hcl : colsT t ≤ 16 := by unfold colsT; exact Nat.div_le_self _ _
  intro d
  induction d with
  | zero =>
    intro i acc hd _ _
    refine Ev.step (fun k => by simp only [spec_suWindows.l0]; rfl) ?_
    refine ev_neg (by omega) (ev_some ?_)
    have e : rowsW t (colsT t) i 0 = [] := rfl
    rw [e]
    unfold specW
    rfl
  | succ d ih =>
    intro i acc hd hl ha
    refine Ev.step (fun k => by simp only [spec_suWindows.l0]; rfl) ?_
    refine ev_pos (by omega) ?_
    refine ev_pos (by omega) ?_
    refine ev_pos (by omega) ?_
    rw [rd_L1_nat, form_row h (i := i) (by omega), rowsW_succ]
    refine spec_suWindows_row h i (by omega) _ (colsT t) 0 acc (by omega) (by omega) ha (fun acc' e => ?_)
    have hlen : acc'.length = acc.length + colsT t := by rw [e]; simp
    refine ih (i + 1) acc' (by omega) (by omega) (fun u hu => ?_)
    rw [e] at hu
    rcases List.mem_append.mp hu with m | m
    · exact ha u m
    · obtain ⟨j, hj, rfl⟩ := List.mem_map.mp m
      have := (twin_bits h (form_cols h) (i := i) (j := j) (by omega) (by simp [List.mem_range'_1] at hj; omega)).1
      omega
theorem spec_suWindows_ev {t : List (List Int)} (h : formB t = true) : Ev (fun q => spec_suWindows.f q t) (decide (rowsW t (colsT t) 0 t.length).Nodup) := by
  have hn := (formB_iff.mp h).1
  unfold spec_suWindows.f
  refine ev_to (spec_suWindows_all h t.length 0 [] (by omega) (by simp; omega) (by simp)) ?_
  have := specW_iff (rowsW t (colsT t) 0 t.length) [] (by simp)
  rw [List.nil_append] at this
  by_cases c : (rowsW t (colsT t) 0 t.length).Nodup
  · rw [decide_eq_true c]; exact this.mpr c
  · rw [decide_eq_false c]; exact Bool.eq_false_iff.mpr (fun e => c (this.mp e))

def turnT (t : List (List Int)) (down right : Nat) : List (List Int) := (List.range' 0 t.length).map fun i => win (rowT t ((i + down) % t.length)) right (colsT t)
def TurnTorusM (t : List (List Int)) (down right : Int) : List (List Int) × Bool := if formB t = true ∧ inB down 0 ((t.length : Int) - 1) = true ∧ inB right 0 ((colsT t : Int) - 1) = true then (turnT t down.toNat right.toNat, true) else ([], false)
theorem turnT_row {t : List (List Int)} {down right : Nat} : ∀ row ∈ turnT t down right, row.length ≤ 16 := by
  intro row h
  obtain ⟨i, _, rfl⟩ := List.mem_map.mp h
  rw [win_length]
  unfold colsT
  exact Nat.div_le_self _ _
theorem TurnTorusM_small (t : List (List Int)) (down right : Int) : (TurnTorusM t down right).1.length ≤ 16 ∧ ∀ row ∈ (TurnTorusM t down right).1, row.length ≤ 16 := by
  unfold TurnTorusM
  split
  · rename_i h
    have := (formB_iff.mp h.1).1
    exact ⟨by unfold turnT; simp; omega, turnT_row⟩
  · exact ⟨by simp, fun row h => by cases h⟩

theorem spec_suRound_loop (w : List Int) (n p : Nat) (hw : 0 < w.length) (hwl : w.length ≤ 1000000000000) (hn : n ≤ 1000000000000) (hp : p ≤ 1000000000000) : ∀ (d i : Nat) (acc : List Int), i + d = n → acc.length = i →
    Ev (fun k => spec_suRound.l0 k w (p : Int) (n : Int) acc (i : Int)) (acc ++ (List.range' i d).map fun j => w.getD ((p + j) % w.length) 0) := by
  intro d
  induction d with
  | zero =>
    intro i acc h ha
    refine Ev.step (f := fun _ => some acc) (fun k => ?_) (ev_some (by simp))
    simp only [spec_suRound.l0]; rw [if_neg (by omega)]
  | succ d ih =>
    intro i acc h ha
    refine Ev.step (f := fun k => spec_suRound.l0 k w (p : Int) (n : Int) (acc ++ [w.getD ((p + i) % w.length) 0]) ((i + 1 : Nat) : Int)) (fun k => ?_) (ev_to (ih (i + 1) _ (by omega) (by simp [ha])) ?_)
    · simp only [spec_suRound.l0]
      rw [if_pos (by omega), if_neg (by omega), wrap_id (x := (p : Int) + (i : Int)) (by omega), show (p : Int) + (i : Int) = ((p + i : Nat) : Int) by omega, tmod_nat, wrap_succ (by omega)]
      have hm := Nat.mod_lt (p + i) hw
      rw [if_pos (by omega), if_pos (by omega), if_pos (by omega), rd_nat]
    · simp [List.range'_succ]
theorem spec_suRound_ev (w : List Int) (n p : Nat) (hw : 0 < w.length) (hwl : w.length ≤ 1000000000000) (hn : n ≤ 1000000000000) (hp : p ≤ 1000000000000) : Ev (fun k => spec_suRound.f k w (p : Int) (n : Int)) (win w p n) :=
  ev_to (spec_suRound_loop w n p hw hwl hn hp n 0 [] (by omega) rfl) (by simp [win])

theorem impl_window_loop (w : List Int) (n p : Nat) (hw : 0 < w.length) (hwl : w.length ≤ 1000000000000) (hn : n ≤ 1000000000000) (hp : p ≤ 1000000000000) : ∀ (d i : Nat) (acc : List Int), i + d = n → acc.length = i →
    Ev (fun k => impl_window.l0 k w (p : Int) acc (n : Int) (i : Int)) (acc ++ (List.range' i d).map fun j => w.getD ((p + j) % w.length) 0) := by
  intro d
  induction d with
  | zero =>
    intro i acc h ha
    refine Ev.step (f := fun _ => some acc) (fun k => ?_) (ev_some (by simp))
    simp only [impl_window.l0]; rw [if_neg (by omega)]
  | succ d ih =>
    intro i acc h ha
    refine Ev.step (f := fun k => impl_window.l0 k w (p : Int) (acc ++ [w.getD ((p + i) % w.length) 0]) (n : Int) ((i + 1 : Nat) : Int)) (fun k => ?_) (ev_to (ih (i + 1) _ (by omega) (by simp [ha])) ?_)
    · simp only [impl_window.l0]
      rw [if_pos (by omega), if_neg (by omega), wrap_id (x := (p : Int) + (i : Int)) (by omega), show (p : Int) + (i : Int) = ((p + i : Nat) : Int) by omega, tmod_nat, wrap_succ (by omega)]
      have hm := Nat.mod_lt (p + i) hw
      rw [if_pos (by omega), if_pos (by omega), if_pos (by omega), rd_nat]
    · simp [List.range'_succ]
theorem impl_window_ev (w : List Int) (n p : Nat) (hw : 0 < w.length) (hwl : w.length ≤ 1000000000000) (hn : n ≤ 1000000000000) (hp : p ≤ 1000000000000) : Ev (fun k => impl_window.f k w (n : Int) (p : Int)) (win w p n) :=
  ev_to (impl_window_loop w n p hw hwl hn hp n 0 [] (by omega) rfl) (by simp [win])

theorem slices_Equal_int_int_loop (a b : List Int) (ha : a.length ≤ 1000000000000) (hab : a.length = b.length) : ∀ (d i : Nat), i + d = a.length →
    Ev (fun k => slices_Equal_int_int.l0 k a b (a.length : Int) (i : Int)) (decide (a.drop i = b.drop i)) := by
  intro d
  induction d with
  | zero =>
    intro i h
    rw [List.drop_eq_nil_of_le (by omega), List.drop_eq_nil_of_le (by omega)]
    refine Ev.step (f := fun _ => some true) (fun k => ?_) (Ev.now _)
    simp only [slices_Equal_int_int.l0]; rw [if_neg (by omega)]
  | succ d ih =>
    intro i h
    rw [drop_rd a i (by omega), drop_rd b i (by omega)]
    refine Ev.step (f := fun k => if rd a (i : Int) = rd b (i : Int) then slices_Equal_int_int.l0 k a b (a.length : Int) ((i + 1 : Nat) : Int) else some false) (fun k => ?_) ?_
    · simp only [slices_Equal_int_int.l0]; rw [if_pos (by omega), if_pos (by omega), if_pos (by omega), if_pos (by omega), wrap_succ (by omega)]
    · exact ev_if (fun e => ev_to (ih (i + 1) (by omega)) (by simp [e])) (fun e => ev_some (by simp [e]))
theorem slices_Equal_int_int_ev (a b : List Int) (ha : a.length ≤ 1000000000000) : Ev (fun k => slices_Equal_int_int.f k a b) (decide (a = b)) := by
  unfold slices_Equal_int_int.f
  refine ev_if (fun h => ?_) (fun h => ev_some ?_)
  · exact slices_Equal_int_int_loop a b ha (by omega) a.length 0 (by omega)
  · rw [eq_comm, decide_eq_false_iff_not]; intro e; exact h (by rw [e])

/-- The word with a code: so many digits, from the last one on. -/
def putD (kk : Int) : Nat → Int → List Int → List Int
  | 0, _, w => w
  | m + 1, c, w => putD kk m (Int.tdiv c kk) (w.set m (Int.tmod c kk))
theorem putD_length (kk : Int) : ∀ m c w, (putD kk m c w).length = w.length := by
  intro m
  induction m with
  | zero => intro c w; rfl
  | succ m ih => intro c w; unfold putD; rw [ih, List.length_set]
def digW (len : Nat) (kk : Int) (c : Int) : List Int := putD kk len c (List.replicate len 0)
theorem digW_length (len : Nat) (kk c : Int) : (digW len kk c).length = len := by unfold digW; rw [putD_length, List.length_replicate]
theorem putD_range (kk : Int) (hk : 1 ≤ kk) : ∀ m c w, 0 ≤ c → (∀ x ∈ w, 0 ≤ x ∧ x < kk) → ∀ x ∈ putD kk m c w, 0 ≤ x ∧ x < kk := by
  intro m
  induction m with
  | zero => intro c w _ h; exact h
  | succ m ih =>
    intro c w hc h
    unfold putD
    refine ih _ _ (Int.tdiv_nonneg hc (by omega)) (fun x hx => ?_)
    rcases List.mem_or_eq_of_mem_set hx with hx | rfl
    · exact h x hx
    · exact ⟨Int.tmod_nonneg _ hc, Int.tmod_lt_of_pos _ (by omega)⟩
theorem digW_range (len : Nat) (kk : Int) (hk : 1 ≤ kk) (c : Int) (hc : 0 ≤ c) : ∀ x ∈ digW len kk c, 0 ≤ x ∧ x < kk := by
  unfold digW
  exact putD_range kk hk len c _ hc (fun x hx => by have := List.eq_of_mem_replicate hx; omega)
theorem tdiv_small {c kk : Int} (h0 : 0 ≤ c) (hk : 1 ≤ kk) (hc : c ≤ 1000000000000) : wrap64 (Int.tdiv c kk) = Int.tdiv c kk ∧ 0 ≤ Int.tdiv c kk ∧ Int.tdiv c kk ≤ 1000000000000 := by
  obtain ⟨a, rfl⟩ := Int.eq_ofNat_of_zero_le h0
  obtain ⟨b, rfl⟩ := Int.eq_ofNat_of_zero_le (show 0 ≤ kk by omega)
  obtain ⟨q, hq⟩ : ∃ q : Nat, a / b = q := ⟨_, rfl⟩
  have e : Int.tdiv (a : Int) (b : Int) = ((a / b : Nat) : Int) := (Int.ofNat_tdiv a b).symm
  have := Nat.div_le_self a b
  rw [hq] at e this
  rw [e]
  exact ⟨wrap_id (by omega), by omega, by omega⟩
/-- A search that must end: the first hit of those counted up to some number. -/
theorem ev_hit {ρ : Type} (L : Nat → Nat → Option ρ) (F : Nat → Option ρ) (r : ρ) : ∀ d i, (∀ j, i ≤ j → j < i + d → (∀ r, F j = some r → Ev (L j) r) ∧ (F j = none → ∀ r, Ev (L (j + 1)) r → Ev (L j) r)) →
    ((List.range' i d).findSome? F) = some r → Ev (L i) r := by
  intro d
  induction d with
  | zero => intro i _ h; simp at h
  | succ d ih =>
    intro i hs h
    rw [List.range'_succ, List.findSome?_cons] at h
    obtain ⟨h1, h2⟩ := hs i (Nat.le_refl _) (by omega)
    cases hf : F i with
    | some r' =>
      rw [hf] at h
      obtain rfl := Option.some.inj h
      exact h1 _ hf
    | none =>
      rw [hf] at h
      exact h2 hf _ (ih (i + 1) (fun j hj1 hj2 => hs j (by omega) (by omega)) h)
theorem findSome_some {ρ : Type} (F : Nat → Option ρ) (i d c : Nat) (h1 : i ≤ c) (h2 : c < i + d) (h3 : (F c).isSome = true) : ∃ r, ((List.range' i d).findSome? F) = some r ∧ ∃ j, i ≤ j ∧ j ≤ c ∧ F j = some r := by
  induction d generalizing i with
  | zero => omega
  | succ d ih =>
    rw [List.range'_succ, List.findSome?_cons]
    cases hf : F i with
    | some r => exact ⟨r, rfl, i, Nat.le_refl _, h1, hf⟩
    | none =>
      by_cases e : i = c
      · subst e; rw [hf] at h3; cases h3
      · obtain ⟨r, hr, j, j1, j2, j3⟩ := ih (i + 1) (by omega) (by omega)
        exact ⟨r, hr, j, by omega, j2, j3⟩

theorem impl_firstWord_in (kk : Int) (hk : 1 ≤ kk) : ∀ (m : Nat) (c : Int) (w : List Int), m ≤ w.length → w.length ≤ 1000000 → 0 ≤ c → c ≤ 1000000000000 → Ev (fun q => impl_firstWord.in0 q kk c w ((m : Int) - 1)) (putD kk m c w) := by
  intro m
  induction m with
  | zero =>
    intro c w h1 h2 h3 h4
    exact Ev.step (fun k => by simp only [impl_firstWord.in0]; rfl) (ev_neg (by omega) (Ev.now _))
  | succ m ih =>
    intro c w h1 h2 h3 h4
    have ht := tdiv_small h3 hk h4
    refine Ev.step (fun k => by simp only [impl_firstWord.in0]; rfl) ?_
    refine ev_pos (by omega) (ev_neg (by omega) (ev_pos (by omega) ?_))
    rw [ht.1, show (((m + 1 : Nat) : Int) - 1) = (m : Int) by omega, Int.toNat_natCast, wrap_id (x := (m : Int) - 1) (by omega)]
    exact ih _ _ (by rw [List.length_set]; omega) (by rw [List.length_set]; exact h2) ht.2.1 ht.2.2
/-- The first word by its code of which P is so, if there is one. -/
def firstW (P : List Int → Bool) (len : Nat) (kk : Int) (size : Nat) : Option (List Int × Bool) := (List.range' 0 size).findSome? fun (c : Nat) => if P (digW len kk (c : Int)) = true then some (digW len kk (c : Int), true) else none
theorem impl_firstWord_ev (p : Nat → List Int → Option Bool) (P : List Int → Bool) (len : Nat) (kk : Int) (size : Nat) (hl : len ≤ 1000000) (hk : 1 ≤ kk) (hs : size ≤ 1000000000)
    (hpow : Ev (fun q => impl_power.f q kk (len : Int)) (size : Int)) (hp : ∀ c : Nat, c < size → Ev (fun q => p q (digW len kk (c : Int))) (P (digW len kk (c : Int)))) :
    Ev (fun q => impl_firstWord.f p q (len : Int) kk) ((firstW P len kk size).getD ([], false)) := by
  unfold impl_firstWord.f firstW
  refine ev_call hpow ?_
  refine ev_find (fun c q => impl_firstWord.l0 p q (len : Int) kk (size : Int) (c : Int)) _ size ([], false) ?_ ?_ size 0 (by omega)
  · intro c hc
    have hstep : ∀ r, Ev (fun q => if P (digW len kk (c : Int)) = true then some (digW len kk (c : Int), true) else impl_firstWord.l0 p q (len : Int) kk (size : Int) ((c + 1 : Nat) : Int)) r → Ev (fun q => impl_firstWord.l0 p q (len : Int) kk (size : Int) (c : Int)) r := by
      intro r h
      refine Ev.step (fun k => by simp only [impl_firstWord.l0]; rfl) ?_
      rw [Int.toNat_natCast, wrap_id (x := (len : Int) - 1) (by omega), wrap_succ (by omega)]
      have hin := impl_firstWord_in kk hk len (c : Int) (List.replicate len 0) (by simp) (by simp; omega) (by omega) (by omega)
      exact ev_pos (by omega) (ev_pos (by omega) (ev_pos (by omega) (ev_call hin (ev_call (hp c hc) h))))
    refine ⟨fun r hr => hstep r ?_, fun hr r h => hstep r ?_⟩
    · split at hr
      · rename_i h1
        obtain rfl := Option.some.inj hr
        exact ev_pos h1 (Ev.now _)
      · cases hr
    · split at hr
      · cases hr
      · rename_i h1
        exact ev_neg h1 h
  · exact Ev.step (fun k => by simp only [impl_firstWord.l0]; rfl) (ev_neg (by omega) (Ev.now _))

theorem spec_suCount_loop (kk : Int) (hk : 1 ≤ kk) : ∀ (m : Nat) (c : Int) (w : List Int), m ≤ w.length → w.length ≤ 1000000 → 0 ≤ c → c ≤ 1000000000000 → Ev (fun q => spec_suCount.l0 q kk c w ((m : Int) - 1)) (putD kk m c w) := by
  intro m
  induction m with
  | zero =>
    intro c w h1 h2 h3 h4
    exact Ev.step (fun k => by simp only [spec_suCount.l0]; rfl) (ev_neg (by omega) (Ev.now _))
  | succ m ih =>
    intro c w h1 h2 h3 h4
    have ht := tdiv_small h3 hk h4
    refine Ev.step (fun k => by simp only [spec_suCount.l0]; rfl) ?_
    refine ev_pos (by omega) (ev_neg (by omega) (ev_pos (by omega) (ev_pos (by omega) ?_)))
    rw [ht.1, show (((m + 1 : Nat) : Int) - 1) = (m : Int) by omega, Int.toNat_natCast, wrap_id (x := (m : Int) - 1) (by omega)]
    exact ih _ _ (by rw [List.length_set]; omega) (by rw [List.length_set]; exact h2) ht.2.1 ht.2.2
theorem spec_suCount_ev (len : Nat) (kk c : Int) (hl : len ≤ 1000000) (hk : 1 ≤ kk) (h3 : 0 ≤ c) (h4 : c ≤ 1000000000000) : Ev (fun q => spec_suCount.f q (len : Int) kk c) (digW len kk c) := by
  unfold spec_suCount.f digW
  rw [Int.toNat_natCast, wrap_id (x := (len : Int) - 1) (by omega)]
  exact ev_pos (by omega) (ev_pos (by omega) (spec_suCount_loop kk hk len c _ (by simp) (by simp; omega) h3 h4))

theorem slices_Index_loop (l : List Int) (x : Int) (hl : l.length ≤ 1000000000000) : ∀ (d i : Nat), i + d = l.length → ∃ r : Int, (r ≥ 0 ↔ x ∈ l.drop i) ∧ Ev (fun k => slices_Index_int_int.l0 k l x (l.length : Int) (i : Int)) r := by
  intro d
  induction d with
  | zero =>
    intro i h
    rw [List.drop_eq_nil_of_le (by omega)]
    exact ⟨-1, by simp, Ev.step (fun k => by simp only [slices_Index_int_int.l0]; rfl) (ev_neg (by omega) (Ev.now _))⟩
  | succ d ih =>
    intro i h
    rw [drop_rd l i (by omega)]
    obtain ⟨r, h1, h2⟩ := ih (i + 1) (by omega)
    by_cases e : x = rd l (i : Int)
    · refine ⟨(i : Int), by simp [e], Ev.step (fun k => by simp only [slices_Index_int_int.l0]; rfl) ?_⟩
      exact ev_pos (by omega) (ev_pos (by omega) (ev_pos (by omega) (ev_pos e (Ev.now _))))
    · refine ⟨r, by rw [h1, List.mem_cons]; exact ⟨.inr, fun h => h.resolve_left e⟩, Ev.step (fun k => by simp only [slices_Index_int_int.l0]; rfl) ?_⟩
      rw [wrap_succ (by omega)]
      exact ev_pos (by omega) (ev_pos (by omega) (ev_pos (by omega) (ev_neg e h2)))
theorem slices_Contains_int_int_ev (l : List Int) (x : Int) (hl : l.length ≤ 1000000000000) : Ev (fun k => slices_Contains_int_int.f k l x) (decide (x ∈ l)) := by
  unfold slices_Contains_int_int.f slices_Index_int_int.f
  obtain ⟨r, h1, h2⟩ := slices_Index_loop l x hl l.length 0 (by omega)
  refine ev_call h2 (ev_some (decide_eq_decide.mpr ?_))
  simpa using h1

theorem impl_copied_eq (w : List Int) (h : w.length < 17592186044416) : impl_copied.f w = some w := by
  unfold impl_copied.f
  rw [Option.bind_some, if_pos (by simpa using h)]; simp
theorem spec_l1Own_eq (w : List Int) (h : w.length < 17592186044416) : spec_l1Own.f w = some w := by
  unfold spec_l1Own.f
  rw [Option.bind_some, if_pos (by simpa using h)]; simp
/-- The torus with so many rows of c letters. -/
def torusR (R c : Nat) (w : List Int) : List (List Int) := (List.range' 0 R).map fun i => (w.take ((i + 1) * c)).drop (i * c)
def sizeT (R c : Nat) : Prop := c * R = 16
theorem torusR_length (R c : Nat) (w : List Int) : (torusR R c w).length = R := by simp [torusR]
theorem torusR_mem {R c : Nat} {w : List Int} (hs : sizeT R c) (hw : w.length = 16) {row : List Int} (h : row ∈ torusR R c w) : row.length = c ∧ ∀ x ∈ row, x ∈ w := by
  simp only [torusR, List.mem_map, List.mem_range'_1] at h
  obtain ⟨i, hi, rfl⟩ := h
  have hb : (i + 1) * c ≤ R * c := Nat.mul_le_mul_right _ (by omega)
  unfold sizeT at hs
  rw [Nat.mul_comm R c, hs] at hb
  refine ⟨?_, fun x hx => List.mem_of_mem_take (List.mem_of_mem_drop hx)⟩
  rw [List.length_drop, List.length_take, hw, Nat.min_eq_left hb, Nat.add_mul]
  omega
theorem sizeT_iff (R c : Nat) (h : sizeT R c) : (1 ≤ R ∧ R ≤ 16) ∧ (1 ≤ c ∧ c ≤ 16) := by
  unfold sizeT at h
  have h1 : 1 ≤ R := by
    rcases Nat.eq_zero_or_pos R with e | e
    · rw [e] at h; omega
    · exact e
  have h2 : 1 ≤ c := by
    rcases Nat.eq_zero_or_pos c with e | e
    · rw [e] at h; omega
    · exact e
  have h3 : R ≤ c * R := Nat.le_mul_of_pos_left _ h2
  have h4 : c ≤ c * R := Nat.le_mul_of_pos_right _ h1
  omega
theorem torusR_form {R c : Nat} {w : List Int} (hs : sizeT R c) (hw : w.length = 16) (hx : ∀ x ∈ w, 0 ≤ x ∧ x ≤ 1) : formB (torusR R c w) = true := by
  have := sizeT_iff R c hs
  refine formB_iff.mpr ⟨by rw [torusR_length]; omega, fun row h => ?_⟩
  obtain ⟨h1, h2⟩ := torusR_mem hs hw h
  rw [torusR_length, h1]
  exact ⟨hs, fun x h => hx x (h2 x h)⟩
def differB (t : List (List Int)) : Bool := decide (rowsW t (colsT t) 0 t.length).Nodup
def wordT (w : List Int) : Prop := w.length = 16 ∧ ∀ x ∈ w, 0 ≤ x ∧ x ≤ 1
theorem wordT_dig (c : Nat) : wordT (digW 16 2 (c : Int)) := ⟨digW_length _ _ _, fun x hx => by have := digW_range 16 2 (by omega) (c : Int) (by omega) x hx; omega⟩
theorem impl_torusOf_ev {R c : Nat} (hs : sizeT R c) {w : List Int} (hw : wordT w) : Ev (fun q => impl_torusOf.f q (R : Int) w) (torusR R c w) := by
  have hb := sizeT_iff R c hs
  have hq : ∀ i : Nat, i ≤ R → wrap64 (Int.tdiv (wrap64 ((i : Int) * 16)) (R : Int)) = ((i * c : Nat) : Int) := by
    intro i hi
    have h1 : i * 16 / R = i * c := by
      unfold sizeT at hs
      rw [← hs, ← Nat.mul_assoc]; exact Nat.mul_div_cancel _ (by omega)
    have h2 : i * c ≤ R * c := Nat.mul_le_mul_right _ hi
    unfold sizeT at hs
    rw [Nat.mul_comm R c, hs] at h2
    rw [wrap_id (x := (i : Int) * 16) (by omega), show (i : Int) * 16 = ((i * 16 : Nat) : Int) by omega, show Int.tdiv ((i * 16 : Nat) : Int) (R : Int) = ((i * 16 / R : Nat) : Int) from rfl, h1]
    generalize i * c = m at h2
    exact wrap_id (by omega)
  unfold impl_torusOf.f torusR
  have : ∀ (d i : Nat) (acc : List (List Int)), i + d = R → acc.length = i → Ev (fun q => impl_torusOf.l0 q (R : Int) w (R : Int) (i : Int) acc) (acc ++ (List.range' i d).map fun i => (w.take ((i + 1) * c)).drop (i * c)) := by
    intro d
    induction d with
    | zero =>
      intro i acc h ha
      refine Ev.step (fun k => by simp only [impl_torusOf.l0]; rfl) ?_
      exact ev_neg (by omega) (ev_some (by simp))
    | succ d ih =>
      intro i acc h ha
      have h2 : (i + 1) * c ≤ R * c := Nat.mul_le_mul_right _ (by omega)
      have h3 : i * c ≤ (i + 1) * c := Nat.mul_le_mul_right _ (by omega)
      have hs' := hs
      unfold sizeT at hs'
      rw [Nat.mul_comm R c, hs'] at h2
      refine Ev.step (fun k => by simp only [impl_torusOf.l0]; rfl) ?_
      rw [wrap_succ (by omega), hq i (by omega), hq (i + 1) (by omega), Int.toNat_natCast, Int.toNat_natCast]
      refine ev_pos (by omega) ?_
      refine ev_neg (by omega) ?_
      refine ev_pos (Int.natCast_nonneg _) ?_
      refine ev_pos (Int.ofNat_le.mpr h3) ?_
      refine ev_pos (by rw [hw.1]; exact Int.ofNat_le.mpr h2) ?_
      refine ev_plain (impl_copied_eq _ (by rw [List.length_drop, List.length_take, hw.1]; omega)) ?_
      refine ev_pos (by omega) ?_
      refine ev_to (ih (i + 1) _ (by omega) (by simp [ha])) ?_
      rw [List.range'_succ, List.map_cons, List.append_assoc]; rfl
  refine ev_to (this R 0 [] (by omega) rfl) (by simp)
theorem impl_is_ev {R c : Nat} (hs : sizeT R c) {w : List Int} (hw : wordT w) : Ev (fun q => impl_FirstTorus.is (R : Int) q w) (differB (torusR R c w)) := by
  unfold impl_FirstTorus.is differB
  exact ev_call (impl_torusOf_ev hs hw) (impl_windowsDiffer_ev (torusR_form hs hw.1 hw.2))
theorem spec_suOwn_ev (t : List (List Int)) (ht : t.length ≤ 1048576) (hr : ∀ row ∈ t, row.length ≤ 1048576) : Ev (fun q => spec_suOwn.f q t) t := by
  unfold spec_suOwn.f
  have : ∀ (d i : Nat) (acc : List (List Int)), i + d = t.length → acc.length = i → Ev (fun q => spec_suOwn.l0 q t (t.length : Int) (i : Int) acc) (acc ++ t.drop i) := by
    intro d
    induction d with
    | zero =>
      intro i acc h ha
      refine Ev.step (fun k => by simp only [spec_suOwn.l0]; rfl) ?_
      exact ev_neg (by omega) (ev_some (by rw [List.drop_eq_nil_of_le (by omega), List.append_nil]))
    | succ d ih =>
      intro i acc h ha
      have hlen := hr _ (rowT_mem t i (by omega))
      refine Ev.step (fun k => by simp only [spec_suOwn.l0]; rfl) ?_
      refine ev_pos (by omega) (ev_pos (by omega) (ev_pos (by omega) ?_))
      rw [rd_L1_nat, wrap_succ (by omega)]
      refine ev_plain (spec_l1Own_eq _ (by omega)) (ev_pos (by omega) ?_)
      refine ev_to (ih (i + 1) _ (by omega) (by simp [ha])) ?_
      rw [drop_rowT t i (by omega), List.append_assoc]; rfl
  refine ev_to (this t.length 0 [] (by omega) rfl) (by simp)
/-- What both answer: the first word whose torus has different windows. -/
def firstT (R c : Nat) : List (List Int) × Bool := match firstW (fun w => differB (torusR R c w)) 16 2 65536 with
  | some (w, _) => (torusR R c w, true)
  | none => ([], false)
theorem firstT_small (R c : Nat) (hs : sizeT R c) : (firstT R c).1.length ≤ 16 ∧ (∀ row ∈ (firstT R c).1, row.length ≤ 16) ∧ ((firstT R c).2 = true → formB (firstT R c).1 = true ∧ differB (firstT R c).1 = true ∧ (firstT R c).1.length = R) ∧ ((firstT R c).2 = false → (firstT R c).1 = []) := by
  have hb := sizeT_iff R c hs
  unfold firstT
  cases h : firstW (fun w => differB (torusR R c w)) 16 2 65536 with
  | none => exact ⟨by simp, (fun row h => by cases h), (fun h => by cases h), (fun _ => rfl)⟩
  | some p =>
    obtain ⟨w, b⟩ := p
    dsimp only
    unfold firstW at h
    obtain ⟨m, _, hm⟩ := List.exists_of_findSome?_eq_some h
    split at hm
    · rename_i h1
      obtain ⟨rfl, rfl⟩ := Prod.mk.inj (Option.some.inj hm)
      have hw := wordT_dig m
      exact ⟨by rw [torusR_length]; omega, fun row hr => by rw [(torusR_mem hs hw.1 hr).1]; omega, (fun _ => ⟨torusR_form hs hw.1 hw.2, h1, torusR_length _ _ _⟩), (fun h => by cases h)⟩
    · cases hm
theorem power16 : Ev (fun q => impl_power.f q 2 ((16 : Nat) : Int)) ((65536 : Nat) : Int) := Ev.of (fun q => impl_power.mono 2 ((16 : Nat) : Int) q) (k := 100) (by kernel_rfl)
theorem impl_FirstTorus_at {R c : Nat} (hs : sizeT R c) (hR : (R : Int) ∈ ([1, 2, 4, 8, 16] : List Int)) : Ev (fun q => impl_FirstTorus.f q (R : Int)) (firstT R c) := by
  unfold impl_FirstTorus.f firstT
  refine ev_call (slices_Contains_int_int_ev [1, 2, 4, 8, 16] (R : Int) (by simp)) (ev_pos (decide_eq_true hR) ?_)
  have hf : Ev (fun q => impl_firstWord.f (impl_FirstTorus.is (R : Int)) q 16 2) ((firstW (fun w => differB (torusR R c w)) 16 2 65536).getD ([], false)) := impl_firstWord_ev (impl_FirstTorus.is (R : Int)) (fun w => differB (torusR R c w)) 16 2 65536 (by omega) (by omega) (by omega) power16 (fun m _ => impl_is_ev hs (wordT_dig m))
  have hS : ∀ w b, firstW (fun w => differB (torusR R c w)) 16 2 65536 = some (w, b) → wordT w ∧ b = true := by
    intro w b h
    unfold firstW at h
    obtain ⟨m, _, hm⟩ := List.exists_of_findSome?_eq_some h
    split at hm
    · obtain ⟨rfl, rfl⟩ := Prod.mk.inj (Option.some.inj hm)
      exact ⟨wordT_dig m, rfl⟩
    · cases hm
  generalize firstW (fun w => differB (torusR R c w)) 16 2 65536 = F at hf hS ⊢
  refine ev_call hf ?_
  cases F with
  | none => exact ev_neg (by simp) (Ev.now _)
  | some p =>
    obtain ⟨w, b⟩ := p
    obtain ⟨hw, rfl⟩ := hS w b rfl
    exact ev_pos rfl (ev_call (impl_torusOf_ev hs hw) (Ev.now _))
theorem spec_rows_ev {R c : Nat} (hs : sizeT R c) {w : List Int} (hw : wordT w) (x4 : Int) {r : List (List Int) × Bool} (e : Ev (fun q => (spec_suWindows.f q (torusR R c w)).bind fun t => (if t = true then ((spec_suOwn.f q (torusR R c w)).bind fun u => (some (u, true))) else (spec_FirstTorus.l0 q (R : Int) (wrap64 (x4 + 1))))) r) : ∀ (d i : Nat), i + d = R → Ev (fun q => spec_FirstTorus.l1 q (R : Int) x4 w ((i * c : Nat) : Int) ((List.range' 0 i).map fun i => (w.take ((i + 1) * c)).drop (i * c))) r := by
  have hb := sizeT_iff R c hs
  have hdiv : wrap64 ((16 : Int) / (R : Int)) = (c : Int) := by
    unfold sizeT at hs
    rw [show ((16 : Int) / (R : Int)) = ((16 / R : Nat) : Int) from rfl, ← hs, Nat.mul_div_cancel _ (by omega : 0 < R)]
    exact wrap_id (by omega)
  have hs' := hs
  unfold sizeT at hs'
  intro d
  induction d with
  | zero =>
    intro i h
    obtain rfl : i = R := by omega
    refine Ev.step (fun k => by simp only [spec_FirstTorus.l1]; rfl) ?_
    refine ev_neg (by rw [Nat.mul_comm i c, hs']; decide) ?_
    exact e
  | succ d ih =>
    intro i h
    have h2 : (i + 1) * c ≤ R * c := Nat.mul_le_mul_right _ (by omega)
    rw [Nat.mul_comm R c, hs'] at h2
    have h3 : (i + 1) * c = i * c + c := by rw [Nat.add_mul, Nat.one_mul]
    refine Ev.step (fun k => by simp only [spec_FirstTorus.l1]; rfl) ?_
    rw [hdiv]
    have h4 := ih (i + 1) (by omega)
    rw [← List.range'_append (s := 0) (m := i) (n := 1) (step := 1), List.map_append] at h4
    rw [h3] at h2 h4
    generalize hm : i * c = m at *
    rw [wrap_id (x := (m : Int) + (c : Int)) (by omega), show (m : Int) + (c : Int) = ((m + c : Nat) : Int) by omega, Int.toNat_natCast, Int.toNat_natCast]
    refine ev_pos (by omega) (ev_neg (by omega) (ev_pos (by omega) (ev_pos (by omega) (ev_pos (by rw [hw.1]; omega) (ev_pos (by simp; omega) ?_)))))
    have e5 : (List.range' (0 + 1 * i) 1).map (fun i => (w.take ((i + 1) * c)).drop (i * c)) = [(w.take (m + c)).drop m] := by
      rw [show 0 + 1 * i = i by omega]
      simp only [List.range'_succ, List.range'_zero, List.map_cons, List.map_nil]
      rw [h3, hm]
    rw [e5] at h4
    exact h4
theorem spec_search_ev {R c : Nat} (hs : sizeT R c) : ∀ (d m : Nat), m + d = 65536 → Ev (fun q => spec_FirstTorus.l0 q (R : Int) (m : Int)) (match (List.range' m d).findSome? fun (c' : Nat) => if differB (torusR R c (digW 16 2 (c' : Int))) = true then some (digW 16 2 (c' : Int), true) else none with
      | some (w, _) => (torusR R c w, true)
      | none => ([], false)) := by
  have hb := sizeT_iff R c hs
  intro d
  induction d with
  | zero =>
    intro m h
    refine Ev.step (fun k => by simp only [spec_FirstTorus.l0]; rfl) ?_
    exact ev_neg (by omega) (Ev.now _)
  | succ d ih =>
    intro m h
    have hw := wordT_dig m
    refine Ev.step (fun k => by simp only [spec_FirstTorus.l0]; rfl) ?_
    refine ev_pos (by omega) (ev_call (spec_suCount_ev 16 2 (m : Int) (by omega) (by omega) (by omega) (by omega)) ?_)
    have hform := torusR_form hs hw.1 hw.2
    have hlen : (torusR R c (digW 16 2 (m : Int))).length ≤ 1048576 := by rw [torusR_length]; omega
    have hrow : ∀ row ∈ torusR R c (digW 16 2 (m : Int)), row.length ≤ 1048576 := fun row hr => by rw [(torusR_mem hs hw.1 hr).1]; omega
    rw [List.range'_succ, List.findSome?_cons]
    have key := spec_rows_ev hs hw (m : Int) (r := (match (if differB (torusR R c (digW 16 2 (m : Int))) = true then some (digW 16 2 (m : Int), true) else none) with
        | some b => some b
        | none => (List.range' (m + 1) d).findSome? fun (c' : Nat) => if differB (torusR R c (digW 16 2 (c' : Int))) = true then some (digW 16 2 (c' : Int), true) else none).elim ([], false) (fun p => (torusR R c p.1, true))) ?_ R 0 (by omega)
    · rw [Nat.zero_mul] at key
      refine ev_to key ?_
      by_cases c1 : differB (torusR R c (digW 16 2 (m : Int))) = true
      · rw [if_pos c1]; rfl
      · rw [if_neg c1]
        dsimp only
        split <;> (rename_i h1; rw [h1]; rfl)
    · refine ev_call (spec_suWindows_ev hform) ?_
      by_cases c1 : differB (torusR R c (digW 16 2 (m : Int))) = true
      · rw [if_pos c1]
        exact ev_pos c1 (ev_call (spec_suOwn_ev _ hlen hrow) (Ev.now _))
      · rw [if_neg c1]
        refine ev_neg c1 ?_
        rw [wrap_succ (by omega)]
        refine ev_to (ih (m + 1) (by omega)) ?_
        dsimp only
        split <;> (rename_i h1; rw [h1]; rfl)
theorem spec_FirstTorus_at {R c : Nat} (hs : sizeT R c) : Ev (fun q => spec_FirstTorus.f q (R : Int)) (firstT R c) := by
  have hb := sizeT_iff R c hs
  have hmod : (16 : Int) % (R : Int) = 0 := by
    unfold sizeT at hs
    rw [show ((16 : Int) % (R : Int)) = ((16 % R : Nat) : Int) from rfl, ← hs, Nat.mul_mod_left]; rfl
  unfold spec_FirstTorus.f
  refine ev_plain (spec_l1In_eq _ _ _) (ev_pos (inB_iff.mpr (by omega)) (ev_neg (by omega) ?_))
  refine Ev.step (fun k => by simp only [spec_FirstTorus.j0]; rfl) ?_
  refine ev_neg (by rw [hmod]; decide) ?_
  exact spec_search_ev hs 65536 0 (by omega)
theorem firstTorus_both (a0 : Int) : ∃ r : List (List Int) × Bool, Ev (fun q => spec_FirstTorus.f q a0) r ∧ Ev (fun q => impl_FirstTorus.f q a0) r ∧ (r.1.length ≤ 16 ∧ ∀ row ∈ r.1, row.length ≤ 16) ∧ (r.2 = true → formB r.1 = true ∧ differB r.1 = true ∧ (r.1.length : Int) = a0) := by
  by_cases h : a0 ∈ ([1, 2, 4, 8, 16] : List Int)
  · have h2 : a0 = 1 ∨ a0 = 2 ∨ a0 = 4 ∨ a0 = 8 ∨ a0 = 16 := by simpa using h
    have go : ∀ R c : Nat, sizeT R c → a0 = (R : Int) → ∃ r : List (List Int) × Bool, Ev (fun q => spec_FirstTorus.f q a0) r ∧ Ev (fun q => impl_FirstTorus.f q a0) r ∧ (r.1.length ≤ 16 ∧ ∀ row ∈ r.1, row.length ≤ 16) ∧ (r.2 = true → formB r.1 = true ∧ differB r.1 = true ∧ (r.1.length : Int) = a0) := by
      intro R c hs e
      subst e
      obtain ⟨m1, m2, m3, _⟩ := firstT_small R c hs
      exact ⟨firstT R c, spec_FirstTorus_at hs, impl_FirstTorus_at hs h, ⟨m1, m2⟩, fun g => ⟨(m3 g).1, (m3 g).2.1, by rw [(m3 g).2.2]⟩⟩
    rcases h2 with e | e | e | e | e
    · exact go 1 16 rfl e
    · exact go 2 8 rfl e
    · exact go 4 4 rfl e
    · exact go 8 2 rfl e
    · exact go 16 1 rfl e
  · refine ⟨([], false), ?_, ?_, ⟨by simp, fun row h => by cases h⟩, fun h => by cases h⟩
    · unfold spec_FirstTorus.f
      refine ev_plain (spec_l1In_eq _ _ _) (ev_if (fun h1 => ?_) (fun h1 => ?_))
      · have h1 := inB_iff.mp h1
        refine ev_neg (by omega) ?_
        refine Ev.step (fun k => by simp only [spec_FirstTorus.j0]; rfl) ?_
        refine ev_pos ?_ (Ev.now _)
        have h3 : a0 = 1 ∨ a0 = 2 ∨ a0 = 3 ∨ a0 = 4 ∨ a0 = 5 ∨ a0 = 6 ∨ a0 = 7 ∨ a0 = 8 ∨ a0 = 9 ∨ a0 = 10 ∨ a0 = 11 ∨ a0 = 12 ∨ a0 = 13 ∨ a0 = 14 ∨ a0 = 15 ∨ a0 = 16 := by omega
        rcases h3 with rfl | rfl | rfl | rfl | rfl | rfl | rfl | rfl | rfl | rfl | rfl | rfl | rfl | rfl | rfl | rfl <;> first | decide | exact absurd (by simp) h
      · refine Ev.step (fun k => by simp only [spec_FirstTorus.j0]; rfl) ?_
        exact ev_pos (by trivial) (Ev.now _)
    · unfold impl_FirstTorus.f
      exact ev_call (slices_Contains_int_int_ev [1, 2, 4, 8, 16] a0 (by simp)) (ev_neg (by rw [decide_eq_false h]; decide) (Ev.now _))

def bytesL (d : List Int) : Prop := ∀ x ∈ d, 0 ≤ x ∧ x ≤ 255
theorem and255 (x : Int) : 0 ≤ Go.bits .and .u64 x 255 ∧ Go.bits .and .u64 x 255 ≤ 255 := by
  have h : ((BitVec.ofInt 64 x) &&& (BitVec.ofInt 64 255)).toNat ≤ 255 := by
    rw [BitVec.toNat_and]; exact Nat.le_trans Nat.and_le_right (by decide)
  have e : Go.bits .and .u64 x 255 = IntKind.u64.wrap (((BitVec.ofInt 64 x) &&& (BitVec.ofInt 64 255)).toNat : Int) := rfl
  rw [e]
  generalize ((BitVec.ofInt 64 x) &&& (BitVec.ofInt 64 255)).toNat = m at h
  simp only [IntKind.wrap, IntKind.signed, IntKind.bits, Bool.false_and, Bool.false_eq_true, if_false]
  omega
theorem bytes_wf {d : List Int} (h : ∀ x ∈ d, (Lit.int .u8 x).wf = true) : bytesL d := by
  intro x hx
  have h := h x hx
  simp only [Lit.wf, IntKind.min, IntKind.max, IntKind.signed, IntKind.bits, Bool.and_eq_true, decide_eq_true_eq, Bool.false_eq_true, if_false] at h
  omega
theorem next_ok {d : List Int} (hd : bytesL d) {a : Int} (s : Int) (h0 : 0 ≤ a) (h1 : a ≤ 1000000000001000) : ∃ v s', spec_l1Cur_next.f d a s = some (v, a + 1, s') ∧ 0 ≤ v ∧ v ≤ 255 := by
  unfold spec_l1Cur_next.f
  rw [wrap_id (x := a + 1) (by omega)]
  by_cases ha : a < (d.length : Int)
  · rw [if_pos ha, if_pos h0, if_pos (by omega)]
    have hb : 0 ≤ rd d a ∧ rd d a ≤ 255 := by
      obtain ⟨j, rfl⟩ := Int.eq_ofNat_of_zero_le h0
      exact hd _ (by rw [show rd d ((j : Nat) : Int) = d[j]'(by omega) from rd_get d j (by omega)]; exact List.getElem_mem _)
    exact ⟨_, _, rfl, by rw [wrap_id (by omega)]; exact hb.1, by rw [wrap_id (by omega)]; exact hb.2⟩
  · rw [if_neg ha]
    by_cases hb : a + 1 ≤ (d.length : Int)
    · omega
    · rw [if_neg hb]
      have h := and255 ((IntKind.u64.wrap ((IntKind.u64.wrap ((IntKind.u64.wrap (s * 6364136223846793005)))) + 1442695040888963407)) / 1099511627776)
      exact ⟨_, _, rfl, by rw [wrap_id (by omega)]; exact h.1, by rw [wrap_id (by omega)]; exact h.2⟩
theorem tmod_lt {x n : Int} (h0 : 0 ≤ x) (hn : 1 ≤ n) : 0 ≤ Int.tmod x n ∧ Int.tmod x n < n := by
  obtain ⟨p, rfl⟩ := Int.eq_ofNat_of_zero_le h0
  obtain ⟨q, rfl⟩ := Int.eq_ofNat_of_zero_le (show 0 ≤ n by omega)
  rw [show ((p : Nat) : Int).tmod ((q : Nat) : Int) = ((p % q : Nat) : Int) from tmod_nat p q]
  have := Nat.mod_lt p (show 0 < q by omega)
  omega
theorem pick_ok {d : List Int} (hd : bytesL d) {a : Int} (s n : Int) (h0 : 0 ≤ a) (h1 : a ≤ 1000000000000000) : ∃ v a' s', spec_l1Cur_pick.f d a s n = some (v, a', s') ∧ (0 ≤ v ∧ (v < n ∨ (n ≤ 1 ∧ v = 0))) ∧ (a ≤ a' ∧ a' ≤ a + 2) := by
  unfold spec_l1Cur_pick.f
  by_cases hn : n ≤ 1
  · rw [if_pos hn]
    exact ⟨0, a, s, rfl, ⟨by omega, .inr ⟨hn, rfl⟩⟩, by omega⟩
  · rw [if_neg hn]
    obtain ⟨v, s1, e1, hv⟩ := next_ok hd s h0 (by omega)
    rw [e1, Option.bind_some]
    dsimp only
    by_cases h2 : n > 200
    · rw [if_pos h2]
      obtain ⟨u, s2, e2, hu⟩ := next_ok hd (a := a + 1) s1 (by omega) (by omega)
      rw [e2, Option.bind_some]
      dsimp only
      rw [if_neg (by omega), wrap_id (x := v * 256) (by omega), wrap_id (x := v * 256 + u) (by omega)]
      have := tmod_lt (x := v * 256 + u) (n := n) (by omega) (by omega)
      exact ⟨_, _, _, rfl, ⟨this.1, .inl this.2⟩, by omega⟩
    · rw [if_neg h2, if_neg (by omega)]
      have := tmod_lt (x := v) (n := n) (by omega) (by omega)
      exact ⟨_, _, _, rfl, ⟨this.1, .inl this.2⟩, by omega⟩

theorem among_ok {d : List Int} (hd : bytesL d) {a : Int} (s : Int) (l : List Int) (hl : 1 ≤ l.length) (h0 : 0 ≤ a) (h1 : a ≤ 1000000000000000) : ∃ v a' s', spec_l1Cur_among.f d a s l = some (v, a', s') ∧ v ∈ l ∧ (a ≤ a' ∧ a' ≤ a + 2) := by
  obtain ⟨v, a', s', e, hv, h⟩ := pick_ok hd s (l.length : Int) h0 h1
  unfold spec_l1Cur_among.f
  rw [e, Option.bind_some]
  dsimp only
  rw [if_pos (by omega), if_pos (by omega)]
  refine ⟨_, _, _, rfl, ?_, h⟩
  obtain ⟨j, rfl⟩ := Int.eq_ofNat_of_zero_le hv.1
  rw [show rd l ((j : Nat) : Int) = l[j]'(by omega) from rd_get l j (by omega)]
  exact List.getElem_mem _

theorem one_ok {d : List Int} (hd : bytesL d) {a : Int} (s n : Int) (h0 : 0 ≤ a) (h1 : a ≤ 1000000000000000) : ∃ v a' s', spec_l1Cur_one.f d a s n = some (v, a', s') ∧ (a ≤ a' ∧ a' ≤ a + 2) := by
  obtain ⟨v, a', s', e, _, h⟩ := pick_ok hd s n h0 h1
  unfold spec_l1Cur_one.f
  rw [e]
  exact ⟨_, _, _, rfl, h⟩

theorem spec_l1Least_eq9 (a b : Int) : spec_l1Least.f a b = some (if a < b then a else b) := by unfold spec_l1Least.f; split <;> rfl
theorem spec_l1Most_eq9 (a b : Int) : spec_l1Most.f a b = some (if a > b then a else b) := by unfold spec_l1Most.f; split <;> rfl
theorem word9_fill {d : List Int} (hd : bytesL d) : ∀ (m : Nat) (xs : List Int) (a s : Int), xs.length + m = 202 → 0 ≤ a → a + 4 * (m : Int) ≤ 999999999999900 →
    ∃ r a' s', Ev (fun q => spec_l1Cur_word9.l1 q xs d a s) (r, a', s') ∧ r.length ≤ 202 ∧ (a ≤ a' ∧ a' ≤ a + 4 * (m : Int) + 4) := by
  intro m
  induction m with
  | zero =>
    intro xs a s hl h0 hb
    obtain ⟨v, a1, s1, e1, hv, ha1⟩ := pick_ok hd s 2 h0 (by omega)
    refine ⟨xs, a1, s1, Ev.step (fun k => by simp only [spec_l1Cur_word9.l1]; rfl) (ev_plain e1 ?_), by omega, by omega⟩
    dsimp only
    rw [wrap_id (x := 200 + v) (by omega)]
    exact ev_neg (by omega) (Ev.now _)
  | succ m ih =>
    intro xs a s hl h0 hb
    obtain ⟨v, a1, s1, e1, hv, ha1⟩ := pick_ok hd s 2 h0 (by omega)
    by_cases c : (xs.length : Int) < 200 + v
    · obtain ⟨u, a2, s2, e2, hu, ha2⟩ := pick_ok hd (a := a1) s1 3 (by omega) (by omega)
      obtain ⟨r, a3, s3, h1, h2, h3⟩ := ih (xs ++ [u]) a2 s2 (by simp; omega) (by omega) (by omega)
      refine ⟨r, a3, s3, Ev.step (fun k => by simp only [spec_l1Cur_word9.l1]; rfl) (ev_plain e1 ?_), h2, by omega⟩
      dsimp only
      rw [wrap_id (x := 200 + v) (by omega)]
      refine ev_pos c (ev_plain e2 ?_)
      dsimp only
      exact ev_pos (by omega) h1
    · refine ⟨xs, a1, s1, Ev.step (fun k => by simp only [spec_l1Cur_word9.l1]; rfl) (ev_plain e1 ?_), by omega, by omega⟩
      dsimp only
      rw [wrap_id (x := 200 + v) (by omega)]
      exact ev_neg c (Ev.now _)
theorem word9_loop {d : List Int} (hd : bytesL d) (n : Int) : ∀ (m : Nat) (xs : List Int) (a s : Int), xs.length + m ≤ 100 → 0 ≤ a → a + 4 * (m : Int) ≤ 999999999990000 →
    ∃ r a' s', Ev (fun q => spec_l1Cur_word9.l0 q n xs (m : Int) d a s) (r, a', s') ∧ r.length ≤ 202 ∧ (a ≤ a' ∧ a' ≤ a + 4 * (m : Int) + 1000) := by
  intro m
  induction m with
  | zero =>
    intro xs a s hl h0 hb
    obtain ⟨v, a1, s1, e1, hv, ha1⟩ := pick_ok hd s 24 h0 (by omega)
    by_cases c1 : v = 0
    · obtain ⟨u, a2, s2, e2, hu, ha2⟩ := among_ok hd (a := a1) s1 [(-1), 11, 12, n] (by simp) (by omega) (by omega)
      refine ⟨xs ++ [u], a2, s2, Ev.step (fun k => by simp only [spec_l1Cur_word9.l0]; rfl) (ev_neg (by omega) (ev_plain e1 ?_)), by simp; omega, by omega⟩
      dsimp only
      refine ev_pos c1 (ev_plain e2 ?_)
      dsimp only
      exact ev_pos (by omega) (Ev.now _)
    · by_cases c2 : v = 1
      · obtain ⟨r, a3, s3, h1, h2, h3⟩ := word9_fill hd (202 - xs.length) xs a1 s1 (by omega) (by omega) (by omega)
        refine ⟨r, a3, s3, Ev.step (fun k => by simp only [spec_l1Cur_word9.l0]; rfl) (ev_neg (by omega) (ev_plain e1 ?_)), h2, by omega⟩
        dsimp only
        exact ev_neg c1 (ev_pos c2 h1)
      · refine ⟨xs, a1, s1, Ev.step (fun k => by simp only [spec_l1Cur_word9.l0]; rfl) (ev_neg (by omega) (ev_plain e1 ?_)), by omega, by omega⟩
        dsimp only
        exact ev_neg c1 (ev_neg c2 (Ev.now _))
  | succ m ih =>
    intro xs a s hl h0 hb
    obtain ⟨v, a1, s1, e1, hv, ha1⟩ := pick_ok hd s (if 1 > (if n < 12 then n else 12) then 1 else (if n < 12 then n else 12)) h0 (by omega)
    obtain ⟨r, a3, s3, h1, h2, h3⟩ := ih (xs ++ [v]) a1 s1 (by simp; omega) (by omega) (by omega)
    refine ⟨r, a3, s3, Ev.step (fun k => by simp only [spec_l1Cur_word9.l0]; rfl) (ev_pos (by omega) (ev_plain (spec_l1Least_eq9 _ _) (ev_plain (spec_l1Most_eq9 _ _) (ev_plain e1 ?_)))), h2, by omega⟩
    dsimp only
    rw [wrap_pred (by omega)]
    exact ev_pos (by omega) h1
theorem word9_ok {d : List Int} (hd : bytesL d) {a : Int} (s n most : Int) (h0 : 0 ≤ a) (h1 : a ≤ 999999999900000) (hm : 0 ≤ most ∧ most ≤ 50) : ∃ r a' s', Ev (fun q => spec_l1Cur_word9.f q d a s n most) (r, a', s') ∧ r.length ≤ 202 ∧ (a ≤ a' ∧ a' ≤ a + 2000) := by
  obtain ⟨v, a1, s1, e1, hv, ha1⟩ := pick_ok hd s (most + 1) h0 (by omega)
  obtain ⟨m, rfl⟩ := Int.eq_ofNat_of_zero_le hv.1
  obtain ⟨r, a3, s3, h2, h3, h4⟩ := word9_loop hd n m [] a1 s1 (by simp; omega) (by omega) (by omega)
  unfold spec_l1Cur_word9.f
  refine ⟨r, a3, s3, ?_, h3, by omega⟩
  rw [wrap_id (x := most + 1) (by omega)]
  refine ev_plain e1 ?_
  exact h2

theorem laws_uSame_loop (a b : List Int) (ha : a.length ≤ 1000000000000) (hab : a.length = b.length) : ∀ (d i : Nat), i + d = a.length →
    Ev (fun k => laws_uSame.l0 k a b (a.length : Int) (i : Int)) (decide (a.drop i = b.drop i)) := by
  intro d
  induction d with
  | zero =>
    intro i h
    rw [List.drop_eq_nil_of_le (by omega), List.drop_eq_nil_of_le (by omega)]
    refine Ev.step (f := fun _ => some true) (fun k => ?_) (Ev.now _)
    simp only [laws_uSame.l0]; rw [if_neg (by omega)]
  | succ d ih =>
    intro i h
    rw [drop_rd a i (by omega), drop_rd b i (by omega)]
    refine Ev.step (f := fun k => if rd a (i : Int) = rd b (i : Int) then laws_uSame.l0 k a b (a.length : Int) ((i + 1 : Nat) : Int) else some false) (fun k => ?_) ?_
    · simp only [laws_uSame.l0]; rw [if_pos (by omega), if_pos (by omega), if_pos (by omega), if_pos (by omega), wrap_succ (by omega)]
    · exact ev_if (fun e => ev_to (ih (i + 1) (by omega)) (by simp [e])) (fun e => ev_some (by simp [e]))
theorem laws_uSame_ev (a b : List Int) (ha : a.length ≤ 1000000000000) : Ev (fun k => laws_uSame.f k a b) (decide (a = b)) := by
  unfold laws_uSame.f
  refine ev_if (fun h => ?_) (fun h => ev_some ?_)
  · exact laws_uSame_loop a b ha (by omega) a.length 0 (by omega)
  · rw [eq_comm, decide_eq_false_iff_not]; intro e; exact h (by rw [e])

theorem laws_big_some (a b : List Int) : ∃ r, laws_big.f a b = some r := by
  unfold laws_big.f
  split
  · exact ⟨_, rfl⟩
  · exact ⟨_, rfl⟩
theorem laws_big_ok {a b : List Int} {r : Bool} (h : laws_big.f a b = some r) (hr : ¬ r = true) : a.length ≤ 1048576 ∧ b.length ≤ 1048576 := by
  unfold laws_big.f at h
  split at h
  · cases h; exact absurd rfl hr
  · rename_i h1
    obtain rfl := Option.some.inj h
    rw [wrap_id (by omega)] at hr
    simp at hr
    omega

theorem spec_TurnTorus_loop {t : List (List Int)} (h : formB t = true) (down right : Nat) (hd : down < t.length) (hr : right < colsT t) : ∀ (d i : Nat) (acc : List (List Int)), i + d = t.length → acc.length = i →
    Ev (fun q => spec_TurnTorus.l0 q (down : Int) (right : Int) (t.length : Int) (i : Int) t acc) (acc ++ (List.range' i d).map (fun i => win (rowT t ((i + down) % t.length)) right (colsT t)), true) := by
  have hf := (formB_iff.mp h).1
  have hc := form_cols h
  have hcl : colsT t ≤ 16 := by unfold colsT; exact Nat.div_le_self _ _
  intro d
  induction d with
  | zero =>
    intro i acc h1 h2
    refine Ev.step (fun k => by simp only [spec_TurnTorus.l0]; rfl) ?_
    exact ev_neg (by omega) (ev_some (by simp))
  | succ d ih =>
    intro i acc h1 h2
    have hm : (i + down) % t.length < t.length := Nat.mod_lt _ (by omega)
    refine Ev.step (fun k => by simp only [spec_TurnTorus.l0]; rfl) ?_
    rw [wrap_succ (by omega), wrap_id (x := (i : Int) + (down : Int)) (by omega), show (i : Int) + (down : Int) = ((i + down : Nat) : Int) by omega, tmod_nat, rd_L1_nat, form_row h hm]
    refine ev_pos (by omega) ?_
    refine ev_neg (by omega) ?_
    refine ev_pos (by omega) ?_
    refine ev_pos (by omega) ?_
    refine ev_call (spec_suRound_ev _ (colsT t) right (by rw [form_row h hm]; omega) (by rw [form_row h hm]; omega) (by omega) (by omega)) ?_
    refine ev_pos (by omega) ?_
    refine ev_to (ih (i + 1) _ (by omega) (by simp [h2])) ?_
    rw [List.range'_succ, List.map_cons, List.append_assoc]; rfl
theorem impl_TurnTorus_loop {t : List (List Int)} (h : formB t = true) (down right : Nat) (hd : down < t.length) (hr : right < colsT t) : ∀ (d i : Nat) (acc : List (List Int)), i + d = t.length → acc.length = i →
    Ev (fun q => impl_TurnTorus.l0 q (down : Int) (right : Int) (t.length : Int) (i : Int) t acc) (acc ++ (List.range' i d).map (fun i => win (rowT t ((i + down) % t.length)) right (colsT t)), true) := by
  have hf := (formB_iff.mp h).1
  have hc := form_cols h
  have hcl : colsT t ≤ 16 := by unfold colsT; exact Nat.div_le_self _ _
  have h0 : rd_L2 t 0 = rowT t 0 := rd_L1_nat t 0
  intro d
  induction d with
  | zero =>
    intro i acc h1 h2
    refine Ev.step (fun k => by simp only [impl_TurnTorus.l0]; rfl) ?_
    exact ev_neg (by omega) (ev_some (by simp))
  | succ d ih =>
    intro i acc h1 h2
    have hm : (i + down) % t.length < t.length := Nat.mod_lt _ (by omega)
    refine Ev.step (fun k => by simp only [impl_TurnTorus.l0]; rfl) ?_
    rw [wrap_succ (by omega), wrap_id (x := (i : Int) + (down : Int)) (by omega), show (i : Int) + (down : Int) = ((i + down : Nat) : Int) by omega, tmod_nat, rd_L1_nat, h0, form_row h (i := 0) (by omega)]
    refine ev_pos (by omega) ?_
    refine ev_neg (by omega) ?_
    refine ev_pos (by omega) ?_
    refine ev_pos (by omega) ?_
    refine ev_pos (by omega) ?_
    refine ev_call (impl_window_ev _ (colsT t) right (by rw [form_row h hm]; omega) (by rw [form_row h hm]; omega) (by omega) (by omega)) ?_
    refine ev_pos (by omega) ?_
    refine ev_to (ih (i + 1) _ (by omega) (by simp [h2])) ?_
    rw [List.range'_succ, List.map_cons, List.append_assoc]; rfl
theorem spec_TurnTorus_ev (t : List (List Int)) (down right : Int) (hr : ∀ row ∈ t, row.length ≤ 1048576) : Ev (fun q => spec_TurnTorus.f q t down right) (TurnTorusM t down right) := by
  unfold spec_TurnTorus.f TurnTorusM
  refine ev_call (spec_suTorus_ev t hr) (ev_if (fun h => ?_) (fun h => ?_))
  · have hf := (formB_iff.mp h).1
    have hc := form_cols h
    have hcl : colsT t ≤ 16 := by unfold colsT; exact Nat.div_le_self _ _
    have h0 : rd_L2 t 0 = rowT t 0 := rd_L1_nat t 0
    have hcp : 1 ≤ colsT t := by
      rcases Nat.eq_zero_or_pos (colsT t) with e | e
      · rw [e] at hc; omega
      · exact e
    rw [wrap_id (x := (t.length : Int) - 1) (by omega), h0, form_row h (i := 0) (by omega), wrap_id (x := (colsT t : Int) - 1) (by omega)]
    refine ev_plain (spec_l1In_eq _ _ _) (ev_if (fun h1 => ?_) (fun h1 => ?_))
    · refine ev_pos (by omega) ?_
      refine ev_plain (spec_l1In_eq _ _ _) ?_
      refine Ev.step (fun k => by simp only [spec_TurnTorus.j0]; rfl) ?_
      by_cases h2 : inB right 0 ((colsT t : Int) - 1) = true
      · rw [if_pos ⟨h, h1, h2⟩, h2]
        refine ev_neg (by decide) ?_
        obtain ⟨d1, d2⟩ := inB_iff.mp h1
        obtain ⟨r1, r2⟩ := inB_iff.mp h2
        obtain ⟨dn, rfl⟩ := Int.eq_ofNat_of_zero_le d1
        obtain ⟨rn, rfl⟩ := Int.eq_ofNat_of_zero_le r1
        rw [show ((0 : Int)) = ((0 : Nat) : Int) from rfl]
        refine ev_to (spec_TurnTorus_loop h dn rn (by omega) (by omega) t.length 0 [] (by omega) rfl) ?_
        simp [turnT]
      · rw [if_neg (fun c => h2 c.2.2), Bool.eq_false_iff.mpr h2]
        exact ev_pos (by rfl) (Ev.now _)
    · rw [if_neg (fun c => h1 c.2.1)]
      refine Ev.step (fun k => by simp only [spec_TurnTorus.j0]; rfl) ?_
      exact ev_pos (by trivial) (Ev.now _)
  · rw [if_neg (fun c => h c.1)]
    refine Ev.step (fun k => by simp only [spec_TurnTorus.j0]; rfl) ?_
    exact ev_pos (by trivial) (Ev.now _)
theorem impl_TurnTorus_ev (t : List (List Int)) (down right : Int) (hr : ∀ row ∈ t, row.length ≤ 1048576) : Ev (fun q => impl_TurnTorus.f q t down right) (TurnTorusM t down right) := by
  unfold impl_TurnTorus.f TurnTorusM
  refine ev_call (impl_isTorusForm_ev t hr) (ev_if (fun h => ?_) (fun h => ?_))
  · have hf := (formB_iff.mp h).1
    have hc := form_cols h
    have hcl : colsT t ≤ 16 := by unfold colsT; exact Nat.div_le_self _ _
    have h0 : rd_L2 t 0 = rowT t 0 := rd_L1_nat t 0
    have hcp : 1 ≤ colsT t := by
      rcases Nat.eq_zero_or_pos (colsT t) with e | e
      · rw [e] at hc; omega
      · exact e
    rw [wrap_id (x := (t.length : Int) - 1) (by omega), h0, form_row h (i := 0) (by omega), wrap_id (x := (colsT t : Int) - 1) (by omega)]
    refine ev_plain (impl_within_eq _ _ _) (ev_if (fun h1 => ?_) (fun h1 => ?_))
    · refine ev_pos (by omega) ?_
      refine ev_plain (impl_within_eq _ _ _) ?_
      refine Ev.step (fun k => by simp only [impl_TurnTorus.j0]; rfl) ?_
      by_cases h2 : inB right 0 ((colsT t : Int) - 1) = true
      · rw [if_pos ⟨h, h1, h2⟩, h2]
        refine ev_neg (by decide) ?_
        obtain ⟨d1, d2⟩ := inB_iff.mp h1
        obtain ⟨r1, r2⟩ := inB_iff.mp h2
        obtain ⟨dn, rfl⟩ := Int.eq_ofNat_of_zero_le d1
        obtain ⟨rn, rfl⟩ := Int.eq_ofNat_of_zero_le r1
        rw [show ((0 : Int)) = ((0 : Nat) : Int) from rfl]
        refine ev_to (impl_TurnTorus_loop h dn rn (by omega) (by omega) t.length 0 [] (by omega) rfl) ?_
        simp [turnT]
      · rw [if_neg (fun c => h2 c.2.2), Bool.eq_false_iff.mpr h2]
        exact ev_pos (by rfl) (Ev.now _)
    · rw [if_neg (fun c => h1 c.2.1)]
      refine Ev.step (fun k => by simp only [impl_TurnTorus.j0]; rfl) ?_
      exact ev_pos (by trivial) (Ev.now _)
  · rw [if_neg (fun c => h c.1)]
    refine Ev.step (fun k => by simp only [impl_TurnTorus.j0]; rfl) ?_
    exact ev_pos (by trivial) (Ev.now _)
def IsTorusM (t : List (List Int)) : Bool × Bool := if formB t = true then (decide (rowsW t (colsT t) 0 t.length).Nodup, true) else (false, false)
theorem impl_IsTorus_ev (t : List (List Int)) (hr : ∀ row ∈ t, row.length ≤ 1048576) : Ev (fun q => impl_IsTorus.f q t) (IsTorusM t) := by
  unfold impl_IsTorus.f IsTorusM
  exact ev_call (impl_isTorusForm_ev t hr) (ev_if (fun h => by rw [if_pos h]; exact ev_call (impl_windowsDiffer_ev h) (Ev.now _)) (fun h => ev_some (by rw [if_neg h])))
theorem spec_IsTorus_ev (t : List (List Int)) (hr : ∀ row ∈ t, row.length ≤ 1048576) : Ev (fun q => spec_IsTorus.f q t) (IsTorusM t) := by
  unfold spec_IsTorus.f IsTorusM
  exact ev_call (spec_suTorus_ev t hr) (ev_if (fun h => by rw [if_pos h]; exact ev_call (spec_suWindows_ev h) (Ev.now _)) (fun h => ev_some (by rw [if_neg h])))
def rowHit (t : List (List Int)) (c : Nat) (g : List Int) (i : Nat) : Nat → Nat → Option Nat
  | 0, _ => none
  | d + 1, j => if twin t c i j = g then some j else rowHit t c g i d (j + 1)
def allHit (t : List (List Int)) (c : Nat) (g : List Int) : Nat → Nat → Int × Int × Bool
  | 0, _ => (0, 0, false)
  | d + 1, i => match rowHit t c g i c 0 with
    | some j => ((i : Int), (j : Int), true)
    | none => allHit t c g d (i + 1)
theorem rowHit_none {t : List (List Int)} {c : Nat} {g : List Int} (i : Nat) (h : ∀ j, j < c → twin t c i j ≠ g) : ∀ (d j : Nat), j + d = c → rowHit t c g i d j = none := by
  intro d
  induction d with
  | zero => intro j _; rfl
  | succ d ih =>
    intro j hd
    unfold rowHit
    rw [if_neg (h j (by omega))]
    exact ih (j + 1) (by omega)
theorem allHit_none {t : List (List Int)} {c : Nat} {g : List Int} (h : ∀ i, i < t.length → ∀ j, j < c → twin t c i j ≠ g) : ∀ (d i : Nat), i + d = t.length → allHit t c g d i = (0, 0, false) := by
  intro d
  induction d with
  | zero => intro i _; rfl
  | succ d ih =>
    intro i hd
    unfold allHit
    rw [rowHit_none i (h i (by omega)) c 0 (by omega)]
    exact ih (i + 1) (by omega)
def TorusPlaceM (t : List (List Int)) (g : List Int) : Int × Int × Bool := if formB t = true ∧ (rowsW t (colsT t) 0 t.length).Nodup then allHit t (colsT t) g t.length 0 else (0, 0, false)
theorem impl_TorusPlace_row {t : List (List Int)} (h : formB t = true) (g : List Int) (i : Nat) (hi : i < t.length) (R : Int × Int × Bool) : ∀ (d j : Nat), j + d = colsT t →
    (rowHit t (colsT t) g i d j = none → Ev (fun q => impl_TorusPlace.l0 q g t (t.length : Int) ((i + 1 : Nat) : Int) t) R) → (∀ j', rowHit t (colsT t) g i d j = some j' → R = ((i : Int), (j' : Int), true)) →
    Ev (fun q => impl_TorusPlace.l1 q g (i : Int) t (t.length : Int) (i : Int) ((colsT t : Nat) : Int) (j : Int) t) R := by
  have hn := (formB_iff.mp h).1
  have hcl : colsT t ≤ 16 := by unfold colsT; exact Nat.div_le_self _ _
  intro d
  induction d with
  | zero =>
    intro j hd k _
    refine Ev.step (fun k => by simp only [impl_TorusPlace.l1]; rfl) ?_
    refine ev_neg (by omega) ?_
    rw [wrap_succ (by omega)]
    exact k rfl
  | succ d ih =>
    intro j hd k k2
    have hb := twin_bits h (form_cols h) hi (j := j) (by omega)
    refine Ev.step (fun k => by simp only [impl_TorusPlace.l1]; rfl) ?_
    refine ev_pos (by omega) ?_
    refine ev_plain (impl_torusWindow_eq h hi (by omega)) ?_
    refine ev_call (slices_Equal_int_int_ev _ _ (by have := hb.1; omega)) ?_
    by_cases c : twin t (colsT t) i j = g
    · have e := k2 j (by unfold rowHit; rw [if_pos c])
      refine ev_pos (by rw [decide_eq_true c]) (ev_some e.symm)
    · refine ev_neg (by rw [decide_eq_false c]; simp) ?_
      rw [wrap_succ (by omega)]
      refine ih (j + 1) (by omega) (fun e => k (by unfold rowHit; rw [if_neg c]; exact e)) (fun j' e => k2 j' (by unfold rowHit; rw [if_neg c]; exact e))
theorem impl_TorusPlace_all {t : List (List Int)} (h : formB t = true) (g : List Int) : ∀ (d i : Nat), i + d = t.length → Ev (fun q => impl_TorusPlace.l0 q g t (t.length : Int) (i : Int) t) (allHit t (colsT t) g d i) := by
  have hn := (formB_iff.mp h).1
  intro d
  induction d with
  | zero =>
    intro i hd
    refine Ev.step (fun k => by simp only [impl_TorusPlace.l0]; rfl) ?_
    refine ev_neg (by omega) (ev_some rfl)
  | succ d ih =>
    intro i hd
    refine Ev.step (fun k => by simp only [impl_TorusPlace.l0]; rfl) ?_
    refine ev_pos (by omega) ?_
    refine ev_pos (by omega) ?_
    refine ev_pos (by omega) ?_
    rw [rd_L1_nat, form_row h (i := i) (by omega)]
    refine impl_TorusPlace_row h g i (by omega) _ (colsT t) 0 (by omega) (fun e => ?_) (fun j' e => ?_)
    · unfold allHit
      rw [e]
      exact ih (i + 1) (by omega)
    · unfold allHit
      rw [e]
theorem spec_TorusPlace_row {t : List (List Int)} (h : formB t = true) (g : List Int) (i : Nat) (hi : i < t.length) (R : Int × Int × Bool) : ∀ (d j : Nat), j + d = colsT t →
    (rowHit t (colsT t) g i d j = none → Ev (fun q => spec_TorusPlace.l0 q g t (t.length : Int) ((i + 1 : Nat) : Int) t) R) → (∀ j', rowHit t (colsT t) g i d j = some j' → R = ((i : Int), (j' : Int), true)) →
    Ev (fun q => spec_TorusPlace.l1 q g (i : Int) t (t.length : Int) (i : Int) ((colsT t : Nat) : Int) (j : Int) t) R := by
  have hn := (formB_iff.mp h).1
  have hcl : colsT t ≤ 16 := by unfold colsT; exact Nat.div_le_self _ _
  intro d
  induction d with
  | zero =>
    intro j hd k _
    refine Ev.step (fun k => by simp only [spec_TorusPlace.l1]; rfl) ?_
    refine ev_neg (by omega) ?_
    rw [wrap_succ (by omega)]
    exact k rfl
  | succ d ih =>
    intro j hd k k2
    have hb := twin_bits h (form_cols h) hi (j := j) (by omega)
    refine Ev.step (fun k => by simp only [spec_TorusPlace.l1]; rfl) ?_
    refine ev_pos (by omega) ?_
    refine ev_plain (spec_suWindow_eq h hi (by omega)) ?_
    refine ev_call (spec_l1Same_ev _ _ (by have := hb.1; omega)) ?_
    by_cases c : twin t (colsT t) i j = g
    · have e := k2 j (by unfold rowHit; rw [if_pos c])
      refine ev_pos (by rw [decide_eq_true c]) (ev_some e.symm)
    · refine ev_neg (by rw [decide_eq_false c]; simp) ?_
      rw [wrap_succ (by omega)]
      refine ih (j + 1) (by omega) (fun e => k (by unfold rowHit; rw [if_neg c]; exact e)) (fun j' e => k2 j' (by unfold rowHit; rw [if_neg c]; exact e))
theorem spec_TorusPlace_all {t : List (List Int)} (h : formB t = true) (g : List Int) : ∀ (d i : Nat), i + d = t.length → Ev (fun q => spec_TorusPlace.l0 q g t (t.length : Int) (i : Int) t) (allHit t (colsT t) g d i) := by
  have hn := (formB_iff.mp h).1
  intro d
  induction d with
  | zero =>
    intro i hd
    refine Ev.step (fun k => by simp only [spec_TorusPlace.l0]; rfl) ?_
    refine ev_neg (by omega) (ev_some rfl)
  | succ d ih =>
    intro i hd
    refine Ev.step (fun k => by simp only [spec_TorusPlace.l0]; rfl) ?_
    refine ev_pos (by omega) ?_
    refine ev_pos (by omega) ?_
    refine ev_pos (by omega) ?_
    rw [rd_L1_nat, form_row h (i := i) (by omega)]
    refine spec_TorusPlace_row h g i (by omega) _ (colsT t) 0 (by omega) (fun e => ?_) (fun j' e => ?_)
    · unfold allHit
      rw [e]
      exact ih (i + 1) (by omega)
    · unfold allHit
      rw [e]
theorem impl_TorusPlace_ev (t : List (List Int)) (g : List Int) (hr : ∀ row ∈ t, row.length ≤ 1048576) : Ev (fun q => impl_TorusPlace.f q t g) (TorusPlaceM t g) := by
  have no : Ev (fun q => impl_TorusPlace.j0 q g true t) (0, 0, false) := Ev.step (fun k => by simp only [impl_TorusPlace.j0]; rfl) (ev_pos (by trivial) (Ev.now _))
  unfold impl_TorusPlace.f TorusPlaceM
  refine ev_call (impl_isTorusForm_ev t hr) (ev_if (fun h => ?_) (fun h => by rw [if_neg (fun c => h c.1)]; exact no))
  refine ev_call (impl_windowsDiffer_ev h) ?_
  by_cases c : (rowsW t (colsT t) 0 t.length).Nodup
  · rw [if_pos ⟨h, c⟩, decide_eq_true c]
    refine Ev.step (fun k => by simp only [impl_TorusPlace.j0]; rfl) ?_
    refine ev_neg (by simp) ?_
    exact impl_TorusPlace_all h g t.length 0 (by omega)
  · rw [if_neg (fun e => c e.2), decide_eq_false c]
    exact no
theorem spec_TorusPlace_ev (t : List (List Int)) (g : List Int) (hg : g.length ≤ 1048576) (hr : ∀ row ∈ t, row.length ≤ 1048576) : Ev (fun q => spec_TorusPlace.f q t g) (TorusPlaceM t g) := by
  have no : Ev (fun q => spec_TorusPlace.j0 q g true t) (0, 0, false) := Ev.step (fun k => by simp only [spec_TorusPlace.j0]; rfl) (ev_pos (by trivial) (Ev.now _))
  unfold spec_TorusPlace.f TorusPlaceM
  refine ev_call (spec_suTorus_ev t hr) (ev_if (fun h => ?_) (fun h => by rw [if_neg (fun c => h c.1)]; exact no))
  refine ev_call (spec_suWindows_ev h) (ev_if (fun c => ?_) (fun c => by rw [if_neg (fun e => c (decide_eq_true e.2))]; exact no))
  have c' := of_decide_eq_true c
  rw [if_pos ⟨h, c'⟩]
  have wrong : (∀ i, i < t.length → ∀ j, j < colsT t → twin t (colsT t) i j ≠ g) → Ev (fun q => spec_TorusPlace.j0 q g true t) (allHit t (colsT t) g t.length 0) := fun hh => by
    rw [allHit_none hh t.length 0 (by omega)]
    exact no
  refine ev_if (fun h4 => ?_) (fun h4 => wrong (fun i hi j hj e => ?_))
  · refine ev_call (spec_l1All_ev 0 1 g (by omega)) ?_
    by_cases ha : allB g 0 1 = true
    · rw [ha]
      refine Ev.step (fun k => by simp only [spec_TorusPlace.j0]; rfl) ?_
      refine ev_neg (by simp) ?_
      exact spec_TorusPlace_all h g t.length 0 (by omega)
    · rw [Bool.eq_false_iff.mpr ha]
      refine wrong (fun i hi j hj e => ha ?_)
      have hb := (twin_bits h (form_cols h) hi hj).2
      rw [e] at hb
      exact allB_iff.mpr (fun x hx => by have := hb x hx; omega)
  · have hb := (twin_bits h (form_cols h) hi hj).1
    rw [e] at hb
    exact h4 (by omega)
theorem uLists_loop (t : List (List Int)) (ht : t.length ≤ 1048576) (hr : ∀ row ∈ t, row.length ≤ 1048576) : ∀ (d i : Nat), i + d = t.length → Ev (fun q => laws_uLists.l0 q t t (t.length : Int) (i : Int)) true := by
  intro d
  induction d with
  | zero =>
    intro i h
    refine Ev.step (fun k => by simp only [laws_uLists.l0]; rfl) ?_
    exact ev_neg (by omega) (Ev.now _)
  | succ d ih =>
    intro i h
    have hb := hr _ (rowT_mem t i (by omega))
    refine Ev.step (fun k => by simp only [laws_uLists.l0]; rfl) ?_
    refine ev_pos (by omega) (ev_pos (by omega) (ev_pos (by omega) (ev_pos (by omega) ?_)))
    rw [rd_L1_nat, wrap_succ (by omega)]
    refine ev_call (laws_uSame_ev _ _ (by omega)) ?_
    refine ev_pos (by simp) ?_
    exact ih (i + 1) (by omega)
theorem uLists_ev (t : List (List Int)) (ht : t.length ≤ 1048576) (hr : ∀ row ∈ t, row.length ≤ 1048576) : Ev (fun q => laws_uLists.f q t t) true := by
  unfold laws_uLists.f
  exact ev_pos rfl (uLists_loop t ht hr t.length 0 (by omega))
theorem turnT_length (t : List (List Int)) (d r : Nat) : (turnT t d r).length = t.length := by simp [turnT]
theorem turnT_cols (t : List (List Int)) (d r : Nat) : colsT (turnT t d r) = colsT t := by unfold colsT; rw [turnT_length]
theorem rowT_turn {t : List (List Int)} (d r : Nat) {i : Nat} (hi : i < t.length) : rowT (turnT t d r) i = win (rowT t ((i + d) % t.length)) r (colsT t) := by
  rw [rowT_get _ i (by rw [turnT_length]; exact hi)]
  simp [turnT]
theorem rd_turn {t : List (List Int)} (h : formB t = true) (d r : Nat) {i j : Nat} (hi : i < t.length) (hj : j < colsT t) : rd (rowT (turnT t d r) i) (j : Int) = rd (rowT t ((i + d) % t.length)) (((r + j) % colsT t : Nat) : Int) := by
  rw [rowT_turn d r hi, rd_nat, rd_nat, win_get _ _ _ _ hj, form_row h (Nat.mod_lt _ (by omega))]
theorem turn_mod (i d n : Nat) : ((i + 1) % n + d) % n = ((i + d) % n + 1) % n := by
  rw [Nat.mod_add_mod, Nat.mod_add_mod]
  congr 1
  omega
theorem turn_mod2 (r j n : Nat) : (r + (j + 1) % n) % n = ((r + j) % n + 1) % n := by
  rw [Nat.add_mod_mod, Nat.mod_add_mod]
  congr 1
theorem twin_turn {t : List (List Int)} (h : formB t = true) (d r : Nat) {i j : Nat} (hi : i < t.length) (hj : j < colsT t) : twin (turnT t d r) (colsT t) i j = twin t (colsT t) ((i + d) % t.length) ((r + j) % colsT t) := by
  unfold twin
  have h1 : (j + 1) % colsT t < colsT t := Nat.mod_lt _ (by omega)
  have h2 : (i + 1) % t.length < t.length := Nat.mod_lt _ (by omega)
  rw [turnT_length, rd_turn h d r hi hj, rd_turn h d r hi h1, rd_turn h d r h2 hj, rd_turn h d r h2 h1, turn_mod, turn_mod2]
theorem turn_form {t : List (List Int)} (h : formB t = true) (d r : Nat) : formB (turnT t d r) = true := by
  obtain ⟨h1, h2⟩ := formB_iff.mp h
  refine formB_iff.mpr ⟨by rw [turnT_length]; exact h1, fun row hrow => ?_⟩
  rw [turnT_length]
  obtain ⟨i, hi, rfl⟩ := List.mem_map.mp hrow
  have hc := form_cols h
  refine ⟨by rw [win_length]; exact hc, fun x hx => ?_⟩
  obtain ⟨j, hj, rfl⟩ := List.mem_map.mp hx
  have hm : (i + d) % t.length < t.length := Nat.mod_lt _ (by omega)
  have hl := form_row h hm
  have hcp : 0 < colsT t := by
    rcases Nat.eq_zero_or_pos (colsT t) with e | e
    · rw [e] at hc; omega
    · exact e
  have hk : (r + j) % (rowT t ((i + d) % t.length)).length < (rowT t ((i + d) % t.length)).length := Nat.mod_lt _ (by omega)
  refine (h2 _ (rowT_mem t _ hm)).2 _ ?_
  rw [List.getD_eq_getElem?_getD, List.getElem?_eq_getElem hk]
  exact List.getElem_mem hk
theorem mem_rows {t : List (List Int)} {w : List Int} {c : Nat} : w ∈ rowsW t c 0 t.length ↔ ∃ i j, i < t.length ∧ j < c ∧ w = twin t c i j := by
  unfold rowsW
  simp only [List.mem_flatMap, List.mem_map, List.mem_range'_1]
  constructor
  · rintro ⟨i, ⟨_, hi⟩, j, ⟨_, hj⟩, rfl⟩
    exact ⟨i, j, by omega, by omega, rfl⟩
  · rintro ⟨i, j, hi, hj, rfl⟩
    exact ⟨i, ⟨by omega, by omega⟩, j, ⟨by omega, by omega⟩, rfl⟩
theorem back_mod (i d n : Nat) (hi : i < n) : ((i + (n - d % n)) % n + d) % n = i := by
  have hd : d % n < n := Nat.mod_lt _ (by omega)
  rw [Nat.mod_add_mod, Nat.add_mod, Nat.add_mod i]
  have e : ((i % n + (n - d % n) % n) % n + d % n) % n = (i + n) % n := by
    rw [Nat.mod_add_mod, Nat.mod_eq_of_lt hi]
    rcases Nat.eq_zero_or_pos (d % n) with e | e
    · rw [e]; simp [Nat.mod_eq_of_lt hi]
    · rw [Nat.mod_eq_of_lt (show n - d % n < n by omega)]
      congr 1
      omega
  rw [e, Nat.add_mod_right, Nat.mod_eq_of_lt hi]
theorem turn_windows {t : List (List Int)} (h : formB t = true) (d r : Nat) (w : List Int) : w ∈ rowsW (turnT t d r) (colsT t) 0 (turnT t d r).length ↔ w ∈ rowsW t (colsT t) 0 t.length := by
  rw [mem_rows, mem_rows, turnT_length]
  constructor
  · rintro ⟨i, j, hi, hj, rfl⟩
    exact ⟨_, _, Nat.mod_lt _ (by omega), Nat.mod_lt _ (by omega), twin_turn h d r hi hj⟩
  · rintro ⟨i, j, hi, hj, rfl⟩
    refine ⟨(i + (t.length - d % t.length)) % t.length, (j + (colsT t - r % colsT t)) % colsT t, Nat.mod_lt _ (by omega), Nat.mod_lt _ (by omega), ?_⟩
    rw [twin_turn h d r (Nat.mod_lt _ (by omega)) (Nat.mod_lt _ (by omega)), back_mod i d t.length hi, Nat.add_comm r, back_mod j r (colsT t) hj]
theorem turn_nodup {t : List (List Int)} (h : formB t = true) (d r : Nat) : (rowsW (turnT t d r) (colsT t) 0 (turnT t d r).length).Nodup ↔ (rowsW t (colsT t) 0 t.length).Nodup := by
  have h' := turn_form h d r
  have hc := form_cols h
  have hc' : colsT t * (turnT t d r).length = 16 := by rw [turnT_length]; exact hc
  rw [← mask_nodup _ (by rw [rowsW_length]; exact hc) (rowsW_bits h hc), ← mask_nodup _ (by rw [rowsW_length]; exact hc') (rowsW_bits h' hc')]
  have b1 := maskF_lt _ 0 (rowsW_bits h hc) (by omega)
  have b2 := maskF_lt _ 0 (rowsW_bits h' hc') (by omega)
  rw [mask_all b1, mask_all b2]
  have e : ∀ k, ((rowsW (turnT t d r) (colsT t) 0 (turnT t d r).length).foldl maskF 0).testBit k = ((rowsW t (colsT t) 0 t.length).foldl maskF 0).testBit k := fun k => by
    rw [maskF_bit, maskF_bit]
    congr 1
    rw [decide_eq_decide]
    exact ⟨fun ⟨w, hw, e⟩ => ⟨w, (turn_windows h d r w).mp hw, e⟩, fun ⟨w, hw, e⟩ => ⟨w, (turn_windows h d r w).mpr hw, e⟩⟩
  exact ⟨fun hh k hk => (e k).symm.trans (hh k hk), fun hh k hk => (e k).trans (hh k hk)⟩
theorem IsTorus_turn {t : List (List Int)} (dn sd : Int) (h : (TurnTorusM t dn sd).2 = true) : IsTorusM (TurnTorusM t dn sd).1 = ((IsTorusM t).1, true) := by
  unfold TurnTorusM at h ⊢
  split at h
  · rename_i hc
    rw [if_pos hc]
    unfold IsTorusM
    dsimp only
    rw [if_pos (turn_form hc.1 _ _), if_pos hc.1, turnT_cols]
    exact congrArg (·, true) (decide_eq_decide.mpr (turn_nodup hc.1 _ _))
  · cases h
def smallT (ys : List (List Int)) : Prop := ys.length ≤ 16 ∧ ∀ row ∈ ys, row.length ≤ 17
def goodT (ys : List (List Int)) : Prop := (1 ≤ ys.length ∧ ys.length ≤ 16) ∧ ∀ row ∈ ys, 1 ≤ row.length ∧ row.length ≤ 16
theorem row_ok {d : List Int} (hd : bytesL d) (R : Int) (c : Nat) (hR : R ≠ 0) (hq : wrap64 (Int.tdiv 16 R) = (c : Int)) (hc : c ≤ 16) : ∀ (m : Nat) (row : List Int) (a s : Int), row.length + m = c → 0 ≤ a → a + 2 * (m : Int) ≤ 999999999999000 →
    ∃ r a' s', Ev (fun q => spec_l1Cur_torus.row q R row d a s) (r, a', s') ∧ r.length = c ∧ (a ≤ a' ∧ a' ≤ a + 2 * (m : Int)) := by
  intro m
  induction m with
  | zero =>
    intro row a s h h0 hb
    refine ⟨row, a, s, Ev.step (fun k => by simp only [spec_l1Cur_torus.row]; rfl) (ev_neg hR ?_), by omega, by omega⟩
    rw [hq]
    exact ev_neg (by omega) (Ev.now _)
  | succ m ih =>
    intro row a s h h0 hb
    obtain ⟨v, a1, s1, e1, hv, ha1⟩ := pick_ok hd s 2 h0 (by omega)
    obtain ⟨r, a2, s2, e2, h2, ha2⟩ := ih (row ++ [v]) a1 s1 (by simp; omega) (by omega) (by omega)
    refine ⟨r, a2, s2, Ev.step (fun k => by simp only [spec_l1Cur_torus.row]; rfl) (ev_neg hR ?_), h2, by omega⟩
    rw [hq]
    exact ev_pos (by omega) (ev_plain e1 (ev_pos (by omega) e2))
theorem rows_ok {d : List Int} (hd : bytesL d) (R c : Nat) (hR : 1 ≤ R) (hR2 : R ≤ 16) (hq : wrap64 (Int.tdiv 16 (R : Int)) = (c : Int)) (hc : 1 ≤ c) (hc2 : c ≤ 16) : ∀ (m i : Nat) (ys : List (List Int)) (a s : Int), i + m = R → ys.length = i → (∀ row ∈ ys, row.length = c) → 0 ≤ a → a + 100 * (m : Int) ≤ 999999999990000 →
    ∃ r a' s', Ev (fun q => spec_l1Cur_torus.rows q (R : Int) (i : Int) ys d a s) (r, a', s') ∧ (r.length = R ∧ ∀ row ∈ r, row.length = c) ∧ (a ≤ a' ∧ a' ≤ a + 100 * (m : Int)) := by
  intro m
  induction m with
  | zero =>
    intro i ys a s h h1 h2 h0 hb
    exact ⟨ys, a, s, Ev.step (fun k => by simp only [spec_l1Cur_torus.rows]; rfl) (ev_neg (by omega) (Ev.now _)), ⟨by omega, h2⟩, by omega⟩
  | succ m ih =>
    intro i ys a s h h1 h2 h0 hb
    obtain ⟨row, a1, s1, e1, hl, ha1⟩ := row_ok hd (R : Int) c (by omega) hq hc2 c [] a s (by simp) h0 (by omega)
    obtain ⟨r, a2, s2, e2, h3, ha2⟩ := ih (i + 1) (ys ++ [row]) a1 s1 (by omega) (by simp [h1]) (fun x hx => by
      rcases List.mem_append.mp hx with hx | hx
      · exact h2 x hx
      · rw [List.mem_singleton.mp hx]; exact hl) (by omega) (by omega)
    have hlt : ys.length < 5864062014805 := by omega
    refine ⟨r, a2, s2, Ev.step (fun k => by simp only [spec_l1Cur_torus.rows]; rfl) (ev_pos (by omega) (ev_call e1 (ev_pos hlt ?_))), h3, by omega⟩
    rw [wrap_succ (by omega)]
    exact e2
theorem getD_mem {ys : List (List Int)} {i : Nat} (h : i < ys.length) : ys.getD i [] ∈ ys := by
  rw [List.getD_eq_getElem?_getD, List.getElem?_eq_getElem h]
  exact List.getElem_mem h
theorem last_ok {d : List Int} (hd : bytesL d) {ys : List (List Int)} (hy : goodT ys) {a : Int} (s : Int) (h0 : 0 ≤ a) (h1 : a ≤ 999999999995000) : ∃ r a' s', spec_l1Cur_torus.last ys d a s = some (r, a', s') ∧ smallT r ∧ (a ≤ a' ∧ a' ≤ a + 10) := by
  obtain ⟨⟨y1, y2⟩, y3⟩ := hy
  have sm : smallT ys := ⟨y2, fun row hr => by have := (y3 row hr).2; omega⟩
  obtain ⟨c, a1, s1, e1, hc, ha1⟩ := pick_ok hd s 16 h0 (by omega)
  unfold spec_l1Cur_torus.last
  by_cases c0 : c = 0
  · obtain ⟨p, a2, s2, e2, hp, ha2⟩ := pick_ok hd (a := a1) s1 (ys.length : Int) (by omega) (by omega)
    obtain ⟨v, a3, s3, e3, hv, ha3⟩ := among_ok hd (a := a2) s2 [0, 1, 2, -1] (by simp) (by omega) (by omega)
    have hpl : p < (ys.length : Int) := by omega
    have hrow := y3 _ (getD_mem (ys := ys) (i := p.toNat) (by omega))
    refine ⟨ys.set p.toNat ((ys.getD p.toNat []).set 0 v), a3, s3, ?_, ⟨by simp; exact y2, fun row hr => ?_⟩, by omega⟩
    · rw [e1]; dsimp only [Option.bind_some]; rw [if_pos c0, e2]; dsimp only [Option.bind_some]; rw [if_pos hp.1, if_pos hpl, e3]; dsimp only [Option.bind_some]; rw [if_pos (by omega)]
    · rcases List.mem_or_eq_of_mem_set hr with hr | rfl
      · exact sm.2 row hr
      · rw [List.length_set]; omega
  · by_cases c1 : c = 1
    · refine ⟨ys.drop 1, a1, s1, ?_, ⟨by simp; omega, fun row hr => sm.2 row (List.mem_of_mem_drop hr)⟩, by omega⟩
      rw [e1]; dsimp only [Option.bind_some]; rw [if_neg c0, if_pos c1, if_pos y1]
    · by_cases c2 : c = 2
      · have hrow := y3 _ (getD_mem (ys := ys) (i := 0) (by omega))
        refine ⟨ys.set 0 (ys.getD 0 [] ++ [1]), a1, s1, ?_, ⟨by simp; exact y2, fun row hr => ?_⟩, by omega⟩
        · rw [e1]; dsimp only [Option.bind_some]; rw [if_neg c0, if_neg c1, if_pos c2, if_pos (by omega), if_pos (by omega)]
        · rcases List.mem_or_eq_of_mem_set hr with hr | rfl
          · exact sm.2 row hr
          · rw [List.length_append]; show _ + 1 ≤ 17; omega
      · refine ⟨ys, a1, s1, ?_, sm, by omega⟩
        rw [e1]; dsimp only [Option.bind_some]; rw [if_neg c0, if_neg c1, if_neg c2]
theorem drawn_ok {d : List Int} (hd : bytesL d) (R c : Nat) (hR : 1 ≤ R) (hR2 : R ≤ 16) (hq : wrap64 (Int.tdiv 16 (R : Int)) = (c : Int)) (hc : 1 ≤ c) (hc2 : c ≤ 16) {a : Int} (s : Int) (h0 : 0 ≤ a) (h1 : a ≤ 10000) :
    ∃ r a' s', Ev (fun q => spec_l1Cur_torus.drawn q (R : Int) d a s) (r, a', s') ∧ smallT r ∧ (0 ≤ a' ∧ a' ≤ 100000) := by
  obtain ⟨ys, a1, s1, e1, ⟨l1, l2⟩, ha1⟩ := rows_ok hd R c hR hR2 hq hc hc2 R 0 [] a s (by omega) rfl (fun _ h => by cases h) h0 (by omega)
  obtain ⟨r, a2, s2, e2, h2, ha2⟩ := last_ok hd (ys := ys) ⟨by omega, fun row hr => by have := l2 row hr; omega⟩ (a := a1) s1 (by omega) (by omega)
  refine ⟨r, a2, s2, ?_, h2, by omega⟩
  unfold spec_l1Cur_torus.drawn
  exact ev_call e1 (ev_const e2)
theorem lit_good : goodT spec_l1Cur_torus.lit := ⟨by decide, by decide⟩
theorem lit_form : formB spec_l1Cur_torus.lit = true := by decide
theorem turn_lit {x y : Int} (hx : 0 ≤ x ∧ x < 4) (hy : 0 ≤ y ∧ y < 4) : goodT (TurnTorusM spec_l1Cur_torus.lit x y).1 := by
  obtain ⟨a, rfl⟩ := Int.eq_ofNat_of_zero_le hx.1
  obtain ⟨b, rfl⟩ := Int.eq_ofNat_of_zero_le hy.1
  unfold TurnTorusM
  have hc : colsT spec_l1Cur_torus.lit = 4 := rfl
  have hl : spec_l1Cur_torus.lit.length = 4 := rfl
  rw [if_pos ⟨lit_form, inB_iff.mpr (by rw [hl]; omega), inB_iff.mpr (by rw [hc]; omega)⟩]
  refine ⟨by rw [turnT_length, hl]; omega, fun row hr => ?_⟩
  obtain ⟨i, _, rfl⟩ := List.mem_map.mp hr
  rw [win_length, hc]
  omega
theorem torus_ok {d : List Int} (hd : bytesL d) : ∃ ys a s, Ev (fun q => spec_l1Cur_torus.f q d 0 0) (ys, a, s) ∧ smallT ys ∧ (0 ≤ a ∧ a ≤ 100000) := by
  obtain ⟨rr, a1, s1, e1, hr, ha1⟩ := among_ok hd (a := 0) 0 [1, 2, 4, 4, 4, 8, 16] (by simp) (by omega) (by omega)
  have go : ∀ (a s : Int), 0 ≤ a → a ≤ 10000 → ∃ ys a' s', Ev (fun q => spec_l1Cur_torus.drawn q rr d a s) (ys, a', s') ∧ smallT ys ∧ (0 ≤ a' ∧ a' ≤ 100000) := by
    intro a s h0 h1
    have hw : ∀ n : Int, 0 ≤ n → n ≤ 16 → wrap64 n = n := fun n h h' => wrap_id (by omega)
    have : rr = 1 ∨ rr = 2 ∨ rr = 4 ∨ rr = 8 ∨ rr = 16 := by simp at hr; omega
    rcases this with rfl | rfl | rfl | rfl | rfl
    · exact drawn_ok hd 1 16 (by omega) (by omega) (hw 16 (by omega) (by omega)) (by omega) (by omega) s h0 h1
    · exact drawn_ok hd 2 8 (by omega) (by omega) (hw 8 (by omega) (by omega)) (by omega) (by omega) s h0 h1
    · exact drawn_ok hd 4 4 (by omega) (by omega) (hw 4 (by omega) (by omega)) (by omega) (by omega) s h0 h1
    · exact drawn_ok hd 8 2 (by omega) (by omega) (hw 2 (by omega) (by omega)) (by omega) (by omega) s h0 h1
    · exact drawn_ok hd 16 1 (by omega) (by omega) (hw 1 (by omega) (by omega)) (by omega) (by omega) s h0 h1
  unfold spec_l1Cur_torus.f
  by_cases c4 : rr = 4
  · obtain ⟨b, a2, s2, e2, ha2⟩ := one_ok hd (a := a1) s1 4 (by omega) (by omega)
    by_cases cb : b = true
    · obtain ⟨ys, a3, s3, e3, h3, ha3⟩ := go a2 s2 (by omega) (by omega)
      exact ⟨ys, a3, s3, ev_plain e1 (ev_pos c4 (ev_plain e2 (ev_pos cb e3))), h3, ha3⟩
    · obtain ⟨e, a3, s3, e3, ha3⟩ := one_ok hd (a := a2) s2 2 (by omega) (by omega)
      by_cases ce : e = true
      · obtain ⟨x, a4, s4, e4, hx, ha4⟩ := pick_ok hd (a := a3) s3 4 (by omega) (by omega)
        obtain ⟨y, a5, s5, e5, hy, ha5⟩ := pick_ok hd (a := a4) s4 4 (by omega) (by omega)
        obtain ⟨ys, a6, s6, e6, h6, ha6⟩ := last_ok hd (turn_lit (x := x) (y := y) (by omega) (by omega)) (a := a5) s5 (by omega) (by omega)
        refine ⟨ys, a6, s6, ev_plain e1 (ev_pos c4 (ev_plain e2 (ev_neg cb (ev_plain e3 (ev_pos ce (ev_plain e4 (ev_plain e5 (ev_call (spec_TurnTorus_ev _ _ _ (fun row hr => ?_)) (ev_const e6))))))))), h6, by omega⟩
        have := (lit_good.2 row hr).2
        omega
      · obtain ⟨ys, a6, s6, e6, h6, ha6⟩ := last_ok hd lit_good (a := a3) s3 (by omega) (by omega)
        exact ⟨ys, a6, s6, ev_plain e1 (ev_pos c4 (ev_plain e2 (ev_neg cb (ev_plain e3 (ev_neg ce (ev_const e6)))))), h6, by omega⟩
  · obtain ⟨ys, a3, s3, e3, h3, ha3⟩ := go a1 s1 (by omega) (by omega)
    exact ⟨ys, a3, s3, ev_plain e1 (ev_neg c4 e3), h3, ha3⟩
theorem drawTurn_ok {d : List Int} (hd : bytesL d) : ∃ ys dn sd, Ev (fun q => spec_DrawTurnTorus.f q d) (ys, dn, sd) ∧ smallT ys := by
  obtain ⟨ys, a1, s1, e1, h1, ha1⟩ := torus_ok hd
  obtain ⟨x, a2, s2, e2, _, ha2⟩ := among_ok hd (a := a1) s1 [0, 1, 2, 3, 15, 16, -1] (by simp) (by omega) (by omega)
  obtain ⟨y, a3, s3, e3, _, ha3⟩ := among_ok hd (a := a2) s2 [0, 1, 2, 3, 15, 16, -1] (by simp) (by omega) (by omega)
  refine ⟨ys, x, y, ?_, h1⟩
  unfold spec_DrawTurnTorus.f
  exact ev_call e1 (ev_plain e2 (ev_plain e3 (Ev.now _)))
theorem drawPlace_ok {d : List Int} (hd : bytesL d) : ∃ ys w, Ev (fun q => spec_DrawTorusPlace.f q d) (ys, w) ∧ smallT ys ∧ w.length ≤ 202 := by
  obtain ⟨ys, a1, s1, e1, h1, ha1⟩ := torus_ok hd
  obtain ⟨b, a2, s2, e2, ha2⟩ := one_ok hd (a := a1) s1 12 (by omega) (by omega)
  by_cases cb : b = true
  · obtain ⟨r, a3, s3, e3, h3, _⟩ := word9_ok hd (a := a2) s2 3 6 (by omega) (by omega) (by omega)
    refine ⟨ys, r, ?_, h1, h3⟩
    unfold spec_DrawTorusPlace.f
    exact ev_call e1 (ev_plain e2 (ev_pos cb (ev_call e3 (Ev.now _))))
  · obtain ⟨p, a3, s3, e3, _, ha3⟩ := pick_ok hd (a := a2) s2 2 (by omega) (by omega)
    obtain ⟨q, a4, s4, e4, _, ha4⟩ := pick_ok hd (a := a3) s3 2 (by omega) (by omega)
    obtain ⟨u, a5, s5, e5, _, ha5⟩ := pick_ok hd (a := a4) s4 2 (by omega) (by omega)
    obtain ⟨z, a6, s6, e6, _, ha6⟩ := pick_ok hd (a := a5) s5 2 (by omega) (by omega)
    refine ⟨ys, [p, q, u, z], ?_, h1, by simp⟩
    unfold spec_DrawTorusPlace.f spec_DrawTorusPlace.g
    exact ev_call e1 (ev_plain e2 (ev_neg cb (ev_plain e3 (ev_plain e4 (ev_plain e5 (ev_plain e6 (Ev.now _)))))))
theorem rowHit_some {t : List (List Int)} {c : Nat} {g : List Int} {i : Nat} : ∀ (d j r : Nat), j + d = c → rowHit t c g i d j = some r → r < c ∧ twin t c i r = g := by
  intro d
  induction d with
  | zero => intro j r _ h; cases h
  | succ d ih =>
    intro j r hd h
    unfold rowHit at h
    split at h
    · rename_i e
      obtain rfl := Option.some.inj h
      exact ⟨by omega, e⟩
    · exact ih (j + 1) r (by omega) h
theorem allHit_some {t : List (List Int)} {c : Nat} {g : List Int} : ∀ (d i : Nat), i + d = t.length → (allHit t c g d i).2.2 = true → ∃ r j : Nat, allHit t c g d i = ((r : Int), (j : Int), true) ∧ r < t.length ∧ j < c ∧ twin t c r j = g := by
  intro d
  induction d with
  | zero => intro i _ h; cases h
  | succ d ih =>
    intro i hd h
    unfold allHit at h ⊢
    split at h
    · rename_i j e
      obtain ⟨h1, h2⟩ := rowHit_some c 0 j (by omega) e
      exact ⟨i, j, rfl, by omega, h1, h2⟩
    · exact ih (i + 1) (by omega) h
theorem place_cond {t : List (List Int)} {g : List Int} (h : (TorusPlaceM t g).2.2 = true) : laws_FnTori.cond t g (TorusPlaceM t g).1 (TorusPlaceM t g).2.1 (Int.tmod (wrap64 ((TorusPlaceM t g).1 + 1)) (t.length : Int)) (Int.tmod (wrap64 ((TorusPlaceM t g).2.1 + 1)) ((t.getD (Int.tmod (wrap64 ((TorusPlaceM t g).1 + 1)) (t.length : Int)).toNat []).length : Int)) := by
  unfold TorusPlaceM at h ⊢
  split at h
  · rename_i hc
    rw [if_pos hc]
    obtain ⟨r, j, e, h1, h2, h3⟩ := allHit_some t.length 0 (by omega) h
    have hn := (formB_iff.mp hc.1).1
    have hcl : colsT t ≤ 16 := by unfold colsT; exact Nat.div_le_self _ _
    have hm : (r + 1) % t.length < t.length := Nat.mod_lt _ (by omega)
    have hm2 : (j + 1) % colsT t < colsT t := Nat.mod_lt _ (by omega)
    have l1 : (t.getD r []).length = colsT t := form_row hc.1 h1
    have l2 : (t.getD ((r + 1) % t.length) []).length = colsT t := form_row hc.1 hm
    rw [e]
    dsimp only
    rw [wrap_succ (by omega), wrap_succ (by omega), tmod_nat, Int.toNat_natCast, l2, tmod_nat]
    unfold laws_FnTori.cond laws_FnTori.at_
    simp only [Int.toNat_natCast]
    rw [l1, l2]
    subst h3
    refine ⟨by omega, by omega, by omega, by omega, by simp [twin], ?_, ?_, ?_, ?_⟩
    · show (rowT t r).getD j 0 = rd (rowT t r) (j : Int); rw [rd_nat]
    · show (rowT t r).getD ((j + 1) % colsT t) 0 = rd (rowT t r) (((j + 1) % colsT t : Nat) : Int); rw [rd_nat]
    · show (rowT t ((r + 1) % t.length)).getD j 0 = rd (rowT t ((r + 1) % t.length)) (j : Int); rw [rd_nat]
    · show (rowT t ((r + 1) % t.length)).getD ((j + 1) % colsT t) 0 = rd (rowT t ((r + 1) % t.length)) (((j + 1) % colsT t : Nat) : Int); rw [rd_nat]
  · cases h
theorem FnTori_all (a b : List Int) (ha : a.length ≤ maxLen) (hwa : ∀ x ∈ a, (Lit.int .u8 x).wf = true) (hb : b.length ≤ maxLen) (hwb : ∀ x ∈ b, (Lit.int .u8 x).wf = true) : ∃ k, laws_FnTori.f k a b = some true := by
  refine Ev.rounds (r := true) ?_
  unfold laws_FnTori.f
  obtain ⟨r, hr⟩ := laws_big_some a b
  refine ev_plain hr ?_
  by_cases cr : r = true
  · exact ev_pos cr (Ev.now _)
  refine ev_neg cr ?_
  have hda := bytes_wf hwa
  have hdb := bytes_wf hwb
  obtain ⟨n, a1, s1, e1, _, _⟩ := among_ok hda (a := 0) 0 [4, 4, 1, 2, 8, 16, 3, 0, 17] (by simp) (by omega) (by omega)
  have hn : spec_DrawFirstTorus.f a = some n := by unfold spec_DrawFirstTorus.f; rw [e1]; rfl
  refine ev_plain hn ?_
  obtain ⟨t, f1, f2, ⟨f3, f4⟩, f5⟩ := firstTorus_both n
  have f6 : ∀ row ∈ t.1, row.length ≤ 1048576 := fun row h => by have := f4 row h; omega
  refine ev_call f2 (ev_call f1 (ev_pos rfl (ev_call (uLists_ev t.1 (by omega) f6) (ev_pos rfl ?_))))
  have first : Ev (fun q => laws_FnTori.first q n t) () := by
    unfold laws_FnTori.first
    refine ev_if (fun h => ?_) (fun _ => Ev.now _)
    obtain ⟨g1, g2, g3⟩ := f5 h
    refine ev_call (impl_IsTorus_ev t.1 f6) (ev_pos ⟨?_, g3⟩ (Ev.now _))
    unfold IsTorusM
    rw [if_pos g1]
    exact congrArg (·, true) g2
  refine ev_call first ?_
  unfold laws_FnTori.second
  obtain ⟨u, dn, sd, u1, u2⟩ := drawTurn_ok hdb
  have u3 : ∀ row ∈ u, row.length ≤ 1048576 := fun row h => by have := u2.2 row h; omega
  obtain ⟨v1, v2⟩ := TurnTorusM_small u dn sd
  have v3 : ∀ row ∈ (TurnTorusM u dn sd).1, row.length ≤ 1048576 := fun row h => by have := v2 row h; omega
  refine ev_call u1 (ev_call (impl_TurnTorus_ev u dn sd u3) (ev_call (spec_TurnTorus_ev u dn sd u3) (ev_pos rfl ?_)))
  refine ev_call (impl_IsTorus_ev u u3) (ev_call (spec_IsTorus_ev u u3) (ev_pos rfl ?_))
  refine ev_call (uLists_ev _ (by omega) v3) (ev_pos rfl ?_)
  have third : Ev (fun q => laws_FnTori.third q b) true := by
    unfold laws_FnTori.third
    obtain ⟨y, w, y1, y2, y3⟩ := drawPlace_ok hdb
    have y4 : ∀ row ∈ y, row.length ≤ 1048576 := fun row h => by have := y2.2 row h; omega
    refine ev_call y1 (ev_call (impl_TorusPlace_ev y w y4) (ev_call (spec_TorusPlace_ev y w (by omega) y4) (ev_pos rfl ?_)))
    exact ev_if (fun h => ev_pos (place_cond h) (Ev.now _)) (fun _ => Ev.now _)
  refine ev_if (fun h => ?_) (fun _ => third)
  exact ev_call (impl_IsTorus_ev _ v3) (ev_pos (IsTorus_turn dn sd h) third)
theorem FnTori : laws_FnTori.Pure := fun l0 l1 h1 _ h2 h3 _ h4 => FnTori_all l0 l1 h1 h2 h3 h4

end Go.Proofs.Ytnbflbkneeageaa.Pure
