/- The pure statement of ParseList: program and reference answer alike, for all arguments; no condition. -/
import Derived.Test.YtmcedinafaiokaaDoorPFnExactParseListx3
import Derived.Test.YtmcedinafaiokaaDoorBase
import Derived.Test.YtmcedinafaiokaaDoorLists
import Derived.Test.YtmcedinafaiokaaDoorLaidA
namespace Go.Proofs.YtmcedinafaiokaaDoor.Pure
open Go.RowKit Go.Proofs.YtmcedinafaiokaaDoor.PFnExactParseList Go.Proofs.YtmcedinafaiokaaDoorW.PrintWords Go.Proofs.YtmcedinafaiokaaDoorW.PrintLast Go.Proofs.YtmcedinafaiokaaDoor.Base
set_option maxRecDepth 10000
set_option linter.unusedVariables false
set_option linter.unusedSimpArgs false

theorem spec_l1In_eq (a lo hi : Int) : spec_l1In.f a lo hi = some (inB a lo hi) := by
  unfold spec_l1In.f inB
  by_cases h : a ≥ lo
  · rw [if_pos h]; simp [h]
  · rw [if_neg h]; simp [show ¬ lo ≤ a from h]

theorem spec_l1All_loop (lo hi : Int) (xs : List Int) (hx : xs.length ≤ 1000000000000) : ∀ (d i : Nat), i + d = xs.length →
    Ev (fun k => spec_l1All.l0 k lo hi xs (xs.length : Int) (i : Int)) (allB (xs.drop i) lo hi) := by
  intro d
  induction d with
  | zero =>
    intro i h
    rw [List.drop_eq_nil_of_le (by omega)]
    refine Ev.step (f := fun _ => some true) (fun k => ?_) (Ev.now _)
    simp only [spec_l1All.l0]; rw [if_neg (by omega)]
  | succ d ih =>
    intro i h
    have hlt : i < xs.length := by omega
    rw [drop_rd xs i hlt]
    refine Ev.step (f := fun k => if inB (rd xs (i : Int)) lo hi = true then spec_l1All.l0 k lo hi xs (xs.length : Int) ((i + 1 : Nat) : Int) else some false) (fun k => ?_) ?_
    · simp only [spec_l1All.l0]; rw [if_pos (by omega), if_pos (by omega), if_pos (by omega), spec_l1In_eq, wrap_succ (by omega)]; rfl
    · by_cases hb : inB (rd xs (i : Int)) lo hi = true
      · exact ev_pos hb (ev_to (ih (i + 1) (by omega)) (by simp [allB, hb]))
      · exact ev_neg hb (ev_some (by simp [allB, Bool.eq_false_iff.mpr hb]))
theorem spec_l1All_ev (lo hi : Int) (xs : List Int) (hx : xs.length ≤ 1000000000000) : Ev (fun k => spec_l1All.f k xs lo hi) (allB xs lo hi) :=
  spec_l1All_loop lo hi xs hx xs.length 0 (by omega)

theorem laws_eqIntS_loop (l : List Int) (hl : l.length ≤ 35184372088832) : ∀ (d i : Nat), i + d = l.length → Ev (fun k => laws_eqIntS.l0 k l l (i : Int)) true := by
  intro d
  induction d with
  | zero =>
    intro i h
    refine Ev.step (f := fun _ => some true) (fun k => ?_) (Ev.now _)
    simp only [laws_eqIntS.l0]; rw [if_neg (by omega)]
  | succ d ih =>
    intro i h
    refine Ev.step (f := fun k => laws_eqIntS.l0 k l l ((i + 1 : Nat) : Int)) (fun k => ?_) (ih (i + 1) (by omega))
    simp only [laws_eqIntS.l0]; rw [if_pos (by omega), if_pos (by omega), if_pos (by omega), if_pos trivial, wrap_succ (by omega)]
theorem laws_eqIntS_ev (l : List Int) (hl : l.length ≤ 35184372088832) : Ev (fun k => laws_eqIntS.f k l l) true := by
  unfold laws_eqIntS.f
  exact ev_pos rfl (laws_eqIntS_loop l hl l.length 0 (by omega))

theorem laws_markIntS_loop : ∀ (d i : Nat) (ys : List Int) (m : Int), i + d = ys.length → 0 ≤ m → m + d ≤ 1000000000000000 → ys.length ≤ 35184372088832 →
    Ev (fun k => laws_markIntS.l0 k ys m (i : Int)) (m + (d : Int), ys.take i ++ marks m d) := by
  intro d
  induction d with
  | zero =>
    intro i ys m h1 h2 h3 h4
    refine Ev.step (f := fun _ => some (m, ys)) (fun k => ?_) (ev_some ?_)
    · simp only [laws_markIntS.l0]; rw [if_neg (by omega)]
    · rw [List.take_of_length_le (by omega)]; simp [marks]
  | succ d ih =>
    intro i ys m h1 h2 h3 h4
    refine Ev.step (f := fun k => laws_markIntS.l0 k (ys.set i m) (m + 1) ((i + 1 : Nat) : Int)) (fun k => ?_) (ev_to (ih (i + 1) _ (m + 1) (by simp; omega) (by omega) (by omega) (by simpa using h4)) ?_)
    · simp only [laws_markIntS.l0]; rw [if_pos (by omega), if_pos (by omega), wrap_succ (by omega), wrap_id (by omega), Int.toNat_natCast]
    · rw [marks_succ, List.take_succ_eq_append_getElem (by simp; omega), List.take_set, List.set_eq_of_length_le (by simp; omega)]
      refine Prod.ext (by simp; omega) ?_
      simp
theorem laws_markIntS_ev (l : List Int) (m : Int) (h2 : 0 ≤ m) (h3 : m ≤ 900000000000000) (h4 : l.length ≤ 35184372088832) : Ev (fun k => laws_markIntS.f k l m) (m + (l.length : Int), marks m l.length) :=
  ev_to (laws_markIntS_loop l.length 0 l m (by omega) h2 (by omega) h4) (by simp)

theorem laws_heldIntS_loop (zs : List Int) (hz : zs.length ≤ 35184372088832) : ∀ (d i : Nat) (m : Int), i + d = zs.length → 0 ≤ m → m + d ≤ 1000000000000000 → zs.drop i = marks m d →
    Ev (fun k => laws_heldIntS.l0 k zs m (i : Int)) (m + (d : Int)) := by
  intro d
  induction d with
  | zero =>
    intro i m h1 h2 h3 h4
    refine Ev.step (f := fun _ => some m) (fun k => ?_) (ev_some (by simp))
    simp only [laws_heldIntS.l0]; rw [if_neg (by omega)]
  | succ d ih =>
    intro i m h1 h2 h3 h4
    rw [drop_rd zs i (by omega), marks_succ, List.cons.injEq] at h4
    refine Ev.step (f := fun k => laws_heldIntS.l0 k zs (m + 1) ((i + 1 : Nat) : Int)) (fun k => ?_) (ev_to (ih (i + 1) (m + 1) (by omega) (by omega) (by omega) h4.2) (by omega))
    simp only [laws_heldIntS.l0]; rw [if_pos (by omega), if_pos (by omega), if_pos h4.1, wrap_succ (by omega), wrap_id (by omega)]
theorem laws_heldIntS_ev (m : Int) (n : Nat) (h2 : 0 ≤ m) (h3 : m ≤ 900000000000000) (h4 : n ≤ 35184372088832) : Ev (fun k => laws_heldIntS.f k (marks m n) m) (m + (n : Int)) :=
  laws_heldIntS_loop (marks m n) (by simpa [marks_length] using h4) n 0 m (by simp [marks_length]) h2 (by omega) rfl

/-! ### numerals -/
theorem head_app (m r : List UInt8) (h : m ≠ []) : (m ++ r).head? = m.head? := by
  cases m with
  | nil => exact absurd rfl h
  | cons => rfl
def isDig (c : UInt8) : Prop := 48 ≤ c.toNat ∧ c.toNat ≤ 57
instance (c : UInt8) : Decidable (isDig c) := by unfold isDig; infer_instance
def valOf (a : Nat) (l : List UInt8) : Nat := l.foldl (fun a c => a * 10 + (c.toNat - 48)) a
theorem val_nil (a : Nat) : valOf a [] = a := List.foldl_nil
theorem val_cons (a : Nat) (c : UInt8) (r : List UInt8) : valOf a (c :: r) = valOf (a * 10 + (c.toNat - 48)) r := List.foldl_cons ..
theorem val_app (l : List UInt8) (c : UInt8) : ∀ a, valOf a (l ++ [c]) = valOf a l * 10 + (c.toNat - 48) := by
  induction l with
  | nil => intro a; rw [List.nil_append, val_cons, val_nil, val_nil]
  | cons b l ih => intro a; rw [List.cons_append, val_cons, val_cons]; exact ih _
theorem val_ge (l : List UInt8) : ∀ a, a ≤ valOf a l := by
  induction l with
  | nil => intro a; rw [val_nil]; exact Nat.le_refl _
  | cons b l ih => intro a; have := ih (a * 10 + (b.toNat - 48)); rw [val_cons]; omega
theorem dg_small {u : Nat} (h : u < 10) : Lib.decDigits u = [UInt8.ofNat (48 + u)] := by rw [Lib.decDigits, dif_pos h]
theorem dg_big {u : Nat} (h : ¬ u < 10) : Lib.decDigits u = Lib.decDigits (u / 10) ++ [UInt8.ofNat (48 + u % 10)] := by rw [Lib.decDigits, dif_neg h]
theorem of_nat (n : Nat) (h : n < 256) : (UInt8.ofNat n).toNat = n := by rw [UInt8.toNat_ofNat']; omega
theorem dg_val : ∀ n : Nat, valOf 0 (Lib.decDigits n) = n := by
  refine nat_strong (fun n ih => ?_)
  by_cases h : n < 10
  · rw [dg_small h]
    rw [val_cons, val_nil, of_nat _ (by omega)]; omega
  · rw [dg_big h, val_app, ih (n / 10) (by omega), of_nat _ (by omega)]; omega
theorem dg_dig : ∀ n : Nat, ∀ c ∈ Lib.decDigits n, isDig c := by
  refine nat_strong (fun n ih => ?_)
  intro c hc
  by_cases h : n < 10
  · rw [dg_small h] at hc
    obtain rfl := List.mem_singleton.mp hc
    unfold isDig; rw [of_nat _ (by omega)]; omega
  · rw [dg_big h] at hc
    rcases List.mem_append.mp hc with hc | hc
    · exact ih (n / 10) (by omega) c hc
    · obtain rfl := List.mem_singleton.mp hc
      unfold isDig; rw [of_nat _ (by omega)]; omega
theorem dg_ne : ∀ n : Nat, Lib.decDigits n ≠ [] := by
  intro n
  by_cases h : n < 10
  · rw [dg_small h]; simp
  · rw [dg_big h]; simp
theorem dg_head : ∀ n : Nat, 1 ≤ n → (Lib.decDigits n).head? ≠ some 48 := by
  refine nat_strong (fun n ih => ?_)
  intro hn
  by_cases h : n < 10
  · rw [dg_small h]
    intro e
    have e2 : UInt8.ofNat (48 + n) = 48 := Option.some.inj e
    have e3 := congrArg UInt8.toNat e2
    rw [of_nat _ (by omega)] at e3
    have : (48 : UInt8).toNat = 48 := rfl
    omega
  · rw [dg_big h, head_app _ _ (dg_ne _)]
    exact ih (n / 10) (by omega) (by omega)
theorem dg_short : ∀ (k n : Nat), n < 10 ^ (k + 1) → (Lib.decDigits n).length ≤ k + 1 := by
  intro k
  induction k with
  | zero => intro n h; rw [dg_small (by omega)]; simp
  | succ k ih =>
    intro n h
    by_cases h2 : n < 10
    · rw [dg_small h2]; simp
    · rw [dg_big h2]
      have := ih (n / 10) (by rw [Nat.pow_succ] at h; omega)
      simp; omega
/-- A numeral without a zero ahead, of one to six digits. -/
def Num (l : List UInt8) : Prop := 1 ≤ l.length ∧ l.length ≤ 6 ∧ (l.head? = some 48 → l.length ≤ 1) ∧ ∀ c ∈ l, isDig c
instance (l : List UInt8) : Decidable (Num l) := by unfold Num; infer_instance
def readM (l : List UInt8) : Option Nat := if Num l then some (valOf 0 l) else none
theorem dg_num (n : Nat) (h : n ≤ 999999) : Num (Lib.decDigits n) := by
  refine ⟨?_, dg_short 5 n (by omega), fun e => ?_, dg_dig n⟩
  · exact List.length_pos_iff.mpr (dg_ne n)
  · by_cases h0 : n = 0
    · subst h0; rw [dg_small (by omega)]; simp
    · exact absurd e (dg_head n (by omega))
theorem num_back : ∀ (k : Nat) (l : List UInt8), l.length = k → 1 ≤ l.length → (l.head? = some 48 → l.length ≤ 1) → (∀ c ∈ l, isDig c) → Lib.decDigits (valOf 0 l) = l := by
  intro k
  induction k with
  | zero => intro l h h1; omega
  | succ k ih =>
    intro l h h1 h2 h3
    have hne : l ≠ [] := by intro e; rw [e] at h1; simp at h1
    have hl : l.dropLast ++ [l.getLast hne] = l := List.dropLast_concat_getLast hne
    generalize l.dropLast = m at hl
    generalize l.getLast hne = c at hl
    subst hl
    have hc : isDig c := h3 c (by simp)
    unfold isDig at hc
    rw [val_app]
    by_cases hm : m = []
    · subst hm
      rw [List.nil_append, val_nil]
      rw [dg_small (by omega)]
      congr 1
      apply UInt8.toNat_inj.mp
      rw [of_nat _ (by omega)]; omega
    · have hml : 1 ≤ m.length := List.length_pos_iff.mpr hm
      have hh : m.head? ≠ some 48 := by
        intro e
        have := h2 (by rw [head_app _ _ hm]; exact e)
        rw [List.length_append, List.length_singleton] at this; omega
      have hv : 1 ≤ valOf 0 m := by
        cases m with
        | nil => exact absurd rfl hm
        | cons a r =>
          have ha : isDig a := h3 a (by simp)
          unfold isDig at ha
          have h48 : a.toNat ≠ 48 := fun e => hh (by
            have : a = 48 := UInt8.toNat_inj.mp e
            simp [this])
          have := val_ge r (0 * 10 + (a.toNat - 48))
          rw [val_cons]; omega
      rw [dg_big (by omega)]
      rw [show (valOf 0 m * 10 + (c.toNat - 48)) / 10 = valOf 0 m by omega, show (valOf 0 m * 10 + (c.toNat - 48)) % 10 = c.toNat - 48 by omega]
      rw [ih m (by simp at h; omega) hml (fun e => absurd e hh) (fun c hc => h3 c (by simp [hc]))]
      congr 2
      apply UInt8.toNat_inj.mp
      rw [of_nat _ (by omega)]; omega
theorem parse_ok : ∀ (l : List UInt8) (a : Nat), (∀ c ∈ l, isDig c) → (a + 1) * 10 ^ l.length ≤ 10000000 → Lib.parseUint10 a l = .ok (valOf a l) ∧ valOf a l < 10000000 := by
  intro l
  induction l with
  | nil => intro a _ h; simp at h; rw [val_nil]; exact ⟨rfl, by omega⟩
  | cons c r ih =>
    intro a hd h
    have hc : isDig c := hd c (by simp)
    unfold isDig at hc
    rw [List.length_cons, Nat.pow_succ] at h
    have h1 : 1 ≤ 10 ^ r.length := Nat.one_le_pow _ _ (by decide)
    have h2 : (a * 10 + (c.toNat - 48) + 1) * 10 ^ r.length ≤ ((a + 1) * 10) * 10 ^ r.length := Nat.mul_le_mul_right _ (by omega)
    have h3 : (a + 1) * (10 ^ r.length * 10) = ((a + 1) * 10) * 10 ^ r.length := by rw [Nat.mul_comm (10 ^ r.length) 10, Nat.mul_assoc]
    have h4 : (a + 1) * 10 * 1 ≤ ((a + 1) * 10) * 10 ^ r.length := Nat.mul_le_mul_left _ h1
    have := ih (a * 10 + (c.toNat - 48)) (fun c hc => hd c (by simp [hc])) (by omega)
    simp only [Lib.parseUint10, val_cons]
    rw [if_pos hc, if_neg (by omega), if_neg (by omega)]
    exact this
theorem val_lt (l : List UInt8) (h : Num l) : valOf 0 l ≤ 999999 := by
  by_cases hc : valOf 0 l ≤ 999999
  · exact hc
  · have hb : Lib.decDigits (valOf 0 l) = l := num_back _ l rfl h.1 h.2.2.1 h.2.2.2
    have : ∀ (k n : Nat), 10 ^ k ≤ n → k + 1 ≤ (Lib.decDigits n).length := by
      intro k
      induction k with
      | zero => intro n _; exact List.length_pos_iff.mpr (dg_ne n)
      | succ k ih =>
        intro n hn
        have h1 : 1 ≤ 10 ^ k := Nat.one_le_pow _ _ (by decide)
        rw [Nat.pow_succ] at hn
        rw [dg_big (by omega)]
        have := ih (n / 10) (by omega)
        simp; omega
    have h7 := this 6 (valOf 0 l) (by omega)
    rw [hb] at h7
    have := h.2.1
    omega
theorem atoi_num (l : List UInt8) (h : Num l) : Lib.atoiAll l = .ok (valOf 0 l : Int) := by
  obtain ⟨h1, h2, h3, h4⟩ := h
  cases l with
  | nil => simp at h1
  | cons c r =>
    have hc : isDig c := h4 c (by simp)
    unfold isDig at hc
    have hp : 10 ^ (c :: r).length ≤ 10 ^ 6 := Nat.pow_le_pow_right (by decide) h2
    have hq := parse_ok (c :: r) 0 h4 (by omega)
    unfold Lib.atoiAll
    simp only
    rw [if_neg (show ¬ (c.toNat = 43 ∨ c.toNat = 45) by omega)]
    unfold Lib.parseMag
    rw [if_neg (by simp), hq.1]
    simp only
    rw [if_neg (by omega), if_neg (by omega), if_neg (by omega)]
/-! ### texts in parts -/
def modHead (f : List UInt8 → List UInt8) : List (List UInt8) → List (List UInt8)
  | [] => []
  | h :: t => f h :: t
def splM : List UInt8 → List (List UInt8)
  | [] => [[]]
  | c :: l => if c = 44 then [] :: splM l else modHead (c :: ·) (splM l)
def spl (cur : List UInt8) : List UInt8 → List (List UInt8)
  | [] => [cur]
  | c :: l => if c = 44 then cur :: spl [] l else spl (cur ++ [c]) l
theorem splM_ne (l : List UInt8) : splM l ≠ [] := by
  induction l with
  | nil => simp [splM]
  | cons c l ih =>
    unfold splM; split
    · simp
    · cases h : splM l with
      | nil => exact absurd h ih
      | cons => simp [modHead]
theorem spl_eq (l : List UInt8) : ∀ cur, spl cur l = modHead (cur ++ ·) (splM l) := by
  induction l with
  | nil => intro cur; simp [spl, splM, modHead]
  | cons c l ih =>
    intro cur
    unfold spl splM
    split
    · rw [ih []]
      simp only [modHead, List.append_nil]
      congr 1
      cases splM l with
      | nil => rfl
      | cons h t => simp [modHead]
    · rw [ih]
      cases splM l with
      | nil => rfl
      | cons h t => simp [modHead]
theorem index_44 (l : List UInt8) : Lib.index (44 :: l) [44] = 0 := by unfold Lib.index; simp
theorem index_nil44 : Lib.index [] [44] = -1 := by unfold Lib.index; simp
theorem index_not (c : UInt8) (l : List UInt8) (h : c ≠ 44) : Lib.index (c :: l) [44] = if Lib.index l [44] = -1 then -1 else Lib.index l [44] + 1 := by
  conv => lhs; unfold Lib.index
  have : (List.isPrefixOf [(44 : UInt8)] (c :: l)) = false := by
    simp [List.isPrefixOf]; exact fun e => h e.symm
  rw [this]
  simp
theorem splitK_44 (k : Nat) (l : List UInt8) : Lib.splitK [44] 0 (k + 1) (44 :: l) = [] :: Lib.splitK [44] 0 k l := by
  rw [Lib.splitK, index_44]; simp
theorem splitK_not (c : UInt8) (h : c ≠ 44) (k : Nat) (l : List UInt8) : Lib.splitK [44] 0 k (c :: l) = modHead (c :: ·) (Lib.splitK [44] 0 k l) := by
  cases k with
  | zero => rfl
  | succ k =>
    have hge := Lib.index_ge l [44]
    simp only [Lib.splitK]
    rw [index_not c l h]
    by_cases hi : Lib.index l [44] = -1
    · rw [if_pos hi, hi]; simp [modHead]
    · rw [if_neg hi, if_neg (by simp; omega), if_neg (by simpa using hi)]
      obtain ⟨i, hi2⟩ : ∃ i : Nat, Lib.index l [44] = (i : Int) := ⟨(Lib.index l [44]).toNat, by omega⟩
      rw [hi2, show ((i : Int) + 1).toNat = i + 1 by omega, show ((i : Int)).toNat = i by omega]
      simp [modHead]
theorem count_nil44 : Lib.count [] [44] = 0 := Lib.count_miss index_nil44
theorem count_44 (l : List UInt8) : Lib.count (44 :: l) [44] = 1 + Lib.count l [44] := by
  have := Lib.count_hit (s := 44 :: l) (sub := [44]) (i := 0) (by simp) (by rw [index_44]; rfl)
  simpa using this
theorem count_not (c : UInt8) (l : List UInt8) (h : c ≠ 44) : Lib.count (c :: l) [44] = Lib.count l [44] := by
  have hge := Lib.index_ge l [44]
  by_cases hi : Lib.index l [44] = -1
  · rw [Lib.count_miss hi, Lib.count_miss (by rw [index_not c l h, if_pos hi])]
  · obtain ⟨i, hi2⟩ : ∃ i : Nat, Lib.index l [44] = (i : Int) := ⟨(Lib.index l [44]).toNat, by omega⟩
    rw [Lib.count_hit (s := l) (sub := [44]) (i := i) (by simp) hi2, Lib.count_hit (s := c :: l) (sub := [44]) (i := i + 1) (by simp) (by rw [index_not c l h, if_neg hi, hi2]; rfl)]
    simp
theorem split_M (l : List UInt8) : Lib.splitK [44] 0 (Lib.count l [44]) l = splM l := by
  induction l with
  | nil => rw [count_nil44]; rfl
  | cons c l ih =>
    unfold splM
    by_cases h : c = 44
    · subst h
      rw [if_pos rfl, count_44, Nat.add_comm, splitK_44, ih]
    · rw [if_neg h, count_not c l h, splitK_not c h, ih]
/-! ### what the two programs compute -/
def mkB (l : List UInt8) : ByteArray := ⟨l.toArray⟩
theorem mkB_of (s : ByteArray) : mkB s.data.toList = s := rfl
theorem size_len (s : ByteArray) : s.size = s.data.toList.length := by rw [Array.length_toList]; rfl
theorem bt_get (s : ByteArray) (i : Nat) (h : i < s.data.toList.length) : bt s (i : Int) = ((s.data.toList[i]).toNat : Int) := by
  have h2 : i < s.size := by rw [size_len]; exact h
  unfold bt
  rw [dif_pos (by rw [Int.toNat_natCast]; exact h2)]
  simp only [Int.toNat_natCast]
  rfl
theorem ext_data (s : ByteArray) (a b : Nat) (h : b ≤ s.size) : s.extract a b = mkB ((s.data.toList.take b).drop a) := by
  have e : (s.extract a b).data.toList = (s.data.toList.take b).drop a := by
    rw [ByteArray.data_extract, Array.toList_extract, List.drop_take]
  rw [← e]; rfl
theorem u8_ne (c : UInt8) : (c.toNat : Int) = 44 ↔ c = 44 := by
  constructor
  · intro h
    apply UInt8.toNat_inj.mp
    have : (44 : UInt8).toNat = 44 := rfl
    omega
  · rintro rfl; rfl
theorem spec_l1Split_loop (s : ByteArray) (hs : s.size ≤ 1048576) : ∀ (d i a : Nat) (x : List ByteArray), i + d = s.size → a ≤ i → x.length ≤ i →
    Ev (fun k => spec_l1Split.l0 k s 44 x (a : Int) (i : Int)) (x ++ (spl ((s.data.toList.take i).drop a) (s.data.toList.drop i)).map mkB) := by
  intro d
  induction d with
  | zero =>
    intro i a x h ha hx
    have hl := size_len s
    rw [show s.data.toList.drop i = [] from List.drop_eq_nil_of_le (by omega)]
    refine Ev.step (fun k => by simp only [spec_l1Split.l0]; rfl) ?_
    refine ev_neg (by omega) (ev_pos (by omega) (ev_pos (by omega) (ev_pos (by omega) (ev_some ?_))))
    rw [Int.toNat_natCast, ext_data s a s.size (Nat.le_refl _)]
    obtain rfl : i = s.size := by omega
    rfl
  | succ d ih =>
    intro i a x h ha hx
    have hl := size_len s
    have hlt : i < s.data.toList.length := by omega
    refine Ev.step (fun k => by simp only [spec_l1Split.l0]; rfl) ?_
    refine ev_pos (by omega) (ev_pos (by omega) ?_)
    rw [bt_get s i hlt, List.drop_eq_getElem_cons hlt]
    rw [wrap_succ (by omega)]
    refine ev_if (fun hc => ?_) (fun hc => ?_)
    · have hc := (u8_ne _).mp hc
      refine ev_pos (by omega) (ev_pos (by omega) (ev_pos (by omega) (ev_pos (by omega) ?_)))
      refine ev_to (ih (i + 1) (i + 1) _ (by omega) (Nat.le_refl _) (by simp; omega)) ?_
      rw [Int.toNat_natCast, Int.toNat_natCast, ext_data s a i (by omega)]
      conv => rhs; unfold spl
      rw [if_pos hc, List.drop_take]
      simp
    · have hc : ¬ s.data.toList[i] = 44 := fun e => hc ((u8_ne _).mpr e)
      refine ev_to (ih (i + 1) a x (by omega) (by omega) (by omega)) ?_
      conv => rhs; unfold spl
      rw [if_neg hc, List.take_succ_eq_append_getElem hlt, List.drop_append_of_le_length (by simp; omega)]
theorem spec_l1Split_ev (s : ByteArray) (hs : s.size ≤ 1048576) : Ev (fun k => spec_l1Split.f k s 44) ((splM s.data.toList).map mkB) := by
  unfold spec_l1Split.f
  refine ev_to (spec_l1Split_loop s hs s.size 0 0 [] (by omega) (Nat.le_refl _) (Nat.le_refl _)) ?_
  simp [spl_eq]
  cases splM s.data.toList with
  | nil => rfl
  | cons h t => simp [modHead]
theorem split_ev (s : ByteArray) (hs : s.size ≤ 1048576) : strings_Split.f s (⟨#[44]⟩ : ByteArray) = some ((splM s.data.toList).map mkB) := by
  unfold strings_Split.f
  rw [if_pos ⟨by omega, by decide⟩]
  have h := Lib.splitB_data (⟨#[44]⟩ : ByteArray) 0 (Lib.countB s ⟨#[44]⟩) s
  rw [show Lib.countB s ⟨#[44]⟩ = Lib.count s.data.toList [44] from rfl] at h ⊢
  rw [show (⟨#[44]⟩ : ByteArray).data.toList = [44] from rfl, split_M] at h
  rw [← h, List.map_map]
  congr 1
  exact (List.map_id _).symm
theorem spl_len (l : List UInt8) : (splM l).length ≤ l.length + 1 := by
  induction l with
  | nil => simp [splM]
  | cons c l ih =>
    unfold splM
    split
    · simp; omega
    · cases h : splM l with
      | nil => simp [modHead]
      | cons a t => rw [h] at ih; simp [modHead] at ih ⊢; omega
theorem spl_each (l : List UInt8) : ∀ p ∈ splM l, p.length ≤ l.length := by
  induction l with
  | nil => intro p hp; simp [splM] at hp; subst hp; simp
  | cons c l ih =>
    intro p hp
    unfold splM at hp
    split at hp
    · rcases List.mem_cons.mp hp with rfl | hp
      · simp
      · have := ih p hp; simp; omega
    · cases h : splM l with
      | nil => rw [h] at hp; simp [modHead] at hp
      | cons a t =>
        rw [h] at hp ih
        simp only [modHead] at hp
        rcases List.mem_cons.mp hp with rfl | hp
        · have := ih a (by simp); simp; omega
        · have := ih p (by simp [hp]); simp; omega
/-! one numeral -/
theorem spec_l1Read_loop (s : ByteArray) (hs : s.size ≤ 6) : ∀ (d i v : Nat), i + d = s.size → (v + 1) * 10 ^ d ≤ 10000000 →
    Ev (fun k => spec_l1Read.l0 k s (v : Int) (i : Int)) (if ∀ c ∈ s.data.toList.drop i, isDig c then (valOf v (s.data.toList.drop i) : Int) else -1) := by
  intro d
  induction d with
  | zero =>
    intro i v h hv
    have hl := size_len s
    rw [List.drop_eq_nil_of_le (by omega)]
    refine Ev.step (fun k => by simp only [spec_l1Read.l0]; rfl) ?_
    exact ev_neg (by omega) (ev_some (by simp [val_nil]))
  | succ d ih =>
    intro i v h hv
    have hl := size_len s
    have hlt : i < s.data.toList.length := by omega
    refine Ev.step (fun k => by simp only [spec_l1Read.l0]; rfl) ?_
    refine ev_pos (by omega) (ev_pos (by omega) ?_)
    rw [bt_get s i hlt, List.drop_eq_getElem_cons hlt]
    generalize hc : s.data.toList[i] = c
    refine ev_if (fun h1 => ev_some ?_) (fun h1 => ev_if (fun h2 => ev_some ?_) (fun h2 => ?_))
    · rw [if_neg (fun e => by have := e c (by simp); unfold isDig at this; omega)]
    · rw [if_neg (fun e => by have := e c (by simp); unfold isDig at this; omega)]
    · have hd : isDig c := by unfold isDig; omega
      unfold isDig at hd
      have h1 : 1 ≤ 10 ^ d := Nat.one_le_pow _ _ (by decide)
      rw [Nat.pow_succ] at hv
      have h3 : (v + 1) * (10 ^ d * 10) = ((v + 1) * 10) * 10 ^ d := by rw [Nat.mul_comm (10 ^ d) 10, Nat.mul_assoc]
      have h4 : (v + 1) * 10 * 1 ≤ ((v + 1) * 10) * 10 ^ d := Nat.mul_le_mul_left _ h1
      have h5 : (v * 10 + (c.toNat - 48) + 1) * 10 ^ d ≤ ((v + 1) * 10) * 10 ^ d := Nat.mul_le_mul_right _ (by omega)
      rw [wrap_succ (by omega)]
      rw [show wrap64 ((wrap64 (10 * (v : Int))) + ((((c.toNat : Int)) - 48) % 256)) = ((v * 10 + (c.toNat - 48) : Nat) : Int) from by
        rw [wrap_id (x := 10 * (v : Int)) (by omega), wrap_id (by omega)]; omega]
      refine ev_to (ih (i + 1) _ (by omega) (by omega)) ?_
      rw [val_cons]
      have hd2 : isDig c := hd
      simp [hd2]
theorem bt_head (c : UInt8) (r : List UInt8) : bt (mkB (c :: r)) 0 = (c.toNat : Int) := by
  have := bt_get (mkB (c :: r)) 0 (by simp [mkB])
  simpa [mkB] using this
theorem mkB_size (l : List UInt8) : (mkB l).size = l.length := by simp [mkB, ByteArray.size]
def readI (l : List UInt8) : Int := match readM l with | some v => (v : Int) | none => -1
theorem spec_l1Read_end (l : List UInt8) (h1 : 1 ≤ l.length) (h2 : l.length ≤ 6) (h3 : l.head? = some 48 → l.length ≤ 1) : Ev (fun k => spec_l1Read.l0 k (mkB l) 0 0) (readI l) := by
  have hp : 10 ^ l.length ≤ 10 ^ 6 := Nat.pow_le_pow_right (by decide) h2
  refine ev_to (spec_l1Read_loop (mkB l) (by rw [mkB_size]; omega) l.length 0 0 (by rw [mkB_size]; omega) (by omega)) ?_
  rw [show (mkB l).data.toList = l from by simp [mkB], List.drop_zero]
  unfold readI readM
  by_cases h : ∀ c ∈ l, isDig c
  · rw [if_pos h, if_pos (show Num l from ⟨h1, h2, h3, h⟩)]
  · rw [if_neg h, if_neg (show ¬ Num l from fun e => h e.2.2.2)]
theorem spec_l1Read_ev (l : List UInt8) (hl : l.length ≤ 1048576) : Ev (fun k => spec_l1Read.f k (mkB l)) (readI l) := by
  unfold spec_l1Read.f
  refine ev_plain (spec_l1In_eq _ _ _) ?_
  refine ev_if (fun h => ?_) (fun h => ?_)
  · have h := inB_iff.mp h
    rw [mkB_size] at h
    refine ev_pos (by rw [mkB_size]; omega) ?_
    cases l with
    | nil => simp at h
    | cons c r =>
      rw [bt_head]
      refine ev_if (fun h0 => ?_) (fun h0 => ?_)
      · have hc : c = 48 := by
          apply UInt8.toNat_inj.mp
          have : (48 : UInt8).toNat = 48 := rfl
          omega
        refine Ev.step (fun k => by simp only [spec_l1Read.j0]; rfl) ?_
        refine ev_if (fun h1 => ev_some ?_) (fun h1 => ?_)
        · have h1 := of_decide_eq_true h1
          rw [mkB_size] at h1
          unfold readI readM
          rw [if_neg (fun e : Num (c :: r) => by have := e.2.2.1 (by rw [hc]; rfl); omega)]
        · have h1 : ¬ (((mkB (c :: r)).size : Int) > 1) := fun e => h1 (decide_eq_true e)
          rw [mkB_size] at h1
          exact spec_l1Read_end (c :: r) (by omega) (by omega) (fun _ => by omega)
      · refine Ev.step (fun k => by simp only [spec_l1Read.j0]; rfl) ?_
        refine ev_neg (by simp) ?_
        refine spec_l1Read_end (c :: r) (by omega) (by omega) (fun e => absurd ?_ h0)
        have hc : c = 48 := Option.some.inj e
        rw [hc]; rfl
  · refine Ev.step (fun k => by simp only [spec_l1Read.j0]; rfl) ?_
    refine ev_pos trivial (ev_some ?_)
    unfold readI readM
    rw [if_neg (fun e : Num l => h (inB_iff.mpr (by rw [mkB_size]; exact ⟨by have := e.1; omega, by have := e.2.1; omega⟩)))]
def readP (l : List UInt8) : Int × Bool := match readM l with | some v => ((v : Int), true) | none => (0, false)
theorem impl_parseNumber_ev (l : List UInt8) (hl : l.length ≤ 1048576) : impl_parseNumber.f (mkB l) = some (readP l) := by
  unfold impl_parseNumber.f
  rw [if_pos (by rw [mkB_size]; omega)]
  have hd : (mkB l).data.toList = l := by simp [mkB]
  have ht : (mkB l).toList = l := ByteArray.toList_mk l
  by_cases h : Num l
  · have hv := val_lt l h
    have hn : Go.Proofs.YtmcedinafaiokaaDoor.Laid.num (mkB l) = some (valOf 0 l : Int) := by
      unfold Go.Proofs.YtmcedinafaiokaaDoor.Laid.num
      rw [hd, atoi_num l h]
    have hi : Lib.itoa (valOf 0 l : Int) = l := by
      unfold Lib.itoa
      rw [if_neg (by omega), Int.toNat_natCast]
      exact num_back _ l rfl h.1 h.2.2.1 h.2.2.2
    rw [hn]
    simp only
    rw [if_pos (by omega), hi, if_pos (by rw [ht]; exact ByteArray.toList_mk l)]
    unfold readP readM
    rw [if_pos h]
  · have hr : readP l = (0, false) := by unfold readP readM; rw [if_neg h]
    rw [hr]
    cases hn : Go.Proofs.YtmcedinafaiokaaDoor.Laid.num (mkB l) with
    | none => rfl
    | some v =>
      simp only
      by_cases hb : 0 ≤ v ∧ v ≤ 999999
      · rw [if_pos hb, if_neg]
        intro e
        rw [ht, ByteArray.toList_mk] at e
        unfold Lib.itoa at e
        rw [if_neg (by omega)] at e
        exact h (e ▸ dg_num v.toNat (by omega))
      · rw [if_neg hb]
theorem readM_le (l : List UInt8) (v : Nat) (h : readM l = some v) : v ≤ 999999 := by
  unfold readM at h
  split at h
  · rename_i hn
    obtain rfl := Option.some.inj h
    exact val_lt l hn
  · cases h
/-! all of them -/
def allM : List (List UInt8) → Option (List Int)
  | [] => some []
  | p :: ps => match readM p with
    | none => none
    | some v => (allM ps).map ((v : Int) :: ·)
theorem spec_coList_ev (x : List Int) (h : x.length ≤ 1048577) (hx : ∀ v ∈ x, 0 ≤ v ∧ v ≤ 999999) : Ev (fun k => spec_coList.f k x) (decide (x.length ≤ 1100)) := by
  unfold spec_coList.f
  refine ev_if (fun h1 => ?_) (fun h1 => ev_some (by rw [decide_eq_false (by omega)]))
  refine ev_call (spec_l1All_ev 0 999999 x (by omega)) (ev_some ?_)
  rw [decide_eq_true (by omega)]
  exact allB_iff.mpr hx
theorem rdOf_at (P : List (List UInt8)) (i : Nat) (h : i < P.length) : rdOf ByteArray.empty (P.map mkB) (i : Int) = mkB P[i] := by
  unfold rdOf
  rw [Int.toNat_natCast]
  simp [List.getD_eq_getElem?_getD, List.getElem?_eq_getElem h]
def specE (x : List Int) (o : Option (List Int)) : List Int × Bool := match o with | none => ([], false) | some ys => (x ++ ys, decide ((x ++ ys).length ≤ 1100))
def implE (x : List Int) (o : Option (List Int)) : List Int × Bool := match o with | none => ([], false) | some ys => if (x ++ ys).length ≤ 1100 then (x ++ ys, true) else ([], false)
theorem spec_coParse_loop (P : List (List UInt8)) (hP : P.length ≤ 1048577) (he : ∀ p ∈ P, p.length ≤ 1048576) : ∀ (d i : Nat) (x : List Int), i + d = P.length → x.length = i → (∀ v ∈ x, 0 ≤ v ∧ v ≤ 999999) →
    Ev (fun k => spec_coParse.l0 k x (P.map mkB) ((P.map mkB).length : Int) (i : Int)) (specE x (allM (P.drop i))) := by
  intro d
  induction d with
  | zero =>
    intro i x h hx hv
    rw [List.drop_eq_nil_of_le (by omega)]
    refine Ev.step (fun k => by simp only [spec_coParse.l0]; rfl) ?_
    refine ev_neg (by rw [List.length_map]; omega) ?_
    refine ev_call (spec_coList_ev x (by omega) hv) (ev_some ?_)
    simp [specE, allM]
  | succ d ih =>
    intro i x h hx hv
    have hlt : i < P.length := by omega
    refine Ev.step (fun k => by simp only [spec_coParse.l0]; rfl) ?_
    refine ev_pos (by rw [List.length_map]; omega) (ev_pos (by omega) (ev_pos (by rw [List.length_map]; omega) ?_))
    rw [rdOf_at P i hlt, List.drop_eq_getElem_cons hlt]
    generalize hp : P[i] = p
    have hpl : p.length ≤ 1048576 := he p (hp ▸ List.getElem_mem hlt)
    refine ev_call (spec_l1Read_ev p hpl) ?_
    unfold allM
    cases hr : readM p with
    | none =>
      rw [show readI p = -1 from by unfold readI; rw [hr]]
      exact ev_pos (by omega) (ev_some rfl)
    | some v =>
      have hv2 := readM_le p v hr
      rw [show readI p = (v : Int) from by unfold readI; rw [hr]]
      refine ev_neg (by omega) (ev_pos (by omega) ?_)
      rw [wrap_succ (by omega)]
      refine ev_to (ih (i + 1) _ (by omega) (by simp; omega) (fun u hu => ?_)) ?_
      · rcases List.mem_append.mp hu with hu | hu
        · exact hv u hu
        · obtain rfl := List.mem_singleton.mp hu; omega
      · simp only
        cases allM (P.drop (i + 1)) with
        | none => rfl
        | some ys => simp [specE]
theorem impl_ParseList_loop (P : List (List UInt8)) (hP : P.length ≤ 1048577) (he : ∀ p ∈ P, p.length ≤ 1048576) : ∀ (d i : Nat) (x : List Int), i + d = P.length → x.length = i → x.length ≤ 1100 →
    Ev (fun k => impl_ParseList.l0 k x (P.map mkB) ((P.map mkB).length : Int) (i : Int)) (implE x (allM (P.drop i))) := by
  intro d
  induction d with
  | zero =>
    intro i x h hx hv
    rw [List.drop_eq_nil_of_le (by omega)]
    refine Ev.step (fun k => by simp only [impl_ParseList.l0]; rfl) ?_
    refine ev_neg (by rw [List.length_map]; omega) (ev_some ?_)
    simp only [implE, allM, List.append_nil]
    rw [if_pos hv]
  | succ d ih =>
    intro i x h hx hv
    have hlt : i < P.length := by omega
    refine Ev.step (fun k => by simp only [impl_ParseList.l0]; rfl) ?_
    refine ev_pos (by rw [List.length_map]; omega) (ev_pos (by omega) (ev_pos (by rw [List.length_map]; omega) ?_))
    rw [rdOf_at P i hlt, List.drop_eq_getElem_cons hlt]
    generalize hp : P[i] = p
    have hpl : p.length ≤ 1048576 := he p (hp ▸ List.getElem_mem hlt)
    refine ev_plain (impl_parseNumber_ev p hpl) ?_
    unfold readP allM
    cases hr : readM p with
    | none => exact ev_neg (by simp) (ev_some rfl)
    | some v =>
      refine ev_pos rfl ?_
      refine ev_if (fun h1 => ev_some ?_) (fun h1 => ev_pos (by omega) ?_)
      · simp only
        cases allM (P.drop (i + 1)) with
        | none => rfl
        | some ys =>
          simp only [implE, Option.map_some]
          rw [if_neg (by simp; omega)]
      · rw [wrap_succ (by omega)]
        refine ev_to (ih (i + 1) _ (by omega) (by simp; omega) (by simp; omega)) ?_
        simp only
        cases allM (P.drop (i + 1)) with
        | none => rfl
        | some ys => simp [implE]
def ParseM (s : ByteArray) : List Int × Bool := if s.toList = [45] then ([], true) else implE [] (allM (splM s.data.toList))
theorem ParseM_len (s : ByteArray) : (ParseM s).1.length ≤ 1100 := by
  unfold ParseM implE
  split
  · simp
  · split
    · simp
    · split
      · assumption
      · simp
theorem parts_len (s : ByteArray) (hs : s.size ≤ 1048576) : (splM s.data.toList).length ≤ 1048577 ∧ ∀ p ∈ splM s.data.toList, p.length ≤ 1048576 := by
  have hl := size_len s
  refine ⟨by have := spl_len s.data.toList; omega, fun p hp => by have := spl_each s.data.toList p hp; omega⟩
theorem spec_ParseList_ev (s : ByteArray) (hs : s.size ≤ 1048576) : Ev (fun k => spec_ParseList.f k s) (ParseM s) := by
  unfold spec_ParseList.f
  by_cases h : s.toList = [45]
  · refine ev_call (a := (([] : List Int), true)) ?_ ?_
    · unfold spec_coParse.f
      exact ev_pos h (ev_some rfl)
    · refine ev_pos rfl (ev_some ?_)
      unfold ParseM
      rw [if_pos h]
  · refine ev_call (a := specE [] (allM (splM s.data.toList))) ?_ ?_
    · unfold spec_coParse.f
      refine ev_neg h (ev_call (spec_l1Split_ev s hs) ?_)
      exact spec_coParse_loop (splM s.data.toList) (parts_len s hs).1 (parts_len s hs).2 _ 0 [] (Nat.zero_add _) rfl (by simp)
    · unfold ParseM specE implE
      rw [if_neg h]
      cases allM (splM s.data.toList) with
      | none => exact ev_neg (by simp) (ev_some rfl)
      | some ys =>
        simp only [List.nil_append]
        by_cases hy : ys.length ≤ 1100
        · exact ev_pos (decide_eq_true hy) (ev_some (by rw [if_pos hy]))
        · exact ev_neg (by simpa using hy) (ev_some (by rw [if_neg hy]))
theorem impl_ParseList_ev (s : ByteArray) (hs : s.size ≤ 1048576) : Ev (fun k => impl_ParseList.f k s) (ParseM s) := by
  unfold impl_ParseList.f
  refine ev_plain rfl ?_
  refine ev_if (fun h => ev_some (by unfold ParseM; rw [if_pos h])) (fun h => ?_)
  refine ev_plain (split_ev s hs) ?_
  unfold ParseM
  rw [if_neg h]
  exact impl_ParseList_loop (splM s.data.toList) (parts_len s hs).1 (parts_len s hs).2 _ 0 [] (Nat.zero_add _) rfl (by simp)
theorem FnExactParseList : laws_FnExactParseList.Pure := by
  intro s hsz
  have h : Ev (fun k => laws_FnExactParseList.f k s) true := by
    unfold laws_FnExactParseList.f
    refine ev_if (fun _ => ev_some rfl) (fun hb => ?_)
    have hs : s.size ≤ 1048576 := by omega
    have hl := ParseM_len s
    refine ev_call (spec_ParseList_ev s hs) ?_
    refine ev_call (impl_ParseList_ev s hs) ?_
    refine ev_call (laws_eqIntS_ev _ (by omega)) ?_
    refine ev_pos rfl ?_
    refine Ev.step (fun k => by simp only [laws_FnExactParseList.j0]; rfl) ?_
    refine ev_neg (bne_no _) ?_
    refine ev_call (laws_markIntS_ev _ _ (by omega) (by omega) (by omega)) ?_
    dsimp only
    refine ev_call (laws_heldIntS_ev _ _ (by omega) (by omega) (by omega)) ?_
    refine ev_neg (by omega) (ev_pos rfl ?_)
    refine ev_call (impl_ParseList_ev s hs) ?_
    refine ev_call (laws_eqIntS_ev _ (by omega)) ?_
    refine ev_pos rfl ?_
    refine Ev.step (fun k => by simp only [laws_FnExactParseList.j1]; rfl) ?_
    refine ev_neg (bne_no _) ?_
    refine ev_call (laws_heldIntS_ev _ _ (by omega) (by omega) (by omega)) ?_
    exact ev_neg (by omega) (ev_pos rfl (ev_some rfl))
  obtain ⟨k, hk⟩ := h
  exact ⟨k, hk k (Nat.le_refl _)⟩

end Go.Proofs.YtmcedinafaiokaaDoor.Pure
