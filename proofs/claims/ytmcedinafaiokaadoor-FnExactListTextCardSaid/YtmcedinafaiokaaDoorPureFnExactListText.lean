/- The pure statement of ListText: program and reference answer alike, for all arguments; no condition. -/
import Derived.Test.YtmcedinafaiokaaDoorPFnExactListTextx2
import Derived.Test.YtmcedinafaiokaaDoorBase
import Derived.Test.YtmcedinafaiokaaDoorLists
import Derived.Test.YtmcedinafaiokaaDoorLaid
namespace Go.Proofs.YtmcedinafaiokaaDoor.Pure
open Go.RowKit Go.Proofs.YtmcedinafaiokaaDoor.PFnExactListText Go.Proofs.YtmcedinafaiokaaDoorW.PrintWords Go.Proofs.YtmcedinafaiokaaDoorW.PrintLast Go.Proofs.YtmcedinafaiokaaDoor.Base
set_option maxRecDepth 10000
set_option linter.unusedVariables false
set_option linter.unusedSimpArgs false

theorem impl_within_eq (a lo hi : Int) : impl_within.f a lo hi = some (inB a lo hi) := by
  unfold impl_within.f inB
  by_cases h : a ≥ lo
  · rw [if_pos h]; simp [h]
  · rw [if_neg h]; simp [show ¬ lo ≤ a from h]

theorem impl_allWithin_loop (lo hi : Int) (xs : List Int) (hx : xs.length ≤ 1000000000000) : ∀ (d i : Nat), i + d = xs.length →
    Ev (fun k => impl_allWithin.l0 k lo hi xs (xs.length : Int) (i : Int)) (allB (xs.drop i) lo hi) := by
  intro d
  induction d with
  | zero =>
    intro i h
    rw [List.drop_eq_nil_of_le (by omega)]
    refine Ev.step (f := fun _ => some true) (fun k => ?_) (Ev.now _)
    simp only [impl_allWithin.l0]; rw [if_neg (by omega)]
  | succ d ih =>
    intro i h
    have hlt : i < xs.length := by omega
    rw [drop_rd xs i hlt]
    refine Ev.step (f := fun k => if inB (rd xs (i : Int)) lo hi = true then impl_allWithin.l0 k lo hi xs (xs.length : Int) ((i + 1 : Nat) : Int) else some false) (fun k => ?_) ?_
    · simp only [impl_allWithin.l0]; rw [if_pos (by omega), if_pos (by omega), if_pos (by omega), impl_within_eq, wrap_succ (by omega)]; rfl
    · by_cases hb : inB (rd xs (i : Int)) lo hi = true
      · exact ev_pos hb (ev_to (ih (i + 1) (by omega)) (by simp [allB, hb]))
      · exact ev_neg hb (ev_some (by simp [allB, Bool.eq_false_iff.mpr hb]))
theorem impl_allWithin_ev (lo hi : Int) (xs : List Int) (hx : xs.length ≤ 1000000000000) : Ev (fun k => impl_allWithin.f k xs lo hi) (allB xs lo hi) :=
  impl_allWithin_loop lo hi xs hx xs.length 0 (by omega)

theorem spec_l1In_eq (a lo hi : Int) : spec_l1In.f a lo hi = some (inB a lo hi) := by
  unfold spec_l1In.f inB
  by_cases h : a ≥ lo
  · rw [if_pos h]; simp [h]
  · rw [if_neg h]; simp [show ¬ lo ≤ a from h]

theorem spec_l1All_loop (lo hi : Int) (xs : List Int) (hx : xs.length ≤ 1000000000000) : ∀ (d i : Nat), i + d = xs.length →
    Ev (fun k => spec_l1All.l0 k lo hi xs (xs.length : Int) (i : Int)) (allB (xs.drop i) lo hi) := by
  intro d
  induction d with
  | zero =>
    intro i h
    rw [List.drop_eq_nil_of_le (by omega)]
    refine Ev.step (f := fun _ => some true) (fun k => ?_) (Ev.now _)
    simp only [spec_l1All.l0]; rw [if_neg (by omega)]
  | succ d ih =>
    intro i h
    have hlt : i < xs.length := by omega
    rw [drop_rd xs i hlt]
    refine Ev.step (f := fun k => if inB (rd xs (i : Int)) lo hi = true then spec_l1All.l0 k lo hi xs (xs.length : Int) ((i + 1 : Nat) : Int) else some false) (fun k => ?_) ?_
    · simp only [spec_l1All.l0]; rw [if_pos (by omega), if_pos (by omega), if_pos (by omega), spec_l1In_eq, wrap_succ (by omega)]; rfl
    · by_cases hb : inB (rd xs (i : Int)) lo hi = true
      · exact ev_pos hb (ev_to (ih (i + 1) (by omega)) (by simp [allB, hb]))
      · exact ev_neg hb (ev_some (by simp [allB, Bool.eq_false_iff.mpr hb]))
theorem spec_l1All_ev (lo hi : Int) (xs : List Int) (hx : xs.length ≤ 1000000000000) : Ev (fun k => spec_l1All.f k xs lo hi) (allB xs lo hi) :=
  spec_l1All_loop lo hi xs hx xs.length 0 (by omega)

theorem laws_toIntS_loop (l : List Int) (hl : l.length ≤ 35184372088832) : ∀ (d i : Nat) (ys : List Int), i + d = l.length → ys.length = l.length → ys.take i = l.take i →
    Ev (fun k => laws_toIntS.l0 k l ys (i : Int)) l := by
  intro d
  induction d with
  | zero =>
    intro i ys h1 h2 h3
    refine Ev.step (f := fun _ => some ys) (fun k => ?_) (ev_some ?_)
    · simp only [laws_toIntS.l0]; rw [if_neg (by omega)]
    · rw [List.take_of_length_le (by omega), List.take_of_length_le (by omega)] at h3
      exact h3
  | succ d ih =>
    intro i ys h1 h2 h3
    have hi : i < l.length := by omega
    refine Ev.step (f := fun k => laws_toIntS.l0 k l (ys.set i (rd l (i : Int))) ((i + 1 : Nat) : Int)) (fun k => ?_) (ih (i + 1) _ (by omega) (by simp [h2]) ?_)
    · simp only [laws_toIntS.l0]; rw [if_pos (by omega), if_pos (by omega), if_pos (by omega), wrap_succ (by omega), Int.toNat_natCast]
    · rw [take_rd l i hi, List.take_succ_eq_append_getElem (by simp; omega)]
      rw [List.take_set, h3, List.set_eq_of_length_le (by simp; omega)]; simp
theorem laws_toIntS_ev (l : List Int) (hl : l.length ≤ 35184372088832) : Ev (fun k => laws_toIntS.f k l) l := by
  unfold laws_toIntS.f
  refine ev_pos (by omega) (ev_pos (by omega) ?_)
  exact laws_toIntS_loop l hl l.length 0 _ (by omega) (by simp) rfl

theorem laws_eqIntS_loop (l : List Int) (hl : l.length ≤ 35184372088832) : ∀ (d i : Nat), i + d = l.length → Ev (fun k => laws_eqIntS.l0 k l l (i : Int)) true := by
  intro d
  induction d with
  | zero =>
    intro i h
    refine Ev.step (f := fun _ => some true) (fun k => ?_) (Ev.now _)
    simp only [laws_eqIntS.l0]; rw [if_neg (by omega)]
  | succ d ih =>
    intro i h
    refine Ev.step (f := fun k => laws_eqIntS.l0 k l l ((i + 1 : Nat) : Int)) (fun k => ?_) (ih (i + 1) (by omega))
    simp only [laws_eqIntS.l0]; rw [if_pos (by omega), if_pos (by omega), if_pos (by omega), if_pos trivial, wrap_succ (by omega)]
theorem laws_eqIntS_ev (l : List Int) (hl : l.length ≤ 35184372088832) : Ev (fun k => laws_eqIntS.f k l l) true := by
  unfold laws_eqIntS.f
  exact ev_pos rfl (laws_eqIntS_loop l hl l.length 0 (by omega))

/-! ### texts as lists of bytes -/
def mkB (l : List UInt8) : ByteArray := ⟨l.toArray⟩
theorem mkB_app (a b : List UInt8) : mkB a ++ mkB b = mkB (a ++ b) := by
  have h : (mkB a ++ mkB b).data = (mkB (a ++ b)).data := by simp [mkB, ByteArray.data_append]
  calc mkB a ++ mkB b = ⟨(mkB a ++ mkB b).data⟩ := rfl
    _ = ⟨(mkB (a ++ b)).data⟩ := by rw [h]
    _ = mkB (a ++ b) := rfl
theorem mkB_size (a : List UInt8) : (mkB a).size = a.length := by simp [mkB, ByteArray.size]
theorem mkB_list (a : List UInt8) : (mkB a).toList = a := ByteArray.toList_mk a
theorem mkB_data (a : List UInt8) : (mkB a).data.toList = a := by simp [mkB]
theorem nums_one (n : Nat) (h : n < 256) : strOfNums ([(n : Int)]) = mkB [UInt8.ofNat n] := rfl
theorem dig_small {u : Nat} (h : u < 10) : Lib.decDigits u = [UInt8.ofNat (48 + u)] := by rw [Lib.decDigits, dif_pos h]
theorem dig_big {u : Nat} (h : ¬ u < 10) : Lib.decDigits u = Lib.decDigits (u / 10) ++ [UInt8.ofNat (48 + u % 10)] := by rw [Lib.decDigits, dif_neg h]
theorem dig_len : ∀ (n : Nat), (Lib.decDigits n).length ≤ n + 1 := by
  refine nat_strong (fun n ih => ?_)
  by_cases h : n < 10
  · rw [dig_small h]; simp
  · rw [dig_big h]
    have := ih (n / 10) (by omega)
    simp; omega
theorem dig_pos : ∀ (n : Nat), Lib.decDigits n ≠ [] := by
  intro n
  by_cases h : n < 10
  · rw [dig_small h]; simp
  · rw [dig_big h]; simp
theorem spec_l1Num_ev : ∀ (n : Nat), n ≤ 1000000 → Ev (fun k => spec_l1Num.f k (n : Int)) (mkB (Lib.decDigits n)) := by
  refine nat_strong (fun n ih => ?_)
  intro hn
  refine Ev.step (fun k => by simp only [spec_l1Num.f]; rfl) ?_
  by_cases h : n < 10
  · refine ev_pos (by omega) (ev_some ?_)
    rw [dig_small h, ← nums_one (48 + n) (by omega)]
    congr 2
    unfold wrap64; omega
  · refine ev_neg (by omega) ?_
    have hq : wrap64 (Int.tdiv (n : Int) 10) = ((n / 10 : Nat) : Int) := by
      rw [show Int.tdiv (n : Int) 10 = ((n / 10 : Nat) : Int) from (Int.ofNat_tdiv n 10).symm, wrap_id (by omega)]
    rw [hq]
    refine ev_call (ih (n / 10) (by omega) (by omega)) ?_
    have hr : (wrap64 (48 + (Int.tmod (n : Int) 10))) % 256 = ((48 + n % 10 : Nat) : Int) := by
      rw [show Int.tmod (n : Int) 10 = ((n % 10 : Nat) : Int) from tmod_nat n 10]; unfold wrap64; omega
    rw [hr]
    refine ev_plain rfl ?_
    rw [nums_one _ (by omega)]
    have hl := dig_len (n / 10)
    refine ev_pos ?_ (ev_some ?_)
    · rw [mkB_size, mkB_size]; simp; omega
    · rw [mkB_app, ← dig_big h]
/-- The numerals of a list, one behind the other with a sign between. -/
def digs (l : List Int) : List (List UInt8) := l.map fun x => Lib.decDigits x.toNat
def textM (l : List Int) : List UInt8 := if l = [] then [45] else Lib.join (digs l) [44]
theorem joinTail_cons (x : List UInt8) (r : List (List UInt8)) : Lib.joinTail [44] (x :: r) = [44] ++ x ++ Lib.joinTail [44] r := by simp [Lib.joinTail]
theorem tail_len (l : List Int) (hx : ∀ x ∈ l, 0 ≤ x ∧ x ≤ 999999) : (Lib.joinTail [44] (digs l)).length ≤ 1000001 * l.length := by
  induction l with
  | nil => simp [digs, Lib.joinTail]
  | cons a l ih =>
    have h1 := ih (fun x h => hx x (by simp [h]))
    have h2 := hx a (by simp)
    have h3 := dig_len a.toNat
    have e : digs (a :: l) = Lib.decDigits a.toNat :: digs l := rfl
    rw [e, joinTail_cons]
    simp only [List.length_append, List.length_cons, List.length_nil]
    omega
theorem join_len (l : List Int) (hx : ∀ x ∈ l, 0 ≤ x ∧ x ≤ 999999) : (Lib.join (digs l) [44]).length ≤ 1000001 * l.length := by
  cases l with
  | nil => simp [digs, Lib.join_nil]
  | cons a l =>
    have e : digs (a :: l) = Lib.decDigits a.toNat :: digs l := rfl
    rw [e, Lib.join_cons]
    have h1 := tail_len l (fun x h => hx x (by simp [h]))
    have h2 := hx a (by simp)
    have h3 := dig_len a.toNat
    simp only [List.length_append, List.length_cons]
    omega
theorem rd_mem (l : List Int) (i : Nat) (h : i < l.length) : rd l (i : Int) ∈ l := by rw [rd_get l i h]; exact List.getElem_mem h
theorem spec_coText_loop (l : List Int) (hl : l.length ≤ 1100) (hx : ∀ x ∈ l, 0 ≤ x ∧ x ≤ 999999) : ∀ (d i : Nat) (s : List UInt8), i + d = l.length → 0 < i → s ≠ [] → s.length ≤ 1000001 * i →
    Ev (fun k => spec_coText.l0 k (mkB s) l (l.length : Int) (i : Int)) (mkB (s ++ Lib.joinTail [44] (digs (l.drop i)))) := by
  intro d
  induction d with
  | zero =>
    intro i s h hi hs hb
    rw [List.drop_eq_nil_of_le (by omega)]
    refine Ev.step (fun k => by simp only [spec_coText.l0]; rfl) ?_
    refine ev_neg (by omega) ?_
    refine ev_neg (by rw [mkB_list]; exact hs) (ev_some ?_)
    simp [digs, Lib.joinTail]
  | succ d ih =>
    intro i s h hi hs hb
    have hlt : i < l.length := by omega
    refine Ev.step (fun k => by simp only [spec_coText.l0]; rfl) ?_
    refine ev_pos (by omega) (ev_pos (by omega) (ev_pos (by omega) (ev_pos (by omega) ?_)))
    refine ev_pos (by rw [mkB_size]; omega) ?_
    have hr := hx _ (rd_mem l i hlt)
    obtain ⟨n, hn⟩ : ∃ n : Nat, rd l (i : Int) = (n : Int) := ⟨(rd l (i : Int)).toNat, by omega⟩
    have hn2 : n ≤ 999999 := by omega
    have hd := dig_len n
    rw [hn]
    refine ev_call (spec_l1Num_ev n (by omega)) ?_
    rw [show (⟨#[44]⟩ : ByteArray) = mkB [44] from rfl]
    simp only [mkB_app]
    refine ev_pos (by rw [mkB_size, mkB_size]; simp; omega) ?_
    rw [wrap_succ (by omega)]
    refine ev_to (ih (i + 1) _ (by omega) (by omega) (by simp) (by simp; omega)) ?_
    rw [drop_rd l i hlt, hn]
    have e : digs ((n : Int) :: l.drop (i + 1)) = Lib.decDigits n :: digs (l.drop (i + 1)) := rfl
    rw [e, joinTail_cons]
    simp
theorem spec_coText_ev (l : List Int) (hl : l.length ≤ 1100) (hx : ∀ x ∈ l, 0 ≤ x ∧ x ≤ 999999) : Ev (fun k => spec_coText.f k l) (mkB (textM l)) := by
  unfold spec_coText.f
  rw [show (⟨#[]⟩ : ByteArray) = mkB [] from rfl]
  cases l with
  | nil =>
    refine Ev.step (fun k => by simp only [spec_coText.l0]; rfl) ?_
    refine ev_neg (by simp) ?_
    exact ev_pos (by rw [mkB_list]) (ev_some rfl)
  | cons a l =>
    refine Ev.step (fun k => by simp only [spec_coText.l0]; rfl) ?_
    have h2 := hx a (by simp)
    obtain ⟨n, hn⟩ : ∃ n : Nat, a = (n : Int) := ⟨a.toNat, by omega⟩
    subst hn
    have hd := dig_len n
    refine ev_pos (by simp) (ev_pos (by omega) (ev_pos (by simp) (ev_neg (by omega) ?_)))
    have hr : rd ((n : Int) :: l) 0 = (n : Int) := rfl
    rw [hr]
    refine ev_call (spec_l1Num_ev n (by omega)) ?_
    refine ev_pos (by rw [mkB_size, mkB_size]; simp; omega) ?_
    rw [mkB_app, List.nil_append, show wrap64 (0 + 1) = ((1 : Nat) : Int) from by unfold wrap64; omega]
    refine ev_to (spec_coText_loop ((n : Int) :: l) hl hx l.length 1 _ (by simp; omega) (by omega) (by simpa using dig_pos n) (by simp; omega)) ?_
    unfold textM
    rw [if_neg (by simp)]
    have e : digs ((n : Int) :: l) = Lib.decDigits n :: digs l := rfl
    rw [e, Lib.join_cons]
    rfl
theorem impl_listText_loop (l : List Int) (hl : l.length ≤ 1100) (hx : ∀ x ∈ l, 0 ≤ x ∧ x ≤ 999999) : ∀ (d i : Nat) (s : List ByteArray), i + d = l.length → s.map (·.data.toList) = digs (l.take i) → s.length = i →
    Ev (fun k => impl_listText.l0 k s l (l.length : Int) (i : Int)) (mkB (textM l)) := by
  intro d
  induction d with
  | zero =>
    intro i s h hs hi
    rw [List.take_of_length_le (by omega)] at hs
    refine Ev.step (fun k => by simp only [impl_listText.l0]; rfl) ?_
    refine ev_neg (by omega) ?_
    unfold textM
    by_cases h0 : l = []
    · subst h0
      rw [if_pos rfl]
      exact ev_pos (by simp at h; omega) (ev_some rfl)
    · rw [if_neg h0]
      have : l.length ≠ 0 := by simpa using h0
      refine ev_neg (by omega) ?_
      have hj := join_len l hx
      refine ev_plain (a := mkB (Lib.join (digs l) [44])) ?_ (ev_some rfl)
      unfold strings_Join.f
      rw [hs, if_pos ⟨by omega, by show (Lib.join (digs l) [44]).length ≤ _; omega⟩]
      rfl
  | succ d ih =>
    intro i s h hs hi
    have hlt : i < l.length := by omega
    refine Ev.step (fun k => by simp only [impl_listText.l0]; rfl) ?_
    refine ev_pos (by omega) (ev_pos (by omega) (ev_pos (by omega) ?_))
    have hr := hx _ (rd_mem l i hlt)
    refine ev_plain (a := mkB (Lib.decDigits (rd l (i : Int)).toNat)) ?_ ?_
    · unfold strconv_Itoa.f
      rw [if_pos (by omega)]
      unfold Lib.itoa
      rw [if_neg (by omega)]
      rfl
    · refine ev_pos (by omega) ?_
      rw [wrap_succ (by omega)]
      refine ih (i + 1) _ (by omega) ?_ (by simp; omega)
      rw [take_rd l i hlt, List.map_append, hs]
      simp [digs, mkB_data]
theorem impl_listText_ev (l : List Int) (hl : l.length ≤ 1100) (hx : ∀ x ∈ l, 0 ≤ x ∧ x ≤ 999999) : Ev (fun k => impl_listText.f k l) (mkB (textM l)) :=
  impl_listText_loop l hl hx l.length 0 [] (by omega) (by simp [digs]) rfl
def ListTextM (l : List Int) : ByteArray × Bool := if l.length ≤ 1100 ∧ allB l 0 999999 = true then (mkB (textM l), true) else (⟨#[]⟩, false)
theorem spec_ListText_ev (l : List Int) (hl : l.length ≤ 1000000000000) : Ev (fun k => spec_ListText.f k l) (ListTextM l) := by
  unfold spec_ListText.f spec_coList.f ListTextM
  by_cases h : l.length ≤ 1100
  · refine ev_call (a := allB l 0 999999) (ev_pos (by omega) (ev_call (spec_l1All_ev 0 999999 l hl) (ev_some rfl))) ?_
    refine ev_if (fun h2 => ?_) (fun h2 => ev_some (by rw [if_neg (fun c => h2 c.2)]))
    rw [if_pos ⟨h, h2⟩]
    exact ev_call (spec_coText_ev l h (allB_iff.mp h2)) (ev_some rfl)
  · refine ev_call (a := false) (ev_neg (by omega) (ev_some rfl)) ?_
    exact ev_neg (by simp) (ev_some (by rw [if_neg (fun c => h c.1)]))
theorem impl_ListText_ev (l : List Int) (hl : l.length ≤ 1000000000000) : Ev (fun k => impl_ListText.f k l) (ListTextM l) := by
  unfold impl_ListText.f ListTextM
  refine ev_if (fun h => ev_some (by rw [if_neg (fun c => by omega)])) (fun h => ?_)
  have h : l.length ≤ 1100 := by omega
  refine ev_call (impl_allWithin_ev 0 999999 l hl) ?_
  refine ev_if (fun h2 => ?_) (fun h2 => ev_some (by rw [if_neg (fun c => h2 c.2)]))
  rw [if_pos ⟨h, h2⟩]
  exact ev_call (impl_listText_ev l h (allB_iff.mp h2)) (ev_some rfl)
theorem FnExactListText : laws_FnExactListText.Pure := by
  intro l hmax hlen hwf
  have h : Ev (fun k => laws_FnExactListText.f k l) true := by
    unfold laws_FnExactListText.f
    refine ev_if (fun _ => ev_some rfl) (fun hb => ?_)
    refine ev_call (laws_toIntS_ev l (by omega)) ?_
    refine ev_call (spec_ListText_ev l (by omega)) ?_
    refine ev_call (laws_toIntS_ev l (by omega)) ?_
    refine ev_call (impl_ListText_ev l (by omega)) ?_
    refine ev_pos rfl ?_
    refine Ev.step (fun k => by simp only [laws_FnExactListText.j0]; rfl) ?_
    refine ev_neg (bne_no _) ?_
    refine ev_call (laws_toIntS_ev l (by omega)) ?_
    refine ev_call (laws_eqIntS_ev l (by omega)) ?_
    exact ev_pos rfl (ev_some rfl)
  obtain ⟨k, hk⟩ := h
  exact ⟨k, hk k (Nat.le_refl _)⟩

end Go.Proofs.YtmcedinafaiokaaDoor.Pure
