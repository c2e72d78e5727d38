/- The pure statement of WordsAreRead: a word is read back from its text, and next Lyndon words are the same on both sides, at all draws; no condition. -/
import Derived.Test.YtfbafdlgnjkioaaPFnWordsAreReadx8
import Derived.Test.YtfbafdlgnjkioaaBase
import Derived.Test.YtfbafdlgnjkioaaLists
namespace Go.Proofs.Ytfbafdlgnjkioaa.Pure
open Go.RowKit Go.Proofs.Ytfbafdlgnjkioaa.PFnWordsAreRead Go.Proofs.YtfbafdlgnjkioaaW.PrintWords Go.Proofs.YtfbafdlgnjkioaaW.PrintLast Go.Proofs.Ytfbafdlgnjkioaa.Base
set_option maxRecDepth 10000
set_option linter.unusedVariables false
set_option linter.unusedSimpArgs false

def bytesL (d : List Int) : Prop := ∀ x ∈ d, 0 ≤ x ∧ x ≤ 255
theorem and255 (x : Int) : 0 ≤ Go.bits .and .u64 x 255 ∧ Go.bits .and .u64 x 255 ≤ 255 := by
  have h : ((BitVec.ofInt 64 x) &&& (BitVec.ofInt 64 255)).toNat ≤ 255 := by
    rw [BitVec.toNat_and]; exact Nat.le_trans Nat.and_le_right (by decide)
  have e : Go.bits .and .u64 x 255 = IntKind.u64.wrap (((BitVec.ofInt 64 x) &&& (BitVec.ofInt 64 255)).toNat : Int) := rfl
  rw [e]
  generalize ((BitVec.ofInt 64 x) &&& (BitVec.ofInt 64 255)).toNat = m at h
  simp only [IntKind.wrap, IntKind.signed, IntKind.bits, Bool.false_and, Bool.false_eq_true, if_false]
  omega
theorem bytes_wf {d : List Int} (h : ∀ x ∈ d, (Lit.int .u8 x).wf = true) : bytesL d := by
  intro x hx
  have h := h x hx
  simp only [Lit.wf, IntKind.min, IntKind.max, IntKind.signed, IntKind.bits, Bool.and_eq_true, decide_eq_true_eq, Bool.false_eq_true, if_false] at h
  omega
theorem next_ok {d : List Int} (hd : bytesL d) {a : Int} (s : Int) (h0 : 0 ≤ a) (h1 : a ≤ 1000000000001000) : ∃ v s', spec_l1Cur_next.f d a s = some (v, a + 1, s') ∧ 0 ≤ v ∧ v ≤ 255 := by
  unfold spec_l1Cur_next.f
  rw [wrap_id (x := a + 1) (by omega)]
  by_cases ha : a < (d.length : Int)
  · rw [if_pos ha, if_pos h0, if_pos (by omega)]
    have hb : 0 ≤ rd d a ∧ rd d a ≤ 255 := by
      obtain ⟨j, rfl⟩ := Int.eq_ofNat_of_zero_le h0
      exact hd _ (by rw [show rd d ((j : Nat) : Int) = d[j]'(by omega) from rd_get d j (by omega)]; exact List.getElem_mem _)
    exact ⟨_, _, rfl, by rw [wrap_id (by omega)]; exact hb.1, by rw [wrap_id (by omega)]; exact hb.2⟩
  · rw [if_neg ha]
    by_cases hb : a + 1 ≤ (d.length : Int)
    · omega
    · rw [if_neg hb]
      have h := and255 ((IntKind.u64.wrap ((IntKind.u64.wrap ((IntKind.u64.wrap (s * 6364136223846793005)))) + 1442695040888963407)) / 1099511627776)
      exact ⟨_, _, rfl, by rw [wrap_id (by omega)]; exact h.1, by rw [wrap_id (by omega)]; exact h.2⟩
theorem tmod_lt {x n : Int} (h0 : 0 ≤ x) (hn : 1 ≤ n) : 0 ≤ Int.tmod x n ∧ Int.tmod x n < n := by
  obtain ⟨p, rfl⟩ := Int.eq_ofNat_of_zero_le h0
  obtain ⟨q, rfl⟩ := Int.eq_ofNat_of_zero_le (show 0 ≤ n by omega)
  rw [show ((p : Nat) : Int).tmod ((q : Nat) : Int) = ((p % q : Nat) : Int) from tmod_nat p q]
  have := Nat.mod_lt p (show 0 < q by omega)
  omega
theorem pick_ok {d : List Int} (hd : bytesL d) {a : Int} (s n : Int) (h0 : 0 ≤ a) (h1 : a ≤ 1000000000000000) : ∃ v a' s', spec_l1Cur_pick.f d a s n = some (v, a', s') ∧ (0 ≤ v ∧ (v < n ∨ (n ≤ 1 ∧ v = 0))) ∧ (a ≤ a' ∧ a' ≤ a + 2) := by
  unfold spec_l1Cur_pick.f
  by_cases hn : n ≤ 1
  · rw [if_pos hn]
    exact ⟨0, a, s, rfl, ⟨by omega, .inr ⟨hn, rfl⟩⟩, by omega⟩
  · rw [if_neg hn]
    obtain ⟨v, s1, e1, hv⟩ := next_ok hd s h0 (by omega)
    rw [e1, Option.bind_some]
    dsimp only
    by_cases h2 : n > 200
    · rw [if_pos h2]
      obtain ⟨u, s2, e2, hu⟩ := next_ok hd (a := a + 1) s1 (by omega) (by omega)
      rw [e2, Option.bind_some]
      dsimp only
      rw [if_neg (by omega), wrap_id (x := v * 256) (by omega), wrap_id (x := v * 256 + u) (by omega)]
      have := tmod_lt (x := v * 256 + u) (n := n) (by omega) (by omega)
      exact ⟨_, _, _, rfl, ⟨this.1, .inl this.2⟩, by omega⟩
    · rw [if_neg h2, if_neg (by omega)]
      have := tmod_lt (x := v) (n := n) (by omega) (by omega)
      exact ⟨_, _, _, rfl, ⟨this.1, .inl this.2⟩, by omega⟩

theorem among_ok {d : List Int} (hd : bytesL d) {a : Int} (s : Int) (l : List Int) (hl : 1 ≤ l.length) (h0 : 0 ≤ a) (h1 : a ≤ 1000000000000000) : ∃ v a' s', spec_l1Cur_among.f d a s l = some (v, a', s') ∧ v ∈ l ∧ (a ≤ a' ∧ a' ≤ a + 2) := by
  obtain ⟨v, a', s', e, hv, h⟩ := pick_ok hd s (l.length : Int) h0 h1
  unfold spec_l1Cur_among.f
  rw [e, Option.bind_some]
  dsimp only
  rw [if_pos (by omega), if_pos (by omega)]
  refine ⟨_, _, _, rfl, ?_, h⟩
  obtain ⟨j, rfl⟩ := Int.eq_ofNat_of_zero_le hv.1
  rw [show rd l ((j : Nat) : Int) = l[j]'(by omega) from rd_get l j (by omega)]
  exact List.getElem_mem _

theorem one_ok {d : List Int} (hd : bytesL d) {a : Int} (s n : Int) (h0 : 0 ≤ a) (h1 : a ≤ 1000000000000000) : ∃ v a' s', spec_l1Cur_one.f d a s n = some (v, a', s') ∧ (a ≤ a' ∧ a' ≤ a + 2) := by
  obtain ⟨v, a', s', e, _, h⟩ := pick_ok hd s n h0 h1
  unfold spec_l1Cur_one.f
  rw [e]
  exact ⟨_, _, _, rfl, h⟩

theorem laws_big_some (a b : List Int) : ∃ r, laws_big.f a b = some r := by
  unfold laws_big.f
  split
  · exact ⟨_, rfl⟩
  · exact ⟨_, rfl⟩
theorem laws_big_ok {a b : List Int} {r : Bool} (h : laws_big.f a b = some r) (hr : ¬ r = true) : a.length ≤ 1048576 ∧ b.length ≤ 1048576 := by
  unfold laws_big.f at h
  split at h
  · cases h; exact absurd rfl hr
  · rename_i h1
    obtain rfl := Option.some.inj h
    rw [wrap_id (by omega)] at hr
    simp at hr
    omega

theorem laws_tSame_loop (a b : List Int) (ha : a.length ≤ 1000000000000) (hab : a.length = b.length) : ∀ (d i : Nat), i + d = a.length →
    Ev (fun k => laws_tSame.l0 k a b (a.length : Int) (i : Int)) (decide (a.drop i = b.drop i)) := by
  intro d
  induction d with
  | zero =>
    intro i h
    rw [List.drop_eq_nil_of_le (by omega), List.drop_eq_nil_of_le (by omega)]
    refine Ev.step (f := fun _ => some true) (fun k => ?_) (Ev.now _)
    simp only [laws_tSame.l0]; rw [if_neg (by omega)]
  | succ d ih =>
    intro i h
    rw [drop_rd a i (by omega), drop_rd b i (by omega)]
    refine Ev.step (f := fun k => if rd a (i : Int) = rd b (i : Int) then laws_tSame.l0 k a b (a.length : Int) ((i + 1 : Nat) : Int) else some false) (fun k => ?_) ?_
    · simp only [laws_tSame.l0]; rw [if_pos (by omega), if_pos (by omega), if_pos (by omega), if_pos (by omega), wrap_succ (by omega)]
    · exact ev_if (fun e => ev_to (ih (i + 1) (by omega)) (by simp [e])) (fun e => ev_some (by simp [e]))
theorem laws_tSame_ev (a b : List Int) (ha : a.length ≤ 1000000000000) : Ev (fun k => laws_tSame.f k a b) (decide (a = b)) := by
  unfold laws_tSame.f
  refine ev_if (fun h => ?_) (fun h => ev_some ?_)
  · exact laws_tSame_loop a b ha (by omega) a.length 0 (by omega)
  · rw [eq_comm, decide_eq_false_iff_not]; intro e; exact h (by rw [e])

theorem impl_within_eq (a lo hi : Int) : impl_within.f a lo hi = some (inB a lo hi) := by
  unfold impl_within.f inB
  by_cases h : a ≥ lo
  · rw [if_pos h]; simp [h]
  · rw [if_neg h]; simp [show ¬ lo ≤ a from h]

theorem impl_allWithin_loop (lo hi : Int) (xs : List Int) (hx : xs.length ≤ 1000000000000) : ∀ (d i : Nat), i + d = xs.length →
    Ev (fun k => impl_allWithin.l0 k lo hi xs (xs.length : Int) (i : Int)) (allB (xs.drop i) lo hi) := by
  intro d
  induction d with
  | zero =>
    intro i h
    rw [List.drop_eq_nil_of_le (by omega)]
    refine Ev.step (f := fun _ => some true) (fun k => ?_) (Ev.now _)
    simp only [impl_allWithin.l0]; rw [if_neg (by omega)]
  | succ d ih =>
    intro i h
    have hlt : i < xs.length := by omega
    rw [drop_rd xs i hlt]
    refine Ev.step (f := fun k => if inB (rd xs (i : Int)) lo hi = true then impl_allWithin.l0 k lo hi xs (xs.length : Int) ((i + 1 : Nat) : Int) else some false) (fun k => ?_) ?_
    · simp only [impl_allWithin.l0]; rw [if_pos (by omega), if_pos (by omega), if_pos (by omega), impl_within_eq, wrap_succ (by omega)]; rfl
    · by_cases hb : inB (rd xs (i : Int)) lo hi = true
      · exact ev_pos hb (ev_to (ih (i + 1) (by omega)) (by simp [allB, hb]))
      · exact ev_neg hb (ev_some (by simp [allB, Bool.eq_false_iff.mpr hb]))
theorem impl_allWithin_ev (lo hi : Int) (xs : List Int) (hx : xs.length ≤ 1000000000000) : Ev (fun k => impl_allWithin.f k xs lo hi) (allB xs lo hi) :=
  impl_allWithin_loop lo hi xs hx xs.length 0 (by omega)

theorem spec_l1In_eq (a lo hi : Int) : spec_l1In.f a lo hi = some (inB a lo hi) := by
  unfold spec_l1In.f inB
  by_cases h : a ≥ lo
  · rw [if_pos h]; simp [h]
  · rw [if_neg h]; simp [show ¬ lo ≤ a from h]

theorem spec_l1All_loop (lo hi : Int) (xs : List Int) (hx : xs.length ≤ 1000000000000) : ∀ (d i : Nat), i + d = xs.length →
    Ev (fun k => spec_l1All.l0 k lo hi xs (xs.length : Int) (i : Int)) (allB (xs.drop i) lo hi) := by
  intro d
  induction d with
  | zero =>
    intro i h
    rw [List.drop_eq_nil_of_le (by omega)]
    refine Ev.step (f := fun _ => some true) (fun k => ?_) (Ev.now _)
    simp only [spec_l1All.l0]; rw [if_neg (by omega)]
  | succ d ih =>
    intro i h
    have hlt : i < xs.length := by omega
    rw [drop_rd xs i hlt]
    refine Ev.step (f := fun k => if inB (rd xs (i : Int)) lo hi = true then spec_l1All.l0 k lo hi xs (xs.length : Int) ((i + 1 : Nat) : Int) else some false) (fun k => ?_) ?_
    · simp only [spec_l1All.l0]; rw [if_pos (by omega), if_pos (by omega), if_pos (by omega), spec_l1In_eq, wrap_succ (by omega)]; rfl
    · by_cases hb : inB (rd xs (i : Int)) lo hi = true
      · exact ev_pos hb (ev_to (ih (i + 1) (by omega)) (by simp [allB, hb]))
      · exact ev_neg hb (ev_some (by simp [allB, Bool.eq_false_iff.mpr hb]))
theorem spec_l1All_ev (lo hi : Int) (xs : List Int) (hx : xs.length ≤ 1000000000000) : Ev (fun k => spec_l1All.f k xs lo hi) (allB xs lo hi) :=
  spec_l1All_loop lo hi xs hx xs.length 0 (by omega)

theorem slices_Equal_int_int_loop (a b : List Int) (ha : a.length ≤ 1000000000000) (hab : a.length = b.length) : ∀ (d i : Nat), i + d = a.length →
    Ev (fun k => slices_Equal_int_int.l0 k a b (a.length : Int) (i : Int)) (decide (a.drop i = b.drop i)) := by
  intro d
  induction d with
  | zero =>
    intro i h
    rw [List.drop_eq_nil_of_le (by omega), List.drop_eq_nil_of_le (by omega)]
    refine Ev.step (f := fun _ => some true) (fun k => ?_) (Ev.now _)
    simp only [slices_Equal_int_int.l0]; rw [if_neg (by omega)]
  | succ d ih =>
    intro i h
    rw [drop_rd a i (by omega), drop_rd b i (by omega)]
    refine Ev.step (f := fun k => if rd a (i : Int) = rd b (i : Int) then slices_Equal_int_int.l0 k a b (a.length : Int) ((i + 1 : Nat) : Int) else some false) (fun k => ?_) ?_
    · simp only [slices_Equal_int_int.l0]; rw [if_pos (by omega), if_pos (by omega), if_pos (by omega), if_pos (by omega), wrap_succ (by omega)]
    · exact ev_if (fun e => ev_to (ih (i + 1) (by omega)) (by simp [e])) (fun e => ev_some (by simp [e]))
theorem slices_Equal_int_int_ev (a b : List Int) (ha : a.length ≤ 1000000000000) : Ev (fun k => slices_Equal_int_int.f k a b) (decide (a = b)) := by
  unfold slices_Equal_int_int.f
  refine ev_if (fun h => ?_) (fun h => ev_some ?_)
  · exact slices_Equal_int_int_loop a b ha (by omega) a.length 0 (by omega)
  · rw [eq_comm, decide_eq_false_iff_not]; intro e; exact h (by rw [e])

theorem bt_str (xs : List Int) (hx : ∀ x ∈ xs, 0 ≤ x ∧ x ≤ 255) (i : Nat) (h : i < xs.length) : bt (strOfNums xs) (i : Int) = xs.getD i 0 := by
  have hs : i < (strOfNums xs).size := by rw [strOfNums_size]; exact h
  unfold bt
  rw [dif_pos (by simpa using hs)]
  have e : (strOfNums xs)[((i : Nat) : Int).toNat]'(by simpa using hs) = UInt8.ofNat (xs[i]'h).toNat := by
    simp [strOfNums, ByteArray.getElem_eq_getElem_data]
  rw [e, List.getD_eq_getElem?_getD, List.getElem?_eq_getElem h]
  have := hx xs[i] (List.getElem_mem h)
  simp only [UInt8.toNat_ofNat', Option.getD_some]
  omega
theorem bt_range (s : ByteArray) (i : Int) : 0 ≤ bt s i ∧ bt s i ≤ 255 := by
  unfold bt
  split
  · rename_i h
    have := (s[i.toNat]'h).toNat_lt
    omega
  · omega
def wordB (w : List Int) : Bool := inB (w.length : Int) 1 24 && allB w 0 5
theorem wordB_iff {w : List Int} : wordB w = true ↔ (1 ≤ w.length ∧ w.length ≤ 24) ∧ ∀ x ∈ w, 0 ≤ x ∧ x ≤ 5 := by
  simp only [wordB, Bool.and_eq_true, inB_iff, allB_iff]
  exact and_congr ⟨fun h => ⟨by omega, by omega⟩, fun h => ⟨by omega, by omega⟩⟩ Iff.rfl
theorem impl_IsWord_ev (w : List Int) (hw : w.length ≤ 1000000000000) : Ev (fun q => impl_IsWord.f q w) (wordB w) := by
  unfold impl_IsWord.f wordB
  refine ev_plain (impl_within_eq _ _ _) (ev_if (fun h => ?_) (fun h => ev_some ?_))
  · rw [h]; exact ev_call (impl_allWithin_ev 0 5 w hw) (ev_some rfl)
  · rw [Bool.eq_false_iff.mpr h]; rfl
theorem spec_lyWord_ev (w : List Int) (hw : w.length ≤ 1000000000000) : Ev (fun q => spec_lyWord.f q w) (wordB w) := by
  unfold spec_lyWord.f wordB
  refine ev_plain (spec_l1In_eq _ _ _) (ev_if (fun h => ?_) (fun h => ev_some ?_))
  · rw [h]; exact ev_call (spec_l1All_ev 0 5 w hw) (ev_some rfl)
  · rw [Bool.eq_false_iff.mpr h]; rfl
def textM (w : List Int) : ByteArray := strOfNums (w.map fun x => 48 + x)
theorem rd_mem {w : List Int} {i : Nat} (h : i < w.length) : rd w (i : Int) ∈ w := by
  rw [rd_get w i h]; exact List.getElem_mem h
theorem impl_wordText_ev (w : List Int) (hw : wordB w = true) : Ev (fun q => impl_wordText.f q w) (textM w) := by
  obtain ⟨⟨h1, h2⟩, h3⟩ := wordB_iff.mp hw
  unfold impl_wordText.f
  have : ∀ (d i : Nat) (acc : List Int), i + d = w.length → acc.length = i → Ev (fun q => impl_wordText.l0 q acc w (w.length : Int) (i : Int)) (strOfNums (acc ++ (w.drop i).map fun x => 48 + x)) := by
    intro d
    induction d with
    | zero =>
      intro i acc h ha
      refine Ev.step (fun k => by simp only [impl_wordText.l0]; rfl) ?_
      refine ev_neg (by omega) (ev_some ?_)
      rw [List.drop_eq_nil_of_le (by omega)]; simp
    | succ d ih =>
      intro i acc h ha
      have hx := h3 _ (rd_mem (w := w) (i := i) (by omega))
      refine Ev.step (fun k => by simp only [impl_wordText.l0]; rfl) ?_
      refine ev_pos (by omega) ?_
      refine ev_pos (by omega) ?_
      refine ev_pos (by omega) ?_
      refine ev_pos (by omega) ?_
      rw [wrap_succ (by omega), show (48 + rd w (i : Int)) % 256 = 48 + rd w (i : Int) by omega]
      refine ev_to (ih (i + 1) _ (by omega) (by simp [ha])) ?_
      rw [drop_rd w i (by omega), List.map_cons, List.append_assoc]; rfl
  have h := this w.length 0 [] (by omega) rfl
  simpa [textM] using h
theorem spec_lyText_ev (w : List Int) (hw : wordB w = true) : Ev (fun q => spec_lyText.f q w) (textM w) := by
  obtain ⟨⟨h1, h2⟩, h3⟩ := wordB_iff.mp hw
  unfold spec_lyText.f
  have : ∀ (d i : Nat) (acc : List Int), i + d = w.length → acc.length = i → Ev (fun q => spec_lyText.l0 q acc w (w.length : Int) (i : Int)) (strOfNums (acc ++ (w.drop i).map fun x => 48 + x)) := by
    intro d
    induction d with
    | zero =>
      intro i acc h ha
      refine Ev.step (fun k => by simp only [spec_lyText.l0]; rfl) ?_
      refine ev_neg (by omega) (ev_some ?_)
      rw [List.drop_eq_nil_of_le (by omega)]; simp
    | succ d ih =>
      intro i acc h ha
      have hx := h3 _ (rd_mem (w := w) (i := i) (by omega))
      refine Ev.step (fun k => by simp only [spec_lyText.l0]; rfl) ?_
      refine ev_pos (by omega) ?_
      refine ev_pos (by omega) ?_
      refine ev_pos (by omega) ?_
      refine ev_pos (by omega) ?_
      rw [wrap_succ (by omega), wrap_id (x := 48 + rd w (i : Int)) (by omega), show (48 + rd w (i : Int)) % 256 = 48 + rd w (i : Int) by omega]
      refine ev_to (ih (i + 1) _ (by omega) (by simp [ha])) ?_
      rw [drop_rd w i (by omega), List.map_cons, List.append_assoc]; rfl
  have h := this w.length 0 [] (by omega) rfl
  simpa [textM] using h
theorem textM_size (w : List Int) : (textM w).size = w.length := by unfold textM; rw [strOfNums_size]; simp
/-- The letters of a text, as digits. -/
def digT (s : ByteArray) (n : Nat) : List Int := (List.range' 0 n).map fun (i : Nat) => bt s (i : Int) - 48
theorem digT_length (s : ByteArray) (n : Nat) : (digT s n).length = n := by simp [digT]
theorem digT_succ (s : ByteArray) (n : Nat) : digT s (n + 1) = digT s n ++ [bt s (n : Int) - 48] := by
  unfold digT
  rw [← List.range'_append (s := 0) (m := n) (n := 1) (step := 1), List.map_append]
  simp
theorem digT_text (w : List Int) (hw : wordB w = true) : digT (textM w) w.length = w := by
  obtain ⟨⟨h1, h2⟩, h3⟩ := wordB_iff.mp hw
  apply List.ext_getElem
  · rw [digT_length]
  · intro i hi1 hi2
    have e : (digT (textM w) w.length)[i] = bt (textM w) (i : Int) - 48 := by simp [digT]
    rw [e]
    unfold textM
    rw [bt_str _ (fun x hx => by
      simp only [List.mem_map] at hx
      obtain ⟨y, hy, rfl⟩ := hx
      have := h3 y hy
      omega) i (by simpa using hi2)]
    rw [List.getD_eq_getElem?_getD, List.getElem?_map, List.getElem?_eq_getElem hi2]
    simp only [Option.map_some, Option.getD_some]
    omega
def parseM (s : ByteArray) : List Int × Bool := if wordB (digT s s.size) = true then (digT s s.size, true) else ([], false)
theorem parse_step (s : ByteArray) (i : Nat) : wrap64 ((wrap64 (bt s (i : Int))) - 48) = bt s (i : Int) - 48 := by
  have := bt_range s (i : Int)
  rw [wrap_id (x := bt s (i : Int)) (by omega), wrap_id (by omega)]
theorem wordB_long {w : List Int} (h : 24 < w.length) : wordB w = false := by
  cases e : wordB w with
  | false => rfl
  | true => have := (wordB_iff.mp e).1; omega
theorem impl_ParseWord_ev (s : ByteArray) (hs : s.size ≤ 1000000000) : Ev (fun q => impl_ParseWord.f q s) (parseM s) := by
  unfold impl_ParseWord.f
  obtain ⟨m, hm, hm1, hm2⟩ : ∃ m : Nat, mn (s.size : Int) 25 = (m : Int) ∧ (m = s.size ∧ s.size ≤ 25 ∨ m = 25 ∧ 25 < s.size) ∧ m ≤ s.size := by
    by_cases c : s.size ≤ 25
    · exact ⟨s.size, by unfold mn; split <;> omega, .inl ⟨rfl, c⟩, Nat.le_refl _⟩
    · exact ⟨25, by unfold mn; split <;> omega, .inr ⟨rfl, by omega⟩, by omega⟩
  rw [hm]
  have : ∀ (d i : Nat), i + d = m → Ev (fun q => impl_ParseWord.l0 q s (digT s i) (m : Int) (i : Int)) (parseM s) := by
    intro d
    induction d with
    | zero =>
      intro i h
      obtain rfl : i = m := by omega
      refine Ev.step (fun k => by simp only [impl_ParseWord.l0]; rfl) ?_
      refine ev_neg (by omega) ?_
      refine ev_call (impl_IsWord_ev _ (by rw [digT_length]; omega)) ?_
      unfold parseM
      rcases hm1 with ⟨rfl, _⟩ | ⟨rfl, h2⟩
      · exact ev_if (fun h => by rw [if_pos h]; exact Ev.now _) (fun h => by rw [if_neg h]; exact Ev.now _)
      · rw [wordB_long (by rw [digT_length]; omega), wordB_long (w := digT s s.size) (by rw [digT_length]; omega)]
        exact ev_neg (by decide) (ev_some (by rw [if_neg (by decide)]))
    | succ d ih =>
      intro i h
      refine Ev.step (fun k => by simp only [impl_ParseWord.l0]; rfl) ?_
      refine ev_pos (by omega) ?_
      refine ev_pos (by omega) ?_
      refine ev_pos (by omega) ?_
      refine ev_pos (by rw [digT_length]; omega) ?_
      rw [parse_step, wrap_succ (by omega), ← digT_succ]
      exact ih (i + 1) (by omega)
  exact this m 0 (by omega)
theorem spec_ParseWord_ev (s : ByteArray) (hs : s.size ≤ 1000000000) : Ev (fun q => spec_ParseWord.f q s) (parseM s) := by
  unfold spec_ParseWord.f
  have : ∀ (d i : Nat), i + d = s.size → Ev (fun q => spec_ParseWord.l0 q s (digT s i) (i : Int)) (parseM s) := by
    intro d
    induction d with
    | zero =>
      intro i h
      obtain rfl : i = s.size := by omega
      refine Ev.step (fun k => by simp only [spec_ParseWord.l0]; rfl) ?_
      refine ev_neg (by omega) ?_
      refine ev_call (spec_lyWord_ev _ (by rw [digT_length]; omega)) ?_
      unfold parseM
      exact ev_if (fun h => by rw [if_pos h]; exact Ev.now _) (fun h => by rw [if_neg h]; exact Ev.now _)
    | succ d ih =>
      intro i h
      refine Ev.step (fun k => by simp only [spec_ParseWord.l0]; rfl) ?_
      refine ev_pos (by omega) ?_
      refine ev_pos (by omega) ?_
      refine ev_pos (by rw [digT_length]; omega) ?_
      rw [parse_step, wrap_succ (by omega), ← digT_succ]
      exact ih (i + 1) (by omega)
  exact this s.size 0 (by omega)
/-! the draws -/
theorem letters_loop {d : List Int} (hd : bytesL d) (n : Int) : ∀ (m : Nat) (xs : List Int) (a s : Int), xs.length + m ≤ 30 → 1 ≤ xs.length + m → 0 ≤ a → a + 2 * (m : Int) ≤ 999999999999900 →
    ∃ r a' s', Ev (fun k => spec_l1Cur_letters.l0 k n xs (m : Int) d a s) (r, a', s') ∧ r.length ≤ 60 ∧ (a ≤ a' ∧ a' ≤ a + 2 * (m : Int) + 10) := by
  intro m
  induction m with
  | zero =>
    intro xs a s hl h1 h0 hb
    obtain ⟨v, a1, s1, e1, hv, ha1⟩ := pick_ok hd s 12 h0 (by omega)
    by_cases c1 : v = 0
    · refine ⟨xs ++ xs, a1, s1, ?_, by simp; omega, by omega⟩
      refine Ev.step (fun k => by simp only [spec_l1Cur_letters.l0]; rfl) ?_
      refine ev_neg (by omega) ?_
      refine ev_plain e1 ?_
      try dsimp only
      refine ev_pos c1 ?_
      refine ev_pos (by omega) ?_
      exact Ev.now _
    · by_cases c2 : v = 1
      · obtain ⟨p, a2, s2, e2, hp, ha2⟩ := pick_ok hd (a := a1) s1 (xs.length : Int) (by omega) (by omega)
        obtain ⟨u, a3, s3, e3, hu, ha3⟩ := among_ok hd (a := a2) s2 [(-1), 0, 5, 6] (by simp) (by omega) (by omega)
        refine ⟨xs.set p.toNat u, a3, s3, ?_, by simp; omega, by omega⟩
        refine Ev.step (fun k => by simp only [spec_l1Cur_letters.l0]; rfl) ?_
        refine ev_neg (by omega) ?_
        refine ev_plain e1 ?_
        try dsimp only
        refine ev_neg c1 ?_
        refine ev_pos c2 ?_
        refine ev_plain e2 ?_
        try dsimp only
        refine ev_plain e3 ?_
        try dsimp only
        refine ev_pos (by omega) ?_
        refine ev_pos (by omega) ?_
        exact Ev.now _
      · by_cases c3 : v = 2
        · obtain ⟨b, a3, s3, e3, ha3⟩ := one_ok hd (a := a1) s1 2 (by omega) (by omega)
          by_cases c4 : b = true
          · refine ⟨[], a3, s3, ?_, by simp, by omega⟩
            refine Ev.step (fun k => by simp only [spec_l1Cur_letters.l0]; rfl) ?_
            refine ev_neg (by omega) ?_
            refine ev_plain e1 ?_
            try dsimp only
            refine ev_neg c1 ?_
            refine ev_neg c2 ?_
            refine ev_pos c3 ?_
            refine ev_plain e3 ?_
            try dsimp only
            refine ev_pos c4 ?_
            exact Ev.now _
          · refine ⟨xs, a3, s3, ?_, by omega, by omega⟩
            refine Ev.step (fun k => by simp only [spec_l1Cur_letters.l0]; rfl) ?_
            refine ev_neg (by omega) ?_
            refine ev_plain e1 ?_
            try dsimp only
            refine ev_neg c1 ?_
            refine ev_neg c2 ?_
            refine ev_pos c3 ?_
            refine ev_plain e3 ?_
            try dsimp only
            refine ev_neg c4 ?_
            exact Ev.now _
        · refine ⟨xs, a1, s1, ?_, by omega, by omega⟩
          refine Ev.step (fun k => by simp only [spec_l1Cur_letters.l0]; rfl) ?_
          refine ev_neg (by omega) ?_
          refine ev_plain e1 ?_
          try dsimp only
          refine ev_neg c1 ?_
          refine ev_neg c2 ?_
          refine ev_neg c3 ?_
          exact Ev.now _
  | succ m ih =>
    intro xs a s hl h1 h0 hb
    obtain ⟨v, a1, s1, e1, hv, ha1⟩ := pick_ok hd s n h0 (by omega)
    obtain ⟨r, a', s', e, hr, ha⟩ := ih (xs ++ [v]) a1 s1 (by simp; omega) (by simp; omega) (by omega) (by omega)
    refine ⟨r, a', s', ?_, hr, by omega⟩
    refine Ev.step (fun k => by simp only [spec_l1Cur_letters.l0]; rfl) ?_
    refine ev_pos (by omega) ?_
    refine ev_plain e1 ?_
    dsimp only
    refine ev_pos (by omega) ?_
    rw [wrap_pred (by omega)]
    exact e
theorem letters_ok {d : List Int} (hd : bytesL d) {a : Int} (s n : Int) (h0 : 0 ≤ a) (h1 : a ≤ 999999999999000) : ∃ r a' s', Ev (fun k => spec_l1Cur_letters.f k d a s n) (r, a', s') ∧ r.length ≤ 60 ∧ (a ≤ a' ∧ a' ≤ a + 100) := by
  obtain ⟨v, a1, s1, e1, hv, ha1⟩ := pick_ok hd s 8 h0 (by omega)
  obtain ⟨b, a2, s2, e2, ha2⟩ := one_ok hd (a := a1) s1 16 (by omega) (by omega)
  unfold spec_l1Cur_letters.f
  by_cases c : b = true
  · obtain ⟨u, a3, s3, e3, hu, ha3⟩ := pick_ok hd (a := a2) s2 2 (by omega) (by omega)
    obtain ⟨m, hm⟩ : ∃ m : Nat, 24 + u = (m : Int) := ⟨(24 + u).toNat, by omega⟩
    obtain ⟨r, a', s', e, hr, ha⟩ := letters_loop hd n m [] a3 s3 (by simp; omega) (by simp; omega) (by omega) (by omega)
    refine ⟨r, a', s', ev_plain e1 ?_, hr, by omega⟩
    dsimp only
    refine ev_plain e2 ?_
    dsimp only
    refine ev_pos c ?_
    refine ev_plain e3 ?_
    dsimp only
    rw [wrap_id (x := 24 + u) (by omega), hm]
    exact Ev.step (fun k => by simp only [spec_l1Cur_letters.j0]) e
  · obtain ⟨m, hm⟩ : ∃ m : Nat, 1 + v = (m : Int) := ⟨(1 + v).toNat, by omega⟩
    obtain ⟨r, a', s', e, hr, ha⟩ := letters_loop hd n m [] a2 s2 (by simp; omega) (by simp; omega) (by omega) (by omega)
    refine ⟨r, a', s', ev_plain e1 ?_, hr, by omega⟩
    dsimp only
    refine ev_plain e2 ?_
    dsimp only
    refine ev_neg c ?_
    rw [wrap_id (x := 1 + v) (by omega), hm]
    exact Ev.step (fun k => by simp only [spec_l1Cur_letters.j0]) e
theorem spoilt_loop {d : List Int} (hd : bytesL d) (x2 : ByteArray) (hx : 1 ≤ x2.size ∧ x2.size ≤ 20) : ∀ (m : Nat) (x1 : ByteArray) (a s : Int), m ≤ 10 → x1.size + m ≤ 1000 → 0 ≤ a → a + 10 * (m : Int) ≤ 999999999999900 →
    ∃ r a' s', Ev (fun k => spec_l1Cur_spoilt.l0 k x1 x2 (m : Int) d a s) (r, a', s') ∧ r.size ≤ 1000 := by
  intro m
  induction m with
  | zero =>
    intro x1 a s hm h1 h0 hb
    refine ⟨x1, a, s, ?_, by omega⟩
    refine Ev.step (fun k => by simp only [spec_l1Cur_spoilt.l0]; rfl) ?_
    refine ev_neg (by omega) ?_
    refine Ev.step (fun k => by simp only [spec_l1Cur_spoilt.j1]; rfl) ?_
    exact ev_neg (by decide) (Ev.now _)
  | succ m ih =>
    intro x1 a s hm h1 h0 hb
    by_cases c0 : x1.size = 0
    · refine ⟨x1, a, s, ?_, by omega⟩
      refine Ev.step (fun k => by simp only [spec_l1Cur_spoilt.l0]; rfl) ?_
      refine ev_pos (by omega) ?_
      refine Ev.step (fun k => by simp only [spec_l1Cur_spoilt.j1]; rfl) ?_
      exact ev_neg (by rw [decide_eq_true_eq]; omega) (Ev.now _)
    · obtain ⟨v, a1, s1, e1, hv, ha1⟩ := pick_ok hd s (x1.size : Int) h0 (by omega)
      obtain ⟨u, a2, s2, e2, hu, ha2⟩ := pick_ok hd (a := a1) s1 (x2.size : Int) (by omega) (by omega)
      obtain ⟨z, a3, s3, e3, hz, ha3⟩ := pick_ok hd (a := a2) s2 3 (by omega) (by omega)
      have hv2 : v < (x1.size : Int) := by omega
      have hu2 : u < (x2.size : Int) := by omega
      have g1 : (x1.extract 0 v.toNat).size = v.toNat := by rw [ByteArray.size_extract]; omega
      have g2 : (x1.extract v.toNat x1.size).size = x1.size - v.toNat := by rw [ByteArray.size_extract]; omega
      have g3 : (x1.extract (v + 1).toNat x1.size).size = x1.size - (v + 1).toNat := by rw [ByteArray.size_extract]; omega
      have g4 : (strOfNums [bt x2 u]).size = 1 := by rw [strOfNums_size]; rfl
      have ew : wrap64 (v + 1) = v + 1 := wrap_id (by omega)
      have ew2 : wrap64 (((m + 1 : Nat) : Int) - 1) = (m : Int) := wrap_pred (by omega)
      by_cases z0 : z = 0
      · obtain ⟨r, a', s', e, hr⟩ := ih (x1.extract 0 v.toNat ++ strOfNums [bt x2 u] ++ x1.extract v.toNat x1.size) a3 s3 (by omega) (by rw [ByteArray.size_append, ByteArray.size_append, g1, g2, g4]; omega) (by omega) (by omega)
        refine ⟨r, a', s', ?_, hr⟩
        refine Ev.step (fun k => by simp only [spec_l1Cur_spoilt.l0]; rfl) ?_
        refine ev_pos (by omega) ?_
        refine Ev.step (fun k => by simp only [spec_l1Cur_spoilt.j1]; rfl) ?_
        rw [ew2]
        refine ev_pos (by rw [decide_eq_true_eq]; omega) ?_
        refine ev_plain e1 ?_
        dsimp only
        refine ev_plain e2 ?_
        dsimp only
        refine ev_pos (by omega) ?_
        refine ev_pos (by omega) ?_
        refine ev_plain rfl ?_
        refine ev_plain e3 ?_
        dsimp only
        refine ev_pos z0 ?_
        refine ev_pos (by omega) ?_
        refine ev_pos (by omega) ?_
        refine ev_pos (by rw [g1, g4]; omega) ?_
        refine ev_pos (by rw [ByteArray.size_append, g1, g2, g4]; omega) ?_
        exact e
      · by_cases z1 : z = 1
        · obtain ⟨r, a', s', e, hr⟩ := ih (x1.extract 0 v.toNat ++ strOfNums [bt x2 u] ++ x1.extract (v + 1).toNat x1.size) a3 s3 (by omega) (by rw [ByteArray.size_append, ByteArray.size_append, g1, g3, g4]; omega) (by omega) (by omega)
          refine ⟨r, a', s', ?_, hr⟩
          refine Ev.step (fun k => by simp only [spec_l1Cur_spoilt.l0]; rfl) ?_
          refine ev_pos (by omega) ?_
          refine Ev.step (fun k => by simp only [spec_l1Cur_spoilt.j1]; rfl) ?_
          rw [ew2]
          refine ev_pos (by rw [decide_eq_true_eq]; omega) ?_
          refine ev_plain e1 ?_
          dsimp only
          refine ev_plain e2 ?_
          dsimp only
          refine ev_pos (by omega) ?_
          refine ev_pos (by omega) ?_
          refine ev_plain rfl ?_
          refine ev_plain e3 ?_
          dsimp only
          refine ev_neg z0 ?_
          refine ev_pos z1 ?_
          rw [ew]
          refine ev_pos (by omega) ?_
          refine ev_pos (by omega) ?_
          refine ev_pos (by rw [g1, g4]; omega) ?_
          refine ev_pos (by omega) ?_
          refine ev_pos (by omega) ?_
          refine ev_pos (by rw [ByteArray.size_append, g1, g3, g4]; omega) ?_
          exact e
        · obtain ⟨r, a', s', e, hr⟩ := ih (x1.extract 0 v.toNat ++ x1.extract (v + 1).toNat x1.size) a3 s3 (by omega) (by rw [ByteArray.size_append, g1, g3]; omega) (by omega) (by omega)
          refine ⟨r, a', s', ?_, hr⟩
          refine Ev.step (fun k => by simp only [spec_l1Cur_spoilt.l0]; rfl) ?_
          refine ev_pos (by omega) ?_
          refine Ev.step (fun k => by simp only [spec_l1Cur_spoilt.j1]; rfl) ?_
          rw [ew2]
          refine ev_pos (by rw [decide_eq_true_eq]; omega) ?_
          refine ev_plain e1 ?_
          dsimp only
          refine ev_plain e2 ?_
          dsimp only
          refine ev_pos (by omega) ?_
          refine ev_pos (by omega) ?_
          refine ev_plain rfl ?_
          refine ev_plain e3 ?_
          dsimp only
          refine ev_neg z0 ?_
          refine ev_neg z1 ?_
          rw [ew]
          refine ev_pos (by omega) ?_
          refine ev_pos (by omega) ?_
          refine ev_pos (by omega) ?_
          refine ev_pos (by omega) ?_
          refine ev_pos (by rw [g1, g3]; omega) ?_
          exact e
theorem drawParse_ok {d : List Int} (hd : bytesL d) : ∃ r, Ev (fun k => spec_DrawParseWord.f k d) r ∧ r.size ≤ 1000 := by
  obtain ⟨w, a1, s1, e1, hw, ha1⟩ := letters_ok hd (a := 0) 0 6 (by omega) (by omega)
  unfold spec_DrawParseWord.f
  by_cases c : wordB w = true
  · have hl := (wordB_iff.mp c).1
    obtain ⟨b, a2, s2, e2, ha2⟩ := one_ok hd (a := a1) s1 4 (by omega) (by omega)
    by_cases c2 : b = true
    · obtain ⟨v, a3, s3, e3, hv, ha3⟩ := pick_ok hd (a := a2) s2 2 (by omega) (by omega)
      obtain ⟨m, hm⟩ : ∃ m : Nat, 1 + v = (m : Int) := ⟨(1 + v).toNat, by omega⟩
      obtain ⟨r, a', s', e, hr⟩ := spoilt_loop hd (⟨#[48, 49, 53, 54, 32]⟩ : ByteArray) (by decide) m (textM w) a3 s3 (by omega) (by rw [textM_size]; omega) (by omega) (by omega)
      refine ⟨r, ev_call e1 ?_, hr⟩
      dsimp only
      refine ev_call (spec_lyWord_ev w (by omega)) (ev_pos c (ev_call (spec_lyText_ev w c) (ev_plain e2 ?_)))
      dsimp only
      refine ev_pos c2 ?_
      unfold spec_l1Cur_spoilt.f
      refine ev_call (a := (r, a', s')) (ev_plain e3 ?_) (Ev.now _)
      dsimp only
      rw [wrap_id (x := 1 + v) (by omega), hm]
      exact e
    · refine ⟨textM w, ev_call e1 ?_, by rw [textM_size]; omega⟩
      dsimp only
      refine ev_call (spec_lyWord_ev w (by omega)) (ev_pos c (ev_call (spec_lyText_ev w c) (ev_plain e2 ?_)))
      dsimp only
      exact ev_neg c2 (Ev.now _)
  · obtain ⟨v, a2, s2, e2, hv, ha2⟩ := pick_ok hd (a := a1) s1 5 (by omega) (by omega)
    have hof : spec_l1Cur_of.f d a1 s1 ([(⟨#[]⟩ : ByteArray), (⟨#[54]⟩ : ByteArray), (⟨#[48, 97]⟩ : ByteArray), (⟨#[45, 49]⟩ : ByteArray), (⟨#[48, 32, 49]⟩ : ByteArray)] : List ByteArray) = some (rdOf ByteArray.empty [(⟨#[]⟩ : ByteArray), (⟨#[54]⟩ : ByteArray), (⟨#[48, 97]⟩ : ByteArray), (⟨#[45, 49]⟩ : ByteArray), (⟨#[48, 32, 49]⟩ : ByteArray)] v, a2, s2) := by
      unfold spec_l1Cur_of.f
      rw [show ((([(⟨#[]⟩ : ByteArray), (⟨#[54]⟩ : ByteArray), (⟨#[48, 97]⟩ : ByteArray), (⟨#[45, 49]⟩ : ByteArray), (⟨#[48, 32, 49]⟩ : ByteArray)] : List ByteArray).length : Nat) : Int) = 5 from rfl, e2, Option.bind_some]
      dsimp only
      rw [if_pos (by omega), if_pos (by omega)]
    refine ⟨rdOf ByteArray.empty [(⟨#[]⟩ : ByteArray), (⟨#[54]⟩ : ByteArray), (⟨#[48, 97]⟩ : ByteArray), (⟨#[45, 49]⟩ : ByteArray), (⟨#[48, 32, 49]⟩ : ByteArray)] v, ev_call e1 ?_, ?_⟩
    · dsimp only
      refine ev_call (spec_lyWord_ev w (by omega)) (ev_neg c ?_)
      refine ev_plain hof ?_
      exact Ev.now _
    · have hv3 : v = 0 ∨ v = 1 ∨ v = 2 ∨ v = 3 ∨ v = 4 := by omega
      rcases hv3 with rfl | rfl | rfl | rfl | rfl <;> decide
theorem kind_ok {d : List Int} (hd : bytesL d) {a : Int} (s : Int) (h0 : 0 ≤ a) (h1 : a ≤ 999999999999000) : ∃ n k a' s', spec_l1Cur_kind.f d a s = some (n, k, a', s') ∧ (-1 ≤ n ∧ n ≤ 13) ∧ (-1 ≤ k ∧ k ≤ 7) ∧ (a ≤ a' ∧ a' ≤ a + 20) := by
  obtain ⟨v1, a1, s1, e1, hv1, ha1⟩ := pick_ok hd s 6 h0 (by omega)
  obtain ⟨v2, a2, s2, e2, hv2, ha2⟩ := pick_ok hd (a := a1) s1 3 (by omega) (by omega)
  obtain ⟨v3, a3, s3, e3, hv3, ha3⟩ := pick_ok hd (a := a2) s2 10 (by omega) (by omega)
  unfold spec_l1Cur_kind.f
  rw [e1, Option.bind_some]
  dsimp only
  rw [e2, Option.bind_some]
  dsimp only
  rw [e3, Option.bind_some]
  dsimp only
  by_cases c1 : v3 = 0
  · rw [if_pos c1]
    obtain ⟨u, a4, s4, e4, hu, ha4⟩ := among_ok hd (a := a3) s3 [(-1), 0, 1, 9, 12, 13] (by simp) (by omega) (by omega)
    rw [e4, Option.bind_some]
    dsimp only
    rw [wrap_id (x := 1 + v2) (by omega)]
    have : -1 ≤ u ∧ u ≤ 13 := by simp at hu; omega
    exact ⟨_, _, _, _, rfl, this, by omega, by omega⟩
  · rw [if_neg c1]
    by_cases c2 : v3 = 1
    · rw [if_pos c2]
      obtain ⟨u, a4, s4, e4, hu, ha4⟩ := among_ok hd (a := a3) s3 [(-1), 0, 4, 6, 7] (by simp) (by omega) (by omega)
      rw [e4, Option.bind_some]
      dsimp only
      rw [wrap_id (x := 1 + v1) (by omega)]
      have : -1 ≤ u ∧ u ≤ 7 := by simp at hu; omega
      exact ⟨_, _, _, _, rfl, by omega, this, by omega⟩
    · rw [if_neg c2, wrap_id (x := 1 + v1) (by omega), wrap_id (x := 1 + v2) (by omega)]
      exact ⟨_, _, _, _, rfl, by omega, by omega, by omega⟩
/-! rotations -/
theorem win_round (w : List Int) (k : Nat) (hk : k ≤ w.length) : win w k w.length = w.drop k ++ w.take k := by
  apply List.ext_getElem
  · rw [win_length, List.length_append, List.length_drop, List.length_take]; omega
  · intro j h1 h2
    rw [win_length] at h1
    have e : (win w k w.length)[j] = w.getD ((k + j) % w.length) 0 := by simp [win]
    rw [e, List.getElem_append]
    by_cases c : j < w.length - k
    · rw [dif_pos (by rw [List.length_drop]; omega), List.getElem_drop, Nat.mod_eq_of_lt (by omega), List.getD_eq_getElem?_getD, List.getElem?_eq_getElem (by omega)]; rfl
    · rw [dif_neg (by rw [List.length_drop]; omega), List.getElem_take, List.getD_eq_getElem?_getD]
      rw [show (k + j) % w.length = j - (w.drop k).length by rw [List.length_drop, Nat.mod_eq_sub_mod (by omega), Nat.mod_eq_of_lt (by omega)]; omega, List.getElem?_eq_getElem (by rw [List.length_drop]; omega)]; rfl
theorem impl_rotated_eq (w : List Int) (by_ : Nat) (hw : 1 ≤ w.length ∧ w.length ≤ 24) (hb : by_ < w.length) : impl_rotated.f w (by_ : Int) = some (win w by_ w.length) := by
  have e : Int.tmod (wrap64 ((Int.tmod (by_ : Int) (w.length : Int)) + (w.length : Int))) (w.length : Int) = ((by_ : Nat) : Int) := by
    rw [tmod_nat, Nat.mod_eq_of_lt hb, wrap_id (by omega), show (by_ : Int) + (w.length : Int) = ((by_ + w.length : Nat) : Int) by omega, tmod_nat, Nat.add_mod_right, Nat.mod_eq_of_lt hb]
  unfold impl_rotated.f
  rw [if_neg (by omega), e, if_pos (by omega), if_pos (by omega), Int.toNat_natCast]
  unfold slices_Concat_int_int.f
  rw [if_pos ⟨by simp; omega, by simp⟩, win_round w by_ (by omega)]
  simp
theorem spec_lyRotate_ev (w : List Int) (by_ : Nat) (hw : 1 ≤ w.length ∧ w.length ≤ 60) (hb : by_ ≤ w.length) : Ev (fun q => spec_lyRotate.f q w (by_ : Int)) (win w by_ w.length) := by
  unfold spec_lyRotate.f
  have : ∀ (d i : Nat) (acc : List Int), i + d = w.length → acc.length = i → Ev (fun k => spec_lyRotate.l0 k w (by_ : Int) acc (w.length : Int) (i : Int)) (acc ++ (List.range' i d).map fun j => w.getD ((by_ + j) % w.length) 0) := by
    intro d
    induction d with
    | zero =>
      intro i acc h ha
      refine Ev.step (f := fun _ => some acc) (fun k => ?_) (ev_some (by simp))
      simp only [spec_lyRotate.l0]; rw [if_neg (by omega)]
    | succ d ih =>
      intro i acc h ha
      refine Ev.step (f := fun k => spec_lyRotate.l0 k w (by_ : Int) (acc ++ [w.getD ((by_ + i) % w.length) 0]) (w.length : Int) ((i + 1 : Nat) : Int)) (fun k => ?_) (ev_to (ih (i + 1) _ (by omega) (by simp [ha])) ?_)
      · simp only [spec_lyRotate.l0]
        rw [if_pos (by omega), if_neg (by omega), wrap_id (x := (i : Int) + (by_ : Int)) (by omega), show (i : Int) + (by_ : Int) = ((by_ + i : Nat) : Int) by omega, tmod_nat, wrap_succ (by omega)]
        have hm := Nat.mod_lt (by_ + i) (show 0 < w.length by omega)
        rw [if_pos (by omega), if_pos (by omega), if_pos (by omega), rd_nat]
      · simp [List.range'_succ]
  exact ev_to (this w.length 0 [] (by omega) rfl) (by simp [win])
/-- Which one is less, at the first place where they differ. -/
def cmpL : List Int → List Int → Int
  | a :: s, b :: t => if a = b then cmpL s t else if a < b then -1 else 1
  | _, _ => 0
theorem cmp_eq (a b : Int) : cmp_Compare_int.f a b = some (if a = b then 0 else if a < b then -1 else 1) := by
  unfold cmp_Compare_int.f cmp_isNaN_int.f
  simp only [Option.bind_some, bne_self_eq_false, Bool.false_eq_true, if_false]
  by_cases h1 : a = b
  · subst h1
    rw [if_neg (Int.lt_irrefl _), if_neg (Int.lt_irrefl _), if_pos rfl]
  · by_cases h2 : a < b
    · rw [if_pos h2, if_neg h1, if_pos h2]
    · rw [if_neg h2, if_pos (by omega), if_neg h1, if_neg h2]
theorem slices_Compare_ev (a b : List Int) (hab : a.length = b.length) (ha : a.length ≤ 1000000) : Ev (fun q => slices_Compare_int_int.f q a b) (cmpL a b) := by
  unfold slices_Compare_int_int.f
  have : ∀ (d i : Nat), i + d = a.length → Ev (fun q => slices_Compare_int_int.l0 q a b a (a.length : Int) (i : Int)) (cmpL (a.drop i) (b.drop i)) := by
    intro d
    induction d with
    | zero =>
      intro i h
      rw [List.drop_eq_nil_of_le (by omega), List.drop_eq_nil_of_le (by omega)]
      refine Ev.step (fun k => by simp only [slices_Compare_int_int.l0]; rfl) ?_
      exact ev_neg (by omega) (ev_neg (by omega) (Ev.now _))
    | succ d ih =>
      intro i h
      rw [drop_rd a i (by omega), drop_rd b i (by omega)]
      refine Ev.step (fun k => by simp only [slices_Compare_int_int.l0]; rfl) ?_
      refine ev_pos (by omega) ?_
      refine ev_pos (by omega) ?_
      refine ev_pos (by omega) ?_
      refine ev_neg (by omega) ?_
      refine ev_pos (by omega) ?_
      refine ev_plain (cmp_eq _ _) ?_
      rw [wrap_succ (by omega)]
      unfold cmpL
      by_cases h1 : rd a (i : Int) = rd b (i : Int)
      · rw [if_pos h1, if_pos h1]
        exact ev_pos rfl (ih (i + 1) (by omega))
      · rw [if_neg h1, if_neg h1]
        by_cases h2 : rd a (i : Int) < rd b (i : Int)
        · rw [if_pos h2]; exact ev_neg (by decide) (Ev.now _)
        · rw [if_neg h2]; exact ev_neg (by decide) (Ev.now _)
  exact this a.length 0 (by omega)
theorem sign_eq (x : Int) : spec_l1Sign.f x = some (if x > 0 then 1 else if x < 0 then -1 else 0) := by
  unfold spec_l1Sign.f
  split
  · rfl
  · split <;> rfl
theorem spec_lyCompare_ev (a b : List Int) (hab : a.length = b.length) (ha : a.length ≤ 1000000) (h1 : ∀ x ∈ a, 0 ≤ x ∧ x ≤ 5) (h2 : ∀ x ∈ b, 0 ≤ x ∧ x ≤ 5) : Ev (fun q => spec_lyCompare.f q a b) (cmpL a b) := by
  unfold spec_lyCompare.f
  have : ∀ (d i : Nat), i + d = a.length → Ev (fun q => spec_lyCompare.l0 q a b (i : Int)) (cmpL (a.drop i) (b.drop i)) := by
    intro d
    induction d with
    | zero =>
      intro i h
      rw [List.drop_eq_nil_of_le (by omega), List.drop_eq_nil_of_le (by omega)]
      refine Ev.step (fun k => by simp only [spec_lyCompare.l0]; rfl) ?_
      refine ev_neg (by omega) ?_
      refine Ev.step (fun k => by simp only [spec_lyCompare.j1]; rfl) ?_
      refine ev_neg (by decide) ?_
      rw [hab, Int.sub_self, wrap_id (x := 0) (by omega)]
      exact ev_plain (sign_eq 0) (Ev.now _)
    | succ d ih =>
      intro i h
      have g1 := h1 _ (rd_mem (w := a) (i := i) (by omega))
      have g2 := h2 _ (rd_mem (w := b) (i := i) (by omega))
      rw [drop_rd a i (by omega), drop_rd b i (by omega)]
      refine Ev.step (fun k => by simp only [spec_lyCompare.l0]; rfl) ?_
      refine ev_pos (by omega) ?_
      refine Ev.step (fun k => by simp only [spec_lyCompare.j1]; rfl) ?_
      refine ev_pos (by simp; omega) ?_
      refine ev_pos (by omega) ?_
      refine ev_pos (by omega) ?_
      refine ev_pos (by omega) ?_
      rw [wrap_succ (by omega), wrap_id (x := rd a (i : Int) - rd b (i : Int)) (by omega)]
      unfold cmpL
      by_cases c1 : rd a (i : Int) = rd b (i : Int)
      · rw [if_pos c1]
        exact ev_pos c1 (ih (i + 1) (by omega))
      · rw [if_neg c1]
        refine ev_neg c1 (ev_plain (sign_eq _) (ev_some ?_))
        by_cases c2 : rd a (i : Int) < rd b (i : Int)
        · rw [if_pos c2, if_neg (by omega), if_pos (by omega)]
        · rw [if_neg c2, if_pos (by omega)]
  exact this a.length 0 (by omega)
/-- The least number by which the rotation is least. -/
def leastS (w : List Int) (best i : Nat) : Nat := if cmpL (win w i w.length) (win w best w.length) < 0 then i else best
def leastM (w : List Int) : Nat := (List.range' 1 (w.length - 1)).foldl (leastS w) 0
theorem leastS_lt {w : List Int} {best i : Nat} (h1 : best < w.length) (h2 : i < w.length) : leastS w best i < w.length := by unfold leastS; split <;> assumption
theorem leastM_lt {w : List Int} (hw : 1 ≤ w.length) : leastM w < w.length := by
  unfold leastM
  refine foldl_inv (fun x => x < w.length) _ _ _ (by omega) (fun b a ha hb => leastS_lt hb ?_)
  simp at ha; omega
theorem impl_leastRotation_ev {w : List Int} (hw : wordB w = true) : Ev (fun q => impl_leastRotation.f q w) ((leastM w : Int), win w (leastM w) w.length) := by
  obtain ⟨hl, hx⟩ := wordB_iff.mp hw
  have hc : impl_copied.f w = some (win w 0 w.length) := by
    unfold impl_copied.f
    rw [Option.bind_some, if_pos (by simp; omega), win_round w 0 (by omega)]
    simp
  unfold impl_leastRotation.f
  refine ev_plain hc ?_
  have : ∀ (d i best : Nat), i + d = w.length → best < w.length → 1 ≤ i → Ev (fun q => impl_leastRotation.l0 q w (best : Int) (win w best w.length) (i : Int)) (((List.range' i d).foldl (leastS w) best : Nat), win w ((List.range' i d).foldl (leastS w) best) w.length) := by
    intro d
    induction d with
    | zero =>
      intro i best h hb hi
      refine Ev.step (fun k => by simp only [impl_leastRotation.l0]; rfl) ?_
      exact ev_neg (by omega) (Ev.now _)
    | succ d ih =>
      intro i best h hb hi
      refine Ev.step (fun k => by simp only [impl_leastRotation.l0]; rfl) ?_
      refine ev_pos (by omega) ?_
      refine ev_plain (impl_rotated_eq w i hl (by omega)) ?_
      refine ev_call (slices_Compare_ev _ _ (by rw [win_length, win_length]) (by rw [win_length]; omega)) ?_
      rw [wrap_succ (by omega), List.range'_succ, List.foldl_cons]
      by_cases c : cmpL (win w i w.length) (win w best w.length) < 0
      · refine ev_pos c ?_
        rw [show leastS w best i = i by unfold leastS; rw [if_pos c]]
        exact ih (i + 1) i (by omega) (by omega) (by omega)
      · refine ev_neg c ?_
        rw [show leastS w best i = best by unfold leastS; rw [if_neg c]]
        exact ih (i + 1) best (by omega) hb (by omega)
  exact this (w.length - 1) 1 0 (by omega) (by omega) (by omega)
theorem win_mem5 {w : List Int} (hw : wordB w = true) (p n : Nat) : ∀ x ∈ win w p n, 0 ≤ x ∧ x ≤ 5 := fun x h => (wordB_iff.mp hw).2 x (mem_win (by have := (wordB_iff.mp hw).1; omega) h)
theorem spec_lyLeast_ev {w : List Int} (hw : wordB w = true) : Ev (fun q => spec_lyLeast.f q w) (leastM w : Int) := by
  obtain ⟨hl, hx⟩ := wordB_iff.mp hw
  unfold spec_lyLeast.f
  have : ∀ (d i best : Nat), i + d = w.length → best < w.length → 1 ≤ i → Ev (fun q => spec_lyLeast.l0 q w (best : Int) (i : Int)) (((List.range' i d).foldl (leastS w) best : Nat) : Int) := by
    intro d
    induction d with
    | zero =>
      intro i best h hb hi
      refine Ev.step (fun k => by simp only [spec_lyLeast.l0]; rfl) ?_
      exact ev_neg (by omega) (Ev.now _)
    | succ d ih =>
      intro i best h hb hi
      refine Ev.step (fun k => by simp only [spec_lyLeast.l0]; rfl) ?_
      refine ev_pos (by omega) ?_
      refine ev_call (spec_lyRotate_ev w i ⟨by omega, by omega⟩ (by omega)) ?_
      refine ev_call (spec_lyRotate_ev w best ⟨by omega, by omega⟩ (by omega)) ?_
      refine ev_call (spec_lyCompare_ev _ _ (by rw [win_length, win_length]) (by rw [win_length]; omega) (win_mem5 hw _ _) (win_mem5 hw _ _)) ?_
      rw [wrap_succ (by omega), List.range'_succ, List.foldl_cons]
      by_cases c : cmpL (win w i w.length) (win w best w.length) < 0
      · refine ev_pos c ?_
        rw [show leastS w best i = i by unfold leastS; rw [if_pos c]]
        exact ih (i + 1) i (by omega) (by omega) (by omega)
      · refine ev_neg c ?_
        rw [show leastS w best i = best by unfold leastS; rw [if_neg c]]
        exact ih (i + 1) best (by omega) hb (by omega)
  exact this (w.length - 1) 1 0 (by omega) (by omega) (by omega)
theorem spec_l1Same_loop (a b : List Int) (ha : a.length ≤ 1000000000000) (hab : a.length = b.length) : ∀ (d i : Nat), i + d = a.length →
    Ev (fun k => spec_l1Same.l0 k a b (a.length : Int) (i : Int)) (decide (a.drop i = b.drop i)) := by
  intro d
  induction d with
  | zero =>
    intro i h
    rw [List.drop_eq_nil_of_le (by omega), List.drop_eq_nil_of_le (by omega)]
    refine Ev.step (f := fun _ => some true) (fun k => ?_) (Ev.now _)
    simp only [spec_l1Same.l0]; rw [if_neg (by omega)]
  | succ d ih =>
    intro i h
    rw [drop_rd a i (by omega), drop_rd b i (by omega)]
    refine Ev.step (f := fun k => if rd a (i : Int) = rd b (i : Int) then spec_l1Same.l0 k a b (a.length : Int) ((i + 1 : Nat) : Int) else some false) (fun k => ?_) ?_
    · simp only [spec_l1Same.l0]; rw [if_pos (by omega), if_pos (by omega), if_pos (by omega), if_pos (by omega), wrap_succ (by omega)]
    · exact ev_if (fun e => ev_to (ih (i + 1) (by omega)) (by simp [e])) (fun e => ev_some (by simp [e]))
theorem spec_l1Same_ev (a b : List Int) (ha : a.length ≤ 1000000000000) : Ev (fun k => spec_l1Same.f k a b) (decide (a = b)) := by
  unfold spec_l1Same.f
  refine ev_if (fun h => ?_) (fun h => ev_some ?_)
  · exact spec_l1Same_loop a b ha (by omega) a.length 0 (by omega)
  · rw [eq_comm, decide_eq_false_iff_not]; intro e; exact h (by rw [e])
/-- The length of the shortest word of which the word is a power. -/
def rootP (w : List Int) (p : Nat) : Bool := decide (w.length % p = 0) && decide (win w p w.length = w)
def rootG (w : List Int) : Nat → Nat → Nat
  | 0, p => p
  | d + 1, p => if rootP w p = true then p else rootG w d (p + 1)
def rootM (w : List Int) : Nat := rootG w (w.length - 1) 1
theorem rootG_range (w : List Int) : ∀ d p, p ≤ rootG w d p ∧ rootG w d p ≤ p + d := by
  intro d
  induction d with
  | zero => intro p; simp [rootG]
  | succ d ih =>
    intro p
    unfold rootG
    have := ih (p + 1)
    split <;> omega
theorem win_full (w : List Int) : win w w.length w.length = w := by
  rw [win_round w w.length (Nat.le_refl _)]; simp
theorem impl_rootLength_ev {w : List Int} (hw : wordB w = true) : Ev (fun q => impl_rootLength.f q w) (rootM w : Int) := by
  obtain ⟨hl, hx⟩ := wordB_iff.mp hw
  unfold impl_rootLength.f
  have hrot : ∀ p : Nat, 1 ≤ p → p ≤ w.length → impl_rotated.f w (p : Int) = some (win w p w.length) := by
    intro p h1 h2
    by_cases c : p < w.length
    · exact impl_rotated_eq w p hl c
    · obtain rfl : p = w.length := by omega
      have e : Int.tmod (wrap64 ((Int.tmod (w.length : Int) (w.length : Int)) + (w.length : Int))) (w.length : Int) = 0 := by
        rw [tmod_nat, Nat.mod_self, wrap_id (by omega), show ((0 : Nat) : Int) + (w.length : Int) = ((w.length : Nat) : Int) by omega, tmod_nat, Nat.mod_self]; rfl
      unfold impl_rotated.f
      rw [if_neg (by omega), e, if_pos (by omega), if_pos (by omega)]
      unfold slices_Concat_int_int.f
      rw [if_pos ⟨by simp; omega, by simp⟩, win_full]
      simp
  have : ∀ (d p : Nat), p + d = w.length → 1 ≤ p → Ev (fun q => impl_rootLength.l0 q w (p : Int)) (rootG w d p : Int) := by
    intro d
    induction d with
    | zero =>
      intro p h hp
      obtain rfl : p = w.length := by omega
      refine Ev.step (fun k => by simp only [impl_rootLength.l0]; rfl) ?_
      refine ev_neg (by omega) ?_
      refine ev_pos (by simp) ?_
      refine ev_plain (hrot _ hp (Nat.le_refl _)) ?_
      rw [win_full]
      refine ev_call (slices_Equal_int_int_ev _ _ (by omega)) ?_
      exact ev_pos (by simp) (Ev.now _)
    | succ d ih =>
      intro p h hp
      refine Ev.step (fun k => by simp only [impl_rootLength.l0]; rfl) ?_
      refine ev_neg (by omega) ?_
      rw [wrap_succ (by omega), show ((w.length : Int) % (p : Int)) = ((w.length % p : Nat) : Int) by omega]
      unfold rootG
      by_cases c1 : w.length % p = 0
      · refine ev_pos (by omega) ?_
        refine ev_plain (hrot _ hp (by omega)) ?_
        refine ev_call (slices_Equal_int_int_ev _ _ (by rw [win_length]; omega)) ?_
        by_cases c2 : win w p w.length = w
        · rw [if_pos (show rootP w p = true by unfold rootP; rw [decide_eq_true c1, decide_eq_true c2]; rfl)]
          exact ev_pos (by rw [decide_eq_true c2]) (Ev.now _)
        · rw [if_neg (show ¬ rootP w p = true by unfold rootP; rw [decide_eq_false c2]; simp)]
          exact ev_neg (by rw [decide_eq_false c2]; simp) (ih (p + 1) (by omega) (by omega))
      · rw [if_neg (show ¬ rootP w p = true by unfold rootP; rw [decide_eq_false c1]; simp)]
        exact ev_neg (by omega) (ih (p + 1) (by omega) (by omega))
  exact this (w.length - 1) 1 (by omega) (by omega)
theorem spec_lyRoot_ev {w : List Int} (hl : 1 ≤ w.length ∧ w.length ≤ 24) : Ev (fun q => spec_lyRoot.f q w) (rootM w : Int) := by
  unfold spec_lyRoot.f
  have : ∀ (d p : Nat), p + d = w.length → 1 ≤ p → Ev (fun q => spec_lyRoot.l0 q w (p : Int)) (rootG w d p : Int) := by
    intro d
    induction d with
    | zero =>
      intro p h hp
      obtain rfl : p = w.length := by omega
      refine Ev.step (fun k => by simp only [spec_lyRoot.l0]; rfl) ?_
      refine ev_neg (by omega) ?_
      refine ev_pos (by simp) ?_
      refine ev_call (spec_lyRotate_ev w w.length ⟨by omega, by omega⟩ (Nat.le_refl _)) ?_
      rw [win_full]
      refine ev_call (spec_l1Same_ev _ _ (by omega)) ?_
      exact ev_pos (by simp) (Ev.now _)
    | succ d ih =>
      intro p h hp
      refine Ev.step (fun k => by simp only [spec_lyRoot.l0]; rfl) ?_
      refine ev_neg (by omega) ?_
      rw [wrap_succ (by omega), show ((w.length : Int) % (p : Int)) = ((w.length % p : Nat) : Int) by omega]
      unfold rootG
      by_cases c1 : w.length % p = 0
      · refine ev_pos (by omega) ?_
        refine ev_call (spec_lyRotate_ev w p ⟨by omega, by omega⟩ (by omega)) ?_
        refine ev_call (spec_l1Same_ev _ _ (by rw [win_length]; omega)) ?_
        by_cases c2 : win w p w.length = w
        · rw [if_pos (show rootP w p = true by unfold rootP; rw [decide_eq_true c1, decide_eq_true c2]; rfl)]
          exact ev_pos (by rw [decide_eq_true c2]) (Ev.now _)
        · rw [if_neg (show ¬ rootP w p = true by unfold rootP; rw [decide_eq_false c2]; simp)]
          exact ev_neg (by rw [decide_eq_false c2]; simp) (ih (p + 1) (by omega) (by omega))
      · rw [if_neg (show ¬ rootP w p = true by unfold rootP; rw [decide_eq_false c1]; simp)]
        exact ev_neg (by omega) (ih (p + 1) (by omega) (by omega))
  exact this (w.length - 1) 1 (by omega) (by omega)
def lyndonB (w : List Int) : Bool := decide (leastM w = 0) && decide (rootM w = w.length)
theorem natB (a b : Nat) : ((a : Int) == (b : Int)) = decide (a = b) := by
  rw [Bool.eq_iff_iff, beq_iff_eq, decide_eq_true_eq]; omega
theorem impl_isLyndon_ev {w : List Int} (hw : wordB w = true) : Ev (fun q => impl_isLyndon.f q w) (lyndonB w) := by
  unfold impl_isLyndon.f impl_isNecklace.f lyndonB
  refine ev_call (ev_call (impl_leastRotation_ev hw) (Ev.now _)) ?_
  dsimp only
  rw [show ((leastM w : Int) == 0) = decide (leastM w = 0) from natB _ 0]
  refine ev_if (fun h => ?_) (fun h => ev_some (by rw [Bool.eq_false_iff.mpr h]; rfl))
  rw [h]
  exact ev_call (impl_rootLength_ev hw) (ev_some (by rw [natB]; rfl))
theorem spec_lyLyndon_ev {w : List Int} (hw : wordB w = true) : Ev (fun q => spec_lyLyndon.f q w) (lyndonB w) := by
  unfold spec_lyLyndon.f spec_lyNecklace.f lyndonB
  refine ev_call (ev_call (spec_lyLeast_ev hw) (Ev.now _)) ?_
  rw [show ((leastM w : Int) == 0) = decide (leastM w = 0) from natB _ 0]
  refine ev_if (fun h => ?_) (fun h => ev_some (by rw [Bool.eq_false_iff.mpr h]; rfl))
  rw [h]
  exact ev_call (spec_lyRoot_ev (wordB_iff.mp hw).1) (ev_some (by rw [natB]; rfl))
/-! the next word -/
theorem next_tail (k : Int) : ∀ (n : Nat) (x : List Int), x.length = n → n ≤ 100 → ∃ r, Ev (fun q => impl_nextLyndon.l1 q k x) r ∧ Ev (fun q => spec_lyNext.l1 q k x) r ∧ r.length ≤ 100 := by
  intro n
  induction n with
  | zero =>
    intro x h _
    refine ⟨x, ?_, ?_, by omega⟩
    · refine Ev.step (fun k => by simp only [impl_nextLyndon.l1]; rfl) ?_
      exact ev_neg (by omega) (Ev.now _)
    · refine Ev.step (fun k => by simp only [spec_lyNext.l1]; rfl) ?_
      exact ev_neg (by omega) (Ev.now _)
  | succ n ih =>
    intro x h hn
    have ew : wrap64 ((x.length : Int) - 1) = (n : Int) := by rw [h]; exact wrap_pred (by omega)
    by_cases c : rd x (n : Int) = wrap64 (k - 1)
    · obtain ⟨r, e1, e2, hr⟩ := ih (x.take n) (by rw [List.length_take]; omega) (by omega)
      refine ⟨r, ?_, ?_, hr⟩
      · refine Ev.step (fun k => by simp only [impl_nextLyndon.l1]; rfl) ?_
        rw [ew]
        refine ev_pos (by omega) (ev_pos (by omega) (ev_pos (by omega) (ev_pos c (ev_pos (by omega) ?_))))
        rw [Int.toNat_natCast]; exact e1
      · refine Ev.step (fun k => by simp only [spec_lyNext.l1]; rfl) ?_
        rw [ew]
        refine ev_pos (by omega) (ev_pos (by omega) (ev_pos (by omega) (ev_pos c (ev_pos (by omega) ?_))))
        rw [Int.toNat_natCast]; exact e2
    · refine ⟨x.set n (wrap64 (rd x (n : Int) + 1)), ?_, ?_, by rw [List.length_set]; omega⟩
      · refine Ev.step (fun k => by simp only [impl_nextLyndon.l1]; rfl) ?_
        rw [ew]
        refine ev_pos (by omega) (ev_pos (by omega) (ev_pos (by omega) (ev_neg c ?_)))
        rw [Int.toNat_natCast]; exact Ev.now _
      · refine Ev.step (fun k => by simp only [spec_lyNext.l1]; rfl) ?_
        rw [ew]
        refine ev_pos (by omega) (ev_pos (by omega) (ev_pos (by omega) (ev_neg c ?_)))
        rw [Int.toNat_natCast]; exact Ev.now _
theorem next_both (u : List Int) (n : Nat) (k : Int) (hu : 1 ≤ u.length ∧ u.length ≤ 24) (hn : n ≤ 12) : ∃ r, Ev (fun q => impl_nextLyndon.f q u (n : Int) k) r ∧ Ev (fun q => spec_lyNext.f q u (n : Int) k) r ∧ r.length ≤ 100 := by
  unfold impl_nextLyndon.f spec_lyNext.f
  have : ∀ (d i : Nat) (x : List Int), i + d = n → x.length = i → ∃ r, Ev (fun q => impl_nextLyndon.l0 q u k x (n : Int) (i : Int)) r ∧ Ev (fun q => spec_lyNext.l0 q u (n : Int) k x) r ∧ r.length ≤ 100 := by
    intro d
    induction d with
    | zero =>
      intro i x h hx
      obtain ⟨r, e1, e2, hr⟩ := next_tail k x.length x rfl (by omega)
      refine ⟨r, ?_, ?_, hr⟩
      · refine Ev.step (fun k => by simp only [impl_nextLyndon.l0]; rfl) ?_
        exact ev_neg (by omega) e1
      · refine Ev.step (fun k => by simp only [spec_lyNext.l0]; rfl) ?_
        exact ev_neg (by omega) e2
    | succ d ih =>
      intro i x h hx
      have hm := Nat.mod_lt i (show 0 < u.length by omega)
      obtain ⟨r, e1, e2, hr⟩ := ih (i + 1) (x ++ [rd u ((i % u.length : Nat) : Int)]) (by omega) (by simp [hx])
      refine ⟨r, ?_, ?_, hr⟩
      · refine Ev.step (fun k => by simp only [impl_nextLyndon.l0]; rfl) ?_
        rw [tmod_nat, wrap_succ (by omega)]
        exact ev_pos (by omega) (ev_neg (by omega) (ev_pos (by omega) (ev_pos (by omega) (ev_pos (by omega) e1))))
      · refine Ev.step (fun k => by simp only [spec_lyNext.l0]; rfl) ?_
        rw [hx, show ((i : Int) % (u.length : Int)) = ((i % u.length : Nat) : Int) by omega]
        exact ev_pos (by omega) (ev_neg (by omega) (ev_pos (by omega) (ev_pos (by omega) (ev_pos (by omega) e2))))
  exact this n 0 [] (by omega) rfl
theorem nextLyndon_both (u : List Int) (n k : Int) (hu : u.length ≤ 60) (hk : -100 ≤ k ∧ k ≤ 100) : ∃ r, Ev (fun q => impl_NextLyndon.f q u n k) r ∧ Ev (fun q => spec_NextLyndon.f q u n k) r ∧ r.1.length ≤ 100 := by
  have hk1 : wrap64 (k - 1) = k - 1 := wrap_id (by omega)
  have o1 : impl_isOver.f n k = some (inB n 1 12 && inB k 1 6) := by
    unfold impl_isOver.f
    rw [impl_within_eq, Option.bind_some, impl_within_eq]
    cases h : inB n 1 12 <;> simp
  have o2 : spec_lyKind.f n k = some (inB n 1 12 && inB k 1 6) := by
    unfold spec_lyKind.f
    rw [spec_l1In_eq, Option.bind_some, spec_l1In_eq]
    cases h : inB n 1 12 <;> simp
  unfold impl_NextLyndon.f spec_NextLyndon.f
  rw [hk1]
  by_cases c1 : (inB n 1 12 && inB k 1 6) = true
  · obtain ⟨hn, hk2⟩ := (Bool.and_eq_true _ _).mp c1
    have hn := inB_iff.mp hn
    by_cases c2 : wordB u = true
    · have hl := (wordB_iff.mp c2).1
      by_cases c3 : (u.length : Int) > n
      · exact ⟨([], false), ev_plain o1 (ev_pos c1 (ev_call (impl_IsWord_ev u (by omega)) (ev_pos c2 (ev_pos c3 (Ev.now _))))), ev_plain o2 (ev_pos c1 (ev_call (spec_lyWord_ev u (by omega)) (ev_pos c2 (ev_pos c3 (Ev.now _))))), by simp⟩
      · by_cases c4 : allB u 0 (k - 1) = true
        · by_cases c5 : lyndonB u = true
          · obtain ⟨m, rfl⟩ := Int.eq_ofNat_of_zero_le (show 0 ≤ n by omega)
            obtain ⟨r, e1, e2, hr⟩ := next_both u m k hl (by omega)
            by_cases c6 : r.length = 0
            · obtain rfl := List.eq_nil_of_length_eq_zero c6
              refine ⟨([], false), ?_, ?_, by simp⟩
              · refine ev_plain o1 (ev_pos c1 (ev_call (impl_IsWord_ev u (by omega)) (ev_pos c2 (ev_neg c3 (ev_call (impl_allWithin_ev 0 _ u (by omega)) (ev_pos c4 (ev_call (impl_isLyndon_ev c2) (ev_pos c5 ?_))))))))
                exact ev_call e1 (ev_some rfl)
              · refine ev_plain o2 (ev_pos c1 (ev_call (spec_lyWord_ev u (by omega)) (ev_pos c2 (ev_neg c3 (ev_call (spec_l1All_ev 0 _ u (by omega)) (ev_pos c4 (ev_call (spec_lyLyndon_ev c2) (ev_pos c5 ?_))))))))
                exact ev_call e2 (ev_pos rfl (Ev.now _))
            · refine ⟨(r, true), ?_, ?_, hr⟩
              · refine ev_plain o1 (ev_pos c1 (ev_call (impl_IsWord_ev u (by omega)) (ev_pos c2 (ev_neg c3 (ev_call (impl_allWithin_ev 0 _ u (by omega)) (ev_pos c4 (ev_call (impl_isLyndon_ev c2) (ev_pos c5 ?_))))))))
                refine ev_call e1 (ev_some ?_)
                rw [decide_eq_true (show ((r.length : Int) > 0) by omega)]
              · refine ev_plain o2 (ev_pos c1 (ev_call (spec_lyWord_ev u (by omega)) (ev_pos c2 (ev_neg c3 (ev_call (spec_l1All_ev 0 _ u (by omega)) (ev_pos c4 (ev_call (spec_lyLyndon_ev c2) (ev_pos c5 ?_))))))))
                exact ev_call e2 (ev_neg (by omega) (ev_call e2 (Ev.now _)))
          · exact ⟨([], false), ev_plain o1 (ev_pos c1 (ev_call (impl_IsWord_ev u (by omega)) (ev_pos c2 (ev_neg c3 (ev_call (impl_allWithin_ev 0 _ u (by omega)) (ev_pos c4 (ev_call (impl_isLyndon_ev c2) (ev_neg c5 (Ev.now _))))))))), ev_plain o2 (ev_pos c1 (ev_call (spec_lyWord_ev u (by omega)) (ev_pos c2 (ev_neg c3 (ev_call (spec_l1All_ev 0 _ u (by omega)) (ev_pos c4 (ev_call (spec_lyLyndon_ev c2) (ev_neg c5 (Ev.now _))))))))), by simp⟩
        · exact ⟨([], false), ev_plain o1 (ev_pos c1 (ev_call (impl_IsWord_ev u (by omega)) (ev_pos c2 (ev_neg c3 (ev_call (impl_allWithin_ev 0 _ u (by omega)) (ev_neg c4 (Ev.now _))))))), ev_plain o2 (ev_pos c1 (ev_call (spec_lyWord_ev u (by omega)) (ev_pos c2 (ev_neg c3 (ev_call (spec_l1All_ev 0 _ u (by omega)) (ev_neg c4 (Ev.now _))))))), by simp⟩
    · exact ⟨([], false), ev_plain o1 (ev_pos c1 (ev_call (impl_IsWord_ev u (by omega)) (ev_neg c2 (Ev.now _)))), ev_plain o2 (ev_pos c1 (ev_call (spec_lyWord_ev u (by omega)) (ev_neg c2 (Ev.now _)))), by simp⟩
  · exact ⟨([], false), ev_plain o1 (ev_neg c1 (Ev.now _)), ev_plain o2 (ev_neg c1 (Ev.now _)), by simp⟩
theorem lyndon_ok {d : List Int} (hd : bytesL d) {a : Int} (s n : Int) (h0 : 0 ≤ a) (h1 : a ≤ 999999999990000) : ∃ r a' s', Ev (fun k => spec_l1Cur_lyndon.f k d a s n) (r, a', s') ∧ r.length ≤ 60 ∧ (a ≤ a' ∧ a' ≤ a + 200) := by
  obtain ⟨w, a1, s1, e1, hw, ha1⟩ := letters_ok hd s n h0 (by omega)
  unfold spec_l1Cur_lyndon.f
  by_cases c : wordB w = true
  · have hl := (wordB_iff.mp c).1
    obtain ⟨b, a2, s2, e2, ha2⟩ := one_ok hd (a := a1) s1 8 (by omega) (by omega)
    by_cases c2 : b = true
    · refine ⟨w, a2, s2, ev_call e1 ?_, hw, by omega⟩
      dsimp only
      refine ev_call (spec_lyWord_ev w (by omega)) (ev_pos c (ev_plain e2 ?_))
      dsimp only
      refine Ev.step (fun k => by simp only [spec_l1Cur_lyndon.j0]; rfl) ?_
      exact ev_pos c2 (Ev.now _)
    · have hm := leastM_lt (w := w) (by omega)
      have hwl : (win w (leastM w) w.length).length = w.length := win_length _ _ _
      have hr := rootG_range (win w (leastM w) w.length) ((win w (leastM w) w.length).length - 1) 1
      refine ⟨(win w (leastM w) w.length).take (rootM (win w (leastM w) w.length)), a2, s2, ev_call e1 ?_, by rw [List.length_take]; omega, by omega⟩
      dsimp only
      refine ev_call (spec_lyWord_ev w (by omega)) (ev_pos c (ev_plain e2 ?_))
      dsimp only
      refine Ev.step (fun k => by simp only [spec_l1Cur_lyndon.j0]; rfl) ?_
      refine ev_neg c2 (ev_call (spec_lyLeast_ev c) (ev_call (spec_lyRotate_ev w (leastM w) ⟨by omega, by omega⟩ (by omega)) (ev_call (spec_lyRoot_ev ⟨by omega, by omega⟩) ?_)))
      have hrm : rootM (win w (leastM w) w.length) ≤ w.length := by unfold rootM; omega
      refine ev_pos (by omega) (ev_pos (by omega) ?_)
      rw [Int.toNat_natCast]
      exact Ev.now _
  · refine ⟨w, a1, s1, ev_call e1 ?_, hw, by omega⟩
    dsimp only
    refine ev_call (spec_lyWord_ev w (by omega)) (ev_neg c ?_)
    refine Ev.step (fun k => by simp only [spec_l1Cur_lyndon.j0]; rfl) ?_
    exact ev_pos (by trivial) (Ev.now _)
theorem drawNext_ok {d : List Int} (hd : bytesL d) : ∃ u n k, Ev (fun q => spec_DrawNextLyndon.f q d) (u, n, k) ∧ u.length ≤ 60 ∧ (-100 ≤ k ∧ k ≤ 100) := by
  obtain ⟨n, k, a1, s1, e1, hn, hk, ha1⟩ := kind_ok hd (a := 0) 0 (by omega) (by omega)
  have l1 : ∃ x, spec_l1Least.f k 6 = some x := by unfold spec_l1Least.f; split <;> exact ⟨_, rfl⟩
  obtain ⟨x, l1⟩ := l1
  have l2 : ∃ y, spec_l1Most.f 1 x = some y := by unfold spec_l1Most.f; split <;> exact ⟨_, rfl⟩
  obtain ⟨y, l2⟩ := l2
  obtain ⟨w, a2, s2, e2, hw, ha2⟩ := lyndon_ok hd (a := a1) s1 y (by omega) (by omega)
  obtain ⟨b, a3, s3, e3, ha3⟩ := one_ok hd (a := a2) s2 3 (by omega) (by omega)
  unfold spec_DrawNextLyndon.f
  have go : ∀ r : List Int × Int × Int, Ev (fun q => (if b = true then (if (w.length : Int) > 0 then (if (w.length : Int) ≤ 12 then (some (w, (w.length : Int), k)) else (some (w, n, k))) else (some (w, n, k))) else (some (w, n, k)))) r → Ev (fun q => (spec_l1Cur_kind.f d 0 0).bind fun bt292 => ((spec_l1Least.f bt292.2.1 6).bind fun t296 => ((spec_l1Most.f 1 t296).bind fun t297 => ((spec_l1Cur_lyndon.f q d bt292.2.2.1 bt292.2.2.2 t297).bind fun bt298 => ((spec_l1Cur_one.f d bt298.2.1 bt298.2.2 3).bind fun bt303 => (if bt303.1 = true then (if (bt298.1.length : Int) > 0 then (if (bt298.1.length : Int) ≤ 12 then (some (bt298.1, (bt298.1.length : Int), bt292.2.1)) else (some (bt298.1, bt292.1, bt292.2.1))) else (some (bt298.1, bt292.1, bt292.2.1))) else (some (bt298.1, bt292.1, bt292.2.1)))))))) r := by
    intro r h
    exact ev_plain e1 (ev_plain l1 (ev_plain l2 (ev_call e2 (ev_plain e3 h))))
  by_cases c1 : b = true
  · by_cases c2 : (w.length : Int) > 0
    · by_cases c3 : (w.length : Int) ≤ 12
      · exact ⟨w, _, k, go _ (ev_pos c1 (ev_pos c2 (ev_pos c3 (Ev.now _)))), hw, by omega⟩
      · exact ⟨w, n, k, go _ (ev_pos c1 (ev_pos c2 (ev_neg c3 (Ev.now _)))), hw, by omega⟩
    · exact ⟨w, n, k, go _ (ev_pos c1 (ev_neg c2 (Ev.now _))), hw, by omega⟩
  · exact ⟨w, n, k, go _ (ev_neg c1 (Ev.now _)), hw, by omega⟩
theorem FnWordsAreRead : laws_FnWordsAreRead.Pure := by
  intro l0 l1 _ _ hb0 _ _ hb1
  refine Ev.rounds (r := true) ?_
  unfold laws_FnWordsAreRead.f
  obtain ⟨b, hbig⟩ := laws_big_some l0 l1
  refine ev_plain hbig ?_
  refine ev_if (fun _ => Ev.now _) (fun hbig2 => ?_)
  obtain ⟨w, a1, s1, e1, hw, _⟩ := letters_ok (bytes_wf hb0) (a := 0) 0 6 (by omega) (by omega)
  have hdraw : Ev (fun k => spec_DrawWordText.f k l0) w := by
    unfold spec_DrawWordText.f
    exact ev_call e1 (Ev.now _)
  have hj1 : Ev (fun q => laws_FnWordsAreRead.j1 q l1) true := by
    refine Ev.step (fun k => by simp only [laws_FnWordsAreRead.j1]; rfl) ?_
    obtain ⟨s, e2, hs⟩ := drawParse_ok (bytes_wf hb1)
    refine ev_call e2 (ev_call (impl_ParseWord_ev s (by omega)) (ev_call (spec_ParseWord_ev s (by omega)) ?_))
    refine ev_neg (bne_no _) ?_
    refine ev_call (laws_tSame_ev _ _ ?_) ?_
    · unfold parseM
      split
      · rw [digT_length]; omega
      · simp
    · rw [decide_eq_true rfl]
      refine Ev.step (fun k => by simp only [laws_FnWordsAreRead.j2]; rfl) ?_
      refine ev_neg (by decide) ?_
      obtain ⟨u, n, k, e3, hu, hk⟩ := drawNext_ok (bytes_wf hb1)
      refine ev_call e3 ?_
      obtain ⟨r, e4, e5, hr⟩ := nextLyndon_both u n k hu hk
      refine ev_call e4 (ev_call e5 (ev_pos (by simp) ?_))
      exact ev_call (laws_tSame_ev _ _ (by omega)) (ev_some (by simp))
  refine ev_call hdraw ?_
  by_cases c : wordB w = true
  · have hl := (wordB_iff.mp c).1
    have t1 : Ev (fun q => impl_WordText.f q w) (textM w, true) := by
      unfold impl_WordText.f
      exact ev_call (impl_IsWord_ev w (by omega)) (ev_pos c (ev_call (impl_wordText_ev w c) (Ev.now _)))
    have t2 : Ev (fun q => spec_WordText.f q w) (textM w, true) := by
      unfold spec_WordText.f
      exact ev_call (spec_lyWord_ev w (by omega)) (ev_pos c (ev_call (spec_lyText_ev w c) (Ev.now _)))
    refine ev_call t1 (ev_call t2 (ev_neg (by simp) (ev_pos rfl (ev_call (impl_IsWord_ev w (by omega)) ?_))))
    rw [c]
    refine Ev.step (fun k => by simp only [laws_FnWordsAreRead.j0]; rfl) ?_
    refine ev_neg (by simp) (ev_pos (by trivial) ?_)
    have hp : parseM (textM w) = (w, true) := by
      unfold parseM
      rw [textM_size, digT_text w c, if_pos c]
    refine ev_call (ev_to (impl_ParseWord_ev (textM w) (by rw [textM_size]; omega)) hp) ?_
    refine ev_pos rfl (ev_call (laws_tSame_ev _ _ (by dsimp only; omega)) (ev_pos (by simp) hj1))
  · have t1 : Ev (fun q => impl_WordText.f q w) ((⟨#[]⟩ : ByteArray), false) := by
      unfold impl_WordText.f
      exact ev_call (impl_IsWord_ev w (by omega)) (ev_neg c (Ev.now _))
    have t2 : Ev (fun q => spec_WordText.f q w) ((⟨#[]⟩ : ByteArray), false) := by
      unfold spec_WordText.f
      exact ev_call (spec_lyWord_ev w (by omega)) (ev_neg c (Ev.now _))
    refine ev_call t1 (ev_call t2 (ev_neg (by simp) (ev_pos rfl (ev_call (impl_IsWord_ev w (by omega)) ?_))))
    rw [Bool.eq_false_iff.mpr c]
    refine Ev.step (fun k => by simp only [laws_FnWordsAreRead.j0]; rfl) ?_
    exact ev_neg (by simp) (ev_neg (by simp) hj1)

end Go.Proofs.Ytfbafdlgnjkioaa.Pure
