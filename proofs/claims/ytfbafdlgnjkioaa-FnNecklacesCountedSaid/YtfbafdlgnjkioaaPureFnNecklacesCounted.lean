/- The pure statement of NecklacesCounted: it holds of all draws (so many sizes, each looked at by the kernel); no condition. -/
import Derived.Test.YtfbafdlgnjkioaaPFnNecklacesCountedx7
import Derived.Test.YtfbafdlgnjkioaaBase
import Derived.Test.YtfbafdlgnjkioaaLists
namespace Go.Proofs.Ytfbafdlgnjkioaa.Pure
open Go.RowKit Go.Proofs.Ytfbafdlgnjkioaa.PFnNecklacesCounted Go.Proofs.YtfbafdlgnjkioaaW.PrintWords Go.Proofs.YtfbafdlgnjkioaaW.PrintLast Go.Proofs.Ytfbafdlgnjkioaa.Base
set_option maxRecDepth 10000
set_option linter.unusedVariables false
set_option linter.unusedSimpArgs false

def bytesL (d : List Int) : Prop := ∀ x ∈ d, 0 ≤ x ∧ x ≤ 255
theorem and255 (x : Int) : 0 ≤ Go.bits .and .u64 x 255 ∧ Go.bits .and .u64 x 255 ≤ 255 := by
  have h : ((BitVec.ofInt 64 x) &&& (BitVec.ofInt 64 255)).toNat ≤ 255 := by
    rw [BitVec.toNat_and]; exact Nat.le_trans Nat.and_le_right (by decide)
  have e : Go.bits .and .u64 x 255 = IntKind.u64.wrap (((BitVec.ofInt 64 x) &&& (BitVec.ofInt 64 255)).toNat : Int) := rfl
  rw [e]
  generalize ((BitVec.ofInt 64 x) &&& (BitVec.ofInt 64 255)).toNat = m at h
  simp only [IntKind.wrap, IntKind.signed, IntKind.bits, Bool.false_and, Bool.false_eq_true, if_false]
  omega
theorem bytes_wf {d : List Int} (h : ∀ x ∈ d, (Lit.int .u8 x).wf = true) : bytesL d := by
  intro x hx
  have h := h x hx
  simp only [Lit.wf, IntKind.min, IntKind.max, IntKind.signed, IntKind.bits, Bool.and_eq_true, decide_eq_true_eq, Bool.false_eq_true, if_false] at h
  omega
theorem next_ok {d : List Int} (hd : bytesL d) {a : Int} (s : Int) (h0 : 0 ≤ a) (h1 : a ≤ 1000000000001000) : ∃ v s', spec_l1Cur_next.f d a s = some (v, a + 1, s') ∧ 0 ≤ v ∧ v ≤ 255 := by
  unfold spec_l1Cur_next.f
  rw [wrap_id (x := a + 1) (by omega)]
  by_cases ha : a < (d.length : Int)
  · rw [if_pos ha, if_pos h0, if_pos (by omega)]
    have hb : 0 ≤ rd d a ∧ rd d a ≤ 255 := by
      obtain ⟨j, rfl⟩ := Int.eq_ofNat_of_zero_le h0
      exact hd _ (by rw [show rd d ((j : Nat) : Int) = d[j]'(by omega) from rd_get d j (by omega)]; exact List.getElem_mem _)
    exact ⟨_, _, rfl, by rw [wrap_id (by omega)]; exact hb.1, by rw [wrap_id (by omega)]; exact hb.2⟩
  · rw [if_neg ha]
    by_cases hb : a + 1 ≤ (d.length : Int)
    · omega
    · rw [if_neg hb]
      have h := and255 ((IntKind.u64.wrap ((IntKind.u64.wrap ((IntKind.u64.wrap (s * 6364136223846793005)))) + 1442695040888963407)) / 1099511627776)
      exact ⟨_, _, rfl, by rw [wrap_id (by omega)]; exact h.1, by rw [wrap_id (by omega)]; exact h.2⟩
theorem tmod_lt {x n : Int} (h0 : 0 ≤ x) (hn : 1 ≤ n) : 0 ≤ Int.tmod x n ∧ Int.tmod x n < n := by
  obtain ⟨p, rfl⟩ := Int.eq_ofNat_of_zero_le h0
  obtain ⟨q, rfl⟩ := Int.eq_ofNat_of_zero_le (show 0 ≤ n by omega)
  rw [show ((p : Nat) : Int).tmod ((q : Nat) : Int) = ((p % q : Nat) : Int) from tmod_nat p q]
  have := Nat.mod_lt p (show 0 < q by omega)
  omega
theorem pick_ok {d : List Int} (hd : bytesL d) {a : Int} (s n : Int) (h0 : 0 ≤ a) (h1 : a ≤ 1000000000000000) : ∃ v a' s', spec_l1Cur_pick.f d a s n = some (v, a', s') ∧ (0 ≤ v ∧ (v < n ∨ (n ≤ 1 ∧ v = 0))) ∧ (a ≤ a' ∧ a' ≤ a + 2) := by
  unfold spec_l1Cur_pick.f
  by_cases hn : n ≤ 1
  · rw [if_pos hn]
    exact ⟨0, a, s, rfl, ⟨by omega, .inr ⟨hn, rfl⟩⟩, by omega⟩
  · rw [if_neg hn]
    obtain ⟨v, s1, e1, hv⟩ := next_ok hd s h0 (by omega)
    rw [e1, Option.bind_some]
    dsimp only
    by_cases h2 : n > 200
    · rw [if_pos h2]
      obtain ⟨u, s2, e2, hu⟩ := next_ok hd (a := a + 1) s1 (by omega) (by omega)
      rw [e2, Option.bind_some]
      dsimp only
      rw [if_neg (by omega), wrap_id (x := v * 256) (by omega), wrap_id (x := v * 256 + u) (by omega)]
      have := tmod_lt (x := v * 256 + u) (n := n) (by omega) (by omega)
      exact ⟨_, _, _, rfl, ⟨this.1, .inl this.2⟩, by omega⟩
    · rw [if_neg h2, if_neg (by omega)]
      have := tmod_lt (x := v) (n := n) (by omega) (by omega)
      exact ⟨_, _, _, rfl, ⟨this.1, .inl this.2⟩, by omega⟩

theorem among_ok {d : List Int} (hd : bytesL d) {a : Int} (s : Int) (l : List Int) (hl : 1 ≤ l.length) (h0 : 0 ≤ a) (h1 : a ≤ 1000000000000000) : ∃ v a' s', spec_l1Cur_among.f d a s l = some (v, a', s') ∧ v ∈ l ∧ (a ≤ a' ∧ a' ≤ a + 2) := by
  obtain ⟨v, a', s', e, hv, h⟩ := pick_ok hd s (l.length : Int) h0 h1
  unfold spec_l1Cur_among.f
  rw [e, Option.bind_some]
  dsimp only
  rw [if_pos (by omega), if_pos (by omega)]
  refine ⟨_, _, _, rfl, ?_, h⟩
  obtain ⟨j, rfl⟩ := Int.eq_ofNat_of_zero_le hv.1
  rw [show rd l ((j : Nat) : Int) = l[j]'(by omega) from rd_get l j (by omega)]
  exact List.getElem_mem _

def kindS (n k : Int) : Prop := ((1 ≤ n ∧ n ≤ 6) ∧ (1 ≤ k ∧ k ≤ 3)) ∨ ((n = -1 ∨ n = 0 ∨ n = 1 ∨ n = 9 ∨ n = 12 ∨ n = 13) ∧ (1 ≤ k ∧ k ≤ 3)) ∨ ((1 ≤ n ∧ n ≤ 6) ∧ (k = -1 ∨ k = 0 ∨ k = 4 ∨ k = 6 ∨ k = 7))
theorem kind_of {d : List Int} (hd : bytesL d) {a : Int} (s : Int) (h0 : 0 ≤ a) (h1 : a ≤ 999999999999000) : ∃ n k a' s', spec_l1Cur_kind.f d a s = some (n, k, a', s') ∧ kindS n k ∧ (a ≤ a' ∧ a' ≤ a + 20) := by
  obtain ⟨v1, a1, s1, e1, hv1, ha1⟩ := pick_ok hd s 6 h0 (by omega)
  obtain ⟨v2, a2, s2, e2, hv2, ha2⟩ := pick_ok hd (a := a1) s1 3 (by omega) (by omega)
  obtain ⟨v3, a3, s3, e3, hv3, ha3⟩ := pick_ok hd (a := a2) s2 10 (by omega) (by omega)
  unfold spec_l1Cur_kind.f kindS
  rw [e1, Option.bind_some]
  dsimp only
  rw [e2, Option.bind_some]
  dsimp only
  rw [e3, Option.bind_some]
  dsimp only
  by_cases c1 : v3 = 0
  · rw [if_pos c1]
    obtain ⟨u, a4, s4, e4, hu, ha4⟩ := among_ok hd (a := a3) s3 [(-1), 0, 1, 9, 12, 13] (by simp) (by omega) (by omega)
    rw [e4, Option.bind_some]
    dsimp only
    rw [wrap_id (x := 1 + v2) (by omega)]
    exact ⟨_, _, _, _, rfl, .inr (.inl ⟨by simpa using hu, by omega⟩), by omega⟩
  · rw [if_neg c1]
    by_cases c2 : v3 = 1
    · rw [if_pos c2]
      obtain ⟨u, a4, s4, e4, hu, ha4⟩ := among_ok hd (a := a3) s3 [(-1), 0, 4, 6, 7] (by simp) (by omega) (by omega)
      rw [e4, Option.bind_some]
      dsimp only
      rw [wrap_id (x := 1 + v1) (by omega)]
      exact ⟨_, _, _, _, rfl, .inr (.inr ⟨by omega, by simpa using hu⟩), by omega⟩
    · rw [if_neg c2, wrap_id (x := 1 + v1) (by omega), wrap_id (x := 1 + v2) (by omega)]
      exact ⟨_, _, _, _, rfl, .inl ⟨by omega, by omega⟩, by omega⟩

theorem laws_big_some (a b : List Int) : ∃ r, laws_big.f a b = some r := by
  unfold laws_big.f
  split
  · exact ⟨_, rfl⟩
  · exact ⟨_, rfl⟩
theorem laws_big_ok {a b : List Int} {r : Bool} (h : laws_big.f a b = some r) (hr : ¬ r = true) : a.length ≤ 1048576 ∧ b.length ≤ 1048576 := by
  unfold laws_big.f at h
  split at h
  · cases h; exact absurd rfl hr
  · rename_i h1
    obtain rfl := Option.some.inj h
    rw [wrap_id (by omega)] at hr
    simp at hr
    omega

theorem impl_within_eq (a lo hi : Int) : impl_within.f a lo hi = some (inB a lo hi) := by
  unfold impl_within.f inB
  by_cases h : a ≥ lo
  · rw [if_pos h]; simp [h]
  · rw [if_neg h]; simp [show ¬ lo ≤ a from h]

theorem impl_allWithin_loop (lo hi : Int) (xs : List Int) (hx : xs.length ≤ 1000000000000) : ∀ (d i : Nat), i + d = xs.length →
    Ev (fun k => impl_allWithin.l0 k lo hi xs (xs.length : Int) (i : Int)) (allB (xs.drop i) lo hi) := by
  intro d
  induction d with
  | zero =>
    intro i h
    rw [List.drop_eq_nil_of_le (by omega)]
    refine Ev.step (f := fun _ => some true) (fun k => ?_) (Ev.now _)
    simp only [impl_allWithin.l0]; rw [if_neg (by omega)]
  | succ d ih =>
    intro i h
    have hlt : i < xs.length := by omega
    rw [drop_rd xs i hlt]
    refine Ev.step (f := fun k => if inB (rd xs (i : Int)) lo hi = true then impl_allWithin.l0 k lo hi xs (xs.length : Int) ((i + 1 : Nat) : Int) else some false) (fun k => ?_) ?_
    · simp only [impl_allWithin.l0]; rw [if_pos (by omega), if_pos (by omega), if_pos (by omega), impl_within_eq, wrap_succ (by omega)]; rfl
    · by_cases hb : inB (rd xs (i : Int)) lo hi = true
      · exact ev_pos hb (ev_to (ih (i + 1) (by omega)) (by simp [allB, hb]))
      · exact ev_neg hb (ev_some (by simp [allB, Bool.eq_false_iff.mpr hb]))
theorem impl_allWithin_ev (lo hi : Int) (xs : List Int) (hx : xs.length ≤ 1000000000000) : Ev (fun k => impl_allWithin.f k xs lo hi) (allB xs lo hi) :=
  impl_allWithin_loop lo hi xs hx xs.length 0 (by omega)

theorem slices_Equal_int_int_loop (a b : List Int) (ha : a.length ≤ 1000000000000) (hab : a.length = b.length) : ∀ (d i : Nat), i + d = a.length →
    Ev (fun k => slices_Equal_int_int.l0 k a b (a.length : Int) (i : Int)) (decide (a.drop i = b.drop i)) := by
  intro d
  induction d with
  | zero =>
    intro i h
    rw [List.drop_eq_nil_of_le (by omega), List.drop_eq_nil_of_le (by omega)]
    refine Ev.step (f := fun _ => some true) (fun k => ?_) (Ev.now _)
    simp only [slices_Equal_int_int.l0]; rw [if_neg (by omega)]
  | succ d ih =>
    intro i h
    rw [drop_rd a i (by omega), drop_rd b i (by omega)]
    refine Ev.step (f := fun k => if rd a (i : Int) = rd b (i : Int) then slices_Equal_int_int.l0 k a b (a.length : Int) ((i + 1 : Nat) : Int) else some false) (fun k => ?_) ?_
    · simp only [slices_Equal_int_int.l0]; rw [if_pos (by omega), if_pos (by omega), if_pos (by omega), if_pos (by omega), wrap_succ (by omega)]
    · exact ev_if (fun e => ev_to (ih (i + 1) (by omega)) (by simp [e])) (fun e => ev_some (by simp [e]))
theorem slices_Equal_int_int_ev (a b : List Int) (ha : a.length ≤ 1000000000000) : Ev (fun k => slices_Equal_int_int.f k a b) (decide (a = b)) := by
  unfold slices_Equal_int_int.f
  refine ev_if (fun h => ?_) (fun h => ev_some ?_)
  · exact slices_Equal_int_int_loop a b ha (by omega) a.length 0 (by omega)
  · rw [eq_comm, decide_eq_false_iff_not]; intro e; exact h (by rw [e])

def wordB (w : List Int) : Bool := inB (w.length : Int) 1 24 && allB w 0 5
theorem wordB_iff {w : List Int} : wordB w = true ↔ (1 ≤ w.length ∧ w.length ≤ 24) ∧ ∀ x ∈ w, 0 ≤ x ∧ x ≤ 5 := by
  simp only [wordB, Bool.and_eq_true, inB_iff, allB_iff]
  exact and_congr ⟨fun h => ⟨by omega, by omega⟩, fun h => ⟨by omega, by omega⟩⟩ Iff.rfl
theorem impl_IsWord_ev (w : List Int) (hw : w.length ≤ 1000000000000) : Ev (fun q => impl_IsWord.f q w) (wordB w) := by
  unfold impl_IsWord.f wordB
  refine ev_plain (impl_within_eq _ _ _) (ev_if (fun h => ?_) (fun h => ev_some ?_))
  · rw [h]; exact ev_call (impl_allWithin_ev 0 5 w hw) (ev_some rfl)
  · rw [Bool.eq_false_iff.mpr h]; rfl
theorem rd_mem {w : List Int} {i : Nat} (h : i < w.length) : rd w (i : Int) ∈ w := by
  rw [rd_get w i h]; exact List.getElem_mem h
theorem win_round (w : List Int) (k : Nat) (hk : k ≤ w.length) : win w k w.length = w.drop k ++ w.take k := by
  apply List.ext_getElem
  · rw [win_length, List.length_append, List.length_drop, List.length_take]; omega
  · intro j h1 h2
    rw [win_length] at h1
    have e : (win w k w.length)[j] = w.getD ((k + j) % w.length) 0 := by simp [win]
    rw [e, List.getElem_append]
    by_cases c : j < w.length - k
    · rw [dif_pos (by rw [List.length_drop]; omega), List.getElem_drop, Nat.mod_eq_of_lt (by omega), List.getD_eq_getElem?_getD, List.getElem?_eq_getElem (by omega)]; rfl
    · rw [dif_neg (by rw [List.length_drop]; omega), List.getElem_take, List.getD_eq_getElem?_getD]
      rw [show (k + j) % w.length = j - (w.drop k).length by rw [List.length_drop, Nat.mod_eq_sub_mod (by omega), Nat.mod_eq_of_lt (by omega)]; omega, List.getElem?_eq_getElem (by rw [List.length_drop]; omega)]; rfl
theorem impl_rotated_eq (w : List Int) (by_ : Nat) (hw : 1 ≤ w.length ∧ w.length ≤ 24) (hb : by_ < w.length) : impl_rotated.f w (by_ : Int) = some (win w by_ w.length) := by
  have e : Int.tmod (wrap64 ((Int.tmod (by_ : Int) (w.length : Int)) + (w.length : Int))) (w.length : Int) = ((by_ : Nat) : Int) := by
    rw [tmod_nat, Nat.mod_eq_of_lt hb, wrap_id (by omega), show (by_ : Int) + (w.length : Int) = ((by_ + w.length : Nat) : Int) by omega, tmod_nat, Nat.add_mod_right, Nat.mod_eq_of_lt hb]
  unfold impl_rotated.f
  rw [if_neg (by omega), e, if_pos (by omega), if_pos (by omega), Int.toNat_natCast]
  unfold slices_Concat_int_int.f
  rw [if_pos ⟨by simp; omega, by simp⟩, win_round w by_ (by omega)]
  simp
/-- Which one is less, at the first place where they differ. -/
def cmpL : List Int → List Int → Int
  | a :: s, b :: t => if a = b then cmpL s t else if a < b then -1 else 1
  | _, _ => 0
theorem cmp_eq (a b : Int) : cmp_Compare_int.f a b = some (if a = b then 0 else if a < b then -1 else 1) := by
  unfold cmp_Compare_int.f cmp_isNaN_int.f
  simp only [Option.bind_some, bne_self_eq_false, Bool.false_eq_true, if_false]
  by_cases h1 : a = b
  · subst h1
    rw [if_neg (Int.lt_irrefl _), if_neg (Int.lt_irrefl _), if_pos rfl]
  · by_cases h2 : a < b
    · rw [if_pos h2, if_neg h1, if_pos h2]
    · rw [if_neg h2, if_pos (by omega), if_neg h1, if_neg h2]
theorem slices_Compare_ev (a b : List Int) (hab : a.length = b.length) (ha : a.length ≤ 1000000) : Ev (fun q => slices_Compare_int_int.f q a b) (cmpL a b) := by
  unfold slices_Compare_int_int.f
  have : ∀ (d i : Nat), i + d = a.length → Ev (fun q => slices_Compare_int_int.l0 q a b a (a.length : Int) (i : Int)) (cmpL (a.drop i) (b.drop i)) := by
    intro d
    induction d with
    | zero =>
      intro i h
      rw [List.drop_eq_nil_of_le (by omega), List.drop_eq_nil_of_le (by omega)]
      refine Ev.step (fun k => by simp only [slices_Compare_int_int.l0]; rfl) ?_
      exact ev_neg (by omega) (ev_neg (by omega) (Ev.now _))
    | succ d ih =>
      intro i h
      rw [drop_rd a i (by omega), drop_rd b i (by omega)]
      refine Ev.step (fun k => by simp only [slices_Compare_int_int.l0]; rfl) ?_
      refine ev_pos (by omega) ?_
      refine ev_pos (by omega) ?_
      refine ev_pos (by omega) ?_
      refine ev_neg (by omega) ?_
      refine ev_pos (by omega) ?_
      refine ev_plain (cmp_eq _ _) ?_
      rw [wrap_succ (by omega)]
      unfold cmpL
      by_cases h1 : rd a (i : Int) = rd b (i : Int)
      · rw [if_pos h1, if_pos h1]
        exact ev_pos rfl (ih (i + 1) (by omega))
      · rw [if_neg h1, if_neg h1]
        by_cases h2 : rd a (i : Int) < rd b (i : Int)
        · rw [if_pos h2]; exact ev_neg (by decide) (Ev.now _)
        · rw [if_neg h2]; exact ev_neg (by decide) (Ev.now _)
  exact this a.length 0 (by omega)
/-- The least number by which the rotation is least. -/
def leastS (w : List Int) (best i : Nat) : Nat := if cmpL (win w i w.length) (win w best w.length) < 0 then i else best
def leastM (w : List Int) : Nat := (List.range' 1 (w.length - 1)).foldl (leastS w) 0
theorem leastS_lt {w : List Int} {best i : Nat} (h1 : best < w.length) (h2 : i < w.length) : leastS w best i < w.length := by unfold leastS; split <;> assumption
theorem leastM_lt {w : List Int} (hw : 1 ≤ w.length) : leastM w < w.length := by
  unfold leastM
  refine foldl_inv (fun x => x < w.length) _ _ _ (by omega) (fun b a ha hb => leastS_lt hb ?_)
  simp at ha; omega
theorem impl_leastRotation_ev {w : List Int} (hw : wordB w = true) : Ev (fun q => impl_leastRotation.f q w) ((leastM w : Int), win w (leastM w) w.length) := by
  obtain ⟨hl, hx⟩ := wordB_iff.mp hw
  have hc : impl_copied.f w = some (win w 0 w.length) := by
    unfold impl_copied.f
    rw [Option.bind_some, if_pos (by simp; omega), win_round w 0 (by omega)]
    simp
  unfold impl_leastRotation.f
  refine ev_plain hc ?_
  have : ∀ (d i best : Nat), i + d = w.length → best < w.length → 1 ≤ i → Ev (fun q => impl_leastRotation.l0 q w (best : Int) (win w best w.length) (i : Int)) (((List.range' i d).foldl (leastS w) best : Nat), win w ((List.range' i d).foldl (leastS w) best) w.length) := by
    intro d
    induction d with
    | zero =>
      intro i best h hb hi
      refine Ev.step (fun k => by simp only [impl_leastRotation.l0]; rfl) ?_
      exact ev_neg (by omega) (Ev.now _)
    | succ d ih =>
      intro i best h hb hi
      refine Ev.step (fun k => by simp only [impl_leastRotation.l0]; rfl) ?_
      refine ev_pos (by omega) ?_
      refine ev_plain (impl_rotated_eq w i hl (by omega)) ?_
      refine ev_call (slices_Compare_ev _ _ (by rw [win_length, win_length]) (by rw [win_length]; omega)) ?_
      rw [wrap_succ (by omega), List.range'_succ, List.foldl_cons]
      by_cases c : cmpL (win w i w.length) (win w best w.length) < 0
      · refine ev_pos c ?_
        rw [show leastS w best i = i by unfold leastS; rw [if_pos c]]
        exact ih (i + 1) i (by omega) (by omega) (by omega)
      · refine ev_neg c ?_
        rw [show leastS w best i = best by unfold leastS; rw [if_neg c]]
        exact ih (i + 1) best (by omega) hb (by omega)
  exact this (w.length - 1) 1 0 (by omega) (by omega) (by omega)
theorem win_mem5 {w : List Int} (hw : wordB w = true) (p n : Nat) : ∀ x ∈ win w p n, 0 ≤ x ∧ x ≤ 5 := fun x h => (wordB_iff.mp hw).2 x (mem_win (by have := (wordB_iff.mp hw).1; omega) h)
/-- The length of the shortest word of which the word is a power. -/
def rootP (w : List Int) (p : Nat) : Bool := decide (w.length % p = 0) && decide (win w p w.length = w)
def rootG (w : List Int) : Nat → Nat → Nat
  | 0, p => p
  | d + 1, p => if rootP w p = true then p else rootG w d (p + 1)
def rootM (w : List Int) : Nat := rootG w (w.length - 1) 1
theorem rootG_range (w : List Int) : ∀ d p, p ≤ rootG w d p ∧ rootG w d p ≤ p + d := by
  intro d
  induction d with
  | zero => intro p; simp [rootG]
  | succ d ih =>
    intro p
    unfold rootG
    have := ih (p + 1)
    split <;> omega
theorem win_full (w : List Int) : win w w.length w.length = w := by
  rw [win_round w w.length (Nat.le_refl _)]; simp
theorem impl_rootLength_ev {w : List Int} (hw : wordB w = true) : Ev (fun q => impl_rootLength.f q w) (rootM w : Int) := by
  obtain ⟨hl, hx⟩ := wordB_iff.mp hw
  unfold impl_rootLength.f
  have hrot : ∀ p : Nat, 1 ≤ p → p ≤ w.length → impl_rotated.f w (p : Int) = some (win w p w.length) := by
    intro p h1 h2
    by_cases c : p < w.length
    · exact impl_rotated_eq w p hl c
    · obtain rfl : p = w.length := by omega
      have e : Int.tmod (wrap64 ((Int.tmod (w.length : Int) (w.length : Int)) + (w.length : Int))) (w.length : Int) = 0 := by
        rw [tmod_nat, Nat.mod_self, wrap_id (by omega), show ((0 : Nat) : Int) + (w.length : Int) = ((w.length : Nat) : Int) by omega, tmod_nat, Nat.mod_self]; rfl
      unfold impl_rotated.f
      rw [if_neg (by omega), e, if_pos (by omega), if_pos (by omega)]
      unfold slices_Concat_int_int.f
      rw [if_pos ⟨by simp; omega, by simp⟩, win_full]
      simp
  have : ∀ (d p : Nat), p + d = w.length → 1 ≤ p → Ev (fun q => impl_rootLength.l0 q w (p : Int)) (rootG w d p : Int) := by
    intro d
    induction d with
    | zero =>
      intro p h hp
      obtain rfl : p = w.length := by omega
      refine Ev.step (fun k => by simp only [impl_rootLength.l0]; rfl) ?_
      refine ev_neg (by omega) ?_
      refine ev_pos (by simp) ?_
      refine ev_plain (hrot _ hp (Nat.le_refl _)) ?_
      rw [win_full]
      refine ev_call (slices_Equal_int_int_ev _ _ (by omega)) ?_
      exact ev_pos (by simp) (Ev.now _)
    | succ d ih =>
      intro p h hp
      refine Ev.step (fun k => by simp only [impl_rootLength.l0]; rfl) ?_
      refine ev_neg (by omega) ?_
      rw [wrap_succ (by omega), show ((w.length : Int) % (p : Int)) = ((w.length % p : Nat) : Int) by omega]
      unfold rootG
      by_cases c1 : w.length % p = 0
      · refine ev_pos (by omega) ?_
        refine ev_plain (hrot _ hp (by omega)) ?_
        refine ev_call (slices_Equal_int_int_ev _ _ (by rw [win_length]; omega)) ?_
        by_cases c2 : win w p w.length = w
        · rw [if_pos (show rootP w p = true by unfold rootP; rw [decide_eq_true c1, decide_eq_true c2]; rfl)]
          exact ev_pos (by rw [decide_eq_true c2]) (Ev.now _)
        · rw [if_neg (show ¬ rootP w p = true by unfold rootP; rw [decide_eq_false c2]; simp)]
          exact ev_neg (by rw [decide_eq_false c2]; simp) (ih (p + 1) (by omega) (by omega))
      · rw [if_neg (show ¬ rootP w p = true by unfold rootP; rw [decide_eq_false c1]; simp)]
        exact ev_neg (by omega) (ih (p + 1) (by omega) (by omega))
  exact this (w.length - 1) 1 (by omega) (by omega)
def lyndonB (w : List Int) : Bool := decide (leastM w = 0) && decide (rootM w = w.length)
theorem natB (a b : Nat) : ((a : Int) == (b : Int)) = decide (a = b) := by
  rw [Bool.eq_iff_iff, beq_iff_eq, decide_eq_true_eq]; omega
theorem impl_isLyndon_ev {w : List Int} (hw : wordB w = true) : Ev (fun q => impl_isLyndon.f q w) (lyndonB w) := by
  unfold impl_isLyndon.f impl_isNecklace.f lyndonB
  refine ev_call (ev_call (impl_leastRotation_ev hw) (Ev.now _)) ?_
  dsimp only
  rw [show ((leastM w : Int) == 0) = decide (leastM w = 0) from natB _ 0]
  refine ev_if (fun h => ?_) (fun h => ev_some (by rw [Bool.eq_false_iff.mpr h]; rfl))
  rw [h]
  exact ev_call (impl_rootLength_ev hw) (ev_some (by rw [natB]; rfl))

theorem slices_Reverse_loop (n : Nat) (hn : n ≤ 1000000000000) : ∀ (d i : Nat) (j : Int) (ys : List Int), ys.length = n → (i : Int) + j = (n : Int) - 1 → n ≤ 2 * i + d →
    ∃ r, r.length = n ∧ (∀ q, q < n → r.getD q 0 = if i ≤ q ∧ (q : Int) ≤ j then ys.getD (n - 1 - q) 0 else ys.getD q 0) ∧ Ev (fun k => slices_Reverse_int_int.l0 k ys (i : Int) j) r := by
  intro d
  induction d with
  | zero =>
    intro i j ys h1 h2 h3
    refine ⟨ys, h1, fun q hq => ?_, Ev.step (fun k => by simp only [slices_Reverse_int_int.l0]; rfl) (ev_neg (by omega) (Ev.now _))⟩
    split
    · congr 1; omega
    · rfl
  | succ d ih =>
    intro i j ys h1 h2 h3
    by_cases hij : (i : Int) < j
    · obtain ⟨j, rfl⟩ := Int.eq_ofNat_of_zero_le (show 0 ≤ j by omega)
      obtain ⟨r, r1, r2, r3⟩ := ih (i + 1) ((j : Int) - 1) ((ys.set i (rd ys (j : Int))).set j (rd ys (i : Int))) (by simpa using h1) (by omega) (by omega)
      refine ⟨r, r1, fun q hq => ?_, ?_⟩
      · rw [r2 q hq]
        have e : ∀ p, p < n → ((ys.set i (rd ys (j : Int))).set j (rd ys (i : Int))).getD p 0 = if p = j then ys.getD i 0 else if p = i then ys.getD j 0 else ys.getD p 0 := by
          intro p hp
          simp only [List.getD_eq_getElem?_getD, List.getElem?_set, List.length_set, h1, rd_nat]
          by_cases e1 : j = p
          · subst e1; simp [hp]
          · by_cases e2 : i = p
            · subst e2; simp [hp, e1, Ne.symm e1]
            · simp [e1, e2, Ne.symm e1, Ne.symm e2]
        by_cases c1 : i + 1 ≤ q ∧ (q : Int) ≤ (j : Int) - 1
        · rw [if_pos c1, if_pos (by omega), e _ (by omega), if_neg (by omega), if_neg (by omega)]
        · rw [if_neg c1, e q hq]
          by_cases c2 : q = j
          · subst c2; rw [if_pos rfl, if_pos (by omega)]; congr 1; omega
          · rw [if_neg c2]
            by_cases c3 : q = i
            · subst c3; rw [if_pos rfl, if_pos (by omega)]; congr 1; omega
            · rw [if_neg c3, if_neg (by omega)]
      · refine Ev.step (fun k => by simp only [slices_Reverse_int_int.l0]; rfl) ?_
        refine ev_pos hij (ev_pos (by omega) (ev_pos (by omega) (ev_pos (by omega) (ev_pos (by omega) ?_))))
        rw [wrap_succ (by omega), wrap_id (by omega), Int.toNat_natCast, Int.toNat_natCast]
        exact r3
    · refine ⟨ys, h1, fun q hq => ?_, Ev.step (fun k => by simp only [slices_Reverse_int_int.l0]; rfl) (ev_neg hij (Ev.now _))⟩
      split
      · congr 1; omega
      · rfl
theorem slices_Reverse_int_int_ev (xs : List Int) (hx : xs.length ≤ 1000000000000) : Ev (fun k => slices_Reverse_int_int.f k xs) xs.reverse := by
  unfold slices_Reverse_int_int.f
  rw [wrap_id (by omega)]
  obtain ⟨r, r1, r2, r3⟩ := slices_Reverse_loop xs.length hx xs.length 0 ((xs.length : Int) - 1) xs rfl (by omega) (by omega)
  refine ev_to r3 (List.ext_getElem (by simp [r1]) fun q h1 h2 => ?_)
  have := r2 q (by omega)
  rw [if_pos (by omega)] at this
  simp only [List.getD_eq_getElem?_getD, List.getElem?_eq_getElem h1, List.getElem?_eq_getElem (show xs.length - 1 - q < xs.length by omega), Option.getD_some] at this
  rw [this, List.getElem_reverse]

theorem laws_tSame_loop (a b : List Int) (ha : a.length ≤ 1000000000000) (hab : a.length = b.length) : ∀ (d i : Nat), i + d = a.length →
    Ev (fun k => laws_tSame.l0 k a b (a.length : Int) (i : Int)) (decide (a.drop i = b.drop i)) := by
  intro d
  induction d with
  | zero =>
    intro i h
    rw [List.drop_eq_nil_of_le (by omega), List.drop_eq_nil_of_le (by omega)]
    refine Ev.step (f := fun _ => some true) (fun k => ?_) (Ev.now _)
    simp only [laws_tSame.l0]; rw [if_neg (by omega)]
  | succ d ih =>
    intro i h
    rw [drop_rd a i (by omega), drop_rd b i (by omega)]
    refine Ev.step (f := fun k => if rd a (i : Int) = rd b (i : Int) then laws_tSame.l0 k a b (a.length : Int) ((i + 1 : Nat) : Int) else some false) (fun k => ?_) ?_
    · simp only [laws_tSame.l0]; rw [if_pos (by omega), if_pos (by omega), if_pos (by omega), if_pos (by omega), wrap_succ (by omega)]
    · exact ev_if (fun e => ev_to (ih (i + 1) (by omega)) (by simp [e])) (fun e => ev_some (by simp [e]))
theorem laws_tSame_ev (a b : List Int) (ha : a.length ≤ 1000000000000) : Ev (fun k => laws_tSame.f k a b) (decide (a = b)) := by
  unfold laws_tSame.f
  refine ev_if (fun h => ?_) (fun h => ev_some ?_)
  · exact laws_tSame_loop a b ha (by omega) a.length 0 (by omega)
  · rw [eq_comm, decide_eq_false_iff_not]; intro e; exact h (by rw [e])

theorem spec_l1In_eq (a lo hi : Int) : spec_l1In.f a lo hi = some (inB a lo hi) := by
  unfold spec_l1In.f inB
  by_cases h : a ≥ lo
  · rw [if_pos h]; simp [h]
  · rw [if_neg h]; simp [show ¬ lo ≤ a from h]

/-! words as numbers -/
def codeH (k : Nat) : List Int → Nat
  | [] => 0
  | a :: t => a.toNat * k ^ t.length + codeH k t
def digs (k : Nat) (w : List Int) : Prop := ∀ x ∈ w, 0 ≤ x ∧ x < (k : Int)
theorem digs_tail {k : Nat} {a : Int} {t : List Int} (h : digs k (a :: t)) : digs k t := fun x hx => h x (by simp [hx])
theorem codeH_lt (k : Nat) : ∀ w : List Int, digs k w → codeH k w < k ^ w.length
  | [], _ => by simp [codeH]
  | a :: t, h => by
    have h1 := codeH_lt k t (digs_tail h)
    have h2 := h a (by simp)
    have h3 : (a.toNat + 1) * k ^ t.length ≤ k * k ^ t.length := Nat.mul_le_mul_right _ (by omega)
    rw [Nat.add_mul, Nat.one_mul] at h3
    unfold codeH
    rw [List.length_cons, Nat.pow_succ, Nat.mul_comm (k ^ t.length) k]
    omega
theorem codeH_cons (k : Nat) (a : Int) (t : List Int) : codeH k (a :: t) = a.toNat * k ^ t.length + codeH k t := rfl
theorem codeH_append (k : Nat) : ∀ x y : List Int, codeH k (x ++ y) = codeH k x * k ^ y.length + codeH k y
  | [], y => by simp [codeH]
  | a :: t, y => by
    rw [List.cons_append, codeH_cons, codeH_cons, codeH_append k t y, List.length_append, Nat.pow_add, Nat.add_mul, Nat.mul_assoc, Nat.add_assoc]
theorem cmp_code (k : Nat) : ∀ a b : List Int, a.length = b.length → digs k a → digs k b → cmpL a b = if codeH k a < codeH k b then -1 else if codeH k a = codeH k b then 0 else 1
  | [], [], _, _, _ => by simp [cmpL, codeH]
  | a :: s, b :: t, h, ha, hb => by
    have hl : s.length = t.length := by simpa using h
    have ih := cmp_code k s t hl (digs_tail ha) (digs_tail hb)
    have h1 := codeH_lt k s (digs_tail ha)
    have h2 := codeH_lt k t (digs_tail hb)
    have ga := ha a (by simp)
    have gb := hb b (by simp)
    unfold cmpL codeH
    rw [← hl] at h2 ⊢
    generalize k ^ s.length = K at *
    by_cases c1 : a = b
    · subst c1
      rw [if_pos rfl, ih]
      by_cases c2 : codeH k s < codeH k t
      · rw [if_pos c2, if_pos (by omega)]
      · rw [if_neg c2, if_neg (show ¬ a.toNat * K + codeH k s < a.toNat * K + codeH k t by omega)]
        by_cases c3 : codeH k s = codeH k t
        · rw [if_pos c3, if_pos (by rw [c3])]
        · rw [if_neg c3, if_neg (by omega)]
    · rw [if_neg c1]
      by_cases c2 : a < b
      · have h3 : (a.toNat + 1) * K ≤ b.toNat * K := Nat.mul_le_mul_right _ (by omega)
        rw [Nat.add_mul, Nat.one_mul] at h3
        rw [if_pos c2, if_pos (by omega)]
      · have h3 : (b.toNat + 1) * K ≤ a.toNat * K := Nat.mul_le_mul_right _ (by omega)
        rw [Nat.add_mul, Nat.one_mul] at h3
        rw [if_neg c2, if_neg (by omega), if_neg (by omega)]
theorem cmp_lt {k : Nat} {a b : List Int} (h : a.length = b.length) (ha : digs k a) (hb : digs k b) : cmpL a b < 0 ↔ codeH k a < codeH k b := by
  rw [cmp_code k a b h ha hb]
  by_cases c : codeH k a < codeH k b
  · rw [if_pos c]; simp [c]
  · rw [if_neg c]
    split <;> simp [c]
theorem cmp_zero : ∀ a b : List Int, a.length = b.length → cmpL a b = 0 → a = b
  | [], [], _, _ => rfl
  | a :: s, b :: t, h, h0 => by
    have hl : s.length = t.length := by simpa using h
    unfold cmpL at h0
    by_cases c : a = b
    · rw [if_pos c] at h0
      rw [c, cmp_zero s t hl h0]
    · rw [if_neg c] at h0
      split at h0 <;> cases h0
theorem code_inj {k : Nat} {a b : List Int} (h : a.length = b.length) (ha : digs k a) (hb : digs k b) (e : codeH k a = codeH k b) : a = b := by
  refine cmp_zero a b h ?_
  rw [cmp_code k a b h ha hb, e, if_neg (Nat.lt_irrefl _), if_pos rfl]
def rotC (k n c p : Nat) : Nat := (c % k ^ (n - p)) * k ^ p + c / k ^ (n - p)
theorem digs_win {k : Nat} {w : List Int} (hw : digs k w) (h0 : 0 < w.length) (p n : Nat) : digs k (win w p n) := fun x hx => hw x (mem_win h0 hx)
theorem code_parts {k : Nat} {w : List Int} (hw : digs k w) {p : Nat} (hp : p ≤ w.length) : codeH k (w.take p) = codeH k w / k ^ (w.length - p) ∧ codeH k (w.drop p) = codeH k w % k ^ (w.length - p) := by
  have h1 := codeH_append k (w.take p) (w.drop p)
  rw [List.take_append_drop, List.length_drop] at h1
  have h2 := codeH_lt k (w.drop p) (fun x hx => hw x (List.mem_of_mem_drop hx))
  rw [List.length_drop] at h2
  generalize hK : k ^ (w.length - p) = K at *
  rw [h1]
  refine ⟨?_, ?_⟩
  · rw [Nat.mul_comm, Nat.mul_add_div (by omega), Nat.div_eq_of_lt h2, Nat.add_zero]
  · rw [Nat.mul_comm, Nat.mul_add_mod, Nat.mod_eq_of_lt h2]
theorem code_win {k : Nat} {w : List Int} (hw : digs k w) {p : Nat} (hp : p ≤ w.length) : codeH k (win w p w.length) = rotC k w.length (codeH k w) p := by
  obtain ⟨h1, h2⟩ := code_parts hw hp
  rw [win_round w p hp, codeH_append, h1, h2]
  unfold rotC
  rw [List.length_take, Nat.min_eq_left hp]
def neckC (k n c : Nat) : Bool := (List.range' 1 (n - 1)).all fun p => Nat.ble c (rotC k n c p)
def mstep (k n c : Nat) (m p : Nat) : Nat := cond (Nat.blt (rotC k n c p) m) (rotC k n c p) m
def minC (k n c : Nat) : Nat := (List.range' 1 (n - 1)).foldl (mstep k n c) c
def rootGC (k n c : Nat) : Nat → Nat → Nat
  | 0, p => p
  | d + 1, p => cond (Nat.beq (n % p) 0 && Nat.beq (rotC k n c p) c) p (rootGC k n c d (p + 1))
def lynC (k n c : Nat) : Bool := neckC k n c && Nat.beq (rootGC k n c (n - 1) 1) n
def okC (k n c : Nat) : Bool := neckC k n c && lynC k (rootGC k n c (n - 1) 1) (c / k ^ (n - rootGC k n c (n - 1) 1))
theorem leastM_zero {k : Nat} {w : List Int} (hw : digs k w) (hl : 1 ≤ w.length) (h : neckC k w.length (codeH k w) = true) : leastM w = 0 := by
  unfold neckC at h
  rw [List.all_eq_true] at h
  unfold leastM
  have : ∀ (l : List Nat), (∀ p ∈ l, 1 ≤ p ∧ p < w.length ∧ Nat.ble (codeH k w) (rotC k w.length (codeH k w) p) = true) → l.foldl (leastS w) 0 = 0 := by
    intro l
    induction l with
    | nil => intro _; rfl
    | cons p l ih =>
      intro hh
      obtain ⟨g1, g2, g3⟩ := hh p (by simp)
      rw [List.foldl_cons]
      have e : leastS w 0 p = 0 := by
        unfold leastS
        rw [if_neg]
        rw [cmp_lt (by rw [win_length, win_length]) (digs_win hw (by omega) _ _) (digs_win hw (by omega) _ _), code_win hw (by omega), code_win hw (by omega)]
        have := Nat.le_of_ble_eq_true g3
        have e0 : rotC k w.length (codeH k w) 0 = codeH k w := by
          rw [← code_win hw (by omega), win_round w 0 (by omega)]; simp
        omega
      rw [e]
      exact ih (fun p hp => hh p (by simp [hp]))
  exact this _ (fun p hp => ⟨(List.mem_range'_1.mp hp).1, by have := (List.mem_range'_1.mp hp).2; omega, h p hp⟩)
theorem leastM_min {k : Nat} {w : List Int} (hw : digs k w) (hl : 1 ≤ w.length) : codeH k (win w (leastM w) w.length) = minC k w.length (codeH k w) := by
  unfold leastM minC
  have : ∀ (l : List Nat) (best m : Nat), best < w.length → (∀ p ∈ l, p < w.length) → codeH k (win w best w.length) = m → codeH k (win w (l.foldl (leastS w) best) w.length) = l.foldl (mstep k w.length (codeH k w)) m := by
    intro l
    induction l with
    | nil => intro best m _ _ h; exact h
    | cons p l ih =>
      intro best m hb hh h
      have hp := hh p (by simp)
      rw [List.foldl_cons, List.foldl_cons]
      refine ih _ _ (leastS_lt hb hp) (fun q hq => hh q (by simp [hq])) ?_
      unfold leastS mstep
      by_cases c : cmpL (win w p w.length) (win w best w.length) < 0
      · rw [if_pos c]
        rw [cmp_lt (by rw [win_length, win_length]) (digs_win hw (by omega) _ _) (digs_win hw (by omega) _ _), h, code_win hw (by omega)] at c
        rw [show Nat.blt (rotC k w.length (codeH k w) p) m = true from by rw [Nat.blt_eq]; exact c]
        exact code_win hw (by omega)
      · rw [if_neg c]
        rw [cmp_lt (by rw [win_length, win_length]) (digs_win hw (by omega) _ _) (digs_win hw (by omega) _ _), h, code_win hw (by omega)] at c
        rw [show Nat.blt (rotC k w.length (codeH k w) p) m = false from by rw [← Bool.not_eq_true, Nat.blt_eq]; exact c]
        exact h
  refine this _ 0 _ (by omega) (fun p hp => by have := (List.mem_range'_1.mp hp).2; omega) ?_
  rw [win_round w 0 (by omega)]; simp
theorem rootG_code {k : Nat} {w : List Int} (hw : digs k w) (hl : 1 ≤ w.length) : ∀ d p, p + d ≤ w.length → rootG w d p = rootGC k w.length (codeH k w) d p := by
  intro d
  induction d with
  | zero => intro p _; rfl
  | succ d ih =>
    intro p h
    unfold rootG rootGC
    rw [ih (p + 1) (by omega)]
    have e : rootP w p = (Nat.beq (w.length % p) 0 && Nat.beq (rotC k w.length (codeH k w) p) (codeH k w)) := by
      unfold rootP
      congr 1
      · rw [Bool.eq_iff_iff, decide_eq_true_eq, Nat.beq_eq]
      · rw [Bool.eq_iff_iff, decide_eq_true_eq, Nat.beq_eq, ← code_win hw (by omega)]
        exact ⟨fun h => by rw [h], fun h => code_inj (by rw [win_length]) (digs_win hw (by omega) _ _) hw h⟩
    rw [e]
    cases (Nat.beq (w.length % p) 0 && Nat.beq (rotC k w.length (codeH k w) p) (codeH k w)) <;> rfl
theorem lyndon_code {k : Nat} {w : List Int} (hw : digs k w) (hl : 1 ≤ w.length) (h : lynC k w.length (codeH k w) = true) : lyndonB w = true := by
  unfold lynC at h
  rw [Bool.and_eq_true] at h
  unfold lyndonB rootM
  rw [decide_eq_true (leastM_zero hw hl h.1), rootG_code hw hl _ _ (by omega), decide_eq_true (Nat.eq_of_beq_eq_true h.2)]
  rfl
theorem word_of_digs {k : Nat} {w : List Int} (hw : digs k w) (hk : k ≤ 6) (hl : 1 ≤ w.length) (hl2 : w.length ≤ 12) : wordB w = true :=
  wordB_iff.mpr ⟨⟨hl, by omega⟩, fun x hx => by have := hw x hx; omega⟩
/-! the functions at such words -/
theorem IsNecklace_at {k : Nat} {w : List Int} (hw : digs k w) (hk : k ≤ 6) (hl : 1 ≤ w.length) (hl2 : w.length ≤ 12) (h : neckC k w.length (codeH k w) = true) : Ev (fun q => impl_IsNecklace.f q w) (true, true) := by
  have c := word_of_digs hw hk hl hl2
  unfold impl_IsNecklace.f impl_isNecklace.f
  refine ev_call (impl_IsWord_ev w (by omega)) (ev_pos c (ev_call (ev_call (impl_leastRotation_ev c) (Ev.now _)) (ev_some ?_)))
  rw [leastM_zero hw hl h]; rfl
theorem RootLength_at {k : Nat} {w : List Int} (hw : digs k w) (hk : k ≤ 6) (hl : 1 ≤ w.length) (hl2 : w.length ≤ 12) : Ev (fun q => impl_RootLength.f q w) ((rootM w : Int), true) := by
  have c := word_of_digs hw hk hl hl2
  unfold impl_RootLength.f
  exact ev_call (impl_IsWord_ev w (by omega)) (ev_pos c (ev_call (impl_rootLength_ev c) (Ev.now _)))
theorem IsLyndon_at {k : Nat} {w : List Int} (hw : digs k w) (hk : k ≤ 6) (hl : 1 ≤ w.length) (hl2 : w.length ≤ 12) (h : lynC k w.length (codeH k w) = true) : Ev (fun q => impl_IsLyndon.f q w) (true, true) := by
  have c := word_of_digs hw hk hl hl2
  unfold impl_IsLyndon.f
  refine ev_call (impl_IsWord_ev w (by omega)) (ev_pos c (ev_call (impl_isLyndon_ev c) (ev_some ?_)))
  rw [lyndon_code hw hl h]
def braC (k n : Nat) (w : List Int) : Bool := Nat.ble (codeH k w) (minC k n (codeH k w.reverse))
theorem IsBracelet_at {k : Nat} {w : List Int} (hw : digs k w) (hk : k ≤ 6) (hl : 1 ≤ w.length) (hl2 : w.length ≤ 12) (h : neckC k w.length (codeH k w) = true) : Ev (fun q => impl_IsBracelet.f q w) (braC k w.length w, true) := by
  have c := word_of_digs hw hk hl hl2
  have hr : digs k w.reverse := fun x hx => hw x (by simpa using hx)
  have cr : wordB w.reverse = true := word_of_digs hr hk (by simpa using hl) (by simpa using hl2)
  have hc : impl_copied.f w = some w := by
    unfold impl_copied.f
    rw [Option.bind_some, if_pos (by simp; omega)]; simp
  unfold impl_IsBracelet.f
  refine ev_call (impl_IsWord_ev w (by omega)) (ev_pos c (ev_plain hc (ev_call (slices_Reverse_int_int_ev w (by omega)) (ev_call (impl_leastRotation_ev cr) ?_))))
  have hn : Ev (fun q => impl_isNecklace.f q w) true := by
    unfold impl_isNecklace.f
    refine ev_call (impl_leastRotation_ev c) (ev_some ?_)
    rw [leastM_zero hw hl h]; rfl
  refine ev_call hn (ev_pos rfl ?_)
  have hlen : (win w.reverse (leastM w.reverse) w.reverse.length).length = w.length := by rw [win_length, List.length_reverse]
  refine ev_call (slices_Compare_ev _ _ hlen (by rw [hlen]; omega)) (ev_some ?_)
  have hd : digs k (win w.reverse (leastM w.reverse) w.reverse.length) := digs_win hr (by rw [List.length_reverse]; exact hl) _ _
  have hm := leastM_min hr (by rw [List.length_reverse]; exact hl)
  have hrl : w.reverse.length = w.length := List.length_reverse
  congr 1
  unfold braC
  dsimp only
  rw [hrl] at hm hlen hd ⊢
  rw [← hm]
  rw [Bool.eq_iff_iff, decide_eq_true_eq, Nat.ble_eq]
  have := cmp_lt (k := k) hlen hd hw
  constructor
  · intro h; omega
  · intro h
    rcases Int.lt_or_le (cmpL (win w.reverse (leastM w.reverse) w.length) w) 0 with g | g
    · have := this.mp g; omega
    · exact g
theorem tLess_ev {k : Nat} (a b : List Int) (hab : a.length = b.length) (ha : a.length ≤ 1000000) (h1 : digs k a) (h2 : digs k b) (h : codeH k a < codeH k b) : Ev (fun q => laws_tLess.f q a b) true := by
  have hc : cmpL a b < 0 := (cmp_lt hab h1 h2).mpr h
  unfold laws_tLess.f
  have : ∀ (d i : Nat), i + d = a.length → Ev (fun q => laws_tLess.l0 q a b (i : Int)) (decide (cmpL (a.drop i) (b.drop i) < 0)) := by
    intro d
    induction d with
    | zero =>
      intro i h
      rw [List.drop_eq_nil_of_le (by omega), List.drop_eq_nil_of_le (by omega)]
      refine Ev.step (fun k => by simp only [laws_tLess.l0]; rfl) (ev_neg (by omega) ?_)
      refine Ev.step (fun k => by simp only [laws_tLess.j1]; rfl) (ev_neg (by decide) (ev_some ?_))
      rw [decide_eq_false (by omega)]; rfl
    | succ d ih =>
      intro i h
      rw [drop_rd a i (by omega), drop_rd b i (by omega)]
      refine Ev.step (fun k => by simp only [laws_tLess.l0]; rfl) (ev_pos (by omega) ?_)
      refine Ev.step (fun k => by simp only [laws_tLess.j1]; rfl) (ev_pos (by rw [decide_eq_true_eq]; omega) ?_)
      refine ev_pos (by omega) (ev_pos (by omega) (ev_pos (by omega) ?_))
      rw [wrap_succ (by omega)]
      unfold cmpL
      by_cases c1 : rd a (i : Int) = rd b (i : Int)
      · rw [if_pos c1]; exact ev_pos c1 (ih (i + 1) (by omega))
      · rw [if_neg c1]
        refine ev_neg c1 (ev_some ?_)
        by_cases c2 : rd a (i : Int) < rd b (i : Int)
        · rw [if_pos c2, decide_eq_true c2]; rfl
        · rw [if_neg c2, decide_eq_false c2]; rfl
  refine ev_to (this a.length 0 (by omega)) ?_
  rw [List.drop_zero, List.drop_zero, decide_eq_true hc]
theorem rd_L2_nat (t : List (List Int)) (i : Nat) : rd_L2 t (i : Int) = t.getD i [] := by simp [rd_L2]
theorem tSameRows_ev (t : List (List Int)) (ht : t.length ≤ 1048576) (hr : ∀ row ∈ t, row.length ≤ 1048576) : Ev (fun q => laws_tSameRows.f q t t) true := by
  unfold laws_tSameRows.f
  refine ev_pos rfl ?_
  have : ∀ (d i : Nat), i + d = t.length → Ev (fun q => laws_tSameRows.l0 q t t (t.length : Int) (i : Int)) true := by
    intro d
    induction d with
    | zero =>
      intro i h
      refine Ev.step (fun k => by simp only [laws_tSameRows.l0]; rfl) ?_
      exact ev_neg (by omega) (Ev.now _)
    | succ d ih =>
      intro i h
      have hrow : (t.getD i []).length ≤ 1048576 := by
        rw [List.getD_eq_getElem?_getD, List.getElem?_eq_getElem (by omega)]
        exact hr _ (List.getElem_mem _)
      refine Ev.step (fun k => by simp only [laws_tSameRows.l0]; rfl) ?_
      refine ev_pos (by omega) (ev_pos (by omega) (ev_pos (by omega) (ev_pos (by omega) ?_)))
      rw [rd_L2_nat, wrap_succ (by omega)]
      refine ev_call (laws_tSame_ev _ _ (by omega)) ?_
      exact ev_pos (by simp) (ih (i + 1) (by omega))
  exact this t.length 0 (by omega)
/-! one size -/
def ascB : List Nat → Bool
  | a :: b :: t => Nat.blt a b && ascB (b :: t)
  | _ => true
theorem ascB_at : ∀ (l : List Nat) (i : Nat), ascB l = true → (h : i + 1 < l.length) → l[i]'(by omega) < l[i + 1]
  | a :: b :: t, 0, h, _ => by
    unfold ascB at h
    rw [Bool.and_eq_true] at h
    have := h.1
    rw [Nat.blt_eq] at this
    exact this
  | a :: b :: t, i + 1, h, hi => by
    unfold ascB at h
    rw [Bool.and_eq_true] at h
    exact ascB_at (b :: t) i h.2 (by simpa using hi)
  | [_], i, _, hi => by simp at hi
  | [], i, _, hi => by simp at hi
def rowC (k n : Nat) (w : List Int) : Bool := Nat.beq w.length n && (w.all (fun x => decide (0 ≤ x) && decide (x < (k : Int))) && okC k n (codeH k w))
theorem rowC_iff {k n : Nat} {w : List Int} (h : rowC k n w = true) : w.length = n ∧ digs k w ∧ okC k n (codeH k w) = true := by
  unfold rowC at h
  simp only [Bool.and_eq_true, List.all_eq_true, decide_eq_true_eq] at h
  exact ⟨Nat.eq_of_beq_eq_true h.1, h.2.1, h.2.2⟩
/-! the list of Lyndon words, as the two programs run through it -/
def cyc (w : List Int) (n : Nat) : List Int := (List.range' 0 n).map fun i => w.getD (i % w.length) 0
def dropInc (k : Int) : List Int → List Int
  | [] => []
  | x :: t => if x = k - 1 then dropInc k t else (x + 1) :: t
def nextM (n k : Nat) (w : List Int) : List Int := (dropInc k (cyc w n).reverse).reverse
def lynGo (n k : Nat) : Nat → List Int → List (List Int)
  | 0, _ => []
  | _ + 1, [] => []
  | d + 1, a :: t => if n % (a :: t).length = 0 then (a :: t) :: lynGo n k d (nextM n k (a :: t)) else lynGo n k d (nextM n k (a :: t))
def lynEnd (n k : Nat) : Nat → List Int → Bool
  | _, [] => true
  | 0, _ :: _ => false
  | d + 1, a :: t => lynEnd n k d (nextM n k (a :: t))
theorem dropInc_digs {k : Nat} : ∀ x : List Int, digs k x → digs k (dropInc k x) ∧ (dropInc k x).length ≤ x.length
  | [], h => ⟨h, Nat.le_refl _⟩
  | x :: t, h => by
    obtain ⟨h1, h2⟩ := dropInc_digs t (digs_tail h)
    unfold dropInc
    by_cases c : x = (k : Int) - 1
    · rw [if_pos c]; exact ⟨h1, by rw [List.length_cons]; omega⟩
    · rw [if_neg c]
      refine ⟨fun y hy => ?_, by simp⟩
      rcases List.mem_cons.mp hy with rfl | hy
      · have := h x (by simp); omega
      · exact h y (by simp [hy])
theorem cyc_digs {k : Nat} {w : List Int} (hw : digs k w) (h0 : 1 ≤ w.length) (n : Nat) : digs k (cyc w n) := by
  intro x hx
  simp only [cyc, List.mem_map] at hx
  obtain ⟨i, _, rfl⟩ := hx
  rw [List.getD_eq_getElem?_getD, List.getElem?_eq_getElem (Nat.mod_lt _ h0)]
  exact hw _ (List.getElem_mem _)
theorem cyc_length (w : List Int) (n : Nat) : (cyc w n).length = n := by simp [cyc]
theorem next_digs {n k : Nat} {w : List Int} (hw : digs k w) (h0 : 1 ≤ w.length) : digs k (nextM n k w) ∧ (nextM n k w).length ≤ n := by
  obtain ⟨h1, h2⟩ := dropInc_digs (k := k) (cyc w n).reverse (fun x hx => cyc_digs hw h0 n x (by simpa using hx))
  refine ⟨fun x hx => h1 x (by simpa [nextM] using hx), ?_⟩
  unfold nextM
  rw [List.length_reverse]
  rw [List.length_reverse, cyc_length] at h2
  exact h2
theorem tail_both {k : Nat} (hk : 1 ≤ k ∧ k ≤ 6) : ∀ (m : Nat) (x : List Int), x.length = m → m ≤ 12 → digs k x → Ev (fun q => impl_nextLyndon.l1 q (k : Int) x) (dropInc k x.reverse).reverse ∧ Ev (fun q => spec_lyNext.l1 q (k : Int) x) (dropInc k x.reverse).reverse := by
  have ek : wrap64 ((k : Int) - 1) = (k : Int) - 1 := wrap_id (by omega)
  intro m
  induction m with
  | zero =>
    intro x h _ _
    obtain rfl := List.eq_nil_of_length_eq_zero h
    refine ⟨?_, ?_⟩
    · refine Ev.step (fun k => by simp only [impl_nextLyndon.l1]; rfl) ?_
      exact ev_neg (by simp) (ev_some (by simp [dropInc]))
    · refine Ev.step (fun k => by simp only [spec_lyNext.l1]; rfl) ?_
      exact ev_neg (by simp) (ev_some (by simp [dropInc]))
  | succ m ih =>
    intro x h hm hd
    rcases List.eq_nil_or_concat x with rfl | ⟨ys, y, rfl⟩
    · simp at h
    · rw [List.concat_eq_append] at *
      have hl : ys.length = m := by simpa using h
      have hy := hd y (by simp)
      have ew : wrap64 (((ys ++ [y]).length : Int) - 1) = (ys.length : Int) := by rw [h]; rw [hl]; exact wrap_pred (by omega)
      have er : rd (ys ++ [y]) (ys.length : Int) = y := by rw [rd_nat]; simp [List.getD_eq_getElem?_getD]
      have et : (ys ++ [y]).take ((ys.length : Nat) : Int).toNat = ys := by rw [Int.toNat_natCast]; simp
      have es : (ys ++ [y]).set ((ys.length : Nat) : Int).toNat (wrap64 (y + 1)) = ys ++ [y + 1] := by
        rw [Int.toNat_natCast, wrap_id (x := y + 1) (by omega), List.set_append_right _ _ (Nat.le_refl _), Nat.sub_self]; rfl
      obtain ⟨e1, e2⟩ := ih ys hl (by omega) (fun z hz => hd z (by simp [hz]))
      rw [List.reverse_append, show [y].reverse = [y] from rfl, show [y] ++ ys.reverse = y :: ys.reverse from rfl]
      unfold dropInc
      by_cases c : y = (k : Int) - 1
      · rw [if_pos c]
        refine ⟨?_, ?_⟩
        · refine Ev.step (fun k => by simp only [impl_nextLyndon.l1]; rfl) ?_
          rw [ew, ek, er, et]
          exact ev_pos (by omega) (ev_pos (by omega) (ev_pos (by omega) (ev_pos c (ev_pos (by omega) e1))))
        · refine Ev.step (fun k => by simp only [spec_lyNext.l1]; rfl) ?_
          rw [ew, ek, er, et]
          exact ev_pos (by omega) (ev_pos (by omega) (ev_pos (by omega) (ev_pos c (ev_pos (by omega) e2))))
      · rw [if_neg c]
        have e3 : ((y + 1) :: ys.reverse).reverse = ys ++ [y + 1] := by simp
        rw [e3]
        refine ⟨?_, ?_⟩
        · refine Ev.step (fun k => by simp only [impl_nextLyndon.l1]; rfl) ?_
          rw [ew, ek, er, es]
          exact ev_pos (by omega) (ev_pos (by omega) (ev_pos (by omega) (ev_neg c (Ev.now _))))
        · refine Ev.step (fun k => by simp only [spec_lyNext.l1]; rfl) ?_
          rw [ew, ek, er, es]
          exact ev_pos (by omega) (ev_pos (by omega) (ev_pos (by omega) (ev_neg c (Ev.now _))))
theorem cyc_snoc (u : List Int) (i : Nat) : cyc u (i + 1) = cyc u i ++ [rd u ((i % u.length : Nat) : Int)] := by
  unfold cyc
  rw [← List.range'_append (s := 0) (m := i) (n := 1) (step := 1), List.map_append, rd_nat]
  simp
theorem next_both {n k : Nat} (hk : 1 ≤ k ∧ k ≤ 6) (hn : n ≤ 12) {u : List Int} (hu : digs k u) (h0 : 1 ≤ u.length ∧ u.length ≤ 12) : Ev (fun q => impl_nextLyndon.f q u (n : Int) (k : Int)) (nextM n k u) ∧ Ev (fun q => spec_lyNext.f q u (n : Int) (k : Int)) (nextM n k u) := by
  unfold impl_nextLyndon.f spec_lyNext.f nextM
  have : ∀ (d i : Nat), i + d = n → Ev (fun q => impl_nextLyndon.l0 q u (k : Int) (cyc u i) (n : Int) (i : Int)) (dropInc k (cyc u n).reverse).reverse ∧ Ev (fun q => spec_lyNext.l0 q u (n : Int) (k : Int) (cyc u i)) (dropInc k (cyc u n).reverse).reverse := by
    intro d
    induction d with
    | zero =>
      intro i h
      obtain rfl : i = n := by omega
      obtain ⟨e1, e2⟩ := tail_both hk i (cyc u i) (cyc_length _ _) hn (cyc_digs hu h0.1 i)
      refine ⟨?_, ?_⟩
      · refine Ev.step (fun k => by simp only [impl_nextLyndon.l0]; rfl) ?_
        exact ev_neg (by omega) e1
      · refine Ev.step (fun k => by simp only [spec_lyNext.l0]; rfl) ?_
        exact ev_neg (by rw [cyc_length]; omega) e2
    | succ d ih =>
      intro i h
      have hm := Nat.mod_lt i (show 0 < u.length by omega)
      obtain ⟨e1, e2⟩ := ih (i + 1) (by omega)
      rw [cyc_snoc] at e1 e2
      have hcl := cyc_length u i
      refine ⟨?_, ?_⟩
      · refine Ev.step (fun k => by simp only [impl_nextLyndon.l0]; rfl) ?_
        rw [tmod_nat, wrap_succ (by omega)]
        exact ev_pos (by omega) (ev_neg (by omega) (ev_pos (by omega) (ev_pos (by omega) (ev_pos (by omega) e1))))
      · refine Ev.step (fun k => by simp only [spec_lyNext.l0]; rfl) ?_
        rw [hcl, show ((i : Int) % (u.length : Int)) = ((i % u.length : Nat) : Int) by omega]
        exact ev_pos (by omega) (ev_neg (by omega) (ev_pos (by omega) (ev_pos (by omega) (ev_pos (by omega) e2))))
  have h := this n 0 (by omega)
  exact h
def repM (n : Nat) (w : List Int) : List Int := (List.replicate (n / w.length) w).flatten
theorem rep_length (m : Nat) (w : List Int) : (List.replicate m w).flatten.length = m * w.length := by
  induction m with
  | zero => simp
  | succ m ih => rw [List.replicate_succ, List.flatten_cons, List.length_append, ih, Nat.add_mul, Nat.one_mul, Nat.add_comm]
theorem rep_snoc (m : Nat) (w : List Int) : (List.replicate (m + 1) w).flatten = (List.replicate m w).flatten ++ w := by
  rw [List.replicate_succ', List.flatten_append]; simp
theorem lynGo_mem {n k : Nat} : ∀ (d : Nat) (w : List Int), digs k w → w.length ≤ 12 → n ≤ 12 → ∀ v ∈ lynGo n k d w, digs k v ∧ (1 ≤ v.length ∧ v.length ≤ 12) ∧ n % v.length = 0 := by
  intro d
  induction d with
  | zero => intro w _ _ _ v hv; cases hv
  | succ d ih =>
    intro w hw hl hn v hv
    cases w with
    | nil => cases hv
    | cons a t =>
      obtain ⟨g1, g2⟩ := next_digs (n := n) hw (by simp)
      unfold lynGo at hv
      by_cases c : n % (a :: t).length = 0
      · rw [if_pos c] at hv
        rcases List.mem_cons.mp hv with rfl | hv
        · exact ⟨hw, ⟨by simp, hl⟩, c⟩
        · exact ih _ g1 (by omega) hn v hv
      · rw [if_neg c] at hv
        exact ih _ g1 (by omega) hn v hv
theorem words_ev {n k : Nat} (hk : 1 ≤ k ∧ k ≤ 6) (hn : 1 ≤ n ∧ n ≤ 12) : ∀ (d : Nat) (w : List Int) (out : List (List Int)), digs k w → w.length ≤ 12 → lynEnd n k d w = true → out.length + (lynGo n k d w).length ≤ 1100 → Ev (fun q => impl_lyndonWords.l0 (impl_NecklacesOf.is (n : Int)) q (n : Int) (k : Int) 1100 out w) (out ++ lynGo n k d w, true) := by
  intro d
  induction d with
  | zero =>
    intro w out hw hl he hb
    cases w with
    | cons a t => cases he
    | nil =>
      refine Ev.step (fun k => by simp only [impl_lyndonWords.l0]; rfl) ?_
      exact ev_neg (by simp) (ev_some (by simp [lynGo]))
  | succ d ih =>
    intro w out hw hl he hb
    cases hw0 : w with
    | nil =>
      refine Ev.step (fun k => by simp only [impl_lyndonWords.l0]; rfl) ?_
      exact ev_neg (by simp) (ev_some (by simp [lynGo]))
    | cons a t =>
      rw [← hw0]
      have h1 : 1 ≤ w.length := by rw [hw0]; simp
      obtain ⟨g1, g2⟩ := next_digs (n := n) hw h1
      have he' : lynEnd n k d (nextM n k w) = true := by rw [hw0] at he ⊢; exact he
      have hgo : lynGo n k (d + 1) w = if n % w.length = 0 then w :: lynGo n k d (nextM n k w) else lynGo n k d (nextM n k w) := by rw [hw0]; rfl
      have hcp : impl_copied.f w = some w := by
        unfold impl_copied.f
        rw [Option.bind_some, if_pos (by simp; omega)]; simp
      obtain ⟨e1, _⟩ := next_both hk hn.2 hw ⟨h1, hl⟩ (n := n)
      refine Ev.step (fun k => by simp only [impl_lyndonWords.l0]; rfl) ?_
      refine ev_pos (by omega) ?_
      have his : impl_NecklacesOf.is (n : Int) w = some (decide (n % w.length = 0)) := by
        unfold impl_NecklacesOf.is
        rw [if_neg (by omega), tmod_nat, show (((n % w.length : Nat) : Int) == 0) = decide (n % w.length = 0) from natB _ 0]
      refine ev_plain his ?_
      rw [hgo] at hb ⊢
      by_cases c : n % w.length = 0
      · rw [if_pos c] at hb ⊢
        rw [List.length_cons] at hb
        refine ev_pos (decide_eq_true c) (ev_plain hcp (ev_pos (by omega) (ev_neg (by rw [List.length_append, List.length_singleton]; omega) (ev_call e1 ?_))))
        refine ev_to (ih _ (out ++ [w]) g1 (by omega) he' (by rw [List.length_append, List.length_singleton]; omega)) ?_
        rw [List.append_assoc]; rfl
      · rw [if_neg c] at hb ⊢
        refine ev_neg (by rw [decide_eq_false c]; decide) (ev_call e1 ?_)
        exact ih _ out g1 (by omega) he' hb
theorem repeated_ev (w : List Int) (n : Nat) (hw : 1 ≤ w.length ∧ w.length ≤ 12) (hn : n ≤ 12) : Ev (fun q => impl_repeated.f q w (n : Int)) (repM n w) := by
  have hdiv : n / w.length ≤ 12 := Nat.le_trans (Nat.div_le_self _ _) hn
  have hti : Int.tdiv (n : Int) (w.length : Int) = ((n / w.length : Nat) : Int) := rfl
  unfold impl_repeated.f repM
  refine ev_neg (by omega) ?_
  rw [hti]
  clear hti
  generalize n / w.length = m at hdiv ⊢
  rw [wrap_id (x := (m : Int)) (by omega)]
  have : ∀ (d i : Nat), i + d = m → Ev (fun q => impl_repeated.l0 q w (List.replicate i w).flatten (m : Int) (i : Int)) (List.replicate m w).flatten := by
    intro d
    induction d with
    | zero =>
      intro i h
      obtain rfl : i = m := by omega
      refine Ev.step (fun k => by simp only [impl_repeated.l0]; rfl) ?_
      exact ev_neg (by omega) (Ev.now _)
    | succ d ih =>
      intro i h
      have hb : i * w.length ≤ 12 * 12 := Nat.mul_le_mul (by omega) hw.2
      refine Ev.step (fun k => by simp only [impl_repeated.l0]; rfl) ?_
      rw [wrap_succ (by omega), ← rep_snoc]
      exact ev_pos (by omega) (ev_pos (by rw [rep_length]; omega) (ih (i + 1) (by omega)))
  exact this m 0 (by omega)
theorem necks_loop {n : Nat} (hn : n ≤ 12) (vs : List (List Int)) (hv : ∀ v ∈ vs, 1 ≤ v.length ∧ v.length ≤ 12) (hl : vs.length ≤ 1100) : ∀ (d i : Nat), i + d = vs.length → Ev (fun q => impl_NecklacesOf.l0 q (n : Int) (vs.length : Int) ((vs.take i).map (repM n) ++ vs.drop i) (i : Int)) (vs.map (repM n), true) := by
  intro d
  induction d with
  | zero =>
    intro i h
    refine Ev.step (fun k => by simp only [impl_NecklacesOf.l0]; rfl) ?_
    refine ev_neg (by omega) (ev_some ?_)
    rw [List.take_of_length_le (by omega), List.drop_eq_nil_of_le (by omega), List.append_nil]
  | succ d ih =>
    intro i h
    have hi : i < vs.length := by omega
    have hlen : ((vs.take i).map (repM n) ++ vs.drop i).length = vs.length := by simp; omega
    have hk : ((vs.take i).map (repM n)).length = i := by simp; omega
    have he : ((vs.take i).map (repM n) ++ vs.drop i).getD ((i : Nat) : Int).toNat [] = vs[i] := by
      rw [Int.toNat_natCast, List.getD_eq_getElem?_getD, List.getElem?_append_right (by omega), hk, Nat.sub_self, List.getElem?_drop, Nat.add_zero, List.getElem?_eq_getElem hi]; rfl
    have hs : ((vs.take i).map (repM n) ++ vs.drop i).set ((i : Nat) : Int).toNat (repM n vs[i]) = (vs.take (i + 1)).map (repM n) ++ vs.drop (i + 1) := by
      rw [Int.toNat_natCast, List.set_append_right _ _ (by omega), hk, Nat.sub_self, List.drop_eq_getElem_cons hi, List.set_cons_zero, List.take_succ_eq_append_getElem hi, List.map_append, List.append_assoc]; rfl
    refine Ev.step (fun k => by simp only [impl_NecklacesOf.l0]; rfl) ?_
    rw [he]
    have hvi := hv _ (List.getElem_mem hi)
    refine ev_pos (by omega) (ev_pos (by omega) (ev_pos (by omega) (ev_call (repeated_ev _ n hvi hn) ?_)))
    rw [hs, wrap_succ (by omega)]
    exact ih (i + 1) (by omega)
theorem whole_ev {n k : Nat} (hn : n ≤ 12) (x5 : List (List Int)) (w : List Int) (hw : 1 ≤ w.length ∧ w.length ≤ 12) (hd : n % w.length = 0) (h5 : x5.length ≤ 1100) {r : List (List Int)} (e : Ev (fun q => (spec_lyNext.f q w (n : Int) (k : Int)).bind fun t => spec_lyAll.l0 q (n : Int) (k : Int) (x5 ++ [repM n w]) t) r) : ∀ (d i : Nat), i + d = n / w.length → Ev (fun q => spec_lyAll.l1 q (n : Int) (k : Int) x5 w (List.replicate i w).flatten) r := by
  have hm : n / w.length * w.length = n := Nat.div_mul_cancel (Nat.dvd_of_mod_eq_zero hd)
  intro d
  induction d with
  | zero =>
    intro i h
    obtain rfl : i = n / w.length := by omega
    refine Ev.step (fun k => by simp only [spec_lyAll.l1]; rfl) ?_
    exact ev_neg (by rw [rep_length, hm]; omega) (ev_pos (by omega) e)
  | succ d ih =>
    intro i h
    have hb : (i + 1) * w.length ≤ n / w.length * w.length := Nat.mul_le_mul_right _ (by omega)
    rw [hm, Nat.add_mul, Nat.one_mul] at hb
    refine Ev.step (fun k => by simp only [spec_lyAll.l1]; rfl) ?_
    rw [← rep_snoc]
    exact ev_pos (by rw [rep_length]; omega) (ev_pos (by rw [rep_length]; omega) (ih (i + 1) (by omega)))
theorem all_ev {n k : Nat} (hk : 1 ≤ k ∧ k ≤ 6) (hn : 1 ≤ n ∧ n ≤ 12) : ∀ (d : Nat) (w : List Int) (out : List (List Int)), digs k w → w.length ≤ 12 → lynEnd n k d w = true → out.length + (lynGo n k d w).length ≤ 1100 → Ev (fun q => spec_lyAll.l0 q (n : Int) (k : Int) out w) (out ++ (lynGo n k d w).map (repM n)) := by
  intro d
  induction d with
  | zero =>
    intro w out hw hl he hb
    cases w with
    | cons a t => cases he
    | nil =>
      refine Ev.step (fun k => by simp only [spec_lyAll.l0]; rfl) ?_
      exact ev_neg (by simp) (ev_some (by simp [lynGo]))
  | succ d ih =>
    intro w out hw hl he hb
    cases hw0 : w with
    | nil =>
      refine Ev.step (fun k => by simp only [spec_lyAll.l0]; rfl) ?_
      exact ev_neg (by simp) (ev_some (by simp [lynGo]))
    | cons a t =>
      rw [← hw0]
      have h1 : 1 ≤ w.length := by rw [hw0]; simp
      obtain ⟨g1, g2⟩ := next_digs (n := n) hw h1
      have he' : lynEnd n k d (nextM n k w) = true := by rw [hw0] at he ⊢; exact he
      have hgo : lynGo n k (d + 1) w = if n % w.length = 0 then w :: lynGo n k d (nextM n k w) else lynGo n k d (nextM n k w) := by rw [hw0]; rfl
      obtain ⟨_, e2⟩ := next_both hk hn.2 hw ⟨h1, hl⟩ (n := n)
      refine Ev.step (fun k => by simp only [spec_lyAll.l0]; rfl) ?_
      rw [tmod_nat]
      refine ev_pos (by omega) (ev_neg (by omega) ?_)
      rw [hgo] at hb ⊢
      by_cases c : n % w.length = 0
      · rw [if_pos c] at hb ⊢
        rw [List.length_cons] at hb
        refine ev_pos (by omega) ?_
        have e := whole_ev hn.2 out w ⟨h1, hl⟩ c (by omega) (ev_call e2 (ih _ (out ++ [repM n w]) g1 (by omega) he' (by rw [List.length_append, List.length_singleton]; omega))) (n / w.length) 0 (by omega)
        refine ev_to e ?_
        rw [List.append_assoc]; rfl
      · rw [if_neg c] at hb ⊢
        exact ev_neg (by omega) (ev_call e2 (ih _ out g1 (by omega) he' hb))
theorem zero_digs {k : Nat} (hk : 1 ≤ k) : digs k [0] := fun x hx => by
  rw [List.mem_singleton] at hx
  omega
def wordsC (n k : Nat) : List (List Int) := (lynGo n k 1500 [0]).map (repM n)
/-- At one size: what the kernel looks at. -/
def look (n k : Nat) : Bool := match impl_countNecklaces.f 3000 (n : Int) (k : Int), spec_lyNecklaces.f 3000 (n : Int) (k : Int), impl_CountBracelets.f 3000 (n : Int) (k : Int) with
  | some c, some c', some (cb, three) => (c == c') && (if c ≤ 1100 then lynEnd n k 1500 [0] && (Nat.ble (lynGo n k 1500 [0]).length 1100 && ((wordsC n k).all (rowC k n) && ((((wordsC n k).length : Int) == c) && (three && (ascB ((wordsC n k).map (codeH k)) && ((((wordsC n k).countP (braC k n) : Nat) : Int) == cb)))))) else true)
  | _, _, _ => false
theorem neck_loop {k n : Nat} (hk : k ≤ 6) (hn : 1 ≤ n ∧ n ≤ 12) (ws : List (List Int)) (hl : ws.length ≤ 1100) (hw : ∀ w ∈ ws, rowC k n w = true) (ha : ascB (ws.map (codeH k)) = true) : ∀ (d i b : Nat), i + d = ws.length → b ≤ i → Ev (fun q => laws_FnNecklacesCounted.l0 q (n : Int) ws (b : Int) (i : Int)) (((b + (ws.drop i).countP (braC k n) : Nat)) : Int) := by
  intro d
  induction d with
  | zero =>
    intro i b h hb
    refine Ev.step (fun k => by simp only [laws_FnNecklacesCounted.l0]; rfl) ?_
    refine ev_neg (by omega) (ev_some ?_)
    rw [List.drop_eq_nil_of_le (by omega)]; simp
  | succ d ih =>
    intro i b h hb
    have hi : i < ws.length := by omega
    have he : ws.getD ((i : Nat) : Int).toNat [] = ws[i] := by simp [List.getD_eq_getElem?_getD, List.getElem?_eq_getElem hi]
    obtain ⟨w1, w2, w3⟩ := rowC_iff (hw _ (List.getElem_mem hi))
    have hdr := List.drop_eq_getElem_cons hi
    refine Ev.step (fun k => by simp only [laws_FnNecklacesCounted.l0]; rfl) ?_
    rw [he]
    have hless : 0 < i → Ev (fun q => laws_tLess.f q (ws.getD ((i : Int) - 1).toNat []) ws[i]) true := by
      intro h0
      have e2 : ws.getD ((i : Int) - 1).toNat [] = ws[i - 1] := by
        rw [show ((i : Int) - 1).toNat = i - 1 by omega]
        simp [List.getD_eq_getElem?_getD, List.getElem?_eq_getElem (show i - 1 < ws.length by omega)]
      rw [e2]
      obtain ⟨v1, v2, _⟩ := rowC_iff (hw _ (List.getElem_mem (show i - 1 < ws.length by omega)))
      refine tLess_ev _ _ (by rw [v1, w1]) (by omega) v2 w2 ?_
      have := ascB_at (ws.map (codeH k)) (i - 1) ha (by rw [List.length_map]; omega)
      simp only [List.getElem_map] at this
      have e3 : i - 1 + 1 = i := by omega
      simp only [e3] at this
      exact this
    generalize hwi : ws[i] = w at *
    subst w1
    unfold okC at w3
    rw [Bool.and_eq_true] at w3
    obtain ⟨w3, w4⟩ := w3
    have hr1 : rootM w = rootGC k w.length (codeH k w) (w.length - 1) 1 := rootG_code w2 hn.1 _ _ (by omega)
    have hr2 := rootG_range w (w.length - 1) 1
    have hr3 : 1 ≤ rootM w ∧ rootM w ≤ w.length := by unfold rootM; omega
    have htl : (w.take (rootM w)).length = rootM w := by rw [List.length_take]; omega
    have hcp := (code_parts w2 hr3.2).1
    rw [← hr1] at w4
    refine ev_pos (by omega) (ev_pos (by omega) ?_)
    refine ev_call (IsNecklace_at w2 hk hn.1 hn.2 w3) (ev_pos rfl ?_)
    refine ev_call (RootLength_at w2 hk hn.1 hn.2) ?_
    refine ev_pos ⟨rfl, rfl, by omega, by dsimp only; omega⟩ ?_
    refine ev_call (a := true) ?_ (ev_pos rfl ?_)
    · by_cases h0 : 0 < i
      · exact ev_pos (by omega) (hless h0)
      · exact ev_neg (by omega) (Ev.now _)
    · dsimp only
      rw [Int.toNat_natCast]
      refine ev_call (IsLyndon_at (k := k) (w := w.take (rootM w)) (fun x hx => w2 x (List.mem_of_mem_take hx)) hk (by omega) (by omega) ?_) (ev_pos rfl ?_)
      · rw [htl, hcp]; exact w4
      · refine ev_call (IsBracelet_at w2 hk hn.1 hn.2 w3) (ev_pos rfl ?_)
        dsimp only
        rw [wrap_succ (by omega), wrap_succ (by omega), hdr, List.countP_cons]
        by_cases hb2 : braC k w.length w = true
        · refine ev_pos hb2 (ev_to (ih (i + 1) (b + 1) (by omega) (by omega)) ?_)
          rw [if_pos hb2]; omega
        · refine ev_neg hb2 (ev_to (ih (i + 1) b (by omega) (by omega)) ?_)
          rw [if_neg hb2]; omega
theorem neck_ev {n k : Nat} (hn : 1 ≤ n ∧ n ≤ 12) (hk : 1 ≤ k ∧ k ≤ 6) (h : look n k = true) : Ev (fun q => laws_FnNecklacesCounted.rest q (n : Int) (k : Int)) true := by
  have o1 : impl_isOver.f (n : Int) (k : Int) = some true := by
    unfold impl_isOver.f
    rw [impl_within_eq, Option.bind_some, inB_iff.mpr (by omega), if_pos rfl, impl_within_eq, inB_iff.mpr (by omega)]; rfl
  have o2 : spec_lyKind.f (n : Int) (k : Int) = some true := by
    unfold spec_lyKind.f
    rw [spec_l1In_eq, Option.bind_some, inB_iff.mpr (by omega), if_pos rfl, spec_l1In_eq, inB_iff.mpr (by omega)]; rfl
  unfold look at h
  cases g1 : impl_countNecklaces.f 3000 (n : Int) (k : Int) with
  | none => rw [g1] at h; cases h
  | some c =>
    cases g2 : spec_lyNecklaces.f 3000 (n : Int) (k : Int) with
    | none => rw [g1, g2] at h; cases h
    | some c' =>
      cases g5 : impl_CountBracelets.f 3000 (n : Int) (k : Int) with
      | none => rw [g1, g2, g5] at h; cases h
      | some p5 =>
        obtain ⟨cb, three⟩ := p5
        rw [g1, g2, g5] at h
        simp only [Bool.and_eq_true, beq_iff_eq] at h
        obtain ⟨rfl, h⟩ := h
        have e1 := Ev.of (fun q => impl_countNecklaces.mono (n : Int) (k : Int) q) (k := 3000) g1
        have e2 := Ev.of (fun q => spec_lyNecklaces.mono (n : Int) (k : Int) q) (k := 3000) g2
        have c1 : Ev (fun q => impl_CountNecklaces.f q (n : Int) (k : Int)) (c, true) := by
          unfold impl_CountNecklaces.f
          exact ev_plain o1 (ev_pos rfl (ev_call e1 (Ev.now _)))
        have c2 : Ev (fun q => spec_CountNecklaces.f q (n : Int) (k : Int)) (c, true) := by
          unfold spec_CountNecklaces.f
          exact ev_plain o2 (ev_pos rfl (ev_call e2 (Ev.now _)))
        unfold laws_FnNecklacesCounted.rest
        by_cases c3 : c ≤ 1100
        · rw [if_pos c3] at h
          simp only [Bool.and_eq_true, beq_iff_eq, List.all_eq_true] at h
          obtain ⟨h1, h2, h3, h4, h5, h6, h7⟩ := h
          have h2 := Nat.le_of_ble_eq_true h2
          have hmem := lynGo_mem (n := n) (k := k) 1500 [0] (zero_digs hk.1) (by simp) hn.2
          have a1 : Ev (fun q => impl_NecklacesOf.f q (n : Int) (k : Int)) (wordsC n k, true) := by
            unfold impl_NecklacesOf.f impl_lyndonWords.f
            refine ev_plain o1 (ev_pos rfl (ev_call e1 (ev_neg (by omega) ?_)))
            refine ev_call (words_ev hk hn 1500 [0] [] (zero_digs hk.1) (by simp) h1 (by simpa using h2)) ?_
            dsimp only
            rw [List.nil_append]
            have := necks_loop hn.2 (lynGo n k 1500 [0]) (fun v hv => (hmem v hv).2.1) h2 (lynGo n k 1500 [0]).length 0 (by omega)
            rw [List.take_zero, List.drop_zero, List.map_nil, List.nil_append] at this
            exact this
          have a2 : Ev (fun q => spec_NecklacesOf.f q (n : Int) (k : Int)) (wordsC n k, true) := by
            unfold spec_NecklacesOf.f spec_lyAll.f
            refine ev_plain o2 (ev_pos rfl (ev_call e2 (ev_neg (by omega) ?_)))
            refine ev_call (all_ev hk hn 1500 [0] [] (zero_digs hk.1) (by simp) h1 (by simpa using h2)) (ev_some ?_)
            rw [List.nil_append]; rfl
          have hl : (wordsC n k).length ≤ 1100 := by unfold wordsC; rw [List.length_map]; exact h2
          have hrow : ∀ row ∈ wordsC n k, row.length ≤ 1048576 := fun row hr => by have := (rowC_iff (h3 row hr)).1; omega
          refine ev_call a1 (ev_call a2 (ev_pos rfl ?_))
          refine ev_call (tSameRows_ev (wordsC n k) (by omega) hrow) (ev_pos rfl ?_)
          refine ev_call c1 (ev_call c2 (ev_pos rfl (ev_pos rfl (ev_pos c3 (ev_pos ⟨rfl, h4⟩ ?_)))))
          have e := neck_loop hk.2 hn (wordsC n k) hl h3 h6 (wordsC n k).length 0 0 (by omega) (by omega)
          rw [List.drop_zero, Nat.zero_add] at e
          refine ev_call e (ev_call (Ev.of (fun q => impl_CountBracelets.mono _ _ q) (k := 3000) g5) (ev_pos ?_ (Ev.now _)))
          rw [h7, h5]
        · have a1 : Ev (fun q => impl_NecklacesOf.f q (n : Int) (k : Int)) (([] : List (List Int)), false) := by
            unfold impl_NecklacesOf.f
            exact ev_plain o1 (ev_pos rfl (ev_call e1 (ev_pos (by omega) (Ev.now _))))
          have a2 : Ev (fun q => spec_NecklacesOf.f q (n : Int) (k : Int)) (([] : List (List Int)), false) := by
            unfold spec_NecklacesOf.f
            exact ev_plain o2 (ev_pos rfl (ev_call e2 (ev_pos (by omega) (Ev.now _))))
          refine ev_call a1 (ev_call a2 (ev_pos rfl ?_))
          refine ev_call (tSameRows_ev [] (by simp) (by simp)) (ev_pos rfl ?_)
          exact ev_call c1 (ev_call c2 (ev_pos rfl (ev_pos rfl (ev_neg c3 (ev_pos rfl (Ev.now _))))))
theorem neck_m1_1 : laws_FnNecklacesCounted.rest 3000 (-1) 1 = some true := by kernel_rfl
theorem neck_m1_2 : laws_FnNecklacesCounted.rest 3000 (-1) 2 = some true := by kernel_rfl
theorem neck_m1_3 : laws_FnNecklacesCounted.rest 3000 (-1) 3 = some true := by kernel_rfl
theorem neck_0_1 : laws_FnNecklacesCounted.rest 3000 0 1 = some true := by kernel_rfl
theorem neck_0_2 : laws_FnNecklacesCounted.rest 3000 0 2 = some true := by kernel_rfl
theorem neck_0_3 : laws_FnNecklacesCounted.rest 3000 0 3 = some true := by kernel_rfl
theorem neck_1_m1 : laws_FnNecklacesCounted.rest 3000 1 (-1) = some true := by kernel_rfl
theorem neck_1_0 : laws_FnNecklacesCounted.rest 3000 1 0 = some true := by kernel_rfl
theorem look_1_1 : look 1 1 = true := by kernel_rfl
theorem look_1_2 : look 1 2 = true := by kernel_rfl
theorem look_1_3 : look 1 3 = true := by kernel_rfl
theorem look_1_4 : look 1 4 = true := by kernel_rfl
theorem look_1_6 : look 1 6 = true := by kernel_rfl
theorem neck_1_7 : laws_FnNecklacesCounted.rest 3000 1 7 = some true := by kernel_rfl
theorem neck_2_m1 : laws_FnNecklacesCounted.rest 3000 2 (-1) = some true := by kernel_rfl
theorem neck_2_0 : laws_FnNecklacesCounted.rest 3000 2 0 = some true := by kernel_rfl
theorem look_2_1 : look 2 1 = true := by kernel_rfl
theorem look_2_2 : look 2 2 = true := by kernel_rfl
theorem look_2_3 : look 2 3 = true := by kernel_rfl
theorem look_2_4 : look 2 4 = true := by kernel_rfl
theorem look_2_6 : look 2 6 = true := by kernel_rfl
theorem neck_2_7 : laws_FnNecklacesCounted.rest 3000 2 7 = some true := by kernel_rfl
theorem neck_3_m1 : laws_FnNecklacesCounted.rest 3000 3 (-1) = some true := by kernel_rfl
theorem neck_3_0 : laws_FnNecklacesCounted.rest 3000 3 0 = some true := by kernel_rfl
theorem look_3_1 : look 3 1 = true := by kernel_rfl
theorem look_3_2 : look 3 2 = true := by kernel_rfl
theorem look_3_3 : look 3 3 = true := by kernel_rfl
theorem look_3_4 : look 3 4 = true := by kernel_rfl
theorem look_3_6 : look 3 6 = true := by kernel_rfl
theorem neck_3_7 : laws_FnNecklacesCounted.rest 3000 3 7 = some true := by kernel_rfl
theorem neck_4_m1 : laws_FnNecklacesCounted.rest 3000 4 (-1) = some true := by kernel_rfl
theorem neck_4_0 : laws_FnNecklacesCounted.rest 3000 4 0 = some true := by kernel_rfl
theorem look_4_1 : look 4 1 = true := by kernel_rfl
theorem look_4_2 : look 4 2 = true := by kernel_rfl
theorem look_4_3 : look 4 3 = true := by kernel_rfl
theorem look_4_4 : look 4 4 = true := by kernel_rfl
theorem look_4_6 : look 4 6 = true := by kernel_rfl
theorem neck_4_7 : laws_FnNecklacesCounted.rest 3000 4 7 = some true := by kernel_rfl
theorem neck_5_m1 : laws_FnNecklacesCounted.rest 3000 5 (-1) = some true := by kernel_rfl
theorem neck_5_0 : laws_FnNecklacesCounted.rest 3000 5 0 = some true := by kernel_rfl
theorem look_5_1 : look 5 1 = true := by kernel_rfl
theorem look_5_2 : look 5 2 = true := by kernel_rfl
theorem look_5_3 : look 5 3 = true := by kernel_rfl
theorem look_5_4 : look 5 4 = true := by kernel_rfl
theorem look_5_6 : look 5 6 = true := by kernel_rfl
theorem neck_5_7 : laws_FnNecklacesCounted.rest 3000 5 7 = some true := by kernel_rfl
theorem neck_6_m1 : laws_FnNecklacesCounted.rest 3000 6 (-1) = some true := by kernel_rfl
theorem neck_6_0 : laws_FnNecklacesCounted.rest 3000 6 0 = some true := by kernel_rfl
theorem look_6_1 : look 6 1 = true := by kernel_rfl
theorem look_6_2 : look 6 2 = true := by kernel_rfl
theorem look_6_3 : look 6 3 = true := by kernel_rfl
theorem look_6_4 : look 6 4 = true := by kernel_rfl
theorem look_6_6 : look 6 6 = true := by kernel_rfl
theorem neck_6_7 : laws_FnNecklacesCounted.rest 3000 6 7 = some true := by kernel_rfl
theorem look_9_1 : look 9 1 = true := by kernel_rfl
theorem look_9_2 : look 9 2 = true := by kernel_rfl
theorem look_9_3 : look 9 3 = true := by kernel_rfl
theorem look_12_1 : look 12 1 = true := by kernel_rfl
theorem look_12_2 : look 12 2 = true := by kernel_rfl
theorem look_12_3 : look 12 3 = true := by kernel_rfl
theorem neck_13_1 : laws_FnNecklacesCounted.rest 3000 13 1 = some true := by kernel_rfl
theorem neck_13_2 : laws_FnNecklacesCounted.rest 3000 13 2 = some true := by kernel_rfl
theorem neck_13_3 : laws_FnNecklacesCounted.rest 3000 13 3 = some true := by kernel_rfl

theorem neck_all (n k : Int) (h : kindS n k) : ∃ q, laws_FnNecklacesCounted.rest q n k = some true := by
  unfold kindS at h
  have hn : n = (-1) ∨ n = 0 ∨ n = 1 ∨ n = 2 ∨ n = 3 ∨ n = 4 ∨ n = 5 ∨ n = 6 ∨ n = 9 ∨ n = 12 ∨ n = 13 := by omega
  have hk : k = (-1) ∨ k = 0 ∨ k = 1 ∨ k = 2 ∨ k = 3 ∨ k = 4 ∨ k = 6 ∨ k = 7 := by omega
  rcases hn with rfl | rfl | rfl | rfl | rfl | rfl | rfl | rfl | rfl | rfl | rfl <;> rcases hk with rfl | rfl | rfl | rfl | rfl | rfl | rfl | rfl
  · omega
  · omega
  · exact ⟨3000, neck_m1_1⟩
  · exact ⟨3000, neck_m1_2⟩
  · exact ⟨3000, neck_m1_3⟩
  · omega
  · omega
  · omega
  · omega
  · omega
  · exact ⟨3000, neck_0_1⟩
  · exact ⟨3000, neck_0_2⟩
  · exact ⟨3000, neck_0_3⟩
  · omega
  · omega
  · omega
  · exact ⟨3000, neck_1_m1⟩
  · exact ⟨3000, neck_1_0⟩
  · exact Ev.rounds (neck_ev (n := 1) (k := 1) (by decide) (by decide) look_1_1)
  · exact Ev.rounds (neck_ev (n := 1) (k := 2) (by decide) (by decide) look_1_2)
  · exact Ev.rounds (neck_ev (n := 1) (k := 3) (by decide) (by decide) look_1_3)
  · exact Ev.rounds (neck_ev (n := 1) (k := 4) (by decide) (by decide) look_1_4)
  · exact Ev.rounds (neck_ev (n := 1) (k := 6) (by decide) (by decide) look_1_6)
  · exact ⟨3000, neck_1_7⟩
  · exact ⟨3000, neck_2_m1⟩
  · exact ⟨3000, neck_2_0⟩
  · exact Ev.rounds (neck_ev (n := 2) (k := 1) (by decide) (by decide) look_2_1)
  · exact Ev.rounds (neck_ev (n := 2) (k := 2) (by decide) (by decide) look_2_2)
  · exact Ev.rounds (neck_ev (n := 2) (k := 3) (by decide) (by decide) look_2_3)
  · exact Ev.rounds (neck_ev (n := 2) (k := 4) (by decide) (by decide) look_2_4)
  · exact Ev.rounds (neck_ev (n := 2) (k := 6) (by decide) (by decide) look_2_6)
  · exact ⟨3000, neck_2_7⟩
  · exact ⟨3000, neck_3_m1⟩
  · exact ⟨3000, neck_3_0⟩
  · exact Ev.rounds (neck_ev (n := 3) (k := 1) (by decide) (by decide) look_3_1)
  · exact Ev.rounds (neck_ev (n := 3) (k := 2) (by decide) (by decide) look_3_2)
  · exact Ev.rounds (neck_ev (n := 3) (k := 3) (by decide) (by decide) look_3_3)
  · exact Ev.rounds (neck_ev (n := 3) (k := 4) (by decide) (by decide) look_3_4)
  · exact Ev.rounds (neck_ev (n := 3) (k := 6) (by decide) (by decide) look_3_6)
  · exact ⟨3000, neck_3_7⟩
  · exact ⟨3000, neck_4_m1⟩
  · exact ⟨3000, neck_4_0⟩
  · exact Ev.rounds (neck_ev (n := 4) (k := 1) (by decide) (by decide) look_4_1)
  · exact Ev.rounds (neck_ev (n := 4) (k := 2) (by decide) (by decide) look_4_2)
  · exact Ev.rounds (neck_ev (n := 4) (k := 3) (by decide) (by decide) look_4_3)
  · exact Ev.rounds (neck_ev (n := 4) (k := 4) (by decide) (by decide) look_4_4)
  · exact Ev.rounds (neck_ev (n := 4) (k := 6) (by decide) (by decide) look_4_6)
  · exact ⟨3000, neck_4_7⟩
  · exact ⟨3000, neck_5_m1⟩
  · exact ⟨3000, neck_5_0⟩
  · exact Ev.rounds (neck_ev (n := 5) (k := 1) (by decide) (by decide) look_5_1)
  · exact Ev.rounds (neck_ev (n := 5) (k := 2) (by decide) (by decide) look_5_2)
  · exact Ev.rounds (neck_ev (n := 5) (k := 3) (by decide) (by decide) look_5_3)
  · exact Ev.rounds (neck_ev (n := 5) (k := 4) (by decide) (by decide) look_5_4)
  · exact Ev.rounds (neck_ev (n := 5) (k := 6) (by decide) (by decide) look_5_6)
  · exact ⟨3000, neck_5_7⟩
  · exact ⟨3000, neck_6_m1⟩
  · exact ⟨3000, neck_6_0⟩
  · exact Ev.rounds (neck_ev (n := 6) (k := 1) (by decide) (by decide) look_6_1)
  · exact Ev.rounds (neck_ev (n := 6) (k := 2) (by decide) (by decide) look_6_2)
  · exact Ev.rounds (neck_ev (n := 6) (k := 3) (by decide) (by decide) look_6_3)
  · exact Ev.rounds (neck_ev (n := 6) (k := 4) (by decide) (by decide) look_6_4)
  · exact Ev.rounds (neck_ev (n := 6) (k := 6) (by decide) (by decide) look_6_6)
  · exact ⟨3000, neck_6_7⟩
  · omega
  · omega
  · exact Ev.rounds (neck_ev (n := 9) (k := 1) (by decide) (by decide) look_9_1)
  · exact Ev.rounds (neck_ev (n := 9) (k := 2) (by decide) (by decide) look_9_2)
  · exact Ev.rounds (neck_ev (n := 9) (k := 3) (by decide) (by decide) look_9_3)
  · omega
  · omega
  · omega
  · omega
  · omega
  · exact Ev.rounds (neck_ev (n := 12) (k := 1) (by decide) (by decide) look_12_1)
  · exact Ev.rounds (neck_ev (n := 12) (k := 2) (by decide) (by decide) look_12_2)
  · exact Ev.rounds (neck_ev (n := 12) (k := 3) (by decide) (by decide) look_12_3)
  · omega
  · omega
  · omega
  · omega
  · omega
  · exact ⟨3000, neck_13_1⟩
  · exact ⟨3000, neck_13_2⟩
  · exact ⟨3000, neck_13_3⟩
  · omega
  · omega
  · omega
theorem FnNecklacesCounted : laws_FnNecklacesCounted.Pure := by
  intro l0 l1 _ _ hb0 _ _ hb1
  unfold laws_FnNecklacesCounted.f
  obtain ⟨b, hbig⟩ := laws_big_some l0 l1
  obtain ⟨n, k, a', s', hst, hs, _⟩ := kind_of (bytes_wf hb0) (a := 0) 0 (by omega) (by omega)
  have hdraw : spec_DrawNecklacesOf.f l0 = some (n, k) := by
    unfold spec_DrawNecklacesOf.f
    rw [hst]; rfl
  obtain ⟨q, hq⟩ := neck_all n k hs
  refine ⟨q, ?_⟩
  rw [hbig, Option.bind_some]
  by_cases c : b = true
  · rw [if_pos c]
  · rw [if_neg c, hdraw, Option.bind_some]
    exact hq

end Go.Proofs.Ytfbafdlgnjkioaa.Pure
