/- The pure statement of MendedTapes: it holds of all draws; no condition. -/
import Derived.Test.YtaimmgonhanhoaaPFnMendedTapesx8
import Derived.Test.YtaimmgonhanhoaaBase
import Derived.Test.YtaimmgonhanhoaaLists
namespace Go.Proofs.Ytaimmgonhanhoaa.Pure
open Go.RowKit Go.Proofs.Ytaimmgonhanhoaa.PFnMendedTapes Go.Proofs.YtaimmgonhanhoaaW.PrintWords Go.Proofs.YtaimmgonhanhoaaW.PrintLast Go.Proofs.Ytaimmgonhanhoaa.Base
set_option maxRecDepth 10000
set_option linter.unusedVariables false
set_option linter.unusedSimpArgs false

def tapeB (w : List Int) (least : Int) : Bool := cycleB w 6 && inB (w.length : Int) least 64
def SpreadOfM (w : List Int) (n : Int) : Int × Bool := if tapeB w 2 = true ∧ (1 ≤ n ∧ n ≤ 64) then ((spreadM w n.toNat : Nat), true) else (0, false)
def SafeLengthM (w : List Int) : Int × Bool := if tapeB w 2 = true then ((List.range' 0 64).findSome? fun i => if 3 ≤ spreadM w (i + 1) then some (((i + 1 : Nat) : Int), true) else none).getD (0, false) else (0, false)

/-- At how many letters a given window differs from the one at a place. -/
def farG (w g : List Int) (p : Nat) : Nat := far (fun j => g.getD j 0) (at_ w p) g.length
def fi : Option Nat → Int
  | none => -1
  | some p => (p : Int)
def mendL (w g : List Int) : Nat → Nat → Option Nat → Int × List Int × Bool
  | 0, _, none => (0, [], false)
  | 0, _, some p => ((p : Int), win w p g.length, true)
  | d + 1, i, f => if farG w g i ≤ 1 then (match f with | some _ => (0, [], false) | none => mendL w g d (i + 1) (some i)) else mendL w g d (i + 1) f
def MendWindowM (w g : List Int) : Int × List Int × Bool := if tapeB w 1 = true ∧ cycleB g 6 = true then mendL w g w.length 0 none else (0, [], false)
theorem mendL_length (w g : List Int) : ∀ d i f, (mendL w g d i f).2.1.length ≤ g.length := by
  intro d
  induction d with
  | zero =>
    intro i f
    cases f <;> simp [mendL, win_length]
  | succ d ih =>
    intro i f
    unfold mendL
    split
    · cases f
      · exact ih _ _
      · simp
    · exact ih _ _
theorem MendWindowM_length (w g : List Int) : (MendWindowM w g).2.1.length ≤ 1024 := by
  unfold MendWindowM
  split
  · rename_i h
    exact Nat.le_trans (mendL_length w g _ _ _) (cycleB_iff.mp h.2).2.1.2
  · simp

theorem far_triangle (f g h : Nat → Int) (n : Nat) : far f h n ≤ far f g n + far g h n := by
  induction n with
  | zero => simp [far]
  | succ n ih =>
    rw [far_succ, far_succ, far_succ]
    split <;> split <;> split <;> first | omega | (exfalso; simp_all)
theorem far_one (f g : Nat → Int) (i : Nat) (h : ∀ j, j ≠ i → f j = g j) : ∀ n, far f g n ≤ if i < n then 1 else 0 := by
  intro n
  induction n with
  | zero => simp [far]
  | succ n ih =>
    rw [far_succ]
    by_cases e : n = i
    · subst e
      rw [if_neg (show ¬ n < n by omega)] at ih
      rw [if_pos (show n < n + 1 by omega)]
      split <;> omega
    · rw [if_pos (h n e)]
      by_cases hi : i < n
      · rw [if_pos hi] at ih; rw [if_pos (by omega)]; omega
      · rw [if_neg hi] at ih; omega
theorem foldl_min_le (f : Nat → Nat) : ∀ (l : List Nat) (m : Nat), l.foldl (fun m j => min m (f j)) m ≤ m ∧ ∀ j ∈ l, l.foldl (fun m j => min m (f j)) m ≤ f j := by
  intro l
  induction l with
  | nil => intro m; exact ⟨Nat.le_refl _, fun j hj => by cases hj⟩
  | cons x l ih =>
    intro m
    have := ih (min m (f x))
    rw [List.foldl_cons]
    refine ⟨by omega, fun j hj => ?_⟩
    rcases List.mem_cons.mp hj with rfl | hj
    · omega
    · exact this.2 j hj
theorem foldl_spread_le (w : List Int) (n : Nat) : ∀ (l : List Nat) (m : Nat), l.foldl (fun m i => spreadIn w n i m) m ≤ m ∧ ∀ i ∈ l, ∀ j, j < i → l.foldl (fun m i => spreadIn w n i m) m ≤ farW w n i j := by
  intro l
  induction l with
  | nil => intro m; exact ⟨Nat.le_refl _, fun j hj => by cases hj⟩
  | cons x l ih =>
    intro m
    have h1 := ih (spreadIn w n x m)
    have h2 := spreadIn_le w n x m
    rw [List.foldl_cons]
    refine ⟨by omega, fun i hi j hj => ?_⟩
    rcases List.mem_cons.mp hi with rfl | hi
    · have h3 := (foldl_min_le (fun j => farW w n i j) (List.range' 0 i) m).2 j (by simp [List.mem_range'_1]; omega)
      have h4 : spreadIn w n i m ≤ farW w n i j := h3
      omega
    · exact h1.2 i hi j hj
theorem spread_le_far (w : List Int) (n i j : Nat) (hi : i < w.length) (hj : j < i) : spreadM w n ≤ farW w n i j := (foldl_spread_le w n (List.range' 0 w.length) n).2 i (by simp [List.mem_range'_1]; omega) j hj
theorem spread_le_far' (w : List Int) (n i j : Nat) (hi : i < w.length) (hj : j < w.length) (hne : i ≠ j) : spreadM w n ≤ farW w n i j := by
  by_cases h : j < i
  · exact spread_le_far w n i j hi h
  · have := spread_le_far w n j i hj (by omega)
    have e : farW w n i j = farW w n j i := by unfold farW; rw [far_comm]
    omega
theorem mendL_none (w g : List Int) : ∀ d i f, (∀ x, i ≤ x → x < i + d → ¬ farG w g x ≤ 1) → mendL w g d i f = mendL w g 0 (i + d) f := by
  intro d
  induction d with
  | zero => intro i f _; rfl
  | succ d ih =>
    intro i f h
    unfold mendL
    rw [if_neg (h i (Nat.le_refl _) (by omega)), ih (i + 1) f (fun x h1 h2 => h x (by omega) (by omega)), show i + 1 + d = i + (d + 1) by omega]
    cases f <;> rfl
theorem mendL_one (w g : List Int) (p : Nat) (hp : farG w g p ≤ 1) : ∀ d i, i ≤ p → p < i + d → (∀ x, i ≤ x → x < i + d → x ≠ p → ¬ farG w g x ≤ 1) → mendL w g d i none = ((p : Int), win w p g.length, true) := by
  intro d
  induction d with
  | zero => intro i h1 h2; omega
  | succ d ih =>
    intro i h1 h2 h
    by_cases e : i = p
    · subst e
      have hm : mendL w g (d + 1) i none = mendL w g d (i + 1) (some i) := by rw [mendL]; rw [if_pos hp]
      rw [hm, mendL_none w g d (i + 1) (some i) (fun x h3 h4 => h x (by omega) (by omega) (by omega))]
      rfl
    · have hm : mendL w g (d + 1) i none = mendL w g d (i + 1) none := by rw [mendL]; rw [if_neg (h i (Nat.le_refl _) (by omega) e)]
      rw [hm]
      exact ih (i + 1) (by omega) (by omega) (fun x h3 h4 => h x (by omega) (by omega))
theorem mendL_told (w g : List Int) : ∀ d i f, (∀ p, f = some p → p < i ∧ farG w g p ≤ 1) → (mendL w g d i f).2.2 = true → ∃ p, p < i + d ∧ farG w g p ≤ 1 ∧ mendL w g d i f = ((p : Int), win w p g.length, true) := by
  intro d
  induction d with
  | zero =>
    intro i f hf h
    cases f with
    | none => simp [mendL] at h
    | some p => exact ⟨p, (hf p rfl).1, (hf p rfl).2, rfl⟩
  | succ d ih =>
    intro i f hf h
    by_cases c : farG w g i ≤ 1
    · cases f with
      | none =>
        have hm : mendL w g (d + 1) i none = mendL w g d (i + 1) (some i) := by rw [mendL]; rw [if_pos c]
        rw [hm] at h ⊢
        obtain ⟨p, h1, h2⟩ := ih (i + 1) (some i) (fun p hp => by cases hp; exact ⟨by omega, c⟩) h
        exact ⟨p, by omega, h2⟩
      | some q =>
        have hm : mendL w g (d + 1) i (some q) = (0, [], false) := by unfold mendL; rw [if_pos c]
        rw [hm] at h; cases h
    · have hm : mendL w g (d + 1) i f = mendL w g d (i + 1) f := by
        conv => lhs; unfold mendL
        rw [if_neg c]
      rw [hm] at h ⊢
      obtain ⟨p, h1, h2⟩ := ih (i + 1) f (fun p hp => ⟨by have := (hf p hp).1; omega, (hf p hp).2⟩) h
      exact ⟨p, by omega, h2⟩
theorem win_getD (w : List Int) (p n j : Nat) (h : j < n) : (win w p n).getD j 0 = at_ w p j := win_get w p n j h
/-- A window with one wrong letter is mended, where the spread is three at least. -/
theorem mend_back (w : List Int) (n p i : Nat) (x : Int) (ht : tapeB w 2 = true) (hn : 1 ≤ n ∧ n ≤ 64) (hp : p < w.length) (hi : i < n) (hx : 0 ≤ x ∧ x ≤ 5) (hs : 3 ≤ spreadM w n) :
    MendWindowM w ((win w p n).set i x) = ((p : Int), win w p n, true) := by
  have hcw : cycleB w 6 = true := by simp only [tapeB, Bool.and_eq_true] at ht; exact ht.1
  have hlw : inB (w.length : Int) 2 64 = true := by simp only [tapeB, Bool.and_eq_true] at ht; exact ht.2
  have hlw2 := inB_iff.mp hlw
  have htape1 : tapeB w 1 = true := by
    simp only [tapeB, Bool.and_eq_true]
    exact ⟨hcw, inB_iff.mpr (by omega)⟩
  have hlen : ((win w p n).set i x).length = n := by rw [List.length_set, win_length]
  have hcg : cycleB ((win w p n).set i x) 6 = true := by
    rw [cycleB_iff]
    refine ⟨by omega, by rw [hlen]; omega, fun y hy => ?_⟩
    rcases List.mem_or_eq_of_mem_set hy with hy | rfl
    · have := (cycleB_iff.mp hcw).2.2 y (mem_win (by omega) hy)
      omega
    · omega
  have hat : ∀ j, j ≠ i → j < n → ((win w p n).set i x).getD j 0 = at_ w p j := fun j hj hjn => by
    rw [List.getD_eq_getElem?_getD, List.getElem?_set_ne (fun e => hj e.symm), ← List.getD_eq_getElem?_getD, win_getD _ _ _ _ hjn]
  have hfar1 : far (fun j => ((win w p n).set i x).getD j 0) (at_ w p) n ≤ 1 := by
    have h1 := far_one (fun j => if j = i then x else at_ w p j) (at_ w p) i (fun j hj => by simp [hj]) n
    have h2 : far (fun j => ((win w p n).set i x).getD j 0) (at_ w p) n = far (fun j => if j = i then x else at_ w p j) (at_ w p) n := by
      refine far_congr (fun j hj => ⟨?_, rfl⟩)
      by_cases e : j = i
      · subst e
        rw [if_pos rfl, List.getD_eq_getElem?_getD, List.getElem?_set_self (by rw [win_length]; exact hj)]; rfl
      · rw [if_neg e]; exact hat j e hj
    rw [h2]
    split at h1 <;> omega
  unfold MendWindowM
  rw [if_pos ⟨htape1, hcg⟩]
  have hg : farG w ((win w p n).set i x) p ≤ 1 := by unfold farG; rw [hlen]; exact hfar1
  have := mendL_one w ((win w p n).set i x) p hg w.length 0 (by omega) (by omega) (fun q _ hq hne hc => by
    unfold farG at hc
    rw [hlen] at hc
    have h1 := spread_le_far' w n q p (by omega) hp hne
    have h2 := far_triangle (at_ w q) (fun j => ((win w p n).set i x).getD j 0) (at_ w p) n
    have h3 := far_comm (at_ w q) (fun j => ((win w p n).set i x).getD j 0) n
    unfold farW at h1
    omega)
  rw [this, hlen]
theorem mend_told (w g : List Int) (h : (MendWindowM w g).2.2 = true) : ∃ p, p < w.length ∧ cycleB w 6 = true ∧ cycleB g 6 = true ∧ farG w g p ≤ 1 ∧ MendWindowM w g = ((p : Int), win w p g.length, true) := by
  unfold MendWindowM at h ⊢
  split at h
  · rename_i hc
    rw [if_pos hc]
    obtain ⟨p, h1, h2, h3⟩ := mendL_told w g w.length 0 none (fun p hp => by cases hp) h
    exact ⟨p, by omega, (by have := hc.1; simp only [tapeB, Bool.and_eq_true] at this; exact this.1), hc.2, h2, h3⟩
  · cases h

def bytesL (d : List Int) : Prop := ∀ x ∈ d, 0 ≤ x ∧ x ≤ 255
theorem and255 (x : Int) : 0 ≤ Go.bits .and .u64 x 255 ∧ Go.bits .and .u64 x 255 ≤ 255 := by
  have h : ((BitVec.ofInt 64 x) &&& (BitVec.ofInt 64 255)).toNat ≤ 255 := by
    rw [BitVec.toNat_and]; exact Nat.le_trans Nat.and_le_right (by decide)
  have e : Go.bits .and .u64 x 255 = IntKind.u64.wrap (((BitVec.ofInt 64 x) &&& (BitVec.ofInt 64 255)).toNat : Int) := rfl
  rw [e]
  generalize ((BitVec.ofInt 64 x) &&& (BitVec.ofInt 64 255)).toNat = m at h
  simp only [IntKind.wrap, IntKind.signed, IntKind.bits, Bool.false_and, Bool.false_eq_true, if_false]
  omega
theorem bytes_wf {d : List Int} (h : ∀ x ∈ d, (Lit.int .u8 x).wf = true) : bytesL d := by
  intro x hx
  have h := h x hx
  simp only [Lit.wf, IntKind.min, IntKind.max, IntKind.signed, IntKind.bits, Bool.and_eq_true, decide_eq_true_eq, Bool.false_eq_true, if_false] at h
  omega
theorem next_ok {d : List Int} (hd : bytesL d) {a : Int} (s : Int) (h0 : 0 ≤ a) (h1 : a ≤ 1000000000001000) : ∃ v s', spec_l1Cur_next.f d a s = some (v, a + 1, s') ∧ 0 ≤ v ∧ v ≤ 255 := by
  unfold spec_l1Cur_next.f
  rw [wrap_id (x := a + 1) (by omega)]
  by_cases ha : a < (d.length : Int)
  · rw [if_pos ha, if_pos h0, if_pos (by omega)]
    have hb : 0 ≤ rd d a ∧ rd d a ≤ 255 := by
      obtain ⟨j, rfl⟩ := Int.eq_ofNat_of_zero_le h0
      exact hd _ (by rw [show rd d ((j : Nat) : Int) = d[j]'(by omega) from rd_get d j (by omega)]; exact List.getElem_mem _)
    exact ⟨_, _, rfl, by rw [wrap_id (by omega)]; exact hb.1, by rw [wrap_id (by omega)]; exact hb.2⟩
  · rw [if_neg ha]
    by_cases hb : a + 1 ≤ (d.length : Int)
    · omega
    · rw [if_neg hb]
      have h := and255 ((IntKind.u64.wrap ((IntKind.u64.wrap ((IntKind.u64.wrap (s * 6364136223846793005)))) + 1442695040888963407)) / 1099511627776)
      exact ⟨_, _, rfl, by rw [wrap_id (by omega)]; exact h.1, by rw [wrap_id (by omega)]; exact h.2⟩
theorem tmod_lt {x n : Int} (h0 : 0 ≤ x) (hn : 1 ≤ n) : 0 ≤ Int.tmod x n ∧ Int.tmod x n < n := by
  obtain ⟨p, rfl⟩ := Int.eq_ofNat_of_zero_le h0
  obtain ⟨q, rfl⟩ := Int.eq_ofNat_of_zero_le (show 0 ≤ n by omega)
  rw [show ((p : Nat) : Int).tmod ((q : Nat) : Int) = ((p % q : Nat) : Int) from tmod_nat p q]
  have := Nat.mod_lt p (show 0 < q by omega)
  omega
theorem pick_ok {d : List Int} (hd : bytesL d) {a : Int} (s n : Int) (h0 : 0 ≤ a) (h1 : a ≤ 1000000000000000) : ∃ v a' s', spec_l1Cur_pick.f d a s n = some (v, a', s') ∧ (0 ≤ v ∧ (v < n ∨ (n ≤ 1 ∧ v = 0))) ∧ (a ≤ a' ∧ a' ≤ a + 2) := by
  unfold spec_l1Cur_pick.f
  by_cases hn : n ≤ 1
  · rw [if_pos hn]
    exact ⟨0, a, s, rfl, ⟨by omega, .inr ⟨hn, rfl⟩⟩, by omega⟩
  · rw [if_neg hn]
    obtain ⟨v, s1, e1, hv⟩ := next_ok hd s h0 (by omega)
    rw [e1, Option.bind_some]
    dsimp only
    by_cases h2 : n > 200
    · rw [if_pos h2]
      obtain ⟨u, s2, e2, hu⟩ := next_ok hd (a := a + 1) s1 (by omega) (by omega)
      rw [e2, Option.bind_some]
      dsimp only
      rw [if_neg (by omega), wrap_id (x := v * 256) (by omega), wrap_id (x := v * 256 + u) (by omega)]
      have := tmod_lt (x := v * 256 + u) (n := n) (by omega) (by omega)
      exact ⟨_, _, _, rfl, ⟨this.1, .inl this.2⟩, by omega⟩
    · rw [if_neg h2, if_neg (by omega)]
      have := tmod_lt (x := v) (n := n) (by omega) (by omega)
      exact ⟨_, _, _, rfl, ⟨this.1, .inl this.2⟩, by omega⟩

theorem one_ok {d : List Int} (hd : bytesL d) {a : Int} (s n : Int) (h0 : 0 ≤ a) (h1 : a ≤ 1000000000000000) : ∃ v a' s', spec_l1Cur_one.f d a s n = some (v, a', s') ∧ (a ≤ a' ∧ a' ≤ a + 2) := by
  obtain ⟨v, a', s', e, _, h⟩ := pick_ok hd s n h0 h1
  unfold spec_l1Cur_one.f
  rw [e]
  exact ⟨_, _, _, rfl, h⟩
theorem among_ok {d : List Int} (hd : bytesL d) {a : Int} (s : Int) (l : List Int) (hl : 1 ≤ l.length) (h0 : 0 ≤ a) (h1 : a ≤ 1000000000000000) : ∃ v a' s', spec_l1Cur_among.f d a s l = some (v, a', s') ∧ v ∈ l ∧ (a ≤ a' ∧ a' ≤ a + 2) := by
  obtain ⟨v, a', s', e, hv, h⟩ := pick_ok hd s (l.length : Int) h0 h1
  unfold spec_l1Cur_among.f
  rw [e, Option.bind_some]
  dsimp only
  rw [if_pos (by omega), if_pos (by omega)]
  refine ⟨_, _, _, rfl, ?_, h⟩
  obtain ⟨j, rfl⟩ := Int.eq_ofNat_of_zero_le hv.1
  rw [show rd l ((j : Nat) : Int) = l[j]'(by omega) from rd_get l j (by omega)]
  exact List.getElem_mem _
theorem cycle_loop {d : List Int} (hd : bytesL d) (n : Int) : ∀ (m : Nat) (xs : List Int) (a s : Int), m ≤ 20 → xs.length + m ≤ 20 → 1 ≤ xs.length + m → 0 ≤ a → a + 2 * (m : Int) ≤ 999999999999900 →
    ∃ r a' s', Ev (fun k => spec_l1Cur_cycle.l0 k n xs (m : Int) d a s) (r, a', s') ∧ r.length ≤ 1025 ∧ (a ≤ a' ∧ a' ≤ a + 2 * (m : Int) + 10) := by
  intro m
  induction m with
  | zero =>
    intro xs a s _ hl h1 h0 hb
    obtain ⟨v, a1, s1, e1, hv, ha1⟩ := pick_ok hd s 14 h0 (by omega)
    by_cases c1 : v = 0
    · obtain ⟨p, a2, s2, e2, hp, ha2⟩ := pick_ok hd (a := a1) s1 (xs.length : Int) (by omega) (by omega)
      obtain ⟨u, a3, s3, e3, hu, ha3⟩ := among_ok hd (a := a2) s2 [(-1), 0, 5, 6] (by simp) (by omega) (by omega)
      refine ⟨xs.set p.toNat u, a3, s3, ?_, by simp; omega, by omega⟩
      refine Ev.step (fun k => by simp only [spec_l1Cur_cycle.l0]; rfl) ?_
      refine ev_neg (by omega) ?_
      refine ev_plain e1 ?_
      try dsimp only
      refine ev_pos c1 ?_
      refine ev_plain e2 ?_
      try dsimp only
      refine ev_plain e3 ?_
      try dsimp only
      refine ev_pos (by omega) ?_
      refine ev_pos (by omega) ?_
      exact Ev.now _
    · by_cases c2 : v = 1
      · refine ⟨[], a1, s1, ?_, by simp, by omega⟩
        refine Ev.step (fun k => by simp only [spec_l1Cur_cycle.l0]; rfl) ?_
        refine ev_neg (by omega) ?_
        refine ev_plain e1 ?_
        try dsimp only
        refine ev_neg c1 ?_
        refine ev_pos c2 ?_
        exact Ev.now _
      · by_cases c3 : v = 2
        · obtain ⟨u, a3, s3, e3, hu, ha3⟩ := among_ok hd (a := a1) s1 [64, 65, 1024, 1025] (by simp) (by omega) (by omega)
          obtain ⟨b, a4, s4, e4, ha4⟩ := one_ok hd (a := a3) s3 2 (by omega) (by omega)
          have hu2 : 64 ≤ u ∧ u ≤ 1025 := by simp at hu; omega
          have hlen : (List.replicate u.toNat (0 : Int)).length = u.toNat := by simp
          by_cases c4 : b = true
          · refine ⟨(List.replicate u.toNat (0 : Int)).set 0 1, a4, s4, ?_, by rw [List.length_set, hlen]; omega, by omega⟩
            skip
            refine Ev.step (fun k => by simp only [spec_l1Cur_cycle.l0]; rfl) ?_
            refine ev_neg (by omega) ?_
            refine ev_plain e1 ?_
            try dsimp only
            refine ev_neg c1 ?_
            refine ev_neg c2 ?_
            refine ev_pos c3 ?_
            refine ev_plain e3 ?_
            try dsimp only
            refine ev_pos (by omega) ?_
            refine ev_pos (by omega) ?_
            refine ev_plain rfl ?_
            try dsimp only
            refine ev_plain e4 ?_
            try dsimp only
            refine ev_pos c4 ?_
            refine ev_pos (by rw [hlen]; omega) ?_
            exact Ev.now _
          · refine ⟨List.replicate u.toNat (0 : Int), a4, s4, ?_, by rw [hlen]; omega, by omega⟩
            skip
            refine Ev.step (fun k => by simp only [spec_l1Cur_cycle.l0]; rfl) ?_
            refine ev_neg (by omega) ?_
            refine ev_plain e1 ?_
            try dsimp only
            refine ev_neg c1 ?_
            refine ev_neg c2 ?_
            refine ev_pos c3 ?_
            refine ev_plain e3 ?_
            try dsimp only
            refine ev_pos (by omega) ?_
            refine ev_pos (by omega) ?_
            refine ev_plain rfl ?_
            try dsimp only
            refine ev_plain e4 ?_
            try dsimp only
            refine ev_neg c4 ?_
            exact Ev.now _
        · refine ⟨xs, a1, s1, ?_, by omega, by omega⟩
          skip
          refine Ev.step (fun k => by simp only [spec_l1Cur_cycle.l0]; rfl) ?_
          refine ev_neg (by omega) ?_
          refine ev_plain e1 ?_
          try dsimp only
          refine ev_neg c1 ?_
          refine ev_neg c2 ?_
          refine ev_neg c3 ?_
          exact Ev.now _
  | succ m ih =>
    intro xs a s hm hl h1 h0 hb
    obtain ⟨v, a1, s1, e1, hv, ha1⟩ := pick_ok hd s n h0 (by omega)
    obtain ⟨r, a', s', e, hr, ha⟩ := ih (xs ++ [v]) a1 s1 (by omega) (by simp; omega) (by simp; omega) (by omega) (by omega)
    refine ⟨r, a', s', ?_, hr, by omega⟩
    refine Ev.step (fun k => by simp only [spec_l1Cur_cycle.l0]; rfl) ?_
    refine ev_pos (by omega) ?_
    refine ev_plain e1 ?_
    dsimp only
    refine ev_pos (by omega) ?_
    rw [wrap_pred (by omega)]
    exact e
theorem cycle_ok {d : List Int} (hd : bytesL d) {a : Int} (s n : Int) (h0 : 0 ≤ a) (h1 : a ≤ 999999999999000) : ∃ r a' s', Ev (fun k => spec_l1Cur_cycle.f k d a s n) (r, a', s') ∧ r.length ≤ 1025 ∧ (a ≤ a' ∧ a' ≤ a + 100) := by
  obtain ⟨v, a1, s1, e1, hv, ha1⟩ := pick_ok hd s 12 h0 (by omega)
  obtain ⟨m, hm⟩ : ∃ m : Nat, 1 + v = (m : Int) := ⟨(1 + v).toNat, by omega⟩
  obtain ⟨r, a', s', e, hr, ha⟩ := cycle_loop hd n m [] a1 s1 (by omega) (by simp; omega) (by simp; omega) (by omega) (by omega)
  unfold spec_l1Cur_cycle.f
  refine ⟨r, a', s', ev_plain e1 ?_, hr, by omega⟩
  dsimp only
  rw [wrap_id (x := 1 + v) (by omega), hm]
  exact e

theorem stages_ok {d : List Int} (hd : bytesL d) {a : Int} (s : Int) (h0 : 0 ≤ a) (h1 : a ≤ 999999999999000) : ∃ n k a' s', spec_l1Cur_stages.f d a s = some (n, k, a', s') ∧ (-1 ≤ n ∧ n ≤ 11) ∧ (-1 ≤ k ∧ k ≤ 7) ∧ (a ≤ a' ∧ a' ≤ a + 20) := by
  obtain ⟨v1, a1, s1, e1, hv1, ha1⟩ := pick_ok hd s 4 h0 (by omega)
  obtain ⟨v2, a2, s2, e2, hv2, ha2⟩ := pick_ok hd (a := a1) s1 2 (by omega) (by omega)
  obtain ⟨v3, a3, s3, e3, hv3, ha3⟩ := pick_ok hd (a := a2) s2 12 (by omega) (by omega)
  unfold spec_l1Cur_stages.f
  rw [e1, Option.bind_some]
  dsimp only
  rw [e2, Option.bind_some]
  dsimp only
  rw [e3, Option.bind_some]
  dsimp only
  by_cases c1 : v3 = 0
  · rw [if_pos c1]
    obtain ⟨u, a4, s4, e4, hu, ha4⟩ := among_ok hd (a := a3) s3 [(-1), 0, 1, 5, 10, 11] (by simp) (by omega) (by omega)
    rw [e4, Option.bind_some]
    dsimp only
    have : -1 ≤ u ∧ u ≤ 11 := by simp at hu; omega
    exact ⟨_, _, _, _, rfl, this, by omega, by omega⟩
  · rw [if_neg c1]
    by_cases c2 : v3 = 1
    · rw [if_pos c2]
      obtain ⟨u, a4, s4, e4, hu, ha4⟩ := among_ok hd (a := a3) s3 [(-1), 0, 1, 4, 6, 7] (by simp) (by omega) (by omega)
      obtain ⟨v5, a5, s5, e5, hv5, ha5⟩ := pick_ok hd (a := a4) s4 3 (by omega) (by omega)
      rw [e4, Option.bind_some]
      dsimp only
      rw [e5, Option.bind_some]
      dsimp only
      rw [wrap_id (x := 1 + v5) (by omega)]
      have : -1 ≤ u ∧ u ≤ 7 := by simp at hu; omega
      exact ⟨_, _, _, _, rfl, by omega, this, by omega⟩
    · rw [if_neg c2, wrap_id (x := 1 + v1) (by omega), wrap_id (x := 2 + v2) (by omega)]
      exact ⟨_, _, _, _, rfl, by omega, by omega, by omega⟩

def kindB (n k : Int) : Bool := inB n 1 10 && (inB k 2 6 && decide (k.toNat ^ n.toNat ≤ 1024))
theorem kindB_iff {n k : Int} : kindB n k = true ↔ (1 ≤ n ∧ n ≤ 10) ∧ (2 ≤ k ∧ k ≤ 6) ∧ k.toNat ^ n.toNat ≤ 1024 := by simp [kindB, inB_iff]
theorem kindB_nat {n k : Int} (h : kindB n k = true) : ∃ n' k' : Nat, n = n' ∧ k = k' ∧ 1 ≤ n' ∧ n' ≤ 10 ∧ 2 ≤ k' ∧ k' ≤ 6 ∧ k' ^ n' ≤ 1024 := by
  obtain ⟨h1, h2, h3⟩ := kindB_iff.mp h
  exact ⟨n.toNat, k.toNat, by omega, by omega, by omega, by omega, by omega, by omega, h3⟩

theorem least_all : ((List.range 11).all fun n => (List.range 7).all fun k => !(decide (1 ≤ n) && decide (2 ≤ k) && decide (k ^ n ≤ 1024)) || (match spec_LeastBruijn.f 2000 (n : Int) (k : Int) with | some (r, b) => b && (decide (1 ≤ r.length) && decide (r.length ≤ 1024)) | none => false)) = true := by kernel_rfl

/-- How often the nodes may still be left. -/
def slack (k : Nat) (left : List Int) : Nat := (left.map fun x => ((k : Int) - x).toNat).sum
theorem slack_set (k : Nat) : ∀ (left : List Int) (i : Nat), i < left.length → left.getD i 0 < (k : Int) → slack k (left.set i (left.getD i 0 + 1)) + 1 = slack k left := by
  intro left
  induction left with
  | nil => intro i h; simp at h
  | cons x left ih =>
    intro i h h2
    cases i with
    | zero => simp [slack] at h2 ⊢; omega
    | succ i =>
      have := ih i (by simpa using h) (by simpa using h2)
      simp [slack] at this ⊢
      omega
theorem slack_zeros (k n : Nat) : slack k (List.replicate n 0) = n * k := by
  simp [slack, List.map_replicate, List.sum_replicate_nat]

theorem spec_l1In_eq (a lo hi : Int) : spec_l1In.f a lo hi = some (inB a lo hi) := by
  unfold spec_l1In.f inB
  by_cases h : a ≥ lo
  · rw [if_pos h]; simp [h]
  · rw [if_neg h]; simp [show ¬ lo ≤ a from h]

theorem spec_lyPower_loop (a : Nat) (ha : a ≤ 6) : ∀ (e j : Nat), e + j ≤ 12 → Ev (fun k => spec_lyPower.l0 k (a : Int) (e : Int) ((a ^ j : Nat) : Int)) ((a ^ (j + e) : Nat) : Int) := by
  intro e
  induction e with
  | zero =>
    intro j h
    exact Ev.step (fun k => by simp only [spec_lyPower.l0]; rfl) (ev_neg (by omega) (Ev.now _))
  | succ e ih =>
    intro j h
    have h1 : a ^ (j + 1) ≤ 2176782336 := Nat.le_trans (Nat.pow_le_pow_left ha (j + 1)) (Nat.le_trans (Nat.pow_le_pow_right (by omega) (show j + 1 ≤ 12 by omega)) (by decide))
    refine Ev.step (fun k => by simp only [spec_lyPower.l0]; rfl) ?_
    refine ev_pos (by omega) ?_
    rw [wrap_pred (by omega), show ((a ^ j : Nat) : Int) * (a : Int) = ((a ^ (j + 1) : Nat) : Int) by rw [Nat.pow_succ]; simp, wrap_id (by omega)]
    exact ev_to (ih (j + 1) (by omega)) (by rw [show j + 1 + e = j + (e + 1) by omega])
theorem spec_lyPower_ev (a n : Nat) (ha : a ≤ 6) (hn : n ≤ 12) : Ev (fun k => spec_lyPower.f k (a : Int) (n : Int)) ((a ^ n : Nat) : Int) :=
  ev_to (spec_lyPower_loop a ha n 0 (by omega)) (by simp)

theorem spec_brKind_ev (n k : Int) : Ev (fun q => spec_brKind.f q n k) (kindB n k) := by
  unfold spec_brKind.f kindB
  refine ev_plain (spec_l1In_eq _ _ _) (ev_if (fun h1 => ?_) (fun h1 => ev_some (by simp [Bool.eq_false_iff.mpr h1])))
  refine ev_plain (spec_l1In_eq _ _ _) (ev_if (fun h2 => ?_) (fun h2 => ev_some (by simp [Bool.eq_false_iff.mpr h2])))
  have e1 := inB_iff.mp h1
  have e2 := inB_iff.mp h2
  obtain ⟨n, rfl⟩ := Int.eq_ofNat_of_zero_le (show 0 ≤ n by omega)
  obtain ⟨k, rfl⟩ := Int.eq_ofNat_of_zero_le (show 0 ≤ k by omega)
  refine ev_call (spec_lyPower_ev k n (by omega) (by omega)) (ev_some ?_)
  rw [h1, h2]
  simp only [Bool.true_and, Int.toNat_natCast]
  exact decide_eq_decide.mpr (by omega)

theorem espec_walk (kk nodes : Nat) (hk : 1 ≤ kk) (hk6 : kk ≤ 6) (hn : 1 ≤ nodes) (hn2 : nodes ≤ 1024) : ∀ (m : Nat) (left : List Int) (way : List (Int × Int)) (node : Nat) (out : List Int),
    left.length = nodes → (∀ x ∈ left, 0 ≤ x ∧ x ≤ (kk : Int)) → node < nodes → (∀ s ∈ way, ∃ f : Nat, s.1 = (f : Int) ∧ f < nodes) → way.length + out.length + slack kk left ≤ 10000 → 2 * slack kk left + way.length = m →
    ∃ r : List Int, (r.length ≤ 10000 ∧ way.length + out.length ≤ r.length ∧ (left.getD node 0 < (kk : Int) → way.length + out.length + 1 ≤ r.length)) ∧
      Ev (fun k => spec_EulerBruijn.l0 k (kk : Int) (nodes : Int) left (way.map (·.1) ++ [(node : Int)]) (way.map (·.2)) out) (r, true) := by
  intro m
  induction m using nat_strong with
  | h m ih =>
  intro left way node out h1 h2 h3 h4 h5 h6
  have hx : 0 ≤ left.getD node 0 ∧ left.getD node 0 ≤ (kk : Int) := by
    have : left.getD node 0 ∈ left := by
      rw [List.getD_eq_getElem?_getD, List.getElem?_eq_getElem (by omega)]; exact List.getElem_mem _
    exact h2 _ this
  have e1 : rd (way.map (·.1) ++ [(node : Int)]) ((way.length : Nat) : Int) = (node : Int) := by
    rw [rd_nat, List.getD_eq_getElem?_getD, List.getElem?_append_right (by simp)]; simp
  have e2 : wrap64 (((way.map (·.1) ++ [(node : Int)]).length : Int) - 1) = (way.length : Int) := by
    rw [wrap_id (by simp <;> omega)]; simp
  by_cases hlt : left.getD node 0 < (kk : Int)
  · obtain ⟨x, hxx⟩ := Int.eq_ofNat_of_zero_le hx.1
    have hs := slack_set kk left node (by omega) hlt
    have hmul : node * kk ≤ 1024 * 6 := Nat.mul_le_mul (by omega) hk6
    have hmod : Int.tmod (wrap64 (wrap64 ((node : Int) * (kk : Int)) + left.getD node 0)) (nodes : Int) = (((node * kk + x) % nodes : Nat) : Int) := by
      rw [hxx, show (node : Int) * (kk : Int) = ((node * kk : Nat) : Int) by simp, wrap_id (x := ((node * kk : Nat) : Int)) (by omega), show ((node * kk : Nat) : Int) + (x : Int) = ((node * kk + x : Nat) : Int) by omega, wrap_id (by omega), tmod_nat]
    obtain ⟨r, r1, r3⟩ := ih (m - 1) (by omega) (left.set node (left.getD node 0 + 1)) (way ++ [((node : Int), left.getD node 0)]) ((node * kk + x) % nodes) out (by simpa using h1)
      (by intro y hy; rcases List.mem_or_eq_of_mem_set hy with hy | rfl
          · exact h2 y hy
          · omega) (Nat.mod_lt _ hn) (by intro s hs; rcases List.mem_append.mp hs with hs | hs
                                         · exact h4 s hs
                                         · simp at hs; subst hs; exact ⟨node, rfl, h3⟩) (by simp only [List.length_append, List.length_cons, List.length_nil]; omega) (by simp only [List.length_append, List.length_cons, List.length_nil]; omega)
    simp only [List.length_append, List.length_cons, List.length_nil] at r1
    refine ⟨r, ⟨by omega, by omega, fun _ => by omega⟩, ?_⟩
    refine Ev.step (fun k => by simp only [spec_EulerBruijn.l0]; rfl) ?_
    rw [e2, e1, rd_nat, Int.toNat_natCast, hmod, wrap_id (x := left.getD node 0 + 1) (by omega)]
    refine ev_pos (by simp <;> omega) (ev_pos (by omega) (ev_pos (by simp <;> omega) (ev_pos (by omega) (ev_pos (by omega) (ev_pos hlt (ev_neg (by omega) (ev_pos (by simp <;> omega) (ev_pos (by simp <;> omega) ?_))))))))
    simpa using r3
  · rcases List.eq_nil_or_concat way with rfl | ⟨way0, s, rfl⟩
    · refine ⟨out, ⟨by simp at h5; omega, by simp, fun h => absurd h hlt⟩, ?_⟩
      refine Ev.step (fun k => by simp only [spec_EulerBruijn.l0]; rfl) ?_
      rw [e2, e1, rd_nat]
      refine ev_pos (by simp) (ev_pos (by omega) (ev_pos (by simp) (ev_pos (by omega) (ev_pos (by omega) (ev_neg hlt (ev_pos (by simp) ?_))))))
      refine ev_plain rfl ?_
      refine ev_neg (by simp) ?_
      refine Ev.step (fun k => by simp only [spec_EulerBruijn.l0]; rfl) ?_
      exact ev_neg (by simp) (Ev.now _)
    · obtain ⟨f, hf, hf2⟩ := h4 s (by simp)
      rw [List.concat_eq_append] at *
      simp at h5 h6
      obtain ⟨r, r1, r3⟩ := ih (m - 1) (by omega) left way0 f (s.2 :: out) h1 h2 hf2 (fun s' hs' => h4 s' (by simp [hs'])) (by simp <;> omega) (by omega)
      rw [← hf] at r3
      simp only [List.length_cons] at r1
      refine ⟨r, ⟨by omega, by simp; omega, fun h => absurd h hlt⟩, ?_⟩
      refine Ev.step (fun k => by simp only [spec_EulerBruijn.l0]; rfl) ?_
      have w3 : wrap64 ((((way0 ++ [s]).map (·.2)).length : Int) - 1) = (way0.length : Int) := by rw [wrap_id (by simp <;> omega)]; simp
      have w4 : rd ((way0 ++ [s]).map (·.2)) (way0.length : Int) = s.2 := by rw [rd_nat]; simp [List.getD_eq_getElem?_getD]
      rw [e2, e1, rd_nat]
      refine ev_pos (by simp <;> omega) (ev_pos (by omega) (ev_pos (by simp <;> omega) (ev_pos (by omega) (ev_pos (by omega) (ev_neg hlt (ev_pos (by simp <;> omega) ?_))))))
      refine ev_plain rfl ?_
      rw [w3, w4]
      refine ev_pos (by simp <;> omega) (ev_pos (by omega) (ev_pos (by simp <;> omega) ?_))
      refine ev_plain rfl ?_
      refine ev_pos (by simp <;> omega) (ev_pos (by simp <;> omega) ?_)
      have t1 : ((way0 ++ [s]).map (·.1) ++ [(node : Int)]).take ((((way0 ++ [s]).length : Nat) : Int)).toNat = way0.map (·.1) ++ [s.1] := by
        rw [Int.toNat_natCast, List.take_append_of_le_length (by simp), List.take_of_length_le (by simp)]; simp
      have t2 : ((way0 ++ [s]).map (·.2)).take ((way0.length : Nat) : Int).toNat = way0.map (·.2) := by simp
      rw [t1, t2]
      simpa using r3
theorem spec_Euler_ok (n k : Nat) (h : kindB (n : Int) (k : Int) = true) : ∃ r, 1 ≤ r.length ∧ r.length ≤ 10000 ∧ Ev (fun q => spec_EulerBruijn.f q (n : Int) (k : Int)) (r, true) := by
  obtain ⟨n', k', e1, e2, n1, n2, k1, k2, hp⟩ := kindB_nat h
  obtain rfl : n = n' := by omega
  obtain rfl : k = k' := by omega
  have hp2 : k ^ (n - 1) ≤ 1024 := Nat.le_trans (Nat.pow_le_pow_right (by omega) (by omega)) hp
  have hp3 : 1 ≤ k ^ (n - 1) := Nat.one_le_pow _ _ (by omega)
  have hs : k ^ (n - 1) * k ≤ 1024 := by rw [← Nat.pow_succ, show (n - 1).succ = n by omega]; exact hp
  obtain ⟨r, r1, r3⟩ := espec_walk k (k ^ (n - 1)) (by omega) k2 hp3 hp2 _ (List.replicate (k ^ (n - 1)) 0) [] 0 [] (by simp) (by intro x hx; simp at hx; omega) (by omega) (by intro s hs; cases hs) (by rw [slack_zeros]; simp; omega) rfl
  refine ⟨r, r1.2.2 ?_, r1.1, ?_⟩
  · rw [List.getD_eq_getElem?_getD, List.getElem?_replicate]
    split <;> simp <;> omega
  · unfold spec_EulerBruijn.f
    refine ev_call (spec_brKind_ev _ _) (ev_pos h ?_)
    rw [wrap_id (by omega), show ((n : Int) - 1) = ((n - 1 : Nat) : Int) by omega]
    refine ev_call (spec_lyPower_ev k (n - 1) (by omega) (by omega)) (ev_pos (by omega) (ev_pos (by omega) ?_))
    rw [Int.toNat_natCast]
    exact r3

theorem spec_brWindow_loop (w : List Int) (n p : Nat) (hw : 0 < w.length) (hwl : w.length ≤ 1000000000000) (hn : n ≤ 1000000000000) (hp : p ≤ 1000000000000) : ∀ (d i : Nat) (acc : List Int), i + d = n → acc.length = i →
    Ev (fun k => spec_brWindow.l0 k w (n : Int) (p : Int) acc (i : Int)) (acc ++ (List.range' i d).map fun j => w.getD ((p + j) % w.length) 0) := by
  intro d
  induction d with
  | zero =>
    intro i acc h ha
    refine Ev.step (f := fun _ => some acc) (fun k => ?_) (ev_some (by simp))
    simp only [spec_brWindow.l0]; rw [if_neg (by omega)]
  | succ d ih =>
    intro i acc h ha
    refine Ev.step (f := fun k => spec_brWindow.l0 k w (n : Int) (p : Int) (acc ++ [w.getD ((p + i) % w.length) 0]) ((i + 1 : Nat) : Int)) (fun k => ?_) (ev_to (ih (i + 1) _ (by omega) (by simp [ha])) ?_)
    · simp only [spec_brWindow.l0]
      rw [if_pos (by omega), if_neg (by omega), wrap_id (x := (p : Int) + (i : Int)) (by omega), show (p : Int) + (i : Int) = ((p + i : Nat) : Int) by omega, tmod_nat, wrap_succ (by omega)]
      have hm := Nat.mod_lt (p + i) hw
      rw [if_pos (by omega), if_pos (by omega), if_pos (by omega), rd_nat]
    · simp [List.range'_succ]
theorem spec_brWindow_ev (w : List Int) (n p : Nat) (hw : 0 < w.length) (hwl : w.length ≤ 1000000000000) (hn : n ≤ 1000000000000) (hp : p ≤ 1000000000000) : Ev (fun k => spec_brWindow.f k w (n : Int) (p : Int)) (win w p n) :=
  ev_to (spec_brWindow_loop w n p hw hwl hn hp n 0 [] (by omega) rfl) (by simp [win])

theorem least_ok (n k : Nat) (h : kindB (n : Int) (k : Int) = true) : ∃ r, 1 ≤ r.length ∧ r.length ≤ 1024 ∧ Ev (fun q => spec_LeastBruijn.f q (n : Int) (k : Int)) (r, true) := by
  obtain ⟨n', k', e1, e2, n1, n2, k1, k2, hp⟩ := kindB_nat h
  obtain rfl : n = n' := by omega
  obtain rfl : k = k' := by omega
  have h := List.all_eq_true.mp (List.all_eq_true.mp least_all n (List.mem_range.mpr (by omega))) k (List.mem_range.mpr (by omega))
  rw [decide_eq_true n1, decide_eq_true k1, decide_eq_true hp] at h
  cases hg : spec_LeastBruijn.f 2000 (n : Int) (k : Int) with
  | none => rw [hg] at h; simp at h
  | some p =>
    obtain ⟨r, b⟩ := p
    rw [hg] at h
    simp at h
    obtain ⟨rfl, h1, h2⟩ := h
    exact ⟨r, h1, h2, Ev.of (fun k => spec_LeastBruijn.mono _ _ k) (k := 2000) hg⟩
theorem bruijn_ok {d : List Int} (hd : bytesL d) {a : Int} (s : Int) (h0 : 0 ≤ a) (h1 : a ≤ 999999999990000) : ∃ w n k a' s', Ev (fun q => spec_l1Cur_bruijn.f q d a s) (w, n, k, a', s') ∧ w.length ≤ 10000 ∧ (-1 ≤ n ∧ n ≤ 11) ∧ (-1 ≤ k ∧ k ≤ 7) ∧ (a ≤ a' ∧ a' ≤ a + 200) := by
  obtain ⟨n, k, a1, s1, e1, hn, hk, ha1⟩ := stages_ok hd s h0 (by omega)
  unfold spec_l1Cur_bruijn.f
  by_cases hkind : kindB n k = true
  · obtain ⟨n, k, rfl, rfl, _⟩ := kindB_nat hkind
    obtain ⟨l, hl1, hl2, hl⟩ := least_ok n k hkind
    obtain ⟨u, hu1, hu2, hu⟩ := spec_Euler_ok n k hkind
    obtain ⟨b, a2, s2, e2, ha2⟩ := one_ok hd (a := a1) s1 2 (by omega) (by omega)
    have tail : ∀ l : List Int, 1 ≤ l.length → l.length ≤ 10000 → ∃ w a' s', Ev (fun q => spec_l1Cur_bruijn.j0 q (n : Int) (k : Int) l d a2 s2) (w, (n : Int), (k : Int), a', s') ∧ w.length ≤ 10000 ∧ (a2 ≤ a' ∧ a' ≤ a2 + 50) := by
      intro l hl1 hl2
      obtain ⟨p, a3, s3, e3, hp, ha3⟩ := pick_ok hd (a := a2) s2 (l.length : Int) (by omega) (by omega)
      obtain ⟨p, rfl⟩ := Int.eq_ofNat_of_zero_le hp.1
      obtain ⟨c, a4, s4, e4, ha4⟩ := one_ok hd (a := a3) s3 6 (by omega) (by omega)
      have hw := spec_brWindow_ev l l.length p (by omega) (by omega) (by omega) (by omega)
      have hwl := win_length l p l.length
      by_cases c1 : c = true
      · obtain ⟨i, a5, s5, e5, hi, ha5⟩ := pick_ok hd (a := a4) s4 ((win l p l.length).length : Int) (by omega) (by omega)
        obtain ⟨v, a6, s6, e6, hv, ha6⟩ := pick_ok hd (a := a5) s5 (k : Int) (by omega) (by omega)
        refine ⟨(win l p l.length).set i.toNat v, a6, s6, ?_, by rw [List.length_set, hwl]; omega, by omega⟩
        refine Ev.step (fun k => by simp only [spec_l1Cur_bruijn.j0]; rfl) ?_
        refine ev_plain e3 ?_
        dsimp only
        refine ev_call hw ?_
        refine ev_plain e4 ?_
        dsimp only
        refine ev_pos c1 ?_
        refine ev_plain e5 ?_
        dsimp only
        refine ev_plain e6 ?_
        dsimp only
        exact ev_pos (by omega) (ev_pos (by omega) (Ev.now _))
      · refine ⟨win l p l.length, a4, s4, ?_, by rw [hwl]; omega, by omega⟩
        refine Ev.step (fun k => by simp only [spec_l1Cur_bruijn.j0]; rfl) ?_
        refine ev_plain e3 ?_
        dsimp only
        refine ev_call hw ?_
        refine ev_plain e4 ?_
        dsimp only
        exact ev_neg c1 (Ev.now _)
    by_cases c1 : b = true
    · obtain ⟨w, a', s', h, hw, ha⟩ := tail u hu1 hu2
      refine ⟨w, n, k, a', s', ?_, hw, hn, hk, by omega⟩
      refine ev_plain e1 ?_
      dsimp only
      refine ev_call (spec_brKind_ev _ _) (ev_pos hkind ?_)
      refine ev_call hl ?_
      refine ev_plain e2 ?_
      dsimp only
      refine ev_pos c1 ?_
      refine ev_call hu ?_
      exact h
    · obtain ⟨w, a', s', h, hw, ha⟩ := tail l hl1 (by omega)
      refine ⟨w, n, k, a', s', ?_, hw, hn, hk, by omega⟩
      refine ev_plain e1 ?_
      dsimp only
      refine ev_call (spec_brKind_ev _ _) (ev_pos hkind ?_)
      refine ev_call hl ?_
      refine ev_plain e2 ?_
      dsimp only
      refine ev_neg c1 ?_
      exact h
  · obtain ⟨r, a2, s2, e2, hr, ha2⟩ := cycle_ok hd (a := a1) s1 2 (by omega) (by omega)
    refine ⟨r, n, k, a2, s2, ?_, by omega, hn, hk, by omega⟩
    refine ev_plain e1 ?_
    dsimp only
    refine ev_call (spec_brKind_ev _ _) (ev_neg hkind ?_)
    refine ev_call e2 ?_
    exact Ev.now _

theorem tape_ok {d : List Int} (hd : bytesL d) {a : Int} (s : Int) (h0 : 0 ≤ a) (h1 : a ≤ 999999999900000) : ∃ w a' s', Ev (fun q => spec_l1Cur_tape.f q d a s) (w, a', s') ∧ w.length ≤ 1025 ∧ (a ≤ a' ∧ a' ≤ a + 400) := by
  obtain ⟨b, a1, s1, e1, ha1⟩ := one_ok hd s 2 h0 (by omega)
  unfold spec_l1Cur_tape.f
  by_cases c1 : b = true
  · obtain ⟨w, n, k, a2, s2, e2, hw, _, _, ha2⟩ := bruijn_ok hd (a := a1) s1 (by omega) (by omega)
    by_cases c2 : (w.length : Int) ≤ 32
    · refine ⟨w, a2, s2, ?_, by omega, by omega⟩
      refine ev_plain e1 ?_
      dsimp only
      refine ev_pos c1 (ev_call e2 ?_)
      exact ev_pos c2 (Ev.now _)
    · obtain ⟨r, a3, s3, e3, hr, ha3⟩ := cycle_ok hd (a := a2) s2 4 (by omega) (by omega)
      refine ⟨r, a3, s3, ?_, by omega, by omega⟩
      refine ev_plain e1 ?_
      dsimp only
      refine ev_pos c1 (ev_call e2 ?_)
      exact ev_neg c2 (ev_call e3 (Ev.now _))
  · obtain ⟨r, a3, s3, e3, hr, ha3⟩ := cycle_ok hd (a := a1) s1 4 (by omega) (by omega)
    refine ⟨r, a3, s3, ?_, by omega, by omega⟩
    refine ev_plain e1 ?_
    dsimp only
    exact ev_neg c1 (ev_call e3 (Ev.now _))

theorem impl_within_eq (a lo hi : Int) : impl_within.f a lo hi = some (inB a lo hi) := by
  unfold impl_within.f inB
  by_cases h : a ≥ lo
  · rw [if_pos h]; simp [h]
  · rw [if_neg h]; simp [show ¬ lo ≤ a from h]

theorem impl_allWithin_loop (lo hi : Int) (xs : List Int) (hx : xs.length ≤ 1000000000000) : ∀ (d i : Nat), i + d = xs.length →
    Ev (fun k => impl_allWithin.l0 k lo hi xs (xs.length : Int) (i : Int)) (allB (xs.drop i) lo hi) := by
  intro d
  induction d with
  | zero =>
    intro i h
    rw [List.drop_eq_nil_of_le (by omega)]
    refine Ev.step (f := fun _ => some true) (fun k => ?_) (Ev.now _)
    simp only [impl_allWithin.l0]; rw [if_neg (by omega)]
  | succ d ih =>
    intro i h
    have hlt : i < xs.length := by omega
    rw [drop_rd xs i hlt]
    refine Ev.step (f := fun k => if inB (rd xs (i : Int)) lo hi = true then impl_allWithin.l0 k lo hi xs (xs.length : Int) ((i + 1 : Nat) : Int) else some false) (fun k => ?_) ?_
    · simp only [impl_allWithin.l0]; rw [if_pos (by omega), if_pos (by omega), if_pos (by omega), impl_within_eq, wrap_succ (by omega)]; rfl
    · by_cases hb : inB (rd xs (i : Int)) lo hi = true
      · exact ev_pos hb (ev_to (ih (i + 1) (by omega)) (by simp [allB, hb]))
      · exact ev_neg hb (ev_some (by simp [allB, Bool.eq_false_iff.mpr hb]))
theorem impl_allWithin_ev (lo hi : Int) (xs : List Int) (hx : xs.length ≤ 1000000000000) : Ev (fun k => impl_allWithin.f k xs lo hi) (allB xs lo hi) :=
  impl_allWithin_loop lo hi xs hx xs.length 0 (by omega)

theorem impl_IsCycle_ev (xs : List Int) (k : Int) (hx : xs.length ≤ 1000000000000) (hk : -9223372036854775808 ≤ k) (hk2 : k ≤ 9223372036854775807) : Ev (fun n => impl_IsCycle.f n xs k) (cycleB xs k) := by
  unfold impl_IsCycle.f cycleB
  refine ev_plain (impl_within_eq _ _ _) ?_
  refine ev_if (fun h => ?_) (fun h => ev_some (by simp [Bool.eq_false_iff.mpr h]))
  refine ev_plain (impl_within_eq _ _ _) ?_
  refine ev_if (fun h2 => ?_) (fun h2 => ev_some (by simp [Bool.eq_false_iff.mpr h2]))
  have h' := inB_iff.mp h
  rw [wrap_id (by omega)]
  exact ev_call (impl_allWithin_ev _ _ _ hx) (ev_some (by simp [h, h2]))

theorem impl_isCycle_ev (xs : List Int) (hx : xs.length ≤ 1000000000000) : Ev (fun n => impl_isCycle.f n xs) (cycleB xs 6) := by
  unfold impl_isCycle.f
  exact ev_call (impl_IsCycle_ev _ _ hx (by omega) (by omega)) (ev_some rfl)

theorem impl_isTape_ev (w : List Int) (least : Int) (hw : w.length ≤ 1048576) : Ev (fun k => impl_isTape.f k w least) (tapeB w least) := by
  unfold impl_isTape.f tapeB
  refine ev_call (impl_isCycle_ev _ (by omega)) (ev_if (fun h1 => ev_plain (impl_within_eq _ _ _) (ev_some (by simp [h1]))) (fun h1 => ev_some (by simp [Bool.eq_false_iff.mpr h1])))

theorem impl_window_loop (w : List Int) (n p : Nat) (hw : 0 < w.length) (hwl : w.length ≤ 1000000000000) (hn : n ≤ 1000000000000) (hp : p ≤ 1000000000000) : ∀ (d i : Nat) (acc : List Int), i + d = n → acc.length = i →
    Ev (fun k => impl_window.l0 k w (p : Int) acc (n : Int) (i : Int)) (acc ++ (List.range' i d).map fun j => w.getD ((p + j) % w.length) 0) := by
  intro d
  induction d with
  | zero =>
    intro i acc h ha
    refine Ev.step (f := fun _ => some acc) (fun k => ?_) (ev_some (by simp))
    simp only [impl_window.l0]; rw [if_neg (by omega)]
  | succ d ih =>
    intro i acc h ha
    refine Ev.step (f := fun k => impl_window.l0 k w (p : Int) (acc ++ [w.getD ((p + i) % w.length) 0]) (n : Int) ((i + 1 : Nat) : Int)) (fun k => ?_) (ev_to (ih (i + 1) _ (by omega) (by simp [ha])) ?_)
    · simp only [impl_window.l0]
      rw [if_pos (by omega), if_neg (by omega), wrap_id (x := (p : Int) + (i : Int)) (by omega), show (p : Int) + (i : Int) = ((p + i : Nat) : Int) by omega, tmod_nat, wrap_succ (by omega)]
      have hm := Nat.mod_lt (p + i) hw
      rw [if_pos (by omega), if_pos (by omega), if_pos (by omega), rd_nat]
    · simp [List.range'_succ]
theorem impl_window_ev (w : List Int) (n p : Nat) (hw : 0 < w.length) (hwl : w.length ≤ 1000000000000) (hn : n ≤ 1000000000000) (hp : p ≤ 1000000000000) : Ev (fun k => impl_window.f k w (n : Int) (p : Int)) (win w p n) :=
  ev_to (impl_window_loop w n p hw hwl hn hp n 0 [] (by omega) rfl) (by simp [win])

theorem impl_apart_ev (a b : List Int) (hab : a.length ≤ b.length) (ha : a.length ≤ 1000000000000) :
    Ev (fun k => impl_apart.f k a b) ((far (fun j => a.getD j 0) (fun j => b.getD j 0) a.length : Nat) : Int) := by
  unfold impl_apart.f
  refine ev_iter (fun (c : Nat) i k => impl_apart.l0 k b (c : Int) a (a.length : Int) (i : Int)) (fun c j => if a.getD j 0 = b.getD j 0 then c else c + 1) (fun i c => c ≤ i) a.length ?_ a.length 0 0 (by omega) (by omega) ?_
  · intro c i hi hI
    refine ⟨by split <;> omega, fun r k => ?_⟩
    refine Ev.step (fun k => by simp only [impl_apart.l0]; rfl) ?_
    refine ev_pos (by omega) (ev_pos (by omega) (ev_pos (by omega) (ev_pos (by omega) ?_)))
    rw [wrap_succ (by omega), rd_nat, rd_nat]
    refine ev_if (fun e => ?_) (fun e => ?_)
    · rw [if_pos e] at k; exact k
    · rw [wrap_succ (by omega)]
      rw [if_neg e] at k; exact k
  · intro _
    refine Ev.step (fun k => by simp only [impl_apart.l0]; rfl) (ev_neg (by omega) (Ev.now _))

theorem impl_spread_in (w : List Int) (n i m : Nat) (r : Int) (hw : 0 < w.length) (hwl : w.length ≤ 1000000) (hn : n ≤ 1000000) (hi : i < w.length)
    (k : Ev (fun k => impl_spread.l0 k w (n : Int) ((spreadIn w n i m : Nat) : Int) (w.length : Int) ((i + 1 : Nat) : Int)) r) :
    Ev (fun k => impl_spread.l1 k w (n : Int) (m : Int) (i : Int) (w.length : Int) (i : Int) (i : Int) 0) r := by
  refine ev_iter (fun (m : Nat) j k => impl_spread.l1 k w (n : Int) (m : Int) (i : Int) (w.length : Int) (i : Int) (i : Int) (j : Int)) (fun m j => min m (farW w n i j)) (fun _ _ => True) i ?_ i 0 m (by omega) trivial ?_
  · intro m j hj _
    refine ⟨trivial, fun r k => ?_⟩
    refine Ev.step (fun k => by simp only [impl_spread.l1]; rfl) ?_
    refine ev_pos (by omega) ?_
    refine ev_call (impl_window_ev w n i hw (by omega) (by omega) (by omega)) (ev_call (impl_window_ev w n j hw (by omega) (by omega) (by omega)) (ev_call (impl_apart_ev _ _ (by simp [win_length]) (by rw [win_length]; omega)) ?_))
    rw [wrap_succ (by omega)]
    have e : far (fun q => (win w i n).getD q 0) (fun q => (win w j n).getD q 0) (win w i n).length = farW w n i j := by
      rw [win_length]
      exact far_congr (fun q hq => ⟨win_get _ _ _ _ hq, win_get _ _ _ _ hq⟩)
    rw [e, show mn (m : Int) (farW w n i j : Int) = ((min m (farW w n i j) : Nat) : Int) by unfold mn; omega]
    exact k
  · intro _
    exact Ev.step (fun k => by simp only [impl_spread.l1]; rfl) (ev_neg (by omega) (by rw [wrap_succ (by omega)]; exact k))
theorem impl_spread_ev (w : List Int) (n : Nat) (hw : 0 < w.length) (hwl : w.length ≤ 1000000) (hn : n ≤ 1000000) : Ev (fun k => impl_spread.f k w (n : Int)) ((spreadM w n : Nat) : Int) := by
  unfold impl_spread.f
  refine ev_iter (fun (m : Nat) i k => impl_spread.l0 k w (n : Int) (m : Int) (w.length : Int) (i : Int)) (fun m i => spreadIn w n i m) (fun _ _ => True) w.length ?_ w.length 0 n (by omega) trivial ?_
  · intro m i hi _
    refine ⟨trivial, fun r k => ?_⟩
    refine Ev.step (fun k => by simp only [impl_spread.l0]; rfl) (ev_pos (by omega) ?_)
    exact impl_spread_in w n i m r hw hwl hn hi k
  · intro _
    exact Ev.step (fun k => by simp only [impl_spread.l0]; rfl) (ev_neg (by omega) (Ev.now _))

theorem impl_SpreadOf_ev (w : List Int) (n : Int) (hw : w.length ≤ 1048576) : Ev (fun k => impl_SpreadOf.f k w n) (SpreadOfM w n) := by
  unfold impl_SpreadOf.f SpreadOfM
  refine ev_call (impl_isTape_ev w 2 hw) (ev_if (fun h1 => ev_plain (impl_within_eq _ _ _) (ev_if (fun h2 => ?_) (fun h2 => ev_some ?_))) (fun h1 => ev_some ?_))
  · have h2' := inB_iff.mp h2
    have hc := cycleB_iff.mp (by simpa [tapeB] using (show tapeB w 2 = true from h1) : cycleB w 6 = true ∧ _).1
    obtain ⟨m, rfl⟩ := Int.eq_ofNat_of_zero_le (show 0 ≤ n by omega)
    refine ev_call (impl_spread_ev w m (by omega) (by omega) (by omega)) (ev_some ?_)
    rw [if_pos ⟨h1, h2'⟩]; simp
  · rw [if_neg (fun h => h2 (inB_iff.mpr h.2))]
  · rw [if_neg (fun h => h1 h.1)]

theorem spec_l1All_loop (lo hi : Int) (xs : List Int) (hx : xs.length ≤ 1000000000000) : ∀ (d i : Nat), i + d = xs.length →
    Ev (fun k => spec_l1All.l0 k lo hi xs (xs.length : Int) (i : Int)) (allB (xs.drop i) lo hi) := by
  intro d
  induction d with
  | zero =>
    intro i h
    rw [List.drop_eq_nil_of_le (by omega)]
    refine Ev.step (f := fun _ => some true) (fun k => ?_) (Ev.now _)
    simp only [spec_l1All.l0]; rw [if_neg (by omega)]
  | succ d ih =>
    intro i h
    have hlt : i < xs.length := by omega
    rw [drop_rd xs i hlt]
    refine Ev.step (f := fun k => if inB (rd xs (i : Int)) lo hi = true then spec_l1All.l0 k lo hi xs (xs.length : Int) ((i + 1 : Nat) : Int) else some false) (fun k => ?_) ?_
    · simp only [spec_l1All.l0]; rw [if_pos (by omega), if_pos (by omega), if_pos (by omega), spec_l1In_eq, wrap_succ (by omega)]; rfl
    · by_cases hb : inB (rd xs (i : Int)) lo hi = true
      · exact ev_pos hb (ev_to (ih (i + 1) (by omega)) (by simp [allB, hb]))
      · exact ev_neg hb (ev_some (by simp [allB, Bool.eq_false_iff.mpr hb]))
theorem spec_l1All_ev (lo hi : Int) (xs : List Int) (hx : xs.length ≤ 1000000000000) : Ev (fun k => spec_l1All.f k xs lo hi) (allB xs lo hi) :=
  spec_l1All_loop lo hi xs hx xs.length 0 (by omega)

theorem spec_brCycle_ev (xs : List Int) (k : Int) (hx : xs.length ≤ 1000000000000) (hk : -9223372036854775808 ≤ k) (hk2 : k ≤ 9223372036854775807) : Ev (fun n => spec_brCycle.f n xs k) (cycleB xs k) := by
  unfold spec_brCycle.f cycleB
  refine ev_plain (spec_l1In_eq _ _ _) ?_
  refine ev_if (fun h => ?_) (fun h => ev_some (by simp [Bool.eq_false_iff.mpr h]))
  refine ev_plain (spec_l1In_eq _ _ _) ?_
  refine ev_if (fun h2 => ?_) (fun h2 => ev_some (by simp [Bool.eq_false_iff.mpr h2]))
  have h' := inB_iff.mp h
  rw [wrap_id (by omega)]
  exact ev_call (spec_l1All_ev _ _ _ hx) (ev_some (by simp [h, h2]))

theorem spec_brTape_ev (w : List Int) (least : Int) (hw : w.length ≤ 1048576) : Ev (fun k => spec_brTape.f k w least) (tapeB w least) := by
  unfold spec_brTape.f tapeB
  refine ev_call (spec_brCycle_ev _ _ (by omega) (by omega) (by omega)) (ev_if (fun h1 => ev_plain (spec_l1In_eq _ _ _) (ev_some (by simp [h1]))) (fun h1 => ev_some (by simp [Bool.eq_false_iff.mpr h1])))

theorem spec_brFar_ev (w : List Int) (n a b : Nat) (hw : 0 < w.length) (hwl : w.length ≤ 1000000000000) (hn : n ≤ 1000000000000) (ha : a ≤ 1000000000000) (hb : b ≤ 1000000000000) :
    Ev (fun k => spec_brFar.f k w (n : Int) (a : Int) (b : Int)) ((farW w n a b : Nat) : Int) := by
  unfold spec_brFar.f
  refine ev_iter (fun (c : Nat) i k => spec_brFar.l0 k w (n : Int) (a : Int) (b : Int) (c : Int) (i : Int)) (fun c j => if at_ w a j = at_ w b j then c else c + 1) (fun i c => c ≤ i) n ?_ n 0 0 (by omega) (by omega) ?_
  · intro c i hi hI
    refine ⟨by split <;> omega, fun r k => ?_⟩
    refine Ev.step (fun k => by simp only [spec_brFar.l0]; rfl) ?_
    rw [wrap_id (x := (a : Int) + (i : Int)) (by omega), show (a : Int) + (i : Int) = ((a + i : Nat) : Int) by omega, tmod_nat, wrap_id (x := (b : Int) + (i : Int)) (by omega), show (b : Int) + (i : Int) = ((b + i : Nat) : Int) by omega, tmod_nat]
    have hm := Nat.mod_lt (a + i) hw
    have hm2 := Nat.mod_lt (b + i) hw
    refine ev_pos (by omega) (ev_neg (by omega) (ev_pos (by omega) (ev_pos (by omega) (ev_pos (by omega) (ev_pos (by omega) ?_)))))
    rw [wrap_succ (by omega), rd_nat, rd_nat]
    refine ev_if (fun e => ?_) (fun e => ?_)
    · rw [at_, at_, if_pos e] at k; exact k
    · rw [wrap_succ (by omega)]
      rw [at_, at_, if_neg e] at k; exact k
  · intro _
    refine Ev.step (fun k => by simp only [spec_brFar.l0]; rfl) (ev_neg (by omega) (Ev.now _))

theorem spec_l1Least_eq (a b : Nat) : spec_l1Least.f (a : Int) (b : Int) = some ((min a b : Nat) : Int) := by
  unfold spec_l1Least.f
  by_cases h : (a : Int) < (b : Int)
  · rw [if_pos h]; congr 1; omega
  · rw [if_neg h]; congr 1; omega
theorem spec_brSpread_in (w : List Int) (n i m : Nat) (r : Int) (hw : 0 < w.length) (hwl : w.length ≤ 1000000) (hn : n ≤ 1000000) (hi : i < w.length)
    (k : Ev (fun k => spec_brSpread.l0 k w (n : Int) ((spreadIn w n i m : Nat) : Int) (w.length : Int) ((i + 1 : Nat) : Int)) r) :
    Ev (fun k => spec_brSpread.l1 k w (n : Int) (m : Int) (i : Int) 0 (w.length : Int) (i : Int)) r := by
  refine ev_iter (fun (m : Nat) j k => spec_brSpread.l1 k w (n : Int) (m : Int) (i : Int) (j : Int) (w.length : Int) (i : Int)) (fun m j => min m (farW w n i j)) (fun _ _ => True) i ?_ i 0 m (by omega) trivial ?_
  · intro m j hj _
    refine ⟨trivial, fun r k => ?_⟩
    refine Ev.step (fun k => by simp only [spec_brSpread.l1]; rfl) ?_
    refine ev_pos (by omega) ?_
    refine ev_call (spec_brFar_ev w n i j hw (by omega) (by omega) (by omega) (by omega)) (ev_plain (spec_l1Least_eq _ _) ?_)
    rw [wrap_succ (by omega)]
    exact k
  · intro _
    exact Ev.step (fun k => by simp only [spec_brSpread.l1]; rfl) (ev_neg (by omega) (by rw [wrap_succ (by omega)]; exact k))
theorem spec_brSpread_ev (w : List Int) (n : Nat) (hw : 0 < w.length) (hwl : w.length ≤ 1000000) (hn : n ≤ 1000000) : Ev (fun k => spec_brSpread.f k w (n : Int)) ((spreadM w n : Nat) : Int) := by
  unfold spec_brSpread.f
  refine ev_iter (fun (m : Nat) i k => spec_brSpread.l0 k w (n : Int) (m : Int) (w.length : Int) (i : Int)) (fun m i => spreadIn w n i m) (fun _ _ => True) w.length ?_ w.length 0 n (by omega) trivial ?_
  · intro m i hi _
    refine ⟨trivial, fun r k => ?_⟩
    refine Ev.step (fun k => by simp only [spec_brSpread.l0]; rfl) (ev_pos (by omega) ?_)
    exact spec_brSpread_in w n i m r hw hwl hn hi k
  · intro _
    exact Ev.step (fun k => by simp only [spec_brSpread.l0]; rfl) (ev_neg (by omega) (Ev.now _))

theorem spec_SpreadOf_ev (w : List Int) (n : Int) (hw : w.length ≤ 1048576) : Ev (fun k => spec_SpreadOf.f k w n) (SpreadOfM w n) := by
  unfold spec_SpreadOf.f SpreadOfM
  refine ev_call (spec_brTape_ev w 2 hw) (ev_if (fun h1 => ev_plain (spec_l1In_eq _ _ _) (ev_if (fun h2 => ?_) (fun h2 => ev_some ?_))) (fun h1 => ev_some ?_))
  · have h2' := inB_iff.mp h2
    have hc := cycleB_iff.mp (by simpa [tapeB] using (show tapeB w 2 = true from h1) : cycleB w 6 = true ∧ _).1
    obtain ⟨m, rfl⟩ := Int.eq_ofNat_of_zero_le (show 0 ≤ n by omega)
    refine ev_call (spec_brSpread_ev w m (by omega) (by omega) (by omega)) (ev_some ?_)
    rw [if_pos ⟨h1, h2'⟩]; simp
  · rw [if_neg (fun h => h2 (inB_iff.mpr h.2))]
  · rw [if_neg (fun h => h1 h.1)]

theorem impl_MendWindow_loop (w g : List Int) (hw : 0 < w.length) (hwl : w.length ≤ 1048576) (hg : g.length ≤ 1048576) : ∀ (d i : Nat) (f : Option Nat), i + d = w.length → (∀ p, f = some p → p < w.length) →
    Ev (fun k => impl_MendWindow.l0 k w g (fi f) (w.length : Int) (i : Int)) (mendL w g d i f) := by
  intro d
  induction d with
  | zero =>
    intro i f h hf
    refine Ev.step (fun k => by simp only [impl_MendWindow.l0]; rfl) ?_
    refine ev_neg (by omega) ?_
    cases f with
    | none => exact ev_pos (by simp [fi]) (Ev.now _)
    | some p =>
      have := hf p rfl
      refine ev_neg (by simp [fi]) ?_
      exact ev_call (impl_window_ev w g.length p hw (by omega) (by omega) (by omega)) (Ev.now _)
  | succ d ih =>
    intro i f h hf
    refine Ev.step (fun k => by simp only [impl_MendWindow.l0]; rfl) ?_
    refine ev_pos (by omega) ?_
    refine ev_call (impl_window_ev w g.length i hw (by omega) (by omega) (by omega)) (ev_call (impl_apart_ev _ _ (by simp [win_length]) (by omega)) ?_)
    rw [show far (fun j => g.getD j 0) (fun j => (win w i g.length).getD j 0) g.length = farG w g i from far_congr (fun q hq => ⟨rfl, win_get _ _ _ _ hq⟩), wrap_succ (by omega)]
    unfold mendL
    refine ev_if (fun e => ?_) (fun e => ?_)
    · rw [if_neg (by omega)]
      exact ih (i + 1) f (by omega) hf
    · rw [if_pos (by omega)]
      cases f with
      | none => exact ev_neg (by simp [fi]) (ih (i + 1) (some i) (by omega) (by intro p hp; cases hp; omega))
      | some p => exact ev_pos (by simp [fi]) (Ev.now _)

theorem impl_MendWindow_ev (w g : List Int) (hw : w.length ≤ 1048576) (hg : g.length ≤ 1048576) : Ev (fun k => impl_MendWindow.f k w g) (MendWindowM w g) := by
  unfold impl_MendWindow.f MendWindowM
  have key : tapeB w 1 = true → ∀ c, Ev (fun k => impl_MendWindow.j0 k w g (!c)) (if tapeB w 1 = true ∧ c = true then mendL w g w.length 0 none else (0, [], false)) := by
    intro h1 c
    have hc := cycleB_iff.mp (by simpa [tapeB] using (show tapeB w 1 = true from h1) : cycleB w 6 = true ∧ _).1
    refine Ev.step (fun k => by simp only [impl_MendWindow.j0]; rfl) ?_
    cases c with
    | false => exact ev_pos rfl (ev_some (by simp))
    | true =>
      refine ev_neg (by simp) ?_
      rw [if_pos ⟨h1, rfl⟩]
      exact impl_MendWindow_loop w g (by omega) (by omega) (by omega) w.length 0 none (by omega) (by intro p h; cases h)
  refine ev_call (impl_isTape_ev w 1 hw) (ev_if (fun h1 => ?_) (fun h1 => ?_))
  · exact ev_call (impl_isCycle_ev _ (by omega)) (key h1 _)
  · refine Ev.step (fun k => by simp only [impl_MendWindow.j0]; rfl) ?_
    refine ev_pos (by trivial) (ev_some ?_)
    rw [if_neg (fun h => h1 h.1)]

theorem spec_MendWindow_in (w g : List Int) (fo : Int) (i : Nat) (r : Int × List Int × Bool) (hw : 0 < w.length) (hwl : w.length ≤ 1048576) (hg : g.length ≤ 1048576) (hi : i < w.length)
    (k : Ev (fun k => if ((farG w g i : Nat) : Int) > 1 then spec_MendWindow.l0 k w g fo (w.length : Int) ((i + 1 : Nat) : Int) else (if fo ≥ 0 then some (0, ([] : List Int), false) else spec_MendWindow.l0 k w g (i : Int) (w.length : Int) ((i + 1 : Nat) : Int))) r) :
    Ev (fun k => spec_MendWindow.l1 k w g fo (i : Int) 0 (w.length : Int) (i : Int) g (g.length : Int) 0) r := by
  rw [farG, far_comm] at k
  refine ev_iter (fun (c : Nat) j k => spec_MendWindow.l1 k w g fo (i : Int) (c : Int) (w.length : Int) (i : Int) g (g.length : Int) (j : Int)) (fun c j => if at_ w i j = g.getD j 0 then c else c + 1) (fun j c => c ≤ j) g.length ?_ g.length 0 0 (by omega) (by omega) ?_
  · intro c j hj hI
    refine ⟨by split <;> omega, fun r k => ?_⟩
    refine Ev.step (fun k => by simp only [spec_MendWindow.l1]; rfl) ?_
    rw [wrap_id (x := (i : Int) + (j : Int)) (by omega), show (i : Int) + (j : Int) = ((i + j : Nat) : Int) by omega, tmod_nat]
    have hm := Nat.mod_lt (i + j) hw
    refine ev_pos (by omega) (ev_pos (by omega) (ev_pos (by omega) (ev_neg (by omega) (ev_pos (by omega) (ev_pos (by omega) ?_)))))
    rw [wrap_succ (by omega), rd_nat, rd_nat]
    refine ev_if (fun e => ?_) (fun e => ?_)
    · rw [at_, if_pos e] at k; exact k
    · rw [wrap_succ (by omega)]
      rw [at_, if_neg e] at k; exact k
  · intro _
    refine Ev.step (fun k => by simp only [spec_MendWindow.l1]; rfl) ?_
    refine ev_neg (by omega) ?_
    rw [wrap_succ (by omega)]
    exact k
theorem spec_MendWindow_loop (w g : List Int) (hw : 0 < w.length) (hwl : w.length ≤ 1048576) (hg : g.length ≤ 1048576) : ∀ (d i : Nat) (f : Option Nat), i + d = w.length → (∀ p, f = some p → p < w.length) →
    Ev (fun k => spec_MendWindow.l0 k w g (fi f) (w.length : Int) (i : Int)) (mendL w g d i f) := by
  intro d
  induction d with
  | zero =>
    intro i f h hf
    refine Ev.step (fun k => by simp only [spec_MendWindow.l0]; rfl) ?_
    refine ev_neg (by omega) ?_
    cases f with
    | none => exact ev_pos (by simp [fi]) (Ev.now _)
    | some p =>
      have := hf p rfl
      refine ev_neg (by simp [fi]) ?_
      exact ev_call (spec_brWindow_ev w g.length p hw (by omega) (by omega) (by omega)) (Ev.now _)
  | succ d ih =>
    intro i f h hf
    refine Ev.step (fun k => by simp only [spec_MendWindow.l0]; rfl) ?_
    refine ev_pos (by omega) ?_
    refine spec_MendWindow_in w g (fi f) i _ hw hwl hg (by omega) ?_
    unfold mendL
    refine ev_if (fun e => ?_) (fun e => ?_)
    · rw [if_neg (by omega)]
      exact ih (i + 1) f (by omega) hf
    · rw [if_pos (by omega)]
      cases f with
      | none => exact ev_neg (by simp [fi]) (ih (i + 1) (some i) (by omega) (by intro p hp; cases hp; omega))
      | some p => exact ev_pos (by simp [fi]) (Ev.now _)

theorem spec_MendWindow_ev (w g : List Int) (hw : w.length ≤ 1048576) (hg : g.length ≤ 1048576) : Ev (fun k => spec_MendWindow.f k w g) (MendWindowM w g) := by
  unfold spec_MendWindow.f MendWindowM
  have key : tapeB w 1 = true → ∀ c, Ev (fun k => spec_MendWindow.j0 k w g (!c)) (if tapeB w 1 = true ∧ c = true then mendL w g w.length 0 none else (0, [], false)) := by
    intro h1 c
    have hc := cycleB_iff.mp (by simpa [tapeB] using (show tapeB w 1 = true from h1) : cycleB w 6 = true ∧ _).1
    refine Ev.step (fun k => by simp only [spec_MendWindow.j0]; rfl) ?_
    cases c with
    | false => exact ev_pos rfl (ev_some (by simp))
    | true =>
      refine ev_neg (by simp) ?_
      rw [if_pos ⟨h1, rfl⟩]
      exact spec_MendWindow_loop w g (by omega) (by omega) (by omega) w.length 0 none (by omega) (by intro p h; cases h)
  refine ev_call (spec_brTape_ev w 1 hw) (ev_if (fun h1 => ?_) (fun h1 => ?_))
  · exact ev_call (spec_brCycle_ev _ _ (by omega) (by omega) (by omega)) (key h1 _)
  · refine Ev.step (fun k => by simp only [spec_MendWindow.j0]; rfl) ?_
    refine ev_pos (by trivial) (ev_some ?_)
    rw [if_neg (fun h => h1 h.1)]

def WindowAtM (l : List Int) (n p : Int) : List Int × Bool := if cycleB l 6 = true ∧ (1 ≤ n ∧ n ≤ 1024) ∧ (0 ≤ p ∧ p ≤ (l.length : Int) - 1) then (win l p.toNat n.toNat, true) else ([], false)
theorem WindowAtM_length (l : List Int) (n p : Int) : (WindowAtM l n p).1.length ≤ 1024 := by
  unfold WindowAtM
  split
  · rw [win_length]; omega
  · simp

theorem impl_WindowAt_ev (l : List Int) (n p : Int) (hl : l.length ≤ 1048576) (hn : -9223372036854775808 ≤ n ∧ n ≤ 9223372036854775807) (hp : -9223372036854775808 ≤ p ∧ p ≤ 9223372036854775807) :
    Ev (fun k => impl_WindowAt.f k l n p) (WindowAtM l n p) := by
  unfold impl_WindowAt.f WindowAtM
  refine ev_call (impl_isCycle_ev _ (by omega)) (ev_if (fun h1 => ?_) (fun h1 => ev_some (by rw [if_neg (fun h => h1 h.1)])))
  refine ev_plain (impl_within_eq _ _ _) (ev_if (fun h2 => ?_) (fun h2 => ev_some (by rw [if_neg (fun h => h2 (inB_iff.mpr h.2.1))])))
  have hc := cycleB_iff.mp h1
  have hn2 := inB_iff.mp h2
  rw [wrap_id (by omega)]
  refine ev_plain (impl_within_eq _ _ _) (ev_if (fun h3 => ?_) (fun h3 => ev_some (by rw [if_neg (fun h => h3 (inB_iff.mpr h.2.2))])))
  have hp2 := inB_iff.mp h3
  obtain ⟨n, rfl⟩ := Int.eq_ofNat_of_zero_le (show 0 ≤ n by omega)
  obtain ⟨p, rfl⟩ := Int.eq_ofNat_of_zero_le hp2.1
  refine ev_call (impl_window_ev l n p (by omega) (by omega) (by omega) (by omega)) (ev_some ?_)
  rw [if_pos ⟨h1, hn2, hp2⟩]; simp

theorem laws_tSame_loop (a b : List Int) (ha : a.length ≤ 1000000000000) (hab : a.length = b.length) : ∀ (d i : Nat), i + d = a.length →
    Ev (fun k => laws_tSame.l0 k a b (a.length : Int) (i : Int)) (decide (a.drop i = b.drop i)) := by
  intro d
  induction d with
  | zero =>
    intro i h
    rw [List.drop_eq_nil_of_le (by omega), List.drop_eq_nil_of_le (by omega)]
    refine Ev.step (f := fun _ => some true) (fun k => ?_) (Ev.now _)
    simp only [laws_tSame.l0]; rw [if_neg (by omega)]
  | succ d ih =>
    intro i h
    rw [drop_rd a i (by omega), drop_rd b i (by omega)]
    refine Ev.step (f := fun k => if rd a (i : Int) = rd b (i : Int) then laws_tSame.l0 k a b (a.length : Int) ((i + 1 : Nat) : Int) else some false) (fun k => ?_) ?_
    · simp only [laws_tSame.l0]; rw [if_pos (by omega), if_pos (by omega), if_pos (by omega), if_pos (by omega), wrap_succ (by omega)]
    · exact ev_if (fun e => ev_to (ih (i + 1) (by omega)) (by simp [e])) (fun e => ev_some (by simp [e]))
theorem laws_tSame_ev (a b : List Int) (ha : a.length ≤ 1000000000000) : Ev (fun k => laws_tSame.f k a b) (decide (a = b)) := by
  unfold laws_tSame.f
  refine ev_if (fun h => ?_) (fun h => ev_some ?_)
  · exact laws_tSame_loop a b ha (by omega) a.length 0 (by omega)
  · rw [eq_comm, decide_eq_false_iff_not]; intro e; exact h (by rw [e])

theorem laws_tFar_ev (a b : List Int) (hab : a.length = b.length) (ha : a.length ≤ 1000000000000) :
    Ev (fun k => laws_tFar.f k a b) ((far (fun j => a.getD j 0) (fun j => b.getD j 0) a.length : Nat) : Int) := by
  unfold laws_tFar.f
  refine ev_pos (by omega) ?_
  refine ev_iter (fun (c : Nat) i k => laws_tFar.l0 k a b (c : Int) (a.length : Int) (i : Int)) (fun c j => if a.getD j 0 = b.getD j 0 then c else c + 1) (fun i c => c ≤ i) a.length ?_ a.length 0 0 (by omega) (by omega) ?_
  · intro c i hi hI
    refine ⟨by split <;> omega, fun r k => ?_⟩
    refine Ev.step (fun k => by simp only [laws_tFar.l0]; rfl) ?_
    refine ev_pos (by omega) (ev_pos (by omega) (ev_pos (by omega) (ev_pos (by omega) ?_)))
    rw [wrap_succ (by omega), rd_nat, rd_nat]
    refine ev_if (fun e => ?_) (fun e => ?_)
    · rw [if_pos e] at k; exact k
    · rw [wrap_succ (by omega)]
      rw [if_neg e] at k; exact k
  · intro _
    refine Ev.step (fun k => by simp only [laws_tFar.l0]; rfl) (ev_neg (by omega) (Ev.now _))

theorem laws_big_some (a b : List Int) : ∃ r, laws_big.f a b = some r := by
  unfold laws_big.f
  split
  · exact ⟨_, rfl⟩
  · exact ⟨_, rfl⟩
theorem laws_big_ok {a b : List Int} {r : Bool} (h : laws_big.f a b = some r) (hr : ¬ r = true) : a.length ≤ 1048576 ∧ b.length ≤ 1048576 := by
  unfold laws_big.f at h
  split at h
  · cases h; exact absurd rfl hr
  · rename_i h1
    obtain rfl := Option.some.inj h
    rw [wrap_id (by omega)] at hr
    simp at hr
    omega

theorem drawSpread_ok {d : List Int} (hd : bytesL d) : ∃ w n, Ev (fun q => spec_DrawSpreadOf.f q d) (w, n) ∧ w.length ≤ 1025 ∧ (-1 ≤ n ∧ n ≤ 65) := by
  obtain ⟨v, a1, s1, e1, hv, ha1⟩ := pick_ok hd (a := 0) 0 12 (by omega) (by omega)
  obtain ⟨b, a2, s2, e2, ha2⟩ := one_ok hd (a := a1) s1 8 (by omega) (by omega)
  unfold spec_DrawSpreadOf.f
  by_cases c1 : b = true
  · obtain ⟨u, a3, s3, e3, hu, ha3⟩ := among_ok hd (a := a2) s2 [(-1), 0, 64, 65] (by simp) (by omega) (by omega)
    obtain ⟨w, a4, s4, e4, hw, _⟩ := tape_ok hd (a := a3) s3 (by omega) (by omega)
    refine ⟨w, u, ?_, hw, by simp at hu; omega⟩
    refine ev_plain e1 ?_
    dsimp only
    refine ev_plain e2 ?_
    dsimp only
    refine ev_pos c1 (ev_plain e3 ?_)
    dsimp only
    exact ev_call e4 (Ev.now _)
  · obtain ⟨w, a4, s4, e4, hw, _⟩ := tape_ok hd (a := a2) s2 (by omega) (by omega)
    refine ⟨w, wrap64 (1 + v), ?_, hw, by rw [wrap_id (by omega)]; omega⟩
    refine ev_plain e1 ?_
    dsimp only
    refine ev_plain e2 ?_
    dsimp only
    exact ev_neg c1 (ev_call e4 (Ev.now _))
theorem drawMend_loop {d : List Int} (hd : bytesL d) (v : List Int) : ∀ (m : Nat) (g : List Int) (a s : Int), m ≤ 5 → 1 ≤ g.length → g.length ≤ 100 → 0 ≤ a → a + 4 * (m : Int) ≤ 999999999999900 →
    ∃ r, Ev (fun q => spec_DrawMendWindow.l0 q v g (m : Int) d a s) (v, r) ∧ r.length ≤ 100 := by
  intro m
  induction m with
  | zero =>
    intro g a s _ h1 h2 h0 hb
    exact ⟨g, Ev.step (fun k => by simp only [spec_DrawMendWindow.l0]; rfl) (ev_neg (by omega) (Ev.now _)), h2⟩
  | succ m ih =>
    intro g a s hm h1 h2 h0 hb
    obtain ⟨p, a1, s1, e1, hp, ha1⟩ := pick_ok hd s (g.length : Int) h0 (by omega)
    obtain ⟨x, a2, s2, e2, hx, ha2⟩ := pick_ok hd (a := a1) s1 4 (by omega) (by omega)
    obtain ⟨r, hr, hl⟩ := ih (g.set p.toNat x) a2 s2 (by omega) (by rw [List.length_set]; exact h1) (by rw [List.length_set]; exact h2) (by omega) (by omega)
    refine ⟨r, ?_, hl⟩
    refine Ev.step (fun k => by simp only [spec_DrawMendWindow.l0]; rfl) ?_
    refine ev_pos (by omega) (ev_plain e1 ?_)
    dsimp only
    refine ev_plain e2 ?_
    dsimp only
    refine ev_pos (by omega) (ev_pos (by omega) ?_)
    rw [wrap_pred (by omega)]
    exact hr
theorem drawMend_ok {d : List Int} (hd : bytesL d) : ∃ v g, Ev (fun q => spec_DrawMendWindow.f q d) (v, g) ∧ v.length ≤ 1025 ∧ g.length ≤ 1025 := by
  obtain ⟨v, a1, s1, e1, hv, ha1⟩ := tape_ok hd (a := 0) 0 (by omega) (by omega)
  have wild : ∀ a s : Int, 0 ≤ a → a ≤ 1000 → ∃ g, Ev (fun q => spec_DrawMendWindow.j0 q v true d a s) (v, g) ∧ g.length ≤ 1025 := by
    intro a s h0 h1
    obtain ⟨r, a2, s2, e2, hr, _⟩ := cycle_ok hd (a := a) s 3 h0 (by omega)
    exact ⟨r, Ev.step (fun k => by simp only [spec_DrawMendWindow.j0]; rfl) (ev_pos (by trivial) (ev_call e2 (Ev.now _))), hr⟩
  have hcyc := spec_brCycle_ev v 6 (by omega) (by omega) (by omega)
  unfold spec_DrawMendWindow.f
  by_cases hc : cycleB v 6 = true
  · obtain ⟨b, a2, s2, e2, ha2⟩ := one_ok hd (a := a1) s1 6 (by omega) (by omega)
    by_cases c1 : b = true
    · obtain ⟨g, hg, hl⟩ := wild a2 s2 (by omega) (by omega)
      refine ⟨v, g, ?_, hv, hl⟩
      refine ev_call e1 ?_
      dsimp only
      refine ev_call hcyc (ev_pos hc (ev_plain e2 ?_))
      dsimp only
      rw [c1]
      exact hg
    · have hvl := (cycleB_iff.mp hc).2.1
      obtain ⟨x, a3, s3, e3, hx, ha3⟩ := pick_ok hd (a := a2) s2 12 (by omega) (by omega)
      obtain ⟨p, a4, s4, e4, hp, ha4⟩ := pick_ok hd (a := a3) s3 (v.length : Int) (by omega) (by omega)
      obtain ⟨m, a5, s5, e5, hm, ha5⟩ := pick_ok hd (a := a4) s4 3 (by omega) (by omega)
      obtain ⟨p, rfl⟩ := Int.eq_ofNat_of_zero_le hp.1
      obtain ⟨m, rfl⟩ := Int.eq_ofNat_of_zero_le hm.1
      obtain ⟨n, hn⟩ : ∃ n : Nat, 1 + x = (n : Int) := ⟨(1 + x).toNat, by omega⟩
      have hw := spec_brWindow_ev v n p (by omega) (by omega) (by omega) (by omega)
      obtain ⟨r, hr, hl⟩ := drawMend_loop hd v m (win v p n) a5 s5 (by omega) (by rw [win_length]; omega) (by rw [win_length]; omega) (by omega) (by omega)
      refine ⟨v, r, ?_, hv, by omega⟩
      refine ev_call e1 ?_
      dsimp only
      refine ev_call hcyc (ev_pos hc (ev_plain e2 ?_))
      dsimp only
      refine Ev.step (fun k => by simp only [spec_DrawMendWindow.j0]; rfl) ?_
      refine ev_neg c1 (ev_plain e3 ?_)
      dsimp only
      refine ev_plain e4 ?_
      dsimp only
      rw [wrap_id (x := 1 + x) (by omega), hn]
      refine ev_call hw (ev_plain e5 ?_)
      exact hr
  · obtain ⟨g, hg, hl⟩ := wild a1 s1 (by omega) (by omega)
    refine ⟨v, g, ?_, hv, hl⟩
    refine ev_call e1 ?_
    dsimp only
    exact ev_call hcyc (ev_neg hc hg)
/-- The last part: a window of a tape with one letter changed. -/
theorem mended_last (l0 l1 : List Int) (h0 : l0.length ≤ 1048576) (h1 : l1.length ≤ 1048576) (w : List Int) (n : Int) (hw : w.length ≤ 1025) (hn : -1 ≤ n ∧ n ≤ 65) : Ev (fun q => laws_FnMendedTapes.j2 q l0 l1 w n (SpreadOfM w n).1 (SpreadOfM w n).2) true := by
  refine Ev.step (fun k => by simp only [laws_FnMendedTapes.j2]; rfl) ?_
  by_cases hf : (SpreadOfM w n).2 = true
  · refine ev_pos hf ?_
    have hc : tapeB w 2 = true ∧ (1 ≤ n ∧ n ≤ 64) := by
      unfold SpreadOfM at hf
      split at hf
      · assumption
      · cases hf
    obtain ⟨ht, hn1⟩ := hc
    obtain ⟨m, rfl⟩ : ∃ m : Nat, n = (m : Int) := ⟨n.toNat, by omega⟩
    have hcw : cycleB w 6 = true := by simp only [tapeB, Bool.and_eq_true] at ht; exact ht.1
    have hlw := (cycleB_iff.mp hcw).2.1
    have hp : ((l0.length : Int) % (w.length : Int)) = ((l0.length % w.length : Nat) : Int) := by simp
    have hi : ((l1.length : Int) % (m : Int)) = ((l1.length % m : Nat) : Int) := by simp
    have h5 : ((l0.length : Int) % 5) = ((l0.length % 5 : Nat) : Int) := by simp
    have hpl := Nat.mod_lt l0.length (show 0 < w.length by omega)
    have hil := Nat.mod_lt l1.length (show 0 < m by omega)
    have h5l := Nat.mod_lt l0.length (show 0 < 5 by omega)
    rw [hp, hi, h5]
    generalize l0.length % w.length = p at hpl ⊢
    generalize l1.length % m = i at hil ⊢
    generalize l0.length % 5 = c at h5l ⊢
    have hwin : WindowAtM w (m : Int) (p : Int) = (win w p m, true) := by
      unfold WindowAtM
      rw [if_pos ⟨hcw, by omega, by omega⟩, Int.toNat_natCast, Int.toNat_natCast]
    have hsp : SpreadOfM w (m : Int) = (((spreadM w m : Nat) : Int), true) := by
      unfold SpreadOfM
      rw [if_pos ⟨ht, by omega⟩, Int.toNat_natCast]
    have hwa := impl_WindowAt_ev w (m : Int) (p : Int) (by omega) (by omega) (by omega)
    rw [hwin] at hwa
    have hwl := win_length w p m
    have hx := (cycleB_iff.mp hcw).2.2 (rd (win w p m) (i : Int)) (by
      rw [rd_get _ i (by omega)]
      exact mem_win (by omega) (List.getElem_mem _))
    obtain ⟨x, hx2⟩ := Int.eq_ofNat_of_zero_le hx.1
    refine ev_neg (by omega) (ev_call hwa ?_)
    dsimp only
    refine ev_pos (by trivial) ?_
    refine ev_neg (by omega) (ev_pos (by omega) (ev_pos (by omega) ?_))
    rw [hx2, wrap_id (x := (x : Int) + 1) (by omega), wrap_id (x := (x : Int) + 1 + (c : Int)) (by omega), show (x : Int) + 1 + (c : Int) = ((x + 1 + c : Nat) : Int) by omega, show (6 : Int) = ((6 : Nat) : Int) from rfl, tmod_nat, Int.toNat_natCast]
    have h6 := Nat.mod_lt (x + 1 + c) (show 0 < 6 by omega)
    refine ev_call (impl_MendWindow_ev w ((win w p m).set i (((x + 1 + c) % 6 : Nat) : Int)) (by omega) (by rw [List.length_set]; omega)) ?_
    rw [hsp]
    refine ev_if (fun _ => Ev.now _) (fun hs => ?_)
    rw [mend_back w m p i _ ht (by omega) hpl hil (by omega) (by omega)]
    refine ev_call hwa ?_
    dsimp only
    refine ev_pos (by trivial) ?_
    refine ev_pos (by trivial) ?_
    refine ev_pos (by trivial) ?_
    refine ev_call (laws_tSame_ev _ _ (by omega)) (ev_some (by simp))
  · exact ev_neg hf (Ev.now _)
theorem FnMendedTapes : laws_FnMendedTapes.Pure := by
  intro l0 l1 _ _ hb0 _ _ hb1
  refine Ev.rounds (r := true) ?_
  unfold laws_FnMendedTapes.f
  obtain ⟨b, hbig⟩ := laws_big_some l0 l1
  refine ev_plain hbig ?_
  refine ev_if (fun _ => Ev.now _) (fun hbig2 => ?_)
  have hlen := laws_big_ok hbig hbig2
  obtain ⟨w, n, hdraw, hw, hn⟩ := drawSpread_ok (bytes_wf hb0)
  refine ev_call hdraw ?_
  refine ev_call (impl_SpreadOf_ev w n (by omega)) ?_
  refine ev_call (spec_SpreadOf_ev w n (by omega)) ?_
  have hlast := mended_last l0 l1 hlen.1 hlen.2 w n hw hn
  generalize SpreadOfM w n = m_ at hlast ⊢
  obtain ⟨sp, fine⟩ := m_
  refine ev_neg (bne_no _) ?_
  refine Ev.step (fun k => by simp only [laws_FnMendedTapes.j0]; rfl) ?_
  refine ev_neg (by simp) ?_
  obtain ⟨v, g, hdraw2, hv, hg⟩ := drawMend_ok (bytes_wf hb1)
  refine ev_call hdraw2 ?_
  refine ev_call (impl_MendWindow_ev v g (by omega) (by omega)) ?_
  refine ev_call (spec_MendWindow_ev v g (by omega) (by omega)) ?_
  have htold := mend_told v g
  have hmlen := MendWindowM_length v g
  generalize MendWindowM v g = m_ at htold hmlen ⊢
  obtain ⟨place, mended, told⟩ := m_
  dsimp only at htold hmlen
  refine ev_neg (bne_no _) ?_
  refine ev_pos rfl ?_
  refine ev_call (laws_tSame_ev mended mended (by omega)) ?_
  refine Ev.step (fun k => by simp only [laws_FnMendedTapes.j1]; rfl) ?_
  refine ev_neg (by simp) ?_
  refine ev_if (fun ht => ?_) (fun _ => hlast)
  obtain ⟨p, h1, h2, h3, h4, h5⟩ := htold ht
  obtain ⟨rfl, h6⟩ := Prod.mk.inj h5
  obtain ⟨rfl, _⟩ := Prod.mk.inj h6
  have hgl := (cycleB_iff.mp h3).2.1
  have hwin : WindowAtM v (g.length : Int) (p : Int) = (win v p g.length, true) := by
    unfold WindowAtM
    rw [if_pos ⟨h2, by omega, by omega⟩, Int.toNat_natCast, Int.toNat_natCast]
  have hwa := impl_WindowAt_ev v (g.length : Int) (p : Int) (by omega) (by omega) (by omega)
  rw [hwin] at hwa
  refine ev_call hwa ?_
  dsimp only
  refine ev_pos (by trivial) ?_
  refine ev_call (laws_tSame_ev _ _ (by rw [win_length]; omega)) ?_
  refine ev_pos (by simp) ?_
  refine ev_call (laws_tFar_ev _ _ (win_length _ _ _) (by rw [win_length]; omega)) ?_
  refine ev_neg ?_ hlast
  have : far (fun j => (win v p g.length).getD j 0) (fun j => g.getD j 0) (win v p g.length).length = farG v g p := by
    unfold farG
    rw [win_length, far_comm]
    exact far_congr (fun j hj => ⟨rfl, win_getD _ _ _ _ hj⟩)
  rw [this]
  omega

end Go.Proofs.Ytaimmgonhanhoaa.Pure
