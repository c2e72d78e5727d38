/- The pure statement of WindowsGoRound: it holds of all draws; no condition. -/
import Derived.Test.YtbmgpafijkfdbaaPFnWindowsGoRoundx5
import Derived.Test.YtbmgpafijkfdbaaBase
import Derived.Test.YtbmgpafijkfdbaaLists
namespace Go.Proofs.Ytbmgpafijkfdbaa.Pure
open Go.RowKit Go.Proofs.Ytbmgpafijkfdbaa.PFnWindowsGoRound Go.Proofs.YtbmgpafijkfdbaaW.PrintWords Go.Proofs.YtbmgpafijkfdbaaW.PrintLast Go.Proofs.Ytbmgpafijkfdbaa.Base
set_option maxRecDepth 10000
set_option linter.unusedVariables false
set_option linter.unusedSimpArgs false

def bytesL (d : List Int) : Prop := ∀ x ∈ d, 0 ≤ x ∧ x ≤ 255
theorem and255 (x : Int) : 0 ≤ Go.bits .and .u64 x 255 ∧ Go.bits .and .u64 x 255 ≤ 255 := by
  have h : ((BitVec.ofInt 64 x) &&& (BitVec.ofInt 64 255)).toNat ≤ 255 := by
    rw [BitVec.toNat_and]; exact Nat.le_trans Nat.and_le_right (by decide)
  have e : Go.bits .and .u64 x 255 = IntKind.u64.wrap (((BitVec.ofInt 64 x) &&& (BitVec.ofInt 64 255)).toNat : Int) := rfl
  rw [e]
  generalize ((BitVec.ofInt 64 x) &&& (BitVec.ofInt 64 255)).toNat = m at h
  simp only [IntKind.wrap, IntKind.signed, IntKind.bits, Bool.false_and, Bool.false_eq_true, if_false]
  omega
theorem bytes_wf {d : List Int} (h : ∀ x ∈ d, (Lit.int .u8 x).wf = true) : bytesL d := by
  intro x hx
  have h := h x hx
  simp only [Lit.wf, IntKind.min, IntKind.max, IntKind.signed, IntKind.bits, Bool.and_eq_true, decide_eq_true_eq, Bool.false_eq_true, if_false] at h
  omega
theorem next_ok {d : List Int} (hd : bytesL d) {a : Int} (s : Int) (h0 : 0 ≤ a) (h1 : a ≤ 1000000000001000) : ∃ v s', spec_l1Cur_next.f d a s = some (v, a + 1, s') ∧ 0 ≤ v ∧ v ≤ 255 := by
  unfold spec_l1Cur_next.f
  rw [wrap_id (x := a + 1) (by omega)]
  by_cases ha : a < (d.length : Int)
  · rw [if_pos ha, if_pos h0, if_pos (by omega)]
    have hb : 0 ≤ rd d a ∧ rd d a ≤ 255 := by
      obtain ⟨j, rfl⟩ := Int.eq_ofNat_of_zero_le h0
      exact hd _ (by rw [show rd d ((j : Nat) : Int) = d[j]'(by omega) from rd_get d j (by omega)]; exact List.getElem_mem _)
    exact ⟨_, _, rfl, by rw [wrap_id (by omega)]; exact hb.1, by rw [wrap_id (by omega)]; exact hb.2⟩
  · rw [if_neg ha]
    by_cases hb : a + 1 ≤ (d.length : Int)
    · omega
    · rw [if_neg hb]
      have h := and255 ((IntKind.u64.wrap ((IntKind.u64.wrap ((IntKind.u64.wrap (s * 6364136223846793005)))) + 1442695040888963407)) / 1099511627776)
      exact ⟨_, _, rfl, by rw [wrap_id (by omega)]; exact h.1, by rw [wrap_id (by omega)]; exact h.2⟩
theorem tmod_lt {x n : Int} (h0 : 0 ≤ x) (hn : 1 ≤ n) : 0 ≤ Int.tmod x n ∧ Int.tmod x n < n := by
  obtain ⟨p, rfl⟩ := Int.eq_ofNat_of_zero_le h0
  obtain ⟨q, rfl⟩ := Int.eq_ofNat_of_zero_le (show 0 ≤ n by omega)
  rw [show ((p : Nat) : Int).tmod ((q : Nat) : Int) = ((p % q : Nat) : Int) from tmod_nat p q]
  have := Nat.mod_lt p (show 0 < q by omega)
  omega
theorem pick_ok {d : List Int} (hd : bytesL d) {a : Int} (s n : Int) (h0 : 0 ≤ a) (h1 : a ≤ 1000000000000000) : ∃ v a' s', spec_l1Cur_pick.f d a s n = some (v, a', s') ∧ (0 ≤ v ∧ (v < n ∨ (n ≤ 1 ∧ v = 0))) ∧ (a ≤ a' ∧ a' ≤ a + 2) := by
  unfold spec_l1Cur_pick.f
  by_cases hn : n ≤ 1
  · rw [if_pos hn]
    exact ⟨0, a, s, rfl, ⟨by omega, .inr ⟨hn, rfl⟩⟩, by omega⟩
  · rw [if_neg hn]
    obtain ⟨v, s1, e1, hv⟩ := next_ok hd s h0 (by omega)
    rw [e1, Option.bind_some]
    dsimp only
    by_cases h2 : n > 200
    · rw [if_pos h2]
      obtain ⟨u, s2, e2, hu⟩ := next_ok hd (a := a + 1) s1 (by omega) (by omega)
      rw [e2, Option.bind_some]
      dsimp only
      rw [if_neg (by omega), wrap_id (x := v * 256) (by omega), wrap_id (x := v * 256 + u) (by omega)]
      have := tmod_lt (x := v * 256 + u) (n := n) (by omega) (by omega)
      exact ⟨_, _, _, rfl, ⟨this.1, .inl this.2⟩, by omega⟩
    · rw [if_neg h2, if_neg (by omega)]
      have := tmod_lt (x := v) (n := n) (by omega) (by omega)
      exact ⟨_, _, _, rfl, ⟨this.1, .inl this.2⟩, by omega⟩

theorem one_ok {d : List Int} (hd : bytesL d) {a : Int} (s n : Int) (h0 : 0 ≤ a) (h1 : a ≤ 1000000000000000) : ∃ v a' s', spec_l1Cur_one.f d a s n = some (v, a', s') ∧ (a ≤ a' ∧ a' ≤ a + 2) := by
  obtain ⟨v, a', s', e, _, h⟩ := pick_ok hd s n h0 h1
  unfold spec_l1Cur_one.f
  rw [e]
  exact ⟨_, _, _, rfl, h⟩
theorem among_ok {d : List Int} (hd : bytesL d) {a : Int} (s : Int) (l : List Int) (hl : 1 ≤ l.length) (h0 : 0 ≤ a) (h1 : a ≤ 1000000000000000) : ∃ v a' s', spec_l1Cur_among.f d a s l = some (v, a', s') ∧ v ∈ l ∧ (a ≤ a' ∧ a' ≤ a + 2) := by
  obtain ⟨v, a', s', e, hv, h⟩ := pick_ok hd s (l.length : Int) h0 h1
  unfold spec_l1Cur_among.f
  rw [e, Option.bind_some]
  dsimp only
  rw [if_pos (by omega), if_pos (by omega)]
  refine ⟨_, _, _, rfl, ?_, h⟩
  obtain ⟨j, rfl⟩ := Int.eq_ofNat_of_zero_le hv.1
  rw [show rd l ((j : Nat) : Int) = l[j]'(by omega) from rd_get l j (by omega)]
  exact List.getElem_mem _
theorem cycle_loop {d : List Int} (hd : bytesL d) (n : Int) : ∀ (m : Nat) (xs : List Int) (a s : Int), m ≤ 20 → xs.length + m ≤ 20 → 1 ≤ xs.length + m → 0 ≤ a → a + 2 * (m : Int) ≤ 999999999999900 →
    ∃ r a' s', Ev (fun k => spec_l1Cur_cycle.l0 k n xs (m : Int) d a s) (r, a', s') ∧ r.length ≤ 1025 ∧ (a ≤ a' ∧ a' ≤ a + 2 * (m : Int) + 10) := by
  intro m
  induction m with
  | zero =>
    intro xs a s _ hl h1 h0 hb
    obtain ⟨v, a1, s1, e1, hv, ha1⟩ := pick_ok hd s 14 h0 (by omega)
    by_cases c1 : v = 0
    · obtain ⟨p, a2, s2, e2, hp, ha2⟩ := pick_ok hd (a := a1) s1 (xs.length : Int) (by omega) (by omega)
      obtain ⟨u, a3, s3, e3, hu, ha3⟩ := among_ok hd (a := a2) s2 [(-1), 0, 5, 6] (by simp) (by omega) (by omega)
      refine ⟨xs.set p.toNat u, a3, s3, ?_, by simp; omega, by omega⟩
      refine Ev.step (fun k => by simp only [spec_l1Cur_cycle.l0]; rfl) ?_
      refine ev_neg (by omega) ?_
      refine ev_plain e1 ?_
      try dsimp only
      refine ev_pos c1 ?_
      refine ev_plain e2 ?_
      try dsimp only
      refine ev_plain e3 ?_
      try dsimp only
      refine ev_pos (by omega) ?_
      refine ev_pos (by omega) ?_
      exact Ev.now _
    · by_cases c2 : v = 1
      · refine ⟨[], a1, s1, ?_, by simp, by omega⟩
        refine Ev.step (fun k => by simp only [spec_l1Cur_cycle.l0]; rfl) ?_
        refine ev_neg (by omega) ?_
        refine ev_plain e1 ?_
        try dsimp only
        refine ev_neg c1 ?_
        refine ev_pos c2 ?_
        exact Ev.now _
      · by_cases c3 : v = 2
        · obtain ⟨u, a3, s3, e3, hu, ha3⟩ := among_ok hd (a := a1) s1 [64, 65, 1024, 1025] (by simp) (by omega) (by omega)
          obtain ⟨b, a4, s4, e4, ha4⟩ := one_ok hd (a := a3) s3 2 (by omega) (by omega)
          have hu2 : 64 ≤ u ∧ u ≤ 1025 := by simp at hu; omega
          have hlen : (List.replicate u.toNat (0 : Int)).length = u.toNat := by simp
          by_cases c4 : b = true
          · refine ⟨(List.replicate u.toNat (0 : Int)).set 0 1, a4, s4, ?_, by rw [List.length_set, hlen]; omega, by omega⟩
            skip
            refine Ev.step (fun k => by simp only [spec_l1Cur_cycle.l0]; rfl) ?_
            refine ev_neg (by omega) ?_
            refine ev_plain e1 ?_
            try dsimp only
            refine ev_neg c1 ?_
            refine ev_neg c2 ?_
            refine ev_pos c3 ?_
            refine ev_plain e3 ?_
            try dsimp only
            refine ev_pos (by omega) ?_
            refine ev_pos (by omega) ?_
            refine ev_plain rfl ?_
            try dsimp only
            refine ev_plain e4 ?_
            try dsimp only
            refine ev_pos c4 ?_
            refine ev_pos (by rw [hlen]; omega) ?_
            exact Ev.now _
          · refine ⟨List.replicate u.toNat (0 : Int), a4, s4, ?_, by rw [hlen]; omega, by omega⟩
            skip
            refine Ev.step (fun k => by simp only [spec_l1Cur_cycle.l0]; rfl) ?_
            refine ev_neg (by omega) ?_
            refine ev_plain e1 ?_
            try dsimp only
            refine ev_neg c1 ?_
            refine ev_neg c2 ?_
            refine ev_pos c3 ?_
            refine ev_plain e3 ?_
            try dsimp only
            refine ev_pos (by omega) ?_
            refine ev_pos (by omega) ?_
            refine ev_plain rfl ?_
            try dsimp only
            refine ev_plain e4 ?_
            try dsimp only
            refine ev_neg c4 ?_
            exact Ev.now _
        · refine ⟨xs, a1, s1, ?_, by omega, by omega⟩
          skip
          refine Ev.step (fun k => by simp only [spec_l1Cur_cycle.l0]; rfl) ?_
          refine ev_neg (by omega) ?_
          refine ev_plain e1 ?_
          try dsimp only
          refine ev_neg c1 ?_
          refine ev_neg c2 ?_
          refine ev_neg c3 ?_
          exact Ev.now _
  | succ m ih =>
    intro xs a s hm hl h1 h0 hb
    obtain ⟨v, a1, s1, e1, hv, ha1⟩ := pick_ok hd s n h0 (by omega)
    obtain ⟨r, a', s', e, hr, ha⟩ := ih (xs ++ [v]) a1 s1 (by omega) (by simp; omega) (by simp; omega) (by omega) (by omega)
    refine ⟨r, a', s', ?_, hr, by omega⟩
    refine Ev.step (fun k => by simp only [spec_l1Cur_cycle.l0]; rfl) ?_
    refine ev_pos (by omega) ?_
    refine ev_plain e1 ?_
    dsimp only
    refine ev_pos (by omega) ?_
    rw [wrap_pred (by omega)]
    exact e
theorem cycle_ok {d : List Int} (hd : bytesL d) {a : Int} (s n : Int) (h0 : 0 ≤ a) (h1 : a ≤ 999999999999000) : ∃ r a' s', Ev (fun k => spec_l1Cur_cycle.f k d a s n) (r, a', s') ∧ r.length ≤ 1025 ∧ (a ≤ a' ∧ a' ≤ a + 100) := by
  obtain ⟨v, a1, s1, e1, hv, ha1⟩ := pick_ok hd s 12 h0 (by omega)
  obtain ⟨m, hm⟩ : ∃ m : Nat, 1 + v = (m : Int) := ⟨(1 + v).toNat, by omega⟩
  obtain ⟨r, a', s', e, hr, ha⟩ := cycle_loop hd n m [] a1 s1 (by omega) (by simp; omega) (by simp; omega) (by omega) (by omega)
  unfold spec_l1Cur_cycle.f
  refine ⟨r, a', s', ev_plain e1 ?_, hr, by omega⟩
  dsimp only
  rw [wrap_id (x := 1 + v) (by omega), hm]
  exact e

def WindowAtM (l : List Int) (n p : Int) : List Int × Bool := if cycleB l 6 = true ∧ (1 ≤ n ∧ n ≤ 1024) ∧ (0 ≤ p ∧ p ≤ (l.length : Int) - 1) then (win l p.toNat n.toNat, true) else ([], false)
theorem WindowAtM_length (l : List Int) (n p : Int) : (WindowAtM l n p).1.length ≤ 1024 := by
  unfold WindowAtM
  split
  · rw [win_length]; omega
  · simp

theorem impl_within_eq (a lo hi : Int) : impl_within.f a lo hi = some (inB a lo hi) := by
  unfold impl_within.f inB
  by_cases h : a ≥ lo
  · rw [if_pos h]; simp [h]
  · rw [if_neg h]; simp [show ¬ lo ≤ a from h]

theorem impl_allWithin_loop (lo hi : Int) (xs : List Int) (hx : xs.length ≤ 1000000000000) : ∀ (d i : Nat), i + d = xs.length →
    Ev (fun k => impl_allWithin.l0 k lo hi xs (xs.length : Int) (i : Int)) (allB (xs.drop i) lo hi) := by
  intro d
  induction d with
  | zero =>
    intro i h
    rw [List.drop_eq_nil_of_le (by omega)]
    refine Ev.step (f := fun _ => some true) (fun k => ?_) (Ev.now _)
    simp only [impl_allWithin.l0]; rw [if_neg (by omega)]
  | succ d ih =>
    intro i h
    have hlt : i < xs.length := by omega
    rw [drop_rd xs i hlt]
    refine Ev.step (f := fun k => if inB (rd xs (i : Int)) lo hi = true then impl_allWithin.l0 k lo hi xs (xs.length : Int) ((i + 1 : Nat) : Int) else some false) (fun k => ?_) ?_
    · simp only [impl_allWithin.l0]; rw [if_pos (by omega), if_pos (by omega), if_pos (by omega), impl_within_eq, wrap_succ (by omega)]; rfl
    · by_cases hb : inB (rd xs (i : Int)) lo hi = true
      · exact ev_pos hb (ev_to (ih (i + 1) (by omega)) (by simp [allB, hb]))
      · exact ev_neg hb (ev_some (by simp [allB, Bool.eq_false_iff.mpr hb]))
theorem impl_allWithin_ev (lo hi : Int) (xs : List Int) (hx : xs.length ≤ 1000000000000) : Ev (fun k => impl_allWithin.f k xs lo hi) (allB xs lo hi) :=
  impl_allWithin_loop lo hi xs hx xs.length 0 (by omega)

theorem impl_IsCycle_ev (xs : List Int) (k : Int) (hx : xs.length ≤ 1000000000000) (hk : -9223372036854775808 ≤ k) (hk2 : k ≤ 9223372036854775807) : Ev (fun n => impl_IsCycle.f n xs k) (cycleB xs k) := by
  unfold impl_IsCycle.f cycleB
  refine ev_plain (impl_within_eq _ _ _) ?_
  refine ev_if (fun h => ?_) (fun h => ev_some (by simp [Bool.eq_false_iff.mpr h]))
  refine ev_plain (impl_within_eq _ _ _) ?_
  refine ev_if (fun h2 => ?_) (fun h2 => ev_some (by simp [Bool.eq_false_iff.mpr h2]))
  have h' := inB_iff.mp h
  rw [wrap_id (by omega)]
  exact ev_call (impl_allWithin_ev _ _ _ hx) (ev_some (by simp [h, h2]))

theorem impl_isCycle_ev (xs : List Int) (hx : xs.length ≤ 1000000000000) : Ev (fun n => impl_isCycle.f n xs) (cycleB xs 6) := by
  unfold impl_isCycle.f
  exact ev_call (impl_IsCycle_ev _ _ hx (by omega) (by omega)) (ev_some rfl)

theorem impl_window_loop (w : List Int) (n p : Nat) (hw : 0 < w.length) (hwl : w.length ≤ 1000000000000) (hn : n ≤ 1000000000000) (hp : p ≤ 1000000000000) : ∀ (d i : Nat) (acc : List Int), i + d = n → acc.length = i →
    Ev (fun k => impl_window.l0 k w (p : Int) acc (n : Int) (i : Int)) (acc ++ (List.range' i d).map fun j => w.getD ((p + j) % w.length) 0) := by
  intro d
  induction d with
  | zero =>
    intro i acc h ha
    refine Ev.step (f := fun _ => some acc) (fun k => ?_) (ev_some (by simp))
    simp only [impl_window.l0]; rw [if_neg (by omega)]
  | succ d ih =>
    intro i acc h ha
    refine Ev.step (f := fun k => impl_window.l0 k w (p : Int) (acc ++ [w.getD ((p + i) % w.length) 0]) (n : Int) ((i + 1 : Nat) : Int)) (fun k => ?_) (ev_to (ih (i + 1) _ (by omega) (by simp [ha])) ?_)
    · simp only [impl_window.l0]
      rw [if_pos (by omega), if_neg (by omega), wrap_id (x := (p : Int) + (i : Int)) (by omega), show (p : Int) + (i : Int) = ((p + i : Nat) : Int) by omega, tmod_nat, wrap_succ (by omega)]
      have hm := Nat.mod_lt (p + i) hw
      rw [if_pos (by omega), if_pos (by omega), if_pos (by omega), rd_nat]
    · simp [List.range'_succ]
theorem impl_window_ev (w : List Int) (n p : Nat) (hw : 0 < w.length) (hwl : w.length ≤ 1000000000000) (hn : n ≤ 1000000000000) (hp : p ≤ 1000000000000) : Ev (fun k => impl_window.f k w (n : Int) (p : Int)) (win w p n) :=
  ev_to (impl_window_loop w n p hw hwl hn hp n 0 [] (by omega) rfl) (by simp [win])

theorem impl_WindowAt_ev (l : List Int) (n p : Int) (hl : l.length ≤ 1048576) (hn : -9223372036854775808 ≤ n ∧ n ≤ 9223372036854775807) (hp : -9223372036854775808 ≤ p ∧ p ≤ 9223372036854775807) :
    Ev (fun k => impl_WindowAt.f k l n p) (WindowAtM l n p) := by
  unfold impl_WindowAt.f WindowAtM
  refine ev_call (impl_isCycle_ev _ (by omega)) (ev_if (fun h1 => ?_) (fun h1 => ev_some (by rw [if_neg (fun h => h1 h.1)])))
  refine ev_plain (impl_within_eq _ _ _) (ev_if (fun h2 => ?_) (fun h2 => ev_some (by rw [if_neg (fun h => h2 (inB_iff.mpr h.2.1))])))
  have hc := cycleB_iff.mp h1
  have hn2 := inB_iff.mp h2
  rw [wrap_id (by omega)]
  refine ev_plain (impl_within_eq _ _ _) (ev_if (fun h3 => ?_) (fun h3 => ev_some (by rw [if_neg (fun h => h3 (inB_iff.mpr h.2.2))])))
  have hp2 := inB_iff.mp h3
  obtain ⟨n, rfl⟩ := Int.eq_ofNat_of_zero_le (show 0 ≤ n by omega)
  obtain ⟨p, rfl⟩ := Int.eq_ofNat_of_zero_le hp2.1
  refine ev_call (impl_window_ev l n p (by omega) (by omega) (by omega) (by omega)) (ev_some ?_)
  rw [if_pos ⟨h1, hn2, hp2⟩]; simp

theorem spec_l1In_eq (a lo hi : Int) : spec_l1In.f a lo hi = some (inB a lo hi) := by
  unfold spec_l1In.f inB
  by_cases h : a ≥ lo
  · rw [if_pos h]; simp [h]
  · rw [if_neg h]; simp [show ¬ lo ≤ a from h]

theorem spec_l1All_loop (lo hi : Int) (xs : List Int) (hx : xs.length ≤ 1000000000000) : ∀ (d i : Nat), i + d = xs.length →
    Ev (fun k => spec_l1All.l0 k lo hi xs (xs.length : Int) (i : Int)) (allB (xs.drop i) lo hi) := by
  intro d
  induction d with
  | zero =>
    intro i h
    rw [List.drop_eq_nil_of_le (by omega)]
    refine Ev.step (f := fun _ => some true) (fun k => ?_) (Ev.now _)
    simp only [spec_l1All.l0]; rw [if_neg (by omega)]
  | succ d ih =>
    intro i h
    have hlt : i < xs.length := by omega
    rw [drop_rd xs i hlt]
    refine Ev.step (f := fun k => if inB (rd xs (i : Int)) lo hi = true then spec_l1All.l0 k lo hi xs (xs.length : Int) ((i + 1 : Nat) : Int) else some false) (fun k => ?_) ?_
    · simp only [spec_l1All.l0]; rw [if_pos (by omega), if_pos (by omega), if_pos (by omega), spec_l1In_eq, wrap_succ (by omega)]; rfl
    · by_cases hb : inB (rd xs (i : Int)) lo hi = true
      · exact ev_pos hb (ev_to (ih (i + 1) (by omega)) (by simp [allB, hb]))
      · exact ev_neg hb (ev_some (by simp [allB, Bool.eq_false_iff.mpr hb]))
theorem spec_l1All_ev (lo hi : Int) (xs : List Int) (hx : xs.length ≤ 1000000000000) : Ev (fun k => spec_l1All.f k xs lo hi) (allB xs lo hi) :=
  spec_l1All_loop lo hi xs hx xs.length 0 (by omega)

theorem spec_brCycle_ev (xs : List Int) (k : Int) (hx : xs.length ≤ 1000000000000) (hk : -9223372036854775808 ≤ k) (hk2 : k ≤ 9223372036854775807) : Ev (fun n => spec_brCycle.f n xs k) (cycleB xs k) := by
  unfold spec_brCycle.f cycleB
  refine ev_plain (spec_l1In_eq _ _ _) ?_
  refine ev_if (fun h => ?_) (fun h => ev_some (by simp [Bool.eq_false_iff.mpr h]))
  refine ev_plain (spec_l1In_eq _ _ _) ?_
  refine ev_if (fun h2 => ?_) (fun h2 => ev_some (by simp [Bool.eq_false_iff.mpr h2]))
  have h' := inB_iff.mp h
  rw [wrap_id (by omega)]
  exact ev_call (spec_l1All_ev _ _ _ hx) (ev_some (by simp [h, h2]))

theorem spec_brWindow_loop (w : List Int) (n p : Nat) (hw : 0 < w.length) (hwl : w.length ≤ 1000000000000) (hn : n ≤ 1000000000000) (hp : p ≤ 1000000000000) : ∀ (d i : Nat) (acc : List Int), i + d = n → acc.length = i →
    Ev (fun k => spec_brWindow.l0 k w (n : Int) (p : Int) acc (i : Int)) (acc ++ (List.range' i d).map fun j => w.getD ((p + j) % w.length) 0) := by
  intro d
  induction d with
  | zero =>
    intro i acc h ha
    refine Ev.step (f := fun _ => some acc) (fun k => ?_) (ev_some (by simp))
    simp only [spec_brWindow.l0]; rw [if_neg (by omega)]
  | succ d ih =>
    intro i acc h ha
    refine Ev.step (f := fun k => spec_brWindow.l0 k w (n : Int) (p : Int) (acc ++ [w.getD ((p + i) % w.length) 0]) ((i + 1 : Nat) : Int)) (fun k => ?_) (ev_to (ih (i + 1) _ (by omega) (by simp [ha])) ?_)
    · simp only [spec_brWindow.l0]
      rw [if_pos (by omega), if_neg (by omega), wrap_id (x := (p : Int) + (i : Int)) (by omega), show (p : Int) + (i : Int) = ((p + i : Nat) : Int) by omega, tmod_nat, wrap_succ (by omega)]
      have hm := Nat.mod_lt (p + i) hw
      rw [if_pos (by omega), if_pos (by omega), if_pos (by omega), rd_nat]
    · simp [List.range'_succ]
theorem spec_brWindow_ev (w : List Int) (n p : Nat) (hw : 0 < w.length) (hwl : w.length ≤ 1000000000000) (hn : n ≤ 1000000000000) (hp : p ≤ 1000000000000) : Ev (fun k => spec_brWindow.f k w (n : Int) (p : Int)) (win w p n) :=
  ev_to (spec_brWindow_loop w n p hw hwl hn hp n 0 [] (by omega) rfl) (by simp [win])

theorem spec_WindowAt_ev (l : List Int) (n p : Int) (hl : l.length ≤ 1048576) (hn : -9223372036854775808 ≤ n ∧ n ≤ 9223372036854775807) (hp : -9223372036854775808 ≤ p ∧ p ≤ 9223372036854775807) :
    Ev (fun k => spec_WindowAt.f k l n p) (WindowAtM l n p) := by
  unfold spec_WindowAt.f WindowAtM
  refine ev_call (spec_brCycle_ev _ _ (by omega) (by omega) (by omega)) (ev_if (fun h1 => ?_) (fun h1 => ev_some (by rw [if_neg (fun h => h1 h.1)])))
  refine ev_plain (spec_l1In_eq _ _ _) (ev_if (fun h2 => ?_) (fun h2 => ev_some (by rw [if_neg (fun h => h2 (inB_iff.mpr h.2.1))])))
  have hc := cycleB_iff.mp h1
  have hn2 := inB_iff.mp h2
  rw [wrap_id (by omega)]
  refine ev_plain (spec_l1In_eq _ _ _) (ev_if (fun h3 => ?_) (fun h3 => ev_some (by rw [if_neg (fun h => h3 (inB_iff.mpr h.2.2))])))
  have hp2 := inB_iff.mp h3
  obtain ⟨n, rfl⟩ := Int.eq_ofNat_of_zero_le (show 0 ≤ n by omega)
  obtain ⟨p, rfl⟩ := Int.eq_ofNat_of_zero_le hp2.1
  refine ev_call (spec_brWindow_ev l n p (by omega) (by omega) (by omega) (by omega)) (ev_some ?_)
  rw [if_pos ⟨h1, hn2, hp2⟩]; simp

/-- The places at which a window stands. -/
def placesIn (w g : List Int) (acc : List Int) (p : Nat) : List Int := if win w p g.length = g then acc ++ [(p : Int)] else acc
def placesM (w g : List Int) : List Int := (List.range' 0 w.length).foldl (placesIn w g) []
theorem placesM_length (w g : List Int) : ∀ d i acc, acc.length ≤ i → ((List.range' i d).foldl (placesIn w g) acc).length ≤ i + d := by
  intro d
  induction d with
  | zero => intro i acc h; simpa using h
  | succ d ih =>
    intro i acc h
    rw [List.range'_succ, List.foldl_cons]
    refine Nat.le_trans (ih (i + 1) _ ?_) (by omega)
    unfold placesIn
    split
    · simp; omega
    · omega
def PlacesOfM (w g : List Int) : List Int × Bool := if cycleB w 6 = true ∧ cycleB g 6 = true then (placesM w g, true) else ([], false)
theorem PlacesOfM_length (w g : List Int) : (PlacesOfM w g).1.length ≤ 1024 := by
  unfold PlacesOfM
  split
  · rename_i h
    have := (cycleB_iff.mp h.1).2.1.2
    have h2 := placesM_length w g w.length 0 [] (by simp)
    simp only [placesM]; omega
  · simp

theorem slices_Equal_int_int_loop (a b : List Int) (ha : a.length ≤ 1000000000000) (hab : a.length = b.length) : ∀ (d i : Nat), i + d = a.length →
    Ev (fun k => slices_Equal_int_int.l0 k a b (a.length : Int) (i : Int)) (decide (a.drop i = b.drop i)) := by
  intro d
  induction d with
  | zero =>
    intro i h
    rw [List.drop_eq_nil_of_le (by omega), List.drop_eq_nil_of_le (by omega)]
    refine Ev.step (f := fun _ => some true) (fun k => ?_) (Ev.now _)
    simp only [slices_Equal_int_int.l0]; rw [if_neg (by omega)]
  | succ d ih =>
    intro i h
    rw [drop_rd a i (by omega), drop_rd b i (by omega)]
    refine Ev.step (f := fun k => if rd a (i : Int) = rd b (i : Int) then slices_Equal_int_int.l0 k a b (a.length : Int) ((i + 1 : Nat) : Int) else some false) (fun k => ?_) ?_
    · simp only [slices_Equal_int_int.l0]; rw [if_pos (by omega), if_pos (by omega), if_pos (by omega), if_pos (by omega), wrap_succ (by omega)]
    · exact ev_if (fun e => ev_to (ih (i + 1) (by omega)) (by simp [e])) (fun e => ev_some (by simp [e]))
theorem slices_Equal_int_int_ev (a b : List Int) (ha : a.length ≤ 1000000000000) : Ev (fun k => slices_Equal_int_int.f k a b) (decide (a = b)) := by
  unfold slices_Equal_int_int.f
  refine ev_if (fun h => ?_) (fun h => ev_some ?_)
  · exact slices_Equal_int_int_loop a b ha (by omega) a.length 0 (by omega)
  · rw [eq_comm, decide_eq_false_iff_not]; intro e; exact h (by rw [e])

theorem impl_PlacesOf_ev (w g : List Int) (hw : w.length ≤ 1048576) (hg : g.length ≤ 1048576) : Ev (fun k => impl_PlacesOf.f k w g) (PlacesOfM w g) := by
  unfold impl_PlacesOf.f PlacesOfM
  have key : cycleB w 6 = true → ∀ c, Ev (fun k => impl_PlacesOf.j0 k w g (!c)) (if cycleB w 6 = true ∧ c = true then (placesM w g, true) else ([], false)) := by
    intro h1 c
    have hc := cycleB_iff.mp h1
    refine Ev.step (fun k => by simp only [impl_PlacesOf.j0]; rfl) ?_
    cases c with
    | false => exact ev_pos rfl (ev_some (by simp))
    | true =>
      refine ev_neg (by simp) ?_
      rw [if_pos ⟨h1, rfl⟩]
      refine ev_iter (fun acc i k => impl_PlacesOf.l0 k w g acc (w.length : Int) (i : Int)) (placesIn w g) (fun i acc => acc.length ≤ i) w.length ?_ w.length 0 [] (by omega) (by simp) ?_
      · intro acc i hi hI
        refine ⟨by
          unfold placesIn
          split
          · simp; omega
          · omega, fun r k => ?_⟩
        refine Ev.step (fun k => by simp only [impl_PlacesOf.l0]; rfl) ?_
        refine ev_pos (by omega) ?_
        refine ev_call (impl_window_ev w g.length i (by omega) (by omega) (by omega) (by omega)) (ev_call (slices_Equal_int_int_ev _ _ (by rw [win_length]; omega)) (ev_if (fun hd => ?_) (fun hd => ?_))) <;> simp only [decide_eq_true_eq] at hd
        · refine ev_pos (by omega) ?_
          rw [wrap_succ (by omega)]
          rw [placesIn, if_pos hd] at k; exact k
        · rw [wrap_succ (by omega)]
          rw [placesIn, if_neg hd] at k; exact k
      · intro _
        refine Ev.step (fun k => by simp only [impl_PlacesOf.l0]; rfl) (ev_neg (by omega) (Ev.now _))
  refine ev_call (impl_isCycle_ev _ (by omega)) (ev_if (fun h1 => ?_) (fun h1 => ?_))
  · exact ev_call (impl_isCycle_ev _ (by omega)) (key h1 _)
  · refine Ev.step (fun k => by simp only [impl_PlacesOf.j0]; rfl) ?_
    refine ev_pos (by trivial) (ev_some ?_)
    rw [if_neg (fun h => h1 h.1)]

theorem spec_brStands_loop (w g : List Int) (p : Nat) (hw : 0 < w.length) (hwl : w.length ≤ 1000000000000) (hg : g.length ≤ 1000000000000) (hp : p ≤ 1000000000000) : ∀ (d i : Nat), i + d = g.length →
    Ev (fun k => spec_brStands.l0 k w (p : Int) g (g.length : Int) (i : Int)) (decide ((win w p g.length).drop i = g.drop i)) := by
  intro d
  induction d with
  | zero =>
    intro i h
    rw [List.drop_eq_nil_of_le (by rw [win_length]; omega), List.drop_eq_nil_of_le (by omega)]
    refine Ev.step (f := fun _ => some true) (fun k => ?_) (Ev.now _)
    simp only [spec_brStands.l0]; rw [if_neg (by omega)]
  | succ d ih =>
    intro i h
    rw [drop_rd (win w p g.length) i (by rw [win_length]; omega), drop_rd g i (by omega)]
    have hm := Nat.mod_lt (p + i) hw
    have e1 : rd (win w p g.length) (i : Int) = rd w (((p + i) % w.length : Nat) : Int) := by rw [rd_nat, rd_nat, win_get _ _ _ _ (by omega)]
    refine Ev.step (f := fun k => if rd w (((p + i) % w.length : Nat) : Int) = rd g (i : Int) then spec_brStands.l0 k w (p : Int) g (g.length : Int) ((i + 1 : Nat) : Int) else some false) (fun k => ?_) ?_
    · simp only [spec_brStands.l0]
      rw [if_pos (by omega), if_pos (by omega), if_pos (by omega), if_neg (by omega), wrap_id (x := (p : Int) + (i : Int)) (by omega), show (p : Int) + (i : Int) = ((p + i : Nat) : Int) by omega, tmod_nat, wrap_succ (by omega)]
      rw [if_pos (by omega), if_pos (by omega)]
    · rw [e1]
      exact ev_if (fun e => ev_to (ih (i + 1) (by omega)) (by rw [e]; simp)) (fun e => ev_some (by rw [eq_comm, decide_eq_false_iff_not]; intro h; exact e (by injection h)))
theorem spec_brStands_ev (w g : List Int) (p : Nat) (hw : 0 < w.length) (hwl : w.length ≤ 1000000000000) (hg : g.length ≤ 1000000000000) (hp : p ≤ 1000000000000) :
    Ev (fun k => spec_brStands.f k w g (p : Int)) (decide (win w p g.length = g)) :=
  spec_brStands_loop w g p hw hwl hg hp g.length 0 (by omega)

theorem spec_PlacesOf_ev (w g : List Int) (hw : w.length ≤ 1048576) (hg : g.length ≤ 1048576) : Ev (fun k => spec_PlacesOf.f k w g) (PlacesOfM w g) := by
  unfold spec_PlacesOf.f PlacesOfM
  have key : cycleB w 6 = true → ∀ c, Ev (fun k => spec_PlacesOf.j0 k w g (!c)) (if cycleB w 6 = true ∧ c = true then (placesM w g, true) else ([], false)) := by
    intro h1 c
    have hc := cycleB_iff.mp h1
    refine Ev.step (fun k => by simp only [spec_PlacesOf.j0]; rfl) ?_
    cases c with
    | false => exact ev_pos rfl (ev_some (by simp))
    | true =>
      refine ev_neg (by simp) ?_
      rw [if_pos ⟨h1, rfl⟩]
      refine ev_iter (fun acc i k => spec_PlacesOf.l0 k w g acc (w.length : Int) (i : Int)) (placesIn w g) (fun i acc => acc.length ≤ i) w.length ?_ w.length 0 [] (by omega) (by simp) ?_
      · intro acc i hi hI
        refine ⟨by
          unfold placesIn
          split
          · simp; omega
          · omega, fun r k => ?_⟩
        refine Ev.step (fun k => by simp only [spec_PlacesOf.l0]; rfl) ?_
        refine ev_pos (by omega) ?_
        refine ev_call (spec_brStands_ev w g i (by omega) (by omega) (by omega) (by omega)) (ev_if (fun hd => ?_) (fun hd => ?_)) <;> simp only [decide_eq_true_eq] at hd
        · refine ev_pos (by omega) ?_
          rw [wrap_succ (by omega)]
          rw [placesIn, if_pos hd] at k; exact k
        · rw [wrap_succ (by omega)]
          rw [placesIn, if_neg hd] at k; exact k
      · intro _
        refine Ev.step (fun k => by simp only [spec_PlacesOf.l0]; rfl) (ev_neg (by omega) (Ev.now _))
  refine ev_call (spec_brCycle_ev _ _ (by omega) (by omega) (by omega)) (ev_if (fun h1 => ?_) (fun h1 => ?_))
  · exact ev_call (spec_brCycle_ev _ _ (by omega) (by omega) (by omega)) (key h1 _)
  · refine Ev.step (fun k => by simp only [spec_PlacesOf.j0]; rfl) ?_
    refine ev_pos (by trivial) (ev_some ?_)
    rw [if_neg (fun h => h1 h.1)]

theorem laws_tSame_loop (a b : List Int) (ha : a.length ≤ 1000000000000) (hab : a.length = b.length) : ∀ (d i : Nat), i + d = a.length →
    Ev (fun k => laws_tSame.l0 k a b (a.length : Int) (i : Int)) (decide (a.drop i = b.drop i)) := by
  intro d
  induction d with
  | zero =>
    intro i h
    rw [List.drop_eq_nil_of_le (by omega), List.drop_eq_nil_of_le (by omega)]
    refine Ev.step (f := fun _ => some true) (fun k => ?_) (Ev.now _)
    simp only [laws_tSame.l0]; rw [if_neg (by omega)]
  | succ d ih =>
    intro i h
    rw [drop_rd a i (by omega), drop_rd b i (by omega)]
    refine Ev.step (f := fun k => if rd a (i : Int) = rd b (i : Int) then laws_tSame.l0 k a b (a.length : Int) ((i + 1 : Nat) : Int) else some false) (fun k => ?_) ?_
    · simp only [laws_tSame.l0]; rw [if_pos (by omega), if_pos (by omega), if_pos (by omega), if_pos (by omega), wrap_succ (by omega)]
    · exact ev_if (fun e => ev_to (ih (i + 1) (by omega)) (by simp [e])) (fun e => ev_some (by simp [e]))
theorem laws_tSame_ev (a b : List Int) (ha : a.length ≤ 1000000000000) : Ev (fun k => laws_tSame.f k a b) (decide (a = b)) := by
  unfold laws_tSame.f
  refine ev_if (fun h => ?_) (fun h => ev_some ?_)
  · exact laws_tSame_loop a b ha (by omega) a.length 0 (by omega)
  · rw [eq_comm, decide_eq_false_iff_not]; intro e; exact h (by rw [e])

theorem laws_tHas_loop (l : List Int) (x : Int) (hl : l.length ≤ 1000000000000) : ∀ (d i : Nat), i + d = l.length → Ev (fun k => laws_tHas.l0 k x l (l.length : Int) (i : Int)) (decide (x ∈ l.drop i)) := by
  intro d
  induction d with
  | zero =>
    intro i h
    rw [List.drop_eq_nil_of_le (by omega)]
    exact Ev.step (fun k => by simp only [laws_tHas.l0]; rfl) (ev_neg (by omega) (ev_some (by simp)))
  | succ d ih =>
    intro i h
    rw [drop_rd l i (by omega)]
    refine Ev.step (fun k => by simp only [laws_tHas.l0]; rfl) ?_
    rw [wrap_succ (by omega)]
    refine ev_pos (by omega) (ev_pos (by omega) (ev_pos (by omega) ?_))
    exact ev_if (fun e => ev_some (by simp [e])) (fun e => ev_to (ih (i + 1) (by omega)) (by rw [decide_eq_decide, List.mem_cons]; exact ⟨.inr, fun h => h.resolve_left (fun h => e h.symm)⟩))
theorem laws_tHas_ev (l : List Int) (x : Int) (hl : l.length ≤ 1000000000000) : Ev (fun k => laws_tHas.f k l x) (decide (x ∈ l)) :=
  laws_tHas_loop l x hl l.length 0 (by omega)

theorem laws_big_some (a b : List Int) : ∃ r, laws_big.f a b = some r := by
  unfold laws_big.f
  split
  · exact ⟨_, rfl⟩
  · exact ⟨_, rfl⟩
theorem laws_big_ok {a b : List Int} {r : Bool} (h : laws_big.f a b = some r) (hr : ¬ r = true) : a.length ≤ 1048576 ∧ b.length ≤ 1048576 := by
  unfold laws_big.f at h
  split at h
  · cases h; exact absurd rfl hr
  · rename_i h1
    obtain rfl := Option.some.inj h
    rw [wrap_id (by omega)] at hr
    simp at hr
    omega

theorem drawWindow_ok {d : List Int} (hd : bytesL d) : ∃ w n p, Ev (fun q => spec_DrawWindowAt.f q d) (w, n, p) ∧ w.length ≤ 1025 ∧ (-1 ≤ n ∧ n ≤ 1025) ∧ (-1 ≤ p ∧ p ≤ 1027) := by
  obtain ⟨w, a1, s1, e1, hw, ha1⟩ := cycle_ok hd (a := 0) 0 3 (by omega) (by omega)
  obtain ⟨v, a2, s2, e2, hv, ha2⟩ := pick_ok hd (a := a1) s1 15 (by omega) (by omega)
  obtain ⟨b, a3, s3, e3, ha3⟩ := one_ok hd (a := a2) s2 8 (by omega) (by omega)
  have hwl : wrap64 ((w.length : Int) + 2) = (w.length : Int) + 2 := wrap_id (by omega)
  unfold spec_DrawWindowAt.f
  by_cases c1 : b = true
  · obtain ⟨u, a4, s4, e4, hu, ha4⟩ := among_ok hd (a := a3) s3 [(-1), 0, 1024, 1025] (by simp) (by omega) (by omega)
    obtain ⟨p, a5, s5, e5, hp, ha5⟩ := pick_ok hd (a := a4) s4 ((w.length : Int) + 2) (by omega) (by omega)
    have hp2 := hp.2
    refine ⟨w, u, wrap64 (p - 1), ?_, hw, by simp at hu; omega, by rw [wrap_id (by omega)]; omega⟩
    refine ev_call e1 ?_
    dsimp only
    refine ev_plain e2 ?_
    dsimp only
    refine ev_plain e3 ?_
    dsimp only
    refine ev_pos c1 (ev_plain e4 ?_)
    dsimp only
    rw [hwl]
    refine ev_plain e5 ?_
    exact Ev.now _
  · obtain ⟨p, a5, s5, e5, hp, ha5⟩ := pick_ok hd (a := a3) s3 ((w.length : Int) + 2) (by omega) (by omega)
    refine ⟨w, wrap64 (1 + v), wrap64 (p - 1), ?_, hw, by rw [wrap_id (by omega)]; omega, by rw [wrap_id (by omega)]; omega⟩
    refine ev_call e1 ?_
    dsimp only
    refine ev_plain e2 ?_
    dsimp only
    refine ev_plain e3 ?_
    dsimp only
    refine ev_neg c1 ?_
    rw [hwl]
    refine ev_plain e5 ?_
    exact Ev.now _
theorem drawPlaces_ok {d : List Int} (hd : bytesL d) : ∃ w g, Ev (fun q => spec_DrawPlacesOf.f q d) (w, g) ∧ w.length ≤ 1025 ∧ g.length ≤ 1025 := by
  obtain ⟨w, a1, s1, e1, hw, ha1⟩ := cycle_ok hd (a := 0) 0 2 (by omega) (by omega)
  have wild : ∀ a s : Int, 0 ≤ a → a ≤ 1000 → ∃ g, Ev (fun q => spec_DrawPlacesOf.j0 q w false d a s) (w, g) ∧ g.length ≤ 1025 := by
    intro a s h0 h1
    obtain ⟨r, a2, s2, e2, hr, _⟩ := cycle_ok hd (a := a) s 2 h0 (by omega)
    exact ⟨r, Ev.step (fun k => by simp only [spec_DrawPlacesOf.j0]; rfl) (ev_neg (by simp) (ev_call e2 (Ev.now _))), hr⟩
  have hcyc := spec_brCycle_ev w 6 (by omega) (by omega) (by omega)
  unfold spec_DrawPlacesOf.f
  by_cases hc : cycleB w 6 = true
  · obtain ⟨b, a2, s2, e2, ha2⟩ := one_ok hd (a := a1) s1 2 (by omega) (by omega)
    by_cases c1 : b = true
    · have hvl := (cycleB_iff.mp hc).2.1
      obtain ⟨x, a3, s3, e3, hx, ha3⟩ := pick_ok hd (a := a2) s2 4 (by omega) (by omega)
      obtain ⟨p, a4, s4, e4, hp, ha4⟩ := pick_ok hd (a := a3) s3 (w.length : Int) (by omega) (by omega)
      obtain ⟨p, rfl⟩ := Int.eq_ofNat_of_zero_le hp.1
      obtain ⟨n, hn⟩ : ∃ n : Nat, 1 + x = (n : Int) := ⟨(1 + x).toNat, by omega⟩
      have hw2 := spec_brWindow_ev w n p (by omega) (by omega) (by omega) (by omega)
      refine ⟨w, win w p n, ?_, hw, by rw [win_length]; omega⟩
      refine ev_call e1 ?_
      dsimp only
      refine ev_call hcyc (ev_pos hc (ev_plain e2 ?_))
      dsimp only
      refine Ev.step (fun k => by simp only [spec_DrawPlacesOf.j0]; rfl) ?_
      refine ev_pos c1 (ev_plain e3 ?_)
      dsimp only
      refine ev_plain e4 ?_
      dsimp only
      rw [wrap_id (x := 1 + x) (by omega), hn]
      exact ev_call hw2 (Ev.now _)
    · obtain ⟨g, hg, hl⟩ := wild a2 s2 (by omega) (by omega)
      refine ⟨w, g, ?_, hw, hl⟩
      refine ev_call e1 ?_
      dsimp only
      refine ev_call hcyc (ev_pos hc (ev_plain e2 ?_))
      dsimp only
      rw [Bool.eq_false_iff.mpr c1]
      exact hg
  · obtain ⟨g, hg, hl⟩ := wild a1 s1 (by omega) (by omega)
    refine ⟨w, g, ?_, hw, hl⟩
    refine ev_call e1 ?_
    dsimp only
    exact ev_call hcyc (ev_neg hc hg)
theorem places_keep (w g : List Int) (x : Int) : ∀ (l : List Nat) (acc : List Int), x ∈ acc → x ∈ l.foldl (placesIn w g) acc := by
  intro l
  induction l with
  | nil => intro acc h; exact h
  | cons a l ih =>
    intro acc h
    rw [List.foldl_cons]
    refine ih _ ?_
    unfold placesIn
    split
    · exact List.mem_append_left _ h
    · exact h
theorem places_mem (w g : List Int) (p : Nat) : ∀ (l : List Nat) (acc : List Int), p ∈ l → win w p g.length = g → (p : Int) ∈ l.foldl (placesIn w g) acc := by
  intro l
  induction l with
  | nil => intro acc h; cases h
  | cons a l ih =>
    intro acc h hw
    rw [List.foldl_cons]
    rcases List.mem_cons.mp h with rfl | h
    · refine places_keep _ _ _ _ _ ?_
      unfold placesIn
      rw [if_pos hw]
      simp
    · exact ih _ h hw
theorem win_round (w : List Int) (p : Nat) (hp : p < w.length) : win w p w.length = w.drop p ++ w.take p := by
  apply List.ext_getElem
  · rw [win_length, List.length_append, List.length_drop, List.length_take]; omega
  · intro i h1 h2
    rw [win_length] at h1
    have e := win_get w p w.length i h1
    rw [List.getD_eq_getElem?_getD, List.getElem?_eq_getElem (by rw [win_length]; exact h1), Option.getD_some] at e
    rw [e]
    by_cases c : p + i < w.length
    · rw [Nat.mod_eq_of_lt c, List.getD_eq_getElem?_getD, List.getElem?_eq_getElem c, Option.getD_some, List.getElem_append_left (by rw [List.length_drop]; omega), List.getElem_drop]
    · have hm : (p + i) % w.length = p + i - w.length := by
        rw [Nat.mod_eq_sub_mod (by omega), Nat.mod_eq_of_lt (by omega)]
      rw [hm, List.getD_eq_getElem?_getD, List.getElem?_eq_getElem (by omega), Option.getD_some, List.getElem_append_right (by rw [List.length_drop]; omega), List.getElem_take]
      congr 1
      rw [List.length_drop]; omega
theorem IsWord_ev (w : List Int) (hw : w.length ≤ 1000000) : Ev (fun k => impl_IsWord.f k w) (inB (w.length : Int) 1 24 && allB w 0 5) := by
  unfold impl_IsWord.f
  refine ev_plain (impl_within_eq _ _ _) (ev_if (fun h => ?_) (fun h => ?_))
  · refine ev_call (impl_allWithin_ev 0 5 w (by omega)) (ev_some ?_)
    rw [h]; simp
  · refine ev_some ?_
    rw [Bool.eq_false_iff.mpr h]; simp
theorem rotate_ev (w : List Int) (p : Nat) (hp : p < w.length) (hl : w.length ≤ 24) (hw : ∀ x ∈ w, 0 ≤ x ∧ x ≤ 5) : Ev (fun k => impl_RotateWord.f k w (p : Int)) (w.drop p ++ w.take p, true) := by
  unfold impl_RotateWord.f
  have h1 := IsWord_ev w (by omega)
  rw [show (inB (w.length : Int) 1 24 && allB w 0 5) = true by
    rw [Bool.and_eq_true]
    exact ⟨inB_iff.mpr (by omega), allB_iff.mpr hw⟩] at h1
  refine ev_call h1 (ev_pos (by trivial) (ev_plain (impl_within_eq _ _ _) (ev_pos (inB_iff.mpr (by omega)) ?_)))
  have hr : impl_rotated.f w (p : Int) = some (w.drop p ++ w.take p) := by
    unfold impl_rotated.f
    have hm : Int.tmod (wrap64 ((Int.tmod (p : Int) (w.length : Int)) + (w.length : Int))) (w.length : Int) = (p : Int) := by
      rw [tmod_nat, Nat.mod_eq_of_lt hp, wrap_id (by omega), show (p : Int) + (w.length : Int) = ((p + w.length : Nat) : Int) by omega, tmod_nat, Nat.add_mod_right, Nat.mod_eq_of_lt hp]
    rw [hm, if_neg (by omega), if_pos (by omega), if_pos (by omega), Int.toNat_natCast]
    unfold slices_Concat_int_int.f
    rw [if_pos (by simp; omega)]
    simp
  exact ev_plain hr (Ev.now _)
theorem round_loop (w : List Int) (p n : Nat) (hp : p < w.length) (hn : n ≤ 1024) (hl : w.length ≤ 1024) (hx : ∀ x ∈ w, 0 ≤ x ∧ x ≤ 5) : ∀ d i : Nat, i + d = n → Ev (fun q => laws_FnWindowsGoRound.l0 q w (p : Int) (win w p n) (n : Int) (i : Int)) true := by
  intro d
  induction d with
  | zero =>
    intro i h
    refine Ev.step (fun k => by simp only [laws_FnWindowsGoRound.l0]; rfl) ?_
    refine ev_neg (by omega) (ev_if (fun _ => Ev.step (fun k => by simp only [laws_FnWindowsGoRound.j4]; rfl) (ev_pos (by trivial) (Ev.now _))) (fun hw => ?_))
    refine Ev.step (fun k => by simp only [laws_FnWindowsGoRound.j4]; rfl) ?_
    refine ev_neg (by simp; omega) ?_
    refine ev_call (rotate_ev w p hp (by omega) hx) ?_
    have hcw : cycleB w 6 = true := cycleB_iff.mpr ⟨by omega, by omega, hx⟩
    have hwa := impl_WindowAt_ev w (w.length : Int) (p : Int) (by omega) (by omega) (by omega)
    have hwin : WindowAtM w (w.length : Int) (p : Int) = (win w p w.length, true) := by
      unfold WindowAtM
      rw [if_pos ⟨hcw, by omega, by omega⟩, Int.toNat_natCast, Int.toNat_natCast]
    rw [hwin, win_round w p hp] at hwa
    refine ev_call hwa ?_
    dsimp only
    refine ev_pos (by trivial) (ev_pos (by trivial) ?_)
    exact ev_call (laws_tSame_ev _ _ (by simp; omega)) (ev_some (by simp))
  | succ d ih =>
    intro i h
    have hm := Nat.mod_lt (p + i) (show 0 < w.length by omega)
    refine Ev.step (fun k => by simp only [laws_FnWindowsGoRound.l0]; rfl) ?_
    rw [wrap_id (x := (p : Int) + (i : Int)) (by omega), show (p : Int) + (i : Int) = ((p + i : Nat) : Int) by omega, tmod_nat, wrap_succ (by omega), rd_nat, rd_nat, win_get w p n i (by omega)]
    refine ev_pos (by omega) (ev_pos (by omega) (ev_pos (by rw [win_length]; omega) (ev_neg (by omega) (ev_pos (by omega) (ev_pos (by omega) (ev_pos rfl ?_))))))
    exact ih (i + 1) (by omega)
theorem FnWindowsGoRound : laws_FnWindowsGoRound.Pure := by
  intro l0 l1 _ _ hb0 _ _ hb1
  refine Ev.rounds (r := true) ?_
  unfold laws_FnWindowsGoRound.f
  obtain ⟨b, hbig⟩ := laws_big_some l0 l1
  refine ev_plain hbig ?_
  refine ev_if (fun _ => Ev.now _) (fun hbig2 => ?_)
  obtain ⟨w, n, p, hdraw, hw, hn, hp⟩ := drawWindow_ok (bytes_wf hb0)
  refine ev_call hdraw ?_
  refine ev_call (impl_WindowAt_ev w n p (by omega) (by omega) (by omega)) ?_
  refine ev_call (spec_WindowAt_ev w n p (by omega) (by omega) (by omega)) ?_
  refine ev_neg (bne_no _) ?_
  have hml := WindowAtM_length w n p
  refine ev_call (laws_tSame_ev _ _ (by omega)) ?_
  refine Ev.step (fun k => by simp only [laws_FnWindowsGoRound.j0]; rfl) ?_
  refine ev_neg (by simp) ?_
  obtain ⟨v, g, hdraw2, hv, hg⟩ := drawPlaces_ok (bytes_wf hb1)
  refine ev_call hdraw2 ?_
  refine ev_call (impl_PlacesOf_ev v g (by omega) (by omega)) ?_
  refine ev_call (spec_PlacesOf_ev v g (by omega) (by omega)) ?_
  refine ev_neg (bne_no _) ?_
  have hpl := PlacesOfM_length v g
  refine ev_call (laws_tSame_ev _ _ (by omega)) ?_
  refine Ev.step (fun k => by simp only [laws_FnWindowsGoRound.j1]; rfl) ?_
  refine ev_neg (by simp) ?_
  refine ev_if (fun hfine => ?_) (fun _ => Ev.now _)
  have hc : cycleB w 6 = true ∧ (1 ≤ n ∧ n ≤ 1024) ∧ (0 ≤ p ∧ p ≤ (w.length : Int) - 1) := by
    unfold WindowAtM at hfine
    split at hfine
    · assumption
    · cases hfine
  obtain ⟨hcw, hn1, hp1⟩ := hc
  obtain ⟨n, rfl⟩ := Int.eq_ofNat_of_zero_le (show 0 ≤ n by omega)
  obtain ⟨p, rfl⟩ := Int.eq_ofNat_of_zero_le hp1.1
  have hwin : WindowAtM w (n : Int) (p : Int) = (win w p n, true) := by
    unfold WindowAtM
    rw [if_pos ⟨hcw, hn1, hp1⟩, Int.toNat_natCast, Int.toNat_natCast]
  rw [hwin]
  dsimp only
  have hcw2 := cycleB_iff.mp hcw
  have hcg : cycleB (win w p n) 6 = true := cycleB_iff.mpr ⟨by omega, by rw [win_length]; omega, fun x hx => hcw2.2.2 x (mem_win (by omega) hx)⟩
  have hpo := impl_PlacesOf_ev w (win w p n) (by omega) (by rw [win_length]; omega)
  have hpm : PlacesOfM w (win w p n) = (placesM w (win w p n), true) := by
    unfold PlacesOfM
    rw [if_pos ⟨hcw, hcg⟩]
  have hpl2 := PlacesOfM_length w (win w p n)
  rw [hpm] at hpo hpl2
  refine ev_call hpo ?_
  dsimp only at hpl2 ⊢
  refine ev_pos (by trivial) ?_
  refine ev_call (laws_tHas_ev _ (p : Int) (by omega)) ?_
  have hmem : (p : Int) ∈ placesM w (win w p n) := places_mem w (win w p n) p _ _ (by simp [List.mem_range'_1]; omega) (by rw [win_length])
  rw [decide_eq_true hmem]
  refine Ev.step (fun k => by simp only [laws_FnWindowsGoRound.j2]; rfl) ?_
  refine ev_neg (by simp) ?_
  rw [win_length]
  exact round_loop w p n (by omega) (by omega) (by omega) hcw2.2.2 n 0 (by omega)

end Go.Proofs.Ytbmgpafijkfdbaa.Pure
