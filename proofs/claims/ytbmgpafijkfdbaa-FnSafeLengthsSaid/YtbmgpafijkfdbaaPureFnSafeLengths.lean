/- The pure statement of SafeLengths: it holds of all draws; no condition. -/
import Derived.Test.YtbmgpafijkfdbaaPFnSafeLengthsx6
import Derived.Test.YtbmgpafijkfdbaaBase
import Derived.Test.YtbmgpafijkfdbaaLists
namespace Go.Proofs.Ytbmgpafijkfdbaa.Pure
open Go.RowKit Go.Proofs.Ytbmgpafijkfdbaa.PFnSafeLengths Go.Proofs.YtbmgpafijkfdbaaW.PrintWords Go.Proofs.YtbmgpafijkfdbaaW.PrintLast Go.Proofs.Ytbmgpafijkfdbaa.Base
set_option maxRecDepth 10000
set_option linter.unusedVariables false
set_option linter.unusedSimpArgs false

def bytesL (d : List Int) : Prop := ∀ x ∈ d, 0 ≤ x ∧ x ≤ 255
theorem and255 (x : Int) : 0 ≤ Go.bits .and .u64 x 255 ∧ Go.bits .and .u64 x 255 ≤ 255 := by
  have h : ((BitVec.ofInt 64 x) &&& (BitVec.ofInt 64 255)).toNat ≤ 255 := by
    rw [BitVec.toNat_and]; exact Nat.le_trans Nat.and_le_right (by decide)
  have e : Go.bits .and .u64 x 255 = IntKind.u64.wrap (((BitVec.ofInt 64 x) &&& (BitVec.ofInt 64 255)).toNat : Int) := rfl
  rw [e]
  generalize ((BitVec.ofInt 64 x) &&& (BitVec.ofInt 64 255)).toNat = m at h
  simp only [IntKind.wrap, IntKind.signed, IntKind.bits, Bool.false_and, Bool.false_eq_true, if_false]
  omega
theorem bytes_wf {d : List Int} (h : ∀ x ∈ d, (Lit.int .u8 x).wf = true) : bytesL d := by
  intro x hx
  have h := h x hx
  simp only [Lit.wf, IntKind.min, IntKind.max, IntKind.signed, IntKind.bits, Bool.and_eq_true, decide_eq_true_eq, Bool.false_eq_true, if_false] at h
  omega
theorem next_ok {d : List Int} (hd : bytesL d) {a : Int} (s : Int) (h0 : 0 ≤ a) (h1 : a ≤ 1000000000001000) : ∃ v s', spec_l1Cur_next.f d a s = some (v, a + 1, s') ∧ 0 ≤ v ∧ v ≤ 255 := by
  unfold spec_l1Cur_next.f
  rw [wrap_id (x := a + 1) (by omega)]
  by_cases ha : a < (d.length : Int)
  · rw [if_pos ha, if_pos h0, if_pos (by omega)]
    have hb : 0 ≤ rd d a ∧ rd d a ≤ 255 := by
      obtain ⟨j, rfl⟩ := Int.eq_ofNat_of_zero_le h0
      exact hd _ (by rw [show rd d ((j : Nat) : Int) = d[j]'(by omega) from rd_get d j (by omega)]; exact List.getElem_mem _)
    exact ⟨_, _, rfl, by rw [wrap_id (by omega)]; exact hb.1, by rw [wrap_id (by omega)]; exact hb.2⟩
  · rw [if_neg ha]
    by_cases hb : a + 1 ≤ (d.length : Int)
    · omega
    · rw [if_neg hb]
      have h := and255 ((IntKind.u64.wrap ((IntKind.u64.wrap ((IntKind.u64.wrap (s * 6364136223846793005)))) + 1442695040888963407)) / 1099511627776)
      exact ⟨_, _, rfl, by rw [wrap_id (by omega)]; exact h.1, by rw [wrap_id (by omega)]; exact h.2⟩
theorem tmod_lt {x n : Int} (h0 : 0 ≤ x) (hn : 1 ≤ n) : 0 ≤ Int.tmod x n ∧ Int.tmod x n < n := by
  obtain ⟨p, rfl⟩ := Int.eq_ofNat_of_zero_le h0
  obtain ⟨q, rfl⟩ := Int.eq_ofNat_of_zero_le (show 0 ≤ n by omega)
  rw [show ((p : Nat) : Int).tmod ((q : Nat) : Int) = ((p % q : Nat) : Int) from tmod_nat p q]
  have := Nat.mod_lt p (show 0 < q by omega)
  omega
theorem pick_ok {d : List Int} (hd : bytesL d) {a : Int} (s n : Int) (h0 : 0 ≤ a) (h1 : a ≤ 1000000000000000) : ∃ v a' s', spec_l1Cur_pick.f d a s n = some (v, a', s') ∧ (0 ≤ v ∧ (v < n ∨ (n ≤ 1 ∧ v = 0))) ∧ (a ≤ a' ∧ a' ≤ a + 2) := by
  unfold spec_l1Cur_pick.f
  by_cases hn : n ≤ 1
  · rw [if_pos hn]
    exact ⟨0, a, s, rfl, ⟨by omega, .inr ⟨hn, rfl⟩⟩, by omega⟩
  · rw [if_neg hn]
    obtain ⟨v, s1, e1, hv⟩ := next_ok hd s h0 (by omega)
    rw [e1, Option.bind_some]
    dsimp only
    by_cases h2 : n > 200
    · rw [if_pos h2]
      obtain ⟨u, s2, e2, hu⟩ := next_ok hd (a := a + 1) s1 (by omega) (by omega)
      rw [e2, Option.bind_some]
      dsimp only
      rw [if_neg (by omega), wrap_id (x := v * 256) (by omega), wrap_id (x := v * 256 + u) (by omega)]
      have := tmod_lt (x := v * 256 + u) (n := n) (by omega) (by omega)
      exact ⟨_, _, _, rfl, ⟨this.1, .inl this.2⟩, by omega⟩
    · rw [if_neg h2, if_neg (by omega)]
      have := tmod_lt (x := v) (n := n) (by omega) (by omega)
      exact ⟨_, _, _, rfl, ⟨this.1, .inl this.2⟩, by omega⟩

theorem one_ok {d : List Int} (hd : bytesL d) {a : Int} (s n : Int) (h0 : 0 ≤ a) (h1 : a ≤ 1000000000000000) : ∃ v a' s', spec_l1Cur_one.f d a s n = some (v, a', s') ∧ (a ≤ a' ∧ a' ≤ a + 2) := by
  obtain ⟨v, a', s', e, _, h⟩ := pick_ok hd s n h0 h1
  unfold spec_l1Cur_one.f
  rw [e]
  exact ⟨_, _, _, rfl, h⟩
theorem among_ok {d : List Int} (hd : bytesL d) {a : Int} (s : Int) (l : List Int) (hl : 1 ≤ l.length) (h0 : 0 ≤ a) (h1 : a ≤ 1000000000000000) : ∃ v a' s', spec_l1Cur_among.f d a s l = some (v, a', s') ∧ v ∈ l ∧ (a ≤ a' ∧ a' ≤ a + 2) := by
  obtain ⟨v, a', s', e, hv, h⟩ := pick_ok hd s (l.length : Int) h0 h1
  unfold spec_l1Cur_among.f
  rw [e, Option.bind_some]
  dsimp only
  rw [if_pos (by omega), if_pos (by omega)]
  refine ⟨_, _, _, rfl, ?_, h⟩
  obtain ⟨j, rfl⟩ := Int.eq_ofNat_of_zero_le hv.1
  rw [show rd l ((j : Nat) : Int) = l[j]'(by omega) from rd_get l j (by omega)]
  exact List.getElem_mem _
theorem cycle_loop {d : List Int} (hd : bytesL d) (n : Int) : ∀ (m : Nat) (xs : List Int) (a s : Int), m ≤ 20 → xs.length + m ≤ 20 → 1 ≤ xs.length + m → 0 ≤ a → a + 2 * (m : Int) ≤ 999999999999900 →
    ∃ r a' s', Ev (fun k => spec_l1Cur_cycle.l0 k n xs (m : Int) d a s) (r, a', s') ∧ r.length ≤ 1025 ∧ (a ≤ a' ∧ a' ≤ a + 2 * (m : Int) + 10) := by
  intro m
  induction m with
  | zero =>
    intro xs a s _ hl h1 h0 hb
    obtain ⟨v, a1, s1, e1, hv, ha1⟩ := pick_ok hd s 14 h0 (by omega)
    by_cases c1 : v = 0
    · obtain ⟨p, a2, s2, e2, hp, ha2⟩ := pick_ok hd (a := a1) s1 (xs.length : Int) (by omega) (by omega)
      obtain ⟨u, a3, s3, e3, hu, ha3⟩ := among_ok hd (a := a2) s2 [(-1), 0, 5, 6] (by simp) (by omega) (by omega)
      refine ⟨xs.set p.toNat u, a3, s3, ?_, by simp; omega, by omega⟩
      refine Ev.step (fun k => by simp only [spec_l1Cur_cycle.l0]; rfl) ?_
      refine ev_neg (by omega) ?_
      refine ev_plain e1 ?_
      try dsimp only
      refine ev_pos c1 ?_
      refine ev_plain e2 ?_
      try dsimp only
      refine ev_plain e3 ?_
      try dsimp only
      refine ev_pos (by omega) ?_
      refine ev_pos (by omega) ?_
      exact Ev.now _
    · by_cases c2 : v = 1
      · refine ⟨[], a1, s1, ?_, by simp, by omega⟩
        refine Ev.step (fun k => by simp only [spec_l1Cur_cycle.l0]; rfl) ?_
        refine ev_neg (by omega) ?_
        refine ev_plain e1 ?_
        try dsimp only
        refine ev_neg c1 ?_
        refine ev_pos c2 ?_
        exact Ev.now _
      · by_cases c3 : v = 2
        · obtain ⟨u, a3, s3, e3, hu, ha3⟩ := among_ok hd (a := a1) s1 [64, 65, 1024, 1025] (by simp) (by omega) (by omega)
          obtain ⟨b, a4, s4, e4, ha4⟩ := one_ok hd (a := a3) s3 2 (by omega) (by omega)
          have hu2 : 64 ≤ u ∧ u ≤ 1025 := by simp at hu; omega
          have hlen : (List.replicate u.toNat (0 : Int)).length = u.toNat := by simp
          by_cases c4 : b = true
          · refine ⟨(List.replicate u.toNat (0 : Int)).set 0 1, a4, s4, ?_, by rw [List.length_set, hlen]; omega, by omega⟩
            skip
            refine Ev.step (fun k => by simp only [spec_l1Cur_cycle.l0]; rfl) ?_
            refine ev_neg (by omega) ?_
            refine ev_plain e1 ?_
            try dsimp only
            refine ev_neg c1 ?_
            refine ev_neg c2 ?_
            refine ev_pos c3 ?_
            refine ev_plain e3 ?_
            try dsimp only
            refine ev_pos (by omega) ?_
            refine ev_pos (by omega) ?_
            refine ev_plain rfl ?_
            try dsimp only
            refine ev_plain e4 ?_
            try dsimp only
            refine ev_pos c4 ?_
            refine ev_pos (by rw [hlen]; omega) ?_
            exact Ev.now _
          · refine ⟨List.replicate u.toNat (0 : Int), a4, s4, ?_, by rw [hlen]; omega, by omega⟩
            skip
            refine Ev.step (fun k => by simp only [spec_l1Cur_cycle.l0]; rfl) ?_
            refine ev_neg (by omega) ?_
            refine ev_plain e1 ?_
            try dsimp only
            refine ev_neg c1 ?_
            refine ev_neg c2 ?_
            refine ev_pos c3 ?_
            refine ev_plain e3 ?_
            try dsimp only
            refine ev_pos (by omega) ?_
            refine ev_pos (by omega) ?_
            refine ev_plain rfl ?_
            try dsimp only
            refine ev_plain e4 ?_
            try dsimp only
            refine ev_neg c4 ?_
            exact Ev.now _
        · refine ⟨xs, a1, s1, ?_, by omega, by omega⟩
          skip
          refine Ev.step (fun k => by simp only [spec_l1Cur_cycle.l0]; rfl) ?_
          refine ev_neg (by omega) ?_
          refine ev_plain e1 ?_
          try dsimp only
          refine ev_neg c1 ?_
          refine ev_neg c2 ?_
          refine ev_neg c3 ?_
          exact Ev.now _
  | succ m ih =>
    intro xs a s hm hl h1 h0 hb
    obtain ⟨v, a1, s1, e1, hv, ha1⟩ := pick_ok hd s n h0 (by omega)
    obtain ⟨r, a', s', e, hr, ha⟩ := ih (xs ++ [v]) a1 s1 (by omega) (by simp; omega) (by simp; omega) (by omega) (by omega)
    refine ⟨r, a', s', ?_, hr, by omega⟩
    refine Ev.step (fun k => by simp only [spec_l1Cur_cycle.l0]; rfl) ?_
    refine ev_pos (by omega) ?_
    refine ev_plain e1 ?_
    dsimp only
    refine ev_pos (by omega) ?_
    rw [wrap_pred (by omega)]
    exact e
theorem cycle_ok {d : List Int} (hd : bytesL d) {a : Int} (s n : Int) (h0 : 0 ≤ a) (h1 : a ≤ 999999999999000) : ∃ r a' s', Ev (fun k => spec_l1Cur_cycle.f k d a s n) (r, a', s') ∧ r.length ≤ 1025 ∧ (a ≤ a' ∧ a' ≤ a + 100) := by
  obtain ⟨v, a1, s1, e1, hv, ha1⟩ := pick_ok hd s 12 h0 (by omega)
  obtain ⟨m, hm⟩ : ∃ m : Nat, 1 + v = (m : Int) := ⟨(1 + v).toNat, by omega⟩
  obtain ⟨r, a', s', e, hr, ha⟩ := cycle_loop hd n m [] a1 s1 (by omega) (by simp; omega) (by simp; omega) (by omega) (by omega)
  unfold spec_l1Cur_cycle.f
  refine ⟨r, a', s', ev_plain e1 ?_, hr, by omega⟩
  dsimp only
  rw [wrap_id (x := 1 + v) (by omega), hm]
  exact e

theorem stages_ok {d : List Int} (hd : bytesL d) {a : Int} (s : Int) (h0 : 0 ≤ a) (h1 : a ≤ 999999999999000) : ∃ n k a' s', spec_l1Cur_stages.f d a s = some (n, k, a', s') ∧ (-1 ≤ n ∧ n ≤ 11) ∧ (-1 ≤ k ∧ k ≤ 7) ∧ (a ≤ a' ∧ a' ≤ a + 20) := by
  obtain ⟨v1, a1, s1, e1, hv1, ha1⟩ := pick_ok hd s 4 h0 (by omega)
  obtain ⟨v2, a2, s2, e2, hv2, ha2⟩ := pick_ok hd (a := a1) s1 2 (by omega) (by omega)
  obtain ⟨v3, a3, s3, e3, hv3, ha3⟩ := pick_ok hd (a := a2) s2 12 (by omega) (by omega)
  unfold spec_l1Cur_stages.f
  rw [e1, Option.bind_some]
  dsimp only
  rw [e2, Option.bind_some]
  dsimp only
  rw [e3, Option.bind_some]
  dsimp only
  by_cases c1 : v3 = 0
  · rw [if_pos c1]
    obtain ⟨u, a4, s4, e4, hu, ha4⟩ := among_ok hd (a := a3) s3 [(-1), 0, 1, 5, 10, 11] (by simp) (by omega) (by omega)
    rw [e4, Option.bind_some]
    dsimp only
    have : -1 ≤ u ∧ u ≤ 11 := by simp at hu; omega
    exact ⟨_, _, _, _, rfl, this, by omega, by omega⟩
  · rw [if_neg c1]
    by_cases c2 : v3 = 1
    · rw [if_pos c2]
      obtain ⟨u, a4, s4, e4, hu, ha4⟩ := among_ok hd (a := a3) s3 [(-1), 0, 1, 4, 6, 7] (by simp) (by omega) (by omega)
      obtain ⟨v5, a5, s5, e5, hv5, ha5⟩ := pick_ok hd (a := a4) s4 3 (by omega) (by omega)
      rw [e4, Option.bind_some]
      dsimp only
      rw [e5, Option.bind_some]
      dsimp only
      rw [wrap_id (x := 1 + v5) (by omega)]
      have : -1 ≤ u ∧ u ≤ 7 := by simp at hu; omega
      exact ⟨_, _, _, _, rfl, by omega, this, by omega⟩
    · rw [if_neg c2, wrap_id (x := 1 + v1) (by omega), wrap_id (x := 2 + v2) (by omega)]
      exact ⟨_, _, _, _, rfl, by omega, by omega, by omega⟩

def kindB (n k : Int) : Bool := inB n 1 10 && (inB k 2 6 && decide (k.toNat ^ n.toNat ≤ 1024))
theorem kindB_iff {n k : Int} : kindB n k = true ↔ (1 ≤ n ∧ n ≤ 10) ∧ (2 ≤ k ∧ k ≤ 6) ∧ k.toNat ^ n.toNat ≤ 1024 := by simp [kindB, inB_iff]
theorem kindB_nat {n k : Int} (h : kindB n k = true) : ∃ n' k' : Nat, n = n' ∧ k = k' ∧ 1 ≤ n' ∧ n' ≤ 10 ∧ 2 ≤ k' ∧ k' ≤ 6 ∧ k' ^ n' ≤ 1024 := by
  obtain ⟨h1, h2, h3⟩ := kindB_iff.mp h
  exact ⟨n.toNat, k.toNat, by omega, by omega, by omega, by omega, by omega, by omega, h3⟩

theorem least_all : ((List.range 11).all fun n => (List.range 7).all fun k => !(decide (1 ≤ n) && decide (2 ≤ k) && decide (k ^ n ≤ 1024)) || (match spec_LeastBruijn.f 2000 (n : Int) (k : Int) with | some (r, b) => b && (decide (1 ≤ r.length) && decide (r.length ≤ 1024)) | none => false)) = true := by kernel_rfl

/-- How often the nodes may still be left. -/
def slack (k : Nat) (left : List Int) : Nat := (left.map fun x => ((k : Int) - x).toNat).sum
theorem slack_set (k : Nat) : ∀ (left : List Int) (i : Nat), i < left.length → left.getD i 0 < (k : Int) → slack k (left.set i (left.getD i 0 + 1)) + 1 = slack k left := by
  intro left
  induction left with
  | nil => intro i h; simp at h
  | cons x left ih =>
    intro i h h2
    cases i with
    | zero => simp [slack] at h2 ⊢; omega
    | succ i =>
      have := ih i (by simpa using h) (by simpa using h2)
      simp [slack] at this ⊢
      omega
theorem slack_zeros (k n : Nat) : slack k (List.replicate n 0) = n * k := by
  simp [slack, List.map_replicate, List.sum_replicate_nat]

theorem spec_l1In_eq (a lo hi : Int) : spec_l1In.f a lo hi = some (inB a lo hi) := by
  unfold spec_l1In.f inB
  by_cases h : a ≥ lo
  · rw [if_pos h]; simp [h]
  · rw [if_neg h]; simp [show ¬ lo ≤ a from h]

theorem spec_lyPower_loop (a : Nat) (ha : a ≤ 6) : ∀ (e j : Nat), e + j ≤ 12 → Ev (fun k => spec_lyPower.l0 k (a : Int) (e : Int) ((a ^ j : Nat) : Int)) ((a ^ (j + e) : Nat) : Int) := by
  intro e
  induction e with
  | zero =>
    intro j h
    exact Ev.step (fun k => by simp only [spec_lyPower.l0]; rfl) (ev_neg (by omega) (Ev.now _))
  | succ e ih =>
    intro j h
    have h1 : a ^ (j + 1) ≤ 2176782336 := Nat.le_trans (Nat.pow_le_pow_left ha (j + 1)) (Nat.le_trans (Nat.pow_le_pow_right (by omega) (show j + 1 ≤ 12 by omega)) (by decide))
    refine Ev.step (fun k => by simp only [spec_lyPower.l0]; rfl) ?_
    refine ev_pos (by omega) ?_
    rw [wrap_pred (by omega), show ((a ^ j : Nat) : Int) * (a : Int) = ((a ^ (j + 1) : Nat) : Int) by rw [Nat.pow_succ]; simp, wrap_id (by omega)]
    exact ev_to (ih (j + 1) (by omega)) (by rw [show j + 1 + e = j + (e + 1) by omega])
theorem spec_lyPower_ev (a n : Nat) (ha : a ≤ 6) (hn : n ≤ 12) : Ev (fun k => spec_lyPower.f k (a : Int) (n : Int)) ((a ^ n : Nat) : Int) :=
  ev_to (spec_lyPower_loop a ha n 0 (by omega)) (by simp)

theorem spec_brKind_ev (n k : Int) : Ev (fun q => spec_brKind.f q n k) (kindB n k) := by
  unfold spec_brKind.f kindB
  refine ev_plain (spec_l1In_eq _ _ _) (ev_if (fun h1 => ?_) (fun h1 => ev_some (by simp [Bool.eq_false_iff.mpr h1])))
  refine ev_plain (spec_l1In_eq _ _ _) (ev_if (fun h2 => ?_) (fun h2 => ev_some (by simp [Bool.eq_false_iff.mpr h2])))
  have e1 := inB_iff.mp h1
  have e2 := inB_iff.mp h2
  obtain ⟨n, rfl⟩ := Int.eq_ofNat_of_zero_le (show 0 ≤ n by omega)
  obtain ⟨k, rfl⟩ := Int.eq_ofNat_of_zero_le (show 0 ≤ k by omega)
  refine ev_call (spec_lyPower_ev k n (by omega) (by omega)) (ev_some ?_)
  rw [h1, h2]
  simp only [Bool.true_and, Int.toNat_natCast]
  exact decide_eq_decide.mpr (by omega)

theorem espec_walk (kk nodes : Nat) (hk : 1 ≤ kk) (hk6 : kk ≤ 6) (hn : 1 ≤ nodes) (hn2 : nodes ≤ 1024) : ∀ (m : Nat) (left : List Int) (way : List (Int × Int)) (node : Nat) (out : List Int),
    left.length = nodes → (∀ x ∈ left, 0 ≤ x ∧ x ≤ (kk : Int)) → node < nodes → (∀ s ∈ way, ∃ f : Nat, s.1 = (f : Int) ∧ f < nodes) → way.length + out.length + slack kk left ≤ 10000 → 2 * slack kk left + way.length = m →
    ∃ r : List Int, (r.length ≤ 10000 ∧ way.length + out.length ≤ r.length ∧ (left.getD node 0 < (kk : Int) → way.length + out.length + 1 ≤ r.length)) ∧
      Ev (fun k => spec_EulerBruijn.l0 k (kk : Int) (nodes : Int) left (way.map (·.1) ++ [(node : Int)]) (way.map (·.2)) out) (r, true) := by
  intro m
  induction m using nat_strong with
  | h m ih =>
  intro left way node out h1 h2 h3 h4 h5 h6
  have hx : 0 ≤ left.getD node 0 ∧ left.getD node 0 ≤ (kk : Int) := by
    have : left.getD node 0 ∈ left := by
      rw [List.getD_eq_getElem?_getD, List.getElem?_eq_getElem (by omega)]; exact List.getElem_mem _
    exact h2 _ this
  have e1 : rd (way.map (·.1) ++ [(node : Int)]) ((way.length : Nat) : Int) = (node : Int) := by
    rw [rd_nat, List.getD_eq_getElem?_getD, List.getElem?_append_right (by simp)]; simp
  have e2 : wrap64 (((way.map (·.1) ++ [(node : Int)]).length : Int) - 1) = (way.length : Int) := by
    rw [wrap_id (by simp <;> omega)]; simp
  by_cases hlt : left.getD node 0 < (kk : Int)
  · obtain ⟨x, hxx⟩ := Int.eq_ofNat_of_zero_le hx.1
    have hs := slack_set kk left node (by omega) hlt
    have hmul : node * kk ≤ 1024 * 6 := Nat.mul_le_mul (by omega) hk6
    have hmod : Int.tmod (wrap64 (wrap64 ((node : Int) * (kk : Int)) + left.getD node 0)) (nodes : Int) = (((node * kk + x) % nodes : Nat) : Int) := by
      rw [hxx, show (node : Int) * (kk : Int) = ((node * kk : Nat) : Int) by simp, wrap_id (x := ((node * kk : Nat) : Int)) (by omega), show ((node * kk : Nat) : Int) + (x : Int) = ((node * kk + x : Nat) : Int) by omega, wrap_id (by omega), tmod_nat]
    obtain ⟨r, r1, r3⟩ := ih (m - 1) (by omega) (left.set node (left.getD node 0 + 1)) (way ++ [((node : Int), left.getD node 0)]) ((node * kk + x) % nodes) out (by simpa using h1)
      (by intro y hy; rcases List.mem_or_eq_of_mem_set hy with hy | rfl
          · exact h2 y hy
          · omega) (Nat.mod_lt _ hn) (by intro s hs; rcases List.mem_append.mp hs with hs | hs
                                         · exact h4 s hs
                                         · simp at hs; subst hs; exact ⟨node, rfl, h3⟩) (by simp only [List.length_append, List.length_cons, List.length_nil]; omega) (by simp only [List.length_append, List.length_cons, List.length_nil]; omega)
    simp only [List.length_append, List.length_cons, List.length_nil] at r1
    refine ⟨r, ⟨by omega, by omega, fun _ => by omega⟩, ?_⟩
    refine Ev.step (fun k => by simp only [spec_EulerBruijn.l0]; rfl) ?_
    rw [e2, e1, rd_nat, Int.toNat_natCast, hmod, wrap_id (x := left.getD node 0 + 1) (by omega)]
    refine ev_pos (by simp <;> omega) (ev_pos (by omega) (ev_pos (by simp <;> omega) (ev_pos (by omega) (ev_pos (by omega) (ev_pos hlt (ev_neg (by omega) (ev_pos (by simp <;> omega) (ev_pos (by simp <;> omega) ?_))))))))
    simpa using r3
  · rcases List.eq_nil_or_concat way with rfl | ⟨way0, s, rfl⟩
    · refine ⟨out, ⟨by simp at h5; omega, by simp, fun h => absurd h hlt⟩, ?_⟩
      refine Ev.step (fun k => by simp only [spec_EulerBruijn.l0]; rfl) ?_
      rw [e2, e1, rd_nat]
      refine ev_pos (by simp) (ev_pos (by omega) (ev_pos (by simp) (ev_pos (by omega) (ev_pos (by omega) (ev_neg hlt (ev_pos (by simp) ?_))))))
      refine ev_plain rfl ?_
      refine ev_neg (by simp) ?_
      refine Ev.step (fun k => by simp only [spec_EulerBruijn.l0]; rfl) ?_
      exact ev_neg (by simp) (Ev.now _)
    · obtain ⟨f, hf, hf2⟩ := h4 s (by simp)
      rw [List.concat_eq_append] at *
      simp at h5 h6
      obtain ⟨r, r1, r3⟩ := ih (m - 1) (by omega) left way0 f (s.2 :: out) h1 h2 hf2 (fun s' hs' => h4 s' (by simp [hs'])) (by simp <;> omega) (by omega)
      rw [← hf] at r3
      simp only [List.length_cons] at r1
      refine ⟨r, ⟨by omega, by simp; omega, fun h => absurd h hlt⟩, ?_⟩
      refine Ev.step (fun k => by simp only [spec_EulerBruijn.l0]; rfl) ?_
      have w3 : wrap64 ((((way0 ++ [s]).map (·.2)).length : Int) - 1) = (way0.length : Int) := by rw [wrap_id (by simp <;> omega)]; simp
      have w4 : rd ((way0 ++ [s]).map (·.2)) (way0.length : Int) = s.2 := by rw [rd_nat]; simp [List.getD_eq_getElem?_getD]
      rw [e2, e1, rd_nat]
      refine ev_pos (by simp <;> omega) (ev_pos (by omega) (ev_pos (by simp <;> omega) (ev_pos (by omega) (ev_pos (by omega) (ev_neg hlt (ev_pos (by simp <;> omega) ?_))))))
      refine ev_plain rfl ?_
      rw [w3, w4]
      refine ev_pos (by simp <;> omega) (ev_pos (by omega) (ev_pos (by simp <;> omega) ?_))
      refine ev_plain rfl ?_
      refine ev_pos (by simp <;> omega) (ev_pos (by simp <;> omega) ?_)
      have t1 : ((way0 ++ [s]).map (·.1) ++ [(node : Int)]).take ((((way0 ++ [s]).length : Nat) : Int)).toNat = way0.map (·.1) ++ [s.1] := by
        rw [Int.toNat_natCast, List.take_append_of_le_length (by simp), List.take_of_length_le (by simp)]; simp
      have t2 : ((way0 ++ [s]).map (·.2)).take ((way0.length : Nat) : Int).toNat = way0.map (·.2) := by simp
      rw [t1, t2]
      simpa using r3
theorem spec_Euler_ok (n k : Nat) (h : kindB (n : Int) (k : Int) = true) : ∃ r, 1 ≤ r.length ∧ r.length ≤ 10000 ∧ Ev (fun q => spec_EulerBruijn.f q (n : Int) (k : Int)) (r, true) := by
  obtain ⟨n', k', e1, e2, n1, n2, k1, k2, hp⟩ := kindB_nat h
  obtain rfl : n = n' := by omega
  obtain rfl : k = k' := by omega
  have hp2 : k ^ (n - 1) ≤ 1024 := Nat.le_trans (Nat.pow_le_pow_right (by omega) (by omega)) hp
  have hp3 : 1 ≤ k ^ (n - 1) := Nat.one_le_pow _ _ (by omega)
  have hs : k ^ (n - 1) * k ≤ 1024 := by rw [← Nat.pow_succ, show (n - 1).succ = n by omega]; exact hp
  obtain ⟨r, r1, r3⟩ := espec_walk k (k ^ (n - 1)) (by omega) k2 hp3 hp2 _ (List.replicate (k ^ (n - 1)) 0) [] 0 [] (by simp) (by intro x hx; simp at hx; omega) (by omega) (by intro s hs; cases hs) (by rw [slack_zeros]; simp; omega) rfl
  refine ⟨r, r1.2.2 ?_, r1.1, ?_⟩
  · rw [List.getD_eq_getElem?_getD, List.getElem?_replicate]
    split <;> simp <;> omega
  · unfold spec_EulerBruijn.f
    refine ev_call (spec_brKind_ev _ _) (ev_pos h ?_)
    rw [wrap_id (by omega), show ((n : Int) - 1) = ((n - 1 : Nat) : Int) by omega]
    refine ev_call (spec_lyPower_ev k (n - 1) (by omega) (by omega)) (ev_pos (by omega) (ev_pos (by omega) ?_))
    rw [Int.toNat_natCast]
    exact r3

theorem spec_brWindow_loop (w : List Int) (n p : Nat) (hw : 0 < w.length) (hwl : w.length ≤ 1000000000000) (hn : n ≤ 1000000000000) (hp : p ≤ 1000000000000) : ∀ (d i : Nat) (acc : List Int), i + d = n → acc.length = i →
    Ev (fun k => spec_brWindow.l0 k w (n : Int) (p : Int) acc (i : Int)) (acc ++ (List.range' i d).map fun j => w.getD ((p + j) % w.length) 0) := by
  intro d
  induction d with
  | zero =>
    intro i acc h ha
    refine Ev.step (f := fun _ => some acc) (fun k => ?_) (ev_some (by simp))
    simp only [spec_brWindow.l0]; rw [if_neg (by omega)]
  | succ d ih =>
    intro i acc h ha
    refine Ev.step (f := fun k => spec_brWindow.l0 k w (n : Int) (p : Int) (acc ++ [w.getD ((p + i) % w.length) 0]) ((i + 1 : Nat) : Int)) (fun k => ?_) (ev_to (ih (i + 1) _ (by omega) (by simp [ha])) ?_)
    · simp only [spec_brWindow.l0]
      rw [if_pos (by omega), if_neg (by omega), wrap_id (x := (p : Int) + (i : Int)) (by omega), show (p : Int) + (i : Int) = ((p + i : Nat) : Int) by omega, tmod_nat, wrap_succ (by omega)]
      have hm := Nat.mod_lt (p + i) hw
      rw [if_pos (by omega), if_pos (by omega), if_pos (by omega), rd_nat]
    · simp [List.range'_succ]
theorem spec_brWindow_ev (w : List Int) (n p : Nat) (hw : 0 < w.length) (hwl : w.length ≤ 1000000000000) (hn : n ≤ 1000000000000) (hp : p ≤ 1000000000000) : Ev (fun k => spec_brWindow.f k w (n : Int) (p : Int)) (win w p n) :=
  ev_to (spec_brWindow_loop w n p hw hwl hn hp n 0 [] (by omega) rfl) (by simp [win])

theorem least_ok (n k : Nat) (h : kindB (n : Int) (k : Int) = true) : ∃ r, 1 ≤ r.length ∧ r.length ≤ 1024 ∧ Ev (fun q => spec_LeastBruijn.f q (n : Int) (k : Int)) (r, true) := by
  obtain ⟨n', k', e1, e2, n1, n2, k1, k2, hp⟩ := kindB_nat h
  obtain rfl : n = n' := by omega
  obtain rfl : k = k' := by omega
  have h := List.all_eq_true.mp (List.all_eq_true.mp least_all n (List.mem_range.mpr (by omega))) k (List.mem_range.mpr (by omega))
  rw [decide_eq_true n1, decide_eq_true k1, decide_eq_true hp] at h
  cases hg : spec_LeastBruijn.f 2000 (n : Int) (k : Int) with
  | none => rw [hg] at h; simp at h
  | some p =>
    obtain ⟨r, b⟩ := p
    rw [hg] at h
    simp at h
    obtain ⟨rfl, h1, h2⟩ := h
    exact ⟨r, h1, h2, Ev.of (fun k => spec_LeastBruijn.mono _ _ k) (k := 2000) hg⟩
theorem bruijn_ok {d : List Int} (hd : bytesL d) {a : Int} (s : Int) (h0 : 0 ≤ a) (h1 : a ≤ 999999999990000) : ∃ w n k a' s', Ev (fun q => spec_l1Cur_bruijn.f q d a s) (w, n, k, a', s') ∧ w.length ≤ 10000 ∧ (-1 ≤ n ∧ n ≤ 11) ∧ (-1 ≤ k ∧ k ≤ 7) ∧ (a ≤ a' ∧ a' ≤ a + 200) := by
  obtain ⟨n, k, a1, s1, e1, hn, hk, ha1⟩ := stages_ok hd s h0 (by omega)
  unfold spec_l1Cur_bruijn.f
  by_cases hkind : kindB n k = true
  · obtain ⟨n, k, rfl, rfl, _⟩ := kindB_nat hkind
    obtain ⟨l, hl1, hl2, hl⟩ := least_ok n k hkind
    obtain ⟨u, hu1, hu2, hu⟩ := spec_Euler_ok n k hkind
    obtain ⟨b, a2, s2, e2, ha2⟩ := one_ok hd (a := a1) s1 2 (by omega) (by omega)
    have tail : ∀ l : List Int, 1 ≤ l.length → l.length ≤ 10000 → ∃ w a' s', Ev (fun q => spec_l1Cur_bruijn.j0 q (n : Int) (k : Int) l d a2 s2) (w, (n : Int), (k : Int), a', s') ∧ w.length ≤ 10000 ∧ (a2 ≤ a' ∧ a' ≤ a2 + 50) := by
      intro l hl1 hl2
      obtain ⟨p, a3, s3, e3, hp, ha3⟩ := pick_ok hd (a := a2) s2 (l.length : Int) (by omega) (by omega)
      obtain ⟨p, rfl⟩ := Int.eq_ofNat_of_zero_le hp.1
      obtain ⟨c, a4, s4, e4, ha4⟩ := one_ok hd (a := a3) s3 6 (by omega) (by omega)
      have hw := spec_brWindow_ev l l.length p (by omega) (by omega) (by omega) (by omega)
      have hwl := win_length l p l.length
      by_cases c1 : c = true
      · obtain ⟨i, a5, s5, e5, hi, ha5⟩ := pick_ok hd (a := a4) s4 ((win l p l.length).length : Int) (by omega) (by omega)
        obtain ⟨v, a6, s6, e6, hv, ha6⟩ := pick_ok hd (a := a5) s5 (k : Int) (by omega) (by omega)
        refine ⟨(win l p l.length).set i.toNat v, a6, s6, ?_, by rw [List.length_set, hwl]; omega, by omega⟩
        refine Ev.step (fun k => by simp only [spec_l1Cur_bruijn.j0]; rfl) ?_
        refine ev_plain e3 ?_
        dsimp only
        refine ev_call hw ?_
        refine ev_plain e4 ?_
        dsimp only
        refine ev_pos c1 ?_
        refine ev_plain e5 ?_
        dsimp only
        refine ev_plain e6 ?_
        dsimp only
        exact ev_pos (by omega) (ev_pos (by omega) (Ev.now _))
      · refine ⟨win l p l.length, a4, s4, ?_, by rw [hwl]; omega, by omega⟩
        refine Ev.step (fun k => by simp only [spec_l1Cur_bruijn.j0]; rfl) ?_
        refine ev_plain e3 ?_
        dsimp only
        refine ev_call hw ?_
        refine ev_plain e4 ?_
        dsimp only
        exact ev_neg c1 (Ev.now _)
    by_cases c1 : b = true
    · obtain ⟨w, a', s', h, hw, ha⟩ := tail u hu1 hu2
      refine ⟨w, n, k, a', s', ?_, hw, hn, hk, by omega⟩
      refine ev_plain e1 ?_
      dsimp only
      refine ev_call (spec_brKind_ev _ _) (ev_pos hkind ?_)
      refine ev_call hl ?_
      refine ev_plain e2 ?_
      dsimp only
      refine ev_pos c1 ?_
      refine ev_call hu ?_
      exact h
    · obtain ⟨w, a', s', h, hw, ha⟩ := tail l hl1 (by omega)
      refine ⟨w, n, k, a', s', ?_, hw, hn, hk, by omega⟩
      refine ev_plain e1 ?_
      dsimp only
      refine ev_call (spec_brKind_ev _ _) (ev_pos hkind ?_)
      refine ev_call hl ?_
      refine ev_plain e2 ?_
      dsimp only
      refine ev_neg c1 ?_
      exact h
  · obtain ⟨r, a2, s2, e2, hr, ha2⟩ := cycle_ok hd (a := a1) s1 2 (by omega) (by omega)
    refine ⟨r, n, k, a2, s2, ?_, by omega, hn, hk, by omega⟩
    refine ev_plain e1 ?_
    dsimp only
    refine ev_call (spec_brKind_ev _ _) (ev_neg hkind ?_)
    refine ev_call e2 ?_
    exact Ev.now _

theorem tape_ok {d : List Int} (hd : bytesL d) {a : Int} (s : Int) (h0 : 0 ≤ a) (h1 : a ≤ 999999999900000) : ∃ w a' s', Ev (fun q => spec_l1Cur_tape.f q d a s) (w, a', s') ∧ w.length ≤ 1025 ∧ (a ≤ a' ∧ a' ≤ a + 400) := by
  obtain ⟨b, a1, s1, e1, ha1⟩ := one_ok hd s 2 h0 (by omega)
  unfold spec_l1Cur_tape.f
  by_cases c1 : b = true
  · obtain ⟨w, n, k, a2, s2, e2, hw, _, _, ha2⟩ := bruijn_ok hd (a := a1) s1 (by omega) (by omega)
    by_cases c2 : (w.length : Int) ≤ 32
    · refine ⟨w, a2, s2, ?_, by omega, by omega⟩
      refine ev_plain e1 ?_
      dsimp only
      refine ev_pos c1 (ev_call e2 ?_)
      exact ev_pos c2 (Ev.now _)
    · obtain ⟨r, a3, s3, e3, hr, ha3⟩ := cycle_ok hd (a := a2) s2 4 (by omega) (by omega)
      refine ⟨r, a3, s3, ?_, by omega, by omega⟩
      refine ev_plain e1 ?_
      dsimp only
      refine ev_pos c1 (ev_call e2 ?_)
      exact ev_neg c2 (ev_call e3 (Ev.now _))
  · obtain ⟨r, a3, s3, e3, hr, ha3⟩ := cycle_ok hd (a := a1) s1 4 (by omega) (by omega)
    refine ⟨r, a3, s3, ?_, by omega, by omega⟩
    refine ev_plain e1 ?_
    dsimp only
    exact ev_neg c1 (ev_call e3 (Ev.now _))

def tapeB (w : List Int) (least : Int) : Bool := cycleB w 6 && inB (w.length : Int) least 64
def SpreadOfM (w : List Int) (n : Int) : Int × Bool := if tapeB w 2 = true ∧ (1 ≤ n ∧ n ≤ 64) then ((spreadM w n.toNat : Nat), true) else (0, false)
def SafeLengthM (w : List Int) : Int × Bool := if tapeB w 2 = true then ((List.range' 0 64).findSome? fun i => if 3 ≤ spreadM w (i + 1) then some (((i + 1 : Nat) : Int), true) else none).getD (0, false) else (0, false)

theorem impl_within_eq (a lo hi : Int) : impl_within.f a lo hi = some (inB a lo hi) := by
  unfold impl_within.f inB
  by_cases h : a ≥ lo
  · rw [if_pos h]; simp [h]
  · rw [if_neg h]; simp [show ¬ lo ≤ a from h]

theorem impl_allWithin_loop (lo hi : Int) (xs : List Int) (hx : xs.length ≤ 1000000000000) : ∀ (d i : Nat), i + d = xs.length →
    Ev (fun k => impl_allWithin.l0 k lo hi xs (xs.length : Int) (i : Int)) (allB (xs.drop i) lo hi) := by
  intro d
  induction d with
  | zero =>
    intro i h
    rw [List.drop_eq_nil_of_le (by omega)]
    refine Ev.step (f := fun _ => some true) (fun k => ?_) (Ev.now _)
    simp only [impl_allWithin.l0]; rw [if_neg (by omega)]
  | succ d ih =>
    intro i h
    have hlt : i < xs.length := by omega
    rw [drop_rd xs i hlt]
    refine Ev.step (f := fun k => if inB (rd xs (i : Int)) lo hi = true then impl_allWithin.l0 k lo hi xs (xs.length : Int) ((i + 1 : Nat) : Int) else some false) (fun k => ?_) ?_
    · simp only [impl_allWithin.l0]; rw [if_pos (by omega), if_pos (by omega), if_pos (by omega), impl_within_eq, wrap_succ (by omega)]; rfl
    · by_cases hb : inB (rd xs (i : Int)) lo hi = true
      · exact ev_pos hb (ev_to (ih (i + 1) (by omega)) (by simp [allB, hb]))
      · exact ev_neg hb (ev_some (by simp [allB, Bool.eq_false_iff.mpr hb]))
theorem impl_allWithin_ev (lo hi : Int) (xs : List Int) (hx : xs.length ≤ 1000000000000) : Ev (fun k => impl_allWithin.f k xs lo hi) (allB xs lo hi) :=
  impl_allWithin_loop lo hi xs hx xs.length 0 (by omega)

theorem impl_IsCycle_ev (xs : List Int) (k : Int) (hx : xs.length ≤ 1000000000000) (hk : -9223372036854775808 ≤ k) (hk2 : k ≤ 9223372036854775807) : Ev (fun n => impl_IsCycle.f n xs k) (cycleB xs k) := by
  unfold impl_IsCycle.f cycleB
  refine ev_plain (impl_within_eq _ _ _) ?_
  refine ev_if (fun h => ?_) (fun h => ev_some (by simp [Bool.eq_false_iff.mpr h]))
  refine ev_plain (impl_within_eq _ _ _) ?_
  refine ev_if (fun h2 => ?_) (fun h2 => ev_some (by simp [Bool.eq_false_iff.mpr h2]))
  have h' := inB_iff.mp h
  rw [wrap_id (by omega)]
  exact ev_call (impl_allWithin_ev _ _ _ hx) (ev_some (by simp [h, h2]))

theorem impl_isCycle_ev (xs : List Int) (hx : xs.length ≤ 1000000000000) : Ev (fun n => impl_isCycle.f n xs) (cycleB xs 6) := by
  unfold impl_isCycle.f
  exact ev_call (impl_IsCycle_ev _ _ hx (by omega) (by omega)) (ev_some rfl)

theorem impl_isTape_ev (w : List Int) (least : Int) (hw : w.length ≤ 1048576) : Ev (fun k => impl_isTape.f k w least) (tapeB w least) := by
  unfold impl_isTape.f tapeB
  refine ev_call (impl_isCycle_ev _ (by omega)) (ev_if (fun h1 => ev_plain (impl_within_eq _ _ _) (ev_some (by simp [h1]))) (fun h1 => ev_some (by simp [Bool.eq_false_iff.mpr h1])))

theorem impl_window_loop (w : List Int) (n p : Nat) (hw : 0 < w.length) (hwl : w.length ≤ 1000000000000) (hn : n ≤ 1000000000000) (hp : p ≤ 1000000000000) : ∀ (d i : Nat) (acc : List Int), i + d = n → acc.length = i →
    Ev (fun k => impl_window.l0 k w (p : Int) acc (n : Int) (i : Int)) (acc ++ (List.range' i d).map fun j => w.getD ((p + j) % w.length) 0) := by
  intro d
  induction d with
  | zero =>
    intro i acc h ha
    refine Ev.step (f := fun _ => some acc) (fun k => ?_) (ev_some (by simp))
    simp only [impl_window.l0]; rw [if_neg (by omega)]
  | succ d ih =>
    intro i acc h ha
    refine Ev.step (f := fun k => impl_window.l0 k w (p : Int) (acc ++ [w.getD ((p + i) % w.length) 0]) (n : Int) ((i + 1 : Nat) : Int)) (fun k => ?_) (ev_to (ih (i + 1) _ (by omega) (by simp [ha])) ?_)
    · simp only [impl_window.l0]
      rw [if_pos (by omega), if_neg (by omega), wrap_id (x := (p : Int) + (i : Int)) (by omega), show (p : Int) + (i : Int) = ((p + i : Nat) : Int) by omega, tmod_nat, wrap_succ (by omega)]
      have hm := Nat.mod_lt (p + i) hw
      rw [if_pos (by omega), if_pos (by omega), if_pos (by omega), rd_nat]
    · simp [List.range'_succ]
theorem impl_window_ev (w : List Int) (n p : Nat) (hw : 0 < w.length) (hwl : w.length ≤ 1000000000000) (hn : n ≤ 1000000000000) (hp : p ≤ 1000000000000) : Ev (fun k => impl_window.f k w (n : Int) (p : Int)) (win w p n) :=
  ev_to (impl_window_loop w n p hw hwl hn hp n 0 [] (by omega) rfl) (by simp [win])

theorem impl_apart_ev (a b : List Int) (hab : a.length ≤ b.length) (ha : a.length ≤ 1000000000000) :
    Ev (fun k => impl_apart.f k a b) ((far (fun j => a.getD j 0) (fun j => b.getD j 0) a.length : Nat) : Int) := by
  unfold impl_apart.f
  refine ev_iter (fun (c : Nat) i k => impl_apart.l0 k b (c : Int) a (a.length : Int) (i : Int)) (fun c j => if a.getD j 0 = b.getD j 0 then c else c + 1) (fun i c => c ≤ i) a.length ?_ a.length 0 0 (by omega) (by omega) ?_
  · intro c i hi hI
    refine ⟨by split <;> omega, fun r k => ?_⟩
    refine Ev.step (fun k => by simp only [impl_apart.l0]; rfl) ?_
    refine ev_pos (by omega) (ev_pos (by omega) (ev_pos (by omega) (ev_pos (by omega) ?_)))
    rw [wrap_succ (by omega), rd_nat, rd_nat]
    refine ev_if (fun e => ?_) (fun e => ?_)
    · rw [if_pos e] at k; exact k
    · rw [wrap_succ (by omega)]
      rw [if_neg e] at k; exact k
  · intro _
    refine Ev.step (fun k => by simp only [impl_apart.l0]; rfl) (ev_neg (by omega) (Ev.now _))

theorem impl_spread_in (w : List Int) (n i m : Nat) (r : Int) (hw : 0 < w.length) (hwl : w.length ≤ 1000000) (hn : n ≤ 1000000) (hi : i < w.length)
    (k : Ev (fun k => impl_spread.l0 k w (n : Int) ((spreadIn w n i m : Nat) : Int) (w.length : Int) ((i + 1 : Nat) : Int)) r) :
    Ev (fun k => impl_spread.l1 k w (n : Int) (m : Int) (i : Int) (w.length : Int) (i : Int) (i : Int) 0) r := by
  refine ev_iter (fun (m : Nat) j k => impl_spread.l1 k w (n : Int) (m : Int) (i : Int) (w.length : Int) (i : Int) (i : Int) (j : Int)) (fun m j => min m (farW w n i j)) (fun _ _ => True) i ?_ i 0 m (by omega) trivial ?_
  · intro m j hj _
    refine ⟨trivial, fun r k => ?_⟩
    refine Ev.step (fun k => by simp only [impl_spread.l1]; rfl) ?_
    refine ev_pos (by omega) ?_
    refine ev_call (impl_window_ev w n i hw (by omega) (by omega) (by omega)) (ev_call (impl_window_ev w n j hw (by omega) (by omega) (by omega)) (ev_call (impl_apart_ev _ _ (by simp [win_length]) (by rw [win_length]; omega)) ?_))
    rw [wrap_succ (by omega)]
    have e : far (fun q => (win w i n).getD q 0) (fun q => (win w j n).getD q 0) (win w i n).length = farW w n i j := by
      rw [win_length]
      exact far_congr (fun q hq => ⟨win_get _ _ _ _ hq, win_get _ _ _ _ hq⟩)
    rw [e, show mn (m : Int) (farW w n i j : Int) = ((min m (farW w n i j) : Nat) : Int) by unfold mn; omega]
    exact k
  · intro _
    exact Ev.step (fun k => by simp only [impl_spread.l1]; rfl) (ev_neg (by omega) (by rw [wrap_succ (by omega)]; exact k))
theorem impl_spread_ev (w : List Int) (n : Nat) (hw : 0 < w.length) (hwl : w.length ≤ 1000000) (hn : n ≤ 1000000) : Ev (fun k => impl_spread.f k w (n : Int)) ((spreadM w n : Nat) : Int) := by
  unfold impl_spread.f
  refine ev_iter (fun (m : Nat) i k => impl_spread.l0 k w (n : Int) (m : Int) (w.length : Int) (i : Int)) (fun m i => spreadIn w n i m) (fun _ _ => True) w.length ?_ w.length 0 n (by omega) trivial ?_
  · intro m i hi _
    refine ⟨trivial, fun r k => ?_⟩
    refine Ev.step (fun k => by simp only [impl_spread.l0]; rfl) (ev_pos (by omega) ?_)
    exact impl_spread_in w n i m r hw hwl hn hi k
  · intro _
    exact Ev.step (fun k => by simp only [impl_spread.l0]; rfl) (ev_neg (by omega) (Ev.now _))

theorem impl_SafeLength_ev (w : List Int) (hw : w.length ≤ 1048576) : Ev (fun k => impl_SafeLength.f k w) (SafeLengthM w) := by
  unfold impl_SafeLength.f SafeLengthM
  refine ev_call (impl_isTape_ev w 2 hw) (ev_if (fun h1 => ?_) (fun h1 => ev_some ?_))
  · rw [if_pos h1]
    have hc := cycleB_iff.mp (by simpa [tapeB] using (show tapeB w 2 = true from h1) : cycleB w 6 = true ∧ _).1
    refine ev_find (fun i k => impl_SafeLength.l0 k w ((i + 1 : Nat) : Int)) _ 64 (0, false) ?_ ?_ 64 0 (by omega)
    · intro i hi
      refine ⟨fun r hr => ?_, fun hr r k => ?_⟩
      · refine Ev.step (fun k => by simp only [impl_SafeLength.l0]; rfl) (ev_pos (by omega) (ev_call (impl_spread_ev w (i + 1) (by omega) (by omega) (by omega)) ?_))
        by_cases hs : 3 ≤ spreadM w (i + 1)
        · exact ev_pos (by omega) (ev_some (by simpa [hs] using hr))
        · simp [hs] at hr
      · refine Ev.step (fun k => by simp only [impl_SafeLength.l0]; rfl) (ev_pos (by omega) (ev_call (impl_spread_ev w (i + 1) (by omega) (by omega) (by omega)) ?_))
        by_cases hs : 3 ≤ spreadM w (i + 1)
        · simp [hs] at hr
        · refine ev_neg (by omega) ?_
          rw [wrap_succ (by omega)]
          exact k
    · exact Ev.step (fun k => by simp only [impl_SafeLength.l0]; rfl) (ev_neg (by omega) (Ev.now _))
  · rw [if_neg h1]

theorem spec_l1All_loop (lo hi : Int) (xs : List Int) (hx : xs.length ≤ 1000000000000) : ∀ (d i : Nat), i + d = xs.length →
    Ev (fun k => spec_l1All.l0 k lo hi xs (xs.length : Int) (i : Int)) (allB (xs.drop i) lo hi) := by
  intro d
  induction d with
  | zero =>
    intro i h
    rw [List.drop_eq_nil_of_le (by omega)]
    refine Ev.step (f := fun _ => some true) (fun k => ?_) (Ev.now _)
    simp only [spec_l1All.l0]; rw [if_neg (by omega)]
  | succ d ih =>
    intro i h
    have hlt : i < xs.length := by omega
    rw [drop_rd xs i hlt]
    refine Ev.step (f := fun k => if inB (rd xs (i : Int)) lo hi = true then spec_l1All.l0 k lo hi xs (xs.length : Int) ((i + 1 : Nat) : Int) else some false) (fun k => ?_) ?_
    · simp only [spec_l1All.l0]; rw [if_pos (by omega), if_pos (by omega), if_pos (by omega), spec_l1In_eq, wrap_succ (by omega)]; rfl
    · by_cases hb : inB (rd xs (i : Int)) lo hi = true
      · exact ev_pos hb (ev_to (ih (i + 1) (by omega)) (by simp [allB, hb]))
      · exact ev_neg hb (ev_some (by simp [allB, Bool.eq_false_iff.mpr hb]))
theorem spec_l1All_ev (lo hi : Int) (xs : List Int) (hx : xs.length ≤ 1000000000000) : Ev (fun k => spec_l1All.f k xs lo hi) (allB xs lo hi) :=
  spec_l1All_loop lo hi xs hx xs.length 0 (by omega)

theorem spec_brCycle_ev (xs : List Int) (k : Int) (hx : xs.length ≤ 1000000000000) (hk : -9223372036854775808 ≤ k) (hk2 : k ≤ 9223372036854775807) : Ev (fun n => spec_brCycle.f n xs k) (cycleB xs k) := by
  unfold spec_brCycle.f cycleB
  refine ev_plain (spec_l1In_eq _ _ _) ?_
  refine ev_if (fun h => ?_) (fun h => ev_some (by simp [Bool.eq_false_iff.mpr h]))
  refine ev_plain (spec_l1In_eq _ _ _) ?_
  refine ev_if (fun h2 => ?_) (fun h2 => ev_some (by simp [Bool.eq_false_iff.mpr h2]))
  have h' := inB_iff.mp h
  rw [wrap_id (by omega)]
  exact ev_call (spec_l1All_ev _ _ _ hx) (ev_some (by simp [h, h2]))

theorem spec_brTape_ev (w : List Int) (least : Int) (hw : w.length ≤ 1048576) : Ev (fun k => spec_brTape.f k w least) (tapeB w least) := by
  unfold spec_brTape.f tapeB
  refine ev_call (spec_brCycle_ev _ _ (by omega) (by omega) (by omega)) (ev_if (fun h1 => ev_plain (spec_l1In_eq _ _ _) (ev_some (by simp [h1]))) (fun h1 => ev_some (by simp [Bool.eq_false_iff.mpr h1])))

theorem spec_brFar_ev (w : List Int) (n a b : Nat) (hw : 0 < w.length) (hwl : w.length ≤ 1000000000000) (hn : n ≤ 1000000000000) (ha : a ≤ 1000000000000) (hb : b ≤ 1000000000000) :
    Ev (fun k => spec_brFar.f k w (n : Int) (a : Int) (b : Int)) ((farW w n a b : Nat) : Int) := by
  unfold spec_brFar.f
  refine ev_iter (fun (c : Nat) i k => spec_brFar.l0 k w (n : Int) (a : Int) (b : Int) (c : Int) (i : Int)) (fun c j => if at_ w a j = at_ w b j then c else c + 1) (fun i c => c ≤ i) n ?_ n 0 0 (by omega) (by omega) ?_
  · intro c i hi hI
    refine ⟨by split <;> omega, fun r k => ?_⟩
    refine Ev.step (fun k => by simp only [spec_brFar.l0]; rfl) ?_
    rw [wrap_id (x := (a : Int) + (i : Int)) (by omega), show (a : Int) + (i : Int) = ((a + i : Nat) : Int) by omega, tmod_nat, wrap_id (x := (b : Int) + (i : Int)) (by omega), show (b : Int) + (i : Int) = ((b + i : Nat) : Int) by omega, tmod_nat]
    have hm := Nat.mod_lt (a + i) hw
    have hm2 := Nat.mod_lt (b + i) hw
    refine ev_pos (by omega) (ev_neg (by omega) (ev_pos (by omega) (ev_pos (by omega) (ev_pos (by omega) (ev_pos (by omega) ?_)))))
    rw [wrap_succ (by omega), rd_nat, rd_nat]
    refine ev_if (fun e => ?_) (fun e => ?_)
    · rw [at_, at_, if_pos e] at k; exact k
    · rw [wrap_succ (by omega)]
      rw [at_, at_, if_neg e] at k; exact k
  · intro _
    refine Ev.step (fun k => by simp only [spec_brFar.l0]; rfl) (ev_neg (by omega) (Ev.now _))

theorem spec_l1Least_eq (a b : Nat) : spec_l1Least.f (a : Int) (b : Int) = some ((min a b : Nat) : Int) := by
  unfold spec_l1Least.f
  by_cases h : (a : Int) < (b : Int)
  · rw [if_pos h]; congr 1; omega
  · rw [if_neg h]; congr 1; omega
theorem spec_brSpread_in (w : List Int) (n i m : Nat) (r : Int) (hw : 0 < w.length) (hwl : w.length ≤ 1000000) (hn : n ≤ 1000000) (hi : i < w.length)
    (k : Ev (fun k => spec_brSpread.l0 k w (n : Int) ((spreadIn w n i m : Nat) : Int) (w.length : Int) ((i + 1 : Nat) : Int)) r) :
    Ev (fun k => spec_brSpread.l1 k w (n : Int) (m : Int) (i : Int) 0 (w.length : Int) (i : Int)) r := by
  refine ev_iter (fun (m : Nat) j k => spec_brSpread.l1 k w (n : Int) (m : Int) (i : Int) (j : Int) (w.length : Int) (i : Int)) (fun m j => min m (farW w n i j)) (fun _ _ => True) i ?_ i 0 m (by omega) trivial ?_
  · intro m j hj _
    refine ⟨trivial, fun r k => ?_⟩
    refine Ev.step (fun k => by simp only [spec_brSpread.l1]; rfl) ?_
    refine ev_pos (by omega) ?_
    refine ev_call (spec_brFar_ev w n i j hw (by omega) (by omega) (by omega) (by omega)) (ev_plain (spec_l1Least_eq _ _) ?_)
    rw [wrap_succ (by omega)]
    exact k
  · intro _
    exact Ev.step (fun k => by simp only [spec_brSpread.l1]; rfl) (ev_neg (by omega) (by rw [wrap_succ (by omega)]; exact k))
theorem spec_brSpread_ev (w : List Int) (n : Nat) (hw : 0 < w.length) (hwl : w.length ≤ 1000000) (hn : n ≤ 1000000) : Ev (fun k => spec_brSpread.f k w (n : Int)) ((spreadM w n : Nat) : Int) := by
  unfold spec_brSpread.f
  refine ev_iter (fun (m : Nat) i k => spec_brSpread.l0 k w (n : Int) (m : Int) (w.length : Int) (i : Int)) (fun m i => spreadIn w n i m) (fun _ _ => True) w.length ?_ w.length 0 n (by omega) trivial ?_
  · intro m i hi _
    refine ⟨trivial, fun r k => ?_⟩
    refine Ev.step (fun k => by simp only [spec_brSpread.l0]; rfl) (ev_pos (by omega) ?_)
    exact spec_brSpread_in w n i m r hw hwl hn hi k
  · intro _
    exact Ev.step (fun k => by simp only [spec_brSpread.l0]; rfl) (ev_neg (by omega) (Ev.now _))

theorem spec_SafeLength_ev (w : List Int) (hw : w.length ≤ 1048576) : Ev (fun k => spec_SafeLength.f k w) (SafeLengthM w) := by
  unfold spec_SafeLength.f SafeLengthM
  refine ev_call (spec_brTape_ev w 2 hw) (ev_if (fun h1 => ?_) (fun h1 => ev_some ?_))
  · rw [if_pos h1]
    have hc := cycleB_iff.mp (by simpa [tapeB] using (show tapeB w 2 = true from h1) : cycleB w 6 = true ∧ _).1
    refine ev_find (fun i k => spec_SafeLength.l0 k w ((i + 1 : Nat) : Int)) _ 64 (0, false) ?_ ?_ 64 0 (by omega)
    · intro i hi
      refine ⟨fun r hr => ?_, fun hr r k => ?_⟩
      · refine Ev.step (fun k => by simp only [spec_SafeLength.l0]; rfl) (ev_pos (by omega) (ev_call (spec_brSpread_ev w (i + 1) (by omega) (by omega) (by omega)) ?_))
        by_cases hs : 3 ≤ spreadM w (i + 1)
        · exact ev_pos (by omega) (ev_some (by simpa [hs] using hr))
        · simp [hs] at hr
      · refine Ev.step (fun k => by simp only [spec_SafeLength.l0]; rfl) (ev_pos (by omega) (ev_call (spec_brSpread_ev w (i + 1) (by omega) (by omega) (by omega)) ?_))
        by_cases hs : 3 ≤ spreadM w (i + 1)
        · simp [hs] at hr
        · refine ev_neg (by omega) ?_
          rw [wrap_succ (by omega)]
          exact k
    · exact Ev.step (fun k => by simp only [spec_SafeLength.l0]; rfl) (ev_neg (by omega) (Ev.now _))
  · rw [if_neg h1]

theorem impl_SpreadOf_ev (w : List Int) (n : Int) (hw : w.length ≤ 1048576) : Ev (fun k => impl_SpreadOf.f k w n) (SpreadOfM w n) := by
  unfold impl_SpreadOf.f SpreadOfM
  refine ev_call (impl_isTape_ev w 2 hw) (ev_if (fun h1 => ev_plain (impl_within_eq _ _ _) (ev_if (fun h2 => ?_) (fun h2 => ev_some ?_))) (fun h1 => ev_some ?_))
  · have h2' := inB_iff.mp h2
    have hc := cycleB_iff.mp (by simpa [tapeB] using (show tapeB w 2 = true from h1) : cycleB w 6 = true ∧ _).1
    obtain ⟨m, rfl⟩ := Int.eq_ofNat_of_zero_le (show 0 ≤ n by omega)
    refine ev_call (impl_spread_ev w m (by omega) (by omega) (by omega)) (ev_some ?_)
    rw [if_pos ⟨h1, h2'⟩]; simp
  · rw [if_neg (fun h => h2 (inB_iff.mpr h.2))]
  · rw [if_neg (fun h => h1 h.1)]

theorem laws_big_some (a b : List Int) : ∃ r, laws_big.f a b = some r := by
  unfold laws_big.f
  split
  · exact ⟨_, rfl⟩
  · exact ⟨_, rfl⟩
theorem laws_big_ok {a b : List Int} {r : Bool} (h : laws_big.f a b = some r) (hr : ¬ r = true) : a.length ≤ 1048576 ∧ b.length ≤ 1048576 := by
  unfold laws_big.f at h
  split at h
  · cases h; exact absurd rfl hr
  · rename_i h1
    obtain rfl := Option.some.inj h
    rw [wrap_id (by omega)] at hr
    simp at hr
    omega

theorem first_range {α : Type} (p : Nat → Prop) [DecidablePred p] (g : Nat → α) : ∀ (d i : Nat) (r : α), ((List.range' i d).findSome? fun j => if p j then some (g j) else none) = some r → ∃ j, i ≤ j ∧ j < i + d ∧ p j ∧ r = g j ∧ ∀ x, i ≤ x → x < j → ¬ p x := by
  intro d
  induction d with
  | zero => intro i r h; simp at h
  | succ d ih =>
    intro i r h
    rw [List.range'_succ, List.findSome?_cons] at h
    by_cases hp : p i
    · simp [hp] at h
      exact ⟨i, Nat.le_refl _, by omega, hp, h.symm, fun x h1 h2 => by omega⟩
    · simp [hp] at h
      obtain ⟨j, h1, h2, h3, h4, h5⟩ := ih (i + 1) r h
      refine ⟨j, by omega, by omega, h3, h4, fun x hx1 hx2 => ?_⟩
      by_cases e : x = i
      · subst e; exact hp
      · exact h5 x (by omega) hx2
theorem foldl_rel {f g : Nat → Nat → Nat} (h : ∀ a b x, a ≤ b → f a x ≤ g b x) : ∀ (l : List Nat) (a b : Nat), a ≤ b → l.foldl f a ≤ l.foldl g b := by
  intro l
  induction l with
  | nil => intro a b h; exact h
  | cons x l ih => intro a b hab; exact ih _ _ (h a b x hab)
theorem spreadM_mono (w : List Int) (n : Nat) : spreadM w n ≤ spreadM w (n + 1) := by
  unfold spreadM
  refine foldl_rel (fun a b i hab => ?_) _ _ _ (by omega)
  unfold spreadIn
  refine foldl_rel (fun a b j hab => ?_) _ _ _ hab
  have : farW w n i j ≤ farW w (n + 1) i j := by unfold farW; rw [far_succ]; omega
  omega
theorem spreadM_le_of (w : List Int) : ∀ (d n : Nat), spreadM w n ≤ spreadM w (n + d) := by
  intro d
  induction d with
  | zero => intro n; exact Nat.le_refl _
  | succ d ih => intro n; exact Nat.le_trans (ih n) (spreadM_mono w (n + d))
theorem safe_loop (w : List Int) (hw : w.length ≤ 1048576) (ht : tapeB w 2 = true) (n : Nat) (hn : n ≤ 64) (h3 : 3 ≤ spreadM w n) (hf : ∀ m, 1 ≤ m → m < n → ¬ 3 ≤ spreadM w m) :
    ∀ d m, m + d = n + 1 → 1 ≤ m → Ev (fun q => laws_FnSafeLengths.l0 q w (n : Int) ((spreadM w (m - 1) : Nat) : Int) (m : Int)) true := by
  intro d
  induction d with
  | zero =>
    intro m h1 h2
    refine Ev.step (fun k => by simp only [laws_FnSafeLengths.l0]; rfl) (ev_neg (by omega) (ev_some ?_))
    have := spreadM_le w n
    exact decide_eq_true (by omega)
  | succ d ih =>
    intro m h1 h2
    have hs : SpreadOfM w (m : Int) = (((spreadM w m : Nat) : Int), true) := by
      unfold SpreadOfM
      rw [if_pos ⟨ht, by omega⟩, Int.toNat_natCast]
    refine Ev.step (fun k => by simp only [laws_FnSafeLengths.l0]; rfl) ?_
    refine ev_pos (by omega) (ev_call (impl_SpreadOf_ev w (m : Int) hw) ?_)
    rw [hs, wrap_succ (by omega)]
    dsimp only
    have hm := spreadM_mono w (m - 1)
    rw [show m - 1 + 1 = m by omega] at hm
    refine ev_pos (by trivial) ?_
    refine ev_neg (by omega) ?_
    refine ev_neg ?_ ?_
    · have hiff : ((spreadM w m : Nat) : Int) ≥ 3 ↔ (m : Int) = (n : Int) := by
        constructor
        · intro h
          by_cases e : m = n
          · omega
          · exact absurd (show 3 ≤ spreadM w m by omega) (hf m h2 (by omega))
        · intro h
          obtain rfl : m = n := by omega
          omega
      rw [show decide (((spreadM w m : Nat) : Int) ≥ 3) = ((m : Int) == (n : Int)) from by rw [Bool.eq_iff_iff]; simp only [decide_eq_true_eq, beq_iff_eq]; exact hiff]
      simp
    · have := ih (m + 1) (by omega) (by omega)
      rw [Nat.add_sub_cancel] at this
      exact this
theorem FnSafeLengths : laws_FnSafeLengths.Pure := by
  intro l0 l1 _ _ hb0 _ _ hb1
  refine Ev.rounds (r := true) ?_
  unfold laws_FnSafeLengths.f
  obtain ⟨b, hbig⟩ := laws_big_some l0 l1
  refine ev_plain hbig ?_
  refine ev_if (fun _ => Ev.now _) (fun _ => ?_)
  obtain ⟨w, a', s', ht, hw, _⟩ := tape_ok (bytes_wf hb0) (a := 0) 0 (by omega) (by omega)
  have hdraw : Ev (fun q => spec_DrawSafeLength.f q l0) w := by
    unfold spec_DrawSafeLength.f
    exact ev_call ht (Ev.now _)
  refine ev_call hdraw ?_
  refine ev_call (impl_SafeLength_ev w (by omega)) ?_
  refine ev_call (spec_SafeLength_ev w (by omega)) ?_
  refine ev_neg (bne_no _) ?_
  refine Ev.step (fun k => by simp only [laws_FnSafeLengths.j0]; rfl) ?_
  refine ev_neg (by simp) ?_
  refine ev_if (fun hfine => ?_) (fun _ => Ev.now _)
  unfold SafeLengthM at hfine ⊢
  by_cases htape : tapeB w 2 = true
  · rw [if_pos htape] at hfine ⊢
    cases hfs : ((List.range' 0 64).findSome? fun i => if 3 ≤ spreadM w (i + 1) then some (((i + 1 : Nat) : Int), true) else none) with
    | none => rw [hfs] at hfine; simp at hfine
    | some r =>
      obtain ⟨j, _, h2, h3, h4, h5⟩ := first_range (fun i => 3 ≤ spreadM w (i + 1)) (fun i => (((i + 1 : Nat) : Int), true)) 64 0 r hfs
      subst h4
      have := safe_loop w (by omega) htape (j + 1) (by omega) h3 (fun m hm1 hm2 hm3 => h5 (m - 1) (by omega) (by omega) (by rw [show m - 1 + 1 = m by omega]; exact hm3)) (j + 1) 1 (by omega) (by omega)
      have hz : spreadM w 0 = 0 := by have := spreadM_le w 0; omega
      rw [show 1 - 1 = 0 from rfl, hz] at this
      exact this
  · rw [if_neg htape] at hfine; simp at hfine

end Go.Proofs.Ytbmgpafijkfdbaa.Pure
