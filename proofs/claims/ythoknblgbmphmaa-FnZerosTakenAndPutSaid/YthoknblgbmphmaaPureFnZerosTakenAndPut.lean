/- The pure statement of ZerosTakenAndPut: it holds of all draws; no condition. -/
import Derived.Test.YthoknblgbmphmaaPFnZerosTakenAndPutx10
import Derived.Test.YthoknblgbmphmaaBase
import Derived.Test.YthoknblgbmphmaaLists
import Derived.Test.YthoknblgbmphmaaRegs
namespace Go.Proofs.Ythoknblgbmphmaa.Pure
open Go.RowKit Go.Proofs.Ythoknblgbmphmaa.PFnZerosTakenAndPut Go.Proofs.YthoknblgbmphmaaW.PrintWords Go.Proofs.YthoknblgbmphmaaW.PrintLast Go.Proofs.Ythoknblgbmphmaa.Base
set_option maxRecDepth 10000
set_option linter.unusedVariables false
set_option linter.unusedSimpArgs false

def bytesL (d : List Int) : Prop := ∀ x ∈ d, 0 ≤ x ∧ x ≤ 255
theorem and255 (x : Int) : 0 ≤ Go.bits .and .u64 x 255 ∧ Go.bits .and .u64 x 255 ≤ 255 := by
  have h : ((BitVec.ofInt 64 x) &&& (BitVec.ofInt 64 255)).toNat ≤ 255 := by
    rw [BitVec.toNat_and]; exact Nat.le_trans Nat.and_le_right (by decide)
  have e : Go.bits .and .u64 x 255 = IntKind.u64.wrap (((BitVec.ofInt 64 x) &&& (BitVec.ofInt 64 255)).toNat : Int) := rfl
  rw [e]
  generalize ((BitVec.ofInt 64 x) &&& (BitVec.ofInt 64 255)).toNat = m at h
  simp only [IntKind.wrap, IntKind.signed, IntKind.bits, Bool.false_and, Bool.false_eq_true, if_false]
  omega
theorem bytes_wf {d : List Int} (h : ∀ x ∈ d, (Lit.int .u8 x).wf = true) : bytesL d := by
  intro x hx
  have h := h x hx
  simp only [Lit.wf, IntKind.min, IntKind.max, IntKind.signed, IntKind.bits, Bool.and_eq_true, decide_eq_true_eq, Bool.false_eq_true, if_false] at h
  omega
theorem next_ok {d : List Int} (hd : bytesL d) {a : Int} (s : Int) (h0 : 0 ≤ a) (h1 : a ≤ 1000000000001000) : ∃ v s', spec_l1Cur_next.f d a s = some (v, a + 1, s') ∧ 0 ≤ v ∧ v ≤ 255 := by
  unfold spec_l1Cur_next.f
  rw [wrap_id (x := a + 1) (by omega)]
  by_cases ha : a < (d.length : Int)
  · rw [if_pos ha, if_pos h0, if_pos (by omega)]
    have hb : 0 ≤ rd d a ∧ rd d a ≤ 255 := by
      obtain ⟨j, rfl⟩ := Int.eq_ofNat_of_zero_le h0
      exact hd _ (by rw [show rd d ((j : Nat) : Int) = d[j]'(by omega) from rd_get d j (by omega)]; exact List.getElem_mem _)
    exact ⟨_, _, rfl, by rw [wrap_id (by omega)]; exact hb.1, by rw [wrap_id (by omega)]; exact hb.2⟩
  · rw [if_neg ha]
    by_cases hb : a + 1 ≤ (d.length : Int)
    · omega
    · rw [if_neg hb]
      have h := and255 ((IntKind.u64.wrap ((IntKind.u64.wrap ((IntKind.u64.wrap (s * 6364136223846793005)))) + 1442695040888963407)) / 1099511627776)
      exact ⟨_, _, rfl, by rw [wrap_id (by omega)]; exact h.1, by rw [wrap_id (by omega)]; exact h.2⟩
theorem tmod_lt {x n : Int} (h0 : 0 ≤ x) (hn : 1 ≤ n) : 0 ≤ Int.tmod x n ∧ Int.tmod x n < n := by
  obtain ⟨p, rfl⟩ := Int.eq_ofNat_of_zero_le h0
  obtain ⟨q, rfl⟩ := Int.eq_ofNat_of_zero_le (show 0 ≤ n by omega)
  rw [show ((p : Nat) : Int).tmod ((q : Nat) : Int) = ((p % q : Nat) : Int) from tmod_nat p q]
  have := Nat.mod_lt p (show 0 < q by omega)
  omega
theorem pick_ok {d : List Int} (hd : bytesL d) {a : Int} (s n : Int) (h0 : 0 ≤ a) (h1 : a ≤ 1000000000000000) : ∃ v a' s', spec_l1Cur_pick.f d a s n = some (v, a', s') ∧ (0 ≤ v ∧ (v < n ∨ (n ≤ 1 ∧ v = 0))) ∧ (a ≤ a' ∧ a' ≤ a + 2) := by
  unfold spec_l1Cur_pick.f
  by_cases hn : n ≤ 1
  · rw [if_pos hn]
    exact ⟨0, a, s, rfl, ⟨by omega, .inr ⟨hn, rfl⟩⟩, by omega⟩
  · rw [if_neg hn]
    obtain ⟨v, s1, e1, hv⟩ := next_ok hd s h0 (by omega)
    rw [e1, Option.bind_some]
    dsimp only
    by_cases h2 : n > 200
    · rw [if_pos h2]
      obtain ⟨u, s2, e2, hu⟩ := next_ok hd (a := a + 1) s1 (by omega) (by omega)
      rw [e2, Option.bind_some]
      dsimp only
      rw [if_neg (by omega), wrap_id (x := v * 256) (by omega), wrap_id (x := v * 256 + u) (by omega)]
      have := tmod_lt (x := v * 256 + u) (n := n) (by omega) (by omega)
      exact ⟨_, _, _, rfl, ⟨this.1, .inl this.2⟩, by omega⟩
    · rw [if_neg h2, if_neg (by omega)]
      have := tmod_lt (x := v) (n := n) (by omega) (by omega)
      exact ⟨_, _, _, rfl, ⟨this.1, .inl this.2⟩, by omega⟩

theorem among_ok {d : List Int} (hd : bytesL d) {a : Int} (s : Int) (l : List Int) (hl : 1 ≤ l.length) (h0 : 0 ≤ a) (h1 : a ≤ 1000000000000000) : ∃ v a' s', spec_l1Cur_among.f d a s l = some (v, a', s') ∧ v ∈ l ∧ (a ≤ a' ∧ a' ≤ a + 2) := by
  obtain ⟨v, a', s', e, hv, h⟩ := pick_ok hd s (l.length : Int) h0 h1
  unfold spec_l1Cur_among.f
  rw [e, Option.bind_some]
  dsimp only
  rw [if_pos (by omega), if_pos (by omega)]
  refine ⟨_, _, _, rfl, ?_, h⟩
  obtain ⟨j, rfl⟩ := Int.eq_ofNat_of_zero_le hv.1
  rw [show rd l ((j : Nat) : Int) = l[j]'(by omega) from rd_get l j (by omega)]
  exact List.getElem_mem _

theorem stages_ok {d : List Int} (hd : bytesL d) {a : Int} (s : Int) (h0 : 0 ≤ a) (h1 : a ≤ 999999999999000) : ∃ n k a' s', spec_l1Cur_stages.f d a s = some (n, k, a', s') ∧ (-1 ≤ n ∧ n ≤ 11) ∧ (-1 ≤ k ∧ k ≤ 7) ∧ (a ≤ a' ∧ a' ≤ a + 20) := by
  obtain ⟨v1, a1, s1, e1, hv1, ha1⟩ := pick_ok hd s 4 h0 (by omega)
  obtain ⟨v2, a2, s2, e2, hv2, ha2⟩ := pick_ok hd (a := a1) s1 2 (by omega) (by omega)
  obtain ⟨v3, a3, s3, e3, hv3, ha3⟩ := pick_ok hd (a := a2) s2 12 (by omega) (by omega)
  unfold spec_l1Cur_stages.f
  rw [e1, Option.bind_some]
  dsimp only
  rw [e2, Option.bind_some]
  dsimp only
  rw [e3, Option.bind_some]
  dsimp only
  by_cases c1 : v3 = 0
  · rw [if_pos c1]
    obtain ⟨u, a4, s4, e4, hu, ha4⟩ := among_ok hd (a := a3) s3 [(-1), 0, 1, 5, 10, 11] (by simp) (by omega) (by omega)
    rw [e4, Option.bind_some]
    dsimp only
    have : -1 ≤ u ∧ u ≤ 11 := by simp at hu; omega
    exact ⟨_, _, _, _, rfl, this, by omega, by omega⟩
  · rw [if_neg c1]
    by_cases c2 : v3 = 1
    · rw [if_pos c2]
      obtain ⟨u, a4, s4, e4, hu, ha4⟩ := among_ok hd (a := a3) s3 [(-1), 0, 1, 4, 6, 7] (by simp) (by omega) (by omega)
      obtain ⟨v5, a5, s5, e5, hv5, ha5⟩ := pick_ok hd (a := a4) s4 3 (by omega) (by omega)
      rw [e4, Option.bind_some]
      dsimp only
      rw [e5, Option.bind_some]
      dsimp only
      rw [wrap_id (x := 1 + v5) (by omega)]
      have : -1 ≤ u ∧ u ≤ 7 := by simp at hu; omega
      exact ⟨_, _, _, _, rfl, by omega, this, by omega⟩
    · rw [if_neg c2, wrap_id (x := 1 + v1) (by omega), wrap_id (x := 2 + v2) (by omega)]
      exact ⟨_, _, _, _, rfl, by omega, by omega, by omega⟩

theorem one_ok {d : List Int} (hd : bytesL d) {a : Int} (s n : Int) (h0 : 0 ≤ a) (h1 : a ≤ 1000000000000000) : ∃ v a' s', spec_l1Cur_one.f d a s n = some (v, a', s') ∧ (a ≤ a' ∧ a' ≤ a + 2) := by
  obtain ⟨v, a', s', e, _, h⟩ := pick_ok hd s n h0 h1
  unfold spec_l1Cur_one.f
  rw [e]
  exact ⟨_, _, _, rfl, h⟩

theorem cycle_loop {d : List Int} (hd : bytesL d) (n : Int) : ∀ (m : Nat) (xs : List Int) (a s : Int), m ≤ 20 → xs.length + m ≤ 20 → 1 ≤ xs.length + m → 0 ≤ a → a + 2 * (m : Int) ≤ 999999999999900 →
    ∃ r a' s', Ev (fun k => spec_l1Cur_cycle.l0 k n xs (m : Int) d a s) (r, a', s') ∧ r.length ≤ 1025 ∧ (a ≤ a' ∧ a' ≤ a + 2 * (m : Int) + 10) := by
  intro m
  induction m with
  | zero =>
    intro xs a s _ hl h1 h0 hb
    obtain ⟨v, a1, s1, e1, hv, ha1⟩ := pick_ok hd s 14 h0 (by omega)
    by_cases c1 : v = 0
    · obtain ⟨p, a2, s2, e2, hp, ha2⟩ := pick_ok hd (a := a1) s1 (xs.length : Int) (by omega) (by omega)
      obtain ⟨u, a3, s3, e3, hu, ha3⟩ := among_ok hd (a := a2) s2 [(-1), 0, 5, 6] (by simp) (by omega) (by omega)
      refine ⟨xs.set p.toNat u, a3, s3, ?_, by simp; omega, by omega⟩
      refine Ev.step (fun k => by simp only [spec_l1Cur_cycle.l0]; rfl) ?_
      refine ev_neg (by omega) ?_
      refine ev_plain e1 ?_
      try dsimp only
      refine ev_pos c1 ?_
      refine ev_plain e2 ?_
      try dsimp only
      refine ev_plain e3 ?_
      try dsimp only
      refine ev_pos (by omega) ?_
      refine ev_pos (by omega) ?_
      exact Ev.now _
    · by_cases c2 : v = 1
      · refine ⟨[], a1, s1, ?_, by simp, by omega⟩
        refine Ev.step (fun k => by simp only [spec_l1Cur_cycle.l0]; rfl) ?_
        refine ev_neg (by omega) ?_
        refine ev_plain e1 ?_
        try dsimp only
        refine ev_neg c1 ?_
        refine ev_pos c2 ?_
        exact Ev.now _
      · by_cases c3 : v = 2
        · obtain ⟨u, a3, s3, e3, hu, ha3⟩ := among_ok hd (a := a1) s1 [64, 65, 1024, 1025] (by simp) (by omega) (by omega)
          obtain ⟨b, a4, s4, e4, ha4⟩ := one_ok hd (a := a3) s3 2 (by omega) (by omega)
          have hu2 : 64 ≤ u ∧ u ≤ 1025 := by simp at hu; omega
          have hlen : (List.replicate u.toNat (0 : Int)).length = u.toNat := by simp
          by_cases c4 : b = true
          · refine ⟨(List.replicate u.toNat (0 : Int)).set 0 1, a4, s4, ?_, by rw [List.length_set, hlen]; omega, by omega⟩
            skip
            refine Ev.step (fun k => by simp only [spec_l1Cur_cycle.l0]; rfl) ?_
            refine ev_neg (by omega) ?_
            refine ev_plain e1 ?_
            try dsimp only
            refine ev_neg c1 ?_
            refine ev_neg c2 ?_
            refine ev_pos c3 ?_
            refine ev_plain e3 ?_
            try dsimp only
            refine ev_pos (by omega) ?_
            refine ev_pos (by omega) ?_
            refine ev_plain rfl ?_
            try dsimp only
            refine ev_plain e4 ?_
            try dsimp only
            refine ev_pos c4 ?_
            refine ev_pos (by rw [hlen]; omega) ?_
            exact Ev.now _
          · refine ⟨List.replicate u.toNat (0 : Int), a4, s4, ?_, by rw [hlen]; omega, by omega⟩
            skip
            refine Ev.step (fun k => by simp only [spec_l1Cur_cycle.l0]; rfl) ?_
            refine ev_neg (by omega) ?_
            refine ev_plain e1 ?_
            try dsimp only
            refine ev_neg c1 ?_
            refine ev_neg c2 ?_
            refine ev_pos c3 ?_
            refine ev_plain e3 ?_
            try dsimp only
            refine ev_pos (by omega) ?_
            refine ev_pos (by omega) ?_
            refine ev_plain rfl ?_
            try dsimp only
            refine ev_plain e4 ?_
            try dsimp only
            refine ev_neg c4 ?_
            exact Ev.now _
        · refine ⟨xs, a1, s1, ?_, by omega, by omega⟩
          skip
          refine Ev.step (fun k => by simp only [spec_l1Cur_cycle.l0]; rfl) ?_
          refine ev_neg (by omega) ?_
          refine ev_plain e1 ?_
          try dsimp only
          refine ev_neg c1 ?_
          refine ev_neg c2 ?_
          refine ev_neg c3 ?_
          exact Ev.now _
  | succ m ih =>
    intro xs a s hm hl h1 h0 hb
    obtain ⟨v, a1, s1, e1, hv, ha1⟩ := pick_ok hd s n h0 (by omega)
    obtain ⟨r, a', s', e, hr, ha⟩ := ih (xs ++ [v]) a1 s1 (by omega) (by simp; omega) (by simp; omega) (by omega) (by omega)
    refine ⟨r, a', s', ?_, hr, by omega⟩
    refine Ev.step (fun k => by simp only [spec_l1Cur_cycle.l0]; rfl) ?_
    refine ev_pos (by omega) ?_
    refine ev_plain e1 ?_
    dsimp only
    refine ev_pos (by omega) ?_
    rw [wrap_pred (by omega)]
    exact e
theorem cycle_ok {d : List Int} (hd : bytesL d) {a : Int} (s n : Int) (h0 : 0 ≤ a) (h1 : a ≤ 999999999999000) : ∃ r a' s', Ev (fun k => spec_l1Cur_cycle.f k d a s n) (r, a', s') ∧ r.length ≤ 1025 ∧ (a ≤ a' ∧ a' ≤ a + 100) := by
  obtain ⟨v, a1, s1, e1, hv, ha1⟩ := pick_ok hd s 12 h0 (by omega)
  obtain ⟨m, hm⟩ : ∃ m : Nat, 1 + v = (m : Int) := ⟨(1 + v).toNat, by omega⟩
  obtain ⟨r, a', s', e, hr, ha⟩ := cycle_loop hd n m [] a1 s1 (by omega) (by simp; omega) (by simp; omega) (by omega) (by omega)
  unfold spec_l1Cur_cycle.f
  refine ⟨r, a', s', ev_plain e1 ?_, hr, by omega⟩
  dsimp only
  rw [wrap_id (x := 1 + v) (by omega), hm]
  exact e

def kindB (n k : Int) : Bool := inB n 1 10 && (inB k 2 6 && decide (k.toNat ^ n.toNat ≤ 1024))
theorem kindB_iff {n k : Int} : kindB n k = true ↔ (1 ≤ n ∧ n ≤ 10) ∧ (2 ≤ k ∧ k ≤ 6) ∧ k.toNat ^ n.toNat ≤ 1024 := by simp [kindB, inB_iff]
theorem kindB_nat {n k : Int} (h : kindB n k = true) : ∃ n' k' : Nat, n = n' ∧ k = k' ∧ 1 ≤ n' ∧ n' ≤ 10 ∧ 2 ≤ k' ∧ k' ≤ 6 ∧ k' ^ n' ≤ 1024 := by
  obtain ⟨h1, h2, h3⟩ := kindB_iff.mp h
  exact ⟨n.toNat, k.toNat, by omega, by omega, by omega, by omega, by omega, by omega, h3⟩

theorem least_all : ((List.range 11).all fun n => (List.range 7).all fun k => !(decide (1 ≤ n) && decide (2 ≤ k) && decide (k ^ n ≤ 1024)) || (match spec_LeastBruijn.f 2000 (n : Int) (k : Int) with | some (r, b) => b && (decide (1 ≤ r.length) && decide (r.length ≤ 1024)) | none => false)) = true := by kernel_rfl

/-- How often the nodes may still be left. -/
def slack (k : Nat) (left : List Int) : Nat := (left.map fun x => ((k : Int) - x).toNat).sum
theorem slack_set (k : Nat) : ∀ (left : List Int) (i : Nat), i < left.length → left.getD i 0 < (k : Int) → slack k (left.set i (left.getD i 0 + 1)) + 1 = slack k left := by
  intro left
  induction left with
  | nil => intro i h; simp at h
  | cons x left ih =>
    intro i h h2
    cases i with
    | zero => simp [slack] at h2 ⊢; omega
    | succ i =>
      have := ih i (by simpa using h) (by simpa using h2)
      simp [slack] at this ⊢
      omega
theorem slack_zeros (k n : Nat) : slack k (List.replicate n 0) = n * k := by
  simp [slack, List.map_replicate, List.sum_replicate_nat]

theorem spec_l1In_eq (a lo hi : Int) : spec_l1In.f a lo hi = some (inB a lo hi) := by
  unfold spec_l1In.f inB
  by_cases h : a ≥ lo
  · rw [if_pos h]; simp [h]
  · rw [if_neg h]; simp [show ¬ lo ≤ a from h]

theorem spec_lyPower_loop (a : Nat) (ha : a ≤ 6) : ∀ (e j : Nat), e + j ≤ 12 → Ev (fun k => spec_lyPower.l0 k (a : Int) (e : Int) ((a ^ j : Nat) : Int)) ((a ^ (j + e) : Nat) : Int) := by
  intro e
  induction e with
  | zero =>
    intro j h
    exact Ev.step (fun k => by simp only [spec_lyPower.l0]; rfl) (ev_neg (by omega) (Ev.now _))
  | succ e ih =>
    intro j h
    have h1 : a ^ (j + 1) ≤ 2176782336 := Nat.le_trans (Nat.pow_le_pow_left ha (j + 1)) (Nat.le_trans (Nat.pow_le_pow_right (by omega) (show j + 1 ≤ 12 by omega)) (by decide))
    refine Ev.step (fun k => by simp only [spec_lyPower.l0]; rfl) ?_
    refine ev_pos (by omega) ?_
    rw [wrap_pred (by omega), show ((a ^ j : Nat) : Int) * (a : Int) = ((a ^ (j + 1) : Nat) : Int) by rw [Nat.pow_succ]; simp, wrap_id (by omega)]
    exact ev_to (ih (j + 1) (by omega)) (by rw [show j + 1 + e = j + (e + 1) by omega])
theorem spec_lyPower_ev (a n : Nat) (ha : a ≤ 6) (hn : n ≤ 12) : Ev (fun k => spec_lyPower.f k (a : Int) (n : Int)) ((a ^ n : Nat) : Int) :=
  ev_to (spec_lyPower_loop a ha n 0 (by omega)) (by simp)

theorem spec_brKind_ev (n k : Int) : Ev (fun q => spec_brKind.f q n k) (kindB n k) := by
  unfold spec_brKind.f kindB
  refine ev_plain (spec_l1In_eq _ _ _) (ev_if (fun h1 => ?_) (fun h1 => ev_some (by simp [Bool.eq_false_iff.mpr h1])))
  refine ev_plain (spec_l1In_eq _ _ _) (ev_if (fun h2 => ?_) (fun h2 => ev_some (by simp [Bool.eq_false_iff.mpr h2])))
  have e1 := inB_iff.mp h1
  have e2 := inB_iff.mp h2
  obtain ⟨n, rfl⟩ := Int.eq_ofNat_of_zero_le (show 0 ≤ n by omega)
  obtain ⟨k, rfl⟩ := Int.eq_ofNat_of_zero_le (show 0 ≤ k by omega)
  refine ev_call (spec_lyPower_ev k n (by omega) (by omega)) (ev_some ?_)
  rw [h1, h2]
  simp only [Bool.true_and, Int.toNat_natCast]
  exact decide_eq_decide.mpr (by omega)

theorem espec_walk (kk nodes : Nat) (hk : 1 ≤ kk) (hk6 : kk ≤ 6) (hn : 1 ≤ nodes) (hn2 : nodes ≤ 1024) : ∀ (m : Nat) (left : List Int) (way : List (Int × Int)) (node : Nat) (out : List Int),
    left.length = nodes → (∀ x ∈ left, 0 ≤ x ∧ x ≤ (kk : Int)) → node < nodes → (∀ s ∈ way, ∃ f : Nat, s.1 = (f : Int) ∧ f < nodes) → way.length + out.length + slack kk left ≤ 10000 → 2 * slack kk left + way.length = m →
    ∃ r : List Int, (r.length ≤ 10000 ∧ way.length + out.length ≤ r.length ∧ (left.getD node 0 < (kk : Int) → way.length + out.length + 1 ≤ r.length)) ∧
      Ev (fun k => spec_EulerBruijn.l0 k (kk : Int) (nodes : Int) left (way.map (·.1) ++ [(node : Int)]) (way.map (·.2)) out) (r, true) := by
  intro m
  induction m using nat_strong with
  | h m ih =>
  intro left way node out h1 h2 h3 h4 h5 h6
  have hx : 0 ≤ left.getD node 0 ∧ left.getD node 0 ≤ (kk : Int) := by
    have : left.getD node 0 ∈ left := by
      rw [List.getD_eq_getElem?_getD, List.getElem?_eq_getElem (by omega)]; exact List.getElem_mem _
    exact h2 _ this
  have e1 : rd (way.map (·.1) ++ [(node : Int)]) ((way.length : Nat) : Int) = (node : Int) := by
    rw [rd_nat, List.getD_eq_getElem?_getD, List.getElem?_append_right (by simp)]; simp
  have e2 : wrap64 (((way.map (·.1) ++ [(node : Int)]).length : Int) - 1) = (way.length : Int) := by
    rw [wrap_id (by simp <;> omega)]; simp
  by_cases hlt : left.getD node 0 < (kk : Int)
  · obtain ⟨x, hxx⟩ := Int.eq_ofNat_of_zero_le hx.1
    have hs := slack_set kk left node (by omega) hlt
    have hmul : node * kk ≤ 1024 * 6 := Nat.mul_le_mul (by omega) hk6
    have hmod : Int.tmod (wrap64 (wrap64 ((node : Int) * (kk : Int)) + left.getD node 0)) (nodes : Int) = (((node * kk + x) % nodes : Nat) : Int) := by
      rw [hxx, show (node : Int) * (kk : Int) = ((node * kk : Nat) : Int) by simp, wrap_id (x := ((node * kk : Nat) : Int)) (by omega), show ((node * kk : Nat) : Int) + (x : Int) = ((node * kk + x : Nat) : Int) by omega, wrap_id (by omega), tmod_nat]
    obtain ⟨r, r1, r3⟩ := ih (m - 1) (by omega) (left.set node (left.getD node 0 + 1)) (way ++ [((node : Int), left.getD node 0)]) ((node * kk + x) % nodes) out (by simpa using h1)
      (by intro y hy; rcases List.mem_or_eq_of_mem_set hy with hy | rfl
          · exact h2 y hy
          · omega) (Nat.mod_lt _ hn) (by intro s hs; rcases List.mem_append.mp hs with hs | hs
                                         · exact h4 s hs
                                         · simp at hs; subst hs; exact ⟨node, rfl, h3⟩) (by simp only [List.length_append, List.length_cons, List.length_nil]; omega) (by simp only [List.length_append, List.length_cons, List.length_nil]; omega)
    simp only [List.length_append, List.length_cons, List.length_nil] at r1
    refine ⟨r, ⟨by omega, by omega, fun _ => by omega⟩, ?_⟩
    refine Ev.step (fun k => by simp only [spec_EulerBruijn.l0]; rfl) ?_
    rw [e2, e1, rd_nat, Int.toNat_natCast, hmod, wrap_id (x := left.getD node 0 + 1) (by omega)]
    refine ev_pos (by simp <;> omega) (ev_pos (by omega) (ev_pos (by simp <;> omega) (ev_pos (by omega) (ev_pos (by omega) (ev_pos hlt (ev_neg (by omega) (ev_pos (by simp <;> omega) (ev_pos (by simp <;> omega) ?_))))))))
    simpa using r3
  · rcases List.eq_nil_or_concat way with rfl | ⟨way0, s, rfl⟩
    · refine ⟨out, ⟨by simp at h5; omega, by simp, fun h => absurd h hlt⟩, ?_⟩
      refine Ev.step (fun k => by simp only [spec_EulerBruijn.l0]; rfl) ?_
      rw [e2, e1, rd_nat]
      refine ev_pos (by simp) (ev_pos (by omega) (ev_pos (by simp) (ev_pos (by omega) (ev_pos (by omega) (ev_neg hlt (ev_pos (by simp) ?_))))))
      refine ev_plain rfl ?_
      refine ev_neg (by simp) ?_
      refine Ev.step (fun k => by simp only [spec_EulerBruijn.l0]; rfl) ?_
      exact ev_neg (by simp) (Ev.now _)
    · obtain ⟨f, hf, hf2⟩ := h4 s (by simp)
      rw [List.concat_eq_append] at *
      simp at h5 h6
      obtain ⟨r, r1, r3⟩ := ih (m - 1) (by omega) left way0 f (s.2 :: out) h1 h2 hf2 (fun s' hs' => h4 s' (by simp [hs'])) (by simp <;> omega) (by omega)
      rw [← hf] at r3
      simp only [List.length_cons] at r1
      refine ⟨r, ⟨by omega, by simp; omega, fun h => absurd h hlt⟩, ?_⟩
      refine Ev.step (fun k => by simp only [spec_EulerBruijn.l0]; rfl) ?_
      have w3 : wrap64 ((((way0 ++ [s]).map (·.2)).length : Int) - 1) = (way0.length : Int) := by rw [wrap_id (by simp <;> omega)]; simp
      have w4 : rd ((way0 ++ [s]).map (·.2)) (way0.length : Int) = s.2 := by rw [rd_nat]; simp [List.getD_eq_getElem?_getD]
      rw [e2, e1, rd_nat]
      refine ev_pos (by simp <;> omega) (ev_pos (by omega) (ev_pos (by simp <;> omega) (ev_pos (by omega) (ev_pos (by omega) (ev_neg hlt (ev_pos (by simp <;> omega) ?_))))))
      refine ev_plain rfl ?_
      rw [w3, w4]
      refine ev_pos (by simp <;> omega) (ev_pos (by omega) (ev_pos (by simp <;> omega) ?_))
      refine ev_plain rfl ?_
      refine ev_pos (by simp <;> omega) (ev_pos (by simp <;> omega) ?_)
      have t1 : ((way0 ++ [s]).map (·.1) ++ [(node : Int)]).take ((((way0 ++ [s]).length : Nat) : Int)).toNat = way0.map (·.1) ++ [s.1] := by
        rw [Int.toNat_natCast, List.take_append_of_le_length (by simp), List.take_of_length_le (by simp)]; simp
      have t2 : ((way0 ++ [s]).map (·.2)).take ((way0.length : Nat) : Int).toNat = way0.map (·.2) := by simp
      rw [t1, t2]
      simpa using r3
theorem spec_Euler_ok (n k : Nat) (h : kindB (n : Int) (k : Int) = true) : ∃ r, 1 ≤ r.length ∧ r.length ≤ 10000 ∧ Ev (fun q => spec_EulerBruijn.f q (n : Int) (k : Int)) (r, true) := by
  obtain ⟨n', k', e1, e2, n1, n2, k1, k2, hp⟩ := kindB_nat h
  obtain rfl : n = n' := by omega
  obtain rfl : k = k' := by omega
  have hp2 : k ^ (n - 1) ≤ 1024 := Nat.le_trans (Nat.pow_le_pow_right (by omega) (by omega)) hp
  have hp3 : 1 ≤ k ^ (n - 1) := Nat.one_le_pow _ _ (by omega)
  have hs : k ^ (n - 1) * k ≤ 1024 := by rw [← Nat.pow_succ, show (n - 1).succ = n by omega]; exact hp
  obtain ⟨r, r1, r3⟩ := espec_walk k (k ^ (n - 1)) (by omega) k2 hp3 hp2 _ (List.replicate (k ^ (n - 1)) 0) [] 0 [] (by simp) (by intro x hx; simp at hx; omega) (by omega) (by intro s hs; cases hs) (by rw [slack_zeros]; simp; omega) rfl
  refine ⟨r, r1.2.2 ?_, r1.1, ?_⟩
  · rw [List.getD_eq_getElem?_getD, List.getElem?_replicate]
    split <;> simp <;> omega
  · unfold spec_EulerBruijn.f
    refine ev_call (spec_brKind_ev _ _) (ev_pos h ?_)
    rw [wrap_id (by omega), show ((n : Int) - 1) = ((n - 1 : Nat) : Int) by omega]
    refine ev_call (spec_lyPower_ev k (n - 1) (by omega) (by omega)) (ev_pos (by omega) (ev_pos (by omega) ?_))
    rw [Int.toNat_natCast]
    exact r3

theorem spec_brWindow_loop (w : List Int) (n p : Nat) (hw : 0 < w.length) (hwl : w.length ≤ 1000000000000) (hn : n ≤ 1000000000000) (hp : p ≤ 1000000000000) : ∀ (d i : Nat) (acc : List Int), i + d = n → acc.length = i →
    Ev (fun k => spec_brWindow.l0 k w (n : Int) (p : Int) acc (i : Int)) (acc ++ (List.range' i d).map fun j => w.getD ((p + j) % w.length) 0) := by
  intro d
  induction d with
  | zero =>
    intro i acc h ha
    refine Ev.step (f := fun _ => some acc) (fun k => ?_) (ev_some (by simp))
    simp only [spec_brWindow.l0]; rw [if_neg (by omega)]
  | succ d ih =>
    intro i acc h ha
    refine Ev.step (f := fun k => spec_brWindow.l0 k w (n : Int) (p : Int) (acc ++ [w.getD ((p + i) % w.length) 0]) ((i + 1 : Nat) : Int)) (fun k => ?_) (ev_to (ih (i + 1) _ (by omega) (by simp [ha])) ?_)
    · simp only [spec_brWindow.l0]
      rw [if_pos (by omega), if_neg (by omega), wrap_id (x := (p : Int) + (i : Int)) (by omega), show (p : Int) + (i : Int) = ((p + i : Nat) : Int) by omega, tmod_nat, wrap_succ (by omega)]
      have hm := Nat.mod_lt (p + i) hw
      rw [if_pos (by omega), if_pos (by omega), if_pos (by omega), rd_nat]
    · simp [List.range'_succ]
theorem spec_brWindow_ev (w : List Int) (n p : Nat) (hw : 0 < w.length) (hwl : w.length ≤ 1000000000000) (hn : n ≤ 1000000000000) (hp : p ≤ 1000000000000) : Ev (fun k => spec_brWindow.f k w (n : Int) (p : Int)) (win w p n) :=
  ev_to (spec_brWindow_loop w n p hw hwl hn hp n 0 [] (by omega) rfl) (by simp [win])

theorem least_ok (n k : Nat) (h : kindB (n : Int) (k : Int) = true) : ∃ r, 1 ≤ r.length ∧ r.length ≤ 1024 ∧ Ev (fun q => spec_LeastBruijn.f q (n : Int) (k : Int)) (r, true) := by
  obtain ⟨n', k', e1, e2, n1, n2, k1, k2, hp⟩ := kindB_nat h
  obtain rfl : n = n' := by omega
  obtain rfl : k = k' := by omega
  have h := List.all_eq_true.mp (List.all_eq_true.mp least_all n (List.mem_range.mpr (by omega))) k (List.mem_range.mpr (by omega))
  rw [decide_eq_true n1, decide_eq_true k1, decide_eq_true hp] at h
  cases hg : spec_LeastBruijn.f 2000 (n : Int) (k : Int) with
  | none => rw [hg] at h; simp at h
  | some p =>
    obtain ⟨r, b⟩ := p
    rw [hg] at h
    simp at h
    obtain ⟨rfl, h1, h2⟩ := h
    exact ⟨r, h1, h2, Ev.of (fun k => spec_LeastBruijn.mono _ _ k) (k := 2000) hg⟩
theorem bruijn_ok {d : List Int} (hd : bytesL d) {a : Int} (s : Int) (h0 : 0 ≤ a) (h1 : a ≤ 999999999990000) : ∃ w n k a' s', Ev (fun q => spec_l1Cur_bruijn.f q d a s) (w, n, k, a', s') ∧ w.length ≤ 10000 ∧ (-1 ≤ n ∧ n ≤ 11) ∧ (-1 ≤ k ∧ k ≤ 7) ∧ (a ≤ a' ∧ a' ≤ a + 200) := by
  obtain ⟨n, k, a1, s1, e1, hn, hk, ha1⟩ := stages_ok hd s h0 (by omega)
  unfold spec_l1Cur_bruijn.f
  by_cases hkind : kindB n k = true
  · obtain ⟨n, k, rfl, rfl, _⟩ := kindB_nat hkind
    obtain ⟨l, hl1, hl2, hl⟩ := least_ok n k hkind
    obtain ⟨u, hu1, hu2, hu⟩ := spec_Euler_ok n k hkind
    obtain ⟨b, a2, s2, e2, ha2⟩ := one_ok hd (a := a1) s1 2 (by omega) (by omega)
    have tail : ∀ l : List Int, 1 ≤ l.length → l.length ≤ 10000 → ∃ w a' s', Ev (fun q => spec_l1Cur_bruijn.j0 q (n : Int) (k : Int) l d a2 s2) (w, (n : Int), (k : Int), a', s') ∧ w.length ≤ 10000 ∧ (a2 ≤ a' ∧ a' ≤ a2 + 50) := by
      intro l hl1 hl2
      obtain ⟨p, a3, s3, e3, hp, ha3⟩ := pick_ok hd (a := a2) s2 (l.length : Int) (by omega) (by omega)
      obtain ⟨p, rfl⟩ := Int.eq_ofNat_of_zero_le hp.1
      obtain ⟨c, a4, s4, e4, ha4⟩ := one_ok hd (a := a3) s3 6 (by omega) (by omega)
      have hw := spec_brWindow_ev l l.length p (by omega) (by omega) (by omega) (by omega)
      have hwl := win_length l p l.length
      by_cases c1 : c = true
      · obtain ⟨i, a5, s5, e5, hi, ha5⟩ := pick_ok hd (a := a4) s4 ((win l p l.length).length : Int) (by omega) (by omega)
        obtain ⟨v, a6, s6, e6, hv, ha6⟩ := pick_ok hd (a := a5) s5 (k : Int) (by omega) (by omega)
        refine ⟨(win l p l.length).set i.toNat v, a6, s6, ?_, by rw [List.length_set, hwl]; omega, by omega⟩
        refine Ev.step (fun k => by simp only [spec_l1Cur_bruijn.j0]; rfl) ?_
        refine ev_plain e3 ?_
        dsimp only
        refine ev_call hw ?_
        refine ev_plain e4 ?_
        dsimp only
        refine ev_pos c1 ?_
        refine ev_plain e5 ?_
        dsimp only
        refine ev_plain e6 ?_
        dsimp only
        exact ev_pos (by omega) (ev_pos (by omega) (Ev.now _))
      · refine ⟨win l p l.length, a4, s4, ?_, by rw [hwl]; omega, by omega⟩
        refine Ev.step (fun k => by simp only [spec_l1Cur_bruijn.j0]; rfl) ?_
        refine ev_plain e3 ?_
        dsimp only
        refine ev_call hw ?_
        refine ev_plain e4 ?_
        dsimp only
        exact ev_neg c1 (Ev.now _)
    by_cases c1 : b = true
    · obtain ⟨w, a', s', h, hw, ha⟩ := tail u hu1 hu2
      refine ⟨w, n, k, a', s', ?_, hw, hn, hk, by omega⟩
      refine ev_plain e1 ?_
      dsimp only
      refine ev_call (spec_brKind_ev _ _) (ev_pos hkind ?_)
      refine ev_call hl ?_
      refine ev_plain e2 ?_
      dsimp only
      refine ev_pos c1 ?_
      refine ev_call hu ?_
      exact h
    · obtain ⟨w, a', s', h, hw, ha⟩ := tail l hl1 (by omega)
      refine ⟨w, n, k, a', s', ?_, hw, hn, hk, by omega⟩
      refine ev_plain e1 ?_
      dsimp only
      refine ev_call (spec_brKind_ev _ _) (ev_pos hkind ?_)
      refine ev_call hl ?_
      refine ev_plain e2 ?_
      dsimp only
      refine ev_neg c1 ?_
      exact h
  · obtain ⟨r, a2, s2, e2, hr, ha2⟩ := cycle_ok hd (a := a1) s1 2 (by omega) (by omega)
    refine ⟨r, n, k, a2, s2, ?_, by omega, hn, hk, by omega⟩
    refine ev_plain e1 ?_
    dsimp only
    refine ev_call (spec_brKind_ev _ _) (ev_neg hkind ?_)
    refine ev_call e2 ?_
    exact Ev.now _

theorem codesM_take (w : List Int) (n k i : Nat) (h : i < w.length) : (codesM w n k).take (i + 1) = (codesM w n k).take i ++ [codeN k (win w i n)] := by
  rw [List.take_succ_eq_append_getElem (by simp [codesM]; exact h)]
  simp [codesM]
theorem codesM_length (w : List Int) (n k : Nat) : (codesM w n k).length = w.length := by simp [codesM]
theorem codeN_take (k : Nat) (xs : List Int) (j : Nat) (h : j < xs.length) : codeN k (xs.take (j + 1)) = codeN k (xs.take j) * (k : Int) + rd xs (j : Int) := by
  rw [take_rd xs j h, codeN_snoc]
def IsBruijnM (w : List Int) (n k : Int) : Bool × Bool := if kindB n k = true ∧ cycleB w k = true then (bruijnB w n.toNat k.toNat, true) else (false, false)
theorem pow_le_1024 {k n j : Nat} (hk : 2 ≤ k) (h : k ^ n ≤ 1024) (hj : j ≤ n) : k ^ j ≤ 1024 := Nat.le_trans (Nat.pow_le_pow_right (by omega) hj) h
/-- The number of a beginning of a window, and the next step, lie in bounds. -/
theorem code_step {k n j : Nat} {xs : List Int} (hk : 2 ≤ k) (hk6 : k ≤ 6) (h : k ^ n ≤ 1024) (hx : xs.length = n) (hxs : ∀ x ∈ xs, 0 ≤ x ∧ x ≤ (k : Int) - 1) (hj : j < n) :
    wrap64 (wrap64 (codeN k (xs.take j) * (k : Int)) + rd xs (j : Int)) = codeN k (xs.take (j + 1)) := by
  have h1 := codeN_range k j (xs.take j) (by simp; omega) (fun x hx' => hxs x (List.mem_of_mem_take hx'))
  have h2 := pow_le_1024 hk h (show j ≤ n by omega)
  have h3 : codeN k (xs.take j) * (k : Int) ≤ 1024 * 6 := Int.mul_le_mul (by omega) (by omega) (by omega) (by omega)
  have h4 : 0 ≤ codeN k (xs.take j) * (k : Int) := Int.mul_nonneg h1.1 (by omega)
  have h5 : 0 ≤ rd xs (j : Int) ∧ rd xs (j : Int) ≤ (k : Int) - 1 := hxs _ (by rw [rd_get xs j (by omega)]; exact List.getElem_mem _)
  rw [wrap_id (x := codeN k (xs.take j) * (k : Int)) (by omega), wrap_id (by omega), codeN_take k xs j (by omega)]

/-- The places at which a window stands. -/
def placesIn (w g : List Int) (acc : List Int) (p : Nat) : List Int := if win w p g.length = g then acc ++ [(p : Int)] else acc
def placesM (w g : List Int) : List Int := (List.range' 0 w.length).foldl (placesIn w g) []
theorem placesM_length (w g : List Int) : ∀ d i acc, acc.length ≤ i → ((List.range' i d).foldl (placesIn w g) acc).length ≤ i + d := by
  intro d
  induction d with
  | zero => intro i acc h; simpa using h
  | succ d ih =>
    intro i acc h
    rw [List.range'_succ, List.foldl_cons]
    refine Nat.le_trans (ih (i + 1) _ ?_) (by omega)
    unfold placesIn
    split
    · simp; omega
    · omega
def PlacesOfM (w g : List Int) : List Int × Bool := if cycleB w 6 = true ∧ cycleB g 6 = true then (placesM w g, true) else ([], false)
theorem PlacesOfM_length (w g : List Int) : (PlacesOfM w g).1.length ≤ 1024 := by
  unfold PlacesOfM
  split
  · rename_i h
    have := (cycleB_iff.mp h.1).2.1.2
    have h2 := placesM_length w g w.length 0 [] (by simp)
    simp only [placesM]; omega
  · simp

theorem codeN_injk {k : Nat} : ∀ (n : Nat) (xs ys : List Int), xs.length = n → ys.length = n → (∀ x ∈ xs, 0 ≤ x ∧ x ≤ (k : Int) - 1) → (∀ x ∈ ys, 0 ≤ x ∧ x ≤ (k : Int) - 1) → codeN k xs = codeN k ys → xs = ys := by
  intro n
  induction n with
  | zero => intro xs ys h h' _ _ _; rw [List.eq_nil_of_length_eq_zero h, List.eq_nil_of_length_eq_zero h']
  | succ n ih =>
    intro xs ys h h' hx hy e
    rcases List.eq_nil_or_concat xs with rfl | ⟨us, u, rfl⟩
    · simp at h
    rcases List.eq_nil_or_concat ys with rfl | ⟨vs, v, rfl⟩
    · simp at h'
    rw [List.concat_eq_append] at *
    rw [List.concat_eq_append] at *
    rw [codeN_snoc, codeN_snoc] at e
    have h1 := hx u (by simp)
    have h2 := hy v (by simp)
    have hm : ∀ c x : Int, 0 ≤ x → x ≤ (k : Int) - 1 → (c * (k : Int) + x) % (k : Int) = x := fun c x a b => by
      rw [Int.add_comm, Int.add_mul_emod_self_right, Int.emod_eq_of_lt a (by omega)]
    have e1 : u = v := by
      have a := congrArg (fun z => z % (k : Int)) e
      replace a : (codeN k us * (k : Int) + u) % (k : Int) = (codeN k vs * (k : Int) + v) % (k : Int) := a
      rwa [hm _ _ h1.1 h1.2, hm _ _ h2.1 h2.2] at a
    subst e1
    have e2 : codeN k us = codeN k vs := Int.eq_of_mul_eq_mul_right (a := (k : Int)) (by omega) (by omega)
    rw [ih us vs (by simpa using h) (by simpa using h') (fun x hx' => hx x (by simp [hx'])) (fun x hx' => hy x (by simp [hx'])) e2]
theorem places_fold (w g : List Int) : ∀ (l : List Nat) (acc : List Int), l.foldl (placesIn w g) acc = acc ++ (l.filter (fun p => decide (win w p g.length = g))).map (fun (p : Nat) => (p : Int)) := by
  intro l
  induction l with
  | nil => intro acc; simp
  | cons a l ih =>
    intro acc
    rw [List.foldl_cons, ih]
    unfold placesIn
    by_cases h : win w a g.length = g
    · simp [h]
    · simp [h]
theorem filter_one {P : Nat → Bool} {p0 : Nat} : ∀ (l : List Nat), l.Nodup → p0 ∈ l → (∀ q ∈ l, (P q = true ↔ q = p0)) → l.filter P = [p0] := by
  intro l
  induction l with
  | nil => intro _ h _; cases h
  | cons a l ih =>
    intro hn hp hP
    rw [List.nodup_cons] at hn
    rw [List.filter_cons]
    by_cases e : a = p0
    · subst e
      rw [if_pos ((hP a (by simp)).mpr rfl)]
      have : l.filter P = [] := by
        rw [List.filter_eq_nil_iff]
        intro q hq h
        obtain rfl := (hP q (by simp [hq])).mp h
        exact hn.1 hq
      rw [this]
    · rw [if_neg (fun h => e ((hP a (by simp)).mp h))]
      exact ih hn.2 (by rcases List.mem_cons.mp hp with h | h; exact absurd h.symm e; exact h) (fun q hq => hP q (by simp [hq]))
theorem bru_code_inj {w : List Int} {n k : Nat} (hb : bruijnB w n k = true) {i j : Nat} (hi : i < w.length) (hj : j < w.length) (e : codeN k (win w i n) = codeN k (win w j n)) : i = j := by
  have hnd : (codesM w n k).Nodup := by
    simp only [bruijnB, Bool.and_eq_true, decide_eq_true_eq] at hb
    exact hb.2
  have hpw := List.pairwise_iff_getElem.mp hnd
  have hget : ∀ i, (h : i < w.length) → (codesM w n k)[i]'(by rw [codesM_length]; exact h) = codeN k (win w i n) := fun i h => by simp [codesM]
  by_cases c : i < j
  · have := hpw i j (by rw [codesM_length]; exact hi) (by rw [codesM_length]; exact hj) c
    rw [hget i hi, hget j hj] at this
    exact absurd e this
  · by_cases c2 : j < i
    · have := hpw j i (by rw [codesM_length]; exact hj) (by rw [codesM_length]; exact hi) c2
      rw [hget i hi, hget j hj] at this
      exact absurd e.symm this
    · omega
/-- Each window stands at just one place. -/
theorem bru_places {w : List Int} {n k : Nat} (hb : bruijnB w n k = true) (hx : ∀ x ∈ w, 0 ≤ x ∧ x ≤ (k : Int) - 1) (hw : 0 < w.length) (g : List Int) (hg : g.length = n) (hgx : ∀ x ∈ g, 0 ≤ x ∧ x ≤ (k : Int) - 1) :
    ∃ q, q < w.length ∧ win w q n = g ∧ placesM w g = [(q : Int)] := by
  have hlen : w.length = k ^ n := by
    simp only [bruijnB, Bool.and_eq_true, decide_eq_true_eq] at hb
    exact hb.1
  have hwx : ∀ i, ∀ x ∈ win w i n, 0 ≤ x ∧ x ≤ (k : Int) - 1 := fun i x h => hx x (mem_win hw h)
  have hr : ∀ i, 0 ≤ codeN k (win w i n) ∧ codeN k (win w i n) < ((k ^ n : Nat) : Int) := fun i => codeN_range k n _ (win_length _ _ _) (hwx i)
  have hrg := codeN_range k n g hg hgx
  have hex : ∃ q, q < w.length ∧ codeN k (win w q n) = codeN k g := by
    obtain ⟨i, j, h1, h2, e⟩ := pigeon w.length (fun i => if i < w.length then (codeN k (win w i n)).toNat else (codeN k g).toNat) (fun i hi => by
      have := hr i
      show (if i < w.length then (codeN k (win w i n)).toNat else (codeN k g).toNat) < w.length
      split <;> omega)
    replace e : (if i < w.length then (codeN k (win w i n)).toNat else (codeN k g).toNat) = (if j < w.length then (codeN k (win w j n)).toNat else (codeN k g).toNat) := e
    rw [if_pos (show i < w.length by omega)] at e
    have hi := hr i
    by_cases c : j < w.length
    · rw [if_pos c] at e
      have hj := hr j
      exact absurd (bru_code_inj hb (show i < w.length by omega) c (by omega)) (by omega)
    · rw [if_neg c] at e
      exact ⟨i, by omega, by omega⟩
  obtain ⟨q, hq, he⟩ := hex
  have hwin : win w q n = g := codeN_injk n _ _ (win_length _ _ _) hg (hwx q) hgx he
  refine ⟨q, hq, hwin, ?_⟩
  unfold placesM
  rw [places_fold, List.nil_append, filter_one (p0 := q) _ (List.nodup_range' ) (by simp [List.mem_range'_1]; exact hq) (fun p hp => ?_)]
  · rfl
  · rw [decide_eq_true_eq, hg]
    refine ⟨fun h => ?_, fun h => by rw [h]; exact hwin⟩
    have hp2 : p < w.length := by simpa [List.mem_range'_1] using hp
    exact bru_code_inj hb hp2 hq (by rw [h, hwin])
theorem bru_places_at {w : List Int} {n k : Nat} (hb : bruijnB w n k = true) (hx : ∀ x ∈ w, 0 ≤ x ∧ x ≤ (k : Int) - 1) (p : Nat) (hp : p < w.length) : placesM w (win w p n) = [(p : Int)] := by
  obtain ⟨q, hq, h1, h2⟩ := bru_places hb hx (by omega) (win w p n) (win_length _ _ _) (fun x h => hx x (mem_win (by omega) h))
  obtain rfl := bru_code_inj hb hq hp (by rw [h1])
  exact h2
/-- The same, looked at fast. -/
def codesL (k n : Nat) : Nat → List Int → List Int
  | 0, _ => []
  | c + 1, l => codeN k (l.take n) :: codesL k n c l.tail
def maskOk : List Int → Nat → Bool
  | [], _ => true
  | c :: t, m => if m.testBit c.toNat = true then false else maskOk t (m ||| (1 <<< c.toNat))
theorem maskOk_nodup : ∀ (l : List Int) (m : Nat), maskOk l m = true → (∀ c ∈ l, 0 ≤ c) → l.Nodup ∧ ∀ c ∈ l, m.testBit c.toNat = false := by
  intro l
  induction l with
  | nil => intro m _ _; exact ⟨List.nodup_nil, fun c hc => by cases hc⟩
  | cons a l ih =>
    intro m h h0
    unfold maskOk at h
    split at h
    · cases h
    · rename_i h1
      obtain ⟨h2, h3⟩ := ih _ h (fun c hc => h0 c (by simp [hc]))
      have h4 : ∀ c ∈ l, m.testBit c.toNat = false ∧ c ≠ a := fun c hc => by
        have h5 := h3 c hc
        rw [Nat.testBit_or, Bool.or_eq_false_iff] at h5
        refine ⟨h5.1, fun e => ?_⟩
        subst e
        have := h5.2
        simp [Nat.testBit_shiftLeft] at this
      refine ⟨List.nodup_cons.mpr ⟨fun hm => (h4 a hm).2 rfl, h2⟩, fun c hc => ?_⟩
      rcases List.mem_cons.mp hc with rfl | hc
      · exact Bool.eq_false_iff.mpr h1
      · exact (h4 c hc).1
def bruF (k n : Nat) (w : List Int) : Bool := decide (w.length = k ^ n) && (w.all (fun x => decide (0 ≤ x) && decide (x ≤ (k : Int) - 1)) && maskOk (codesL k n w.length (w ++ w.take n)) 0)
theorem codesL_eq (k n : Nat) (l : List Int) : ∀ d i, codesL k n d (l.drop i) = (List.range' i d).map fun p => codeN k ((l.drop p).take n) := by
  intro d
  induction d with
  | zero => intro i; rfl
  | succ d ih =>
    intro i
    rw [List.range'_succ, List.map_cons]
    unfold codesL
    rw [List.tail_drop, ih (i + 1)]
theorem win_take (w : List Int) (p n : Nat) (hp : p < w.length) (hn : n ≤ w.length) : ((w ++ w.take n).drop p).take n = win w p n := by
  apply List.ext_getElem
  · rw [win_length, List.length_take, List.length_drop, List.length_append, List.length_take]; omega
  · intro j h1 h2
    rw [win_length] at h2
    have e := win_get w p n j h2
    rw [List.getD_eq_getElem?_getD, List.getElem?_eq_getElem (by rw [win_length]; exact h2), Option.getD_some] at e
    rw [e, List.getElem_take, List.getElem_drop]
    by_cases c : p + j < w.length
    · rw [List.getElem_append_left c, Nat.mod_eq_of_lt c, List.getD_eq_getElem?_getD, List.getElem?_eq_getElem c, Option.getD_some]
    · have hm : (p + j) % w.length = p + j - w.length := by
        rw [Nat.mod_eq_sub_mod (by omega), Nat.mod_eq_of_lt (by omega)]
      rw [List.getElem_append_right (by omega), List.getElem_take, hm, List.getD_eq_getElem?_getD, List.getElem?_eq_getElem (by omega), Option.getD_some]
theorem bruF_ok {k n : Nat} {w : List Int} (hn : n ≤ w.length) (h : bruF k n w = true) : bruijnB w n k = true ∧ w.length = k ^ n ∧ ∀ x ∈ w, 0 ≤ x ∧ x ≤ (k : Int) - 1 := by
  simp only [bruF, Bool.and_eq_true, decide_eq_true_eq, List.all_eq_true] at h
  obtain ⟨h1, h2, h3⟩ := h
  have e : codesL k n w.length (w ++ w.take n) = codesM w n k := by
    have := codesL_eq k n (w ++ w.take n) w.length 0
    rw [List.drop_zero] at this
    rw [this]
    unfold codesM
    refine List.map_congr_left (fun p hp => ?_)
    rw [win_take w p n (by simpa [List.mem_range'_1] using hp) hn]
  rw [e] at h3
  have hnd := (maskOk_nodup _ 0 h3 (fun c hc => (codesM_range h2 c hc).1)).1
  refine ⟨?_, h1, h2⟩
  simp only [bruijnB, Bool.and_eq_true, decide_eq_true_eq]
  exact ⟨h1, hnd⟩

def sumI (l : List Int) : Int := l.foldl (fun a x => a + x) 0
theorem sumI_take (l : List Int) (i : Nat) (h : i < l.length) : sumI (l.take (i + 1)) = sumI (l.take i) + rd l (i : Int) := by
  unfold sumI
  rw [take_rd l i h, List.foldl_append]; rfl
theorem sumI_range : ∀ (l : List Int) (a : Int), (∀ x ∈ l, 0 ≤ x ∧ x ≤ 5) → a ≤ l.foldl (fun a x => a + x) a ∧ l.foldl (fun a x => a + x) a ≤ a + 5 * (l.length : Int) ∧ (l.foldl (fun a x => a + x) a = a → ∀ x ∈ l, x = 0) := by
  intro l
  induction l with
  | nil => intro a _; exact ⟨Int.le_refl _, by simp, fun _ x hx => by cases hx⟩
  | cons b l ih =>
    intro a h
    have hb := h b (by simp)
    obtain ⟨h1, h2, h3⟩ := ih (a + b) (fun x hx => h x (by simp [hx]))
    rw [List.foldl_cons, List.length_cons]
    refine ⟨by omega, by omega, fun e x hx => ?_⟩
    have hb0 : b = 0 := by omega
    rcases List.mem_cons.mp hx with rfl | hx
    · exact hb0
    · exact h3 (by rw [hb0] at e ⊢; simpa using e) x hx
theorem sumI_zero (l : List Int) (h : ∀ x ∈ l, 0 ≤ x ∧ x ≤ 5) : sumI l = 0 ↔ l = List.replicate l.length 0 := by
  constructor
  · intro e
    exact List.eq_replicate_iff.mpr ⟨rfl, fun x hx => (sumI_range l 0 h).2.2 e x hx⟩
  · intro e
    rw [e]
    unfold sumI
    generalize l.length = m
    induction m with
    | zero => rfl
    | succ m ih => rw [List.replicate_succ, List.foldl_cons]; exact ih
theorem impl_sum_ev (l : List Int) (hl : l.length ≤ 1000000) (h : ∀ x ∈ l, 0 ≤ x ∧ x ≤ 5) : Ev (fun q => impl_sum.f q l) (sumI l) := by
  unfold impl_sum.f
  refine ev_iter (fun (a : Int) i q => impl_sum.l0 q a l (l.length : Int) (i : Int)) (fun a i => a + rd l (i : Int)) (fun i a => a = sumI (l.take i)) l.length ?_ l.length 0 0 (by omega) (by simp [sumI]) ?_
  · intro a i hi hI
    refine ⟨by rw [hI, sumI_take l i hi], fun r k => ?_⟩
    have hr := sumI_range (l.take i) 0 (fun x hx => h x (List.mem_of_mem_take hx))
    have hx := h (rd l (i : Int)) (by rw [rd_get l i hi]; exact List.getElem_mem hi)
    have hln : ((l.take i).length : Int) ≤ 1000000 := by simp; omega
    have h1 : 0 ≤ a := by rw [hI]; exact hr.1
    have h2 : a ≤ 5000000 := by have := hr.2.1; rw [hI]; unfold sumI; omega
    refine Ev.step (fun k => by simp only [impl_sum.l0]; rfl) (ev_pos (by omega) (ev_pos (by omega) (ev_pos (by omega) ?_)))
    rw [wrap_succ (by omega), wrap_id (x := a + rd l (i : Int)) (by omega)]
    exact k
  · intro hI
    refine Ev.step (fun k => by simp only [impl_sum.l0]; rfl) (ev_neg (by omega) (ev_some ?_))
    rw [hI, List.take_of_length_le (Nat.le_refl _)]

theorem impl_window_loop (w : List Int) (n p : Nat) (hw : 0 < w.length) (hwl : w.length ≤ 1000000000000) (hn : n ≤ 1000000000000) (hp : p ≤ 1000000000000) : ∀ (d i : Nat) (acc : List Int), i + d = n → acc.length = i →
    Ev (fun k => impl_window.l0 k w (p : Int) acc (n : Int) (i : Int)) (acc ++ (List.range' i d).map fun j => w.getD ((p + j) % w.length) 0) := by
  intro d
  induction d with
  | zero =>
    intro i acc h ha
    refine Ev.step (f := fun _ => some acc) (fun k => ?_) (ev_some (by simp))
    simp only [impl_window.l0]; rw [if_neg (by omega)]
  | succ d ih =>
    intro i acc h ha
    refine Ev.step (f := fun k => impl_window.l0 k w (p : Int) (acc ++ [w.getD ((p + i) % w.length) 0]) (n : Int) ((i + 1 : Nat) : Int)) (fun k => ?_) (ev_to (ih (i + 1) _ (by omega) (by simp [ha])) ?_)
    · simp only [impl_window.l0]
      rw [if_pos (by omega), if_neg (by omega), wrap_id (x := (p : Int) + (i : Int)) (by omega), show (p : Int) + (i : Int) = ((p + i : Nat) : Int) by omega, tmod_nat, wrap_succ (by omega)]
      have hm := Nat.mod_lt (p + i) hw
      rw [if_pos (by omega), if_pos (by omega), if_pos (by omega), rd_nat]
    · simp [List.range'_succ]
theorem impl_window_ev (w : List Int) (n p : Nat) (hw : 0 < w.length) (hwl : w.length ≤ 1000000000000) (hn : n ≤ 1000000000000) (hp : p ≤ 1000000000000) : Ev (fun k => impl_window.f k w (n : Int) (p : Int)) (win w p n) :=
  ev_to (impl_window_loop w n p hw hwl hn hp n 0 [] (by omega) rfl) (by simp [win])

theorem spec_brStands_loop (w g : List Int) (p : Nat) (hw : 0 < w.length) (hwl : w.length ≤ 1000000000000) (hg : g.length ≤ 1000000000000) (hp : p ≤ 1000000000000) : ∀ (d i : Nat), i + d = g.length →
    Ev (fun k => spec_brStands.l0 k w (p : Int) g (g.length : Int) (i : Int)) (decide ((win w p g.length).drop i = g.drop i)) := by
  intro d
  induction d with
  | zero =>
    intro i h
    rw [List.drop_eq_nil_of_le (by rw [win_length]; omega), List.drop_eq_nil_of_le (by omega)]
    refine Ev.step (f := fun _ => some true) (fun k => ?_) (Ev.now _)
    simp only [spec_brStands.l0]; rw [if_neg (by omega)]
  | succ d ih =>
    intro i h
    rw [drop_rd (win w p g.length) i (by rw [win_length]; omega), drop_rd g i (by omega)]
    have hm := Nat.mod_lt (p + i) hw
    have e1 : rd (win w p g.length) (i : Int) = rd w (((p + i) % w.length : Nat) : Int) := by rw [rd_nat, rd_nat, win_get _ _ _ _ (by omega)]
    refine Ev.step (f := fun k => if rd w (((p + i) % w.length : Nat) : Int) = rd g (i : Int) then spec_brStands.l0 k w (p : Int) g (g.length : Int) ((i + 1 : Nat) : Int) else some false) (fun k => ?_) ?_
    · simp only [spec_brStands.l0]
      rw [if_pos (by omega), if_pos (by omega), if_pos (by omega), if_neg (by omega), wrap_id (x := (p : Int) + (i : Int)) (by omega), show (p : Int) + (i : Int) = ((p + i : Nat) : Int) by omega, tmod_nat, wrap_succ (by omega)]
      rw [if_pos (by omega), if_pos (by omega)]
    · rw [e1]
      exact ev_if (fun e => ev_to (ih (i + 1) (by omega)) (by rw [e]; simp)) (fun e => ev_some (by rw [eq_comm, decide_eq_false_iff_not]; intro h; exact e (by injection h)))
theorem spec_brStands_ev (w g : List Int) (p : Nat) (hw : 0 < w.length) (hwl : w.length ≤ 1000000000000) (hg : g.length ≤ 1000000000000) (hp : p ≤ 1000000000000) :
    Ev (fun k => spec_brStands.f k w g (p : Int)) (decide (win w p g.length = g)) :=
  spec_brStands_loop w g p hw hwl hg hp g.length 0 (by omega)

theorem findSome_first {ρ : Type} (F : Nat → Option ρ) (i d c : Nat) (h1 : i ≤ c) (h2 : c < i + d) (h3 : (F c).isSome = true) : ∃ r, ((List.range' i d).findSome? F) = some r ∧ ∃ j, i ≤ j ∧ j ≤ c ∧ F j = some r := by
  induction d generalizing i with
  | zero => omega
  | succ d ih =>
    rw [List.range'_succ, List.findSome?_cons]
    cases hf : F i with
    | some r => exact ⟨r, rfl, i, Nat.le_refl _, h1, hf⟩
    | none =>
      by_cases e : i = c
      · subst e; rw [hf] at h3; cases h3
      · obtain ⟨r, hr, j, j1, j2, j3⟩ := ih (i + 1) (by omega) (by omega)
        exact ⟨r, hr, j, by omega, j2, j3⟩

/-- The first place from i on at which so many zeros stand and something is so. -/
def zerosF (w : List Int) (n : Nat) (P : Nat → Bool) : Option Int := (List.range' 0 w.length).findSome? fun (i : Nat) => if win w i n = List.replicate n 0 ∧ P i = true then some (i : Int) else none
theorem impl_zerosAt_ev (w : List Int) (n : Nat) (p : Int → Option Bool) (P : Nat → Bool) (hw : w.length ≤ 1024) (hn : n ≤ 1000) (hx : ∀ x ∈ w, 0 ≤ x ∧ x ≤ 5) (hp : ∀ i : Nat, i < w.length → p (i : Int) = some (P i)) :
    Ev (fun q => impl_zerosAt.f p q w (n : Int)) ((zerosF w n P).getD (-1)) := by
  unfold impl_zerosAt.f zerosF
  refine ev_find (fun i q => impl_zerosAt.l0 p q w (n : Int) (i : Int)) _ w.length (-1) ?_ ?_ w.length 0 (by omega)
  · intro i hi
    have hwx : ∀ x ∈ win w i n, 0 ≤ x ∧ x ≤ 5 := fun x h => hx x (mem_win (by omega) h)
    have hz : sumI (win w i n) = 0 ↔ win w i n = List.replicate n 0 := by
      have := sumI_zero (win w i n) hwx
      rw [win_length] at this
      exact this
    have hstep : ∀ r, Ev (fun q => if win w i n = List.replicate n 0 ∧ P i = true then some (i : Int) else impl_zerosAt.l0 p q w (n : Int) ((i + 1 : Nat) : Int)) r → Ev (fun q => impl_zerosAt.l0 p q w (n : Int) (i : Int)) r := by
      intro r h
      refine Ev.step (fun k => by simp only [impl_zerosAt.l0]; rfl) (ev_pos (by omega) ?_)
      refine ev_call (impl_window_ev w n i (by omega) (by omega) (by omega) (by omega)) (ev_call (impl_sum_ev _ (by rw [win_length]; omega) hwx) ?_)
      rw [wrap_succ (by omega)]
      by_cases c : win w i n = List.replicate n 0
      · refine ev_pos (hz.mpr c) (ev_plain (hp i hi) ?_)
        by_cases c2 : P i = true
        · simp only [c, c2, and_self, if_true] at h
          exact ev_pos c2 h
        · simp only [c, c2, and_false, if_false] at h
          exact ev_neg c2 h
      · simp only [c, false_and, if_false] at h
        exact ev_neg (fun e => c (hz.mp e)) h
    refine ⟨fun r hr => hstep r ?_, fun hr r h => hstep r ?_⟩
    · split at hr
      · rename_i h1
        obtain rfl := Option.some.inj hr
        exact ev_pos h1 (Ev.now _)
      · cases hr
    · split at hr
      · cases hr
      · rename_i h1
        exact ev_neg h1 h
  · exact Ev.step (fun k => by simp only [impl_zerosAt.l0]; rfl) (ev_neg (by omega) (Ev.now _))
def prevNZ (w : List Int) (i : Nat) : Bool := decide (¬ rd w (((i + w.length - 1) % w.length : Nat) : Int) = 0)
theorem spec_brZeros_ev (w : List Int) (n : Nat) (hw : w.length ≤ 1024) (hn : n ≤ 1000) :
    Ev (fun q => spec_brZeros.f q w (n : Int)) ((zerosF w n (prevNZ w)).getD (-1)) := by
  unfold spec_brZeros.f zerosF
  refine ev_find (fun i q => spec_brZeros.l0 q w (n : Int) (w.length : Int) (i : Int)) _ w.length (-1) ?_ ?_ w.length 0 (by omega)
  · intro i hi
    have hm := Nat.mod_lt (i + w.length - 1) (show 0 < w.length by omega)
    have hstep : ∀ r, Ev (fun q => if win w i n = List.replicate n 0 ∧ prevNZ w i = true then some (i : Int) else spec_brZeros.l0 q w (n : Int) (w.length : Int) ((i + 1 : Nat) : Int)) r → Ev (fun q => spec_brZeros.l0 q w (n : Int) (w.length : Int) (i : Int)) r := by
      intro r h
      have hst := spec_brStands_ev w (List.replicate n 0) i (by omega) (by omega) (by simp; omega) (by omega)
      rw [List.length_replicate] at hst
      refine Ev.step (fun k => by simp only [spec_brZeros.l0]; rfl) (ev_pos (by omega) (ev_pos (by omega) (ev_pos (by omega) ?_)))
      rw [Int.toNat_natCast, wrap_succ (by omega), wrap_id (x := (i : Int) + (w.length : Int)) (by omega), wrap_id (x := (i : Int) + (w.length : Int) - 1) (by omega), show (i : Int) + (w.length : Int) - 1 = ((i + w.length - 1 : Nat) : Int) by omega, tmod_nat]
      refine ev_call hst ?_
      by_cases c : win w i n = List.replicate n 0
      · refine ev_pos (by simpa using c) (ev_neg (by omega) (ev_pos (by omega) (ev_pos (by omega) ?_)))
        by_cases c2 : rd w (((i + w.length - 1) % w.length : Nat) : Int) = 0
        · have c3 : prevNZ w i = false := by unfold prevNZ; exact decide_eq_false (fun h => h c2)
          simp only [c, c3, Bool.false_eq_true, and_false, if_false] at h
          exact ev_pos c2 h
        · have c3 : prevNZ w i = true := by unfold prevNZ; exact decide_eq_true c2
          simp only [c, c3, and_self, if_true] at h
          exact ev_neg c2 h
      · simp only [c, false_and, if_false] at h
        exact ev_neg (by simpa using c) h
    refine ⟨fun r hr => hstep r ?_, fun hr r h => hstep r ?_⟩
    · split at hr
      · rename_i h1
        obtain rfl := Option.some.inj hr
        exact ev_pos h1 (Ev.now _)
      · cases hr
    · split at hr
      · cases hr
      · rename_i h1
        exact ev_neg h1 h
  · exact Ev.step (fun k => by simp only [spec_brZeros.l0]; rfl) (ev_neg (by omega) (Ev.now _))
/-- Where the zeros stand at one place alone, that place is told. -/
theorem zerosF_one {w : List Int} {n : Nat} {P : Nat → Bool} {q : Nat} (hq : q < w.length) (h1 : win w q n = List.replicate n 0) (hP : P q = true) (huniq : ∀ i, i < w.length → win w i n = List.replicate n 0 → i = q) : zerosF w n P = some (q : Int) := by
  unfold zerosF
  obtain ⟨r, hr, j, _, j2, hj⟩ := findSome_first (fun (i : Nat) => if win w i n = List.replicate n 0 ∧ P i = true then some (i : Int) else none) 0 w.length q (by omega) (by omega) (by show Option.isSome (if _ then _ else _) = true; rw [if_pos ⟨h1, hP⟩]; rfl)
  rw [hr]
  split at hj
  · rename_i h2
    obtain rfl := huniq j (by omega) h2.1
    exact hj.symm
  · cases hj
theorem win_zeros_prev {w : List Int} {n q : Nat} (hq : q < w.length) (h1 : win w q n = List.replicate n 0) (h2 : rd w (((q + w.length - 1) % w.length : Nat) : Int) = 0) : win w ((q + w.length - 1) % w.length) n = List.replicate n 0 := by
  have hm := Nat.mod_lt (q + w.length - 1) (show 0 < w.length by omega)
  refine List.eq_replicate_iff.mpr ⟨win_length _ _ _, fun x hx => ?_⟩
  obtain ⟨j, hj, rfl⟩ := List.getElem_of_mem hx
  rw [win_length] at hj
  have e := win_get w ((q + w.length - 1) % w.length) n j hj
  rw [List.getD_eq_getElem?_getD, List.getElem?_eq_getElem (by rw [win_length]; exact hj), Option.getD_some] at e
  rw [e]
  by_cases c : j = 0
  · subst c
    rw [Nat.add_zero, Nat.mod_mod, ← rd_nat]; exact h2
  · have e2 := win_get w q n (j - 1) (by omega)
    rw [h1] at e2
    have e3 : (List.replicate n (0 : Int)).getD (j - 1) 0 = 0 := by simp [List.getD_eq_getElem?_getD, List.getElem?_replicate]; split <;> rfl
    rw [e3] at e2
    have e4 : ((q + w.length - 1) % w.length + j) % w.length = (q + (j - 1)) % w.length := by
      rw [Nat.mod_add_mod, show q + w.length - 1 + j = q + (j - 1) + w.length by omega, Nat.add_mod_right]
    rw [e4]; exact e2.symm

def WithoutZeroM (w : List Int) (n k : Int) : List Int × Bool := if kindB n k = true ∧ cycleB w k = true ∧ bruijnB w n.toNat k.toNat = true then (w.take ((zerosF w n.toNat (fun _ => true)).getD 0).toNat ++ w.drop (((zerosF w n.toNat (fun _ => true)).getD 0).toNat + 1), true) else ([], false)
theorem WithoutZeroM_length (w : List Int) (n k : Int) : (WithoutZeroM w n k).1.length ≤ 1024 := by
  unfold WithoutZeroM
  split
  · rename_i h
    have := (cycleB_iff.mp h.2.1).2.1
    simp; omega
  · simp
theorem bru_zero {w : List Int} {n k : Nat} (hk2 : 2 ≤ k) (hn : 1 ≤ n) (hb : bruijnB w n k = true) (hx : ∀ x ∈ w, 0 ≤ x ∧ x ≤ (k : Int) - 1) (hw : 0 < w.length) : ∃ q, q < w.length ∧ win w q n = List.replicate n 0 ∧ (∀ i, i < w.length → win w i n = List.replicate n 0 → i = q) ∧ prevNZ w q = true := by
  obtain ⟨q, hq, h1, h2⟩ := bru_places hb hx hw (List.replicate n 0) (by simp) (fun x h => by have := List.eq_of_mem_replicate h; omega)
  have huniq : ∀ i, i < w.length → win w i n = List.replicate n 0 → i = q := fun i hi h => bru_code_inj hb hi hq (by rw [h, h1])
  refine ⟨q, hq, h1, huniq, ?_⟩
  unfold prevNZ
  refine decide_eq_true (fun h => ?_)
  have hm := Nat.mod_lt (q + w.length - 1) (show 0 < w.length by omega)
  have e := huniq _ hm (win_zeros_prev hq h1 h)
  have hlen : w.length = k ^ n := by
    simp only [bruijnB, Bool.and_eq_true, decide_eq_true_eq] at hb
    exact hb.1
  have h2n : 2 ≤ k ^ n := by
    have h3 : k ^ 1 ≤ k ^ n := Nat.pow_le_pow_right (by omega) hn
    rw [Nat.pow_one] at h3
    omega
  by_cases c : q = 0
  · subst c
    rw [Nat.zero_add, Nat.mod_eq_of_lt (by omega)] at e
    omega
  · rw [show q + w.length - 1 = (q - 1) + w.length by omega, Nat.add_mod_right, Nat.mod_eq_of_lt (by omega)] at e
    omega

theorem impl_within_eq (a lo hi : Int) : impl_within.f a lo hi = some (inB a lo hi) := by
  unfold impl_within.f inB
  by_cases h : a ≥ lo
  · rw [if_pos h]; simp [h]
  · rw [if_neg h]; simp [show ¬ lo ≤ a from h]

theorem impl_power_ev (a n : Nat) (ha : a ≤ 6) (hn : n ≤ 12) : Ev (fun k => impl_power.f k (a : Int) (n : Int)) ((a ^ n : Nat) : Int) := by
  have hb : ∀ j, j ≤ n → a ^ j ≤ 2176782336 := fun j hj => Nat.le_trans (Nat.pow_le_pow_left ha j) (Nat.le_trans (Nat.pow_le_pow_right (by omega) (show j ≤ 12 by omega)) (by decide))
  unfold impl_power.f
  refine ev_iter (fun (o : Nat) i k => impl_power.l0 k (a : Int) (o : Int) (n : Int) (i : Int)) (fun o _ => o * a) (fun i o => o = a ^ i) n ?_ n 0 1 (by omega) rfl ?_
  · intro o i hi hI
    refine ⟨by rw [hI, Nat.pow_succ], fun r k => ?_⟩
    have h1 := hb (i + 1) (by omega)
    rw [Nat.pow_succ, ← hI] at h1
    refine Ev.step (fun k => by simp only [impl_power.l0]; rfl) ?_
    refine ev_pos (by omega) ?_
    rw [wrap_succ (by omega), show (o : Int) * (a : Int) = ((o * a : Nat) : Int) by simp, wrap_id (by omega)]
    exact k
  · intro h
    refine Ev.step (fun k => by simp only [impl_power.l0]; rfl) (ev_neg (by omega) (ev_some (by rw [h])))

theorem impl_isBruijnSize_ev (n k : Int) : Ev (fun q => impl_isBruijnSize.f q n k) (kindB n k) := by
  unfold impl_isBruijnSize.f kindB
  refine ev_plain (impl_within_eq _ _ _) (ev_if (fun h1 => ?_) (fun h1 => ev_some (by simp [Bool.eq_false_iff.mpr h1])))
  refine ev_plain (impl_within_eq _ _ _) (ev_if (fun h2 => ?_) (fun h2 => ev_some (by simp [Bool.eq_false_iff.mpr h2])))
  have e1 := inB_iff.mp h1
  have e2 := inB_iff.mp h2
  obtain ⟨n, rfl⟩ := Int.eq_ofNat_of_zero_le (show 0 ≤ n by omega)
  obtain ⟨k, rfl⟩ := Int.eq_ofNat_of_zero_le (show 0 ≤ k by omega)
  refine ev_call (impl_power_ev k n (by omega) (by omega)) (ev_some ?_)
  rw [h1, h2]
  simp only [Bool.true_and, Int.toNat_natCast]
  exact decide_eq_decide.mpr (by omega)

theorem impl_allWithin_loop (lo hi : Int) (xs : List Int) (hx : xs.length ≤ 1000000000000) : ∀ (d i : Nat), i + d = xs.length →
    Ev (fun k => impl_allWithin.l0 k lo hi xs (xs.length : Int) (i : Int)) (allB (xs.drop i) lo hi) := by
  intro d
  induction d with
  | zero =>
    intro i h
    rw [List.drop_eq_nil_of_le (by omega)]
    refine Ev.step (f := fun _ => some true) (fun k => ?_) (Ev.now _)
    simp only [impl_allWithin.l0]; rw [if_neg (by omega)]
  | succ d ih =>
    intro i h
    have hlt : i < xs.length := by omega
    rw [drop_rd xs i hlt]
    refine Ev.step (f := fun k => if inB (rd xs (i : Int)) lo hi = true then impl_allWithin.l0 k lo hi xs (xs.length : Int) ((i + 1 : Nat) : Int) else some false) (fun k => ?_) ?_
    · simp only [impl_allWithin.l0]; rw [if_pos (by omega), if_pos (by omega), if_pos (by omega), impl_within_eq, wrap_succ (by omega)]; rfl
    · by_cases hb : inB (rd xs (i : Int)) lo hi = true
      · exact ev_pos hb (ev_to (ih (i + 1) (by omega)) (by simp [allB, hb]))
      · exact ev_neg hb (ev_some (by simp [allB, Bool.eq_false_iff.mpr hb]))
theorem impl_allWithin_ev (lo hi : Int) (xs : List Int) (hx : xs.length ≤ 1000000000000) : Ev (fun k => impl_allWithin.f k xs lo hi) (allB xs lo hi) :=
  impl_allWithin_loop lo hi xs hx xs.length 0 (by omega)

theorem impl_IsCycle_ev (xs : List Int) (k : Int) (hx : xs.length ≤ 1000000000000) (hk : -9223372036854775808 ≤ k) (hk2 : k ≤ 9223372036854775807) : Ev (fun n => impl_IsCycle.f n xs k) (cycleB xs k) := by
  unfold impl_IsCycle.f cycleB
  refine ev_plain (impl_within_eq _ _ _) ?_
  refine ev_if (fun h => ?_) (fun h => ev_some (by simp [Bool.eq_false_iff.mpr h]))
  refine ev_plain (impl_within_eq _ _ _) ?_
  refine ev_if (fun h2 => ?_) (fun h2 => ev_some (by simp [Bool.eq_false_iff.mpr h2]))
  have h' := inB_iff.mp h
  rw [wrap_id (by omega)]
  exact ev_call (impl_allWithin_ev _ _ _ hx) (ev_some (by simp [h, h2]))

theorem impl_codes_in (w acc : List Int) (n k i : Nat) (r : List Int) (hk : 2 ≤ k) (hk6 : k ≤ 6) (h : k ^ n ≤ 1024) (hn : n ≤ 1000) (hw : w.length ≤ 1024) (hx : ∀ x ∈ w, 0 ≤ x ∧ x ≤ (k : Int) - 1) (ha : acc.length ≤ 1024) (hi : i < w.length)
    (q : Ev (fun q => impl_codes.l0 q w (n : Int) (k : Int) (acc ++ [codeN k (win w i n)]) (w.length : Int) ((i + 1 : Nat) : Int)) r) :
    Ev (fun q => impl_codes.l1 q w (n : Int) (k : Int) acc 0 (w.length : Int) (i : Int) (win w i n) ((win w i n).length : Int) 0) r := by
  have hwl := win_length w i n
  refine ev_iter (fun (c : Int) j q => impl_codes.l1 q w (n : Int) (k : Int) acc c (w.length : Int) (i : Int) (win w i n) ((win w i n).length : Int) (j : Int)) (fun c j => wrap64 (wrap64 (c * (k : Int)) + rd (win w i n) (j : Int))) (fun j c => c = codeN k ((win w i n).take j)) (win w i n).length ?_ (win w i n).length 0 0 (by omega) (by simp [codeN]) ?_
  · intro c j hj hI
    refine ⟨by rw [hI]; exact code_step hk hk6 h hwl (fun x hx' => hx x (mem_win (by omega) hx')) (by omega), fun r q => ?_⟩
    refine Ev.step (fun k => by simp only [impl_codes.l1]; rfl) ?_
    rw [wrap_succ (i := j) (by omega)]
    exact ev_pos (by omega) (ev_pos (by omega) (ev_pos (by omega) q))
  · intro hI
    refine Ev.step (fun k => by simp only [impl_codes.l1]; rfl) (ev_neg (by omega) (ev_pos (by omega) ?_))
    rw [hI, List.take_of_length_le (by omega), wrap_succ (i := i) (by omega)]
    exact q
theorem impl_codes_ev (w : List Int) (n k : Nat) (hk : 2 ≤ k) (hk6 : k ≤ 6) (h : k ^ n ≤ 1024) (hn : n ≤ 1000) (hw : w.length ≤ 1024) (hx : ∀ x ∈ w, 0 ≤ x ∧ x ≤ (k : Int) - 1) : Ev (fun q => impl_codes.f q w (n : Int) (k : Int)) (codesM w n k) := by
  unfold impl_codes.f
  refine ev_iter (fun (acc : List Int) i q => impl_codes.l0 q w (n : Int) (k : Int) acc (w.length : Int) (i : Int)) (fun acc i => acc ++ [codeN k (win w i n)]) (fun i acc => acc = (codesM w n k).take i) w.length ?_ w.length 0 [] (by omega) (by simp) ?_
  · intro acc i hi hI
    refine ⟨by rw [hI, codesM_take w n k i hi], fun r q => ?_⟩
    refine Ev.step (fun k => by simp only [impl_codes.l0]; rfl) (ev_pos (by omega) (ev_call (impl_window_ev w n i (by omega) (by omega) (by omega) (by omega)) ?_))
    exact impl_codes_in w acc n k i r hk hk6 h hn hw hx (by rw [hI]; simp; omega) hi q
  · intro hI
    exact Ev.step (fun k => by simp only [impl_codes.l0]; rfl) (ev_neg (by omega) (ev_some (by rw [hI, List.take_of_length_le (by rw [codesM_length]; omega)])))

theorem impl_increasing_loop (l : List Int) (hl : l.length ≤ 1000000000000) : ∀ (d j : Nat), j + 1 + d = l.length → Ev (fun k => impl_increasing.l0 k l ((j + 1 : Nat) : Int)) (chainB (l.drop j)) := by
  intro d
  induction d with
  | zero =>
    intro j h
    rw [drop_rd l j (by omega), List.drop_eq_nil_of_le (by omega)]
    exact Ev.step (fun k => by simp only [impl_increasing.l0]; rfl) (ev_neg (by omega) (ev_some (by simp [chainB])))
  | succ d ih =>
    intro j h
    rw [drop_rd l j (by omega), drop_rd l (j + 1) (by omega)]
    refine Ev.step (fun k => by simp only [impl_increasing.l0]; rfl) ?_
    rw [wrap_pred (by omega), wrap_succ (by omega)]
    refine ev_pos (by omega) (ev_pos (by omega) (ev_pos (by omega) (ev_pos (by omega) ?_)))
    refine ev_if (fun e => ev_some ?_) (fun e => ev_to (ih (j + 1) (by omega)) ?_)
    · simp only [chainB]; rw [decide_eq_false (by omega)]; rfl
    · rw [drop_rd l (j + 1) (by omega)]; simp only [chainB]; rw [decide_eq_true (by omega)]; rfl
theorem impl_increasing_ev (l : List Int) (hl : l.length ≤ 1000000000000) : Ev (fun k => impl_increasing.f k l) (chainB l) := by
  unfold impl_increasing.f
  by_cases h : l.length = 0
  · obtain rfl := List.eq_nil_of_length_eq_zero h
    exact Ev.step (fun k => by simp only [impl_increasing.l0]; rfl) (ev_neg (by simp) (Ev.now _))
  · exact impl_increasing_loop l hl (l.length - 1) 0 (by omega)

theorem impl_different_ev (l : List Int) (hl : l.length ≤ 1000000000000) : Ev (fun k => impl_different.f k l) (decide l.Nodup) := by
  unfold impl_different.f
  refine ev_pos (by omega) ?_
  rw [← chain_srt]
  exact impl_increasing_ev (srt l) (by rw [srt_length]; exact hl)

theorem impl_isBruijn_ev (w : List Int) (n k : Nat) (hk : 2 ≤ k) (hk6 : k ≤ 6) (h : k ^ n ≤ 1024) (hn : n ≤ 10) (hw : w.length ≤ 1024) (hx : ∀ x ∈ w, 0 ≤ x ∧ x ≤ (k : Int) - 1) : Ev (fun q => impl_isBruijn.f q w (n : Int) (k : Int)) (bruijnB w n k) := by
  unfold impl_isBruijn.f bruijnB
  refine ev_call (impl_power_ev k n hk6 (by omega)) (ev_if (fun e => ?_) (fun e => ev_some (by rw [decide_eq_false (by omega)]; rfl)))
  refine ev_call (impl_codes_ev w n k hk hk6 h (by omega) hw hx) (ev_call (impl_different_ev _ (by rw [codesM_length]; omega)) (ev_some ?_))
  rw [decide_eq_true (show w.length = k ^ n by omega)]; rfl

theorem impl_WithoutZero_ev (w : List Int) (n k : Int) (hw : w.length ≤ 1048576) (hk : -9223372036854775808 ≤ k ∧ k ≤ 9223372036854775807) : Ev (fun q => impl_WithoutZero.f q w n k) (WithoutZeroM w n k) := by
  unfold impl_WithoutZero.f WithoutZeroM
  refine ev_call (impl_isBruijnSize_ev n k) (ev_if (fun h1 => ?_) (fun h1 => ev_some (by rw [if_neg (fun h => h1 h.1)])))
  refine ev_call (impl_IsCycle_ev w k (by omega) hk.1 hk.2) (ev_if (fun h2 => ?_) (fun h2 => ev_some (by rw [if_neg (fun h => h2 h.2.1)])))
  obtain ⟨n, k, rfl, rfl, n1, n2, k1, k2, hp⟩ := kindB_nat h1
  have hc := cycleB_iff.mp h2
  rw [Int.toNat_natCast, Int.toNat_natCast]
  refine ev_call (impl_isBruijn_ev w n k k1 k2 hp n2 (by omega) (fun x hx => hc.2.2 x hx)) (ev_if (fun h3 => ?_) (fun h3 => ev_some (by rw [if_neg (fun h => h3 h.2.2)])))
  rw [if_pos ⟨h1, h2, h3⟩]
  obtain ⟨q, hq, g1, g2, g3⟩ := bru_zero k1 n1 h3 hc.2.2 (by omega)
  have hz := zerosF_one (P := fun _ => true) hq g1 rfl g2
  have hza := impl_zerosAt_ev w n (fun _ => some true) (fun _ => true) (by omega) (by omega) (fun x hx => by have := hc.2.2 x hx; omega) (fun i _ => rfl)
  rw [hz] at hza ⊢
  refine ev_call hza ?_
  have hcp : impl_copied.f w = some w := by
    unfold impl_copied.f
    rw [Option.bind_some, if_pos (by simp; omega), List.nil_append]
  refine ev_plain hcp ?_
  unfold impl_WithoutZero.cut
  simp only [Option.getD_some, Int.toNat_natCast]
  exact ev_pos (by omega) (ev_pos (by omega) (ev_pos (by omega) (Ev.now _)))

theorem spec_l1All_loop (lo hi : Int) (xs : List Int) (hx : xs.length ≤ 1000000000000) : ∀ (d i : Nat), i + d = xs.length →
    Ev (fun k => spec_l1All.l0 k lo hi xs (xs.length : Int) (i : Int)) (allB (xs.drop i) lo hi) := by
  intro d
  induction d with
  | zero =>
    intro i h
    rw [List.drop_eq_nil_of_le (by omega)]
    refine Ev.step (f := fun _ => some true) (fun k => ?_) (Ev.now _)
    simp only [spec_l1All.l0]; rw [if_neg (by omega)]
  | succ d ih =>
    intro i h
    have hlt : i < xs.length := by omega
    rw [drop_rd xs i hlt]
    refine Ev.step (f := fun k => if inB (rd xs (i : Int)) lo hi = true then spec_l1All.l0 k lo hi xs (xs.length : Int) ((i + 1 : Nat) : Int) else some false) (fun k => ?_) ?_
    · simp only [spec_l1All.l0]; rw [if_pos (by omega), if_pos (by omega), if_pos (by omega), spec_l1In_eq, wrap_succ (by omega)]; rfl
    · by_cases hb : inB (rd xs (i : Int)) lo hi = true
      · exact ev_pos hb (ev_to (ih (i + 1) (by omega)) (by simp [allB, hb]))
      · exact ev_neg hb (ev_some (by simp [allB, Bool.eq_false_iff.mpr hb]))
theorem spec_l1All_ev (lo hi : Int) (xs : List Int) (hx : xs.length ≤ 1000000000000) : Ev (fun k => spec_l1All.f k xs lo hi) (allB xs lo hi) :=
  spec_l1All_loop lo hi xs hx xs.length 0 (by omega)

theorem spec_brCycle_ev (xs : List Int) (k : Int) (hx : xs.length ≤ 1000000000000) (hk : -9223372036854775808 ≤ k) (hk2 : k ≤ 9223372036854775807) : Ev (fun n => spec_brCycle.f n xs k) (cycleB xs k) := by
  unfold spec_brCycle.f cycleB
  refine ev_plain (spec_l1In_eq _ _ _) ?_
  refine ev_if (fun h => ?_) (fun h => ev_some (by simp [Bool.eq_false_iff.mpr h]))
  refine ev_plain (spec_l1In_eq _ _ _) ?_
  refine ev_if (fun h2 => ?_) (fun h2 => ev_some (by simp [Bool.eq_false_iff.mpr h2]))
  have h' := inB_iff.mp h
  rw [wrap_id (by omega)]
  exact ev_call (spec_l1All_ev _ _ _ hx) (ev_some (by simp [h, h2]))

theorem spec_brNumber_ev (xs : List Int) (n k : Nat) (hk : 2 ≤ k) (hk6 : k ≤ 6) (h : k ^ n ≤ 1024) (hx : xs.length = n) (hn : n ≤ 1000) (hxs : ∀ x ∈ xs, 0 ≤ x ∧ x ≤ (k : Int) - 1) : Ev (fun q => spec_brNumber.f q xs (k : Int)) (codeN k xs) := by
  unfold spec_brNumber.f
  refine ev_iter (fun (c : Int) j q => spec_brNumber.l0 q (k : Int) c xs (xs.length : Int) (j : Int)) (fun c j => wrap64 (wrap64 (c * (k : Int)) + rd xs (j : Int))) (fun j c => c = codeN k (xs.take j)) xs.length ?_ xs.length 0 0 (by omega) (by simp [codeN]) ?_
  · intro c j hj hI
    refine ⟨by rw [hI]; exact code_step hk hk6 h hx hxs (by omega), fun r q => ?_⟩
    refine Ev.step (fun k => by simp only [spec_brNumber.l0]; rfl) ?_
    rw [wrap_succ (i := j) (by omega)]
    exact ev_pos (by omega) (ev_pos (by omega) (ev_pos (by omega) q))
  · intro hI
    exact Ev.step (fun k => by simp only [spec_brNumber.l0]; rfl) (ev_neg (by omega) (ev_some (by rw [hI, List.take_of_length_le (by omega)])))

theorem spec_brNumbers_ev (w : List Int) (n k : Nat) (hk : 2 ≤ k) (hk6 : k ≤ 6) (h : k ^ n ≤ 1024) (hn : n ≤ 1000) (hw : w.length ≤ 1024) (hx : ∀ x ∈ w, 0 ≤ x ∧ x ≤ (k : Int) - 1) : Ev (fun q => spec_brNumbers.f q w (n : Int) (k : Int)) (codesM w n k) := by
  unfold spec_brNumbers.f
  refine ev_iter (fun (acc : List Int) i q => spec_brNumbers.l0 q w (n : Int) (k : Int) acc (w.length : Int) (i : Int)) (fun acc i => acc ++ [codeN k (win w i n)]) (fun i acc => acc = (codesM w n k).take i) w.length ?_ w.length 0 [] (by omega) (by simp) ?_
  · intro acc i hi hI
    refine ⟨by rw [hI, codesM_take w n k i hi], fun r q => ?_⟩
    refine Ev.step (fun k => by simp only [spec_brNumbers.l0]; rfl) ?_
    rw [wrap_succ (i := i) (by omega)]
    exact ev_pos (by omega) (ev_call (spec_brWindow_ev w n i (by omega) (by omega) (by omega) (by omega)) (ev_call (spec_brNumber_ev _ n k hk hk6 h (win_length _ _ _) hn (fun x hx' => hx x (mem_win (by omega) hx'))) (ev_pos (by rw [hI]; simp; omega) q)))
  · intro hI
    exact Ev.step (fun k => by simp only [spec_brNumbers.l0]; rfl) (ev_neg (by omega) (ev_some (by rw [hI, List.take_of_length_le (by rw [codesM_length]; omega)])))

theorem spec_brDifferent_loop (l : List Int) (most : Nat) (hl : l.length ≤ 1000000000000) (hx : ∀ x ∈ l, 0 ≤ x ∧ x < (most : Int)) : ∀ (d i : Nat) (seen : List Bool), i + d = l.length → seen.length = most →
    (∀ v : Nat, v < most → seen.getD v false = decide ((v : Int) ∈ l.take i)) → (l.take i).Nodup → Ev (fun k => spec_brDifferent.l0 k seen l (l.length : Int) (i : Int)) (decide l.Nodup) := by
  intro d
  induction d with
  | zero =>
    intro i seen h1 h2 h3 h4
    rw [List.take_of_length_le (by omega)] at h4
    exact Ev.step (fun k => by simp only [spec_brDifferent.l0]; rfl) (ev_neg (by omega) (ev_some (by simp [h4])))
  | succ d ih =>
    intro i seen h1 h2 h3 h4
    have hmem : rd l (i : Int) ∈ l := by rw [rd_get l i (by omega)]; exact List.getElem_mem _
    have hr := hx _ hmem
    obtain ⟨v, hv⟩ := Int.eq_ofNat_of_zero_le hr.1
    have hs := h3 v (by omega)
    have ht := take_rd l i (by omega)
    have hsplit : l = l.take i ++ rd l (i : Int) :: l.drop (i + 1) := by rw [← drop_rd l i (by omega), List.take_append_drop]
    refine Ev.step (fun k => by simp only [spec_brDifferent.l0]; rfl) ?_
    rw [wrap_succ (by omega), hv, Int.toNat_natCast]
    refine ev_pos (by omega) (ev_pos (by omega) (ev_pos (by omega) (ev_pos (by omega) (ev_pos (by omega) ?_))))
    have hro : rdOf false seen (v : Int) = seen.getD v false := by simp [rdOf]
    rw [hro, hs]
    refine ev_if (fun e => ev_some ?_) (fun e => ?_)
    · rw [eq_comm, decide_eq_false_iff_not]
      intro hn
      rw [hsplit, List.nodup_append] at hn
      exact hn.2.2 _ (by simpa using e) (rd l (i : Int)) (by simp) hv.symm
    · have hni : (v : Int) ∉ l.take i := by simpa using e
      refine ih (i + 1) _ (by omega) (by simpa using h2) (fun u hu => ?_) ?_
      · rw [ht, List.getD_eq_getElem?_getD, List.getElem?_set]
        by_cases huv : v = u
        · subst huv; simp [h2, hu, hv]
        · rw [if_neg huv, ← List.getD_eq_getElem?_getD, h3 u hu]
          simp [hv]
          intro h; omega
      · rw [ht, List.nodup_append]
        refine ⟨h4, by simp, fun a ha b hb => ?_⟩
        simp only [List.mem_singleton] at hb
        rw [hb, hv]
        intro hab
        exact hni (hab ▸ ha)
theorem spec_brDifferent_ev (l : List Int) (most : Nat) (hl : l.length ≤ 1000000000000) (hm : most ≤ 1000000000000) (hx : ∀ x ∈ l, 0 ≤ x ∧ x < (most : Int)) : Ev (fun k => spec_brDifferent.f k l (most : Int)) (decide l.Nodup) := by
  unfold spec_brDifferent.f
  refine ev_pos (by omega) (ev_pos (by omega) ?_)
  rw [Int.toNat_natCast]
  refine spec_brDifferent_loop l most hl hx l.length 0 _ (by omega) (by simp) (fun v hv => ?_) (by simp)
  simp [List.getD_eq_getElem?_getD, hv]

theorem spec_brBruijn_ev (w : List Int) (n k : Nat) (hk : 2 ≤ k) (hk6 : k ≤ 6) (h : k ^ n ≤ 1024) (hn : n ≤ 10) (hw : w.length ≤ 1024) (hx : ∀ x ∈ w, 0 ≤ x ∧ x ≤ (k : Int) - 1) : Ev (fun q => spec_brBruijn.f q w (n : Int) (k : Int)) (bruijnB w n k) := by
  unfold spec_brBruijn.f bruijnB
  refine ev_call (spec_lyPower_ev k n hk6 (by omega)) (ev_if (fun e => ?_) (fun e => ev_some (by rw [decide_eq_false (by omega)]; rfl)))
  refine ev_call (spec_brNumbers_ev w n k hk hk6 h (by omega) hw hx) (ev_call (spec_lyPower_ev k n hk6 (by omega)) (ev_call (spec_brDifferent_ev _ (k ^ n) (by rw [codesM_length]; omega) (by omega) (codesM_range hx)) (ev_some ?_)))
  rw [decide_eq_true (show w.length = k ^ n by omega)]; rfl

theorem spec_WithoutZero_ev (w : List Int) (n k : Int) (hw : w.length ≤ 1048576) (hk : -9223372036854775808 ≤ k ∧ k ≤ 9223372036854775807) : Ev (fun q => spec_WithoutZero.f q w n k) (WithoutZeroM w n k) := by
  have no : ∀ n k : Int, Ev (fun q => spec_WithoutZero.j0 q w n true) (([] : List Int), false) := fun n k => Ev.step (fun k => by simp only [spec_WithoutZero.j0]; rfl) (ev_pos (by trivial) (Ev.now _))
  unfold spec_WithoutZero.f WithoutZeroM
  refine ev_call (spec_brKind_ev n k) (ev_if (fun h1 => ?_) (fun h1 => by rw [if_neg (fun h => h1 h.1)]; exact no n k))
  refine ev_call (spec_brCycle_ev w k (by omega) hk.1 hk.2) (ev_if (fun h2 => ?_) (fun h2 => by rw [if_neg (fun h => h2 h.2.1)]; exact no n k))
  obtain ⟨n, k, rfl, rfl, n1, n2, k1, k2, hp⟩ := kindB_nat h1
  have hc := cycleB_iff.mp h2
  rw [Int.toNat_natCast, Int.toNat_natCast]
  refine ev_call (spec_brBruijn_ev w n k k1 k2 hp n2 (by omega) (fun x hx => hc.2.2 x hx)) ?_
  by_cases h3 : bruijnB w n k = true
  · rw [if_pos ⟨h1, h2, h3⟩, h3]
    obtain ⟨q, hq, g1, g2, g3⟩ := bru_zero k1 n1 h3 hc.2.2 (by omega)
    have hz := zerosF_one (P := fun _ => true) hq g1 rfl g2
    have hz2 := zerosF_one hq g1 g3 g2
    have hza := spec_brZeros_ev w n (by omega) (by omega)
    rw [hz2] at hza
    rw [hz]
    refine Ev.step (fun k => by simp only [spec_WithoutZero.j0]; rfl) (ev_neg (by simp) (ev_call hza ?_))
    simp only [Option.getD_some, Int.toNat_natCast]
    have hown : spec_l1Own.f (w.take q) = some (w.take q) := by
      unfold spec_l1Own.f
      rw [Option.bind_some, if_pos (by simp; omega), List.nil_append]
    refine ev_pos (by omega) (ev_pos (by omega) (ev_plain hown ?_))
    rw [wrap_succ (by omega), Int.toNat_natCast]
    exact ev_pos (by omega) (ev_pos (by omega) (ev_pos (by simp; omega) (Ev.now _)))
  · rw [if_neg (fun h => h3 h.2.2), Bool.eq_false_iff.mpr h3]
    exact no n k

/-- The word with a code: so many digits, from the last one on. -/
def putD (kk : Int) : Nat → Int → List Int → List Int
  | 0, _, w => w
  | m + 1, c, w => putD kk m (Int.tdiv c kk) (w.set m (Int.tmod c kk))
theorem putD_length (kk : Int) : ∀ m c w, (putD kk m c w).length = w.length := by
  intro m
  induction m with
  | zero => intro c w; rfl
  | succ m ih => intro c w; unfold putD; rw [ih, List.length_set]
def digW (len : Nat) (kk : Int) (c : Int) : List Int := putD kk len c (List.replicate len 0)
theorem digW_length (len : Nat) (kk c : Int) : (digW len kk c).length = len := by unfold digW; rw [putD_length, List.length_replicate]
theorem putD_range (kk : Int) (hk : 1 ≤ kk) : ∀ m c w, 0 ≤ c → (∀ x ∈ w, 0 ≤ x ∧ x < kk) → ∀ x ∈ putD kk m c w, 0 ≤ x ∧ x < kk := by
  intro m
  induction m with
  | zero => intro c w _ h; exact h
  | succ m ih =>
    intro c w hc h
    unfold putD
    refine ih _ _ (Int.tdiv_nonneg hc (by omega)) (fun x hx => ?_)
    rcases List.mem_or_eq_of_mem_set hx with hx | rfl
    · exact h x hx
    · exact ⟨Int.tmod_nonneg _ hc, Int.tmod_lt_of_pos _ (by omega)⟩
theorem digW_range (len : Nat) (kk : Int) (hk : 1 ≤ kk) (c : Int) (hc : 0 ≤ c) : ∀ x ∈ digW len kk c, 0 ≤ x ∧ x < kk := by
  unfold digW
  exact putD_range kk hk len c _ hc (fun x hx => by have := List.eq_of_mem_replicate hx; omega)
theorem tdiv_small {c kk : Int} (h0 : 0 ≤ c) (hk : 1 ≤ kk) (hc : c ≤ 1000000000000) : wrap64 (Int.tdiv c kk) = Int.tdiv c kk ∧ 0 ≤ Int.tdiv c kk ∧ Int.tdiv c kk ≤ 1000000000000 := by
  obtain ⟨a, rfl⟩ := Int.eq_ofNat_of_zero_le h0
  obtain ⟨b, rfl⟩ := Int.eq_ofNat_of_zero_le (show 0 ≤ kk by omega)
  obtain ⟨q, hq⟩ : ∃ q : Nat, a / b = q := ⟨_, rfl⟩
  have e : Int.tdiv (a : Int) (b : Int) = ((a / b : Nat) : Int) := (Int.ofNat_tdiv a b).symm
  have := Nat.div_le_self a b
  rw [hq] at e this
  rw [e]
  exact ⟨wrap_id (by omega), by omega, by omega⟩
/-- A search that must end: the first hit of those counted up to some number. -/
theorem ev_hit {ρ : Type} (L : Nat → Nat → Option ρ) (F : Nat → Option ρ) (r : ρ) : ∀ d i, (∀ j, i ≤ j → j < i + d → (∀ r, F j = some r → Ev (L j) r) ∧ (F j = none → ∀ r, Ev (L (j + 1)) r → Ev (L j) r)) →
    ((List.range' i d).findSome? F) = some r → Ev (L i) r := by
  intro d
  induction d with
  | zero => intro i _ h; simp at h
  | succ d ih =>
    intro i hs h
    rw [List.range'_succ, List.findSome?_cons] at h
    obtain ⟨h1, h2⟩ := hs i (Nat.le_refl _) (by omega)
    cases hf : F i with
    | some r' =>
      rw [hf] at h
      obtain rfl := Option.some.inj h
      exact h1 _ hf
    | none =>
      rw [hf] at h
      exact h2 hf _ (ih (i + 1) (fun j hj1 hj2 => hs j (by omega) (by omega)) h)
theorem findSome_some {ρ : Type} (F : Nat → Option ρ) (i d c : Nat) (h1 : i ≤ c) (h2 : c < i + d) (h3 : (F c).isSome = true) : ∃ r, ((List.range' i d).findSome? F) = some r ∧ ∃ j, i ≤ j ∧ j ≤ c ∧ F j = some r := by
  induction d generalizing i with
  | zero => omega
  | succ d ih =>
    rw [List.range'_succ, List.findSome?_cons]
    cases hf : F i with
    | some r => exact ⟨r, rfl, i, Nat.le_refl _, h1, hf⟩
    | none =>
      by_cases e : i = c
      · subst e; rw [hf] at h3; cases h3
      · obtain ⟨r, hr, j, j1, j2, j3⟩ := ih (i + 1) (by omega) (by omega)
        exact ⟨r, hr, j, by omega, j2, j3⟩

theorem codeN_from (k : Nat) : ∀ (t : List Int) (c : Int), t.foldl (fun c x => c * (k : Int) + x) c = c * ((k ^ t.length : Nat) : Int) + codeN k t := by
  intro t
  induction t with
  | nil => intro c; simp [codeN]
  | cons x t ih =>
    intro c
    have h0 := ih (0 * (k : Int) + x)
    simp only [codeN, List.foldl_cons, List.length_cons] at *
    rw [ih (c * (k : Int) + x), h0, Nat.pow_succ]
    simp only [Int.zero_mul, Int.zero_add, Int.add_mul, Int.natCast_mul, Int.mul_assoc, Int.add_assoc]
    rw [Int.mul_comm (k : Int)]
theorem codeN_cons (k : Nat) (a : Int) (t : List Int) : codeN k (a :: t) = a * ((k ^ t.length : Nat) : Int) + codeN k t := by
  unfold codeN
  rw [List.foldl_cons, Int.zero_mul, Int.zero_add]
  exact codeN_from k t a

def shortB (w : List Int) (n k : Nat) : Bool := decide (w.length = k ^ n - 1) && (decide (codesM w n k).Nodup && !(decide ((0 : Int) ∈ codesM w n k)))
theorem code_inj_nodup {w : List Int} {n k : Nat} (hnd : (codesM w n k).Nodup) {i j : Nat} (hi : i < w.length) (hj : j < w.length) (e : codeN k (win w i n) = codeN k (win w j n)) : i = j := by
  have hpw := List.pairwise_iff_getElem.mp hnd
  have hget : ∀ i, (h : i < w.length) → (codesM w n k)[i]'(by rw [codesM_length]; exact h) = codeN k (win w i n) := fun i h => by simp [codesM]
  by_cases c : i < j
  · have := hpw i j (by rw [codesM_length]; exact hi) (by rw [codesM_length]; exact hj) c
    rw [hget i hi, hget j hj] at this
    exact absurd e this
  · by_cases c2 : j < i
    · have := hpw j i (by rw [codesM_length]; exact hj) (by rw [codesM_length]; exact hi) c2
      rw [hget i hi, hget j hj] at this
      exact absurd e.symm this
    · omega
theorem short_place {w : List Int} {n k : Nat} (hb : shortB w n k = true) (hx : ∀ x ∈ w, 0 ≤ x ∧ x ≤ (k : Int) - 1) (hw : 0 < w.length) (g : List Int) (hg : g.length = n) (hgx : ∀ x ∈ g, 0 ≤ x ∧ x ≤ (k : Int) - 1) (hg0 : codeN k g ≠ 0) :
    ∃ q, q < w.length ∧ win w q n = g := by
  simp only [shortB, Bool.and_eq_true, Bool.not_eq_true', decide_eq_true_eq, decide_eq_false_iff_not] at hb
  obtain ⟨hlen, hnd, hn0⟩ := hb
  have hwx : ∀ i, ∀ x ∈ win w i n, 0 ≤ x ∧ x ≤ (k : Int) - 1 := fun i x h => hx x (mem_win hw h)
  have hr : ∀ i, 0 ≤ codeN k (win w i n) ∧ codeN k (win w i n) < ((k ^ n : Nat) : Int) := fun i => codeN_range k n _ (win_length _ _ _) (hwx i)
  have hne : ∀ i, i < w.length → codeN k (win w i n) ≠ 0 := fun i hi e => hn0 (by rw [← e]; exact List.mem_map.mpr ⟨i, by simp [List.mem_range'_1]; exact hi, rfl⟩)
  have hrg := codeN_range k n g hg hgx
  have hex : ∃ q, q < w.length ∧ codeN k (win w q n) = codeN k g := by
    obtain ⟨i, j, h1, h2, e⟩ := pigeon w.length (fun i => if i < w.length then (codeN k (win w i n)).toNat - 1 else (codeN k g).toNat - 1) (fun i hi => by
      show (if i < w.length then (codeN k (win w i n)).toNat - 1 else (codeN k g).toNat - 1) < w.length
      split
      · have := hr i
        have := hne i (by assumption)
        omega
      · omega)
    replace e : (if i < w.length then (codeN k (win w i n)).toNat - 1 else (codeN k g).toNat - 1) = (if j < w.length then (codeN k (win w j n)).toNat - 1 else (codeN k g).toNat - 1) := e
    rw [if_pos (show i < w.length by omega)] at e
    have hi := hr i
    have hi0 := hne i (by omega)
    by_cases c : j < w.length
    · rw [if_pos c] at e
      have hj := hr j
      have hj0 := hne j c
      exact absurd (code_inj_nodup hnd (show i < w.length by omega) c (by omega)) (by omega)
    · rw [if_neg c] at e
      exact ⟨i, by omega, by omega⟩
  obtain ⟨q, hq, he⟩ := hex
  exact ⟨q, hq, codeN_injk n _ _ (win_length _ _ _) hg (hwx q) hgx he⟩
theorem short_zeros {w : List Int} {n k : Nat} (hk : 2 ≤ k) (hb : shortB w (n + 2) k = true) (hx : ∀ x ∈ w, 0 ≤ x ∧ x ≤ (k : Int) - 1) (hw : 0 < w.length) : ∃ r : Nat, r < w.length ∧ zerosF w (n + 1) (prevNZ w) = some (r : Int) := by
  have hg0 : codeN k (1 :: List.replicate (n + 1) 0) ≠ 0 := by
    rw [codeN_cons, List.length_replicate]
    have h1 := (codeN_range k (n + 1) (List.replicate (n + 1) 0) (by simp) (fun x h => by have := List.eq_of_mem_replicate h; omega)).1
    have h2 : 0 < k ^ (n + 1) := Nat.pow_pos (by omega)
    omega
  obtain ⟨q, hq, hwq⟩ := short_place hb hx hw (1 :: List.replicate (n + 1) 0) (by simp) (fun x h => by
    rcases List.mem_cons.mp h with rfl | h
    · omega
    · have := List.eq_of_mem_replicate h; omega) hg0
  have hget : ∀ j, j < n + 2 → w.getD ((q + j) % w.length) 0 = (1 :: List.replicate (n + 1) (0 : Int)).getD j 0 := fun j hj => by rw [← hwq, win_get w q (n + 2) j hj]
  have hp : ∃ p, p < w.length ∧ (∀ j, (p + j) % w.length = (q + (j + 1)) % w.length) ∧ (p + w.length - 1) % w.length = q := by
    by_cases c : q + 1 < w.length
    · exact ⟨q + 1, c, fun j => by rw [show q + 1 + j = q + (j + 1) by omega], by rw [show q + 1 + w.length - 1 = q + w.length by omega, Nat.add_mod_right, Nat.mod_eq_of_lt hq]⟩
    · refine ⟨0, hw, fun j => ?_, ?_⟩
      · rw [show q + (j + 1) = 0 + j + w.length by omega, Nat.add_mod_right]
      · rw [Nat.mod_eq_of_lt (by omega)]; omega
  obtain ⟨p, hp, h1, h2⟩ := hp
  have hz : win w p (n + 1) = List.replicate (n + 1) 0 := by
    refine List.eq_replicate_iff.mpr ⟨win_length _ _ _, fun x hx => ?_⟩
    obtain ⟨j, hj, rfl⟩ := List.getElem_of_mem hx
    rw [win_length] at hj
    have e := win_get w p (n + 1) j hj
    rw [List.getD_eq_getElem?_getD, List.getElem?_eq_getElem (by rw [win_length]; exact hj), Option.getD_some] at e
    rw [e, h1, hget (j + 1) (by omega)]
    simp [List.getD_eq_getElem?_getD, List.getElem?_replicate]
    split <;> rfl
  have hpr : prevNZ w p = true := by
    unfold prevNZ
    rw [h2]
    refine decide_eq_true (fun e => ?_)
    have := hget 0 (by omega)
    rw [Nat.add_zero, Nat.mod_eq_of_lt hq] at this
    rw [rd_nat, this] at e
    simp at e
  obtain ⟨r, hr, j, _, hj, hF⟩ := findSome_some (fun (i : Nat) => if win w i (n + 1) = List.replicate (n + 1) 0 ∧ prevNZ w i = true then some (i : Int) else none) 0 w.length p (by omega) (by omega) (by show Option.isSome (if _ then _ else _) = true; rw [if_pos ⟨hz, hpr⟩]; rfl)
  split at hF
  case isFalse => cases hF
  obtain rfl := Option.some.inj hF
  exact ⟨j, by omega, hr⟩
def WithZeroM (w : List Int) (n k : Int) : List Int × Bool := if kindB n k = true ∧ cycleB w k = true ∧ shortB w n.toNat k.toNat = true then (w.take (if n > 1 then (zerosF w (n - 1).toNat (prevNZ w)).getD 0 else 0).toNat ++ 0 :: w.drop (if n > 1 then (zerosF w (n - 1).toNat (prevNZ w)).getD 0 else 0).toNat, true) else ([], false)
theorem WithZeroM_length (w : List Int) (n k : Int) : (WithZeroM w n k).1.length ≤ 1025 := by
  unfold WithZeroM
  split
  · rename_i h
    have := (cycleB_iff.mp h.2.1).2.1
    simp; omega
  · simp

theorem slices_Index_loop (l : List Int) (x : Int) (hl : l.length ≤ 1000000000000) : ∀ (d i : Nat), i + d = l.length → ∃ r : Int, (r ≥ 0 ↔ x ∈ l.drop i) ∧ Ev (fun k => slices_Index_int_int.l0 k l x (l.length : Int) (i : Int)) r := by
  intro d
  induction d with
  | zero =>
    intro i h
    rw [List.drop_eq_nil_of_le (by omega)]
    exact ⟨-1, by simp, Ev.step (fun k => by simp only [slices_Index_int_int.l0]; rfl) (ev_neg (by omega) (Ev.now _))⟩
  | succ d ih =>
    intro i h
    rw [drop_rd l i (by omega)]
    obtain ⟨r, h1, h2⟩ := ih (i + 1) (by omega)
    by_cases e : x = rd l (i : Int)
    · refine ⟨(i : Int), by simp [e], Ev.step (fun k => by simp only [slices_Index_int_int.l0]; rfl) ?_⟩
      exact ev_pos (by omega) (ev_pos (by omega) (ev_pos (by omega) (ev_pos e (Ev.now _))))
    · refine ⟨r, by rw [h1, List.mem_cons]; exact ⟨.inr, fun h => h.resolve_left e⟩, Ev.step (fun k => by simp only [slices_Index_int_int.l0]; rfl) ?_⟩
      rw [wrap_succ (by omega)]
      exact ev_pos (by omega) (ev_pos (by omega) (ev_pos (by omega) (ev_neg e h2)))
theorem slices_Contains_int_int_ev (l : List Int) (x : Int) (hl : l.length ≤ 1000000000000) : Ev (fun k => slices_Contains_int_int.f k l x) (decide (x ∈ l)) := by
  unfold slices_Contains_int_int.f slices_Index_int_int.f
  obtain ⟨r, h1, h2⟩ := slices_Index_loop l x hl l.length 0 (by omega)
  refine ev_call h2 (ev_some (decide_eq_decide.mpr ?_))
  simpa using h1

theorem impl_WithZero_is (w : List Int) (hw : 0 < w.length) (hl : w.length ≤ 1024) (i : Nat) (hi : i < w.length) : impl_WithZero.is w (i : Int) = some (prevNZ w i) := by
  have e1 : wrap64 (wrap64 ((i : Int) + (w.length : Int)) - 1) = ((i + w.length - 1 : Nat) : Int) := by unfold wrap64; omega
  have hm := Nat.mod_lt (i + w.length - 1) hw
  unfold impl_WithZero.is prevNZ
  rw [if_neg (by omega), e1, ← Int.ofNat_eq_natCast, ← Int.ofNat_eq_natCast, show Int.tmod (Int.ofNat (i + w.length - 1)) (Int.ofNat w.length) = (((i + w.length - 1) % w.length : Nat) : Int) from rfl]
  rw [if_pos (by omega), if_pos (by rw [Int.ofNat_eq_natCast]; omega)]
  congr 1
  by_cases c : rd w (((i + w.length - 1) % w.length : Nat) : Int) = 0
  · rw [c]; rfl
  · rw [decide_eq_true c]; exact bne_iff_ne.mpr c
theorem impl_WithZero_ev (w : List Int) (n k : Int) (hw : w.length ≤ 1048576) (hk : -9223372036854775808 ≤ k ∧ k ≤ 9223372036854775807) : Ev (fun q => impl_WithZero.f q w n k) (WithZeroM w n k) := by
  unfold impl_WithZero.f WithZeroM
  refine ev_call (impl_isBruijnSize_ev n k) (ev_if (fun h1 => ?_) (fun h1 => ev_some (by rw [if_neg (fun h => h1 h.1)])))
  refine ev_call (impl_IsCycle_ev w k (by omega) hk.1 hk.2) (ev_if (fun h2 => ?_) (fun h2 => ev_some (by rw [if_neg (fun h => h2 h.2.1)])))
  obtain ⟨n, k, rfl, rfl, n1, n2, k1, k2, hp⟩ := kindB_nat h1
  have hc := cycleB_iff.mp h2
  have hkn : 0 < k ^ n := Nat.pow_pos (by omega)
  have ew : wrap64 (((k ^ n : Nat) : Int) - 1) = ((k ^ n : Nat) : Int) - 1 := by unfold wrap64; omega
  rw [Int.toNat_natCast, Int.toNat_natCast]
  refine ev_call (impl_power_ev k n k2 (by omega)) ?_
  rw [ew]
  clear ew
  refine ev_if (fun h3 => ?_) (fun h3 => ev_some (by rw [if_neg (fun h => ?_)]; have := h.2.2; simp only [shortB, Bool.and_eq_true, decide_eq_true_eq] at this; omega))
  refine ev_call (impl_codes_ev w n k k1 k2 hp (by omega) (by omega) hc.2.2) (ev_call (impl_different_ev _ (by rw [codesM_length]; omega)) (ev_if (fun h4 => ?_) (fun h4 => ev_some (by rw [if_neg (fun h => ?_)]; have := h.2.2; simp only [shortB, Bool.and_eq_true, decide_eq_true_eq] at this; exact h4 (decide_eq_true this.2.1)))))
  refine ev_call (slices_Contains_int_int_ev _ 0 (by rw [codesM_length]; omega)) (ev_if (fun h5 => ev_some (by rw [if_neg (fun h => ?_)]; have := h.2.2; simp only [shortB, Bool.and_eq_true, h5] at this; simp at this)) (fun h5 => ?_))
  have h6 : shortB w n k = true := by
    unfold shortB
    rw [decide_eq_true (show w.length = k ^ n - 1 by omega), h4, Bool.eq_false_iff.mpr h5]
    rfl
  rw [if_pos ⟨h1, h2, h6⟩]
  have hcp : impl_copied.f w = some w := by
    unfold impl_copied.f
    rw [Option.bind_some, if_pos (by simp; omega), List.nil_append]
  by_cases h7 : (n : Int) > 1
  · obtain ⟨m, rfl⟩ : ∃ m, n = m + 2 := ⟨n - 2, by omega⟩
    obtain ⟨r, hr, hz⟩ := short_zeros k1 h6 hc.2.2 (by omega)
    have e1 : wrap64 (((m + 2 : Nat) : Int) - 1) = ((m + 1 : Nat) : Int) := by unfold wrap64; omega
    have e2 : (((m + 2 : Nat) : Int) - 1).toNat = m + 1 := by omega
    have hza := impl_zerosAt_ev w (m + 1) (impl_WithZero.is w) (prevNZ w) (by omega) (by omega) (fun x hx => by have := hc.2.2 x hx; omega) (fun i hi => impl_WithZero_is w (by omega) (by omega) i hi)
    rw [hz] at hza
    rw [e1, e2, hz]
    clear e1
    simp only [if_pos h7]
    refine ev_call hza ?_
    refine ev_plain hcp ?_
    unfold impl_WithZero.put
    simp only [Option.getD_some, Int.toNat_natCast]
    exact ev_pos (by omega) (ev_pos (by omega) (ev_pos (by omega) (Ev.now _)))
  · simp only [if_neg h7]
    refine ev_plain hcp ?_
    unfold impl_WithZero.put
    simp only [Int.toNat_zero]
    exact ev_pos (by omega) (ev_pos (by omega) (ev_pos (by omega) (Ev.now _)))

theorem spec_l1Has_loop (l : List Int) (x : Int) (hl : l.length ≤ 1000000000000) : ∀ (d i : Nat), i + d = l.length → Ev (fun k => spec_l1Has.l0 k x l (l.length : Int) (i : Int)) (decide (x ∈ l.drop i)) := by
  intro d
  induction d with
  | zero =>
    intro i h
    rw [List.drop_eq_nil_of_le (by omega)]
    exact Ev.step (fun k => by simp only [spec_l1Has.l0]; rfl) (ev_neg (by omega) (ev_some (by simp)))
  | succ d ih =>
    intro i h
    rw [drop_rd l i (by omega)]
    refine Ev.step (fun k => by simp only [spec_l1Has.l0]; rfl) ?_
    rw [wrap_succ (by omega)]
    refine ev_pos (by omega) (ev_pos (by omega) (ev_pos (by omega) ?_))
    exact ev_if (fun e => ev_some (by simp [e])) (fun e => ev_to (ih (i + 1) (by omega)) (by rw [decide_eq_decide, List.mem_cons]; exact ⟨.inr, fun h => h.resolve_left (fun h => e h.symm)⟩))
theorem spec_l1Has_ev (l : List Int) (x : Int) (hl : l.length ≤ 1000000000000) : Ev (fun k => spec_l1Has.f k l x) (decide (x ∈ l)) :=
  spec_l1Has_loop l x hl l.length 0 (by omega)

theorem spec_brShort_ev (w : List Int) (n k : Nat) (hk : 2 ≤ k) (hk6 : k ≤ 6) (h : k ^ n ≤ 1024) (hn : n ≤ 10) (hw : w.length ≤ 1024) (hx : ∀ x ∈ w, 0 ≤ x ∧ x ≤ (k : Int) - 1) : Ev (fun q => spec_brShort.f q w (n : Int) (k : Int)) (shortB w n k) := by
  have hkn : 0 < k ^ n := Nat.pow_pos (by omega)
  have ew : wrap64 (((k ^ n : Nat) : Int) - 1) = ((k ^ n : Nat) : Int) - 1 := by unfold wrap64; omega
  unfold spec_brShort.f shortB
  refine ev_call (spec_brNumbers_ev w n k hk hk6 h (by omega) hw hx) (ev_call (spec_lyPower_ev k n hk6 (by omega)) ?_)
  rw [ew]
  clear ew
  refine ev_if (fun e => ?_) (fun e => ev_some (by rw [decide_eq_false (by omega)]; rfl))
  refine ev_call (spec_lyPower_ev k n hk6 (by omega)) (ev_call (spec_brDifferent_ev _ (k ^ n) (by rw [codesM_length]; omega) (by omega) (codesM_range hx)) ?_)
  rw [decide_eq_true (show w.length = k ^ n - 1 by omega), Bool.true_and]
  refine ev_if (fun e2 => ?_) (fun e2 => ev_some (by rw [Bool.eq_false_iff.mpr e2]; rfl))
  rw [e2, Bool.true_and]
  exact ev_call (spec_l1Has_ev _ 0 (by rw [codesM_length]; omega)) (Ev.now _)
theorem spec_WithZero_ev (w : List Int) (n k : Int) (hw : w.length ≤ 1048576) (hk : -9223372036854775808 ≤ k ∧ k ≤ 9223372036854775807) : Ev (fun q => spec_WithZero.f q w n k) (WithZeroM w n k) := by
  have no : ∀ n : Int, Ev (fun q => spec_WithZero.j0 q w n true) (([] : List Int), false) := fun n => Ev.step (fun k => by simp only [spec_WithZero.j0]; rfl) (ev_pos (by trivial) (Ev.now _))
  unfold spec_WithZero.f WithZeroM
  refine ev_call (spec_brKind_ev n k) (ev_if (fun h1 => ?_) (fun h1 => by rw [if_neg (fun h => h1 h.1)]; exact no n))
  refine ev_call (spec_brCycle_ev w k (by omega) hk.1 hk.2) (ev_if (fun h2 => ?_) (fun h2 => by rw [if_neg (fun h => h2 h.2.1)]; exact no n))
  obtain ⟨n, k, rfl, rfl, n1, n2, k1, k2, hp⟩ := kindB_nat h1
  have hc := cycleB_iff.mp h2
  rw [Int.toNat_natCast, Int.toNat_natCast]
  refine ev_call (spec_brShort_ev w n k k1 k2 hp n2 (by omega) (fun x hx => hc.2.2 x hx)) ?_
  by_cases h3 : shortB w n k = true
  · rw [if_pos ⟨h1, h2, h3⟩, h3]
    have hwith : ∀ l : List Int, l.length ≤ 1024 → spec_spWith.f l 0 = some (l ++ [0]) := fun l hl => by
      unfold spec_spWith.f spec_l1Own.f
      rw [Option.bind_some, if_pos (by simp; omega), List.nil_append, Option.bind_some, if_pos (by omega)]
    refine Ev.step (fun k => by simp only [spec_WithZero.j0]; rfl) (ev_neg (by simp) ?_)
    by_cases h7 : (n : Int) > 1
    · obtain ⟨m, rfl⟩ : ∃ m, n = m + 2 := ⟨n - 2, by omega⟩
      obtain ⟨r, hr, hz⟩ := short_zeros k1 h3 hc.2.2 (by omega)
      have e1 : wrap64 (((m + 2 : Nat) : Int) - 1) = ((m + 1 : Nat) : Int) := by unfold wrap64; omega
      have e2 : (((m + 2 : Nat) : Int) - 1).toNat = m + 1 := by omega
      have hza := spec_brZeros_ev w (m + 1) (by omega) (by omega)
      rw [hz] at hza
      rw [e1, e2, hz]
      clear e1
      simp only [if_pos h7]
      refine ev_call hza ?_
      simp only [Option.getD_some, Int.toNat_natCast]
      refine ev_pos (by omega) (ev_pos (by omega) (ev_plain (hwith _ (by simp; omega)) ?_))
      exact ev_pos (by simp; omega) (ev_some (by simp))
    · simp only [if_neg h7]
      refine ev_pos (by omega) (ev_plain (hwith _ (by simp)) ?_)
      exact ev_pos (by simp; omega) (ev_some (by simp))
  · rw [if_neg (fun h => h3 h.2.2), Bool.eq_false_iff.mpr h3]
    exact no n

theorem impl_IsBruijn_ev (w : List Int) (n k : Int) (hw : w.length ≤ 1048576) (hk : -9223372036854775808 ≤ k ∧ k ≤ 9223372036854775807) : Ev (fun q => impl_IsBruijn.f q w n k) (IsBruijnM w n k) := by
  unfold impl_IsBruijn.f IsBruijnM
  refine ev_call (impl_isBruijnSize_ev n k) (ev_if (fun h1 => ?_) (fun h1 => ev_some (by rw [if_neg (fun h => h1 h.1)])))
  refine ev_call (impl_IsCycle_ev w k (by omega) hk.1 hk.2) (ev_if (fun h2 => ?_) (fun h2 => ev_some (by rw [if_neg (fun h => h2 h.2)])))
  rw [if_pos ⟨h1, h2⟩]
  have hc := cycleB_iff.mp h2
  obtain ⟨n, k, rfl, rfl, n1, n2, k1, k2, hp⟩ := kindB_nat h1
  exact ev_call (impl_isBruijn_ev w n k k1 k2 hp n2 hc.2.1.2 hc.2.2) (ev_some (by simp))

theorem laws_tSame_loop (a b : List Int) (ha : a.length ≤ 1000000000000) (hab : a.length = b.length) : ∀ (d i : Nat), i + d = a.length →
    Ev (fun k => laws_tSame.l0 k a b (a.length : Int) (i : Int)) (decide (a.drop i = b.drop i)) := by
  intro d
  induction d with
  | zero =>
    intro i h
    rw [List.drop_eq_nil_of_le (by omega), List.drop_eq_nil_of_le (by omega)]
    refine Ev.step (f := fun _ => some true) (fun k => ?_) (Ev.now _)
    simp only [laws_tSame.l0]; rw [if_neg (by omega)]
  | succ d ih =>
    intro i h
    rw [drop_rd a i (by omega), drop_rd b i (by omega)]
    refine Ev.step (f := fun k => if rd a (i : Int) = rd b (i : Int) then laws_tSame.l0 k a b (a.length : Int) ((i + 1 : Nat) : Int) else some false) (fun k => ?_) ?_
    · simp only [laws_tSame.l0]; rw [if_pos (by omega), if_pos (by omega), if_pos (by omega), if_pos (by omega), wrap_succ (by omega)]
    · exact ev_if (fun e => ev_to (ih (i + 1) (by omega)) (by simp [e])) (fun e => ev_some (by simp [e]))
theorem laws_tSame_ev (a b : List Int) (ha : a.length ≤ 1000000000000) : Ev (fun k => laws_tSame.f k a b) (decide (a = b)) := by
  unfold laws_tSame.f
  refine ev_if (fun h => ?_) (fun h => ev_some ?_)
  · exact laws_tSame_loop a b ha (by omega) a.length 0 (by omega)
  · rw [eq_comm, decide_eq_false_iff_not]; intro e; exact h (by rw [e])

theorem laws_big_some (a b : List Int) : ∃ r, laws_big.f a b = some r := by
  unfold laws_big.f
  split
  · exact ⟨_, rfl⟩
  · exact ⟨_, rfl⟩
theorem laws_big_ok {a b : List Int} {r : Bool} (h : laws_big.f a b = some r) (hr : ¬ r = true) : a.length ≤ 1048576 ∧ b.length ≤ 1048576 := by
  unfold laws_big.f at h
  split at h
  · cases h; exact absurd rfl hr
  · rename_i h1
    obtain rfl := Option.some.inj h
    rw [wrap_id (by omega)] at hr
    simp at hr
    omega

def insZ (v : List Int) (p : Nat) : List Int := v.take p ++ 0 :: v.drop p
theorem insZ_length (v : List Int) (p : Nat) (hp : p ≤ v.length) : (insZ v p).length = v.length + 1 := by unfold insZ; simp; omega
theorem insZ_get (v : List Int) (p i : Nat) (hp : p ≤ v.length) : (insZ v p).getD i 0 = if i < p then v.getD i 0 else if i = p then 0 else v.getD (i - 1) 0 := by
  have hl : (v.take p).length = p := by rw [List.length_take]; omega
  unfold insZ
  rw [List.getD_eq_getElem?_getD]
  by_cases c1 : i < p
  · rw [if_pos c1, List.getElem?_append_left (by omega), List.getElem?_take, if_pos c1, List.getD_eq_getElem?_getD]
  · rw [if_neg c1, List.getElem?_append_right (by omega), hl]
    by_cases c2 : i = p
    · subst c2
      rw [if_pos rfl, Nat.sub_self]
      rfl
    · rw [if_neg c2]
      obtain ⟨d, rfl⟩ : ∃ d, i = p + 1 + d := ⟨i - p - 1, by omega⟩
      rw [show p + 1 + d - p = d + 1 by omega, List.getElem?_cons_succ, List.getElem?_drop, List.getD_eq_getElem?_getD, show p + 1 + d - 1 = p + d by omega]
theorem mod_lt2 {x m : Nat} (h : x < m) : x % m = x := Nat.mod_eq_of_lt h
theorem mod_ge2 {x m : Nat} (h1 : m ≤ x) (h2 : x < 2 * m) : x % m = x - m := by
  rw [Nat.mod_eq_sub_mod h1, Nat.mod_eq_of_lt (by omega)]
theorem insZ_win_zero {v : List Int} {p n : Nat} (hp : p ≤ v.length) (hn : n ≤ v.length) (hz : ∀ t, t + 1 < n → v.getD ((p + t) % v.length) 0 = 0) : win (insZ v p) p n = List.replicate n 0 := by
  refine List.eq_replicate_iff.mpr ⟨win_length _ _ _, fun x hx => ?_⟩
  obtain ⟨j, hj, rfl⟩ := List.getElem_of_mem hx
  rw [win_length] at hj
  have e := win_get (insZ v p) p n j hj
  rw [List.getD_eq_getElem?_getD, List.getElem?_eq_getElem (by rw [win_length]; exact hj), Option.getD_some] at e
  rw [e, insZ_length v p hp, insZ_get v p _ hp]
  by_cases c0 : j = 0
  · subst c0
    rw [Nat.add_zero, mod_lt2 (by omega), if_neg (by omega), if_pos rfl]
  · have hzj := hz (j - 1) (by omega)
    by_cases c : p + j < v.length + 1
    · rw [mod_lt2 c, if_neg (by omega), if_neg (by omega)]
      rw [mod_lt2 (show p + (j - 1) < v.length by omega)] at hzj
      rw [show p + j - 1 = p + (j - 1) by omega]; exact hzj
    · rw [mod_ge2 (by omega) (by omega), if_pos (by omega)]
      rw [mod_ge2 (show v.length ≤ p + (j - 1) by omega) (by omega)] at hzj
      rw [show p + j - (v.length + 1) = p + (j - 1) - v.length by omega]; exact hzj
theorem insZ_win {v : List Int} {p n : Nat} (hp : p ≤ v.length) (hn : n ≤ v.length) (hz : ∀ t, t + 1 < n → v.getD ((p + t) % v.length) 0 = 0) (i : Nat) (hi : i ≤ v.length) (hne : i ≠ p) : win (insZ v p) i n = win v (if i < p then i else i - 1) n := by
  refine List.ext_getElem (by rw [win_length, win_length]) (fun j h1 h2 => ?_)
  rw [win_length] at h1
  have e1 := win_get (insZ v p) i n j h1
  rw [List.getD_eq_getElem?_getD, List.getElem?_eq_getElem (by rw [win_length]; exact h1), Option.getD_some] at e1
  have e2 := win_get v (if i < p then i else i - 1) n j h1
  rw [List.getD_eq_getElem?_getD, List.getElem?_eq_getElem (by rw [win_length]; exact h1), Option.getD_some] at e2
  rw [e1, e2, insZ_length v p hp, insZ_get v p _ hp]
  clear e1 e2
  by_cases c : i < p
  · rw [if_pos c]
    by_cases c1 : i + j < p
    · rw [mod_lt2 (show i + j < v.length + 1 by omega), mod_lt2 (show i + j < v.length by omega), if_pos c1]
    · have hB := hz (i + j - p) (by omega)
      rw [show p + (i + j - p) = i + j by omega] at hB
      rw [hB]
      by_cases c2 : i + j = p
      · rw [mod_lt2 (show i + j < v.length + 1 by omega), if_neg (by omega), if_pos c2]
      · have hA := hz (i + j - 1 - p) (by omega)
        rw [show p + (i + j - 1 - p) = i + j - 1 by omega] at hA
        by_cases c3 : i + j < v.length + 1
        · rw [mod_lt2 c3, if_neg (by omega), if_neg c2]
          rw [mod_lt2 (show i + j - 1 < v.length by omega)] at hA
          exact hA
        · rw [mod_ge2 (show v.length + 1 ≤ i + j by omega) (by omega), if_pos (by omega)]
          rw [mod_ge2 (show v.length ≤ i + j - 1 by omega) (by omega)] at hA
          rw [show i + j - (v.length + 1) = i + j - 1 - v.length by omega]; exact hA
  · rw [if_neg c]
    by_cases c1 : i + j < v.length + 1
    · rw [mod_lt2 c1, mod_lt2 (show i - 1 + j < v.length by omega), if_neg (by omega), if_neg (by omega), show i + j - 1 = i - 1 + j by omega]
    · rw [mod_ge2 (show v.length + 1 ≤ i + j by omega) (by omega)]
      by_cases c2 : i + j - (v.length + 1) < p
      · rw [if_pos c2, mod_ge2 (show v.length ≤ i - 1 + j by omega) (by omega), show i - 1 + j - v.length = i + j - (v.length + 1) by omega]
      · rw [if_neg c2]
        have hB := hz (i + j - (v.length + 1) - p) (by omega)
        rw [show p + (i + j - (v.length + 1) - p) = i + j - (v.length + 1) by omega, mod_lt2 (by omega)] at hB
        rw [mod_ge2 (show v.length ≤ i - 1 + j by omega) (by omega), show i - 1 + j - v.length = i + j - (v.length + 1) by omega, hB]
        by_cases c3 : i + j - (v.length + 1) = p
        · rw [if_pos c3]
        · rw [if_neg c3]
          have hA := hz (i + j - (v.length + 1) - 1 - p) (by omega)
          rw [show p + (i + j - (v.length + 1) - 1 - p) = i + j - (v.length + 1) - 1 by omega, mod_lt2 (by omega)] at hA
          exact hA
theorem codeN_zeros (k n : Nat) : codeN k (List.replicate n 0) = 0 := by
  induction n with
  | zero => rfl
  | succ n ih => rw [List.replicate_succ, codeN_cons, ih]; simp
theorem insZ_codes {v : List Int} {p n : Nat} (k : Nat) (hp : p ≤ v.length) (hn : n ≤ v.length) (hz : ∀ t, t + 1 < n → v.getD ((p + t) % v.length) 0 = 0) : codesM (insZ v p) n k = (codesM v n k).take p ++ 0 :: (codesM v n k).drop p := by
  have hl : ((codesM v n k).take p).length = p := by rw [List.length_take, codesM_length]; omega
  have hget : ∀ (w : List Int) (i : Nat), (codesM w n k)[i]? = if i < w.length then some (codeN k (win w i n)) else none := fun w i => by
    unfold codesM
    by_cases c : i < w.length
    · rw [if_pos c, List.getElem?_map, List.getElem?_range' c]; simp
    · rw [if_neg c, List.getElem?_eq_none (by simp; omega)]
  refine List.ext_getElem? (fun i => ?_)
  rw [hget, insZ_length v p hp]
  by_cases c1 : i < p
  · rw [if_pos (by omega), List.getElem?_append_left (by omega), List.getElem?_take, if_pos c1, hget, if_pos (by omega), insZ_win hp hn hz i (by omega) (by omega), if_pos c1]
  · rw [List.getElem?_append_right (by omega), hl]
    by_cases c2 : i = p
    · subst c2
      rw [if_pos (by omega), Nat.sub_self, insZ_win_zero hp hn hz, codeN_zeros]
      rfl
    · obtain ⟨d, rfl⟩ : ∃ d, i = p + 1 + d := ⟨i - p - 1, by omega⟩
      rw [show p + 1 + d - p = d + 1 by omega, List.getElem?_cons_succ, List.getElem?_drop, hget]
      by_cases c3 : p + 1 + d < v.length + 1
      · rw [if_pos c3, if_pos (by omega), insZ_win hp hn hz (p + 1 + d) (by omega) (by omega), if_neg c1, show p + 1 + d - 1 = p + d by omega]
      · rw [if_neg c3, if_neg (by omega)]
theorem insZ_bruijn {v : List Int} {p n k : Nat} (hk : 0 < k ^ n) (hp : p ≤ v.length) (hn : n ≤ v.length) (hz : ∀ t, t + 1 < n → v.getD ((p + t) % v.length) 0 = 0) : bruijnB (insZ v p) n k = shortB v n k := by
  have e : (codesM (insZ v p) n k).Nodup ↔ (codesM v n k).Nodup ∧ ¬ (0 : Int) ∈ codesM v n k := by
    rw [insZ_codes k hp hn hz, List.perm_middle.nodup_iff, List.take_append_drop, List.nodup_cons]
    exact and_comm
  unfold bruijnB shortB
  rw [insZ_length v p hp]
  by_cases c : v.length + 1 = k ^ n
  · rw [decide_eq_true c, decide_eq_true (show v.length = k ^ n - 1 by omega), Bool.true_and, Bool.true_and]
    by_cases c2 : (codesM v n k).Nodup
    · by_cases c3 : (0 : Int) ∈ codesM v n k
      · rw [decide_eq_false (fun h => (e.mp h).2 c3), decide_eq_true c3]; simp
      · rw [decide_eq_true (e.mpr ⟨c2, c3⟩), decide_eq_true c2, decide_eq_false c3]; rfl
    · rw [decide_eq_false (fun h => c2 (e.mp h).1), decide_eq_false c2]; rfl
  · rw [decide_eq_false c, decide_eq_false (show ¬ v.length = k ^ n - 1 by omega)]; rfl
theorem pow_ge (k n : Nat) (hk : 2 ≤ k) : n + 1 ≤ k ^ n := by
  induction n with
  | zero => simp
  | succ n ih =>
    have h1 : k ^ n * 2 ≤ k ^ n * k := Nat.mul_le_mul_left _ hk
    rw [Nat.pow_succ]; omega
/-- Where the zero is put back: there are the zeros that it needs. -/
def placeZ (v : List Int) (n : Nat) : Nat := (if (n : Int) > 1 then (zerosF v ((n : Int) - 1).toNat (prevNZ v)).getD 0 else 0).toNat
theorem placeZ_ok {v : List Int} {n k : Nat} (hk : 2 ≤ k) (hn : 1 ≤ n) (hb : shortB v n k = true) (hx : ∀ x ∈ v, 0 ≤ x ∧ x ≤ (k : Int) - 1) (hv : 0 < v.length) : placeZ v n < v.length ∧ ∀ t, t + 1 < n → v.getD ((placeZ v n + t) % v.length) 0 = 0 := by
  unfold placeZ
  by_cases c : (n : Int) > 1
  · obtain ⟨m, rfl⟩ : ∃ m, n = m + 2 := ⟨n - 2, by omega⟩
    obtain ⟨r, hr, hz⟩ := short_zeros hk hb hx hv
    rw [if_pos c, show (((m + 2 : Nat) : Int) - 1).toNat = m + 1 by omega, hz, Option.getD_some, Int.toNat_natCast]
    refine ⟨hr, fun t ht => ?_⟩
    have hw : win v r (m + 1) = List.replicate (m + 1) 0 := by
      unfold zerosF at hz
      obtain ⟨i, _, hi⟩ := List.exists_of_findSome?_eq_some hz
      split at hi
      · rename_i hc
        have := Option.some.inj hi
        obtain rfl : i = r := by omega
        exact hc.1
      · cases hi
    rw [← win_get v r (m + 1) t (by omega), hw]
    simp [List.getD_eq_getElem?_getD, List.getElem?_replicate]
    split <;> rfl
  · rw [if_neg c]
    exact ⟨hv, fun t ht => by omega⟩
theorem WithZeroM_eq (v : List Int) (n k : Nat) (h1 : kindB (n : Int) (k : Int) = true) (h2 : cycleB v (k : Int) = true) (h3 : shortB v n k = true) : WithZeroM v (n : Int) (k : Int) = (insZ v (placeZ v n), true) := by
  unfold WithZeroM
  rw [Int.toNat_natCast, Int.toNat_natCast, if_pos ⟨h1, h2, h3⟩]
  rfl
/-- A zero put in makes a de Bruijn word, and it is taken out again. -/
theorem put_then_take {v : List Int} {n k : Nat} (h1 : kindB (n : Int) (k : Int) = true) (n1 : 1 ≤ n) (k1 : 2 ≤ k) (hp : k ^ n ≤ 1024) (h2 : cycleB v (k : Int) = true) (h3 : shortB v n k = true) :
    IsBruijnM (insZ v (placeZ v n)) (n : Int) (k : Int) = (true, true) ∧ WithoutZeroM (insZ v (placeZ v n)) (n : Int) (k : Int) = (v, true) ∧ (insZ v (placeZ v n)).length ≤ 1024 := by
  have hc := cycleB_iff.mp h2
  have hv : 0 < v.length := by omega
  have hkn := pow_ge k n k1
  have hlen : v.length = k ^ n - 1 := by
    simp only [shortB, Bool.and_eq_true, decide_eq_true_eq] at h3
    exact h3.1
  obtain ⟨g1, g2⟩ := placeZ_ok k1 n1 h3 hc.2.2 hv
  have hb : bruijnB (insZ v (placeZ v n)) n k = true := by rw [insZ_bruijn (by omega) (by omega) (by omega) g2]; exact h3
  have hL := insZ_length v (placeZ v n) (by omega)
  have hx : ∀ x ∈ insZ v (placeZ v n), 0 ≤ x ∧ x ≤ (k : Int) - 1 := fun x hx => by
    unfold insZ at hx
    rcases List.mem_append.mp hx with h | h
    · exact hc.2.2 x (List.mem_of_mem_take h)
    · rcases List.mem_cons.mp h with rfl | h
      · omega
      · exact hc.2.2 x (List.mem_of_mem_drop h)
  have hcy : cycleB (insZ v (placeZ v n)) (k : Int) = true := cycleB_iff.mpr ⟨hc.1, by omega, hx⟩
  refine ⟨?_, ?_, by omega⟩
  · unfold IsBruijnM
    rw [Int.toNat_natCast, Int.toNat_natCast, if_pos ⟨h1, hcy⟩, hb]
  · unfold WithoutZeroM
    rw [Int.toNat_natCast, Int.toNat_natCast, if_pos ⟨h1, hcy, hb⟩]
    obtain ⟨q, hq, e1, e2, e3⟩ := bru_zero k1 n1 hb hx (by omega)
    obtain rfl := e2 (placeZ v n) (by omega) (insZ_win_zero (by omega) (by omega) g2)
    rw [zerosF_one (P := fun _ => true) hq e1 rfl e2, Option.getD_some, Int.toNat_natCast]
    congr 1
    unfold insZ
    have hl : (v.take (placeZ v n)).length = placeZ v n := by rw [List.length_take]; omega
    rw [List.take_append_of_le_length (by omega), List.take_take, Nat.min_self, List.drop_append, hl, show placeZ v n + 1 - placeZ v n = 1 by omega, List.drop_one, List.tail_cons, List.drop_eq_nil_of_le (by omega), List.nil_append, List.take_append_drop]
/-- A zero taken out of a de Bruijn word leaves a word into which it can be put. -/
theorem take_then_put {w : List Int} {n k : Nat} (h1 : kindB (n : Int) (k : Int) = true) (n1 : 1 ≤ n) (k1 : 2 ≤ k) (hp : k ^ n ≤ 1024) (h2 : cycleB w (k : Int) = true) (h3 : bruijnB w n k = true) :
    ∃ (v : List Int) (q : Nat), q ≤ v.length ∧ w = insZ v q ∧ WithoutZeroM w (n : Int) (k : Int) = (v, true) ∧ cycleB v (k : Int) = true ∧ shortB v n k = true := by
  have hc := cycleB_iff.mp h2
  have hkn := pow_ge k n k1
  have hlen : w.length = k ^ n := by
    simp only [bruijnB, Bool.and_eq_true, decide_eq_true_eq] at h3
    exact h3.1
  obtain ⟨q, hq, e1, e2, e3⟩ := bru_zero k1 n1 h3 hc.2.2 (by omega)
  have hget : ∀ s, s < n → w.getD ((q + s) % w.length) 0 = 0 := fun s hs => by
    rw [← win_get w q n s hs, e1]
    simp [List.getD_eq_getElem?_getD, List.getElem?_replicate]
    split <;> rfl
  have hw0 : w[q] = 0 := by
    have := hget 0 (by omega)
    rw [Nat.add_zero, mod_lt2 hq, List.getD_eq_getElem?_getD, List.getElem?_eq_getElem hq, Option.getD_some] at this
    exact this
  have hvl : (w.take q ++ w.drop (q + 1)).length = w.length - 1 := by simp; omega
  have hins : w = insZ (w.take q ++ w.drop (q + 1)) q := by
    have hl : (w.take q).length = q := by rw [List.length_take]; omega
    unfold insZ
    rw [List.take_append_of_le_length (by omega), List.take_take, Nat.min_self, List.drop_append, hl, Nat.sub_self, List.drop_zero, List.drop_eq_nil_of_le (by omega), List.nil_append]
    rw [← hw0, List.getElem_cons_drop]
    exact (List.take_append_drop q w).symm
  generalize hv : w.take q ++ w.drop (q + 1) = v at hins hvl
  have hz : ∀ t, t + 1 < n → v.getD ((q + t) % v.length) 0 = 0 := fun t ht => by
    have h := hget (t + 1) ht
    rw [show w.getD ((q + (t + 1)) % w.length) 0 = (insZ v q).getD ((q + (t + 1)) % w.length) 0 by rw [← hins], insZ_get v q _ (by omega)] at h
    by_cases c : q + (t + 1) < w.length
    · rw [mod_lt2 c, if_neg (by omega), if_neg (by omega)] at h
      rw [mod_lt2 (by omega)]; exact h
    · rw [mod_ge2 (by omega) (by omega), if_pos (by omega)] at h
      rw [mod_ge2 (by omega) (by omega), show q + t - v.length = q + (t + 1) - w.length by omega]; exact h
  refine ⟨v, q, by omega, hins, ?_, ?_, ?_⟩
  · unfold WithoutZeroM
    rw [Int.toNat_natCast, Int.toNat_natCast, if_pos ⟨h1, h2, h3⟩, zerosF_one (P := fun _ => true) hq e1 rfl e2, Option.getD_some, Int.toNat_natCast, hv]
  · refine cycleB_iff.mpr ⟨hc.1, by omega, fun x hx => ?_⟩
    rw [← hv] at hx
    rcases List.mem_append.mp hx with h | h
    · exact hc.2.2 x (List.mem_of_mem_take h)
    · exact hc.2.2 x (List.mem_of_mem_drop h)
  · rw [← insZ_bruijn (p := q) (by omega) (by omega) (by omega) hz, ← hins]; exact h3

theorem laws_tSum_ev (l : List Int) (hl : l.length ≤ 1000000) (h : ∀ x ∈ l, 0 ≤ x ∧ x ≤ 5) : Ev (fun q => laws_tSum.f q l) (sumI l) := by
  unfold laws_tSum.f
  refine ev_iter (fun (a : Int) i q => laws_tSum.l0 q a l (l.length : Int) (i : Int)) (fun a i => a + rd l (i : Int)) (fun i a => a = sumI (l.take i)) l.length ?_ l.length 0 0 (by omega) (by simp [sumI]) ?_
  · intro a i hi hI
    refine ⟨by rw [hI, sumI_take l i hi], fun r k => ?_⟩
    have hr := sumI_range (l.take i) 0 (fun x hx => h x (List.mem_of_mem_take hx))
    have hx := h (rd l (i : Int)) (by rw [rd_get l i hi]; exact List.getElem_mem hi)
    have hln : ((l.take i).length : Int) ≤ 1000000 := by simp; omega
    have h1 : 0 ≤ a := by rw [hI]; exact hr.1
    have h2 : a ≤ 5000000 := by have := hr.2.1; rw [hI]; unfold sumI; omega
    refine Ev.step (fun k => by simp only [laws_tSum.l0]; rfl) (ev_pos (by omega) (ev_pos (by omega) (ev_pos (by omega) ?_)))
    rw [wrap_succ (by omega), wrap_id (x := a + rd l (i : Int)) (by omega)]
    exact k
  · intro hI
    refine Ev.step (fun k => by simp only [laws_tSum.l0]; rfl) (ev_neg (by omega) (ev_some ?_))
    rw [hI, List.take_of_length_le (Nat.le_refl _)]
theorem sumI_insZ (v : List Int) (q : Nat) : sumI (insZ v q) = sumI v := by
  have h : ∀ (l : List Int) (a : Int), l.foldl (fun a x => a + x) a = a + sumI l := by
    intro l
    induction l with
    | nil => intro a; simp [sumI]
    | cons b l ih =>
      intro a
      unfold sumI
      rw [List.foldl_cons, List.foldl_cons, ih, ih (0 + b)]
      omega
  unfold insZ
  have e1 : sumI (v.take q ++ 0 :: v.drop q) = sumI (v.take q) + sumI (v.drop q) := by
    unfold sumI
    rw [List.foldl_append, List.foldl_cons, h]
    unfold sumI
    omega
  have e2 : sumI v = sumI (v.take q) + sumI (v.drop q) := by
    have : sumI (v.take q ++ v.drop q) = sumI (v.take q) + sumI (v.drop q) := by
      unfold sumI
      rw [List.foldl_append, h]
      rfl
    rw [List.take_append_drop] at this
    exact this
  rw [e1, e2]
theorem WithoutZeroM_no {w : List Int} {n k : Int} (c : ¬ (kindB n k = true ∧ cycleB w k = true ∧ bruijnB w n.toNat k.toNat = true)) : WithoutZeroM w n k = ([], false) := by
  unfold WithoutZeroM
  rw [if_neg c]
theorem WithZeroM_no {w : List Int} {n k : Int} (c : ¬ (kindB n k = true ∧ cycleB w k = true ∧ shortB w n.toNat k.toNat = true)) : WithZeroM w n k = ([], false) := by
  unfold WithZeroM
  rw [if_neg c]
theorem drawWithout_ok {d : List Int} (hd : bytesL d) : ∃ w n k, Ev (fun q => spec_DrawWithoutZero.f q d) (w, n, k) ∧ w.length ≤ 10000 ∧ (-1 ≤ n ∧ n ≤ 11) ∧ (-1 ≤ k ∧ k ≤ 7) := by
  obtain ⟨w, n, k, a, s, e, hw, hn, hk, _⟩ := bruijn_ok hd (a := 0) 0 (by omega) (by omega)
  refine ⟨w, n, k, ?_, hw, hn, hk⟩
  unfold spec_DrawWithoutZero.f
  exact ev_call e (Ev.now _)
theorem drawWith_ok {d : List Int} (hd : bytesL d) : ∃ w n k, Ev (fun q => spec_DrawWithZero.f q d) (w, n, k) ∧ w.length ≤ 10000 ∧ (-1 ≤ n ∧ n ≤ 11) ∧ (-1 ≤ k ∧ k ≤ 7) := by
  obtain ⟨w, n, k, a, s, e, hw, hn, hk, ha⟩ := bruijn_ok hd (a := 0) 0 (by omega) (by omega)
  have hM := spec_WithoutZero_ev w n k (by omega) (by omega)
  by_cases c : kindB n k = true ∧ cycleB w k = true ∧ bruijnB w n.toNat k.toNat = true
  · obtain ⟨h1, h2, h3⟩ := c
    obtain ⟨n, k, rfl, rfl, n1, n2, k1, k2, hp⟩ := kindB_nat h1
    rw [Int.toNat_natCast, Int.toNat_natCast] at h3
    obtain ⟨v, q, hq, hins, hWM, hcv, hsv⟩ := take_then_put h1 n1 k1 hp h2 h3
    rw [hWM] at hM
    have hvl := (cycleB_iff.mp hcv).2.1
    obtain ⟨p, a2, s2, e2, hp2, _⟩ := pick_ok hd (a := a) s (v.length : Int) (by omega) (by omega)
    obtain ⟨p, rfl⟩ := Int.eq_ofNat_of_zero_le hp2.1
    refine ⟨win v p v.length, (n : Int), (k : Int), ?_, by rw [win_length]; omega, by omega, by omega⟩
    unfold spec_DrawWithZero.f
    refine ev_call e ?_
    dsimp only
    refine ev_call hM ?_
    dsimp only
    refine ev_pos rfl (ev_plain e2 ?_)
    dsimp only
    exact ev_call (spec_brWindow_ev v v.length p (by omega) (by omega) (by omega) (by omega)) (Ev.now _)
  · rw [WithoutZeroM_no c] at hM
    refine ⟨w, n, k, ?_, hw, hn, hk⟩
    unfold spec_DrawWithZero.f
    refine ev_call e ?_
    dsimp only
    refine ev_call hM ?_
    dsimp only
    exact ev_neg (by simp) (Ev.now _)
theorem zerosLaw_last (w : List Int) (n k : Int) (hw : w.length ≤ 10000) (hn : -1 ≤ n ∧ n ≤ 11) (hk : -1 ≤ k ∧ k ≤ 7) : Ev (fun q => laws_FnZerosTakenAndPut.j2 q w n k (WithoutZeroM w n k).1 (WithoutZeroM w n k).2) true := by
  refine Ev.step (fun k => by simp only [laws_FnZerosTakenAndPut.j2]; rfl) ?_
  by_cases c : kindB n k = true ∧ cycleB w k = true ∧ bruijnB w n.toNat k.toNat = true
  · obtain ⟨h1, h2, h3⟩ := c
    obtain ⟨n, k, rfl, rfl, n1, n2, k1, k2, hp⟩ := kindB_nat h1
    rw [Int.toNat_natCast, Int.toNat_natCast] at h3
    obtain ⟨v, q, hq, hins, hWM, hcv, hsv⟩ := take_then_put h1 n1 k1 hp h2 h3
    rw [hWM]
    dsimp only
    have hvl := (cycleB_iff.mp hcv)
    have hWZ := WithZeroM_eq v n k h1 hcv hsv
    obtain ⟨g1, g2, g3⟩ := put_then_take h1 n1 k1 hp hcv hsv
    have e1 := impl_WithZero_ev v n k (by omega) (by omega)
    rw [hWZ] at e1
    have e2 := impl_IsBruijn_ev (insZ v (placeZ v n)) n k (by omega) (by omega)
    rw [g1] at e2
    refine ev_pos rfl (ev_call e1 ?_)
    dsimp only
    refine ev_call e2 ?_
    dsimp only
    refine ev_pos rfl (ev_pos rfl (ev_pos rfl ?_))
    have hwl : w.length = v.length + 1 := by rw [hins, insZ_length v q hq]
    have hwc := cycleB_iff.mp h2
    have hwr : wrap64 ((w.length : Int) - 1) = (v.length : Int) := by rw [wrap_id (by omega)]; omega
    rw [hwr]
    refine ev_pos rfl ?_
    refine ev_call (laws_tSum_ev v (by omega) (fun x hx => by have := hvl.2.2 x hx; omega)) (ev_call (laws_tSum_ev w (by omega) (fun x hx => by have := hwc.2.2 x hx; omega)) (ev_some ?_))
    rw [hins, sumI_insZ]
    simp
  · rw [WithoutZeroM_no c]
    dsimp only
    exact ev_neg (by simp) (Ev.now _)
theorem FnZerosTakenAndPut : laws_FnZerosTakenAndPut.Pure := by
  intro l0 l1 _ _ hb0 _ _ hb1
  refine Ev.rounds (r := true) ?_
  unfold laws_FnZerosTakenAndPut.f
  obtain ⟨b, hbig⟩ := laws_big_some l0 l1
  refine ev_plain hbig ?_
  refine ev_if (fun _ => Ev.now _) (fun hbig2 => ?_)
  obtain ⟨w, n, k, hdraw, hw, hn, hk⟩ := drawWithout_ok (bytes_wf hb0)
  refine ev_call hdraw ?_
  dsimp only
  refine ev_call (impl_WithoutZero_ev w n k (by omega) (by omega)) (ev_call (spec_WithoutZero_ev w n k (by omega) (by omega)) ?_)
  refine ev_neg (bne_no _) ?_
  have hml := WithoutZeroM_length w n k
  refine ev_call (laws_tSame_ev _ _ (by omega)) ?_
  refine Ev.step (fun k => by simp only [laws_FnZerosTakenAndPut.j0]; rfl) (ev_neg (by simp) ?_)
  obtain ⟨v, m, l, hdraw2, hv, hm, hl⟩ := drawWith_ok (bytes_wf hb1)
  refine ev_call hdraw2 ?_
  dsimp only
  refine ev_call (impl_WithZero_ev v m l (by omega) (by omega)) (ev_call (spec_WithZero_ev v m l (by omega) (by omega)) ?_)
  refine ev_neg (bne_no _) ?_
  have hml2 := WithZeroM_length v m l
  refine ev_call (laws_tSame_ev _ _ (by omega)) ?_
  refine Ev.step (fun k => by simp only [laws_FnZerosTakenAndPut.j1]; rfl) (ev_neg (by simp) ?_)
  by_cases c : kindB m l = true ∧ cycleB v l = true ∧ shortB v m.toNat l.toNat = true
  · obtain ⟨h1, h2, h3⟩ := c
    obtain ⟨m, l, rfl, rfl, n1, n2, k1, k2, hp⟩ := kindB_nat h1
    rw [Int.toNat_natCast, Int.toNat_natCast] at h3
    rw [WithZeroM_eq v m l h1 h2 h3]
    dsimp only
    obtain ⟨g1, g2, g3⟩ := put_then_take h1 n1 k1 hp h2 h3
    have e1 := impl_IsBruijn_ev (insZ v (placeZ v m)) m l (by omega) (by omega)
    rw [g1] at e1
    have e2 := impl_WithoutZero_ev (insZ v (placeZ v m)) m l (by omega) (by omega)
    rw [g2] at e2
    refine ev_pos rfl (ev_call e1 ?_)
    dsimp only
    refine ev_call e2 ?_
    dsimp only
    refine ev_pos rfl (ev_pos rfl (ev_pos rfl (ev_call (laws_tSame_ev _ _ (by omega)) (ev_pos (by simp) ?_))))
    exact zerosLaw_last w n k hw hn hk
  · rw [WithZeroM_no c]
    dsimp only
    exact ev_neg (by simp) (zerosLaw_last w n k hw hn hk)

end Go.Proofs.Ythoknblgbmphmaa.Pure
