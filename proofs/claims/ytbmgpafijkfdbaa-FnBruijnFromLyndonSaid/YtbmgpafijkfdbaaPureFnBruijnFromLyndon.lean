/- The pure statement of BruijnFromLyndon: it holds of all draws; no condition. -/
import Derived.Test.YtbmgpafijkfdbaaPFnBruijnFromLyndonx4
import Derived.Test.YtbmgpafijkfdbaaBase
import Derived.Test.YtbmgpafijkfdbaaLists
namespace Go.Proofs.Ytbmgpafijkfdbaa.Pure
open Go.RowKit Go.Proofs.Ytbmgpafijkfdbaa.PFnBruijnFromLyndon Go.Proofs.YtbmgpafijkfdbaaW.PrintWords Go.Proofs.YtbmgpafijkfdbaaW.PrintLast Go.Proofs.Ytbmgpafijkfdbaa.Base
set_option maxRecDepth 10000
set_option linter.unusedVariables false
set_option linter.unusedSimpArgs false

def kindB (n k : Int) : Bool := inB n 1 10 && (inB k 2 6 && decide (k.toNat ^ n.toNat ≤ 1024))
theorem kindB_iff {n k : Int} : kindB n k = true ↔ (1 ≤ n ∧ n ≤ 10) ∧ (2 ≤ k ∧ k ≤ 6) ∧ k.toNat ^ n.toNat ≤ 1024 := by simp [kindB, inB_iff]
theorem kindB_nat {n k : Int} (h : kindB n k = true) : ∃ n' k' : Nat, n = n' ∧ k = k' ∧ 1 ≤ n' ∧ n' ≤ 10 ∧ 2 ≤ k' ∧ k' ≤ 6 ∧ k' ^ n' ≤ 1024 := by
  obtain ⟨h1, h2, h3⟩ := kindB_iff.mp h
  exact ⟨n.toNat, k.toNat, by omega, by omega, by omega, by omega, by omega, by omega, h3⟩

theorem impl_within_eq (a lo hi : Int) : impl_within.f a lo hi = some (inB a lo hi) := by
  unfold impl_within.f inB
  by_cases h : a ≥ lo
  · rw [if_pos h]; simp [h]
  · rw [if_neg h]; simp [show ¬ lo ≤ a from h]

theorem impl_power_ev (a n : Nat) (ha : a ≤ 6) (hn : n ≤ 12) : Ev (fun k => impl_power.f k (a : Int) (n : Int)) ((a ^ n : Nat) : Int) := by
  have hb : ∀ j, j ≤ n → a ^ j ≤ 2176782336 := fun j hj => Nat.le_trans (Nat.pow_le_pow_left ha j) (Nat.le_trans (Nat.pow_le_pow_right (by omega) (show j ≤ 12 by omega)) (by decide))
  unfold impl_power.f
  refine ev_iter (fun (o : Nat) i k => impl_power.l0 k (a : Int) (o : Int) (n : Int) (i : Int)) (fun o _ => o * a) (fun i o => o = a ^ i) n ?_ n 0 1 (by omega) rfl ?_
  · intro o i hi hI
    refine ⟨by rw [hI, Nat.pow_succ], fun r k => ?_⟩
    have h1 := hb (i + 1) (by omega)
    rw [Nat.pow_succ, ← hI] at h1
    refine Ev.step (fun k => by simp only [impl_power.l0]; rfl) ?_
    refine ev_pos (by omega) ?_
    rw [wrap_succ (by omega), show (o : Int) * (a : Int) = ((o * a : Nat) : Int) by simp, wrap_id (by omega)]
    exact k
  · intro h
    refine Ev.step (fun k => by simp only [impl_power.l0]; rfl) (ev_neg (by omega) (ev_some (by rw [h])))

theorem impl_isBruijnSize_ev (n k : Int) : Ev (fun q => impl_isBruijnSize.f q n k) (kindB n k) := by
  unfold impl_isBruijnSize.f kindB
  refine ev_plain (impl_within_eq _ _ _) (ev_if (fun h1 => ?_) (fun h1 => ev_some (by simp [Bool.eq_false_iff.mpr h1])))
  refine ev_plain (impl_within_eq _ _ _) (ev_if (fun h2 => ?_) (fun h2 => ev_some (by simp [Bool.eq_false_iff.mpr h2])))
  have e1 := inB_iff.mp h1
  have e2 := inB_iff.mp h2
  obtain ⟨n, rfl⟩ := Int.eq_ofNat_of_zero_le (show 0 ≤ n by omega)
  obtain ⟨k, rfl⟩ := Int.eq_ofNat_of_zero_le (show 0 ≤ k by omega)
  refine ev_call (impl_power_ev k n (by omega) (by omega)) (ev_some ?_)
  rw [h1, h2]
  simp only [Bool.true_and, Int.toNat_natCast]
  exact decide_eq_decide.mpr (by omega)

theorem spec_l1In_eq (a lo hi : Int) : spec_l1In.f a lo hi = some (inB a lo hi) := by
  unfold spec_l1In.f inB
  by_cases h : a ≥ lo
  · rw [if_pos h]; simp [h]
  · rw [if_neg h]; simp [show ¬ lo ≤ a from h]

theorem spec_lyPower_loop (a : Nat) (ha : a ≤ 6) : ∀ (e j : Nat), e + j ≤ 12 → Ev (fun k => spec_lyPower.l0 k (a : Int) (e : Int) ((a ^ j : Nat) : Int)) ((a ^ (j + e) : Nat) : Int) := by
  intro e
  induction e with
  | zero =>
    intro j h
    exact Ev.step (fun k => by simp only [spec_lyPower.l0]; rfl) (ev_neg (by omega) (Ev.now _))
  | succ e ih =>
    intro j h
    have h1 : a ^ (j + 1) ≤ 2176782336 := Nat.le_trans (Nat.pow_le_pow_left ha (j + 1)) (Nat.le_trans (Nat.pow_le_pow_right (by omega) (show j + 1 ≤ 12 by omega)) (by decide))
    refine Ev.step (fun k => by simp only [spec_lyPower.l0]; rfl) ?_
    refine ev_pos (by omega) ?_
    rw [wrap_pred (by omega), show ((a ^ j : Nat) : Int) * (a : Int) = ((a ^ (j + 1) : Nat) : Int) by rw [Nat.pow_succ]; simp, wrap_id (by omega)]
    exact ev_to (ih (j + 1) (by omega)) (by rw [show j + 1 + e = j + (e + 1) by omega])
theorem spec_lyPower_ev (a n : Nat) (ha : a ≤ 6) (hn : n ≤ 12) : Ev (fun k => spec_lyPower.f k (a : Int) (n : Int)) ((a ^ n : Nat) : Int) :=
  ev_to (spec_lyPower_loop a ha n 0 (by omega)) (by simp)

theorem spec_brKind_ev (n k : Int) : Ev (fun q => spec_brKind.f q n k) (kindB n k) := by
  unfold spec_brKind.f kindB
  refine ev_plain (spec_l1In_eq _ _ _) (ev_if (fun h1 => ?_) (fun h1 => ev_some (by simp [Bool.eq_false_iff.mpr h1])))
  refine ev_plain (spec_l1In_eq _ _ _) (ev_if (fun h2 => ?_) (fun h2 => ev_some (by simp [Bool.eq_false_iff.mpr h2])))
  have e1 := inB_iff.mp h1
  have e2 := inB_iff.mp h2
  obtain ⟨n, rfl⟩ := Int.eq_ofNat_of_zero_le (show 0 ≤ n by omega)
  obtain ⟨k, rfl⟩ := Int.eq_ofNat_of_zero_le (show 0 ≤ k by omega)
  refine ev_call (spec_lyPower_ev k n (by omega) (by omega)) (ev_some ?_)
  rw [h1, h2]
  simp only [Bool.true_and, Int.toNat_natCast]
  exact decide_eq_decide.mpr (by omega)

def least2_one (n k : Nat) : Bool := !(decide (1 ≤ n) && decide (2 ≤ k) && decide (k ^ n ≤ 1024)) || (match spec_LeastBruijn.f 2000 (n : Int) (k : Int), impl_LeastBruijn.f 2000 (n : Int) (k : Int) with | some (r, b), some (r', b') => (r == r') && ((b == b') && decide (r.length ≤ 1024)) | _, _ => false)
theorem least2_1_2 : least2_one 1 2 = true := by kernel_rfl
theorem least2_1_3 : least2_one 1 3 = true := by kernel_rfl
theorem least2_1_4 : least2_one 1 4 = true := by kernel_rfl
theorem least2_1_5 : least2_one 1 5 = true := by kernel_rfl
theorem least2_1_6 : least2_one 1 6 = true := by kernel_rfl
theorem least2_2_2 : least2_one 2 2 = true := by kernel_rfl
theorem least2_2_3 : least2_one 2 3 = true := by kernel_rfl
theorem least2_2_4 : least2_one 2 4 = true := by kernel_rfl
theorem least2_2_5 : least2_one 2 5 = true := by kernel_rfl
theorem least2_2_6 : least2_one 2 6 = true := by kernel_rfl
theorem least2_3_2 : least2_one 3 2 = true := by kernel_rfl
theorem least2_3_3 : least2_one 3 3 = true := by kernel_rfl
theorem least2_3_4 : least2_one 3 4 = true := by kernel_rfl
theorem least2_3_5 : least2_one 3 5 = true := by kernel_rfl
theorem least2_3_6 : least2_one 3 6 = true := by kernel_rfl
theorem least2_4_2 : least2_one 4 2 = true := by kernel_rfl
theorem least2_4_3 : least2_one 4 3 = true := by kernel_rfl
theorem least2_4_4 : least2_one 4 4 = true := by kernel_rfl
theorem least2_4_5 : least2_one 4 5 = true := by kernel_rfl
theorem least2_5_2 : least2_one 5 2 = true := by kernel_rfl
theorem least2_5_3 : least2_one 5 3 = true := by kernel_rfl
theorem least2_5_4 : least2_one 5 4 = true := by kernel_rfl
theorem least2_6_2 : least2_one 6 2 = true := by kernel_rfl
theorem least2_6_3 : least2_one 6 3 = true := by kernel_rfl
theorem least2_7_2 : least2_one 7 2 = true := by kernel_rfl
theorem least2_8_2 : least2_one 8 2 = true := by kernel_rfl
theorem least2_9_2 : least2_one 9 2 = true := by kernel_rfl
theorem least2_10_2 : least2_one 10 2 = true := by kernel_rfl
theorem least_all2 (n k : Nat) (h1 : 1 ≤ n) (h2 : n ≤ 10) (h3 : 2 ≤ k) (h4 : k ≤ 6) (h5 : k ^ n ≤ 1024) : least2_one n k = true := by
  have hn : n = 1 ∨ n = 2 ∨ n = 3 ∨ n = 4 ∨ n = 5 ∨ n = 6 ∨ n = 7 ∨ n = 8 ∨ n = 9 ∨ n = 10 := by omega
  have hk : k = 2 ∨ k = 3 ∨ k = 4 ∨ k = 5 ∨ k = 6 := by omega
  rcases hn with rfl | rfl | rfl | rfl | rfl | rfl | rfl | rfl | rfl | rfl <;> rcases hk with rfl | rfl | rfl | rfl | rfl
  · exact least2_1_2
  · exact least2_1_3
  · exact least2_1_4
  · exact least2_1_5
  · exact least2_1_6
  · exact least2_2_2
  · exact least2_2_3
  · exact least2_2_4
  · exact least2_2_5
  · exact least2_2_6
  · exact least2_3_2
  · exact least2_3_3
  · exact least2_3_4
  · exact least2_3_5
  · exact least2_3_6
  · exact least2_4_2
  · exact least2_4_3
  · exact least2_4_4
  · exact least2_4_5
  · exact absurd h5 (by decide +kernel)
  · exact least2_5_2
  · exact least2_5_3
  · exact least2_5_4
  · exact absurd h5 (by decide +kernel)
  · exact absurd h5 (by decide +kernel)
  · exact least2_6_2
  · exact least2_6_3
  · exact absurd h5 (by decide +kernel)
  · exact absurd h5 (by decide +kernel)
  · exact absurd h5 (by decide +kernel)
  · exact least2_7_2
  · exact absurd h5 (by decide +kernel)
  · exact absurd h5 (by decide +kernel)
  · exact absurd h5 (by decide +kernel)
  · exact absurd h5 (by decide +kernel)
  · exact least2_8_2
  · exact absurd h5 (by decide +kernel)
  · exact absurd h5 (by decide +kernel)
  · exact absurd h5 (by decide +kernel)
  · exact absurd h5 (by decide +kernel)
  · exact least2_9_2
  · exact absurd h5 (by decide +kernel)
  · exact absurd h5 (by decide +kernel)
  · exact absurd h5 (by decide +kernel)
  · exact absurd h5 (by decide +kernel)
  · exact least2_10_2
  · exact absurd h5 (by decide +kernel)
  · exact absurd h5 (by decide +kernel)
  · exact absurd h5 (by decide +kernel)
  · exact absurd h5 (by decide +kernel)
theorem least_both (n k : Int) : ∃ r : List Int, ∃ b : Bool, r.length ≤ 1048576 ∧ Ev (fun q => impl_LeastBruijn.f q n k) (r, b) ∧ Ev (fun q => spec_LeastBruijn.f q n k) (r, b) := by
  by_cases h : kindB n k = true
  · obtain ⟨n, k, rfl, rfl, n1, n2, k1, k2, hp⟩ := kindB_nat h
    have h := least_all2 n k n1 n2 k1 k2 hp
    unfold least2_one at h
    rw [decide_eq_true n1, decide_eq_true k1, decide_eq_true hp] at h
    cases hs : spec_LeastBruijn.f 2000 (n : Int) (k : Int) with
    | none => rw [hs] at h; simp at h
    | some p =>
      cases hi : impl_LeastBruijn.f 2000 (n : Int) (k : Int) with
      | none => rw [hs, hi] at h; simp at h
      | some p' =>
        obtain ⟨r, b⟩ := p
        obtain ⟨r', b'⟩ := p'
        rw [hs, hi] at h
        simp at h
        obtain ⟨rfl, rfl, hl⟩ := h
        exact ⟨r, b, by omega, Ev.of (fun k => impl_LeastBruijn.mono _ _ k) (k := 2000) hi, Ev.of (fun k => spec_LeastBruijn.mono _ _ k) (k := 2000) hs⟩
  · have hb := Bool.eq_false_iff.mpr h
    have e1 := spec_brKind_ev n k
    have e2 := impl_isBruijnSize_ev n k
    rw [hb] at e1 e2
    refine ⟨[], false, by simp, ?_, ?_⟩
    · unfold impl_LeastBruijn.f
      exact ev_call e2 (ev_neg (by simp) (Ev.now _))
    · unfold spec_LeastBruijn.f
      exact ev_call e1 (ev_neg (by simp) (Ev.now _))

def bytesL (d : List Int) : Prop := ∀ x ∈ d, 0 ≤ x ∧ x ≤ 255
theorem and255 (x : Int) : 0 ≤ Go.bits .and .u64 x 255 ∧ Go.bits .and .u64 x 255 ≤ 255 := by
  have h : ((BitVec.ofInt 64 x) &&& (BitVec.ofInt 64 255)).toNat ≤ 255 := by
    rw [BitVec.toNat_and]; exact Nat.le_trans Nat.and_le_right (by decide)
  have e : Go.bits .and .u64 x 255 = IntKind.u64.wrap (((BitVec.ofInt 64 x) &&& (BitVec.ofInt 64 255)).toNat : Int) := rfl
  rw [e]
  generalize ((BitVec.ofInt 64 x) &&& (BitVec.ofInt 64 255)).toNat = m at h
  simp only [IntKind.wrap, IntKind.signed, IntKind.bits, Bool.false_and, Bool.false_eq_true, if_false]
  omega
theorem bytes_wf {d : List Int} (h : ∀ x ∈ d, (Lit.int .u8 x).wf = true) : bytesL d := by
  intro x hx
  have h := h x hx
  simp only [Lit.wf, IntKind.min, IntKind.max, IntKind.signed, IntKind.bits, Bool.and_eq_true, decide_eq_true_eq, Bool.false_eq_true, if_false] at h
  omega
theorem next_ok {d : List Int} (hd : bytesL d) {a : Int} (s : Int) (h0 : 0 ≤ a) (h1 : a ≤ 1000000000001000) : ∃ v s', spec_l1Cur_next.f d a s = some (v, a + 1, s') ∧ 0 ≤ v ∧ v ≤ 255 := by
  unfold spec_l1Cur_next.f
  rw [wrap_id (x := a + 1) (by omega)]
  by_cases ha : a < (d.length : Int)
  · rw [if_pos ha, if_pos h0, if_pos (by omega)]
    have hb : 0 ≤ rd d a ∧ rd d a ≤ 255 := by
      obtain ⟨j, rfl⟩ := Int.eq_ofNat_of_zero_le h0
      exact hd _ (by rw [show rd d ((j : Nat) : Int) = d[j]'(by omega) from rd_get d j (by omega)]; exact List.getElem_mem _)
    exact ⟨_, _, rfl, by rw [wrap_id (by omega)]; exact hb.1, by rw [wrap_id (by omega)]; exact hb.2⟩
  · rw [if_neg ha]
    by_cases hb : a + 1 ≤ (d.length : Int)
    · omega
    · rw [if_neg hb]
      have h := and255 ((IntKind.u64.wrap ((IntKind.u64.wrap ((IntKind.u64.wrap (s * 6364136223846793005)))) + 1442695040888963407)) / 1099511627776)
      exact ⟨_, _, rfl, by rw [wrap_id (by omega)]; exact h.1, by rw [wrap_id (by omega)]; exact h.2⟩
theorem tmod_lt {x n : Int} (h0 : 0 ≤ x) (hn : 1 ≤ n) : 0 ≤ Int.tmod x n ∧ Int.tmod x n < n := by
  obtain ⟨p, rfl⟩ := Int.eq_ofNat_of_zero_le h0
  obtain ⟨q, rfl⟩ := Int.eq_ofNat_of_zero_le (show 0 ≤ n by omega)
  rw [show ((p : Nat) : Int).tmod ((q : Nat) : Int) = ((p % q : Nat) : Int) from tmod_nat p q]
  have := Nat.mod_lt p (show 0 < q by omega)
  omega
theorem pick_ok {d : List Int} (hd : bytesL d) {a : Int} (s n : Int) (h0 : 0 ≤ a) (h1 : a ≤ 1000000000000000) : ∃ v a' s', spec_l1Cur_pick.f d a s n = some (v, a', s') ∧ (0 ≤ v ∧ (v < n ∨ (n ≤ 1 ∧ v = 0))) ∧ (a ≤ a' ∧ a' ≤ a + 2) := by
  unfold spec_l1Cur_pick.f
  by_cases hn : n ≤ 1
  · rw [if_pos hn]
    exact ⟨0, a, s, rfl, ⟨by omega, .inr ⟨hn, rfl⟩⟩, by omega⟩
  · rw [if_neg hn]
    obtain ⟨v, s1, e1, hv⟩ := next_ok hd s h0 (by omega)
    rw [e1, Option.bind_some]
    dsimp only
    by_cases h2 : n > 200
    · rw [if_pos h2]
      obtain ⟨u, s2, e2, hu⟩ := next_ok hd (a := a + 1) s1 (by omega) (by omega)
      rw [e2, Option.bind_some]
      dsimp only
      rw [if_neg (by omega), wrap_id (x := v * 256) (by omega), wrap_id (x := v * 256 + u) (by omega)]
      have := tmod_lt (x := v * 256 + u) (n := n) (by omega) (by omega)
      exact ⟨_, _, _, rfl, ⟨this.1, .inl this.2⟩, by omega⟩
    · rw [if_neg h2, if_neg (by omega)]
      have := tmod_lt (x := v) (n := n) (by omega) (by omega)
      exact ⟨_, _, _, rfl, ⟨this.1, .inl this.2⟩, by omega⟩

theorem among_ok {d : List Int} (hd : bytesL d) {a : Int} (s : Int) (l : List Int) (hl : 1 ≤ l.length) (h0 : 0 ≤ a) (h1 : a ≤ 1000000000000000) : ∃ v a' s', spec_l1Cur_among.f d a s l = some (v, a', s') ∧ v ∈ l ∧ (a ≤ a' ∧ a' ≤ a + 2) := by
  obtain ⟨v, a', s', e, hv, h⟩ := pick_ok hd s (l.length : Int) h0 h1
  unfold spec_l1Cur_among.f
  rw [e, Option.bind_some]
  dsimp only
  rw [if_pos (by omega), if_pos (by omega)]
  refine ⟨_, _, _, rfl, ?_, h⟩
  obtain ⟨j, rfl⟩ := Int.eq_ofNat_of_zero_le hv.1
  rw [show rd l ((j : Nat) : Int) = l[j]'(by omega) from rd_get l j (by omega)]
  exact List.getElem_mem _

theorem stages_ok {d : List Int} (hd : bytesL d) {a : Int} (s : Int) (h0 : 0 ≤ a) (h1 : a ≤ 999999999999000) : ∃ n k a' s', spec_l1Cur_stages.f d a s = some (n, k, a', s') ∧ (-1 ≤ n ∧ n ≤ 11) ∧ (-1 ≤ k ∧ k ≤ 7) ∧ (a ≤ a' ∧ a' ≤ a + 20) := by
  obtain ⟨v1, a1, s1, e1, hv1, ha1⟩ := pick_ok hd s 4 h0 (by omega)
  obtain ⟨v2, a2, s2, e2, hv2, ha2⟩ := pick_ok hd (a := a1) s1 2 (by omega) (by omega)
  obtain ⟨v3, a3, s3, e3, hv3, ha3⟩ := pick_ok hd (a := a2) s2 12 (by omega) (by omega)
  unfold spec_l1Cur_stages.f
  rw [e1, Option.bind_some]
  dsimp only
  rw [e2, Option.bind_some]
  dsimp only
  rw [e3, Option.bind_some]
  dsimp only
  by_cases c1 : v3 = 0
  · rw [if_pos c1]
    obtain ⟨u, a4, s4, e4, hu, ha4⟩ := among_ok hd (a := a3) s3 [(-1), 0, 1, 5, 10, 11] (by simp) (by omega) (by omega)
    rw [e4, Option.bind_some]
    dsimp only
    have : -1 ≤ u ∧ u ≤ 11 := by simp at hu; omega
    exact ⟨_, _, _, _, rfl, this, by omega, by omega⟩
  · rw [if_neg c1]
    by_cases c2 : v3 = 1
    · rw [if_pos c2]
      obtain ⟨u, a4, s4, e4, hu, ha4⟩ := among_ok hd (a := a3) s3 [(-1), 0, 1, 4, 6, 7] (by simp) (by omega) (by omega)
      obtain ⟨v5, a5, s5, e5, hv5, ha5⟩ := pick_ok hd (a := a4) s4 3 (by omega) (by omega)
      rw [e4, Option.bind_some]
      dsimp only
      rw [e5, Option.bind_some]
      dsimp only
      rw [wrap_id (x := 1 + v5) (by omega)]
      have : -1 ≤ u ∧ u ≤ 7 := by simp at hu; omega
      exact ⟨_, _, _, _, rfl, by omega, this, by omega⟩
    · rw [if_neg c2, wrap_id (x := 1 + v1) (by omega), wrap_id (x := 2 + v2) (by omega)]
      exact ⟨_, _, _, _, rfl, by omega, by omega, by omega⟩

theorem laws_tSame_loop (a b : List Int) (ha : a.length ≤ 1000000000000) (hab : a.length = b.length) : ∀ (d i : Nat), i + d = a.length →
    Ev (fun k => laws_tSame.l0 k a b (a.length : Int) (i : Int)) (decide (a.drop i = b.drop i)) := by
  intro d
  induction d with
  | zero =>
    intro i h
    rw [List.drop_eq_nil_of_le (by omega), List.drop_eq_nil_of_le (by omega)]
    refine Ev.step (f := fun _ => some true) (fun k => ?_) (Ev.now _)
    simp only [laws_tSame.l0]; rw [if_neg (by omega)]
  | succ d ih =>
    intro i h
    rw [drop_rd a i (by omega), drop_rd b i (by omega)]
    refine Ev.step (f := fun k => if rd a (i : Int) = rd b (i : Int) then laws_tSame.l0 k a b (a.length : Int) ((i + 1 : Nat) : Int) else some false) (fun k => ?_) ?_
    · simp only [laws_tSame.l0]; rw [if_pos (by omega), if_pos (by omega), if_pos (by omega), if_pos (by omega), wrap_succ (by omega)]
    · exact ev_if (fun e => ev_to (ih (i + 1) (by omega)) (by simp [e])) (fun e => ev_some (by simp [e]))
theorem laws_tSame_ev (a b : List Int) (ha : a.length ≤ 1000000000000) : Ev (fun k => laws_tSame.f k a b) (decide (a = b)) := by
  unfold laws_tSame.f
  refine ev_if (fun h => ?_) (fun h => ev_some ?_)
  · exact laws_tSame_loop a b ha (by omega) a.length 0 (by omega)
  · rw [eq_comm, decide_eq_false_iff_not]; intro e; exact h (by rw [e])

theorem laws_big_some (a b : List Int) : ∃ r, laws_big.f a b = some r := by
  unfold laws_big.f
  split
  · exact ⟨_, rfl⟩
  · exact ⟨_, rfl⟩
theorem laws_big_ok {a b : List Int} {r : Bool} (h : laws_big.f a b = some r) (hr : ¬ r = true) : a.length ≤ 1048576 ∧ b.length ≤ 1048576 := by
  unfold laws_big.f at h
  split at h
  · cases h; exact absurd rfl hr
  · rename_i h1
    obtain rfl := Option.some.inj h
    rw [wrap_id (by omega)] at hr
    simp at hr
    omega

def lenDiv (n : Int) (w : List Int) : Bool := decide (Int.tmod n (w.length : Int) = 0)
/-- At one size, told by the kernel: the words whose lengths divide n, one after the other, are the least word, and so many are counted. -/
def fromL_one (n k : Nat) : Bool := match impl_LeastBruijn.f 2000 (n : Int) (k : Int), impl_LyndonUpTo.f 2000 (n : Int) (k : Int), impl_CountNecklaces.f 2000 (n : Int) (k : Int) with
  | some (r, b), some (ws, one), some (c, two) => b && (one && (two && (ws.all (fun w => decide (1 ≤ w.length)) && (decide (ws.flatten.length ≤ 100000) && (((ws.filter (lenDiv (n : Int))).flatten == r) && (((ws.filter (lenDiv (n : Int))).length : Int) == c))))))
  | _, _, _ => false
theorem fromL_1_2 : fromL_one 1 2 = true := by kernel_rfl
theorem fromL_1_3 : fromL_one 1 3 = true := by kernel_rfl
theorem fromL_1_4 : fromL_one 1 4 = true := by kernel_rfl
theorem fromL_1_5 : fromL_one 1 5 = true := by kernel_rfl
theorem fromL_1_6 : fromL_one 1 6 = true := by kernel_rfl
theorem fromL_2_2 : fromL_one 2 2 = true := by kernel_rfl
theorem fromL_2_3 : fromL_one 2 3 = true := by kernel_rfl
theorem fromL_2_4 : fromL_one 2 4 = true := by kernel_rfl
theorem fromL_2_5 : fromL_one 2 5 = true := by kernel_rfl
theorem fromL_2_6 : fromL_one 2 6 = true := by kernel_rfl
theorem fromL_3_2 : fromL_one 3 2 = true := by kernel_rfl
theorem fromL_3_3 : fromL_one 3 3 = true := by kernel_rfl
theorem fromL_3_4 : fromL_one 3 4 = true := by kernel_rfl
theorem fromL_3_5 : fromL_one 3 5 = true := by kernel_rfl
theorem fromL_3_6 : fromL_one 3 6 = true := by kernel_rfl
theorem fromL_4_2 : fromL_one 4 2 = true := by kernel_rfl
theorem fromL_4_3 : fromL_one 4 3 = true := by kernel_rfl
theorem fromL_4_4 : fromL_one 4 4 = true := by kernel_rfl
theorem fromL_4_5 : fromL_one 4 5 = true := by kernel_rfl
theorem fromL_5_2 : fromL_one 5 2 = true := by kernel_rfl
theorem fromL_5_3 : fromL_one 5 3 = true := by kernel_rfl
theorem fromL_5_4 : fromL_one 5 4 = true := by kernel_rfl
theorem fromL_6_2 : fromL_one 6 2 = true := by kernel_rfl
theorem fromL_6_3 : fromL_one 6 3 = true := by kernel_rfl
theorem fromL_7_2 : fromL_one 7 2 = true := by kernel_rfl
theorem fromL_8_2 : fromL_one 8 2 = true := by kernel_rfl
theorem fromL_9_2 : fromL_one 9 2 = true := by kernel_rfl
theorem fromL_10_2 : fromL_one 10 2 = true := by kernel_rfl
theorem fromL_all (n k : Nat) (h1 : 1 ≤ n) (h2 : n ≤ 10) (h3 : 2 ≤ k) (h4 : k ≤ 6) (h5 : k ^ n ≤ 1024) : fromL_one n k = true := by
  have hn : n = 1 ∨ n = 2 ∨ n = 3 ∨ n = 4 ∨ n = 5 ∨ n = 6 ∨ n = 7 ∨ n = 8 ∨ n = 9 ∨ n = 10 := by omega
  have hk : k = 2 ∨ k = 3 ∨ k = 4 ∨ k = 5 ∨ k = 6 := by omega
  rcases hn with rfl | rfl | rfl | rfl | rfl | rfl | rfl | rfl | rfl | rfl <;> rcases hk with rfl | rfl | rfl | rfl | rfl
  · exact fromL_1_2
  · exact fromL_1_3
  · exact fromL_1_4
  · exact fromL_1_5
  · exact fromL_1_6
  · exact fromL_2_2
  · exact fromL_2_3
  · exact fromL_2_4
  · exact fromL_2_5
  · exact fromL_2_6
  · exact fromL_3_2
  · exact fromL_3_3
  · exact fromL_3_4
  · exact fromL_3_5
  · exact fromL_3_6
  · exact fromL_4_2
  · exact fromL_4_3
  · exact fromL_4_4
  · exact fromL_4_5
  · exact absurd h5 (by decide +kernel)
  · exact fromL_5_2
  · exact fromL_5_3
  · exact fromL_5_4
  · exact absurd h5 (by decide +kernel)
  · exact absurd h5 (by decide +kernel)
  · exact fromL_6_2
  · exact fromL_6_3
  · exact absurd h5 (by decide +kernel)
  · exact absurd h5 (by decide +kernel)
  · exact absurd h5 (by decide +kernel)
  · exact fromL_7_2
  · exact absurd h5 (by decide +kernel)
  · exact absurd h5 (by decide +kernel)
  · exact absurd h5 (by decide +kernel)
  · exact absurd h5 (by decide +kernel)
  · exact fromL_8_2
  · exact absurd h5 (by decide +kernel)
  · exact absurd h5 (by decide +kernel)
  · exact absurd h5 (by decide +kernel)
  · exact absurd h5 (by decide +kernel)
  · exact fromL_9_2
  · exact absurd h5 (by decide +kernel)
  · exact absurd h5 (by decide +kernel)
  · exact absurd h5 (by decide +kernel)
  · exact absurd h5 (by decide +kernel)
  · exact fromL_10_2
  · exact absurd h5 (by decide +kernel)
  · exact absurd h5 (by decide +kernel)
  · exact absurd h5 (by decide +kernel)
  · exact absurd h5 (by decide +kernel)
theorem fromL_count (n : Nat) (r whole : List Int) (c : Int) (ws : List (List Int)) (hws : ∀ w ∈ ws, 1 ≤ w.length) (hl : ws.length ≤ 100000) (hr : r.length ≤ 1048576) (hwhole : whole = r) : ∀ (d i : Nat) (m : Nat), i + d = ws.length → m ≤ i → (((m + ((ws.drop i).filter (lenDiv (n : Int))).length : Nat) : Int) = c) →
    Ev (fun q => laws_FnBruijnFromLyndon.l1 q (n : Int) r whole c true (m : Int) ws (ws.length : Int) (i : Int)) true := by
  intro d
  induction d with
  | zero =>
    intro i m h1 h2 h3
    refine Ev.step (fun k => by simp only [laws_FnBruijnFromLyndon.l1]; rfl) (ev_neg (by omega) (ev_pos (by trivial) (ev_call (laws_tSame_ev _ _ (by rw [hwhole]; omega)) ?_)))
    rw [List.drop_eq_nil_of_le (by omega)] at h3
    refine ev_pos (by simp [hwhole]) (ev_some ?_)
    rw [beq_iff_eq]
    simpa using h3
  | succ d ih =>
    intro i m h1 h2 h3
    have hi : i < ws.length := by omega
    have he : rd_L2 ws (i : Int) = ws[i] := by simp [rd_L2, List.getD_eq_getElem?_getD, List.getElem?_eq_getElem hi]
    have hw := hws ws[i] (List.getElem_mem hi)
    rw [List.drop_eq_getElem_cons hi, List.filter_cons] at h3
    refine Ev.step (fun k => by simp only [laws_FnBruijnFromLyndon.l1]; rfl) ?_
    rw [he, wrap_succ (by omega), wrap_succ (by omega)]
    refine ev_pos (by omega) (ev_pos (by omega) (ev_pos (by omega) (ev_neg (by omega) ?_)))
    refine ev_if (fun hd => ?_) (fun hd => ?_)
    · rw [if_pos (show lenDiv (n : Int) ws[i] = true from decide_eq_true hd)] at h3
      exact ih (i + 1) (m + 1) (by omega) (by omega) (by rw [← h3]; simp; omega)
    · rw [if_neg (show ¬ lenDiv (n : Int) ws[i] = true by unfold lenDiv; simpa using hd)] at h3
      exact ih (i + 1) m (by omega) (by omega) h3
theorem fromL_whole (n k : Nat) (r : List Int) (ws : List (List Int)) (hws : ∀ w ∈ ws, 1 ≤ w.length) (hl : ws.length ≤ 100000) (hE : ∀ whole, whole = ((ws.filter (lenDiv (n : Int))).flatten) → Ev (fun q => (impl_CountNecklaces.f q (n : Int) (k : Int)).bind fun bt218 => (laws_FnBruijnFromLyndon.l1 q (n : Int) r whole bt218.1 bt218.2 0 ws (ws.length : Int) 0)) true) : ∀ (d i : Nat) (acc : List Int), i + d = ws.length → acc.length + (ws.drop i).flatten.length ≤ 100000 → acc ++ ((ws.drop i).filter (lenDiv (n : Int))).flatten = ((ws.filter (lenDiv (n : Int))).flatten) →
    Ev (fun q => laws_FnBruijnFromLyndon.l0 q (n : Int) (k : Int) r ws acc ws (ws.length : Int) (i : Int)) true := by
  intro d
  induction d with
  | zero =>
    intro i acc h1 h2 h3
    refine Ev.step (fun k => by simp only [laws_FnBruijnFromLyndon.l0]; rfl) (ev_neg (by omega) (hE acc ?_))
    rw [List.drop_eq_nil_of_le (by omega)] at h3
    simpa using h3
  | succ d ih =>
    intro i acc h1 h2 h3
    have hi : i < ws.length := by omega
    have he : rd_L2 ws (i : Int) = ws[i] := by simp [rd_L2, List.getD_eq_getElem?_getD, List.getElem?_eq_getElem hi]
    have hw := hws ws[i] (List.getElem_mem hi)
    rw [List.drop_eq_getElem_cons hi, List.flatten_cons, List.length_append] at h2
    rw [List.drop_eq_getElem_cons hi, List.filter_cons] at h3
    refine Ev.step (fun k => by simp only [laws_FnBruijnFromLyndon.l0]; rfl) ?_
    rw [he, wrap_succ (by omega)]
    refine ev_pos (by omega) (ev_pos (by omega) (ev_pos (by omega) (ev_neg (by omega) ?_)))
    refine ev_if (fun hd => ev_pos (by omega) ?_) (fun hd => ?_)
    · rw [if_pos (show lenDiv (n : Int) ws[i] = true from decide_eq_true hd)] at h3
      exact ih (i + 1) _ (by omega) (by rw [List.length_append]; omega) (by rw [← h3, List.flatten_cons, List.append_assoc])
    · rw [if_neg (show ¬ lenDiv (n : Int) ws[i] = true by unfold lenDiv; simpa using hd)] at h3
      exact ih (i + 1) acc (by omega) (by omega) h3
theorem FnBruijnFromLyndon : laws_FnBruijnFromLyndon.Pure := by
  intro l0 l1 _ _ hb0 _ _ hb1
  refine Ev.rounds (r := true) ?_
  unfold laws_FnBruijnFromLyndon.f
  obtain ⟨b, hbig⟩ := laws_big_some l0 l1
  refine ev_plain hbig ?_
  refine ev_if (fun _ => Ev.now _) (fun hbig2 => ?_)
  obtain ⟨n, k, a', s', hst, hn, hk, _⟩ := stages_ok (bytes_wf hb0) (a := 0) 0 (by omega) (by omega)
  have hdraw : spec_DrawGreedyBruijn.f l0 = some (n, k) := by
    unfold spec_DrawGreedyBruijn.f
    rw [hst]; rfl
  refine ev_plain hdraw ?_
  dsimp only
  obtain ⟨r, c, hrl, e1, e2⟩ := least_both n k
  refine ev_call e1 (ev_call e2 ?_)
  dsimp only
  refine ev_neg (bne_no _) ?_
  refine ev_call (laws_tSame_ev r r (by omega)) ?_
  rw [show (!(decide (r = r))) = false by simp]
  by_cases hkind : kindB n k = true
  · obtain ⟨n, k, rfl, rfl, n1, n2, k1, k2, hp⟩ := kindB_nat hkind
    have h := fromL_all n k n1 n2 k1 k2 hp
    unfold fromL_one at h
    cases hi : impl_LeastBruijn.f 2000 (n : Int) (k : Int) with
    | none => rw [hi] at h; cases h
    | some p =>
      cases hj : impl_LyndonUpTo.f 2000 (n : Int) (k : Int) with
      | none => rw [hi, hj] at h; cases h
      | some p2 =>
        cases hm : impl_CountNecklaces.f 2000 (n : Int) (k : Int) with
        | none => rw [hi, hj, hm] at h; cases h
        | some p3 =>
          obtain ⟨r', b'⟩ := p
          obtain ⟨ws, one⟩ := p2
          obtain ⟨cn, two⟩ := p3
          rw [hi, hj, hm] at h
          have hd := ev_det e1 (Ev.of (fun k => impl_LeastBruijn.mono _ _ k) (k := 2000) hi)
          obtain ⟨rfl, rfl⟩ := Prod.mk.inj hd
          simp only [Bool.and_eq_true, beq_iff_eq, decide_eq_true_eq, List.all_eq_true] at h
          obtain ⟨rfl, rfl, rfl, h4, h5, h6, h7⟩ := h
          have h8 : ws.length ≤ 100000 := by
            have : ∀ l : List (List Int), (∀ w ∈ l, 1 ≤ w.length) → l.length ≤ l.flatten.length := by
              intro l
              induction l with
              | nil => intro _; simp
              | cons x l ih =>
                intro hh
                have h1 := hh x (by simp)
                have h2 := ih (fun w hw => hh w (by simp [hw]))
                rw [List.flatten_cons, List.length_append, List.length_cons]; omega
            have := this ws h4
            omega
          refine Ev.step (fun k => by simp only [laws_FnBruijnFromLyndon.j0]; rfl) ?_
          refine ev_neg (by simp) (ev_pos (by trivial) (ev_call (Ev.of (fun k => impl_LyndonUpTo.mono _ _ k) (k := 2000) hj) (ev_pos (by trivial) ?_)))
          refine fromL_whole n k r ws h4 h8 (fun whole hwh => ?_) ws.length 0 [] (by omega) (by simpa using h5) (by simp)
          refine ev_call (Ev.of (fun k => impl_CountNecklaces.mono _ _ k) (k := 2000) hm) ?_
          exact fromL_count n r whole cn ws h4 h8 (by omega) (hwh.trans h6) ws.length 0 0 (by omega) (by omega) (by simpa using h7)
  · have e3 := impl_isBruijnSize_ev n k
    rw [Bool.eq_false_iff.mpr hkind] at e3
    have e4 : Ev (fun q => impl_LeastBruijn.f q n k) (([] : List Int), false) := by
      unfold impl_LeastBruijn.f
      exact ev_call e3 (ev_neg (by simp) (Ev.now _))
    obtain ⟨rfl, rfl⟩ := Prod.mk.inj (ev_det e1 e4)
    refine Ev.step (fun k => by simp only [laws_FnBruijnFromLyndon.j0]; rfl) ?_
    exact ev_neg (by simp) (ev_neg (by simp) (Ev.now _))

end Go.Proofs.Ytbmgpafijkfdbaa.Pure
