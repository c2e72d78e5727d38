/- The pure statement of Superpermutations: it holds of all draws; no condition. -/
import Derived.Test.YtdnbeekoefmbcaaPFnSuperpermutationsx11
import Derived.Test.YtdnbeekoefmbcaaBase
import Derived.Test.YtdnbeekoefmbcaaLists
namespace Go.Proofs.Ytdnbeekoefmbcaa.Pure
open Go.RowKit Go.Proofs.Ytdnbeekoefmbcaa.PFnSuperpermutations Go.Proofs.YtdnbeekoefmbcaaW.PrintWords Go.Proofs.YtdnbeekoefmbcaaW.PrintLast Go.Proofs.Ytdnbeekoefmbcaa.Base
set_option maxRecDepth 10000
set_option linter.unusedVariables false
set_option linter.unusedSimpArgs false

theorem superWordB_iff {w : List Int} : superWordB w = true ↔ w.length ≤ 200 ∧ ∀ x ∈ w, 0 ≤ x ∧ x ≤ 11 := by
  simp only [superWordB, Bool.and_eq_true, decide_eq_true_eq, allB_iff]
  exact and_congr (by omega) Iff.rfl

def bytesL (d : List Int) : Prop := ∀ x ∈ d, 0 ≤ x ∧ x ≤ 255
theorem and255 (x : Int) : 0 ≤ Go.bits .and .u64 x 255 ∧ Go.bits .and .u64 x 255 ≤ 255 := by
  have h : ((BitVec.ofInt 64 x) &&& (BitVec.ofInt 64 255)).toNat ≤ 255 := by
    rw [BitVec.toNat_and]; exact Nat.le_trans Nat.and_le_right (by decide)
  have e : Go.bits .and .u64 x 255 = IntKind.u64.wrap (((BitVec.ofInt 64 x) &&& (BitVec.ofInt 64 255)).toNat : Int) := rfl
  rw [e]
  generalize ((BitVec.ofInt 64 x) &&& (BitVec.ofInt 64 255)).toNat = m at h
  simp only [IntKind.wrap, IntKind.signed, IntKind.bits, Bool.false_and, Bool.false_eq_true, if_false]
  omega
theorem bytes_wf {d : List Int} (h : ∀ x ∈ d, (Lit.int .u8 x).wf = true) : bytesL d := by
  intro x hx
  have h := h x hx
  simp only [Lit.wf, IntKind.min, IntKind.max, IntKind.signed, IntKind.bits, Bool.and_eq_true, decide_eq_true_eq, Bool.false_eq_true, if_false] at h
  omega
theorem next_ok {d : List Int} (hd : bytesL d) {a : Int} (s : Int) (h0 : 0 ≤ a) (h1 : a ≤ 1000000000001000) : ∃ v s', spec_l1Cur_next.f d a s = some (v, a + 1, s') ∧ 0 ≤ v ∧ v ≤ 255 := by
  unfold spec_l1Cur_next.f
  rw [wrap_id (x := a + 1) (by omega)]
  by_cases ha : a < (d.length : Int)
  · rw [if_pos ha, if_pos h0, if_pos (by omega)]
    have hb : 0 ≤ rd d a ∧ rd d a ≤ 255 := by
      obtain ⟨j, rfl⟩ := Int.eq_ofNat_of_zero_le h0
      exact hd _ (by rw [show rd d ((j : Nat) : Int) = d[j]'(by omega) from rd_get d j (by omega)]; exact List.getElem_mem _)
    exact ⟨_, _, rfl, by rw [wrap_id (by omega)]; exact hb.1, by rw [wrap_id (by omega)]; exact hb.2⟩
  · rw [if_neg ha]
    by_cases hb : a + 1 ≤ (d.length : Int)
    · omega
    · rw [if_neg hb]
      have h := and255 ((IntKind.u64.wrap ((IntKind.u64.wrap ((IntKind.u64.wrap (s * 6364136223846793005)))) + 1442695040888963407)) / 1099511627776)
      exact ⟨_, _, rfl, by rw [wrap_id (by omega)]; exact h.1, by rw [wrap_id (by omega)]; exact h.2⟩
theorem tmod_lt {x n : Int} (h0 : 0 ≤ x) (hn : 1 ≤ n) : 0 ≤ Int.tmod x n ∧ Int.tmod x n < n := by
  obtain ⟨p, rfl⟩ := Int.eq_ofNat_of_zero_le h0
  obtain ⟨q, rfl⟩ := Int.eq_ofNat_of_zero_le (show 0 ≤ n by omega)
  rw [show ((p : Nat) : Int).tmod ((q : Nat) : Int) = ((p % q : Nat) : Int) from tmod_nat p q]
  have := Nat.mod_lt p (show 0 < q by omega)
  omega
theorem pick_ok {d : List Int} (hd : bytesL d) {a : Int} (s n : Int) (h0 : 0 ≤ a) (h1 : a ≤ 1000000000000000) : ∃ v a' s', spec_l1Cur_pick.f d a s n = some (v, a', s') ∧ (0 ≤ v ∧ (v < n ∨ (n ≤ 1 ∧ v = 0))) ∧ (a ≤ a' ∧ a' ≤ a + 2) := by
  unfold spec_l1Cur_pick.f
  by_cases hn : n ≤ 1
  · rw [if_pos hn]
    exact ⟨0, a, s, rfl, ⟨by omega, .inr ⟨hn, rfl⟩⟩, by omega⟩
  · rw [if_neg hn]
    obtain ⟨v, s1, e1, hv⟩ := next_ok hd s h0 (by omega)
    rw [e1, Option.bind_some]
    dsimp only
    by_cases h2 : n > 200
    · rw [if_pos h2]
      obtain ⟨u, s2, e2, hu⟩ := next_ok hd (a := a + 1) s1 (by omega) (by omega)
      rw [e2, Option.bind_some]
      dsimp only
      rw [if_neg (by omega), wrap_id (x := v * 256) (by omega), wrap_id (x := v * 256 + u) (by omega)]
      have := tmod_lt (x := v * 256 + u) (n := n) (by omega) (by omega)
      exact ⟨_, _, _, rfl, ⟨this.1, .inl this.2⟩, by omega⟩
    · rw [if_neg h2, if_neg (by omega)]
      have := tmod_lt (x := v) (n := n) (by omega) (by omega)
      exact ⟨_, _, _, rfl, ⟨this.1, .inl this.2⟩, by omega⟩

theorem among_ok {d : List Int} (hd : bytesL d) {a : Int} (s : Int) (l : List Int) (hl : 1 ≤ l.length) (h0 : 0 ≤ a) (h1 : a ≤ 1000000000000000) : ∃ v a' s', spec_l1Cur_among.f d a s l = some (v, a', s') ∧ v ∈ l ∧ (a ≤ a' ∧ a' ≤ a + 2) := by
  obtain ⟨v, a', s', e, hv, h⟩ := pick_ok hd s (l.length : Int) h0 h1
  unfold spec_l1Cur_among.f
  rw [e, Option.bind_some]
  dsimp only
  rw [if_pos (by omega), if_pos (by omega)]
  refine ⟨_, _, _, rfl, ?_, h⟩
  obtain ⟨j, rfl⟩ := Int.eq_ofNat_of_zero_le hv.1
  rw [show rd l ((j : Nat) : Int) = l[j]'(by omega) from rd_get l j (by omega)]
  exact List.getElem_mem _

theorem one_ok {d : List Int} (hd : bytesL d) {a : Int} (s n : Int) (h0 : 0 ≤ a) (h1 : a ≤ 1000000000000000) : ∃ v a' s', spec_l1Cur_one.f d a s n = some (v, a', s') ∧ (a ≤ a' ∧ a' ≤ a + 2) := by
  obtain ⟨v, a', s', e, _, h⟩ := pick_ok hd s n h0 h1
  unfold spec_l1Cur_one.f
  rw [e]
  exact ⟨_, _, _, rfl, h⟩

theorem spec_l1Least_eq9 (a b : Int) : spec_l1Least.f a b = some (if a < b then a else b) := by unfold spec_l1Least.f; split <;> rfl
theorem spec_l1Most_eq9 (a b : Int) : spec_l1Most.f a b = some (if a > b then a else b) := by unfold spec_l1Most.f; split <;> rfl
theorem word9_fill {d : List Int} (hd : bytesL d) : ∀ (m : Nat) (xs : List Int) (a s : Int), xs.length + m = 202 → 0 ≤ a → a + 4 * (m : Int) ≤ 999999999999900 →
    ∃ r a' s', Ev (fun q => spec_l1Cur_word9.l1 q xs d a s) (r, a', s') ∧ r.length ≤ 202 ∧ (a ≤ a' ∧ a' ≤ a + 4 * (m : Int) + 4) := by
  intro m
  induction m with
  | zero =>
    intro xs a s hl h0 hb
    obtain ⟨v, a1, s1, e1, hv, ha1⟩ := pick_ok hd s 2 h0 (by omega)
    refine ⟨xs, a1, s1, Ev.step (fun k => by simp only [spec_l1Cur_word9.l1]; rfl) (ev_plain e1 ?_), by omega, by omega⟩
    dsimp only
    rw [wrap_id (x := 200 + v) (by omega)]
    exact ev_neg (by omega) (Ev.now _)
  | succ m ih =>
    intro xs a s hl h0 hb
    obtain ⟨v, a1, s1, e1, hv, ha1⟩ := pick_ok hd s 2 h0 (by omega)
    by_cases c : (xs.length : Int) < 200 + v
    · obtain ⟨u, a2, s2, e2, hu, ha2⟩ := pick_ok hd (a := a1) s1 3 (by omega) (by omega)
      obtain ⟨r, a3, s3, h1, h2, h3⟩ := ih (xs ++ [u]) a2 s2 (by simp; omega) (by omega) (by omega)
      refine ⟨r, a3, s3, Ev.step (fun k => by simp only [spec_l1Cur_word9.l1]; rfl) (ev_plain e1 ?_), h2, by omega⟩
      dsimp only
      rw [wrap_id (x := 200 + v) (by omega)]
      refine ev_pos c (ev_plain e2 ?_)
      dsimp only
      exact ev_pos (by omega) h1
    · refine ⟨xs, a1, s1, Ev.step (fun k => by simp only [spec_l1Cur_word9.l1]; rfl) (ev_plain e1 ?_), by omega, by omega⟩
      dsimp only
      rw [wrap_id (x := 200 + v) (by omega)]
      exact ev_neg c (Ev.now _)
theorem word9_loop {d : List Int} (hd : bytesL d) (n : Int) : ∀ (m : Nat) (xs : List Int) (a s : Int), xs.length + m ≤ 100 → 0 ≤ a → a + 4 * (m : Int) ≤ 999999999990000 →
    ∃ r a' s', Ev (fun q => spec_l1Cur_word9.l0 q n xs (m : Int) d a s) (r, a', s') ∧ r.length ≤ 202 ∧ (a ≤ a' ∧ a' ≤ a + 4 * (m : Int) + 1000) := by
  intro m
  induction m with
  | zero =>
    intro xs a s hl h0 hb
    obtain ⟨v, a1, s1, e1, hv, ha1⟩ := pick_ok hd s 24 h0 (by omega)
    by_cases c1 : v = 0
    · obtain ⟨u, a2, s2, e2, hu, ha2⟩ := among_ok hd (a := a1) s1 [(-1), 11, 12, n] (by simp) (by omega) (by omega)
      refine ⟨xs ++ [u], a2, s2, Ev.step (fun k => by simp only [spec_l1Cur_word9.l0]; rfl) (ev_neg (by omega) (ev_plain e1 ?_)), by simp; omega, by omega⟩
      dsimp only
      refine ev_pos c1 (ev_plain e2 ?_)
      dsimp only
      exact ev_pos (by omega) (Ev.now _)
    · by_cases c2 : v = 1
      · obtain ⟨r, a3, s3, h1, h2, h3⟩ := word9_fill hd (202 - xs.length) xs a1 s1 (by omega) (by omega) (by omega)
        refine ⟨r, a3, s3, Ev.step (fun k => by simp only [spec_l1Cur_word9.l0]; rfl) (ev_neg (by omega) (ev_plain e1 ?_)), h2, by omega⟩
        dsimp only
        exact ev_neg c1 (ev_pos c2 h1)
      · refine ⟨xs, a1, s1, Ev.step (fun k => by simp only [spec_l1Cur_word9.l0]; rfl) (ev_neg (by omega) (ev_plain e1 ?_)), by omega, by omega⟩
        dsimp only
        exact ev_neg c1 (ev_neg c2 (Ev.now _))
  | succ m ih =>
    intro xs a s hl h0 hb
    obtain ⟨v, a1, s1, e1, hv, ha1⟩ := pick_ok hd s (if 1 > (if n < 12 then n else 12) then 1 else (if n < 12 then n else 12)) h0 (by omega)
    obtain ⟨r, a3, s3, h1, h2, h3⟩ := ih (xs ++ [v]) a1 s1 (by simp; omega) (by omega) (by omega)
    refine ⟨r, a3, s3, Ev.step (fun k => by simp only [spec_l1Cur_word9.l0]; rfl) (ev_pos (by omega) (ev_plain (spec_l1Least_eq9 _ _) (ev_plain (spec_l1Most_eq9 _ _) (ev_plain e1 ?_)))), h2, by omega⟩
    dsimp only
    rw [wrap_pred (by omega)]
    exact ev_pos (by omega) h1
theorem word9_ok {d : List Int} (hd : bytesL d) {a : Int} (s n most : Int) (h0 : 0 ≤ a) (h1 : a ≤ 999999999900000) (hm : 0 ≤ most ∧ most ≤ 50) : ∃ r a' s', Ev (fun q => spec_l1Cur_word9.f q d a s n most) (r, a', s') ∧ r.length ≤ 202 ∧ (a ≤ a' ∧ a' ≤ a + 2000) := by
  obtain ⟨v, a1, s1, e1, hv, ha1⟩ := pick_ok hd s (most + 1) h0 (by omega)
  obtain ⟨m, rfl⟩ := Int.eq_ofNat_of_zero_le hv.1
  obtain ⟨r, a3, s3, h2, h3, h4⟩ := word9_loop hd n m [] a1 s1 (by simp; omega) (by omega) (by omega)
  unfold spec_l1Cur_word9.f
  refine ⟨r, a3, s3, ?_, h3, by omega⟩
  rw [wrap_id (x := most + 1) (by omega)]
  refine ev_plain e1 ?_
  exact h2

theorem impl_within_eq (a lo hi : Int) : impl_within.f a lo hi = some (inB a lo hi) := by
  unfold impl_within.f inB
  by_cases h : a ≥ lo
  · rw [if_pos h]; simp [h]
  · rw [if_neg h]; simp [show ¬ lo ≤ a from h]

theorem impl_isSuperSize_eq (n : Int) : impl_isSuperSize.f n = some (inB n 1 5) := by unfold impl_isSuperSize.f; rw [impl_within_eq]; rfl

theorem spec_l1In_eq (a lo hi : Int) : spec_l1In.f a lo hi = some (inB a lo hi) := by
  unfold spec_l1In.f inB
  by_cases h : a ≥ lo
  · rw [if_pos h]; simp [h]
  · rw [if_neg h]; simp [show ¬ lo ≤ a from h]

theorem spec_suSize_eq (n : Int) : spec_suSize.f n = some (inB n 1 5) := by unfold spec_suSize.f; rw [spec_l1In_eq]; rfl

def superOk (n : Int) (w : List Int) : Bool := inB n 1 5 && superWordB w
theorem superOk_nat {n : Int} {w : List Int} (h : superOk n w = true) : ∃ m : Nat, n = m ∧ 1 ≤ m ∧ m ≤ 5 ∧ w.length ≤ 200 := by
  simp only [superOk, superWordB, Bool.and_eq_true, inB_iff, decide_eq_true_eq] at h
  exact ⟨n.toNat, by omega, by omega, by omega, by omega⟩
def RanksInM (n : Int) (w : List Int) : List Int × Bool := if superOk n w = true then (comingsM n.toNat w, true) else ([], false)
theorem RanksInM_length (n : Int) (w : List Int) : (RanksInM n w).1.length ≤ 1024 := by
  unfold RanksInM
  split
  · rename_i h
    obtain ⟨m, rfl, _, _, h4⟩ := superOk_nat h
    have := comingsM_length m w
    simp; omega
  · simp
def IsSuperM (n : Int) (w : List Int) : Bool × Bool := if superOk n w = true then (((comingsM n.toNat w).length : Int) == ((fact n.toNat : Nat) : Int), true) else (false, false)
def WastedInM (n : Int) (w : List Int) : Int × Bool := if superOk n w = true then (((w.length + 1 - n.toNat - (comingsM n.toNat w).length : Nat) : Int), true) else (0, false)

theorem impl_identity_ev (n : Nat) (hn : n ≤ 1000000000000) : Ev (fun k => impl_identity.f k (n : Int)) (idl n) := by
  unfold impl_identity.f
  refine ev_iter (fun (acc : List Int) i k => impl_identity.l0 k acc (n : Int) (i : Int)) (fun acc i => acc ++ [(i : Int)]) (fun i acc => acc = idl i) n ?_ n 0 [] (by omega) (by simp [idl]) ?_
  · intro acc i hi hI
    refine ⟨by rw [hI, idl_succ], fun r k => ?_⟩
    refine Ev.step (fun k => by simp only [impl_identity.l0]; rfl) ?_
    rw [wrap_succ (by omega)]
    exact ev_pos (by omega) (ev_pos (by rw [hI, idl_length]; omega) k)
  · intro h
    exact Ev.step (fun k => by simp only [impl_identity.l0]; rfl) (ev_neg (by omega) (ev_some h))

theorem slices_Equal_int_int_loop (a b : List Int) (ha : a.length ≤ 1000000000000) (hab : a.length = b.length) : ∀ (d i : Nat), i + d = a.length →
    Ev (fun k => slices_Equal_int_int.l0 k a b (a.length : Int) (i : Int)) (decide (a.drop i = b.drop i)) := by
  intro d
  induction d with
  | zero =>
    intro i h
    rw [List.drop_eq_nil_of_le (by omega), List.drop_eq_nil_of_le (by omega)]
    refine Ev.step (f := fun _ => some true) (fun k => ?_) (Ev.now _)
    simp only [slices_Equal_int_int.l0]; rw [if_neg (by omega)]
  | succ d ih =>
    intro i h
    rw [drop_rd a i (by omega), drop_rd b i (by omega)]
    refine Ev.step (f := fun k => if rd a (i : Int) = rd b (i : Int) then slices_Equal_int_int.l0 k a b (a.length : Int) ((i + 1 : Nat) : Int) else some false) (fun k => ?_) ?_
    · simp only [slices_Equal_int_int.l0]; rw [if_pos (by omega), if_pos (by omega), if_pos (by omega), if_pos (by omega), wrap_succ (by omega)]
    · exact ev_if (fun e => ev_to (ih (i + 1) (by omega)) (by simp [e])) (fun e => ev_some (by simp [e]))
theorem slices_Equal_int_int_ev (a b : List Int) (ha : a.length ≤ 1000000000000) : Ev (fun k => slices_Equal_int_int.f k a b) (decide (a = b)) := by
  unfold slices_Equal_int_int.f
  refine ev_if (fun h => ?_) (fun h => ev_some ?_)
  · exact slices_Equal_int_int_loop a b ha (by omega) a.length 0 (by omega)
  · rw [eq_comm, decide_eq_false_iff_not]; intro e; exact h (by rw [e])

theorem impl_IsPermutation_ev (l : List Int) : Ev (fun k => impl_IsPermutation.f k l) (permB l) := by
  unfold impl_IsPermutation.f
  refine ev_if (fun h => ?_) (fun h => ev_some (by simp [permB, h]))
  refine ev_call (impl_identity_ev l.length (by omega)) ?_
  refine ev_to (slices_Equal_int_int_ev (srt l) (idl l.length) (by rw [srt_length]; omega)) ?_
  rw [Bool.eq_iff_iff, permB_iff, decide_eq_true_eq, srt_idl]
  exact ⟨fun h' => ⟨h, h'⟩, fun h' => h'.2⟩

theorem impl_factorial_ev (n : Nat) (hn : n ≤ 12) : Ev (fun k => impl_factorial.f k (n : Int)) ((fact n : Nat) : Int) := by
  have h13 : n = 0 ∨ n = 1 ∨ n = 2 ∨ n = 3 ∨ n = 4 ∨ n = 5 ∨ n = 6 ∨ n = 7 ∨ n = 8 ∨ n = 9 ∨ n = 10 ∨ n = 11 ∨ n = 12 := by omega
  rcases h13 with rfl | rfl | rfl | rfl | rfl | rfl | rfl | rfl | rfl | rfl | rfl | rfl | rfl <;> exact Ev.of (fun k => impl_factorial.mono _ k) (k := 20) (by kernel_rfl)

theorem impl_permutationRank_in (l : List Int) (acc i : Nat) (r : Int) (hl : l.length ≤ 12) (hi : i < l.length)
    (k : Ev (fun k => (impl_factorial.f k (wrap64 ((wrap64 ((l.length : Int) - (i : Int))) - 1))).bind fun t => impl_permutationRank.l0 k l (wrap64 ((acc : Int) + wrap64 (((((l.drop (i + 1)).countP (fun y => decide (y < rd l (i : Int)))) : Nat) : Int) * t))) l (l.length : Int) (wrap64 ((i : Int) + 1))) r) :
    Ev (fun k => impl_permutationRank.l1 k l (acc : Int) (i : Int) (rd l (i : Int)) 0 l (l.length : Int) (i : Int) (l.drop (i + 1)) ((l.drop (i + 1)).length : Int) 0) r := by
  refine ev_iter (fun (c : Nat) j k => impl_permutationRank.l1 k l (acc : Int) (i : Int) (rd l (i : Int)) (c : Int) l (l.length : Int) (i : Int) (l.drop (i + 1)) ((l.drop (i + 1)).length : Int) (j : Int)) (fun c j => if (l.drop (i + 1)).getD j 0 < rd l (i : Int) then c + 1 else c) (fun j c => c ≤ j) (l.drop (i + 1)).length ?_ (l.drop (i + 1)).length 0 0 (by omega) (by omega) ?_
  · intro c j hj hI
    have hj2 : j < 12 := by simp at hj; omega
    refine ⟨by split <;> omega, fun r k => ?_⟩
    refine Ev.step (fun k => by simp only [impl_permutationRank.l1]; rfl) ?_
    rw [wrap_succ (i := j) (by omega), rd_nat (l.drop (i + 1)) j]
    refine ev_pos (by omega) (ev_pos (by omega) (ev_pos (by omega) ?_))
    refine ev_if (fun e => ?_) (fun e => ?_)
    · rw [wrap_succ (i := c) (by omega)]
      rw [if_pos e] at k; exact k
    · rw [if_neg e] at k; exact k
  · intro _
    refine Ev.step (fun k => by simp only [impl_permutationRank.l1]; rfl) (ev_neg (by omega) ?_)
    rw [count_index]
    exact k
theorem impl_permutationRank_loop (l : List Int) (hl : l.length ≤ 12) : ∀ (d i acc : Nat), i + d = l.length → acc + rankM (l.drop i) ≤ 1000000000 →
    Ev (fun k => impl_permutationRank.l0 k l (acc : Int) l (l.length : Int) (i : Int)) ((acc + rankM (l.drop i) : Nat) : Int) := by
  intro d
  induction d with
  | zero =>
    intro i acc h hb
    rw [List.drop_eq_nil_of_le (by omega)]
    exact Ev.step (fun k => by simp only [impl_permutationRank.l0]; rfl) (ev_neg (by omega) (ev_some (by simp [rankM])))
  | succ d ih =>
    intro i acc h hb
    have hd := drop_rd l i (by omega)
    rw [hd] at hb ⊢
    simp only [rankM, List.length_drop] at hb ⊢
    refine Ev.step (fun k => by simp only [impl_permutationRank.l0]; rfl) ?_
    rw [wrap_succ (i := i) (by omega)]
    refine ev_pos (by omega) (ev_pos (by omega) (ev_pos (by omega) (ev_pos (by omega) (ev_pos (by omega) ?_))))
    rw [Int.toNat_natCast]
    refine impl_permutationRank_in l acc i _ hl (by omega) ?_
    rw [wrap_id (x := (l.length : Int) - (i : Int)) (by omega), wrap_id (x := (l.length : Int) - (i : Int) - 1) (by omega), show (l.length : Int) - (i : Int) - 1 = ((l.length - (i + 1) : Nat) : Int) by omega, wrap_succ (i := i) (by omega)]
    refine ev_call (impl_factorial_ev _ (by omega)) ?_
    rw [show ∀ a b : Nat, (a : Int) * (b : Int) = ((a * b : Nat) : Int) from fun a b => by simp, wrap_id (x := (((l.drop (i + 1)).countP (fun y => decide (y < rd l (i : Int))) * fact (l.length - (i + 1)) : Nat) : Int)) (by omega), show ∀ a b : Nat, (a : Int) + (b : Int) = ((a + b : Nat) : Int) from fun a b => by simp, wrap_id (by omega)]
    exact ev_to (ih (i + 1) _ (by omega) (by omega)) (by rw [Nat.add_assoc])
theorem impl_permutationRank_ev (l : List Int) (hl : l.length ≤ 12) : Ev (fun k => impl_permutationRank.f k l) ((rankM l : Nat) : Int) := by
  have h1 := rankM_lt l
  have h2 := fact_12 hl
  exact ev_to (impl_permutationRank_loop l hl l.length 0 0 (by omega) (by simp; omega)) (by simp)

theorem slices_Index_loop (l : List Int) (x : Int) (hl : l.length ≤ 1000000000000) : ∀ (d i : Nat), i + d = l.length → ∃ r : Int, (r ≥ 0 ↔ x ∈ l.drop i) ∧ Ev (fun k => slices_Index_int_int.l0 k l x (l.length : Int) (i : Int)) r := by
  intro d
  induction d with
  | zero =>
    intro i h
    rw [List.drop_eq_nil_of_le (by omega)]
    exact ⟨-1, by simp, Ev.step (fun k => by simp only [slices_Index_int_int.l0]; rfl) (ev_neg (by omega) (Ev.now _))⟩
  | succ d ih =>
    intro i h
    rw [drop_rd l i (by omega)]
    obtain ⟨r, h1, h2⟩ := ih (i + 1) (by omega)
    by_cases e : x = rd l (i : Int)
    · refine ⟨(i : Int), by simp [e], Ev.step (fun k => by simp only [slices_Index_int_int.l0]; rfl) ?_⟩
      exact ev_pos (by omega) (ev_pos (by omega) (ev_pos (by omega) (ev_pos e (Ev.now _))))
    · refine ⟨r, by rw [h1, List.mem_cons]; exact ⟨.inr, fun h => h.resolve_left e⟩, Ev.step (fun k => by simp only [slices_Index_int_int.l0]; rfl) ?_⟩
      rw [wrap_succ (by omega)]
      exact ev_pos (by omega) (ev_pos (by omega) (ev_pos (by omega) (ev_neg e h2)))
theorem slices_Contains_int_int_ev (l : List Int) (x : Int) (hl : l.length ≤ 1000000000000) : Ev (fun k => slices_Contains_int_int.f k l x) (decide (x ∈ l)) := by
  unfold slices_Contains_int_int.f slices_Index_int_int.f
  obtain ⟨r, h1, h2⟩ := slices_Index_loop l x hl l.length 0 (by omega)
  refine ev_call h2 (ev_some (decide_eq_decide.mpr ?_))
  simpa using h1

theorem impl_comings_ev (n : Nat) (w : List Int) (hn : 1 ≤ n) (hn2 : n ≤ 12) (hw : w.length ≤ 200) : Ev (fun k => impl_comings.f k (n : Int) w) (comingsM n w) := by
  unfold impl_comings.f comingsM
  by_cases hnl : n ≤ w.length + 1
  · refine ev_iter (fun (out : List Int) i k => impl_comings.l0 k (n : Int) w out (i : Int)) (stepC n w) (fun i out => n ≤ i ∧ out.length ≤ i) (w.length + 1) ?_ (w.length + 1 - n) n [] (by omega) ⟨Nat.le_refl _, by simp⟩ ?_
    · intro out i hi hI
      have hs := stepC_length n w out i
      refine ⟨⟨by omega, by omega⟩, fun r k => ?_⟩
      refine Ev.step (fun k => by simp only [impl_comings.l0]; rfl) ?_
      rw [wrap_id (x := (i : Int) - (n : Int)) (by omega), wrap_succ (by omega), show (i : Int) - (n : Int) = ((i - n : Nat) : Int) by omega, Int.toNat_natCast, Int.toNat_natCast]
      refine ev_pos (by omega) (ev_pos (by omega) (ev_pos (by omega) (ev_call (impl_IsPermutation_ev _) ?_)))
      unfold stepC at k
      refine ev_if (fun e => ?_) (fun e => ?_)
      · rw [if_pos e] at k
        refine ev_call (impl_permutationRank_ev _ (permB_iff.mp e).1) (ev_call (slices_Contains_int_int_ev out _ (by omega)) (ev_if (fun e2 => ?_) (fun e2 => ?_)))
        · rw [if_pos (by simpa using e2)] at k; exact k
        · rw [if_neg (by simpa using e2)] at k; exact ev_pos (by omega) k
      · rw [if_neg e] at k; exact k
    · intro _
      exact Ev.step (fun k => by simp only [impl_comings.l0]; rfl) (ev_neg (by omega) (Ev.now _))
  · rw [show w.length + 1 - n = 0 by omega]
    exact Ev.step (fun k => by simp only [impl_comings.l0]; rfl) (ev_neg (by omega) (Ev.now _))

def superW (n : Nat) : List Int := (spec_suMade.f 3000 (n : Int)).getD []
def rankW (n : Nat) : List Int := comingsM n (superW n)
theorem superW_1 : spec_suMade.f 3000 ((1 : Nat) : Int) = some (superW 1) := by kernel_rfl
theorem superW_2 : spec_suMade.f 3000 ((2 : Nat) : Int) = some (superW 2) := by kernel_rfl
theorem superW_3 : spec_suMade.f 3000 ((3 : Nat) : Int) = some (superW 3) := by kernel_rfl
theorem superW_4 : spec_suMade.f 3000 ((4 : Nat) : Int) = some (superW 4) := by kernel_rfl
theorem superW_5 : spec_suMade.f 3000 ((5 : Nat) : Int) = some (superW 5) := by kernel_rfl
theorem superL_2 : impl_superOf.l0 3000 ((2 : Nat) : Int) [] (rankW 1) ((rankW 1).length : Int) 0 = some (superW 2) := by kernel_rfl
theorem superL_3 : impl_superOf.l0 3000 ((3 : Nat) : Int) [] (rankW 2) ((rankW 2).length : Int) 0 = some (superW 3) := by kernel_rfl
theorem superL_4 : impl_superOf.l0 3000 ((4 : Nat) : Int) [] (rankW 3) ((rankW 3).length : Int) 0 = some (superW 4) := by kernel_rfl
theorem superL_5 : impl_superOf.l0 3000 ((5 : Nat) : Int) [] (rankW 4) ((rankW 4).length : Int) 0 = some (superW 5) := by kernel_rfl
theorem superW_small : (superW 1).length ≤ 200 ∧ (superW 2).length ≤ 200 ∧ (superW 3).length ≤ 200 ∧ (superW 4).length ≤ 200 ∧ (superW 5).length ≤ 200 := by decide +kernel
theorem impl_superOf_1 : Ev (fun q => impl_superOf.f q ((1 : Nat) : Int)) (superW 1) :=
  Ev.step (fun k => by simp only [impl_superOf.f]; rfl) (ev_pos (by omega) (ev_some (by kernel_rfl)))
theorem impl_superOf_next (n : Nat) (hn : 1 ≤ n ∧ n ≤ 4) (hw : (superW n).length ≤ 200) (h : Ev (fun q => impl_superOf.f q (n : Int)) (superW n)) (hl : impl_superOf.l0 3000 ((n + 1 : Nat) : Int) [] (rankW n) ((rankW n).length : Int) 0 = some (superW (n + 1))) :
    Ev (fun q => impl_superOf.f q ((n + 1 : Nat) : Int)) (superW (n + 1)) := by
  refine Ev.step (fun k => by simp only [impl_superOf.f]; rfl) (ev_neg (by omega) ?_)
  rw [wrap_pred (by omega)]
  exact ev_call h (ev_call (impl_comings_ev n (superW n) hn.1 (by omega) hw) (Ev.of (fun k => (impl_superOf.mono_l k).2.1 _ _ _ _ _) (k := 3000) hl))
theorem superOf_ok (n : Nat) (hn : 1 ≤ n ∧ n ≤ 5) : (superW n).length ≤ 200 ∧ Ev (fun q => impl_superOf.f q (n : Int)) (superW n) ∧ Ev (fun q => spec_suMade.f q (n : Int)) (superW n) := by
  obtain ⟨s1, s2, s3, s4, s5⟩ := superW_small
  have e1 := impl_superOf_1
  have e2 := impl_superOf_next 1 (by omega) s1 e1 superL_2
  have e3 := impl_superOf_next 2 (by omega) s2 e2 superL_3
  have e4 := impl_superOf_next 3 (by omega) s3 e3 superL_4
  have e5 := impl_superOf_next 4 (by omega) s4 e4 superL_5
  obtain rfl | rfl | rfl | rfl | rfl : n = 1 ∨ n = 2 ∨ n = 3 ∨ n = 4 ∨ n = 5 := by omega
  · exact ⟨s1, e1, Ev.of (fun k => spec_suMade.mono _ k) (k := 3000) superW_1⟩
  · exact ⟨s2, e2, Ev.of (fun k => spec_suMade.mono _ k) (k := 3000) superW_2⟩
  · exact ⟨s3, e3, Ev.of (fun k => spec_suMade.mono _ k) (k := 3000) superW_3⟩
  · exact ⟨s4, e4, Ev.of (fun k => spec_suMade.mono _ k) (k := 3000) superW_4⟩
  · exact ⟨s5, e5, Ev.of (fun k => spec_suMade.mono _ k) (k := 3000) superW_5⟩
theorem superOf_both (n : Int) : ∃ r : List Int, ∃ b : Bool, r.length ≤ 1048576 ∧ Ev (fun q => impl_SuperOf.f q n) (r, b) ∧ Ev (fun q => spec_SuperOf.f q n) (r, b) := by
  have e1 := impl_isSuperSize_eq n
  have e2 := spec_suSize_eq n
  by_cases h : inB n 1 5 = true
  · have h1 := inB_iff.mp h
    obtain ⟨n, rfl⟩ := Int.eq_ofNat_of_zero_le (show 0 ≤ n by omega)
    obtain ⟨s, i, p⟩ := superOf_ok n (by omega)
    refine ⟨superW n, true, by omega, ?_, ?_⟩
    · unfold impl_SuperOf.f
      exact ev_plain e1 (ev_pos h (ev_call i (Ev.now _)))
    · unfold spec_SuperOf.f
      exact ev_plain e2 (ev_pos h (ev_call p (Ev.now _)))
  · refine ⟨[], false, by simp, ?_, ?_⟩
    · unfold impl_SuperOf.f
      exact ev_plain e1 (ev_neg h (Ev.now _))
    · unfold spec_SuperOf.f
      exact ev_plain e2 (ev_neg h (Ev.now _))

theorem spec_l1Has_loop (l : List Int) (x : Int) (hl : l.length ≤ 1000000000000) : ∀ (d i : Nat), i + d = l.length → Ev (fun k => spec_l1Has.l0 k x l (l.length : Int) (i : Int)) (decide (x ∈ l.drop i)) := by
  intro d
  induction d with
  | zero =>
    intro i h
    rw [List.drop_eq_nil_of_le (by omega)]
    exact Ev.step (fun k => by simp only [spec_l1Has.l0]; rfl) (ev_neg (by omega) (ev_some (by simp)))
  | succ d ih =>
    intro i h
    rw [drop_rd l i (by omega)]
    refine Ev.step (fun k => by simp only [spec_l1Has.l0]; rfl) ?_
    rw [wrap_succ (by omega)]
    refine ev_pos (by omega) (ev_pos (by omega) (ev_pos (by omega) ?_))
    exact ev_if (fun e => ev_some (by simp [e])) (fun e => ev_to (ih (i + 1) (by omega)) (by rw [decide_eq_decide, List.mem_cons]; exact ⟨.inr, fun h => h.resolve_left (fun h => e h.symm)⟩))
theorem spec_l1Has_ev (l : List Int) (x : Int) (hl : l.length ≤ 1000000000000) : Ev (fun k => spec_l1Has.f k l x) (decide (x ∈ l)) :=
  spec_l1Has_loop l x hl l.length 0 (by omega)

theorem spec_raPermutation_loop (l : List Int) (hl : l.length ≤ 1000000000000) : ∀ (d i : Nat), i + d = l.length → i ≤ 12 → (l.take i).Nodup → (∀ x ∈ l.take i, 0 ≤ x ∧ x ≤ (l.length : Int) - 1) →
    Ev (fun k => spec_raPermutation.l0 k l l (l.length : Int) (i : Int)) (permB l) := by
  intro d
  induction d with
  | zero =>
    intro i h1 h2 h3 h4
    rw [List.take_of_length_le (by omega)] at h3 h4
    exact Ev.step (fun k => by simp only [spec_raPermutation.l0]; rfl) (ev_neg (by omega) (ev_some (by rw [eq_comm, permB_iff]; exact ⟨by omega, h3, h4⟩)))
  | succ d ih =>
    intro i h1 h2 h3 h4
    have hmem : rd l (i : Int) ∈ l := by rw [rd_get l i (by omega)]; exact List.getElem_mem _
    have ht := take_rd l i (by omega)
    have hsplit : l = l.take i ++ rd l (i : Int) :: l.drop (i + 1) := by rw [← drop_rd l i (by omega), List.take_append_drop]
    have no : ∀ {P : Prop}, (permB l = true → P → False) → P → false = permB l := fun h p => by
      rw [eq_comm, Bool.eq_false_iff]; exact fun hb => h hb p
    refine Ev.step (fun k => by simp only [spec_raPermutation.l0]; rfl) ?_
    refine ev_pos (by omega) (ev_pos (by omega) (ev_pos (by omega) ?_))
    refine ev_if (fun e => ev_some (no (fun hb _ => by have := (permB_iff.mp hb).1; omega) trivial)) (fun e => ?_)
    rw [wrap_id (x := (l.length : Int) - 1) (by omega), wrap_succ (by omega), Int.toNat_natCast]
    refine ev_plain (spec_l1In_eq _ _ _) (ev_if (fun h5 => ?_) (fun h5 => ev_some (no (fun hb _ => h5 (inB_iff.mpr ((permB_iff.mp hb).2.2 _ hmem))) trivial)))
    refine ev_pos (by omega) (ev_call (spec_l1Has_ev (l.take i) (rd l (i : Int)) (by simp; omega)) (ev_if (fun h6 => ev_some (no (fun hb _ => ?_) trivial)) (fun h6 => ?_)))
    · have hn := (permB_iff.mp hb).2.1
      rw [hsplit, List.nodup_append] at hn
      exact hn.2.2 _ (by simpa using h6) (rd l (i : Int)) (by simp) rfl
    · have hni : rd l (i : Int) ∉ l.take i := by simpa using h6
      refine ih (i + 1) (by omega) (by omega) ?_ ?_
      · rw [ht, List.nodup_append]
        refine ⟨h3, by simp, fun a ha b hb => ?_⟩
        simp only [List.mem_singleton] at hb
        rw [hb]
        intro hab
        exact hni (hab ▸ ha)
      · intro x hx
        rw [ht, List.mem_append] at hx
        rcases hx with hx | hx
        · exact h4 x hx
        · simp only [List.mem_singleton] at hx
          rw [hx]; exact inB_iff.mp h5
theorem spec_raPermutation_ev (l : List Int) (hl : l.length ≤ 1000000000000) : Ev (fun k => spec_raPermutation.f k l) (permB l) :=
  spec_raPermutation_loop l hl l.length 0 (by omega) (by omega) (by simp) (by simp)

theorem spec_raFactorial_ev (n : Nat) (hn : n ≤ 12) : Ev (fun k => spec_raFactorial.f k (n : Int)) ((fact n : Nat) : Int) := by
  have h13 : n = 0 ∨ n = 1 ∨ n = 2 ∨ n = 3 ∨ n = 4 ∨ n = 5 ∨ n = 6 ∨ n = 7 ∨ n = 8 ∨ n = 9 ∨ n = 10 ∨ n = 11 ∨ n = 12 := by omega
  rcases h13 with rfl | rfl | rfl | rfl | rfl | rfl | rfl | rfl | rfl | rfl | rfl | rfl | rfl <;> exact Ev.of (fun k => spec_raFactorial.mono _ k) (k := 20) (by kernel_rfl)

theorem spec_raRank_in (l : List Int) (r : Int) (hl : l.length ≤ 12) (h0 : 0 < l.length)
    (k : Ev (fun k => (spec_raFactorial.f k (wrap64 ((l.length : Int) - 1))).bind fun t => (if 1 ≤ (l.length : Int) then ((spec_raRank.f k (l.drop 1)).bind fun u => some (wrap64 ((wrap64 (((l.countP (fun y => decide (y < rd l 0)) : Nat) : Int) * t)) + u))) else none)) r) :
    Ev (fun k => spec_raRank.l0 k l 0 l (l.length : Int) 0) r := by
  refine ev_iter (fun (c : Nat) j k => spec_raRank.l0 k l (c : Int) l (l.length : Int) (j : Int)) (fun c j => if l.getD j 0 < rd l 0 then c + 1 else c) (fun j c => c ≤ j) l.length ?_ l.length 0 0 (by omega) (by omega) ?_
  · intro c j hj hI
    refine ⟨by split <;> omega, fun r k => ?_⟩
    refine Ev.step (fun k => by simp only [spec_raRank.l0]; rfl) ?_
    rw [wrap_succ (i := j) (by omega), rd_nat l j]
    refine ev_pos (by omega) (ev_pos (by omega) (ev_pos (by omega) (ev_pos (by omega) ?_)))
    refine ev_if (fun e => ?_) (fun e => ?_)
    · rw [wrap_succ (i := c) (by omega)]
      rw [if_pos e] at k; exact k
    · rw [if_neg e] at k; exact k
  · intro _
    refine Ev.step (fun k => by simp only [spec_raRank.l0]; rfl) (ev_neg (by omega) ?_)
    rw [count_index]
    exact k
theorem spec_raRank_ev : ∀ (n : Nat) (l : List Int), l.length = n → n ≤ 12 → Ev (fun k => spec_raRank.f k l) ((rankM l : Nat) : Int) := by
  intro n
  induction n with
  | zero =>
    intro l h _
    obtain rfl := List.eq_nil_of_length_eq_zero h
    refine Ev.step (fun k => by simp only [spec_raRank.f]; rfl) ?_
    exact ev_pos (by simp) (Ev.now _)
  | succ n ih =>
    intro l h hn
    cases l with
    | nil => simp at h
    | cons x t =>
    have hlt := rankM_lt (x :: t)
    have hf := fact_12 (n := (x :: t).length) (by omega)
    have ht : t.length = n := by simpa using h
    refine Ev.step (fun k => by simp only [spec_raRank.f]; rfl) ?_
    refine ev_neg (by simp; omega) (spec_raRank_in (x :: t) _ (by omega) (by simp) ?_)
    have hx : rd (x :: t) 0 = x := by simp [rd]
    have hc : (x :: t).countP (fun y => decide (y < rd (x :: t) 0)) = t.countP (fun y => decide (y < x)) := by rw [hx, List.countP_cons]; simp
    rw [hc, wrap_id (x := (((x :: t).length : Nat) : Int) - 1) (by omega), show (((x :: t).length : Nat) : Int) - 1 = ((t.length : Nat) : Int) by simp]
    refine ev_call (spec_raFactorial_ev _ (by omega)) (ev_pos (by simp; omega) (ev_call (ih t ht (by omega)) (ev_some ?_)))
    simp only [rankM] at hlt ⊢
    rw [show ∀ a b : Nat, (a : Int) * (b : Int) = ((a * b : Nat) : Int) from fun a b => by simp, wrap_id (x := ((t.countP (fun y => decide (y < x)) * fact t.length : Nat) : Int)) (by omega), show ∀ a b : Nat, (a : Int) + (b : Int) = ((a + b : Nat) : Int) from fun a b => by simp, wrap_id (by omega)]

theorem spec_suFirsts_ev (n : Nat) (w : List Int) (hn : 1 ≤ n) (hn2 : n ≤ 12) (hw : w.length ≤ 200) : Ev (fun k => spec_suFirsts.f k (n : Int) w) (comingsM n w, ((w.length + 1 - n - (comingsM n w).length : Nat) : Int)) := by
  unfold spec_suFirsts.f
  rw [wrap_id (x := (n : Int) - 1) (by omega)]
  by_cases hnl : n ≤ w.length + 1
  · have h := ev_iter (r := (comingsM n w, ((w.length + 1 - n - (comingsM n w).length : Nat) : Int))) (fun (out : List Int) i k => spec_suFirsts.l0 k (n : Int) w out ((i - n - out.length : Nat) : Int) ((i : Int) - 1)) (stepC n w) (fun i out => n ≤ i ∧ out.length + n ≤ i) (w.length + 1) ?_ (w.length + 1 - n) n [] (by omega) ⟨Nat.le_refl _, by simp⟩ ?_
    · simpa using h
    · intro out i hi hI
      have hs := stepC_length n w out i
      refine ⟨⟨by omega, by omega⟩, fun r k => ?_⟩
      refine Ev.step (fun k => by simp only [spec_suFirsts.l0]; rfl) ?_
      have e1 : wrap64 (wrap64 ((i : Int) - 1 - (n : Int)) + 1) = ((i - n : Nat) : Int) := by rw [wrap_id (x := (i : Int) - 1 - (n : Int)) (by omega), wrap_id (by omega)]; omega
      have e2 : wrap64 ((i : Int) - 1 + 1) = (i : Int) := by rw [wrap_id (by omega)]; omega
      rw [e1, e2, Int.toNat_natCast, Int.toNat_natCast]
      have e3 : ((i + 1 : Nat) : Int) - 1 = (i : Int) := by omega
      rw [e3] at k
      refine ev_pos (by omega) (ev_pos (by omega) (ev_pos (by omega) (ev_pos (by omega) (ev_call (spec_raPermutation_ev _ (by simp; omega)) ?_))))
      have up : ∀ m : Nat, m ≤ 1000 → wrap64 ((m : Int) + 1) = ((m + 1 : Nat) : Int) := fun m hm => wrap_succ (by omega)
      unfold stepC at k
      refine ev_if (fun e => ?_) (fun e => ?_)
      · rw [if_pos e] at k
        have hr := spec_raRank_ev _ ((w.take i).drop (i - n)) rfl (permB_iff.mp e).1
        refine ev_call hr (ev_call (spec_l1Has_ev out _ (by omega)) (ev_if (fun e2 => ?_) (fun e2 => ?_)))
        · rw [if_pos (by simpa using e2), show i + 1 - n - out.length = (i - n - out.length) + 1 by omega] at k
          rw [up _ (by omega)]; exact k
        · rw [if_neg (by simpa using e2), List.length_append, List.length_singleton, show i + 1 - n - (out.length + 1) = i - n - out.length by omega] at k
          exact ev_call hr (ev_pos (by omega) k)
      · rw [if_neg e, show i + 1 - n - out.length = (i - n - out.length) + 1 by omega] at k
        rw [up _ (by omega)]; exact k
    · intro _
      exact Ev.step (fun k => by simp only [spec_suFirsts.l0]; rfl) (ev_neg (by omega) (Ev.now _))
  · have e : comingsM n w = [] := by unfold comingsM; rw [show w.length + 1 - n = 0 by omega]; rfl
    rw [e, show w.length + 1 - n = 0 by omega]
    exact Ev.step (fun k => by simp only [spec_suFirsts.l0]; rfl) (ev_neg (by omega) (Ev.now _))

theorem impl_power_ev (a n : Nat) (ha : a ≤ 6) (hn : n ≤ 12) : Ev (fun k => impl_power.f k (a : Int) (n : Int)) ((a ^ n : Nat) : Int) := by
  have hb : ∀ j, j ≤ n → a ^ j ≤ 2176782336 := fun j hj => Nat.le_trans (Nat.pow_le_pow_left ha j) (Nat.le_trans (Nat.pow_le_pow_right (by omega) (show j ≤ 12 by omega)) (by decide))
  unfold impl_power.f
  refine ev_iter (fun (o : Nat) i k => impl_power.l0 k (a : Int) (o : Int) (n : Int) (i : Int)) (fun o _ => o * a) (fun i o => o = a ^ i) n ?_ n 0 1 (by omega) rfl ?_
  · intro o i hi hI
    refine ⟨by rw [hI, Nat.pow_succ], fun r k => ?_⟩
    have h1 := hb (i + 1) (by omega)
    rw [Nat.pow_succ, ← hI] at h1
    refine Ev.step (fun k => by simp only [impl_power.l0]; rfl) ?_
    refine ev_pos (by omega) ?_
    rw [wrap_succ (by omega), show (o : Int) * (a : Int) = ((o * a : Nat) : Int) by simp, wrap_id (by omega)]
    exact k
  · intro h
    refine Ev.step (fun k => by simp only [impl_power.l0]; rfl) (ev_neg (by omega) (ev_some (by rw [h])))

/-- The word with a code: so many digits, from the last one on. -/
def putD (kk : Int) : Nat → Int → List Int → List Int
  | 0, _, w => w
  | m + 1, c, w => putD kk m (Int.tdiv c kk) (w.set m (Int.tmod c kk))
theorem putD_length (kk : Int) : ∀ m c w, (putD kk m c w).length = w.length := by
  intro m
  induction m with
  | zero => intro c w; rfl
  | succ m ih => intro c w; unfold putD; rw [ih, List.length_set]
def digW (len : Nat) (kk : Int) (c : Int) : List Int := putD kk len c (List.replicate len 0)
theorem digW_length (len : Nat) (kk c : Int) : (digW len kk c).length = len := by unfold digW; rw [putD_length, List.length_replicate]
theorem putD_range (kk : Int) (hk : 1 ≤ kk) : ∀ m c w, 0 ≤ c → (∀ x ∈ w, 0 ≤ x ∧ x < kk) → ∀ x ∈ putD kk m c w, 0 ≤ x ∧ x < kk := by
  intro m
  induction m with
  | zero => intro c w _ h; exact h
  | succ m ih =>
    intro c w hc h
    unfold putD
    refine ih _ _ (Int.tdiv_nonneg hc (by omega)) (fun x hx => ?_)
    rcases List.mem_or_eq_of_mem_set hx with hx | rfl
    · exact h x hx
    · exact ⟨Int.tmod_nonneg _ hc, Int.tmod_lt_of_pos _ (by omega)⟩
theorem digW_range (len : Nat) (kk : Int) (hk : 1 ≤ kk) (c : Int) (hc : 0 ≤ c) : ∀ x ∈ digW len kk c, 0 ≤ x ∧ x < kk := by
  unfold digW
  exact putD_range kk hk len c _ hc (fun x hx => by have := List.eq_of_mem_replicate hx; omega)
theorem tdiv_small {c kk : Int} (h0 : 0 ≤ c) (hk : 1 ≤ kk) (hc : c ≤ 1000000000000) : wrap64 (Int.tdiv c kk) = Int.tdiv c kk ∧ 0 ≤ Int.tdiv c kk ∧ Int.tdiv c kk ≤ 1000000000000 := by
  obtain ⟨a, rfl⟩ := Int.eq_ofNat_of_zero_le h0
  obtain ⟨b, rfl⟩ := Int.eq_ofNat_of_zero_le (show 0 ≤ kk by omega)
  obtain ⟨q, hq⟩ : ∃ q : Nat, a / b = q := ⟨_, rfl⟩
  have e : Int.tdiv (a : Int) (b : Int) = ((a / b : Nat) : Int) := (Int.ofNat_tdiv a b).symm
  have := Nat.div_le_self a b
  rw [hq] at e this
  rw [e]
  exact ⟨wrap_id (by omega), by omega, by omega⟩
/-- A search that must end: the first hit of those counted up to some number. -/
theorem ev_hit {ρ : Type} (L : Nat → Nat → Option ρ) (F : Nat → Option ρ) (r : ρ) : ∀ d i, (∀ j, i ≤ j → j < i + d → (∀ r, F j = some r → Ev (L j) r) ∧ (F j = none → ∀ r, Ev (L (j + 1)) r → Ev (L j) r)) →
    ((List.range' i d).findSome? F) = some r → Ev (L i) r := by
  intro d
  induction d with
  | zero => intro i _ h; simp at h
  | succ d ih =>
    intro i hs h
    rw [List.range'_succ, List.findSome?_cons] at h
    obtain ⟨h1, h2⟩ := hs i (Nat.le_refl _) (by omega)
    cases hf : F i with
    | some r' =>
      rw [hf] at h
      obtain rfl := Option.some.inj h
      exact h1 _ hf
    | none =>
      rw [hf] at h
      exact h2 hf _ (ih (i + 1) (fun j hj1 hj2 => hs j (by omega) (by omega)) h)
theorem findSome_some {ρ : Type} (F : Nat → Option ρ) (i d c : Nat) (h1 : i ≤ c) (h2 : c < i + d) (h3 : (F c).isSome = true) : ∃ r, ((List.range' i d).findSome? F) = some r ∧ ∃ j, i ≤ j ∧ j ≤ c ∧ F j = some r := by
  induction d generalizing i with
  | zero => omega
  | succ d ih =>
    rw [List.range'_succ, List.findSome?_cons]
    cases hf : F i with
    | some r => exact ⟨r, rfl, i, Nat.le_refl _, h1, hf⟩
    | none =>
      by_cases e : i = c
      · subst e; rw [hf] at h3; cases h3
      · obtain ⟨r, hr, j, j1, j2, j3⟩ := ih (i + 1) (by omega) (by omega)
        exact ⟨r, hr, j, by omega, j2, j3⟩

theorem impl_firstWord_in (kk : Int) (hk : 1 ≤ kk) : ∀ (m : Nat) (c : Int) (w : List Int), m ≤ w.length → w.length ≤ 1000000 → 0 ≤ c → c ≤ 1000000000000 → Ev (fun q => impl_firstWord.in0 q kk c w ((m : Int) - 1)) (putD kk m c w) := by
  intro m
  induction m with
  | zero =>
    intro c w h1 h2 h3 h4
    exact Ev.step (fun k => by simp only [impl_firstWord.in0]; rfl) (ev_neg (by omega) (Ev.now _))
  | succ m ih =>
    intro c w h1 h2 h3 h4
    have ht := tdiv_small h3 hk h4
    refine Ev.step (fun k => by simp only [impl_firstWord.in0]; rfl) ?_
    refine ev_pos (by omega) (ev_neg (by omega) (ev_pos (by omega) ?_))
    rw [ht.1, show (((m + 1 : Nat) : Int) - 1) = (m : Int) by omega, Int.toNat_natCast, wrap_id (x := (m : Int) - 1) (by omega)]
    exact ih _ _ (by rw [List.length_set]; omega) (by rw [List.length_set]; exact h2) ht.2.1 ht.2.2
/-- The first word by its code of which P is so, if there is one. -/
def firstW (P : List Int → Bool) (len : Nat) (kk : Int) (size : Nat) : Option (List Int × Bool) := (List.range' 0 size).findSome? fun (c : Nat) => if P (digW len kk (c : Int)) = true then some (digW len kk (c : Int), true) else none
theorem impl_firstWord_ev (p : Nat → List Int → Option Bool) (P : List Int → Bool) (len : Nat) (kk : Int) (size : Nat) (hl : len ≤ 1000000) (hk : 1 ≤ kk) (hs : size ≤ 1000000000)
    (hpow : Ev (fun q => impl_power.f q kk (len : Int)) (size : Int)) (hp : ∀ c : Nat, c < size → Ev (fun q => p q (digW len kk (c : Int))) (P (digW len kk (c : Int)))) :
    Ev (fun q => impl_firstWord.f p q (len : Int) kk) ((firstW P len kk size).getD ([], false)) := by
  unfold impl_firstWord.f firstW
  refine ev_call hpow ?_
  refine ev_find (fun c q => impl_firstWord.l0 p q (len : Int) kk (size : Int) (c : Int)) _ size ([], false) ?_ ?_ size 0 (by omega)
  · intro c hc
    have hstep : ∀ r, Ev (fun q => if P (digW len kk (c : Int)) = true then some (digW len kk (c : Int), true) else impl_firstWord.l0 p q (len : Int) kk (size : Int) ((c + 1 : Nat) : Int)) r → Ev (fun q => impl_firstWord.l0 p q (len : Int) kk (size : Int) (c : Int)) r := by
      intro r h
      refine Ev.step (fun k => by simp only [impl_firstWord.l0]; rfl) ?_
      rw [Int.toNat_natCast, wrap_id (x := (len : Int) - 1) (by omega), wrap_succ (by omega)]
      have hin := impl_firstWord_in kk hk len (c : Int) (List.replicate len 0) (by simp) (by simp; omega) (by omega) (by omega)
      exact ev_pos (by omega) (ev_pos (by omega) (ev_pos (by omega) (ev_call hin (ev_call (hp c hc) h))))
    refine ⟨fun r hr => hstep r ?_, fun hr r h => hstep r ?_⟩
    · split at hr
      · rename_i h1
        obtain rfl := Option.some.inj hr
        exact ev_pos h1 (Ev.now _)
      · cases hr
    · split at hr
      · cases hr
      · rename_i h1
        exact ev_neg h1 h
  · exact Ev.step (fun k => by simp only [impl_firstWord.l0]; rfl) (ev_neg (by omega) (Ev.now _))

theorem spec_suCount_loop (kk : Int) (hk : 1 ≤ kk) : ∀ (m : Nat) (c : Int) (w : List Int), m ≤ w.length → w.length ≤ 1000000 → 0 ≤ c → c ≤ 1000000000000 → Ev (fun q => spec_suCount.l0 q kk c w ((m : Int) - 1)) (putD kk m c w) := by
  intro m
  induction m with
  | zero =>
    intro c w h1 h2 h3 h4
    exact Ev.step (fun k => by simp only [spec_suCount.l0]; rfl) (ev_neg (by omega) (Ev.now _))
  | succ m ih =>
    intro c w h1 h2 h3 h4
    have ht := tdiv_small h3 hk h4
    refine Ev.step (fun k => by simp only [spec_suCount.l0]; rfl) ?_
    refine ev_pos (by omega) (ev_neg (by omega) (ev_pos (by omega) (ev_pos (by omega) ?_)))
    rw [ht.1, show (((m + 1 : Nat) : Int) - 1) = (m : Int) by omega, Int.toNat_natCast, wrap_id (x := (m : Int) - 1) (by omega)]
    exact ih _ _ (by rw [List.length_set]; omega) (by rw [List.length_set]; exact h2) ht.2.1 ht.2.2
theorem spec_suCount_ev (len : Nat) (kk c : Int) (hl : len ≤ 1000000) (hk : 1 ≤ kk) (h3 : 0 ≤ c) (h4 : c ≤ 1000000000000) : Ev (fun q => spec_suCount.f q (len : Int) kk c) (digW len kk c) := by
  unfold spec_suCount.f digW
  rw [Int.toNat_natCast, wrap_id (x := (len : Int) - 1) (by omega)]
  exact ev_pos (by omega) (ev_pos (by omega) (spec_suCount_loop kk hk len c _ (by simp) (by simp; omega) h3 h4))

def supB (n : Nat) (w : List Int) : Bool := ((comingsM n w).length : Int) == ((fact n : Nat) : Int)
theorem impl_is_ev (n : Nat) (hn : 1 ≤ n) (hn2 : n ≤ 12) (w : List Int) (hw : w.length ≤ 200) : Ev (fun q => impl_ShortestSuper.is (n : Int) q w) (supB n w) := by
  unfold impl_ShortestSuper.is
  exact ev_call (impl_comings_ev n w hn hn2 hw) (ev_call (impl_factorial_ev n hn2) (Ev.now _))
theorem spec_suSuper_ev (n : Nat) (hn : 1 ≤ n) (hn2 : n ≤ 12) (w : List Int) (hw : w.length ≤ 200) : Ev (fun q => spec_suSuper.f q (n : Int) w) (supB n w) := by
  unfold spec_suSuper.f
  exact ev_call (spec_suFirsts_ev n w hn hn2 hw) (ev_call (spec_raFactorial_ev n hn2) (Ev.now _))
theorem firstW_some {P : List Int → Bool} {len : Nat} {kk : Int} {size : Nat} {r : List Int × Bool} (h : firstW P len kk size = some r) : ∃ w, r = (w, true) ∧ w.length = len ∧ P w = true := by
  unfold firstW at h
  obtain ⟨c, _, hc⟩ := List.exists_of_findSome?_eq_some h
  split at hc
  · rename_i h1
    exact ⟨_, (Option.some.inj hc).symm, digW_length _ _ _, h1⟩
  · cases hc
theorem short_inner (n size all : Nat) (hn : 1 ≤ n ∧ n ≤ 3) (hsize : size ≤ 200) (hall : all ≤ 1000000) (x : List Int × Bool) : ∀ d c, c + d = all →
    (match ((List.range' c d).findSome? fun (c : Nat) => if supB n (digW size (n : Int) (c : Int)) = true then some (digW size (n : Int) (c : Int), true) else none) with
      | some r => x = r
      | none => Ev (fun q => spec_ShortestSuper.l0 q (n : Int) ((size + 1 : Nat) : Int) (wrap64 ((all : Int) * (n : Int)))) x) → Ev (fun q => spec_ShortestSuper.l1 q (n : Int) (size : Int) (all : Int) (c : Int)) x := by
  intro d
  induction d with
  | zero =>
    intro c hc h
    refine Ev.step (fun k => by simp only [spec_ShortestSuper.l1]; rfl) (ev_neg (by omega) ?_)
    rw [wrap_succ (by omega)]
    simpa using h
  | succ d ih =>
    intro c hc h
    rw [List.range'_succ, List.findSome?_cons] at h
    refine Ev.step (fun k => by simp only [spec_ShortestSuper.l1]; rfl) (ev_pos (by omega) ?_)
    refine ev_call (spec_suCount_ev size (n : Int) (c : Int) (by omega) (by omega) (by omega) (by omega)) (ev_call (spec_suSuper_ev n (by omega) (by omega) _ (by rw [digW_length]; omega)) ?_)
    refine ev_if (fun h1 => ?_) (fun h1 => ?_)
    · rw [if_pos h1] at h
      exact ev_some h.symm
    · rw [if_neg h1] at h
      rw [wrap_succ (by omega)]
      exact ih (c + 1) (by omega) h
theorem short_at (n len0 c0 : Nat) (hn : 1 ≤ n ∧ n ≤ 3) (hl0 : n ≤ len0 ∧ len0 ≤ 9) (hc : c0 < n ^ len0) (hp : ∀ m, m ≤ 9 → n ^ m ≤ 100000) (h : supB n (digW len0 (n : Int) (c0 : Int)) = true) :
    ∃ r : List Int, (n ≤ r.length ∧ r.length ≤ len0) ∧ (supB n r = true ∧ (∀ x ∈ r, 0 ≤ x ∧ x < (n : Int)) ∧ firstW (supB n) r.length (n : Int) (n ^ r.length) = some (r, true)) ∧ Ev (fun q => impl_ShortestSuper.f q (n : Int)) (r, true) ∧ Ev (fun q => spec_ShortestSuper.f q (n : Int)) (r, true) := by
  have hb := inB_iff.mpr (show (1 : Int) ≤ (n : Int) ∧ (n : Int) ≤ 3 by omega)
  have hG0 : (firstW (supB n) len0 (n : Int) (n ^ len0)).isSome = true := by
    obtain ⟨r, hr, _⟩ := findSome_some (fun (c : Nat) => if supB n (digW len0 (n : Int) (c : Int)) = true then some (digW len0 (n : Int) (c : Int), true) else none) 0 (n ^ len0) c0 (by omega) (by omega) (by show Option.isSome (if _ then _ else _) = true; rw [if_pos h]; rfl)
    unfold firstW
    rw [hr]; rfl
  obtain ⟨r, hr, j, j1, j2, hj⟩ := findSome_some (fun len => firstW (supB n) len (n : Int) (n ^ len)) n (10 - n) len0 (by omega) (by omega) hG0
  obtain ⟨word, rfl, hwl, hwP⟩ := firstW_some hj
  have hsmall : ∀ m, m < n → firstW (supB n) m (n : Int) (n ^ m) = none := by
    intro m hm
    cases hf : firstW (supB n) m (n : Int) (n ^ m) with
    | none => rfl
    | some r =>
      obtain ⟨w, _, h2, h3⟩ := firstW_some hf
      have h4 := comingsM_length n w
      have h5 : 1 ≤ fact n := by
        have := rankM_lt (List.replicate n 0)
        rw [List.length_replicate] at this; omega
      unfold supB at h3
      rw [beq_iff_eq] at h3
      omega
  have hwr : ∀ x ∈ word, 0 ≤ x ∧ x < (n : Int) := by
    have hj2 : firstW (supB n) j (n : Int) (n ^ j) = some (word, true) := hj
    unfold firstW at hj2
    obtain ⟨c, _, hc2⟩ := List.exists_of_findSome?_eq_some hj2
    split at hc2
    · have := (Prod.mk.inj (Option.some.inj hc2)).1
      rw [← this]
      exact digW_range j (n : Int) (by omega) (c : Int) (by omega)
    · cases hc2
  refine ⟨word, by omega, ⟨hwP, hwr, by rw [hwl]; exact hj⟩, ?_, ?_⟩
  · unfold impl_ShortestSuper.f
    refine ev_plain (impl_within_eq _ _ _) (ev_pos hb ?_)
    refine ev_hit (fun len q => impl_ShortestSuper.l0 q (n : Int) (len : Int)) _ _ (10 - n) n (fun len l1 l2 => ?_) hr
    have hpl := hp len (by omega)
    have hf := impl_firstWord_ev (impl_ShortestSuper.is (n : Int)) (supB n) len (n : Int) (n ^ len) (by omega) (by omega) (by omega) (impl_power_ev n len (by omega) (by omega)) (fun c _ => impl_is_ev n (by omega) (by omega) _ (by rw [digW_length]; omega))
    refine ⟨fun r hr => ?_, fun hr r h => ?_⟩
    · obtain ⟨w, rfl, _, _⟩ := firstW_some hr
      have hr' : firstW (supB n) len (n : Int) (n ^ len) = some (w, true) := hr
      rw [hr', Option.getD_some] at hf
      exact Ev.step (fun k => by simp only [impl_ShortestSuper.l0]; rfl) (ev_call hf (ev_pos rfl (Ev.now _)))
    · have hr' : firstW (supB n) len (n : Int) (n ^ len) = none := hr
      rw [hr', Option.getD_none] at hf
      refine Ev.step (fun k => by simp only [impl_ShortestSuper.l0]; rfl) (ev_call hf (ev_neg (show ¬ (false = true) by decide) ?_))
      rw [wrap_succ (by omega)]
      exact h
  · unfold spec_ShortestSuper.f
    refine ev_plain (spec_l1In_eq _ _ _) (ev_pos hb ?_)
    have hr1 : (List.range' 1 9).findSome? (fun len => firstW (supB n) len (n : Int) (n ^ len)) = some (word, true) := by
      obtain rfl | rfl | rfl : n = 1 ∨ n = 2 ∨ n = 3 := by omega
      · exact hr
      · rw [List.range'_succ, List.findSome?_cons, hsmall 1 (by omega)]; exact hr
      · rw [List.range'_succ, List.findSome?_cons, hsmall 1 (by omega), List.range'_succ, List.findSome?_cons, hsmall 2 (by omega)]; exact hr
    have key := ev_hit (fun len q => spec_ShortestSuper.l0 q (n : Int) (len : Int) ((n ^ len : Nat) : Int)) _ (word, true) 9 1 (fun len l1 l2 => ?_) hr1
    · rw [show n ^ 1 = n by simp] at key
      exact key
    · have hpl := hp len (by omega)
      have hin := fun x => short_inner n len (n ^ len) hn (by omega) (by omega) x (n ^ len) 0 (by omega)
      have hmul : wrap64 (((n ^ len : Nat) : Int) * (n : Int)) = ((n ^ (len + 1) : Nat) : Int) := by
        have h3 : n ^ len * n ≤ 300000 := by
          obtain rfl | rfl | rfl : n = 1 ∨ n = 2 ∨ n = 3 := by omega
          all_goals omega
        rw [← Int.natCast_mul, Nat.pow_succ, wrap_id (by omega)]
      refine ⟨fun r hr => ?_, fun hr r h => ?_⟩
      · refine Ev.step (fun k => by simp only [spec_ShortestSuper.l0]; rfl) (hin r ?_)
        unfold firstW at hr
        rw [hr]
      · refine Ev.step (fun k => by simp only [spec_ShortestSuper.l0]; rfl) (hin r ?_)
        unfold firstW at hr
        rw [hr, hmul]
        exact h
theorem shortest_ok (n : Int) (h : inB n 1 3 = true) : ∃ m : Nat, ∃ r : List Int, n = (m : Int) ∧ (m ≤ r.length ∧ r.length ≤ 9) ∧ (supB m r = true ∧ (∀ x ∈ r, 0 ≤ x ∧ x < (m : Int)) ∧ firstW (supB m) r.length (m : Int) (m ^ r.length) = some (r, true)) ∧ Ev (fun q => impl_ShortestSuper.f q n) (r, true) ∧ Ev (fun q => spec_ShortestSuper.f q n) (r, true) := by
  have h1 := inB_iff.mp h
  obtain rfl | rfl | rfl : n = ((1 : Nat) : Int) ∨ n = ((2 : Nat) : Int) ∨ n = ((3 : Nat) : Int) := by omega
  · obtain ⟨r, h1, h2⟩ := short_at 1 1 0 (by omega) (by omega) (by decide +kernel) (fun m hm => by simp) (by decide +kernel)
    exact ⟨1, r, rfl, ⟨h1.1, by omega⟩, h2⟩
  · obtain ⟨r, h1, h2⟩ := short_at 2 3 2 (by omega) (by omega) (by decide +kernel) (fun m hm => Nat.le_trans (Nat.pow_le_pow_right (by omega) hm) (by decide +kernel)) (by decide +kernel)
    exact ⟨2, r, rfl, ⟨h1.1, by omega⟩, h2⟩
  · obtain ⟨r, h1, h2⟩ := short_at 3 9 3747 (by omega) (by omega) (by decide +kernel) (fun m hm => Nat.le_trans (Nat.pow_le_pow_right (by omega) hm) (by decide +kernel)) (by decide +kernel)
    exact ⟨3, r, rfl, ⟨h1.1, by omega⟩, h2⟩
theorem shortest_both (n : Int) : ∃ r : List Int, ∃ b : Bool, r.length ≤ 1048576 ∧ Ev (fun q => impl_ShortestSuper.f q n) (r, b) ∧ Ev (fun q => spec_ShortestSuper.f q n) (r, b) := by
  by_cases h : inB n 1 3 = true
  · obtain ⟨m, r, rfl, h1, _, h2, h3⟩ := shortest_ok n h
    exact ⟨r, true, by omega, h2, h3⟩
  · refine ⟨[], false, by simp, ?_, ?_⟩
    · unfold impl_ShortestSuper.f
      exact ev_plain (impl_within_eq _ _ _) (ev_neg h (Ev.now _))
    · unfold spec_ShortestSuper.f
      exact ev_plain (spec_l1In_eq _ _ _) (ev_neg h (Ev.now _))

theorem impl_allWithin_loop (lo hi : Int) (xs : List Int) (hx : xs.length ≤ 1000000000000) : ∀ (d i : Nat), i + d = xs.length →
    Ev (fun k => impl_allWithin.l0 k lo hi xs (xs.length : Int) (i : Int)) (allB (xs.drop i) lo hi) := by
  intro d
  induction d with
  | zero =>
    intro i h
    rw [List.drop_eq_nil_of_le (by omega)]
    refine Ev.step (f := fun _ => some true) (fun k => ?_) (Ev.now _)
    simp only [impl_allWithin.l0]; rw [if_neg (by omega)]
  | succ d ih =>
    intro i h
    have hlt : i < xs.length := by omega
    rw [drop_rd xs i hlt]
    refine Ev.step (f := fun k => if inB (rd xs (i : Int)) lo hi = true then impl_allWithin.l0 k lo hi xs (xs.length : Int) ((i + 1 : Nat) : Int) else some false) (fun k => ?_) ?_
    · simp only [impl_allWithin.l0]; rw [if_pos (by omega), if_pos (by omega), if_pos (by omega), impl_within_eq, wrap_succ (by omega)]; rfl
    · by_cases hb : inB (rd xs (i : Int)) lo hi = true
      · exact ev_pos hb (ev_to (ih (i + 1) (by omega)) (by simp [allB, hb]))
      · exact ev_neg hb (ev_some (by simp [allB, Bool.eq_false_iff.mpr hb]))
theorem impl_allWithin_ev (lo hi : Int) (xs : List Int) (hx : xs.length ≤ 1000000000000) : Ev (fun k => impl_allWithin.f k xs lo hi) (allB xs lo hi) :=
  impl_allWithin_loop lo hi xs hx xs.length 0 (by omega)

theorem impl_isSuperWord_ev (w : List Int) (hw : w.length ≤ 1048576) : Ev (fun k => impl_isSuperWord.f k w) (superWordB w) := by
  unfold impl_isSuperWord.f superWordB
  exact ev_if (fun h => ev_call (impl_allWithin_ev _ _ _ (by omega)) (ev_some (by rw [decide_eq_true h]; simp))) (fun h => ev_some (by rw [decide_eq_false h]; simp))

theorem impl_IsSuper_ev (n : Int) (w : List Int) (hw : w.length ≤ 1048576) : Ev (fun k => impl_IsSuper.f k n w) (IsSuperM n w) := by
  unfold impl_IsSuper.f IsSuperM
  refine ev_plain (impl_isSuperSize_eq n) (ev_if (fun h1 => ?_) (fun h1 => ?_))
  · refine ev_call (impl_isSuperWord_ev w hw) (Ev.step (fun k => by simp only [impl_IsSuper.j0]; rfl) ?_)
    refine ev_if (fun h2 => ev_some (by rw [if_neg (fun h => by simp only [superOk, Bool.and_eq_true] at h; simp [h.2] at h2)])) (fun h2 => ?_)
    have hok : superOk n w = true := by simp only [superOk, Bool.and_eq_true]; exact ⟨h1, by simpa using h2⟩
    rw [if_pos hok]
    obtain ⟨m, rfl, m1, m2, hl⟩ := superOk_nat hok
    exact ev_call (impl_comings_ev m w m1 (by omega) hl) (ev_call (impl_factorial_ev m (by omega)) (ev_some (by simp)))
  · refine Ev.step (fun k => by simp only [impl_IsSuper.j0]; rfl) ?_
    exact ev_pos (by trivial) (ev_some (by rw [if_neg (fun h => h1 (by simp only [superOk, Bool.and_eq_true] at h; exact h.1))]))

theorem spec_l1All_loop (lo hi : Int) (xs : List Int) (hx : xs.length ≤ 1000000000000) : ∀ (d i : Nat), i + d = xs.length →
    Ev (fun k => spec_l1All.l0 k lo hi xs (xs.length : Int) (i : Int)) (allB (xs.drop i) lo hi) := by
  intro d
  induction d with
  | zero =>
    intro i h
    rw [List.drop_eq_nil_of_le (by omega)]
    refine Ev.step (f := fun _ => some true) (fun k => ?_) (Ev.now _)
    simp only [spec_l1All.l0]; rw [if_neg (by omega)]
  | succ d ih =>
    intro i h
    have hlt : i < xs.length := by omega
    rw [drop_rd xs i hlt]
    refine Ev.step (f := fun k => if inB (rd xs (i : Int)) lo hi = true then spec_l1All.l0 k lo hi xs (xs.length : Int) ((i + 1 : Nat) : Int) else some false) (fun k => ?_) ?_
    · simp only [spec_l1All.l0]; rw [if_pos (by omega), if_pos (by omega), if_pos (by omega), spec_l1In_eq, wrap_succ (by omega)]; rfl
    · by_cases hb : inB (rd xs (i : Int)) lo hi = true
      · exact ev_pos hb (ev_to (ih (i + 1) (by omega)) (by simp [allB, hb]))
      · exact ev_neg hb (ev_some (by simp [allB, Bool.eq_false_iff.mpr hb]))
theorem spec_l1All_ev (lo hi : Int) (xs : List Int) (hx : xs.length ≤ 1000000000000) : Ev (fun k => spec_l1All.f k xs lo hi) (allB xs lo hi) :=
  spec_l1All_loop lo hi xs hx xs.length 0 (by omega)

theorem spec_suWord_ev (w : List Int) (hw : w.length ≤ 1048576) : Ev (fun k => spec_suWord.f k w) (superWordB w) := by
  unfold spec_suWord.f superWordB
  exact ev_if (fun h => ev_call (spec_l1All_ev _ _ _ (by omega)) (ev_some (by rw [decide_eq_true h]; simp))) (fun h => ev_some (by rw [decide_eq_false h]; simp))

theorem spec_IsSuper_ev (n : Int) (w : List Int) (hw : w.length ≤ 1048576) : Ev (fun k => spec_IsSuper.f k n w) (IsSuperM n w) := by
  unfold spec_IsSuper.f IsSuperM
  refine ev_plain (spec_suSize_eq n) (ev_if (fun h1 => ?_) (fun h1 => ev_some (by rw [if_neg (fun h => h1 (by simp only [superOk, Bool.and_eq_true] at h; exact h.1))])))
  refine ev_call (spec_suWord_ev w hw) (ev_if (fun h2 => ?_) (fun h2 => ev_some (by rw [if_neg (fun h => h2 (by simp only [superOk, Bool.and_eq_true] at h; exact h.2))])))
  have hok : superOk n w = true := by simp [superOk, h1, h2]
  rw [if_pos hok]
  obtain ⟨m, rfl, m1, m2, hl⟩ := superOk_nat hok
  refine ev_call (a := ((comingsM m w).length : Int) == ((fact m : Nat) : Int)) ?_ (ev_some (by simp))
  unfold spec_suSuper.f
  exact ev_call (spec_suFirsts_ev m w m1 (by omega) hl) (ev_call (spec_raFactorial_ev m (by omega)) (ev_some rfl))

theorem impl_RanksIn_ev (n : Int) (w : List Int) (hw : w.length ≤ 1048576) : Ev (fun k => impl_RanksIn.f k n w) (RanksInM n w) := by
  unfold impl_RanksIn.f RanksInM
  refine ev_plain (impl_isSuperSize_eq n) (ev_if (fun h1 => ?_) (fun h1 => ev_some (by rw [if_neg (fun h => h1 (by simp only [superOk, Bool.and_eq_true] at h; exact h.1))])))
  refine ev_call (impl_isSuperWord_ev w hw) (ev_if (fun h2 => ?_) (fun h2 => ev_some (by rw [if_neg (fun h => h2 (by simp only [superOk, Bool.and_eq_true] at h; exact h.2))])))
  have hok : superOk n w = true := by simp [superOk, h1, h2]
  rw [if_pos hok]
  obtain ⟨m, rfl, m1, m2, hl⟩ := superOk_nat hok
  exact ev_call (impl_comings_ev m w m1 (by omega) hl) (ev_some (by simp))

theorem spec_RanksIn_ev (n : Int) (w : List Int) (hw : w.length ≤ 1048576) : Ev (fun k => spec_RanksIn.f k n w) (RanksInM n w) := by
  unfold spec_RanksIn.f RanksInM
  refine ev_plain (spec_suSize_eq n) (ev_if (fun h1 => ?_) (fun h1 => ev_some (by rw [if_neg (fun h => h1 (by simp only [superOk, Bool.and_eq_true] at h; exact h.1))])))
  refine ev_call (spec_suWord_ev w hw) (ev_if (fun h2 => ?_) (fun h2 => ev_some (by rw [if_neg (fun h => h2 (by simp only [superOk, Bool.and_eq_true] at h; exact h.2))])))
  have hok : superOk n w = true := by simp [superOk, h1, h2]
  rw [if_pos hok]
  obtain ⟨m, rfl, m1, m2, hl⟩ := superOk_nat hok
  exact ev_call (spec_suFirsts_ev m w m1 (by omega) hl) (ev_some (by simp))

theorem impl_WastedIn_ev (n : Int) (w : List Int) (hw : w.length ≤ 1048576) : Ev (fun k => impl_WastedIn.f k n w) (WastedInM n w) := by
  unfold impl_WastedIn.f WastedInM
  refine ev_plain (impl_isSuperSize_eq n) (ev_if (fun h1 => ?_) (fun h1 => ev_some (by rw [if_neg (fun h => h1 (by simp only [superOk, Bool.and_eq_true] at h; exact h.1))])))
  refine ev_call (impl_isSuperWord_ev w hw) (ev_if (fun h2 => ?_) (fun h2 => ev_some (by rw [if_neg (fun h => h2 (by simp only [superOk, Bool.and_eq_true] at h; exact h.2))])))
  have hok : superOk n w = true := by simp [superOk, h1, h2]
  rw [if_pos hok]
  obtain ⟨m, rfl, m1, m2, hl⟩ := superOk_nat hok
  refine ev_call (impl_comings_ev m w m1 (by omega) hl) (ev_some ?_)
  have := comingsM_length m w
  have e : mx 0 (wrap64 (wrap64 ((w.length : Int) - (m : Int)) + 1)) = ((w.length + 1 - m : Nat) : Int) := by
    rw [wrap_id (x := (w.length : Int) - (m : Int)) (by omega), wrap_id (by omega)]; unfold mx; split <;> omega
  rw [e, wrap_id (by omega)]
  refine Prod.ext ?_ rfl
  simp only [Int.toNat_natCast]; omega

theorem laws_uSame_loop (a b : List Int) (ha : a.length ≤ 1000000000000) (hab : a.length = b.length) : ∀ (d i : Nat), i + d = a.length →
    Ev (fun k => laws_uSame.l0 k a b (a.length : Int) (i : Int)) (decide (a.drop i = b.drop i)) := by
  intro d
  induction d with
  | zero =>
    intro i h
    rw [List.drop_eq_nil_of_le (by omega), List.drop_eq_nil_of_le (by omega)]
    refine Ev.step (f := fun _ => some true) (fun k => ?_) (Ev.now _)
    simp only [laws_uSame.l0]; rw [if_neg (by omega)]
  | succ d ih =>
    intro i h
    rw [drop_rd a i (by omega), drop_rd b i (by omega)]
    refine Ev.step (f := fun k => if rd a (i : Int) = rd b (i : Int) then laws_uSame.l0 k a b (a.length : Int) ((i + 1 : Nat) : Int) else some false) (fun k => ?_) ?_
    · simp only [laws_uSame.l0]; rw [if_pos (by omega), if_pos (by omega), if_pos (by omega), if_pos (by omega), wrap_succ (by omega)]
    · exact ev_if (fun e => ev_to (ih (i + 1) (by omega)) (by simp [e])) (fun e => ev_some (by simp [e]))
theorem laws_uSame_ev (a b : List Int) (ha : a.length ≤ 1000000000000) : Ev (fun k => laws_uSame.f k a b) (decide (a = b)) := by
  unfold laws_uSame.f
  refine ev_if (fun h => ?_) (fun h => ev_some ?_)
  · exact laws_uSame_loop a b ha (by omega) a.length 0 (by omega)
  · rw [eq_comm, decide_eq_false_iff_not]; intro e; exact h (by rw [e])

theorem laws_big_some (a b : List Int) : ∃ r, laws_big.f a b = some r := by
  unfold laws_big.f
  split
  · exact ⟨_, rfl⟩
  · exact ⟨_, rfl⟩
theorem laws_big_ok {a b : List Int} {r : Bool} (h : laws_big.f a b = some r) (hr : ¬ r = true) : a.length ≤ 1048576 ∧ b.length ≤ 1048576 := by
  unfold laws_big.f at h
  split at h
  · cases h; exact absurd rfl hr
  · rename_i h1
    obtain rfl := Option.some.inj h
    rw [wrap_id (by omega)] at hr
    simp at hr
    omega

/-- Of each size, told by the kernel: length and bound of the made word, and that it is the same backwards. -/
def superD (n : Nat) : Bool := match impl_SuperLength.f 40 (n : Int), impl_SuperBound.f 40 (n : Int), spec_SuperBound.f 40 (n : Int) with
  | some (a, x), some (b, y), some (c, z) => x && (y && (z && (a == ((superW n).length : Int) && (b == c && (decide (b ≤ a) && (supB n (superW n) && (((superW n).reverse == superW n) && superWordB (superW n))))))))
  | _, _, _ => false
theorem superD_1 : superD 1 = true := by kernel_rfl
theorem superD_2 : superD 2 = true := by kernel_rfl
theorem superD_3 : superD 3 = true := by kernel_rfl
theorem superD_4 : superD 4 = true := by kernel_rfl
theorem superD_5 : superD 5 = true := by kernel_rfl
theorem superD_ok (n : Nat) (hn : 1 ≤ n ∧ n ≤ 5) : ∃ b : Int, Ev (fun q => impl_SuperLength.f q (n : Int)) (((superW n).length : Int), true) ∧ Ev (fun q => impl_SuperBound.f q (n : Int)) (b, true) ∧ Ev (fun q => spec_SuperBound.f q (n : Int)) (b, true) ∧ b ≤ ((superW n).length : Int) ∧ supB n (superW n) = true ∧ (superW n).reverse = superW n ∧ superWordB (superW n) = true := by
  have h : superD n = true := by
    obtain rfl | rfl | rfl | rfl | rfl : n = 1 ∨ n = 2 ∨ n = 3 ∨ n = 4 ∨ n = 5 := by omega
    · exact superD_1
    · exact superD_2
    · exact superD_3
    · exact superD_4
    · exact superD_5
  unfold superD at h
  cases h1 : impl_SuperLength.f 40 (n : Int) with
  | none => rw [h1] at h; cases h
  | some p1 =>
    cases h2 : impl_SuperBound.f 40 (n : Int) with
    | none => rw [h1, h2] at h; cases h
    | some p2 =>
      cases h3 : spec_SuperBound.f 40 (n : Int) with
      | none => rw [h1, h2, h3] at h; cases h
      | some p3 =>
        obtain ⟨a, x⟩ := p1
        obtain ⟨b, y⟩ := p2
        obtain ⟨c, z⟩ := p3
        rw [h1, h2, h3] at h
        simp only [Bool.and_eq_true, beq_iff_eq, decide_eq_true_eq] at h
        obtain ⟨rfl, rfl, rfl, rfl, rfl, g1, g2, g3, g4⟩ := h
        exact ⟨b, Ev.of (fun k => impl_SuperLength.mono _ k) (k := 40) h1, Ev.of (fun k => impl_SuperBound.mono _ k) (k := 40) h2, Ev.of (fun k => spec_SuperBound.mono _ k) (k := 40) h3, g1, g2, g3, g4⟩
/-- No word of eight numbers has all six. -/
def noneR (lo : Nat) : Bool := (List.range' lo 729).all fun (c : Nat) => !supB 3 (digW 8 3 (c : Int))
theorem noneR_0 : noneR 0 = true := by kernel_rfl
theorem noneR_1 : noneR 729 = true := by kernel_rfl
theorem noneR_2 : noneR 1458 = true := by kernel_rfl
theorem noneR_3 : noneR 2187 = true := by kernel_rfl
theorem noneR_4 : noneR 2916 = true := by kernel_rfl
theorem noneR_5 : noneR 3645 = true := by kernel_rfl
theorem noneR_6 : noneR 4374 = true := by kernel_rfl
theorem noneR_7 : noneR 5103 = true := by kernel_rfl
theorem noneR_8 : noneR 5832 = true := by kernel_rfl
theorem noneR_ok {lo c : Nat} (h : noneR lo = true) (h1 : lo ≤ c) (h2 : c < lo + 729) : supB 3 (digW 8 3 (c : Int)) = false := by
  have := List.all_eq_true.mp h c (by simp [List.mem_range'_1]; omega)
  simpa using this
theorem none8 {r : List Int × Bool} : firstW (supB 3) 8 ((3 : Nat) : Int) (3 ^ 8) ≠ some r := by
  intro hf
  unfold firstW at hf
  obtain ⟨c, hc, hc2⟩ := List.exists_of_findSome?_eq_some hf
  have hc3 : c < 6561 := by
    rw [List.mem_range'_1] at hc
    have : (3 : Nat) ^ 8 = 6561 := by decide +kernel
    omega
  have key : supB 3 (digW 8 3 (c : Int)) = false := by
    obtain h | h | h | h | h | h | h | h | h : c < 729 ∨ (729 ≤ c ∧ c < 1458) ∨ (1458 ≤ c ∧ c < 2187) ∨ (2187 ≤ c ∧ c < 2916) ∨ (2916 ≤ c ∧ c < 3645) ∨ (3645 ≤ c ∧ c < 4374) ∨ (4374 ≤ c ∧ c < 5103) ∨ (5103 ≤ c ∧ c < 5832) ∨ (5832 ≤ c ∧ c < 6561) := by omega
    · exact noneR_ok noneR_0 (by omega) (by omega)
    · exact noneR_ok noneR_1 (by omega) (by omega)
    · exact noneR_ok noneR_2 (by omega) (by omega)
    · exact noneR_ok noneR_3 (by omega) (by omega)
    · exact noneR_ok noneR_4 (by omega) (by omega)
    · exact noneR_ok noneR_5 (by omega) (by omega)
    · exact noneR_ok noneR_6 (by omega) (by omega)
    · exact noneR_ok noneR_7 (by omega) (by omega)
    · exact noneR_ok noneR_8 (by omega) (by omega)
  split at hc2
  · rename_i h2
    have h3 : supB 3 (digW 8 3 (c : Int)) = true := h2
    rw [key] at h3; cases h3
  · cases hc2
theorem shortD (n : Int) (h : inB n 1 3 = true) : ∃ r : List Int, ∃ b l : Int, r.length ≤ 9 ∧ Ev (fun q => impl_ShortestSuper.f q n) (r, true) ∧ Ev (fun q => spec_ShortestSuper.f q n) (r, true) ∧ IsSuperM n r = (true, true) ∧ Ev (fun q => impl_SuperBound.f q n) (b, true) ∧ Ev (fun q => impl_SuperLength.f q n) (l, true) ∧ b ≤ (r.length : Int) ∧ (r.length : Int) ≤ l := by
  have h1 := inB_iff.mp h
  obtain ⟨m, r, rfl, hl, ⟨g1, g2, g3⟩, e1, e2⟩ := shortest_ok n h
  have his : IsSuperM (m : Int) r = (true, true) := by
    unfold IsSuperM superOk
    rw [if_pos (by rw [Bool.and_eq_true]; exact ⟨inB_iff.mpr (by omega), superWordB_iff.mpr ⟨by omega, fun x hx => by have := g2 x hx; omega⟩⟩), Int.toNat_natCast]
    unfold supB at g1
    rw [g1]
  obtain rfl | rfl | rfl : m = 1 ∨ m = 2 ∨ m = 3 := by omega
  · have hr : r.length = 1 := by
      by_cases c : r.length = 1
      · exact c
      · exfalso
        have hlen : (comingsM 1 r).length ≤ 1 := by
          have : ((comingsM 1 r).length : Int) = ((fact 1 : Nat) : Int) := by unfold supB at g1; exact beq_iff_eq.mp g1
          have f1 : fact 1 = 1 := rfl
          omega
        obtain ⟨r2, hs, hs2⟩ := short_at 1 1 0 (by omega) (by omega) (by decide +kernel) (fun m hm => by simp) (by decide +kernel)
        have := (Prod.mk.inj (ev_det e1 hs2.2.1)).1
        subst this
        omega
    exact ⟨r, 1, 1, by omega, e1, e2, his, Ev.of (fun k => impl_SuperBound.mono _ k) (k := 40) (by kernel_rfl), Ev.of (fun k => impl_SuperLength.mono _ k) (k := 40) (by kernel_rfl), by omega, by omega⟩
  · have hr : r.length = 3 := by
      obtain ⟨r2, hs, hs2⟩ := short_at 2 3 2 (by omega) (by omega) (by decide +kernel) (fun m hm => Nat.le_trans (Nat.pow_le_pow_right (by omega) hm) (by decide +kernel)) (by decide +kernel)
      have := (Prod.mk.inj (ev_det e1 hs2.2.1)).1
      subst this
      have hc1 := comingsM_length 2 r
      have hc2 : ((comingsM 2 r).length : Int) = ((fact 2 : Nat) : Int) := by unfold supB at g1; exact beq_iff_eq.mp g1
      have f2 : fact 2 = 2 := rfl
      omega
    exact ⟨r, 3, 3, by omega, e1, e2, his, Ev.of (fun k => impl_SuperBound.mono _ k) (k := 40) (by kernel_rfl), Ev.of (fun k => impl_SuperLength.mono _ k) (k := 40) (by kernel_rfl), by omega, by omega⟩
  · have hr : r.length = 9 := by
      have hc1 := comingsM_length 3 r
      have hc2 : ((comingsM 3 r).length : Int) = ((fact 3 : Nat) : Int) := by unfold supB at g1; exact beq_iff_eq.mp g1
      have f3 : fact 3 = 6 := rfl
      by_cases c8 : r.length = 8
      · rw [c8] at g3; exact absurd g3 none8
      · omega
    exact ⟨r, 9, 9, by omega, e1, e2, his, Ev.of (fun k => impl_SuperBound.mono _ k) (k := 40) (by kernel_rfl), Ev.of (fun k => impl_SuperLength.mono _ k) (k := 40) (by kernel_rfl), by omega, by omega⟩
theorem drawSuper_ok {d : List Int} (hd : bytesL d) : ∃ n w, Ev (fun q => spec_DrawIsSuper.f q d) (n, w) ∧ w.length ≤ 1000 ∧ (0 ≤ n ∧ n ≤ 6) := by
  obtain ⟨n, a1, s1, e1, hn, ha1⟩ := among_ok hd (a := 0) 0 [1, 2, 3, 3, 4, 4, 5, 0, 6] (by simp) (by omega) (by omega)
  have hn2 : 0 ≤ n ∧ n ≤ 6 := by simp at hn; omega
  have wild : ∀ a s : Int, 0 ≤ a → a ≤ 1000 → ∃ r, Ev (fun q => spec_DrawIsSuper.j0 q n true d a s) (n, r) ∧ r.length ≤ 1000 := by
    intro a s h0 h1
    obtain ⟨r, a3, s3, h2, h3, _⟩ := word9_ok hd (a := a) s n 20 (by omega) (by omega) (by omega)
    exact ⟨r, Ev.step (fun k => by simp only [spec_DrawIsSuper.j0]; rfl) (ev_pos (by trivial) (ev_call h2 (Ev.now _))), by omega⟩
  unfold spec_DrawIsSuper.f
  by_cases c3 : inB n 1 5 = true
  · obtain ⟨b, a2, s2, e2, ha2⟩ := one_ok hd (a := a1) s1 3 (by omega) (by omega)
    by_cases c4 : b = true
    · obtain ⟨r, h5, h6⟩ := wild a2 s2 (by omega) (by omega)
      refine ⟨n, r, ?_, h6, hn2⟩
      refine ev_plain e1 ?_
      dsimp only
      refine ev_plain (spec_suSize_eq n) (ev_pos c3 (ev_plain e2 ?_))
      dsimp only
      rw [c4]
      exact h5
    · have hin := inB_iff.mp c3
      obtain ⟨m, hm⟩ := Int.eq_ofNat_of_zero_le hn2.1
      obtain ⟨hs, _, hmade⟩ := superOf_ok m (by omega)
      obtain ⟨v, a3, s3, e3, hv, ha3⟩ := pick_ok hd (a := a2) s2 6 (by omega) (by omega)
      have hpos : 1 ≤ (superW m).length := by
        obtain ⟨_, _, _, _, _, hsup, hrev, _⟩ := superD_ok m (by omega)
        by_cases c : (superW m).length = 0
        · exfalso
          have h4 := comingsM_length m (superW m)
          have h5 : 1 ≤ fact m := by
            have := rankM_lt (List.replicate m 0)
            rw [List.length_replicate] at this; omega
          unfold supB at hsup
          rw [beq_iff_eq] at hsup
          omega
        · omega
      have main : ∀ r : List Int, r.length ≤ 1000 → Ev (fun q => if v = 0 then (if 1 ≤ ((superW m).length : Int) then some (n, (superW m).drop (1 : Int).toNat) else none) else (if v = 1 then ((spec_l1Cur_pick.f d a3 s3 ((superW m).length : Int)).bind fun bt391 => ((spec_l1Cur_pick.f d bt391.2.1 bt391.2.2 (wrap64 (n + 1))).bind fun bt394 => (if 0 ≤ bt391.1 then (if bt391.1 < ((superW m).length : Int) then (some (n, ((superW m).set (bt391.1 : Int).toNat bt394.1))) else (none)) else (none)))) else (if v = 2 then ((spec_l1Cur_word9.f q d a3 s3 n 5).bind fun bt398 => (if (superW m).length + bt398.1.length < 17592186044416 then (some (n, ((superW m) ++ bt398.1))) else (none))) else (some (n, superW m))))) (n, r) → ∃ n w, Ev (fun q => (spec_l1Cur_among.f d 0 0 (([1, 2, 3, 3, 4, 4, 5, 0, 6] : List Int))).bind fun bt370 => ((spec_suSize.f bt370.1).bind fun t373 => (if t373 = true then ((spec_l1Cur_one.f d bt370.2.1 bt370.2.2 3).bind fun bt374 => (spec_DrawIsSuper.j0 q bt370.1 bt374.1 d bt374.2.1 bt374.2.2)) else (spec_DrawIsSuper.j0 q bt370.1 true d bt370.2.1 bt370.2.2)))) (n, w) ∧ w.length ≤ 1000 ∧ (0 ≤ n ∧ n ≤ 6) := by
        intro r hr h
        refine ⟨n, r, ?_, hr, hn2⟩
        refine ev_plain e1 ?_
        dsimp only
        refine ev_plain (spec_suSize_eq n) (ev_pos c3 (ev_plain e2 ?_))
        dsimp only
        refine Ev.step (fun k => by simp only [spec_DrawIsSuper.j0]; rfl) (ev_neg c4 ?_)
        rw [← hm] at hmade
        refine ev_call hmade (ev_plain e3 ?_)
        exact h
      by_cases d0 : v = 0
      · exact main ((superW m).drop 1) (by simp; omega) (ev_pos d0 (ev_pos (by omega) (Ev.now _)))
      · by_cases d1 : v = 1
        · obtain ⟨p, a4, s4, e4, hp, ha4⟩ := pick_ok hd (a := a3) s3 ((superW m).length : Int) (by omega) (by omega)
          obtain ⟨x, a5, s5, e5, hx, ha5⟩ := pick_ok hd (a := a4) s4 (n + 1) (by omega) (by omega)
          refine main ((superW m).set p.toNat x) (by simp; omega) (ev_neg d0 (ev_pos d1 (ev_plain e4 ?_)))
          dsimp only
          rw [wrap_id (x := n + 1) (by omega)]
          refine ev_plain e5 ?_
          dsimp only
          exact ev_pos (by omega) (ev_pos (by omega) (Ev.now _))
        · by_cases d2 : v = 2
          · obtain ⟨r, a4, s4, h2, h3, _⟩ := word9_ok hd (a := a3) s3 n 5 (by omega) (by omega) (by omega)
            refine main (superW m ++ r) (by simp; omega) (ev_neg d0 (ev_neg d1 (ev_pos d2 (ev_call h2 ?_))))
            dsimp only
            exact ev_pos (by omega) (Ev.now _)
          · exact main (superW m) (by omega) (ev_neg d0 (ev_neg d1 (ev_neg d2 (Ev.now _))))
  · obtain ⟨r, h5, h6⟩ := wild a1 s1 (by omega) (by omega)
    refine ⟨n, r, ?_, h6, hn2⟩
    refine ev_plain e1 ?_
    dsimp only
    exact ev_plain (spec_suSize_eq n) (ev_neg c3 h5)
theorem superLaw_j5 {d : List Int} (hd : bytesL d) : Ev (fun q => laws_FnSuperpermutations.j5 q d) true := by
  obtain ⟨n, w, hdraw, hw, hn⟩ := drawSuper_ok hd
  refine Ev.step (fun k => by simp only [laws_FnSuperpermutations.j5]; rfl) (ev_call hdraw ?_)
  refine ev_call (impl_IsSuper_ev n w (by omega)) (ev_call (spec_IsSuper_ev n w (by omega)) (ev_call (impl_RanksIn_ev n w (by omega)) (ev_call (spec_RanksIn_ev n w (by omega)) (ev_call (impl_WastedIn_ev n w (by omega)) ?_))))
  have hrl := RanksInM_length n w
  refine ev_neg (bne_no _) (ev_neg (bne_no _) (ev_neg (bne_no _) (ev_call (laws_uSame_ev _ _ (by omega)) (ev_pos (by simp) ?_))))
  by_cases c : superOk n w = true
  · have e1 : IsSuperM n w = (((comingsM n.toNat w).length : Int) == ((fact n.toNat : Nat) : Int), true) := by unfold IsSuperM; rw [if_pos c]
    have e2 : RanksInM n w = (comingsM n.toNat w, true) := by unfold RanksInM; rw [if_pos c]
    have e3 : WastedInM n w = (((w.length + 1 - n.toNat - (comingsM n.toNat w).length : Nat) : Int), true) := by unfold WastedInM; rw [if_pos c]
    rw [e1, e2, e3]
    obtain ⟨m, rfl, m1, m2, _⟩ := superOk_nat c
    rw [Int.toNat_natCast]
    have hcl := comingsM_length m w
    refine Ev.step (fun k => by simp only [laws_FnSuperpermutations.j6]; rfl) (ev_neg (by simp) (ev_pos (by trivial) ?_))
    have hf : Ev (fun q => impl_Factorial.f q (m : Int)) (((fact m : Nat) : Int), true) := by
      unfold impl_Factorial.f
      exact ev_plain (impl_within_eq _ _ _) (ev_pos (inB_iff.mpr (by omega)) (ev_call (impl_factorial_ev m (by omega)) (Ev.now _)))
    refine ev_call hf ?_
    rw [wrap_id (x := (w.length : Int) - (m : Int)) (by omega), wrap_id (x := (w.length : Int) - (m : Int) + 1) (by omega)]
    refine ev_if (fun h => ?_) (fun h => ?_)
    · refine ev_pos (by trivial) (ev_pos (by simp) (ev_some ?_))
      rw [beq_iff_eq, wrap_id (by omega)]; omega
    · refine ev_pos (by trivial) (ev_pos (by simp) (ev_some ?_))
      rw [beq_iff_eq, wrap_id (by omega)]; omega
  · have e2 : RanksInM n w = ([], false) := by unfold RanksInM; rw [if_neg c]
    have e3 : WastedInM n w = (0, false) := by unfold WastedInM; rw [if_neg c]
    rw [e2, e3]
    exact Ev.step (fun k => by simp only [laws_FnSuperpermutations.j6]; rfl) (ev_neg (by simp) (ev_neg (by simp) (Ev.now _)))
theorem superLaw_j3 {d : List Int} (hd : bytesL d) : Ev (fun q => laws_FnSuperpermutations.j3 q d) true := by
  obtain ⟨n, a1, s1, e1, hn, _⟩ := among_ok hd (a := 0) 0 [1, 2, 3, 4, 0] (by simp) (by omega) (by omega)
  have hdraw : spec_DrawShortestSuper.f d = some n := by
    unfold spec_DrawShortestSuper.f
    rw [e1]; rfl
  refine Ev.step (fun k => by simp only [laws_FnSuperpermutations.j3]; rfl) (ev_plain hdraw ?_)
  by_cases h : inB n 1 3 = true
  · obtain ⟨r, b, l, hl, hi, hs, his, hb, hlen, h1, h2⟩ := shortD n h
    refine ev_call hi (ev_call hs ?_)
    dsimp only
    refine ev_neg (bne_no _) (ev_call (laws_uSame_ev r r (by omega)) ?_)
    refine Ev.step (fun k => by simp only [laws_FnSuperpermutations.j4]; rfl) (ev_neg (by simp) (ev_pos (by trivial) ?_))
    have hi2 := impl_IsSuper_ev n r (by omega)
    rw [his] at hi2
    refine ev_call hi2 (ev_call hb (ev_call hlen ?_))
    dsimp only
    refine ev_pos (by trivial) (ev_pos (by trivial) (ev_pos (by trivial) (ev_pos (by trivial) (ev_neg (by omega) (ev_neg (by omega) (superLaw_j5 hd))))))
  · have hi : Ev (fun q => impl_ShortestSuper.f q n) (([] : List Int), false) := by
      unfold impl_ShortestSuper.f
      exact ev_plain (impl_within_eq _ _ _) (ev_neg h (Ev.now _))
    have hs : Ev (fun q => spec_ShortestSuper.f q n) (([] : List Int), false) := by
      unfold spec_ShortestSuper.f
      exact ev_plain (spec_l1In_eq _ _ _) (ev_neg h (Ev.now _))
    refine ev_call hi (ev_call hs ?_)
    dsimp only
    refine ev_neg (bne_no _) (ev_call (laws_uSame_ev _ _ (by simp)) ?_)
    exact Ev.step (fun k => by simp only [laws_FnSuperpermutations.j4]; rfl) (ev_neg (by simp) (ev_neg (by simp) (superLaw_j5 hd)))
theorem superLaw_loop {d : List Int} (hd : bytesL d) (w : List Int) (hw : w.length ≤ 200) (hr : w.reverse = w) : ∀ m i : Nat, i + m = w.length → Ev (fun q => laws_FnSuperpermutations.l0 q d w (w.length : Int) (i : Int)) true := by
  intro m
  induction m with
  | zero =>
    intro i h
    exact Ev.step (fun k => by simp only [laws_FnSuperpermutations.l0]; rfl) (ev_neg (by omega) (superLaw_j3 hd))
  | succ m ih =>
    intro i h
    refine Ev.step (fun k => by simp only [laws_FnSuperpermutations.l0]; rfl) ?_
    rw [wrap_id (x := (w.length : Int) - 1) (by omega), wrap_id (x := (w.length : Int) - 1 - (i : Int)) (by omega), wrap_succ (by omega), show (w.length : Int) - 1 - (i : Int) = ((w.length - 1 - i : Nat) : Int) by omega]
    refine ev_pos (by omega) (ev_pos (by omega) (ev_pos (by omega) (ev_pos (by omega) (ev_pos (by omega) (ev_pos ?_ (ih (i + 1) (by omega)))))))
    have h1 : rd w.reverse (i : Int) = rd w ((w.length - 1 - i : Nat) : Int) := by
      rw [rd_get w.reverse i (by simp; omega), rd_get w (w.length - 1 - i) (by omega), List.getElem_reverse]
    rw [hr] at h1
    exact h1
theorem FnSuperpermutations : laws_FnSuperpermutations.Pure := by
  intro l0 l1 _ _ hb0 _ _ hb1
  refine Ev.rounds (r := true) ?_
  unfold laws_FnSuperpermutations.f
  obtain ⟨b, hbig⟩ := laws_big_some l0 l1
  refine ev_plain hbig ?_
  refine ev_if (fun _ => Ev.now _) (fun hbig2 => ?_)
  obtain ⟨n, a1, s1, e1, hn, _⟩ := among_ok (bytes_wf hb0) (a := 0) 0 [1, 2, 3, 4, 5, 6, 0] (by simp) (by omega) (by omega)
  have hdraw : spec_DrawSuperOf.f l0 = some n := by
    unfold spec_DrawSuperOf.f
    rw [e1]; rfl
  refine ev_plain hdraw ?_
  by_cases h : inB n 1 5 = true
  · have h1 := inB_iff.mp h
    obtain ⟨n, rfl⟩ := Int.eq_ofNat_of_zero_le (show 0 ≤ n by omega)
    obtain ⟨s, i, p⟩ := superOf_ok n (by omega)
    obtain ⟨bd, d1, d2, d3, d4, d5, d6, d7⟩ := superD_ok n (by omega)
    have e1 : Ev (fun q => impl_SuperOf.f q (n : Int)) (superW n, true) := by
      unfold impl_SuperOf.f
      exact ev_plain (impl_isSuperSize_eq _) (ev_pos h (ev_call i (Ev.now _)))
    have e2 : Ev (fun q => spec_SuperOf.f q (n : Int)) (superW n, true) := by
      unfold spec_SuperOf.f
      exact ev_plain (spec_suSize_eq _) (ev_pos h (ev_call p (Ev.now _)))
    refine ev_call e1 (ev_call e2 (ev_call d1 (ev_call d2 (ev_call d3 ?_))))
    dsimp only
    refine ev_neg (bne_no _) (ev_call (laws_uSame_ev _ _ (by omega)) (ev_pos (by simp) (ev_neg (bne_no _) (ev_neg (bne_no _) ?_))))
    refine Ev.step (fun k => by simp only [laws_FnSuperpermutations.j0]; rfl) (ev_neg (by simp) (ev_pos (by trivial) ?_))
    have his : IsSuperM (n : Int) (superW n) = (true, true) := by
      unfold IsSuperM superOk
      rw [if_pos (by rw [Bool.and_eq_true]; exact ⟨h, d7⟩), Int.toNat_natCast]
      unfold supB at d5
      rw [d5]
    have hi2 := impl_IsSuper_ev (n : Int) (superW n) (by omega)
    rw [his] at hi2
    refine ev_call hi2 ?_
    dsimp only
    refine ev_pos (by trivial) (ev_pos (by trivial) (ev_pos (by first | rfl | trivial) (ev_pos (by trivial) ?_)))
    refine Ev.step (fun k => by simp only [laws_FnSuperpermutations.j1]; rfl) (ev_neg (by simp; omega) ?_)
    exact superLaw_loop (bytes_wf hb1) (superW n) s d6 (superW n).length 0 (by omega)
  · have e1 : Ev (fun q => impl_SuperOf.f q n) (([] : List Int), false) := by
      unfold impl_SuperOf.f
      exact ev_plain (impl_isSuperSize_eq _) (ev_neg h (Ev.now _))
    have e2 : Ev (fun q => spec_SuperOf.f q n) (([] : List Int), false) := by
      unfold spec_SuperOf.f
      exact ev_plain (spec_suSize_eq _) (ev_neg h (Ev.now _))
    have e3 : Ev (fun q => impl_SuperLength.f q n) (0, false) := by
      unfold impl_SuperLength.f
      exact ev_plain (impl_isSuperSize_eq _) (ev_neg h (Ev.now _))
    have e4 : Ev (fun q => impl_SuperBound.f q n) (0, false) := by
      unfold impl_SuperBound.f
      exact ev_plain (impl_isSuperSize_eq _) (ev_neg h (Ev.now _))
    have e5 : Ev (fun q => spec_SuperBound.f q n) (0, false) := by
      unfold spec_SuperBound.f
      exact ev_plain (spec_suSize_eq _) (ev_neg h (Ev.now _))
    refine ev_call e1 (ev_call e2 (ev_call e3 (ev_call e4 (ev_call e5 ?_))))
    dsimp only
    refine ev_neg (bne_no _) (ev_call (laws_uSame_ev _ _ (by simp)) (ev_pos (by simp) (ev_neg (bne_no _) (ev_neg (bne_no _) ?_))))
    exact Ev.step (fun k => by simp only [laws_FnSuperpermutations.j0]; rfl) (ev_neg (by simp) (ev_neg (by simp) (superLaw_j3 (bytes_wf hb1))))

end Go.Proofs.Ytdnbeekoefmbcaa.Pure
