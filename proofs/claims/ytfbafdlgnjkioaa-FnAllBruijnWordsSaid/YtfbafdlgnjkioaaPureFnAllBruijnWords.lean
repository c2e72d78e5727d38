/- The pure statement of AllBruijnWords: it holds of all draws; no condition. -/
import Derived.Test.YtfbafdlgnjkioaaPFnAllBruijnWordsx8
import Derived.Test.YtfbafdlgnjkioaaBase
import Derived.Test.YtfbafdlgnjkioaaLists
namespace Go.Proofs.Ytfbafdlgnjkioaa.Pure
open Go.RowKit Go.Proofs.Ytfbafdlgnjkioaa.PFnAllBruijnWords Go.Proofs.YtfbafdlgnjkioaaW.PrintWords Go.Proofs.YtfbafdlgnjkioaaW.PrintLast Go.Proofs.Ytfbafdlgnjkioaa.Base
set_option maxRecDepth 10000
set_option linter.unusedVariables false
set_option linter.unusedSimpArgs false

def bytesL (d : List Int) : Prop := ∀ x ∈ d, 0 ≤ x ∧ x ≤ 255
theorem and255 (x : Int) : 0 ≤ Go.bits .and .u64 x 255 ∧ Go.bits .and .u64 x 255 ≤ 255 := by
  have h : ((BitVec.ofInt 64 x) &&& (BitVec.ofInt 64 255)).toNat ≤ 255 := by
    rw [BitVec.toNat_and]; exact Nat.le_trans Nat.and_le_right (by decide)
  have e : Go.bits .and .u64 x 255 = IntKind.u64.wrap (((BitVec.ofInt 64 x) &&& (BitVec.ofInt 64 255)).toNat : Int) := rfl
  rw [e]
  generalize ((BitVec.ofInt 64 x) &&& (BitVec.ofInt 64 255)).toNat = m at h
  simp only [IntKind.wrap, IntKind.signed, IntKind.bits, Bool.false_and, Bool.false_eq_true, if_false]
  omega
theorem bytes_wf {d : List Int} (h : ∀ x ∈ d, (Lit.int .u8 x).wf = true) : bytesL d := by
  intro x hx
  have h := h x hx
  simp only [Lit.wf, IntKind.min, IntKind.max, IntKind.signed, IntKind.bits, Bool.and_eq_true, decide_eq_true_eq, Bool.false_eq_true, if_false] at h
  omega
theorem next_ok {d : List Int} (hd : bytesL d) {a : Int} (s : Int) (h0 : 0 ≤ a) (h1 : a ≤ 1000000000001000) : ∃ v s', spec_l1Cur_next.f d a s = some (v, a + 1, s') ∧ 0 ≤ v ∧ v ≤ 255 := by
  unfold spec_l1Cur_next.f
  rw [wrap_id (x := a + 1) (by omega)]
  by_cases ha : a < (d.length : Int)
  · rw [if_pos ha, if_pos h0, if_pos (by omega)]
    have hb : 0 ≤ rd d a ∧ rd d a ≤ 255 := by
      obtain ⟨j, rfl⟩ := Int.eq_ofNat_of_zero_le h0
      exact hd _ (by rw [show rd d ((j : Nat) : Int) = d[j]'(by omega) from rd_get d j (by omega)]; exact List.getElem_mem _)
    exact ⟨_, _, rfl, by rw [wrap_id (by omega)]; exact hb.1, by rw [wrap_id (by omega)]; exact hb.2⟩
  · rw [if_neg ha]
    by_cases hb : a + 1 ≤ (d.length : Int)
    · omega
    · rw [if_neg hb]
      have h := and255 ((IntKind.u64.wrap ((IntKind.u64.wrap ((IntKind.u64.wrap (s * 6364136223846793005)))) + 1442695040888963407)) / 1099511627776)
      exact ⟨_, _, rfl, by rw [wrap_id (by omega)]; exact h.1, by rw [wrap_id (by omega)]; exact h.2⟩
theorem tmod_lt {x n : Int} (h0 : 0 ≤ x) (hn : 1 ≤ n) : 0 ≤ Int.tmod x n ∧ Int.tmod x n < n := by
  obtain ⟨p, rfl⟩ := Int.eq_ofNat_of_zero_le h0
  obtain ⟨q, rfl⟩ := Int.eq_ofNat_of_zero_le (show 0 ≤ n by omega)
  rw [show ((p : Nat) : Int).tmod ((q : Nat) : Int) = ((p % q : Nat) : Int) from tmod_nat p q]
  have := Nat.mod_lt p (show 0 < q by omega)
  omega
theorem pick_ok {d : List Int} (hd : bytesL d) {a : Int} (s n : Int) (h0 : 0 ≤ a) (h1 : a ≤ 1000000000000000) : ∃ v a' s', spec_l1Cur_pick.f d a s n = some (v, a', s') ∧ (0 ≤ v ∧ (v < n ∨ (n ≤ 1 ∧ v = 0))) ∧ (a ≤ a' ∧ a' ≤ a + 2) := by
  unfold spec_l1Cur_pick.f
  by_cases hn : n ≤ 1
  · rw [if_pos hn]
    exact ⟨0, a, s, rfl, ⟨by omega, .inr ⟨hn, rfl⟩⟩, by omega⟩
  · rw [if_neg hn]
    obtain ⟨v, s1, e1, hv⟩ := next_ok hd s h0 (by omega)
    rw [e1, Option.bind_some]
    dsimp only
    by_cases h2 : n > 200
    · rw [if_pos h2]
      obtain ⟨u, s2, e2, hu⟩ := next_ok hd (a := a + 1) s1 (by omega) (by omega)
      rw [e2, Option.bind_some]
      dsimp only
      rw [if_neg (by omega), wrap_id (x := v * 256) (by omega), wrap_id (x := v * 256 + u) (by omega)]
      have := tmod_lt (x := v * 256 + u) (n := n) (by omega) (by omega)
      exact ⟨_, _, _, rfl, ⟨this.1, .inl this.2⟩, by omega⟩
    · rw [if_neg h2, if_neg (by omega)]
      have := tmod_lt (x := v) (n := n) (by omega) (by omega)
      exact ⟨_, _, _, rfl, ⟨this.1, .inl this.2⟩, by omega⟩

theorem among_ok {d : List Int} (hd : bytesL d) {a : Int} (s : Int) (l : List Int) (hl : 1 ≤ l.length) (h0 : 0 ≤ a) (h1 : a ≤ 1000000000000000) : ∃ v a' s', spec_l1Cur_among.f d a s l = some (v, a', s') ∧ v ∈ l ∧ (a ≤ a' ∧ a' ≤ a + 2) := by
  obtain ⟨v, a', s', e, hv, h⟩ := pick_ok hd s (l.length : Int) h0 h1
  unfold spec_l1Cur_among.f
  rw [e, Option.bind_some]
  dsimp only
  rw [if_pos (by omega), if_pos (by omega)]
  refine ⟨_, _, _, rfl, ?_, h⟩
  obtain ⟨j, rfl⟩ := Int.eq_ofNat_of_zero_le hv.1
  rw [show rd l ((j : Nat) : Int) = l[j]'(by omega) from rd_get l j (by omega)]
  exact List.getElem_mem _

theorem stages_ok {d : List Int} (hd : bytesL d) {a : Int} (s : Int) (h0 : 0 ≤ a) (h1 : a ≤ 999999999999000) : ∃ n k a' s', spec_l1Cur_stages.f d a s = some (n, k, a', s') ∧ (-1 ≤ n ∧ n ≤ 11) ∧ (-1 ≤ k ∧ k ≤ 7) ∧ (a ≤ a' ∧ a' ≤ a + 20) := by
  obtain ⟨v1, a1, s1, e1, hv1, ha1⟩ := pick_ok hd s 4 h0 (by omega)
  obtain ⟨v2, a2, s2, e2, hv2, ha2⟩ := pick_ok hd (a := a1) s1 2 (by omega) (by omega)
  obtain ⟨v3, a3, s3, e3, hv3, ha3⟩ := pick_ok hd (a := a2) s2 12 (by omega) (by omega)
  unfold spec_l1Cur_stages.f
  rw [e1, Option.bind_some]
  dsimp only
  rw [e2, Option.bind_some]
  dsimp only
  rw [e3, Option.bind_some]
  dsimp only
  by_cases c1 : v3 = 0
  · rw [if_pos c1]
    obtain ⟨u, a4, s4, e4, hu, ha4⟩ := among_ok hd (a := a3) s3 [(-1), 0, 1, 5, 10, 11] (by simp) (by omega) (by omega)
    rw [e4, Option.bind_some]
    dsimp only
    have : -1 ≤ u ∧ u ≤ 11 := by simp at hu; omega
    exact ⟨_, _, _, _, rfl, this, by omega, by omega⟩
  · rw [if_neg c1]
    by_cases c2 : v3 = 1
    · rw [if_pos c2]
      obtain ⟨u, a4, s4, e4, hu, ha4⟩ := among_ok hd (a := a3) s3 [(-1), 0, 1, 4, 6, 7] (by simp) (by omega) (by omega)
      obtain ⟨v5, a5, s5, e5, hv5, ha5⟩ := pick_ok hd (a := a4) s4 3 (by omega) (by omega)
      rw [e4, Option.bind_some]
      dsimp only
      rw [e5, Option.bind_some]
      dsimp only
      rw [wrap_id (x := 1 + v5) (by omega)]
      have : -1 ≤ u ∧ u ≤ 7 := by simp at hu; omega
      exact ⟨_, _, _, _, rfl, by omega, this, by omega⟩
    · rw [if_neg c2, wrap_id (x := 1 + v1) (by omega), wrap_id (x := 2 + v2) (by omega)]
      exact ⟨_, _, _, _, rfl, by omega, by omega, by omega⟩

theorem laws_big_some (a b : List Int) : ∃ r, laws_big.f a b = some r := by
  unfold laws_big.f
  split
  · exact ⟨_, rfl⟩
  · exact ⟨_, rfl⟩
theorem laws_big_ok {a b : List Int} {r : Bool} (h : laws_big.f a b = some r) (hr : ¬ r = true) : a.length ≤ 1048576 ∧ b.length ≤ 1048576 := by
  unfold laws_big.f at h
  split at h
  · cases h; exact absurd rfl hr
  · rename_i h1
    obtain rfl := Option.some.inj h
    rw [wrap_id (by omega)] at hr
    simp at hr
    omega

def kindB (n k : Int) : Bool := inB n 1 10 && (inB k 2 6 && decide (k.toNat ^ n.toNat ≤ 1024))
theorem kindB_iff {n k : Int} : kindB n k = true ↔ (1 ≤ n ∧ n ≤ 10) ∧ (2 ≤ k ∧ k ≤ 6) ∧ k.toNat ^ n.toNat ≤ 1024 := by simp [kindB, inB_iff]
theorem kindB_nat {n k : Int} (h : kindB n k = true) : ∃ n' k' : Nat, n = n' ∧ k = k' ∧ 1 ≤ n' ∧ n' ≤ 10 ∧ 2 ≤ k' ∧ k' ≤ 6 ∧ k' ^ n' ≤ 1024 := by
  obtain ⟨h1, h2, h3⟩ := kindB_iff.mp h
  exact ⟨n.toNat, k.toNat, by omega, by omega, by omega, by omega, by omega, by omega, h3⟩

theorem codesM_take (w : List Int) (n k i : Nat) (h : i < w.length) : (codesM w n k).take (i + 1) = (codesM w n k).take i ++ [codeN k (win w i n)] := by
  rw [List.take_succ_eq_append_getElem (by simp [codesM]; exact h)]
  simp [codesM]
theorem codesM_length (w : List Int) (n k : Nat) : (codesM w n k).length = w.length := by simp [codesM]
theorem codeN_take (k : Nat) (xs : List Int) (j : Nat) (h : j < xs.length) : codeN k (xs.take (j + 1)) = codeN k (xs.take j) * (k : Int) + rd xs (j : Int) := by
  rw [take_rd xs j h, codeN_snoc]
def IsBruijnM (w : List Int) (n k : Int) : Bool × Bool := if kindB n k = true ∧ cycleB w k = true then (bruijnB w n.toNat k.toNat, true) else (false, false)
theorem pow_le_1024 {k n j : Nat} (hk : 2 ≤ k) (h : k ^ n ≤ 1024) (hj : j ≤ n) : k ^ j ≤ 1024 := Nat.le_trans (Nat.pow_le_pow_right (by omega) hj) h
/-- The number of a beginning of a window, and the next step, lie in bounds. -/
theorem code_step {k n j : Nat} {xs : List Int} (hk : 2 ≤ k) (hk6 : k ≤ 6) (h : k ^ n ≤ 1024) (hx : xs.length = n) (hxs : ∀ x ∈ xs, 0 ≤ x ∧ x ≤ (k : Int) - 1) (hj : j < n) :
    wrap64 (wrap64 (codeN k (xs.take j) * (k : Int)) + rd xs (j : Int)) = codeN k (xs.take (j + 1)) := by
  have h1 := codeN_range k j (xs.take j) (by simp; omega) (fun x hx' => hxs x (List.mem_of_mem_take hx'))
  have h2 := pow_le_1024 hk h (show j ≤ n by omega)
  have h3 : codeN k (xs.take j) * (k : Int) ≤ 1024 * 6 := Int.mul_le_mul (by omega) (by omega) (by omega) (by omega)
  have h4 : 0 ≤ codeN k (xs.take j) * (k : Int) := Int.mul_nonneg h1.1 (by omega)
  have h5 : 0 ≤ rd xs (j : Int) ∧ rd xs (j : Int) ≤ (k : Int) - 1 := hxs _ (by rw [rd_get xs j (by omega)]; exact List.getElem_mem _)
  rw [wrap_id (x := codeN k (xs.take j) * (k : Int)) (by omega), wrap_id (by omega), codeN_take k xs j (by omega)]

theorem impl_within_eq (a lo hi : Int) : impl_within.f a lo hi = some (inB a lo hi) := by
  unfold impl_within.f inB
  by_cases h : a ≥ lo
  · rw [if_pos h]; simp [h]
  · rw [if_neg h]; simp [show ¬ lo ≤ a from h]

theorem impl_power_ev (a n : Nat) (ha : a ≤ 6) (hn : n ≤ 12) : Ev (fun k => impl_power.f k (a : Int) (n : Int)) ((a ^ n : Nat) : Int) := by
  have hb : ∀ j, j ≤ n → a ^ j ≤ 2176782336 := fun j hj => Nat.le_trans (Nat.pow_le_pow_left ha j) (Nat.le_trans (Nat.pow_le_pow_right (by omega) (show j ≤ 12 by omega)) (by decide))
  unfold impl_power.f
  refine ev_iter (fun (o : Nat) i k => impl_power.l0 k (a : Int) (o : Int) (n : Int) (i : Int)) (fun o _ => o * a) (fun i o => o = a ^ i) n ?_ n 0 1 (by omega) rfl ?_
  · intro o i hi hI
    refine ⟨by rw [hI, Nat.pow_succ], fun r k => ?_⟩
    have h1 := hb (i + 1) (by omega)
    rw [Nat.pow_succ, ← hI] at h1
    refine Ev.step (fun k => by simp only [impl_power.l0]; rfl) ?_
    refine ev_pos (by omega) ?_
    rw [wrap_succ (by omega), show (o : Int) * (a : Int) = ((o * a : Nat) : Int) by simp, wrap_id (by omega)]
    exact k
  · intro h
    refine Ev.step (fun k => by simp only [impl_power.l0]; rfl) (ev_neg (by omega) (ev_some (by rw [h])))

theorem impl_isBruijnSize_ev (n k : Int) : Ev (fun q => impl_isBruijnSize.f q n k) (kindB n k) := by
  unfold impl_isBruijnSize.f kindB
  refine ev_plain (impl_within_eq _ _ _) (ev_if (fun h1 => ?_) (fun h1 => ev_some (by simp [Bool.eq_false_iff.mpr h1])))
  refine ev_plain (impl_within_eq _ _ _) (ev_if (fun h2 => ?_) (fun h2 => ev_some (by simp [Bool.eq_false_iff.mpr h2])))
  have e1 := inB_iff.mp h1
  have e2 := inB_iff.mp h2
  obtain ⟨n, rfl⟩ := Int.eq_ofNat_of_zero_le (show 0 ≤ n by omega)
  obtain ⟨k, rfl⟩ := Int.eq_ofNat_of_zero_le (show 0 ≤ k by omega)
  refine ev_call (impl_power_ev k n (by omega) (by omega)) (ev_some ?_)
  rw [h1, h2]
  simp only [Bool.true_and, Int.toNat_natCast]
  exact decide_eq_decide.mpr (by omega)

theorem impl_allWithin_loop (lo hi : Int) (xs : List Int) (hx : xs.length ≤ 1000000000000) : ∀ (d i : Nat), i + d = xs.length →
    Ev (fun k => impl_allWithin.l0 k lo hi xs (xs.length : Int) (i : Int)) (allB (xs.drop i) lo hi) := by
  intro d
  induction d with
  | zero =>
    intro i h
    rw [List.drop_eq_nil_of_le (by omega)]
    refine Ev.step (f := fun _ => some true) (fun k => ?_) (Ev.now _)
    simp only [impl_allWithin.l0]; rw [if_neg (by omega)]
  | succ d ih =>
    intro i h
    have hlt : i < xs.length := by omega
    rw [drop_rd xs i hlt]
    refine Ev.step (f := fun k => if inB (rd xs (i : Int)) lo hi = true then impl_allWithin.l0 k lo hi xs (xs.length : Int) ((i + 1 : Nat) : Int) else some false) (fun k => ?_) ?_
    · simp only [impl_allWithin.l0]; rw [if_pos (by omega), if_pos (by omega), if_pos (by omega), impl_within_eq, wrap_succ (by omega)]; rfl
    · by_cases hb : inB (rd xs (i : Int)) lo hi = true
      · exact ev_pos hb (ev_to (ih (i + 1) (by omega)) (by simp [allB, hb]))
      · exact ev_neg hb (ev_some (by simp [allB, Bool.eq_false_iff.mpr hb]))
theorem impl_allWithin_ev (lo hi : Int) (xs : List Int) (hx : xs.length ≤ 1000000000000) : Ev (fun k => impl_allWithin.f k xs lo hi) (allB xs lo hi) :=
  impl_allWithin_loop lo hi xs hx xs.length 0 (by omega)

theorem impl_IsCycle_ev (xs : List Int) (k : Int) (hx : xs.length ≤ 1000000000000) (hk : -9223372036854775808 ≤ k) (hk2 : k ≤ 9223372036854775807) : Ev (fun n => impl_IsCycle.f n xs k) (cycleB xs k) := by
  unfold impl_IsCycle.f cycleB
  refine ev_plain (impl_within_eq _ _ _) ?_
  refine ev_if (fun h => ?_) (fun h => ev_some (by simp [Bool.eq_false_iff.mpr h]))
  refine ev_plain (impl_within_eq _ _ _) ?_
  refine ev_if (fun h2 => ?_) (fun h2 => ev_some (by simp [Bool.eq_false_iff.mpr h2]))
  have h' := inB_iff.mp h
  rw [wrap_id (by omega)]
  exact ev_call (impl_allWithin_ev _ _ _ hx) (ev_some (by simp [h, h2]))

theorem impl_window_loop (w : List Int) (n p : Nat) (hw : 0 < w.length) (hwl : w.length ≤ 1000000000000) (hn : n ≤ 1000000000000) (hp : p ≤ 1000000000000) : ∀ (d i : Nat) (acc : List Int), i + d = n → acc.length = i →
    Ev (fun k => impl_window.l0 k w (p : Int) acc (n : Int) (i : Int)) (acc ++ (List.range' i d).map fun j => w.getD ((p + j) % w.length) 0) := by
  intro d
  induction d with
  | zero =>
    intro i acc h ha
    refine Ev.step (f := fun _ => some acc) (fun k => ?_) (ev_some (by simp))
    simp only [impl_window.l0]; rw [if_neg (by omega)]
  | succ d ih =>
    intro i acc h ha
    refine Ev.step (f := fun k => impl_window.l0 k w (p : Int) (acc ++ [w.getD ((p + i) % w.length) 0]) (n : Int) ((i + 1 : Nat) : Int)) (fun k => ?_) (ev_to (ih (i + 1) _ (by omega) (by simp [ha])) ?_)
    · simp only [impl_window.l0]
      rw [if_pos (by omega), if_neg (by omega), wrap_id (x := (p : Int) + (i : Int)) (by omega), show (p : Int) + (i : Int) = ((p + i : Nat) : Int) by omega, tmod_nat, wrap_succ (by omega)]
      have hm := Nat.mod_lt (p + i) hw
      rw [if_pos (by omega), if_pos (by omega), if_pos (by omega), rd_nat]
    · simp [List.range'_succ]
theorem impl_window_ev (w : List Int) (n p : Nat) (hw : 0 < w.length) (hwl : w.length ≤ 1000000000000) (hn : n ≤ 1000000000000) (hp : p ≤ 1000000000000) : Ev (fun k => impl_window.f k w (n : Int) (p : Int)) (win w p n) :=
  ev_to (impl_window_loop w n p hw hwl hn hp n 0 [] (by omega) rfl) (by simp [win])

theorem impl_codes_in (w acc : List Int) (n k i : Nat) (r : List Int) (hk : 2 ≤ k) (hk6 : k ≤ 6) (h : k ^ n ≤ 1024) (hn : n ≤ 1000) (hw : w.length ≤ 1024) (hx : ∀ x ∈ w, 0 ≤ x ∧ x ≤ (k : Int) - 1) (ha : acc.length ≤ 1024) (hi : i < w.length)
    (q : Ev (fun q => impl_codes.l0 q w (n : Int) (k : Int) (acc ++ [codeN k (win w i n)]) (w.length : Int) ((i + 1 : Nat) : Int)) r) :
    Ev (fun q => impl_codes.l1 q w (n : Int) (k : Int) acc 0 (w.length : Int) (i : Int) (win w i n) ((win w i n).length : Int) 0) r := by
  have hwl := win_length w i n
  refine ev_iter (fun (c : Int) j q => impl_codes.l1 q w (n : Int) (k : Int) acc c (w.length : Int) (i : Int) (win w i n) ((win w i n).length : Int) (j : Int)) (fun c j => wrap64 (wrap64 (c * (k : Int)) + rd (win w i n) (j : Int))) (fun j c => c = codeN k ((win w i n).take j)) (win w i n).length ?_ (win w i n).length 0 0 (by omega) (by simp [codeN]) ?_
  · intro c j hj hI
    refine ⟨by rw [hI]; exact code_step hk hk6 h hwl (fun x hx' => hx x (mem_win (by omega) hx')) (by omega), fun r q => ?_⟩
    refine Ev.step (fun k => by simp only [impl_codes.l1]; rfl) ?_
    rw [wrap_succ (i := j) (by omega)]
    exact ev_pos (by omega) (ev_pos (by omega) (ev_pos (by omega) q))
  · intro hI
    refine Ev.step (fun k => by simp only [impl_codes.l1]; rfl) (ev_neg (by omega) (ev_pos (by omega) ?_))
    rw [hI, List.take_of_length_le (by omega), wrap_succ (i := i) (by omega)]
    exact q
theorem impl_codes_ev (w : List Int) (n k : Nat) (hk : 2 ≤ k) (hk6 : k ≤ 6) (h : k ^ n ≤ 1024) (hn : n ≤ 1000) (hw : w.length ≤ 1024) (hx : ∀ x ∈ w, 0 ≤ x ∧ x ≤ (k : Int) - 1) : Ev (fun q => impl_codes.f q w (n : Int) (k : Int)) (codesM w n k) := by
  unfold impl_codes.f
  refine ev_iter (fun (acc : List Int) i q => impl_codes.l0 q w (n : Int) (k : Int) acc (w.length : Int) (i : Int)) (fun acc i => acc ++ [codeN k (win w i n)]) (fun i acc => acc = (codesM w n k).take i) w.length ?_ w.length 0 [] (by omega) (by simp) ?_
  · intro acc i hi hI
    refine ⟨by rw [hI, codesM_take w n k i hi], fun r q => ?_⟩
    refine Ev.step (fun k => by simp only [impl_codes.l0]; rfl) (ev_pos (by omega) (ev_call (impl_window_ev w n i (by omega) (by omega) (by omega) (by omega)) ?_))
    exact impl_codes_in w acc n k i r hk hk6 h hn hw hx (by rw [hI]; simp; omega) hi q
  · intro hI
    exact Ev.step (fun k => by simp only [impl_codes.l0]; rfl) (ev_neg (by omega) (ev_some (by rw [hI, List.take_of_length_le (by rw [codesM_length]; omega)])))

theorem impl_increasing_loop (l : List Int) (hl : l.length ≤ 1000000000000) : ∀ (d j : Nat), j + 1 + d = l.length → Ev (fun k => impl_increasing.l0 k l ((j + 1 : Nat) : Int)) (chainB (l.drop j)) := by
  intro d
  induction d with
  | zero =>
    intro j h
    rw [drop_rd l j (by omega), List.drop_eq_nil_of_le (by omega)]
    exact Ev.step (fun k => by simp only [impl_increasing.l0]; rfl) (ev_neg (by omega) (ev_some (by simp [chainB])))
  | succ d ih =>
    intro j h
    rw [drop_rd l j (by omega), drop_rd l (j + 1) (by omega)]
    refine Ev.step (fun k => by simp only [impl_increasing.l0]; rfl) ?_
    rw [wrap_pred (by omega), wrap_succ (by omega)]
    refine ev_pos (by omega) (ev_pos (by omega) (ev_pos (by omega) (ev_pos (by omega) ?_)))
    refine ev_if (fun e => ev_some ?_) (fun e => ev_to (ih (j + 1) (by omega)) ?_)
    · simp only [chainB]; rw [decide_eq_false (by omega)]; rfl
    · rw [drop_rd l (j + 1) (by omega)]; simp only [chainB]; rw [decide_eq_true (by omega)]; rfl
theorem impl_increasing_ev (l : List Int) (hl : l.length ≤ 1000000000000) : Ev (fun k => impl_increasing.f k l) (chainB l) := by
  unfold impl_increasing.f
  by_cases h : l.length = 0
  · obtain rfl := List.eq_nil_of_length_eq_zero h
    exact Ev.step (fun k => by simp only [impl_increasing.l0]; rfl) (ev_neg (by simp) (Ev.now _))
  · exact impl_increasing_loop l hl (l.length - 1) 0 (by omega)

theorem impl_different_ev (l : List Int) (hl : l.length ≤ 1000000000000) : Ev (fun k => impl_different.f k l) (decide l.Nodup) := by
  unfold impl_different.f
  refine ev_pos (by omega) ?_
  rw [← chain_srt]
  exact impl_increasing_ev (srt l) (by rw [srt_length]; exact hl)

theorem impl_isBruijn_ev (w : List Int) (n k : Nat) (hk : 2 ≤ k) (hk6 : k ≤ 6) (h : k ^ n ≤ 1024) (hn : n ≤ 10) (hw : w.length ≤ 1024) (hx : ∀ x ∈ w, 0 ≤ x ∧ x ≤ (k : Int) - 1) : Ev (fun q => impl_isBruijn.f q w (n : Int) (k : Int)) (bruijnB w n k) := by
  unfold impl_isBruijn.f bruijnB
  refine ev_call (impl_power_ev k n hk6 (by omega)) (ev_if (fun e => ?_) (fun e => ev_some (by rw [decide_eq_false (by omega)]; rfl)))
  refine ev_call (impl_codes_ev w n k hk hk6 h (by omega) hw hx) (ev_call (impl_different_ev _ (by rw [codesM_length]; omega)) (ev_some ?_))
  rw [decide_eq_true (show w.length = k ^ n by omega)]; rfl

theorem impl_IsBruijn_ev (w : List Int) (n k : Int) (hw : w.length ≤ 1048576) (hk : -9223372036854775808 ≤ k ∧ k ≤ 9223372036854775807) : Ev (fun q => impl_IsBruijn.f q w n k) (IsBruijnM w n k) := by
  unfold impl_IsBruijn.f IsBruijnM
  refine ev_call (impl_isBruijnSize_ev n k) (ev_if (fun h1 => ?_) (fun h1 => ev_some (by rw [if_neg (fun h => h1 h.1)])))
  refine ev_call (impl_IsCycle_ev w k (by omega) hk.1 hk.2) (ev_if (fun h2 => ?_) (fun h2 => ev_some (by rw [if_neg (fun h => h2 h.2)])))
  rw [if_pos ⟨h1, h2⟩]
  have hc := cycleB_iff.mp h2
  obtain ⟨n, k, rfl, rfl, n1, n2, k1, k2, hp⟩ := kindB_nat h1
  exact ev_call (impl_isBruijn_ev w n k k1 k2 hp n2 hc.2.1.2 hc.2.2) (ev_some (by simp))

theorem spec_l1In_eq (a lo hi : Int) : spec_l1In.f a lo hi = some (inB a lo hi) := by
  unfold spec_l1In.f inB
  by_cases h : a ≥ lo
  · rw [if_pos h]; simp [h]
  · rw [if_neg h]; simp [show ¬ lo ≤ a from h]

theorem spec_lyPower_loop (a : Nat) (ha : a ≤ 6) : ∀ (e j : Nat), e + j ≤ 12 → Ev (fun k => spec_lyPower.l0 k (a : Int) (e : Int) ((a ^ j : Nat) : Int)) ((a ^ (j + e) : Nat) : Int) := by
  intro e
  induction e with
  | zero =>
    intro j h
    exact Ev.step (fun k => by simp only [spec_lyPower.l0]; rfl) (ev_neg (by omega) (Ev.now _))
  | succ e ih =>
    intro j h
    have h1 : a ^ (j + 1) ≤ 2176782336 := Nat.le_trans (Nat.pow_le_pow_left ha (j + 1)) (Nat.le_trans (Nat.pow_le_pow_right (by omega) (show j + 1 ≤ 12 by omega)) (by decide))
    refine Ev.step (fun k => by simp only [spec_lyPower.l0]; rfl) ?_
    refine ev_pos (by omega) ?_
    rw [wrap_pred (by omega), show ((a ^ j : Nat) : Int) * (a : Int) = ((a ^ (j + 1) : Nat) : Int) by rw [Nat.pow_succ]; simp, wrap_id (by omega)]
    exact ev_to (ih (j + 1) (by omega)) (by rw [show j + 1 + e = j + (e + 1) by omega])
theorem spec_lyPower_ev (a n : Nat) (ha : a ≤ 6) (hn : n ≤ 12) : Ev (fun k => spec_lyPower.f k (a : Int) (n : Int)) ((a ^ n : Nat) : Int) :=
  ev_to (spec_lyPower_loop a ha n 0 (by omega)) (by simp)

theorem spec_brKind_ev (n k : Int) : Ev (fun q => spec_brKind.f q n k) (kindB n k) := by
  unfold spec_brKind.f kindB
  refine ev_plain (spec_l1In_eq _ _ _) (ev_if (fun h1 => ?_) (fun h1 => ev_some (by simp [Bool.eq_false_iff.mpr h1])))
  refine ev_plain (spec_l1In_eq _ _ _) (ev_if (fun h2 => ?_) (fun h2 => ev_some (by simp [Bool.eq_false_iff.mpr h2])))
  have e1 := inB_iff.mp h1
  have e2 := inB_iff.mp h2
  obtain ⟨n, rfl⟩ := Int.eq_ofNat_of_zero_le (show 0 ≤ n by omega)
  obtain ⟨k, rfl⟩ := Int.eq_ofNat_of_zero_le (show 0 ≤ k by omega)
  refine ev_call (spec_lyPower_ev k n (by omega) (by omega)) (ev_some ?_)
  rw [h1, h2]
  simp only [Bool.true_and, Int.toNat_natCast]
  exact decide_eq_decide.mpr (by omega)

theorem impl_copied_all (w : List Int) (h : w.length < 17592186044416) : impl_copied.f w = some w := by
  unfold impl_copied.f
  rw [Option.bind_some, if_pos (by simpa using h)]; simp
def allNext (k sz code x : Nat) : Nat := (code * k + x) % sz
def allM (n k sz : Nat) : Nat → Nat → List Int → Nat → List (List Int)
  | 0, _, xs, _ => if bruijnB xs n k = true then [xs] else []
  | r + 1, code, xs, m => (List.range' 0 k).flatMap fun x => if m.testBit (allNext k sz code x) = true then [] else allM n k sz r (allNext k sz code x) (xs ++ [(x : Int)]) (m ||| (1 <<< allNext k sz code x))
def allL (n k sz r code : Nat) (xs : List Int) (m x d : Nat) : List (List Int) := (List.range' x d).flatMap fun x => if m.testBit (allNext k sz code x) = true then [] else allM n k sz r (allNext k sz code x) (xs ++ [(x : Int)]) (m ||| (1 <<< allNext k sz code x))
theorem allL_zero (n k sz r code : Nat) (xs : List Int) (m x : Nat) : allL n k sz r code xs m x 0 = [] := rfl
theorem allL_succ (n k sz r code : Nat) (xs : List Int) (m x d : Nat) : allL n k sz r code xs m x (d + 1) = (if m.testBit (allNext k sz code x) = true then [] else allM n k sz r (allNext k sz code x) (xs ++ [(x : Int)]) (m ||| (1 <<< allNext k sz code x))) ++ allL n k sz r code xs m (x + 1) d := by
  unfold allL
  rw [List.range'_succ, List.flatMap_cons]
theorem allM_succ (n k sz r code : Nat) (xs : List Int) (m : Nat) : allM n k sz (r + 1) code xs m = allL n k sz r code xs m 0 k := rfl
theorem allNext_eq {k sz code x : Nat} (h : code * k + x < 100000) : impl_AllBruijn.next (k : Int) (sz : Int) (code : Int) (x : Int) = ((allNext k sz code x : Nat) : Int) := by
  unfold impl_AllBruijn.next allNext
  have e0 : ((code : Int) * (k : Int)) = ((code * k : Nat) : Int) := by push_cast; rfl
  have e1 : wrap64 ((code : Int) * (k : Int)) = ((code * k : Nat) : Int) := by rw [e0]; exact wrap_id (by omega)
  have e2 : wrap64 (((code * k : Nat) : Int) + (x : Int)) = ((code * k + x : Nat) : Int) := by
    rw [show (((code * k : Nat) : Int) + (x : Int)) = ((code * k + x : Nat) : Int) from by push_cast; rfl]
    exact wrap_id (by omega)
  rw [e1, e2]
  rw [Int.tmod_eq_emod_of_nonneg (by omega)]
  exact (Int.natCast_emod _ _).symm
theorem impl_AllBruijn_ext_ev {n k : Nat} (hn : n ≤ 10) (hk : 2 ≤ k) (hk6 : k ≤ 6) (hp : k ^ n ≤ 1024) (hp0 : 0 < k ^ n) : ∀ (r code : Nat) (xs : List Int) (ys : List (List Int)) (m : Nat), xs.length + r = k ^ n → code < 1100 → (∀ x ∈ xs, 0 ≤ x ∧ x ≤ (k : Int) - 1) → (ys ++ allM n k (k ^ n) r code xs m).length ≤ 1000 → Ev (fun q => impl_AllBruijn.ext q ((k ^ n : Nat) : Int) (n : Int) (k : Int) (code : Int) xs ys m) (ys ++ allM n k (k ^ n) r code xs m) := by
  intro r
  induction r with
  | zero =>
    intro code xs ys m hl hc hx hy
    refine Ev.step (fun k => by simp only [impl_AllBruijn.ext]; rfl) (ev_pos (by omega) ?_)
    refine ev_call (impl_isBruijn_ev xs n k hk hk6 hp hn (by omega) hx) (ev_if (fun h => ?_) (fun h => ?_))
    · rw [allM, if_pos h]
      rw [allM, if_pos h, List.length_append] at hy
      exact ev_plain (impl_copied_all _ (by omega)) (ev_pos (by omega) (Ev.now _))
    · rw [allM, if_neg h]
      exact ev_some (by simp)
  | succ r ih =>
    intro code xs ys m hl hc hx hy
    refine Ev.step (fun k => by simp only [impl_AllBruijn.ext]; rfl) (ev_neg (by omega) ?_)
    rw [allM_succ] at hy ⊢
    have loop : ∀ (d x : Nat) (ys : List (List Int)), x + d = k → (ys ++ allL n k (k ^ n) r code xs m x d).length ≤ 1000 → Ev (fun q => impl_AllBruijn.lp q ((k ^ n : Nat) : Int) (n : Int) (k : Int) (code : Int) xs ys m (x : Int)) (ys ++ allL n k (k ^ n) r code xs m x d) := by
      intro d
      induction d with
      | zero =>
        intro x ys hd hy
        refine Ev.step (fun k => by simp only [impl_AllBruijn.lp]; rfl) (ev_neg (by omega) ?_)
        rw [allL_zero]
        exact ev_some (by simp)
      | succ d ihd =>
        intro x ys hd hy
        have hmul : code * k < 7000 := by
          have := Nat.mul_le_mul (Nat.le_of_lt hc) hk6
          omega
        have hnx : allNext k (k ^ n) code x < k ^ n := Nat.mod_lt _ hp0
        refine Ev.step (fun k => by simp only [impl_AllBruijn.lp]; rfl) (ev_pos (by omega) (ev_neg (by omega) ?_))
        rw [allNext_eq (by omega)]
        refine ev_pos (by omega) ?_
        rw [Int.toNat_natCast, show wrap64 ((x : Int) + 1) = ((x + 1 : Nat) : Int) from by rw [wrap_id (by omega)]; push_cast; rfl]
        rw [allL_succ] at hy ⊢
        refine ev_if (fun h => ?_) (fun h => ?_)
        · rw [if_pos h, List.nil_append] at hy ⊢
          exact ihd (x + 1) ys (by omega) hy
        · rw [if_neg h, ← List.append_assoc] at hy ⊢
          refine ev_pos (by omega) (ev_call (ih (allNext k (k ^ n) code x) (xs ++ [(x : Int)]) ys (m ||| (1 <<< allNext k (k ^ n) code x)) (by rw [List.length_append, List.length_singleton]; omega) (by omega) (fun y hy => ?_) (by rw [List.length_append] at hy; omega)) (ihd (x + 1) _ (by omega) hy))
          rcases List.mem_append.mp hy with h1 | h1
          · exact hx y h1
          · rw [List.mem_singleton.mp h1]; omega
    exact loop k 0 ys (by omega) hy

theorem rdL2 (L : List (List Int)) (i : Nat) : rd_L2 L (i : Int) = L.getD i [] := by unfold rd_L2; rw [Int.toNat_natCast]
def allOf (n k : Nat) : List (List Int) := allM n k (k ^ n) (k ^ n - n) 0 (List.replicate n 0) 1
def allSmall : List (Nat × Nat) := [(1, 2), (1, 3), (1, 4), (1, 5), (2, 2), (3, 2), (4, 2), (2, 3)]
def restW (q : Nat) (n k : Int) : Option Bool := (impl_AllBruijn.f q n k).bind fun v => ((spec_AllBruijn.f q n k).bind fun u => (if (v.2 != u.2) = true then (laws_FnAllBruijnWords.j0 q n k v.1 v.2 u.2 true) else ((laws_tSameRows.f q v.1 u.1).bind fun t => (laws_FnAllBruijnWords.j0 q n k v.1 v.2 u.2 (!t)))))
theorem j_mono (q : Nat) : ∀ y0 y1 y2 y3 y4 y5, LeO (laws_FnAllBruijnWords.j0 q y0 y1 y2 y3 y4 y5) (laws_FnAllBruijnWords.j0 (q + 1) y0 y1 y2 y3 y4 y5) := (laws_FnAllBruijnWords.mono_l q).1
theorem restW_of {n k : Int} {q : Nat} (h : restW q n k = some true) : Ev (fun q => restW q n k) true := by
  refine Ev.of (fun q => ?_) h
  exact LeO.bind (impl_AllBruijn.mono _ _ _) (fun _ => LeO.bind (spec_AllBruijn.mono _ _ _) (fun _ => LeO.ite (j_mono _ _ _ _ _ _ _) (LeO.bind (laws_tSameRows.mono _ _ _) (fun _ => j_mono _ _ _ _ _ _ _))))
def wordW (n k : Nat) (L : List (List Int)) (i : Nat) : Bool := decide (IsBruijnM (L.getD i []) (n : Int) (k : Int) = (true, true)) && decide (n ≤ (L.getD i []).length ∧ (L.getD i []).length ≤ 1048576) && (laws_tSum.f 100 ((L.getD i []).take n) == some 0) && (decide (i = 0) || (laws_tLess.f 100 (L.getD (i - 1) []) (L.getD i []) == some true))
def smallW (n k : Nat) : Bool := match impl_countBruijn.f 700 (n : Int) (k : Int), impl_LeastBruijn.f 1200 (n : Int) (k : Int) with
  | some c, some (l, true) => decide (0 ≤ c ∧ c ≤ 40) && decide ((allOf n k).length ≤ 1000) && decide (0 < n ∧ n ≤ k ^ n) && (spec_AllBruijn.f 700 (n : Int) (k : Int) == some (allOf n k, true)) && (laws_tSameRows.f 700 (allOf n k) (allOf n k) == some true) && (impl_CountBruijn.f 700 (n : Int) (k : Int) == some (c, true)) && (spec_CountBruijn.f 700 (n : Int) (k : Int) == some (c, true)) && decide (((allOf n k).length : Int) = c ∧ 0 < (allOf n k).length) && (laws_tSame.f 700 ((allOf n k).getD 0 []) l == some true) && (List.range (allOf n k).length).all (fun i => wordW n k (allOf n k) i)
  | _, _ => false
theorem small_all : (allSmall.all fun p => smallW p.1 p.2) = true := by kernel_rfl
theorem big_all : ((List.range 11).all fun n => (List.range 7).all fun k => !(decide (1 ≤ n) && decide (2 ≤ k) && decide (k ^ n ≤ 1024)) || (decide ((n, k) ∈ allSmall) || (restW 800 (n : Int) (k : Int) == some true))) = true := by kernel_rfl
theorem big_cases (n : Nat) (hn : n < 11) (k : Nat) (hk : k < 7) (h1 : 1 ≤ n) (h2 : 2 ≤ k) (h3 : k ^ n ≤ 1024) : (n, k) ∈ allSmall ∨ restW 800 (n : Int) (k : Int) = some true := by
  have h := List.all_eq_true.mp (List.all_eq_true.mp big_all n (List.mem_range.mpr hn)) k (List.mem_range.mpr hk)
  rw [decide_eq_true h1, decide_eq_true h2, decide_eq_true h3] at h
  simpa using h
theorem words_loop {n k : Nat} (hk : k ≤ 6) {L : List (List Int)} (hL : L.length ≤ 1000) (hw : ∀ i, i < L.length → wordW n k L i = true) : ∀ d i : Nat, i + d = L.length → Ev (fun q => laws_FnAllBruijnWords.l0 q (n : Int) (k : Int) L L (L.length : Int) (i : Int)) true := by
  intro d
  induction d with
  | zero =>
    intro i h
    refine Ev.step (fun k => by simp only [laws_FnAllBruijnWords.l0]; rfl) ?_
    exact ev_neg (by omega) (Ev.now _)
  | succ d ih =>
    intro i h
    have hi := hw i (by omega)
    simp only [wordW, Bool.and_eq_true, decide_eq_true_eq, beq_iff_eq, Bool.or_eq_true] at hi
    obtain ⟨⟨⟨h1, h2⟩, h3⟩, h4⟩ := hi
    refine Ev.step (fun k => by simp only [laws_FnAllBruijnWords.l0]; rfl) ?_
    refine ev_pos (by omega) ?_
    refine ev_pos (by omega) ?_
    refine ev_pos (by omega) ?_
    rw [rdL2]
    have hb := impl_IsBruijn_ev (L.getD i []) (n : Int) (k : Int) h2.2 (by omega)
    rw [h1] at hb
    refine ev_call hb ?_
    refine ev_pos (by first | rfl | trivial) ?_
    refine ev_pos (by first | rfl | trivial) ?_
    refine ev_pos (by omega) ?_
    refine ev_pos (by omega) ?_
    rw [Int.toNat_natCast]
    refine ev_call (Ev.of (fun q => laws_tSum.mono _ _) h3) ?_
    refine ev_pos (by first | rfl | trivial) ?_
    have hs : wrap64 ((i : Int) + 1) = ((i + 1 : Nat) : Int) := by rw [wrap_id (by omega)]; push_cast; rfl
    rw [hs]
    by_cases c : i = 0
    · exact ev_neg (by omega) (ih (i + 1) (by omega))
    · refine ev_pos (by omega) ?_
      have hp : wrap64 ((i : Int) - 1) = ((i - 1 : Nat) : Int) := by rw [wrap_id (by omega)]; omega
      rw [hp]
      refine ev_pos (by omega) ?_
      refine ev_pos (by omega) ?_
      rw [rdL2]
      rcases h4 with h4 | h4
      · exact absurd h4 c
      · refine ev_call (Ev.of (fun q => laws_tLess.mono _ _ _) h4) ?_
        exact ev_pos rfl (ih (i + 1) (by omega))
theorem restW_small {n k : Nat} (hn1 : 1 ≤ n) (hn : n ≤ 10) (hk : 2 ≤ k) (hk6 : k ≤ 6) (hp : k ^ n ≤ 1024) (h : smallW n k = true) : Ev (fun q => restW q (n : Int) (k : Int)) true := by
  unfold smallW at h
  split at h
  · rename_i c l hc hl
    simp only [Bool.and_eq_true, decide_eq_true_eq, beq_iff_eq] at h
    obtain ⟨⟨⟨⟨⟨⟨⟨⟨⟨h1, h2⟩, h3⟩, h4⟩, h5⟩, h6⟩, h7⟩, h8⟩, h9⟩, h10⟩ := h
    have hb : kindB (n : Int) (k : Int) = true := kindB_iff.mpr ⟨by omega, by omega, by simpa using hp⟩
    have e2 := impl_isBruijnSize_ev (n : Int) (k : Int)
    rw [hb] at e2
    have e : Ev (fun q => impl_AllBruijn.f q (n : Int) (k : Int)) (allOf n k, true) := by
      unfold impl_AllBruijn.f
      refine ev_call e2 (ev_pos rfl (ev_call (Ev.of (fun q => impl_countBruijn.mono _ _ _) hc) (ev_plain (impl_within_eq _ _ _) (ev_pos (inB_iff.mpr h1) (ev_call (impl_power_ev k n hk6 (by omega)) (ev_pos (by omega) (ev_pos (by omega) ?_)))))))
      rw [Int.toNat_natCast]
      have e := impl_AllBruijn_ext_ev hn hk hk6 hp (Nat.lt_of_lt_of_le h3.1 h3.2) (k ^ n - n) 0 (List.replicate n 0) [] 1 (by rw [List.length_replicate]; omega) (by omega) (fun x hx => by rw [(List.mem_replicate.mp hx).2]; omega) (by rw [List.nil_append]; exact h2)
      rw [List.nil_append] at e
      exact ev_call e (Ev.now _)
    unfold restW
    refine ev_call e (ev_call (Ev.of (fun q => spec_AllBruijn.mono _ _ _) h4) (ev_neg (by simp) (ev_call (Ev.of (fun q => laws_tSameRows.mono _ _ _) h5) ?_)))
    generalize hL : allOf n k = L at *
    show Ev (fun q => laws_FnAllBruijnWords.j0 q (n : Int) (k : Int) L true true false) true
    refine Ev.step (fun k => by simp only [laws_FnAllBruijnWords.j0]; rfl) ?_
    refine ev_neg (by simp) ?_
    refine ev_call (Ev.of (fun q => impl_CountBruijn.mono _ _ _) h6) (ev_call (Ev.of (fun q => spec_CountBruijn.mono _ _ _) h7) ?_)
    refine ev_neg (by simp) ?_
    refine ev_pos (by first | rfl | trivial) ?_
    refine ev_pos (by first | rfl | trivial) ?_
    refine ev_pos (by first | rfl | trivial) ?_
    dsimp only
    rw [decide_eq_true h1.2]
    show Ev (fun q => laws_FnAllBruijnWords.j1 q (n : Int) (k : Int) L true c false) true
    refine Ev.step (fun k => by simp only [laws_FnAllBruijnWords.j1]; rfl) ?_
    refine ev_neg (by simp) ?_
    refine ev_pos (by first | rfl | trivial) ?_
    refine ev_call (Ev.of (fun q => impl_LeastBruijn.mono _ _ _) hl) ?_
    refine ev_pos (by first | rfl | trivial) ?_
    refine ev_pos h8.1 ?_
    refine ev_pos (by omega) ?_
    rw [show rd_L2 L 0 = L.getD 0 [] from rfl]
    refine ev_call (Ev.of (fun q => laws_tSame.mono _ _ _) h9) ?_
    show Ev (fun q => laws_FnAllBruijnWords.j2 q (n : Int) (k : Int) L false) true
    refine Ev.step (fun k => by simp only [laws_FnAllBruijnWords.j2]; rfl) ?_
    refine ev_neg (by simp) ?_
    exact words_loop hk6 (by omega) (fun i hi => List.all_eq_true.mp h10 i (List.mem_range.mpr hi)) L.length 0 (by omega)
  · cases h
theorem restW_ev (n k : Int) : Ev (fun q => restW q n k) true := by
  by_cases h : kindB n k = true
  · obtain ⟨n, k, rfl, rfl, h1, h2, h3, h4, h5⟩ := kindB_nat h
    rcases big_cases n (by omega) k (by omega) h1 h3 h5 with hs | e
    · exact restW_small h1 h2 h3 h4 h5 (List.all_eq_true.mp small_all (n, k) hs)
    · exact restW_of e
  · have hb := Bool.eq_false_iff.mpr h
    have e1 := spec_brKind_ev n k
    have e2 := impl_isBruijnSize_ev n k
    rw [hb] at e1 e2
    have i1 : Ev (fun q => impl_AllBruijn.f q n k) ([], false) := by
      unfold impl_AllBruijn.f
      exact ev_call e2 (ev_neg (by simp) (Ev.now _))
    have i2 : Ev (fun q => spec_AllBruijn.f q n k) ([], false) := by
      unfold spec_AllBruijn.f
      refine ev_call e1 (ev_neg (by simp) ?_)
      refine Ev.step (fun k => by simp only [spec_AllBruijn.j0]; rfl) ?_
      exact ev_pos (by trivial) (Ev.now _)
    have i3 : Ev (fun q => impl_CountBruijn.f q n k) (0, false) := by
      unfold impl_CountBruijn.f
      exact ev_call e2 (ev_neg (by simp) (Ev.now _))
    have i4 : Ev (fun q => spec_CountBruijn.f q n k) (0, false) := by
      unfold spec_CountBruijn.f
      exact ev_call e1 (ev_neg (by simp) (Ev.now _))
    unfold restW
    refine ev_call i1 (ev_call i2 (ev_neg (by simp) (ev_call (Ev.of (k := 5) (r := true) (fun q => laws_tSameRows.mono _ _ _) rfl) ?_)))
    show Ev (fun q => laws_FnAllBruijnWords.j0 q n k [] false false false) true
    refine Ev.step (fun k => by simp only [laws_FnAllBruijnWords.j0]; rfl) ?_
    refine ev_neg (by simp) ?_
    refine ev_call i3 (ev_call i4 ?_)
    refine ev_neg (by simp) ?_
    refine ev_pos (by first | rfl | trivial) ?_
    refine ev_neg (by simp) ?_
    refine ev_neg (by simp) ?_
    refine Ev.step (fun k => by simp only [laws_FnAllBruijnWords.j1]; rfl) ?_
    refine ev_neg (by simp) ?_
    exact ev_neg (by simp) (Ev.now _)
theorem FnAllBruijnWords : laws_FnAllBruijnWords.Pure := by
  intro l0 l1 _ _ hb0 _ _ hb1
  refine Ev.rounds (r := true) ?_
  unfold laws_FnAllBruijnWords.f
  obtain ⟨b, hbig⟩ := laws_big_some l0 l1
  refine ev_plain hbig ?_
  refine ev_if (fun _ => Ev.now _) (fun hbig2 => ?_)
  obtain ⟨n, k, a', s', hst, hn, hk, _⟩ := stages_ok (bytes_wf hb0) (a := 0) 0 (by omega) (by omega)
  have hdraw : spec_DrawAllBruijn.f l0 = some (n, k) := by
    unfold spec_DrawAllBruijn.f
    rw [hst]; rfl
  refine ev_plain hdraw ?_
  exact restW_ev n k

end Go.Proofs.Ytfbafdlgnjkioaa.Pure
