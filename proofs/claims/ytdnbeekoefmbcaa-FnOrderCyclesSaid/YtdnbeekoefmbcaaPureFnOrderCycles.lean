/- The pure statement of OrderCycles: it holds of all draws; no condition. -/
import Derived.Test.YtdnbeekoefmbcaaPFnOrderCyclesx8
import Derived.Test.YtdnbeekoefmbcaaBase
import Derived.Test.YtdnbeekoefmbcaaLists
namespace Go.Proofs.Ytdnbeekoefmbcaa.Pure
open Go.RowKit Go.Proofs.Ytdnbeekoefmbcaa.PFnOrderCycles Go.Proofs.YtdnbeekoefmbcaaW.PrintWords Go.Proofs.YtdnbeekoefmbcaaW.PrintLast Go.Proofs.Ytdnbeekoefmbcaa.Base
set_option maxRecDepth 10000
set_option linter.unusedVariables false
set_option linter.unusedSimpArgs false

def bytesL (d : List Int) : Prop := ∀ x ∈ d, 0 ≤ x ∧ x ≤ 255
theorem and255 (x : Int) : 0 ≤ Go.bits .and .u64 x 255 ∧ Go.bits .and .u64 x 255 ≤ 255 := by
  have h : ((BitVec.ofInt 64 x) &&& (BitVec.ofInt 64 255)).toNat ≤ 255 := by
    rw [BitVec.toNat_and]; exact Nat.le_trans Nat.and_le_right (by decide)
  have e : Go.bits .and .u64 x 255 = IntKind.u64.wrap (((BitVec.ofInt 64 x) &&& (BitVec.ofInt 64 255)).toNat : Int) := rfl
  rw [e]
  generalize ((BitVec.ofInt 64 x) &&& (BitVec.ofInt 64 255)).toNat = m at h
  simp only [IntKind.wrap, IntKind.signed, IntKind.bits, Bool.false_and, Bool.false_eq_true, if_false]
  omega
theorem bytes_wf {d : List Int} (h : ∀ x ∈ d, (Lit.int .u8 x).wf = true) : bytesL d := by
  intro x hx
  have h := h x hx
  simp only [Lit.wf, IntKind.min, IntKind.max, IntKind.signed, IntKind.bits, Bool.and_eq_true, decide_eq_true_eq, Bool.false_eq_true, if_false] at h
  omega
theorem next_ok {d : List Int} (hd : bytesL d) {a : Int} (s : Int) (h0 : 0 ≤ a) (h1 : a ≤ 1000000000001000) : ∃ v s', spec_l1Cur_next.f d a s = some (v, a + 1, s') ∧ 0 ≤ v ∧ v ≤ 255 := by
  unfold spec_l1Cur_next.f
  rw [wrap_id (x := a + 1) (by omega)]
  by_cases ha : a < (d.length : Int)
  · rw [if_pos ha, if_pos h0, if_pos (by omega)]
    have hb : 0 ≤ rd d a ∧ rd d a ≤ 255 := by
      obtain ⟨j, rfl⟩ := Int.eq_ofNat_of_zero_le h0
      exact hd _ (by rw [show rd d ((j : Nat) : Int) = d[j]'(by omega) from rd_get d j (by omega)]; exact List.getElem_mem _)
    exact ⟨_, _, rfl, by rw [wrap_id (by omega)]; exact hb.1, by rw [wrap_id (by omega)]; exact hb.2⟩
  · rw [if_neg ha]
    by_cases hb : a + 1 ≤ (d.length : Int)
    · omega
    · rw [if_neg hb]
      have h := and255 ((IntKind.u64.wrap ((IntKind.u64.wrap ((IntKind.u64.wrap (s * 6364136223846793005)))) + 1442695040888963407)) / 1099511627776)
      exact ⟨_, _, rfl, by rw [wrap_id (by omega)]; exact h.1, by rw [wrap_id (by omega)]; exact h.2⟩
theorem tmod_lt {x n : Int} (h0 : 0 ≤ x) (hn : 1 ≤ n) : 0 ≤ Int.tmod x n ∧ Int.tmod x n < n := by
  obtain ⟨p, rfl⟩ := Int.eq_ofNat_of_zero_le h0
  obtain ⟨q, rfl⟩ := Int.eq_ofNat_of_zero_le (show 0 ≤ n by omega)
  rw [show ((p : Nat) : Int).tmod ((q : Nat) : Int) = ((p % q : Nat) : Int) from tmod_nat p q]
  have := Nat.mod_lt p (show 0 < q by omega)
  omega
theorem pick_ok {d : List Int} (hd : bytesL d) {a : Int} (s n : Int) (h0 : 0 ≤ a) (h1 : a ≤ 1000000000000000) : ∃ v a' s', spec_l1Cur_pick.f d a s n = some (v, a', s') ∧ (0 ≤ v ∧ (v < n ∨ (n ≤ 1 ∧ v = 0))) ∧ (a ≤ a' ∧ a' ≤ a + 2) := by
  unfold spec_l1Cur_pick.f
  by_cases hn : n ≤ 1
  · rw [if_pos hn]
    exact ⟨0, a, s, rfl, ⟨by omega, .inr ⟨hn, rfl⟩⟩, by omega⟩
  · rw [if_neg hn]
    obtain ⟨v, s1, e1, hv⟩ := next_ok hd s h0 (by omega)
    rw [e1, Option.bind_some]
    dsimp only
    by_cases h2 : n > 200
    · rw [if_pos h2]
      obtain ⟨u, s2, e2, hu⟩ := next_ok hd (a := a + 1) s1 (by omega) (by omega)
      rw [e2, Option.bind_some]
      dsimp only
      rw [if_neg (by omega), wrap_id (x := v * 256) (by omega), wrap_id (x := v * 256 + u) (by omega)]
      have := tmod_lt (x := v * 256 + u) (n := n) (by omega) (by omega)
      exact ⟨_, _, _, rfl, ⟨this.1, .inl this.2⟩, by omega⟩
    · rw [if_neg h2, if_neg (by omega)]
      have := tmod_lt (x := v) (n := n) (by omega) (by omega)
      exact ⟨_, _, _, rfl, ⟨this.1, .inl this.2⟩, by omega⟩

theorem among_ok {d : List Int} (hd : bytesL d) {a : Int} (s : Int) (l : List Int) (hl : 1 ≤ l.length) (h0 : 0 ≤ a) (h1 : a ≤ 1000000000000000) : ∃ v a' s', spec_l1Cur_among.f d a s l = some (v, a', s') ∧ v ∈ l ∧ (a ≤ a' ∧ a' ≤ a + 2) := by
  obtain ⟨v, a', s', e, hv, h⟩ := pick_ok hd s (l.length : Int) h0 h1
  unfold spec_l1Cur_among.f
  rw [e, Option.bind_some]
  dsimp only
  rw [if_pos (by omega), if_pos (by omega)]
  refine ⟨_, _, _, rfl, ?_, h⟩
  obtain ⟨j, rfl⟩ := Int.eq_ofNat_of_zero_le hv.1
  rw [show rd l ((j : Nat) : Int) = l[j]'(by omega) from rd_get l j (by omega)]
  exact List.getElem_mem _

theorem one_ok {d : List Int} (hd : bytesL d) {a : Int} (s n : Int) (h0 : 0 ≤ a) (h1 : a ≤ 1000000000000000) : ∃ v a' s', spec_l1Cur_one.f d a s n = some (v, a', s') ∧ (a ≤ a' ∧ a' ≤ a + 2) := by
  obtain ⟨v, a', s', e, _, h⟩ := pick_ok hd s n h0 h1
  unfold spec_l1Cur_one.f
  rw [e]
  exact ⟨_, _, _, rfl, h⟩

theorem spec_l1Least_eq9 (a b : Int) : spec_l1Least.f a b = some (if a < b then a else b) := by unfold spec_l1Least.f; split <;> rfl
theorem spec_l1Most_eq9 (a b : Int) : spec_l1Most.f a b = some (if a > b then a else b) := by unfold spec_l1Most.f; split <;> rfl
theorem word9_fill {d : List Int} (hd : bytesL d) : ∀ (m : Nat) (xs : List Int) (a s : Int), xs.length + m = 202 → 0 ≤ a → a + 4 * (m : Int) ≤ 999999999999900 →
    ∃ r a' s', Ev (fun q => spec_l1Cur_word9.l1 q xs d a s) (r, a', s') ∧ r.length ≤ 202 ∧ (a ≤ a' ∧ a' ≤ a + 4 * (m : Int) + 4) := by
  intro m
  induction m with
  | zero =>
    intro xs a s hl h0 hb
    obtain ⟨v, a1, s1, e1, hv, ha1⟩ := pick_ok hd s 2 h0 (by omega)
    refine ⟨xs, a1, s1, Ev.step (fun k => by simp only [spec_l1Cur_word9.l1]; rfl) (ev_plain e1 ?_), by omega, by omega⟩
    dsimp only
    rw [wrap_id (x := 200 + v) (by omega)]
    exact ev_neg (by omega) (Ev.now _)
  | succ m ih =>
    intro xs a s hl h0 hb
    obtain ⟨v, a1, s1, e1, hv, ha1⟩ := pick_ok hd s 2 h0 (by omega)
    by_cases c : (xs.length : Int) < 200 + v
    · obtain ⟨u, a2, s2, e2, hu, ha2⟩ := pick_ok hd (a := a1) s1 3 (by omega) (by omega)
      obtain ⟨r, a3, s3, h1, h2, h3⟩ := ih (xs ++ [u]) a2 s2 (by simp; omega) (by omega) (by omega)
      refine ⟨r, a3, s3, Ev.step (fun k => by simp only [spec_l1Cur_word9.l1]; rfl) (ev_plain e1 ?_), h2, by omega⟩
      dsimp only
      rw [wrap_id (x := 200 + v) (by omega)]
      refine ev_pos c (ev_plain e2 ?_)
      dsimp only
      exact ev_pos (by omega) h1
    · refine ⟨xs, a1, s1, Ev.step (fun k => by simp only [spec_l1Cur_word9.l1]; rfl) (ev_plain e1 ?_), by omega, by omega⟩
      dsimp only
      rw [wrap_id (x := 200 + v) (by omega)]
      exact ev_neg c (Ev.now _)
theorem word9_loop {d : List Int} (hd : bytesL d) (n : Int) : ∀ (m : Nat) (xs : List Int) (a s : Int), xs.length + m ≤ 100 → 0 ≤ a → a + 4 * (m : Int) ≤ 999999999990000 →
    ∃ r a' s', Ev (fun q => spec_l1Cur_word9.l0 q n xs (m : Int) d a s) (r, a', s') ∧ r.length ≤ 202 ∧ (a ≤ a' ∧ a' ≤ a + 4 * (m : Int) + 1000) := by
  intro m
  induction m with
  | zero =>
    intro xs a s hl h0 hb
    obtain ⟨v, a1, s1, e1, hv, ha1⟩ := pick_ok hd s 24 h0 (by omega)
    by_cases c1 : v = 0
    · obtain ⟨u, a2, s2, e2, hu, ha2⟩ := among_ok hd (a := a1) s1 [(-1), 11, 12, n] (by simp) (by omega) (by omega)
      refine ⟨xs ++ [u], a2, s2, Ev.step (fun k => by simp only [spec_l1Cur_word9.l0]; rfl) (ev_neg (by omega) (ev_plain e1 ?_)), by simp; omega, by omega⟩
      dsimp only
      refine ev_pos c1 (ev_plain e2 ?_)
      dsimp only
      exact ev_pos (by omega) (Ev.now _)
    · by_cases c2 : v = 1
      · obtain ⟨r, a3, s3, h1, h2, h3⟩ := word9_fill hd (202 - xs.length) xs a1 s1 (by omega) (by omega) (by omega)
        refine ⟨r, a3, s3, Ev.step (fun k => by simp only [spec_l1Cur_word9.l0]; rfl) (ev_neg (by omega) (ev_plain e1 ?_)), h2, by omega⟩
        dsimp only
        exact ev_neg c1 (ev_pos c2 h1)
      · refine ⟨xs, a1, s1, Ev.step (fun k => by simp only [spec_l1Cur_word9.l0]; rfl) (ev_neg (by omega) (ev_plain e1 ?_)), by omega, by omega⟩
        dsimp only
        exact ev_neg c1 (ev_neg c2 (Ev.now _))
  | succ m ih =>
    intro xs a s hl h0 hb
    obtain ⟨v, a1, s1, e1, hv, ha1⟩ := pick_ok hd s (if 1 > (if n < 12 then n else 12) then 1 else (if n < 12 then n else 12)) h0 (by omega)
    obtain ⟨r, a3, s3, h1, h2, h3⟩ := ih (xs ++ [v]) a1 s1 (by simp; omega) (by omega) (by omega)
    refine ⟨r, a3, s3, Ev.step (fun k => by simp only [spec_l1Cur_word9.l0]; rfl) (ev_pos (by omega) (ev_plain (spec_l1Least_eq9 _ _) (ev_plain (spec_l1Most_eq9 _ _) (ev_plain e1 ?_)))), h2, by omega⟩
    dsimp only
    rw [wrap_pred (by omega)]
    exact ev_pos (by omega) h1
theorem word9_ok {d : List Int} (hd : bytesL d) {a : Int} (s n most : Int) (h0 : 0 ≤ a) (h1 : a ≤ 999999999900000) (hm : 0 ≤ most ∧ most ≤ 50) : ∃ r a' s', Ev (fun q => spec_l1Cur_word9.f q d a s n most) (r, a', s') ∧ r.length ≤ 202 ∧ (a ≤ a' ∧ a' ≤ a + 2000) := by
  obtain ⟨v, a1, s1, e1, hv, ha1⟩ := pick_ok hd s (most + 1) h0 (by omega)
  obtain ⟨m, rfl⟩ := Int.eq_ofNat_of_zero_le hv.1
  obtain ⟨r, a3, s3, h2, h3, h4⟩ := word9_loop hd n m [] a1 s1 (by simp; omega) (by omega) (by omega)
  unfold spec_l1Cur_word9.f
  refine ⟨r, a3, s3, ?_, h3, by omega⟩
  rw [wrap_id (x := most + 1) (by omega)]
  refine ev_plain e1 ?_
  exact h2

def orderM (l : List Int) : List Int := l.map fun x => ((l.countP (fun y => decide (y < x)) : Nat) : Int)
theorem orderM_length (l : List Int) : (orderM l).length = l.length := by simp [orderM]
theorem orderM_take (l : List Int) (i : Nat) (h : i < l.length) : (orderM l).take (i + 1) = (orderM l).take i ++ [((l.countP (fun y => decide (y < rd l (i : Int))) : Nat) : Int)] := by
  rw [rd_get l i h, List.take_succ_eq_append_getElem (by rw [orderM_length]; exact h)]
  simp [orderM]
def OrderOfM (l : List Int) : List Int × Bool := if l.length ≤ 12 ∧ l.Nodup then (orderM l, true) else ([], false)
theorem OrderOfM_length (l : List Int) : (OrderOfM l).1.length ≤ 1024 := by
  unfold OrderOfM
  split
  · rw [orderM_length]; omega
  · simp

theorem count_lt (l : List Int) (a b : Int) (ha : a ∈ l) : l.countP (fun y => decide (y < a)) < l.countP (fun y => decide (y < b)) ↔ a < b := by
  have mono : ∀ x y : Int, x ≤ y → l.countP (fun z => decide (z < x)) ≤ l.countP (fun z => decide (z < y)) := fun x y h => List.countP_mono_left (fun z _ hz => by simp at *; omega)
  constructor
  · intro h
    by_cases c : a < b
    · exact c
    · have := mono b a (by omega); omega
  · intro h
    have key : ∀ l : List Int, a ∈ l → l.countP (fun y => decide (y < a)) < l.countP (fun y => decide (y < b)) := by
      intro l
      induction l with
      | nil => intro h; cases h
      | cons x l ih =>
        intro hm
        have hmono : l.countP (fun z => decide (z < a)) ≤ l.countP (fun z => decide (z < b)) := List.countP_mono_left (fun z _ hz => by simp at *; omega)
        rw [List.countP_cons, List.countP_cons]
        by_cases e : x = a
        · subst e
          simp only [Int.lt_irrefl, decide_false, Bool.false_eq_true, if_false, decide_eq_true h, if_true]
          omega
        · have := ih (by rcases List.mem_cons.mp hm with h | h; exact absurd h.symm e; exact h)
          by_cases c : x < a
          · have c2 : x < b := by omega
            simp only [decide_eq_true c, decide_eq_true c2, if_true]; omega
          · simp only [decide_eq_false c, Bool.false_eq_true, if_false]; split <;> omega
    exact key l ha
theorem orderM_rd (l : List Int) (i : Nat) (h : i < l.length) : rd (orderM l) (i : Int) = ((l.countP (fun y => decide (y < rd l (i : Int))) : Nat) : Int) := by
  rw [rd_get _ i (by rw [orderM_length]; exact h), rd_get l i h]
  simp [orderM]
theorem orderM_lt (l : List Int) (i j : Nat) (hi : i < l.length) (hj : j < l.length) : rd (orderM l) (i : Int) < rd (orderM l) (j : Int) ↔ rd l (i : Int) < rd l (j : Int) := by
  rw [orderM_rd l i hi, orderM_rd l j hj, ← count_lt l (rd l (i : Int)) (rd l (j : Int)) (by rw [rd_get l i hi]; exact List.getElem_mem hi)]
  omega
theorem orderM_perm (l : List Int) (h12 : l.length ≤ 12) (hn : l.Nodup) : permB (orderM l) = true := by
  rw [permB_iff, orderM_length]
  refine ⟨h12, ?_, fun x hx => ?_⟩
  · refine List.pairwise_iff_getElem.mpr (fun i j hi hj hij e => ?_)
    rw [orderM_length] at hi hj
    have h1 := orderM_lt l i j hi hj
    have h2 := orderM_lt l j i hj hi
    rw [rd_get (orderM l) i (by rw [orderM_length]; exact hi), rd_get (orderM l) j (by rw [orderM_length]; exact hj), rd_get l i hi, rd_get l j hj] at h1 h2
    have h3 := List.pairwise_iff_getElem.mp hn i j hi hj hij
    omega
  · simp only [orderM, List.mem_map] at hx
    obtain ⟨a, ha, rfl⟩ := hx
    have h1 := (count_lt l a (a + 1) ha).mpr (by omega)
    have h2 := List.countP_le_length (p := fun y => decide (y < a + 1)) (l := l)
    omega

def superOk (n : Int) (w : List Int) : Bool := inB n 1 5 && superWordB w
theorem superOk_nat {n : Int} {w : List Int} (h : superOk n w = true) : ∃ m : Nat, n = m ∧ 1 ≤ m ∧ m ≤ 5 ∧ w.length ≤ 200 := by
  simp only [superOk, superWordB, Bool.and_eq_true, inB_iff, decide_eq_true_eq] at h
  exact ⟨n.toNat, by omega, by omega, by omega, by omega⟩
def RanksInM (n : Int) (w : List Int) : List Int × Bool := if superOk n w = true then (comingsM n.toNat w, true) else ([], false)
theorem RanksInM_length (n : Int) (w : List Int) : (RanksInM n w).1.length ≤ 1024 := by
  unfold RanksInM
  split
  · rename_i h
    obtain ⟨m, rfl, _, _, h4⟩ := superOk_nat h
    have := comingsM_length m w
    simp; omega
  · simp
def IsSuperM (n : Int) (w : List Int) : Bool × Bool := if superOk n w = true then (((comingsM n.toNat w).length : Int) == ((fact n.toNat : Nat) : Int), true) else (false, false)
def WastedInM (n : Int) (w : List Int) : Int × Bool := if superOk n w = true then (((w.length + 1 - n.toNat - (comingsM n.toNat w).length : Nat) : Int), true) else (0, false)

def ordR (w : List Int) (n i : Nat) : Nat := rankM (orderM (win w i n))
theorem ordR_lt (w : List Int) (n i : Nat) : ordR w n i + 1 ≤ fact n := by
  have h := rankM_lt (orderM (win w i n))
  rw [orderM_length, win_length] at h
  exact h
/-- What the program's walk answers, from round i on with so many ranks met. -/
def ocI (n : Nat) (w : List Int) : Nat → Nat → List Int → Bool
  | 0, _, met => decide (w.length = fact n) && decide (met.length = w.length)
  | d + 1, i, met => if (win w i n).Nodup then ocI n w d (i + 1) (if met.contains ((ordR w n i : Nat) : Int) = true then met else met ++ [((ordR w n i : Nat) : Int)]) else false
/-- What the reference's walk answers. -/
def ocS (n : Nat) (w : List Int) : Nat → Nat → List Int → Bool
  | 0, _, _ => true
  | d + 1, i, met => if (win w i n).Nodup then (if met.contains ((ordR w n i : Nat) : Int) = true then false else ocS n w d (i + 1) (met ++ [((ordR w n i : Nat) : Int)])) else false
theorem ocI_short (n : Nat) (w : List Int) : ∀ d i met, i + d = w.length → met.length < i → ocI n w d i met = false := by
  intro d
  induction d with
  | zero =>
    intro i met h1 h2
    unfold ocI
    rw [decide_eq_false (show ¬ met.length = w.length by omega)]; simp
  | succ d ih =>
    intro i met h1 h2
    unfold ocI
    split
    · refine ih (i + 1) _ (by omega) ?_
      split
      · omega
      · simp; omega
    · rfl
theorem ocI_eq (n : Nat) (w : List Int) (hw : w.length = fact n) : ∀ d i met, i + d = w.length → met.length = i → ocI n w d i met = ocS n w d i met := by
  intro d
  induction d with
  | zero =>
    intro i met h1 h2
    unfold ocI ocS
    rw [decide_eq_true hw, decide_eq_true (show met.length = w.length by omega)]; rfl
  | succ d ih =>
    intro i met h1 h2
    unfold ocI ocS
    split
    · by_cases c : met.contains ((ordR w n i : Nat) : Int) = true
      · rw [if_pos c, if_pos c]
        exact ocI_short n w d (i + 1) met (by omega) (by omega)
      · rw [if_neg c, if_neg c]
        exact ih (i + 1) _ (by omega) (by simp; omega)
    · rfl
theorem ocI_len (n : Nat) (w : List Int) (hw : ¬ w.length = fact n) : ∀ d i met, ocI n w d i met = false := by
  intro d
  induction d with
  | zero =>
    intro i met
    unfold ocI
    rw [decide_eq_false hw]; rfl
  | succ d ih =>
    intro i met
    unfold ocI
    split
    · exact ih _ _
    · rfl
def ordB (n : Nat) (w : List Int) : Bool := ocI n w w.length 0 []

theorem mx_self_le (a b c : Int) : mx a b ≥ c ↔ (c ≤ a ∨ c ≤ b) := by unfold mx; split <;> omega
def pairAt (w : List Int) (i : Nat) : Int := w.getD ((i + 1) % w.length) 0
def pairKey (w : List Int) (i : Nat) : Int × Int := (mn (rd w (i : Int)) (pairAt w i), mx (rd w (i : Int)) (pairAt w i))
def halfM (n : Int) : Int := Int.tdiv (n * (n - 1)) 2
def pcI (n : Int) (w : List Int) : Nat → Nat → List (Int × Int) → Bool
  | 0, _, met => (met.length : Int) == halfM n
  | d + 1, i, met => if rd w (i : Int) = pairAt w i then false else (if mx (rd w (i : Int)) (pairAt w i) ≥ n then false else (if met.contains (pairKey w i) = true then false else pcI n w d (i + 1) (met ++ [pairKey w i])))
def pairB (n : Int) (w : List Int) : Bool := pcI n w w.length 0 []
theorem pcI_len (n : Int) (w : List Int) : ∀ d i met, pcI n w d i met = true → ((met.length + d : Nat) : Int) = halfM n := by
  intro d
  induction d with
  | zero => intro i met h; simpa [pcI] using h
  | succ d ih =>
    intro i met h
    unfold pcI at h
    split at h
    · cases h
    · split at h
      · cases h
      · split at h
        · cases h
        · have := ih _ _ h
          rw [List.length_append] at this
          simp at this ⊢
          omega
theorem pcI_all (n : Int) (w : List Int) : ∀ d i met, pcI n w d i met = true → ∀ j : Nat, i ≤ j → j < i + d → rd w (j : Int) ≤ n - 1 := by
  intro d
  induction d with
  | zero => intro i met _ j _ _; omega
  | succ d ih =>
    intro i met h j h1 h2
    unfold pcI at h
    split at h
    · cases h
    · split at h
      · cases h
      · rename_i hx
        rw [mx_self_le] at hx
        split at h
        · cases h
        · by_cases e : j = i
          · subst e; omega
          · exact ih _ _ h j (by omega) (by omega)
theorem halfM_small {n : Int} (h : 2 ≤ n ∧ n ≤ 11) : wrap64 (Int.tdiv (wrap64 (n * wrap64 (n - 1))) 2) = halfM n ∧ 1 ≤ halfM n ∧ halfM n ≤ 55 := by
  obtain ⟨m, rfl⟩ : ∃ m : Nat, n = (m : Int) := ⟨n.toNat, by omega⟩
  have : ∀ m : Nat, m < 12 → 2 ≤ m → wrap64 (Int.tdiv (wrap64 ((m : Int) * wrap64 ((m : Int) - 1))) 2) = halfM (m : Int) ∧ 1 ≤ halfM (m : Int) ∧ halfM (m : Int) ≤ 55 := by decide +kernel
  exact this m (by omega) (by omega)
theorem pairAt_mem {w : List Int} (i : Nat) (hw : 0 < w.length) : pairAt w i ∈ w := by
  unfold pairAt
  rw [List.getD_eq_getElem?_getD, List.getElem?_eq_getElem (Nat.mod_lt _ hw)]
  exact List.getElem_mem _

def IsPairCycleM (n : Int) (w : List Int) : Bool × Bool := if inB n 2 11 && superWordB w = true then (pairB n w, true) else (false, false)
theorem superWordB_iff {w : List Int} : superWordB w = true ↔ w.length ≤ 200 ∧ ∀ x ∈ w, 0 ≤ x ∧ x ≤ 11 := by
  simp only [superWordB, Bool.and_eq_true, decide_eq_true_eq, allB_iff]
  exact and_congr (by omega) Iff.rfl

def IsOrderCycleM (n : Int) (w : List Int) : Bool × Bool := if inB n 2 4 && superWordB w = true then (ordB n.toNat w, true) else (false, false)

theorem impl_within_eq (a lo hi : Int) : impl_within.f a lo hi = some (inB a lo hi) := by
  unfold impl_within.f inB
  by_cases h : a ≥ lo
  · rw [if_pos h]; simp [h]
  · rw [if_neg h]; simp [show ¬ lo ≤ a from h]

theorem spec_l1In_eq (a lo hi : Int) : spec_l1In.f a lo hi = some (inB a lo hi) := by
  unfold spec_l1In.f inB
  by_cases h : a ≥ lo
  · rw [if_pos h]; simp [h]
  · rw [if_neg h]; simp [show ¬ lo ≤ a from h]

theorem impl_window_loop (w : List Int) (n p : Nat) (hw : 0 < w.length) (hwl : w.length ≤ 1000000000000) (hn : n ≤ 1000000000000) (hp : p ≤ 1000000000000) : ∀ (d i : Nat) (acc : List Int), i + d = n → acc.length = i →
    Ev (fun k => impl_window.l0 k w (p : Int) acc (n : Int) (i : Int)) (acc ++ (List.range' i d).map fun j => w.getD ((p + j) % w.length) 0) := by
  intro d
  induction d with
  | zero =>
    intro i acc h ha
    refine Ev.step (f := fun _ => some acc) (fun k => ?_) (ev_some (by simp))
    simp only [impl_window.l0]; rw [if_neg (by omega)]
  | succ d ih =>
    intro i acc h ha
    refine Ev.step (f := fun k => impl_window.l0 k w (p : Int) (acc ++ [w.getD ((p + i) % w.length) 0]) (n : Int) ((i + 1 : Nat) : Int)) (fun k => ?_) (ev_to (ih (i + 1) _ (by omega) (by simp [ha])) ?_)
    · simp only [impl_window.l0]
      rw [if_pos (by omega), if_neg (by omega), wrap_id (x := (p : Int) + (i : Int)) (by omega), show (p : Int) + (i : Int) = ((p + i : Nat) : Int) by omega, tmod_nat, wrap_succ (by omega)]
      have hm := Nat.mod_lt (p + i) hw
      rw [if_pos (by omega), if_pos (by omega), if_pos (by omega), rd_nat]
    · simp [List.range'_succ]
theorem impl_window_ev (w : List Int) (n p : Nat) (hw : 0 < w.length) (hwl : w.length ≤ 1000000000000) (hn : n ≤ 1000000000000) (hp : p ≤ 1000000000000) : Ev (fun k => impl_window.f k w (n : Int) (p : Int)) (win w p n) :=
  ev_to (impl_window_loop w n p hw hwl hn hp n 0 [] (by omega) rfl) (by simp [win])

theorem impl_increasing_loop (l : List Int) (hl : l.length ≤ 1000000000000) : ∀ (d j : Nat), j + 1 + d = l.length → Ev (fun k => impl_increasing.l0 k l ((j + 1 : Nat) : Int)) (chainB (l.drop j)) := by
  intro d
  induction d with
  | zero =>
    intro j h
    rw [drop_rd l j (by omega), List.drop_eq_nil_of_le (by omega)]
    exact Ev.step (fun k => by simp only [impl_increasing.l0]; rfl) (ev_neg (by omega) (ev_some (by simp [chainB])))
  | succ d ih =>
    intro j h
    rw [drop_rd l j (by omega), drop_rd l (j + 1) (by omega)]
    refine Ev.step (fun k => by simp only [impl_increasing.l0]; rfl) ?_
    rw [wrap_pred (by omega), wrap_succ (by omega)]
    refine ev_pos (by omega) (ev_pos (by omega) (ev_pos (by omega) (ev_pos (by omega) ?_)))
    refine ev_if (fun e => ev_some ?_) (fun e => ev_to (ih (j + 1) (by omega)) ?_)
    · simp only [chainB]; rw [decide_eq_false (by omega)]; rfl
    · rw [drop_rd l (j + 1) (by omega)]; simp only [chainB]; rw [decide_eq_true (by omega)]; rfl
theorem impl_increasing_ev (l : List Int) (hl : l.length ≤ 1000000000000) : Ev (fun k => impl_increasing.f k l) (chainB l) := by
  unfold impl_increasing.f
  by_cases h : l.length = 0
  · obtain rfl := List.eq_nil_of_length_eq_zero h
    exact Ev.step (fun k => by simp only [impl_increasing.l0]; rfl) (ev_neg (by simp) (Ev.now _))
  · exact impl_increasing_loop l hl (l.length - 1) 0 (by omega)

theorem impl_different_ev (l : List Int) (hl : l.length ≤ 1000000000000) : Ev (fun k => impl_different.f k l) (decide l.Nodup) := by
  unfold impl_different.f
  refine ev_pos (by omega) ?_
  rw [← chain_srt]
  exact impl_increasing_ev (srt l) (by rw [srt_length]; exact hl)

theorem impl_orderOf_in (l acc : List Int) (i : Nat) (r : List Int) (hl : l.length ≤ 1024) (ha : acc.length ≤ 1024) (hi : i < l.length)
    (k : Ev (fun k => impl_orderOf.l0 k l (acc ++ [((l.countP (fun y => decide (y < rd l (i : Int))) : Nat) : Int)]) l (l.length : Int) ((i + 1 : Nat) : Int)) r) :
    Ev (fun k => impl_orderOf.l1 k l acc (rd l (i : Int)) 0 l (l.length : Int) (i : Int) l (l.length : Int) 0) r := by
  refine ev_iter (fun (c : Nat) j k => impl_orderOf.l1 k l acc (rd l (i : Int)) (c : Int) l (l.length : Int) (i : Int) l (l.length : Int) (j : Int)) (fun c j => if l.getD j 0 < rd l (i : Int) then c + 1 else c) (fun j c => c ≤ j) l.length ?_ l.length 0 0 (by omega) (by omega) ?_
  · intro c j hj hI
    refine ⟨by split <;> omega, fun r k => ?_⟩
    refine Ev.step (fun k => by simp only [impl_orderOf.l1]; rfl) ?_
    rw [wrap_succ (i := j) (by omega), rd_nat l j]
    refine ev_pos (by omega) (ev_pos (by omega) (ev_pos (by omega) ?_))
    refine ev_if (fun e => ?_) (fun e => ?_)
    · rw [wrap_succ (i := c) (by omega)]
      rw [if_pos e] at k; exact k
    · rw [if_neg e] at k; exact k
  · intro _
    refine Ev.step (fun k => by simp only [impl_orderOf.l1]; rfl) (ev_neg (by omega) (ev_pos (by omega) ?_))
    rw [count_index, wrap_succ (i := i) (by omega)]
    exact k
theorem impl_orderOf_ev (l : List Int) (hl : l.length ≤ 1024) : Ev (fun k => impl_orderOf.f k l) (orderM l) := by
  unfold impl_orderOf.f
  refine ev_iter (fun (acc : List Int) i k => impl_orderOf.l0 k l acc l (l.length : Int) (i : Int)) (fun acc i => acc ++ [((l.countP (fun y => decide (y < rd l (i : Int))) : Nat) : Int)]) (fun i acc => acc = (orderM l).take i) l.length ?_ l.length 0 [] (by omega) (by simp) ?_
  · intro acc i hi hI
    refine ⟨by rw [hI, orderM_take l i hi], fun r k => ?_⟩
    refine Ev.step (fun k => by simp only [impl_orderOf.l0]; rfl) (ev_pos (by omega) (ev_pos (by omega) (ev_pos (by omega) ?_)))
    exact impl_orderOf_in l acc i r hl (by rw [hI]; simp; omega) hi k
  · intro h
    exact Ev.step (fun k => by simp only [impl_orderOf.l0]; rfl) (ev_neg (by omega) (ev_some (by rw [h, List.take_of_length_le (by rw [orderM_length]; omega)])))

theorem impl_factorial_ev (n : Nat) (hn : n ≤ 12) : Ev (fun k => impl_factorial.f k (n : Int)) ((fact n : Nat) : Int) := by
  have h13 : n = 0 ∨ n = 1 ∨ n = 2 ∨ n = 3 ∨ n = 4 ∨ n = 5 ∨ n = 6 ∨ n = 7 ∨ n = 8 ∨ n = 9 ∨ n = 10 ∨ n = 11 ∨ n = 12 := by omega
  rcases h13 with rfl | rfl | rfl | rfl | rfl | rfl | rfl | rfl | rfl | rfl | rfl | rfl | rfl <;> exact Ev.of (fun k => impl_factorial.mono _ k) (k := 20) (by kernel_rfl)

theorem impl_permutationRank_in (l : List Int) (acc i : Nat) (r : Int) (hl : l.length ≤ 12) (hi : i < l.length)
    (k : Ev (fun k => (impl_factorial.f k (wrap64 ((wrap64 ((l.length : Int) - (i : Int))) - 1))).bind fun t => impl_permutationRank.l0 k l (wrap64 ((acc : Int) + wrap64 (((((l.drop (i + 1)).countP (fun y => decide (y < rd l (i : Int)))) : Nat) : Int) * t))) l (l.length : Int) (wrap64 ((i : Int) + 1))) r) :
    Ev (fun k => impl_permutationRank.l1 k l (acc : Int) (i : Int) (rd l (i : Int)) 0 l (l.length : Int) (i : Int) (l.drop (i + 1)) ((l.drop (i + 1)).length : Int) 0) r := by
  refine ev_iter (fun (c : Nat) j k => impl_permutationRank.l1 k l (acc : Int) (i : Int) (rd l (i : Int)) (c : Int) l (l.length : Int) (i : Int) (l.drop (i + 1)) ((l.drop (i + 1)).length : Int) (j : Int)) (fun c j => if (l.drop (i + 1)).getD j 0 < rd l (i : Int) then c + 1 else c) (fun j c => c ≤ j) (l.drop (i + 1)).length ?_ (l.drop (i + 1)).length 0 0 (by omega) (by omega) ?_
  · intro c j hj hI
    have hj2 : j < 12 := by simp at hj; omega
    refine ⟨by split <;> omega, fun r k => ?_⟩
    refine Ev.step (fun k => by simp only [impl_permutationRank.l1]; rfl) ?_
    rw [wrap_succ (i := j) (by omega), rd_nat (l.drop (i + 1)) j]
    refine ev_pos (by omega) (ev_pos (by omega) (ev_pos (by omega) ?_))
    refine ev_if (fun e => ?_) (fun e => ?_)
    · rw [wrap_succ (i := c) (by omega)]
      rw [if_pos e] at k; exact k
    · rw [if_neg e] at k; exact k
  · intro _
    refine Ev.step (fun k => by simp only [impl_permutationRank.l1]; rfl) (ev_neg (by omega) ?_)
    rw [count_index]
    exact k
theorem impl_permutationRank_loop (l : List Int) (hl : l.length ≤ 12) : ∀ (d i acc : Nat), i + d = l.length → acc + rankM (l.drop i) ≤ 1000000000 →
    Ev (fun k => impl_permutationRank.l0 k l (acc : Int) l (l.length : Int) (i : Int)) ((acc + rankM (l.drop i) : Nat) : Int) := by
  intro d
  induction d with
  | zero =>
    intro i acc h hb
    rw [List.drop_eq_nil_of_le (by omega)]
    exact Ev.step (fun k => by simp only [impl_permutationRank.l0]; rfl) (ev_neg (by omega) (ev_some (by simp [rankM])))
  | succ d ih =>
    intro i acc h hb
    have hd := drop_rd l i (by omega)
    rw [hd] at hb ⊢
    simp only [rankM, List.length_drop] at hb ⊢
    refine Ev.step (fun k => by simp only [impl_permutationRank.l0]; rfl) ?_
    rw [wrap_succ (i := i) (by omega)]
    refine ev_pos (by omega) (ev_pos (by omega) (ev_pos (by omega) (ev_pos (by omega) (ev_pos (by omega) ?_))))
    rw [Int.toNat_natCast]
    refine impl_permutationRank_in l acc i _ hl (by omega) ?_
    rw [wrap_id (x := (l.length : Int) - (i : Int)) (by omega), wrap_id (x := (l.length : Int) - (i : Int) - 1) (by omega), show (l.length : Int) - (i : Int) - 1 = ((l.length - (i + 1) : Nat) : Int) by omega, wrap_succ (i := i) (by omega)]
    refine ev_call (impl_factorial_ev _ (by omega)) ?_
    rw [show ∀ a b : Nat, (a : Int) * (b : Int) = ((a * b : Nat) : Int) from fun a b => by simp, wrap_id (x := (((l.drop (i + 1)).countP (fun y => decide (y < rd l (i : Int))) * fact (l.length - (i + 1)) : Nat) : Int)) (by omega), show ∀ a b : Nat, (a : Int) + (b : Int) = ((a + b : Nat) : Int) from fun a b => by simp, wrap_id (by omega)]
    exact ev_to (ih (i + 1) _ (by omega) (by omega)) (by rw [Nat.add_assoc])
theorem impl_permutationRank_ev (l : List Int) (hl : l.length ≤ 12) : Ev (fun k => impl_permutationRank.f k l) ((rankM l : Nat) : Int) := by
  have h1 := rankM_lt l
  have h2 := fact_12 hl
  exact ev_to (impl_permutationRank_loop l hl l.length 0 0 (by omega) (by simp; omega)) (by simp)

theorem impl_isOrderCycle_loop (n : Nat) (hn : n ≤ 12) (w : List Int) (hw : w.length ≤ 1048576) : ∀ d i met, i + d = w.length →
    Ev (fun k => impl_isOrderCycle.l0 k (n : Int) w met (i : Int)) (ocI n w d i met) := by
  intro d
  induction d with
  | zero =>
    intro i met h1
    refine Ev.step (fun k => by simp only [impl_isOrderCycle.l0]; rfl) (ev_neg (by omega) (ev_call (impl_factorial_ev n hn) ?_))
    unfold ocI
    refine ev_if (fun h => ev_some ?_) (fun h => ev_some ?_)
    · rw [decide_eq_true (show w.length = fact n by omega), Bool.true_and, Bool.eq_iff_iff, beq_iff_eq, decide_eq_true_eq]; omega
    · rw [decide_eq_false (show ¬ w.length = fact n by omega)]; rfl
  | succ d ih =>
    intro i met h1
    have hlt := ordR_lt w n i
    have hf : fact n ≤ 479001600 := by
      have : ∀ m, m ≤ 12 → fact m ≤ 479001600 := by decide +kernel
      exact this n hn
    refine Ev.step (fun k => by simp only [impl_isOrderCycle.l0]; rfl) ?_
    refine ev_pos (by omega) (ev_pos (by omega) (ev_call (impl_window_ev w n i (by omega) (by omega) (by omega) (by omega)) (ev_call (impl_different_ev _ (by rw [win_length]; omega)) ?_)))
    unfold ocI
    by_cases c : (win w i n).Nodup
    · rw [if_pos c]
      refine ev_pos (by simpa using c) (ev_call (impl_orderOf_ev _ (by rw [win_length]; omega)) (ev_call (impl_permutationRank_ev _ (by rw [orderM_length, win_length]; omega)) ?_))
      refine ev_pos ?_ ?_
      · have : rankM (orderM (win w i n)) = ordR w n i := rfl
        rw [this]
        simp only [Lit.wf, IntKind.min, IntKind.max, IntKind.signed, IntKind.bits, Bool.and_eq_true, decide_eq_true_eq, if_true]
        omega
      · rw [wrap_succ (by omega)]
        exact ih (i + 1) _ (by omega)
    · rw [if_neg c]
      exact ev_neg (by simpa using c) (ev_some rfl)
theorem impl_isOrderCycle_ev (n : Nat) (hn : n ≤ 12) (w : List Int) (hw : w.length ≤ 1048576) : Ev (fun k => impl_isOrderCycle.f k (n : Int) w) (ordB n w) :=
  impl_isOrderCycle_loop n hn w hw w.length 0 [] (by omega)

theorem spec_suRound_loop (w : List Int) (n p : Nat) (hw : 0 < w.length) (hwl : w.length ≤ 1000000000000) (hn : n ≤ 1000000000000) (hp : p ≤ 1000000000000) : ∀ (d i : Nat) (acc : List Int), i + d = n → acc.length = i →
    Ev (fun k => spec_suRound.l0 k w (p : Int) (n : Int) acc (i : Int)) (acc ++ (List.range' i d).map fun j => w.getD ((p + j) % w.length) 0) := by
  intro d
  induction d with
  | zero =>
    intro i acc h ha
    refine Ev.step (f := fun _ => some acc) (fun k => ?_) (ev_some (by simp))
    simp only [spec_suRound.l0]; rw [if_neg (by omega)]
  | succ d ih =>
    intro i acc h ha
    refine Ev.step (f := fun k => spec_suRound.l0 k w (p : Int) (n : Int) (acc ++ [w.getD ((p + i) % w.length) 0]) ((i + 1 : Nat) : Int)) (fun k => ?_) (ev_to (ih (i + 1) _ (by omega) (by simp [ha])) ?_)
    · simp only [spec_suRound.l0]
      rw [if_pos (by omega), if_neg (by omega), wrap_id (x := (p : Int) + (i : Int)) (by omega), show (p : Int) + (i : Int) = ((p + i : Nat) : Int) by omega, tmod_nat, wrap_succ (by omega)]
      have hm := Nat.mod_lt (p + i) hw
      rw [if_pos (by omega), if_pos (by omega), if_pos (by omega), rd_nat]
    · simp [List.range'_succ]
theorem spec_suRound_ev (w : List Int) (n p : Nat) (hw : 0 < w.length) (hwl : w.length ≤ 1000000000000) (hn : n ≤ 1000000000000) (hp : p ≤ 1000000000000) : Ev (fun k => spec_suRound.f k w (p : Int) (n : Int)) (win w p n) :=
  ev_to (spec_suRound_loop w n p hw hwl hn hp n 0 [] (by omega) rfl) (by simp [win])

theorem spec_l1Has_loop (l : List Int) (x : Int) (hl : l.length ≤ 1000000000000) : ∀ (d i : Nat), i + d = l.length → Ev (fun k => spec_l1Has.l0 k x l (l.length : Int) (i : Int)) (decide (x ∈ l.drop i)) := by
  intro d
  induction d with
  | zero =>
    intro i h
    rw [List.drop_eq_nil_of_le (by omega)]
    exact Ev.step (fun k => by simp only [spec_l1Has.l0]; rfl) (ev_neg (by omega) (ev_some (by simp)))
  | succ d ih =>
    intro i h
    rw [drop_rd l i (by omega)]
    refine Ev.step (fun k => by simp only [spec_l1Has.l0]; rfl) ?_
    rw [wrap_succ (by omega)]
    refine ev_pos (by omega) (ev_pos (by omega) (ev_pos (by omega) ?_))
    exact ev_if (fun e => ev_some (by simp [e])) (fun e => ev_to (ih (i + 1) (by omega)) (by rw [decide_eq_decide, List.mem_cons]; exact ⟨.inr, fun h => h.resolve_left (fun h => e h.symm)⟩))
theorem spec_l1Has_ev (l : List Int) (x : Int) (hl : l.length ≤ 1000000000000) : Ev (fun k => spec_l1Has.f k l x) (decide (x ∈ l)) :=
  spec_l1Has_loop l x hl l.length 0 (by omega)

theorem spec_suOrder_in (l acc : List Int) (i : Nat) (r : List Int × Bool) (hl : l.length ≤ 1024) (ha : acc.length ≤ 1024) (hi : i < l.length)
    (k : Ev (fun k => spec_suOrder.l0 k l (acc ++ [((l.countP (fun y => decide (y < rd l (i : Int))) : Nat) : Int)]) l (l.length : Int) ((i + 1 : Nat) : Int)) r) :
    Ev (fun k => spec_suOrder.l1 k l acc (rd l (i : Int)) 0 l (l.length : Int) (i : Int) l (l.length : Int) 0) r := by
  refine ev_iter (fun (c : Nat) j k => spec_suOrder.l1 k l acc (rd l (i : Int)) (c : Int) l (l.length : Int) (i : Int) l (l.length : Int) (j : Int)) (fun c j => if l.getD j 0 < rd l (i : Int) then c + 1 else c) (fun j c => c ≤ j) l.length ?_ l.length 0 0 (by omega) (by omega) ?_
  · intro c j hj hI
    refine ⟨by split <;> omega, fun r k => ?_⟩
    refine Ev.step (fun k => by simp only [spec_suOrder.l1]; rfl) ?_
    rw [wrap_succ (i := j) (by omega), rd_nat l j]
    refine ev_pos (by omega) (ev_pos (by omega) (ev_pos (by omega) ?_))
    refine ev_if (fun e => ?_) (fun e => ?_)
    · rw [wrap_succ (i := c) (by omega)]
      rw [if_pos e] at k; exact k
    · rw [if_neg e] at k; exact k
  · intro _
    refine Ev.step (fun k => by simp only [spec_suOrder.l1]; rfl) (ev_neg (by omega) (ev_pos (by omega) ?_))
    rw [count_index, wrap_succ (i := i) (by omega)]
    exact k
theorem spec_suOrder_loop (l : List Int) (hl : l.length ≤ 1024) : ∀ (d i : Nat), i + d = l.length → (l.take i).Nodup →
    Ev (fun k => spec_suOrder.l0 k l ((orderM l).take i) l (l.length : Int) (i : Int)) (if l.Nodup then (orderM l, true) else ([], false)) := by
  intro d
  induction d with
  | zero =>
    intro i h1 h2
    rw [List.take_of_length_le (by omega)] at h2
    rw [if_pos h2]
    exact Ev.step (fun k => by simp only [spec_suOrder.l0]; rfl) (ev_neg (by omega) (ev_some (by rw [List.take_of_length_le (by rw [orderM_length]; omega)])))
  | succ d ih =>
    intro i h1 h2
    have ht := take_rd l i (by omega)
    have hsplit : l = l.take i ++ rd l (i : Int) :: l.drop (i + 1) := by rw [← drop_rd l i (by omega), List.take_append_drop]
    refine Ev.step (fun k => by simp only [spec_suOrder.l0]; rfl) ?_
    rw [Int.toNat_natCast]
    refine ev_pos (by omega) (ev_pos (by omega) (ev_pos (by omega) (ev_pos (by omega) (ev_call (spec_l1Has_ev (l.take i) (rd l (i : Int)) (by simp; omega)) (ev_if (fun h6 => ev_some ?_) (fun h6 => ?_))))))
    · rw [if_neg]
      intro hn
      rw [hsplit, List.nodup_append] at hn
      exact hn.2.2 _ (by simpa using h6) (rd l (i : Int)) (by simp) rfl
    · have hni : rd l (i : Int) ∉ l.take i := by simpa using h6
      refine spec_suOrder_in l _ i _ hl (by simp; omega) (by omega) ?_
      rw [← orderM_take l i (by omega)]
      refine ih (i + 1) (by omega) ?_
      rw [ht, List.nodup_append]
      refine ⟨h2, by simp, fun a ha b hb => ?_⟩
      simp only [List.mem_singleton] at hb
      rw [hb]
      intro hab
      exact hni (hab ▸ ha)
theorem spec_suOrder_ev (l : List Int) (hl : l.length ≤ 1024) : Ev (fun k => spec_suOrder.f k l) (if l.Nodup then (orderM l, true) else ([], false)) := by
  unfold spec_suOrder.f
  exact spec_suOrder_loop l hl l.length 0 (by omega) (by simp)

theorem spec_raFactorial_ev (n : Nat) (hn : n ≤ 12) : Ev (fun k => spec_raFactorial.f k (n : Int)) ((fact n : Nat) : Int) := by
  have h13 : n = 0 ∨ n = 1 ∨ n = 2 ∨ n = 3 ∨ n = 4 ∨ n = 5 ∨ n = 6 ∨ n = 7 ∨ n = 8 ∨ n = 9 ∨ n = 10 ∨ n = 11 ∨ n = 12 := by omega
  rcases h13 with rfl | rfl | rfl | rfl | rfl | rfl | rfl | rfl | rfl | rfl | rfl | rfl | rfl <;> exact Ev.of (fun k => spec_raFactorial.mono _ k) (k := 20) (by kernel_rfl)

theorem spec_raRank_in (l : List Int) (r : Int) (hl : l.length ≤ 12) (h0 : 0 < l.length)
    (k : Ev (fun k => (spec_raFactorial.f k (wrap64 ((l.length : Int) - 1))).bind fun t => (if 1 ≤ (l.length : Int) then ((spec_raRank.f k (l.drop 1)).bind fun u => some (wrap64 ((wrap64 (((l.countP (fun y => decide (y < rd l 0)) : Nat) : Int) * t)) + u))) else none)) r) :
    Ev (fun k => spec_raRank.l0 k l 0 l (l.length : Int) 0) r := by
  refine ev_iter (fun (c : Nat) j k => spec_raRank.l0 k l (c : Int) l (l.length : Int) (j : Int)) (fun c j => if l.getD j 0 < rd l 0 then c + 1 else c) (fun j c => c ≤ j) l.length ?_ l.length 0 0 (by omega) (by omega) ?_
  · intro c j hj hI
    refine ⟨by split <;> omega, fun r k => ?_⟩
    refine Ev.step (fun k => by simp only [spec_raRank.l0]; rfl) ?_
    rw [wrap_succ (i := j) (by omega), rd_nat l j]
    refine ev_pos (by omega) (ev_pos (by omega) (ev_pos (by omega) (ev_pos (by omega) ?_)))
    refine ev_if (fun e => ?_) (fun e => ?_)
    · rw [wrap_succ (i := c) (by omega)]
      rw [if_pos e] at k; exact k
    · rw [if_neg e] at k; exact k
  · intro _
    refine Ev.step (fun k => by simp only [spec_raRank.l0]; rfl) (ev_neg (by omega) ?_)
    rw [count_index]
    exact k
theorem spec_raRank_ev : ∀ (n : Nat) (l : List Int), l.length = n → n ≤ 12 → Ev (fun k => spec_raRank.f k l) ((rankM l : Nat) : Int) := by
  intro n
  induction n with
  | zero =>
    intro l h _
    obtain rfl := List.eq_nil_of_length_eq_zero h
    refine Ev.step (fun k => by simp only [spec_raRank.f]; rfl) ?_
    exact ev_pos (by simp) (Ev.now _)
  | succ n ih =>
    intro l h hn
    cases l with
    | nil => simp at h
    | cons x t =>
    have hlt := rankM_lt (x :: t)
    have hf := fact_12 (n := (x :: t).length) (by omega)
    have ht : t.length = n := by simpa using h
    refine Ev.step (fun k => by simp only [spec_raRank.f]; rfl) ?_
    refine ev_neg (by simp; omega) (spec_raRank_in (x :: t) _ (by omega) (by simp) ?_)
    have hx : rd (x :: t) 0 = x := by simp [rd]
    have hc : (x :: t).countP (fun y => decide (y < rd (x :: t) 0)) = t.countP (fun y => decide (y < x)) := by rw [hx, List.countP_cons]; simp
    rw [hc, wrap_id (x := (((x :: t).length : Nat) : Int) - 1) (by omega), show (((x :: t).length : Nat) : Int) - 1 = ((t.length : Nat) : Int) by simp]
    refine ev_call (spec_raFactorial_ev _ (by omega)) (ev_pos (by simp; omega) (ev_call (ih t ht (by omega)) (ev_some ?_)))
    simp only [rankM] at hlt ⊢
    rw [show ∀ a b : Nat, (a : Int) * (b : Int) = ((a * b : Nat) : Int) from fun a b => by simp, wrap_id (x := ((t.countP (fun y => decide (y < x)) * fact t.length : Nat) : Int)) (by omega), show ∀ a b : Nat, (a : Int) + (b : Int) = ((a + b : Nat) : Int) from fun a b => by simp, wrap_id (by omega)]

theorem spec_suOrders_loop (n : Nat) (hn : n ≤ 12) (w : List Int) (hw : w.length ≤ 1048576) (hl : w.length = fact n) : ∀ d i met (seen : List Bool), i + d = w.length → seen.length = w.length →
    (∀ j : Nat, j < w.length → rdOf false seen (j : Int) = met.contains (j : Int)) → Ev (fun k => spec_suOrders.l0 k (n : Int) w seen (w.length : Int) (i : Int)) (ocS n w d i met) := by
  intro d
  induction d with
  | zero =>
    intro i met seen h1 h2 h3
    exact Ev.step (fun k => by simp only [spec_suOrders.l0]; rfl) (ev_neg (by omega) (ev_some rfl))
  | succ d ih =>
    intro i met seen h1 h2 h3
    have hlt := ordR_lt w n i
    refine Ev.step (fun k => by simp only [spec_suOrders.l0]; rfl) ?_
    refine ev_pos (by omega) (ev_call (spec_suRound_ev w n i (by omega) (by omega) (by omega) (by omega)) (ev_call (spec_suOrder_ev _ (by rw [win_length]; omega)) ?_))
    unfold ocS
    by_cases c : (win w i n).Nodup
    · rw [if_pos c, if_pos c]
      dsimp only
      refine ev_pos (by trivial) ?_
      have hr := spec_raRank_ev n (orderM (win w i n)) (by rw [orderM_length, win_length]) hn
      have he : rankM (orderM (win w i n)) = ordR w n i := rfl
      rw [he] at hr
      refine ev_call hr (ev_pos (by omega) (ev_pos (by omega) ?_))
      have h4 := h3 (ordR w n i) (by omega)
      rw [h4]
      refine ev_if (fun h5 => by rw [if_pos h5]; exact Ev.now _) (fun h5 => ?_)
      rw [if_neg h5]
      refine ev_call hr (ev_pos (by omega) (ev_pos (by omega) ?_))
      rw [wrap_succ (by omega), Int.toNat_natCast]
      refine ih (i + 1) _ _ (by omega) (by rw [List.length_set]; exact h2) (fun j hj => ?_)
      have h6 := h3 j hj
      by_cases e : j = ordR w n i
      · subst e
        simp [rdOf, List.getD_eq_getElem?_getD, List.getElem?_set_self (show ordR w n i < seen.length by omega)]
      · simp only [rdOf, Int.toNat_natCast, List.getD_eq_getElem?_getD] at h6 ⊢
        rw [List.getElem?_set_ne (fun h => e h.symm), h6]
        refine Bool.eq_iff_iff.mpr ?_
        have : ¬ (j : Int) = ((ordR w n i : Nat) : Int) := by omega
        simp [this]
    · rw [if_neg c, if_neg c]
      dsimp only
      exact ev_neg (by simp) (ev_some rfl)
theorem spec_suOrders_ev (n : Nat) (hn : n ≤ 12) (w : List Int) (hw : w.length ≤ 1048576) : Ev (fun k => spec_suOrders.f k (n : Int) w) (ordB n w) := by
  unfold spec_suOrders.f ordB
  refine ev_call (spec_raFactorial_ev n hn) (ev_if (fun h => ?_) (fun h => ev_some (ocI_len n w (by omega) _ _ _).symm))
  rw [ocI_eq n w (by omega) w.length 0 [] (by omega) rfl]
  refine ev_pos (by omega) (ev_pos (by omega) ?_)
  refine spec_suOrders_loop n hn w hw (by omega) w.length 0 [] _ (by omega) (by simp) (fun j hj => ?_)
  simp [rdOf, List.getD_eq_getElem?_getD, List.getElem?_replicate]
  split <;> rfl

theorem impl_power_ev (a n : Nat) (ha : a ≤ 6) (hn : n ≤ 12) : Ev (fun k => impl_power.f k (a : Int) (n : Int)) ((a ^ n : Nat) : Int) := by
  have hb : ∀ j, j ≤ n → a ^ j ≤ 2176782336 := fun j hj => Nat.le_trans (Nat.pow_le_pow_left ha j) (Nat.le_trans (Nat.pow_le_pow_right (by omega) (show j ≤ 12 by omega)) (by decide))
  unfold impl_power.f
  refine ev_iter (fun (o : Nat) i k => impl_power.l0 k (a : Int) (o : Int) (n : Int) (i : Int)) (fun o _ => o * a) (fun i o => o = a ^ i) n ?_ n 0 1 (by omega) rfl ?_
  · intro o i hi hI
    refine ⟨by rw [hI, Nat.pow_succ], fun r k => ?_⟩
    have h1 := hb (i + 1) (by omega)
    rw [Nat.pow_succ, ← hI] at h1
    refine Ev.step (fun k => by simp only [impl_power.l0]; rfl) ?_
    refine ev_pos (by omega) ?_
    rw [wrap_succ (by omega), show (o : Int) * (a : Int) = ((o * a : Nat) : Int) by simp, wrap_id (by omega)]
    exact k
  · intro h
    refine Ev.step (fun k => by simp only [impl_power.l0]; rfl) (ev_neg (by omega) (ev_some (by rw [h])))

/-- The word with a code: so many digits, from the last one on. -/
def putD (kk : Int) : Nat → Int → List Int → List Int
  | 0, _, w => w
  | m + 1, c, w => putD kk m (Int.tdiv c kk) (w.set m (Int.tmod c kk))
theorem putD_length (kk : Int) : ∀ m c w, (putD kk m c w).length = w.length := by
  intro m
  induction m with
  | zero => intro c w; rfl
  | succ m ih => intro c w; unfold putD; rw [ih, List.length_set]
def digW (len : Nat) (kk : Int) (c : Int) : List Int := putD kk len c (List.replicate len 0)
theorem digW_length (len : Nat) (kk c : Int) : (digW len kk c).length = len := by unfold digW; rw [putD_length, List.length_replicate]
theorem putD_range (kk : Int) (hk : 1 ≤ kk) : ∀ m c w, 0 ≤ c → (∀ x ∈ w, 0 ≤ x ∧ x < kk) → ∀ x ∈ putD kk m c w, 0 ≤ x ∧ x < kk := by
  intro m
  induction m with
  | zero => intro c w _ h; exact h
  | succ m ih =>
    intro c w hc h
    unfold putD
    refine ih _ _ (Int.tdiv_nonneg hc (by omega)) (fun x hx => ?_)
    rcases List.mem_or_eq_of_mem_set hx with hx | rfl
    · exact h x hx
    · exact ⟨Int.tmod_nonneg _ hc, Int.tmod_lt_of_pos _ (by omega)⟩
theorem digW_range (len : Nat) (kk : Int) (hk : 1 ≤ kk) (c : Int) (hc : 0 ≤ c) : ∀ x ∈ digW len kk c, 0 ≤ x ∧ x < kk := by
  unfold digW
  exact putD_range kk hk len c _ hc (fun x hx => by have := List.eq_of_mem_replicate hx; omega)
theorem tdiv_small {c kk : Int} (h0 : 0 ≤ c) (hk : 1 ≤ kk) (hc : c ≤ 1000000000000) : wrap64 (Int.tdiv c kk) = Int.tdiv c kk ∧ 0 ≤ Int.tdiv c kk ∧ Int.tdiv c kk ≤ 1000000000000 := by
  obtain ⟨a, rfl⟩ := Int.eq_ofNat_of_zero_le h0
  obtain ⟨b, rfl⟩ := Int.eq_ofNat_of_zero_le (show 0 ≤ kk by omega)
  obtain ⟨q, hq⟩ : ∃ q : Nat, a / b = q := ⟨_, rfl⟩
  have e : Int.tdiv (a : Int) (b : Int) = ((a / b : Nat) : Int) := (Int.ofNat_tdiv a b).symm
  have := Nat.div_le_self a b
  rw [hq] at e this
  rw [e]
  exact ⟨wrap_id (by omega), by omega, by omega⟩
/-- A search that must end: the first hit of those counted up to some number. -/
theorem ev_hit {ρ : Type} (L : Nat → Nat → Option ρ) (F : Nat → Option ρ) (r : ρ) : ∀ d i, (∀ j, i ≤ j → j < i + d → (∀ r, F j = some r → Ev (L j) r) ∧ (F j = none → ∀ r, Ev (L (j + 1)) r → Ev (L j) r)) →
    ((List.range' i d).findSome? F) = some r → Ev (L i) r := by
  intro d
  induction d with
  | zero => intro i _ h; simp at h
  | succ d ih =>
    intro i hs h
    rw [List.range'_succ, List.findSome?_cons] at h
    obtain ⟨h1, h2⟩ := hs i (Nat.le_refl _) (by omega)
    cases hf : F i with
    | some r' =>
      rw [hf] at h
      obtain rfl := Option.some.inj h
      exact h1 _ hf
    | none =>
      rw [hf] at h
      exact h2 hf _ (ih (i + 1) (fun j hj1 hj2 => hs j (by omega) (by omega)) h)
theorem findSome_some {ρ : Type} (F : Nat → Option ρ) (i d c : Nat) (h1 : i ≤ c) (h2 : c < i + d) (h3 : (F c).isSome = true) : ∃ r, ((List.range' i d).findSome? F) = some r ∧ ∃ j, i ≤ j ∧ j ≤ c ∧ F j = some r := by
  induction d generalizing i with
  | zero => omega
  | succ d ih =>
    rw [List.range'_succ, List.findSome?_cons]
    cases hf : F i with
    | some r => exact ⟨r, rfl, i, Nat.le_refl _, h1, hf⟩
    | none =>
      by_cases e : i = c
      · subst e; rw [hf] at h3; cases h3
      · obtain ⟨r, hr, j, j1, j2, j3⟩ := ih (i + 1) (by omega) (by omega)
        exact ⟨r, hr, j, by omega, j2, j3⟩

theorem impl_firstWord_in (kk : Int) (hk : 1 ≤ kk) : ∀ (m : Nat) (c : Int) (w : List Int), m ≤ w.length → w.length ≤ 1000000 → 0 ≤ c → c ≤ 1000000000000 → Ev (fun q => impl_firstWord.in0 q kk c w ((m : Int) - 1)) (putD kk m c w) := by
  intro m
  induction m with
  | zero =>
    intro c w h1 h2 h3 h4
    exact Ev.step (fun k => by simp only [impl_firstWord.in0]; rfl) (ev_neg (by omega) (Ev.now _))
  | succ m ih =>
    intro c w h1 h2 h3 h4
    have ht := tdiv_small h3 hk h4
    refine Ev.step (fun k => by simp only [impl_firstWord.in0]; rfl) ?_
    refine ev_pos (by omega) (ev_neg (by omega) (ev_pos (by omega) ?_))
    rw [ht.1, show (((m + 1 : Nat) : Int) - 1) = (m : Int) by omega, Int.toNat_natCast, wrap_id (x := (m : Int) - 1) (by omega)]
    exact ih _ _ (by rw [List.length_set]; omega) (by rw [List.length_set]; exact h2) ht.2.1 ht.2.2
/-- The first word by its code of which P is so, if there is one. -/
def firstW (P : List Int → Bool) (len : Nat) (kk : Int) (size : Nat) : Option (List Int × Bool) := (List.range' 0 size).findSome? fun (c : Nat) => if P (digW len kk (c : Int)) = true then some (digW len kk (c : Int), true) else none
theorem impl_firstWord_ev (p : Nat → List Int → Option Bool) (P : List Int → Bool) (len : Nat) (kk : Int) (size : Nat) (hl : len ≤ 1000000) (hk : 1 ≤ kk) (hs : size ≤ 1000000000)
    (hpow : Ev (fun q => impl_power.f q kk (len : Int)) (size : Int)) (hp : ∀ c : Nat, c < size → Ev (fun q => p q (digW len kk (c : Int))) (P (digW len kk (c : Int)))) :
    Ev (fun q => impl_firstWord.f p q (len : Int) kk) ((firstW P len kk size).getD ([], false)) := by
  unfold impl_firstWord.f firstW
  refine ev_call hpow ?_
  refine ev_find (fun c q => impl_firstWord.l0 p q (len : Int) kk (size : Int) (c : Int)) _ size ([], false) ?_ ?_ size 0 (by omega)
  · intro c hc
    have hstep : ∀ r, Ev (fun q => if P (digW len kk (c : Int)) = true then some (digW len kk (c : Int), true) else impl_firstWord.l0 p q (len : Int) kk (size : Int) ((c + 1 : Nat) : Int)) r → Ev (fun q => impl_firstWord.l0 p q (len : Int) kk (size : Int) (c : Int)) r := by
      intro r h
      refine Ev.step (fun k => by simp only [impl_firstWord.l0]; rfl) ?_
      rw [Int.toNat_natCast, wrap_id (x := (len : Int) - 1) (by omega), wrap_succ (by omega)]
      have hin := impl_firstWord_in kk hk len (c : Int) (List.replicate len 0) (by simp) (by simp; omega) (by omega) (by omega)
      exact ev_pos (by omega) (ev_pos (by omega) (ev_pos (by omega) (ev_call hin (ev_call (hp c hc) h))))
    refine ⟨fun r hr => hstep r ?_, fun hr r h => hstep r ?_⟩
    · split at hr
      · rename_i h1
        obtain rfl := Option.some.inj hr
        exact ev_pos h1 (Ev.now _)
      · cases hr
    · split at hr
      · cases hr
      · rename_i h1
        exact ev_neg h1 h
  · exact Ev.step (fun k => by simp only [impl_firstWord.l0]; rfl) (ev_neg (by omega) (Ev.now _))

theorem spec_suCount_loop (kk : Int) (hk : 1 ≤ kk) : ∀ (m : Nat) (c : Int) (w : List Int), m ≤ w.length → w.length ≤ 1000000 → 0 ≤ c → c ≤ 1000000000000 → Ev (fun q => spec_suCount.l0 q kk c w ((m : Int) - 1)) (putD kk m c w) := by
  intro m
  induction m with
  | zero =>
    intro c w h1 h2 h3 h4
    exact Ev.step (fun k => by simp only [spec_suCount.l0]; rfl) (ev_neg (by omega) (Ev.now _))
  | succ m ih =>
    intro c w h1 h2 h3 h4
    have ht := tdiv_small h3 hk h4
    refine Ev.step (fun k => by simp only [spec_suCount.l0]; rfl) ?_
    refine ev_pos (by omega) (ev_neg (by omega) (ev_pos (by omega) (ev_pos (by omega) ?_)))
    rw [ht.1, show (((m + 1 : Nat) : Int) - 1) = (m : Int) by omega, Int.toNat_natCast, wrap_id (x := (m : Int) - 1) (by omega)]
    exact ih _ _ (by rw [List.length_set]; omega) (by rw [List.length_set]; exact h2) ht.2.1 ht.2.2
theorem spec_suCount_ev (len : Nat) (kk c : Int) (hl : len ≤ 1000000) (hk : 1 ≤ kk) (h3 : 0 ≤ c) (h4 : c ≤ 1000000000000) : Ev (fun q => spec_suCount.f q (len : Int) kk c) (digW len kk c) := by
  unfold spec_suCount.f digW
  rw [Int.toNat_natCast, wrap_id (x := (len : Int) - 1) (by omega)]
  exact ev_pos (by omega) (ev_pos (by omega) (spec_suCount_loop kk hk len c _ (by simp) (by simp; omega) h3 h4))

theorem orderCycle_at (n c0 size : Nat) (hn : 2 ≤ n ∧ n ≤ 3) (hf : fact n ≤ 6) (hsz : (n + 1) ^ fact n = size) (hs : size ≤ 4096) (hc : c0 < size) (h : ordB n (digW (fact n) ((n + 1 : Nat) : Int) (c0 : Int)) = true) :
    ∃ r : List Int, r.length ≤ 1048576 ∧ Ev (fun q => impl_OrderCycle.f q (n : Int)) (r, true) ∧ Ev (fun q => spec_OrderCycle.f q (n : Int)) (r, true) ∧ r.length = fact n ∧ ordB n r = true ∧ ∀ x ∈ r, 0 ≤ x ∧ x ≤ (n : Int) := by
  have hb := inB_iff.mpr (show (2 : Int) ≤ (n : Int) ∧ (n : Int) ≤ 3 by omega)
  obtain ⟨r, hr, j, _, _, hj⟩ := findSome_some (fun c => if ordB n (digW (fact n) ((n + 1 : Nat) : Int) (c : Int)) = true then some (digW (fact n) ((n + 1 : Nat) : Int) (c : Int), true) else none) 0 size c0 (by omega) (by omega) (by show Option.isSome (if _ then _ else _) = true; rw [if_pos h]; rfl)
  split at hj
  case isFalse => cases hj
  obtain rfl := Option.some.inj hj
  refine ⟨digW (fact n) ((n + 1 : Nat) : Int) (j : Int), by rw [digW_length]; omega, ?_, ?_, digW_length _ _ _, (by assumption), fun x hx => by have := digW_range (fact n) ((n + 1 : Nat) : Int) (by omega) (j : Int) (by omega) x hx; omega⟩
  · unfold impl_OrderCycle.f
    refine ev_plain (impl_within_eq _ _ _) (ev_pos hb (ev_call (impl_factorial_ev n (by omega)) ?_))
    rw [wrap_succ (by omega)]
    have := impl_firstWord_ev (fun q l => impl_isOrderCycle.f q (n : Int) l) (ordB n) (fact n) ((n + 1 : Nat) : Int) size (by omega) (by omega) (by omega) (by rw [← hsz]; exact impl_power_ev (n + 1) (fact n) (by omega) (by omega))
      (fun c _ => impl_isOrderCycle_ev n (by omega) _ (by rw [digW_length]; omega))
    unfold firstW at this
    rw [hr] at this
    exact this
  · unfold spec_OrderCycle.f
    refine ev_plain (spec_l1In_eq _ _ _) (ev_pos hb ?_)
    refine ev_hit (fun c q => spec_OrderCycle.l0 q (n : Int) (c : Int)) _ _ size 0 (fun c _ hc => ?_) hr
    have hstep : ∀ r, Ev (fun q => if ordB n (digW (fact n) ((n + 1 : Nat) : Int) (c : Int)) = true then some (digW (fact n) ((n + 1 : Nat) : Int) (c : Int), true) else spec_OrderCycle.l0 q (n : Int) ((c + 1 : Nat) : Int)) r → Ev (fun q => spec_OrderCycle.l0 q (n : Int) (c : Int)) r := by
      intro r h
      refine Ev.step (fun k => by simp only [spec_OrderCycle.l0]; rfl) (ev_call (spec_raFactorial_ev n (by omega)) ?_)
      rw [wrap_succ (by omega), wrap_succ (by omega)]
      exact ev_call (spec_suCount_ev (fact n) ((n + 1 : Nat) : Int) (c : Int) (by omega) (by omega) (by omega) (by omega)) (ev_call (spec_suOrders_ev n (by omega) _ (by rw [digW_length]; omega)) h)
    refine ⟨fun r hr => hstep r ?_, fun hr r h => hstep r ?_⟩
    · split at hr
      · rename_i h1
        obtain rfl := Option.some.inj hr
        exact ev_pos h1 (Ev.now _)
      · cases hr
    · split at hr
      · cases hr
      · rename_i h1
        exact ev_neg h1 h
theorem orderCycle_is (n : Int) (h : inB n 2 3 = true) : ∃ r : List Int, r.length ≤ 100 ∧ Ev (fun q => impl_OrderCycle.f q n) (r, true) ∧ Ev (fun q => spec_OrderCycle.f q n) (r, true) ∧ IsOrderCycleM n r = (true, true) := by
  have h1 := inB_iff.mp h
  obtain rfl | rfl : n = ((2 : Nat) : Int) ∨ n = ((3 : Nat) : Int) := by omega
  · obtain ⟨r, h1, h2, h3, h4, h5, h6⟩ := orderCycle_at 2 1 9 (by omega) (by decide +kernel) (by decide +kernel) (by decide +kernel) (by decide +kernel) (by decide +kernel)
    refine ⟨r, by have : fact 2 = 2 := rfl; omega, h2, h3, ?_⟩
    unfold IsOrderCycleM
    rw [if_pos (by rw [Bool.and_eq_true, decide_eq_true_eq]; exact ⟨by decide +kernel, superWordB_iff.mpr ⟨by have : fact 2 = 2 := rfl; omega, fun x hx => by have := h6 x hx; omega⟩⟩), Int.toNat_natCast, h5]
  · obtain ⟨r, h1, h2, h3, h4, h5, h6⟩ := orderCycle_at 3 398 4096 (by omega) (by decide +kernel) (by decide +kernel) (by decide +kernel) (by decide +kernel) (by decide +kernel)
    refine ⟨r, by have : fact 3 = 6 := rfl; omega, h2, h3, ?_⟩
    unfold IsOrderCycleM
    rw [if_pos (by rw [Bool.and_eq_true, decide_eq_true_eq]; exact ⟨by decide +kernel, superWordB_iff.mpr ⟨by have : fact 3 = 6 := rfl; omega, fun x hx => by have := h6 x hx; omega⟩⟩), Int.toNat_natCast, h5]
theorem orderCycle_word : ∃ r : List Int, r.length = 6 ∧ Ev (fun q => impl_OrderCycle.f q 3) (r, true) ∧ Ev (fun q => spec_OrderCycle.f q 3) (r, true) := by
  obtain ⟨r, h1, h2, h3, h4, h5, h6⟩ := orderCycle_at 3 398 4096 (by omega) (by decide +kernel) (by decide +kernel) (by decide +kernel) (by decide +kernel) (by decide +kernel)
  exact ⟨r, by have : fact 3 = 6 := rfl; omega, h2, h3⟩
theorem orderCycle_both (n : Int) : ∃ r : List Int, ∃ b : Bool, r.length ≤ 1048576 ∧ Ev (fun q => impl_OrderCycle.f q n) (r, b) ∧ Ev (fun q => spec_OrderCycle.f q n) (r, b) := by
  by_cases h : inB n 2 3 = true
  · have h1 := inB_iff.mp h
    obtain rfl | rfl : n = ((2 : Nat) : Int) ∨ n = ((3 : Nat) : Int) := by omega
    · obtain ⟨r, h1, h2, h3, _⟩ := orderCycle_at 2 1 9 (by omega) (by decide +kernel) (by decide +kernel) (by decide +kernel) (by decide +kernel) (by decide +kernel)
      exact ⟨r, true, h1, h2, h3⟩
    · obtain ⟨r, h1, h2, h3, _⟩ := orderCycle_at 3 398 4096 (by omega) (by decide +kernel) (by decide +kernel) (by decide +kernel) (by decide +kernel) (by decide +kernel)
      exact ⟨r, true, h1, h2, h3⟩
  · refine ⟨[], false, by simp, ?_, ?_⟩
    · unfold impl_OrderCycle.f
      exact ev_plain (impl_within_eq _ _ _) (ev_neg h (Ev.now _))
    · unfold spec_OrderCycle.f
      exact ev_plain (spec_l1In_eq _ _ _) (ev_neg h (Ev.now _))

theorem impl_OrderOf_ev (l : List Int) : Ev (fun k => impl_OrderOf.f k l) (OrderOfM l) := by
  unfold impl_OrderOf.f OrderOfM
  refine ev_if (fun h => ev_some (by rw [if_neg (fun h2 => by omega)])) (fun h => ?_)
  refine ev_call (impl_different_ev l (by omega)) (ev_if (fun h2 => ?_) (fun h2 => ev_some (by rw [if_neg (fun h3 => h2 (by simpa using h3.2))])))
  exact ev_call (impl_orderOf_ev l (by omega)) (ev_some (by rw [if_pos ⟨by omega, by simpa using h2⟩]))

theorem spec_OrderOf_ev (l : List Int) : Ev (fun k => spec_OrderOf.f k l) (OrderOfM l) := by
  unfold spec_OrderOf.f OrderOfM
  refine ev_if (fun h => ev_some (by rw [if_neg (fun h2 => by omega)])) (fun h => ?_)
  refine ev_call (spec_suOrder_ev l (by omega)) (ev_some ?_)
  by_cases hn : l.Nodup
  · rw [if_pos hn, if_pos ⟨by omega, hn⟩]
  · rw [if_neg hn, if_neg (fun h => hn h.2)]

theorem impl_identity_ev (n : Nat) (hn : n ≤ 1000000000000) : Ev (fun k => impl_identity.f k (n : Int)) (idl n) := by
  unfold impl_identity.f
  refine ev_iter (fun (acc : List Int) i k => impl_identity.l0 k acc (n : Int) (i : Int)) (fun acc i => acc ++ [(i : Int)]) (fun i acc => acc = idl i) n ?_ n 0 [] (by omega) (by simp [idl]) ?_
  · intro acc i hi hI
    refine ⟨by rw [hI, idl_succ], fun r k => ?_⟩
    refine Ev.step (fun k => by simp only [impl_identity.l0]; rfl) ?_
    rw [wrap_succ (by omega)]
    exact ev_pos (by omega) (ev_pos (by rw [hI, idl_length]; omega) k)
  · intro h
    exact Ev.step (fun k => by simp only [impl_identity.l0]; rfl) (ev_neg (by omega) (ev_some h))

theorem slices_Equal_int_int_loop (a b : List Int) (ha : a.length ≤ 1000000000000) (hab : a.length = b.length) : ∀ (d i : Nat), i + d = a.length →
    Ev (fun k => slices_Equal_int_int.l0 k a b (a.length : Int) (i : Int)) (decide (a.drop i = b.drop i)) := by
  intro d
  induction d with
  | zero =>
    intro i h
    rw [List.drop_eq_nil_of_le (by omega), List.drop_eq_nil_of_le (by omega)]
    refine Ev.step (f := fun _ => some true) (fun k => ?_) (Ev.now _)
    simp only [slices_Equal_int_int.l0]; rw [if_neg (by omega)]
  | succ d ih =>
    intro i h
    rw [drop_rd a i (by omega), drop_rd b i (by omega)]
    refine Ev.step (f := fun k => if rd a (i : Int) = rd b (i : Int) then slices_Equal_int_int.l0 k a b (a.length : Int) ((i + 1 : Nat) : Int) else some false) (fun k => ?_) ?_
    · simp only [slices_Equal_int_int.l0]; rw [if_pos (by omega), if_pos (by omega), if_pos (by omega), if_pos (by omega), wrap_succ (by omega)]
    · exact ev_if (fun e => ev_to (ih (i + 1) (by omega)) (by simp [e])) (fun e => ev_some (by simp [e]))
theorem slices_Equal_int_int_ev (a b : List Int) (ha : a.length ≤ 1000000000000) : Ev (fun k => slices_Equal_int_int.f k a b) (decide (a = b)) := by
  unfold slices_Equal_int_int.f
  refine ev_if (fun h => ?_) (fun h => ev_some ?_)
  · exact slices_Equal_int_int_loop a b ha (by omega) a.length 0 (by omega)
  · rw [eq_comm, decide_eq_false_iff_not]; intro e; exact h (by rw [e])

theorem impl_IsPermutation_ev (l : List Int) : Ev (fun k => impl_IsPermutation.f k l) (permB l) := by
  unfold impl_IsPermutation.f
  refine ev_if (fun h => ?_) (fun h => ev_some (by simp [permB, h]))
  refine ev_call (impl_identity_ev l.length (by omega)) ?_
  refine ev_to (slices_Equal_int_int_ev (srt l) (idl l.length) (by rw [srt_length]; omega)) ?_
  rw [Bool.eq_iff_iff, permB_iff, decide_eq_true_eq, srt_idl]
  exact ⟨fun h' => ⟨h, h'⟩, fun h' => h'.2⟩

theorem impl_allWithin_loop (lo hi : Int) (xs : List Int) (hx : xs.length ≤ 1000000000000) : ∀ (d i : Nat), i + d = xs.length →
    Ev (fun k => impl_allWithin.l0 k lo hi xs (xs.length : Int) (i : Int)) (allB (xs.drop i) lo hi) := by
  intro d
  induction d with
  | zero =>
    intro i h
    rw [List.drop_eq_nil_of_le (by omega)]
    refine Ev.step (f := fun _ => some true) (fun k => ?_) (Ev.now _)
    simp only [impl_allWithin.l0]; rw [if_neg (by omega)]
  | succ d ih =>
    intro i h
    have hlt : i < xs.length := by omega
    rw [drop_rd xs i hlt]
    refine Ev.step (f := fun k => if inB (rd xs (i : Int)) lo hi = true then impl_allWithin.l0 k lo hi xs (xs.length : Int) ((i + 1 : Nat) : Int) else some false) (fun k => ?_) ?_
    · simp only [impl_allWithin.l0]; rw [if_pos (by omega), if_pos (by omega), if_pos (by omega), impl_within_eq, wrap_succ (by omega)]; rfl
    · by_cases hb : inB (rd xs (i : Int)) lo hi = true
      · exact ev_pos hb (ev_to (ih (i + 1) (by omega)) (by simp [allB, hb]))
      · exact ev_neg hb (ev_some (by simp [allB, Bool.eq_false_iff.mpr hb]))
theorem impl_allWithin_ev (lo hi : Int) (xs : List Int) (hx : xs.length ≤ 1000000000000) : Ev (fun k => impl_allWithin.f k xs lo hi) (allB xs lo hi) :=
  impl_allWithin_loop lo hi xs hx xs.length 0 (by omega)

theorem impl_isSuperWord_ev (w : List Int) (hw : w.length ≤ 1048576) : Ev (fun k => impl_isSuperWord.f k w) (superWordB w) := by
  unfold impl_isSuperWord.f superWordB
  exact ev_if (fun h => ev_call (impl_allWithin_ev _ _ _ (by omega)) (ev_some (by rw [decide_eq_true h]; simp))) (fun h => ev_some (by rw [decide_eq_false h]; simp))

theorem impl_IsOrderCycle_ev (n : Int) (w : List Int) (hw : w.length ≤ 1048576) : Ev (fun k => impl_IsOrderCycle.f k n w) (IsOrderCycleM n w) := by
  unfold impl_IsOrderCycle.f IsOrderCycleM
  refine ev_plain (impl_within_eq _ _ _) (ev_if (fun h1 => ?_) (fun h1 => ev_some (by rw [Bool.eq_false_iff.mpr h1]; rfl)))
  refine ev_call (impl_isSuperWord_ev w hw) (ev_if (fun h2 => ?_) (fun h2 => ev_some (by rw [Bool.eq_false_iff.mpr h2]; simp)))
  have e1 := inB_iff.mp h1
  obtain ⟨n, rfl⟩ := Int.eq_ofNat_of_zero_le (show 0 ≤ n by omega)
  exact ev_call (impl_isOrderCycle_ev n (by omega) w hw) (ev_some (by rw [h1, h2]; rfl))

theorem spec_l1All_loop (lo hi : Int) (xs : List Int) (hx : xs.length ≤ 1000000000000) : ∀ (d i : Nat), i + d = xs.length →
    Ev (fun k => spec_l1All.l0 k lo hi xs (xs.length : Int) (i : Int)) (allB (xs.drop i) lo hi) := by
  intro d
  induction d with
  | zero =>
    intro i h
    rw [List.drop_eq_nil_of_le (by omega)]
    refine Ev.step (f := fun _ => some true) (fun k => ?_) (Ev.now _)
    simp only [spec_l1All.l0]; rw [if_neg (by omega)]
  | succ d ih =>
    intro i h
    have hlt : i < xs.length := by omega
    rw [drop_rd xs i hlt]
    refine Ev.step (f := fun k => if inB (rd xs (i : Int)) lo hi = true then spec_l1All.l0 k lo hi xs (xs.length : Int) ((i + 1 : Nat) : Int) else some false) (fun k => ?_) ?_
    · simp only [spec_l1All.l0]; rw [if_pos (by omega), if_pos (by omega), if_pos (by omega), spec_l1In_eq, wrap_succ (by omega)]; rfl
    · by_cases hb : inB (rd xs (i : Int)) lo hi = true
      · exact ev_pos hb (ev_to (ih (i + 1) (by omega)) (by simp [allB, hb]))
      · exact ev_neg hb (ev_some (by simp [allB, Bool.eq_false_iff.mpr hb]))
theorem spec_l1All_ev (lo hi : Int) (xs : List Int) (hx : xs.length ≤ 1000000000000) : Ev (fun k => spec_l1All.f k xs lo hi) (allB xs lo hi) :=
  spec_l1All_loop lo hi xs hx xs.length 0 (by omega)

theorem spec_suWord_ev (w : List Int) (hw : w.length ≤ 1048576) : Ev (fun k => spec_suWord.f k w) (superWordB w) := by
  unfold spec_suWord.f superWordB
  exact ev_if (fun h => ev_call (spec_l1All_ev _ _ _ (by omega)) (ev_some (by rw [decide_eq_true h]; simp))) (fun h => ev_some (by rw [decide_eq_false h]; simp))

theorem spec_IsOrderCycle_ev (n : Int) (w : List Int) (hw : w.length ≤ 1048576) : Ev (fun k => spec_IsOrderCycle.f k n w) (IsOrderCycleM n w) := by
  unfold spec_IsOrderCycle.f IsOrderCycleM
  refine ev_plain (spec_l1In_eq _ _ _) (ev_if (fun h1 => ?_) (fun h1 => ev_some (by rw [Bool.eq_false_iff.mpr h1]; rfl)))
  refine ev_call (spec_suWord_ev w hw) (ev_if (fun h2 => ?_) (fun h2 => ev_some (by rw [Bool.eq_false_iff.mpr h2]; simp)))
  have e1 := inB_iff.mp h1
  obtain ⟨n, rfl⟩ := Int.eq_ofNat_of_zero_le (show 0 ≤ n by omega)
  exact ev_call (spec_suOrders_ev n (by omega) w hw) (ev_some (by rw [h1, h2]; rfl))

theorem laws_uSame_loop (a b : List Int) (ha : a.length ≤ 1000000000000) (hab : a.length = b.length) : ∀ (d i : Nat), i + d = a.length →
    Ev (fun k => laws_uSame.l0 k a b (a.length : Int) (i : Int)) (decide (a.drop i = b.drop i)) := by
  intro d
  induction d with
  | zero =>
    intro i h
    rw [List.drop_eq_nil_of_le (by omega), List.drop_eq_nil_of_le (by omega)]
    refine Ev.step (f := fun _ => some true) (fun k => ?_) (Ev.now _)
    simp only [laws_uSame.l0]; rw [if_neg (by omega)]
  | succ d ih =>
    intro i h
    rw [drop_rd a i (by omega), drop_rd b i (by omega)]
    refine Ev.step (f := fun k => if rd a (i : Int) = rd b (i : Int) then laws_uSame.l0 k a b (a.length : Int) ((i + 1 : Nat) : Int) else some false) (fun k => ?_) ?_
    · simp only [laws_uSame.l0]; rw [if_pos (by omega), if_pos (by omega), if_pos (by omega), if_pos (by omega), wrap_succ (by omega)]
    · exact ev_if (fun e => ev_to (ih (i + 1) (by omega)) (by simp [e])) (fun e => ev_some (by simp [e]))
theorem laws_uSame_ev (a b : List Int) (ha : a.length ≤ 1000000000000) : Ev (fun k => laws_uSame.f k a b) (decide (a = b)) := by
  unfold laws_uSame.f
  refine ev_if (fun h => ?_) (fun h => ev_some ?_)
  · exact laws_uSame_loop a b ha (by omega) a.length 0 (by omega)
  · rw [eq_comm, decide_eq_false_iff_not]; intro e; exact h (by rw [e])

theorem laws_big_some (a b : List Int) : ∃ r, laws_big.f a b = some r := by
  unfold laws_big.f
  split
  · exact ⟨_, rfl⟩
  · exact ⟨_, rfl⟩
theorem laws_big_ok {a b : List Int} {r : Bool} (h : laws_big.f a b = some r) (hr : ¬ r = true) : a.length ≤ 1048576 ∧ b.length ≤ 1048576 := by
  unfold laws_big.f at h
  split at h
  · cases h; exact absurd rfl hr
  · rename_i h1
    obtain rfl := Option.some.inj h
    rw [wrap_id (by omega)] at hr
    simp at hr
    omega

theorem drawOrder_fill {d : List Int} (hd : bytesL d) : ∀ (m : Nat) (xs : List Int) (a s : Int), xs.length + m = 14 → 0 ≤ a → a + 4 * (m : Int) ≤ 999999999999900 → ∃ r, Ev (fun q => spec_DrawOrderOf.l1 q xs d a s) r ∧ r.length ≤ 14 := by
  intro m
  induction m with
  | zero =>
    intro xs a s hl h0 hb
    obtain ⟨v, a1, s1, e1, hv, ha1⟩ := pick_ok hd s 2 h0 (by omega)
    refine ⟨xs, Ev.step (fun k => by simp only [spec_DrawOrderOf.l1]; rfl) (ev_plain e1 ?_), by omega⟩
    dsimp only
    rw [wrap_id (x := 12 + v) (by omega)]
    exact ev_neg (by omega) (Ev.now _)
  | succ m ih =>
    intro xs a s hl h0 hb
    obtain ⟨v, a1, s1, e1, hv, ha1⟩ := pick_ok hd s 2 h0 (by omega)
    by_cases c : (xs.length : Int) < 12 + v
    · obtain ⟨r, h1, h2⟩ := ih (xs ++ [wrap64 (-(xs.length : Int))]) a1 s1 (by simp; omega) (by omega) (by omega)
      refine ⟨r, Ev.step (fun k => by simp only [spec_DrawOrderOf.l1]; rfl) (ev_plain e1 ?_), h2⟩
      dsimp only
      rw [wrap_id (x := 12 + v) (by omega)]
      exact ev_pos c (ev_pos (by omega) h1)
    · refine ⟨xs, Ev.step (fun k => by simp only [spec_DrawOrderOf.l1]; rfl) (ev_plain e1 ?_), by omega⟩
      dsimp only
      rw [wrap_id (x := 12 + v) (by omega)]
      exact ev_neg c (Ev.now _)
theorem drawOrder_loop {d : List Int} (hd : bytesL d) : ∀ (m : Nat) (xs : List Int) (a s : Int), xs.length + m ≤ 14 → 0 ≤ a → a + 6 * (m : Int) ≤ 999999999990000 → ∃ r, Ev (fun q => spec_DrawOrderOf.l0 q xs (m : Int) d a s) r ∧ r.length ≤ 14 := by
  intro m
  induction m with
  | zero =>
    intro xs a s hl h0 hb
    obtain ⟨v, a1, s1, e1, ha1⟩ := one_ok hd s 10 h0 (by omega)
    by_cases c : v = true
    · obtain ⟨r, h1, h2⟩ := drawOrder_fill hd 14 [] a1 s1 (by simp) (by omega) (by omega)
      refine ⟨r, Ev.step (fun k => by simp only [spec_DrawOrderOf.l0]; rfl) (ev_neg (by omega) (ev_plain e1 ?_)), h2⟩
      dsimp only
      exact ev_pos c h1
    · refine ⟨xs, Ev.step (fun k => by simp only [spec_DrawOrderOf.l0]; rfl) (ev_neg (by omega) (ev_plain e1 ?_)), by omega⟩
      dsimp only
      exact ev_neg c (Ev.now _)
  | succ m ih =>
    intro xs a s hl h0 hb
    obtain ⟨v, a1, s1, e1, hv, ha1⟩ := pick_ok hd s 9 h0 (by omega)
    obtain ⟨v2, a2, s2, e2, hv2, ha2⟩ := pick_ok hd (a := a1) s1 1000 (by omega) (by omega)
    obtain ⟨u, a3, s3, e3, hu, ha3⟩ := among_ok hd (a := a2) s2 [v, wrap64 (v2 - 500), (-9223372036854775808), 9223372036854775807, 0] (by simp) (by omega) (by omega)
    obtain ⟨r, h1, h2⟩ := ih (xs ++ [u]) a3 s3 (by simp; omega) (by omega) (by omega)
    refine ⟨r, Ev.step (fun k => by simp only [spec_DrawOrderOf.l0]; rfl) (ev_pos (by omega) (ev_plain e1 ?_)), h2⟩
    dsimp only
    refine ev_plain e2 ?_
    dsimp only
    refine ev_plain e3 ?_
    dsimp only
    rw [wrap_pred (by omega)]
    exact ev_pos (by omega) h1
theorem drawOrder_ok {d : List Int} (hd : bytesL d) : ∃ r, Ev (fun q => spec_DrawOrderOf.f q d) r ∧ r.length ≤ 14 := by
  obtain ⟨v, a1, s1, e1, hv, ha1⟩ := pick_ok hd (a := 0) 0 7 (by omega) (by omega)
  obtain ⟨m, rfl⟩ := Int.eq_ofNat_of_zero_le hv.1
  obtain ⟨r, h1, h2⟩ := drawOrder_loop hd m [] a1 s1 (by simp; omega) (by omega) (by omega)
  unfold spec_DrawOrderOf.f
  exact ⟨r, ev_plain e1 h1, h2⟩
theorem drawIs_loop {d : List Int} (hd : bytesL d) (n add : Int) : ∀ (m i : Nat) (w : List Int) (a s : Int), i + m = 6 → w.length = 6 → 0 ≤ a → a ≤ 999999999990000 → ∃ r, Ev (fun q => spec_DrawIsOrderCycle.l0 q n w add 6 (i : Int) d a s) (n, r) ∧ r.length ≤ 202 := by
  intro m
  induction m with
  | zero =>
    intro i w a s h1 h2 h0 hb
    obtain ⟨v, a1, s1, e1, ha1⟩ := one_ok hd s 4 h0 (by omega)
    by_cases c : v = true
    · obtain ⟨p, a2, s2, e2, hp, ha2⟩ := pick_ok hd (a := a1) s1 6 (by omega) (by omega)
      obtain ⟨x, a3, s3, e3, hx, ha3⟩ := pick_ok hd (a := a2) s2 5 (by omega) (by omega)
      refine ⟨w.set p.toNat x, Ev.step (fun k => by simp only [spec_DrawIsOrderCycle.l0]; rfl) (ev_neg (by omega) (ev_plain e1 ?_)), by simp; omega⟩
      dsimp only
      refine ev_pos c (ev_plain e2 ?_)
      dsimp only
      refine ev_plain e3 ?_
      dsimp only
      exact ev_pos (by omega) (ev_pos (by omega) (Ev.now _))
    · refine ⟨w, Ev.step (fun k => by simp only [spec_DrawIsOrderCycle.l0]; rfl) (ev_neg (by omega) (ev_plain e1 ?_)), by omega⟩
      dsimp only
      exact ev_neg c (Ev.now _)
  | succ m ih =>
    intro i w a s h1 h2 h0 hb
    obtain ⟨r, h3, h4⟩ := ih (i + 1) (w.set i (wrap64 (rd w (i : Int) + add))) a s (by omega) (by simp; omega) h0 hb
    refine ⟨r, Ev.step (fun k => by simp only [spec_DrawIsOrderCycle.l0]; rfl) (ev_pos (by omega) (ev_pos (by omega) (ev_pos (by omega) ?_))), h4⟩
    rw [Int.toNat_natCast, wrap_succ (by omega)]
    exact h3
theorem drawIs_ok {d : List Int} (hd : bytesL d) : ∃ n r, Ev (fun q => spec_DrawIsOrderCycle.f q d) (n, r) ∧ r.length ≤ 202 := by
  obtain ⟨n, a1, s1, e1, hn, ha1⟩ := among_ok hd (a := 0) 0 [2, 3, 3, 3, 4, 1, 5] (by simp) (by omega) (by omega)
  have hn2 : 1 ≤ n ∧ n ≤ 5 := by simp at hn; omega
  have wild : ∀ a s : Int, 0 ≤ a → a ≤ 1000 → ∃ r, Ev (fun q => spec_DrawIsOrderCycle.j0 q n false d a s) (n, r) ∧ r.length ≤ 202 := by
    intro a s h0 h1
    obtain ⟨m, a2, s2, e2, hm, ha2⟩ := among_ok hd (a := a) s [2, 6, 24] (by simp) (by omega) (by omega)
    obtain ⟨r, a3, s3, h2, h3, _⟩ := word9_ok hd (a := a2) s2 (n + 1) m (by omega) (by omega) (by simp at hm; omega)
    refine ⟨r, Ev.step (fun k => by simp only [spec_DrawIsOrderCycle.j0]; rfl) (ev_neg (by simp) (ev_plain e2 ?_)), h3⟩
    dsimp only
    rw [wrap_id (x := n + 1) (by omega)]
    exact ev_call h2 (Ev.now _)
  unfold spec_DrawIsOrderCycle.f
  by_cases c3 : n = 3
  · obtain ⟨b, a2, s2, e2, ha2⟩ := one_ok hd (a := a1) s1 2 (by omega) (by omega)
    by_cases c4 : b = true
    · obtain ⟨w, hw6, _, hw⟩ := orderCycle_word
      obtain ⟨p, a3, s3, e3, hp, ha3⟩ := pick_ok hd (a := a2) s2 6 (by omega) (by omega)
      obtain ⟨p, rfl⟩ := Int.eq_ofNat_of_zero_le hp.1
      obtain ⟨x, a4, s4, e4, hx, ha4⟩ := pick_ok hd (a := a3) s3 5 (by omega) (by omega)
      obtain ⟨r, h5, h6⟩ := drawIs_loop hd n x 6 0 (w.drop p ++ w.take p) a4 s4 (by omega) (by simp; omega) (by omega) (by omega)
      refine ⟨n, r, ?_, h6⟩
      refine ev_plain e1 ?_
      dsimp only
      refine ev_pos c3 (ev_plain e2 ?_)
      dsimp only
      refine Ev.step (fun k => by simp only [spec_DrawIsOrderCycle.j0]; rfl) (ev_pos c4 (ev_call hw (ev_plain e3 ?_)))
      dsimp only
      have hown : spec_l1Own.f (w.drop p) = some (w.drop p) := by
        unfold spec_l1Own.f
        rw [Option.bind_some, if_pos (by simp; omega), List.nil_append]
      rw [Int.toNat_natCast]
      refine ev_pos (by omega) (ev_pos (by omega) (ev_plain hown (ev_plain rfl ?_)))
      refine ev_pos (by simp; omega) (ev_plain rfl (ev_plain e4 ?_))
      dsimp only
      rw [show ((w.drop p ++ w.take p).length : Int) = 6 by simp; omega]
      exact h5
    · obtain ⟨r, h5, h6⟩ := wild a2 s2 (by omega) (by omega)
      refine ⟨n, r, ?_, h6⟩
      refine ev_plain e1 ?_
      dsimp only
      refine ev_pos c3 (ev_plain e2 ?_)
      dsimp only
      rw [Bool.eq_false_iff.mpr c4]
      exact h5
  · obtain ⟨r, h5, h6⟩ := wild a1 s1 (by omega) (by omega)
    refine ⟨n, r, ?_, h6⟩
    refine ev_plain e1 ?_
    dsimp only
    exact ev_neg c3 h5
theorem orderLaw_last {d : List Int} (hd : bytesL d) : ∃ n r, Ev (fun q => spec_DrawIsOrderCycle.f q d) (n, r) ∧ Ev (fun q => impl_IsOrderCycle.f q n r) (IsOrderCycleM n r) ∧ Ev (fun q => spec_IsOrderCycle.f q n r) (IsOrderCycleM n r) := by
  obtain ⟨n, r, h1, h2⟩ := drawIs_ok hd
  exact ⟨n, r, h1, impl_IsOrderCycle_ev n r (by omega), spec_IsOrderCycle_ev n r (by omega)⟩
theorem orderLaw_j4 {d : List Int} (hd : bytesL d) : Ev (fun q => laws_FnOrderCycles.j4 q d) true := by
  obtain ⟨n, a1, s1, e1, hn, _⟩ := among_ok hd (a := 0) 0 [2, 3, 1, 4] (by simp) (by omega) (by omega)
  have hdraw : spec_DrawOrderCycle.f d = some n := by
    unfold spec_DrawOrderCycle.f
    rw [e1]; rfl
  obtain ⟨m, v, g1, g2, g3⟩ := orderLaw_last hd
  refine Ev.step (fun k => by simp only [laws_FnOrderCycles.j4]; rfl) (ev_plain hdraw ?_)
  by_cases h : inB n 2 3 = true
  · obtain ⟨r, hl, hi, hs, hok⟩ := orderCycle_is n h
    refine ev_call hi (ev_call hs ?_)
    dsimp only
    refine ev_neg (bne_no _) (ev_call (laws_uSame_ev r r (by omega)) ?_)
    refine Ev.step (fun k => by simp only [laws_FnOrderCycles.j5]; rfl) (ev_neg (by simp) (ev_pos (by trivial) ?_))
    have hi2 := impl_IsOrderCycle_ev n r (by omega)
    rw [hok] at hi2
    refine ev_call hi2 ?_
    dsimp only
    refine ev_pos (by trivial) ?_
    refine Ev.step (fun k => by simp only [laws_FnOrderCycles.j6]; rfl) (ev_neg (by simp) ?_)
    exact ev_call g1 (ev_call g2 (ev_call g3 (ev_pos (by simp) (ev_some (by simp)))))
  · obtain ⟨r, b, hl, hi, hs⟩ := orderCycle_both n
    have hb : b = false := by
      have : Ev (fun q => spec_OrderCycle.f q n) (([] : List Int), false) := by
        unfold spec_OrderCycle.f
        exact ev_plain (spec_l1In_eq _ _ _) (ev_neg h (Ev.now _))
      exact (Prod.mk.inj (ev_det hs this)).2
    subst hb
    refine ev_call hi (ev_call hs ?_)
    dsimp only
    refine ev_neg (bne_no _) (ev_call (laws_uSame_ev r r (by omega)) ?_)
    refine Ev.step (fun k => by simp only [laws_FnOrderCycles.j5]; rfl) (ev_neg (by simp) (ev_neg (by simp) ?_))
    exact ev_call g1 (ev_call g2 (ev_call g3 (ev_pos (by simp) (ev_some (by simp)))))
theorem orderLaw_in {d : List Int} (l : List Int) (hl : l.length ≤ 14) (i : Nat) (hi : i < l.length) (hnext : Ev (fun q => laws_FnOrderCycles.l0 q d l (orderM l) (l.length : Int) ((i + 1 : Nat) : Int)) true) : ∀ m j : Nat, j + m = l.length →
    Ev (fun q => laws_FnOrderCycles.l1 q d l (orderM l) (i : Int) (l.length : Int) (i : Int) (l.length : Int) (j : Int)) true := by
  intro m
  induction m with
  | zero =>
    intro j h
    refine Ev.step (fun k => by simp only [laws_FnOrderCycles.l1]; rfl) (ev_neg (by omega) ?_)
    rw [wrap_succ (by omega)]
    exact hnext
  | succ m ih =>
    intro j h
    have hlt := orderM_lt l i j hi (by omega)
    refine Ev.step (fun k => by simp only [laws_FnOrderCycles.l1]; rfl) ?_
    rw [wrap_succ (by omega)]
    refine ev_pos (by omega) (ev_pos (by omega) (ev_pos (by omega) (ev_pos (by omega) (ev_pos (by omega) (ev_pos (by rw [orderM_length]; omega) (ev_pos (by rw [orderM_length]; omega) (ev_neg ?_ (ih (j + 1) (by omega)))))))))
    rw [show decide (rd (orderM l) (i : Int) < rd (orderM l) (j : Int)) = decide (rd l (i : Int) < rd l (j : Int)) from decide_eq_decide.mpr hlt]
    exact bne_no _
theorem orderLaw_loop {d : List Int} (hd : bytesL d) (l : List Int) (hl : l.length ≤ 14) : ∀ m i : Nat, i + m = l.length → Ev (fun q => laws_FnOrderCycles.l0 q d l (orderM l) (l.length : Int) (i : Int)) true := by
  intro m
  induction m with
  | zero =>
    intro i h
    exact Ev.step (fun k => by simp only [laws_FnOrderCycles.l0]; rfl) (ev_neg (by omega) (orderLaw_j4 hd))
  | succ m ih =>
    intro i h
    exact Ev.step (fun k => by simp only [laws_FnOrderCycles.l0]; rfl) (ev_pos (by omega) (orderLaw_in l hl i (by omega) (ih (i + 1) (by omega)) l.length 0 (by omega)))
theorem FnOrderCycles : laws_FnOrderCycles.Pure := by
  intro l0 l1 _ _ hb0 _ _ hb1
  refine Ev.rounds (r := true) ?_
  unfold laws_FnOrderCycles.f
  obtain ⟨b, hbig⟩ := laws_big_some l0 l1
  refine ev_plain hbig ?_
  refine ev_if (fun _ => Ev.now _) (fun hbig2 => ?_)
  obtain ⟨l, hdraw, hl⟩ := drawOrder_ok (bytes_wf hb0)
  refine ev_call hdraw (ev_call (impl_OrderOf_ev l) (ev_call (spec_OrderOf_ev l) ?_))
  refine ev_neg (bne_no _) ?_
  have hml := OrderOfM_length l
  refine ev_call (laws_uSame_ev _ _ (by omega)) ?_
  refine Ev.step (fun k => by simp only [laws_FnOrderCycles.j0]; rfl) (ev_neg (by simp) ?_)
  unfold OrderOfM
  by_cases c : l.length ≤ 12 ∧ l.Nodup
  · rw [if_pos c]
    dsimp only
    refine ev_pos (by trivial) (ev_call (impl_IsPermutation_ev _) (ev_pos (orderM_perm l c.1 c.2) ?_))
    refine Ev.step (fun k => by simp only [laws_FnOrderCycles.j1]; rfl) (ev_neg (by rw [orderM_length]; simp) ?_)
    exact orderLaw_loop (bytes_wf hb1) l hl l.length 0 (by omega)
  · rw [if_neg c]
    dsimp only
    exact ev_neg (by simp) (orderLaw_j4 (bytes_wf hb1))

end Go.Proofs.Ytdnbeekoefmbcaa.Pure
