/- The pure statement of BruijnWords: it holds of all draws; no condition. -/
import Derived.Test.YtdnbeekoefmbcaaPFnBruijnWordsx8
import Derived.Test.YtdnbeekoefmbcaaBase
import Derived.Test.YtdnbeekoefmbcaaLists
import Derived.Test.YtdnbeekoefmbcaaRegs
namespace Go.Proofs.Ytdnbeekoefmbcaa.Pure
open Go.RowKit Go.Proofs.Ytdnbeekoefmbcaa.PFnBruijnWords Go.Proofs.YtdnbeekoefmbcaaW.PrintWords Go.Proofs.YtdnbeekoefmbcaaW.PrintLast Go.Proofs.Ytdnbeekoefmbcaa.Base
set_option maxRecDepth 10000
set_option linter.unusedVariables false
set_option linter.unusedSimpArgs false

def kindB (n k : Int) : Bool := inB n 1 10 && (inB k 2 6 && decide (k.toNat ^ n.toNat ≤ 1024))
theorem kindB_iff {n k : Int} : kindB n k = true ↔ (1 ≤ n ∧ n ≤ 10) ∧ (2 ≤ k ∧ k ≤ 6) ∧ k.toNat ^ n.toNat ≤ 1024 := by simp [kindB, inB_iff]
theorem kindB_nat {n k : Int} (h : kindB n k = true) : ∃ n' k' : Nat, n = n' ∧ k = k' ∧ 1 ≤ n' ∧ n' ≤ 10 ∧ 2 ≤ k' ∧ k' ≤ 6 ∧ k' ^ n' ≤ 1024 := by
  obtain ⟨h1, h2, h3⟩ := kindB_iff.mp h
  exact ⟨n.toNat, k.toNat, by omega, by omega, by omega, by omega, by omega, by omega, h3⟩

theorem codesM_take (w : List Int) (n k i : Nat) (h : i < w.length) : (codesM w n k).take (i + 1) = (codesM w n k).take i ++ [codeN k (win w i n)] := by
  rw [List.take_succ_eq_append_getElem (by simp [codesM]; exact h)]
  simp [codesM]
theorem codesM_length (w : List Int) (n k : Nat) : (codesM w n k).length = w.length := by simp [codesM]
theorem codeN_take (k : Nat) (xs : List Int) (j : Nat) (h : j < xs.length) : codeN k (xs.take (j + 1)) = codeN k (xs.take j) * (k : Int) + rd xs (j : Int) := by
  rw [take_rd xs j h, codeN_snoc]
def IsBruijnM (w : List Int) (n k : Int) : Bool × Bool := if kindB n k = true ∧ cycleB w k = true then (bruijnB w n.toNat k.toNat, true) else (false, false)
theorem pow_le_1024 {k n j : Nat} (hk : 2 ≤ k) (h : k ^ n ≤ 1024) (hj : j ≤ n) : k ^ j ≤ 1024 := Nat.le_trans (Nat.pow_le_pow_right (by omega) hj) h
/-- The number of a beginning of a window, and the next step, lie in bounds. -/
theorem code_step {k n j : Nat} {xs : List Int} (hk : 2 ≤ k) (hk6 : k ≤ 6) (h : k ^ n ≤ 1024) (hx : xs.length = n) (hxs : ∀ x ∈ xs, 0 ≤ x ∧ x ≤ (k : Int) - 1) (hj : j < n) :
    wrap64 (wrap64 (codeN k (xs.take j) * (k : Int)) + rd xs (j : Int)) = codeN k (xs.take (j + 1)) := by
  have h1 := codeN_range k j (xs.take j) (by simp; omega) (fun x hx' => hxs x (List.mem_of_mem_take hx'))
  have h2 := pow_le_1024 hk h (show j ≤ n by omega)
  have h3 : codeN k (xs.take j) * (k : Int) ≤ 1024 * 6 := Int.mul_le_mul (by omega) (by omega) (by omega) (by omega)
  have h4 : 0 ≤ codeN k (xs.take j) * (k : Int) := Int.mul_nonneg h1.1 (by omega)
  have h5 : 0 ≤ rd xs (j : Int) ∧ rd xs (j : Int) ≤ (k : Int) - 1 := hxs _ (by rw [rd_get xs j (by omega)]; exact List.getElem_mem _)
  rw [wrap_id (x := codeN k (xs.take j) * (k : Int)) (by omega), wrap_id (by omega), codeN_take k xs j (by omega)]

/-- The places at which a window stands. -/
def placesIn (w g : List Int) (acc : List Int) (p : Nat) : List Int := if win w p g.length = g then acc ++ [(p : Int)] else acc
def placesM (w g : List Int) : List Int := (List.range' 0 w.length).foldl (placesIn w g) []
theorem placesM_length (w g : List Int) : ∀ d i acc, acc.length ≤ i → ((List.range' i d).foldl (placesIn w g) acc).length ≤ i + d := by
  intro d
  induction d with
  | zero => intro i acc h; simpa using h
  | succ d ih =>
    intro i acc h
    rw [List.range'_succ, List.foldl_cons]
    refine Nat.le_trans (ih (i + 1) _ ?_) (by omega)
    unfold placesIn
    split
    · simp; omega
    · omega
def PlacesOfM (w g : List Int) : List Int × Bool := if cycleB w 6 = true ∧ cycleB g 6 = true then (placesM w g, true) else ([], false)
theorem PlacesOfM_length (w g : List Int) : (PlacesOfM w g).1.length ≤ 1024 := by
  unfold PlacesOfM
  split
  · rename_i h
    have := (cycleB_iff.mp h.1).2.1.2
    have h2 := placesM_length w g w.length 0 [] (by simp)
    simp only [placesM]; omega
  · simp

theorem codeN_injk {k : Nat} : ∀ (n : Nat) (xs ys : List Int), xs.length = n → ys.length = n → (∀ x ∈ xs, 0 ≤ x ∧ x ≤ (k : Int) - 1) → (∀ x ∈ ys, 0 ≤ x ∧ x ≤ (k : Int) - 1) → codeN k xs = codeN k ys → xs = ys := by
  intro n
  induction n with
  | zero => intro xs ys h h' _ _ _; rw [List.eq_nil_of_length_eq_zero h, List.eq_nil_of_length_eq_zero h']
  | succ n ih =>
    intro xs ys h h' hx hy e
    rcases List.eq_nil_or_concat xs with rfl | ⟨us, u, rfl⟩
    · simp at h
    rcases List.eq_nil_or_concat ys with rfl | ⟨vs, v, rfl⟩
    · simp at h'
    rw [List.concat_eq_append] at *
    rw [List.concat_eq_append] at *
    rw [codeN_snoc, codeN_snoc] at e
    have h1 := hx u (by simp)
    have h2 := hy v (by simp)
    have hm : ∀ c x : Int, 0 ≤ x → x ≤ (k : Int) - 1 → (c * (k : Int) + x) % (k : Int) = x := fun c x a b => by
      rw [Int.add_comm, Int.add_mul_emod_self_right, Int.emod_eq_of_lt a (by omega)]
    have e1 : u = v := by
      have a := congrArg (fun z => z % (k : Int)) e
      replace a : (codeN k us * (k : Int) + u) % (k : Int) = (codeN k vs * (k : Int) + v) % (k : Int) := a
      rwa [hm _ _ h1.1 h1.2, hm _ _ h2.1 h2.2] at a
    subst e1
    have e2 : codeN k us = codeN k vs := Int.eq_of_mul_eq_mul_right (a := (k : Int)) (by omega) (by omega)
    rw [ih us vs (by simpa using h) (by simpa using h') (fun x hx' => hx x (by simp [hx'])) (fun x hx' => hy x (by simp [hx'])) e2]
theorem places_fold (w g : List Int) : ∀ (l : List Nat) (acc : List Int), l.foldl (placesIn w g) acc = acc ++ (l.filter (fun p => decide (win w p g.length = g))).map (fun (p : Nat) => (p : Int)) := by
  intro l
  induction l with
  | nil => intro acc; simp
  | cons a l ih =>
    intro acc
    rw [List.foldl_cons, ih]
    unfold placesIn
    by_cases h : win w a g.length = g
    · simp [h]
    · simp [h]
theorem filter_one {P : Nat → Bool} {p0 : Nat} : ∀ (l : List Nat), l.Nodup → p0 ∈ l → (∀ q ∈ l, (P q = true ↔ q = p0)) → l.filter P = [p0] := by
  intro l
  induction l with
  | nil => intro _ h _; cases h
  | cons a l ih =>
    intro hn hp hP
    rw [List.nodup_cons] at hn
    rw [List.filter_cons]
    by_cases e : a = p0
    · subst e
      rw [if_pos ((hP a (by simp)).mpr rfl)]
      have : l.filter P = [] := by
        rw [List.filter_eq_nil_iff]
        intro q hq h
        obtain rfl := (hP q (by simp [hq])).mp h
        exact hn.1 hq
      rw [this]
    · rw [if_neg (fun h => e ((hP a (by simp)).mp h))]
      exact ih hn.2 (by rcases List.mem_cons.mp hp with h | h; exact absurd h.symm e; exact h) (fun q hq => hP q (by simp [hq]))
theorem bru_code_inj {w : List Int} {n k : Nat} (hb : bruijnB w n k = true) {i j : Nat} (hi : i < w.length) (hj : j < w.length) (e : codeN k (win w i n) = codeN k (win w j n)) : i = j := by
  have hnd : (codesM w n k).Nodup := by
    simp only [bruijnB, Bool.and_eq_true, decide_eq_true_eq] at hb
    exact hb.2
  have hpw := List.pairwise_iff_getElem.mp hnd
  have hget : ∀ i, (h : i < w.length) → (codesM w n k)[i]'(by rw [codesM_length]; exact h) = codeN k (win w i n) := fun i h => by simp [codesM]
  by_cases c : i < j
  · have := hpw i j (by rw [codesM_length]; exact hi) (by rw [codesM_length]; exact hj) c
    rw [hget i hi, hget j hj] at this
    exact absurd e this
  · by_cases c2 : j < i
    · have := hpw j i (by rw [codesM_length]; exact hj) (by rw [codesM_length]; exact hi) c2
      rw [hget i hi, hget j hj] at this
      exact absurd e.symm this
    · omega
/-- Each window stands at just one place. -/
theorem bru_places {w : List Int} {n k : Nat} (hb : bruijnB w n k = true) (hx : ∀ x ∈ w, 0 ≤ x ∧ x ≤ (k : Int) - 1) (hw : 0 < w.length) (g : List Int) (hg : g.length = n) (hgx : ∀ x ∈ g, 0 ≤ x ∧ x ≤ (k : Int) - 1) :
    ∃ q, q < w.length ∧ win w q n = g ∧ placesM w g = [(q : Int)] := by
  have hlen : w.length = k ^ n := by
    simp only [bruijnB, Bool.and_eq_true, decide_eq_true_eq] at hb
    exact hb.1
  have hwx : ∀ i, ∀ x ∈ win w i n, 0 ≤ x ∧ x ≤ (k : Int) - 1 := fun i x h => hx x (mem_win hw h)
  have hr : ∀ i, 0 ≤ codeN k (win w i n) ∧ codeN k (win w i n) < ((k ^ n : Nat) : Int) := fun i => codeN_range k n _ (win_length _ _ _) (hwx i)
  have hrg := codeN_range k n g hg hgx
  have hex : ∃ q, q < w.length ∧ codeN k (win w q n) = codeN k g := by
    obtain ⟨i, j, h1, h2, e⟩ := pigeon w.length (fun i => if i < w.length then (codeN k (win w i n)).toNat else (codeN k g).toNat) (fun i hi => by
      have := hr i
      show (if i < w.length then (codeN k (win w i n)).toNat else (codeN k g).toNat) < w.length
      split <;> omega)
    replace e : (if i < w.length then (codeN k (win w i n)).toNat else (codeN k g).toNat) = (if j < w.length then (codeN k (win w j n)).toNat else (codeN k g).toNat) := e
    rw [if_pos (show i < w.length by omega)] at e
    have hi := hr i
    by_cases c : j < w.length
    · rw [if_pos c] at e
      have hj := hr j
      exact absurd (bru_code_inj hb (show i < w.length by omega) c (by omega)) (by omega)
    · rw [if_neg c] at e
      exact ⟨i, by omega, by omega⟩
  obtain ⟨q, hq, he⟩ := hex
  have hwin : win w q n = g := codeN_injk n _ _ (win_length _ _ _) hg (hwx q) hgx he
  refine ⟨q, hq, hwin, ?_⟩
  unfold placesM
  rw [places_fold, List.nil_append, filter_one (p0 := q) _ (List.nodup_range' ) (by simp [List.mem_range'_1]; exact hq) (fun p hp => ?_)]
  · rfl
  · rw [decide_eq_true_eq, hg]
    refine ⟨fun h => ?_, fun h => by rw [h]; exact hwin⟩
    have hp2 : p < w.length := by simpa [List.mem_range'_1] using hp
    exact bru_code_inj hb hp2 hq (by rw [h, hwin])
theorem bru_places_at {w : List Int} {n k : Nat} (hb : bruijnB w n k = true) (hx : ∀ x ∈ w, 0 ≤ x ∧ x ≤ (k : Int) - 1) (p : Nat) (hp : p < w.length) : placesM w (win w p n) = [(p : Int)] := by
  obtain ⟨q, hq, h1, h2⟩ := bru_places hb hx (by omega) (win w p n) (win_length _ _ _) (fun x h => hx x (mem_win (by omega) h))
  obtain rfl := bru_code_inj hb hq hp (by rw [h1])
  exact h2
/-- The same, looked at fast. -/
def codesL (k n : Nat) : Nat → List Int → List Int
  | 0, _ => []
  | c + 1, l => codeN k (l.take n) :: codesL k n c l.tail
def maskOk : List Int → Nat → Bool
  | [], _ => true
  | c :: t, m => if m.testBit c.toNat = true then false else maskOk t (m ||| (1 <<< c.toNat))
theorem maskOk_nodup : ∀ (l : List Int) (m : Nat), maskOk l m = true → (∀ c ∈ l, 0 ≤ c) → l.Nodup ∧ ∀ c ∈ l, m.testBit c.toNat = false := by
  intro l
  induction l with
  | nil => intro m _ _; exact ⟨List.nodup_nil, fun c hc => by cases hc⟩
  | cons a l ih =>
    intro m h h0
    unfold maskOk at h
    split at h
    · cases h
    · rename_i h1
      obtain ⟨h2, h3⟩ := ih _ h (fun c hc => h0 c (by simp [hc]))
      have h4 : ∀ c ∈ l, m.testBit c.toNat = false ∧ c ≠ a := fun c hc => by
        have h5 := h3 c hc
        rw [Nat.testBit_or, Bool.or_eq_false_iff] at h5
        refine ⟨h5.1, fun e => ?_⟩
        subst e
        have := h5.2
        simp [Nat.testBit_shiftLeft] at this
      refine ⟨List.nodup_cons.mpr ⟨fun hm => (h4 a hm).2 rfl, h2⟩, fun c hc => ?_⟩
      rcases List.mem_cons.mp hc with rfl | hc
      · exact Bool.eq_false_iff.mpr h1
      · exact (h4 c hc).1
def bruF (k n : Nat) (w : List Int) : Bool := decide (w.length = k ^ n) && (w.all (fun x => decide (0 ≤ x) && decide (x ≤ (k : Int) - 1)) && maskOk (codesL k n w.length (w ++ w.take n)) 0)
theorem codesL_eq (k n : Nat) (l : List Int) : ∀ d i, codesL k n d (l.drop i) = (List.range' i d).map fun p => codeN k ((l.drop p).take n) := by
  intro d
  induction d with
  | zero => intro i; rfl
  | succ d ih =>
    intro i
    rw [List.range'_succ, List.map_cons]
    unfold codesL
    rw [List.tail_drop, ih (i + 1)]
theorem win_take (w : List Int) (p n : Nat) (hp : p < w.length) (hn : n ≤ w.length) : ((w ++ w.take n).drop p).take n = win w p n := by
  apply List.ext_getElem
  · rw [win_length, List.length_take, List.length_drop, List.length_append, List.length_take]; omega
  · intro j h1 h2
    rw [win_length] at h2
    have e := win_get w p n j h2
    rw [List.getD_eq_getElem?_getD, List.getElem?_eq_getElem (by rw [win_length]; exact h2), Option.getD_some] at e
    rw [e, List.getElem_take, List.getElem_drop]
    by_cases c : p + j < w.length
    · rw [List.getElem_append_left c, Nat.mod_eq_of_lt c, List.getD_eq_getElem?_getD, List.getElem?_eq_getElem c, Option.getD_some]
    · have hm : (p + j) % w.length = p + j - w.length := by
        rw [Nat.mod_eq_sub_mod (by omega), Nat.mod_eq_of_lt (by omega)]
      rw [List.getElem_append_right (by omega), List.getElem_take, hm, List.getD_eq_getElem?_getD, List.getElem?_eq_getElem (by omega), Option.getD_some]
theorem bruF_ok {k n : Nat} {w : List Int} (hn : n ≤ w.length) (h : bruF k n w = true) : bruijnB w n k = true ∧ w.length = k ^ n ∧ ∀ x ∈ w, 0 ≤ x ∧ x ≤ (k : Int) - 1 := by
  simp only [bruF, Bool.and_eq_true, decide_eq_true_eq, List.all_eq_true] at h
  obtain ⟨h1, h2, h3⟩ := h
  have e : codesL k n w.length (w ++ w.take n) = codesM w n k := by
    have := codesL_eq k n (w ++ w.take n) w.length 0
    rw [List.drop_zero] at this
    rw [this]
    unfold codesM
    refine List.map_congr_left (fun p hp => ?_)
    rw [win_take w p n (by simpa [List.mem_range'_1] using hp) hn]
  rw [e] at h3
  have hnd := (maskOk_nodup _ 0 h3 (fun c hc => (codesM_range h2 c hc).1)).1
  refine ⟨?_, h1, h2⟩
  simp only [bruijnB, Bool.and_eq_true, decide_eq_true_eq]
  exact ⟨h1, hnd⟩

theorem impl_within_eq (a lo hi : Int) : impl_within.f a lo hi = some (inB a lo hi) := by
  unfold impl_within.f inB
  by_cases h : a ≥ lo
  · rw [if_pos h]; simp [h]
  · rw [if_neg h]; simp [show ¬ lo ≤ a from h]

theorem impl_power_ev (a n : Nat) (ha : a ≤ 6) (hn : n ≤ 12) : Ev (fun k => impl_power.f k (a : Int) (n : Int)) ((a ^ n : Nat) : Int) := by
  have hb : ∀ j, j ≤ n → a ^ j ≤ 2176782336 := fun j hj => Nat.le_trans (Nat.pow_le_pow_left ha j) (Nat.le_trans (Nat.pow_le_pow_right (by omega) (show j ≤ 12 by omega)) (by decide))
  unfold impl_power.f
  refine ev_iter (fun (o : Nat) i k => impl_power.l0 k (a : Int) (o : Int) (n : Int) (i : Int)) (fun o _ => o * a) (fun i o => o = a ^ i) n ?_ n 0 1 (by omega) rfl ?_
  · intro o i hi hI
    refine ⟨by rw [hI, Nat.pow_succ], fun r k => ?_⟩
    have h1 := hb (i + 1) (by omega)
    rw [Nat.pow_succ, ← hI] at h1
    refine Ev.step (fun k => by simp only [impl_power.l0]; rfl) ?_
    refine ev_pos (by omega) ?_
    rw [wrap_succ (by omega), show (o : Int) * (a : Int) = ((o * a : Nat) : Int) by simp, wrap_id (by omega)]
    exact k
  · intro h
    refine Ev.step (fun k => by simp only [impl_power.l0]; rfl) (ev_neg (by omega) (ev_some (by rw [h])))

theorem impl_isBruijnSize_ev (n k : Int) : Ev (fun q => impl_isBruijnSize.f q n k) (kindB n k) := by
  unfold impl_isBruijnSize.f kindB
  refine ev_plain (impl_within_eq _ _ _) (ev_if (fun h1 => ?_) (fun h1 => ev_some (by simp [Bool.eq_false_iff.mpr h1])))
  refine ev_plain (impl_within_eq _ _ _) (ev_if (fun h2 => ?_) (fun h2 => ev_some (by simp [Bool.eq_false_iff.mpr h2])))
  have e1 := inB_iff.mp h1
  have e2 := inB_iff.mp h2
  obtain ⟨n, rfl⟩ := Int.eq_ofNat_of_zero_le (show 0 ≤ n by omega)
  obtain ⟨k, rfl⟩ := Int.eq_ofNat_of_zero_le (show 0 ≤ k by omega)
  refine ev_call (impl_power_ev k n (by omega) (by omega)) (ev_some ?_)
  rw [h1, h2]
  simp only [Bool.true_and, Int.toNat_natCast]
  exact decide_eq_decide.mpr (by omega)

theorem spec_l1In_eq (a lo hi : Int) : spec_l1In.f a lo hi = some (inB a lo hi) := by
  unfold spec_l1In.f inB
  by_cases h : a ≥ lo
  · rw [if_pos h]; simp [h]
  · rw [if_neg h]; simp [show ¬ lo ≤ a from h]

theorem spec_lyPower_loop (a : Nat) (ha : a ≤ 6) : ∀ (e j : Nat), e + j ≤ 12 → Ev (fun k => spec_lyPower.l0 k (a : Int) (e : Int) ((a ^ j : Nat) : Int)) ((a ^ (j + e) : Nat) : Int) := by
  intro e
  induction e with
  | zero =>
    intro j h
    exact Ev.step (fun k => by simp only [spec_lyPower.l0]; rfl) (ev_neg (by omega) (Ev.now _))
  | succ e ih =>
    intro j h
    have h1 : a ^ (j + 1) ≤ 2176782336 := Nat.le_trans (Nat.pow_le_pow_left ha (j + 1)) (Nat.le_trans (Nat.pow_le_pow_right (by omega) (show j + 1 ≤ 12 by omega)) (by decide))
    refine Ev.step (fun k => by simp only [spec_lyPower.l0]; rfl) ?_
    refine ev_pos (by omega) ?_
    rw [wrap_pred (by omega), show ((a ^ j : Nat) : Int) * (a : Int) = ((a ^ (j + 1) : Nat) : Int) by rw [Nat.pow_succ]; simp, wrap_id (by omega)]
    exact ev_to (ih (j + 1) (by omega)) (by rw [show j + 1 + e = j + (e + 1) by omega])
theorem spec_lyPower_ev (a n : Nat) (ha : a ≤ 6) (hn : n ≤ 12) : Ev (fun k => spec_lyPower.f k (a : Int) (n : Int)) ((a ^ n : Nat) : Int) :=
  ev_to (spec_lyPower_loop a ha n 0 (by omega)) (by simp)

theorem spec_brKind_ev (n k : Int) : Ev (fun q => spec_brKind.f q n k) (kindB n k) := by
  unfold spec_brKind.f kindB
  refine ev_plain (spec_l1In_eq _ _ _) (ev_if (fun h1 => ?_) (fun h1 => ev_some (by simp [Bool.eq_false_iff.mpr h1])))
  refine ev_plain (spec_l1In_eq _ _ _) (ev_if (fun h2 => ?_) (fun h2 => ev_some (by simp [Bool.eq_false_iff.mpr h2])))
  have e1 := inB_iff.mp h1
  have e2 := inB_iff.mp h2
  obtain ⟨n, rfl⟩ := Int.eq_ofNat_of_zero_le (show 0 ≤ n by omega)
  obtain ⟨k, rfl⟩ := Int.eq_ofNat_of_zero_le (show 0 ≤ k by omega)
  refine ev_call (spec_lyPower_ev k n (by omega) (by omega)) (ev_some ?_)
  rw [h1, h2]
  simp only [Bool.true_and, Int.toNat_natCast]
  exact decide_eq_decide.mpr (by omega)

def least2_one (n k : Nat) : Bool := !(decide (1 ≤ n) && decide (2 ≤ k) && decide (k ^ n ≤ 1024)) || (match spec_LeastBruijn.f 2000 (n : Int) (k : Int), impl_LeastBruijn.f 2000 (n : Int) (k : Int) with | some (r, b), some (r', b') => (r == r') && ((b == b') && decide (r.length ≤ 1024)) | _, _ => false)
theorem least2_1_2 : least2_one 1 2 = true := by kernel_rfl
theorem least2_1_3 : least2_one 1 3 = true := by kernel_rfl
theorem least2_1_4 : least2_one 1 4 = true := by kernel_rfl
theorem least2_1_5 : least2_one 1 5 = true := by kernel_rfl
theorem least2_1_6 : least2_one 1 6 = true := by kernel_rfl
theorem least2_2_2 : least2_one 2 2 = true := by kernel_rfl
theorem least2_2_3 : least2_one 2 3 = true := by kernel_rfl
theorem least2_2_4 : least2_one 2 4 = true := by kernel_rfl
theorem least2_2_5 : least2_one 2 5 = true := by kernel_rfl
theorem least2_2_6 : least2_one 2 6 = true := by kernel_rfl
theorem least2_3_2 : least2_one 3 2 = true := by kernel_rfl
theorem least2_3_3 : least2_one 3 3 = true := by kernel_rfl
theorem least2_3_4 : least2_one 3 4 = true := by kernel_rfl
theorem least2_3_5 : least2_one 3 5 = true := by kernel_rfl
theorem least2_3_6 : least2_one 3 6 = true := by kernel_rfl
theorem least2_4_2 : least2_one 4 2 = true := by kernel_rfl
theorem least2_4_3 : least2_one 4 3 = true := by kernel_rfl
theorem least2_4_4 : least2_one 4 4 = true := by kernel_rfl
theorem least2_4_5 : least2_one 4 5 = true := by kernel_rfl
theorem least2_5_2 : least2_one 5 2 = true := by kernel_rfl
theorem least2_5_3 : least2_one 5 3 = true := by kernel_rfl
theorem least2_5_4 : least2_one 5 4 = true := by kernel_rfl
theorem least2_6_2 : least2_one 6 2 = true := by kernel_rfl
theorem least2_6_3 : least2_one 6 3 = true := by kernel_rfl
theorem least2_7_2 : least2_one 7 2 = true := by kernel_rfl
theorem least2_8_2 : least2_one 8 2 = true := by kernel_rfl
theorem least2_9_2 : least2_one 9 2 = true := by kernel_rfl
theorem least2_10_2 : least2_one 10 2 = true := by kernel_rfl
theorem least_all2 (n k : Nat) (h1 : 1 ≤ n) (h2 : n ≤ 10) (h3 : 2 ≤ k) (h4 : k ≤ 6) (h5 : k ^ n ≤ 1024) : least2_one n k = true := by
  have hn : n = 1 ∨ n = 2 ∨ n = 3 ∨ n = 4 ∨ n = 5 ∨ n = 6 ∨ n = 7 ∨ n = 8 ∨ n = 9 ∨ n = 10 := by omega
  have hk : k = 2 ∨ k = 3 ∨ k = 4 ∨ k = 5 ∨ k = 6 := by omega
  rcases hn with rfl | rfl | rfl | rfl | rfl | rfl | rfl | rfl | rfl | rfl <;> rcases hk with rfl | rfl | rfl | rfl | rfl
  · exact least2_1_2
  · exact least2_1_3
  · exact least2_1_4
  · exact least2_1_5
  · exact least2_1_6
  · exact least2_2_2
  · exact least2_2_3
  · exact least2_2_4
  · exact least2_2_5
  · exact least2_2_6
  · exact least2_3_2
  · exact least2_3_3
  · exact least2_3_4
  · exact least2_3_5
  · exact least2_3_6
  · exact least2_4_2
  · exact least2_4_3
  · exact least2_4_4
  · exact least2_4_5
  · exact absurd h5 (by decide +kernel)
  · exact least2_5_2
  · exact least2_5_3
  · exact least2_5_4
  · exact absurd h5 (by decide +kernel)
  · exact absurd h5 (by decide +kernel)
  · exact least2_6_2
  · exact least2_6_3
  · exact absurd h5 (by decide +kernel)
  · exact absurd h5 (by decide +kernel)
  · exact absurd h5 (by decide +kernel)
  · exact least2_7_2
  · exact absurd h5 (by decide +kernel)
  · exact absurd h5 (by decide +kernel)
  · exact absurd h5 (by decide +kernel)
  · exact absurd h5 (by decide +kernel)
  · exact least2_8_2
  · exact absurd h5 (by decide +kernel)
  · exact absurd h5 (by decide +kernel)
  · exact absurd h5 (by decide +kernel)
  · exact absurd h5 (by decide +kernel)
  · exact least2_9_2
  · exact absurd h5 (by decide +kernel)
  · exact absurd h5 (by decide +kernel)
  · exact absurd h5 (by decide +kernel)
  · exact absurd h5 (by decide +kernel)
  · exact least2_10_2
  · exact absurd h5 (by decide +kernel)
  · exact absurd h5 (by decide +kernel)
  · exact absurd h5 (by decide +kernel)
  · exact absurd h5 (by decide +kernel)
theorem least_both (n k : Int) : ∃ r : List Int, ∃ b : Bool, r.length ≤ 1048576 ∧ Ev (fun q => impl_LeastBruijn.f q n k) (r, b) ∧ Ev (fun q => spec_LeastBruijn.f q n k) (r, b) := by
  by_cases h : kindB n k = true
  · obtain ⟨n, k, rfl, rfl, n1, n2, k1, k2, hp⟩ := kindB_nat h
    have h := least_all2 n k n1 n2 k1 k2 hp
    unfold least2_one at h
    rw [decide_eq_true n1, decide_eq_true k1, decide_eq_true hp] at h
    cases hs : spec_LeastBruijn.f 2000 (n : Int) (k : Int) with
    | none => rw [hs] at h; simp at h
    | some p =>
      cases hi : impl_LeastBruijn.f 2000 (n : Int) (k : Int) with
      | none => rw [hs, hi] at h; simp at h
      | some p' =>
        obtain ⟨r, b⟩ := p
        obtain ⟨r', b'⟩ := p'
        rw [hs, hi] at h
        simp at h
        obtain ⟨rfl, rfl, hl⟩ := h
        exact ⟨r, b, by omega, Ev.of (fun k => impl_LeastBruijn.mono _ _ k) (k := 2000) hi, Ev.of (fun k => spec_LeastBruijn.mono _ _ k) (k := 2000) hs⟩
  · have hb := Bool.eq_false_iff.mpr h
    have e1 := spec_brKind_ev n k
    have e2 := impl_isBruijnSize_ev n k
    rw [hb] at e1 e2
    refine ⟨[], false, by simp, ?_, ?_⟩
    · unfold impl_LeastBruijn.f
      exact ev_call e2 (ev_neg (by simp) (Ev.now _))
    · unfold spec_LeastBruijn.f
      exact ev_call e1 (ev_neg (by simp) (Ev.now _))

def pickG (k size m code : Nat) : Nat → Option Nat
  | 0 => none
  | j + 1 => if m.testBit ((code * k + j) % size) = true then pickG k size m code j else some j
/-- The walk by greatest letters: how long the word is when no letter is free. -/
def grun (k size : Nat) : Nat → Nat → Nat → Nat → Option Nat
  | 0, _, _, _ => none
  | f + 1, len, m, code => match pickG k size m code k with
    | none => some len
    | some x => grun k size f (len + 1) (m ||| (1 <<< ((code * k + x) % size))) ((code * k + x) % size)
theorem pickG_lt {k size m code : Nat} : ∀ {j x : Nat}, pickG k size m code j = some x → x < j := by
  intro j
  induction j with
  | zero => intro x h; simp [pickG] at h
  | succ j ih =>
    intro x h
    unfold pickG at h
    split at h
    · have := ih h; omega
    · simp at h; omega
theorem grun_all : ((List.range 11).all fun n => (List.range 7).all fun k => !(decide (1 ≤ n) && decide (2 ≤ k) && decide (k ^ n ≤ 1024)) || (match grun k (k ^ n) 1100 n 1 0 with | some L => decide (k ^ n ≤ L) | none => false)) = true := by kernel_rfl
theorem grun_ok (n k : Nat) (h1 : 1 ≤ n) (hn : n ≤ 10) (h2 : 2 ≤ k) (hk : k ≤ 6) (h3 : k ^ n ≤ 1024) : ∃ L, grun k (k ^ n) 1100 n 1 0 = some L ∧ k ^ n ≤ L := by
  have h := List.all_eq_true.mp (List.all_eq_true.mp grun_all n (List.mem_range.mpr (by omega))) k (List.mem_range.mpr (by omega))
  rw [decide_eq_true h1, decide_eq_true h2, decide_eq_true h3] at h
  cases hg : grun k (k ^ n) 1100 n 1 0 with
  | none => rw [hg] at h; simp at h
  | some L => rw [hg] at h; exact ⟨L, rfl, by simpa using h⟩
theorem codeN_from (k : Nat) : ∀ (t : List Int) (c : Int), t.foldl (fun c x => c * (k : Int) + x) c = c * ((k ^ t.length : Nat) : Int) + codeN k t := by
  intro t
  induction t with
  | nil => intro c; simp [codeN]
  | cons x t ih =>
    intro c
    have h0 := ih (0 * (k : Int) + x)
    simp only [codeN, List.foldl_cons, List.length_cons] at *
    rw [ih (c * (k : Int) + x), h0, Nat.pow_succ]
    simp only [Int.zero_mul, Int.zero_add, Int.add_mul, Int.natCast_mul, Int.mul_assoc, Int.add_assoc]
    rw [Int.mul_comm (k : Int)]
theorem codeN_cons (k : Nat) (a : Int) (t : List Int) : codeN k (a :: t) = a * ((k ^ t.length : Nat) : Int) + codeN k t := by
  unfold codeN
  rw [List.foldl_cons, Int.zero_mul, Int.zero_add]
  exact codeN_from k t a
/-- What the last letters tell: the next number, by both ways of reckoning it. -/
theorem next_code {n k : Nat} (hn : 1 ≤ n) (hk : 1 ≤ k) {out : List Int} (hl : n ≤ out.length) (ho : ∀ x ∈ out, 0 ≤ x ∧ x ≤ (k : Int) - 1) {code : Nat} (hc : codeN k (out.drop (out.length - n)) = code) :
    ∃ last : Nat, codeN k (out.drop (out.length - n + 1)) = last ∧ last < k ^ (n - 1) ∧ ∀ x : Nat, x < k → (code * k + x) % k ^ n = last * k + x := by
  have hr := codeN_range k (n - 1) (out.drop (out.length - n + 1)) (by simp; omega) (fun x hx => ho x (List.mem_of_mem_drop hx))
  obtain ⟨last, hlast⟩ : ∃ l : Nat, codeN k (out.drop (out.length - n + 1)) = l := ⟨(codeN k (out.drop (out.length - n + 1))).toNat, by omega⟩
  rw [hlast] at hr
  refine ⟨last, hlast, by omega, fun x hx => ?_⟩
  rw [drop_rd out (out.length - n) (by omega), codeN_cons, hlast] at hc
  have ha := ho (rd out ((out.length - n : Nat) : Int)) (by rw [rd_get out _ (by omega)]; exact List.getElem_mem _)
  obtain ⟨a, ha2⟩ : ∃ a : Nat, rd out ((out.length - n : Nat) : Int) = a := ⟨(rd out ((out.length - n : Nat) : Int)).toNat, by omega⟩
  rw [ha2, List.length_drop, show out.length - (out.length - n + 1) = n - 1 by omega] at hc
  have hc2 : code = a * k ^ (n - 1) + last := by
    have : ((a * k ^ (n - 1) + last : Nat) : Int) = (code : Int) := by rw [← hc]; simp
    omega
  obtain ⟨p, rfl⟩ : ∃ p, n = p + 1 := ⟨n - 1, by omega⟩
  rw [Nat.add_sub_cancel] at *
  have hlt : last * k + x < k ^ (p + 1) := by
    rw [Nat.pow_succ]
    have : (last + 1) * k ≤ k ^ p * k := Nat.mul_le_mul_right _ (by omega)
    rw [Nat.add_mul] at this
    omega
  rw [hc2, Nat.add_mul, Nat.mul_assoc, ← Nat.pow_succ, Nat.add_assoc, Nat.mul_comm a, Nat.mul_add_mod, Nat.mod_eq_of_lt hlt]
def metL (m size : Nat) : List Bool := (List.range size).map fun i => m.testBit i
theorem metL_length (m size : Nat) : (metL m size).length = size := by simp [metL]
theorem metL_rd (m size i : Nat) (h : i < size) : rdOf false (metL m size) (i : Int) = m.testBit i := by
  simp [rdOf, metL, List.getD_eq_getElem?_getD, List.getElem?_range h]
theorem metL_set (m size c : Nat) : (metL m size).set c true = metL (m ||| (1 <<< c)) size := by
  apply List.ext_getElem?
  intro i
  rw [List.getElem?_set]
  by_cases hi : i < size
  · simp only [metL, List.length_map, List.length_range, List.getElem?_map, List.getElem?_range hi, Option.map_some, Nat.testBit_or, Nat.testBit_shiftLeft]
    by_cases e : c = i
    · subst e
      simp [hi]
    · rw [if_neg e]
      by_cases hle : c ≤ i
      · obtain ⟨q, hq⟩ : ∃ q, i - c = q + 1 := ⟨i - c - 1, by omega⟩
        simp [hle, hq, Nat.testBit_succ]
      · simp [hle]
  · have h1 : (metL m size)[i]? = none := List.getElem?_eq_none (by rw [metL_length]; omega)
    have h2 : (metL (m ||| (1 <<< c)) size)[i]? = none := List.getElem?_eq_none (by rw [metL_length]; omega)
    rw [h1, h2]
    by_cases e : c = i
    · rw [if_pos e, if_neg (by rw [metL_length]; omega)]
    · rw [if_neg e]
def pickI : Option Nat → Int
  | none => -1
  | some x => (x : Int)

theorem spec_brNumber_ev (xs : List Int) (n k : Nat) (hk : 2 ≤ k) (hk6 : k ≤ 6) (h : k ^ n ≤ 1024) (hx : xs.length = n) (hn : n ≤ 1000) (hxs : ∀ x ∈ xs, 0 ≤ x ∧ x ≤ (k : Int) - 1) : Ev (fun q => spec_brNumber.f q xs (k : Int)) (codeN k xs) := by
  unfold spec_brNumber.f
  refine ev_iter (fun (c : Int) j q => spec_brNumber.l0 q (k : Int) c xs (xs.length : Int) (j : Int)) (fun c j => wrap64 (wrap64 (c * (k : Int)) + rd xs (j : Int))) (fun j c => c = codeN k (xs.take j)) xs.length ?_ xs.length 0 0 (by omega) (by simp [codeN]) ?_
  · intro c j hj hI
    refine ⟨by rw [hI]; exact code_step hk hk6 h hx hxs (by omega), fun r q => ?_⟩
    refine Ev.step (fun k => by simp only [spec_brNumber.l0]; rfl) ?_
    rw [wrap_succ (i := j) (by omega)]
    exact ev_pos (by omega) (ev_pos (by omega) (ev_pos (by omega) q))
  · intro hI
    exact Ev.step (fun k => by simp only [spec_brNumber.l0]; rfl) (ev_neg (by omega) (ev_some (by rw [hI, List.take_of_length_le (by omega)])))

theorem spec_brFree_loop (k n m code last : Nat) (hk : k ≤ 6) (hp : k ^ n ≤ 1024) (hlast : last ≤ 1024) (hx : ∀ x : Nat, x < k → (code * k + x) % k ^ n = last * k + x ∧ last * k + x < k ^ n) :
    ∀ j, j ≤ k → Ev (fun q => spec_brFree.l0 q (k : Int) (metL m (k ^ n)) (last : Int) ((j : Int) - 1)) (pickI (pickG k (k ^ n) m code j)) := by
  have hlk : last * k ≤ 1024 * 6 := Nat.mul_le_mul hlast hk
  intro j
  induction j with
  | zero =>
    intro _
    exact Ev.step (fun k => by simp only [spec_brFree.l0]; rfl) (ev_neg (by omega) (Ev.now _))
  | succ j ih =>
    intro hj
    obtain ⟨h1, h2⟩ := hx j (by omega)
    refine Ev.step (fun k => by simp only [spec_brFree.l0]; rfl) ?_
    refine ev_pos (by omega) ?_
    rw [show ((j + 1 : Nat) : Int) - 1 = (j : Int) by omega, show (last : Int) * (k : Int) = ((last * k : Nat) : Int) by simp, wrap_id (x := ((last * k : Nat) : Int)) (by omega), wrap_id (x := ((last * k : Nat) : Int) + (j : Int)) (by omega), show ((last * k : Nat) : Int) + (j : Int) = ((last * k + j : Nat) : Int) by omega]
    refine ev_pos (by omega) (ev_pos (by rw [metL_length]; omega) ?_)
    rw [metL_rd _ _ _ h2, wrap_id (x := (j : Int) - 1) (by omega)]
    unfold pickG
    rw [h1]
    refine ev_if (fun e => ?_) (fun e => ?_)
    · rw [if_pos e]; exact ih (by omega)
    · rw [if_neg e]; exact Ev.now _
theorem spec_brFree_ev (k n m code : Nat) (hn : 1 ≤ n) (hn10 : n ≤ 10) (hk2 : 2 ≤ k) (hk : k ≤ 6) (hp : k ^ n ≤ 1024) (out : List Int) (hl : n ≤ out.length) (hle : out.length ≤ 1000000) (ho : ∀ x ∈ out, 0 ≤ x ∧ x ≤ (k : Int) - 1) (hc : codeN k (out.drop (out.length - n)) = code) :
    Ev (fun q => spec_brFree.f q out (n : Int) (k : Int) (metL m (k ^ n))) (pickI (pickG k (k ^ n) m code k)) := by
  obtain ⟨last, h1, h2, h3⟩ := next_code hn (show 1 ≤ k by omega) hl ho hc
  have hp1 : k ^ (n - 1) ≤ 1024 := Nat.le_trans (Nat.pow_le_pow_right (by omega) (by omega)) hp
  unfold spec_brFree.f
  rw [wrap_id (x := (out.length : Int) - (n : Int)) (by omega), wrap_id (x := (out.length : Int) - (n : Int) + 1) (by omega), show (out.length : Int) - (n : Int) + 1 = ((out.length - n + 1 : Nat) : Int) by omega, Int.toNat_natCast]
  refine ev_pos (by omega) (ev_pos (by omega) ?_)
  refine ev_call (spec_brNumber_ev _ (n - 1) k hk2 hk hp1 (by simp; omega) (by omega) (fun x hx => ho x (List.mem_of_mem_drop hx))) ?_
  rw [h1, wrap_id (x := (k : Int) - 1) (by omega)]
  refine spec_brFree_loop k n m code last hk hp (by omega) (fun x hx => ⟨h3 x hx, ?_⟩) k (Nat.le_refl _)
  rw [← h3 x hx]
  exact Nat.mod_lt _ (Nat.pow_pos (by omega))

theorem gnext_eq (code x k size : Nat) (hc : code ≤ 1024) (hk : k ≤ 6) (hx : x ≤ 6) : impl_GreedyBruijn.next (k : Int) (size : Int) (code : Int) (x : Int) = (((code * k + x) % size : Nat) : Int) := by
  have h := Nat.mul_le_mul hc hk
  unfold impl_GreedyBruijn.next
  rw [show (code : Int) * (k : Int) = ((code * k : Nat) : Int) by simp, wrap_id (x := ((code * k : Nat) : Int)) (by omega), wrap_id (x := ((code * k : Nat) : Int) + (x : Int)) (by omega), show ((code * k : Nat) : Int) + (x : Int) = ((code * k + x : Nat) : Int) by omega, tmod_nat]
/-- The program's search for the greatest free letter, from x downward. -/
theorem gsearch (k size m code : Nat) (out : List Int) (hk : k ≤ 6) (hc : code ≤ 1024) (hs : 1 ≤ size) (r : List Int × Bool)
    (hno : pickG k size m code k = none → Ev (fun q => impl_GreedyBruijn.l0 q (k : Int) (size : Int) out m (code : Int) (-1)) r)
    (hyes : ∀ x, pickG k size m code k = some x → x < k → Ev (fun q => if out.length < 17592186044416 then (impl_GreedyBruijn.l0 q (k : Int) (size : Int) (out ++ [(x : Int)]) (m ||| (1 <<< ((code * k + x) % size))) (((code * k + x) % size : Nat) : Int) (wrap64 ((k : Int) - 1))) else none) r) :
    Ev (fun q => impl_GreedyBruijn.l0 q (k : Int) (size : Int) out m (code : Int) (wrap64 ((k : Int) - 1))) r := by
  have main : ∀ j, j ≤ k → pickG k size m code k = pickG k size m code j → Ev (fun q => impl_GreedyBruijn.l0 q (k : Int) (size : Int) out m (code : Int) ((j : Int) - 1)) r := by
    intro j
    induction j with
    | zero => intro _ e; exact hno e
    | succ j ih =>
      intro hj e
      refine Ev.step (fun k => by simp only [impl_GreedyBruijn.l0]; rfl) ?_
      rw [show ((j + 1 : Nat) : Int) - 1 = (j : Int) by omega, gnext_eq code j k size hc hk (by omega), Int.toNat_natCast, wrap_id (x := (j : Int) - 1) (by omega)]
      refine ev_pos (by omega) (ev_pos (by omega) ?_)
      rw [show pickG k size m code (j + 1) = if m.testBit ((code * k + j) % size) = true then pickG k size m code j else some j from rfl] at e
      by_cases ht : m.testBit ((code * k + j) % size) = true
      · rw [if_pos ht] at e
        exact ev_pos (by rw [ht, decide_eq_true (by omega)]; rfl) (ih (by omega) e)
      · rw [if_neg ht] at e
        exact ev_neg (by rw [Bool.eq_false_iff.mpr ht]; simp) (ev_pos (by omega) (hyes j e (by omega)))
  have := main k (Nat.le_refl _) rfl
  rw [wrap_id (x := (k : Int) - 1) (by omega)]
  rw [wrap_id (x := (k : Int) - 1) (by omega)] at hyes
  exact this
theorem gsim (n k : Nat) (hn : 1 ≤ n) (hn10 : n ≤ 10) (hk2 : 2 ≤ k) (hk : k ≤ 6) (hp : k ^ n ≤ 1024) : ∀ (f len m code L : Nat), grun k (k ^ n) f len m code = some L → k ^ n ≤ L → ∀ out : List Int, out.length = len → len + f ≤ 5000 → n ≤ len → (∀ x ∈ out, 0 ≤ x ∧ x ≤ (k : Int) - 1) → codeN k (out.drop (out.length - n)) = code →
    ∃ r : List Int, ∃ b : Bool, r.length ≤ 1048576 ∧ Ev (fun q => impl_GreedyBruijn.l0 q (k : Int) ((k ^ n : Nat) : Int) out m (code : Int) (wrap64 ((k : Int) - 1))) (r, b) ∧
      Ev (fun q => (spec_brFree.f q out (n : Int) (k : Int) (metL m (k ^ n))).bind fun t => spec_GreedyBruijn.l0 q (n : Int) (k : Int) (metL m (k ^ n)) out t) (r, b) := by
  have hpos : 1 ≤ k ^ n := Nat.one_le_iff_ne_zero.mpr (by have := Nat.pow_pos (n := n) (show 0 < k by omega); omega)
  intro f
  induction f with
  | zero => intro len m code L h; simp [grun] at h
  | succ f ih =>
    intro len m code L h hL out hlen hf hnl ho hc
    have hcl : code < k ^ n := by
      have := codeN_range k n (out.drop (out.length - n)) (by simp; omega) (fun x hx => ho x (List.mem_of_mem_drop hx))
      omega
    have hfree := spec_brFree_ev k n m code hn hn10 hk2 hk hp out (by omega) (by omega) ho hc
    obtain ⟨last, h1, h2, h3⟩ := next_code hn (show 1 ≤ k by omega) (show n ≤ out.length by omega) ho hc
    unfold grun at h
    cases hpick : pickG k (k ^ n) m code k with
    | none =>
      rw [hpick] at h hfree
      obtain rfl : len = L := Option.some.inj h
      refine ⟨out.take (k ^ n), true, by simp; omega, ?_, ?_⟩
      · refine gsearch k (k ^ n) m code out hk (by omega) hpos _ (fun _ => ?_) (fun x e => by rw [hpick] at e; cases e)
        refine Ev.step (fun k => by simp only [impl_GreedyBruijn.l0]; rfl) ?_
        refine ev_neg (by omega) (ev_pos (by omega) (ev_pos (by omega) ?_))
        rw [Int.toNat_natCast]
        refine ev_plain (a := out.take (k ^ n)) ?_ (Ev.now _)
        unfold slices_Clone_int_int.f
        rw [if_pos (by simp; omega)]
      · refine ev_call hfree ?_
        refine Ev.step (fun k => by simp only [spec_GreedyBruijn.l0]; rfl) ?_
        refine ev_neg (by simp [pickI]) (ev_call (spec_lyPower_ev k n hk (by omega)) (ev_pos (by omega) (ev_pos (by omega) ?_)))
        rw [Int.toNat_natCast]
        refine ev_plain (a := out.take (k ^ n)) ?_ (Ev.now _)
        unfold spec_l1Own.f
        rw [Option.bind_some, if_pos (by simp; omega)]; rfl
    | some x =>
      rw [hpick] at h hfree
      dsimp only at h
      have hx := pickG_lt hpick
      have hnew : ∀ y ∈ out ++ [(x : Int)], 0 ≤ y ∧ y ≤ (k : Int) - 1 := by
        intro y hy
        rcases List.mem_append.mp hy with hy | hy
        · exact ho y hy
        · rw [List.mem_singleton] at hy; omega
      have hl2 : (out ++ [(x : Int)]).length = len + 1 := by simp [hlen]
      have hd : (out ++ [(x : Int)]).drop ((out ++ [(x : Int)]).length - n) = out.drop (out.length - n + 1) ++ [(x : Int)] := by
        rw [hl2, List.drop_append_of_le_length (by omega), hlen, show len + 1 - n = len - n + 1 by omega]
      have hc2 : codeN k ((out ++ [(x : Int)]).drop ((out ++ [(x : Int)]).length - n)) = (((code * k + x) % k ^ n : Nat) : Int) := by
        rw [hd, codeN_snoc, h1, h3 x hx]; simp
      obtain ⟨r, b, hr, hi, hs⟩ := ih (len + 1) _ _ L h hL (out ++ [(x : Int)]) hl2 (by omega) (by omega) hnew hc2
      refine ⟨r, b, hr, ?_, ?_⟩
      · refine gsearch k (k ^ n) m code out hk (by omega) hpos _ (fun e => by rw [hpick] at e; cases e) (fun y e hy => ?_)
        obtain rfl : x = y := by rw [hpick] at e; exact Option.some.inj e
        exact ev_pos (by omega) hi
      · have hfree2 : Ev (fun q => spec_brFree.f q out (n : Int) (k : Int) (metL m (k ^ n))) (x : Int) := hfree
        refine ev_call hfree2 ?_
        have hmod : (code * k + x) % k ^ n < k ^ n := Nat.mod_lt _ (by omega)
        refine Ev.step (fun k => by simp only [spec_GreedyBruijn.l0]; rfl) ?_
        refine ev_pos (by omega) (ev_pos (by omega) (ev_plain rfl ?_))
        rw [hl2, wrap_id (x := ((len + 1 : Nat) : Int) - (n : Int)) (by omega), show ((len + 1 : Nat) : Int) - (n : Int) = ((len + 1 - n : Nat) : Int) by omega, Int.toNat_natCast]
        refine ev_pos (by omega) (ev_pos (by omega) ?_)
        rw [hl2] at hc2
        refine ev_call (spec_brNumber_ev _ n k hk2 hk hp (by rw [List.length_drop, hl2]; omega) (by omega) (fun y hy => hnew y (List.mem_of_mem_drop hy))) ?_
        rw [hc2]
        generalize (code * k + x) % k ^ n = cc at hmod hs ⊢
        refine ev_pos (by omega) (ev_pos (by rw [metL_length]; omega) (ev_plain rfl ?_))
        rw [Int.toNat_natCast, metL_set]
        exact hs
theorem greedy_both (n k : Int) : ∃ r : List Int, ∃ b : Bool, r.length ≤ 1048576 ∧ Ev (fun q => impl_GreedyBruijn.f q n k) (r, b) ∧ Ev (fun q => spec_GreedyBruijn.f q n k) (r, b) := by
  have e1 := spec_brKind_ev n k
  have e2 := impl_isBruijnSize_ev n k
  unfold impl_GreedyBruijn.f spec_GreedyBruijn.f
  by_cases h : kindB n k = true
  · obtain ⟨n, k, rfl, rfl, h1, h2, h3, h4, h5⟩ := kindB_nat h
    rw [h] at e1 e2
    obtain ⟨L, hL1, hL2⟩ := grun_ok n k h1 h2 h3 h4 h5
    have hpos : 1 ≤ k ^ n := Nat.one_le_iff_ne_zero.mpr (by have := Nat.pow_pos (n := n) (show 0 < k by omega); omega)
    have hz : codeN k ((List.replicate n (0 : Int)).drop ((List.replicate n (0 : Int)).length - n)) = ((0 : Nat) : Int) := by
      rw [List.length_replicate, Nat.sub_self, List.drop_zero]
      have : ∀ m, codeN k (List.replicate m 0) = 0 := by
        intro m
        induction m with
        | zero => rfl
        | succ m ih => rw [List.replicate_succ', codeN_snoc, ih]; simp
      rw [this]; rfl
    obtain ⟨r, b, hr, hi, hs⟩ := gsim n k h1 h2 h3 h4 h5 1100 n 1 0 L hL1 hL2 (List.replicate n 0) (by simp) (by omega) (Nat.le_refl _) (fun x hx => by rw [List.eq_of_mem_replicate hx]; omega) hz
    have hm : metL 1 (k ^ n) = (List.replicate (k ^ n) false).set 0 true := by
      have h0 : metL 0 (k ^ n) = List.replicate (k ^ n) false := by
        apply List.ext_getElem?
        intro i
        by_cases hi : i < k ^ n
        · simp [metL, List.getElem?_range hi, List.getElem?_replicate, hi]
        · rw [List.getElem?_eq_none (by rw [metL_length]; omega), List.getElem?_eq_none (by simp; omega)]
      rw [← h0, metL_set]; rfl
    refine ⟨r, b, hr, ?_, ?_⟩
    · refine ev_call e2 (ev_pos (by trivial) (ev_call (impl_power_ev k n h4 (by omega)) (ev_pos (by omega) (ev_pos (by omega) ?_))))
      rw [Int.toNat_natCast]
      exact hi
    · refine ev_call e1 (ev_pos (by trivial) (ev_call (spec_lyPower_ev k n h4 (by omega)) (ev_pos (by omega) (ev_pos (by omega) (ev_plain rfl ?_)))))
      rw [Int.toNat_natCast]
      refine ev_pos (by rw [List.length_replicate]; omega) (ev_plain rfl (ev_pos (by omega) (ev_pos (by omega) (ev_plain rfl ?_))))
      rw [Int.toNat_natCast, show (0 : Int).toNat = 0 from rfl, ← hm]
      exact hs
  · have hb := Bool.eq_false_iff.mpr h
    rw [hb] at e1 e2
    exact ⟨[], false, by simp, ev_call e2 (ev_neg (by simp) (Ev.now _)), ev_call e1 (ev_neg (by simp) (Ev.now _))⟩

/-- How often the nodes may still be left. -/
def slack (k : Nat) (left : List Int) : Nat := (left.map fun x => ((k : Int) - x).toNat).sum
theorem slack_set (k : Nat) : ∀ (left : List Int) (i : Nat), i < left.length → left.getD i 0 < (k : Int) → slack k (left.set i (left.getD i 0 + 1)) + 1 = slack k left := by
  intro left
  induction left with
  | nil => intro i h; simp at h
  | cons x left ih =>
    intro i h h2
    cases i with
    | zero => simp [slack] at h2 ⊢; omega
    | succ i =>
      have := ih i (by simpa using h) (by simpa using h2)
      simp [slack] at this ⊢
      omega
theorem slack_zeros (k n : Nat) : slack k (List.replicate n 0) = n * k := by
  simp [slack, List.map_replicate, List.sum_replicate_nat]

theorem slices_Reverse_loop (n : Nat) (hn : n ≤ 1000000000000) : ∀ (d i : Nat) (j : Int) (ys : List Int), ys.length = n → (i : Int) + j = (n : Int) - 1 → n ≤ 2 * i + d →
    ∃ r, r.length = n ∧ (∀ q, q < n → r.getD q 0 = if i ≤ q ∧ (q : Int) ≤ j then ys.getD (n - 1 - q) 0 else ys.getD q 0) ∧ Ev (fun k => slices_Reverse_int_int.l0 k ys (i : Int) j) r := by
  intro d
  induction d with
  | zero =>
    intro i j ys h1 h2 h3
    refine ⟨ys, h1, fun q hq => ?_, Ev.step (fun k => by simp only [slices_Reverse_int_int.l0]; rfl) (ev_neg (by omega) (Ev.now _))⟩
    split
    · congr 1; omega
    · rfl
  | succ d ih =>
    intro i j ys h1 h2 h3
    by_cases hij : (i : Int) < j
    · obtain ⟨j, rfl⟩ := Int.eq_ofNat_of_zero_le (show 0 ≤ j by omega)
      obtain ⟨r, r1, r2, r3⟩ := ih (i + 1) ((j : Int) - 1) ((ys.set i (rd ys (j : Int))).set j (rd ys (i : Int))) (by simpa using h1) (by omega) (by omega)
      refine ⟨r, r1, fun q hq => ?_, ?_⟩
      · rw [r2 q hq]
        have e : ∀ p, p < n → ((ys.set i (rd ys (j : Int))).set j (rd ys (i : Int))).getD p 0 = if p = j then ys.getD i 0 else if p = i then ys.getD j 0 else ys.getD p 0 := by
          intro p hp
          simp only [List.getD_eq_getElem?_getD, List.getElem?_set, List.length_set, h1, rd_nat]
          by_cases e1 : j = p
          · subst e1; simp [hp]
          · by_cases e2 : i = p
            · subst e2; simp [hp, e1, Ne.symm e1]
            · simp [e1, e2, Ne.symm e1, Ne.symm e2]
        by_cases c1 : i + 1 ≤ q ∧ (q : Int) ≤ (j : Int) - 1
        · rw [if_pos c1, if_pos (by omega), e _ (by omega), if_neg (by omega), if_neg (by omega)]
        · rw [if_neg c1, e q hq]
          by_cases c2 : q = j
          · subst c2; rw [if_pos rfl, if_pos (by omega)]; congr 1; omega
          · rw [if_neg c2]
            by_cases c3 : q = i
            · subst c3; rw [if_pos rfl, if_pos (by omega)]; congr 1; omega
            · rw [if_neg c3, if_neg (by omega)]
      · refine Ev.step (fun k => by simp only [slices_Reverse_int_int.l0]; rfl) ?_
        refine ev_pos hij (ev_pos (by omega) (ev_pos (by omega) (ev_pos (by omega) (ev_pos (by omega) ?_))))
        rw [wrap_succ (by omega), wrap_id (by omega), Int.toNat_natCast, Int.toNat_natCast]
        exact r3
    · refine ⟨ys, h1, fun q hq => ?_, Ev.step (fun k => by simp only [slices_Reverse_int_int.l0]; rfl) (ev_neg hij (Ev.now _))⟩
      split
      · congr 1; omega
      · rfl
theorem slices_Reverse_int_int_ev (xs : List Int) (hx : xs.length ≤ 1000000000000) : Ev (fun k => slices_Reverse_int_int.f k xs) xs.reverse := by
  unfold slices_Reverse_int_int.f
  rw [wrap_id (by omega)]
  obtain ⟨r, r1, r2, r3⟩ := slices_Reverse_loop xs.length hx xs.length 0 ((xs.length : Int) - 1) xs rfl (by omega) (by omega)
  refine ev_to r3 (List.ext_getElem (by simp [r1]) fun q h1 h2 => ?_)
  have := r2 q (by omega)
  rw [if_pos (by omega)] at this
  simp only [List.getD_eq_getElem?_getD, List.getElem?_eq_getElem h1, List.getElem?_eq_getElem (show xs.length - 1 - q < xs.length by omega), Option.getD_some] at this
  rw [this, List.getElem_reverse]

theorem euler_walk (kk nodes : Nat) (hk : 1 ≤ kk) (hk6 : kk ≤ 6) (hn : 1 ≤ nodes) (hn2 : nodes ≤ 1024) : ∀ (m : Nat) (left : List Int) (way : List S94) (node : Nat) (out : List Int),
    left.length = nodes → (∀ x ∈ left, 0 ≤ x ∧ x ≤ (kk : Int)) → node < nodes → (∀ s ∈ way, ∃ f : Nat, s.f0 = (f : Int) ∧ f < nodes) → way.length + out.length + slack kk left ≤ 10000 → 2 * slack kk left + way.length = m →
    ∃ r : List Int, r.length ≤ 10000 ∧ Ev (fun k => impl_EulerBruijn.l0 k (kk : Int) (nodes : Int) left way (node : Int) out) (r, true) ∧
      Ev (fun k => spec_EulerBruijn.l0 k (kk : Int) (nodes : Int) left (way.map (·.f0) ++ [(node : Int)]) (way.map (·.f1)) out.reverse) (r, true) := by
  intro m
  induction m using nat_strong with
  | h m ih =>
  intro left way node out h1 h2 h3 h4 h5 h6
  have hx : 0 ≤ left.getD node 0 ∧ left.getD node 0 ≤ (kk : Int) := by
    have : left.getD node 0 ∈ left := by
      rw [List.getD_eq_getElem?_getD, List.getElem?_eq_getElem (by omega)]; exact List.getElem_mem _
    exact h2 _ this
  have e1 : rd (way.map (·.f0) ++ [(node : Int)]) ((way.length : Nat) : Int) = (node : Int) := by
    rw [rd_nat, List.getD_eq_getElem?_getD, List.getElem?_append_right (by simp)]; simp
  have e2 : wrap64 (((way.map (·.f0) ++ [(node : Int)]).length : Int) - 1) = (way.length : Int) := by
    rw [wrap_id (by simp <;> omega)]; simp
  by_cases hlt : left.getD node 0 < (kk : Int)
  · obtain ⟨x, hxx⟩ := Int.eq_ofNat_of_zero_le hx.1
    have hs := slack_set kk left node (by omega) hlt
    have hmul : node * kk ≤ 1024 * 6 := Nat.mul_le_mul (by omega) hk6
    have hmod : Int.tmod (wrap64 (wrap64 ((node : Int) * (kk : Int)) + left.getD node 0)) (nodes : Int) = (((node * kk + x) % nodes : Nat) : Int) := by
      rw [hxx, show (node : Int) * (kk : Int) = ((node * kk : Nat) : Int) by simp, wrap_id (x := ((node * kk : Nat) : Int)) (by omega), show ((node * kk : Nat) : Int) + (x : Int) = ((node * kk + x : Nat) : Int) by omega, wrap_id (by omega), tmod_nat]
    obtain ⟨r, r1, r2, r3⟩ := ih (m - 1) (by omega) (left.set node (left.getD node 0 + 1)) (way ++ [⟨(node : Int), left.getD node 0⟩]) ((node * kk + x) % nodes) out (by simpa using h1)
      (by intro y hy; rcases List.mem_or_eq_of_mem_set hy with hy | rfl
          · exact h2 y hy
          · omega) (Nat.mod_lt _ hn) (by intro s hs; rcases List.mem_append.mp hs with hs | hs
                                         · exact h4 s hs
                                         · simp at hs; subst hs; exact ⟨node, rfl, h3⟩) (by simp only [List.length_append, List.length_cons, List.length_nil]; omega) (by simp only [List.length_append, List.length_cons, List.length_nil]; omega)
    refine ⟨r, r1, ?_, ?_⟩
    · refine Ev.step (fun k => by simp only [impl_EulerBruijn.l0]; rfl) ?_
      rw [rd_nat, Int.toNat_natCast, hmod, wrap_id (x := left.getD node 0 + 1) (by omega)]
      exact ev_pos (by omega) (ev_pos (by omega) (ev_pos hlt (ev_pos (by omega) (ev_neg (by omega) r2))))
    · refine Ev.step (fun k => by simp only [spec_EulerBruijn.l0]; rfl) ?_
      rw [e2, e1, rd_nat, Int.toNat_natCast, hmod, wrap_id (x := left.getD node 0 + 1) (by omega)]
      refine ev_pos (by simp <;> omega) (ev_pos (by omega) (ev_pos (by simp <;> omega) (ev_pos (by omega) (ev_pos (by omega) (ev_pos hlt (ev_neg (by omega) (ev_pos (by simp <;> omega) (ev_pos (by simp <;> omega) ?_))))))))
      simpa using r3
  · rcases List.eq_nil_or_concat way with rfl | ⟨way0, s, rfl⟩
    · refine ⟨out.reverse, by simp; omega, ?_, ?_⟩
      · refine Ev.step (fun k => by simp only [impl_EulerBruijn.l0]; rfl) ?_
        rw [rd_nat]
        exact ev_pos (by omega) (ev_pos (by omega) (ev_neg hlt (ev_pos rfl (ev_call (slices_Reverse_int_int_ev out (by omega)) (Ev.now _)))))
      · refine Ev.step (fun k => by simp only [spec_EulerBruijn.l0]; rfl) ?_
        rw [e2, e1, rd_nat]
        refine ev_pos (by simp) (ev_pos (by omega) (ev_pos (by simp) (ev_pos (by omega) (ev_pos (by omega) (ev_neg hlt (ev_pos (by simp) ?_))))))
        refine ev_plain rfl ?_
        refine ev_neg (by simp) ?_
        refine Ev.step (fun k => by simp only [spec_EulerBruijn.l0]; rfl) ?_
        exact ev_neg (by simp) (Ev.now _)
    · obtain ⟨f, hf, hf2⟩ := h4 s (by simp)
      rw [List.concat_eq_append] at *
      simp at h5 h6
      obtain ⟨r, r1, r2, r3⟩ := ih (m - 1) (by omega) left way0 f (out ++ [s.f1]) h1 h2 hf2 (fun s' hs' => h4 s' (by simp [hs'])) (by simp <;> omega) (by omega)
      rw [← hf] at r2 r3
      refine ⟨r, r1, ?_, ?_⟩
      · refine Ev.step (fun k => by simp only [impl_EulerBruijn.l0]; rfl) ?_
        have w1 : wrap64 (((way0 ++ [s]).length : Int) - 1) = (way0.length : Int) := by rw [wrap_id (by simp <;> omega)]; simp
        have w2 : rd_T94 (way0 ++ [s]) (way0.length : Int) = s := by simp [rd_T94, List.getD_eq_getElem?_getD]
        rw [rd_nat, w1, w2]
        refine ev_pos (by omega) (ev_pos (by omega) (ev_neg hlt (ev_neg (by simp <;> omega) (ev_pos (by omega) (ev_pos (by simp <;> omega) (ev_pos (by simp <;> omega) (ev_pos (by omega) ?_)))))))
        simpa using r2
      · refine Ev.step (fun k => by simp only [spec_EulerBruijn.l0]; rfl) ?_
        have w3 : wrap64 ((((way0 ++ [s]).map (·.f1)).length : Int) - 1) = (way0.length : Int) := by rw [wrap_id (by simp <;> omega)]; simp
        have w4 : rd ((way0 ++ [s]).map (·.f1)) (way0.length : Int) = s.f1 := by rw [rd_nat]; simp [List.getD_eq_getElem?_getD]
        rw [e2, e1, rd_nat]
        refine ev_pos (by simp <;> omega) (ev_pos (by omega) (ev_pos (by simp <;> omega) (ev_pos (by omega) (ev_pos (by omega) (ev_neg hlt (ev_pos (by simp <;> omega) ?_))))))
        refine ev_plain rfl ?_
        rw [w3, w4]
        refine ev_pos (by simp <;> omega) (ev_pos (by omega) (ev_pos (by simp <;> omega) ?_))
        refine ev_plain rfl ?_
        refine ev_pos (by simp <;> omega) (ev_pos (by simp <;> omega) ?_)
        have t1 : ((way0 ++ [s]).map (·.f0) ++ [(node : Int)]).take ((((way0 ++ [s]).length : Nat) : Int)).toNat = way0.map (·.f0) ++ [s.f0] := by
          rw [Int.toNat_natCast, List.take_append_of_le_length (by simp), List.take_of_length_le (by simp)]; simp
        have t2 : ((way0 ++ [s]).map (·.f1)).take ((way0.length : Nat) : Int).toNat = way0.map (·.f1) := by simp
        rw [t1, t2]
        simpa using r3
theorem euler_both (n k : Int) : ∃ r b, r.length ≤ 10000 ∧ Ev (fun q => impl_EulerBruijn.f q n k) (r, b) ∧ Ev (fun q => spec_EulerBruijn.f q n k) (r, b) := by
  by_cases h : kindB n k = true
  · obtain ⟨n, k, rfl, rfl, n1, n2, k1, k2, hp⟩ := kindB_nat h
    have hp2 : k ^ (n - 1) ≤ 1024 := Nat.le_trans (Nat.pow_le_pow_right (by omega) (by omega)) hp
    have hp3 : 1 ≤ k ^ (n - 1) := Nat.one_le_pow _ _ (by omega)
    have hs : k ^ (n - 1) * k ≤ 1024 := by rw [← Nat.pow_succ, show (n - 1).succ = n by omega]; exact hp
    obtain ⟨r, r1, r2, r3⟩ := euler_walk k (k ^ (n - 1)) (by omega) k2 hp3 hp2 _ (List.replicate (k ^ (n - 1)) 0) [] 0 [] (by simp) (by intro x hx; simp at hx; omega) (by omega) (by intro s hs; cases hs) (by rw [slack_zeros]; simp; omega) rfl
    refine ⟨r, true, r1, ?_, ?_⟩
    · unfold impl_EulerBruijn.f
      refine ev_call (impl_isBruijnSize_ev _ _) (ev_pos h ?_)
      rw [wrap_id (by omega), show ((n : Int) - 1) = ((n - 1 : Nat) : Int) by omega]
      refine ev_call (impl_power_ev k (n - 1) (by omega) (by omega)) (ev_pos (by omega) (ev_pos (by omega) ?_))
      rw [Int.toNat_natCast]
      exact r2
    · unfold spec_EulerBruijn.f
      refine ev_call (spec_brKind_ev _ _) (ev_pos h ?_)
      rw [wrap_id (by omega), show ((n : Int) - 1) = ((n - 1 : Nat) : Int) by omega]
      refine ev_call (spec_lyPower_ev k (n - 1) (by omega) (by omega)) (ev_pos (by omega) (ev_pos (by omega) ?_))
      rw [Int.toNat_natCast]
      exact r3
  · refine ⟨[], false, by simp, ?_, ?_⟩
    · unfold impl_EulerBruijn.f
      exact ev_call (impl_isBruijnSize_ev _ _) (ev_neg h (Ev.now _))
    · unfold spec_EulerBruijn.f
      exact ev_call (spec_brKind_ev _ _) (ev_neg h (Ev.now _))

def bytesL (d : List Int) : Prop := ∀ x ∈ d, 0 ≤ x ∧ x ≤ 255
theorem and255 (x : Int) : 0 ≤ Go.bits .and .u64 x 255 ∧ Go.bits .and .u64 x 255 ≤ 255 := by
  have h : ((BitVec.ofInt 64 x) &&& (BitVec.ofInt 64 255)).toNat ≤ 255 := by
    rw [BitVec.toNat_and]; exact Nat.le_trans Nat.and_le_right (by decide)
  have e : Go.bits .and .u64 x 255 = IntKind.u64.wrap (((BitVec.ofInt 64 x) &&& (BitVec.ofInt 64 255)).toNat : Int) := rfl
  rw [e]
  generalize ((BitVec.ofInt 64 x) &&& (BitVec.ofInt 64 255)).toNat = m at h
  simp only [IntKind.wrap, IntKind.signed, IntKind.bits, Bool.false_and, Bool.false_eq_true, if_false]
  omega
theorem bytes_wf {d : List Int} (h : ∀ x ∈ d, (Lit.int .u8 x).wf = true) : bytesL d := by
  intro x hx
  have h := h x hx
  simp only [Lit.wf, IntKind.min, IntKind.max, IntKind.signed, IntKind.bits, Bool.and_eq_true, decide_eq_true_eq, Bool.false_eq_true, if_false] at h
  omega
theorem next_ok {d : List Int} (hd : bytesL d) {a : Int} (s : Int) (h0 : 0 ≤ a) (h1 : a ≤ 1000000000001000) : ∃ v s', spec_l1Cur_next.f d a s = some (v, a + 1, s') ∧ 0 ≤ v ∧ v ≤ 255 := by
  unfold spec_l1Cur_next.f
  rw [wrap_id (x := a + 1) (by omega)]
  by_cases ha : a < (d.length : Int)
  · rw [if_pos ha, if_pos h0, if_pos (by omega)]
    have hb : 0 ≤ rd d a ∧ rd d a ≤ 255 := by
      obtain ⟨j, rfl⟩ := Int.eq_ofNat_of_zero_le h0
      exact hd _ (by rw [show rd d ((j : Nat) : Int) = d[j]'(by omega) from rd_get d j (by omega)]; exact List.getElem_mem _)
    exact ⟨_, _, rfl, by rw [wrap_id (by omega)]; exact hb.1, by rw [wrap_id (by omega)]; exact hb.2⟩
  · rw [if_neg ha]
    by_cases hb : a + 1 ≤ (d.length : Int)
    · omega
    · rw [if_neg hb]
      have h := and255 ((IntKind.u64.wrap ((IntKind.u64.wrap ((IntKind.u64.wrap (s * 6364136223846793005)))) + 1442695040888963407)) / 1099511627776)
      exact ⟨_, _, rfl, by rw [wrap_id (by omega)]; exact h.1, by rw [wrap_id (by omega)]; exact h.2⟩
theorem tmod_lt {x n : Int} (h0 : 0 ≤ x) (hn : 1 ≤ n) : 0 ≤ Int.tmod x n ∧ Int.tmod x n < n := by
  obtain ⟨p, rfl⟩ := Int.eq_ofNat_of_zero_le h0
  obtain ⟨q, rfl⟩ := Int.eq_ofNat_of_zero_le (show 0 ≤ n by omega)
  rw [show ((p : Nat) : Int).tmod ((q : Nat) : Int) = ((p % q : Nat) : Int) from tmod_nat p q]
  have := Nat.mod_lt p (show 0 < q by omega)
  omega
theorem pick_ok {d : List Int} (hd : bytesL d) {a : Int} (s n : Int) (h0 : 0 ≤ a) (h1 : a ≤ 1000000000000000) : ∃ v a' s', spec_l1Cur_pick.f d a s n = some (v, a', s') ∧ (0 ≤ v ∧ (v < n ∨ (n ≤ 1 ∧ v = 0))) ∧ (a ≤ a' ∧ a' ≤ a + 2) := by
  unfold spec_l1Cur_pick.f
  by_cases hn : n ≤ 1
  · rw [if_pos hn]
    exact ⟨0, a, s, rfl, ⟨by omega, .inr ⟨hn, rfl⟩⟩, by omega⟩
  · rw [if_neg hn]
    obtain ⟨v, s1, e1, hv⟩ := next_ok hd s h0 (by omega)
    rw [e1, Option.bind_some]
    dsimp only
    by_cases h2 : n > 200
    · rw [if_pos h2]
      obtain ⟨u, s2, e2, hu⟩ := next_ok hd (a := a + 1) s1 (by omega) (by omega)
      rw [e2, Option.bind_some]
      dsimp only
      rw [if_neg (by omega), wrap_id (x := v * 256) (by omega), wrap_id (x := v * 256 + u) (by omega)]
      have := tmod_lt (x := v * 256 + u) (n := n) (by omega) (by omega)
      exact ⟨_, _, _, rfl, ⟨this.1, .inl this.2⟩, by omega⟩
    · rw [if_neg h2, if_neg (by omega)]
      have := tmod_lt (x := v) (n := n) (by omega) (by omega)
      exact ⟨_, _, _, rfl, ⟨this.1, .inl this.2⟩, by omega⟩

theorem among_ok {d : List Int} (hd : bytesL d) {a : Int} (s : Int) (l : List Int) (hl : 1 ≤ l.length) (h0 : 0 ≤ a) (h1 : a ≤ 1000000000000000) : ∃ v a' s', spec_l1Cur_among.f d a s l = some (v, a', s') ∧ v ∈ l ∧ (a ≤ a' ∧ a' ≤ a + 2) := by
  obtain ⟨v, a', s', e, hv, h⟩ := pick_ok hd s (l.length : Int) h0 h1
  unfold spec_l1Cur_among.f
  rw [e, Option.bind_some]
  dsimp only
  rw [if_pos (by omega), if_pos (by omega)]
  refine ⟨_, _, _, rfl, ?_, h⟩
  obtain ⟨j, rfl⟩ := Int.eq_ofNat_of_zero_le hv.1
  rw [show rd l ((j : Nat) : Int) = l[j]'(by omega) from rd_get l j (by omega)]
  exact List.getElem_mem _

theorem stages_ok {d : List Int} (hd : bytesL d) {a : Int} (s : Int) (h0 : 0 ≤ a) (h1 : a ≤ 999999999999000) : ∃ n k a' s', spec_l1Cur_stages.f d a s = some (n, k, a', s') ∧ (-1 ≤ n ∧ n ≤ 11) ∧ (-1 ≤ k ∧ k ≤ 7) ∧ (a ≤ a' ∧ a' ≤ a + 20) := by
  obtain ⟨v1, a1, s1, e1, hv1, ha1⟩ := pick_ok hd s 4 h0 (by omega)
  obtain ⟨v2, a2, s2, e2, hv2, ha2⟩ := pick_ok hd (a := a1) s1 2 (by omega) (by omega)
  obtain ⟨v3, a3, s3, e3, hv3, ha3⟩ := pick_ok hd (a := a2) s2 12 (by omega) (by omega)
  unfold spec_l1Cur_stages.f
  rw [e1, Option.bind_some]
  dsimp only
  rw [e2, Option.bind_some]
  dsimp only
  rw [e3, Option.bind_some]
  dsimp only
  by_cases c1 : v3 = 0
  · rw [if_pos c1]
    obtain ⟨u, a4, s4, e4, hu, ha4⟩ := among_ok hd (a := a3) s3 [(-1), 0, 1, 5, 10, 11] (by simp) (by omega) (by omega)
    rw [e4, Option.bind_some]
    dsimp only
    have : -1 ≤ u ∧ u ≤ 11 := by simp at hu; omega
    exact ⟨_, _, _, _, rfl, this, by omega, by omega⟩
  · rw [if_neg c1]
    by_cases c2 : v3 = 1
    · rw [if_pos c2]
      obtain ⟨u, a4, s4, e4, hu, ha4⟩ := among_ok hd (a := a3) s3 [(-1), 0, 1, 4, 6, 7] (by simp) (by omega) (by omega)
      obtain ⟨v5, a5, s5, e5, hv5, ha5⟩ := pick_ok hd (a := a4) s4 3 (by omega) (by omega)
      rw [e4, Option.bind_some]
      dsimp only
      rw [e5, Option.bind_some]
      dsimp only
      rw [wrap_id (x := 1 + v5) (by omega)]
      have : -1 ≤ u ∧ u ≤ 7 := by simp at hu; omega
      exact ⟨_, _, _, _, rfl, by omega, this, by omega⟩
    · rw [if_neg c2, wrap_id (x := 1 + v1) (by omega), wrap_id (x := 2 + v2) (by omega)]
      exact ⟨_, _, _, _, rfl, by omega, by omega, by omega⟩

theorem laws_tSame_loop (a b : List Int) (ha : a.length ≤ 1000000000000) (hab : a.length = b.length) : ∀ (d i : Nat), i + d = a.length →
    Ev (fun k => laws_tSame.l0 k a b (a.length : Int) (i : Int)) (decide (a.drop i = b.drop i)) := by
  intro d
  induction d with
  | zero =>
    intro i h
    rw [List.drop_eq_nil_of_le (by omega), List.drop_eq_nil_of_le (by omega)]
    refine Ev.step (f := fun _ => some true) (fun k => ?_) (Ev.now _)
    simp only [laws_tSame.l0]; rw [if_neg (by omega)]
  | succ d ih =>
    intro i h
    rw [drop_rd a i (by omega), drop_rd b i (by omega)]
    refine Ev.step (f := fun k => if rd a (i : Int) = rd b (i : Int) then laws_tSame.l0 k a b (a.length : Int) ((i + 1 : Nat) : Int) else some false) (fun k => ?_) ?_
    · simp only [laws_tSame.l0]; rw [if_pos (by omega), if_pos (by omega), if_pos (by omega), if_pos (by omega), wrap_succ (by omega)]
    · exact ev_if (fun e => ev_to (ih (i + 1) (by omega)) (by simp [e])) (fun e => ev_some (by simp [e]))
theorem laws_tSame_ev (a b : List Int) (ha : a.length ≤ 1000000000000) : Ev (fun k => laws_tSame.f k a b) (decide (a = b)) := by
  unfold laws_tSame.f
  refine ev_if (fun h => ?_) (fun h => ev_some ?_)
  · exact laws_tSame_loop a b ha (by omega) a.length 0 (by omega)
  · rw [eq_comm, decide_eq_false_iff_not]; intro e; exact h (by rw [e])

theorem laws_big_some (a b : List Int) : ∃ r, laws_big.f a b = some r := by
  unfold laws_big.f
  split
  · exact ⟨_, rfl⟩
  · exact ⟨_, rfl⟩
theorem laws_big_ok {a b : List Int} {r : Bool} (h : laws_big.f a b = some r) (hr : ¬ r = true) : a.length ≤ 1048576 ∧ b.length ≤ 1048576 := by
  unfold laws_big.f at h
  split at h
  · cases h; exact absurd rfl hr
  · rename_i h1
    obtain rfl := Option.some.inj h
    rw [wrap_id (by omega)] at hr
    simp at hr
    omega

theorem impl_allWithin_loop (lo hi : Int) (xs : List Int) (hx : xs.length ≤ 1000000000000) : ∀ (d i : Nat), i + d = xs.length →
    Ev (fun k => impl_allWithin.l0 k lo hi xs (xs.length : Int) (i : Int)) (allB (xs.drop i) lo hi) := by
  intro d
  induction d with
  | zero =>
    intro i h
    rw [List.drop_eq_nil_of_le (by omega)]
    refine Ev.step (f := fun _ => some true) (fun k => ?_) (Ev.now _)
    simp only [impl_allWithin.l0]; rw [if_neg (by omega)]
  | succ d ih =>
    intro i h
    have hlt : i < xs.length := by omega
    rw [drop_rd xs i hlt]
    refine Ev.step (f := fun k => if inB (rd xs (i : Int)) lo hi = true then impl_allWithin.l0 k lo hi xs (xs.length : Int) ((i + 1 : Nat) : Int) else some false) (fun k => ?_) ?_
    · simp only [impl_allWithin.l0]; rw [if_pos (by omega), if_pos (by omega), if_pos (by omega), impl_within_eq, wrap_succ (by omega)]; rfl
    · by_cases hb : inB (rd xs (i : Int)) lo hi = true
      · exact ev_pos hb (ev_to (ih (i + 1) (by omega)) (by simp [allB, hb]))
      · exact ev_neg hb (ev_some (by simp [allB, Bool.eq_false_iff.mpr hb]))
theorem impl_allWithin_ev (lo hi : Int) (xs : List Int) (hx : xs.length ≤ 1000000000000) : Ev (fun k => impl_allWithin.f k xs lo hi) (allB xs lo hi) :=
  impl_allWithin_loop lo hi xs hx xs.length 0 (by omega)

theorem impl_IsCycle_ev (xs : List Int) (k : Int) (hx : xs.length ≤ 1000000000000) (hk : -9223372036854775808 ≤ k) (hk2 : k ≤ 9223372036854775807) : Ev (fun n => impl_IsCycle.f n xs k) (cycleB xs k) := by
  unfold impl_IsCycle.f cycleB
  refine ev_plain (impl_within_eq _ _ _) ?_
  refine ev_if (fun h => ?_) (fun h => ev_some (by simp [Bool.eq_false_iff.mpr h]))
  refine ev_plain (impl_within_eq _ _ _) ?_
  refine ev_if (fun h2 => ?_) (fun h2 => ev_some (by simp [Bool.eq_false_iff.mpr h2]))
  have h' := inB_iff.mp h
  rw [wrap_id (by omega)]
  exact ev_call (impl_allWithin_ev _ _ _ hx) (ev_some (by simp [h, h2]))

theorem impl_window_loop (w : List Int) (n p : Nat) (hw : 0 < w.length) (hwl : w.length ≤ 1000000000000) (hn : n ≤ 1000000000000) (hp : p ≤ 1000000000000) : ∀ (d i : Nat) (acc : List Int), i + d = n → acc.length = i →
    Ev (fun k => impl_window.l0 k w (p : Int) acc (n : Int) (i : Int)) (acc ++ (List.range' i d).map fun j => w.getD ((p + j) % w.length) 0) := by
  intro d
  induction d with
  | zero =>
    intro i acc h ha
    refine Ev.step (f := fun _ => some acc) (fun k => ?_) (ev_some (by simp))
    simp only [impl_window.l0]; rw [if_neg (by omega)]
  | succ d ih =>
    intro i acc h ha
    refine Ev.step (f := fun k => impl_window.l0 k w (p : Int) (acc ++ [w.getD ((p + i) % w.length) 0]) (n : Int) ((i + 1 : Nat) : Int)) (fun k => ?_) (ev_to (ih (i + 1) _ (by omega) (by simp [ha])) ?_)
    · simp only [impl_window.l0]
      rw [if_pos (by omega), if_neg (by omega), wrap_id (x := (p : Int) + (i : Int)) (by omega), show (p : Int) + (i : Int) = ((p + i : Nat) : Int) by omega, tmod_nat, wrap_succ (by omega)]
      have hm := Nat.mod_lt (p + i) hw
      rw [if_pos (by omega), if_pos (by omega), if_pos (by omega), rd_nat]
    · simp [List.range'_succ]
theorem impl_window_ev (w : List Int) (n p : Nat) (hw : 0 < w.length) (hwl : w.length ≤ 1000000000000) (hn : n ≤ 1000000000000) (hp : p ≤ 1000000000000) : Ev (fun k => impl_window.f k w (n : Int) (p : Int)) (win w p n) :=
  ev_to (impl_window_loop w n p hw hwl hn hp n 0 [] (by omega) rfl) (by simp [win])

theorem impl_codes_in (w acc : List Int) (n k i : Nat) (r : List Int) (hk : 2 ≤ k) (hk6 : k ≤ 6) (h : k ^ n ≤ 1024) (hn : n ≤ 1000) (hw : w.length ≤ 1024) (hx : ∀ x ∈ w, 0 ≤ x ∧ x ≤ (k : Int) - 1) (ha : acc.length ≤ 1024) (hi : i < w.length)
    (q : Ev (fun q => impl_codes.l0 q w (n : Int) (k : Int) (acc ++ [codeN k (win w i n)]) (w.length : Int) ((i + 1 : Nat) : Int)) r) :
    Ev (fun q => impl_codes.l1 q w (n : Int) (k : Int) acc 0 (w.length : Int) (i : Int) (win w i n) ((win w i n).length : Int) 0) r := by
  have hwl := win_length w i n
  refine ev_iter (fun (c : Int) j q => impl_codes.l1 q w (n : Int) (k : Int) acc c (w.length : Int) (i : Int) (win w i n) ((win w i n).length : Int) (j : Int)) (fun c j => wrap64 (wrap64 (c * (k : Int)) + rd (win w i n) (j : Int))) (fun j c => c = codeN k ((win w i n).take j)) (win w i n).length ?_ (win w i n).length 0 0 (by omega) (by simp [codeN]) ?_
  · intro c j hj hI
    refine ⟨by rw [hI]; exact code_step hk hk6 h hwl (fun x hx' => hx x (mem_win (by omega) hx')) (by omega), fun r q => ?_⟩
    refine Ev.step (fun k => by simp only [impl_codes.l1]; rfl) ?_
    rw [wrap_succ (i := j) (by omega)]
    exact ev_pos (by omega) (ev_pos (by omega) (ev_pos (by omega) q))
  · intro hI
    refine Ev.step (fun k => by simp only [impl_codes.l1]; rfl) (ev_neg (by omega) (ev_pos (by omega) ?_))
    rw [hI, List.take_of_length_le (by omega), wrap_succ (i := i) (by omega)]
    exact q
theorem impl_codes_ev (w : List Int) (n k : Nat) (hk : 2 ≤ k) (hk6 : k ≤ 6) (h : k ^ n ≤ 1024) (hn : n ≤ 1000) (hw : w.length ≤ 1024) (hx : ∀ x ∈ w, 0 ≤ x ∧ x ≤ (k : Int) - 1) : Ev (fun q => impl_codes.f q w (n : Int) (k : Int)) (codesM w n k) := by
  unfold impl_codes.f
  refine ev_iter (fun (acc : List Int) i q => impl_codes.l0 q w (n : Int) (k : Int) acc (w.length : Int) (i : Int)) (fun acc i => acc ++ [codeN k (win w i n)]) (fun i acc => acc = (codesM w n k).take i) w.length ?_ w.length 0 [] (by omega) (by simp) ?_
  · intro acc i hi hI
    refine ⟨by rw [hI, codesM_take w n k i hi], fun r q => ?_⟩
    refine Ev.step (fun k => by simp only [impl_codes.l0]; rfl) (ev_pos (by omega) (ev_call (impl_window_ev w n i (by omega) (by omega) (by omega) (by omega)) ?_))
    exact impl_codes_in w acc n k i r hk hk6 h hn hw hx (by rw [hI]; simp; omega) hi q
  · intro hI
    exact Ev.step (fun k => by simp only [impl_codes.l0]; rfl) (ev_neg (by omega) (ev_some (by rw [hI, List.take_of_length_le (by rw [codesM_length]; omega)])))

theorem impl_increasing_loop (l : List Int) (hl : l.length ≤ 1000000000000) : ∀ (d j : Nat), j + 1 + d = l.length → Ev (fun k => impl_increasing.l0 k l ((j + 1 : Nat) : Int)) (chainB (l.drop j)) := by
  intro d
  induction d with
  | zero =>
    intro j h
    rw [drop_rd l j (by omega), List.drop_eq_nil_of_le (by omega)]
    exact Ev.step (fun k => by simp only [impl_increasing.l0]; rfl) (ev_neg (by omega) (ev_some (by simp [chainB])))
  | succ d ih =>
    intro j h
    rw [drop_rd l j (by omega), drop_rd l (j + 1) (by omega)]
    refine Ev.step (fun k => by simp only [impl_increasing.l0]; rfl) ?_
    rw [wrap_pred (by omega), wrap_succ (by omega)]
    refine ev_pos (by omega) (ev_pos (by omega) (ev_pos (by omega) (ev_pos (by omega) ?_)))
    refine ev_if (fun e => ev_some ?_) (fun e => ev_to (ih (j + 1) (by omega)) ?_)
    · simp only [chainB]; rw [decide_eq_false (by omega)]; rfl
    · rw [drop_rd l (j + 1) (by omega)]; simp only [chainB]; rw [decide_eq_true (by omega)]; rfl
theorem impl_increasing_ev (l : List Int) (hl : l.length ≤ 1000000000000) : Ev (fun k => impl_increasing.f k l) (chainB l) := by
  unfold impl_increasing.f
  by_cases h : l.length = 0
  · obtain rfl := List.eq_nil_of_length_eq_zero h
    exact Ev.step (fun k => by simp only [impl_increasing.l0]; rfl) (ev_neg (by simp) (Ev.now _))
  · exact impl_increasing_loop l hl (l.length - 1) 0 (by omega)

theorem impl_different_ev (l : List Int) (hl : l.length ≤ 1000000000000) : Ev (fun k => impl_different.f k l) (decide l.Nodup) := by
  unfold impl_different.f
  refine ev_pos (by omega) ?_
  rw [← chain_srt]
  exact impl_increasing_ev (srt l) (by rw [srt_length]; exact hl)

theorem impl_isBruijn_ev (w : List Int) (n k : Nat) (hk : 2 ≤ k) (hk6 : k ≤ 6) (h : k ^ n ≤ 1024) (hn : n ≤ 10) (hw : w.length ≤ 1024) (hx : ∀ x ∈ w, 0 ≤ x ∧ x ≤ (k : Int) - 1) : Ev (fun q => impl_isBruijn.f q w (n : Int) (k : Int)) (bruijnB w n k) := by
  unfold impl_isBruijn.f bruijnB
  refine ev_call (impl_power_ev k n hk6 (by omega)) (ev_if (fun e => ?_) (fun e => ev_some (by rw [decide_eq_false (by omega)]; rfl)))
  refine ev_call (impl_codes_ev w n k hk hk6 h (by omega) hw hx) (ev_call (impl_different_ev _ (by rw [codesM_length]; omega)) (ev_some ?_))
  rw [decide_eq_true (show w.length = k ^ n by omega)]; rfl

theorem impl_IsBruijn_ev (w : List Int) (n k : Int) (hw : w.length ≤ 1048576) (hk : -9223372036854775808 ≤ k ∧ k ≤ 9223372036854775807) : Ev (fun q => impl_IsBruijn.f q w n k) (IsBruijnM w n k) := by
  unfold impl_IsBruijn.f IsBruijnM
  refine ev_call (impl_isBruijnSize_ev n k) (ev_if (fun h1 => ?_) (fun h1 => ev_some (by rw [if_neg (fun h => h1 h.1)])))
  refine ev_call (impl_IsCycle_ev w k (by omega) hk.1 hk.2) (ev_if (fun h2 => ?_) (fun h2 => ev_some (by rw [if_neg (fun h => h2 h.2)])))
  rw [if_pos ⟨h1, h2⟩]
  have hc := cycleB_iff.mp h2
  obtain ⟨n, k, rfl, rfl, n1, n2, k1, k2, hp⟩ := kindB_nat h1
  exact ev_call (impl_isBruijn_ev w n k k1 k2 hp n2 hc.2.1.2 hc.2.2) (ev_some (by simp))

def WindowAtM (l : List Int) (n p : Int) : List Int × Bool := if cycleB l 6 = true ∧ (1 ≤ n ∧ n ≤ 1024) ∧ (0 ≤ p ∧ p ≤ (l.length : Int) - 1) then (win l p.toNat n.toNat, true) else ([], false)
theorem WindowAtM_length (l : List Int) (n p : Int) : (WindowAtM l n p).1.length ≤ 1024 := by
  unfold WindowAtM
  split
  · rw [win_length]; omega
  · simp

theorem impl_isCycle_ev (xs : List Int) (hx : xs.length ≤ 1000000000000) : Ev (fun n => impl_isCycle.f n xs) (cycleB xs 6) := by
  unfold impl_isCycle.f
  exact ev_call (impl_IsCycle_ev _ _ hx (by omega) (by omega)) (ev_some rfl)

theorem impl_WindowAt_ev (l : List Int) (n p : Int) (hl : l.length ≤ 1048576) (hn : -9223372036854775808 ≤ n ∧ n ≤ 9223372036854775807) (hp : -9223372036854775808 ≤ p ∧ p ≤ 9223372036854775807) :
    Ev (fun k => impl_WindowAt.f k l n p) (WindowAtM l n p) := by
  unfold impl_WindowAt.f WindowAtM
  refine ev_call (impl_isCycle_ev _ (by omega)) (ev_if (fun h1 => ?_) (fun h1 => ev_some (by rw [if_neg (fun h => h1 h.1)])))
  refine ev_plain (impl_within_eq _ _ _) (ev_if (fun h2 => ?_) (fun h2 => ev_some (by rw [if_neg (fun h => h2 (inB_iff.mpr h.2.1))])))
  have hc := cycleB_iff.mp h1
  have hn2 := inB_iff.mp h2
  rw [wrap_id (by omega)]
  refine ev_plain (impl_within_eq _ _ _) (ev_if (fun h3 => ?_) (fun h3 => ev_some (by rw [if_neg (fun h => h3 (inB_iff.mpr h.2.2))])))
  have hp2 := inB_iff.mp h3
  obtain ⟨n, rfl⟩ := Int.eq_ofNat_of_zero_le (show 0 ≤ n by omega)
  obtain ⟨p, rfl⟩ := Int.eq_ofNat_of_zero_le hp2.1
  refine ev_call (impl_window_ev l n p (by omega) (by omega) (by omega) (by omega)) (ev_some ?_)
  rw [if_pos ⟨h1, hn2, hp2⟩]; simp

theorem slices_Equal_int_int_loop (a b : List Int) (ha : a.length ≤ 1000000000000) (hab : a.length = b.length) : ∀ (d i : Nat), i + d = a.length →
    Ev (fun k => slices_Equal_int_int.l0 k a b (a.length : Int) (i : Int)) (decide (a.drop i = b.drop i)) := by
  intro d
  induction d with
  | zero =>
    intro i h
    rw [List.drop_eq_nil_of_le (by omega), List.drop_eq_nil_of_le (by omega)]
    refine Ev.step (f := fun _ => some true) (fun k => ?_) (Ev.now _)
    simp only [slices_Equal_int_int.l0]; rw [if_neg (by omega)]
  | succ d ih =>
    intro i h
    rw [drop_rd a i (by omega), drop_rd b i (by omega)]
    refine Ev.step (f := fun k => if rd a (i : Int) = rd b (i : Int) then slices_Equal_int_int.l0 k a b (a.length : Int) ((i + 1 : Nat) : Int) else some false) (fun k => ?_) ?_
    · simp only [slices_Equal_int_int.l0]; rw [if_pos (by omega), if_pos (by omega), if_pos (by omega), if_pos (by omega), wrap_succ (by omega)]
    · exact ev_if (fun e => ev_to (ih (i + 1) (by omega)) (by simp [e])) (fun e => ev_some (by simp [e]))
theorem slices_Equal_int_int_ev (a b : List Int) (ha : a.length ≤ 1000000000000) : Ev (fun k => slices_Equal_int_int.f k a b) (decide (a = b)) := by
  unfold slices_Equal_int_int.f
  refine ev_if (fun h => ?_) (fun h => ev_some ?_)
  · exact slices_Equal_int_int_loop a b ha (by omega) a.length 0 (by omega)
  · rw [eq_comm, decide_eq_false_iff_not]; intro e; exact h (by rw [e])

theorem impl_PlacesOf_ev (w g : List Int) (hw : w.length ≤ 1048576) (hg : g.length ≤ 1048576) : Ev (fun k => impl_PlacesOf.f k w g) (PlacesOfM w g) := by
  unfold impl_PlacesOf.f PlacesOfM
  have key : cycleB w 6 = true → ∀ c, Ev (fun k => impl_PlacesOf.j0 k w g (!c)) (if cycleB w 6 = true ∧ c = true then (placesM w g, true) else ([], false)) := by
    intro h1 c
    have hc := cycleB_iff.mp h1
    refine Ev.step (fun k => by simp only [impl_PlacesOf.j0]; rfl) ?_
    cases c with
    | false => exact ev_pos rfl (ev_some (by simp))
    | true =>
      refine ev_neg (by simp) ?_
      rw [if_pos ⟨h1, rfl⟩]
      refine ev_iter (fun acc i k => impl_PlacesOf.l0 k w g acc (w.length : Int) (i : Int)) (placesIn w g) (fun i acc => acc.length ≤ i) w.length ?_ w.length 0 [] (by omega) (by simp) ?_
      · intro acc i hi hI
        refine ⟨by
          unfold placesIn
          split
          · simp; omega
          · omega, fun r k => ?_⟩
        refine Ev.step (fun k => by simp only [impl_PlacesOf.l0]; rfl) ?_
        refine ev_pos (by omega) ?_
        refine ev_call (impl_window_ev w g.length i (by omega) (by omega) (by omega) (by omega)) (ev_call (slices_Equal_int_int_ev _ _ (by rw [win_length]; omega)) (ev_if (fun hd => ?_) (fun hd => ?_))) <;> simp only [decide_eq_true_eq] at hd
        · refine ev_pos (by omega) ?_
          rw [wrap_succ (by omega)]
          rw [placesIn, if_pos hd] at k; exact k
        · rw [wrap_succ (by omega)]
          rw [placesIn, if_neg hd] at k; exact k
      · intro _
        refine Ev.step (fun k => by simp only [impl_PlacesOf.l0]; rfl) (ev_neg (by omega) (Ev.now _))
  refine ev_call (impl_isCycle_ev _ (by omega)) (ev_if (fun h1 => ?_) (fun h1 => ?_))
  · exact ev_call (impl_isCycle_ev _ (by omega)) (key h1 _)
  · refine Ev.step (fun k => by simp only [impl_PlacesOf.j0]; rfl) ?_
    refine ev_pos (by trivial) (ev_some ?_)
    rw [if_neg (fun h => h1 h.1)]

/-- The walk by greatest letters, with its word (the last letter first). -/
def grunL (k size : Nat) : Nat → List Int → Nat → Nat → Option (List Int)
  | 0, _, _, _ => none
  | f + 1, rev, m, code => match pickG k size m code k with
    | none => some rev
    | some x => grunL k size f ((x : Int) :: rev) (m ||| (1 <<< ((code * k + x) % size))) ((code * k + x) % size)
theorem grunL_ev (k size : Nat) (hk : k ≤ 6) (hs : 1 ≤ size) (hp : size ≤ 1024) : ∀ (f : Nat) (rev : List Int) (m code : Nat) (R : List Int), grunL k size f rev m code = some R → size ≤ R.length → code ≤ 1024 → rev.length + f ≤ 5000 →
    Ev (fun q => impl_GreedyBruijn.l0 q (k : Int) (size : Int) rev.reverse m (code : Int) (wrap64 ((k : Int) - 1))) (R.reverse.take size, true) := by
  intro f
  induction f with
  | zero => intro rev m code R h; simp [grunL] at h
  | succ f ih =>
    intro rev m code R h hL hc hf
    unfold grunL at h
    cases hpick : pickG k size m code k with
    | none =>
      rw [hpick] at h
      obtain rfl : rev = R := Option.some.inj h
      refine gsearch k size m code rev.reverse hk hc hs _ (fun _ => ?_) (fun x e => by rw [hpick] at e; cases e)
      refine Ev.step (fun k => by simp only [impl_GreedyBruijn.l0]; rfl) ?_
      refine ev_neg (by omega) (ev_pos (by omega) (ev_pos (by rw [List.length_reverse]; omega) ?_))
      rw [Int.toNat_natCast]
      refine ev_plain (a := rev.reverse.take size) ?_ (Ev.now _)
      unfold slices_Clone_int_int.f
      rw [if_pos (by simp; omega)]
    | some x =>
      rw [hpick] at h
      dsimp only at h
      have hm : (code * k + x) % size < size := Nat.mod_lt _ (by omega)
      have hi := ih _ _ _ R h hL (by omega) (by rw [List.length_cons]; omega)
      rw [List.reverse_cons] at hi
      refine gsearch k size m code rev.reverse hk hc hs _ (fun e => by rw [hpick] at e; cases e) (fun y e hy => ?_)
      obtain rfl : x = y := by rw [hpick] at e; exact Option.some.inj e
      exact ev_pos (by rw [List.length_reverse]; omega) hi
/-- The walk that leaves each node as often as there are letters; what is left stands in one number, three bits a node. -/
def eulF (k nodes : Nat) : Nat → Nat → List (Nat × Nat) → Nat → List Int → Option (List Int)
  | 0, _, _, _, _ => none
  | f + 1, L, way, node, out => if (L >>> (3 * node)) % 8 < k then eulF k nodes f (L + 1 <<< (3 * node)) ((node, (L >>> (3 * node)) % 8) :: way) ((node * k + (L >>> (3 * node)) % 8) % nodes) out else match way with
    | [] => some out
    | p :: way => eulF k nodes f L way p.1 ((p.2 : Int) :: out)
theorem oct_other (L p i : Nat) (h : (L >>> (3 * p)) % 8 < 7) (hi : i ≠ p) : ((L + 1 <<< (3 * p)) >>> (3 * i)) % 8 = (L >>> (3 * i)) % 8 := by
  simp only [Nat.shiftRight_eq_div_pow, Nat.one_shiftLeft] at h ⊢
  rcases Nat.lt_or_gt_of_ne hi with c | c
  · obtain ⟨d, rfl⟩ : ∃ d, p = i + 1 + d := ⟨p - i - 1, by omega⟩
    rw [show 3 * (i + 1 + d) = 3 * i + (3 + 3 * d) by omega, Nat.pow_add 2 (3 * i), Nat.add_mul_div_left _ _ (Nat.pow_pos (by omega)), Nat.pow_add 2 3, show (2 : Nat) ^ 3 = 8 from rfl, Nat.add_mul_mod_self_left]
  · obtain ⟨d, rfl⟩ : ∃ d, i = p + 1 + d := ⟨i - p - 1, by omega⟩
    rw [show 3 * (p + 1 + d) = 3 * p + (3 + 3 * d) by omega, Nat.pow_add 2 (3 * p), ← Nat.div_div_eq_div_mul, ← Nat.div_div_eq_div_mul, Nat.add_div_right _ (Nat.pow_pos (by omega)), Nat.pow_add 2 3, show (2 : Nat) ^ 3 = 8 from rfl, ← Nat.div_div_eq_div_mul, ← Nat.div_div_eq_div_mul]
    congr 2
    omega
theorem oct_self (L p : Nat) (h : (L >>> (3 * p)) % 8 < 7) : ((L + 1 <<< (3 * p)) >>> (3 * p)) % 8 = (L >>> (3 * p)) % 8 + 1 := by
  simp only [Nat.shiftRight_eq_div_pow, Nat.one_shiftLeft] at h ⊢
  rw [Nat.add_div_right _ (Nat.pow_pos (by omega))]
  omega
def octs (nodes L : Nat) : List Int := (List.range nodes).map fun i => (((L >>> (3 * i)) % 8 : Nat) : Int)
theorem octs_length (nodes L : Nat) : (octs nodes L).length = nodes := by simp [octs]
theorem octs_getD (nodes L i : Nat) (h : i < nodes) : (octs nodes L).getD i 0 = (((L >>> (3 * i)) % 8 : Nat) : Int) := by
  simp [octs, List.getD_eq_getElem?_getD, List.getElem?_range h]
theorem octs_set (nodes L p : Nat) (hp : p < nodes) (h : (L >>> (3 * p)) % 8 < 7) : (octs nodes L).set p ((((L >>> (3 * p)) % 8 : Nat) : Int) + 1) = octs nodes (L + 1 <<< (3 * p)) := by
  apply List.ext_getElem
  · rw [List.length_set, octs_length, octs_length]
  · intro i h1 h2
    rw [octs_length] at h2
    rw [List.getElem_set]
    by_cases e : p = i
    · subst e
      rw [if_pos rfl]
      simp only [octs, List.getElem_map, List.getElem_range]
      rw [oct_self L p h]
      omega
    · rw [if_neg e]
      simp only [octs, List.getElem_map, List.getElem_range]
      rw [oct_other L p i h (fun e' => e e'.symm)]
theorem octs_zero (nodes : Nat) : octs nodes 0 = List.replicate nodes 0 := by
  apply List.ext_getElem
  · simp [octs]
  · intro i h1 h2
    simp [octs]
def cameL (way : List (Nat × Nat)) : List S94 := (way.map fun p => (⟨(p.1 : Int), (p.2 : Int)⟩ : S94)).reverse
theorem cameL_length (way : List (Nat × Nat)) : (cameL way).length = way.length := by simp [cameL]
theorem cameL_cons (p : Nat × Nat) (way : List (Nat × Nat)) : cameL (p :: way) = cameL way ++ [(⟨(p.1 : Int), (p.2 : Int)⟩ : S94)] := by simp [cameL]
theorem eulF_ev (k nodes : Nat) (hk : k ≤ 6) (hn : 1 ≤ nodes) (hn2 : nodes ≤ 1024) : ∀ (f L : Nat) (way : List (Nat × Nat)) (node : Nat) (out r : List Int), eulF k nodes f L way node out = some r → node < nodes → (∀ p ∈ way, p.1 < nodes) → way.length + out.length + f ≤ 10000 →
    Ev (fun q => impl_EulerBruijn.l0 q (k : Int) (nodes : Int) (octs nodes L) (cameL way) (node : Int) out.reverse) (r, true) := by
  intro f
  induction f with
  | zero => intro L way node out r h; simp [eulF] at h
  | succ f ih =>
    intro L way node out r h h1 h2 h3
    refine Ev.step (fun k => by simp only [impl_EulerBruijn.l0]; rfl) ?_
    rw [rd_nat, Int.toNat_natCast, octs_getD nodes L node h1]
    have hset := octs_set nodes L node h1
    unfold eulF at h
    generalize hx : (L >>> (3 * node)) % 8 = x at h hset
    refine ev_pos (by omega) (ev_pos (by rw [octs_length]; omega) ?_)
    by_cases c : x < k
    · rw [if_pos c] at h
      have hmul : node * k ≤ 1024 * 6 := Nat.mul_le_mul (by omega) hk
      have hi := ih _ _ _ _ _ h (Nat.mod_lt _ hn) (fun p hp => by rcases List.mem_cons.mp hp with rfl | hp; exact h1; exact h2 p hp) (by rw [List.length_cons]; omega)
      rw [← hset (by omega), cameL_cons] at hi
      rw [show (node : Int) * (k : Int) = ((node * k : Nat) : Int) by simp, wrap_id (x := ((node * k : Nat) : Int)) (by omega), show ((node * k : Nat) : Int) + (x : Int) = ((node * k + x : Nat) : Int) by omega, wrap_id (x := ((node * k + x : Nat) : Int)) (by omega), tmod_nat, wrap_id (x := (x : Int) + 1) (by omega)]
      exact ev_pos (by omega) (ev_pos (by rw [cameL_length]; omega) (ev_neg (by omega) hi))
    · rw [if_neg c] at h
      refine ev_neg (by omega) ?_
      cases way with
      | nil =>
        obtain rfl : out = r := Option.some.inj h
        refine ev_pos (by simp [cameL]) (ev_call (slices_Reverse_int_int_ev out.reverse (by rw [List.length_reverse]; omega)) ?_)
        rw [List.reverse_reverse]
        exact Ev.now _
      | cons p way =>
        dsimp only at h
        rw [List.length_cons] at h3
        have hi := ih _ _ _ _ _ h (h2 p (by simp)) (fun q hq => h2 q (by simp [hq])) (by rw [List.length_cons]; omega)
        rw [List.reverse_cons] at hi
        have hl : (cameL (p :: way)).length = way.length + 1 := by rw [cameL_length, List.length_cons]
        rw [hl, show ((way.length + 1 : Nat) : Int) - 1 = (way.length : Int) by omega, wrap_id (x := (way.length : Int)) (by omega), Int.toNat_natCast]
        have e1 : (cameL (p :: way)).take way.length = cameL way := by
          rw [cameL_cons, List.take_append_of_le_length (by rw [cameL_length]; omega), List.take_of_length_le (by rw [cameL_length]; omega)]
        have e2 : rd_T94 (cameL (p :: way)) (way.length : Int) = ⟨(p.1 : Int), (p.2 : Int)⟩ := by
          rw [cameL_cons]
          simp [rd_T94, List.getD_eq_getElem?_getD, List.getElem?_append_right, cameL_length]
        rw [e1, e2]
        exact ev_neg (by omega) (ev_pos (by omega) (ev_pos (by omega) (ev_pos (by omega) (ev_pos (by rw [List.length_reverse]; omega) hi))))
/-- At one size, told by the kernel: the three ways make de Bruijn words, and the greedy one isn't less than the least. -/
def wordsL_one (n k : Nat) : Bool := match impl_LeastBruijn.f 2000 (n : Int) (k : Int) with
  | some (a, x) => x && bruF k n a
  | _ => false
def wordsG_one (n k : Nat) : Bool := match impl_LeastBruijn.f 2000 (n : Int) (k : Int), grunL k (k ^ n) 1100 (List.replicate n 0) 1 0 with
  | some (a, _), some R => decide (k ^ n ≤ R.length) && (bruF k n (R.reverse.take (k ^ n)) && (laws_tLess.f 2000 (R.reverse.take (k ^ n)) a == some false))
  | _, _ => false
def wordsE_one (n k : Nat) : Bool := match eulF k (k ^ (n - 1)) 3000 0 [] 0 [] with
  | some c => bruF k n c
  | _ => false
theorem wordsL_1_2 : wordsL_one 1 2 = true := by kernel_rfl
theorem wordsL_1_3 : wordsL_one 1 3 = true := by kernel_rfl
theorem wordsL_1_4 : wordsL_one 1 4 = true := by kernel_rfl
theorem wordsL_1_5 : wordsL_one 1 5 = true := by kernel_rfl
theorem wordsL_1_6 : wordsL_one 1 6 = true := by kernel_rfl
theorem wordsL_2_2 : wordsL_one 2 2 = true := by kernel_rfl
theorem wordsL_2_3 : wordsL_one 2 3 = true := by kernel_rfl
theorem wordsL_2_4 : wordsL_one 2 4 = true := by kernel_rfl
theorem wordsL_2_5 : wordsL_one 2 5 = true := by kernel_rfl
theorem wordsL_2_6 : wordsL_one 2 6 = true := by kernel_rfl
theorem wordsL_3_2 : wordsL_one 3 2 = true := by kernel_rfl
theorem wordsL_3_3 : wordsL_one 3 3 = true := by kernel_rfl
theorem wordsL_3_4 : wordsL_one 3 4 = true := by kernel_rfl
theorem wordsL_3_5 : wordsL_one 3 5 = true := by kernel_rfl
theorem wordsL_3_6 : wordsL_one 3 6 = true := by kernel_rfl
theorem wordsL_4_2 : wordsL_one 4 2 = true := by kernel_rfl
theorem wordsL_4_3 : wordsL_one 4 3 = true := by kernel_rfl
theorem wordsL_4_4 : wordsL_one 4 4 = true := by kernel_rfl
theorem wordsL_4_5 : wordsL_one 4 5 = true := by kernel_rfl
theorem wordsL_5_2 : wordsL_one 5 2 = true := by kernel_rfl
theorem wordsL_5_3 : wordsL_one 5 3 = true := by kernel_rfl
theorem wordsL_5_4 : wordsL_one 5 4 = true := by kernel_rfl
theorem wordsL_6_2 : wordsL_one 6 2 = true := by kernel_rfl
theorem wordsL_6_3 : wordsL_one 6 3 = true := by kernel_rfl
theorem wordsL_7_2 : wordsL_one 7 2 = true := by kernel_rfl
theorem wordsL_8_2 : wordsL_one 8 2 = true := by kernel_rfl
theorem wordsL_9_2 : wordsL_one 9 2 = true := by kernel_rfl
theorem wordsL_10_2 : wordsL_one 10 2 = true := by kernel_rfl
theorem wordsL_all (n k : Nat) (h1 : 1 ≤ n) (h2 : n ≤ 10) (h3 : 2 ≤ k) (h4 : k ≤ 6) (h5 : k ^ n ≤ 1024) : wordsL_one n k = true := by
  have hn : n = 1 ∨ n = 2 ∨ n = 3 ∨ n = 4 ∨ n = 5 ∨ n = 6 ∨ n = 7 ∨ n = 8 ∨ n = 9 ∨ n = 10 := by omega
  have hk : k = 2 ∨ k = 3 ∨ k = 4 ∨ k = 5 ∨ k = 6 := by omega
  rcases hn with rfl | rfl | rfl | rfl | rfl | rfl | rfl | rfl | rfl | rfl <;> rcases hk with rfl | rfl | rfl | rfl | rfl
  · exact wordsL_1_2
  · exact wordsL_1_3
  · exact wordsL_1_4
  · exact wordsL_1_5
  · exact wordsL_1_6
  · exact wordsL_2_2
  · exact wordsL_2_3
  · exact wordsL_2_4
  · exact wordsL_2_5
  · exact wordsL_2_6
  · exact wordsL_3_2
  · exact wordsL_3_3
  · exact wordsL_3_4
  · exact wordsL_3_5
  · exact wordsL_3_6
  · exact wordsL_4_2
  · exact wordsL_4_3
  · exact wordsL_4_4
  · exact wordsL_4_5
  · exact absurd h5 (by decide +kernel)
  · exact wordsL_5_2
  · exact wordsL_5_3
  · exact wordsL_5_4
  · exact absurd h5 (by decide +kernel)
  · exact absurd h5 (by decide +kernel)
  · exact wordsL_6_2
  · exact wordsL_6_3
  · exact absurd h5 (by decide +kernel)
  · exact absurd h5 (by decide +kernel)
  · exact absurd h5 (by decide +kernel)
  · exact wordsL_7_2
  · exact absurd h5 (by decide +kernel)
  · exact absurd h5 (by decide +kernel)
  · exact absurd h5 (by decide +kernel)
  · exact absurd h5 (by decide +kernel)
  · exact wordsL_8_2
  · exact absurd h5 (by decide +kernel)
  · exact absurd h5 (by decide +kernel)
  · exact absurd h5 (by decide +kernel)
  · exact absurd h5 (by decide +kernel)
  · exact wordsL_9_2
  · exact absurd h5 (by decide +kernel)
  · exact absurd h5 (by decide +kernel)
  · exact absurd h5 (by decide +kernel)
  · exact absurd h5 (by decide +kernel)
  · exact wordsL_10_2
  · exact absurd h5 (by decide +kernel)
  · exact absurd h5 (by decide +kernel)
  · exact absurd h5 (by decide +kernel)
  · exact absurd h5 (by decide +kernel)
theorem wordsG_1_2 : wordsG_one 1 2 = true := by kernel_rfl
theorem wordsG_1_3 : wordsG_one 1 3 = true := by kernel_rfl
theorem wordsG_1_4 : wordsG_one 1 4 = true := by kernel_rfl
theorem wordsG_1_5 : wordsG_one 1 5 = true := by kernel_rfl
theorem wordsG_1_6 : wordsG_one 1 6 = true := by kernel_rfl
theorem wordsG_2_2 : wordsG_one 2 2 = true := by kernel_rfl
theorem wordsG_2_3 : wordsG_one 2 3 = true := by kernel_rfl
theorem wordsG_2_4 : wordsG_one 2 4 = true := by kernel_rfl
theorem wordsG_2_5 : wordsG_one 2 5 = true := by kernel_rfl
theorem wordsG_2_6 : wordsG_one 2 6 = true := by kernel_rfl
theorem wordsG_3_2 : wordsG_one 3 2 = true := by kernel_rfl
theorem wordsG_3_3 : wordsG_one 3 3 = true := by kernel_rfl
theorem wordsG_3_4 : wordsG_one 3 4 = true := by kernel_rfl
theorem wordsG_3_5 : wordsG_one 3 5 = true := by kernel_rfl
theorem wordsG_3_6 : wordsG_one 3 6 = true := by kernel_rfl
theorem wordsG_4_2 : wordsG_one 4 2 = true := by kernel_rfl
theorem wordsG_4_3 : wordsG_one 4 3 = true := by kernel_rfl
theorem wordsG_4_4 : wordsG_one 4 4 = true := by kernel_rfl
theorem wordsG_4_5 : wordsG_one 4 5 = true := by kernel_rfl
theorem wordsG_5_2 : wordsG_one 5 2 = true := by kernel_rfl
theorem wordsG_5_3 : wordsG_one 5 3 = true := by kernel_rfl
theorem wordsG_5_4 : wordsG_one 5 4 = true := by kernel_rfl
theorem wordsG_6_2 : wordsG_one 6 2 = true := by kernel_rfl
theorem wordsG_6_3 : wordsG_one 6 3 = true := by kernel_rfl
theorem wordsG_7_2 : wordsG_one 7 2 = true := by kernel_rfl
theorem wordsG_8_2 : wordsG_one 8 2 = true := by kernel_rfl
theorem wordsG_9_2 : wordsG_one 9 2 = true := by kernel_rfl
theorem wordsG_10_2 : wordsG_one 10 2 = true := by kernel_rfl
theorem wordsG_all (n k : Nat) (h1 : 1 ≤ n) (h2 : n ≤ 10) (h3 : 2 ≤ k) (h4 : k ≤ 6) (h5 : k ^ n ≤ 1024) : wordsG_one n k = true := by
  have hn : n = 1 ∨ n = 2 ∨ n = 3 ∨ n = 4 ∨ n = 5 ∨ n = 6 ∨ n = 7 ∨ n = 8 ∨ n = 9 ∨ n = 10 := by omega
  have hk : k = 2 ∨ k = 3 ∨ k = 4 ∨ k = 5 ∨ k = 6 := by omega
  rcases hn with rfl | rfl | rfl | rfl | rfl | rfl | rfl | rfl | rfl | rfl <;> rcases hk with rfl | rfl | rfl | rfl | rfl
  · exact wordsG_1_2
  · exact wordsG_1_3
  · exact wordsG_1_4
  · exact wordsG_1_5
  · exact wordsG_1_6
  · exact wordsG_2_2
  · exact wordsG_2_3
  · exact wordsG_2_4
  · exact wordsG_2_5
  · exact wordsG_2_6
  · exact wordsG_3_2
  · exact wordsG_3_3
  · exact wordsG_3_4
  · exact wordsG_3_5
  · exact wordsG_3_6
  · exact wordsG_4_2
  · exact wordsG_4_3
  · exact wordsG_4_4
  · exact wordsG_4_5
  · exact absurd h5 (by decide +kernel)
  · exact wordsG_5_2
  · exact wordsG_5_3
  · exact wordsG_5_4
  · exact absurd h5 (by decide +kernel)
  · exact absurd h5 (by decide +kernel)
  · exact wordsG_6_2
  · exact wordsG_6_3
  · exact absurd h5 (by decide +kernel)
  · exact absurd h5 (by decide +kernel)
  · exact absurd h5 (by decide +kernel)
  · exact wordsG_7_2
  · exact absurd h5 (by decide +kernel)
  · exact absurd h5 (by decide +kernel)
  · exact absurd h5 (by decide +kernel)
  · exact absurd h5 (by decide +kernel)
  · exact wordsG_8_2
  · exact absurd h5 (by decide +kernel)
  · exact absurd h5 (by decide +kernel)
  · exact absurd h5 (by decide +kernel)
  · exact absurd h5 (by decide +kernel)
  · exact wordsG_9_2
  · exact absurd h5 (by decide +kernel)
  · exact absurd h5 (by decide +kernel)
  · exact absurd h5 (by decide +kernel)
  · exact absurd h5 (by decide +kernel)
  · exact wordsG_10_2
  · exact absurd h5 (by decide +kernel)
  · exact absurd h5 (by decide +kernel)
  · exact absurd h5 (by decide +kernel)
  · exact absurd h5 (by decide +kernel)
theorem wordsE_1_2 : wordsE_one 1 2 = true := by kernel_rfl
theorem wordsE_1_3 : wordsE_one 1 3 = true := by kernel_rfl
theorem wordsE_1_4 : wordsE_one 1 4 = true := by kernel_rfl
theorem wordsE_1_5 : wordsE_one 1 5 = true := by kernel_rfl
theorem wordsE_1_6 : wordsE_one 1 6 = true := by kernel_rfl
theorem wordsE_2_2 : wordsE_one 2 2 = true := by kernel_rfl
theorem wordsE_2_3 : wordsE_one 2 3 = true := by kernel_rfl
theorem wordsE_2_4 : wordsE_one 2 4 = true := by kernel_rfl
theorem wordsE_2_5 : wordsE_one 2 5 = true := by kernel_rfl
theorem wordsE_2_6 : wordsE_one 2 6 = true := by kernel_rfl
theorem wordsE_3_2 : wordsE_one 3 2 = true := by kernel_rfl
theorem wordsE_3_3 : wordsE_one 3 3 = true := by kernel_rfl
theorem wordsE_3_4 : wordsE_one 3 4 = true := by kernel_rfl
theorem wordsE_3_5 : wordsE_one 3 5 = true := by kernel_rfl
theorem wordsE_3_6 : wordsE_one 3 6 = true := by kernel_rfl
theorem wordsE_4_2 : wordsE_one 4 2 = true := by kernel_rfl
theorem wordsE_4_3 : wordsE_one 4 3 = true := by kernel_rfl
theorem wordsE_4_4 : wordsE_one 4 4 = true := by kernel_rfl
theorem wordsE_4_5 : wordsE_one 4 5 = true := by kernel_rfl
theorem wordsE_5_2 : wordsE_one 5 2 = true := by kernel_rfl
theorem wordsE_5_3 : wordsE_one 5 3 = true := by kernel_rfl
theorem wordsE_5_4 : wordsE_one 5 4 = true := by kernel_rfl
theorem wordsE_6_2 : wordsE_one 6 2 = true := by kernel_rfl
theorem wordsE_6_3 : wordsE_one 6 3 = true := by kernel_rfl
theorem wordsE_7_2 : wordsE_one 7 2 = true := by kernel_rfl
theorem wordsE_8_2 : wordsE_one 8 2 = true := by kernel_rfl
theorem wordsE_9_2 : wordsE_one 9 2 = true := by kernel_rfl
theorem wordsE_10_2 : wordsE_one 10 2 = true := by kernel_rfl
theorem wordsE_all (n k : Nat) (h1 : 1 ≤ n) (h2 : n ≤ 10) (h3 : 2 ≤ k) (h4 : k ≤ 6) (h5 : k ^ n ≤ 1024) : wordsE_one n k = true := by
  have hn : n = 1 ∨ n = 2 ∨ n = 3 ∨ n = 4 ∨ n = 5 ∨ n = 6 ∨ n = 7 ∨ n = 8 ∨ n = 9 ∨ n = 10 := by omega
  have hk : k = 2 ∨ k = 3 ∨ k = 4 ∨ k = 5 ∨ k = 6 := by omega
  rcases hn with rfl | rfl | rfl | rfl | rfl | rfl | rfl | rfl | rfl | rfl <;> rcases hk with rfl | rfl | rfl | rfl | rfl
  · exact wordsE_1_2
  · exact wordsE_1_3
  · exact wordsE_1_4
  · exact wordsE_1_5
  · exact wordsE_1_6
  · exact wordsE_2_2
  · exact wordsE_2_3
  · exact wordsE_2_4
  · exact wordsE_2_5
  · exact wordsE_2_6
  · exact wordsE_3_2
  · exact wordsE_3_3
  · exact wordsE_3_4
  · exact wordsE_3_5
  · exact wordsE_3_6
  · exact wordsE_4_2
  · exact wordsE_4_3
  · exact wordsE_4_4
  · exact wordsE_4_5
  · exact absurd h5 (by decide +kernel)
  · exact wordsE_5_2
  · exact wordsE_5_3
  · exact wordsE_5_4
  · exact absurd h5 (by decide +kernel)
  · exact absurd h5 (by decide +kernel)
  · exact wordsE_6_2
  · exact wordsE_6_3
  · exact absurd h5 (by decide +kernel)
  · exact absurd h5 (by decide +kernel)
  · exact absurd h5 (by decide +kernel)
  · exact wordsE_7_2
  · exact absurd h5 (by decide +kernel)
  · exact absurd h5 (by decide +kernel)
  · exact absurd h5 (by decide +kernel)
  · exact absurd h5 (by decide +kernel)
  · exact wordsE_8_2
  · exact absurd h5 (by decide +kernel)
  · exact absurd h5 (by decide +kernel)
  · exact absurd h5 (by decide +kernel)
  · exact absurd h5 (by decide +kernel)
  · exact wordsE_9_2
  · exact absurd h5 (by decide +kernel)
  · exact absurd h5 (by decide +kernel)
  · exact absurd h5 (by decide +kernel)
  · exact absurd h5 (by decide +kernel)
  · exact wordsE_10_2
  · exact absurd h5 (by decide +kernel)
  · exact absurd h5 (by decide +kernel)
  · exact absurd h5 (by decide +kernel)
  · exact absurd h5 (by decide +kernel)
theorem greedy_is (n k : Nat) (R : List Int) (n1 : 1 ≤ n) (n2 : n ≤ 10) (k1 : 2 ≤ k) (k2 : k ≤ 6) (hp : k ^ n ≤ 1024) (hr : grunL k (k ^ n) 1100 (List.replicate n 0) 1 0 = some R) (hL : k ^ n ≤ R.length) : Ev (fun q => impl_GreedyBruijn.f q (n : Int) (k : Int)) (R.reverse.take (k ^ n), true) := by
  have hkind : kindB (n : Int) (k : Int) = true := kindB_iff.mpr ⟨⟨by omega, by omega⟩, ⟨by omega, by omega⟩, by simpa using hp⟩
  have e2 := impl_isBruijnSize_ev (n : Int) (k : Int)
  rw [hkind] at e2
  have hpos : 1 ≤ k ^ n := Nat.one_le_pow _ _ (by omega)
  unfold impl_GreedyBruijn.f
  refine ev_call e2 (ev_pos (by trivial) (ev_call (impl_power_ev k n k2 (by omega)) (ev_pos (by omega) (ev_pos (by omega) ?_))))
  rw [Int.toNat_natCast]
  have := grunL_ev k (k ^ n) k2 hpos hp 1100 _ 1 0 R hr hL (by omega) (by simp; omega)
  rw [List.reverse_replicate] at this
  exact this
theorem euler_is (n k : Nat) (r : List Int) (n1 : 1 ≤ n) (n2 : n ≤ 10) (k1 : 2 ≤ k) (k2 : k ≤ 6) (hp : k ^ n ≤ 1024) (hr : eulF k (k ^ (n - 1)) 3000 0 [] 0 [] = some r) : Ev (fun q => impl_EulerBruijn.f q (n : Int) (k : Int)) (r, true) := by
  have hp2 : k ^ (n - 1) ≤ 1024 := Nat.le_trans (Nat.pow_le_pow_right (by omega) (by omega)) hp
  have hp3 : 1 ≤ k ^ (n - 1) := Nat.one_le_pow _ _ (by omega)
  unfold impl_EulerBruijn.f
  refine ev_call (impl_isBruijnSize_ev _ _) (ev_pos (kindB_iff.mpr ⟨⟨by omega, by omega⟩, ⟨by omega, by omega⟩, by simpa using hp⟩) ?_)
  rw [wrap_id (by omega), show ((n : Int) - 1) = ((n - 1 : Nat) : Int) by omega]
  refine ev_call (impl_power_ev k (n - 1) (by omega) (by omega)) (ev_pos (by omega) (ev_pos (by omega) ?_))
  rw [Int.toNat_natCast]
  have := eulF_ev k (k ^ (n - 1)) k2 hp3 hp2 3000 0 [] 0 [] r hr (by omega) (fun p hp => by cases hp) (by simp)
  rw [octs_zero] at this
  exact this
theorem FnBruijnWords : laws_FnBruijnWords.Pure := by
  intro l0 l1 _ _ hb0 _ _ hb1
  refine Ev.rounds (r := true) ?_
  unfold laws_FnBruijnWords.f
  obtain ⟨b, hbig⟩ := laws_big_some l0 l1
  refine ev_plain hbig ?_
  refine ev_if (fun _ => Ev.now _) (fun hbig2 => ?_)
  obtain ⟨n, k, a', s', hst, hn, hk, _⟩ := stages_ok (bytes_wf hb0) (a := 0) 0 (by omega) (by omega)
  have hdraw : spec_DrawLeastBruijn.f l0 = some (n, k) := by
    unfold spec_DrawLeastBruijn.f
    rw [hst]; rfl
  refine ev_plain hdraw ?_
  dsimp only
  obtain ⟨r1, c1, hl1, e1, f1⟩ := least_both n k
  obtain ⟨r2, c2, hl2, e2, f2⟩ := greedy_both n k
  obtain ⟨r3, c3, hl3, e3, f3⟩ := euler_both n k
  refine ev_call e1 (ev_call f1 (ev_call e2 (ev_call f2 (ev_call e3 (ev_call f3 ?_)))))
  dsimp only
  refine ev_neg (bne_no _) (ev_call (laws_tSame_ev _ _ (by omega)) (ev_pos (by simp) ?_))
  refine ev_neg (bne_no _) (ev_call (laws_tSame_ev _ _ (by omega)) (ev_pos (by simp) ?_))
  refine ev_neg (bne_no _) (ev_call (laws_tSame_ev _ _ (by omega)) (ev_pos (by simp) ?_))
  by_cases hkind : kindB n k = true
  · obtain ⟨n, k, rfl, rfl, n1, n2, k1, k2, hp⟩ := kindB_nat hkind
    have hL := wordsL_all n k n1 n2 k1 k2 hp
    have hG := wordsG_all n k n1 n2 k1 k2 hp
    have hE := wordsE_all n k n1 n2 k1 k2 hp
    unfold wordsL_one at hL
    unfold wordsG_one at hG
    unfold wordsE_one at hE
    cases hi : impl_LeastBruijn.f 2000 (n : Int) (k : Int) with
    | none => rw [hi] at hL; cases hL
    | some p =>
      cases hj : grunL k (k ^ n) 1100 (List.replicate n 0) 1 0 with
      | none => rw [hi, hj] at hG; cases hG
      | some R =>
        cases hm : eulF k (k ^ (n - 1)) 3000 0 [] 0 [] with
        | none => rw [hm] at hE; cases hE
        | some c =>
          obtain ⟨a, x⟩ := p
          rw [hi] at hL
          rw [hi, hj] at hG
          rw [hm] at hE
          simp only [Bool.and_eq_true, beq_iff_eq, decide_eq_true_eq] at hL hG hE
          obtain ⟨rfl, g1⟩ := hL
          obtain ⟨hRl, g2, g4⟩ := hG
          have g3 := hE
          obtain ⟨rfl, rfl⟩ := Prod.mk.inj (ev_det e1 (Ev.of (fun k => impl_LeastBruijn.mono _ _ k) (k := 2000) hi))
          obtain ⟨hr2, rfl⟩ := Prod.mk.inj (ev_det e2 (greedy_is n k R n1 n2 k1 k2 hp hj hRl))
          rw [← hr2] at g2 g4
          obtain ⟨rfl, rfl⟩ := Prod.mk.inj (ev_det e3 (euler_is n k c n1 n2 k1 k2 hp hm))
          refine ev_neg (bne_no _) ?_
          rw [show (true != true) = false from rfl]
          have hnp : n ≤ k ^ n := Nat.le_of_lt (Nat.lt_pow_self (by omega))
          have len : ∀ w, bruF k n w = true → w.length = k ^ n := fun w h => by
            simp only [bruF, Bool.and_eq_true, decide_eq_true_eq] at h
            exact h.1
          obtain ⟨b1, L1, x1⟩ := bruF_ok (by rw [len _ g1]; exact hnp) g1
          obtain ⟨b2, L2, x2⟩ := bruF_ok (by rw [len _ g2]; exact hnp) g2
          obtain ⟨b3, L3, x3⟩ := bruF_ok (by rw [len _ g3]; exact hnp) g3
          have hpos : 1 ≤ k ^ n := Nat.pow_pos (by omega)
          generalize k ^ n = size at hp hnp L1 L2 L3 hpos
          have cyc : ∀ w : List Int, w.length = size → (∀ x ∈ w, 0 ≤ x ∧ x ≤ (k : Int) - 1) → ∀ m : Int, (k : Int) ≤ m → m ≤ 6 → cycleB w m = true := fun w hw hx m h1 h2 => cycleB_iff.mpr ⟨by omega, by omega, fun x h => by have := hx x h; omega⟩
          have isb : ∀ w : List Int, w.length = size → (∀ x ∈ w, 0 ≤ x ∧ x ≤ (k : Int) - 1) → bruijnB w n k = true → Ev (fun q => impl_IsBruijn.f q w (n : Int) (k : Int)) (true, true) := fun w hw hx hb => by
            have := impl_IsBruijn_ev w (n : Int) (k : Int) (by omega) (by omega)
            unfold IsBruijnM at this
            rw [if_pos ⟨hkind, cyc w hw hx _ (by omega) (by omega)⟩, Int.toNat_natCast, Int.toNat_natCast, hb] at this
            exact this
          refine Ev.step (fun k => by simp only [laws_FnBruijnWords.j0]; rfl) ?_
          refine ev_neg (by simp) (ev_pos (by trivial) ?_)
          refine ev_call (isb r1 L1 x1 b1) (ev_call (isb r2 L2 x2 b2) (ev_call (isb r3 L3 x3 b3) ?_))
          dsimp only
          refine ev_pos (by trivial) (ev_pos (by trivial) (ev_pos (by trivial) (ev_pos (by trivial) (ev_pos (by trivial) (ev_pos (by trivial) ?_)))))
          refine ev_call (Ev.of (fun k => laws_tLess.mono _ _ k) (k := 2000) g4) ?_
          refine Ev.step (fun k => by simp only [laws_FnBruijnWords.j1]; rfl) ?_
          refine ev_neg (by simp) (ev_neg (by omega) ?_)
          obtain ⟨p, hpl, hpe⟩ : ∃ p : Nat, p < r1.length ∧ ((l1.length : Int) % (r1.length : Int)) = (p : Int) := ⟨l1.length % r1.length, Nat.mod_lt _ (by omega), by simp⟩
          rw [hpe]
          have hwa := impl_WindowAt_ev r1 (n : Int) (p : Int) (by omega) (by omega) (by omega)
          have hwin : WindowAtM r1 (n : Int) (p : Int) = (win r1 p n, true) := by
            unfold WindowAtM
            rw [if_pos ⟨cyc r1 L1 x1 6 (by omega) (by omega), by omega, by omega⟩, Int.toNat_natCast, Int.toNat_natCast]
          rw [hwin] at hwa
          have hgx : ∀ x ∈ win r1 p n, 0 ≤ x ∧ x ≤ (k : Int) - 1 := fun x h => x1 x (mem_win (by omega) h)
          have hcg : cycleB (win r1 p n) 6 = true := cycleB_iff.mpr ⟨by omega, by rw [win_length]; omega, fun x h => by have := hgx x h; omega⟩
          have pls : ∀ w : List Int, w.length = size → (∀ x ∈ w, 0 ≤ x ∧ x ≤ (k : Int) - 1) → Ev (fun q => impl_PlacesOf.f q w (win r1 p n)) (placesM w (win r1 p n), true) := fun w hw hx => by
            have := impl_PlacesOf_ev w (win r1 p n) (by omega) (by rw [win_length]; omega)
            unfold PlacesOfM at this
            rw [if_pos ⟨cyc w hw hx 6 (by omega) (by omega), hcg⟩] at this
            exact this
          have p1 := pls r1 L1 x1
          have p3 := pls r3 L3 x3
          rw [bru_places_at b1 x1 p hpl] at p1
          obtain ⟨q3, _, _, hq3⟩ := bru_places b3 x3 (by omega) (win r1 p n) (win_length _ _ _) hgx
          rw [hq3] at p3
          refine ev_call hwa (ev_call p1 (ev_call p3 ?_))
          dsimp only
          refine ev_pos (by trivial) (ev_pos (by trivial) (ev_pos (by trivial) (ev_pos (by rw [win_length]) ?_)))
          exact ev_call (laws_tSame_ev _ _ (by simp)) (ev_pos (by simp) (ev_some (by simp)))
  · have e4 := impl_isBruijnSize_ev n k
    rw [Bool.eq_false_iff.mpr hkind] at e4
    have d1 : Ev (fun q => impl_LeastBruijn.f q n k) (([] : List Int), false) := by
      unfold impl_LeastBruijn.f
      exact ev_call e4 (ev_neg (by simp) (Ev.now _))
    have d2 : Ev (fun q => impl_GreedyBruijn.f q n k) (([] : List Int), false) := by
      unfold impl_GreedyBruijn.f
      exact ev_call e4 (ev_neg (by simp) (Ev.now _))
    have d3 : Ev (fun q => impl_EulerBruijn.f q n k) (([] : List Int), false) := by
      unfold impl_EulerBruijn.f
      exact ev_call e4 (ev_neg (by simp) (Ev.now _))
    obtain ⟨rfl, rfl⟩ := Prod.mk.inj (ev_det e1 d1)
    obtain ⟨rfl, rfl⟩ := Prod.mk.inj (ev_det e2 d2)
    obtain ⟨rfl, rfl⟩ := Prod.mk.inj (ev_det e3 d3)
    refine ev_neg (bne_no _) ?_
    rw [show (false != false) = false from rfl]
    refine Ev.step (fun k => by simp only [laws_FnBruijnWords.j0]; rfl) ?_
    exact ev_neg (by simp) (ev_neg (by simp) (Ev.now _))

end Go.Proofs.Ytdnbeekoefmbcaa.Pure
