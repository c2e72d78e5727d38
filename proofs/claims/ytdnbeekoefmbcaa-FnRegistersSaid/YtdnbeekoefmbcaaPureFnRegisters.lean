/- The pure statement of Registers: it holds of all draws; no condition. -/
import Derived.Test.YtdnbeekoefmbcaaPFnRegistersx9
import Derived.Test.YtdnbeekoefmbcaaBase
import Derived.Test.YtdnbeekoefmbcaaLists
import Derived.Test.YtdnbeekoefmbcaaRegs
namespace Go.Proofs.Ytdnbeekoefmbcaa.Pure
open Go.RowKit Go.Proofs.Ytdnbeekoefmbcaa.PFnRegisters Go.Proofs.YtdnbeekoefmbcaaW.PrintWords Go.Proofs.YtdnbeekoefmbcaaW.PrintLast Go.Proofs.Ytdnbeekoefmbcaa.Base
set_option maxRecDepth 10000
set_option linter.unusedVariables false
set_option linter.unusedSimpArgs false

def bytesL (d : List Int) : Prop := ∀ x ∈ d, 0 ≤ x ∧ x ≤ 255
theorem and255 (x : Int) : 0 ≤ Go.bits .and .u64 x 255 ∧ Go.bits .and .u64 x 255 ≤ 255 := by
  have h : ((BitVec.ofInt 64 x) &&& (BitVec.ofInt 64 255)).toNat ≤ 255 := by
    rw [BitVec.toNat_and]; exact Nat.le_trans Nat.and_le_right (by decide)
  have e : Go.bits .and .u64 x 255 = IntKind.u64.wrap (((BitVec.ofInt 64 x) &&& (BitVec.ofInt 64 255)).toNat : Int) := rfl
  rw [e]
  generalize ((BitVec.ofInt 64 x) &&& (BitVec.ofInt 64 255)).toNat = m at h
  simp only [IntKind.wrap, IntKind.signed, IntKind.bits, Bool.false_and, Bool.false_eq_true, if_false]
  omega
theorem bytes_wf {d : List Int} (h : ∀ x ∈ d, (Lit.int .u8 x).wf = true) : bytesL d := by
  intro x hx
  have h := h x hx
  simp only [Lit.wf, IntKind.min, IntKind.max, IntKind.signed, IntKind.bits, Bool.and_eq_true, decide_eq_true_eq, Bool.false_eq_true, if_false] at h
  omega
theorem next_ok {d : List Int} (hd : bytesL d) {a : Int} (s : Int) (h0 : 0 ≤ a) (h1 : a ≤ 1000000000001000) : ∃ v s', spec_l1Cur_next.f d a s = some (v, a + 1, s') ∧ 0 ≤ v ∧ v ≤ 255 := by
  unfold spec_l1Cur_next.f
  rw [wrap_id (x := a + 1) (by omega)]
  by_cases ha : a < (d.length : Int)
  · rw [if_pos ha, if_pos h0, if_pos (by omega)]
    have hb : 0 ≤ rd d a ∧ rd d a ≤ 255 := by
      obtain ⟨j, rfl⟩ := Int.eq_ofNat_of_zero_le h0
      exact hd _ (by rw [show rd d ((j : Nat) : Int) = d[j]'(by omega) from rd_get d j (by omega)]; exact List.getElem_mem _)
    exact ⟨_, _, rfl, by rw [wrap_id (by omega)]; exact hb.1, by rw [wrap_id (by omega)]; exact hb.2⟩
  · rw [if_neg ha]
    by_cases hb : a + 1 ≤ (d.length : Int)
    · omega
    · rw [if_neg hb]
      have h := and255 ((IntKind.u64.wrap ((IntKind.u64.wrap ((IntKind.u64.wrap (s * 6364136223846793005)))) + 1442695040888963407)) / 1099511627776)
      exact ⟨_, _, rfl, by rw [wrap_id (by omega)]; exact h.1, by rw [wrap_id (by omega)]; exact h.2⟩
theorem tmod_lt {x n : Int} (h0 : 0 ≤ x) (hn : 1 ≤ n) : 0 ≤ Int.tmod x n ∧ Int.tmod x n < n := by
  obtain ⟨p, rfl⟩ := Int.eq_ofNat_of_zero_le h0
  obtain ⟨q, rfl⟩ := Int.eq_ofNat_of_zero_le (show 0 ≤ n by omega)
  rw [show ((p : Nat) : Int).tmod ((q : Nat) : Int) = ((p % q : Nat) : Int) from tmod_nat p q]
  have := Nat.mod_lt p (show 0 < q by omega)
  omega
theorem pick_ok {d : List Int} (hd : bytesL d) {a : Int} (s n : Int) (h0 : 0 ≤ a) (h1 : a ≤ 1000000000000000) : ∃ v a' s', spec_l1Cur_pick.f d a s n = some (v, a', s') ∧ (0 ≤ v ∧ (v < n ∨ (n ≤ 1 ∧ v = 0))) ∧ (a ≤ a' ∧ a' ≤ a + 2) := by
  unfold spec_l1Cur_pick.f
  by_cases hn : n ≤ 1
  · rw [if_pos hn]
    exact ⟨0, a, s, rfl, ⟨by omega, .inr ⟨hn, rfl⟩⟩, by omega⟩
  · rw [if_neg hn]
    obtain ⟨v, s1, e1, hv⟩ := next_ok hd s h0 (by omega)
    rw [e1, Option.bind_some]
    dsimp only
    by_cases h2 : n > 200
    · rw [if_pos h2]
      obtain ⟨u, s2, e2, hu⟩ := next_ok hd (a := a + 1) s1 (by omega) (by omega)
      rw [e2, Option.bind_some]
      dsimp only
      rw [if_neg (by omega), wrap_id (x := v * 256) (by omega), wrap_id (x := v * 256 + u) (by omega)]
      have := tmod_lt (x := v * 256 + u) (n := n) (by omega) (by omega)
      exact ⟨_, _, _, rfl, ⟨this.1, .inl this.2⟩, by omega⟩
    · rw [if_neg h2, if_neg (by omega)]
      have := tmod_lt (x := v) (n := n) (by omega) (by omega)
      exact ⟨_, _, _, rfl, ⟨this.1, .inl this.2⟩, by omega⟩

theorem among_ok {d : List Int} (hd : bytesL d) {a : Int} (s : Int) (l : List Int) (hl : 1 ≤ l.length) (h0 : 0 ≤ a) (h1 : a ≤ 1000000000000000) : ∃ v a' s', spec_l1Cur_among.f d a s l = some (v, a', s') ∧ v ∈ l ∧ (a ≤ a' ∧ a' ≤ a + 2) := by
  obtain ⟨v, a', s', e, hv, h⟩ := pick_ok hd s (l.length : Int) h0 h1
  unfold spec_l1Cur_among.f
  rw [e, Option.bind_some]
  dsimp only
  rw [if_pos (by omega), if_pos (by omega)]
  refine ⟨_, _, _, rfl, ?_, h⟩
  obtain ⟨j, rfl⟩ := Int.eq_ofNat_of_zero_le hv.1
  rw [show rd l ((j : Nat) : Int) = l[j]'(by omega) from rd_get l j (by omega)]
  exact List.getElem_mem _

theorem one_ok {d : List Int} (hd : bytesL d) {a : Int} (s n : Int) (h0 : 0 ≤ a) (h1 : a ≤ 1000000000000000) : ∃ v a' s', spec_l1Cur_one.f d a s n = some (v, a', s') ∧ (a ≤ a' ∧ a' ≤ a + 2) := by
  obtain ⟨v, a', s', e, _, h⟩ := pick_ok hd s n h0 h1
  unfold spec_l1Cur_one.f
  rw [e]
  exact ⟨_, _, _, rfl, h⟩

def kindB (n k : Int) : Bool := inB n 1 10 && (inB k 2 6 && decide (k.toNat ^ n.toNat ≤ 1024))
theorem kindB_iff {n k : Int} : kindB n k = true ↔ (1 ≤ n ∧ n ≤ 10) ∧ (2 ≤ k ∧ k ≤ 6) ∧ k.toNat ^ n.toNat ≤ 1024 := by simp [kindB, inB_iff]
theorem kindB_nat {n k : Int} (h : kindB n k = true) : ∃ n' k' : Nat, n = n' ∧ k = k' ∧ 1 ≤ n' ∧ n' ≤ 10 ∧ 2 ≤ k' ∧ k' ≤ 6 ∧ k' ^ n' ≤ 1024 := by
  obtain ⟨h1, h2, h3⟩ := kindB_iff.mp h
  exact ⟨n.toNat, k.toNat, by omega, by omega, by omega, by omega, by omega, by omega, h3⟩

theorem codesM_take (w : List Int) (n k i : Nat) (h : i < w.length) : (codesM w n k).take (i + 1) = (codesM w n k).take i ++ [codeN k (win w i n)] := by
  rw [List.take_succ_eq_append_getElem (by simp [codesM]; exact h)]
  simp [codesM]
theorem codesM_length (w : List Int) (n k : Nat) : (codesM w n k).length = w.length := by simp [codesM]
theorem codeN_take (k : Nat) (xs : List Int) (j : Nat) (h : j < xs.length) : codeN k (xs.take (j + 1)) = codeN k (xs.take j) * (k : Int) + rd xs (j : Int) := by
  rw [take_rd xs j h, codeN_snoc]
def IsBruijnM (w : List Int) (n k : Int) : Bool × Bool := if kindB n k = true ∧ cycleB w k = true then (bruijnB w n.toNat k.toNat, true) else (false, false)
theorem pow_le_1024 {k n j : Nat} (hk : 2 ≤ k) (h : k ^ n ≤ 1024) (hj : j ≤ n) : k ^ j ≤ 1024 := Nat.le_trans (Nat.pow_le_pow_right (by omega) hj) h
/-- The number of a beginning of a window, and the next step, lie in bounds. -/
theorem code_step {k n j : Nat} {xs : List Int} (hk : 2 ≤ k) (hk6 : k ≤ 6) (h : k ^ n ≤ 1024) (hx : xs.length = n) (hxs : ∀ x ∈ xs, 0 ≤ x ∧ x ≤ (k : Int) - 1) (hj : j < n) :
    wrap64 (wrap64 (codeN k (xs.take j) * (k : Int)) + rd xs (j : Int)) = codeN k (xs.take (j + 1)) := by
  have h1 := codeN_range k j (xs.take j) (by simp; omega) (fun x hx' => hxs x (List.mem_of_mem_take hx'))
  have h2 := pow_le_1024 hk h (show j ≤ n by omega)
  have h3 : codeN k (xs.take j) * (k : Int) ≤ 1024 * 6 := Int.mul_le_mul (by omega) (by omega) (by omega) (by omega)
  have h4 : 0 ≤ codeN k (xs.take j) * (k : Int) := Int.mul_nonneg h1.1 (by omega)
  have h5 : 0 ≤ rd xs (j : Int) ∧ rd xs (j : Int) ≤ (k : Int) - 1 := hxs _ (by rw [rd_get xs j (by omega)]; exact List.getElem_mem _)
  rw [wrap_id (x := codeN k (xs.take j) * (k : Int)) (by omega), wrap_id (by omega), codeN_take k xs j (by omega)]

/-- The places at which a window stands. -/
def placesIn (w g : List Int) (acc : List Int) (p : Nat) : List Int := if win w p g.length = g then acc ++ [(p : Int)] else acc
def placesM (w g : List Int) : List Int := (List.range' 0 w.length).foldl (placesIn w g) []
theorem placesM_length (w g : List Int) : ∀ d i acc, acc.length ≤ i → ((List.range' i d).foldl (placesIn w g) acc).length ≤ i + d := by
  intro d
  induction d with
  | zero => intro i acc h; simpa using h
  | succ d ih =>
    intro i acc h
    rw [List.range'_succ, List.foldl_cons]
    refine Nat.le_trans (ih (i + 1) _ ?_) (by omega)
    unfold placesIn
    split
    · simp; omega
    · omega
def PlacesOfM (w g : List Int) : List Int × Bool := if cycleB w 6 = true ∧ cycleB g 6 = true then (placesM w g, true) else ([], false)
theorem PlacesOfM_length (w g : List Int) : (PlacesOfM w g).1.length ≤ 1024 := by
  unfold PlacesOfM
  split
  · rename_i h
    have := (cycleB_iff.mp h.1).2.1.2
    have h2 := placesM_length w g w.length 0 [] (by simp)
    simp only [placesM]; omega
  · simp

theorem codeN_injk {k : Nat} : ∀ (n : Nat) (xs ys : List Int), xs.length = n → ys.length = n → (∀ x ∈ xs, 0 ≤ x ∧ x ≤ (k : Int) - 1) → (∀ x ∈ ys, 0 ≤ x ∧ x ≤ (k : Int) - 1) → codeN k xs = codeN k ys → xs = ys := by
  intro n
  induction n with
  | zero => intro xs ys h h' _ _ _; rw [List.eq_nil_of_length_eq_zero h, List.eq_nil_of_length_eq_zero h']
  | succ n ih =>
    intro xs ys h h' hx hy e
    rcases List.eq_nil_or_concat xs with rfl | ⟨us, u, rfl⟩
    · simp at h
    rcases List.eq_nil_or_concat ys with rfl | ⟨vs, v, rfl⟩
    · simp at h'
    rw [List.concat_eq_append] at *
    rw [List.concat_eq_append] at *
    rw [codeN_snoc, codeN_snoc] at e
    have h1 := hx u (by simp)
    have h2 := hy v (by simp)
    have hm : ∀ c x : Int, 0 ≤ x → x ≤ (k : Int) - 1 → (c * (k : Int) + x) % (k : Int) = x := fun c x a b => by
      rw [Int.add_comm, Int.add_mul_emod_self_right, Int.emod_eq_of_lt a (by omega)]
    have e1 : u = v := by
      have a := congrArg (fun z => z % (k : Int)) e
      replace a : (codeN k us * (k : Int) + u) % (k : Int) = (codeN k vs * (k : Int) + v) % (k : Int) := a
      rwa [hm _ _ h1.1 h1.2, hm _ _ h2.1 h2.2] at a
    subst e1
    have e2 : codeN k us = codeN k vs := Int.eq_of_mul_eq_mul_right (a := (k : Int)) (by omega) (by omega)
    rw [ih us vs (by simpa using h) (by simpa using h') (fun x hx' => hx x (by simp [hx'])) (fun x hx' => hy x (by simp [hx'])) e2]
theorem places_fold (w g : List Int) : ∀ (l : List Nat) (acc : List Int), l.foldl (placesIn w g) acc = acc ++ (l.filter (fun p => decide (win w p g.length = g))).map (fun (p : Nat) => (p : Int)) := by
  intro l
  induction l with
  | nil => intro acc; simp
  | cons a l ih =>
    intro acc
    rw [List.foldl_cons, ih]
    unfold placesIn
    by_cases h : win w a g.length = g
    · simp [h]
    · simp [h]
theorem filter_one {P : Nat → Bool} {p0 : Nat} : ∀ (l : List Nat), l.Nodup → p0 ∈ l → (∀ q ∈ l, (P q = true ↔ q = p0)) → l.filter P = [p0] := by
  intro l
  induction l with
  | nil => intro _ h _; cases h
  | cons a l ih =>
    intro hn hp hP
    rw [List.nodup_cons] at hn
    rw [List.filter_cons]
    by_cases e : a = p0
    · subst e
      rw [if_pos ((hP a (by simp)).mpr rfl)]
      have : l.filter P = [] := by
        rw [List.filter_eq_nil_iff]
        intro q hq h
        obtain rfl := (hP q (by simp [hq])).mp h
        exact hn.1 hq
      rw [this]
    · rw [if_neg (fun h => e ((hP a (by simp)).mp h))]
      exact ih hn.2 (by rcases List.mem_cons.mp hp with h | h; exact absurd h.symm e; exact h) (fun q hq => hP q (by simp [hq]))
theorem bru_code_inj {w : List Int} {n k : Nat} (hb : bruijnB w n k = true) {i j : Nat} (hi : i < w.length) (hj : j < w.length) (e : codeN k (win w i n) = codeN k (win w j n)) : i = j := by
  have hnd : (codesM w n k).Nodup := by
    simp only [bruijnB, Bool.and_eq_true, decide_eq_true_eq] at hb
    exact hb.2
  have hpw := List.pairwise_iff_getElem.mp hnd
  have hget : ∀ i, (h : i < w.length) → (codesM w n k)[i]'(by rw [codesM_length]; exact h) = codeN k (win w i n) := fun i h => by simp [codesM]
  by_cases c : i < j
  · have := hpw i j (by rw [codesM_length]; exact hi) (by rw [codesM_length]; exact hj) c
    rw [hget i hi, hget j hj] at this
    exact absurd e this
  · by_cases c2 : j < i
    · have := hpw j i (by rw [codesM_length]; exact hj) (by rw [codesM_length]; exact hi) c2
      rw [hget i hi, hget j hj] at this
      exact absurd e.symm this
    · omega
/-- Each window stands at just one place. -/
theorem bru_places {w : List Int} {n k : Nat} (hb : bruijnB w n k = true) (hx : ∀ x ∈ w, 0 ≤ x ∧ x ≤ (k : Int) - 1) (hw : 0 < w.length) (g : List Int) (hg : g.length = n) (hgx : ∀ x ∈ g, 0 ≤ x ∧ x ≤ (k : Int) - 1) :
    ∃ q, q < w.length ∧ win w q n = g ∧ placesM w g = [(q : Int)] := by
  have hlen : w.length = k ^ n := by
    simp only [bruijnB, Bool.and_eq_true, decide_eq_true_eq] at hb
    exact hb.1
  have hwx : ∀ i, ∀ x ∈ win w i n, 0 ≤ x ∧ x ≤ (k : Int) - 1 := fun i x h => hx x (mem_win hw h)
  have hr : ∀ i, 0 ≤ codeN k (win w i n) ∧ codeN k (win w i n) < ((k ^ n : Nat) : Int) := fun i => codeN_range k n _ (win_length _ _ _) (hwx i)
  have hrg := codeN_range k n g hg hgx
  have hex : ∃ q, q < w.length ∧ codeN k (win w q n) = codeN k g := by
    obtain ⟨i, j, h1, h2, e⟩ := pigeon w.length (fun i => if i < w.length then (codeN k (win w i n)).toNat else (codeN k g).toNat) (fun i hi => by
      have := hr i
      show (if i < w.length then (codeN k (win w i n)).toNat else (codeN k g).toNat) < w.length
      split <;> omega)
    replace e : (if i < w.length then (codeN k (win w i n)).toNat else (codeN k g).toNat) = (if j < w.length then (codeN k (win w j n)).toNat else (codeN k g).toNat) := e
    rw [if_pos (show i < w.length by omega)] at e
    have hi := hr i
    by_cases c : j < w.length
    · rw [if_pos c] at e
      have hj := hr j
      exact absurd (bru_code_inj hb (show i < w.length by omega) c (by omega)) (by omega)
    · rw [if_neg c] at e
      exact ⟨i, by omega, by omega⟩
  obtain ⟨q, hq, he⟩ := hex
  have hwin : win w q n = g := codeN_injk n _ _ (win_length _ _ _) hg (hwx q) hgx he
  refine ⟨q, hq, hwin, ?_⟩
  unfold placesM
  rw [places_fold, List.nil_append, filter_one (p0 := q) _ (List.nodup_range' ) (by simp [List.mem_range'_1]; exact hq) (fun p hp => ?_)]
  · rfl
  · rw [decide_eq_true_eq, hg]
    refine ⟨fun h => ?_, fun h => by rw [h]; exact hwin⟩
    have hp2 : p < w.length := by simpa [List.mem_range'_1] using hp
    exact bru_code_inj hb hp2 hq (by rw [h, hwin])
theorem bru_places_at {w : List Int} {n k : Nat} (hb : bruijnB w n k = true) (hx : ∀ x ∈ w, 0 ≤ x ∧ x ≤ (k : Int) - 1) (p : Nat) (hp : p < w.length) : placesM w (win w p n) = [(p : Int)] := by
  obtain ⟨q, hq, h1, h2⟩ := bru_places hb hx (by omega) (win w p n) (win_length _ _ _) (fun x h => hx x (mem_win (by omega) h))
  obtain rfl := bru_code_inj hb hq hp (by rw [h1])
  exact h2
/-- The same, looked at fast. -/
def codesL (k n : Nat) : Nat → List Int → List Int
  | 0, _ => []
  | c + 1, l => codeN k (l.take n) :: codesL k n c l.tail
def maskOk : List Int → Nat → Bool
  | [], _ => true
  | c :: t, m => if m.testBit c.toNat = true then false else maskOk t (m ||| (1 <<< c.toNat))
theorem maskOk_nodup : ∀ (l : List Int) (m : Nat), maskOk l m = true → (∀ c ∈ l, 0 ≤ c) → l.Nodup ∧ ∀ c ∈ l, m.testBit c.toNat = false := by
  intro l
  induction l with
  | nil => intro m _ _; exact ⟨List.nodup_nil, fun c hc => by cases hc⟩
  | cons a l ih =>
    intro m h h0
    unfold maskOk at h
    split at h
    · cases h
    · rename_i h1
      obtain ⟨h2, h3⟩ := ih _ h (fun c hc => h0 c (by simp [hc]))
      have h4 : ∀ c ∈ l, m.testBit c.toNat = false ∧ c ≠ a := fun c hc => by
        have h5 := h3 c hc
        rw [Nat.testBit_or, Bool.or_eq_false_iff] at h5
        refine ⟨h5.1, fun e => ?_⟩
        subst e
        have := h5.2
        simp [Nat.testBit_shiftLeft] at this
      refine ⟨List.nodup_cons.mpr ⟨fun hm => (h4 a hm).2 rfl, h2⟩, fun c hc => ?_⟩
      rcases List.mem_cons.mp hc with rfl | hc
      · exact Bool.eq_false_iff.mpr h1
      · exact (h4 c hc).1
def bruF (k n : Nat) (w : List Int) : Bool := decide (w.length = k ^ n) && (w.all (fun x => decide (0 ≤ x) && decide (x ≤ (k : Int) - 1)) && maskOk (codesL k n w.length (w ++ w.take n)) 0)
theorem codesL_eq (k n : Nat) (l : List Int) : ∀ d i, codesL k n d (l.drop i) = (List.range' i d).map fun p => codeN k ((l.drop p).take n) := by
  intro d
  induction d with
  | zero => intro i; rfl
  | succ d ih =>
    intro i
    rw [List.range'_succ, List.map_cons]
    unfold codesL
    rw [List.tail_drop, ih (i + 1)]
theorem win_take (w : List Int) (p n : Nat) (hp : p < w.length) (hn : n ≤ w.length) : ((w ++ w.take n).drop p).take n = win w p n := by
  apply List.ext_getElem
  · rw [win_length, List.length_take, List.length_drop, List.length_append, List.length_take]; omega
  · intro j h1 h2
    rw [win_length] at h2
    have e := win_get w p n j h2
    rw [List.getD_eq_getElem?_getD, List.getElem?_eq_getElem (by rw [win_length]; exact h2), Option.getD_some] at e
    rw [e, List.getElem_take, List.getElem_drop]
    by_cases c : p + j < w.length
    · rw [List.getElem_append_left c, Nat.mod_eq_of_lt c, List.getD_eq_getElem?_getD, List.getElem?_eq_getElem c, Option.getD_some]
    · have hm : (p + j) % w.length = p + j - w.length := by
        rw [Nat.mod_eq_sub_mod (by omega), Nat.mod_eq_of_lt (by omega)]
      rw [List.getElem_append_right (by omega), List.getElem_take, hm, List.getD_eq_getElem?_getD, List.getElem?_eq_getElem (by omega), Option.getD_some]
theorem bruF_ok {k n : Nat} {w : List Int} (hn : n ≤ w.length) (h : bruF k n w = true) : bruijnB w n k = true ∧ w.length = k ^ n ∧ ∀ x ∈ w, 0 ≤ x ∧ x ≤ (k : Int) - 1 := by
  simp only [bruF, Bool.and_eq_true, decide_eq_true_eq, List.all_eq_true] at h
  obtain ⟨h1, h2, h3⟩ := h
  have e : codesL k n w.length (w ++ w.take n) = codesM w n k := by
    have := codesL_eq k n (w ++ w.take n) w.length 0
    rw [List.drop_zero] at this
    rw [this]
    unfold codesM
    refine List.map_congr_left (fun p hp => ?_)
    rw [win_take w p n (by simpa [List.mem_range'_1] using hp) hn]
  rw [e] at h3
  have hnd := (maskOk_nodup _ 0 h3 (fun c hc => (codesM_range h2 c hc).1)).1
  refine ⟨?_, h1, h2⟩
  simp only [bruijnB, Bool.and_eq_true, decide_eq_true_eq]
  exact ⟨h1, hnd⟩

def sumI (l : List Int) : Int := l.foldl (fun a x => a + x) 0
theorem sumI_take (l : List Int) (i : Nat) (h : i < l.length) : sumI (l.take (i + 1)) = sumI (l.take i) + rd l (i : Int) := by
  unfold sumI
  rw [take_rd l i h, List.foldl_append]; rfl
theorem sumI_range : ∀ (l : List Int) (a : Int), (∀ x ∈ l, 0 ≤ x ∧ x ≤ 5) → a ≤ l.foldl (fun a x => a + x) a ∧ l.foldl (fun a x => a + x) a ≤ a + 5 * (l.length : Int) ∧ (l.foldl (fun a x => a + x) a = a → ∀ x ∈ l, x = 0) := by
  intro l
  induction l with
  | nil => intro a _; exact ⟨Int.le_refl _, by simp, fun _ x hx => by cases hx⟩
  | cons b l ih =>
    intro a h
    have hb := h b (by simp)
    obtain ⟨h1, h2, h3⟩ := ih (a + b) (fun x hx => h x (by simp [hx]))
    rw [List.foldl_cons, List.length_cons]
    refine ⟨by omega, by omega, fun e x hx => ?_⟩
    have hb0 : b = 0 := by omega
    rcases List.mem_cons.mp hx with rfl | hx
    · exact hb0
    · exact h3 (by rw [hb0] at e ⊢; simpa using e) x hx
theorem sumI_zero (l : List Int) (h : ∀ x ∈ l, 0 ≤ x ∧ x ≤ 5) : sumI l = 0 ↔ l = List.replicate l.length 0 := by
  constructor
  · intro e
    exact List.eq_replicate_iff.mpr ⟨rfl, fun x hx => (sumI_range l 0 h).2.2 e x hx⟩
  · intro e
    rw [e]
    unfold sumI
    generalize l.length = m
    induction m with
    | zero => rfl
    | succ m ih => rw [List.replicate_succ, List.foldl_cons]; exact ih
theorem impl_sum_ev (l : List Int) (hl : l.length ≤ 1000000) (h : ∀ x ∈ l, 0 ≤ x ∧ x ≤ 5) : Ev (fun q => impl_sum.f q l) (sumI l) := by
  unfold impl_sum.f
  refine ev_iter (fun (a : Int) i q => impl_sum.l0 q a l (l.length : Int) (i : Int)) (fun a i => a + rd l (i : Int)) (fun i a => a = sumI (l.take i)) l.length ?_ l.length 0 0 (by omega) (by simp [sumI]) ?_
  · intro a i hi hI
    refine ⟨by rw [hI, sumI_take l i hi], fun r k => ?_⟩
    have hr := sumI_range (l.take i) 0 (fun x hx => h x (List.mem_of_mem_take hx))
    have hx := h (rd l (i : Int)) (by rw [rd_get l i hi]; exact List.getElem_mem hi)
    have hln : ((l.take i).length : Int) ≤ 1000000 := by simp; omega
    have h1 : 0 ≤ a := by rw [hI]; exact hr.1
    have h2 : a ≤ 5000000 := by have := hr.2.1; rw [hI]; unfold sumI; omega
    refine Ev.step (fun k => by simp only [impl_sum.l0]; rfl) (ev_pos (by omega) (ev_pos (by omega) (ev_pos (by omega) ?_)))
    rw [wrap_succ (by omega), wrap_id (x := a + rd l (i : Int)) (by omega)]
    exact k
  · intro hI
    refine Ev.step (fun k => by simp only [impl_sum.l0]; rfl) (ev_neg (by omega) (ev_some ?_))
    rw [hI, List.take_of_length_le (Nat.le_refl _)]

theorem impl_window_loop (w : List Int) (n p : Nat) (hw : 0 < w.length) (hwl : w.length ≤ 1000000000000) (hn : n ≤ 1000000000000) (hp : p ≤ 1000000000000) : ∀ (d i : Nat) (acc : List Int), i + d = n → acc.length = i →
    Ev (fun k => impl_window.l0 k w (p : Int) acc (n : Int) (i : Int)) (acc ++ (List.range' i d).map fun j => w.getD ((p + j) % w.length) 0) := by
  intro d
  induction d with
  | zero =>
    intro i acc h ha
    refine Ev.step (f := fun _ => some acc) (fun k => ?_) (ev_some (by simp))
    simp only [impl_window.l0]; rw [if_neg (by omega)]
  | succ d ih =>
    intro i acc h ha
    refine Ev.step (f := fun k => impl_window.l0 k w (p : Int) (acc ++ [w.getD ((p + i) % w.length) 0]) (n : Int) ((i + 1 : Nat) : Int)) (fun k => ?_) (ev_to (ih (i + 1) _ (by omega) (by simp [ha])) ?_)
    · simp only [impl_window.l0]
      rw [if_pos (by omega), if_neg (by omega), wrap_id (x := (p : Int) + (i : Int)) (by omega), show (p : Int) + (i : Int) = ((p + i : Nat) : Int) by omega, tmod_nat, wrap_succ (by omega)]
      have hm := Nat.mod_lt (p + i) hw
      rw [if_pos (by omega), if_pos (by omega), if_pos (by omega), rd_nat]
    · simp [List.range'_succ]
theorem impl_window_ev (w : List Int) (n p : Nat) (hw : 0 < w.length) (hwl : w.length ≤ 1000000000000) (hn : n ≤ 1000000000000) (hp : p ≤ 1000000000000) : Ev (fun k => impl_window.f k w (n : Int) (p : Int)) (win w p n) :=
  ev_to (impl_window_loop w n p hw hwl hn hp n 0 [] (by omega) rfl) (by simp [win])

theorem findSome_first {ρ : Type} (F : Nat → Option ρ) (i d c : Nat) (h1 : i ≤ c) (h2 : c < i + d) (h3 : (F c).isSome = true) : ∃ r, ((List.range' i d).findSome? F) = some r ∧ ∃ j, i ≤ j ∧ j ≤ c ∧ F j = some r := by
  induction d generalizing i with
  | zero => omega
  | succ d ih =>
    rw [List.range'_succ, List.findSome?_cons]
    cases hf : F i with
    | some r => exact ⟨r, rfl, i, Nat.le_refl _, h1, hf⟩
    | none =>
      by_cases e : i = c
      · subst e; rw [hf] at h3; cases h3
      · obtain ⟨r, hr, j, j1, j2, j3⟩ := ih (i + 1) (by omega) (by omega)
        exact ⟨r, hr, j, by omega, j2, j3⟩

/-- The first place from i on at which so many zeros stand and something is so. -/
def zerosF (w : List Int) (n : Nat) (P : Nat → Bool) : Option Int := (List.range' 0 w.length).findSome? fun (i : Nat) => if win w i n = List.replicate n 0 ∧ P i = true then some (i : Int) else none
theorem impl_zerosAt_ev (w : List Int) (n : Nat) (p : Int → Option Bool) (P : Nat → Bool) (hw : w.length ≤ 1024) (hn : n ≤ 1000) (hx : ∀ x ∈ w, 0 ≤ x ∧ x ≤ 5) (hp : ∀ i : Nat, i < w.length → p (i : Int) = some (P i)) :
    Ev (fun q => impl_zerosAt.f p q w (n : Int)) ((zerosF w n P).getD (-1)) := by
  unfold impl_zerosAt.f zerosF
  refine ev_find (fun i q => impl_zerosAt.l0 p q w (n : Int) (i : Int)) _ w.length (-1) ?_ ?_ w.length 0 (by omega)
  · intro i hi
    have hwx : ∀ x ∈ win w i n, 0 ≤ x ∧ x ≤ 5 := fun x h => hx x (mem_win (by omega) h)
    have hz : sumI (win w i n) = 0 ↔ win w i n = List.replicate n 0 := by
      have := sumI_zero (win w i n) hwx
      rw [win_length] at this
      exact this
    have hstep : ∀ r, Ev (fun q => if win w i n = List.replicate n 0 ∧ P i = true then some (i : Int) else impl_zerosAt.l0 p q w (n : Int) ((i + 1 : Nat) : Int)) r → Ev (fun q => impl_zerosAt.l0 p q w (n : Int) (i : Int)) r := by
      intro r h
      refine Ev.step (fun k => by simp only [impl_zerosAt.l0]; rfl) (ev_pos (by omega) ?_)
      refine ev_call (impl_window_ev w n i (by omega) (by omega) (by omega) (by omega)) (ev_call (impl_sum_ev _ (by rw [win_length]; omega) hwx) ?_)
      rw [wrap_succ (by omega)]
      by_cases c : win w i n = List.replicate n 0
      · refine ev_pos (hz.mpr c) (ev_plain (hp i hi) ?_)
        by_cases c2 : P i = true
        · simp only [c, c2, and_self, if_true] at h
          exact ev_pos c2 h
        · simp only [c, c2, and_false, if_false] at h
          exact ev_neg c2 h
      · simp only [c, false_and, if_false] at h
        exact ev_neg (fun e => c (hz.mp e)) h
    refine ⟨fun r hr => hstep r ?_, fun hr r h => hstep r ?_⟩
    · split at hr
      · rename_i h1
        obtain rfl := Option.some.inj hr
        exact ev_pos h1 (Ev.now _)
      · cases hr
    · split at hr
      · cases hr
      · rename_i h1
        exact ev_neg h1 h
  · exact Ev.step (fun k => by simp only [impl_zerosAt.l0]; rfl) (ev_neg (by omega) (Ev.now _))
def prevNZ (w : List Int) (i : Nat) : Bool := decide (¬ rd w (((i + w.length - 1) % w.length : Nat) : Int) = 0)
theorem zerosF_one {w : List Int} {n : Nat} {P : Nat → Bool} {q : Nat} (hq : q < w.length) (h1 : win w q n = List.replicate n 0) (hP : P q = true) (huniq : ∀ i, i < w.length → win w i n = List.replicate n 0 → i = q) : zerosF w n P = some (q : Int) := by
  unfold zerosF
  obtain ⟨r, hr, j, _, j2, hj⟩ := findSome_first (fun (i : Nat) => if win w i n = List.replicate n 0 ∧ P i = true then some (i : Int) else none) 0 w.length q (by omega) (by omega) (by show Option.isSome (if _ then _ else _) = true; rw [if_pos ⟨h1, hP⟩]; rfl)
  rw [hr]
  split at hj
  · rename_i h2
    obtain rfl := huniq j (by omega) h2.1
    exact hj.symm
  · cases hj
theorem win_zeros_prev {w : List Int} {n q : Nat} (hq : q < w.length) (h1 : win w q n = List.replicate n 0) (h2 : rd w (((q + w.length - 1) % w.length : Nat) : Int) = 0) : win w ((q + w.length - 1) % w.length) n = List.replicate n 0 := by
  have hm := Nat.mod_lt (q + w.length - 1) (show 0 < w.length by omega)
  refine List.eq_replicate_iff.mpr ⟨win_length _ _ _, fun x hx => ?_⟩
  obtain ⟨j, hj, rfl⟩ := List.getElem_of_mem hx
  rw [win_length] at hj
  have e := win_get w ((q + w.length - 1) % w.length) n j hj
  rw [List.getD_eq_getElem?_getD, List.getElem?_eq_getElem (by rw [win_length]; exact hj), Option.getD_some] at e
  rw [e]
  by_cases c : j = 0
  · subst c
    rw [Nat.add_zero, Nat.mod_mod, ← rd_nat]; exact h2
  · have e2 := win_get w q n (j - 1) (by omega)
    rw [h1] at e2
    have e3 : (List.replicate n (0 : Int)).getD (j - 1) 0 = 0 := by simp [List.getD_eq_getElem?_getD, List.getElem?_replicate]; split <;> rfl
    rw [e3] at e2
    have e4 : ((q + w.length - 1) % w.length + j) % w.length = (q + (j - 1)) % w.length := by
      rw [Nat.mod_add_mod, show q + w.length - 1 + j = q + (j - 1) + w.length by omega, Nat.add_mod_right]
    rw [e4]; exact e2.symm

/-- The word with a code: so many digits, from the last one on. -/
def putD (kk : Int) : Nat → Int → List Int → List Int
  | 0, _, w => w
  | m + 1, c, w => putD kk m (Int.tdiv c kk) (w.set m (Int.tmod c kk))
theorem putD_length (kk : Int) : ∀ m c w, (putD kk m c w).length = w.length := by
  intro m
  induction m with
  | zero => intro c w; rfl
  | succ m ih => intro c w; unfold putD; rw [ih, List.length_set]
def digW (len : Nat) (kk : Int) (c : Int) : List Int := putD kk len c (List.replicate len 0)
theorem digW_length (len : Nat) (kk c : Int) : (digW len kk c).length = len := by unfold digW; rw [putD_length, List.length_replicate]
theorem putD_range (kk : Int) (hk : 1 ≤ kk) : ∀ m c w, 0 ≤ c → (∀ x ∈ w, 0 ≤ x ∧ x < kk) → ∀ x ∈ putD kk m c w, 0 ≤ x ∧ x < kk := by
  intro m
  induction m with
  | zero => intro c w _ h; exact h
  | succ m ih =>
    intro c w hc h
    unfold putD
    refine ih _ _ (Int.tdiv_nonneg hc (by omega)) (fun x hx => ?_)
    rcases List.mem_or_eq_of_mem_set hx with hx | rfl
    · exact h x hx
    · exact ⟨Int.tmod_nonneg _ hc, Int.tmod_lt_of_pos _ (by omega)⟩
theorem digW_range (len : Nat) (kk : Int) (hk : 1 ≤ kk) (c : Int) (hc : 0 ≤ c) : ∀ x ∈ digW len kk c, 0 ≤ x ∧ x < kk := by
  unfold digW
  exact putD_range kk hk len c _ hc (fun x hx => by have := List.eq_of_mem_replicate hx; omega)
theorem tdiv_small {c kk : Int} (h0 : 0 ≤ c) (hk : 1 ≤ kk) (hc : c ≤ 1000000000000) : wrap64 (Int.tdiv c kk) = Int.tdiv c kk ∧ 0 ≤ Int.tdiv c kk ∧ Int.tdiv c kk ≤ 1000000000000 := by
  obtain ⟨a, rfl⟩ := Int.eq_ofNat_of_zero_le h0
  obtain ⟨b, rfl⟩ := Int.eq_ofNat_of_zero_le (show 0 ≤ kk by omega)
  obtain ⟨q, hq⟩ : ∃ q : Nat, a / b = q := ⟨_, rfl⟩
  have e : Int.tdiv (a : Int) (b : Int) = ((a / b : Nat) : Int) := (Int.ofNat_tdiv a b).symm
  have := Nat.div_le_self a b
  rw [hq] at e this
  rw [e]
  exact ⟨wrap_id (by omega), by omega, by omega⟩
/-- A search that must end: the first hit of those counted up to some number. -/
theorem ev_hit {ρ : Type} (L : Nat → Nat → Option ρ) (F : Nat → Option ρ) (r : ρ) : ∀ d i, (∀ j, i ≤ j → j < i + d → (∀ r, F j = some r → Ev (L j) r) ∧ (F j = none → ∀ r, Ev (L (j + 1)) r → Ev (L j) r)) →
    ((List.range' i d).findSome? F) = some r → Ev (L i) r := by
  intro d
  induction d with
  | zero => intro i _ h; simp at h
  | succ d ih =>
    intro i hs h
    rw [List.range'_succ, List.findSome?_cons] at h
    obtain ⟨h1, h2⟩ := hs i (Nat.le_refl _) (by omega)
    cases hf : F i with
    | some r' =>
      rw [hf] at h
      obtain rfl := Option.some.inj h
      exact h1 _ hf
    | none =>
      rw [hf] at h
      exact h2 hf _ (ih (i + 1) (fun j hj1 hj2 => hs j (by omega) (by omega)) h)
theorem findSome_some {ρ : Type} (F : Nat → Option ρ) (i d c : Nat) (h1 : i ≤ c) (h2 : c < i + d) (h3 : (F c).isSome = true) : ∃ r, ((List.range' i d).findSome? F) = some r ∧ ∃ j, i ≤ j ∧ j ≤ c ∧ F j = some r := by
  induction d generalizing i with
  | zero => omega
  | succ d ih =>
    rw [List.range'_succ, List.findSome?_cons]
    cases hf : F i with
    | some r => exact ⟨r, rfl, i, Nat.le_refl _, h1, hf⟩
    | none =>
      by_cases e : i = c
      · subst e; rw [hf] at h3; cases h3
      · obtain ⟨r, hr, j, j1, j2, j3⟩ := ih (i + 1) (by omega) (by omega)
        exact ⟨r, hr, j, by omega, j2, j3⟩

theorem codeN_from (k : Nat) : ∀ (t : List Int) (c : Int), t.foldl (fun c x => c * (k : Int) + x) c = c * ((k ^ t.length : Nat) : Int) + codeN k t := by
  intro t
  induction t with
  | nil => intro c; simp [codeN]
  | cons x t ih =>
    intro c
    have h0 := ih (0 * (k : Int) + x)
    simp only [codeN, List.foldl_cons, List.length_cons] at *
    rw [ih (c * (k : Int) + x), h0, Nat.pow_succ]
    simp only [Int.zero_mul, Int.zero_add, Int.add_mul, Int.natCast_mul, Int.mul_assoc, Int.add_assoc]
    rw [Int.mul_comm (k : Int)]
theorem codeN_cons (k : Nat) (a : Int) (t : List Int) : codeN k (a :: t) = a * ((k ^ t.length : Nat) : Int) + codeN k t := by
  unfold codeN
  rw [List.foldl_cons, Int.zero_mul, Int.zero_add]
  exact codeN_from k t a

def shortB (w : List Int) (n k : Nat) : Bool := decide (w.length = k ^ n - 1) && (decide (codesM w n k).Nodup && !(decide ((0 : Int) ∈ codesM w n k)))
theorem code_inj_nodup {w : List Int} {n k : Nat} (hnd : (codesM w n k).Nodup) {i j : Nat} (hi : i < w.length) (hj : j < w.length) (e : codeN k (win w i n) = codeN k (win w j n)) : i = j := by
  have hpw := List.pairwise_iff_getElem.mp hnd
  have hget : ∀ i, (h : i < w.length) → (codesM w n k)[i]'(by rw [codesM_length]; exact h) = codeN k (win w i n) := fun i h => by simp [codesM]
  by_cases c : i < j
  · have := hpw i j (by rw [codesM_length]; exact hi) (by rw [codesM_length]; exact hj) c
    rw [hget i hi, hget j hj] at this
    exact absurd e this
  · by_cases c2 : j < i
    · have := hpw j i (by rw [codesM_length]; exact hj) (by rw [codesM_length]; exact hi) c2
      rw [hget i hi, hget j hj] at this
      exact absurd e.symm this
    · omega
theorem short_place {w : List Int} {n k : Nat} (hb : shortB w n k = true) (hx : ∀ x ∈ w, 0 ≤ x ∧ x ≤ (k : Int) - 1) (hw : 0 < w.length) (g : List Int) (hg : g.length = n) (hgx : ∀ x ∈ g, 0 ≤ x ∧ x ≤ (k : Int) - 1) (hg0 : codeN k g ≠ 0) :
    ∃ q, q < w.length ∧ win w q n = g := by
  simp only [shortB, Bool.and_eq_true, Bool.not_eq_true', decide_eq_true_eq, decide_eq_false_iff_not] at hb
  obtain ⟨hlen, hnd, hn0⟩ := hb
  have hwx : ∀ i, ∀ x ∈ win w i n, 0 ≤ x ∧ x ≤ (k : Int) - 1 := fun i x h => hx x (mem_win hw h)
  have hr : ∀ i, 0 ≤ codeN k (win w i n) ∧ codeN k (win w i n) < ((k ^ n : Nat) : Int) := fun i => codeN_range k n _ (win_length _ _ _) (hwx i)
  have hne : ∀ i, i < w.length → codeN k (win w i n) ≠ 0 := fun i hi e => hn0 (by rw [← e]; exact List.mem_map.mpr ⟨i, by simp [List.mem_range'_1]; exact hi, rfl⟩)
  have hrg := codeN_range k n g hg hgx
  have hex : ∃ q, q < w.length ∧ codeN k (win w q n) = codeN k g := by
    obtain ⟨i, j, h1, h2, e⟩ := pigeon w.length (fun i => if i < w.length then (codeN k (win w i n)).toNat - 1 else (codeN k g).toNat - 1) (fun i hi => by
      show (if i < w.length then (codeN k (win w i n)).toNat - 1 else (codeN k g).toNat - 1) < w.length
      split
      · have := hr i
        have := hne i (by assumption)
        omega
      · omega)
    replace e : (if i < w.length then (codeN k (win w i n)).toNat - 1 else (codeN k g).toNat - 1) = (if j < w.length then (codeN k (win w j n)).toNat - 1 else (codeN k g).toNat - 1) := e
    rw [if_pos (show i < w.length by omega)] at e
    have hi := hr i
    have hi0 := hne i (by omega)
    by_cases c : j < w.length
    · rw [if_pos c] at e
      have hj := hr j
      have hj0 := hne j c
      exact absurd (code_inj_nodup hnd (show i < w.length by omega) c (by omega)) (by omega)
    · rw [if_neg c] at e
      exact ⟨i, by omega, by omega⟩
  obtain ⟨q, hq, he⟩ := hex
  exact ⟨q, hq, codeN_injk n _ _ (win_length _ _ _) hg (hwx q) hgx he⟩
theorem short_zeros {w : List Int} {n k : Nat} (hk : 2 ≤ k) (hb : shortB w (n + 2) k = true) (hx : ∀ x ∈ w, 0 ≤ x ∧ x ≤ (k : Int) - 1) (hw : 0 < w.length) : ∃ r : Nat, r < w.length ∧ zerosF w (n + 1) (prevNZ w) = some (r : Int) := by
  have hg0 : codeN k (1 :: List.replicate (n + 1) 0) ≠ 0 := by
    rw [codeN_cons, List.length_replicate]
    have h1 := (codeN_range k (n + 1) (List.replicate (n + 1) 0) (by simp) (fun x h => by have := List.eq_of_mem_replicate h; omega)).1
    have h2 : 0 < k ^ (n + 1) := Nat.pow_pos (by omega)
    omega
  obtain ⟨q, hq, hwq⟩ := short_place hb hx hw (1 :: List.replicate (n + 1) 0) (by simp) (fun x h => by
    rcases List.mem_cons.mp h with rfl | h
    · omega
    · have := List.eq_of_mem_replicate h; omega) hg0
  have hget : ∀ j, j < n + 2 → w.getD ((q + j) % w.length) 0 = (1 :: List.replicate (n + 1) (0 : Int)).getD j 0 := fun j hj => by rw [← hwq, win_get w q (n + 2) j hj]
  have hp : ∃ p, p < w.length ∧ (∀ j, (p + j) % w.length = (q + (j + 1)) % w.length) ∧ (p + w.length - 1) % w.length = q := by
    by_cases c : q + 1 < w.length
    · exact ⟨q + 1, c, fun j => by rw [show q + 1 + j = q + (j + 1) by omega], by rw [show q + 1 + w.length - 1 = q + w.length by omega, Nat.add_mod_right, Nat.mod_eq_of_lt hq]⟩
    · refine ⟨0, hw, fun j => ?_, ?_⟩
      · rw [show q + (j + 1) = 0 + j + w.length by omega, Nat.add_mod_right]
      · rw [Nat.mod_eq_of_lt (by omega)]; omega
  obtain ⟨p, hp, h1, h2⟩ := hp
  have hz : win w p (n + 1) = List.replicate (n + 1) 0 := by
    refine List.eq_replicate_iff.mpr ⟨win_length _ _ _, fun x hx => ?_⟩
    obtain ⟨j, hj, rfl⟩ := List.getElem_of_mem hx
    rw [win_length] at hj
    have e := win_get w p (n + 1) j hj
    rw [List.getD_eq_getElem?_getD, List.getElem?_eq_getElem (by rw [win_length]; exact hj), Option.getD_some] at e
    rw [e, h1, hget (j + 1) (by omega)]
    simp [List.getD_eq_getElem?_getD, List.getElem?_replicate]
    split <;> rfl
  have hpr : prevNZ w p = true := by
    unfold prevNZ
    rw [h2]
    refine decide_eq_true (fun e => ?_)
    have := hget 0 (by omega)
    rw [Nat.add_zero, Nat.mod_eq_of_lt hq] at this
    rw [rd_nat, this] at e
    simp at e
  obtain ⟨r, hr, j, _, hj, hF⟩ := findSome_some (fun (i : Nat) => if win w i (n + 1) = List.replicate (n + 1) 0 ∧ prevNZ w i = true then some (i : Int) else none) 0 w.length p (by omega) (by omega) (by show Option.isSome (if _ then _ else _) = true; rw [if_pos ⟨hz, hpr⟩]; rfl)
  split at hF
  case isFalse => cases hF
  obtain rfl := Option.some.inj hF
  exact ⟨j, by omega, hr⟩
def WithZeroM (w : List Int) (n k : Int) : List Int × Bool := if kindB n k = true ∧ cycleB w k = true ∧ shortB w n.toNat k.toNat = true then (w.take (if n > 1 then (zerosF w (n - 1).toNat (prevNZ w)).getD 0 else 0).toNat ++ 0 :: w.drop (if n > 1 then (zerosF w (n - 1).toNat (prevNZ w)).getD 0 else 0).toNat, true) else ([], false)
theorem WithZeroM_length (w : List Int) (n k : Int) : (WithZeroM w n k).1.length ≤ 1025 := by
  unfold WithZeroM
  split
  · rename_i h
    have := (cycleB_iff.mp h.2.1).2.1
    simp; omega
  · simp

def seqX (taps : List Int) (n i : Nat) : Int := rd (regW taps n i) (i : Int)
theorem regW_more {taps : List Int} {n : Nat} (h : 1 ≤ n) (i : Nat) : ∀ k, i < n + k → rd (regW taps n k) (i : Int) = seqX taps n i := by
  have key : ∀ k d, i < n + k → rd (regW taps n (k + d)) (i : Int) = rd (regW taps n k) (i : Int) := by
    intro k d hi
    induction d with
    | zero => rfl
    | succ d ih =>
      rw [← ih, show k + (d + 1) = (k + d) + 1 by omega]
      have hl := regW_length taps h (k + d)
      rw [rd_nat, rd_nat]
      show (regW taps n (k + d) ++ _).getD i 0 = _
      rw [List.getD_eq_getElem?_getD, List.getElem?_append_left (by omega), ← List.getD_eq_getElem?_getD]
  intro k hi
  unfold seqX
  by_cases c : i ≤ k
  · rw [show k = i + (k - i) by omega, key i (k - i) (by omega)]
  · rw [show i = k + (i - k) by omega] at *
    rw [key k (i - k) (by omega)]
theorem regS_seq {taps : List Int} {n : Nat} (h : 1 ≤ n) (j t : Nat) (ht : t < n) : rd (regS taps n j) (t : Int) = seqX taps n (j + t) := by
  rw [← regS_rd taps h j t]
  exact regW_more h (j + t) j (by omega)
theorem regS_eq {taps : List Int} {n : Nat} (h : 1 ≤ n) (i j : Nat) (e : ∀ t, t < n → seqX taps n (i + t) = seqX taps n (j + t)) : regS taps n i = regS taps n j := by
  refine List.ext_getElem (by rw [regS_length taps h, regS_length taps h]) (fun t h1 h2 => ?_)
  rw [regS_length taps h] at h1
  have := e t h1
  rw [← regS_seq h i t h1, ← regS_seq h j t h1, rd_get _ _ (by rw [regS_length taps h]; exact h1), rd_get _ _ (by rw [regS_length taps h]; exact h1)] at this
  exact this
theorem regS_forth {taps : List Int} {n : Nat} : ∀ (d i j : Nat), regS taps n i = regS taps n j → regS taps n (i + d) = regS taps n (j + d) := by
  intro d
  induction d with
  | zero => intro i j e; exact e
  | succ d ih =>
    intro i j e
    have := ih i j e
    show (fun l : List Int => l.tail ++ [nxM taps l]) (regS taps n (i + d)) = (fun l : List Int => l.tail ++ [nxM taps l]) (regS taps n (j + d))
    rw [this]
theorem seq_period {taps : List Int} {m : Int} (h : tapsB taps m = true) {n : Nat} (hn : 1 ≤ n) (i : Nat) : seqX taps n (i + perM taps n) = seqX taps n i := by
  have hp := (perM_spec h hn).2.1
  have e := regS_forth (taps := taps) (n := n) i (perM taps n) 0 (by rw [hp]; rfl)
  rw [Nat.zero_add] at e
  have := regS_seq (taps := taps) hn (perM taps n + i) 0 (by omega)
  rw [e, regS_seq hn i 0 (by omega), Nat.add_zero, Nat.add_zero] at this
  rw [Nat.add_comm i]
  exact this.symm
theorem seq_mod {taps : List Int} {m : Int} (h : tapsB taps m = true) {n : Nat} (hn : 1 ≤ n) (i : Nat) : seqX taps n (i % perM taps n) = seqX taps n i := by
  have h1 := (perM_spec h hn).1.1
  have key : ∀ q r, seqX taps n (r + q * perM taps n) = seqX taps n r := by
    intro q
    induction q with
    | zero => intro r; rw [Nat.zero_mul, Nat.add_zero]
    | succ q ih =>
      intro r
      rw [Nat.succ_mul, ← Nat.add_assoc, seq_period h hn, ih]
  have := key (i / perM taps n) (i % perM taps n)
  rw [Nat.mul_comm, Nat.mod_add_div] at this
  exact this.symm
theorem regM_get {taps : List Int} {m : Int} (h : tapsB taps m = true) {n : Nat} (hn : 1 ≤ n) (i : Nat) : (regM taps n).getD (i % (regM taps n).length) 0 = seqX taps n i := by
  have h1 := (perM_spec h hn).1.1
  rw [regM_length hn, ← seq_mod h hn i]
  have hlt := Nat.mod_lt i (show 0 < perM taps n by omega)
  have e := regW_more (taps := taps) hn (i % perM taps n) (perM taps n) (by omega)
  rw [← e, rd_nat]
  unfold regM
  rw [List.getD_eq_getElem?_getD, List.getElem?_take, if_pos hlt, ← List.getD_eq_getElem?_getD]
theorem regM_win {taps : List Int} {m : Int} (h : tapsB taps m = true) {n : Nat} (hn : 1 ≤ n) (i : Nat) : win (regM taps n) i n = regS taps n i := by
  refine List.ext_getElem (by rw [win_length, regS_length taps hn]) (fun t h1 h2 => ?_)
  rw [win_length] at h1
  have e := win_get (regM taps n) i n t h1
  rw [regM_get h hn] at e
  rw [List.getD_eq_getElem?_getD, List.getElem?_eq_getElem (by rw [win_length]; exact h1), Option.getD_some] at e
  rw [e, ← regS_seq hn i t h1, rd_get _ _ (by rw [regS_length taps hn]; exact h1)]
theorem nx_sum (l : List Int) : ∀ (ts : List Int) (b : Int), (ts.foldl (nxF l) b) % 2 = (ts.foldl (fun a t => a + rd l t) b) % 2 := by
  intro ts
  induction ts with
  | nil => intro b; rfl
  | cons t ts ih =>
    intro b
    rw [List.foldl_cons, List.foldl_cons, nx_fold_add, ← ih, nx_fold_add l ts (b + rd l t)]
    unfold nxF
    omega
theorem seq_next {taps : List Int} {n : Nat} (hn : 1 ≤ n) (j : Nat) : seqX taps n (j + n) = nxM taps (regS taps n j) := by
  have hl := regW_length taps hn j
  have e := regW_more (taps := taps) hn (j + n) (j + 1) (by omega)
  rw [← e, rd_nat]
  show (regW taps n j ++ [nxM taps (regS taps n j)]).getD (j + n) 0 = _
  rw [List.getD_eq_getElem?_getD, List.getElem?_append_right (by omega), hl, show j + n - (n + j) = 0 by omega]
  rfl
theorem regS_zero {taps : List Int} {n : Nat} (hn : 1 ≤ n) (i : Nat) (e : regS taps n i = List.replicate n 0) : ∀ d, regS taps n (i + d) = List.replicate n 0 := by
  intro d
  induction d with
  | zero => exact e
  | succ d ih =>
    show (fun l : List Int => l.tail ++ [nxM taps l]) (regS taps n (i + d)) = _
    rw [ih]
    have hx : nxM taps (List.replicate n 0) = 0 := by
      have hr : ∀ t : Int, rd (List.replicate n (0 : Int)) t = 0 := fun t => by unfold rd; simp [List.getD_eq_getElem?_getD, List.getElem?_replicate]; split <;> rfl
      unfold nxM
      have : ∀ ts : List Int, ts.foldl (nxF (List.replicate n 0)) 0 = 0 := by
        intro ts
        induction ts with
        | nil => rfl
        | cons t ts ih => rw [List.foldl_cons]; unfold nxF; rw [hr]; exact ih
      exact this taps
    show (List.replicate n (0 : Int)).tail ++ [nxM taps (List.replicate n 0)] = _
    rw [hx, List.tail_replicate, ← List.replicate_succ', show n - 1 + 1 = n by omega]
theorem regM_codes {taps : List Int} {m : Int} (h : tapsB taps m = true) {n : Nat} (hn : 1 ≤ n) : (codesM (regM taps n) n 2).Nodup ∧ ¬ (0 : Int) ∈ codesM (regM taps n) n 2 ∧ perM taps n ≤ 2 ^ n - 1 := by
  obtain ⟨⟨p1, p2⟩, p3, p4⟩ := perM_spec h hn
  have hget : ∀ i, i < perM taps n → (codesM (regM taps n) n 2)[i]? = some (codeN 2 (regS taps n i)) := fun i hi => by
    unfold codesM
    rw [regM_length hn, List.getElem?_map, List.getElem?_range' hi]
    simp [regM_win h hn]
  have hlen : (codesM (regM taps n) n 2).length = perM taps n := by rw [codesM_length, regM_length hn]
  have hinj : ∀ i j, i < j → j < perM taps n → codeN 2 (regS taps n i) ≠ codeN 2 (regS taps n j) := fun i j h1 h2 e => by
    have e2 := codeN_inj n _ _ (regS_length taps hn i) (regS_length taps hn j) (regS_bits taps hn i) (regS_bits taps hn j) e
    exact p4 (j - i) (by omega) (by omega) (regS_back h hn i (j - i) (by rw [show i + (j - i) = j by omega]; exact e2))
  have hnz : ∀ i, i < perM taps n → codeN 2 (regS taps n i) ≠ 0 := fun i hi e => by
    have hz : codeN 2 (List.replicate n 0) = 0 := by
      have hz : ∀ q, codeN 2 (List.replicate q 0) = 0 := by
        intro q
        induction q with
        | zero => rfl
        | succ q ih => rw [List.replicate_succ', codeN_snoc, ih]; rfl
      exact hz n
    have e2 := codeN_inj n _ (List.replicate n 0) (regS_length taps hn i) (by simp) (regS_bits taps hn i) (fun x hx => by have := List.eq_of_mem_replicate hx; omega) (e.trans hz.symm)
    have e3 := regS_zero hn i e2 (perM taps n - i)
    rw [show i + (perM taps n - i) = perM taps n by omega, p3] at e3
    have := start_code n
    rw [e3, hz] at this
    omega
  refine ⟨?_, fun hm => ?_, ?_⟩
  · refine List.pairwise_iff_getElem.mpr (fun i j hi hj hij => ?_)
    rw [hlen] at hi hj
    have a := hget i hi
    have b := hget j hj
    rw [List.getElem?_eq_getElem (by rw [hlen]; exact hi)] at a
    rw [List.getElem?_eq_getElem (by rw [hlen]; exact hj)] at b
    rw [Option.some.inj a, Option.some.inj b]
    exact hinj i j hij hj
  · obtain ⟨i, hi, e⟩ := List.getElem_of_mem hm
    rw [hlen] at hi
    have a := hget i hi
    rw [List.getElem?_eq_getElem (by rw [hlen]; exact hi), e] at a
    exact hnz i hi (Option.some.inj a).symm
  · have hc : ∀ j, 0 ≤ codeN 2 (regS taps n j) ∧ codeN 2 (regS taps n j) < ((2 ^ n : Nat) : Int) := fun j => codeN_range 2 n _ (regS_length taps hn j) (regS_bits taps hn j)
    refine Decidable.byContradiction (fun c => ?_)
    obtain ⟨i, j, h1, h2, e⟩ := pigeon (2 ^ n - 1) (fun j => if j < perM taps n then (codeN 2 (regS taps n j)).toNat - 1 else 0) (fun j hj => by
      have := hc j
      have hnj := hnz j (by omega)
      show (if j < perM taps n then (codeN 2 (regS taps n j)).toNat - 1 else 0) < 2 ^ n - 1
      rw [if_pos (by omega)]
      omega)
    replace e : (if i < perM taps n then (codeN 2 (regS taps n i)).toNat - 1 else 0) = (if j < perM taps n then (codeN 2 (regS taps n j)).toNat - 1 else 0) := e
    rw [if_pos (by omega), if_pos (by omega)] at e
    have a := hc i
    have b := hc j
    have a0 := hnz i (by omega)
    have b0 := hnz j (by omega)
    exact hinj i j h1 (by omega) (by omega)
theorem regM_bits {taps : List Int} {n : Nat} : ∀ x ∈ regM taps n, 0 ≤ x ∧ x ≤ (2 : Int) - 1 := fun x hx => regW_bits taps n _ x (List.mem_of_mem_take hx)

def WithoutZeroM (w : List Int) (n k : Int) : List Int × Bool := if kindB n k = true ∧ cycleB w k = true ∧ bruijnB w n.toNat k.toNat = true then (w.take ((zerosF w n.toNat (fun _ => true)).getD 0).toNat ++ w.drop (((zerosF w n.toNat (fun _ => true)).getD 0).toNat + 1), true) else ([], false)
theorem WithoutZeroM_length (w : List Int) (n k : Int) : (WithoutZeroM w n k).1.length ≤ 1024 := by
  unfold WithoutZeroM
  split
  · rename_i h
    have := (cycleB_iff.mp h.2.1).2.1
    simp; omega
  · simp
theorem bru_zero {w : List Int} {n k : Nat} (hk2 : 2 ≤ k) (hn : 1 ≤ n) (hb : bruijnB w n k = true) (hx : ∀ x ∈ w, 0 ≤ x ∧ x ≤ (k : Int) - 1) (hw : 0 < w.length) : ∃ q, q < w.length ∧ win w q n = List.replicate n 0 ∧ (∀ i, i < w.length → win w i n = List.replicate n 0 → i = q) ∧ prevNZ w q = true := by
  obtain ⟨q, hq, h1, h2⟩ := bru_places hb hx hw (List.replicate n 0) (by simp) (fun x h => by have := List.eq_of_mem_replicate h; omega)
  have huniq : ∀ i, i < w.length → win w i n = List.replicate n 0 → i = q := fun i hi h => bru_code_inj hb hi hq (by rw [h, h1])
  refine ⟨q, hq, h1, huniq, ?_⟩
  unfold prevNZ
  refine decide_eq_true (fun h => ?_)
  have hm := Nat.mod_lt (q + w.length - 1) (show 0 < w.length by omega)
  have e := huniq _ hm (win_zeros_prev hq h1 h)
  have hlen : w.length = k ^ n := by
    simp only [bruijnB, Bool.and_eq_true, decide_eq_true_eq] at hb
    exact hb.1
  have h2n : 2 ≤ k ^ n := by
    have h3 : k ^ 1 ≤ k ^ n := Nat.pow_le_pow_right (by omega) hn
    rw [Nat.pow_one] at h3
    omega
  by_cases c : q = 0
  · subst c
    rw [Nat.zero_add, Nat.mod_eq_of_lt (by omega)] at e
    omega
  · rw [show q + w.length - 1 = (q - 1) + w.length by omega, Nat.add_mod_right, Nat.mod_eq_of_lt (by omega)] at e
    omega

def insZ (v : List Int) (p : Nat) : List Int := v.take p ++ 0 :: v.drop p
theorem insZ_length (v : List Int) (p : Nat) (hp : p ≤ v.length) : (insZ v p).length = v.length + 1 := by unfold insZ; simp; omega
theorem insZ_get (v : List Int) (p i : Nat) (hp : p ≤ v.length) : (insZ v p).getD i 0 = if i < p then v.getD i 0 else if i = p then 0 else v.getD (i - 1) 0 := by
  have hl : (v.take p).length = p := by rw [List.length_take]; omega
  unfold insZ
  rw [List.getD_eq_getElem?_getD]
  by_cases c1 : i < p
  · rw [if_pos c1, List.getElem?_append_left (by omega), List.getElem?_take, if_pos c1, List.getD_eq_getElem?_getD]
  · rw [if_neg c1, List.getElem?_append_right (by omega), hl]
    by_cases c2 : i = p
    · subst c2
      rw [if_pos rfl, Nat.sub_self]
      rfl
    · rw [if_neg c2]
      obtain ⟨d, rfl⟩ : ∃ d, i = p + 1 + d := ⟨i - p - 1, by omega⟩
      rw [show p + 1 + d - p = d + 1 by omega, List.getElem?_cons_succ, List.getElem?_drop, List.getD_eq_getElem?_getD, show p + 1 + d - 1 = p + d by omega]
theorem mod_lt2 {x m : Nat} (h : x < m) : x % m = x := Nat.mod_eq_of_lt h
theorem mod_ge2 {x m : Nat} (h1 : m ≤ x) (h2 : x < 2 * m) : x % m = x - m := by
  rw [Nat.mod_eq_sub_mod h1, Nat.mod_eq_of_lt (by omega)]
theorem insZ_win_zero {v : List Int} {p n : Nat} (hp : p ≤ v.length) (hn : n ≤ v.length) (hz : ∀ t, t + 1 < n → v.getD ((p + t) % v.length) 0 = 0) : win (insZ v p) p n = List.replicate n 0 := by
  refine List.eq_replicate_iff.mpr ⟨win_length _ _ _, fun x hx => ?_⟩
  obtain ⟨j, hj, rfl⟩ := List.getElem_of_mem hx
  rw [win_length] at hj
  have e := win_get (insZ v p) p n j hj
  rw [List.getD_eq_getElem?_getD, List.getElem?_eq_getElem (by rw [win_length]; exact hj), Option.getD_some] at e
  rw [e, insZ_length v p hp, insZ_get v p _ hp]
  by_cases c0 : j = 0
  · subst c0
    rw [Nat.add_zero, mod_lt2 (by omega), if_neg (by omega), if_pos rfl]
  · have hzj := hz (j - 1) (by omega)
    by_cases c : p + j < v.length + 1
    · rw [mod_lt2 c, if_neg (by omega), if_neg (by omega)]
      rw [mod_lt2 (show p + (j - 1) < v.length by omega)] at hzj
      rw [show p + j - 1 = p + (j - 1) by omega]; exact hzj
    · rw [mod_ge2 (by omega) (by omega), if_pos (by omega)]
      rw [mod_ge2 (show v.length ≤ p + (j - 1) by omega) (by omega)] at hzj
      rw [show p + j - (v.length + 1) = p + (j - 1) - v.length by omega]; exact hzj
theorem insZ_win {v : List Int} {p n : Nat} (hp : p ≤ v.length) (hn : n ≤ v.length) (hz : ∀ t, t + 1 < n → v.getD ((p + t) % v.length) 0 = 0) (i : Nat) (hi : i ≤ v.length) (hne : i ≠ p) : win (insZ v p) i n = win v (if i < p then i else i - 1) n := by
  refine List.ext_getElem (by rw [win_length, win_length]) (fun j h1 h2 => ?_)
  rw [win_length] at h1
  have e1 := win_get (insZ v p) i n j h1
  rw [List.getD_eq_getElem?_getD, List.getElem?_eq_getElem (by rw [win_length]; exact h1), Option.getD_some] at e1
  have e2 := win_get v (if i < p then i else i - 1) n j h1
  rw [List.getD_eq_getElem?_getD, List.getElem?_eq_getElem (by rw [win_length]; exact h1), Option.getD_some] at e2
  rw [e1, e2, insZ_length v p hp, insZ_get v p _ hp]
  clear e1 e2
  by_cases c : i < p
  · rw [if_pos c]
    by_cases c1 : i + j < p
    · rw [mod_lt2 (show i + j < v.length + 1 by omega), mod_lt2 (show i + j < v.length by omega), if_pos c1]
    · have hB := hz (i + j - p) (by omega)
      rw [show p + (i + j - p) = i + j by omega] at hB
      rw [hB]
      by_cases c2 : i + j = p
      · rw [mod_lt2 (show i + j < v.length + 1 by omega), if_neg (by omega), if_pos c2]
      · have hA := hz (i + j - 1 - p) (by omega)
        rw [show p + (i + j - 1 - p) = i + j - 1 by omega] at hA
        by_cases c3 : i + j < v.length + 1
        · rw [mod_lt2 c3, if_neg (by omega), if_neg c2]
          rw [mod_lt2 (show i + j - 1 < v.length by omega)] at hA
          exact hA
        · rw [mod_ge2 (show v.length + 1 ≤ i + j by omega) (by omega), if_pos (by omega)]
          rw [mod_ge2 (show v.length ≤ i + j - 1 by omega) (by omega)] at hA
          rw [show i + j - (v.length + 1) = i + j - 1 - v.length by omega]; exact hA
  · rw [if_neg c]
    by_cases c1 : i + j < v.length + 1
    · rw [mod_lt2 c1, mod_lt2 (show i - 1 + j < v.length by omega), if_neg (by omega), if_neg (by omega), show i + j - 1 = i - 1 + j by omega]
    · rw [mod_ge2 (show v.length + 1 ≤ i + j by omega) (by omega)]
      by_cases c2 : i + j - (v.length + 1) < p
      · rw [if_pos c2, mod_ge2 (show v.length ≤ i - 1 + j by omega) (by omega), show i - 1 + j - v.length = i + j - (v.length + 1) by omega]
      · rw [if_neg c2]
        have hB := hz (i + j - (v.length + 1) - p) (by omega)
        rw [show p + (i + j - (v.length + 1) - p) = i + j - (v.length + 1) by omega, mod_lt2 (by omega)] at hB
        rw [mod_ge2 (show v.length ≤ i - 1 + j by omega) (by omega), show i - 1 + j - v.length = i + j - (v.length + 1) by omega, hB]
        by_cases c3 : i + j - (v.length + 1) = p
        · rw [if_pos c3]
        · rw [if_neg c3]
          have hA := hz (i + j - (v.length + 1) - 1 - p) (by omega)
          rw [show p + (i + j - (v.length + 1) - 1 - p) = i + j - (v.length + 1) - 1 by omega, mod_lt2 (by omega)] at hA
          exact hA
theorem codeN_zeros (k n : Nat) : codeN k (List.replicate n 0) = 0 := by
  induction n with
  | zero => rfl
  | succ n ih => rw [List.replicate_succ, codeN_cons, ih]; simp
theorem insZ_codes {v : List Int} {p n : Nat} (k : Nat) (hp : p ≤ v.length) (hn : n ≤ v.length) (hz : ∀ t, t + 1 < n → v.getD ((p + t) % v.length) 0 = 0) : codesM (insZ v p) n k = (codesM v n k).take p ++ 0 :: (codesM v n k).drop p := by
  have hl : ((codesM v n k).take p).length = p := by rw [List.length_take, codesM_length]; omega
  have hget : ∀ (w : List Int) (i : Nat), (codesM w n k)[i]? = if i < w.length then some (codeN k (win w i n)) else none := fun w i => by
    unfold codesM
    by_cases c : i < w.length
    · rw [if_pos c, List.getElem?_map, List.getElem?_range' c]; simp
    · rw [if_neg c, List.getElem?_eq_none (by simp; omega)]
  refine List.ext_getElem? (fun i => ?_)
  rw [hget, insZ_length v p hp]
  by_cases c1 : i < p
  · rw [if_pos (by omega), List.getElem?_append_left (by omega), List.getElem?_take, if_pos c1, hget, if_pos (by omega), insZ_win hp hn hz i (by omega) (by omega), if_pos c1]
  · rw [List.getElem?_append_right (by omega), hl]
    by_cases c2 : i = p
    · subst c2
      rw [if_pos (by omega), Nat.sub_self, insZ_win_zero hp hn hz, codeN_zeros]
      rfl
    · obtain ⟨d, rfl⟩ : ∃ d, i = p + 1 + d := ⟨i - p - 1, by omega⟩
      rw [show p + 1 + d - p = d + 1 by omega, List.getElem?_cons_succ, List.getElem?_drop, hget]
      by_cases c3 : p + 1 + d < v.length + 1
      · rw [if_pos c3, if_pos (by omega), insZ_win hp hn hz (p + 1 + d) (by omega) (by omega), if_neg c1, show p + 1 + d - 1 = p + d by omega]
      · rw [if_neg c3, if_neg (by omega)]
theorem insZ_bruijn {v : List Int} {p n k : Nat} (hk : 0 < k ^ n) (hp : p ≤ v.length) (hn : n ≤ v.length) (hz : ∀ t, t + 1 < n → v.getD ((p + t) % v.length) 0 = 0) : bruijnB (insZ v p) n k = shortB v n k := by
  have e : (codesM (insZ v p) n k).Nodup ↔ (codesM v n k).Nodup ∧ ¬ (0 : Int) ∈ codesM v n k := by
    rw [insZ_codes k hp hn hz, List.perm_middle.nodup_iff, List.take_append_drop, List.nodup_cons]
    exact and_comm
  unfold bruijnB shortB
  rw [insZ_length v p hp]
  by_cases c : v.length + 1 = k ^ n
  · rw [decide_eq_true c, decide_eq_true (show v.length = k ^ n - 1 by omega), Bool.true_and, Bool.true_and]
    by_cases c2 : (codesM v n k).Nodup
    · by_cases c3 : (0 : Int) ∈ codesM v n k
      · rw [decide_eq_false (fun h => (e.mp h).2 c3), decide_eq_true c3]; simp
      · rw [decide_eq_true (e.mpr ⟨c2, c3⟩), decide_eq_true c2, decide_eq_false c3]; rfl
    · rw [decide_eq_false (fun h => c2 (e.mp h).1), decide_eq_false c2]; rfl
  · rw [decide_eq_false c, decide_eq_false (show ¬ v.length = k ^ n - 1 by omega)]; rfl
theorem pow_ge (k n : Nat) (hk : 2 ≤ k) : n + 1 ≤ k ^ n := by
  induction n with
  | zero => simp
  | succ n ih =>
    have h1 : k ^ n * 2 ≤ k ^ n * k := Nat.mul_le_mul_left _ hk
    rw [Nat.pow_succ]; omega
/-- Where the zero is put back: there are the zeros that it needs. -/
def placeZ (v : List Int) (n : Nat) : Nat := (if (n : Int) > 1 then (zerosF v ((n : Int) - 1).toNat (prevNZ v)).getD 0 else 0).toNat
theorem placeZ_ok {v : List Int} {n k : Nat} (hk : 2 ≤ k) (hn : 1 ≤ n) (hb : shortB v n k = true) (hx : ∀ x ∈ v, 0 ≤ x ∧ x ≤ (k : Int) - 1) (hv : 0 < v.length) : placeZ v n < v.length ∧ ∀ t, t + 1 < n → v.getD ((placeZ v n + t) % v.length) 0 = 0 := by
  unfold placeZ
  by_cases c : (n : Int) > 1
  · obtain ⟨m, rfl⟩ : ∃ m, n = m + 2 := ⟨n - 2, by omega⟩
    obtain ⟨r, hr, hz⟩ := short_zeros hk hb hx hv
    rw [if_pos c, show (((m + 2 : Nat) : Int) - 1).toNat = m + 1 by omega, hz, Option.getD_some, Int.toNat_natCast]
    refine ⟨hr, fun t ht => ?_⟩
    have hw : win v r (m + 1) = List.replicate (m + 1) 0 := by
      unfold zerosF at hz
      obtain ⟨i, _, hi⟩ := List.exists_of_findSome?_eq_some hz
      split at hi
      · rename_i hc
        have := Option.some.inj hi
        obtain rfl : i = r := by omega
        exact hc.1
      · cases hi
    rw [← win_get v r (m + 1) t (by omega), hw]
    simp [List.getD_eq_getElem?_getD, List.getElem?_replicate]
    split <;> rfl
  · rw [if_neg c]
    exact ⟨hv, fun t ht => by omega⟩
theorem WithZeroM_eq (v : List Int) (n k : Nat) (h1 : kindB (n : Int) (k : Int) = true) (h2 : cycleB v (k : Int) = true) (h3 : shortB v n k = true) : WithZeroM v (n : Int) (k : Int) = (insZ v (placeZ v n), true) := by
  unfold WithZeroM
  rw [Int.toNat_natCast, Int.toNat_natCast, if_pos ⟨h1, h2, h3⟩]
  rfl
/-- A zero put in makes a de Bruijn word, and it is taken out again. -/
theorem put_then_take {v : List Int} {n k : Nat} (h1 : kindB (n : Int) (k : Int) = true) (n1 : 1 ≤ n) (k1 : 2 ≤ k) (hp : k ^ n ≤ 1024) (h2 : cycleB v (k : Int) = true) (h3 : shortB v n k = true) :
    IsBruijnM (insZ v (placeZ v n)) (n : Int) (k : Int) = (true, true) ∧ WithoutZeroM (insZ v (placeZ v n)) (n : Int) (k : Int) = (v, true) ∧ (insZ v (placeZ v n)).length ≤ 1024 := by
  have hc := cycleB_iff.mp h2
  have hv : 0 < v.length := by omega
  have hkn := pow_ge k n k1
  have hlen : v.length = k ^ n - 1 := by
    simp only [shortB, Bool.and_eq_true, decide_eq_true_eq] at h3
    exact h3.1
  obtain ⟨g1, g2⟩ := placeZ_ok k1 n1 h3 hc.2.2 hv
  have hb : bruijnB (insZ v (placeZ v n)) n k = true := by rw [insZ_bruijn (by omega) (by omega) (by omega) g2]; exact h3
  have hL := insZ_length v (placeZ v n) (by omega)
  have hx : ∀ x ∈ insZ v (placeZ v n), 0 ≤ x ∧ x ≤ (k : Int) - 1 := fun x hx => by
    unfold insZ at hx
    rcases List.mem_append.mp hx with h | h
    · exact hc.2.2 x (List.mem_of_mem_take h)
    · rcases List.mem_cons.mp h with rfl | h
      · omega
      · exact hc.2.2 x (List.mem_of_mem_drop h)
  have hcy : cycleB (insZ v (placeZ v n)) (k : Int) = true := cycleB_iff.mpr ⟨hc.1, by omega, hx⟩
  refine ⟨?_, ?_, by omega⟩
  · unfold IsBruijnM
    rw [Int.toNat_natCast, Int.toNat_natCast, if_pos ⟨h1, hcy⟩, hb]
  · unfold WithoutZeroM
    rw [Int.toNat_natCast, Int.toNat_natCast, if_pos ⟨h1, hcy, hb⟩]
    obtain ⟨q, hq, e1, e2, e3⟩ := bru_zero k1 n1 hb hx (by omega)
    obtain rfl := e2 (placeZ v n) (by omega) (insZ_win_zero (by omega) (by omega) g2)
    rw [zerosF_one (P := fun _ => true) hq e1 rfl e2, Option.getD_some, Int.toNat_natCast]
    congr 1
    unfold insZ
    have hl : (v.take (placeZ v n)).length = placeZ v n := by rw [List.length_take]; omega
    rw [List.take_append_of_le_length (by omega), List.take_take, Nat.min_self, List.drop_append, hl, show placeZ v n + 1 - placeZ v n = 1 by omega, List.drop_one, List.tail_cons, List.drop_eq_nil_of_le (by omega), List.nil_append, List.take_append_drop]
/-- A zero taken out of a de Bruijn word leaves a word into which it can be put. -/
theorem take_then_put {w : List Int} {n k : Nat} (h1 : kindB (n : Int) (k : Int) = true) (n1 : 1 ≤ n) (k1 : 2 ≤ k) (hp : k ^ n ≤ 1024) (h2 : cycleB w (k : Int) = true) (h3 : bruijnB w n k = true) :
    ∃ (v : List Int) (q : Nat), q ≤ v.length ∧ w = insZ v q ∧ WithoutZeroM w (n : Int) (k : Int) = (v, true) ∧ cycleB v (k : Int) = true ∧ shortB v n k = true := by
  have hc := cycleB_iff.mp h2
  have hkn := pow_ge k n k1
  have hlen : w.length = k ^ n := by
    simp only [bruijnB, Bool.and_eq_true, decide_eq_true_eq] at h3
    exact h3.1
  obtain ⟨q, hq, e1, e2, e3⟩ := bru_zero k1 n1 h3 hc.2.2 (by omega)
  have hget : ∀ s, s < n → w.getD ((q + s) % w.length) 0 = 0 := fun s hs => by
    rw [← win_get w q n s hs, e1]
    simp [List.getD_eq_getElem?_getD, List.getElem?_replicate]
    split <;> rfl
  have hw0 : w[q] = 0 := by
    have := hget 0 (by omega)
    rw [Nat.add_zero, mod_lt2 hq, List.getD_eq_getElem?_getD, List.getElem?_eq_getElem hq, Option.getD_some] at this
    exact this
  have hvl : (w.take q ++ w.drop (q + 1)).length = w.length - 1 := by simp; omega
  have hins : w = insZ (w.take q ++ w.drop (q + 1)) q := by
    have hl : (w.take q).length = q := by rw [List.length_take]; omega
    unfold insZ
    rw [List.take_append_of_le_length (by omega), List.take_take, Nat.min_self, List.drop_append, hl, Nat.sub_self, List.drop_zero, List.drop_eq_nil_of_le (by omega), List.nil_append]
    rw [← hw0, List.getElem_cons_drop]
    exact (List.take_append_drop q w).symm
  generalize hv : w.take q ++ w.drop (q + 1) = v at hins hvl
  have hz : ∀ t, t + 1 < n → v.getD ((q + t) % v.length) 0 = 0 := fun t ht => by
    have h := hget (t + 1) ht
    rw [show w.getD ((q + (t + 1)) % w.length) 0 = (insZ v q).getD ((q + (t + 1)) % w.length) 0 by rw [← hins], insZ_get v q _ (by omega)] at h
    by_cases c : q + (t + 1) < w.length
    · rw [mod_lt2 c, if_neg (by omega), if_neg (by omega)] at h
      rw [mod_lt2 (by omega)]; exact h
    · rw [mod_ge2 (by omega) (by omega), if_pos (by omega)] at h
      rw [mod_ge2 (by omega) (by omega), show q + t - v.length = q + (t + 1) - w.length by omega]; exact h
  refine ⟨v, q, by omega, hins, ?_, ?_, ?_⟩
  · unfold WithoutZeroM
    rw [Int.toNat_natCast, Int.toNat_natCast, if_pos ⟨h1, h2, h3⟩, zerosF_one (P := fun _ => true) hq e1 rfl e2, Option.getD_some, Int.toNat_natCast, hv]
  · refine cycleB_iff.mpr ⟨hc.1, by omega, fun x hx => ?_⟩
    rw [← hv] at hx
    rcases List.mem_append.mp hx with h | h
    · exact hc.2.2 x (List.mem_of_mem_take h)
    · exact hc.2.2 x (List.mem_of_mem_drop h)
  · rw [← insZ_bruijn (p := q) (by omega) (by omega) (by omega) hz, ← hins]; exact h3

theorem RegisterWordM_length (l : List Int) (n : Int) : (RegisterWordM l n).1.length ≤ 1024 := by
  unfold RegisterWordM
  split
  · rename_i h
    have hn := (tapsB_iff.mp h).1
    have hp := (perM_spec h (n := n.toNat) (by omega)).1.2
    rw [regM_length (by omega)]
    exact Nat.le_trans hp (Nat.le_trans (Nat.pow_le_pow_right (by omega) (show n.toNat ≤ 10 by omega)) (by decide))
  · simp

theorem impl_within_eq (a lo hi : Int) : impl_within.f a lo hi = some (inB a lo hi) := by
  unfold impl_within.f inB
  by_cases h : a ≥ lo
  · rw [if_pos h]; simp [h]
  · rw [if_neg h]; simp [show ¬ lo ≤ a from h]

theorem impl_increasing_loop (l : List Int) (hl : l.length ≤ 1000000000000) : ∀ (d j : Nat), j + 1 + d = l.length → Ev (fun k => impl_increasing.l0 k l ((j + 1 : Nat) : Int)) (chainB (l.drop j)) := by
  intro d
  induction d with
  | zero =>
    intro j h
    rw [drop_rd l j (by omega), List.drop_eq_nil_of_le (by omega)]
    exact Ev.step (fun k => by simp only [impl_increasing.l0]; rfl) (ev_neg (by omega) (ev_some (by simp [chainB])))
  | succ d ih =>
    intro j h
    rw [drop_rd l j (by omega), drop_rd l (j + 1) (by omega)]
    refine Ev.step (fun k => by simp only [impl_increasing.l0]; rfl) ?_
    rw [wrap_pred (by omega), wrap_succ (by omega)]
    refine ev_pos (by omega) (ev_pos (by omega) (ev_pos (by omega) (ev_pos (by omega) ?_)))
    refine ev_if (fun e => ev_some ?_) (fun e => ev_to (ih (j + 1) (by omega)) ?_)
    · simp only [chainB]; rw [decide_eq_false (by omega)]; rfl
    · rw [drop_rd l (j + 1) (by omega)]; simp only [chainB]; rw [decide_eq_true (by omega)]; rfl
theorem impl_increasing_ev (l : List Int) (hl : l.length ≤ 1000000000000) : Ev (fun k => impl_increasing.f k l) (chainB l) := by
  unfold impl_increasing.f
  by_cases h : l.length = 0
  · obtain rfl := List.eq_nil_of_length_eq_zero h
    exact Ev.step (fun k => by simp only [impl_increasing.l0]; rfl) (ev_neg (by simp) (Ev.now _))
  · exact impl_increasing_loop l hl (l.length - 1) 0 (by omega)

theorem impl_allWithin_loop (lo hi : Int) (xs : List Int) (hx : xs.length ≤ 1000000000000) : ∀ (d i : Nat), i + d = xs.length →
    Ev (fun k => impl_allWithin.l0 k lo hi xs (xs.length : Int) (i : Int)) (allB (xs.drop i) lo hi) := by
  intro d
  induction d with
  | zero =>
    intro i h
    rw [List.drop_eq_nil_of_le (by omega)]
    refine Ev.step (f := fun _ => some true) (fun k => ?_) (Ev.now _)
    simp only [impl_allWithin.l0]; rw [if_neg (by omega)]
  | succ d ih =>
    intro i h
    have hlt : i < xs.length := by omega
    rw [drop_rd xs i hlt]
    refine Ev.step (f := fun k => if inB (rd xs (i : Int)) lo hi = true then impl_allWithin.l0 k lo hi xs (xs.length : Int) ((i + 1 : Nat) : Int) else some false) (fun k => ?_) ?_
    · simp only [impl_allWithin.l0]; rw [if_pos (by omega), if_pos (by omega), if_pos (by omega), impl_within_eq, wrap_succ (by omega)]; rfl
    · by_cases hb : inB (rd xs (i : Int)) lo hi = true
      · exact ev_pos hb (ev_to (ih (i + 1) (by omega)) (by simp [allB, hb]))
      · exact ev_neg hb (ev_some (by simp [allB, Bool.eq_false_iff.mpr hb]))
theorem impl_allWithin_ev (lo hi : Int) (xs : List Int) (hx : xs.length ≤ 1000000000000) : Ev (fun k => impl_allWithin.f k xs lo hi) (allB xs lo hi) :=
  impl_allWithin_loop lo hi xs hx xs.length 0 (by omega)

theorem impl_areTaps_ev (l : List Int) (n : Int) (hn : -9223372036854775808 ≤ n ∧ n ≤ 9223372036854775807) (hl : l.length ≤ 1000000000000) : Ev (fun k => impl_areTaps.f k l n) (tapsB l n) := by
  unfold impl_areTaps.f tapsB
  refine ev_plain (impl_within_eq _ _ _) ?_
  refine ev_if (fun h => ?_) (fun h => ev_some (by rw [Bool.eq_false_iff.mpr h]; rfl))
  have h' := inB_iff.mp h
  rw [h, wrap_id (x := n - 1) (by omega)]
  cases hl0 : l with
  | nil => exact ev_neg (by simp) (ev_some (by simp))
  | cons a t =>
    rw [← hl0]
    have h1 : 1 ≤ l.length := by rw [hl0]; simp
    have ha : rd l 0 = a := by rw [hl0]; rfl
    have hh : l.head? = some a := by rw [hl0]; rfl
    rw [hh]
    refine ev_pos (by omega) ?_
    refine ev_call (impl_increasing_ev l hl) ?_
    refine ev_if (fun e => ?_) (fun e => ev_some (by rw [Bool.eq_false_iff.mpr e]; simp))
    refine ev_call (impl_allWithin_ev _ _ l hl) ?_
    refine ev_if (fun e2 => ?_) (fun e2 => ev_some (by rw [Bool.eq_false_iff.mpr e2]; simp))
    refine ev_pos (by omega) (ev_some ?_)
    rw [e, e2, ha]
    simp

theorem xor01 {a b : Int} (ha : 0 ≤ a ∧ a ≤ (2 : Int) - 1) (hb : 0 ≤ b ∧ b ≤ (2 : Int) - 1) : Go.bits .xor .i64 a b = (a + b) % 2 := by
  obtain rfl | rfl : a = 0 ∨ a = 1 := by omega
  all_goals obtain rfl | rfl : b = 0 ∨ b = 1 := by omega
  all_goals decide +kernel
theorem rd_bits {l : List Int} (h : bitsL l) (j : Nat) (hj : j < l.length) : 0 ≤ rd l (j : Int) ∧ rd l (j : Int) ≤ (2 : Int) - 1 := h _ (by rw [rd_get l j hj]; exact List.getElem_mem _)
theorem taps_length {taps : List Int} {n : Int} (h : tapsB taps n = true) : taps.length ≤ 10 := by
  obtain ⟨h1, h2, h3, _⟩ := tapsB_iff.mp h
  have hp := (chainB_iff _).mp h2
  have : taps.length ≤ (idl n.toNat).length := by
    have hs : taps ⊆ idl n.toNat := fun x hx => mem_idl.mpr (by have := h3 x hx; omega)
    have hn : taps.Nodup := hp.imp (fun h => Int.ne_of_lt h)
    exact List.Nodup.length_le_of_subset hn hs
  rw [idl_length] at this
  omega

theorem regs_small {n j : Nat} {taps : List Int} (hn : n ≤ 10) (h : j ≤ perM taps n) (hp : perM taps n ≤ 2 ^ n) : j ≤ 1024 := Nat.le_trans h (Nat.le_trans hp (Nat.le_trans (Nat.pow_le_pow_right (by omega) hn) (by decide)))
theorem start_set (n : Nat) (hn : 1 ≤ n) : (List.replicate n (0 : Int)).set (n - 1) 1 = startM n := by
  unfold startM
  obtain ⟨m, rfl⟩ : ∃ m, n = m + 1 := ⟨n - 1, by omega⟩
  rw [List.replicate_succ', Nat.add_sub_cancel, List.set_append_right _ _ (by simp)]
  simp
theorem nx_take (taps l : List Int) (i : Nat) (h : i < taps.length) : (taps.take (i + 1)).foldl (nxF l) 0 = ((taps.take i).foldl (nxF l) 0 + rd l (rd taps (i : Int))) % 2 := by
  rw [take_rd taps i h, List.foldl_append]; rfl
theorem nx_take_range (taps l : List Int) (i : Nat) : 0 ≤ (taps.take i).foldl (nxF l) 0 ∧ (taps.take i).foldl (nxF l) 0 ≤ (2 : Int) - 1 := nx_fold_range l _ 0 (by omega)

theorem slices_Equal_int_int_loop (a b : List Int) (ha : a.length ≤ 1000000000000) (hab : a.length = b.length) : ∀ (d i : Nat), i + d = a.length →
    Ev (fun k => slices_Equal_int_int.l0 k a b (a.length : Int) (i : Int)) (decide (a.drop i = b.drop i)) := by
  intro d
  induction d with
  | zero =>
    intro i h
    rw [List.drop_eq_nil_of_le (by omega), List.drop_eq_nil_of_le (by omega)]
    refine Ev.step (f := fun _ => some true) (fun k => ?_) (Ev.now _)
    simp only [slices_Equal_int_int.l0]; rw [if_neg (by omega)]
  | succ d ih =>
    intro i h
    rw [drop_rd a i (by omega), drop_rd b i (by omega)]
    refine Ev.step (f := fun k => if rd a (i : Int) = rd b (i : Int) then slices_Equal_int_int.l0 k a b (a.length : Int) ((i + 1 : Nat) : Int) else some false) (fun k => ?_) ?_
    · simp only [slices_Equal_int_int.l0]; rw [if_pos (by omega), if_pos (by omega), if_pos (by omega), if_pos (by omega), wrap_succ (by omega)]
    · exact ev_if (fun e => ev_to (ih (i + 1) (by omega)) (by simp [e])) (fun e => ev_some (by simp [e]))
theorem slices_Equal_int_int_ev (a b : List Int) (ha : a.length ≤ 1000000000000) : Ev (fun k => slices_Equal_int_int.f k a b) (decide (a = b)) := by
  unfold slices_Equal_int_int.f
  refine ev_if (fun h => ?_) (fun h => ev_some ?_)
  · exact slices_Equal_int_int_loop a b ha (by omega) a.length 0 (by omega)
  · rw [eq_comm, decide_eq_false_iff_not]; intro e; exact h (by rw [e])

theorem impl_registerWord_ev (taps : List Int) (n : Nat) (h : tapsB taps (n : Int) = true) : Ev (fun k => impl_registerWord.f k taps (n : Int)) (regM taps n) := by
  obtain ⟨hn, hc, hr, _⟩ := tapsB_iff.mp h
  have hn1 : 1 ≤ n := by omega
  have hl := taps_length h
  obtain ⟨⟨hp1, hp2⟩, hps, hpq⟩ := perM_spec h hn1
  have hpb := regs_small (show n ≤ 10 by omega) (Nat.le_refl _) hp2
  unfold impl_registerWord.f
  rw [wrap_id (x := (n : Int) - 1) (by omega)]
  refine ev_pos (by omega) (ev_pos (by omega) ?_)
  refine ev_plain rfl ?_
  refine ev_pos (by omega) (ev_pos (by simp; omega) ?_)
  refine ev_plain rfl ?_
  rw [show ((n : Int) - 1).toNat = n - 1 by omega, Int.toNat_natCast, start_set n hn1]
  refine ev_plain (a := startM n) ?_ ?_
  · unfold impl_copied.f
    rw [Option.bind_some, if_pos (by rw [startM_length hn1]; simp; omega)]; rfl
  refine ev_iter (fun (_ : Unit) j q => impl_registerWord.l0 q taps (n : Int) (startM n) (regW taps n j) (j : Int)) (fun _ _ => ()) (fun _ _ => True) (perM taps n) ?_ (perM taps n) 0 () (by omega) trivial ?_
  · intro _ j hj _
    refine ⟨trivial, fun r k => ?_⟩
    have hW := regW_length taps hn1 j
    -- the check, then the next letter
    have hgo : Ev (fun q => impl_registerWord.j1 q taps (n : Int) (startM n) (regW taps n j) (j : Int) false) r := by
      refine Ev.step (fun k => by simp only [impl_registerWord.j1]; rfl) ?_
      refine ev_neg (by simp) ?_
      refine ev_iter (fun (c : Int) i q => impl_registerWord.l1 q taps (n : Int) (startM n) (regW taps n j) (j : Int) c taps (taps.length : Int) (i : Int))
        (fun c i => Go.bits .xor .i64 c (rd (regW taps n j) (wrap64 ((j : Int) + rd taps (i : Int))))) (fun i c => c = (taps.take i).foldl (nxF (regS taps n j)) 0) taps.length ?_ taps.length 0 0 (by omega) (by simp) ?_
      · intro c i hi hI
        have ht := hr (rd taps (i : Int)) (by rw [rd_get taps i hi]; exact List.getElem_mem _)
        obtain ⟨t, ht2⟩ : ∃ t : Nat, rd taps (i : Int) = (t : Int) := ⟨(rd taps (i : Int)).toNat, by omega⟩
        refine ⟨?_, fun r k => ?_⟩
        · rw [nx_take taps _ i hi, hI, ht2, wrap_id (by omega), show (j : Int) + (t : Int) = ((j + t : Nat) : Int) by omega, regS_rd taps hn1, xor01 (nx_take_range taps _ i)]
          exact rd_bits (regS_bits taps hn1 j) t (by rw [regS_length taps hn1]; omega)
        · refine Ev.step (fun k => by simp only [impl_registerWord.l1]; rfl) ?_
          rw [wrap_succ (i := i) (by omega)]
          rw [wrap_id (x := (j : Int) + rd taps (i : Int)) (by omega)] at k ⊢
          exact ev_pos (by omega) (ev_pos (by omega) (ev_pos (by omega) (ev_pos (by omega) (ev_pos (by omega) k))))
      · intro hI
        refine Ev.step (fun k => by simp only [impl_registerWord.l1]; rfl) ?_
        refine ev_neg (by omega) (ev_pos (by omega) ?_)
        rw [hI, List.take_of_length_le (Nat.le_refl _), wrap_succ (by omega)]
        exact k
    refine Ev.step (fun k => by simp only [impl_registerWord.l0]; rfl) ?_
    rw [wrap_id (x := (j : Int) + (n : Int)) (by omega), show (j : Int) + (n : Int) = ((j + n : Nat) : Int) by omega, Int.toNat_natCast, Int.toNat_natCast]
    refine ev_if (fun h0 => ?_) (fun h0 => hgo)
    refine ev_pos (by omega) (ev_pos (by omega) (ev_pos (by omega) ?_))
    rw [show (regW taps n j).take (j + n) = regW taps n j from List.take_of_length_le (by omega), regW_drop taps hn1]
    refine ev_call (slices_Equal_int_int_ev _ _ (by rw [regS_length taps hn1]; omega)) ?_
    rw [decide_eq_false (hpq j (by omega) hj)]
    exact hgo
  · intro _
    have hW := regW_length taps hn1 (perM taps n)
    refine Ev.step (fun k => by simp only [impl_registerWord.l0]; rfl) ?_
    rw [wrap_id (x := (perM taps n : Int) + (n : Int)) (by omega), show (perM taps n : Int) + (n : Int) = ((perM taps n + n : Nat) : Int) by omega, Int.toNat_natCast, Int.toNat_natCast]
    refine ev_pos (by omega) (ev_pos (by omega) (ev_pos (by omega) (ev_pos (by omega) ?_)))
    rw [show (regW taps n (perM taps n)).take (perM taps n + n) = regW taps n (perM taps n) from List.take_of_length_le (by omega), regW_drop taps hn1]
    refine ev_call (slices_Equal_int_int_ev _ _ (by rw [regS_length taps hn1]; omega)) ?_
    rw [decide_eq_true hps]
    refine Ev.step (fun k => by simp only [impl_registerWord.j1]; rfl) ?_
    refine ev_pos (by trivial) ?_
    refine ev_pos (by omega) (ev_pos (by omega) ?_)
    rw [Int.toNat_natCast]
    refine ev_plain (a := regM taps n) ?_ (Ev.now _)
    unfold slices_Clone_int_int.f
    rw [if_pos (by rw [List.length_take]; omega)]; rfl

theorem impl_RegisterWord_ev (l : List Int) (n : Int) (hl : l.length ≤ 1000000000000) (hn : -9223372036854775808 ≤ n ∧ n ≤ 9223372036854775807) : Ev (fun k => impl_RegisterWord.f k l n) (RegisterWordM l n) := by
  unfold impl_RegisterWord.f RegisterWordM
  refine ev_call (impl_areTaps_ev l n hn hl) ?_
  refine ev_if (fun h => ?_) (fun h => ev_some (by rw [if_neg h]))
  have hn := (tapsB_iff.mp h).1
  obtain ⟨m, rfl⟩ : ∃ m : Nat, n = (m : Int) := ⟨n.toNat, by omega⟩
  exact ev_call (impl_registerWord_ev l m h) (ev_some (by rw [if_pos h, Int.toNat_natCast]))

theorem spec_l1In_eq (a lo hi : Int) : spec_l1In.f a lo hi = some (inB a lo hi) := by
  unfold spec_l1In.f inB
  by_cases h : a ≥ lo
  · rw [if_pos h]; simp [h]
  · rw [if_neg h]; simp [show ¬ lo ≤ a from h]

theorem spec_l1Rising_loop (l : List Int) (lo hi : Int) (hl : l.length ≤ 1000000000000) : ∀ (d j : Nat), j + 1 + d = l.length → Ev (fun k => spec_l1Rising.l0 k l lo hi l (l.length : Int) ((j + 1 : Nat) : Int)) (chainB (l.drop j) && allB (l.drop (j + 1)) lo hi) := by
  intro d
  induction d with
  | zero =>
    intro j h
    rw [drop_rd l j (by omega), List.drop_eq_nil_of_le (by omega)]
    exact Ev.step (fun k => by simp only [spec_l1Rising.l0]; rfl) (ev_neg (by omega) (ev_some (by simp [chainB, allB])))
  | succ d ih =>
    intro j h
    have ih := ih (j + 1) (by omega)
    rw [drop_rd l j (by omega)]
    rw [drop_rd l (j + 1) (by omega)] at ih ⊢
    generalize (l.drop (j + 1 + 1)) = t at ih ⊢
    refine Ev.step (fun k => by simp only [spec_l1Rising.l0]; rfl) ?_
    rw [wrap_pred (by omega), wrap_succ (by omega)]
    refine ev_pos (by omega) (ev_pos (by omega) (ev_pos (by omega) ?_))
    refine ev_plain (spec_l1In_eq _ _ _) ?_
    refine ev_if (fun e => ?_) (fun e => ev_some ?_)
    · refine ev_pos (by omega) (ev_pos (by omega) (ev_pos (by omega) ?_))
      refine ev_if (fun e2 => ev_some ?_) (fun e2 => ev_to ih ?_)
      · simp only [chainB]; rw [decide_eq_false (by omega)]; rfl
      · simp only [chainB, allB, List.all_cons, e]; rw [decide_eq_true (show rd l (j : Int) < rd l ((j + 1 : Nat) : Int) by omega)]; simp
    · simp only [allB, List.all_cons, Bool.eq_false_iff.mpr e]; simp
theorem spec_l1Rising_ev (l : List Int) (lo hi : Int) (hl : l.length ≤ 1000000000000) : Ev (fun k => spec_l1Rising.f k l lo hi) (chainB l && allB l lo hi) := by
  unfold spec_l1Rising.f
  refine Ev.step (fun k => by simp only [spec_l1Rising.l0]; rfl) ?_
  cases hl0 : l with
  | nil => exact ev_neg (by simp) (Ev.now _)
  | cons a t =>
    rw [← hl0]
    have h1 : 1 ≤ l.length := by rw [hl0]; simp
    have ha : rd l 0 = a := by rw [hl0]; rfl
    refine ev_pos (by omega) (ev_pos (by omega) (ev_pos (by omega) ?_))
    refine ev_plain (spec_l1In_eq _ _ _) ?_
    refine ev_if (fun e => ?_) (fun e => ev_some ?_)
    · refine ev_neg (by omega) ?_
      have := spec_l1Rising_loop l lo hi hl (l.length - 1) 0 (by omega)
      rw [show wrap64 (0 + 1) = ((0 + 1 : Nat) : Int) by rw [wrap_id (by omega)]; rfl]
      refine ev_to this ?_
      rw [ha] at e
      rw [hl0]
      simp [allB, e]
    · rw [ha] at e
      rw [hl0]
      simp only [allB, List.all_cons, Bool.eq_false_iff.mpr e]; simp

theorem spec_brTaps_ev (l : List Int) (n : Int) (hn : -9223372036854775808 ≤ n ∧ n ≤ 9223372036854775807) (hl : l.length ≤ 1000000000000) : Ev (fun k => spec_brTaps.f k l n) (tapsB l n) := by
  unfold spec_brTaps.f tapsB
  refine ev_plain (spec_l1In_eq _ _ _) ?_
  refine ev_if (fun h => ?_) (fun h => ev_some (by rw [Bool.eq_false_iff.mpr h]; rfl))
  have h' := inB_iff.mp h
  rw [h, wrap_id (x := n - 1) (by omega)]
  cases hl0 : l with
  | nil => exact ev_neg (by simp) (ev_some (by simp))
  | cons a t =>
    rw [← hl0]
    have h1 : 1 ≤ l.length := by rw [hl0]; simp
    have ha : rd l 0 = a := by rw [hl0]; rfl
    have hh : l.head? = some a := by rw [hl0]; rfl
    rw [hh]
    refine ev_pos (by omega) ?_
    refine ev_pos (by omega) ?_
    refine ev_if (fun e => ?_) (fun e => ev_some ?_)
    · refine ev_call (spec_l1Rising_ev l _ _ hl) (ev_some ?_)
      rw [ha] at e
      subst e
      simp
    · rw [ha] at e
      simp [e]

theorem spec_brNumber_ev (xs : List Int) (n k : Nat) (hk : 2 ≤ k) (hk6 : k ≤ 6) (h : k ^ n ≤ 1024) (hx : xs.length = n) (hn : n ≤ 1000) (hxs : ∀ x ∈ xs, 0 ≤ x ∧ x ≤ (k : Int) - 1) : Ev (fun q => spec_brNumber.f q xs (k : Int)) (codeN k xs) := by
  unfold spec_brNumber.f
  refine ev_iter (fun (c : Int) j q => spec_brNumber.l0 q (k : Int) c xs (xs.length : Int) (j : Int)) (fun c j => wrap64 (wrap64 (c * (k : Int)) + rd xs (j : Int))) (fun j c => c = codeN k (xs.take j)) xs.length ?_ xs.length 0 0 (by omega) (by simp [codeN]) ?_
  · intro c j hj hI
    refine ⟨by rw [hI]; exact code_step hk hk6 h hx hxs (by omega), fun r q => ?_⟩
    refine Ev.step (fun k => by simp only [spec_brNumber.l0]; rfl) ?_
    rw [wrap_succ (i := j) (by omega)]
    exact ev_pos (by omega) (ev_pos (by omega) (ev_pos (by omega) q))
  · intro hI
    exact Ev.step (fun k => by simp only [spec_brNumber.l0]; rfl) (ev_neg (by omega) (ev_some (by rw [hI, List.take_of_length_le (by omega)])))

theorem spec_brRegister_ev (taps : List Int) (n : Nat) (h : tapsB taps (n : Int) = true) : Ev (fun k => spec_brRegister.f k taps (n : Int)) (regM taps n) := by
  obtain ⟨hn, hc, hr, _⟩ := tapsB_iff.mp h
  have hn1 : 1 ≤ n := by omega
  have hl := taps_length h
  have h1024 : 2 ^ n ≤ 1024 := Nat.le_trans (Nat.pow_le_pow_right (by omega) (show n ≤ 10 by omega)) (by decide)
  obtain ⟨⟨hp1, hp2⟩, hps, hpq⟩ := perM_spec h hn1
  have hpb := regs_small (show n ≤ 10 by omega) (Nat.le_refl _) hp2
  -- one round: the next letter, then the check
  have round : ∀ j, j < perM taps n → ∀ r, Ev (fun q => if codeN 2 (regS taps n (j + 1)) = 1 then some ((regW taps n (j + 1)).take (j + 1)) else spec_brRegister.l0 q taps (n : Int) (regW taps n (j + 1))) r →
      Ev (fun q => spec_brRegister.l0 q taps (n : Int) (regW taps n j)) r := by
    intro j hj r k
    have hW := regW_length taps hn1 j
    have hW1 := regW_length taps hn1 (j + 1)
    refine Ev.step (fun k => by simp only [spec_brRegister.l0]; rfl) ?_
    refine ev_iter (fun (c : Int) i q => spec_brRegister.l1 q taps (n : Int) (regW taps n j) c taps (taps.length : Int) (i : Int))
        (fun c i => Go.bits .xor .i64 c (rd (regW taps n j) (wrap64 (wrap64 (((regW taps n j).length : Int) - (n : Int)) + rd taps (i : Int))))) (fun i c => c = (taps.take i).foldl (nxF (regS taps n j)) 0) taps.length ?_ taps.length 0 0 (by omega) (by simp) ?_
    · intro c i hi hI
      have ht := hr (rd taps (i : Int)) (by rw [rd_get taps i hi]; exact List.getElem_mem _)
      obtain ⟨t, ht2⟩ : ∃ t : Nat, rd taps (i : Int) = (t : Int) := ⟨(rd taps (i : Int)).toNat, by omega⟩
      rw [wrap_id (x := ((regW taps n j).length : Int) - (n : Int)) (by omega), show ((regW taps n j).length : Int) - (n : Int) = (j : Int) by omega]
      refine ⟨?_, fun r k => ?_⟩
      · rw [nx_take taps _ i hi, hI, ht2, wrap_id (by omega), show (j : Int) + (t : Int) = ((j + t : Nat) : Int) by omega, regS_rd taps hn1, xor01 (nx_take_range taps _ i)]
        exact rd_bits (regS_bits taps hn1 j) t (by rw [regS_length taps hn1]; omega)
      · refine Ev.step (fun k => by simp only [spec_brRegister.l1]; rfl) ?_
        rw [wrap_id (x := ((regW taps n j).length : Int) - (n : Int)) (by omega), show ((regW taps n j).length : Int) - (n : Int) = (j : Int) by omega]
        rw [wrap_succ (i := i) (by omega)]
        rw [wrap_id (x := (j : Int) + rd taps (i : Int)) (by omega)] at k ⊢
        exact ev_pos (by omega) (ev_pos (by omega) (ev_pos (by omega) (ev_pos (by omega) (ev_pos (by omega) k))))
    · intro hI
      refine Ev.step (fun k => by simp only [spec_brRegister.l1]; rfl) ?_
      refine ev_neg (by omega) (ev_pos (by omega) ?_)
      rw [hI, List.take_of_length_le (Nat.le_refl _)]
      refine ev_plain (a := regW taps n (j + 1)) rfl ?_
      rw [wrap_id (x := ((regW taps n (j + 1)).length : Int) - (n : Int)) (by omega), show ((regW taps n (j + 1)).length : Int) - (n : Int) = ((j + 1 : Nat) : Int) by omega, Int.toNat_natCast]
      refine ev_pos (by omega) (ev_pos (by omega) ?_)
      rw [regW_drop taps hn1]
      refine ev_call (spec_brNumber_ev _ n 2 (by omega) (by omega) h1024 (regS_length taps hn1 _) (by omega) (regS_bits taps hn1 _)) ?_
      by_cases e : codeN 2 (regS taps n (j + 1)) = 1
      · refine ev_pos e (ev_plain (a := (regW taps n (j + 1)).take (j + 1)) ?_ ?_)
        · unfold spec_l1Own.f
          rw [Option.bind_some, if_pos (by rw [List.length_take]; simp; omega)]; rfl
        · exact Ev.congr (fun q => by rw [if_pos e]) k
      · exact ev_neg e (Ev.congr (fun q => by rw [if_neg e]) k)
  have hcode : ∀ j, codeN 2 (regS taps n j) = 1 → regS taps n j = startM n := fun j e =>
    codeN_inj n _ _ (regS_length taps hn1 j) (startM_length hn1) (regS_bits taps hn1 j) (startM_bits n) (by rw [e, start_code])
  unfold spec_brRegister.f
  rw [wrap_id (x := (n : Int) - 1) (by omega)]
  refine ev_pos (by omega) (ev_pos (by omega) ?_)
  refine ev_plain rfl ?_
  refine ev_pos (by omega) (ev_pos (by simp; omega) ?_)
  rw [show ((n : Int) - 1).toNat = n - 1 by omega, Int.toNat_natCast, start_set n hn1]
  refine ev_iter (fun (_ : Unit) j q => spec_brRegister.l0 q taps (n : Int) (regW taps n j)) (fun _ _ => ()) (fun _ _ => True) (perM taps n - 1) ?_ (perM taps n - 1) 0 () (by omega) trivial ?_
  · intro _ j hj _
    refine ⟨trivial, fun r k => round j (by omega) r (ev_neg (fun e => hpq (j + 1) (by omega) (by omega) (hcode _ e)) k)⟩
  · intro _
    refine round (perM taps n - 1) (by omega) _ ?_
    rw [show perM taps n - 1 + 1 = perM taps n by omega]
    exact ev_pos (by rw [hps, start_code]) (Ev.now _)

theorem spec_RegisterWord_ev (l : List Int) (n : Int) (hl : l.length ≤ 1000000000000) (hn : -9223372036854775808 ≤ n ∧ n ≤ 9223372036854775807) : Ev (fun k => spec_RegisterWord.f k l n) (RegisterWordM l n) := by
  unfold spec_RegisterWord.f RegisterWordM
  refine ev_call (spec_brTaps_ev l n hn hl) ?_
  refine ev_if (fun h => ?_) (fun h => ev_some (by rw [if_neg h]))
  have hn := (tapsB_iff.mp h).1
  obtain ⟨m, rfl⟩ : ∃ m : Nat, n = (m : Int) := ⟨n.toNat, by omega⟩
  exact ev_call (spec_brRegister_ev l m h) (ev_some (by rw [if_pos h, Int.toNat_natCast]))

theorem impl_IsFullRegister_ev (l : List Int) (n : Int) (hl : l.length ≤ 1000000000000) (hn : -9223372036854775808 ≤ n ∧ n ≤ 9223372036854775807) : Ev (fun k => impl_IsFullRegister.f k l n) (IsFullRegisterM l n) := by
  unfold impl_IsFullRegister.f IsFullRegisterM
  refine ev_call (impl_areTaps_ev l n hn hl) ?_
  refine ev_if (fun h => ?_) (fun h => ev_some (by rw [if_neg h]))
  have hn := (tapsB_iff.mp h).1
  obtain ⟨m, rfl⟩ : ∃ m : Nat, n = (m : Int) := ⟨n.toNat, by omega⟩
  have hm : m ≤ 10 := by omega
  refine ev_call (impl_registerWord_ev l m h) ?_
  have hp : 2 ^ m ≤ 1024 := Nat.le_trans (Nat.pow_le_pow_right (by omega) hm) (by decide)
  refine ev_pos (by omega) (ev_some ?_)
  have hs : shl .i64 1 (m : Int) = ((2 ^ m : Nat) : Int) := by
    have : ∀ m : Nat, m < 11 → shl .i64 1 (m : Int) = ((2 ^ m : Nat) : Int) := by decide +kernel
    exact this m (by omega)
  rw [if_pos h, hs, regM_length (by omega), Int.toNat_natCast]
  generalize 2 ^ m = P at hp ⊢
  rw [wrap_id (x := (P : Int) - 1) (by omega)]; rfl

theorem impl_power_ev (a n : Nat) (ha : a ≤ 6) (hn : n ≤ 12) : Ev (fun k => impl_power.f k (a : Int) (n : Int)) ((a ^ n : Nat) : Int) := by
  have hb : ∀ j, j ≤ n → a ^ j ≤ 2176782336 := fun j hj => Nat.le_trans (Nat.pow_le_pow_left ha j) (Nat.le_trans (Nat.pow_le_pow_right (by omega) (show j ≤ 12 by omega)) (by decide))
  unfold impl_power.f
  refine ev_iter (fun (o : Nat) i k => impl_power.l0 k (a : Int) (o : Int) (n : Int) (i : Int)) (fun o _ => o * a) (fun i o => o = a ^ i) n ?_ n 0 1 (by omega) rfl ?_
  · intro o i hi hI
    refine ⟨by rw [hI, Nat.pow_succ], fun r k => ?_⟩
    have h1 := hb (i + 1) (by omega)
    rw [Nat.pow_succ, ← hI] at h1
    refine Ev.step (fun k => by simp only [impl_power.l0]; rfl) ?_
    refine ev_pos (by omega) ?_
    rw [wrap_succ (by omega), show (o : Int) * (a : Int) = ((o * a : Nat) : Int) by simp, wrap_id (by omega)]
    exact k
  · intro h
    refine Ev.step (fun k => by simp only [impl_power.l0]; rfl) (ev_neg (by omega) (ev_some (by rw [h])))

theorem impl_isBruijnSize_ev (n k : Int) : Ev (fun q => impl_isBruijnSize.f q n k) (kindB n k) := by
  unfold impl_isBruijnSize.f kindB
  refine ev_plain (impl_within_eq _ _ _) (ev_if (fun h1 => ?_) (fun h1 => ev_some (by simp [Bool.eq_false_iff.mpr h1])))
  refine ev_plain (impl_within_eq _ _ _) (ev_if (fun h2 => ?_) (fun h2 => ev_some (by simp [Bool.eq_false_iff.mpr h2])))
  have e1 := inB_iff.mp h1
  have e2 := inB_iff.mp h2
  obtain ⟨n, rfl⟩ := Int.eq_ofNat_of_zero_le (show 0 ≤ n by omega)
  obtain ⟨k, rfl⟩ := Int.eq_ofNat_of_zero_le (show 0 ≤ k by omega)
  refine ev_call (impl_power_ev k n (by omega) (by omega)) (ev_some ?_)
  rw [h1, h2]
  simp only [Bool.true_and, Int.toNat_natCast]
  exact decide_eq_decide.mpr (by omega)

theorem impl_IsCycle_ev (xs : List Int) (k : Int) (hx : xs.length ≤ 1000000000000) (hk : -9223372036854775808 ≤ k) (hk2 : k ≤ 9223372036854775807) : Ev (fun n => impl_IsCycle.f n xs k) (cycleB xs k) := by
  unfold impl_IsCycle.f cycleB
  refine ev_plain (impl_within_eq _ _ _) ?_
  refine ev_if (fun h => ?_) (fun h => ev_some (by simp [Bool.eq_false_iff.mpr h]))
  refine ev_plain (impl_within_eq _ _ _) ?_
  refine ev_if (fun h2 => ?_) (fun h2 => ev_some (by simp [Bool.eq_false_iff.mpr h2]))
  have h' := inB_iff.mp h
  rw [wrap_id (by omega)]
  exact ev_call (impl_allWithin_ev _ _ _ hx) (ev_some (by simp [h, h2]))

theorem impl_codes_in (w acc : List Int) (n k i : Nat) (r : List Int) (hk : 2 ≤ k) (hk6 : k ≤ 6) (h : k ^ n ≤ 1024) (hn : n ≤ 1000) (hw : w.length ≤ 1024) (hx : ∀ x ∈ w, 0 ≤ x ∧ x ≤ (k : Int) - 1) (ha : acc.length ≤ 1024) (hi : i < w.length)
    (q : Ev (fun q => impl_codes.l0 q w (n : Int) (k : Int) (acc ++ [codeN k (win w i n)]) (w.length : Int) ((i + 1 : Nat) : Int)) r) :
    Ev (fun q => impl_codes.l1 q w (n : Int) (k : Int) acc 0 (w.length : Int) (i : Int) (win w i n) ((win w i n).length : Int) 0) r := by
  have hwl := win_length w i n
  refine ev_iter (fun (c : Int) j q => impl_codes.l1 q w (n : Int) (k : Int) acc c (w.length : Int) (i : Int) (win w i n) ((win w i n).length : Int) (j : Int)) (fun c j => wrap64 (wrap64 (c * (k : Int)) + rd (win w i n) (j : Int))) (fun j c => c = codeN k ((win w i n).take j)) (win w i n).length ?_ (win w i n).length 0 0 (by omega) (by simp [codeN]) ?_
  · intro c j hj hI
    refine ⟨by rw [hI]; exact code_step hk hk6 h hwl (fun x hx' => hx x (mem_win (by omega) hx')) (by omega), fun r q => ?_⟩
    refine Ev.step (fun k => by simp only [impl_codes.l1]; rfl) ?_
    rw [wrap_succ (i := j) (by omega)]
    exact ev_pos (by omega) (ev_pos (by omega) (ev_pos (by omega) q))
  · intro hI
    refine Ev.step (fun k => by simp only [impl_codes.l1]; rfl) (ev_neg (by omega) (ev_pos (by omega) ?_))
    rw [hI, List.take_of_length_le (by omega), wrap_succ (i := i) (by omega)]
    exact q
theorem impl_codes_ev (w : List Int) (n k : Nat) (hk : 2 ≤ k) (hk6 : k ≤ 6) (h : k ^ n ≤ 1024) (hn : n ≤ 1000) (hw : w.length ≤ 1024) (hx : ∀ x ∈ w, 0 ≤ x ∧ x ≤ (k : Int) - 1) : Ev (fun q => impl_codes.f q w (n : Int) (k : Int)) (codesM w n k) := by
  unfold impl_codes.f
  refine ev_iter (fun (acc : List Int) i q => impl_codes.l0 q w (n : Int) (k : Int) acc (w.length : Int) (i : Int)) (fun acc i => acc ++ [codeN k (win w i n)]) (fun i acc => acc = (codesM w n k).take i) w.length ?_ w.length 0 [] (by omega) (by simp) ?_
  · intro acc i hi hI
    refine ⟨by rw [hI, codesM_take w n k i hi], fun r q => ?_⟩
    refine Ev.step (fun k => by simp only [impl_codes.l0]; rfl) (ev_pos (by omega) (ev_call (impl_window_ev w n i (by omega) (by omega) (by omega) (by omega)) ?_))
    exact impl_codes_in w acc n k i r hk hk6 h hn hw hx (by rw [hI]; simp; omega) hi q
  · intro hI
    exact Ev.step (fun k => by simp only [impl_codes.l0]; rfl) (ev_neg (by omega) (ev_some (by rw [hI, List.take_of_length_le (by rw [codesM_length]; omega)])))

theorem impl_different_ev (l : List Int) (hl : l.length ≤ 1000000000000) : Ev (fun k => impl_different.f k l) (decide l.Nodup) := by
  unfold impl_different.f
  refine ev_pos (by omega) ?_
  rw [← chain_srt]
  exact impl_increasing_ev (srt l) (by rw [srt_length]; exact hl)

theorem slices_Index_loop (l : List Int) (x : Int) (hl : l.length ≤ 1000000000000) : ∀ (d i : Nat), i + d = l.length → ∃ r : Int, (r ≥ 0 ↔ x ∈ l.drop i) ∧ Ev (fun k => slices_Index_int_int.l0 k l x (l.length : Int) (i : Int)) r := by
  intro d
  induction d with
  | zero =>
    intro i h
    rw [List.drop_eq_nil_of_le (by omega)]
    exact ⟨-1, by simp, Ev.step (fun k => by simp only [slices_Index_int_int.l0]; rfl) (ev_neg (by omega) (Ev.now _))⟩
  | succ d ih =>
    intro i h
    rw [drop_rd l i (by omega)]
    obtain ⟨r, h1, h2⟩ := ih (i + 1) (by omega)
    by_cases e : x = rd l (i : Int)
    · refine ⟨(i : Int), by simp [e], Ev.step (fun k => by simp only [slices_Index_int_int.l0]; rfl) ?_⟩
      exact ev_pos (by omega) (ev_pos (by omega) (ev_pos (by omega) (ev_pos e (Ev.now _))))
    · refine ⟨r, by rw [h1, List.mem_cons]; exact ⟨.inr, fun h => h.resolve_left e⟩, Ev.step (fun k => by simp only [slices_Index_int_int.l0]; rfl) ?_⟩
      rw [wrap_succ (by omega)]
      exact ev_pos (by omega) (ev_pos (by omega) (ev_pos (by omega) (ev_neg e h2)))
theorem slices_Contains_int_int_ev (l : List Int) (x : Int) (hl : l.length ≤ 1000000000000) : Ev (fun k => slices_Contains_int_int.f k l x) (decide (x ∈ l)) := by
  unfold slices_Contains_int_int.f slices_Index_int_int.f
  obtain ⟨r, h1, h2⟩ := slices_Index_loop l x hl l.length 0 (by omega)
  refine ev_call h2 (ev_some (decide_eq_decide.mpr ?_))
  simpa using h1

theorem impl_WithZero_is (w : List Int) (hw : 0 < w.length) (hl : w.length ≤ 1024) (i : Nat) (hi : i < w.length) : impl_WithZero.is w (i : Int) = some (prevNZ w i) := by
  have e1 : wrap64 (wrap64 ((i : Int) + (w.length : Int)) - 1) = ((i + w.length - 1 : Nat) : Int) := by unfold wrap64; omega
  have hm := Nat.mod_lt (i + w.length - 1) hw
  unfold impl_WithZero.is prevNZ
  rw [if_neg (by omega), e1, ← Int.ofNat_eq_natCast, ← Int.ofNat_eq_natCast, show Int.tmod (Int.ofNat (i + w.length - 1)) (Int.ofNat w.length) = (((i + w.length - 1) % w.length : Nat) : Int) from rfl]
  rw [if_pos (by omega), if_pos (by rw [Int.ofNat_eq_natCast]; omega)]
  congr 1
  by_cases c : rd w (((i + w.length - 1) % w.length : Nat) : Int) = 0
  · rw [c]; rfl
  · rw [decide_eq_true c]; exact bne_iff_ne.mpr c
theorem impl_WithZero_ev (w : List Int) (n k : Int) (hw : w.length ≤ 1048576) (hk : -9223372036854775808 ≤ k ∧ k ≤ 9223372036854775807) : Ev (fun q => impl_WithZero.f q w n k) (WithZeroM w n k) := by
  unfold impl_WithZero.f WithZeroM
  refine ev_call (impl_isBruijnSize_ev n k) (ev_if (fun h1 => ?_) (fun h1 => ev_some (by rw [if_neg (fun h => h1 h.1)])))
  refine ev_call (impl_IsCycle_ev w k (by omega) hk.1 hk.2) (ev_if (fun h2 => ?_) (fun h2 => ev_some (by rw [if_neg (fun h => h2 h.2.1)])))
  obtain ⟨n, k, rfl, rfl, n1, n2, k1, k2, hp⟩ := kindB_nat h1
  have hc := cycleB_iff.mp h2
  have hkn : 0 < k ^ n := Nat.pow_pos (by omega)
  have ew : wrap64 (((k ^ n : Nat) : Int) - 1) = ((k ^ n : Nat) : Int) - 1 := by unfold wrap64; omega
  rw [Int.toNat_natCast, Int.toNat_natCast]
  refine ev_call (impl_power_ev k n k2 (by omega)) ?_
  rw [ew]
  clear ew
  refine ev_if (fun h3 => ?_) (fun h3 => ev_some (by rw [if_neg (fun h => ?_)]; have := h.2.2; simp only [shortB, Bool.and_eq_true, decide_eq_true_eq] at this; omega))
  refine ev_call (impl_codes_ev w n k k1 k2 hp (by omega) (by omega) hc.2.2) (ev_call (impl_different_ev _ (by rw [codesM_length]; omega)) (ev_if (fun h4 => ?_) (fun h4 => ev_some (by rw [if_neg (fun h => ?_)]; have := h.2.2; simp only [shortB, Bool.and_eq_true, decide_eq_true_eq] at this; exact h4 (decide_eq_true this.2.1)))))
  refine ev_call (slices_Contains_int_int_ev _ 0 (by rw [codesM_length]; omega)) (ev_if (fun h5 => ev_some (by rw [if_neg (fun h => ?_)]; have := h.2.2; simp only [shortB, Bool.and_eq_true, h5] at this; simp at this)) (fun h5 => ?_))
  have h6 : shortB w n k = true := by
    unfold shortB
    rw [decide_eq_true (show w.length = k ^ n - 1 by omega), h4, Bool.eq_false_iff.mpr h5]
    rfl
  rw [if_pos ⟨h1, h2, h6⟩]
  have hcp : impl_copied.f w = some w := by
    unfold impl_copied.f
    rw [Option.bind_some, if_pos (by simp; omega), List.nil_append]
  by_cases h7 : (n : Int) > 1
  · obtain ⟨m, rfl⟩ : ∃ m, n = m + 2 := ⟨n - 2, by omega⟩
    obtain ⟨r, hr, hz⟩ := short_zeros k1 h6 hc.2.2 (by omega)
    have e1 : wrap64 (((m + 2 : Nat) : Int) - 1) = ((m + 1 : Nat) : Int) := by unfold wrap64; omega
    have e2 : (((m + 2 : Nat) : Int) - 1).toNat = m + 1 := by omega
    have hza := impl_zerosAt_ev w (m + 1) (impl_WithZero.is w) (prevNZ w) (by omega) (by omega) (fun x hx => by have := hc.2.2 x hx; omega) (fun i hi => impl_WithZero_is w (by omega) (by omega) i hi)
    rw [hz] at hza
    rw [e1, e2, hz]
    clear e1
    simp only [if_pos h7]
    refine ev_call hza ?_
    refine ev_plain hcp ?_
    unfold impl_WithZero.put
    simp only [Option.getD_some, Int.toNat_natCast]
    exact ev_pos (by omega) (ev_pos (by omega) (ev_pos (by omega) (Ev.now _)))
  · simp only [if_neg h7]
    refine ev_plain hcp ?_
    unfold impl_WithZero.put
    simp only [Int.toNat_zero]
    exact ev_pos (by omega) (ev_pos (by omega) (ev_pos (by omega) (Ev.now _)))

theorem impl_isBruijn_ev (w : List Int) (n k : Nat) (hk : 2 ≤ k) (hk6 : k ≤ 6) (h : k ^ n ≤ 1024) (hn : n ≤ 10) (hw : w.length ≤ 1024) (hx : ∀ x ∈ w, 0 ≤ x ∧ x ≤ (k : Int) - 1) : Ev (fun q => impl_isBruijn.f q w (n : Int) (k : Int)) (bruijnB w n k) := by
  unfold impl_isBruijn.f bruijnB
  refine ev_call (impl_power_ev k n hk6 (by omega)) (ev_if (fun e => ?_) (fun e => ev_some (by rw [decide_eq_false (by omega)]; rfl)))
  refine ev_call (impl_codes_ev w n k hk hk6 h (by omega) hw hx) (ev_call (impl_different_ev _ (by rw [codesM_length]; omega)) (ev_some ?_))
  rw [decide_eq_true (show w.length = k ^ n by omega)]; rfl

theorem impl_IsBruijn_ev (w : List Int) (n k : Int) (hw : w.length ≤ 1048576) (hk : -9223372036854775808 ≤ k ∧ k ≤ 9223372036854775807) : Ev (fun q => impl_IsBruijn.f q w n k) (IsBruijnM w n k) := by
  unfold impl_IsBruijn.f IsBruijnM
  refine ev_call (impl_isBruijnSize_ev n k) (ev_if (fun h1 => ?_) (fun h1 => ev_some (by rw [if_neg (fun h => h1 h.1)])))
  refine ev_call (impl_IsCycle_ev w k (by omega) hk.1 hk.2) (ev_if (fun h2 => ?_) (fun h2 => ev_some (by rw [if_neg (fun h => h2 h.2)])))
  rw [if_pos ⟨h1, h2⟩]
  have hc := cycleB_iff.mp h2
  obtain ⟨n, k, rfl, rfl, n1, n2, k1, k2, hp⟩ := kindB_nat h1
  exact ev_call (impl_isBruijn_ev w n k k1 k2 hp n2 hc.2.1.2 hc.2.2) (ev_some (by simp))

theorem laws_tSame_loop (a b : List Int) (ha : a.length ≤ 1000000000000) (hab : a.length = b.length) : ∀ (d i : Nat), i + d = a.length →
    Ev (fun k => laws_tSame.l0 k a b (a.length : Int) (i : Int)) (decide (a.drop i = b.drop i)) := by
  intro d
  induction d with
  | zero =>
    intro i h
    rw [List.drop_eq_nil_of_le (by omega), List.drop_eq_nil_of_le (by omega)]
    refine Ev.step (f := fun _ => some true) (fun k => ?_) (Ev.now _)
    simp only [laws_tSame.l0]; rw [if_neg (by omega)]
  | succ d ih =>
    intro i h
    rw [drop_rd a i (by omega), drop_rd b i (by omega)]
    refine Ev.step (f := fun k => if rd a (i : Int) = rd b (i : Int) then laws_tSame.l0 k a b (a.length : Int) ((i + 1 : Nat) : Int) else some false) (fun k => ?_) ?_
    · simp only [laws_tSame.l0]; rw [if_pos (by omega), if_pos (by omega), if_pos (by omega), if_pos (by omega), wrap_succ (by omega)]
    · exact ev_if (fun e => ev_to (ih (i + 1) (by omega)) (by simp [e])) (fun e => ev_some (by simp [e]))
theorem laws_tSame_ev (a b : List Int) (ha : a.length ≤ 1000000000000) : Ev (fun k => laws_tSame.f k a b) (decide (a = b)) := by
  unfold laws_tSame.f
  refine ev_if (fun h => ?_) (fun h => ev_some ?_)
  · exact laws_tSame_loop a b ha (by omega) a.length 0 (by omega)
  · rw [eq_comm, decide_eq_false_iff_not]; intro e; exact h (by rw [e])

theorem laws_big_some (a b : List Int) : ∃ r, laws_big.f a b = some r := by
  unfold laws_big.f
  split
  · exact ⟨_, rfl⟩
  · exact ⟨_, rfl⟩
theorem laws_big_ok {a b : List Int} {r : Bool} (h : laws_big.f a b = some r) (hr : ¬ r = true) : a.length ≤ 1048576 ∧ b.length ≤ 1048576 := by
  unfold laws_big.f at h
  split at h
  · cases h; exact absurd rfl hr
  · rename_i h1
    obtain rfl := Option.some.inj h
    rw [wrap_id (by omega)] at hr
    simp at hr
    omega

/-! What is drawn. -/
theorem put_end (l : List Int) (x : Int) (hl : l.length ≤ 1000) (i : Nat) (hi : i ≤ l.length) : ∃ r : List Int, r.length ≤ l.length + 1 ∧ 1 ≤ r.length ∧ r = ([] ++ l.take i) ++ [x] ++ l.drop i := ⟨_, by simp; omega, by simp; omega, rfl⟩
theorem put_loop (l : List Int) (x : Int) (hl : l.length ≤ 1000) (h1 : 1 ≤ l.length) : ∀ (d i : Nat), i + d = l.length → ∃ r, Ev (fun q => spec_l1Put.l0 q l x (i : Int)) r ∧ r.length ≤ l.length + 1 ∧ 1 ≤ r.length := by
  intro d
  induction d with
  | zero =>
    intro i hi
    refine ⟨([] ++ l.take i) ++ [x] ++ l.drop i, ?_, by simp; omega, by simp; omega⟩
    refine Ev.step (fun k => by simp only [spec_l1Put.l0]; rfl) ?_
    refine ev_neg (by omega) ?_
    refine ev_plain rfl ?_
    refine ev_pos (by omega) ?_
    refine ev_pos (by omega) ?_
    refine ev_plain rfl ?_
    rw [Int.toNat_natCast]
    refine ev_pos (by simp; omega) ?_
    refine ev_plain rfl ?_
    refine ev_pos (by simp; omega) ?_
    refine ev_plain rfl ?_
    refine ev_plain rfl ?_
    exact ev_pos (by simp; omega) (Ev.now _)
  | succ d ih =>
    intro i hi
    obtain ⟨r, e, hr⟩ := ih (i + 1) (by omega)
    by_cases c1 : rd l (i : Int) < x
    · refine ⟨r, ?_, hr⟩
      refine Ev.step (fun k => by simp only [spec_l1Put.l0]; rfl) ?_
      refine ev_pos (by omega) ?_
      refine ev_pos (by omega) ?_
      rw [wrap_succ (by omega)]
      exact ev_pos c1 e
    · by_cases c2 : rd l (i : Int) = x
      · refine ⟨l, ?_, by omega, h1⟩
        refine Ev.step (fun k => by simp only [spec_l1Put.l0]; rfl) ?_
        refine ev_pos (by omega) ?_
        refine ev_pos (by omega) ?_
        exact ev_neg c1 (ev_pos c2 (Ev.now _))
      · refine ⟨([] ++ l.take i) ++ [x] ++ l.drop i, ?_, by simp; omega, by simp; omega⟩
        refine Ev.step (fun k => by simp only [spec_l1Put.l0]; rfl) ?_
        refine ev_pos (by omega) ?_
        refine ev_pos (by omega) ?_
        refine ev_neg c1 ?_
        refine ev_neg c2 ?_
        refine ev_plain rfl ?_
        refine ev_pos (by omega) ?_
        refine ev_plain rfl ?_
        rw [Int.toNat_natCast]
        refine ev_pos (by simp; omega) ?_
        refine ev_plain rfl ?_
        refine ev_pos (by simp; omega) ?_
        refine ev_plain rfl ?_
        refine ev_plain rfl ?_
        exact ev_pos (by simp; omega) (Ev.now _)
theorem put_ok (l : List Int) (x : Int) (hl : l.length ≤ 1000) (h1 : 1 ≤ l.length) : ∃ r, Ev (fun q => spec_l1Put.f q l x) r ∧ r.length ≤ l.length + 1 ∧ 1 ≤ r.length := put_loop l x hl h1 l.length 0 (by omega)
theorem taps_last {d : List Int} (hd : bytesL d) (n : Int) (taps : List Int) (h1 : 1 ≤ taps.length) (h2 : taps.length ≤ 500) {a : Int} (s : Int) (h0 : 0 ≤ a) (hb : a ≤ 1000000) : ∃ r a' s', spec_l1Cur_taps.last n taps d a s = some (r, n, a', s') ∧ r.length ≤ 501 := by
  obtain ⟨c, a1, s1, e1, hc, ha1⟩ := pick_ok hd (a := a) s 12 h0 (by omega)
  unfold spec_l1Cur_taps.last
  rw [e1, Option.bind_some]
  dsimp only
  by_cases c0 : c = 0
  · rw [if_pos c0, if_pos h1]; exact ⟨_, _, _, rfl, by simp; omega⟩
  · by_cases c1 : c = 1
    · rw [if_neg c0, if_pos c1, if_pos (by omega)]; exact ⟨_, _, _, rfl, by simp; omega⟩
    · rw [if_neg c0, if_neg c1]; exact ⟨_, _, _, rfl, by omega⟩
theorem taps_loop {d : List Int} (hd : bytesL d) (n : Int) : ∀ (m : Nat) (taps : List Int) (a s : Int), m ≤ 10 → 1 ≤ taps.length → taps.length + m ≤ 400 → 0 ≤ a → a + 2 * (m : Int) ≤ 900000 → ∃ r a' s', Ev (fun q => spec_l1Cur_taps.l0 q n taps (m : Int) d a s) (r, n, a', s') ∧ r.length ≤ 501 := by
  intro m
  induction m with
  | zero =>
    intro taps a s _ h1 h2 h0 hb
    obtain ⟨r, a', s', e, hr⟩ := taps_last hd n taps h1 (by omega) (a := a) s h0 (by omega)
    refine ⟨r, a', s', ?_, hr⟩
    refine Ev.step (fun k => by simp only [spec_l1Cur_taps.l0]; rfl) ?_
    exact ev_neg (by omega) (by rw [e]; exact Ev.now _)
  | succ m ih =>
    intro taps a s hm h1 h2 h0 hb
    by_cases c : n > 1
    · obtain ⟨p, a1, s1, e1, hp, ha1⟩ := pick_ok hd (a := a) s n h0 (by omega)
      obtain ⟨t, et, ht1, ht2⟩ := put_ok taps p (by omega) h1
      obtain ⟨r, a', s', e, hr⟩ := ih t a1 s1 (by omega) ht2 (by omega) (by omega) (by omega)
      refine ⟨r, a', s', ?_, hr⟩
      refine Ev.step (fun k => by simp only [spec_l1Cur_taps.l0]; rfl) ?_
      refine ev_pos (by omega) ?_
      refine ev_pos c ?_
      refine ev_plain e1 ?_
      dsimp only
      refine ev_call et ?_
      rw [show wrap64 (((m + 1 : Nat) : Int) - 1) = (m : Int) by rw [wrap_id (by omega)]; omega]
      exact e
    · obtain ⟨r, a', s', e, hr⟩ := taps_last hd n taps h1 (by omega) (a := a) s h0 (by omega)
      refine ⟨r, a', s', ?_, hr⟩
      refine Ev.step (fun k => by simp only [spec_l1Cur_taps.l0]; rfl) ?_
      refine ev_pos (by omega) ?_
      exact ev_neg c (by rw [e]; exact Ev.now _)
theorem taps_rest {d : List Int} (hd : bytesL d) (n : Int) {a : Int} (s : Int) (h0 : 0 ≤ a) (hb : a ≤ 1000) : ∃ r a' s', Ev (fun q => spec_l1Cur_taps.rest q n d a s) (r, n, a', s') ∧ r.length ≤ 501 := by
  obtain ⟨m, a1, s1, e1, hm, ha1⟩ := pick_ok hd (a := a) s 3 h0 (by omega)
  obtain ⟨m, rfl⟩ := Int.eq_ofNat_of_zero_le hm.1
  obtain ⟨r, a', s', e, hr⟩ := taps_loop hd n m [0] a1 s1 (by omega) (by simp) (by simp; omega) (by omega) (by omega)
  refine ⟨r, a', s', ?_, hr⟩
  unfold spec_l1Cur_taps.rest
  refine ev_plain e1 ?_
  exact e
theorem drawTaps_ok {d : List Int} (hd : bytesL d) : ∃ taps n, Ev (fun q => spec_DrawRegisterWord.f q d) (taps, n) ∧ taps.length ≤ 501 ∧ (-1 ≤ n ∧ n ≤ 11) := by
  obtain ⟨p, a1, s1, e1, hp, ha1⟩ := pick_ok hd (a := 0) 0 6 (by omega) (by omega)
  obtain ⟨b, a2, s2, e2, ha2⟩ := one_ok hd (a := a1) s1 10 (by omega) (by omega)
  unfold spec_DrawRegisterWord.f spec_l1Cur_taps.f
  by_cases c : b = true
  · obtain ⟨q, a3, s3, e3, hq, ha3⟩ := among_ok hd (a := a2) s2 [-1, 0, 10, 11] (by simp) (by omega) (by omega)
    obtain ⟨r, a', s', e, hr⟩ := taps_rest hd q (a := a3) s3 (by omega) (by omega)
    refine ⟨r, q, ev_call (ev_plain e1 (ev_plain e2 (ev_pos c (ev_plain e3 e)))) (Ev.now _), hr, by simp at hq; omega⟩
  · obtain ⟨r, a', s', e, hr⟩ := taps_rest hd (wrap64 (1 + p)) (a := a2) s2 (by omega) (by omega)
    refine ⟨r, wrap64 (1 + p), ev_call (ev_plain e1 (ev_plain e2 (ev_neg c e))) (Ev.now _), hr, by rw [wrap_id (by omega)]; omega⟩
/-! What the law asks. -/
theorem regLaw_end (taps : List Int) (n : Nat) (ht : tapsB taps (n : Int) = true) (full : Bool) (hf : full = decide (((perM taps n : Nat) : Int) = ((2 ^ n : Nat) : Int) - 1)) : Ev (fun q => laws_FnRegisters.j4 q (n : Int) (regM taps n) full false) true := by
  obtain ⟨⟨n1, n2⟩, _⟩ := tapsB_iff.mp ht
  have hn1 : 1 ≤ n := by omega
  have hp : 2 ^ n ≤ 1024 := Nat.le_trans (Nat.pow_le_pow_right (by omega) (show n ≤ 10 by omega)) (by decide)
  have hpg := pow_ge 2 n (by omega)
  obtain ⟨q1, q2, q3⟩ := regM_codes ht hn1
  have hper := (perM_spec ht hn1).1.1
  have hl := regM_length (taps := taps) hn1
  refine Ev.step (fun k => by simp only [laws_FnRegisters.j4]; rfl) ?_
  refine ev_neg (by simp) ?_
  subst hf
  by_cases c : ((perM taps n : Nat) : Int) = ((2 ^ n : Nat) : Int) - 1
  · refine ev_pos (by rw [decide_eq_true c]) ?_
    have h1 : kindB (n : Int) ((2 : Nat) : Int) = true := by
      unfold kindB
      rw [inB_iff.mpr (by omega), inB_iff.mpr (by omega)]
      simp only [Int.toNat_natCast, Bool.true_and]
      exact decide_eq_true (by omega)
    have h2 : cycleB (regM taps n) ((2 : Nat) : Int) = true := cycleB_iff.mpr ⟨by omega, by omega, regM_bits⟩
    have h3 : shortB (regM taps n) n 2 = true := by
      unfold shortB
      rw [decide_eq_true (show (regM taps n).length = 2 ^ n - 1 by omega), decide_eq_true q1, decide_eq_false q2]
      rfl
    obtain ⟨g1, g2, g3⟩ := put_then_take h1 hn1 (by omega) hp h2 h3
    have e1 := impl_WithZero_ev (regM taps n) (n : Int) ((2 : Nat) : Int) (by omega) (by omega)
    rw [WithZeroM_eq _ n 2 h1 h2 h3] at e1
    have e2 := impl_IsBruijn_ev (insZ (regM taps n) (placeZ (regM taps n) n)) (n : Int) ((2 : Nat) : Int) (by omega) (by omega)
    rw [g1] at e2
    refine ev_call e1 ?_
    dsimp only
    refine ev_call e2 ?_
    dsimp only
    exact ev_pos rfl (ev_pos rfl (Ev.now _))
  · exact ev_neg (by rw [decide_eq_false c]; simp) (Ev.now _)
theorem regLaw_size (taps : List Int) (n : Nat) (ht : tapsB taps (n : Int) = true) (full : Bool) (hf : full = decide (((perM taps n : Nat) : Int) = ((2 ^ n : Nat) : Int) - 1)) : ∀ (d i : Nat), i + d = n → Ev (fun q => laws_FnRegisters.l2 q (n : Int) (regM taps n) full ((2 ^ i : Nat) : Int) (i : Int)) true := by
  obtain ⟨⟨n1, n2⟩, _⟩ := tapsB_iff.mp ht
  have hn1 : 1 ≤ n := by omega
  have hp : 2 ^ n ≤ 1024 := Nat.le_trans (Nat.pow_le_pow_right (by omega) (show n ≤ 10 by omega)) (by decide)
  have hpg := pow_ge 2 n (by omega)
  have q3 := (regM_codes ht hn1).2.2
  have hl := regM_length (taps := taps) hn1
  intro d
  induction d with
  | zero =>
    intro i hi
    obtain rfl : i = n := by omega
    have hend := regLaw_end taps i ht full hf
    refine Ev.step (fun k => by simp only [laws_FnRegisters.l2]; rfl) ?_
    refine ev_neg (by omega) ?_
    rw [wrap_id (x := ((2 ^ i : Nat) : Int) - 1) (by omega)]
    refine ev_neg ?_ ?_
    · rw [hf, hl]
      by_cases c : ((perM taps i : Nat) : Int) = ((2 ^ i : Nat) : Int) - 1
      · rw [decide_eq_true c, beq_iff_eq.mpr c]; simp
      · rw [decide_eq_false c, beq_eq_false_iff_ne.mpr c]; simp
    · rw [decide_eq_false (show ¬ ((regM taps i).length : Int) > ((2 ^ i : Nat) : Int) - 1 by omega)]
      exact hend
  | succ d ih =>
    intro i hi
    have hpi : 2 ^ i ≤ 2 ^ n := Nat.pow_le_pow_right (by omega) (by omega)
    have e := ih (i + 1) (by omega)
    refine Ev.step (fun k => by simp only [laws_FnRegisters.l2]; rfl) ?_
    refine ev_pos (by omega) ?_
    have hw : ∀ P : Nat, P ≤ 1024 → wrap64 ((P : Int) * 2) = ((P * 2 : Nat) : Int) := fun P hP => by rw [wrap_id (by omega)]; omega
    rw [wrap_succ (by omega), hw _ (by omega), ← Nat.pow_succ]
    exact e
def sumX (taps : List Int) (n i : Nat) (ts : List Int) : Int := ts.foldl (fun a t => a + seqX taps n (i + t.toNat)) 0
theorem seqX_range {taps : List Int} {n : Nat} (i : Nat) : 0 ≤ seqX taps n i ∧ seqX taps n i ≤ 1 := by
  unfold seqX
  by_cases c : i < (regW taps n i).length
  · have := regW_bits taps n i _ (show rd (regW taps n i) (i : Int) ∈ regW taps n i by rw [rd_get _ _ c]; exact List.getElem_mem c)
    omega
  · rw [rd_nat, List.getD_eq_getElem?_getD, List.getElem?_eq_none (by omega)]
    simp
theorem sumX_range {taps : List Int} {n : Nat} (i : Nat) : ∀ (ts : List Int) (a : Int), a ≤ ts.foldl (fun a t => a + seqX taps n (i + t.toNat)) a ∧ ts.foldl (fun a t => a + seqX taps n (i + t.toNat)) a ≤ a + ts.length := by
  intro ts
  induction ts with
  | nil => intro a; exact ⟨Int.le_refl _, by simp⟩
  | cons t ts ih =>
    intro a
    have h1 := seqX_range (taps := taps) (n := n) (i + t.toNat)
    have h2 := ih (a + seqX taps n (i + t.toNat))
    rw [List.foldl_cons, List.length_cons]
    omega
theorem sumX_next {taps : List Int} {n : Nat} (ht : tapsB taps (n : Int) = true) (hn : 1 ≤ n) (i : Nat) : seqX taps n (i + n) = Int.tmod (sumX taps n i taps) 2 := by
  have hb := (tapsB_iff.mp ht).2.2.1
  have key : ∀ (ts : List Int), (∀ t ∈ ts, 0 ≤ t ∧ t ≤ (n : Int) - 1) → ∀ a : Int, ts.foldl (fun a t => a + rd (regS taps n i) t) a = ts.foldl (fun a t => a + seqX taps n (i + t.toNat)) a := by
    intro ts
    induction ts with
    | nil => intro _ a; rfl
    | cons t ts ih =>
      intro h a
      have h1 := h t (by simp)
      obtain ⟨q, rfl⟩ := Int.eq_ofNat_of_zero_le h1.1
      rw [List.foldl_cons, List.foldl_cons, regS_seq hn i q (by omega), Int.toNat_natCast]
      exact ih (fun x hx => h x (by simp [hx])) _
  have h1 := nx_sum (regS taps n i) taps 0
  rw [key taps hb 0] at h1
  have h2 := nxM_range taps (regS taps n i)
  have h3 := sumX_range (taps := taps) (n := n) i taps 0
  rw [seq_next hn i]
  unfold sumX
  rw [Int.tmod_eq_emod_of_nonneg h3.1, ← h1]
  show nxM taps (regS taps n i) = nxM taps (regS taps n i) % 2
  omega
theorem regLaw_row (taps : List Int) (n : Nat) (ht : tapsB taps (n : Int) = true) (htl : taps.length ≤ 600) (full : Bool) (i : Nat) (hi : i < perM taps n) (k : Ev (fun q => laws_FnRegisters.l0 q taps (n : Int) (regM taps n) full ((perM taps n : Nat) : Int) ((i + 1 : Nat) : Int)) true) : ∀ (d j : Nat), j + d = taps.length →
    Ev (fun q => laws_FnRegisters.l1 q taps (n : Int) (regM taps n) full (i : Int) (sumX taps n i (taps.take j)) ((perM taps n : Nat) : Int) (i : Int) taps (taps.length : Int) (j : Int)) true := by
  obtain ⟨⟨n1, n2⟩, _, hb, _⟩ := tapsB_iff.mp ht
  have hn1 : 1 ≤ n := by omega
  have hp : 2 ^ n ≤ 1024 := Nat.le_trans (Nat.pow_le_pow_right (by omega) (show n ≤ 10 by omega)) (by decide)
  have hper := (perM_spec ht hn1).1
  have hl := regM_length (taps := taps) hn1
  have hat : ∀ t : Nat, t ≤ 10 → Int.tmod (wrap64 ((i : Int) + (t : Int))) ((regM taps n).length : Int) = (((i + t) % (regM taps n).length : Nat) : Int) := fun t h => by
    rw [show wrap64 ((i : Int) + (t : Int)) = ((i + t : Nat) : Int) by rw [wrap_id (by omega)]; omega]
    rfl
  have hrd : ∀ t : Nat, rd (regM taps n) (((i + t) % (regM taps n).length : Nat) : Int) = seqX taps n (i + t) := fun t => by rw [rd_nat]; exact regM_get ht hn1 (i + t)
  have hmod : ∀ x : Nat, x % (regM taps n).length < (regM taps n).length := fun x => Nat.mod_lt _ (by omega)
  intro d
  induction d with
  | zero =>
    intro j hj
    obtain rfl : j = taps.length := by omega
    rw [List.take_length]
    have hm := hmod (i + n)
    refine Ev.step (fun k => by simp only [laws_FnRegisters.l1]; rfl) ?_
    refine ev_neg (by omega) ?_
    refine ev_neg (by omega) ?_
    rw [hat n (by omega), hrd n]
    refine ev_pos (by omega) ?_
    refine ev_pos (by omega) ?_
    refine ev_pos (sumX_next ht hn1 i) ?_
    rw [wrap_succ (by omega)]
    exact k
  | succ d ih =>
    intro j hj
    have ht1 := hb (rd taps (j : Int)) (by rw [rd_get _ _ (by omega)]; exact List.getElem_mem (by omega))
    obtain ⟨t, ht2⟩ := Int.eq_ofNat_of_zero_le ht1.1
    have hm := hmod (i + t)
    have hs := sumX_range (taps := taps) (n := n) i (taps.take j) 0
    have hsl : ((taps.take j).length : Int) ≤ 600 := by simp; omega
    have hx := seqX_range (taps := taps) (n := n) (i + t)
    have hsum : sumX taps n i (taps.take (j + 1)) = sumX taps n i (taps.take j) + seqX taps n (i + t) := by
      unfold sumX
      rw [take_rd taps j (by omega), List.foldl_append, ht2]
      show _ + seqX taps n (i + ((t : Int)).toNat) = _
      rw [Int.toNat_natCast]
    have e := ih (j + 1) (by omega)
    rw [hsum] at e
    refine Ev.step (fun k => by simp only [laws_FnRegisters.l1]; rfl) ?_
    refine ev_pos (by omega) ?_
    refine ev_pos (by omega) ?_
    refine ev_pos (by omega) ?_
    refine ev_neg (by omega) ?_
    rw [ht2]
    show Ev _ true
    rw [hat t (by omega), hrd t]
    refine ev_pos (by omega) ?_
    refine ev_pos (by omega) ?_
    rw [wrap_succ (by omega), wrap_id (x := sumX taps n i (taps.take j) + seqX taps n (i + t)) (by unfold sumX; omega)]
    exact e
theorem regLaw_letters (taps : List Int) (n : Nat) (ht : tapsB taps (n : Int) = true) (htl : taps.length ≤ 600) (full : Bool) (hf : full = decide (((perM taps n : Nat) : Int) = ((2 ^ n : Nat) : Int) - 1)) : ∀ (d i : Nat), i + d = perM taps n → Ev (fun q => laws_FnRegisters.l0 q taps (n : Int) (regM taps n) full ((perM taps n : Nat) : Int) (i : Int)) true := by
  intro d
  induction d with
  | zero =>
    intro i hi
    refine Ev.step (fun k => by simp only [laws_FnRegisters.l0]; rfl) ?_
    refine ev_neg (by omega) ?_
    exact regLaw_size taps n ht full hf n 0 (by omega)
  | succ d ih =>
    intro i hi
    refine Ev.step (fun k => by simp only [laws_FnRegisters.l0]; rfl) ?_
    refine ev_pos (by omega) ?_
    exact regLaw_row taps n ht htl full i (by omega) (ih (i + 1) (by omega)) taps.length 0 (by omega)
theorem FnRegisters : laws_FnRegisters.Pure := by
  intro l0 l1 _ _ hb0 _ _ hb1
  refine Ev.rounds (r := true) ?_
  unfold laws_FnRegisters.f
  obtain ⟨b, hbig⟩ := laws_big_some l0 l1
  refine ev_plain hbig ?_
  refine ev_if (fun _ => Ev.now _) (fun hbig2 => ?_)
  obtain ⟨taps, n, hdraw, htl, hn⟩ := drawTaps_ok (bytes_wf hb0)
  refine ev_call hdraw ?_
  dsimp only
  refine ev_call (impl_RegisterWord_ev taps n (by omega) (by omega)) (ev_call (spec_RegisterWord_ev taps n (by omega) (by omega)) (ev_call (impl_IsFullRegister_ev taps n (by omega) (by omega)) ?_))
  refine ev_neg (bne_no _) ?_
  have hml := RegisterWordM_length taps n
  refine ev_call (laws_tSame_ev _ _ (by omega)) ?_
  refine ev_pos (by simp) ?_
  by_cases c : tapsB taps n = true
  · obtain ⟨m, rfl⟩ := Int.eq_ofNat_of_zero_le (show 0 ≤ n by have := (tapsB_iff.mp c).1; omega)
    have hn1 : 1 ≤ m := by have := (tapsB_iff.mp c).1; omega
    unfold RegisterWordM IsFullRegisterM
    rw [if_pos c, if_pos c, Int.toNat_natCast]
    dsimp only
    refine Ev.step (fun k => by simp only [laws_FnRegisters.j0]; rfl) ?_
    refine ev_neg (by simp) ?_
    refine ev_pos (by trivial) ?_
    rw [regM_length hn1]
    exact regLaw_letters taps m c (by omega) _ rfl (perM taps m) 0 (by omega)
  · unfold RegisterWordM IsFullRegisterM
    rw [if_neg c, if_neg c]
    dsimp only
    refine Ev.step (fun k => by simp only [laws_FnRegisters.j0]; rfl) ?_
    refine ev_neg (by simp) ?_
    exact ev_neg (by simp) (Ev.now _)

end Go.Proofs.Ytdnbeekoefmbcaa.Pure
