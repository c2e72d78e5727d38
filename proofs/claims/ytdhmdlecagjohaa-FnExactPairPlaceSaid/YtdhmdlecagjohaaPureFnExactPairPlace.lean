/- The pure statement of PairPlace: program and reference answer alike, for all arguments; no condition. -/
import Derived.Test.YtdhmdlecagjohaaPFnExactPairPlacex4
import Derived.Test.YtdhmdlecagjohaaBase
import Derived.Test.YtdhmdlecagjohaaLists
namespace Go.Proofs.Ytdhmdlecagjohaa.Pure
open Go.RowKit Go.Proofs.Ytdhmdlecagjohaa.PFnExactPairPlace Go.Proofs.YtdhmdlecagjohaaW.PrintWords Go.Proofs.YtdhmdlecagjohaaW.PrintLast Go.Proofs.Ytdhmdlecagjohaa.Base
set_option maxRecDepth 10000
set_option linter.unusedVariables false
set_option linter.unusedSimpArgs false

def superOk (n : Int) (w : List Int) : Bool := inB n 1 5 && superWordB w
theorem superOk_nat {n : Int} {w : List Int} (h : superOk n w = true) : ∃ m : Nat, n = m ∧ 1 ≤ m ∧ m ≤ 5 ∧ w.length ≤ 200 := by
  simp only [superOk, superWordB, Bool.and_eq_true, inB_iff, decide_eq_true_eq] at h
  exact ⟨n.toNat, by omega, by omega, by omega, by omega⟩
def RanksInM (n : Int) (w : List Int) : List Int × Bool := if superOk n w = true then (comingsM n.toNat w, true) else ([], false)
theorem RanksInM_length (n : Int) (w : List Int) : (RanksInM n w).1.length ≤ 1024 := by
  unfold RanksInM
  split
  · rename_i h
    obtain ⟨m, rfl, _, _, h4⟩ := superOk_nat h
    have := comingsM_length m w
    simp; omega
  · simp
def IsSuperM (n : Int) (w : List Int) : Bool × Bool := if superOk n w = true then (((comingsM n.toNat w).length : Int) == ((fact n.toNat : Nat) : Int), true) else (false, false)
def WastedInM (n : Int) (w : List Int) : Int × Bool := if superOk n w = true then (((w.length + 1 - n.toNat - (comingsM n.toNat w).length : Nat) : Int), true) else (0, false)

theorem mx_self_le (a b c : Int) : mx a b ≥ c ↔ (c ≤ a ∨ c ≤ b) := by unfold mx; split <;> omega
def pairAt (w : List Int) (i : Nat) : Int := w.getD ((i + 1) % w.length) 0
def pairKey (w : List Int) (i : Nat) : Int × Int := (mn (rd w (i : Int)) (pairAt w i), mx (rd w (i : Int)) (pairAt w i))
def halfM (n : Int) : Int := Int.tdiv (n * (n - 1)) 2
def pcI (n : Int) (w : List Int) : Nat → Nat → List (Int × Int) → Bool
  | 0, _, met => (met.length : Int) == halfM n
  | d + 1, i, met => if rd w (i : Int) = pairAt w i then false else (if mx (rd w (i : Int)) (pairAt w i) ≥ n then false else (if met.contains (pairKey w i) = true then false else pcI n w d (i + 1) (met ++ [pairKey w i])))
def pairB (n : Int) (w : List Int) : Bool := pcI n w w.length 0 []
theorem pcI_len (n : Int) (w : List Int) : ∀ d i met, pcI n w d i met = true → ((met.length + d : Nat) : Int) = halfM n := by
  intro d
  induction d with
  | zero => intro i met h; simpa [pcI] using h
  | succ d ih =>
    intro i met h
    unfold pcI at h
    split at h
    · cases h
    · split at h
      · cases h
      · split at h
        · cases h
        · have := ih _ _ h
          rw [List.length_append] at this
          simp at this ⊢
          omega
theorem pcI_all (n : Int) (w : List Int) : ∀ d i met, pcI n w d i met = true → ∀ j : Nat, i ≤ j → j < i + d → rd w (j : Int) ≤ n - 1 := by
  intro d
  induction d with
  | zero => intro i met _ j _ _; omega
  | succ d ih =>
    intro i met h j h1 h2
    unfold pcI at h
    split at h
    · cases h
    · split at h
      · cases h
      · rename_i hx
        rw [mx_self_le] at hx
        split at h
        · cases h
        · by_cases e : j = i
          · subst e; omega
          · exact ih _ _ h j (by omega) (by omega)
theorem halfM_small {n : Int} (h : 2 ≤ n ∧ n ≤ 11) : wrap64 (Int.tdiv (wrap64 (n * wrap64 (n - 1))) 2) = halfM n ∧ 1 ≤ halfM n ∧ halfM n ≤ 55 := by
  obtain ⟨m, rfl⟩ : ∃ m : Nat, n = (m : Int) := ⟨n.toNat, by omega⟩
  have : ∀ m : Nat, m < 12 → 2 ≤ m → wrap64 (Int.tdiv (wrap64 ((m : Int) * wrap64 ((m : Int) - 1))) 2) = halfM (m : Int) ∧ 1 ≤ halfM (m : Int) ∧ halfM (m : Int) ≤ 55 := by decide +kernel
  exact this m (by omega) (by omega)
theorem pairAt_mem {w : List Int} (i : Nat) (hw : 0 < w.length) : pairAt w i ∈ w := by
  unfold pairAt
  rw [List.getD_eq_getElem?_getD, List.getElem?_eq_getElem (Nat.mod_lt _ hw)]
  exact List.getElem_mem _

def IsPairCycleM (n : Int) (w : List Int) : Bool × Bool := if inB n 2 11 && superWordB w = true then (pairB n w, true) else (false, false)
theorem superWordB_iff {w : List Int} : superWordB w = true ↔ w.length ≤ 200 ∧ ∀ x ∈ w, 0 ≤ x ∧ x ≤ 11 := by
  simp only [superWordB, Bool.and_eq_true, decide_eq_true_eq, allB_iff]
  exact and_congr (by omega) Iff.rfl

def pairHit (w : List Int) (a b : Int) (i : Nat) : Bool := (decide (rd w (i : Int) = a) && decide (pairAt w i = b)) || (decide (rd w (i : Int) = b) && decide (pairAt w i = a))
def PairPlaceM (n : Int) (w : List Int) (a b : Int) : Int × Bool := if (inB n 2 11 && superWordB w && pairB n w) = true then ((List.range' 0 w.length).findSome? fun i => if pairHit w a b i = true then some ((i : Int), true) else none).getD (0, false) else (0, false)

theorem impl_within_eq (a lo hi : Int) : impl_within.f a lo hi = some (inB a lo hi) := by
  unfold impl_within.f inB
  by_cases h : a ≥ lo
  · rw [if_pos h]; simp [h]
  · rw [if_neg h]; simp [show ¬ lo ≤ a from h]

theorem impl_allWithin_loop (lo hi : Int) (xs : List Int) (hx : xs.length ≤ 1000000000000) : ∀ (d i : Nat), i + d = xs.length →
    Ev (fun k => impl_allWithin.l0 k lo hi xs (xs.length : Int) (i : Int)) (allB (xs.drop i) lo hi) := by
  intro d
  induction d with
  | zero =>
    intro i h
    rw [List.drop_eq_nil_of_le (by omega)]
    refine Ev.step (f := fun _ => some true) (fun k => ?_) (Ev.now _)
    simp only [impl_allWithin.l0]; rw [if_neg (by omega)]
  | succ d ih =>
    intro i h
    have hlt : i < xs.length := by omega
    rw [drop_rd xs i hlt]
    refine Ev.step (f := fun k => if inB (rd xs (i : Int)) lo hi = true then impl_allWithin.l0 k lo hi xs (xs.length : Int) ((i + 1 : Nat) : Int) else some false) (fun k => ?_) ?_
    · simp only [impl_allWithin.l0]; rw [if_pos (by omega), if_pos (by omega), if_pos (by omega), impl_within_eq, wrap_succ (by omega)]; rfl
    · by_cases hb : inB (rd xs (i : Int)) lo hi = true
      · exact ev_pos hb (ev_to (ih (i + 1) (by omega)) (by simp [allB, hb]))
      · exact ev_neg hb (ev_some (by simp [allB, Bool.eq_false_iff.mpr hb]))
theorem impl_allWithin_ev (lo hi : Int) (xs : List Int) (hx : xs.length ≤ 1000000000000) : Ev (fun k => impl_allWithin.f k xs lo hi) (allB xs lo hi) :=
  impl_allWithin_loop lo hi xs hx xs.length 0 (by omega)

theorem impl_isSuperWord_ev (w : List Int) (hw : w.length ≤ 1048576) : Ev (fun k => impl_isSuperWord.f k w) (superWordB w) := by
  unfold impl_isSuperWord.f superWordB
  exact ev_if (fun h => ev_call (impl_allWithin_ev _ _ _ (by omega)) (ev_some (by rw [decide_eq_true h]; simp))) (fun h => ev_some (by rw [decide_eq_false h]; simp))

theorem impl_isPairCycle_loop (n : Int) (hn : 2 ≤ n ∧ n ≤ 11) (w : List Int) (hw : w.length ≤ 200) : ∀ d i met, i + d = w.length → met.length = i → Ev (fun k => impl_isPairCycle.l0 k n w met (i : Int)) (pcI n w d i met) := by
  intro d
  induction d with
  | zero =>
    intro i met h hm
    refine Ev.step (fun k => by simp only [impl_isPairCycle.l0]; rfl) (ev_neg (by omega) (ev_some ?_))
    rw [(halfM_small hn).1]; rfl
  | succ d ih =>
    intro i met h hm
    have hmod := Nat.mod_lt (i + 1) (show 0 < w.length by omega)
    have ha : impl_isPairCycle.at2 w (i : Int) = (((i + 1) % w.length : Nat) : Int) := by
      unfold impl_isPairCycle.at2
      rw [wrap_succ (by omega), tmod_nat]
    have hb : rd w (((i + 1) % w.length : Nat) : Int) = pairAt w i := by rw [rd_nat]; rfl
    refine Ev.step (fun k => by simp only [impl_isPairCycle.l0]; rfl) ?_
    rw [ha, hb, wrap_succ (by omega)]
    refine ev_pos (by omega) (ev_pos (by omega) (ev_pos (by omega) (ev_pos (by omega) ?_)))
    unfold pcI
    refine ev_if (fun e => ev_some (by rw [if_pos e])) (fun e => ?_)
    rw [if_neg e]
    refine ev_if (fun e => ev_some (by rw [if_pos e])) (fun e => ?_)
    rw [if_neg e]
    refine ev_if (fun e => ev_some ?_) (fun e => ?_)
    · rw [if_pos (show met.contains (pairKey w i) = true from e)]
    · rw [if_neg (show ¬ met.contains (pairKey w i) = true from e)]
      exact ev_pos (by omega) (ih (i + 1) _ (by omega) (by simp [hm]))
theorem impl_isPairCycle_ev (n : Int) (hn : 2 ≤ n ∧ n ≤ 11) (w : List Int) (hw : w.length ≤ 200) (hb : ∀ x ∈ w, 0 ≤ x ∧ x ≤ 11) : Ev (fun k => impl_isPairCycle.f k n w) (pairB n w) := by
  unfold impl_isPairCycle.f
  refine ev_pos (List.all_eq_true.mpr fun x hx => ?_) (impl_isPairCycle_loop n hn w hw w.length 0 [] (by omega) rfl)
  have := hb x hx
  simp only [Lit.wf, IntKind.min, IntKind.max, IntKind.signed, IntKind.bits, Bool.and_eq_true, decide_eq_true_eq, if_true]
  omega

theorem impl_PairPlace_ev (n : Int) (w : List Int) (a b : Int) (hw : w.length ≤ 1048576) : Ev (fun k => impl_PairPlace.f k n w a b) (PairPlaceM n w a b) := by
  have no : (inB n 2 11 && superWordB w && pairB n w) = false → Ev (fun k => impl_PairPlace.j0 k w a b true) (PairPlaceM n w a b) := fun h => by
    unfold PairPlaceM
    rw [h]
    exact Ev.step (fun k => by simp only [impl_PairPlace.j0]; rfl) (ev_pos (by trivial) (Ev.now _))
  unfold impl_PairPlace.f
  refine ev_plain (impl_within_eq _ _ _) (ev_if (fun h1 => ?_) (fun h1 => no (by rw [Bool.eq_false_iff.mpr h1]; rfl)))
  refine ev_call (impl_isSuperWord_ev w hw) (ev_if (fun h2 => ?_) (fun h2 => no (by rw [Bool.eq_false_iff.mpr h2]; simp)))
  have e2 := superWordB_iff.mp h2
  refine ev_call (impl_isPairCycle_ev n (inB_iff.mp h1) w e2.1 e2.2) ?_
  by_cases h3 : pairB n w = true
  · rw [h3]
    refine Ev.step (fun k => by simp only [impl_PairPlace.j0]; rfl) (ev_neg (by simp) ?_)
    unfold PairPlaceM
    rw [h1, h2, h3]
    refine ev_find (fun i k => impl_PairPlace.l0 k w a b w (w.length : Int) (i : Int)) _ w.length _ (fun i hi => ?_) ?_ w.length 0 (by omega)
    · have hpos : 0 < w.length := by omega
      have hmod := Nat.mod_lt (i + 1) hpos
      have g1 : rd w (((i + 1) % w.length : Nat) : Int) = pairAt w i := by rw [rd_nat]; rfl
      have step : ∀ r, (pairHit w a b i = true → Ev (fun _ => some ((i : Int), true)) r) → (¬ pairHit w a b i = true → Ev (fun k => impl_PairPlace.l0 k w a b w (w.length : Int) ((i + 1 : Nat) : Int)) r) → Ev (fun k => impl_PairPlace.l0 k w a b w (w.length : Int) (i : Int)) r := by
        intro r hy hn
        refine Ev.step (fun k => by simp only [impl_PairPlace.l0]; rfl) ?_
        rw [wrap_succ (by omega), tmod_nat, g1]
        unfold pairHit at hy hn
        refine ev_pos (by omega) (ev_pos (by omega) (ev_pos (by omega) (ev_neg (by omega) (ev_pos (by omega) (ev_pos (by omega) ?_)))))
        refine ev_if (fun c1 => ev_if (fun c2 => hy (by simp [c1, c2])) (fun c2 => ev_if (fun c3 => ev_if (fun c4 => hy ?_) (fun c4 => hn ?_)) (fun c3 => hn ?_))) (fun c1 => ev_if (fun c3 => ev_if (fun c4 => hy ?_) (fun c4 => hn ?_)) (fun c3 => hn ?_))
        all_goals simp only [Bool.or_eq_true, Bool.and_eq_true, decide_eq_true_eq]; omega
      refine ⟨fun r h => step r (fun e => ?_) (fun e => ?_), fun h r hk => step r (fun e => ?_) (fun _ => hk)⟩
      · rw [if_pos e] at h; exact ev_some (Option.some.inj h)
      · rw [if_neg e] at h; cases h
      · rw [if_pos e] at h; cases h
    · exact Ev.step (fun k => by simp only [impl_PairPlace.l0]; rfl) (ev_neg (by omega) (Ev.now _))
  · rw [Bool.eq_false_iff.mpr h3]
    exact no (by rw [Bool.eq_false_iff.mpr h3]; simp)

theorem spec_l1In_eq (a lo hi : Int) : spec_l1In.f a lo hi = some (inB a lo hi) := by
  unfold spec_l1In.f inB
  by_cases h : a ≥ lo
  · rw [if_pos h]; simp [h]
  · rw [if_neg h]; simp [show ¬ lo ≤ a from h]

theorem spec_suPairSize_eq (n : Int) : spec_suPairSize.f n = some (inB n 2 11) := by unfold spec_suPairSize.f; rw [spec_l1In_eq]; rfl

theorem spec_l1All_loop (lo hi : Int) (xs : List Int) (hx : xs.length ≤ 1000000000000) : ∀ (d i : Nat), i + d = xs.length →
    Ev (fun k => spec_l1All.l0 k lo hi xs (xs.length : Int) (i : Int)) (allB (xs.drop i) lo hi) := by
  intro d
  induction d with
  | zero =>
    intro i h
    rw [List.drop_eq_nil_of_le (by omega)]
    refine Ev.step (f := fun _ => some true) (fun k => ?_) (Ev.now _)
    simp only [spec_l1All.l0]; rw [if_neg (by omega)]
  | succ d ih =>
    intro i h
    have hlt : i < xs.length := by omega
    rw [drop_rd xs i hlt]
    refine Ev.step (f := fun k => if inB (rd xs (i : Int)) lo hi = true then spec_l1All.l0 k lo hi xs (xs.length : Int) ((i + 1 : Nat) : Int) else some false) (fun k => ?_) ?_
    · simp only [spec_l1All.l0]; rw [if_pos (by omega), if_pos (by omega), if_pos (by omega), spec_l1In_eq, wrap_succ (by omega)]; rfl
    · by_cases hb : inB (rd xs (i : Int)) lo hi = true
      · exact ev_pos hb (ev_to (ih (i + 1) (by omega)) (by simp [allB, hb]))
      · exact ev_neg hb (ev_some (by simp [allB, Bool.eq_false_iff.mpr hb]))
theorem spec_l1All_ev (lo hi : Int) (xs : List Int) (hx : xs.length ≤ 1000000000000) : Ev (fun k => spec_l1All.f k xs lo hi) (allB xs lo hi) :=
  spec_l1All_loop lo hi xs hx xs.length 0 (by omega)

theorem spec_suWord_ev (w : List Int) (hw : w.length ≤ 1048576) : Ev (fun k => spec_suWord.f k w) (superWordB w) := by
  unfold spec_suWord.f superWordB
  exact ev_if (fun h => ev_call (spec_l1All_ev _ _ _ (by omega)) (ev_some (by rw [decide_eq_true h]; simp))) (fun h => ev_some (by rw [decide_eq_false h]; simp))

theorem spec_suRound_loop (w : List Int) (n p : Nat) (hw : 0 < w.length) (hwl : w.length ≤ 1000000000000) (hn : n ≤ 1000000000000) (hp : p ≤ 1000000000000) : ∀ (d i : Nat) (acc : List Int), i + d = n → acc.length = i →
    Ev (fun k => spec_suRound.l0 k w (p : Int) (n : Int) acc (i : Int)) (acc ++ (List.range' i d).map fun j => w.getD ((p + j) % w.length) 0) := by
  intro d
  induction d with
  | zero =>
    intro i acc h ha
    refine Ev.step (f := fun _ => some acc) (fun k => ?_) (ev_some (by simp))
    simp only [spec_suRound.l0]; rw [if_neg (by omega)]
  | succ d ih =>
    intro i acc h ha
    refine Ev.step (f := fun k => spec_suRound.l0 k w (p : Int) (n : Int) (acc ++ [w.getD ((p + i) % w.length) 0]) ((i + 1 : Nat) : Int)) (fun k => ?_) (ev_to (ih (i + 1) _ (by omega) (by simp [ha])) ?_)
    · simp only [spec_suRound.l0]
      rw [if_pos (by omega), if_neg (by omega), wrap_id (x := (p : Int) + (i : Int)) (by omega), show (p : Int) + (i : Int) = ((p + i : Nat) : Int) by omega, tmod_nat, wrap_succ (by omega)]
      have hm := Nat.mod_lt (p + i) hw
      rw [if_pos (by omega), if_pos (by omega), if_pos (by omega), rd_nat]
    · simp [List.range'_succ]
theorem spec_suRound_ev (w : List Int) (n p : Nat) (hw : 0 < w.length) (hwl : w.length ≤ 1000000000000) (hn : n ≤ 1000000000000) (hp : p ≤ 1000000000000) : Ev (fun k => spec_suRound.f k w (p : Int) (n : Int)) (win w p n) :=
  ev_to (spec_suRound_loop w n p hw hwl hn hp n 0 [] (by omega) rfl) (by simp [win])

theorem grid_inj {n p q p' q' : Nat} (hq : q < n) (hq' : q' < n) (h : p * n + q = p' * n + q') : p = p' ∧ q = q' := by
  have h1 : (p * n + q) / n = p := by rw [Nat.mul_comm, Nat.mul_add_div (by omega), Nat.div_eq_of_lt hq]; rfl
  have h2 : (p' * n + q') / n = p' := by rw [Nat.mul_comm, Nat.mul_add_div (by omega), Nat.div_eq_of_lt hq']; rfl
  have h3 : p = p' := by rw [← h1, ← h2, h]
  subst h3
  exact ⟨rfl, by omega⟩
theorem grid_lt {n p q : Nat} (hp : p < n) (hq : q < n) : p * n + q < n * n := by
  have := Nat.mul_le_mul_right n (show p + 1 ≤ n by omega)
  rw [Nat.add_mul] at this
  omega
def seenOk (n : Nat) (seen : List Bool) (met : List (Int × Int)) : Prop := seen.length = n * n ∧ ∀ p q : Nat, p < n → q < n → rdOf false seen ((p * n + q : Nat) : Int) = met.contains (mn (p : Int) (q : Int), mx (p : Int) (q : Int))
theorem mn_comm (a b : Int) : mn a b = mn b a := by unfold mn; split <;> split <;> omega
theorem mx_comm (a b : Int) : mx a b = mx b a := by unfold mx; split <;> split <;> omega
theorem mnmx {a b c d : Int} (h1 : mn a b = mn c d) (h2 : mx a b = mx c d) : (a = c ∧ b = d) ∨ (a = d ∧ b = c) := by
  unfold mn at h1
  unfold mx at h2
  split at h1 <;> split at h2 <;> split at h1 <;> split at h2 <;> omega
theorem rd_set2 (l : List Bool) (a b i : Nat) (ha : a < l.length) (hb : b < l.length) : rdOf false ((l.set a true).set b true) (i : Int) = (decide (i = a) || (decide (i = b) || rdOf false l (i : Int))) := by
  simp only [rdOf, Int.toNat_natCast, List.getD_eq_getElem?_getD, List.getElem?_set, List.length_set]
  by_cases h1 : b = i
  · subst h1; simp [hb]
  · by_cases h2 : a = i
    · subst h2; simp [h1, ha]
    · have h3 : ¬ i = a := fun e => h2 e.symm
      have h4 : ¬ i = b := fun e => h1 e.symm
      simp [h1, h2, h3, h4]
theorem seenOk_put {n : Nat} {seen : List Bool} {met : List (Int × Int)} (h : seenOk n seen met) {p q : Nat} (hp : p < n) (hq : q < n) :
    seenOk n ((seen.set (p * n + q) true).set (q * n + p) true) (met ++ [(mn (p : Int) (q : Int), mx (p : Int) (q : Int))]) := by
  refine ⟨by simpa using h.1, fun p' q' hp' hq' => ?_⟩
  rw [rd_set2 _ _ _ _ (by rw [h.1]; exact grid_lt hp hq) (by rw [h.1]; exact grid_lt hq hp), h.2 p' q' hp' hq']
  rw [Bool.eq_iff_iff]
  simp only [Bool.or_eq_true, decide_eq_true_eq, List.contains_iff_mem, List.mem_append, List.mem_singleton, Prod.mk.injEq]
  constructor
  · rintro (e | e | e)
    · obtain ⟨rfl, rfl⟩ := grid_inj hq' hq e
      exact .inr ⟨rfl, rfl⟩
    · obtain ⟨rfl, rfl⟩ := grid_inj hq' hp e
      exact .inr ⟨mn_comm _ _, mx_comm _ _⟩
    · exact .inl e
  · rintro (e | ⟨e1, e2⟩)
    · exact .inr (.inr e)
    · rcases mnmx e1 e2 with ⟨h1, h2⟩ | ⟨h1, h2⟩
      · have : p' = p := by omega
        have : q' = q := by omega
        subst p' q'
        exact .inl rfl
      · have : p' = q := by omega
        have : q' = p := by omega
        subst p' q'
        exact .inr (.inl rfl)
theorem spec_suPairs_loop (n : Nat) (hn : 2 ≤ n ∧ n ≤ 11) (w : List Int) (hw : w.length ≤ 200) (hb : ∀ x ∈ w, 0 ≤ x ∧ x ≤ (n : Int) - 1) (hl : (w.length : Int) = halfM (n : Int)) :
    ∀ d i met seen, i + d = w.length → met.length = i → seenOk n seen met → Ev (fun k => spec_suPairs.l0 k (n : Int) w seen (w.length : Int) (i : Int)) (pcI (n : Int) w d i met) := by
  intro d
  induction d with
  | zero =>
    intro i met seen h hm hs
    refine Ev.step (fun k => by simp only [spec_suPairs.l0]; rfl) (ev_neg (by omega) (ev_some ?_))
    unfold pcI
    exact (beq_iff_eq.mpr (by omega)).symm
  | succ d ih =>
    intro i met seen h hm hs
    have hpos : 0 < w.length := by omega
    have h0 : rd (win w i 2) 0 = rd w (i : Int) := by
      rw [show (0 : Int) = ((0 : Nat) : Int) from rfl, rd_nat, win_get _ _ _ _ (by omega), rd_nat, Nat.add_zero, Nat.mod_eq_of_lt (by omega)]
    have h1 : rd (win w i 2) 1 = pairAt w i := by
      rw [show (1 : Int) = ((1 : Nat) : Int) from rfl, rd_nat, win_get _ _ _ _ (by omega)]; rfl
    have hp := hb (rd w (i : Int)) (by rw [rd_get w i (by omega)]; exact List.getElem_mem _)
    have hq := hb (pairAt w i) (pairAt_mem i hpos)
    refine Ev.step (fun k => by simp only [spec_suPairs.l0]; rfl) ?_
    refine ev_pos (by omega) (ev_call (spec_suRound_ev w 2 i hpos (by omega) (by omega) (by omega)) ?_)
    rw [win_length, h0, h1]
    refine ev_pos (by omega) (ev_pos (by omega) ?_)
    unfold pcI
    refine ev_if (fun e => ev_some (by rw [if_pos e])) (fun e => ?_)
    rw [if_neg e, if_neg (by rw [mx_self_le]; omega)]
    have hkey : pairKey w i = (mn (rd w (i : Int)) (pairAt w i), mx (rd w (i : Int)) (pairAt w i)) := rfl
    rw [hkey]
    obtain ⟨p, hp2⟩ : ∃ p : Nat, rd w (i : Int) = p := ⟨(rd w (i : Int)).toNat, by omega⟩
    obtain ⟨q, hq2⟩ : ∃ q : Nat, pairAt w i = q := ⟨(pairAt w i).toNat, by omega⟩
    rw [hp2] at hp
    rw [hq2] at hq
    rw [hp2, hq2]
    have hpn : p < n := by omega
    have hqn : q < n := by omega
    have g1 := grid_lt hpn hqn
    have g2 := grid_lt hqn hpn
    have hnn : n * n ≤ 11 * 11 := Nat.mul_le_mul hn.2 hn.2
    have m1 : p * n ≤ 11 * 11 := Nat.mul_le_mul (by omega) hn.2
    have m2 : q * n ≤ 11 * 11 := Nat.mul_le_mul (by omega) hn.2
    rw [show (p : Int) * (n : Int) = ((p * n : Nat) : Int) by simp, show (q : Int) * (n : Int) = ((q * n : Nat) : Int) by simp, wrap_id (x := ((p * n : Nat) : Int)) (by omega), wrap_id (x := ((q * n : Nat) : Int)) (by omega),
      show ((p * n : Nat) : Int) + (q : Int) = ((p * n + q : Nat) : Int) by omega, show ((q * n : Nat) : Int) + (p : Int) = ((q * n + p : Nat) : Int) by omega, wrap_id (x := ((p * n + q : Nat) : Int)) (by omega), wrap_id (x := ((q * n + p : Nat) : Int)) (by omega)]
    refine ev_pos (by omega) (ev_pos (by rw [hs.1]; omega) ?_)
    rw [hs.2 p q hpn hqn, Int.toNat_natCast, Int.toNat_natCast, wrap_succ (by omega)]
    refine ev_if (fun e => ev_some (by rw [if_pos e])) (fun e => ?_)
    rw [if_neg e]
    exact ev_pos (by omega) (ev_pos (by rw [hs.1]; omega) (ih (i + 1) _ _ (by omega) (by simp [hm]) (seenOk_put hs hpn hqn)))
theorem spec_suPairs_ev (n : Int) (hn : 2 ≤ n ∧ n ≤ 11) (w : List Int) (hw : w.length ≤ 200) (hb : ∀ x ∈ w, 0 ≤ x ∧ x ≤ 11) : Ev (fun k => spec_suPairs.f k n w) (pairB n w) := by
  obtain ⟨m, rfl⟩ : ∃ m : Nat, n = (m : Int) := ⟨n.toNat, by omega⟩
  have no : pairB (m : Int) w = false → Ev (fun k => spec_suPairs.j0 k (m : Int) w true) (pairB (m : Int) w) := fun h => by
    rw [h]
    exact Ev.step (fun k => by simp only [spec_suPairs.j0]; rfl) (ev_pos (by trivial) (Ev.now _))
  unfold spec_suPairs.f
  rw [(halfM_small hn).1, wrap_id (x := (m : Int) - 1) (by omega)]
  refine ev_if (fun hl => ?_) (fun hl => no ?_)
  · refine ev_call (spec_l1All_ev _ _ w (by omega)) ?_
    by_cases ha : allB w 0 ((m : Int) - 1) = true
    · rw [ha]
      have hm : m * m ≤ 11 * 11 := Nat.mul_le_mul (by omega) (by omega)
      refine Ev.step (fun k => by simp only [spec_suPairs.j0]; rfl) ?_
      rw [show (m : Int) * (m : Int) = ((m * m : Nat) : Int) by simp, wrap_id (x := ((m * m : Nat) : Int)) (by omega), Int.toNat_natCast]
      refine ev_neg (by simp) ?_
      refine ev_pos (by omega) (ev_pos (by omega) ?_)
      refine spec_suPairs_loop m (by omega) w hw (allB_iff.mp ha) hl w.length 0 [] _ (by omega) rfl ⟨by simp, fun p q hp hq => ?_⟩
      simp [rdOf, List.getD_eq_getElem?_getD, List.getElem?_replicate]
      split <;> rfl
    · have hf := Bool.eq_false_iff.mpr ha
      rw [hf]
      refine no (Bool.eq_false_iff.mpr fun ht => ha (allB_iff.mpr fun x hx => ?_))
      obtain ⟨j, hj, rfl⟩ := List.getElem_of_mem hx
      have := pcI_all (m : Int) w w.length 0 [] ht j (by omega) (by omega)
      rw [rd_get w j hj] at this
      exact ⟨(hb _ hx).1, this⟩
  · refine Bool.eq_false_iff.mpr fun ht => hl ?_
    have := pcI_len (m : Int) w w.length 0 [] ht
    simpa using this

theorem spec_PairPlace_ev (n : Int) (w : List Int) (a b : Int) (hw : w.length ≤ 1048576) : Ev (fun k => spec_PairPlace.f k n w a b) (PairPlaceM n w a b) := by
  have no : (inB n 2 11 && superWordB w && pairB n w) = false → Ev (fun k => spec_PairPlace.j0 k w a b true) (PairPlaceM n w a b) := fun h => by
    unfold PairPlaceM
    rw [h]
    exact Ev.step (fun k => by simp only [spec_PairPlace.j0]; rfl) (ev_pos (by trivial) (Ev.now _))
  unfold spec_PairPlace.f
  refine ev_plain (spec_suPairSize_eq _) (ev_if (fun h1 => ?_) (fun h1 => no (by rw [Bool.eq_false_iff.mpr h1]; rfl)))
  refine ev_call (spec_suWord_ev w hw) (ev_if (fun h2 => ?_) (fun h2 => no (by rw [Bool.eq_false_iff.mpr h2]; simp)))
  have e2 := superWordB_iff.mp h2
  refine ev_call (spec_suPairs_ev n (inB_iff.mp h1) w e2.1 e2.2) ?_
  by_cases h3 : pairB n w = true
  · rw [h3]
    refine Ev.step (fun k => by simp only [spec_PairPlace.j0]; rfl) (ev_neg (by simp) ?_)
    unfold PairPlaceM
    rw [h1, h2, h3]
    refine ev_find (fun i k => spec_PairPlace.l0 k w a b (w.length : Int) (i : Int)) _ w.length _ (fun i hi => ?_) ?_ w.length 0 (by omega)
    · have hpos : 0 < w.length := by omega
      have g0 : rd (win w i 2) 0 = rd w (i : Int) := by
        rw [show (0 : Int) = ((0 : Nat) : Int) from rfl, rd_nat, win_get _ _ _ _ (by omega), rd_nat, Nat.add_zero, Nat.mod_eq_of_lt (by omega)]
      have g1 : rd (win w i 2) 1 = pairAt w i := by
        rw [show (1 : Int) = ((1 : Nat) : Int) from rfl, rd_nat, win_get _ _ _ _ (by omega)]; rfl
      have step : ∀ r, (pairHit w a b i = true → Ev (fun _ => some ((i : Int), true)) r) → (¬ pairHit w a b i = true → Ev (fun k => spec_PairPlace.l0 k w a b (w.length : Int) ((i + 1 : Nat) : Int)) r) → Ev (fun k => spec_PairPlace.l0 k w a b (w.length : Int) (i : Int)) r := by
        intro r hy hn
        refine Ev.step (fun k => by simp only [spec_PairPlace.l0]; rfl) ?_
        refine ev_pos (by omega) (ev_call (spec_suRound_ev w 2 i hpos (by omega) (by omega) (by omega)) ?_)
        rw [win_length, g0, g1, wrap_succ (by omega)]
        unfold pairHit at hy hn
        refine ev_pos (by omega) (ev_if (fun c1 => ev_pos (by omega) (ev_if (fun c2 => hy (by simp [c1, c2])) (fun c2 => ev_if (fun c3 => ev_if (fun c4 => hy ?_) (fun c4 => hn ?_)) (fun c3 => hn ?_)))) (fun c1 => ev_if (fun c3 => ev_pos (by omega) (ev_if (fun c4 => hy ?_) (fun c4 => hn ?_))) (fun c3 => hn ?_)))
        all_goals simp only [Bool.or_eq_true, Bool.and_eq_true, decide_eq_true_eq]; omega
      refine ⟨fun r h => step r (fun e => ?_) (fun e => ?_), fun h r hk => step r (fun e => ?_) (fun _ => hk)⟩
      · rw [if_pos e] at h; exact ev_some (Option.some.inj h)
      · rw [if_neg e] at h; cases h
      · rw [if_pos e] at h; cases h
    · exact Ev.step (fun k => by simp only [spec_PairPlace.l0]; rfl) (ev_neg (by omega) (Ev.now _))
  · rw [Bool.eq_false_iff.mpr h3]
    exact no (by rw [Bool.eq_false_iff.mpr h3]; simp)

theorem laws_toIntS_loop (l : List Int) (hl : l.length ≤ 35184372088832) : ∀ (d i : Nat) (ys : List Int), i + d = l.length → ys.length = l.length → ys.take i = l.take i →
    Ev (fun k => laws_toIntS.l0 k l ys (i : Int)) l := by
  intro d
  induction d with
  | zero =>
    intro i ys h1 h2 h3
    refine Ev.step (f := fun _ => some ys) (fun k => ?_) (ev_some ?_)
    · simp only [laws_toIntS.l0]; rw [if_neg (by omega)]
    · rw [List.take_of_length_le (by omega), List.take_of_length_le (by omega)] at h3
      exact h3
  | succ d ih =>
    intro i ys h1 h2 h3
    have hi : i < l.length := by omega
    refine Ev.step (f := fun k => laws_toIntS.l0 k l (ys.set i (rd l (i : Int))) ((i + 1 : Nat) : Int)) (fun k => ?_) (ih (i + 1) _ (by omega) (by simp [h2]) ?_)
    · simp only [laws_toIntS.l0]; rw [if_pos (by omega), if_pos (by omega), if_pos (by omega), wrap_succ (by omega), Int.toNat_natCast]
    · rw [take_rd l i hi, List.take_succ_eq_append_getElem (by simp; omega)]
      rw [List.take_set, h3, List.set_eq_of_length_le (by simp; omega)]; simp
theorem laws_toIntS_ev (l : List Int) (hl : l.length ≤ 35184372088832) : Ev (fun k => laws_toIntS.f k l) l := by
  unfold laws_toIntS.f
  refine ev_pos (by omega) (ev_pos (by omega) ?_)
  exact laws_toIntS_loop l hl l.length 0 _ (by omega) (by simp) rfl

theorem laws_eqIntS_loop (l : List Int) (hl : l.length ≤ 35184372088832) : ∀ (d i : Nat), i + d = l.length → Ev (fun k => laws_eqIntS.l0 k l l (i : Int)) true := by
  intro d
  induction d with
  | zero =>
    intro i h
    refine Ev.step (f := fun _ => some true) (fun k => ?_) (Ev.now _)
    simp only [laws_eqIntS.l0]; rw [if_neg (by omega)]
  | succ d ih =>
    intro i h
    refine Ev.step (f := fun k => laws_eqIntS.l0 k l l ((i + 1 : Nat) : Int)) (fun k => ?_) (ih (i + 1) (by omega))
    simp only [laws_eqIntS.l0]; rw [if_pos (by omega), if_pos (by omega), if_pos (by omega), if_pos trivial, wrap_succ (by omega)]
theorem laws_eqIntS_ev (l : List Int) (hl : l.length ≤ 35184372088832) : Ev (fun k => laws_eqIntS.f k l l) true := by
  unfold laws_eqIntS.f
  exact ev_pos rfl (laws_eqIntS_loop l hl l.length 0 (by omega))

theorem FnExactPairPlace : laws_FnExactPairPlace.Pure := by
  intro n l a b h_n h_l1 h_l2 h_l3 h_a h_b
  refine Ev.rounds (r := true) ?_
  unfold laws_FnExactPairPlace.f
  have hw_n := wf_in h_n
  refine ev_if (fun _ => Ev.now _) (fun hb_l => ?_)
  have hl_l : l.length ≤ 1048576 := by omega
  clear h_l1 h_l2 hb_l
  have hw_a := wf_in h_a
  have hw_b := wf_in h_b
  have I_ := impl_PairPlace_ev n l a b (by omega)
  have S_ := spec_PairPlace_ev n l a b (by omega)
  generalize PairPlaceM n l a b = m_ at I_ S_
  obtain ⟨r_, b_⟩ := m_
  repeat (first
    | exact Ev.now _
    | refine ev_call (laws_toIntS_ev l (by omega)) ?_
    | (refine ev_call S_ ?_; try dsimp only)
    | (refine ev_call I_ ?_; try dsimp only)
    | refine ev_call (laws_eqIntS_ev _ (by first | assumption | omega)) ?_
    | refine ev_pos rfl ?_
    | refine ev_neg (bne_no _) ?_
    | refine ev_neg (by omega) ?_
    | refine Ev.step (fun k => by simp only [laws_FnExactPairPlace.j0]; rfl) ?_)

end Go.Proofs.Ytdhmdlecagjohaa.Pure
