/- The pure statement of SafeLength: program and reference answer alike, for all arguments; no condition. -/
import Derived.Test.YtdhmdlecagjohaaPFnExactSafeLengthx3
import Derived.Test.YtdhmdlecagjohaaBase
namespace Go.Proofs.Ytdhmdlecagjohaa.Pure
open Go.RowKit Go.Proofs.Ytdhmdlecagjohaa.PFnExactSafeLength Go.Proofs.YtdhmdlecagjohaaW.PrintWords Go.Proofs.YtdhmdlecagjohaaW.PrintLast Go.Proofs.Ytdhmdlecagjohaa.Base
set_option maxRecDepth 10000

def tapeB (w : List Int) (least : Int) : Bool := cycleB w 6 && inB (w.length : Int) least 64
def SpreadOfM (w : List Int) (n : Int) : Int × Bool := if tapeB w 2 = true ∧ (1 ≤ n ∧ n ≤ 64) then ((spreadM w n.toNat : Nat), true) else (0, false)
def SafeLengthM (w : List Int) : Int × Bool := if tapeB w 2 = true then ((List.range' 0 64).findSome? fun i => if 3 ≤ spreadM w (i + 1) then some (((i + 1 : Nat) : Int), true) else none).getD (0, false) else (0, false)

theorem impl_within_eq (a lo hi : Int) : impl_within.f a lo hi = some (inB a lo hi) := by
  unfold impl_within.f inB
  by_cases h : a ≥ lo
  · rw [if_pos h]; simp [h]
  · rw [if_neg h]; simp [show ¬ lo ≤ a from h]

theorem impl_allWithin_loop (lo hi : Int) (xs : List Int) (hx : xs.length ≤ 1000000000000) : ∀ (d i : Nat), i + d = xs.length →
    Ev (fun k => impl_allWithin.l0 k lo hi xs (xs.length : Int) (i : Int)) (allB (xs.drop i) lo hi) := by
  intro d
  induction d with
  | zero =>
    intro i h
    rw [List.drop_eq_nil_of_le (by omega)]
    refine Ev.step (f := fun _ => some true) (fun k => ?_) (Ev.now _)
    simp only [impl_allWithin.l0]; rw [if_neg (by omega)]
  | succ d ih =>
    intro i h
    have hlt : i < xs.length := by omega
    rw [drop_rd xs i hlt]
    refine Ev.step (f := fun k => if inB (rd xs (i : Int)) lo hi = true then impl_allWithin.l0 k lo hi xs (xs.length : Int) ((i + 1 : Nat) : Int) else some false) (fun k => ?_) ?_
    · simp only [impl_allWithin.l0]; rw [if_pos (by omega), if_pos (by omega), if_pos (by omega), impl_within_eq, wrap_succ (by omega)]; rfl
    · by_cases hb : inB (rd xs (i : Int)) lo hi = true
      · exact ev_pos hb (ev_to (ih (i + 1) (by omega)) (by simp [allB, hb]))
      · exact ev_neg hb (ev_some (by simp [allB, Bool.eq_false_iff.mpr hb]))
theorem impl_allWithin_ev (lo hi : Int) (xs : List Int) (hx : xs.length ≤ 1000000000000) : Ev (fun k => impl_allWithin.f k xs lo hi) (allB xs lo hi) :=
  impl_allWithin_loop lo hi xs hx xs.length 0 (by omega)

theorem impl_IsCycle_ev (xs : List Int) (k : Int) (hx : xs.length ≤ 1000000000000) (hk : -9223372036854775808 ≤ k) (hk2 : k ≤ 9223372036854775807) : Ev (fun n => impl_IsCycle.f n xs k) (cycleB xs k) := by
  unfold impl_IsCycle.f cycleB
  refine ev_plain (impl_within_eq _ _ _) ?_
  refine ev_if (fun h => ?_) (fun h => ev_some (by simp [Bool.eq_false_iff.mpr h]))
  refine ev_plain (impl_within_eq _ _ _) ?_
  refine ev_if (fun h2 => ?_) (fun h2 => ev_some (by simp [Bool.eq_false_iff.mpr h2]))
  have h' := inB_iff.mp h
  rw [wrap_id (by omega)]
  exact ev_call (impl_allWithin_ev _ _ _ hx) (ev_some (by simp [h, h2]))

theorem impl_isCycle_ev (xs : List Int) (hx : xs.length ≤ 1000000000000) : Ev (fun n => impl_isCycle.f n xs) (cycleB xs 6) := by
  unfold impl_isCycle.f
  exact ev_call (impl_IsCycle_ev _ _ hx (by omega) (by omega)) (ev_some rfl)

theorem impl_isTape_ev (w : List Int) (least : Int) (hw : w.length ≤ 1048576) : Ev (fun k => impl_isTape.f k w least) (tapeB w least) := by
  unfold impl_isTape.f tapeB
  refine ev_call (impl_isCycle_ev _ (by omega)) (ev_if (fun h1 => ev_plain (impl_within_eq _ _ _) (ev_some (by simp [h1]))) (fun h1 => ev_some (by simp [Bool.eq_false_iff.mpr h1])))

theorem impl_window_loop (w : List Int) (n p : Nat) (hw : 0 < w.length) (hwl : w.length ≤ 1000000000000) (hn : n ≤ 1000000000000) (hp : p ≤ 1000000000000) : ∀ (d i : Nat) (acc : List Int), i + d = n → acc.length = i →
    Ev (fun k => impl_window.l0 k w (p : Int) acc (n : Int) (i : Int)) (acc ++ (List.range' i d).map fun j => w.getD ((p + j) % w.length) 0) := by
  intro d
  induction d with
  | zero =>
    intro i acc h ha
    refine Ev.step (f := fun _ => some acc) (fun k => ?_) (ev_some (by simp))
    simp only [impl_window.l0]; rw [if_neg (by omega)]
  | succ d ih =>
    intro i acc h ha
    refine Ev.step (f := fun k => impl_window.l0 k w (p : Int) (acc ++ [w.getD ((p + i) % w.length) 0]) (n : Int) ((i + 1 : Nat) : Int)) (fun k => ?_) (ev_to (ih (i + 1) _ (by omega) (by simp [ha])) ?_)
    · simp only [impl_window.l0]
      rw [if_pos (by omega), if_neg (by omega), wrap_id (x := (p : Int) + (i : Int)) (by omega), show (p : Int) + (i : Int) = ((p + i : Nat) : Int) by omega, tmod_nat, wrap_succ (by omega)]
      have hm := Nat.mod_lt (p + i) hw
      rw [if_pos (by omega), if_pos (by omega), if_pos (by omega), rd_nat]
    · simp [List.range'_succ]
theorem impl_window_ev (w : List Int) (n p : Nat) (hw : 0 < w.length) (hwl : w.length ≤ 1000000000000) (hn : n ≤ 1000000000000) (hp : p ≤ 1000000000000) : Ev (fun k => impl_window.f k w (n : Int) (p : Int)) (win w p n) :=
  ev_to (impl_window_loop w n p hw hwl hn hp n 0 [] (by omega) rfl) (by simp [win])

theorem impl_apart_ev (a b : List Int) (hab : a.length ≤ b.length) (ha : a.length ≤ 1000000000000) :
    Ev (fun k => impl_apart.f k a b) ((far (fun j => a.getD j 0) (fun j => b.getD j 0) a.length : Nat) : Int) := by
  unfold impl_apart.f
  refine ev_iter (fun (c : Nat) i k => impl_apart.l0 k b (c : Int) a (a.length : Int) (i : Int)) (fun c j => if a.getD j 0 = b.getD j 0 then c else c + 1) (fun i c => c ≤ i) a.length ?_ a.length 0 0 (by omega) (by omega) ?_
  · intro c i hi hI
    refine ⟨by split <;> omega, fun r k => ?_⟩
    refine Ev.step (fun k => by simp only [impl_apart.l0]; rfl) ?_
    refine ev_pos (by omega) (ev_pos (by omega) (ev_pos (by omega) (ev_pos (by omega) ?_)))
    rw [wrap_succ (by omega), rd_nat, rd_nat]
    refine ev_if (fun e => ?_) (fun e => ?_)
    · rw [if_pos e] at k; exact k
    · rw [wrap_succ (by omega)]
      rw [if_neg e] at k; exact k
  · intro _
    refine Ev.step (fun k => by simp only [impl_apart.l0]; rfl) (ev_neg (by omega) (Ev.now _))

theorem impl_spread_in (w : List Int) (n i m : Nat) (r : Int) (hw : 0 < w.length) (hwl : w.length ≤ 1000000) (hn : n ≤ 1000000) (hi : i < w.length)
    (k : Ev (fun k => impl_spread.l0 k w (n : Int) ((spreadIn w n i m : Nat) : Int) (w.length : Int) ((i + 1 : Nat) : Int)) r) :
    Ev (fun k => impl_spread.l1 k w (n : Int) (m : Int) (i : Int) (w.length : Int) (i : Int) (i : Int) 0) r := by
  refine ev_iter (fun (m : Nat) j k => impl_spread.l1 k w (n : Int) (m : Int) (i : Int) (w.length : Int) (i : Int) (i : Int) (j : Int)) (fun m j => min m (farW w n i j)) (fun _ _ => True) i ?_ i 0 m (by omega) trivial ?_
  · intro m j hj _
    refine ⟨trivial, fun r k => ?_⟩
    refine Ev.step (fun k => by simp only [impl_spread.l1]; rfl) ?_
    refine ev_pos (by omega) ?_
    refine ev_call (impl_window_ev w n i hw (by omega) (by omega) (by omega)) (ev_call (impl_window_ev w n j hw (by omega) (by omega) (by omega)) (ev_call (impl_apart_ev _ _ (by simp [win_length]) (by rw [win_length]; omega)) ?_))
    rw [wrap_succ (by omega)]
    have e : far (fun q => (win w i n).getD q 0) (fun q => (win w j n).getD q 0) (win w i n).length = farW w n i j := by
      rw [win_length]
      exact far_congr (fun q hq => ⟨win_get _ _ _ _ hq, win_get _ _ _ _ hq⟩)
    rw [e, show mn (m : Int) (farW w n i j : Int) = ((min m (farW w n i j) : Nat) : Int) by unfold mn; omega]
    exact k
  · intro _
    exact Ev.step (fun k => by simp only [impl_spread.l1]; rfl) (ev_neg (by omega) (by rw [wrap_succ (by omega)]; exact k))
theorem impl_spread_ev (w : List Int) (n : Nat) (hw : 0 < w.length) (hwl : w.length ≤ 1000000) (hn : n ≤ 1000000) : Ev (fun k => impl_spread.f k w (n : Int)) ((spreadM w n : Nat) : Int) := by
  unfold impl_spread.f
  refine ev_iter (fun (m : Nat) i k => impl_spread.l0 k w (n : Int) (m : Int) (w.length : Int) (i : Int)) (fun m i => spreadIn w n i m) (fun _ _ => True) w.length ?_ w.length 0 n (by omega) trivial ?_
  · intro m i hi _
    refine ⟨trivial, fun r k => ?_⟩
    refine Ev.step (fun k => by simp only [impl_spread.l0]; rfl) (ev_pos (by omega) ?_)
    exact impl_spread_in w n i m r hw hwl hn hi k
  · intro _
    exact Ev.step (fun k => by simp only [impl_spread.l0]; rfl) (ev_neg (by omega) (Ev.now _))

theorem impl_SafeLength_ev (w : List Int) (hw : w.length ≤ 1048576) : Ev (fun k => impl_SafeLength.f k w) (SafeLengthM w) := by
  unfold impl_SafeLength.f SafeLengthM
  refine ev_call (impl_isTape_ev w 2 hw) (ev_if (fun h1 => ?_) (fun h1 => ev_some ?_))
  · rw [if_pos h1]
    have hc := cycleB_iff.mp (by simpa [tapeB] using (show tapeB w 2 = true from h1) : cycleB w 6 = true ∧ _).1
    refine ev_find (fun i k => impl_SafeLength.l0 k w ((i + 1 : Nat) : Int)) _ 64 (0, false) ?_ ?_ 64 0 (by omega)
    · intro i hi
      refine ⟨fun r hr => ?_, fun hr r k => ?_⟩
      · refine Ev.step (fun k => by simp only [impl_SafeLength.l0]; rfl) (ev_pos (by omega) (ev_call (impl_spread_ev w (i + 1) (by omega) (by omega) (by omega)) ?_))
        by_cases hs : 3 ≤ spreadM w (i + 1)
        · exact ev_pos (by omega) (ev_some (by simpa [hs] using hr))
        · simp [hs] at hr
      · refine Ev.step (fun k => by simp only [impl_SafeLength.l0]; rfl) (ev_pos (by omega) (ev_call (impl_spread_ev w (i + 1) (by omega) (by omega) (by omega)) ?_))
        by_cases hs : 3 ≤ spreadM w (i + 1)
        · simp [hs] at hr
        · refine ev_neg (by omega) ?_
          rw [wrap_succ (by omega)]
          exact k
    · exact Ev.step (fun k => by simp only [impl_SafeLength.l0]; rfl) (ev_neg (by omega) (Ev.now _))
  · rw [if_neg h1]

theorem spec_l1In_eq (a lo hi : Int) : spec_l1In.f a lo hi = some (inB a lo hi) := by
  unfold spec_l1In.f inB
  by_cases h : a ≥ lo
  · rw [if_pos h]; simp [h]
  · rw [if_neg h]; simp [show ¬ lo ≤ a from h]

theorem spec_l1All_loop (lo hi : Int) (xs : List Int) (hx : xs.length ≤ 1000000000000) : ∀ (d i : Nat), i + d = xs.length →
    Ev (fun k => spec_l1All.l0 k lo hi xs (xs.length : Int) (i : Int)) (allB (xs.drop i) lo hi) := by
  intro d
  induction d with
  | zero =>
    intro i h
    rw [List.drop_eq_nil_of_le (by omega)]
    refine Ev.step (f := fun _ => some true) (fun k => ?_) (Ev.now _)
    simp only [spec_l1All.l0]; rw [if_neg (by omega)]
  | succ d ih =>
    intro i h
    have hlt : i < xs.length := by omega
    rw [drop_rd xs i hlt]
    refine Ev.step (f := fun k => if inB (rd xs (i : Int)) lo hi = true then spec_l1All.l0 k lo hi xs (xs.length : Int) ((i + 1 : Nat) : Int) else some false) (fun k => ?_) ?_
    · simp only [spec_l1All.l0]; rw [if_pos (by omega), if_pos (by omega), if_pos (by omega), spec_l1In_eq, wrap_succ (by omega)]; rfl
    · by_cases hb : inB (rd xs (i : Int)) lo hi = true
      · exact ev_pos hb (ev_to (ih (i + 1) (by omega)) (by simp [allB, hb]))
      · exact ev_neg hb (ev_some (by simp [allB, Bool.eq_false_iff.mpr hb]))
theorem spec_l1All_ev (lo hi : Int) (xs : List Int) (hx : xs.length ≤ 1000000000000) : Ev (fun k => spec_l1All.f k xs lo hi) (allB xs lo hi) :=
  spec_l1All_loop lo hi xs hx xs.length 0 (by omega)

theorem spec_brCycle_ev (xs : List Int) (k : Int) (hx : xs.length ≤ 1000000000000) (hk : -9223372036854775808 ≤ k) (hk2 : k ≤ 9223372036854775807) : Ev (fun n => spec_brCycle.f n xs k) (cycleB xs k) := by
  unfold spec_brCycle.f cycleB
  refine ev_plain (spec_l1In_eq _ _ _) ?_
  refine ev_if (fun h => ?_) (fun h => ev_some (by simp [Bool.eq_false_iff.mpr h]))
  refine ev_plain (spec_l1In_eq _ _ _) ?_
  refine ev_if (fun h2 => ?_) (fun h2 => ev_some (by simp [Bool.eq_false_iff.mpr h2]))
  have h' := inB_iff.mp h
  rw [wrap_id (by omega)]
  exact ev_call (spec_l1All_ev _ _ _ hx) (ev_some (by simp [h, h2]))

theorem spec_brTape_ev (w : List Int) (least : Int) (hw : w.length ≤ 1048576) : Ev (fun k => spec_brTape.f k w least) (tapeB w least) := by
  unfold spec_brTape.f tapeB
  refine ev_call (spec_brCycle_ev _ _ (by omega) (by omega) (by omega)) (ev_if (fun h1 => ev_plain (spec_l1In_eq _ _ _) (ev_some (by simp [h1]))) (fun h1 => ev_some (by simp [Bool.eq_false_iff.mpr h1])))

theorem spec_brFar_ev (w : List Int) (n a b : Nat) (hw : 0 < w.length) (hwl : w.length ≤ 1000000000000) (hn : n ≤ 1000000000000) (ha : a ≤ 1000000000000) (hb : b ≤ 1000000000000) :
    Ev (fun k => spec_brFar.f k w (n : Int) (a : Int) (b : Int)) ((farW w n a b : Nat) : Int) := by
  unfold spec_brFar.f
  refine ev_iter (fun (c : Nat) i k => spec_brFar.l0 k w (n : Int) (a : Int) (b : Int) (c : Int) (i : Int)) (fun c j => if at_ w a j = at_ w b j then c else c + 1) (fun i c => c ≤ i) n ?_ n 0 0 (by omega) (by omega) ?_
  · intro c i hi hI
    refine ⟨by split <;> omega, fun r k => ?_⟩
    refine Ev.step (fun k => by simp only [spec_brFar.l0]; rfl) ?_
    rw [wrap_id (x := (a : Int) + (i : Int)) (by omega), show (a : Int) + (i : Int) = ((a + i : Nat) : Int) by omega, tmod_nat, wrap_id (x := (b : Int) + (i : Int)) (by omega), show (b : Int) + (i : Int) = ((b + i : Nat) : Int) by omega, tmod_nat]
    have hm := Nat.mod_lt (a + i) hw
    have hm2 := Nat.mod_lt (b + i) hw
    refine ev_pos (by omega) (ev_neg (by omega) (ev_pos (by omega) (ev_pos (by omega) (ev_pos (by omega) (ev_pos (by omega) ?_)))))
    rw [wrap_succ (by omega), rd_nat, rd_nat]
    refine ev_if (fun e => ?_) (fun e => ?_)
    · rw [at_, at_, if_pos e] at k; exact k
    · rw [wrap_succ (by omega)]
      rw [at_, at_, if_neg e] at k; exact k
  · intro _
    refine Ev.step (fun k => by simp only [spec_brFar.l0]; rfl) (ev_neg (by omega) (Ev.now _))

theorem spec_l1Least_eq (a b : Nat) : spec_l1Least.f (a : Int) (b : Int) = some ((min a b : Nat) : Int) := by
  unfold spec_l1Least.f
  by_cases h : (a : Int) < (b : Int)
  · rw [if_pos h]; congr 1; omega
  · rw [if_neg h]; congr 1; omega
theorem spec_brSpread_in (w : List Int) (n i m : Nat) (r : Int) (hw : 0 < w.length) (hwl : w.length ≤ 1000000) (hn : n ≤ 1000000) (hi : i < w.length)
    (k : Ev (fun k => spec_brSpread.l0 k w (n : Int) ((spreadIn w n i m : Nat) : Int) (w.length : Int) ((i + 1 : Nat) : Int)) r) :
    Ev (fun k => spec_brSpread.l1 k w (n : Int) (m : Int) (i : Int) 0 (w.length : Int) (i : Int)) r := by
  refine ev_iter (fun (m : Nat) j k => spec_brSpread.l1 k w (n : Int) (m : Int) (i : Int) (j : Int) (w.length : Int) (i : Int)) (fun m j => min m (farW w n i j)) (fun _ _ => True) i ?_ i 0 m (by omega) trivial ?_
  · intro m j hj _
    refine ⟨trivial, fun r k => ?_⟩
    refine Ev.step (fun k => by simp only [spec_brSpread.l1]; rfl) ?_
    refine ev_pos (by omega) ?_
    refine ev_call (spec_brFar_ev w n i j hw (by omega) (by omega) (by omega) (by omega)) (ev_plain (spec_l1Least_eq _ _) ?_)
    rw [wrap_succ (by omega)]
    exact k
  · intro _
    exact Ev.step (fun k => by simp only [spec_brSpread.l1]; rfl) (ev_neg (by omega) (by rw [wrap_succ (by omega)]; exact k))
theorem spec_brSpread_ev (w : List Int) (n : Nat) (hw : 0 < w.length) (hwl : w.length ≤ 1000000) (hn : n ≤ 1000000) : Ev (fun k => spec_brSpread.f k w (n : Int)) ((spreadM w n : Nat) : Int) := by
  unfold spec_brSpread.f
  refine ev_iter (fun (m : Nat) i k => spec_brSpread.l0 k w (n : Int) (m : Int) (w.length : Int) (i : Int)) (fun m i => spreadIn w n i m) (fun _ _ => True) w.length ?_ w.length 0 n (by omega) trivial ?_
  · intro m i hi _
    refine ⟨trivial, fun r k => ?_⟩
    refine Ev.step (fun k => by simp only [spec_brSpread.l0]; rfl) (ev_pos (by omega) ?_)
    exact spec_brSpread_in w n i m r hw hwl hn hi k
  · intro _
    exact Ev.step (fun k => by simp only [spec_brSpread.l0]; rfl) (ev_neg (by omega) (Ev.now _))

theorem spec_SafeLength_ev (w : List Int) (hw : w.length ≤ 1048576) : Ev (fun k => spec_SafeLength.f k w) (SafeLengthM w) := by
  unfold spec_SafeLength.f SafeLengthM
  refine ev_call (spec_brTape_ev w 2 hw) (ev_if (fun h1 => ?_) (fun h1 => ev_some ?_))
  · rw [if_pos h1]
    have hc := cycleB_iff.mp (by simpa [tapeB] using (show tapeB w 2 = true from h1) : cycleB w 6 = true ∧ _).1
    refine ev_find (fun i k => spec_SafeLength.l0 k w ((i + 1 : Nat) : Int)) _ 64 (0, false) ?_ ?_ 64 0 (by omega)
    · intro i hi
      refine ⟨fun r hr => ?_, fun hr r k => ?_⟩
      · refine Ev.step (fun k => by simp only [spec_SafeLength.l0]; rfl) (ev_pos (by omega) (ev_call (spec_brSpread_ev w (i + 1) (by omega) (by omega) (by omega)) ?_))
        by_cases hs : 3 ≤ spreadM w (i + 1)
        · exact ev_pos (by omega) (ev_some (by simpa [hs] using hr))
        · simp [hs] at hr
      · refine Ev.step (fun k => by simp only [spec_SafeLength.l0]; rfl) (ev_pos (by omega) (ev_call (spec_brSpread_ev w (i + 1) (by omega) (by omega) (by omega)) ?_))
        by_cases hs : 3 ≤ spreadM w (i + 1)
        · simp [hs] at hr
        · refine ev_neg (by omega) ?_
          rw [wrap_succ (by omega)]
          exact k
    · exact Ev.step (fun k => by simp only [spec_SafeLength.l0]; rfl) (ev_neg (by omega) (Ev.now _))
  · rw [if_neg h1]

theorem laws_toIntS_loop (l : List Int) (hl : l.length ≤ 35184372088832) : ∀ (d i : Nat) (ys : List Int), i + d = l.length → ys.length = l.length → ys.take i = l.take i →
    Ev (fun k => laws_toIntS.l0 k l ys (i : Int)) l := by
  intro d
  induction d with
  | zero =>
    intro i ys h1 h2 h3
    refine Ev.step (f := fun _ => some ys) (fun k => ?_) (ev_some ?_)
    · simp only [laws_toIntS.l0]; rw [if_neg (by omega)]
    · rw [List.take_of_length_le (by omega), List.take_of_length_le (by omega)] at h3
      exact h3
  | succ d ih =>
    intro i ys h1 h2 h3
    have hi : i < l.length := by omega
    refine Ev.step (f := fun k => laws_toIntS.l0 k l (ys.set i (rd l (i : Int))) ((i + 1 : Nat) : Int)) (fun k => ?_) (ih (i + 1) _ (by omega) (by simp [h2]) ?_)
    · simp only [laws_toIntS.l0]; rw [if_pos (by omega), if_pos (by omega), if_pos (by omega), wrap_succ (by omega), Int.toNat_natCast]
    · rw [take_rd l i hi, List.take_succ_eq_append_getElem (by simp; omega)]
      rw [List.take_set, h3, List.set_eq_of_length_le (by simp; omega)]; simp
theorem laws_toIntS_ev (l : List Int) (hl : l.length ≤ 35184372088832) : Ev (fun k => laws_toIntS.f k l) l := by
  unfold laws_toIntS.f
  refine ev_pos (by omega) (ev_pos (by omega) ?_)
  exact laws_toIntS_loop l hl l.length 0 _ (by omega) (by simp) rfl

theorem laws_eqIntS_loop (l : List Int) (hl : l.length ≤ 35184372088832) : ∀ (d i : Nat), i + d = l.length → Ev (fun k => laws_eqIntS.l0 k l l (i : Int)) true := by
  intro d
  induction d with
  | zero =>
    intro i h
    refine Ev.step (f := fun _ => some true) (fun k => ?_) (Ev.now _)
    simp only [laws_eqIntS.l0]; rw [if_neg (by omega)]
  | succ d ih =>
    intro i h
    refine Ev.step (f := fun k => laws_eqIntS.l0 k l l ((i + 1 : Nat) : Int)) (fun k => ?_) (ih (i + 1) (by omega))
    simp only [laws_eqIntS.l0]; rw [if_pos (by omega), if_pos (by omega), if_pos (by omega), if_pos trivial, wrap_succ (by omega)]
theorem laws_eqIntS_ev (l : List Int) (hl : l.length ≤ 35184372088832) : Ev (fun k => laws_eqIntS.f k l l) true := by
  unfold laws_eqIntS.f
  exact ev_pos rfl (laws_eqIntS_loop l hl l.length 0 (by omega))

theorem FnExactSafeLength : laws_FnExactSafeLength.Pure := by
  intro l h_l1 h_l2 h_l3
  refine Ev.rounds (r := true) ?_
  unfold laws_FnExactSafeLength.f
  refine ev_if (fun _ => Ev.now _) (fun hb_l => ?_)
  have hl_l : l.length ≤ 1048576 := by omega
  clear h_l1 h_l2 hb_l
  have I_ := impl_SafeLength_ev l (by omega)
  have S_ := spec_SafeLength_ev l (by omega)
  generalize SafeLengthM l = m_ at I_ S_
  obtain ⟨r_, b_⟩ := m_
  repeat (first
    | exact Ev.now _
    | refine ev_call (laws_toIntS_ev l (by omega)) ?_
    | (refine ev_call S_ ?_; try dsimp only)
    | (refine ev_call I_ ?_; try dsimp only)
    | refine ev_call (laws_eqIntS_ev _ (by first | assumption | omega)) ?_
    | refine ev_pos rfl ?_
    | refine ev_neg (bne_no _) ?_
    | refine ev_neg (by omega) ?_
    | refine Ev.step (fun k => by simp only [laws_FnExactSafeLength.j0]; rfl) ?_)

end Go.Proofs.Ytdhmdlecagjohaa.Pure
