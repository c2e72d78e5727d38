/- The pure statement of MendWindow: program and reference answer alike, for all arguments; no condition. -/
import Derived.Test.YtbmgpafijkfdbaaPFnExactMendWindowx4
import Derived.Test.YtbmgpafijkfdbaaBase
namespace Go.Proofs.Ytbmgpafijkfdbaa.Pure
open Go.RowKit Go.Proofs.Ytbmgpafijkfdbaa.PFnExactMendWindow Go.Proofs.YtbmgpafijkfdbaaW.PrintWords Go.Proofs.YtbmgpafijkfdbaaW.PrintLast Go.Proofs.Ytbmgpafijkfdbaa.Base
set_option maxRecDepth 10000

def tapeB (w : List Int) (least : Int) : Bool := cycleB w 6 && inB (w.length : Int) least 64
def SpreadOfM (w : List Int) (n : Int) : Int × Bool := if tapeB w 2 = true ∧ (1 ≤ n ∧ n ≤ 64) then ((spreadM w n.toNat : Nat), true) else (0, false)
def SafeLengthM (w : List Int) : Int × Bool := if tapeB w 2 = true then ((List.range' 0 64).findSome? fun i => if 3 ≤ spreadM w (i + 1) then some (((i + 1 : Nat) : Int), true) else none).getD (0, false) else (0, false)

/-- At how many letters a given window differs from the one at a place. -/
def farG (w g : List Int) (p : Nat) : Nat := far (fun j => g.getD j 0) (at_ w p) g.length
def fi : Option Nat → Int
  | none => -1
  | some p => (p : Int)
def mendL (w g : List Int) : Nat → Nat → Option Nat → Int × List Int × Bool
  | 0, _, none => (0, [], false)
  | 0, _, some p => ((p : Int), win w p g.length, true)
  | d + 1, i, f => if farG w g i ≤ 1 then (match f with | some _ => (0, [], false) | none => mendL w g d (i + 1) (some i)) else mendL w g d (i + 1) f
def MendWindowM (w g : List Int) : Int × List Int × Bool := if tapeB w 1 = true ∧ cycleB g 6 = true then mendL w g w.length 0 none else (0, [], false)
theorem mendL_length (w g : List Int) : ∀ d i f, (mendL w g d i f).2.1.length ≤ g.length := by
  intro d
  induction d with
  | zero =>
    intro i f
    cases f <;> simp [mendL, win_length]
  | succ d ih =>
    intro i f
    unfold mendL
    split
    · cases f
      · exact ih _ _
      · simp
    · exact ih _ _
theorem MendWindowM_length (w g : List Int) : (MendWindowM w g).2.1.length ≤ 1024 := by
  unfold MendWindowM
  split
  · rename_i h
    exact Nat.le_trans (mendL_length w g _ _ _) (cycleB_iff.mp h.2).2.1.2
  · simp

theorem impl_within_eq (a lo hi : Int) : impl_within.f a lo hi = some (inB a lo hi) := by
  unfold impl_within.f inB
  by_cases h : a ≥ lo
  · rw [if_pos h]; simp [h]
  · rw [if_neg h]; simp [show ¬ lo ≤ a from h]

theorem impl_allWithin_loop (lo hi : Int) (xs : List Int) (hx : xs.length ≤ 1000000000000) : ∀ (d i : Nat), i + d = xs.length →
    Ev (fun k => impl_allWithin.l0 k lo hi xs (xs.length : Int) (i : Int)) (allB (xs.drop i) lo hi) := by
  intro d
  induction d with
  | zero =>
    intro i h
    rw [List.drop_eq_nil_of_le (by omega)]
    refine Ev.step (f := fun _ => some true) (fun k => ?_) (Ev.now _)
    simp only [impl_allWithin.l0]; rw [if_neg (by omega)]
  | succ d ih =>
    intro i h
    have hlt : i < xs.length := by omega
    rw [drop_rd xs i hlt]
    refine Ev.step (f := fun k => if inB (rd xs (i : Int)) lo hi = true then impl_allWithin.l0 k lo hi xs (xs.length : Int) ((i + 1 : Nat) : Int) else some false) (fun k => ?_) ?_
    · simp only [impl_allWithin.l0]; rw [if_pos (by omega), if_pos (by omega), if_pos (by omega), impl_within_eq, wrap_succ (by omega)]; rfl
    · by_cases hb : inB (rd xs (i : Int)) lo hi = true
      · exact ev_pos hb (ev_to (ih (i + 1) (by omega)) (by simp [allB, hb]))
      · exact ev_neg hb (ev_some (by simp [allB, Bool.eq_false_iff.mpr hb]))
theorem impl_allWithin_ev (lo hi : Int) (xs : List Int) (hx : xs.length ≤ 1000000000000) : Ev (fun k => impl_allWithin.f k xs lo hi) (allB xs lo hi) :=
  impl_allWithin_loop lo hi xs hx xs.length 0 (by omega)

theorem impl_IsCycle_ev (xs : List Int) (k : Int) (hx : xs.length ≤ 1000000000000) (hk : -9223372036854775808 ≤ k) (hk2 : k ≤ 9223372036854775807) : Ev (fun n => impl_IsCycle.f n xs k) (cycleB xs k) := by
  unfold impl_IsCycle.f cycleB
  refine ev_plain (impl_within_eq _ _ _) ?_
  refine ev_if (fun h => ?_) (fun h => ev_some (by simp [Bool.eq_false_iff.mpr h]))
  refine ev_plain (impl_within_eq _ _ _) ?_
  refine ev_if (fun h2 => ?_) (fun h2 => ev_some (by simp [Bool.eq_false_iff.mpr h2]))
  have h' := inB_iff.mp h
  rw [wrap_id (by omega)]
  exact ev_call (impl_allWithin_ev _ _ _ hx) (ev_some (by simp [h, h2]))

theorem impl_isCycle_ev (xs : List Int) (hx : xs.length ≤ 1000000000000) : Ev (fun n => impl_isCycle.f n xs) (cycleB xs 6) := by
  unfold impl_isCycle.f
  exact ev_call (impl_IsCycle_ev _ _ hx (by omega) (by omega)) (ev_some rfl)

theorem impl_isTape_ev (w : List Int) (least : Int) (hw : w.length ≤ 1048576) : Ev (fun k => impl_isTape.f k w least) (tapeB w least) := by
  unfold impl_isTape.f tapeB
  refine ev_call (impl_isCycle_ev _ (by omega)) (ev_if (fun h1 => ev_plain (impl_within_eq _ _ _) (ev_some (by simp [h1]))) (fun h1 => ev_some (by simp [Bool.eq_false_iff.mpr h1])))

theorem impl_window_loop (w : List Int) (n p : Nat) (hw : 0 < w.length) (hwl : w.length ≤ 1000000000000) (hn : n ≤ 1000000000000) (hp : p ≤ 1000000000000) : ∀ (d i : Nat) (acc : List Int), i + d = n → acc.length = i →
    Ev (fun k => impl_window.l0 k w (p : Int) acc (n : Int) (i : Int)) (acc ++ (List.range' i d).map fun j => w.getD ((p + j) % w.length) 0) := by
  intro d
  induction d with
  | zero =>
    intro i acc h ha
    refine Ev.step (f := fun _ => some acc) (fun k => ?_) (ev_some (by simp))
    simp only [impl_window.l0]; rw [if_neg (by omega)]
  | succ d ih =>
    intro i acc h ha
    refine Ev.step (f := fun k => impl_window.l0 k w (p : Int) (acc ++ [w.getD ((p + i) % w.length) 0]) (n : Int) ((i + 1 : Nat) : Int)) (fun k => ?_) (ev_to (ih (i + 1) _ (by omega) (by simp [ha])) ?_)
    · simp only [impl_window.l0]
      rw [if_pos (by omega), if_neg (by omega), wrap_id (x := (p : Int) + (i : Int)) (by omega), show (p : Int) + (i : Int) = ((p + i : Nat) : Int) by omega, tmod_nat, wrap_succ (by omega)]
      have hm := Nat.mod_lt (p + i) hw
      rw [if_pos (by omega), if_pos (by omega), if_pos (by omega), rd_nat]
    · simp [List.range'_succ]
theorem impl_window_ev (w : List Int) (n p : Nat) (hw : 0 < w.length) (hwl : w.length ≤ 1000000000000) (hn : n ≤ 1000000000000) (hp : p ≤ 1000000000000) : Ev (fun k => impl_window.f k w (n : Int) (p : Int)) (win w p n) :=
  ev_to (impl_window_loop w n p hw hwl hn hp n 0 [] (by omega) rfl) (by simp [win])

theorem impl_apart_ev (a b : List Int) (hab : a.length ≤ b.length) (ha : a.length ≤ 1000000000000) :
    Ev (fun k => impl_apart.f k a b) ((far (fun j => a.getD j 0) (fun j => b.getD j 0) a.length : Nat) : Int) := by
  unfold impl_apart.f
  refine ev_iter (fun (c : Nat) i k => impl_apart.l0 k b (c : Int) a (a.length : Int) (i : Int)) (fun c j => if a.getD j 0 = b.getD j 0 then c else c + 1) (fun i c => c ≤ i) a.length ?_ a.length 0 0 (by omega) (by omega) ?_
  · intro c i hi hI
    refine ⟨by split <;> omega, fun r k => ?_⟩
    refine Ev.step (fun k => by simp only [impl_apart.l0]; rfl) ?_
    refine ev_pos (by omega) (ev_pos (by omega) (ev_pos (by omega) (ev_pos (by omega) ?_)))
    rw [wrap_succ (by omega), rd_nat, rd_nat]
    refine ev_if (fun e => ?_) (fun e => ?_)
    · rw [if_pos e] at k; exact k
    · rw [wrap_succ (by omega)]
      rw [if_neg e] at k; exact k
  · intro _
    refine Ev.step (fun k => by simp only [impl_apart.l0]; rfl) (ev_neg (by omega) (Ev.now _))

theorem impl_MendWindow_loop (w g : List Int) (hw : 0 < w.length) (hwl : w.length ≤ 1048576) (hg : g.length ≤ 1048576) : ∀ (d i : Nat) (f : Option Nat), i + d = w.length → (∀ p, f = some p → p < w.length) →
    Ev (fun k => impl_MendWindow.l0 k w g (fi f) (w.length : Int) (i : Int)) (mendL w g d i f) := by
  intro d
  induction d with
  | zero =>
    intro i f h hf
    refine Ev.step (fun k => by simp only [impl_MendWindow.l0]; rfl) ?_
    refine ev_neg (by omega) ?_
    cases f with
    | none => exact ev_pos (by simp [fi]) (Ev.now _)
    | some p =>
      have := hf p rfl
      refine ev_neg (by simp [fi]) ?_
      exact ev_call (impl_window_ev w g.length p hw (by omega) (by omega) (by omega)) (Ev.now _)
  | succ d ih =>
    intro i f h hf
    refine Ev.step (fun k => by simp only [impl_MendWindow.l0]; rfl) ?_
    refine ev_pos (by omega) ?_
    refine ev_call (impl_window_ev w g.length i hw (by omega) (by omega) (by omega)) (ev_call (impl_apart_ev _ _ (by simp [win_length]) (by omega)) ?_)
    rw [show far (fun j => g.getD j 0) (fun j => (win w i g.length).getD j 0) g.length = farG w g i from far_congr (fun q hq => ⟨rfl, win_get _ _ _ _ hq⟩), wrap_succ (by omega)]
    unfold mendL
    refine ev_if (fun e => ?_) (fun e => ?_)
    · rw [if_neg (by omega)]
      exact ih (i + 1) f (by omega) hf
    · rw [if_pos (by omega)]
      cases f with
      | none => exact ev_neg (by simp [fi]) (ih (i + 1) (some i) (by omega) (by intro p hp; cases hp; omega))
      | some p => exact ev_pos (by simp [fi]) (Ev.now _)

theorem impl_MendWindow_ev (w g : List Int) (hw : w.length ≤ 1048576) (hg : g.length ≤ 1048576) : Ev (fun k => impl_MendWindow.f k w g) (MendWindowM w g) := by
  unfold impl_MendWindow.f MendWindowM
  have key : tapeB w 1 = true → ∀ c, Ev (fun k => impl_MendWindow.j0 k w g (!c)) (if tapeB w 1 = true ∧ c = true then mendL w g w.length 0 none else (0, [], false)) := by
    intro h1 c
    have hc := cycleB_iff.mp (by simpa [tapeB] using (show tapeB w 1 = true from h1) : cycleB w 6 = true ∧ _).1
    refine Ev.step (fun k => by simp only [impl_MendWindow.j0]; rfl) ?_
    cases c with
    | false => exact ev_pos rfl (ev_some (by simp))
    | true =>
      refine ev_neg (by simp) ?_
      rw [if_pos ⟨h1, rfl⟩]
      exact impl_MendWindow_loop w g (by omega) (by omega) (by omega) w.length 0 none (by omega) (by intro p h; cases h)
  refine ev_call (impl_isTape_ev w 1 hw) (ev_if (fun h1 => ?_) (fun h1 => ?_))
  · exact ev_call (impl_isCycle_ev _ (by omega)) (key h1 _)
  · refine Ev.step (fun k => by simp only [impl_MendWindow.j0]; rfl) ?_
    refine ev_pos (by trivial) (ev_some ?_)
    rw [if_neg (fun h => h1 h.1)]

theorem spec_l1In_eq (a lo hi : Int) : spec_l1In.f a lo hi = some (inB a lo hi) := by
  unfold spec_l1In.f inB
  by_cases h : a ≥ lo
  · rw [if_pos h]; simp [h]
  · rw [if_neg h]; simp [show ¬ lo ≤ a from h]

theorem spec_l1All_loop (lo hi : Int) (xs : List Int) (hx : xs.length ≤ 1000000000000) : ∀ (d i : Nat), i + d = xs.length →
    Ev (fun k => spec_l1All.l0 k lo hi xs (xs.length : Int) (i : Int)) (allB (xs.drop i) lo hi) := by
  intro d
  induction d with
  | zero =>
    intro i h
    rw [List.drop_eq_nil_of_le (by omega)]
    refine Ev.step (f := fun _ => some true) (fun k => ?_) (Ev.now _)
    simp only [spec_l1All.l0]; rw [if_neg (by omega)]
  | succ d ih =>
    intro i h
    have hlt : i < xs.length := by omega
    rw [drop_rd xs i hlt]
    refine Ev.step (f := fun k => if inB (rd xs (i : Int)) lo hi = true then spec_l1All.l0 k lo hi xs (xs.length : Int) ((i + 1 : Nat) : Int) else some false) (fun k => ?_) ?_
    · simp only [spec_l1All.l0]; rw [if_pos (by omega), if_pos (by omega), if_pos (by omega), spec_l1In_eq, wrap_succ (by omega)]; rfl
    · by_cases hb : inB (rd xs (i : Int)) lo hi = true
      · exact ev_pos hb (ev_to (ih (i + 1) (by omega)) (by simp [allB, hb]))
      · exact ev_neg hb (ev_some (by simp [allB, Bool.eq_false_iff.mpr hb]))
theorem spec_l1All_ev (lo hi : Int) (xs : List Int) (hx : xs.length ≤ 1000000000000) : Ev (fun k => spec_l1All.f k xs lo hi) (allB xs lo hi) :=
  spec_l1All_loop lo hi xs hx xs.length 0 (by omega)

theorem spec_brCycle_ev (xs : List Int) (k : Int) (hx : xs.length ≤ 1000000000000) (hk : -9223372036854775808 ≤ k) (hk2 : k ≤ 9223372036854775807) : Ev (fun n => spec_brCycle.f n xs k) (cycleB xs k) := by
  unfold spec_brCycle.f cycleB
  refine ev_plain (spec_l1In_eq _ _ _) ?_
  refine ev_if (fun h => ?_) (fun h => ev_some (by simp [Bool.eq_false_iff.mpr h]))
  refine ev_plain (spec_l1In_eq _ _ _) ?_
  refine ev_if (fun h2 => ?_) (fun h2 => ev_some (by simp [Bool.eq_false_iff.mpr h2]))
  have h' := inB_iff.mp h
  rw [wrap_id (by omega)]
  exact ev_call (spec_l1All_ev _ _ _ hx) (ev_some (by simp [h, h2]))

theorem spec_brTape_ev (w : List Int) (least : Int) (hw : w.length ≤ 1048576) : Ev (fun k => spec_brTape.f k w least) (tapeB w least) := by
  unfold spec_brTape.f tapeB
  refine ev_call (spec_brCycle_ev _ _ (by omega) (by omega) (by omega)) (ev_if (fun h1 => ev_plain (spec_l1In_eq _ _ _) (ev_some (by simp [h1]))) (fun h1 => ev_some (by simp [Bool.eq_false_iff.mpr h1])))

theorem spec_brWindow_loop (w : List Int) (n p : Nat) (hw : 0 < w.length) (hwl : w.length ≤ 1000000000000) (hn : n ≤ 1000000000000) (hp : p ≤ 1000000000000) : ∀ (d i : Nat) (acc : List Int), i + d = n → acc.length = i →
    Ev (fun k => spec_brWindow.l0 k w (n : Int) (p : Int) acc (i : Int)) (acc ++ (List.range' i d).map fun j => w.getD ((p + j) % w.length) 0) := by
  intro d
  induction d with
  | zero =>
    intro i acc h ha
    refine Ev.step (f := fun _ => some acc) (fun k => ?_) (ev_some (by simp))
    simp only [spec_brWindow.l0]; rw [if_neg (by omega)]
  | succ d ih =>
    intro i acc h ha
    refine Ev.step (f := fun k => spec_brWindow.l0 k w (n : Int) (p : Int) (acc ++ [w.getD ((p + i) % w.length) 0]) ((i + 1 : Nat) : Int)) (fun k => ?_) (ev_to (ih (i + 1) _ (by omega) (by simp [ha])) ?_)
    · simp only [spec_brWindow.l0]
      rw [if_pos (by omega), if_neg (by omega), wrap_id (x := (p : Int) + (i : Int)) (by omega), show (p : Int) + (i : Int) = ((p + i : Nat) : Int) by omega, tmod_nat, wrap_succ (by omega)]
      have hm := Nat.mod_lt (p + i) hw
      rw [if_pos (by omega), if_pos (by omega), if_pos (by omega), rd_nat]
    · simp [List.range'_succ]
theorem spec_brWindow_ev (w : List Int) (n p : Nat) (hw : 0 < w.length) (hwl : w.length ≤ 1000000000000) (hn : n ≤ 1000000000000) (hp : p ≤ 1000000000000) : Ev (fun k => spec_brWindow.f k w (n : Int) (p : Int)) (win w p n) :=
  ev_to (spec_brWindow_loop w n p hw hwl hn hp n 0 [] (by omega) rfl) (by simp [win])

theorem spec_MendWindow_in (w g : List Int) (fo : Int) (i : Nat) (r : Int × List Int × Bool) (hw : 0 < w.length) (hwl : w.length ≤ 1048576) (hg : g.length ≤ 1048576) (hi : i < w.length)
    (k : Ev (fun k => if ((farG w g i : Nat) : Int) > 1 then spec_MendWindow.l0 k w g fo (w.length : Int) ((i + 1 : Nat) : Int) else (if fo ≥ 0 then some (0, ([] : List Int), false) else spec_MendWindow.l0 k w g (i : Int) (w.length : Int) ((i + 1 : Nat) : Int))) r) :
    Ev (fun k => spec_MendWindow.l1 k w g fo (i : Int) 0 (w.length : Int) (i : Int) g (g.length : Int) 0) r := by
  rw [farG, far_comm] at k
  refine ev_iter (fun (c : Nat) j k => spec_MendWindow.l1 k w g fo (i : Int) (c : Int) (w.length : Int) (i : Int) g (g.length : Int) (j : Int)) (fun c j => if at_ w i j = g.getD j 0 then c else c + 1) (fun j c => c ≤ j) g.length ?_ g.length 0 0 (by omega) (by omega) ?_
  · intro c j hj hI
    refine ⟨by split <;> omega, fun r k => ?_⟩
    refine Ev.step (fun k => by simp only [spec_MendWindow.l1]; rfl) ?_
    rw [wrap_id (x := (i : Int) + (j : Int)) (by omega), show (i : Int) + (j : Int) = ((i + j : Nat) : Int) by omega, tmod_nat]
    have hm := Nat.mod_lt (i + j) hw
    refine ev_pos (by omega) (ev_pos (by omega) (ev_pos (by omega) (ev_neg (by omega) (ev_pos (by omega) (ev_pos (by omega) ?_)))))
    rw [wrap_succ (by omega), rd_nat, rd_nat]
    refine ev_if (fun e => ?_) (fun e => ?_)
    · rw [at_, if_pos e] at k; exact k
    · rw [wrap_succ (by omega)]
      rw [at_, if_neg e] at k; exact k
  · intro _
    refine Ev.step (fun k => by simp only [spec_MendWindow.l1]; rfl) ?_
    refine ev_neg (by omega) ?_
    rw [wrap_succ (by omega)]
    exact k
theorem spec_MendWindow_loop (w g : List Int) (hw : 0 < w.length) (hwl : w.length ≤ 1048576) (hg : g.length ≤ 1048576) : ∀ (d i : Nat) (f : Option Nat), i + d = w.length → (∀ p, f = some p → p < w.length) →
    Ev (fun k => spec_MendWindow.l0 k w g (fi f) (w.length : Int) (i : Int)) (mendL w g d i f) := by
  intro d
  induction d with
  | zero =>
    intro i f h hf
    refine Ev.step (fun k => by simp only [spec_MendWindow.l0]; rfl) ?_
    refine ev_neg (by omega) ?_
    cases f with
    | none => exact ev_pos (by simp [fi]) (Ev.now _)
    | some p =>
      have := hf p rfl
      refine ev_neg (by simp [fi]) ?_
      exact ev_call (spec_brWindow_ev w g.length p hw (by omega) (by omega) (by omega)) (Ev.now _)
  | succ d ih =>
    intro i f h hf
    refine Ev.step (fun k => by simp only [spec_MendWindow.l0]; rfl) ?_
    refine ev_pos (by omega) ?_
    refine spec_MendWindow_in w g (fi f) i _ hw hwl hg (by omega) ?_
    unfold mendL
    refine ev_if (fun e => ?_) (fun e => ?_)
    · rw [if_neg (by omega)]
      exact ih (i + 1) f (by omega) hf
    · rw [if_pos (by omega)]
      cases f with
      | none => exact ev_neg (by simp [fi]) (ih (i + 1) (some i) (by omega) (by intro p hp; cases hp; omega))
      | some p => exact ev_pos (by simp [fi]) (Ev.now _)

theorem spec_MendWindow_ev (w g : List Int) (hw : w.length ≤ 1048576) (hg : g.length ≤ 1048576) : Ev (fun k => spec_MendWindow.f k w g) (MendWindowM w g) := by
  unfold spec_MendWindow.f MendWindowM
  have key : tapeB w 1 = true → ∀ c, Ev (fun k => spec_MendWindow.j0 k w g (!c)) (if tapeB w 1 = true ∧ c = true then mendL w g w.length 0 none else (0, [], false)) := by
    intro h1 c
    have hc := cycleB_iff.mp (by simpa [tapeB] using (show tapeB w 1 = true from h1) : cycleB w 6 = true ∧ _).1
    refine Ev.step (fun k => by simp only [spec_MendWindow.j0]; rfl) ?_
    cases c with
    | false => exact ev_pos rfl (ev_some (by simp))
    | true =>
      refine ev_neg (by simp) ?_
      rw [if_pos ⟨h1, rfl⟩]
      exact spec_MendWindow_loop w g (by omega) (by omega) (by omega) w.length 0 none (by omega) (by intro p h; cases h)
  refine ev_call (spec_brTape_ev w 1 hw) (ev_if (fun h1 => ?_) (fun h1 => ?_))
  · exact ev_call (spec_brCycle_ev _ _ (by omega) (by omega) (by omega)) (key h1 _)
  · refine Ev.step (fun k => by simp only [spec_MendWindow.j0]; rfl) ?_
    refine ev_pos (by trivial) (ev_some ?_)
    rw [if_neg (fun h => h1 h.1)]

theorem laws_toIntS_loop (l : List Int) (hl : l.length ≤ 35184372088832) : ∀ (d i : Nat) (ys : List Int), i + d = l.length → ys.length = l.length → ys.take i = l.take i →
    Ev (fun k => laws_toIntS.l0 k l ys (i : Int)) l := by
  intro d
  induction d with
  | zero =>
    intro i ys h1 h2 h3
    refine Ev.step (f := fun _ => some ys) (fun k => ?_) (ev_some ?_)
    · simp only [laws_toIntS.l0]; rw [if_neg (by omega)]
    · rw [List.take_of_length_le (by omega), List.take_of_length_le (by omega)] at h3
      exact h3
  | succ d ih =>
    intro i ys h1 h2 h3
    have hi : i < l.length := by omega
    refine Ev.step (f := fun k => laws_toIntS.l0 k l (ys.set i (rd l (i : Int))) ((i + 1 : Nat) : Int)) (fun k => ?_) (ih (i + 1) _ (by omega) (by simp [h2]) ?_)
    · simp only [laws_toIntS.l0]; rw [if_pos (by omega), if_pos (by omega), if_pos (by omega), wrap_succ (by omega), Int.toNat_natCast]
    · rw [take_rd l i hi, List.take_succ_eq_append_getElem (by simp; omega)]
      rw [List.take_set, h3, List.set_eq_of_length_le (by simp; omega)]; simp
theorem laws_toIntS_ev (l : List Int) (hl : l.length ≤ 35184372088832) : Ev (fun k => laws_toIntS.f k l) l := by
  unfold laws_toIntS.f
  refine ev_pos (by omega) (ev_pos (by omega) ?_)
  exact laws_toIntS_loop l hl l.length 0 _ (by omega) (by simp) rfl

theorem laws_eqIntS_loop (l : List Int) (hl : l.length ≤ 35184372088832) : ∀ (d i : Nat), i + d = l.length → Ev (fun k => laws_eqIntS.l0 k l l (i : Int)) true := by
  intro d
  induction d with
  | zero =>
    intro i h
    refine Ev.step (f := fun _ => some true) (fun k => ?_) (Ev.now _)
    simp only [laws_eqIntS.l0]; rw [if_neg (by omega)]
  | succ d ih =>
    intro i h
    refine Ev.step (f := fun k => laws_eqIntS.l0 k l l ((i + 1 : Nat) : Int)) (fun k => ?_) (ih (i + 1) (by omega))
    simp only [laws_eqIntS.l0]; rw [if_pos (by omega), if_pos (by omega), if_pos (by omega), if_pos trivial, wrap_succ (by omega)]
theorem laws_eqIntS_ev (l : List Int) (hl : l.length ≤ 35184372088832) : Ev (fun k => laws_eqIntS.f k l l) true := by
  unfold laws_eqIntS.f
  exact ev_pos rfl (laws_eqIntS_loop l hl l.length 0 (by omega))

theorem laws_markIntS_loop : ∀ (d i : Nat) (ys : List Int) (m : Int), i + d = ys.length → 0 ≤ m → m + d ≤ 1000000000000000 → ys.length ≤ 35184372088832 →
    Ev (fun k => laws_markIntS.l0 k ys m (i : Int)) (m + (d : Int), ys.take i ++ marks m d) := by
  intro d
  induction d with
  | zero =>
    intro i ys m h1 h2 h3 h4
    refine Ev.step (f := fun _ => some (m, ys)) (fun k => ?_) (ev_some ?_)
    · simp only [laws_markIntS.l0]; rw [if_neg (by omega)]
    · rw [List.take_of_length_le (by omega)]; simp [marks]
  | succ d ih =>
    intro i ys m h1 h2 h3 h4
    refine Ev.step (f := fun k => laws_markIntS.l0 k (ys.set i m) (m + 1) ((i + 1 : Nat) : Int)) (fun k => ?_) (ev_to (ih (i + 1) _ (m + 1) (by simp; omega) (by omega) (by omega) (by simpa using h4)) ?_)
    · simp only [laws_markIntS.l0]; rw [if_pos (by omega), if_pos (by omega), wrap_succ (by omega), wrap_id (by omega), Int.toNat_natCast]
    · rw [marks_succ, List.take_succ_eq_append_getElem (by simp; omega), List.take_set, List.set_eq_of_length_le (by simp; omega)]
      refine Prod.ext (by simp; omega) ?_
      simp
theorem laws_markIntS_ev (l : List Int) (m : Int) (h2 : 0 ≤ m) (h3 : m ≤ 900000000000000) (h4 : l.length ≤ 35184372088832) : Ev (fun k => laws_markIntS.f k l m) (m + (l.length : Int), marks m l.length) :=
  ev_to (laws_markIntS_loop l.length 0 l m (by omega) h2 (by omega) h4) (by simp)

theorem laws_heldIntS_loop (zs : List Int) (hz : zs.length ≤ 35184372088832) : ∀ (d i : Nat) (m : Int), i + d = zs.length → 0 ≤ m → m + d ≤ 1000000000000000 → zs.drop i = marks m d →
    Ev (fun k => laws_heldIntS.l0 k zs m (i : Int)) (m + (d : Int)) := by
  intro d
  induction d with
  | zero =>
    intro i m h1 h2 h3 h4
    refine Ev.step (f := fun _ => some m) (fun k => ?_) (ev_some (by simp))
    simp only [laws_heldIntS.l0]; rw [if_neg (by omega)]
  | succ d ih =>
    intro i m h1 h2 h3 h4
    rw [drop_rd zs i (by omega), marks_succ, List.cons.injEq] at h4
    refine Ev.step (f := fun k => laws_heldIntS.l0 k zs (m + 1) ((i + 1 : Nat) : Int)) (fun k => ?_) (ev_to (ih (i + 1) (m + 1) (by omega) (by omega) (by omega) h4.2) (by omega))
    simp only [laws_heldIntS.l0]; rw [if_pos (by omega), if_pos (by omega), if_pos h4.1, wrap_succ (by omega), wrap_id (by omega)]
theorem laws_heldIntS_ev (m : Int) (n : Nat) (h2 : 0 ≤ m) (h3 : m ≤ 900000000000000) (h4 : n ≤ 35184372088832) : Ev (fun k => laws_heldIntS.f k (marks m n) m) (m + (n : Int)) :=
  laws_heldIntS_loop (marks m n) (by simpa [marks_length] using h4) n 0 m (by simp [marks_length]) h2 (by omega) rfl

theorem FnExactMendWindow : laws_FnExactMendWindow.Pure := by
  intro l g h_l1 h_l2 h_l3 h_g1 h_g2 h_g3
  refine Ev.rounds (r := true) ?_
  unfold laws_FnExactMendWindow.f
  refine ev_if (fun _ => Ev.now _) (fun hb_l => ?_)
  have hl_l : l.length ≤ 1048576 := by omega
  clear h_l1 h_l2 hb_l
  refine ev_if (fun _ => Ev.now _) (fun hb_g => ?_)
  have hl_g : g.length ≤ 1048576 := by omega
  clear h_g1 h_g2 hb_g
  have I_ := impl_MendWindow_ev l g (by omega) (by omega)
  have S_ := spec_MendWindow_ev l g (by omega) (by omega)
  have hr := MendWindowM_length l g
  generalize MendWindowM l g = m_ at I_ S_ hr
  obtain ⟨q_, r_, b_⟩ := m_
  dsimp only at hr
  repeat (first
    | exact Ev.now _
    | refine ev_call (laws_toIntS_ev l (by omega)) ?_
    | refine ev_call (laws_toIntS_ev g (by omega)) ?_
    | (refine ev_call S_ ?_; try dsimp only)
    | (refine ev_call I_ ?_; try dsimp only)
    | refine ev_call (laws_eqIntS_ev _ (by first | assumption | omega)) ?_
    | (refine ev_call (laws_markIntS_ev _ _ (by omega) (by omega) (by omega)) ?_; dsimp only)
    | refine ev_call (laws_heldIntS_ev _ _ (by omega) (by omega) (by omega)) ?_
    | refine ev_pos rfl ?_
    | refine ev_neg (bne_no _) ?_
    | refine ev_neg (by omega) ?_
    | refine Ev.step (fun k => by simp only [laws_FnExactMendWindow.j0]; rfl) ?_
    | refine Ev.step (fun k => by simp only [laws_FnExactMendWindow.j1]; rfl) ?_
    | refine Ev.step (fun k => by simp only [laws_FnExactMendWindow.j2]; rfl) ?_)

end Go.Proofs.Ytbmgpafijkfdbaa.Pure
