/- The pure statement of PlacesOf: program and reference answer alike, for all arguments; no condition. -/
import Derived.Test.YtdhmdlecagjohaaPFnExactPlacesOfx3
import Derived.Test.YtdhmdlecagjohaaBase
namespace Go.Proofs.Ytdhmdlecagjohaa.Pure
open Go.RowKit Go.Proofs.Ytdhmdlecagjohaa.PFnExactPlacesOf Go.Proofs.YtdhmdlecagjohaaW.PrintWords Go.Proofs.YtdhmdlecagjohaaW.PrintLast Go.Proofs.Ytdhmdlecagjohaa.Base
set_option maxRecDepth 10000

/-- The places at which a window stands. -/
def placesIn (w g : List Int) (acc : List Int) (p : Nat) : List Int := if win w p g.length = g then acc ++ [(p : Int)] else acc
def placesM (w g : List Int) : List Int := (List.range' 0 w.length).foldl (placesIn w g) []
theorem placesM_length (w g : List Int) : ∀ d i acc, acc.length ≤ i → ((List.range' i d).foldl (placesIn w g) acc).length ≤ i + d := by
  intro d
  induction d with
  | zero => intro i acc h; simpa using h
  | succ d ih =>
    intro i acc h
    rw [List.range'_succ, List.foldl_cons]
    refine Nat.le_trans (ih (i + 1) _ ?_) (by omega)
    unfold placesIn
    split
    · simp; omega
    · omega
def PlacesOfM (w g : List Int) : List Int × Bool := if cycleB w 6 = true ∧ cycleB g 6 = true then (placesM w g, true) else ([], false)
theorem PlacesOfM_length (w g : List Int) : (PlacesOfM w g).1.length ≤ 1024 := by
  unfold PlacesOfM
  split
  · rename_i h
    have := (cycleB_iff.mp h.1).2.1.2
    have h2 := placesM_length w g w.length 0 [] (by simp)
    simp only [placesM]; omega
  · simp

theorem impl_within_eq (a lo hi : Int) : impl_within.f a lo hi = some (inB a lo hi) := by
  unfold impl_within.f inB
  by_cases h : a ≥ lo
  · rw [if_pos h]; simp [h]
  · rw [if_neg h]; simp [show ¬ lo ≤ a from h]

theorem impl_allWithin_loop (lo hi : Int) (xs : List Int) (hx : xs.length ≤ 1000000000000) : ∀ (d i : Nat), i + d = xs.length →
    Ev (fun k => impl_allWithin.l0 k lo hi xs (xs.length : Int) (i : Int)) (allB (xs.drop i) lo hi) := by
  intro d
  induction d with
  | zero =>
    intro i h
    rw [List.drop_eq_nil_of_le (by omega)]
    refine Ev.step (f := fun _ => some true) (fun k => ?_) (Ev.now _)
    simp only [impl_allWithin.l0]; rw [if_neg (by omega)]
  | succ d ih =>
    intro i h
    have hlt : i < xs.length := by omega
    rw [drop_rd xs i hlt]
    refine Ev.step (f := fun k => if inB (rd xs (i : Int)) lo hi = true then impl_allWithin.l0 k lo hi xs (xs.length : Int) ((i + 1 : Nat) : Int) else some false) (fun k => ?_) ?_
    · simp only [impl_allWithin.l0]; rw [if_pos (by omega), if_pos (by omega), if_pos (by omega), impl_within_eq, wrap_succ (by omega)]; rfl
    · by_cases hb : inB (rd xs (i : Int)) lo hi = true
      · exact ev_pos hb (ev_to (ih (i + 1) (by omega)) (by simp [allB, hb]))
      · exact ev_neg hb (ev_some (by simp [allB, Bool.eq_false_iff.mpr hb]))
theorem impl_allWithin_ev (lo hi : Int) (xs : List Int) (hx : xs.length ≤ 1000000000000) : Ev (fun k => impl_allWithin.f k xs lo hi) (allB xs lo hi) :=
  impl_allWithin_loop lo hi xs hx xs.length 0 (by omega)

theorem impl_IsCycle_ev (xs : List Int) (k : Int) (hx : xs.length ≤ 1000000000000) (hk : -9223372036854775808 ≤ k) (hk2 : k ≤ 9223372036854775807) : Ev (fun n => impl_IsCycle.f n xs k) (cycleB xs k) := by
  unfold impl_IsCycle.f cycleB
  refine ev_plain (impl_within_eq _ _ _) ?_
  refine ev_if (fun h => ?_) (fun h => ev_some (by simp [Bool.eq_false_iff.mpr h]))
  refine ev_plain (impl_within_eq _ _ _) ?_
  refine ev_if (fun h2 => ?_) (fun h2 => ev_some (by simp [Bool.eq_false_iff.mpr h2]))
  have h' := inB_iff.mp h
  rw [wrap_id (by omega)]
  exact ev_call (impl_allWithin_ev _ _ _ hx) (ev_some (by simp [h, h2]))

theorem impl_isCycle_ev (xs : List Int) (hx : xs.length ≤ 1000000000000) : Ev (fun n => impl_isCycle.f n xs) (cycleB xs 6) := by
  unfold impl_isCycle.f
  exact ev_call (impl_IsCycle_ev _ _ hx (by omega) (by omega)) (ev_some rfl)

theorem impl_window_loop (w : List Int) (n p : Nat) (hw : 0 < w.length) (hwl : w.length ≤ 1000000000000) (hn : n ≤ 1000000000000) (hp : p ≤ 1000000000000) : ∀ (d i : Nat) (acc : List Int), i + d = n → acc.length = i →
    Ev (fun k => impl_window.l0 k w (p : Int) acc (n : Int) (i : Int)) (acc ++ (List.range' i d).map fun j => w.getD ((p + j) % w.length) 0) := by
  intro d
  induction d with
  | zero =>
    intro i acc h ha
    refine Ev.step (f := fun _ => some acc) (fun k => ?_) (ev_some (by simp))
    simp only [impl_window.l0]; rw [if_neg (by omega)]
  | succ d ih =>
    intro i acc h ha
    refine Ev.step (f := fun k => impl_window.l0 k w (p : Int) (acc ++ [w.getD ((p + i) % w.length) 0]) (n : Int) ((i + 1 : Nat) : Int)) (fun k => ?_) (ev_to (ih (i + 1) _ (by omega) (by simp [ha])) ?_)
    · simp only [impl_window.l0]
      rw [if_pos (by omega), if_neg (by omega), wrap_id (x := (p : Int) + (i : Int)) (by omega), show (p : Int) + (i : Int) = ((p + i : Nat) : Int) by omega, tmod_nat, wrap_succ (by omega)]
      have hm := Nat.mod_lt (p + i) hw
      rw [if_pos (by omega), if_pos (by omega), if_pos (by omega), rd_nat]
    · simp [List.range'_succ]
theorem impl_window_ev (w : List Int) (n p : Nat) (hw : 0 < w.length) (hwl : w.length ≤ 1000000000000) (hn : n ≤ 1000000000000) (hp : p ≤ 1000000000000) : Ev (fun k => impl_window.f k w (n : Int) (p : Int)) (win w p n) :=
  ev_to (impl_window_loop w n p hw hwl hn hp n 0 [] (by omega) rfl) (by simp [win])

theorem slices_Equal_int_int_loop (a b : List Int) (ha : a.length ≤ 1000000000000) (hab : a.length = b.length) : ∀ (d i : Nat), i + d = a.length →
    Ev (fun k => slices_Equal_int_int.l0 k a b (a.length : Int) (i : Int)) (decide (a.drop i = b.drop i)) := by
  intro d
  induction d with
  | zero =>
    intro i h
    rw [List.drop_eq_nil_of_le (by omega), List.drop_eq_nil_of_le (by omega)]
    refine Ev.step (f := fun _ => some true) (fun k => ?_) (Ev.now _)
    simp only [slices_Equal_int_int.l0]; rw [if_neg (by omega)]
  | succ d ih =>
    intro i h
    rw [drop_rd a i (by omega), drop_rd b i (by omega)]
    refine Ev.step (f := fun k => if rd a (i : Int) = rd b (i : Int) then slices_Equal_int_int.l0 k a b (a.length : Int) ((i + 1 : Nat) : Int) else some false) (fun k => ?_) ?_
    · simp only [slices_Equal_int_int.l0]; rw [if_pos (by omega), if_pos (by omega), if_pos (by omega), if_pos (by omega), wrap_succ (by omega)]
    · exact ev_if (fun e => ev_to (ih (i + 1) (by omega)) (by simp [e])) (fun e => ev_some (by simp [e]))
theorem slices_Equal_int_int_ev (a b : List Int) (ha : a.length ≤ 1000000000000) : Ev (fun k => slices_Equal_int_int.f k a b) (decide (a = b)) := by
  unfold slices_Equal_int_int.f
  refine ev_if (fun h => ?_) (fun h => ev_some ?_)
  · exact slices_Equal_int_int_loop a b ha (by omega) a.length 0 (by omega)
  · rw [eq_comm, decide_eq_false_iff_not]; intro e; exact h (by rw [e])

theorem impl_PlacesOf_ev (w g : List Int) (hw : w.length ≤ 1048576) (hg : g.length ≤ 1048576) : Ev (fun k => impl_PlacesOf.f k w g) (PlacesOfM w g) := by
  unfold impl_PlacesOf.f PlacesOfM
  have key : cycleB w 6 = true → ∀ c, Ev (fun k => impl_PlacesOf.j0 k w g (!c)) (if cycleB w 6 = true ∧ c = true then (placesM w g, true) else ([], false)) := by
    intro h1 c
    have hc := cycleB_iff.mp h1
    refine Ev.step (fun k => by simp only [impl_PlacesOf.j0]; rfl) ?_
    cases c with
    | false => exact ev_pos rfl (ev_some (by simp))
    | true =>
      refine ev_neg (by simp) ?_
      rw [if_pos ⟨h1, rfl⟩]
      refine ev_iter (fun acc i k => impl_PlacesOf.l0 k w g acc (w.length : Int) (i : Int)) (placesIn w g) (fun i acc => acc.length ≤ i) w.length ?_ w.length 0 [] (by omega) (by simp) ?_
      · intro acc i hi hI
        refine ⟨by
          unfold placesIn
          split
          · simp; omega
          · omega, fun r k => ?_⟩
        refine Ev.step (fun k => by simp only [impl_PlacesOf.l0]; rfl) ?_
        refine ev_pos (by omega) ?_
        refine ev_call (impl_window_ev w g.length i (by omega) (by omega) (by omega) (by omega)) (ev_call (slices_Equal_int_int_ev _ _ (by rw [win_length]; omega)) (ev_if (fun hd => ?_) (fun hd => ?_))) <;> simp only [decide_eq_true_eq] at hd
        · refine ev_pos (by omega) ?_
          rw [wrap_succ (by omega)]
          rw [placesIn, if_pos hd] at k; exact k
        · rw [wrap_succ (by omega)]
          rw [placesIn, if_neg hd] at k; exact k
      · intro _
        refine Ev.step (fun k => by simp only [impl_PlacesOf.l0]; rfl) (ev_neg (by omega) (Ev.now _))
  refine ev_call (impl_isCycle_ev _ (by omega)) (ev_if (fun h1 => ?_) (fun h1 => ?_))
  · exact ev_call (impl_isCycle_ev _ (by omega)) (key h1 _)
  · refine Ev.step (fun k => by simp only [impl_PlacesOf.j0]; rfl) ?_
    refine ev_pos (by trivial) (ev_some ?_)
    rw [if_neg (fun h => h1 h.1)]

theorem spec_l1In_eq (a lo hi : Int) : spec_l1In.f a lo hi = some (inB a lo hi) := by
  unfold spec_l1In.f inB
  by_cases h : a ≥ lo
  · rw [if_pos h]; simp [h]
  · rw [if_neg h]; simp [show ¬ lo ≤ a from h]

theorem spec_l1All_loop (lo hi : Int) (xs : List Int) (hx : xs.length ≤ 1000000000000) : ∀ (d i : Nat), i + d = xs.length →
    Ev (fun k => spec_l1All.l0 k lo hi xs (xs.length : Int) (i : Int)) (allB (xs.drop i) lo hi) := by
  intro d
  induction d with
  | zero =>
    intro i h
    rw [List.drop_eq_nil_of_le (by omega)]
    refine Ev.step (f := fun _ => some true) (fun k => ?_) (Ev.now _)
    simp only [spec_l1All.l0]; rw [if_neg (by omega)]
  | succ d ih =>
    intro i h
    have hlt : i < xs.length := by omega
    rw [drop_rd xs i hlt]
    refine Ev.step (f := fun k => if inB (rd xs (i : Int)) lo hi = true then spec_l1All.l0 k lo hi xs (xs.length : Int) ((i + 1 : Nat) : Int) else some false) (fun k => ?_) ?_
    · simp only [spec_l1All.l0]; rw [if_pos (by omega), if_pos (by omega), if_pos (by omega), spec_l1In_eq, wrap_succ (by omega)]; rfl
    · by_cases hb : inB (rd xs (i : Int)) lo hi = true
      · exact ev_pos hb (ev_to (ih (i + 1) (by omega)) (by simp [allB, hb]))
      · exact ev_neg hb (ev_some (by simp [allB, Bool.eq_false_iff.mpr hb]))
theorem spec_l1All_ev (lo hi : Int) (xs : List Int) (hx : xs.length ≤ 1000000000000) : Ev (fun k => spec_l1All.f k xs lo hi) (allB xs lo hi) :=
  spec_l1All_loop lo hi xs hx xs.length 0 (by omega)

theorem spec_brCycle_ev (xs : List Int) (k : Int) (hx : xs.length ≤ 1000000000000) (hk : -9223372036854775808 ≤ k) (hk2 : k ≤ 9223372036854775807) : Ev (fun n => spec_brCycle.f n xs k) (cycleB xs k) := by
  unfold spec_brCycle.f cycleB
  refine ev_plain (spec_l1In_eq _ _ _) ?_
  refine ev_if (fun h => ?_) (fun h => ev_some (by simp [Bool.eq_false_iff.mpr h]))
  refine ev_plain (spec_l1In_eq _ _ _) ?_
  refine ev_if (fun h2 => ?_) (fun h2 => ev_some (by simp [Bool.eq_false_iff.mpr h2]))
  have h' := inB_iff.mp h
  rw [wrap_id (by omega)]
  exact ev_call (spec_l1All_ev _ _ _ hx) (ev_some (by simp [h, h2]))

theorem spec_brStands_loop (w g : List Int) (p : Nat) (hw : 0 < w.length) (hwl : w.length ≤ 1000000000000) (hg : g.length ≤ 1000000000000) (hp : p ≤ 1000000000000) : ∀ (d i : Nat), i + d = g.length →
    Ev (fun k => spec_brStands.l0 k w (p : Int) g (g.length : Int) (i : Int)) (decide ((win w p g.length).drop i = g.drop i)) := by
  intro d
  induction d with
  | zero =>
    intro i h
    rw [List.drop_eq_nil_of_le (by rw [win_length]; omega), List.drop_eq_nil_of_le (by omega)]
    refine Ev.step (f := fun _ => some true) (fun k => ?_) (Ev.now _)
    simp only [spec_brStands.l0]; rw [if_neg (by omega)]
  | succ d ih =>
    intro i h
    rw [drop_rd (win w p g.length) i (by rw [win_length]; omega), drop_rd g i (by omega)]
    have hm := Nat.mod_lt (p + i) hw
    have e1 : rd (win w p g.length) (i : Int) = rd w (((p + i) % w.length : Nat) : Int) := by rw [rd_nat, rd_nat, win_get _ _ _ _ (by omega)]
    refine Ev.step (f := fun k => if rd w (((p + i) % w.length : Nat) : Int) = rd g (i : Int) then spec_brStands.l0 k w (p : Int) g (g.length : Int) ((i + 1 : Nat) : Int) else some false) (fun k => ?_) ?_
    · simp only [spec_brStands.l0]
      rw [if_pos (by omega), if_pos (by omega), if_pos (by omega), if_neg (by omega), wrap_id (x := (p : Int) + (i : Int)) (by omega), show (p : Int) + (i : Int) = ((p + i : Nat) : Int) by omega, tmod_nat, wrap_succ (by omega)]
      rw [if_pos (by omega), if_pos (by omega)]
    · rw [e1]
      exact ev_if (fun e => ev_to (ih (i + 1) (by omega)) (by rw [e]; simp)) (fun e => ev_some (by rw [eq_comm, decide_eq_false_iff_not]; intro h; exact e (by injection h)))
theorem spec_brStands_ev (w g : List Int) (p : Nat) (hw : 0 < w.length) (hwl : w.length ≤ 1000000000000) (hg : g.length ≤ 1000000000000) (hp : p ≤ 1000000000000) :
    Ev (fun k => spec_brStands.f k w g (p : Int)) (decide (win w p g.length = g)) :=
  spec_brStands_loop w g p hw hwl hg hp g.length 0 (by omega)

theorem spec_PlacesOf_ev (w g : List Int) (hw : w.length ≤ 1048576) (hg : g.length ≤ 1048576) : Ev (fun k => spec_PlacesOf.f k w g) (PlacesOfM w g) := by
  unfold spec_PlacesOf.f PlacesOfM
  have key : cycleB w 6 = true → ∀ c, Ev (fun k => spec_PlacesOf.j0 k w g (!c)) (if cycleB w 6 = true ∧ c = true then (placesM w g, true) else ([], false)) := by
    intro h1 c
    have hc := cycleB_iff.mp h1
    refine Ev.step (fun k => by simp only [spec_PlacesOf.j0]; rfl) ?_
    cases c with
    | false => exact ev_pos rfl (ev_some (by simp))
    | true =>
      refine ev_neg (by simp) ?_
      rw [if_pos ⟨h1, rfl⟩]
      refine ev_iter (fun acc i k => spec_PlacesOf.l0 k w g acc (w.length : Int) (i : Int)) (placesIn w g) (fun i acc => acc.length ≤ i) w.length ?_ w.length 0 [] (by omega) (by simp) ?_
      · intro acc i hi hI
        refine ⟨by
          unfold placesIn
          split
          · simp; omega
          · omega, fun r k => ?_⟩
        refine Ev.step (fun k => by simp only [spec_PlacesOf.l0]; rfl) ?_
        refine ev_pos (by omega) ?_
        refine ev_call (spec_brStands_ev w g i (by omega) (by omega) (by omega) (by omega)) (ev_if (fun hd => ?_) (fun hd => ?_)) <;> simp only [decide_eq_true_eq] at hd
        · refine ev_pos (by omega) ?_
          rw [wrap_succ (by omega)]
          rw [placesIn, if_pos hd] at k; exact k
        · rw [wrap_succ (by omega)]
          rw [placesIn, if_neg hd] at k; exact k
      · intro _
        refine Ev.step (fun k => by simp only [spec_PlacesOf.l0]; rfl) (ev_neg (by omega) (Ev.now _))
  refine ev_call (spec_brCycle_ev _ _ (by omega) (by omega) (by omega)) (ev_if (fun h1 => ?_) (fun h1 => ?_))
  · exact ev_call (spec_brCycle_ev _ _ (by omega) (by omega) (by omega)) (key h1 _)
  · refine Ev.step (fun k => by simp only [spec_PlacesOf.j0]; rfl) ?_
    refine ev_pos (by trivial) (ev_some ?_)
    rw [if_neg (fun h => h1 h.1)]

theorem laws_toIntS_loop (l : List Int) (hl : l.length ≤ 35184372088832) : ∀ (d i : Nat) (ys : List Int), i + d = l.length → ys.length = l.length → ys.take i = l.take i →
    Ev (fun k => laws_toIntS.l0 k l ys (i : Int)) l := by
  intro d
  induction d with
  | zero =>
    intro i ys h1 h2 h3
    refine Ev.step (f := fun _ => some ys) (fun k => ?_) (ev_some ?_)
    · simp only [laws_toIntS.l0]; rw [if_neg (by omega)]
    · rw [List.take_of_length_le (by omega), List.take_of_length_le (by omega)] at h3
      exact h3
  | succ d ih =>
    intro i ys h1 h2 h3
    have hi : i < l.length := by omega
    refine Ev.step (f := fun k => laws_toIntS.l0 k l (ys.set i (rd l (i : Int))) ((i + 1 : Nat) : Int)) (fun k => ?_) (ih (i + 1) _ (by omega) (by simp [h2]) ?_)
    · simp only [laws_toIntS.l0]; rw [if_pos (by omega), if_pos (by omega), if_pos (by omega), wrap_succ (by omega), Int.toNat_natCast]
    · rw [take_rd l i hi, List.take_succ_eq_append_getElem (by simp; omega)]
      rw [List.take_set, h3, List.set_eq_of_length_le (by simp; omega)]; simp
theorem laws_toIntS_ev (l : List Int) (hl : l.length ≤ 35184372088832) : Ev (fun k => laws_toIntS.f k l) l := by
  unfold laws_toIntS.f
  refine ev_pos (by omega) (ev_pos (by omega) ?_)
  exact laws_toIntS_loop l hl l.length 0 _ (by omega) (by simp) rfl

theorem laws_eqIntS_loop (l : List Int) (hl : l.length ≤ 35184372088832) : ∀ (d i : Nat), i + d = l.length → Ev (fun k => laws_eqIntS.l0 k l l (i : Int)) true := by
  intro d
  induction d with
  | zero =>
    intro i h
    refine Ev.step (f := fun _ => some true) (fun k => ?_) (Ev.now _)
    simp only [laws_eqIntS.l0]; rw [if_neg (by omega)]
  | succ d ih =>
    intro i h
    refine Ev.step (f := fun k => laws_eqIntS.l0 k l l ((i + 1 : Nat) : Int)) (fun k => ?_) (ih (i + 1) (by omega))
    simp only [laws_eqIntS.l0]; rw [if_pos (by omega), if_pos (by omega), if_pos (by omega), if_pos trivial, wrap_succ (by omega)]
theorem laws_eqIntS_ev (l : List Int) (hl : l.length ≤ 35184372088832) : Ev (fun k => laws_eqIntS.f k l l) true := by
  unfold laws_eqIntS.f
  exact ev_pos rfl (laws_eqIntS_loop l hl l.length 0 (by omega))

theorem laws_markIntS_loop : ∀ (d i : Nat) (ys : List Int) (m : Int), i + d = ys.length → 0 ≤ m → m + d ≤ 1000000000000000 → ys.length ≤ 35184372088832 →
    Ev (fun k => laws_markIntS.l0 k ys m (i : Int)) (m + (d : Int), ys.take i ++ marks m d) := by
  intro d
  induction d with
  | zero =>
    intro i ys m h1 h2 h3 h4
    refine Ev.step (f := fun _ => some (m, ys)) (fun k => ?_) (ev_some ?_)
    · simp only [laws_markIntS.l0]; rw [if_neg (by omega)]
    · rw [List.take_of_length_le (by omega)]; simp [marks]
  | succ d ih =>
    intro i ys m h1 h2 h3 h4
    refine Ev.step (f := fun k => laws_markIntS.l0 k (ys.set i m) (m + 1) ((i + 1 : Nat) : Int)) (fun k => ?_) (ev_to (ih (i + 1) _ (m + 1) (by simp; omega) (by omega) (by omega) (by simpa using h4)) ?_)
    · simp only [laws_markIntS.l0]; rw [if_pos (by omega), if_pos (by omega), wrap_succ (by omega), wrap_id (by omega), Int.toNat_natCast]
    · rw [marks_succ, List.take_succ_eq_append_getElem (by simp; omega), List.take_set, List.set_eq_of_length_le (by simp; omega)]
      refine Prod.ext (by simp; omega) ?_
      simp
theorem laws_markIntS_ev (l : List Int) (m : Int) (h2 : 0 ≤ m) (h3 : m ≤ 900000000000000) (h4 : l.length ≤ 35184372088832) : Ev (fun k => laws_markIntS.f k l m) (m + (l.length : Int), marks m l.length) :=
  ev_to (laws_markIntS_loop l.length 0 l m (by omega) h2 (by omega) h4) (by simp)

theorem laws_heldIntS_loop (zs : List Int) (hz : zs.length ≤ 35184372088832) : ∀ (d i : Nat) (m : Int), i + d = zs.length → 0 ≤ m → m + d ≤ 1000000000000000 → zs.drop i = marks m d →
    Ev (fun k => laws_heldIntS.l0 k zs m (i : Int)) (m + (d : Int)) := by
  intro d
  induction d with
  | zero =>
    intro i m h1 h2 h3 h4
    refine Ev.step (f := fun _ => some m) (fun k => ?_) (ev_some (by simp))
    simp only [laws_heldIntS.l0]; rw [if_neg (by omega)]
  | succ d ih =>
    intro i m h1 h2 h3 h4
    rw [drop_rd zs i (by omega), marks_succ, List.cons.injEq] at h4
    refine Ev.step (f := fun k => laws_heldIntS.l0 k zs (m + 1) ((i + 1 : Nat) : Int)) (fun k => ?_) (ev_to (ih (i + 1) (m + 1) (by omega) (by omega) (by omega) h4.2) (by omega))
    simp only [laws_heldIntS.l0]; rw [if_pos (by omega), if_pos (by omega), if_pos h4.1, wrap_succ (by omega), wrap_id (by omega)]
theorem laws_heldIntS_ev (m : Int) (n : Nat) (h2 : 0 ≤ m) (h3 : m ≤ 900000000000000) (h4 : n ≤ 35184372088832) : Ev (fun k => laws_heldIntS.f k (marks m n) m) (m + (n : Int)) :=
  laws_heldIntS_loop (marks m n) (by simpa [marks_length] using h4) n 0 m (by simp [marks_length]) h2 (by omega) rfl

theorem FnExactPlacesOf : laws_FnExactPlacesOf.Pure := by
  intro l g h_l1 h_l2 h_l3 h_g1 h_g2 h_g3
  refine Ev.rounds (r := true) ?_
  unfold laws_FnExactPlacesOf.f
  refine ev_if (fun _ => Ev.now _) (fun hb_l => ?_)
  have hl_l : l.length ≤ 1048576 := by omega
  clear h_l1 h_l2 hb_l
  refine ev_if (fun _ => Ev.now _) (fun hb_g => ?_)
  have hl_g : g.length ≤ 1048576 := by omega
  clear h_g1 h_g2 hb_g
  have I_ := impl_PlacesOf_ev l g (by omega) (by omega)
  have S_ := spec_PlacesOf_ev l g (by omega) (by omega)
  have hr := PlacesOfM_length l g
  generalize PlacesOfM l g = m_ at I_ S_ hr
  obtain ⟨r_, b_⟩ := m_
  dsimp only at hr
  repeat (first
    | exact Ev.now _
    | refine ev_call (laws_toIntS_ev l (by omega)) ?_
    | refine ev_call (laws_toIntS_ev g (by omega)) ?_
    | (refine ev_call S_ ?_; try dsimp only)
    | (refine ev_call I_ ?_; try dsimp only)
    | refine ev_call (laws_eqIntS_ev _ (by first | assumption | omega)) ?_
    | (refine ev_call (laws_markIntS_ev _ _ (by omega) (by omega) (by omega)) ?_; dsimp only)
    | refine ev_call (laws_heldIntS_ev _ _ (by omega) (by omega) (by omega)) ?_
    | refine ev_pos rfl ?_
    | refine ev_neg (bne_no _) ?_
    | refine ev_neg (by omega) ?_
    | refine Ev.step (fun k => by simp only [laws_FnExactPlacesOf.j0]; rfl) ?_
    | refine Ev.step (fun k => by simp only [laws_FnExactPlacesOf.j1]; rfl) ?_
    | refine Ev.step (fun k => by simp only [laws_FnExactPlacesOf.j2]; rfl) ?_)

end Go.Proofs.Ytdhmdlecagjohaa.Pure
