/- The pure statement of WindowAt: program and reference answer alike, for all arguments; no condition. -/
import Derived.Test.YtdhmdlecagjohaaPFnExactWindowAtx3
import Derived.Test.YtdhmdlecagjohaaBase
namespace Go.Proofs.Ytdhmdlecagjohaa.Pure
open Go.RowKit Go.Proofs.Ytdhmdlecagjohaa.PFnExactWindowAt Go.Proofs.YtdhmdlecagjohaaW.PrintWords Go.Proofs.YtdhmdlecagjohaaW.PrintLast Go.Proofs.Ytdhmdlecagjohaa.Base
set_option maxRecDepth 10000

def WindowAtM (l : List Int) (n p : Int) : List Int × Bool := if cycleB l 6 = true ∧ (1 ≤ n ∧ n ≤ 1024) ∧ (0 ≤ p ∧ p ≤ (l.length : Int) - 1) then (win l p.toNat n.toNat, true) else ([], false)
theorem WindowAtM_length (l : List Int) (n p : Int) : (WindowAtM l n p).1.length ≤ 1024 := by
  unfold WindowAtM
  split
  · rw [win_length]; omega
  · simp

theorem impl_within_eq (a lo hi : Int) : impl_within.f a lo hi = some (inB a lo hi) := by
  unfold impl_within.f inB
  by_cases h : a ≥ lo
  · rw [if_pos h]; simp [h]
  · rw [if_neg h]; simp [show ¬ lo ≤ a from h]

theorem impl_allWithin_loop (lo hi : Int) (xs : List Int) (hx : xs.length ≤ 1000000000000) : ∀ (d i : Nat), i + d = xs.length →
    Ev (fun k => impl_allWithin.l0 k lo hi xs (xs.length : Int) (i : Int)) (allB (xs.drop i) lo hi) := by
  intro d
  induction d with
  | zero =>
    intro i h
    rw [List.drop_eq_nil_of_le (by omega)]
    refine Ev.step (f := fun _ => some true) (fun k => ?_) (Ev.now _)
    simp only [impl_allWithin.l0]; rw [if_neg (by omega)]
  | succ d ih =>
    intro i h
    have hlt : i < xs.length := by omega
    rw [drop_rd xs i hlt]
    refine Ev.step (f := fun k => if inB (rd xs (i : Int)) lo hi = true then impl_allWithin.l0 k lo hi xs (xs.length : Int) ((i + 1 : Nat) : Int) else some false) (fun k => ?_) ?_
    · simp only [impl_allWithin.l0]; rw [if_pos (by omega), if_pos (by omega), if_pos (by omega), impl_within_eq, wrap_succ (by omega)]; rfl
    · by_cases hb : inB (rd xs (i : Int)) lo hi = true
      · exact ev_pos hb (ev_to (ih (i + 1) (by omega)) (by simp [allB, hb]))
      · exact ev_neg hb (ev_some (by simp [allB, Bool.eq_false_iff.mpr hb]))
theorem impl_allWithin_ev (lo hi : Int) (xs : List Int) (hx : xs.length ≤ 1000000000000) : Ev (fun k => impl_allWithin.f k xs lo hi) (allB xs lo hi) :=
  impl_allWithin_loop lo hi xs hx xs.length 0 (by omega)

theorem impl_IsCycle_ev (xs : List Int) (k : Int) (hx : xs.length ≤ 1000000000000) (hk : -9223372036854775808 ≤ k) (hk2 : k ≤ 9223372036854775807) : Ev (fun n => impl_IsCycle.f n xs k) (cycleB xs k) := by
  unfold impl_IsCycle.f cycleB
  refine ev_plain (impl_within_eq _ _ _) ?_
  refine ev_if (fun h => ?_) (fun h => ev_some (by simp [Bool.eq_false_iff.mpr h]))
  refine ev_plain (impl_within_eq _ _ _) ?_
  refine ev_if (fun h2 => ?_) (fun h2 => ev_some (by simp [Bool.eq_false_iff.mpr h2]))
  have h' := inB_iff.mp h
  rw [wrap_id (by omega)]
  exact ev_call (impl_allWithin_ev _ _ _ hx) (ev_some (by simp [h, h2]))

theorem impl_isCycle_ev (xs : List Int) (hx : xs.length ≤ 1000000000000) : Ev (fun n => impl_isCycle.f n xs) (cycleB xs 6) := by
  unfold impl_isCycle.f
  exact ev_call (impl_IsCycle_ev _ _ hx (by omega) (by omega)) (ev_some rfl)

theorem impl_window_loop (w : List Int) (n p : Nat) (hw : 0 < w.length) (hwl : w.length ≤ 1000000000000) (hn : n ≤ 1000000000000) (hp : p ≤ 1000000000000) : ∀ (d i : Nat) (acc : List Int), i + d = n → acc.length = i →
    Ev (fun k => impl_window.l0 k w (p : Int) acc (n : Int) (i : Int)) (acc ++ (List.range' i d).map fun j => w.getD ((p + j) % w.length) 0) := by
  intro d
  induction d with
  | zero =>
    intro i acc h ha
    refine Ev.step (f := fun _ => some acc) (fun k => ?_) (ev_some (by simp))
    simp only [impl_window.l0]; rw [if_neg (by omega)]
  | succ d ih =>
    intro i acc h ha
    refine Ev.step (f := fun k => impl_window.l0 k w (p : Int) (acc ++ [w.getD ((p + i) % w.length) 0]) (n : Int) ((i + 1 : Nat) : Int)) (fun k => ?_) (ev_to (ih (i + 1) _ (by omega) (by simp [ha])) ?_)
    · simp only [impl_window.l0]
      rw [if_pos (by omega), if_neg (by omega), wrap_id (x := (p : Int) + (i : Int)) (by omega), show (p : Int) + (i : Int) = ((p + i : Nat) : Int) by omega, tmod_nat, wrap_succ (by omega)]
      have hm := Nat.mod_lt (p + i) hw
      rw [if_pos (by omega), if_pos (by omega), if_pos (by omega), rd_nat]
    · simp [List.range'_succ]
theorem impl_window_ev (w : List Int) (n p : Nat) (hw : 0 < w.length) (hwl : w.length ≤ 1000000000000) (hn : n ≤ 1000000000000) (hp : p ≤ 1000000000000) : Ev (fun k => impl_window.f k w (n : Int) (p : Int)) (win w p n) :=
  ev_to (impl_window_loop w n p hw hwl hn hp n 0 [] (by omega) rfl) (by simp [win])

theorem impl_WindowAt_ev (l : List Int) (n p : Int) (hl : l.length ≤ 1048576) (hn : -9223372036854775808 ≤ n ∧ n ≤ 9223372036854775807) (hp : -9223372036854775808 ≤ p ∧ p ≤ 9223372036854775807) :
    Ev (fun k => impl_WindowAt.f k l n p) (WindowAtM l n p) := by
  unfold impl_WindowAt.f WindowAtM
  refine ev_call (impl_isCycle_ev _ (by omega)) (ev_if (fun h1 => ?_) (fun h1 => ev_some (by rw [if_neg (fun h => h1 h.1)])))
  refine ev_plain (impl_within_eq _ _ _) (ev_if (fun h2 => ?_) (fun h2 => ev_some (by rw [if_neg (fun h => h2 (inB_iff.mpr h.2.1))])))
  have hc := cycleB_iff.mp h1
  have hn2 := inB_iff.mp h2
  rw [wrap_id (by omega)]
  refine ev_plain (impl_within_eq _ _ _) (ev_if (fun h3 => ?_) (fun h3 => ev_some (by rw [if_neg (fun h => h3 (inB_iff.mpr h.2.2))])))
  have hp2 := inB_iff.mp h3
  obtain ⟨n, rfl⟩ := Int.eq_ofNat_of_zero_le (show 0 ≤ n by omega)
  obtain ⟨p, rfl⟩ := Int.eq_ofNat_of_zero_le hp2.1
  refine ev_call (impl_window_ev l n p (by omega) (by omega) (by omega) (by omega)) (ev_some ?_)
  rw [if_pos ⟨h1, hn2, hp2⟩]; simp

theorem spec_l1In_eq (a lo hi : Int) : spec_l1In.f a lo hi = some (inB a lo hi) := by
  unfold spec_l1In.f inB
  by_cases h : a ≥ lo
  · rw [if_pos h]; simp [h]
  · rw [if_neg h]; simp [show ¬ lo ≤ a from h]

theorem spec_l1All_loop (lo hi : Int) (xs : List Int) (hx : xs.length ≤ 1000000000000) : ∀ (d i : Nat), i + d = xs.length →
    Ev (fun k => spec_l1All.l0 k lo hi xs (xs.length : Int) (i : Int)) (allB (xs.drop i) lo hi) := by
  intro d
  induction d with
  | zero =>
    intro i h
    rw [List.drop_eq_nil_of_le (by omega)]
    refine Ev.step (f := fun _ => some true) (fun k => ?_) (Ev.now _)
    simp only [spec_l1All.l0]; rw [if_neg (by omega)]
  | succ d ih =>
    intro i h
    have hlt : i < xs.length := by omega
    rw [drop_rd xs i hlt]
    refine Ev.step (f := fun k => if inB (rd xs (i : Int)) lo hi = true then spec_l1All.l0 k lo hi xs (xs.length : Int) ((i + 1 : Nat) : Int) else some false) (fun k => ?_) ?_
    · simp only [spec_l1All.l0]; rw [if_pos (by omega), if_pos (by omega), if_pos (by omega), spec_l1In_eq, wrap_succ (by omega)]; rfl
    · by_cases hb : inB (rd xs (i : Int)) lo hi = true
      · exact ev_pos hb (ev_to (ih (i + 1) (by omega)) (by simp [allB, hb]))
      · exact ev_neg hb (ev_some (by simp [allB, Bool.eq_false_iff.mpr hb]))
theorem spec_l1All_ev (lo hi : Int) (xs : List Int) (hx : xs.length ≤ 1000000000000) : Ev (fun k => spec_l1All.f k xs lo hi) (allB xs lo hi) :=
  spec_l1All_loop lo hi xs hx xs.length 0 (by omega)

theorem spec_brCycle_ev (xs : List Int) (k : Int) (hx : xs.length ≤ 1000000000000) (hk : -9223372036854775808 ≤ k) (hk2 : k ≤ 9223372036854775807) : Ev (fun n => spec_brCycle.f n xs k) (cycleB xs k) := by
  unfold spec_brCycle.f cycleB
  refine ev_plain (spec_l1In_eq _ _ _) ?_
  refine ev_if (fun h => ?_) (fun h => ev_some (by simp [Bool.eq_false_iff.mpr h]))
  refine ev_plain (spec_l1In_eq _ _ _) ?_
  refine ev_if (fun h2 => ?_) (fun h2 => ev_some (by simp [Bool.eq_false_iff.mpr h2]))
  have h' := inB_iff.mp h
  rw [wrap_id (by omega)]
  exact ev_call (spec_l1All_ev _ _ _ hx) (ev_some (by simp [h, h2]))

theorem spec_brWindow_loop (w : List Int) (n p : Nat) (hw : 0 < w.length) (hwl : w.length ≤ 1000000000000) (hn : n ≤ 1000000000000) (hp : p ≤ 1000000000000) : ∀ (d i : Nat) (acc : List Int), i + d = n → acc.length = i →
    Ev (fun k => spec_brWindow.l0 k w (n : Int) (p : Int) acc (i : Int)) (acc ++ (List.range' i d).map fun j => w.getD ((p + j) % w.length) 0) := by
  intro d
  induction d with
  | zero =>
    intro i acc h ha
    refine Ev.step (f := fun _ => some acc) (fun k => ?_) (ev_some (by simp))
    simp only [spec_brWindow.l0]; rw [if_neg (by omega)]
  | succ d ih =>
    intro i acc h ha
    refine Ev.step (f := fun k => spec_brWindow.l0 k w (n : Int) (p : Int) (acc ++ [w.getD ((p + i) % w.length) 0]) ((i + 1 : Nat) : Int)) (fun k => ?_) (ev_to (ih (i + 1) _ (by omega) (by simp [ha])) ?_)
    · simp only [spec_brWindow.l0]
      rw [if_pos (by omega), if_neg (by omega), wrap_id (x := (p : Int) + (i : Int)) (by omega), show (p : Int) + (i : Int) = ((p + i : Nat) : Int) by omega, tmod_nat, wrap_succ (by omega)]
      have hm := Nat.mod_lt (p + i) hw
      rw [if_pos (by omega), if_pos (by omega), if_pos (by omega), rd_nat]
    · simp [List.range'_succ]
theorem spec_brWindow_ev (w : List Int) (n p : Nat) (hw : 0 < w.length) (hwl : w.length ≤ 1000000000000) (hn : n ≤ 1000000000000) (hp : p ≤ 1000000000000) : Ev (fun k => spec_brWindow.f k w (n : Int) (p : Int)) (win w p n) :=
  ev_to (spec_brWindow_loop w n p hw hwl hn hp n 0 [] (by omega) rfl) (by simp [win])

theorem spec_WindowAt_ev (l : List Int) (n p : Int) (hl : l.length ≤ 1048576) (hn : -9223372036854775808 ≤ n ∧ n ≤ 9223372036854775807) (hp : -9223372036854775808 ≤ p ∧ p ≤ 9223372036854775807) :
    Ev (fun k => spec_WindowAt.f k l n p) (WindowAtM l n p) := by
  unfold spec_WindowAt.f WindowAtM
  refine ev_call (spec_brCycle_ev _ _ (by omega) (by omega) (by omega)) (ev_if (fun h1 => ?_) (fun h1 => ev_some (by rw [if_neg (fun h => h1 h.1)])))
  refine ev_plain (spec_l1In_eq _ _ _) (ev_if (fun h2 => ?_) (fun h2 => ev_some (by rw [if_neg (fun h => h2 (inB_iff.mpr h.2.1))])))
  have hc := cycleB_iff.mp h1
  have hn2 := inB_iff.mp h2
  rw [wrap_id (by omega)]
  refine ev_plain (spec_l1In_eq _ _ _) (ev_if (fun h3 => ?_) (fun h3 => ev_some (by rw [if_neg (fun h => h3 (inB_iff.mpr h.2.2))])))
  have hp2 := inB_iff.mp h3
  obtain ⟨n, rfl⟩ := Int.eq_ofNat_of_zero_le (show 0 ≤ n by omega)
  obtain ⟨p, rfl⟩ := Int.eq_ofNat_of_zero_le hp2.1
  refine ev_call (spec_brWindow_ev l n p (by omega) (by omega) (by omega) (by omega)) (ev_some ?_)
  rw [if_pos ⟨h1, hn2, hp2⟩]; simp

theorem laws_toIntS_loop (l : List Int) (hl : l.length ≤ 35184372088832) : ∀ (d i : Nat) (ys : List Int), i + d = l.length → ys.length = l.length → ys.take i = l.take i →
    Ev (fun k => laws_toIntS.l0 k l ys (i : Int)) l := by
  intro d
  induction d with
  | zero =>
    intro i ys h1 h2 h3
    refine Ev.step (f := fun _ => some ys) (fun k => ?_) (ev_some ?_)
    · simp only [laws_toIntS.l0]; rw [if_neg (by omega)]
    · rw [List.take_of_length_le (by omega), List.take_of_length_le (by omega)] at h3
      exact h3
  | succ d ih =>
    intro i ys h1 h2 h3
    have hi : i < l.length := by omega
    refine Ev.step (f := fun k => laws_toIntS.l0 k l (ys.set i (rd l (i : Int))) ((i + 1 : Nat) : Int)) (fun k => ?_) (ih (i + 1) _ (by omega) (by simp [h2]) ?_)
    · simp only [laws_toIntS.l0]; rw [if_pos (by omega), if_pos (by omega), if_pos (by omega), wrap_succ (by omega), Int.toNat_natCast]
    · rw [take_rd l i hi, List.take_succ_eq_append_getElem (by simp; omega)]
      rw [List.take_set, h3, List.set_eq_of_length_le (by simp; omega)]; simp
theorem laws_toIntS_ev (l : List Int) (hl : l.length ≤ 35184372088832) : Ev (fun k => laws_toIntS.f k l) l := by
  unfold laws_toIntS.f
  refine ev_pos (by omega) (ev_pos (by omega) ?_)
  exact laws_toIntS_loop l hl l.length 0 _ (by omega) (by simp) rfl

theorem laws_eqIntS_loop (l : List Int) (hl : l.length ≤ 35184372088832) : ∀ (d i : Nat), i + d = l.length → Ev (fun k => laws_eqIntS.l0 k l l (i : Int)) true := by
  intro d
  induction d with
  | zero =>
    intro i h
    refine Ev.step (f := fun _ => some true) (fun k => ?_) (Ev.now _)
    simp only [laws_eqIntS.l0]; rw [if_neg (by omega)]
  | succ d ih =>
    intro i h
    refine Ev.step (f := fun k => laws_eqIntS.l0 k l l ((i + 1 : Nat) : Int)) (fun k => ?_) (ih (i + 1) (by omega))
    simp only [laws_eqIntS.l0]; rw [if_pos (by omega), if_pos (by omega), if_pos (by omega), if_pos trivial, wrap_succ (by omega)]
theorem laws_eqIntS_ev (l : List Int) (hl : l.length ≤ 35184372088832) : Ev (fun k => laws_eqIntS.f k l l) true := by
  unfold laws_eqIntS.f
  exact ev_pos rfl (laws_eqIntS_loop l hl l.length 0 (by omega))

theorem laws_markIntS_loop : ∀ (d i : Nat) (ys : List Int) (m : Int), i + d = ys.length → 0 ≤ m → m + d ≤ 1000000000000000 → ys.length ≤ 35184372088832 →
    Ev (fun k => laws_markIntS.l0 k ys m (i : Int)) (m + (d : Int), ys.take i ++ marks m d) := by
  intro d
  induction d with
  | zero =>
    intro i ys m h1 h2 h3 h4
    refine Ev.step (f := fun _ => some (m, ys)) (fun k => ?_) (ev_some ?_)
    · simp only [laws_markIntS.l0]; rw [if_neg (by omega)]
    · rw [List.take_of_length_le (by omega)]; simp [marks]
  | succ d ih =>
    intro i ys m h1 h2 h3 h4
    refine Ev.step (f := fun k => laws_markIntS.l0 k (ys.set i m) (m + 1) ((i + 1 : Nat) : Int)) (fun k => ?_) (ev_to (ih (i + 1) _ (m + 1) (by simp; omega) (by omega) (by omega) (by simpa using h4)) ?_)
    · simp only [laws_markIntS.l0]; rw [if_pos (by omega), if_pos (by omega), wrap_succ (by omega), wrap_id (by omega), Int.toNat_natCast]
    · rw [marks_succ, List.take_succ_eq_append_getElem (by simp; omega), List.take_set, List.set_eq_of_length_le (by simp; omega)]
      refine Prod.ext (by simp; omega) ?_
      simp
theorem laws_markIntS_ev (l : List Int) (m : Int) (h2 : 0 ≤ m) (h3 : m ≤ 900000000000000) (h4 : l.length ≤ 35184372088832) : Ev (fun k => laws_markIntS.f k l m) (m + (l.length : Int), marks m l.length) :=
  ev_to (laws_markIntS_loop l.length 0 l m (by omega) h2 (by omega) h4) (by simp)

theorem laws_heldIntS_loop (zs : List Int) (hz : zs.length ≤ 35184372088832) : ∀ (d i : Nat) (m : Int), i + d = zs.length → 0 ≤ m → m + d ≤ 1000000000000000 → zs.drop i = marks m d →
    Ev (fun k => laws_heldIntS.l0 k zs m (i : Int)) (m + (d : Int)) := by
  intro d
  induction d with
  | zero =>
    intro i m h1 h2 h3 h4
    refine Ev.step (f := fun _ => some m) (fun k => ?_) (ev_some (by simp))
    simp only [laws_heldIntS.l0]; rw [if_neg (by omega)]
  | succ d ih =>
    intro i m h1 h2 h3 h4
    rw [drop_rd zs i (by omega), marks_succ, List.cons.injEq] at h4
    refine Ev.step (f := fun k => laws_heldIntS.l0 k zs (m + 1) ((i + 1 : Nat) : Int)) (fun k => ?_) (ev_to (ih (i + 1) (m + 1) (by omega) (by omega) (by omega) h4.2) (by omega))
    simp only [laws_heldIntS.l0]; rw [if_pos (by omega), if_pos (by omega), if_pos h4.1, wrap_succ (by omega), wrap_id (by omega)]
theorem laws_heldIntS_ev (m : Int) (n : Nat) (h2 : 0 ≤ m) (h3 : m ≤ 900000000000000) (h4 : n ≤ 35184372088832) : Ev (fun k => laws_heldIntS.f k (marks m n) m) (m + (n : Int)) :=
  laws_heldIntS_loop (marks m n) (by simpa [marks_length] using h4) n 0 m (by simp [marks_length]) h2 (by omega) rfl

theorem FnExactWindowAt : laws_FnExactWindowAt.Pure := by
  intro l n p h_l1 h_l2 h_l3 h_n h_p
  refine Ev.rounds (r := true) ?_
  unfold laws_FnExactWindowAt.f
  refine ev_if (fun _ => Ev.now _) (fun hb_l => ?_)
  have hl_l : l.length ≤ 1048576 := by omega
  clear h_l1 h_l2 hb_l
  have hw_n := wf_in h_n
  have hw_p := wf_in h_p
  have I_ := impl_WindowAt_ev l n p (by omega) hw_n hw_p
  have S_ := spec_WindowAt_ev l n p (by omega) hw_n hw_p
  have hr := WindowAtM_length l n p
  generalize WindowAtM l n p = m_ at I_ S_ hr
  obtain ⟨r_, b_⟩ := m_
  dsimp only at hr
  repeat (first
    | exact Ev.now _
    | refine ev_call (laws_toIntS_ev l (by omega)) ?_
    | (refine ev_call S_ ?_; try dsimp only)
    | (refine ev_call I_ ?_; try dsimp only)
    | refine ev_call (laws_eqIntS_ev _ (by first | assumption | omega)) ?_
    | (refine ev_call (laws_markIntS_ev _ _ (by omega) (by omega) (by omega)) ?_; dsimp only)
    | refine ev_call (laws_heldIntS_ev _ _ (by omega) (by omega) (by omega)) ?_
    | refine ev_pos rfl ?_
    | refine ev_neg (bne_no _) ?_
    | refine ev_neg (by omega) ?_
    | refine Ev.step (fun k => by simp only [laws_FnExactWindowAt.j0]; rfl) ?_
    | refine Ev.step (fun k => by simp only [laws_FnExactWindowAt.j1]; rfl) ?_
    | refine Ev.step (fun k => by simp only [laws_FnExactWindowAt.j2]; rfl) ?_)

end Go.Proofs.Ytdhmdlecagjohaa.Pure
