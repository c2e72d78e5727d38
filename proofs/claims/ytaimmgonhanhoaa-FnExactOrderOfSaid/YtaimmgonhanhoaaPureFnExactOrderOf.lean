/- The pure statement of OrderOf: program and reference answer alike, for all arguments; no condition. -/
import Derived.Test.YtaimmgonhanhoaaPFnExactOrderOfx3
import Derived.Test.YtaimmgonhanhoaaBase
import Derived.Test.YtaimmgonhanhoaaLists
namespace Go.Proofs.Ytaimmgonhanhoaa.Pure
open Go.RowKit Go.Proofs.Ytaimmgonhanhoaa.PFnExactOrderOf Go.Proofs.YtaimmgonhanhoaaW.PrintWords Go.Proofs.YtaimmgonhanhoaaW.PrintLast Go.Proofs.Ytaimmgonhanhoaa.Base
set_option maxRecDepth 10000

def orderM (l : List Int) : List Int := l.map fun x => ((l.countP (fun y => decide (y < x)) : Nat) : Int)
theorem orderM_length (l : List Int) : (orderM l).length = l.length := by simp [orderM]
theorem orderM_take (l : List Int) (i : Nat) (h : i < l.length) : (orderM l).take (i + 1) = (orderM l).take i ++ [((l.countP (fun y => decide (y < rd l (i : Int))) : Nat) : Int)] := by
  rw [rd_get l i h, List.take_succ_eq_append_getElem (by rw [orderM_length]; exact h)]
  simp [orderM]
def OrderOfM (l : List Int) : List Int × Bool := if l.length ≤ 12 ∧ l.Nodup then (orderM l, true) else ([], false)
theorem OrderOfM_length (l : List Int) : (OrderOfM l).1.length ≤ 1024 := by
  unfold OrderOfM
  split
  · rw [orderM_length]; omega
  · simp

theorem impl_increasing_loop (l : List Int) (hl : l.length ≤ 1000000000000) : ∀ (d j : Nat), j + 1 + d = l.length → Ev (fun k => impl_increasing.l0 k l ((j + 1 : Nat) : Int)) (chainB (l.drop j)) := by
  intro d
  induction d with
  | zero =>
    intro j h
    rw [drop_rd l j (by omega), List.drop_eq_nil_of_le (by omega)]
    exact Ev.step (fun k => by simp only [impl_increasing.l0]; rfl) (ev_neg (by omega) (ev_some (by simp [chainB])))
  | succ d ih =>
    intro j h
    rw [drop_rd l j (by omega), drop_rd l (j + 1) (by omega)]
    refine Ev.step (fun k => by simp only [impl_increasing.l0]; rfl) ?_
    rw [wrap_pred (by omega), wrap_succ (by omega)]
    refine ev_pos (by omega) (ev_pos (by omega) (ev_pos (by omega) (ev_pos (by omega) ?_)))
    refine ev_if (fun e => ev_some ?_) (fun e => ev_to (ih (j + 1) (by omega)) ?_)
    · simp only [chainB]; rw [decide_eq_false (by omega)]; rfl
    · rw [drop_rd l (j + 1) (by omega)]; simp only [chainB]; rw [decide_eq_true (by omega)]; rfl
theorem impl_increasing_ev (l : List Int) (hl : l.length ≤ 1000000000000) : Ev (fun k => impl_increasing.f k l) (chainB l) := by
  unfold impl_increasing.f
  by_cases h : l.length = 0
  · obtain rfl := List.eq_nil_of_length_eq_zero h
    exact Ev.step (fun k => by simp only [impl_increasing.l0]; rfl) (ev_neg (by simp) (Ev.now _))
  · exact impl_increasing_loop l hl (l.length - 1) 0 (by omega)

theorem impl_different_ev (l : List Int) (hl : l.length ≤ 1000000000000) : Ev (fun k => impl_different.f k l) (decide l.Nodup) := by
  unfold impl_different.f
  refine ev_pos (by omega) ?_
  rw [← chain_srt]
  exact impl_increasing_ev (srt l) (by rw [srt_length]; exact hl)

theorem impl_orderOf_in (l acc : List Int) (i : Nat) (r : List Int) (hl : l.length ≤ 1024) (ha : acc.length ≤ 1024) (hi : i < l.length)
    (k : Ev (fun k => impl_orderOf.l0 k l (acc ++ [((l.countP (fun y => decide (y < rd l (i : Int))) : Nat) : Int)]) l (l.length : Int) ((i + 1 : Nat) : Int)) r) :
    Ev (fun k => impl_orderOf.l1 k l acc (rd l (i : Int)) 0 l (l.length : Int) (i : Int) l (l.length : Int) 0) r := by
  refine ev_iter (fun (c : Nat) j k => impl_orderOf.l1 k l acc (rd l (i : Int)) (c : Int) l (l.length : Int) (i : Int) l (l.length : Int) (j : Int)) (fun c j => if l.getD j 0 < rd l (i : Int) then c + 1 else c) (fun j c => c ≤ j) l.length ?_ l.length 0 0 (by omega) (by omega) ?_
  · intro c j hj hI
    refine ⟨by split <;> omega, fun r k => ?_⟩
    refine Ev.step (fun k => by simp only [impl_orderOf.l1]; rfl) ?_
    rw [wrap_succ (i := j) (by omega), rd_nat l j]
    refine ev_pos (by omega) (ev_pos (by omega) (ev_pos (by omega) ?_))
    refine ev_if (fun e => ?_) (fun e => ?_)
    · rw [wrap_succ (i := c) (by omega)]
      rw [if_pos e] at k; exact k
    · rw [if_neg e] at k; exact k
  · intro _
    refine Ev.step (fun k => by simp only [impl_orderOf.l1]; rfl) (ev_neg (by omega) (ev_pos (by omega) ?_))
    rw [count_index, wrap_succ (i := i) (by omega)]
    exact k
theorem impl_orderOf_ev (l : List Int) (hl : l.length ≤ 1024) : Ev (fun k => impl_orderOf.f k l) (orderM l) := by
  unfold impl_orderOf.f
  refine ev_iter (fun (acc : List Int) i k => impl_orderOf.l0 k l acc l (l.length : Int) (i : Int)) (fun acc i => acc ++ [((l.countP (fun y => decide (y < rd l (i : Int))) : Nat) : Int)]) (fun i acc => acc = (orderM l).take i) l.length ?_ l.length 0 [] (by omega) (by simp) ?_
  · intro acc i hi hI
    refine ⟨by rw [hI, orderM_take l i hi], fun r k => ?_⟩
    refine Ev.step (fun k => by simp only [impl_orderOf.l0]; rfl) (ev_pos (by omega) (ev_pos (by omega) (ev_pos (by omega) ?_)))
    exact impl_orderOf_in l acc i r hl (by rw [hI]; simp; omega) hi k
  · intro h
    exact Ev.step (fun k => by simp only [impl_orderOf.l0]; rfl) (ev_neg (by omega) (ev_some (by rw [h, List.take_of_length_le (by rw [orderM_length]; omega)])))

theorem impl_OrderOf_ev (l : List Int) : Ev (fun k => impl_OrderOf.f k l) (OrderOfM l) := by
  unfold impl_OrderOf.f OrderOfM
  refine ev_if (fun h => ev_some (by rw [if_neg (fun h2 => by omega)])) (fun h => ?_)
  refine ev_call (impl_different_ev l (by omega)) (ev_if (fun h2 => ?_) (fun h2 => ev_some (by rw [if_neg (fun h3 => h2 (by simpa using h3.2))])))
  exact ev_call (impl_orderOf_ev l (by omega)) (ev_some (by rw [if_pos ⟨by omega, by simpa using h2⟩]))

theorem spec_l1Has_loop (l : List Int) (x : Int) (hl : l.length ≤ 1000000000000) : ∀ (d i : Nat), i + d = l.length → Ev (fun k => spec_l1Has.l0 k x l (l.length : Int) (i : Int)) (decide (x ∈ l.drop i)) := by
  intro d
  induction d with
  | zero =>
    intro i h
    rw [List.drop_eq_nil_of_le (by omega)]
    exact Ev.step (fun k => by simp only [spec_l1Has.l0]; rfl) (ev_neg (by omega) (ev_some (by simp)))
  | succ d ih =>
    intro i h
    rw [drop_rd l i (by omega)]
    refine Ev.step (fun k => by simp only [spec_l1Has.l0]; rfl) ?_
    rw [wrap_succ (by omega)]
    refine ev_pos (by omega) (ev_pos (by omega) (ev_pos (by omega) ?_))
    exact ev_if (fun e => ev_some (by simp [e])) (fun e => ev_to (ih (i + 1) (by omega)) (by rw [decide_eq_decide, List.mem_cons]; exact ⟨.inr, fun h => h.resolve_left (fun h => e h.symm)⟩))
theorem spec_l1Has_ev (l : List Int) (x : Int) (hl : l.length ≤ 1000000000000) : Ev (fun k => spec_l1Has.f k l x) (decide (x ∈ l)) :=
  spec_l1Has_loop l x hl l.length 0 (by omega)

theorem spec_suOrder_in (l acc : List Int) (i : Nat) (r : List Int × Bool) (hl : l.length ≤ 1024) (ha : acc.length ≤ 1024) (hi : i < l.length)
    (k : Ev (fun k => spec_suOrder.l0 k l (acc ++ [((l.countP (fun y => decide (y < rd l (i : Int))) : Nat) : Int)]) l (l.length : Int) ((i + 1 : Nat) : Int)) r) :
    Ev (fun k => spec_suOrder.l1 k l acc (rd l (i : Int)) 0 l (l.length : Int) (i : Int) l (l.length : Int) 0) r := by
  refine ev_iter (fun (c : Nat) j k => spec_suOrder.l1 k l acc (rd l (i : Int)) (c : Int) l (l.length : Int) (i : Int) l (l.length : Int) (j : Int)) (fun c j => if l.getD j 0 < rd l (i : Int) then c + 1 else c) (fun j c => c ≤ j) l.length ?_ l.length 0 0 (by omega) (by omega) ?_
  · intro c j hj hI
    refine ⟨by split <;> omega, fun r k => ?_⟩
    refine Ev.step (fun k => by simp only [spec_suOrder.l1]; rfl) ?_
    rw [wrap_succ (i := j) (by omega), rd_nat l j]
    refine ev_pos (by omega) (ev_pos (by omega) (ev_pos (by omega) ?_))
    refine ev_if (fun e => ?_) (fun e => ?_)
    · rw [wrap_succ (i := c) (by omega)]
      rw [if_pos e] at k; exact k
    · rw [if_neg e] at k; exact k
  · intro _
    refine Ev.step (fun k => by simp only [spec_suOrder.l1]; rfl) (ev_neg (by omega) (ev_pos (by omega) ?_))
    rw [count_index, wrap_succ (i := i) (by omega)]
    exact k
theorem spec_suOrder_loop (l : List Int) (hl : l.length ≤ 1024) : ∀ (d i : Nat), i + d = l.length → (l.take i).Nodup →
    Ev (fun k => spec_suOrder.l0 k l ((orderM l).take i) l (l.length : Int) (i : Int)) (if l.Nodup then (orderM l, true) else ([], false)) := by
  intro d
  induction d with
  | zero =>
    intro i h1 h2
    rw [List.take_of_length_le (by omega)] at h2
    rw [if_pos h2]
    exact Ev.step (fun k => by simp only [spec_suOrder.l0]; rfl) (ev_neg (by omega) (ev_some (by rw [List.take_of_length_le (by rw [orderM_length]; omega)])))
  | succ d ih =>
    intro i h1 h2
    have ht := take_rd l i (by omega)
    have hsplit : l = l.take i ++ rd l (i : Int) :: l.drop (i + 1) := by rw [← drop_rd l i (by omega), List.take_append_drop]
    refine Ev.step (fun k => by simp only [spec_suOrder.l0]; rfl) ?_
    rw [Int.toNat_natCast]
    refine ev_pos (by omega) (ev_pos (by omega) (ev_pos (by omega) (ev_pos (by omega) (ev_call (spec_l1Has_ev (l.take i) (rd l (i : Int)) (by simp; omega)) (ev_if (fun h6 => ev_some ?_) (fun h6 => ?_))))))
    · rw [if_neg]
      intro hn
      rw [hsplit, List.nodup_append] at hn
      exact hn.2.2 _ (by simpa using h6) (rd l (i : Int)) (by simp) rfl
    · have hni : rd l (i : Int) ∉ l.take i := by simpa using h6
      refine spec_suOrder_in l _ i _ hl (by simp; omega) (by omega) ?_
      rw [← orderM_take l i (by omega)]
      refine ih (i + 1) (by omega) ?_
      rw [ht, List.nodup_append]
      refine ⟨h2, by simp, fun a ha b hb => ?_⟩
      simp only [List.mem_singleton] at hb
      rw [hb]
      intro hab
      exact hni (hab ▸ ha)
theorem spec_suOrder_ev (l : List Int) (hl : l.length ≤ 1024) : Ev (fun k => spec_suOrder.f k l) (if l.Nodup then (orderM l, true) else ([], false)) := by
  unfold spec_suOrder.f
  exact spec_suOrder_loop l hl l.length 0 (by omega) (by simp)

theorem spec_OrderOf_ev (l : List Int) : Ev (fun k => spec_OrderOf.f k l) (OrderOfM l) := by
  unfold spec_OrderOf.f OrderOfM
  refine ev_if (fun h => ev_some (by rw [if_neg (fun h2 => by omega)])) (fun h => ?_)
  refine ev_call (spec_suOrder_ev l (by omega)) (ev_some ?_)
  by_cases hn : l.Nodup
  · rw [if_pos hn, if_pos ⟨by omega, hn⟩]
  · rw [if_neg hn, if_neg (fun h => hn h.2)]

theorem laws_toIntS_loop (l : List Int) (hl : l.length ≤ 35184372088832) : ∀ (d i : Nat) (ys : List Int), i + d = l.length → ys.length = l.length → ys.take i = l.take i →
    Ev (fun k => laws_toIntS.l0 k l ys (i : Int)) l := by
  intro d
  induction d with
  | zero =>
    intro i ys h1 h2 h3
    refine Ev.step (f := fun _ => some ys) (fun k => ?_) (ev_some ?_)
    · simp only [laws_toIntS.l0]; rw [if_neg (by omega)]
    · rw [List.take_of_length_le (by omega), List.take_of_length_le (by omega)] at h3
      exact h3
  | succ d ih =>
    intro i ys h1 h2 h3
    have hi : i < l.length := by omega
    refine Ev.step (f := fun k => laws_toIntS.l0 k l (ys.set i (rd l (i : Int))) ((i + 1 : Nat) : Int)) (fun k => ?_) (ih (i + 1) _ (by omega) (by simp [h2]) ?_)
    · simp only [laws_toIntS.l0]; rw [if_pos (by omega), if_pos (by omega), if_pos (by omega), wrap_succ (by omega), Int.toNat_natCast]
    · rw [take_rd l i hi, List.take_succ_eq_append_getElem (by simp; omega)]
      rw [List.take_set, h3, List.set_eq_of_length_le (by simp; omega)]; simp
theorem laws_toIntS_ev (l : List Int) (hl : l.length ≤ 35184372088832) : Ev (fun k => laws_toIntS.f k l) l := by
  unfold laws_toIntS.f
  refine ev_pos (by omega) (ev_pos (by omega) ?_)
  exact laws_toIntS_loop l hl l.length 0 _ (by omega) (by simp) rfl

theorem laws_eqIntS_loop (l : List Int) (hl : l.length ≤ 35184372088832) : ∀ (d i : Nat), i + d = l.length → Ev (fun k => laws_eqIntS.l0 k l l (i : Int)) true := by
  intro d
  induction d with
  | zero =>
    intro i h
    refine Ev.step (f := fun _ => some true) (fun k => ?_) (Ev.now _)
    simp only [laws_eqIntS.l0]; rw [if_neg (by omega)]
  | succ d ih =>
    intro i h
    refine Ev.step (f := fun k => laws_eqIntS.l0 k l l ((i + 1 : Nat) : Int)) (fun k => ?_) (ih (i + 1) (by omega))
    simp only [laws_eqIntS.l0]; rw [if_pos (by omega), if_pos (by omega), if_pos (by omega), if_pos trivial, wrap_succ (by omega)]
theorem laws_eqIntS_ev (l : List Int) (hl : l.length ≤ 35184372088832) : Ev (fun k => laws_eqIntS.f k l l) true := by
  unfold laws_eqIntS.f
  exact ev_pos rfl (laws_eqIntS_loop l hl l.length 0 (by omega))

theorem laws_markIntS_loop : ∀ (d i : Nat) (ys : List Int) (m : Int), i + d = ys.length → 0 ≤ m → m + d ≤ 1000000000000000 → ys.length ≤ 35184372088832 →
    Ev (fun k => laws_markIntS.l0 k ys m (i : Int)) (m + (d : Int), ys.take i ++ marks m d) := by
  intro d
  induction d with
  | zero =>
    intro i ys m h1 h2 h3 h4
    refine Ev.step (f := fun _ => some (m, ys)) (fun k => ?_) (ev_some ?_)
    · simp only [laws_markIntS.l0]; rw [if_neg (by omega)]
    · rw [List.take_of_length_le (by omega)]; simp [marks]
  | succ d ih =>
    intro i ys m h1 h2 h3 h4
    refine Ev.step (f := fun k => laws_markIntS.l0 k (ys.set i m) (m + 1) ((i + 1 : Nat) : Int)) (fun k => ?_) (ev_to (ih (i + 1) _ (m + 1) (by simp; omega) (by omega) (by omega) (by simpa using h4)) ?_)
    · simp only [laws_markIntS.l0]; rw [if_pos (by omega), if_pos (by omega), wrap_succ (by omega), wrap_id (by omega), Int.toNat_natCast]
    · rw [marks_succ, List.take_succ_eq_append_getElem (by simp; omega), List.take_set, List.set_eq_of_length_le (by simp; omega)]
      refine Prod.ext (by simp; omega) ?_
      simp
theorem laws_markIntS_ev (l : List Int) (m : Int) (h2 : 0 ≤ m) (h3 : m ≤ 900000000000000) (h4 : l.length ≤ 35184372088832) : Ev (fun k => laws_markIntS.f k l m) (m + (l.length : Int), marks m l.length) :=
  ev_to (laws_markIntS_loop l.length 0 l m (by omega) h2 (by omega) h4) (by simp)

theorem laws_heldIntS_loop (zs : List Int) (hz : zs.length ≤ 35184372088832) : ∀ (d i : Nat) (m : Int), i + d = zs.length → 0 ≤ m → m + d ≤ 1000000000000000 → zs.drop i = marks m d →
    Ev (fun k => laws_heldIntS.l0 k zs m (i : Int)) (m + (d : Int)) := by
  intro d
  induction d with
  | zero =>
    intro i m h1 h2 h3 h4
    refine Ev.step (f := fun _ => some m) (fun k => ?_) (ev_some (by simp))
    simp only [laws_heldIntS.l0]; rw [if_neg (by omega)]
  | succ d ih =>
    intro i m h1 h2 h3 h4
    rw [drop_rd zs i (by omega), marks_succ, List.cons.injEq] at h4
    refine Ev.step (f := fun k => laws_heldIntS.l0 k zs (m + 1) ((i + 1 : Nat) : Int)) (fun k => ?_) (ev_to (ih (i + 1) (m + 1) (by omega) (by omega) (by omega) h4.2) (by omega))
    simp only [laws_heldIntS.l0]; rw [if_pos (by omega), if_pos (by omega), if_pos h4.1, wrap_succ (by omega), wrap_id (by omega)]
theorem laws_heldIntS_ev (m : Int) (n : Nat) (h2 : 0 ≤ m) (h3 : m ≤ 900000000000000) (h4 : n ≤ 35184372088832) : Ev (fun k => laws_heldIntS.f k (marks m n) m) (m + (n : Int)) :=
  laws_heldIntS_loop (marks m n) (by simpa [marks_length] using h4) n 0 m (by simp [marks_length]) h2 (by omega) rfl

theorem FnExactOrderOf : laws_FnExactOrderOf.Pure := by
  intro l h_l1 h_l2 h_l3
  refine Ev.rounds (r := true) ?_
  unfold laws_FnExactOrderOf.f
  refine ev_if (fun _ => Ev.now _) (fun hb_l => ?_)
  have hl_l : l.length ≤ 1048576 := by omega
  clear h_l1 h_l2 hb_l
  have I_ := impl_OrderOf_ev l 
  have S_ := spec_OrderOf_ev l 
  have hr := OrderOfM_length l
  generalize OrderOfM l = m_ at I_ S_ hr
  obtain ⟨r_, b_⟩ := m_
  dsimp only at hr
  repeat (first
    | exact Ev.now _
    | refine ev_call (laws_toIntS_ev l (by omega)) ?_
    | (refine ev_call S_ ?_; try dsimp only)
    | (refine ev_call I_ ?_; try dsimp only)
    | refine ev_call (laws_eqIntS_ev _ (by first | assumption | omega)) ?_
    | (refine ev_call (laws_markIntS_ev _ _ (by omega) (by omega) (by omega)) ?_; dsimp only)
    | refine ev_call (laws_heldIntS_ev _ _ (by omega) (by omega) (by omega)) ?_
    | refine ev_pos rfl ?_
    | refine ev_neg (bne_no _) ?_
    | refine ev_neg (by omega) ?_
    | refine Ev.step (fun k => by simp only [laws_FnExactOrderOf.j0]; rfl) ?_
    | refine Ev.step (fun k => by simp only [laws_FnExactOrderOf.j1]; rfl) ?_
    | refine Ev.step (fun k => by simp only [laws_FnExactOrderOf.j2]; rfl) ?_)

end Go.Proofs.Ytaimmgonhanhoaa.Pure
