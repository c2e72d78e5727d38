/- The pure statement of IsFullRegister: program and reference answer alike, for all arguments; no condition. -/
import Derived.Test.YtbmgpafijkfdbaaPFnExactIsFullRegisterx4
import Derived.Test.YtbmgpafijkfdbaaBase
import Derived.Test.YtbmgpafijkfdbaaLists
import Derived.Test.YtbmgpafijkfdbaaRegs
namespace Go.Proofs.Ytbmgpafijkfdbaa.Pure
open Go.RowKit Go.Proofs.Ytbmgpafijkfdbaa.PFnExactIsFullRegister Go.Proofs.YtbmgpafijkfdbaaW.PrintWords Go.Proofs.YtbmgpafijkfdbaaW.PrintLast Go.Proofs.Ytbmgpafijkfdbaa.Base
set_option maxRecDepth 10000

theorem RegisterWordM_length (l : List Int) (n : Int) : (RegisterWordM l n).1.length ≤ 1024 := by
  unfold RegisterWordM
  split
  · rename_i h
    have hn := (tapsB_iff.mp h).1
    have hp := (perM_spec h (n := n.toNat) (by omega)).1.2
    rw [regM_length (by omega)]
    exact Nat.le_trans hp (Nat.le_trans (Nat.pow_le_pow_right (by omega) (show n.toNat ≤ 10 by omega)) (by decide))
  · simp

theorem impl_within_eq (a lo hi : Int) : impl_within.f a lo hi = some (inB a lo hi) := by
  unfold impl_within.f inB
  by_cases h : a ≥ lo
  · rw [if_pos h]; simp [h]
  · rw [if_neg h]; simp [show ¬ lo ≤ a from h]

theorem impl_increasing_loop (l : List Int) (hl : l.length ≤ 1000000000000) : ∀ (d j : Nat), j + 1 + d = l.length → Ev (fun k => impl_increasing.l0 k l ((j + 1 : Nat) : Int)) (chainB (l.drop j)) := by
  intro d
  induction d with
  | zero =>
    intro j h
    rw [drop_rd l j (by omega), List.drop_eq_nil_of_le (by omega)]
    exact Ev.step (fun k => by simp only [impl_increasing.l0]; rfl) (ev_neg (by omega) (ev_some (by simp [chainB])))
  | succ d ih =>
    intro j h
    rw [drop_rd l j (by omega), drop_rd l (j + 1) (by omega)]
    refine Ev.step (fun k => by simp only [impl_increasing.l0]; rfl) ?_
    rw [wrap_pred (by omega), wrap_succ (by omega)]
    refine ev_pos (by omega) (ev_pos (by omega) (ev_pos (by omega) (ev_pos (by omega) ?_)))
    refine ev_if (fun e => ev_some ?_) (fun e => ev_to (ih (j + 1) (by omega)) ?_)
    · simp only [chainB]; rw [decide_eq_false (by omega)]; rfl
    · rw [drop_rd l (j + 1) (by omega)]; simp only [chainB]; rw [decide_eq_true (by omega)]; rfl
theorem impl_increasing_ev (l : List Int) (hl : l.length ≤ 1000000000000) : Ev (fun k => impl_increasing.f k l) (chainB l) := by
  unfold impl_increasing.f
  by_cases h : l.length = 0
  · obtain rfl := List.eq_nil_of_length_eq_zero h
    exact Ev.step (fun k => by simp only [impl_increasing.l0]; rfl) (ev_neg (by simp) (Ev.now _))
  · exact impl_increasing_loop l hl (l.length - 1) 0 (by omega)

theorem impl_allWithin_loop (lo hi : Int) (xs : List Int) (hx : xs.length ≤ 1000000000000) : ∀ (d i : Nat), i + d = xs.length →
    Ev (fun k => impl_allWithin.l0 k lo hi xs (xs.length : Int) (i : Int)) (allB (xs.drop i) lo hi) := by
  intro d
  induction d with
  | zero =>
    intro i h
    rw [List.drop_eq_nil_of_le (by omega)]
    refine Ev.step (f := fun _ => some true) (fun k => ?_) (Ev.now _)
    simp only [impl_allWithin.l0]; rw [if_neg (by omega)]
  | succ d ih =>
    intro i h
    have hlt : i < xs.length := by omega
    rw [drop_rd xs i hlt]
    refine Ev.step (f := fun k => if inB (rd xs (i : Int)) lo hi = true then impl_allWithin.l0 k lo hi xs (xs.length : Int) ((i + 1 : Nat) : Int) else some false) (fun k => ?_) ?_
    · simp only [impl_allWithin.l0]; rw [if_pos (by omega), if_pos (by omega), if_pos (by omega), impl_within_eq, wrap_succ (by omega)]; rfl
    · by_cases hb : inB (rd xs (i : Int)) lo hi = true
      · exact ev_pos hb (ev_to (ih (i + 1) (by omega)) (by simp [allB, hb]))
      · exact ev_neg hb (ev_some (by simp [allB, Bool.eq_false_iff.mpr hb]))
theorem impl_allWithin_ev (lo hi : Int) (xs : List Int) (hx : xs.length ≤ 1000000000000) : Ev (fun k => impl_allWithin.f k xs lo hi) (allB xs lo hi) :=
  impl_allWithin_loop lo hi xs hx xs.length 0 (by omega)

theorem impl_areTaps_ev (l : List Int) (n : Int) (hn : -9223372036854775808 ≤ n ∧ n ≤ 9223372036854775807) (hl : l.length ≤ 1000000000000) : Ev (fun k => impl_areTaps.f k l n) (tapsB l n) := by
  unfold impl_areTaps.f tapsB
  refine ev_plain (impl_within_eq _ _ _) ?_
  refine ev_if (fun h => ?_) (fun h => ev_some (by rw [Bool.eq_false_iff.mpr h]; rfl))
  have h' := inB_iff.mp h
  rw [h, wrap_id (x := n - 1) (by omega)]
  cases hl0 : l with
  | nil => exact ev_neg (by simp) (ev_some (by simp))
  | cons a t =>
    rw [← hl0]
    have h1 : 1 ≤ l.length := by rw [hl0]; simp
    have ha : rd l 0 = a := by rw [hl0]; rfl
    have hh : l.head? = some a := by rw [hl0]; rfl
    rw [hh]
    refine ev_pos (by omega) ?_
    refine ev_call (impl_increasing_ev l hl) ?_
    refine ev_if (fun e => ?_) (fun e => ev_some (by rw [Bool.eq_false_iff.mpr e]; simp))
    refine ev_call (impl_allWithin_ev _ _ l hl) ?_
    refine ev_if (fun e2 => ?_) (fun e2 => ev_some (by rw [Bool.eq_false_iff.mpr e2]; simp))
    refine ev_pos (by omega) (ev_some ?_)
    rw [e, e2, ha]
    simp

theorem xor01 {a b : Int} (ha : 0 ≤ a ∧ a ≤ (2 : Int) - 1) (hb : 0 ≤ b ∧ b ≤ (2 : Int) - 1) : Go.bits .xor .i64 a b = (a + b) % 2 := by
  obtain rfl | rfl : a = 0 ∨ a = 1 := by omega
  all_goals obtain rfl | rfl : b = 0 ∨ b = 1 := by omega
  all_goals decide +kernel
theorem rd_bits {l : List Int} (h : bitsL l) (j : Nat) (hj : j < l.length) : 0 ≤ rd l (j : Int) ∧ rd l (j : Int) ≤ (2 : Int) - 1 := h _ (by rw [rd_get l j hj]; exact List.getElem_mem _)
theorem taps_length {taps : List Int} {n : Int} (h : tapsB taps n = true) : taps.length ≤ 10 := by
  obtain ⟨h1, h2, h3, _⟩ := tapsB_iff.mp h
  have hp := (chainB_iff _).mp h2
  have : taps.length ≤ (idl n.toNat).length := by
    have hs : taps ⊆ idl n.toNat := fun x hx => mem_idl.mpr (by have := h3 x hx; omega)
    have hn : taps.Nodup := hp.imp (fun h => Int.ne_of_lt h)
    exact List.Nodup.length_le_of_subset hn hs
  rw [idl_length] at this
  omega

theorem regs_small {n j : Nat} {taps : List Int} (hn : n ≤ 10) (h : j ≤ perM taps n) (hp : perM taps n ≤ 2 ^ n) : j ≤ 1024 := Nat.le_trans h (Nat.le_trans hp (Nat.le_trans (Nat.pow_le_pow_right (by omega) hn) (by decide)))
theorem start_set (n : Nat) (hn : 1 ≤ n) : (List.replicate n (0 : Int)).set (n - 1) 1 = startM n := by
  unfold startM
  obtain ⟨m, rfl⟩ : ∃ m, n = m + 1 := ⟨n - 1, by omega⟩
  rw [List.replicate_succ', Nat.add_sub_cancel, List.set_append_right _ _ (by simp)]
  simp
theorem nx_take (taps l : List Int) (i : Nat) (h : i < taps.length) : (taps.take (i + 1)).foldl (nxF l) 0 = ((taps.take i).foldl (nxF l) 0 + rd l (rd taps (i : Int))) % 2 := by
  rw [take_rd taps i h, List.foldl_append]; rfl
theorem nx_take_range (taps l : List Int) (i : Nat) : 0 ≤ (taps.take i).foldl (nxF l) 0 ∧ (taps.take i).foldl (nxF l) 0 ≤ (2 : Int) - 1 := nx_fold_range l _ 0 (by omega)

theorem slices_Equal_int_int_loop (a b : List Int) (ha : a.length ≤ 1000000000000) (hab : a.length = b.length) : ∀ (d i : Nat), i + d = a.length →
    Ev (fun k => slices_Equal_int_int.l0 k a b (a.length : Int) (i : Int)) (decide (a.drop i = b.drop i)) := by
  intro d
  induction d with
  | zero =>
    intro i h
    rw [List.drop_eq_nil_of_le (by omega), List.drop_eq_nil_of_le (by omega)]
    refine Ev.step (f := fun _ => some true) (fun k => ?_) (Ev.now _)
    simp only [slices_Equal_int_int.l0]; rw [if_neg (by omega)]
  | succ d ih =>
    intro i h
    rw [drop_rd a i (by omega), drop_rd b i (by omega)]
    refine Ev.step (f := fun k => if rd a (i : Int) = rd b (i : Int) then slices_Equal_int_int.l0 k a b (a.length : Int) ((i + 1 : Nat) : Int) else some false) (fun k => ?_) ?_
    · simp only [slices_Equal_int_int.l0]; rw [if_pos (by omega), if_pos (by omega), if_pos (by omega), if_pos (by omega), wrap_succ (by omega)]
    · exact ev_if (fun e => ev_to (ih (i + 1) (by omega)) (by simp [e])) (fun e => ev_some (by simp [e]))
theorem slices_Equal_int_int_ev (a b : List Int) (ha : a.length ≤ 1000000000000) : Ev (fun k => slices_Equal_int_int.f k a b) (decide (a = b)) := by
  unfold slices_Equal_int_int.f
  refine ev_if (fun h => ?_) (fun h => ev_some ?_)
  · exact slices_Equal_int_int_loop a b ha (by omega) a.length 0 (by omega)
  · rw [eq_comm, decide_eq_false_iff_not]; intro e; exact h (by rw [e])

theorem impl_registerWord_ev (taps : List Int) (n : Nat) (h : tapsB taps (n : Int) = true) : Ev (fun k => impl_registerWord.f k taps (n : Int)) (regM taps n) := by
  obtain ⟨hn, hc, hr, _⟩ := tapsB_iff.mp h
  have hn1 : 1 ≤ n := by omega
  have hl := taps_length h
  obtain ⟨⟨hp1, hp2⟩, hps, hpq⟩ := perM_spec h hn1
  have hpb := regs_small (show n ≤ 10 by omega) (Nat.le_refl _) hp2
  unfold impl_registerWord.f
  rw [wrap_id (x := (n : Int) - 1) (by omega)]
  refine ev_pos (by omega) (ev_pos (by omega) ?_)
  refine ev_plain rfl ?_
  refine ev_pos (by omega) (ev_pos (by simp; omega) ?_)
  refine ev_plain rfl ?_
  rw [show ((n : Int) - 1).toNat = n - 1 by omega, Int.toNat_natCast, start_set n hn1]
  refine ev_plain (a := startM n) ?_ ?_
  · unfold impl_copied.f
    rw [Option.bind_some, if_pos (by rw [startM_length hn1]; simp; omega)]; rfl
  refine ev_iter (fun (_ : Unit) j q => impl_registerWord.l0 q taps (n : Int) (startM n) (regW taps n j) (j : Int)) (fun _ _ => ()) (fun _ _ => True) (perM taps n) ?_ (perM taps n) 0 () (by omega) trivial ?_
  · intro _ j hj _
    refine ⟨trivial, fun r k => ?_⟩
    have hW := regW_length taps hn1 j
    -- the check, then the next letter
    have hgo : Ev (fun q => impl_registerWord.j1 q taps (n : Int) (startM n) (regW taps n j) (j : Int) false) r := by
      refine Ev.step (fun k => by simp only [impl_registerWord.j1]; rfl) ?_
      refine ev_neg (by simp) ?_
      refine ev_iter (fun (c : Int) i q => impl_registerWord.l1 q taps (n : Int) (startM n) (regW taps n j) (j : Int) c taps (taps.length : Int) (i : Int))
        (fun c i => Go.bits .xor .i64 c (rd (regW taps n j) (wrap64 ((j : Int) + rd taps (i : Int))))) (fun i c => c = (taps.take i).foldl (nxF (regS taps n j)) 0) taps.length ?_ taps.length 0 0 (by omega) (by simp) ?_
      · intro c i hi hI
        have ht := hr (rd taps (i : Int)) (by rw [rd_get taps i hi]; exact List.getElem_mem _)
        obtain ⟨t, ht2⟩ : ∃ t : Nat, rd taps (i : Int) = (t : Int) := ⟨(rd taps (i : Int)).toNat, by omega⟩
        refine ⟨?_, fun r k => ?_⟩
        · rw [nx_take taps _ i hi, hI, ht2, wrap_id (by omega), show (j : Int) + (t : Int) = ((j + t : Nat) : Int) by omega, regS_rd taps hn1, xor01 (nx_take_range taps _ i)]
          exact rd_bits (regS_bits taps hn1 j) t (by rw [regS_length taps hn1]; omega)
        · refine Ev.step (fun k => by simp only [impl_registerWord.l1]; rfl) ?_
          rw [wrap_succ (i := i) (by omega)]
          rw [wrap_id (x := (j : Int) + rd taps (i : Int)) (by omega)] at k ⊢
          exact ev_pos (by omega) (ev_pos (by omega) (ev_pos (by omega) (ev_pos (by omega) (ev_pos (by omega) k))))
      · intro hI
        refine Ev.step (fun k => by simp only [impl_registerWord.l1]; rfl) ?_
        refine ev_neg (by omega) (ev_pos (by omega) ?_)
        rw [hI, List.take_of_length_le (Nat.le_refl _), wrap_succ (by omega)]
        exact k
    refine Ev.step (fun k => by simp only [impl_registerWord.l0]; rfl) ?_
    rw [wrap_id (x := (j : Int) + (n : Int)) (by omega), show (j : Int) + (n : Int) = ((j + n : Nat) : Int) by omega, Int.toNat_natCast, Int.toNat_natCast]
    refine ev_if (fun h0 => ?_) (fun h0 => hgo)
    refine ev_pos (by omega) (ev_pos (by omega) (ev_pos (by omega) ?_))
    rw [show (regW taps n j).take (j + n) = regW taps n j from List.take_of_length_le (by omega), regW_drop taps hn1]
    refine ev_call (slices_Equal_int_int_ev _ _ (by rw [regS_length taps hn1]; omega)) ?_
    rw [decide_eq_false (hpq j (by omega) hj)]
    exact hgo
  · intro _
    have hW := regW_length taps hn1 (perM taps n)
    refine Ev.step (fun k => by simp only [impl_registerWord.l0]; rfl) ?_
    rw [wrap_id (x := (perM taps n : Int) + (n : Int)) (by omega), show (perM taps n : Int) + (n : Int) = ((perM taps n + n : Nat) : Int) by omega, Int.toNat_natCast, Int.toNat_natCast]
    refine ev_pos (by omega) (ev_pos (by omega) (ev_pos (by omega) (ev_pos (by omega) ?_)))
    rw [show (regW taps n (perM taps n)).take (perM taps n + n) = regW taps n (perM taps n) from List.take_of_length_le (by omega), regW_drop taps hn1]
    refine ev_call (slices_Equal_int_int_ev _ _ (by rw [regS_length taps hn1]; omega)) ?_
    rw [decide_eq_true hps]
    refine Ev.step (fun k => by simp only [impl_registerWord.j1]; rfl) ?_
    refine ev_pos (by trivial) ?_
    refine ev_pos (by omega) (ev_pos (by omega) ?_)
    rw [Int.toNat_natCast]
    refine ev_plain (a := regM taps n) ?_ (Ev.now _)
    unfold slices_Clone_int_int.f
    rw [if_pos (by rw [List.length_take]; omega)]; rfl

theorem impl_IsFullRegister_ev (l : List Int) (n : Int) (hl : l.length ≤ 1000000000000) (hn : -9223372036854775808 ≤ n ∧ n ≤ 9223372036854775807) : Ev (fun k => impl_IsFullRegister.f k l n) (IsFullRegisterM l n) := by
  unfold impl_IsFullRegister.f IsFullRegisterM
  refine ev_call (impl_areTaps_ev l n hn hl) ?_
  refine ev_if (fun h => ?_) (fun h => ev_some (by rw [if_neg h]))
  have hn := (tapsB_iff.mp h).1
  obtain ⟨m, rfl⟩ : ∃ m : Nat, n = (m : Int) := ⟨n.toNat, by omega⟩
  have hm : m ≤ 10 := by omega
  refine ev_call (impl_registerWord_ev l m h) ?_
  have hp : 2 ^ m ≤ 1024 := Nat.le_trans (Nat.pow_le_pow_right (by omega) hm) (by decide)
  refine ev_pos (by omega) (ev_some ?_)
  have hs : shl .i64 1 (m : Int) = ((2 ^ m : Nat) : Int) := by
    have : ∀ m : Nat, m < 11 → shl .i64 1 (m : Int) = ((2 ^ m : Nat) : Int) := by decide +kernel
    exact this m (by omega)
  rw [if_pos h, hs, regM_length (by omega), Int.toNat_natCast]
  generalize 2 ^ m = P at hp ⊢
  rw [wrap_id (x := (P : Int) - 1) (by omega)]; rfl

theorem spec_l1In_eq (a lo hi : Int) : spec_l1In.f a lo hi = some (inB a lo hi) := by
  unfold spec_l1In.f inB
  by_cases h : a ≥ lo
  · rw [if_pos h]; simp [h]
  · rw [if_neg h]; simp [show ¬ lo ≤ a from h]

theorem spec_l1Rising_loop (l : List Int) (lo hi : Int) (hl : l.length ≤ 1000000000000) : ∀ (d j : Nat), j + 1 + d = l.length → Ev (fun k => spec_l1Rising.l0 k l lo hi l (l.length : Int) ((j + 1 : Nat) : Int)) (chainB (l.drop j) && allB (l.drop (j + 1)) lo hi) := by
  intro d
  induction d with
  | zero =>
    intro j h
    rw [drop_rd l j (by omega), List.drop_eq_nil_of_le (by omega)]
    exact Ev.step (fun k => by simp only [spec_l1Rising.l0]; rfl) (ev_neg (by omega) (ev_some (by simp [chainB, allB])))
  | succ d ih =>
    intro j h
    have ih := ih (j + 1) (by omega)
    rw [drop_rd l j (by omega)]
    rw [drop_rd l (j + 1) (by omega)] at ih ⊢
    generalize (l.drop (j + 1 + 1)) = t at ih ⊢
    refine Ev.step (fun k => by simp only [spec_l1Rising.l0]; rfl) ?_
    rw [wrap_pred (by omega), wrap_succ (by omega)]
    refine ev_pos (by omega) (ev_pos (by omega) (ev_pos (by omega) ?_))
    refine ev_plain (spec_l1In_eq _ _ _) ?_
    refine ev_if (fun e => ?_) (fun e => ev_some ?_)
    · refine ev_pos (by omega) (ev_pos (by omega) (ev_pos (by omega) ?_))
      refine ev_if (fun e2 => ev_some ?_) (fun e2 => ev_to ih ?_)
      · simp only [chainB]; rw [decide_eq_false (by omega)]; rfl
      · simp only [chainB, allB, List.all_cons, e]; rw [decide_eq_true (show rd l (j : Int) < rd l ((j + 1 : Nat) : Int) by omega)]; simp
    · simp only [allB, List.all_cons, Bool.eq_false_iff.mpr e]; simp
theorem spec_l1Rising_ev (l : List Int) (lo hi : Int) (hl : l.length ≤ 1000000000000) : Ev (fun k => spec_l1Rising.f k l lo hi) (chainB l && allB l lo hi) := by
  unfold spec_l1Rising.f
  refine Ev.step (fun k => by simp only [spec_l1Rising.l0]; rfl) ?_
  cases hl0 : l with
  | nil => exact ev_neg (by simp) (Ev.now _)
  | cons a t =>
    rw [← hl0]
    have h1 : 1 ≤ l.length := by rw [hl0]; simp
    have ha : rd l 0 = a := by rw [hl0]; rfl
    refine ev_pos (by omega) (ev_pos (by omega) (ev_pos (by omega) ?_))
    refine ev_plain (spec_l1In_eq _ _ _) ?_
    refine ev_if (fun e => ?_) (fun e => ev_some ?_)
    · refine ev_neg (by omega) ?_
      have := spec_l1Rising_loop l lo hi hl (l.length - 1) 0 (by omega)
      rw [show wrap64 (0 + 1) = ((0 + 1 : Nat) : Int) by rw [wrap_id (by omega)]; rfl]
      refine ev_to this ?_
      rw [ha] at e
      rw [hl0]
      simp [allB, e]
    · rw [ha] at e
      rw [hl0]
      simp only [allB, List.all_cons, Bool.eq_false_iff.mpr e]; simp

theorem spec_brTaps_ev (l : List Int) (n : Int) (hn : -9223372036854775808 ≤ n ∧ n ≤ 9223372036854775807) (hl : l.length ≤ 1000000000000) : Ev (fun k => spec_brTaps.f k l n) (tapsB l n) := by
  unfold spec_brTaps.f tapsB
  refine ev_plain (spec_l1In_eq _ _ _) ?_
  refine ev_if (fun h => ?_) (fun h => ev_some (by rw [Bool.eq_false_iff.mpr h]; rfl))
  have h' := inB_iff.mp h
  rw [h, wrap_id (x := n - 1) (by omega)]
  cases hl0 : l with
  | nil => exact ev_neg (by simp) (ev_some (by simp))
  | cons a t =>
    rw [← hl0]
    have h1 : 1 ≤ l.length := by rw [hl0]; simp
    have ha : rd l 0 = a := by rw [hl0]; rfl
    have hh : l.head? = some a := by rw [hl0]; rfl
    rw [hh]
    refine ev_pos (by omega) ?_
    refine ev_pos (by omega) ?_
    refine ev_if (fun e => ?_) (fun e => ev_some ?_)
    · refine ev_call (spec_l1Rising_ev l _ _ hl) (ev_some ?_)
      rw [ha] at e
      subst e
      simp
    · rw [ha] at e
      simp [e]

def kindB (n k : Int) : Bool := inB n 1 10 && (inB k 2 6 && decide (k.toNat ^ n.toNat ≤ 1024))
theorem kindB_iff {n k : Int} : kindB n k = true ↔ (1 ≤ n ∧ n ≤ 10) ∧ (2 ≤ k ∧ k ≤ 6) ∧ k.toNat ^ n.toNat ≤ 1024 := by simp [kindB, inB_iff]
theorem kindB_nat {n k : Int} (h : kindB n k = true) : ∃ n' k' : Nat, n = n' ∧ k = k' ∧ 1 ≤ n' ∧ n' ≤ 10 ∧ 2 ≤ k' ∧ k' ≤ 6 ∧ k' ^ n' ≤ 1024 := by
  obtain ⟨h1, h2, h3⟩ := kindB_iff.mp h
  exact ⟨n.toNat, k.toNat, by omega, by omega, by omega, by omega, by omega, by omega, h3⟩

theorem codesM_take (w : List Int) (n k i : Nat) (h : i < w.length) : (codesM w n k).take (i + 1) = (codesM w n k).take i ++ [codeN k (win w i n)] := by
  rw [List.take_succ_eq_append_getElem (by simp [codesM]; exact h)]
  simp [codesM]
theorem codesM_length (w : List Int) (n k : Nat) : (codesM w n k).length = w.length := by simp [codesM]
theorem codeN_take (k : Nat) (xs : List Int) (j : Nat) (h : j < xs.length) : codeN k (xs.take (j + 1)) = codeN k (xs.take j) * (k : Int) + rd xs (j : Int) := by
  rw [take_rd xs j h, codeN_snoc]
def IsBruijnM (w : List Int) (n k : Int) : Bool × Bool := if kindB n k = true ∧ cycleB w k = true then (bruijnB w n.toNat k.toNat, true) else (false, false)
theorem pow_le_1024 {k n j : Nat} (hk : 2 ≤ k) (h : k ^ n ≤ 1024) (hj : j ≤ n) : k ^ j ≤ 1024 := Nat.le_trans (Nat.pow_le_pow_right (by omega) hj) h
/-- The number of a beginning of a window, and the next step, lie in bounds. -/
theorem code_step {k n j : Nat} {xs : List Int} (hk : 2 ≤ k) (hk6 : k ≤ 6) (h : k ^ n ≤ 1024) (hx : xs.length = n) (hxs : ∀ x ∈ xs, 0 ≤ x ∧ x ≤ (k : Int) - 1) (hj : j < n) :
    wrap64 (wrap64 (codeN k (xs.take j) * (k : Int)) + rd xs (j : Int)) = codeN k (xs.take (j + 1)) := by
  have h1 := codeN_range k j (xs.take j) (by simp; omega) (fun x hx' => hxs x (List.mem_of_mem_take hx'))
  have h2 := pow_le_1024 hk h (show j ≤ n by omega)
  have h3 : codeN k (xs.take j) * (k : Int) ≤ 1024 * 6 := Int.mul_le_mul (by omega) (by omega) (by omega) (by omega)
  have h4 : 0 ≤ codeN k (xs.take j) * (k : Int) := Int.mul_nonneg h1.1 (by omega)
  have h5 : 0 ≤ rd xs (j : Int) ∧ rd xs (j : Int) ≤ (k : Int) - 1 := hxs _ (by rw [rd_get xs j (by omega)]; exact List.getElem_mem _)
  rw [wrap_id (x := codeN k (xs.take j) * (k : Int)) (by omega), wrap_id (by omega), codeN_take k xs j (by omega)]

theorem spec_brNumber_ev (xs : List Int) (n k : Nat) (hk : 2 ≤ k) (hk6 : k ≤ 6) (h : k ^ n ≤ 1024) (hx : xs.length = n) (hn : n ≤ 1000) (hxs : ∀ x ∈ xs, 0 ≤ x ∧ x ≤ (k : Int) - 1) : Ev (fun q => spec_brNumber.f q xs (k : Int)) (codeN k xs) := by
  unfold spec_brNumber.f
  refine ev_iter (fun (c : Int) j q => spec_brNumber.l0 q (k : Int) c xs (xs.length : Int) (j : Int)) (fun c j => wrap64 (wrap64 (c * (k : Int)) + rd xs (j : Int))) (fun j c => c = codeN k (xs.take j)) xs.length ?_ xs.length 0 0 (by omega) (by simp [codeN]) ?_
  · intro c j hj hI
    refine ⟨by rw [hI]; exact code_step hk hk6 h hx hxs (by omega), fun r q => ?_⟩
    refine Ev.step (fun k => by simp only [spec_brNumber.l0]; rfl) ?_
    rw [wrap_succ (i := j) (by omega)]
    exact ev_pos (by omega) (ev_pos (by omega) (ev_pos (by omega) q))
  · intro hI
    exact Ev.step (fun k => by simp only [spec_brNumber.l0]; rfl) (ev_neg (by omega) (ev_some (by rw [hI, List.take_of_length_le (by omega)])))

theorem spec_brRegister_ev (taps : List Int) (n : Nat) (h : tapsB taps (n : Int) = true) : Ev (fun k => spec_brRegister.f k taps (n : Int)) (regM taps n) := by
  obtain ⟨hn, hc, hr, _⟩ := tapsB_iff.mp h
  have hn1 : 1 ≤ n := by omega
  have hl := taps_length h
  have h1024 : 2 ^ n ≤ 1024 := Nat.le_trans (Nat.pow_le_pow_right (by omega) (show n ≤ 10 by omega)) (by decide)
  obtain ⟨⟨hp1, hp2⟩, hps, hpq⟩ := perM_spec h hn1
  have hpb := regs_small (show n ≤ 10 by omega) (Nat.le_refl _) hp2
  -- one round: the next letter, then the check
  have round : ∀ j, j < perM taps n → ∀ r, Ev (fun q => if codeN 2 (regS taps n (j + 1)) = 1 then some ((regW taps n (j + 1)).take (j + 1)) else spec_brRegister.l0 q taps (n : Int) (regW taps n (j + 1))) r →
      Ev (fun q => spec_brRegister.l0 q taps (n : Int) (regW taps n j)) r := by
    intro j hj r k
    have hW := regW_length taps hn1 j
    have hW1 := regW_length taps hn1 (j + 1)
    refine Ev.step (fun k => by simp only [spec_brRegister.l0]; rfl) ?_
    refine ev_iter (fun (c : Int) i q => spec_brRegister.l1 q taps (n : Int) (regW taps n j) c taps (taps.length : Int) (i : Int))
        (fun c i => Go.bits .xor .i64 c (rd (regW taps n j) (wrap64 (wrap64 (((regW taps n j).length : Int) - (n : Int)) + rd taps (i : Int))))) (fun i c => c = (taps.take i).foldl (nxF (regS taps n j)) 0) taps.length ?_ taps.length 0 0 (by omega) (by simp) ?_
    · intro c i hi hI
      have ht := hr (rd taps (i : Int)) (by rw [rd_get taps i hi]; exact List.getElem_mem _)
      obtain ⟨t, ht2⟩ : ∃ t : Nat, rd taps (i : Int) = (t : Int) := ⟨(rd taps (i : Int)).toNat, by omega⟩
      rw [wrap_id (x := ((regW taps n j).length : Int) - (n : Int)) (by omega), show ((regW taps n j).length : Int) - (n : Int) = (j : Int) by omega]
      refine ⟨?_, fun r k => ?_⟩
      · rw [nx_take taps _ i hi, hI, ht2, wrap_id (by omega), show (j : Int) + (t : Int) = ((j + t : Nat) : Int) by omega, regS_rd taps hn1, xor01 (nx_take_range taps _ i)]
        exact rd_bits (regS_bits taps hn1 j) t (by rw [regS_length taps hn1]; omega)
      · refine Ev.step (fun k => by simp only [spec_brRegister.l1]; rfl) ?_
        rw [wrap_id (x := ((regW taps n j).length : Int) - (n : Int)) (by omega), show ((regW taps n j).length : Int) - (n : Int) = (j : Int) by omega]
        rw [wrap_succ (i := i) (by omega)]
        rw [wrap_id (x := (j : Int) + rd taps (i : Int)) (by omega)] at k ⊢
        exact ev_pos (by omega) (ev_pos (by omega) (ev_pos (by omega) (ev_pos (by omega) (ev_pos (by omega) k))))
    · intro hI
      refine Ev.step (fun k => by simp only [spec_brRegister.l1]; rfl) ?_
      refine ev_neg (by omega) (ev_pos (by omega) ?_)
      rw [hI, List.take_of_length_le (Nat.le_refl _)]
      refine ev_plain (a := regW taps n (j + 1)) rfl ?_
      rw [wrap_id (x := ((regW taps n (j + 1)).length : Int) - (n : Int)) (by omega), show ((regW taps n (j + 1)).length : Int) - (n : Int) = ((j + 1 : Nat) : Int) by omega, Int.toNat_natCast]
      refine ev_pos (by omega) (ev_pos (by omega) ?_)
      rw [regW_drop taps hn1]
      refine ev_call (spec_brNumber_ev _ n 2 (by omega) (by omega) h1024 (regS_length taps hn1 _) (by omega) (regS_bits taps hn1 _)) ?_
      by_cases e : codeN 2 (regS taps n (j + 1)) = 1
      · refine ev_pos e (ev_plain (a := (regW taps n (j + 1)).take (j + 1)) ?_ ?_)
        · unfold spec_l1Own.f
          rw [Option.bind_some, if_pos (by rw [List.length_take]; simp; omega)]; rfl
        · exact Ev.congr (fun q => by rw [if_pos e]) k
      · exact ev_neg e (Ev.congr (fun q => by rw [if_neg e]) k)
  have hcode : ∀ j, codeN 2 (regS taps n j) = 1 → regS taps n j = startM n := fun j e =>
    codeN_inj n _ _ (regS_length taps hn1 j) (startM_length hn1) (regS_bits taps hn1 j) (startM_bits n) (by rw [e, start_code])
  unfold spec_brRegister.f
  rw [wrap_id (x := (n : Int) - 1) (by omega)]
  refine ev_pos (by omega) (ev_pos (by omega) ?_)
  refine ev_plain rfl ?_
  refine ev_pos (by omega) (ev_pos (by simp; omega) ?_)
  rw [show ((n : Int) - 1).toNat = n - 1 by omega, Int.toNat_natCast, start_set n hn1]
  refine ev_iter (fun (_ : Unit) j q => spec_brRegister.l0 q taps (n : Int) (regW taps n j)) (fun _ _ => ()) (fun _ _ => True) (perM taps n - 1) ?_ (perM taps n - 1) 0 () (by omega) trivial ?_
  · intro _ j hj _
    refine ⟨trivial, fun r k => round j (by omega) r (ev_neg (fun e => hpq (j + 1) (by omega) (by omega) (hcode _ e)) k)⟩
  · intro _
    refine round (perM taps n - 1) (by omega) _ ?_
    rw [show perM taps n - 1 + 1 = perM taps n by omega]
    exact ev_pos (by rw [hps, start_code]) (Ev.now _)

theorem spec_lyPower_loop (a : Nat) (ha : a ≤ 6) : ∀ (e j : Nat), e + j ≤ 12 → Ev (fun k => spec_lyPower.l0 k (a : Int) (e : Int) ((a ^ j : Nat) : Int)) ((a ^ (j + e) : Nat) : Int) := by
  intro e
  induction e with
  | zero =>
    intro j h
    exact Ev.step (fun k => by simp only [spec_lyPower.l0]; rfl) (ev_neg (by omega) (Ev.now _))
  | succ e ih =>
    intro j h
    have h1 : a ^ (j + 1) ≤ 2176782336 := Nat.le_trans (Nat.pow_le_pow_left ha (j + 1)) (Nat.le_trans (Nat.pow_le_pow_right (by omega) (show j + 1 ≤ 12 by omega)) (by decide))
    refine Ev.step (fun k => by simp only [spec_lyPower.l0]; rfl) ?_
    refine ev_pos (by omega) ?_
    rw [wrap_pred (by omega), show ((a ^ j : Nat) : Int) * (a : Int) = ((a ^ (j + 1) : Nat) : Int) by rw [Nat.pow_succ]; simp, wrap_id (by omega)]
    exact ev_to (ih (j + 1) (by omega)) (by rw [show j + 1 + e = j + (e + 1) by omega])
theorem spec_lyPower_ev (a n : Nat) (ha : a ≤ 6) (hn : n ≤ 12) : Ev (fun k => spec_lyPower.f k (a : Int) (n : Int)) ((a ^ n : Nat) : Int) :=
  ev_to (spec_lyPower_loop a ha n 0 (by omega)) (by simp)

theorem spec_IsFullRegister_ev (l : List Int) (n : Int) (hl : l.length ≤ 1000000000000) (hn : -9223372036854775808 ≤ n ∧ n ≤ 9223372036854775807) : Ev (fun k => spec_IsFullRegister.f k l n) (IsFullRegisterM l n) := by
  unfold spec_IsFullRegister.f IsFullRegisterM
  refine ev_call (spec_brTaps_ev l n hn hl) ?_
  refine ev_if (fun h => ?_) (fun h => ev_some (by rw [if_neg h]))
  have hn := (tapsB_iff.mp h).1
  obtain ⟨m, rfl⟩ : ∃ m : Nat, n = (m : Int) := ⟨n.toNat, by omega⟩
  have hm : m ≤ 10 := by omega
  refine ev_call (spec_brRegister_ev l m h) ?_
  have hp : 2 ^ m ≤ 1024 := Nat.le_trans (Nat.pow_le_pow_right (by omega) hm) (by decide)
  refine ev_call (spec_lyPower_ev 2 m (by omega) (by omega)) (ev_some ?_)
  rw [if_pos h, regM_length (by omega), Int.toNat_natCast]
  generalize 2 ^ m = P at hp ⊢
  rw [wrap_id (x := (P : Int) - 1) (by omega)]; rfl

theorem laws_toIntS_loop (l : List Int) (hl : l.length ≤ 35184372088832) : ∀ (d i : Nat) (ys : List Int), i + d = l.length → ys.length = l.length → ys.take i = l.take i →
    Ev (fun k => laws_toIntS.l0 k l ys (i : Int)) l := by
  intro d
  induction d with
  | zero =>
    intro i ys h1 h2 h3
    refine Ev.step (f := fun _ => some ys) (fun k => ?_) (ev_some ?_)
    · simp only [laws_toIntS.l0]; rw [if_neg (by omega)]
    · rw [List.take_of_length_le (by omega), List.take_of_length_le (by omega)] at h3
      exact h3
  | succ d ih =>
    intro i ys h1 h2 h3
    have hi : i < l.length := by omega
    refine Ev.step (f := fun k => laws_toIntS.l0 k l (ys.set i (rd l (i : Int))) ((i + 1 : Nat) : Int)) (fun k => ?_) (ih (i + 1) _ (by omega) (by simp [h2]) ?_)
    · simp only [laws_toIntS.l0]; rw [if_pos (by omega), if_pos (by omega), if_pos (by omega), wrap_succ (by omega), Int.toNat_natCast]
    · rw [take_rd l i hi, List.take_succ_eq_append_getElem (by simp; omega)]
      rw [List.take_set, h3, List.set_eq_of_length_le (by simp; omega)]; simp
theorem laws_toIntS_ev (l : List Int) (hl : l.length ≤ 35184372088832) : Ev (fun k => laws_toIntS.f k l) l := by
  unfold laws_toIntS.f
  refine ev_pos (by omega) (ev_pos (by omega) ?_)
  exact laws_toIntS_loop l hl l.length 0 _ (by omega) (by simp) rfl

theorem laws_eqIntS_loop (l : List Int) (hl : l.length ≤ 35184372088832) : ∀ (d i : Nat), i + d = l.length → Ev (fun k => laws_eqIntS.l0 k l l (i : Int)) true := by
  intro d
  induction d with
  | zero =>
    intro i h
    refine Ev.step (f := fun _ => some true) (fun k => ?_) (Ev.now _)
    simp only [laws_eqIntS.l0]; rw [if_neg (by omega)]
  | succ d ih =>
    intro i h
    refine Ev.step (f := fun k => laws_eqIntS.l0 k l l ((i + 1 : Nat) : Int)) (fun k => ?_) (ih (i + 1) (by omega))
    simp only [laws_eqIntS.l0]; rw [if_pos (by omega), if_pos (by omega), if_pos (by omega), if_pos trivial, wrap_succ (by omega)]
theorem laws_eqIntS_ev (l : List Int) (hl : l.length ≤ 35184372088832) : Ev (fun k => laws_eqIntS.f k l l) true := by
  unfold laws_eqIntS.f
  exact ev_pos rfl (laws_eqIntS_loop l hl l.length 0 (by omega))

theorem FnExactIsFullRegister : laws_FnExactIsFullRegister.Pure := by
  intro l n h_l1 h_l2 h_l3 h_n
  refine Ev.rounds (r := true) ?_
  unfold laws_FnExactIsFullRegister.f
  refine ev_if (fun _ => Ev.now _) (fun hb_l => ?_)
  have hl_l : l.length ≤ 1048576 := by omega
  clear h_l1 h_l2 hb_l
  have hw_n := wf_in h_n
  have I_ := impl_IsFullRegister_ev l n (by omega) hw_n
  have S_ := spec_IsFullRegister_ev l n (by omega) hw_n
  generalize IsFullRegisterM l n = m_ at I_ S_
  obtain ⟨r_, b_⟩ := m_
  repeat (first
    | exact Ev.now _
    | refine ev_call (laws_toIntS_ev l (by omega)) ?_
    | (refine ev_call S_ ?_; try dsimp only)
    | (refine ev_call I_ ?_; try dsimp only)
    | refine ev_call (laws_eqIntS_ev _ (by first | assumption | omega)) ?_
    | refine ev_pos rfl ?_
    | refine ev_neg (bne_no _) ?_
    | refine ev_neg (by omega) ?_
    | refine Ev.step (fun k => by simp only [laws_FnExactIsFullRegister.j0]; rfl) ?_)

end Go.Proofs.Ytbmgpafijkfdbaa.Pure
