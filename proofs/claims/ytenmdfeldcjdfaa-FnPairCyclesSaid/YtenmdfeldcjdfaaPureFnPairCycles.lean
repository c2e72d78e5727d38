/- The pure statement of PairCycles: it holds of all draws; no condition. -/
import Derived.Test.YtenmdfeldcjdfaaPFnPairCyclesx12
import Derived.Test.YtenmdfeldcjdfaaBase
import Derived.Test.YtenmdfeldcjdfaaLists
namespace Go.Proofs.Ytenmdfeldcjdfaa.Pure
open Go.RowKit Go.Proofs.Ytenmdfeldcjdfaa.PFnPairCycles Go.Proofs.YtenmdfeldcjdfaaW.PrintWords Go.Proofs.YtenmdfeldcjdfaaW.PrintLast Go.Proofs.Ytenmdfeldcjdfaa.Base
set_option maxRecDepth 10000
set_option linter.unusedVariables false
set_option linter.unusedSimpArgs false

theorem impl_within_eq (a lo hi : Int) : impl_within.f a lo hi = some (inB a lo hi) := by
  unfold impl_within.f inB
  by_cases h : a ≥ lo
  · rw [if_pos h]; simp [h]
  · rw [if_neg h]; simp [show ¬ lo ≤ a from h]

theorem spec_l1In_eq (a lo hi : Int) : spec_l1In.f a lo hi = some (inB a lo hi) := by
  unfold spec_l1In.f inB
  by_cases h : a ≥ lo
  · rw [if_pos h]; simp [h]
  · rw [if_neg h]; simp [show ¬ lo ≤ a from h]

def bitsL (m : Nat) : List Bool := (List.range 121).map m.testBit
def tourBest (K a : Nat) : Nat → List Bool → Int → Option (List Bool × Int)
  | 0, s, best => some (s, best)
  | d + 1, s, best => if rdOf false s ((a * 11 + d : Nat) : Int) = true then (match spec_suTied.f K 11 ((s.set (a * 11 + d) false).set (d * 11 + a) false) (d : Int) with
    | some t => tourBest K a d ((((s.set (a * 11 + d) false).set (d * 11 + a) false).set (a * 11 + d) true).set (d * 11 + a) true) (if t = true then (d : Int) else best)
    | none => none) else tourBest K a d s best
def tourRun (K : Nat) : Nat → List Bool → List Int → Nat → Option (List Bool × List Int × Nat)
  | 0, s, w, a => some (s, w, a)
  | c + 1, s, w, a => match tourBest K a 11 s (-1) with
    | some (s', b) => if 0 ≤ b ∧ b < 11 then tourRun K c ((s'.set (a * 11 + b.toNat) false).set (b.toNat * 11 + a) false) (w ++ [b]) b.toNat else none
    | none => none
theorem tour_at (a d : Nat) (ha : a < 11) (hd : d < 11) : wrap64 (wrap64 ((a : Int) * 11) + (d : Int)) = ((a * 11 + d : Nat) : Int) := by
  unfold wrap64
  omega
theorem tour11_best (K a : Nat) (ha : a < 11) (w : List Int) (r : List Int) : ∀ (d : Nat) (s : List Bool) (best : Int) (s' : List Bool) (best' : Int), tourBest K a d s best = some (s', best') → d ≤ 11 → s.length = 121 →
    (s'.length = 121 → Ev (fun k => spec_suTour.l2 k 11 s' w (a : Int) best' (-1)) r) → Ev (fun k => spec_suTour.l2 k 11 s w (a : Int) best ((d : Int) - 1)) r := by
  intro d
  induction d with
  | zero =>
    intro s best s' best' h _ hs k
    unfold tourBest at h
    simp only [Option.some.injEq, Prod.mk.injEq] at h
    obtain ⟨rfl, rfl⟩ := h
    exact k hs
  | succ d ih =>
    intro s best s' best' h hd hs k
    have e0 : ((d + 1 : Nat) : Int) - 1 = (d : Int) := by omega
    have e1 := tour_at a d ha (by omega)
    have e2 := tour_at d a (by omega) ha
    have e3 : wrap64 ((d : Int) - 1) = (d : Int) - 1 := by unfold wrap64; omega
    have g1 : a * 11 + d < 121 := by omega
    have g2 : d * 11 + a < 121 := by omega
    rw [e0]
    refine Ev.step (fun k => by simp only [spec_suTour.l2]; rfl) (ev_pos (by omega) ?_)
    simp only [e1, e2, e3, Int.toNat_natCast]
    refine ev_pos (by omega) (ev_pos (by omega) ?_)
    unfold tourBest at h
    by_cases c1 : rdOf false s ((a * 11 + d : Nat) : Int) = true
    · rw [if_pos c1] at h
      refine ev_pos c1 (ev_pos (by omega) (ev_pos (by omega) (ev_plain rfl ?_)))
      split at h
      · rename_i t ht
        refine ev_call (Ev.of (fun k => spec_suTied.mono _ _ _ k) ht) ?_
        by_cases c2 : t = true
        · subst c2
          rw [if_pos rfl] at h
          exact ev_pos rfl (ih _ _ _ _ h (by omega) (by simp only [List.length_set]; exact hs) k)
        · rw [if_neg c2] at h
          exact ev_neg c2 (ih _ _ _ _ h (by omega) (by simp only [List.length_set]; exact hs) k)
      · cases h
    · rw [if_neg c1] at h
      exact ev_neg c1 (ih _ _ _ _ h (by omega) hs k)
theorem tour11_run (K : Nat) (r : List Int) : ∀ (c : Nat) (s : List Bool) (w : List Int) (a : Nat) (s' : List Bool) (w' : List Int) (a' : Nat), tourRun K c s w a = some (s', w', a') → a < 11 → s.length = 121 → 0 < w.length → w.length + c ≤ 56 → rd w ((w.length : Int) - 1) = (a : Int) →
    Ev (fun k => spec_suTour.l1 k 11 s' w') r → Ev (fun k => spec_suTour.l1 k 11 s w) r := by
  intro c
  induction c with
  | zero =>
    intro s w a s' w' a' h _ _ _ _ _ k
    unfold tourRun at h
    simp only [Option.some.injEq, Prod.mk.injEq] at h
    obtain ⟨rfl, rfl, rfl⟩ := h
    exact k
  | succ c ih =>
    intro s w a s' w' a' h ha hs h0 hw hr k
    have e0 : wrap64 (Int.tdiv (wrap64 (11 * (wrap64 (11 - 1)))) 2) = 55 := by decide +kernel
    have e1 : wrap64 ((w.length : Int) - 1) = (w.length : Int) - 1 := by unfold wrap64; omega
    have e2 : wrap64 ((11 : Int) - 1) = ((11 : Nat) : Int) - 1 := by decide +kernel
    refine Ev.step (fun k => by simp only [spec_suTour.l1]; rfl) ?_
    rw [e0, e1, e2, hr]
    refine ev_pos (by omega) (ev_pos (by omega) (ev_pos (by omega) ?_))
    unfold tourRun at h
    split at h
    · rename_i s1 b hb
      by_cases c1 : 0 ≤ b ∧ b < 11
      · rw [if_pos c1] at h
        obtain ⟨b, rfl⟩ := Int.eq_ofNat_of_zero_le c1.1
        have hb11 : b < 11 := by omega
        rw [Int.toNat_natCast] at h
        refine tour11_best K a ha w r 11 s (-1) s1 (b : Int) hb (by omega) hs (fun hs1 => ?_)
        clear e0 e1 e2
        have q1 : (0 : Int) ≤ ((a * 11 + b : Nat) : Int) := Int.natCast_nonneg _
        have q2 : ((a * 11 + b : Nat) : Int) < (s1.length : Int) := by rw [hs1]; omega
        have q3 : (0 : Int) ≤ ((b * 11 + a : Nat) : Int) := Int.natCast_nonneg _
        have q4 : ((b * 11 + a : Nat) : Int) < (s1.length : Int) := by rw [hs1]; omega
        have q5 : w.length < 17592186044416 := by omega
        have g1 := tour_at a b ha hb11
        have g2 := tour_at b a hb11 ha
        refine Ev.step (fun k => by simp only [spec_suTour.l2]; rfl) (ev_neg (by decide) ?_)
        simp only [g1, g2, Int.toNat_natCast]
        refine ev_pos q1 ?_
        refine ev_pos q2 ?_
        refine ev_pos q3 ?_
        refine ev_pos q4 ?_
        refine ev_pos q5 ?_
        clear g1 g2
        refine ih _ _ _ _ _ _ h hb11 (by simp only [List.length_set]; exact hs1) (by simp) (by simp; omega) ?_ k
        rw [List.length_append, List.length_singleton, show ((w.length + 1 : Nat) : Int) - 1 = (w.length : Int) by omega]
        simp [rd, rdOf]
      · rw [if_neg c1] at h
        cases h
    · cases h
def pair11 : List Int := [0, 1, 2, 0, 3, 1, 4, 0, 5, 1, 6, 0, 7, 1, 8, 0, 9, 1, 10, 2, 3, 4, 2, 5, 3, 6, 2, 7, 3, 8, 2, 9, 3, 10, 4, 5, 6, 4, 7, 5, 8, 4, 9, 5, 10, 6, 7, 8, 6, 9, 7, 10, 8, 9, 10]
def tour56 : List Int := [0, 1, 2, 0, 3, 1, 4, 0, 5, 1, 6, 0, 7, 1, 8, 0, 9, 1, 10, 2, 3, 4, 2, 5, 3, 6, 2, 7, 3, 8, 2, 9, 3, 10, 4, 5, 6, 4, 7, 5, 8, 4, 9, 5, 10, 6, 7, 8, 6, 9, 7, 10, 8, 9, 10, 0]
theorem tour_seg0 : tourRun 600 5 (bitsL 1328903397983747395279166325955489790) (tour56.take 1) 0 = some (bitsL 1328903397983747395279166300173076464, tour56.take 6, 1) := by kernel_rfl
theorem tour_seg1 : tourRun 600 5 (bitsL 1328903397983747395279166300173076464) (tour56.take 6) 1 = some (bitsL 1328903397983747247597074542881408960, tour56.take 11, 6) := by kernel_rfl
theorem tour_seg2 : tourRun 600 5 (bitsL 1328903397983747247597074542881408960) (tour56.take 11) 6 = some (bitsL 1328903397054838797163707555927557632, tour56.take 16, 0) := by kernel_rfl
theorem tour_seg3 : tourRun 600 5 (bitsL 1328903397054838797163707555927557632) (tour56.take 16) 0 = some (bitsL 1321113050291136213376809527687513088, tour56.take 21, 3) := by kernel_rfl
theorem tour_seg4 : tourRun 600 5 (bitsL 1321113050291136213376809527687513088) (tour56.take 21) 3 = some (bitsL 1321113050291135622648441536247759872, tour56.take 26, 6) := by kernel_rfl
theorem tour_seg5 : tourRun 600 5 (bitsL 1321113050291135622648441536247759872) (tour56.take 26) 6 = some (bitsL 1321113046575501820914970288021570560, tour56.take 31, 2) := by kernel_rfl
theorem tour_seg6 : tourRun 600 5 (bitsL 1321113046575501820914970288021570560) (tour56.take 31) 2 = some (bitsL 1289951659520691485172327032773673984, tour56.take 36, 5) := by kernel_rfl
theorem tour_seg7 : tourRun 600 5 (bitsL 1289951659520691485172327032773673984) (tour56.take 36) 5 = some (bitsL 1289951649609914058052456142082147328, tour56.take 41, 8) := by kernel_rfl
theorem tour_seg8 : tourRun 600 5 (bitsL 1289951649609914058052456142082147328) (tour56.take 41) 8 = some (bitsL 1165306096438836947103098275373253632, tour56.take 46, 6) := by kernel_rfl
theorem tour_seg9 : tourRun 600 5 (bitsL 1165306096438836947103098275373253632) (tour56.take 46) 6 = some (bitsL 1165184342434298753011619787505140736, tour56.take 51, 7) := by kernel_rfl
theorem tour_seg10 : tourRun 600 5 (bitsL 1165184342434298753011619787505140736) (tour56.take 51) 7 = some (bitsL 0, tour56.take 56, 0) := by kernel_rfl
def tourFill (s : List Bool) (i : Nat) : List Bool := s.set i ((wrap64 (Int.tdiv (i : Int) 11)) != (Int.tmod (i : Int) 11))
theorem tour_fill : (List.range' 0 121).foldl tourFill (List.replicate 121 false) = bitsL 1328903397983747395279166325955489790 := by kernel_rfl
theorem tourFill_length (s : List Bool) (i : Nat) : (tourFill s i).length = s.length := by unfold tourFill; rw [List.length_set]
theorem tour11_ev : Ev (fun k => spec_suTour.f k 11) pair11 := by
  have e0 : wrap64 ((11 : Int) * 11) = ((121 : Nat) : Int) := by decide +kernel
  unfold spec_suTour.f
  rw [e0, Int.toNat_natCast]
  clear e0
  refine ev_pos (by omega) ?_
  refine ev_pos (by omega) ?_
  refine ev_plain rfl ?_
  rw [List.length_replicate]
  refine ev_iter (fun s i k => spec_suTour.l0 k 11 s ((121 : Nat) : Int) (i : Int)) tourFill (fun _ s => s.length = 121) 121 (fun s i hi hs => ⟨by rw [tourFill_length, hs], fun r hr => ?_⟩) 121 0 _ (by omega) (by rw [List.length_replicate]) (fun _ => ?_)
  · refine Ev.step (fun k => by simp only [spec_suTour.l0]; rfl) ?_
    refine ev_pos (by omega) ?_
    refine ev_neg (by decide) ?_
    refine ev_pos (by omega) ?_
    refine ev_pos (by rw [hs]; omega) ?_
    rw [Int.toNat_natCast, wrap_succ (i := i) (by omega)]
    exact hr
  · rw [tour_fill]
    refine Ev.step (fun k => by simp only [spec_suTour.l0]; rfl) ?_
    refine ev_neg (by omega) ?_
    have hL : ∀ m, (bitsL m).length = 121 := fun m => by unfold bitsL; rw [List.length_map, List.length_range]
    have hW : ∀ d, d ≤ 56 → (tour56.take d).length = d := fun d hd => by rw [List.length_take]; exact Nat.min_eq_left hd
    have h0 : ([0] : List Int) = tour56.take 1 := rfl
    rw [h0]
    refine tour11_run 600 pair11 5 _ _ _ _ _ _ tour_seg0 (by omega) (hL _) (by rw [hW _ (by omega)]; omega) (by rw [hW _ (by omega)]; omega) (by rw [hW _ (by omega)]; rfl) ?_
    refine tour11_run 600 pair11 5 _ _ _ _ _ _ tour_seg1 (by omega) (hL _) (by rw [hW _ (by omega)]; omega) (by rw [hW _ (by omega)]; omega) (by rw [hW _ (by omega)]; rfl) ?_
    refine tour11_run 600 pair11 5 _ _ _ _ _ _ tour_seg2 (by omega) (hL _) (by rw [hW _ (by omega)]; omega) (by rw [hW _ (by omega)]; omega) (by rw [hW _ (by omega)]; rfl) ?_
    refine tour11_run 600 pair11 5 _ _ _ _ _ _ tour_seg3 (by omega) (hL _) (by rw [hW _ (by omega)]; omega) (by rw [hW _ (by omega)]; omega) (by rw [hW _ (by omega)]; rfl) ?_
    refine tour11_run 600 pair11 5 _ _ _ _ _ _ tour_seg4 (by omega) (hL _) (by rw [hW _ (by omega)]; omega) (by rw [hW _ (by omega)]; omega) (by rw [hW _ (by omega)]; rfl) ?_
    refine tour11_run 600 pair11 5 _ _ _ _ _ _ tour_seg5 (by omega) (hL _) (by rw [hW _ (by omega)]; omega) (by rw [hW _ (by omega)]; omega) (by rw [hW _ (by omega)]; rfl) ?_
    refine tour11_run 600 pair11 5 _ _ _ _ _ _ tour_seg6 (by omega) (hL _) (by rw [hW _ (by omega)]; omega) (by rw [hW _ (by omega)]; omega) (by rw [hW _ (by omega)]; rfl) ?_
    refine tour11_run 600 pair11 5 _ _ _ _ _ _ tour_seg7 (by omega) (hL _) (by rw [hW _ (by omega)]; omega) (by rw [hW _ (by omega)]; omega) (by rw [hW _ (by omega)]; rfl) ?_
    refine tour11_run 600 pair11 5 _ _ _ _ _ _ tour_seg8 (by omega) (hL _) (by rw [hW _ (by omega)]; omega) (by rw [hW _ (by omega)]; omega) (by rw [hW _ (by omega)]; rfl) ?_
    refine tour11_run 600 pair11 5 _ _ _ _ _ _ tour_seg9 (by omega) (hL _) (by rw [hW _ (by omega)]; omega) (by rw [hW _ (by omega)]; omega) (by rw [hW _ (by omega)]; rfl) ?_
    refine tour11_run 600 pair11 5 _ _ _ _ _ _ tour_seg10 (by omega) (hL _) (by rw [hW _ (by omega)]; omega) (by rw [hW _ (by omega)]; omega) (by rw [hW _ (by omega)]; rfl) ?_
    have e1 : wrap64 (Int.tdiv (wrap64 (11 * (wrap64 (11 - 1)))) 2) = 55 := by decide +kernel
    have e2 : wrap64 (((tour56.take 56).length : Int) - 1) = 55 := by rw [hW _ (by omega)]; decide +kernel
    refine Ev.step (fun k => by simp only [spec_suTour.l1]; rfl) ?_
    rw [e1, e2, hW 56 (by omega)]
    clear e1 e2
    refine ev_neg (by decide) ?_
    refine ev_pos (by decide) ?_
    refine ev_pos (by decide) ?_
    exact ev_some rfl

def pairLook (n : Nat) : Bool := match impl_PairCycle.f 1000 (n : Int), spec_PairCycle.f 1000 (n : Int) with
  | some (r, true), some (s, true) => decide (r = s) && decide (r.length ≤ 1000)
  | _, _ => false
theorem pairLook_3 : pairLook 3 = true := by kernel_rfl
theorem pairLook_5 : pairLook 5 = true := by kernel_rfl
theorem pairLook_7 : pairLook 7 = true := by kernel_rfl
theorem pairLook_9 : pairLook 9 = true := by kernel_rfl
theorem pairI_11 : impl_PairCycle.f 1000 11 = some (pair11, true) := by kernel_rfl
theorem pairCycle_look (n : Nat) (h : pairLook n = true) : ∃ r : List Int, r.length ≤ 1048576 ∧ Ev (fun q => impl_PairCycle.f q (n : Int)) (r, true) ∧ Ev (fun q => spec_PairCycle.f q (n : Int)) (r, true) := by
  unfold pairLook at h
  split at h
  · rename_i r s h1 h2
    rw [Bool.and_eq_true, decide_eq_true_eq, decide_eq_true_eq] at h
    obtain ⟨rfl, hl⟩ := h
    exact ⟨_, by omega, Ev.of (fun k => impl_PairCycle.mono _ k) h1, Ev.of (fun k => spec_PairCycle.mono _ k) h2⟩
  · cases h
theorem pairCycle_both (n : Int) : ∃ r : List Int, ∃ b : Bool, r.length ≤ 1048576 ∧ Ev (fun q => impl_PairCycle.f q n) (r, b) ∧ Ev (fun q => spec_PairCycle.f q n) (r, b) := by
  by_cases h : inB n 2 11 = true
  · by_cases h2 : Int.tmod n 2 = 0
    · refine ⟨[], false, by simp, ?_, ?_⟩
      · unfold impl_PairCycle.f
        exact ev_plain (impl_within_eq _ _ _) (ev_pos h (ev_pos h2 (Ev.now _)))
      · unfold spec_PairCycle.f spec_suPairSize.f
        refine ev_plain (by rw [spec_l1In_eq]; rfl) ?_
        exact ev_pos h (ev_pos h2 (Ev.now _))
    · have h1 := inB_iff.mp h
      have key : ∀ m : Nat, n = (m : Int) → pairLook m = true → ∃ r : List Int, ∃ b : Bool, r.length ≤ 1048576 ∧ Ev (fun q => impl_PairCycle.f q n) (r, b) ∧ Ev (fun q => spec_PairCycle.f q n) (r, b) := by
        rintro m rfl hm
        obtain ⟨r, q1, q2, q3⟩ := pairCycle_look m hm
        exact ⟨r, true, q1, q2, q3⟩
      have h5 : n = 2 ∨ n = 3 ∨ n = 4 ∨ n = 5 ∨ n = 6 ∨ n = 7 ∨ n = 8 ∨ n = 9 ∨ n = 10 ∨ n = 11 := by omega
      rcases h5 with rfl | rfl | rfl | rfl | rfl | rfl | rfl | rfl | rfl | rfl
      · exact absurd rfl h2
      · exact key 3 rfl pairLook_3
      · exact absurd rfl h2
      · exact key 5 rfl pairLook_5
      · exact absurd rfl h2
      · exact key 7 rfl pairLook_7
      · exact absurd rfl h2
      · exact key 9 rfl pairLook_9
      · exact absurd rfl h2
      · refine ⟨pair11, true, by decide, Ev.of (fun k => impl_PairCycle.mono _ k) pairI_11, ?_⟩
        unfold spec_PairCycle.f spec_suPairSize.f
        refine ev_plain (by rw [spec_l1In_eq]; rfl) ?_
        exact ev_pos h (ev_neg h2 (ev_call tour11_ev (Ev.now _)))
  · refine ⟨[], false, by simp, ?_, ?_⟩
    · unfold impl_PairCycle.f
      exact ev_plain (impl_within_eq _ _ _) (ev_neg h (Ev.now _))
    · unfold spec_PairCycle.f spec_suPairSize.f
      refine ev_plain (by rw [spec_l1In_eq]; rfl) ?_
      exact ev_neg h (Ev.now _)

def bytesL (d : List Int) : Prop := ∀ x ∈ d, 0 ≤ x ∧ x ≤ 255
theorem and255 (x : Int) : 0 ≤ Go.bits .and .u64 x 255 ∧ Go.bits .and .u64 x 255 ≤ 255 := by
  have h : ((BitVec.ofInt 64 x) &&& (BitVec.ofInt 64 255)).toNat ≤ 255 := by
    rw [BitVec.toNat_and]; exact Nat.le_trans Nat.and_le_right (by decide)
  have e : Go.bits .and .u64 x 255 = IntKind.u64.wrap (((BitVec.ofInt 64 x) &&& (BitVec.ofInt 64 255)).toNat : Int) := rfl
  rw [e]
  generalize ((BitVec.ofInt 64 x) &&& (BitVec.ofInt 64 255)).toNat = m at h
  simp only [IntKind.wrap, IntKind.signed, IntKind.bits, Bool.false_and, Bool.false_eq_true, if_false]
  omega
theorem bytes_wf {d : List Int} (h : ∀ x ∈ d, (Lit.int .u8 x).wf = true) : bytesL d := by
  intro x hx
  have h := h x hx
  simp only [Lit.wf, IntKind.min, IntKind.max, IntKind.signed, IntKind.bits, Bool.and_eq_true, decide_eq_true_eq, Bool.false_eq_true, if_false] at h
  omega
theorem next_ok {d : List Int} (hd : bytesL d) {a : Int} (s : Int) (h0 : 0 ≤ a) (h1 : a ≤ 1000000000001000) : ∃ v s', spec_l1Cur_next.f d a s = some (v, a + 1, s') ∧ 0 ≤ v ∧ v ≤ 255 := by
  unfold spec_l1Cur_next.f
  rw [wrap_id (x := a + 1) (by omega)]
  by_cases ha : a < (d.length : Int)
  · rw [if_pos ha, if_pos h0, if_pos (by omega)]
    have hb : 0 ≤ rd d a ∧ rd d a ≤ 255 := by
      obtain ⟨j, rfl⟩ := Int.eq_ofNat_of_zero_le h0
      exact hd _ (by rw [show rd d ((j : Nat) : Int) = d[j]'(by omega) from rd_get d j (by omega)]; exact List.getElem_mem _)
    exact ⟨_, _, rfl, by rw [wrap_id (by omega)]; exact hb.1, by rw [wrap_id (by omega)]; exact hb.2⟩
  · rw [if_neg ha]
    by_cases hb : a + 1 ≤ (d.length : Int)
    · omega
    · rw [if_neg hb]
      have h := and255 ((IntKind.u64.wrap ((IntKind.u64.wrap ((IntKind.u64.wrap (s * 6364136223846793005)))) + 1442695040888963407)) / 1099511627776)
      exact ⟨_, _, rfl, by rw [wrap_id (by omega)]; exact h.1, by rw [wrap_id (by omega)]; exact h.2⟩
theorem tmod_lt {x n : Int} (h0 : 0 ≤ x) (hn : 1 ≤ n) : 0 ≤ Int.tmod x n ∧ Int.tmod x n < n := by
  obtain ⟨p, rfl⟩ := Int.eq_ofNat_of_zero_le h0
  obtain ⟨q, rfl⟩ := Int.eq_ofNat_of_zero_le (show 0 ≤ n by omega)
  rw [show ((p : Nat) : Int).tmod ((q : Nat) : Int) = ((p % q : Nat) : Int) from tmod_nat p q]
  have := Nat.mod_lt p (show 0 < q by omega)
  omega
theorem pick_ok {d : List Int} (hd : bytesL d) {a : Int} (s n : Int) (h0 : 0 ≤ a) (h1 : a ≤ 1000000000000000) : ∃ v a' s', spec_l1Cur_pick.f d a s n = some (v, a', s') ∧ (0 ≤ v ∧ (v < n ∨ (n ≤ 1 ∧ v = 0))) ∧ (a ≤ a' ∧ a' ≤ a + 2) := by
  unfold spec_l1Cur_pick.f
  by_cases hn : n ≤ 1
  · rw [if_pos hn]
    exact ⟨0, a, s, rfl, ⟨by omega, .inr ⟨hn, rfl⟩⟩, by omega⟩
  · rw [if_neg hn]
    obtain ⟨v, s1, e1, hv⟩ := next_ok hd s h0 (by omega)
    rw [e1, Option.bind_some]
    dsimp only
    by_cases h2 : n > 200
    · rw [if_pos h2]
      obtain ⟨u, s2, e2, hu⟩ := next_ok hd (a := a + 1) s1 (by omega) (by omega)
      rw [e2, Option.bind_some]
      dsimp only
      rw [if_neg (by omega), wrap_id (x := v * 256) (by omega), wrap_id (x := v * 256 + u) (by omega)]
      have := tmod_lt (x := v * 256 + u) (n := n) (by omega) (by omega)
      exact ⟨_, _, _, rfl, ⟨this.1, .inl this.2⟩, by omega⟩
    · rw [if_neg h2, if_neg (by omega)]
      have := tmod_lt (x := v) (n := n) (by omega) (by omega)
      exact ⟨_, _, _, rfl, ⟨this.1, .inl this.2⟩, by omega⟩

theorem among_ok {d : List Int} (hd : bytesL d) {a : Int} (s : Int) (l : List Int) (hl : 1 ≤ l.length) (h0 : 0 ≤ a) (h1 : a ≤ 1000000000000000) : ∃ v a' s', spec_l1Cur_among.f d a s l = some (v, a', s') ∧ v ∈ l ∧ (a ≤ a' ∧ a' ≤ a + 2) := by
  obtain ⟨v, a', s', e, hv, h⟩ := pick_ok hd s (l.length : Int) h0 h1
  unfold spec_l1Cur_among.f
  rw [e, Option.bind_some]
  dsimp only
  rw [if_pos (by omega), if_pos (by omega)]
  refine ⟨_, _, _, rfl, ?_, h⟩
  obtain ⟨j, rfl⟩ := Int.eq_ofNat_of_zero_le hv.1
  rw [show rd l ((j : Nat) : Int) = l[j]'(by omega) from rd_get l j (by omega)]
  exact List.getElem_mem _

theorem one_ok {d : List Int} (hd : bytesL d) {a : Int} (s n : Int) (h0 : 0 ≤ a) (h1 : a ≤ 1000000000000000) : ∃ v a' s', spec_l1Cur_one.f d a s n = some (v, a', s') ∧ (a ≤ a' ∧ a' ≤ a + 2) := by
  obtain ⟨v, a', s', e, _, h⟩ := pick_ok hd s n h0 h1
  unfold spec_l1Cur_one.f
  rw [e]
  exact ⟨_, _, _, rfl, h⟩

theorem spec_l1Least_eq9 (a b : Int) : spec_l1Least.f a b = some (if a < b then a else b) := by unfold spec_l1Least.f; split <;> rfl
theorem spec_l1Most_eq9 (a b : Int) : spec_l1Most.f a b = some (if a > b then a else b) := by unfold spec_l1Most.f; split <;> rfl
theorem word9_fill {d : List Int} (hd : bytesL d) : ∀ (m : Nat) (xs : List Int) (a s : Int), xs.length + m = 202 → 0 ≤ a → a + 4 * (m : Int) ≤ 999999999999900 →
    ∃ r a' s', Ev (fun q => spec_l1Cur_word9.l1 q xs d a s) (r, a', s') ∧ r.length ≤ 202 ∧ (a ≤ a' ∧ a' ≤ a + 4 * (m : Int) + 4) := by
  intro m
  induction m with
  | zero =>
    intro xs a s hl h0 hb
    obtain ⟨v, a1, s1, e1, hv, ha1⟩ := pick_ok hd s 2 h0 (by omega)
    refine ⟨xs, a1, s1, Ev.step (fun k => by simp only [spec_l1Cur_word9.l1]; rfl) (ev_plain e1 ?_), by omega, by omega⟩
    dsimp only
    rw [wrap_id (x := 200 + v) (by omega)]
    exact ev_neg (by omega) (Ev.now _)
  | succ m ih =>
    intro xs a s hl h0 hb
    obtain ⟨v, a1, s1, e1, hv, ha1⟩ := pick_ok hd s 2 h0 (by omega)
    by_cases c : (xs.length : Int) < 200 + v
    · obtain ⟨u, a2, s2, e2, hu, ha2⟩ := pick_ok hd (a := a1) s1 3 (by omega) (by omega)
      obtain ⟨r, a3, s3, h1, h2, h3⟩ := ih (xs ++ [u]) a2 s2 (by simp; omega) (by omega) (by omega)
      refine ⟨r, a3, s3, Ev.step (fun k => by simp only [spec_l1Cur_word9.l1]; rfl) (ev_plain e1 ?_), h2, by omega⟩
      dsimp only
      rw [wrap_id (x := 200 + v) (by omega)]
      refine ev_pos c (ev_plain e2 ?_)
      dsimp only
      exact ev_pos (by omega) h1
    · refine ⟨xs, a1, s1, Ev.step (fun k => by simp only [spec_l1Cur_word9.l1]; rfl) (ev_plain e1 ?_), by omega, by omega⟩
      dsimp only
      rw [wrap_id (x := 200 + v) (by omega)]
      exact ev_neg c (Ev.now _)
theorem word9_loop {d : List Int} (hd : bytesL d) (n : Int) : ∀ (m : Nat) (xs : List Int) (a s : Int), xs.length + m ≤ 100 → 0 ≤ a → a + 4 * (m : Int) ≤ 999999999990000 →
    ∃ r a' s', Ev (fun q => spec_l1Cur_word9.l0 q n xs (m : Int) d a s) (r, a', s') ∧ r.length ≤ 202 ∧ (a ≤ a' ∧ a' ≤ a + 4 * (m : Int) + 1000) := by
  intro m
  induction m with
  | zero =>
    intro xs a s hl h0 hb
    obtain ⟨v, a1, s1, e1, hv, ha1⟩ := pick_ok hd s 24 h0 (by omega)
    by_cases c1 : v = 0
    · obtain ⟨u, a2, s2, e2, hu, ha2⟩ := among_ok hd (a := a1) s1 [(-1), 11, 12, n] (by simp) (by omega) (by omega)
      refine ⟨xs ++ [u], a2, s2, Ev.step (fun k => by simp only [spec_l1Cur_word9.l0]; rfl) (ev_neg (by omega) (ev_plain e1 ?_)), by simp; omega, by omega⟩
      dsimp only
      refine ev_pos c1 (ev_plain e2 ?_)
      dsimp only
      exact ev_pos (by omega) (Ev.now _)
    · by_cases c2 : v = 1
      · obtain ⟨r, a3, s3, h1, h2, h3⟩ := word9_fill hd (202 - xs.length) xs a1 s1 (by omega) (by omega) (by omega)
        refine ⟨r, a3, s3, Ev.step (fun k => by simp only [spec_l1Cur_word9.l0]; rfl) (ev_neg (by omega) (ev_plain e1 ?_)), h2, by omega⟩
        dsimp only
        exact ev_neg c1 (ev_pos c2 h1)
      · refine ⟨xs, a1, s1, Ev.step (fun k => by simp only [spec_l1Cur_word9.l0]; rfl) (ev_neg (by omega) (ev_plain e1 ?_)), by omega, by omega⟩
        dsimp only
        exact ev_neg c1 (ev_neg c2 (Ev.now _))
  | succ m ih =>
    intro xs a s hl h0 hb
    obtain ⟨v, a1, s1, e1, hv, ha1⟩ := pick_ok hd s (if 1 > (if n < 12 then n else 12) then 1 else (if n < 12 then n else 12)) h0 (by omega)
    obtain ⟨r, a3, s3, h1, h2, h3⟩ := ih (xs ++ [v]) a1 s1 (by simp; omega) (by omega) (by omega)
    refine ⟨r, a3, s3, Ev.step (fun k => by simp only [spec_l1Cur_word9.l0]; rfl) (ev_pos (by omega) (ev_plain (spec_l1Least_eq9 _ _) (ev_plain (spec_l1Most_eq9 _ _) (ev_plain e1 ?_)))), h2, by omega⟩
    dsimp only
    rw [wrap_pred (by omega)]
    exact ev_pos (by omega) h1
theorem word9_ok {d : List Int} (hd : bytesL d) {a : Int} (s n most : Int) (h0 : 0 ≤ a) (h1 : a ≤ 999999999900000) (hm : 0 ≤ most ∧ most ≤ 50) : ∃ r a' s', Ev (fun q => spec_l1Cur_word9.f q d a s n most) (r, a', s') ∧ r.length ≤ 202 ∧ (a ≤ a' ∧ a' ≤ a + 2000) := by
  obtain ⟨v, a1, s1, e1, hv, ha1⟩ := pick_ok hd s (most + 1) h0 (by omega)
  obtain ⟨m, rfl⟩ := Int.eq_ofNat_of_zero_le hv.1
  obtain ⟨r, a3, s3, h2, h3, h4⟩ := word9_loop hd n m [] a1 s1 (by simp; omega) (by omega) (by omega)
  unfold spec_l1Cur_word9.f
  refine ⟨r, a3, s3, ?_, h3, by omega⟩
  rw [wrap_id (x := most + 1) (by omega)]
  refine ev_plain e1 ?_
  exact h2

def superOk (n : Int) (w : List Int) : Bool := inB n 1 5 && superWordB w
theorem superOk_nat {n : Int} {w : List Int} (h : superOk n w = true) : ∃ m : Nat, n = m ∧ 1 ≤ m ∧ m ≤ 5 ∧ w.length ≤ 200 := by
  simp only [superOk, superWordB, Bool.and_eq_true, inB_iff, decide_eq_true_eq] at h
  exact ⟨n.toNat, by omega, by omega, by omega, by omega⟩
def RanksInM (n : Int) (w : List Int) : List Int × Bool := if superOk n w = true then (comingsM n.toNat w, true) else ([], false)
theorem RanksInM_length (n : Int) (w : List Int) : (RanksInM n w).1.length ≤ 1024 := by
  unfold RanksInM
  split
  · rename_i h
    obtain ⟨m, rfl, _, _, h4⟩ := superOk_nat h
    have := comingsM_length m w
    simp; omega
  · simp
def IsSuperM (n : Int) (w : List Int) : Bool × Bool := if superOk n w = true then (((comingsM n.toNat w).length : Int) == ((fact n.toNat : Nat) : Int), true) else (false, false)
def WastedInM (n : Int) (w : List Int) : Int × Bool := if superOk n w = true then (((w.length + 1 - n.toNat - (comingsM n.toNat w).length : Nat) : Int), true) else (0, false)

theorem mx_self_le (a b c : Int) : mx a b ≥ c ↔ (c ≤ a ∨ c ≤ b) := by unfold mx; split <;> omega
def pairAt (w : List Int) (i : Nat) : Int := w.getD ((i + 1) % w.length) 0
def pairKey (w : List Int) (i : Nat) : Int × Int := (mn (rd w (i : Int)) (pairAt w i), mx (rd w (i : Int)) (pairAt w i))
def halfM (n : Int) : Int := Int.tdiv (n * (n - 1)) 2
def pcI (n : Int) (w : List Int) : Nat → Nat → List (Int × Int) → Bool
  | 0, _, met => (met.length : Int) == halfM n
  | d + 1, i, met => if rd w (i : Int) = pairAt w i then false else (if mx (rd w (i : Int)) (pairAt w i) ≥ n then false else (if met.contains (pairKey w i) = true then false else pcI n w d (i + 1) (met ++ [pairKey w i])))
def pairB (n : Int) (w : List Int) : Bool := pcI n w w.length 0 []
theorem pcI_len (n : Int) (w : List Int) : ∀ d i met, pcI n w d i met = true → ((met.length + d : Nat) : Int) = halfM n := by
  intro d
  induction d with
  | zero => intro i met h; simpa [pcI] using h
  | succ d ih =>
    intro i met h
    unfold pcI at h
    split at h
    · cases h
    · split at h
      · cases h
      · split at h
        · cases h
        · have := ih _ _ h
          rw [List.length_append] at this
          simp at this ⊢
          omega
theorem pcI_all (n : Int) (w : List Int) : ∀ d i met, pcI n w d i met = true → ∀ j : Nat, i ≤ j → j < i + d → rd w (j : Int) ≤ n - 1 := by
  intro d
  induction d with
  | zero => intro i met _ j _ _; omega
  | succ d ih =>
    intro i met h j h1 h2
    unfold pcI at h
    split at h
    · cases h
    · split at h
      · cases h
      · rename_i hx
        rw [mx_self_le] at hx
        split at h
        · cases h
        · by_cases e : j = i
          · subst e; omega
          · exact ih _ _ h j (by omega) (by omega)
theorem halfM_small {n : Int} (h : 2 ≤ n ∧ n ≤ 11) : wrap64 (Int.tdiv (wrap64 (n * wrap64 (n - 1))) 2) = halfM n ∧ 1 ≤ halfM n ∧ halfM n ≤ 55 := by
  obtain ⟨m, rfl⟩ : ∃ m : Nat, n = (m : Int) := ⟨n.toNat, by omega⟩
  have : ∀ m : Nat, m < 12 → 2 ≤ m → wrap64 (Int.tdiv (wrap64 ((m : Int) * wrap64 ((m : Int) - 1))) 2) = halfM (m : Int) ∧ 1 ≤ halfM (m : Int) ∧ halfM (m : Int) ≤ 55 := by decide +kernel
  exact this m (by omega) (by omega)
theorem pairAt_mem {w : List Int} (i : Nat) (hw : 0 < w.length) : pairAt w i ∈ w := by
  unfold pairAt
  rw [List.getD_eq_getElem?_getD, List.getElem?_eq_getElem (Nat.mod_lt _ hw)]
  exact List.getElem_mem _

theorem superWordB_iff {w : List Int} : superWordB w = true ↔ w.length ≤ 200 ∧ ∀ x ∈ w, 0 ≤ x ∧ x ≤ 11 := by
  simp only [superWordB, Bool.and_eq_true, decide_eq_true_eq, allB_iff]
  exact and_congr (by omega) Iff.rfl

def IsPairCycleM (n : Int) (w : List Int) : Bool × Bool := if inB n 2 11 && superWordB w = true then (pairB n w, true) else (false, false)

theorem impl_allWithin_loop (lo hi : Int) (xs : List Int) (hx : xs.length ≤ 1000000000000) : ∀ (d i : Nat), i + d = xs.length →
    Ev (fun k => impl_allWithin.l0 k lo hi xs (xs.length : Int) (i : Int)) (allB (xs.drop i) lo hi) := by
  intro d
  induction d with
  | zero =>
    intro i h
    rw [List.drop_eq_nil_of_le (by omega)]
    refine Ev.step (f := fun _ => some true) (fun k => ?_) (Ev.now _)
    simp only [impl_allWithin.l0]; rw [if_neg (by omega)]
  | succ d ih =>
    intro i h
    have hlt : i < xs.length := by omega
    rw [drop_rd xs i hlt]
    refine Ev.step (f := fun k => if inB (rd xs (i : Int)) lo hi = true then impl_allWithin.l0 k lo hi xs (xs.length : Int) ((i + 1 : Nat) : Int) else some false) (fun k => ?_) ?_
    · simp only [impl_allWithin.l0]; rw [if_pos (by omega), if_pos (by omega), if_pos (by omega), impl_within_eq, wrap_succ (by omega)]; rfl
    · by_cases hb : inB (rd xs (i : Int)) lo hi = true
      · exact ev_pos hb (ev_to (ih (i + 1) (by omega)) (by simp [allB, hb]))
      · exact ev_neg hb (ev_some (by simp [allB, Bool.eq_false_iff.mpr hb]))
theorem impl_allWithin_ev (lo hi : Int) (xs : List Int) (hx : xs.length ≤ 1000000000000) : Ev (fun k => impl_allWithin.f k xs lo hi) (allB xs lo hi) :=
  impl_allWithin_loop lo hi xs hx xs.length 0 (by omega)

theorem impl_isSuperWord_ev (w : List Int) (hw : w.length ≤ 1048576) : Ev (fun k => impl_isSuperWord.f k w) (superWordB w) := by
  unfold impl_isSuperWord.f superWordB
  exact ev_if (fun h => ev_call (impl_allWithin_ev _ _ _ (by omega)) (ev_some (by rw [decide_eq_true h]; simp))) (fun h => ev_some (by rw [decide_eq_false h]; simp))

theorem impl_isPairCycle_loop (n : Int) (hn : 2 ≤ n ∧ n ≤ 11) (w : List Int) (hw : w.length ≤ 200) : ∀ d i met, i + d = w.length → met.length = i → Ev (fun k => impl_isPairCycle.l0 k n w met (i : Int)) (pcI n w d i met) := by
  intro d
  induction d with
  | zero =>
    intro i met h hm
    refine Ev.step (fun k => by simp only [impl_isPairCycle.l0]; rfl) (ev_neg (by omega) (ev_some ?_))
    rw [(halfM_small hn).1]; rfl
  | succ d ih =>
    intro i met h hm
    have hmod := Nat.mod_lt (i + 1) (show 0 < w.length by omega)
    have ha : impl_isPairCycle.at2 w (i : Int) = (((i + 1) % w.length : Nat) : Int) := by
      unfold impl_isPairCycle.at2
      rw [wrap_succ (by omega), tmod_nat]
    have hb : rd w (((i + 1) % w.length : Nat) : Int) = pairAt w i := by rw [rd_nat]; rfl
    refine Ev.step (fun k => by simp only [impl_isPairCycle.l0]; rfl) ?_
    rw [ha, hb, wrap_succ (by omega)]
    refine ev_pos (by omega) (ev_pos (by omega) (ev_pos (by omega) (ev_pos (by omega) ?_)))
    unfold pcI
    refine ev_if (fun e => ev_some (by rw [if_pos e])) (fun e => ?_)
    rw [if_neg e]
    refine ev_if (fun e => ev_some (by rw [if_pos e])) (fun e => ?_)
    rw [if_neg e]
    refine ev_if (fun e => ev_some ?_) (fun e => ?_)
    · rw [if_pos (show met.contains (pairKey w i) = true from e)]
    · rw [if_neg (show ¬ met.contains (pairKey w i) = true from e)]
      exact ev_pos (by omega) (ih (i + 1) _ (by omega) (by simp [hm]))
theorem impl_isPairCycle_ev (n : Int) (hn : 2 ≤ n ∧ n ≤ 11) (w : List Int) (hw : w.length ≤ 200) (hb : ∀ x ∈ w, 0 ≤ x ∧ x ≤ 11) : Ev (fun k => impl_isPairCycle.f k n w) (pairB n w) := by
  unfold impl_isPairCycle.f
  refine ev_pos (List.all_eq_true.mpr fun x hx => ?_) (impl_isPairCycle_loop n hn w hw w.length 0 [] (by omega) rfl)
  have := hb x hx
  simp only [Lit.wf, IntKind.min, IntKind.max, IntKind.signed, IntKind.bits, Bool.and_eq_true, decide_eq_true_eq, if_true]
  omega

theorem impl_IsPairCycle_ev (n : Int) (w : List Int) (hw : w.length ≤ 1048576) : Ev (fun k => impl_IsPairCycle.f k n w) (IsPairCycleM n w) := by
  unfold impl_IsPairCycle.f IsPairCycleM
  refine ev_plain (impl_within_eq _ _ _) (ev_if (fun h1 => ?_) (fun h1 => ev_some (by rw [Bool.eq_false_iff.mpr h1]; rfl)))
  refine ev_call (impl_isSuperWord_ev w hw) (ev_if (fun h2 => ?_) (fun h2 => ev_some (by rw [Bool.eq_false_iff.mpr h2]; simp)))
  have e2 := superWordB_iff.mp h2
  exact ev_call (impl_isPairCycle_ev n (inB_iff.mp h1) w e2.1 e2.2) (ev_some (by rw [h1, h2]; rfl))

theorem spec_suPairSize_eq (n : Int) : spec_suPairSize.f n = some (inB n 2 11) := by unfold spec_suPairSize.f; rw [spec_l1In_eq]; rfl

theorem spec_l1All_loop (lo hi : Int) (xs : List Int) (hx : xs.length ≤ 1000000000000) : ∀ (d i : Nat), i + d = xs.length →
    Ev (fun k => spec_l1All.l0 k lo hi xs (xs.length : Int) (i : Int)) (allB (xs.drop i) lo hi) := by
  intro d
  induction d with
  | zero =>
    intro i h
    rw [List.drop_eq_nil_of_le (by omega)]
    refine Ev.step (f := fun _ => some true) (fun k => ?_) (Ev.now _)
    simp only [spec_l1All.l0]; rw [if_neg (by omega)]
  | succ d ih =>
    intro i h
    have hlt : i < xs.length := by omega
    rw [drop_rd xs i hlt]
    refine Ev.step (f := fun k => if inB (rd xs (i : Int)) lo hi = true then spec_l1All.l0 k lo hi xs (xs.length : Int) ((i + 1 : Nat) : Int) else some false) (fun k => ?_) ?_
    · simp only [spec_l1All.l0]; rw [if_pos (by omega), if_pos (by omega), if_pos (by omega), spec_l1In_eq, wrap_succ (by omega)]; rfl
    · by_cases hb : inB (rd xs (i : Int)) lo hi = true
      · exact ev_pos hb (ev_to (ih (i + 1) (by omega)) (by simp [allB, hb]))
      · exact ev_neg hb (ev_some (by simp [allB, Bool.eq_false_iff.mpr hb]))
theorem spec_l1All_ev (lo hi : Int) (xs : List Int) (hx : xs.length ≤ 1000000000000) : Ev (fun k => spec_l1All.f k xs lo hi) (allB xs lo hi) :=
  spec_l1All_loop lo hi xs hx xs.length 0 (by omega)

theorem spec_suWord_ev (w : List Int) (hw : w.length ≤ 1048576) : Ev (fun k => spec_suWord.f k w) (superWordB w) := by
  unfold spec_suWord.f superWordB
  exact ev_if (fun h => ev_call (spec_l1All_ev _ _ _ (by omega)) (ev_some (by rw [decide_eq_true h]; simp))) (fun h => ev_some (by rw [decide_eq_false h]; simp))

theorem spec_suRound_loop (w : List Int) (n p : Nat) (hw : 0 < w.length) (hwl : w.length ≤ 1000000000000) (hn : n ≤ 1000000000000) (hp : p ≤ 1000000000000) : ∀ (d i : Nat) (acc : List Int), i + d = n → acc.length = i →
    Ev (fun k => spec_suRound.l0 k w (p : Int) (n : Int) acc (i : Int)) (acc ++ (List.range' i d).map fun j => w.getD ((p + j) % w.length) 0) := by
  intro d
  induction d with
  | zero =>
    intro i acc h ha
    refine Ev.step (f := fun _ => some acc) (fun k => ?_) (ev_some (by simp))
    simp only [spec_suRound.l0]; rw [if_neg (by omega)]
  | succ d ih =>
    intro i acc h ha
    refine Ev.step (f := fun k => spec_suRound.l0 k w (p : Int) (n : Int) (acc ++ [w.getD ((p + i) % w.length) 0]) ((i + 1 : Nat) : Int)) (fun k => ?_) (ev_to (ih (i + 1) _ (by omega) (by simp [ha])) ?_)
    · simp only [spec_suRound.l0]
      rw [if_pos (by omega), if_neg (by omega), wrap_id (x := (p : Int) + (i : Int)) (by omega), show (p : Int) + (i : Int) = ((p + i : Nat) : Int) by omega, tmod_nat, wrap_succ (by omega)]
      have hm := Nat.mod_lt (p + i) hw
      rw [if_pos (by omega), if_pos (by omega), if_pos (by omega), rd_nat]
    · simp [List.range'_succ]
theorem spec_suRound_ev (w : List Int) (n p : Nat) (hw : 0 < w.length) (hwl : w.length ≤ 1000000000000) (hn : n ≤ 1000000000000) (hp : p ≤ 1000000000000) : Ev (fun k => spec_suRound.f k w (p : Int) (n : Int)) (win w p n) :=
  ev_to (spec_suRound_loop w n p hw hwl hn hp n 0 [] (by omega) rfl) (by simp [win])

theorem grid_inj {n p q p' q' : Nat} (hq : q < n) (hq' : q' < n) (h : p * n + q = p' * n + q') : p = p' ∧ q = q' := by
  have h1 : (p * n + q) / n = p := by rw [Nat.mul_comm, Nat.mul_add_div (by omega), Nat.div_eq_of_lt hq]; rfl
  have h2 : (p' * n + q') / n = p' := by rw [Nat.mul_comm, Nat.mul_add_div (by omega), Nat.div_eq_of_lt hq']; rfl
  have h3 : p = p' := by rw [← h1, ← h2, h]
  subst h3
  exact ⟨rfl, by omega⟩
theorem grid_lt {n p q : Nat} (hp : p < n) (hq : q < n) : p * n + q < n * n := by
  have := Nat.mul_le_mul_right n (show p + 1 ≤ n by omega)
  rw [Nat.add_mul] at this
  omega
def seenOk (n : Nat) (seen : List Bool) (met : List (Int × Int)) : Prop := seen.length = n * n ∧ ∀ p q : Nat, p < n → q < n → rdOf false seen ((p * n + q : Nat) : Int) = met.contains (mn (p : Int) (q : Int), mx (p : Int) (q : Int))
theorem mn_comm (a b : Int) : mn a b = mn b a := by unfold mn; split <;> split <;> omega
theorem mx_comm (a b : Int) : mx a b = mx b a := by unfold mx; split <;> split <;> omega
theorem mnmx {a b c d : Int} (h1 : mn a b = mn c d) (h2 : mx a b = mx c d) : (a = c ∧ b = d) ∨ (a = d ∧ b = c) := by
  unfold mn at h1
  unfold mx at h2
  split at h1 <;> split at h2 <;> split at h1 <;> split at h2 <;> omega
theorem rd_set2 (l : List Bool) (a b i : Nat) (ha : a < l.length) (hb : b < l.length) : rdOf false ((l.set a true).set b true) (i : Int) = (decide (i = a) || (decide (i = b) || rdOf false l (i : Int))) := by
  simp only [rdOf, Int.toNat_natCast, List.getD_eq_getElem?_getD, List.getElem?_set, List.length_set]
  by_cases h1 : b = i
  · subst h1; simp [hb]
  · by_cases h2 : a = i
    · subst h2; simp [h1, ha]
    · have h3 : ¬ i = a := fun e => h2 e.symm
      have h4 : ¬ i = b := fun e => h1 e.symm
      simp [h1, h2, h3, h4]
theorem seenOk_put {n : Nat} {seen : List Bool} {met : List (Int × Int)} (h : seenOk n seen met) {p q : Nat} (hp : p < n) (hq : q < n) :
    seenOk n ((seen.set (p * n + q) true).set (q * n + p) true) (met ++ [(mn (p : Int) (q : Int), mx (p : Int) (q : Int))]) := by
  refine ⟨by simpa using h.1, fun p' q' hp' hq' => ?_⟩
  rw [rd_set2 _ _ _ _ (by rw [h.1]; exact grid_lt hp hq) (by rw [h.1]; exact grid_lt hq hp), h.2 p' q' hp' hq']
  rw [Bool.eq_iff_iff]
  simp only [Bool.or_eq_true, decide_eq_true_eq, List.contains_iff_mem, List.mem_append, List.mem_singleton, Prod.mk.injEq]
  constructor
  · rintro (e | e | e)
    · obtain ⟨rfl, rfl⟩ := grid_inj hq' hq e
      exact .inr ⟨rfl, rfl⟩
    · obtain ⟨rfl, rfl⟩ := grid_inj hq' hp e
      exact .inr ⟨mn_comm _ _, mx_comm _ _⟩
    · exact .inl e
  · rintro (e | ⟨e1, e2⟩)
    · exact .inr (.inr e)
    · rcases mnmx e1 e2 with ⟨h1, h2⟩ | ⟨h1, h2⟩
      · have : p' = p := by omega
        have : q' = q := by omega
        subst p' q'
        exact .inl rfl
      · have : p' = q := by omega
        have : q' = p := by omega
        subst p' q'
        exact .inr (.inl rfl)
theorem spec_suPairs_loop (n : Nat) (hn : 2 ≤ n ∧ n ≤ 11) (w : List Int) (hw : w.length ≤ 200) (hb : ∀ x ∈ w, 0 ≤ x ∧ x ≤ (n : Int) - 1) (hl : (w.length : Int) = halfM (n : Int)) :
    ∀ d i met seen, i + d = w.length → met.length = i → seenOk n seen met → Ev (fun k => spec_suPairs.l0 k (n : Int) w seen (w.length : Int) (i : Int)) (pcI (n : Int) w d i met) := by
  intro d
  induction d with
  | zero =>
    intro i met seen h hm hs
    refine Ev.step (fun k => by simp only [spec_suPairs.l0]; rfl) (ev_neg (by omega) (ev_some ?_))
    unfold pcI
    exact (beq_iff_eq.mpr (by omega)).symm
  | succ d ih =>
    intro i met seen h hm hs
    have hpos : 0 < w.length := by omega
    have h0 : rd (win w i 2) 0 = rd w (i : Int) := by
      rw [show (0 : Int) = ((0 : Nat) : Int) from rfl, rd_nat, win_get _ _ _ _ (by omega), rd_nat, Nat.add_zero, Nat.mod_eq_of_lt (by omega)]
    have h1 : rd (win w i 2) 1 = pairAt w i := by
      rw [show (1 : Int) = ((1 : Nat) : Int) from rfl, rd_nat, win_get _ _ _ _ (by omega)]; rfl
    have hp := hb (rd w (i : Int)) (by rw [rd_get w i (by omega)]; exact List.getElem_mem _)
    have hq := hb (pairAt w i) (pairAt_mem i hpos)
    refine Ev.step (fun k => by simp only [spec_suPairs.l0]; rfl) ?_
    refine ev_pos (by omega) (ev_call (spec_suRound_ev w 2 i hpos (by omega) (by omega) (by omega)) ?_)
    rw [win_length, h0, h1]
    refine ev_pos (by omega) (ev_pos (by omega) ?_)
    unfold pcI
    refine ev_if (fun e => ev_some (by rw [if_pos e])) (fun e => ?_)
    rw [if_neg e, if_neg (by rw [mx_self_le]; omega)]
    have hkey : pairKey w i = (mn (rd w (i : Int)) (pairAt w i), mx (rd w (i : Int)) (pairAt w i)) := rfl
    rw [hkey]
    obtain ⟨p, hp2⟩ : ∃ p : Nat, rd w (i : Int) = p := ⟨(rd w (i : Int)).toNat, by omega⟩
    obtain ⟨q, hq2⟩ : ∃ q : Nat, pairAt w i = q := ⟨(pairAt w i).toNat, by omega⟩
    rw [hp2] at hp
    rw [hq2] at hq
    rw [hp2, hq2]
    have hpn : p < n := by omega
    have hqn : q < n := by omega
    have g1 := grid_lt hpn hqn
    have g2 := grid_lt hqn hpn
    have hnn : n * n ≤ 11 * 11 := Nat.mul_le_mul hn.2 hn.2
    have m1 : p * n ≤ 11 * 11 := Nat.mul_le_mul (by omega) hn.2
    have m2 : q * n ≤ 11 * 11 := Nat.mul_le_mul (by omega) hn.2
    rw [show (p : Int) * (n : Int) = ((p * n : Nat) : Int) by simp, show (q : Int) * (n : Int) = ((q * n : Nat) : Int) by simp, wrap_id (x := ((p * n : Nat) : Int)) (by omega), wrap_id (x := ((q * n : Nat) : Int)) (by omega),
      show ((p * n : Nat) : Int) + (q : Int) = ((p * n + q : Nat) : Int) by omega, show ((q * n : Nat) : Int) + (p : Int) = ((q * n + p : Nat) : Int) by omega, wrap_id (x := ((p * n + q : Nat) : Int)) (by omega), wrap_id (x := ((q * n + p : Nat) : Int)) (by omega)]
    refine ev_pos (by omega) (ev_pos (by rw [hs.1]; omega) ?_)
    rw [hs.2 p q hpn hqn, Int.toNat_natCast, Int.toNat_natCast, wrap_succ (by omega)]
    refine ev_if (fun e => ev_some (by rw [if_pos e])) (fun e => ?_)
    rw [if_neg e]
    exact ev_pos (by omega) (ev_pos (by rw [hs.1]; omega) (ih (i + 1) _ _ (by omega) (by simp [hm]) (seenOk_put hs hpn hqn)))
theorem spec_suPairs_ev (n : Int) (hn : 2 ≤ n ∧ n ≤ 11) (w : List Int) (hw : w.length ≤ 200) (hb : ∀ x ∈ w, 0 ≤ x ∧ x ≤ 11) : Ev (fun k => spec_suPairs.f k n w) (pairB n w) := by
  obtain ⟨m, rfl⟩ : ∃ m : Nat, n = (m : Int) := ⟨n.toNat, by omega⟩
  have no : pairB (m : Int) w = false → Ev (fun k => spec_suPairs.j0 k (m : Int) w true) (pairB (m : Int) w) := fun h => by
    rw [h]
    exact Ev.step (fun k => by simp only [spec_suPairs.j0]; rfl) (ev_pos (by trivial) (Ev.now _))
  unfold spec_suPairs.f
  rw [(halfM_small hn).1, wrap_id (x := (m : Int) - 1) (by omega)]
  refine ev_if (fun hl => ?_) (fun hl => no ?_)
  · refine ev_call (spec_l1All_ev _ _ w (by omega)) ?_
    by_cases ha : allB w 0 ((m : Int) - 1) = true
    · rw [ha]
      have hm : m * m ≤ 11 * 11 := Nat.mul_le_mul (by omega) (by omega)
      refine Ev.step (fun k => by simp only [spec_suPairs.j0]; rfl) ?_
      rw [show (m : Int) * (m : Int) = ((m * m : Nat) : Int) by simp, wrap_id (x := ((m * m : Nat) : Int)) (by omega), Int.toNat_natCast]
      refine ev_neg (by simp) ?_
      refine ev_pos (by omega) (ev_pos (by omega) ?_)
      refine spec_suPairs_loop m (by omega) w hw (allB_iff.mp ha) hl w.length 0 [] _ (by omega) rfl ⟨by simp, fun p q hp hq => ?_⟩
      simp [rdOf, List.getD_eq_getElem?_getD, List.getElem?_replicate]
      split <;> rfl
    · have hf := Bool.eq_false_iff.mpr ha
      rw [hf]
      refine no (Bool.eq_false_iff.mpr fun ht => ha (allB_iff.mpr fun x hx => ?_))
      obtain ⟨j, hj, rfl⟩ := List.getElem_of_mem hx
      have := pcI_all (m : Int) w w.length 0 [] ht j (by omega) (by omega)
      rw [rd_get w j hj] at this
      exact ⟨(hb _ hx).1, this⟩
  · refine Bool.eq_false_iff.mpr fun ht => hl ?_
    have := pcI_len (m : Int) w w.length 0 [] ht
    simpa using this

theorem spec_IsPairCycle_ev (n : Int) (w : List Int) (hw : w.length ≤ 1048576) : Ev (fun k => spec_IsPairCycle.f k n w) (IsPairCycleM n w) := by
  unfold spec_IsPairCycle.f IsPairCycleM
  refine ev_plain (spec_suPairSize_eq _) (ev_if (fun h1 => ?_) (fun h1 => ev_some (by rw [Bool.eq_false_iff.mpr h1]; rfl)))
  refine ev_call (spec_suWord_ev w hw) (ev_if (fun h2 => ?_) (fun h2 => ev_some (by rw [Bool.eq_false_iff.mpr h2]; simp)))
  have e2 := superWordB_iff.mp h2
  exact ev_call (spec_suPairs_ev n (inB_iff.mp h1) w e2.1 e2.2) (ev_some (by rw [h1, h2]; rfl))

def pairHit (w : List Int) (a b : Int) (i : Nat) : Bool := (decide (rd w (i : Int) = a) && decide (pairAt w i = b)) || (decide (rd w (i : Int) = b) && decide (pairAt w i = a))
def PairPlaceM (n : Int) (w : List Int) (a b : Int) : Int × Bool := if (inB n 2 11 && superWordB w && pairB n w) = true then ((List.range' 0 w.length).findSome? fun i => if pairHit w a b i = true then some ((i : Int), true) else none).getD (0, false) else (0, false)

theorem impl_PairPlace_ev (n : Int) (w : List Int) (a b : Int) (hw : w.length ≤ 1048576) : Ev (fun k => impl_PairPlace.f k n w a b) (PairPlaceM n w a b) := by
  have no : (inB n 2 11 && superWordB w && pairB n w) = false → Ev (fun k => impl_PairPlace.j0 k w a b true) (PairPlaceM n w a b) := fun h => by
    unfold PairPlaceM
    rw [h]
    exact Ev.step (fun k => by simp only [impl_PairPlace.j0]; rfl) (ev_pos (by trivial) (Ev.now _))
  unfold impl_PairPlace.f
  refine ev_plain (impl_within_eq _ _ _) (ev_if (fun h1 => ?_) (fun h1 => no (by rw [Bool.eq_false_iff.mpr h1]; rfl)))
  refine ev_call (impl_isSuperWord_ev w hw) (ev_if (fun h2 => ?_) (fun h2 => no (by rw [Bool.eq_false_iff.mpr h2]; simp)))
  have e2 := superWordB_iff.mp h2
  refine ev_call (impl_isPairCycle_ev n (inB_iff.mp h1) w e2.1 e2.2) ?_
  by_cases h3 : pairB n w = true
  · rw [h3]
    refine Ev.step (fun k => by simp only [impl_PairPlace.j0]; rfl) (ev_neg (by simp) ?_)
    unfold PairPlaceM
    rw [h1, h2, h3]
    refine ev_find (fun i k => impl_PairPlace.l0 k w a b w (w.length : Int) (i : Int)) _ w.length _ (fun i hi => ?_) ?_ w.length 0 (by omega)
    · have hpos : 0 < w.length := by omega
      have hmod := Nat.mod_lt (i + 1) hpos
      have g1 : rd w (((i + 1) % w.length : Nat) : Int) = pairAt w i := by rw [rd_nat]; rfl
      have step : ∀ r, (pairHit w a b i = true → Ev (fun _ => some ((i : Int), true)) r) → (¬ pairHit w a b i = true → Ev (fun k => impl_PairPlace.l0 k w a b w (w.length : Int) ((i + 1 : Nat) : Int)) r) → Ev (fun k => impl_PairPlace.l0 k w a b w (w.length : Int) (i : Int)) r := by
        intro r hy hn
        refine Ev.step (fun k => by simp only [impl_PairPlace.l0]; rfl) ?_
        rw [wrap_succ (by omega), tmod_nat, g1]
        unfold pairHit at hy hn
        refine ev_pos (by omega) (ev_pos (by omega) (ev_pos (by omega) (ev_neg (by omega) (ev_pos (by omega) (ev_pos (by omega) ?_)))))
        refine ev_if (fun c1 => ev_if (fun c2 => hy (by simp [c1, c2])) (fun c2 => ev_if (fun c3 => ev_if (fun c4 => hy ?_) (fun c4 => hn ?_)) (fun c3 => hn ?_))) (fun c1 => ev_if (fun c3 => ev_if (fun c4 => hy ?_) (fun c4 => hn ?_)) (fun c3 => hn ?_))
        all_goals simp only [Bool.or_eq_true, Bool.and_eq_true, decide_eq_true_eq]; omega
      refine ⟨fun r h => step r (fun e => ?_) (fun e => ?_), fun h r hk => step r (fun e => ?_) (fun _ => hk)⟩
      · rw [if_pos e] at h; exact ev_some (Option.some.inj h)
      · rw [if_neg e] at h; cases h
      · rw [if_pos e] at h; cases h
    · exact Ev.step (fun k => by simp only [impl_PairPlace.l0]; rfl) (ev_neg (by omega) (Ev.now _))
  · rw [Bool.eq_false_iff.mpr h3]
    exact no (by rw [Bool.eq_false_iff.mpr h3]; simp)

theorem spec_PairPlace_ev (n : Int) (w : List Int) (a b : Int) (hw : w.length ≤ 1048576) : Ev (fun k => spec_PairPlace.f k n w a b) (PairPlaceM n w a b) := by
  have no : (inB n 2 11 && superWordB w && pairB n w) = false → Ev (fun k => spec_PairPlace.j0 k w a b true) (PairPlaceM n w a b) := fun h => by
    unfold PairPlaceM
    rw [h]
    exact Ev.step (fun k => by simp only [spec_PairPlace.j0]; rfl) (ev_pos (by trivial) (Ev.now _))
  unfold spec_PairPlace.f
  refine ev_plain (spec_suPairSize_eq _) (ev_if (fun h1 => ?_) (fun h1 => no (by rw [Bool.eq_false_iff.mpr h1]; rfl)))
  refine ev_call (spec_suWord_ev w hw) (ev_if (fun h2 => ?_) (fun h2 => no (by rw [Bool.eq_false_iff.mpr h2]; simp)))
  have e2 := superWordB_iff.mp h2
  refine ev_call (spec_suPairs_ev n (inB_iff.mp h1) w e2.1 e2.2) ?_
  by_cases h3 : pairB n w = true
  · rw [h3]
    refine Ev.step (fun k => by simp only [spec_PairPlace.j0]; rfl) (ev_neg (by simp) ?_)
    unfold PairPlaceM
    rw [h1, h2, h3]
    refine ev_find (fun i k => spec_PairPlace.l0 k w a b (w.length : Int) (i : Int)) _ w.length _ (fun i hi => ?_) ?_ w.length 0 (by omega)
    · have hpos : 0 < w.length := by omega
      have g0 : rd (win w i 2) 0 = rd w (i : Int) := by
        rw [show (0 : Int) = ((0 : Nat) : Int) from rfl, rd_nat, win_get _ _ _ _ (by omega), rd_nat, Nat.add_zero, Nat.mod_eq_of_lt (by omega)]
      have g1 : rd (win w i 2) 1 = pairAt w i := by
        rw [show (1 : Int) = ((1 : Nat) : Int) from rfl, rd_nat, win_get _ _ _ _ (by omega)]; rfl
      have step : ∀ r, (pairHit w a b i = true → Ev (fun _ => some ((i : Int), true)) r) → (¬ pairHit w a b i = true → Ev (fun k => spec_PairPlace.l0 k w a b (w.length : Int) ((i + 1 : Nat) : Int)) r) → Ev (fun k => spec_PairPlace.l0 k w a b (w.length : Int) (i : Int)) r := by
        intro r hy hn
        refine Ev.step (fun k => by simp only [spec_PairPlace.l0]; rfl) ?_
        refine ev_pos (by omega) (ev_call (spec_suRound_ev w 2 i hpos (by omega) (by omega) (by omega)) ?_)
        rw [win_length, g0, g1, wrap_succ (by omega)]
        unfold pairHit at hy hn
        refine ev_pos (by omega) (ev_if (fun c1 => ev_pos (by omega) (ev_if (fun c2 => hy (by simp [c1, c2])) (fun c2 => ev_if (fun c3 => ev_if (fun c4 => hy ?_) (fun c4 => hn ?_)) (fun c3 => hn ?_)))) (fun c1 => ev_if (fun c3 => ev_pos (by omega) (ev_if (fun c4 => hy ?_) (fun c4 => hn ?_))) (fun c3 => hn ?_)))
        all_goals simp only [Bool.or_eq_true, Bool.and_eq_true, decide_eq_true_eq]; omega
      refine ⟨fun r h => step r (fun e => ?_) (fun e => ?_), fun h r hk => step r (fun e => ?_) (fun _ => hk)⟩
      · rw [if_pos e] at h; exact ev_some (Option.some.inj h)
      · rw [if_neg e] at h; cases h
      · rw [if_pos e] at h; cases h
    · exact Ev.step (fun k => by simp only [spec_PairPlace.l0]; rfl) (ev_neg (by omega) (Ev.now _))
  · rw [Bool.eq_false_iff.mpr h3]
    exact no (by rw [Bool.eq_false_iff.mpr h3]; simp)

theorem spec_l1Has_loop (l : List Int) (x : Int) (hl : l.length ≤ 1000000000000) : ∀ (d i : Nat), i + d = l.length → Ev (fun k => spec_l1Has.l0 k x l (l.length : Int) (i : Int)) (decide (x ∈ l.drop i)) := by
  intro d
  induction d with
  | zero =>
    intro i h
    rw [List.drop_eq_nil_of_le (by omega)]
    exact Ev.step (fun k => by simp only [spec_l1Has.l0]; rfl) (ev_neg (by omega) (ev_some (by simp)))
  | succ d ih =>
    intro i h
    rw [drop_rd l i (by omega)]
    refine Ev.step (fun k => by simp only [spec_l1Has.l0]; rfl) ?_
    rw [wrap_succ (by omega)]
    refine ev_pos (by omega) (ev_pos (by omega) (ev_pos (by omega) ?_))
    exact ev_if (fun e => ev_some (by simp [e])) (fun e => ev_to (ih (i + 1) (by omega)) (by rw [decide_eq_decide, List.mem_cons]; exact ⟨.inr, fun h => h.resolve_left (fun h => e h.symm)⟩))
theorem spec_l1Has_ev (l : List Int) (x : Int) (hl : l.length ≤ 1000000000000) : Ev (fun k => spec_l1Has.f k l x) (decide (x ∈ l)) :=
  spec_l1Has_loop l x hl l.length 0 (by omega)

theorem spec_raPermutation_loop (l : List Int) (hl : l.length ≤ 1000000000000) : ∀ (d i : Nat), i + d = l.length → i ≤ 12 → (l.take i).Nodup → (∀ x ∈ l.take i, 0 ≤ x ∧ x ≤ (l.length : Int) - 1) →
    Ev (fun k => spec_raPermutation.l0 k l l (l.length : Int) (i : Int)) (permB l) := by
  intro d
  induction d with
  | zero =>
    intro i h1 h2 h3 h4
    rw [List.take_of_length_le (by omega)] at h3 h4
    exact Ev.step (fun k => by simp only [spec_raPermutation.l0]; rfl) (ev_neg (by omega) (ev_some (by rw [eq_comm, permB_iff]; exact ⟨by omega, h3, h4⟩)))
  | succ d ih =>
    intro i h1 h2 h3 h4
    have hmem : rd l (i : Int) ∈ l := by rw [rd_get l i (by omega)]; exact List.getElem_mem _
    have ht := take_rd l i (by omega)
    have hsplit : l = l.take i ++ rd l (i : Int) :: l.drop (i + 1) := by rw [← drop_rd l i (by omega), List.take_append_drop]
    have no : ∀ {P : Prop}, (permB l = true → P → False) → P → false = permB l := fun h p => by
      rw [eq_comm, Bool.eq_false_iff]; exact fun hb => h hb p
    refine Ev.step (fun k => by simp only [spec_raPermutation.l0]; rfl) ?_
    refine ev_pos (by omega) (ev_pos (by omega) (ev_pos (by omega) ?_))
    refine ev_if (fun e => ev_some (no (fun hb _ => by have := (permB_iff.mp hb).1; omega) trivial)) (fun e => ?_)
    rw [wrap_id (x := (l.length : Int) - 1) (by omega), wrap_succ (by omega), Int.toNat_natCast]
    refine ev_plain (spec_l1In_eq _ _ _) (ev_if (fun h5 => ?_) (fun h5 => ev_some (no (fun hb _ => h5 (inB_iff.mpr ((permB_iff.mp hb).2.2 _ hmem))) trivial)))
    refine ev_pos (by omega) (ev_call (spec_l1Has_ev (l.take i) (rd l (i : Int)) (by simp; omega)) (ev_if (fun h6 => ev_some (no (fun hb _ => ?_) trivial)) (fun h6 => ?_)))
    · have hn := (permB_iff.mp hb).2.1
      rw [hsplit, List.nodup_append] at hn
      exact hn.2.2 _ (by simpa using h6) (rd l (i : Int)) (by simp) rfl
    · have hni : rd l (i : Int) ∉ l.take i := by simpa using h6
      refine ih (i + 1) (by omega) (by omega) ?_ ?_
      · rw [ht, List.nodup_append]
        refine ⟨h3, by simp, fun a ha b hb => ?_⟩
        simp only [List.mem_singleton] at hb
        rw [hb]
        intro hab
        exact hni (hab ▸ ha)
      · intro x hx
        rw [ht, List.mem_append] at hx
        rcases hx with hx | hx
        · exact h4 x hx
        · simp only [List.mem_singleton] at hx
          rw [hx]; exact inB_iff.mp h5
theorem spec_raPermutation_ev (l : List Int) (hl : l.length ≤ 1000000000000) : Ev (fun k => spec_raPermutation.f k l) (permB l) :=
  spec_raPermutation_loop l hl l.length 0 (by omega) (by omega) (by simp) (by simp)

theorem laws_uSame_loop (a b : List Int) (ha : a.length ≤ 1000000000000) (hab : a.length = b.length) : ∀ (d i : Nat), i + d = a.length →
    Ev (fun k => laws_uSame.l0 k a b (a.length : Int) (i : Int)) (decide (a.drop i = b.drop i)) := by
  intro d
  induction d with
  | zero =>
    intro i h
    rw [List.drop_eq_nil_of_le (by omega), List.drop_eq_nil_of_le (by omega)]
    refine Ev.step (f := fun _ => some true) (fun k => ?_) (Ev.now _)
    simp only [laws_uSame.l0]; rw [if_neg (by omega)]
  | succ d ih =>
    intro i h
    rw [drop_rd a i (by omega), drop_rd b i (by omega)]
    refine Ev.step (f := fun k => if rd a (i : Int) = rd b (i : Int) then laws_uSame.l0 k a b (a.length : Int) ((i + 1 : Nat) : Int) else some false) (fun k => ?_) ?_
    · simp only [laws_uSame.l0]; rw [if_pos (by omega), if_pos (by omega), if_pos (by omega), if_pos (by omega), wrap_succ (by omega)]
    · exact ev_if (fun e => ev_to (ih (i + 1) (by omega)) (by simp [e])) (fun e => ev_some (by simp [e]))
theorem laws_uSame_ev (a b : List Int) (ha : a.length ≤ 1000000000000) : Ev (fun k => laws_uSame.f k a b) (decide (a = b)) := by
  unfold laws_uSame.f
  refine ev_if (fun h => ?_) (fun h => ev_some ?_)
  · exact laws_uSame_loop a b ha (by omega) a.length 0 (by omega)
  · rw [eq_comm, decide_eq_false_iff_not]; intro e; exact h (by rw [e])

theorem laws_big_some (a b : List Int) : ∃ r, laws_big.f a b = some r := by
  unfold laws_big.f
  split
  · exact ⟨_, rfl⟩
  · exact ⟨_, rfl⟩
theorem laws_big_ok {a b : List Int} {r : Bool} (h : laws_big.f a b = some r) (hr : ¬ r = true) : a.length ≤ 1048576 ∧ b.length ≤ 1048576 := by
  unfold laws_big.f at h
  split at h
  · cases h; exact absurd rfl hr
  · rename_i h1
    obtain rfl := Option.some.inj h
    rw [wrap_id (by omega)] at hr
    simp at hr
    omega

theorem laws_uHas_loop (l : List Int) (x : Int) (hl : l.length ≤ 1000000000000) : ∀ (d i : Nat), i + d = l.length → Ev (fun k => laws_uHas.l0 k x l (l.length : Int) (i : Int)) (decide (x ∈ l.drop i)) := by
  intro d
  induction d with
  | zero =>
    intro i h
    rw [List.drop_eq_nil_of_le (by omega)]
    exact Ev.step (fun k => by simp only [laws_uHas.l0]; rfl) (ev_neg (by omega) (ev_some (by simp)))
  | succ d ih =>
    intro i h
    rw [drop_rd l i (by omega)]
    refine Ev.step (fun k => by simp only [laws_uHas.l0]; rfl) ?_
    rw [wrap_succ (by omega)]
    refine ev_pos (by omega) (ev_pos (by omega) (ev_pos (by omega) ?_))
    exact ev_if (fun e => ev_some (by simp [e])) (fun e => ev_to (ih (i + 1) (by omega)) (by rw [decide_eq_decide, List.mem_cons]; exact ⟨.inr, fun h => h.resolve_left (fun h => e h.symm)⟩))
theorem laws_uHas_ev (l : List Int) (x : Int) (hl : l.length ≤ 1000000000000) : Ev (fun k => laws_uHas.f k l x) (decide (x ∈ l)) :=
  laws_uHas_loop l x hl l.length 0 (by omega)
/-! What is drawn. -/
theorem order_loop {d : List Int} (hd : bytesL d) (N : Nat) (h1 : 1 ≤ N) (h2 : N ≤ 12) : ∀ (m : Nat) (xs : List Int) (a s : Int), xs.length + m = N → 0 ≤ a → a + 2 * (m : Int) ≤ 999999999990000 →
    ∃ r a' s', Ev (fun q => spec_l1Cur_order.l0 q (N : Int) xs (xs.length : Int) d a s) (r, a', s') ∧ r.length = N ∧ (a ≤ a' ∧ a' ≤ a + 2 * (m : Int) + 10) := by
  have hle : spec_l1Least.f (N : Int) 20 = some (N : Int) := by rw [spec_l1Least_eq9, if_pos (by omega)]
  have out : ∀ (xs : List Int) (b : Bool) (a s : Int), xs.length = N → 0 ≤ a → a ≤ 999999999990010 → ∃ r a' s', Ev (fun q => spec_l1Cur_order.j1 q xs b d a s) (r, a', s') ∧ r.length = N ∧ (a ≤ a' ∧ a' ≤ a + 4) := by
    intro xs b a s hx h0 hb
    cases b with
    | false =>
      refine ⟨xs, a, s, ?_, hx, by omega⟩
      refine Ev.step (fun k => by simp only [spec_l1Cur_order.j1]; rfl) ?_
      exact ev_neg (by simp) (Ev.now _)
    | true =>
      obtain ⟨p, a2, s2, e2, hp, ha2⟩ := pick_ok hd (a := a) s (xs.length : Int) h0 (by omega)
      obtain ⟨u, a3, s3, e3, _, ha3⟩ := among_ok hd (a := a2) s2 [(-1), 0, (xs.length : Int), 4611686018427387904] (by simp) (by omega) (by omega)
      refine ⟨xs.set p.toNat u, a3, s3, ?_, by rw [List.length_set]; exact hx, by omega⟩
      refine Ev.step (fun k => by simp only [spec_l1Cur_order.j1]; rfl) ?_
      refine ev_pos (by trivial) ?_
      refine ev_plain e2 ?_
      dsimp only
      refine ev_plain e3 ?_
      dsimp only
      exact ev_pos (by omega) (ev_pos (by omega) (Ev.now _))
  intro m
  induction m with
  | zero =>
    intro xs a s hx h0 hb
    obtain ⟨b, a1, s1, e1, ha1⟩ := one_ok hd (a := a) s 25 h0 (by omega)
    obtain ⟨r, a2, s2, e2, hr, ha2⟩ := out xs b a1 s1 (by omega) (by omega) (by omega)
    refine ⟨r, a2, s2, ?_, hr, by omega⟩
    refine Ev.step (fun k => by simp only [spec_l1Cur_order.l0]; rfl) ?_
    refine ev_plain hle ?_
    refine ev_neg (by omega) ?_
    refine ev_pos (by omega) ?_
    refine ev_plain e1 ?_
    dsimp only
    exact e2
  | succ m ih =>
    intro xs a s hx h0 hb
    obtain ⟨p, a1, s1, e1, hp, ha1⟩ := pick_ok hd (a := a) s (wrap64 ((xs.length : Int) + 1)) h0 (by omega)
    rw [wrap_succ (by omega)] at hp
    have hlen : ((([] ++ xs.take p.toNat) ++ [(xs.length : Int)]) ++ xs.drop p.toNat).length = xs.length + 1 := by simp; omega
    obtain ⟨r, a2, s2, e2, hr, ha2⟩ := ih ((([] ++ xs.take p.toNat) ++ [(xs.length : Int)]) ++ xs.drop p.toNat) a1 s1 (by rw [hlen]; omega) (by omega) (by omega)
    refine ⟨r, a2, s2, ?_, hr, by omega⟩
    refine Ev.step (fun k => by simp only [spec_l1Cur_order.l0]; rfl) ?_
    refine ev_plain hle ?_
    refine ev_pos (by omega) ?_
    refine ev_plain e1 ?_
    dsimp only
    refine ev_plain rfl ?_
    refine ev_pos (by omega) ?_
    refine ev_pos (by omega) ?_
    refine ev_plain rfl ?_
    refine ev_pos (by simp; omega) ?_
    refine ev_plain rfl ?_
    refine ev_pos (by simp; omega) ?_
    refine ev_plain rfl ?_
    refine ev_plain rfl ?_
    refine ev_pos (by simp; omega) ?_
    rw [hlen] at e2
    rw [wrap_succ (by omega)]
    exact e2
theorem order_ok {d : List Int} (hd : bytesL d) {a : Int} (s : Int) (N : Nat) (h1 : 1 ≤ N) (h2 : N ≤ 12) (h0 : 0 ≤ a) (hb : a ≤ 999999999980000) : ∃ r a' s', Ev (fun q => spec_l1Cur_order.f q d a s (N : Int)) (r, a', s') ∧ r.length = N ∧ (a ≤ a' ∧ a' ≤ a + 100) := by
  obtain ⟨r, a', s', e, hr, ha⟩ := order_loop hd N h1 h2 N [] a s (by simp) h0 (by omega)
  exact ⟨r, a', s', e, hr, by omega⟩
theorem moPicked_ok (p t : List Int) (ht : t.length ≤ 1000) (hx : ∀ x ∈ t, 0 ≤ x ∧ x < (p.length : Int)) : ∃ r, Ev (fun q => spec_moPicked.f q p t) r ∧ r.length = t.length := by
  have key : ∀ (m i : Nat) (s : List Int), i + m = t.length → s.length = i → ∃ r, Ev (fun q => spec_moPicked.l0 q p s t (t.length : Int) (i : Int)) r ∧ r.length = t.length := by
    intro m
    induction m with
    | zero =>
      intro i s h1 h2
      exact ⟨s, Ev.step (fun k => by simp only [spec_moPicked.l0]; rfl) (ev_neg (by omega) (Ev.now _)), by omega⟩
    | succ m ih =>
      intro i s h1 h2
      obtain ⟨r, e, hr⟩ := ih (i + 1) (s ++ [rd p (rd t (i : Int))]) (by omega) (by simp; omega)
      have hv := hx (rd t (i : Int)) (by rw [rd_get t i (by omega)]; exact List.getElem_mem (by omega))
      refine ⟨r, Ev.step (fun k => by simp only [spec_moPicked.l0]; rfl) (ev_pos (by omega) (ev_pos (by omega) (ev_pos (by omega) (ev_pos hv.1 (ev_pos hv.2 (ev_pos (by omega) ?_)))))), hr⟩
      rw [wrap_succ (by omega)]
      exact e
  exact key t.length 0 [] (by omega) rfl
def optLook (n : Nat) : Option (List Int) → Bool
  | some t => decide (1 ≤ t.length) && (decide (t.length ≤ 100) && t.all fun x => decide (0 ≤ x) && decide (x < (n : Int)))
  | none => false
theorem optLook_ok (n : Nat) : ∀ (o : Option (List Int)), optLook n o = true → ∃ t, o = some t ∧ 1 ≤ t.length ∧ t.length ≤ 100 ∧ ∀ x ∈ t, 0 ≤ x ∧ x < (n : Int)
  | none, h => by cases h
  | some t, h => by
    unfold optLook at h
    simp only [Bool.and_eq_true, decide_eq_true_eq, List.all_eq_true] at h
    exact ⟨t, rfl, h.1, h.2.1, h.2.2⟩
theorem tourLook_3 : optLook 3 (spec_suTour.f 1000 ((3 : Nat) : Int)) = true := by kernel_rfl
theorem tourLook_5 : optLook 5 (spec_suTour.f 1000 ((5 : Nat) : Int)) = true := by kernel_rfl
theorem tourLook_7 : optLook 7 (spec_suTour.f 1000 ((7 : Nat) : Int)) = true := by kernel_rfl
theorem tour_ok (K n : Nat) (h : optLook n (spec_suTour.f K (n : Int)) = true) : ∃ t, Ev (fun q => spec_suTour.f q (n : Int)) t ∧ 1 ≤ t.length ∧ t.length ≤ 100 ∧ ∀ x ∈ t, 0 ≤ x ∧ x < (n : Int) := by
  obtain ⟨t, ht, h1, h2, h3⟩ := optLook_ok n _ h
  exact ⟨t, Ev.of (fun k => spec_suTour.mono _ k) ht, h1, h2, h3⟩
theorem paired_last {d : List Int} (hd : bytesL d) (n : Int) (t : List Int) (h1 : 1 ≤ t.length) (h2 : t.length ≤ 100) {a : Int} (s : Int) (h0 : 0 ≤ a) (hb : a ≤ 999999999980000) : ∃ w a' s', Ev (fun q => spec_l1Cur_paired.j1 q n t d a s) (n, w, a', s') ∧ w.length ≤ 202 ∧ (a ≤ a' ∧ a' ≤ a + 100) := by
  obtain ⟨p, a1, s1, e1, hp, ha1⟩ := pick_ok hd (a := a) s (t.length : Int) h0 (by omega)
  have hown : spec_l1Own.f (t.drop p.toNat) = some (t.drop p.toNat) := by
    unfold spec_l1Own.f
    rw [Option.bind_some, if_pos (by simp; omega), List.nil_append]
  have hyl : (t.drop p.toNat ++ t.take p.toNat).length = t.length := by simp; omega
  obtain ⟨c, a2, s2, e2, hc, ha2⟩ := pick_ok hd (a := a1) s1 8 (by omega) (by omega)
  have pre : ∀ r, Ev (fun q => if c = 0 then ((spec_l1Cur_pick.f d a2 s2 ((t.drop p.toNat ++ t.take p.toNat).length : Int)).bind fun bt305 => ((spec_l1Cur_pick.f d bt305.2.1 bt305.2.2 n).bind fun bt308 => (if 0 ≤ bt305.1 then (if bt305.1 < ((t.drop p.toNat ++ t.take p.toNat).length : Int) then (some (n, ((t.drop p.toNat ++ t.take p.toNat).set (bt305.1 : Int).toNat bt308.1), bt308.2.1, bt308.2.2)) else (none)) else (none)))) else (if c = 1 then (if 1 ≤ ((t.drop p.toNat ++ t.take p.toNat).length : Int) then (some (n, ((t.drop p.toNat ++ t.take p.toNat).drop (1 : Int).toNat), a2, s2)) else (none)) else (some (n, (t.drop p.toNat ++ t.take p.toNat), a2, s2)))) r → Ev (fun q => spec_l1Cur_paired.j1 q n t d a s) r := by
    intro r h
    refine Ev.step (fun k => by simp only [spec_l1Cur_paired.j1]; rfl) (ev_plain e1 ?_)
    dsimp only
    refine ev_pos (by omega) (ev_pos (by omega) (ev_plain hown (ev_plain rfl (ev_pos (by simp; omega) (ev_plain rfl (ev_plain e2 ?_))))))
    exact h
  by_cases c0 : c = 0
  · obtain ⟨i, a3, s3, e3, hi, ha3⟩ := pick_ok hd (a := a2) s2 ((t.drop p.toNat ++ t.take p.toNat).length : Int) (by omega) (by omega)
    obtain ⟨x, a4, s4, e4, hx, ha4⟩ := pick_ok hd (a := a3) s3 n (by omega) (by omega)
    refine ⟨(t.drop p.toNat ++ t.take p.toNat).set i.toNat x, a4, s4, pre _ (ev_pos c0 (ev_plain e3 ?_)), by rw [List.length_set]; omega, by omega⟩
    dsimp only
    refine ev_plain e4 ?_
    dsimp only
    exact ev_pos (by omega) (ev_pos (by omega) (Ev.now _))
  · by_cases c1 : c = 1
    · exact ⟨(t.drop p.toNat ++ t.take p.toNat).drop (1 : Int).toNat, a2, s2, pre _ (ev_neg c0 (ev_pos c1 (ev_pos (by omega) (Ev.now _)))), by rw [List.length_drop]; omega, by omega⟩
    · exact ⟨t.drop p.toNat ++ t.take p.toNat, a2, s2, pre _ (ev_neg c0 (ev_neg c1 (Ev.now _))), by omega, by omega⟩
theorem paired_ok {d : List Int} (hd : bytesL d) : ∃ n w a' s', Ev (fun q => spec_l1Cur_paired.f q d 0 0) (n, w, a', s') ∧ w.length ≤ 202 ∧ (1 ≤ n ∧ n ≤ 12) ∧ (0 ≤ a' ∧ a' ≤ 10000) := by
  obtain ⟨n, a1, s1, e1, hn, ha1⟩ := among_ok hd (a := 0) 0 [2, 3, 5, 5, 7, 7, 4, 12, 1] (by simp) (by omega) (by omega)
  have hsz : spec_suPairSize.f n = some (inB n 2 11) := by
    unfold spec_suPairSize.f
    rw [spec_l1In_eq]
    rfl
  have wild : ∃ w a' s', Ev (fun q => spec_l1Cur_paired.j0 q n true d a1 s1) (n, w, a', s') ∧ w.length ≤ 202 ∧ (0 ≤ a' ∧ a' ≤ 10000) := by
    obtain ⟨r, a2, s2, e2, hr, ha2⟩ := word9_ok hd (a := a1) s1 n 8 (by omega) (by omega) (by omega)
    exact ⟨r, a2, s2, Ev.step (fun k => by simp only [spec_l1Cur_paired.j0]; rfl) (ev_pos (by trivial) (ev_call e2 (Ev.now _))), hr, by omega⟩
  have tame : ∀ N : Nat, n = (N : Int) → 1 ≤ N → N ≤ 12 → optLook N (spec_suTour.f 1000 (N : Int)) = true → ∃ w a' s', Ev (fun q => spec_l1Cur_paired.j0 q n false d a1 s1) (n, w, a', s') ∧ w.length ≤ 202 ∧ (0 ≤ a' ∧ a' ≤ 10000) := by
    rintro N rfl g1 g2 hl
    obtain ⟨t, ht, t1, t2, t3⟩ := tour_ok 1000 N hl
    obtain ⟨p, a2, s2, e2, hp, ha2⟩ := order_ok hd (a := a1) s1 N g1 g2 (by omega) (by omega)
    by_cases c : permB p = true
    · obtain ⟨m, hm, hml⟩ := moPicked_ok p t (by omega) (fun x hx => by have := t3 x hx; omega)
      obtain ⟨w, a3, s3, e3, hw, ha3⟩ := paired_last hd (N : Int) m (by omega) (by omega) (a := a2) s2 (by omega) (by omega)
      refine ⟨w, a3, s3, Ev.step (fun k => by simp only [spec_l1Cur_paired.j0]; rfl) (ev_neg (by simp) (ev_call ht (ev_call e2 ?_))), hw, by omega⟩
      dsimp only
      exact ev_call (spec_raPermutation_ev p (by omega)) (ev_pos c (ev_call hm e3))
    · obtain ⟨w, a3, s3, e3, hw, ha3⟩ := paired_last hd (N : Int) t (by omega) (by omega) (a := a2) s2 (by omega) (by omega)
      refine ⟨w, a3, s3, Ev.step (fun k => by simp only [spec_l1Cur_paired.j0]; rfl) (ev_neg (by simp) (ev_call ht (ev_call e2 ?_))), hw, by omega⟩
      dsimp only
      exact ev_call (spec_raPermutation_ev p (by omega)) (ev_neg c e3)
  by_cases h : inB n 2 11 = true
  · have both : ∃ w a' s', Ev (fun q => spec_l1Cur_paired.j0 q n (Int.tmod n 2 == 0) d a1 s1) (n, w, a', s') ∧ w.length ≤ 202 ∧ (0 ≤ a' ∧ a' ≤ 10000) := by
      simp only [List.mem_cons, List.not_mem_nil, or_false] at hn
      rcases hn with rfl | rfl | rfl | rfl | rfl | rfl | rfl | rfl | rfl
      · exact wild
      · exact tame 3 rfl (by omega) (by omega) tourLook_3
      · exact tame 5 rfl (by omega) (by omega) tourLook_5
      · exact tame 5 rfl (by omega) (by omega) tourLook_5
      · exact tame 7 rfl (by omega) (by omega) tourLook_7
      · exact tame 7 rfl (by omega) (by omega) tourLook_7
      · exact wild
      · exact wild
      · exact absurd h (by decide)
    obtain ⟨w, a', s', e, hw, ha⟩ := both
    refine ⟨n, w, a', s', ?_, hw, by simp at hn; omega, ha⟩
    unfold spec_l1Cur_paired.f
    refine ev_plain e1 ?_
    dsimp only
    exact ev_plain hsz (ev_pos h e)
  · obtain ⟨w, a', s', e, hw, ha⟩ := wild
    refine ⟨n, w, a', s', ?_, hw, by simp at hn; omega, ha⟩
    unfold spec_l1Cur_paired.f
    refine ev_plain e1 ?_
    dsimp only
    exact ev_plain hsz (ev_neg h e)
theorem drawIs_ok {d : List Int} (hd : bytesL d) : ∃ n w, Ev (fun q => spec_DrawIsPairCycle.f q d) (n, w) ∧ w.length ≤ 202 := by
  obtain ⟨n, w, a, s, e, hw, _⟩ := paired_ok hd
  refine ⟨n, w, ?_, hw⟩
  unfold spec_DrawIsPairCycle.f
  exact ev_call e (Ev.now _)
theorem drawPlace_ok {d : List Int} (hd : bytesL d) : ∃ n w a b, Ev (fun q => spec_DrawPairPlace.f q d) (n, w, a, b) ∧ w.length ≤ 202 := by
  obtain ⟨n, w, a, s, e, hw, hn, ha⟩ := paired_ok hd
  obtain ⟨x, a1, s1, e1, hx, ha1⟩ := pick_ok hd (a := a) s n (by omega) (by omega)
  obtain ⟨y, a2, s2, e2, hy, ha2⟩ := among_ok hd (a := a1) s1 [0, 1, 2, wrap64 (n - 1), n, (-1)] (by simp) (by omega) (by omega)
  refine ⟨n, w, x, y, ?_, hw⟩
  unfold spec_DrawPairPlace.f
  refine ev_call e ?_
  dsimp only
  refine ev_plain e1 ?_
  dsimp only
  refine ev_plain e2 ?_
  exact Ev.now _
/-! What the law asks. -/
def placeF (w : List Int) (a b : Int) : Int × Bool := ((List.range' 0 w.length).findSome? fun i => if pairHit w a b i = true then some ((i : Int), true) else none).getD (0, false)
def rowRun (w : List Int) (a : Nat) : Nat → Nat → List Int → Option (List Int)
  | 0, _, acc => some acc
  | d + 1, b, acc => match placeF w (a : Int) (b : Int) with
    | (i, true) => if i ∈ acc then none else rowRun w a d (b + 1) (acc ++ [i])
    | (_, false) => none
def allRun (w : List Int) : Nat → Nat → List Int → Option (List Int)
  | 0, _, acc => some acc
  | e + 1, a, acc => match rowRun w a a 0 acc with
    | some acc' => allRun w e (a + 1) acc'
    | none => none
theorem rowRun_length (w : List Int) (a : Nat) : ∀ (d b : Nat) (acc acc' : List Int), rowRun w a d b acc = some acc' → acc'.length = acc.length + d := by
  intro d
  induction d with
  | zero => intro b acc acc' h; unfold rowRun at h; obtain rfl := Option.some.inj h; rfl
  | succ d ih =>
    intro b acc acc' h
    unfold rowRun at h
    split at h
    · split at h
      · cases h
      · have := ih _ _ _ h
        rw [this]; simp; omega
    · cases h
theorem pairLaw_row (x1 : List Int) (n : Nat) (w : List Int) (hok : (inB (n : Int) 2 11 && superWordB w && pairB (n : Int) w) = true) (hw : w.length ≤ 200) (a : Nat) (ha : a ≤ 20) (R : Bool) : ∀ (d b : Nat) (acc acc' : List Int), rowRun w a d b acc = some acc' → b + d = a → acc.length + d ≤ 1000 →
    Ev (fun q => laws_FnPairCycles.l0 q x1 (n : Int) w acc' ((a + 1 : Nat) : Int)) R → Ev (fun q => laws_FnPairCycles.l1 q x1 (n : Int) w acc (a : Int) (b : Int)) R := by
  intro d
  induction d with
  | zero =>
    intro b acc acc' h hb _ k
    unfold rowRun at h
    obtain rfl := Option.some.inj h
    refine Ev.step (fun k => by simp only [laws_FnPairCycles.l1]; rfl) (ev_neg (by omega) ?_)
    rw [wrap_succ (by omega)]
    exact k
  | succ d ih =>
    intro b acc acc' h hb hl k
    unfold rowRun at h
    have hp := impl_PairPlace_ev (n : Int) w (a : Int) (b : Int) (by omega)
    have hpm : PairPlaceM (n : Int) w (a : Int) (b : Int) = placeF w (a : Int) (b : Int) := by
      unfold PairPlaceM
      rw [if_pos hok]
      rfl
    rw [hpm] at hp
    refine Ev.step (fun k => by simp only [laws_FnPairCycles.l1]; rfl) (ev_pos (by omega) ?_)
    split at h
    · rename_i i hi
      split at h
      · cases h
      · rename_i hmem
        rw [hi] at hp
        refine ev_call hp ?_
        dsimp only
        refine ev_pos rfl (ev_call (laws_uHas_ev _ _ (by omega)) (ev_neg (by simpa using hmem) (ev_pos (by omega) ?_)))
        rw [wrap_succ (by omega)]
        exact ih (b + 1) _ _ h (by omega) (by simp; omega) k
    · cases h
theorem pairLaw_all (x1 : List Int) (n : Nat) (hn : n ≤ 20) (w : List Int) (hok : (inB (n : Int) 2 11 && superWordB w && pairB (n : Int) w) = true) (hw : w.length ≤ 200) (R : Bool) (k : Ev (fun q => laws_FnPairCycles.j4 q x1) R) : ∀ (e a : Nat) (acc acc' : List Int), allRun w e a acc = some acc' → a + e = n → acc.length ≤ a * 20 →
    Ev (fun q => laws_FnPairCycles.l0 q x1 (n : Int) w acc (a : Int)) R := by
  intro e
  induction e with
  | zero =>
    intro a acc acc' _ ha _
    exact Ev.step (fun k => by simp only [laws_FnPairCycles.l0]; rfl) (ev_neg (by omega) k)
  | succ e ih =>
    intro a acc acc' h ha hl
    unfold allRun at h
    refine Ev.step (fun k => by simp only [laws_FnPairCycles.l0]; rfl) (ev_pos (by omega) ?_)
    split at h
    · rename_i acc1 h1
      have hl1 := rowRun_length w a a 0 acc acc1 h1
      exact pairLaw_row x1 n w hok hw a (by omega) R a 0 acc acc1 h1 (by omega) (by omega) (ih (a + 1) acc1 acc' h (by omega) (by omega))
    · cases h
def wordOk (n : Nat) (w : List Int) : Bool := (inB (n : Int) 2 11 && superWordB w && pairB (n : Int) w) && (decide (w.length ≤ 200) && (decide (0 < w.length) && (decide (rd w 0 = 0) && (allRun w n 0 []).isSome)))
def pairLook2 (n : Nat) : Bool := match impl_PairCycle.f 1000 (n : Int), spec_PairCycle.f 1000 (n : Int) with
  | some (r, true), some (s, true) => decide (r = s) && wordOk n r
  | _, _ => false
theorem pairLook2_3 : pairLook2 3 = true := by kernel_rfl
theorem pairLook2_5 : pairLook2 5 = true := by kernel_rfl
theorem pairLook2_7 : pairLook2 7 = true := by kernel_rfl
theorem pairLook2_9 : pairLook2 9 = true := by kernel_rfl
theorem wordOk_11 : wordOk 11 pair11 = true := by kernel_rfl
theorem pairCycle_word (n : Nat) (h : n = 3 ∨ n = 5 ∨ n = 7 ∨ n = 9 ∨ n = 11) : ∃ r : List Int, wordOk n r = true ∧ Ev (fun q => impl_PairCycle.f q (n : Int)) (r, true) ∧ Ev (fun q => spec_PairCycle.f q (n : Int)) (r, true) := by
  have key : ∀ m : Nat, pairLook2 m = true → ∃ r : List Int, wordOk m r = true ∧ Ev (fun q => impl_PairCycle.f q (m : Int)) (r, true) ∧ Ev (fun q => spec_PairCycle.f q (m : Int)) (r, true) := by
    intro m h
    unfold pairLook2 at h
    split at h
    · rename_i r s h1 h2
      rw [Bool.and_eq_true, decide_eq_true_eq] at h
      obtain ⟨rfl, hl⟩ := h
      exact ⟨_, hl, Ev.of (fun k => impl_PairCycle.mono _ k) h1, Ev.of (fun k => spec_PairCycle.mono _ k) h2⟩
    · cases h
  rcases h with rfl | rfl | rfl | rfl | rfl
  · exact key 3 pairLook2_3
  · exact key 5 pairLook2_5
  · exact key 7 pairLook2_7
  · exact key 9 pairLook2_9
  · refine ⟨pair11, wordOk_11, Ev.of (fun k => impl_PairCycle.mono _ k) pairI_11, ?_⟩
    unfold spec_PairCycle.f spec_suPairSize.f
    refine ev_plain (by rw [spec_l1In_eq]; rfl) ?_
    exact ev_pos (by decide) (ev_neg (by decide) (ev_call tour11_ev (Ev.now _)))
theorem pairCycle_not (n : Int) (h : ¬ (inB n 2 11 = true ∧ ¬ Int.tmod n 2 = 0)) : Ev (fun q => impl_PairCycle.f q n) (([] : List Int), false) ∧ Ev (fun q => spec_PairCycle.f q n) (([] : List Int), false) := by
  unfold impl_PairCycle.f spec_PairCycle.f spec_suPairSize.f
  by_cases h1 : inB n 2 11 = true
  · have h2 : Int.tmod n 2 = 0 := Decidable.byContradiction (fun c => h ⟨h1, c⟩)
    exact ⟨ev_plain (impl_within_eq _ _ _) (ev_pos h1 (ev_pos h2 (Ev.now _))), ev_plain (by rw [spec_l1In_eq]; rfl) (ev_pos h1 (ev_pos h2 (Ev.now _)))⟩
  · exact ⟨ev_plain (impl_within_eq _ _ _) (ev_neg h1 (Ev.now _)), ev_plain (by rw [spec_l1In_eq]; rfl) (ev_neg h1 (Ev.now _))⟩
theorem pairLaw_last {d : List Int} (hd : bytesL d) : Ev (fun q => laws_FnPairCycles.j4 q d) true := by
  obtain ⟨n, w, e1, hw⟩ := drawIs_ok hd
  obtain ⟨m, v, a, b, e2, hv⟩ := drawPlace_ok hd
  refine Ev.step (fun k => by simp only [laws_FnPairCycles.j4]; rfl) (ev_call e1 ?_)
  dsimp only
  refine ev_call (impl_IsPairCycle_ev n w (by omega)) (ev_call (spec_IsPairCycle_ev n w (by omega)) (ev_call e2 ?_))
  dsimp only
  refine ev_call (impl_PairPlace_ev m v a b (by omega)) (ev_call (spec_PairPlace_ev m v a b (by omega)) ?_)
  refine ev_pos (by simp) (ev_pos (by simp) (ev_pos (by simp) (ev_some (by simp))))
theorem FnPairCycles : laws_FnPairCycles.Pure := by
  intro l0 l1 _ _ hb0 _ _ hb1
  refine Ev.rounds (r := true) ?_
  unfold laws_FnPairCycles.f
  obtain ⟨b, hbig⟩ := laws_big_some l0 l1
  refine ev_plain hbig ?_
  refine ev_if (fun _ => Ev.now _) (fun hbig2 => ?_)
  obtain ⟨n, a1, s1, e1, hn, _⟩ := among_ok (bytes_wf hb0) (a := 0) 0 [2, 3, 4, 5, 7, 9, 11, 12, 1, 13] (by simp) (by omega) (by omega)
  have hdraw : spec_DrawPairCycle.f l0 = some n := by
    unfold spec_DrawPairCycle.f
    rw [e1]
    rfl
  refine ev_plain hdraw ?_
  have hlast := pairLaw_last (bytes_wf hb1)
  have no : ¬ (inB n 2 11 = true ∧ ¬ Int.tmod n 2 = 0) → ((n ≥ 3 ∧ n ≤ 11) → Int.tmod n 2 ≠ 1) → Ev (fun k => (impl_PairCycle.f k n).bind fun bt380 => ((spec_PairCycle.f k n).bind fun bt384 => (if (bt380.2 != bt384.2) = true then (laws_FnPairCycles.j0 k l1 n bt380.1 bt380.2 true) else ((laws_uSame.f k bt380.1 bt384.1).bind fun t388 => (if t388 = true then (if n ≥ 3 then (if n ≤ 11 then (laws_FnPairCycles.j0 k l1 n bt380.1 bt380.2 (bt380.2 != ((Int.tmod n 2) == 1))) else (laws_FnPairCycles.j0 k l1 n bt380.1 bt380.2 (bt380.2 != false))) else (laws_FnPairCycles.j0 k l1 n bt380.1 bt380.2 (bt380.2 != false))) else (laws_FnPairCycles.j0 k l1 n bt380.1 bt380.2 true)))))) true := by
    intro h h3
    obtain ⟨q1, q2⟩ := pairCycle_not n h
    refine ev_call q1 (ev_call q2 ?_)
    dsimp only
    refine ev_neg (by simp) (ev_call (laws_uSame_ev _ _ (by simp)) (ev_pos (by simp) ?_))
    have fin : ∀ c : Bool, c = false → Ev (fun k => laws_FnPairCycles.j0 k l1 n [] false c) true := by
      rintro c rfl
      exact Ev.step (fun k => by simp only [laws_FnPairCycles.j0]; rfl) (ev_neg (by simp) (ev_neg (by simp) hlast))
    refine ev_if (fun g1 => ev_if (fun g2 => fin _ ?_) (fun _ => fin _ rfl)) (fun _ => fin _ rfl)
    have := h3 ⟨g1, g2⟩
    rw [beq_eq_false_iff_ne.mpr this]
    rfl
  have yes : ∀ N : Nat, n = (N : Int) → (N = 3 ∨ N = 5 ∨ N = 7 ∨ N = 9 ∨ N = 11) → Int.tmod n 2 = 1 → n ≥ 3 ∧ n ≤ 11 → Ev (fun k => (impl_PairCycle.f k n).bind fun bt380 => ((spec_PairCycle.f k n).bind fun bt384 => (if (bt380.2 != bt384.2) = true then (laws_FnPairCycles.j0 k l1 n bt380.1 bt380.2 true) else ((laws_uSame.f k bt380.1 bt384.1).bind fun t388 => (if t388 = true then (if n ≥ 3 then (if n ≤ 11 then (laws_FnPairCycles.j0 k l1 n bt380.1 bt380.2 (bt380.2 != ((Int.tmod n 2) == 1))) else (laws_FnPairCycles.j0 k l1 n bt380.1 bt380.2 (bt380.2 != false))) else (laws_FnPairCycles.j0 k l1 n bt380.1 bt380.2 (bt380.2 != false))) else (laws_FnPairCycles.j0 k l1 n bt380.1 bt380.2 true)))))) true := by
    rintro N rfl hN ht hr
    obtain ⟨r, hok, q1, q2⟩ := pairCycle_word N hN
    unfold wordOk at hok
    simp only [Bool.and_eq_true, decide_eq_true_eq] at hok
    obtain ⟨⟨⟨p1, p2⟩, p3⟩, g1, g2, g3, g4⟩ := hok
    have g0 : (inB (N : Int) 2 11 && superWordB r && pairB (N : Int) r) = true := by rw [p1, p2, p3]; rfl
    obtain ⟨acc, hacc⟩ := Option.isSome_iff_exists.mp g4
    refine ev_call q1 (ev_call q2 ?_)
    dsimp only
    refine ev_neg (by simp) (ev_call (laws_uSame_ev _ _ (by omega)) (ev_pos (by simp) (ev_pos hr.1 (ev_pos hr.2 ?_))))
    rw [ht]
    have hI := impl_IsPairCycle_ev (N : Int) r (by omega)
    unfold IsPairCycleM at hI
    rw [if_pos (by rw [p1, p2]; rfl), p3] at hI
    refine Ev.step (fun k => by simp only [laws_FnPairCycles.j0]; rfl) ?_
    refine ev_neg (by simp) ?_
    refine ev_pos (by trivial) ?_
    refine ev_call hI ?_
    dsimp only
    refine ev_pos rfl (ev_pos rfl (ev_pos (by omega) ?_))
    rw [g3]
    refine Ev.step (fun k => by simp only [laws_FnPairCycles.j1]; rfl) (ev_neg (by simp) ?_)
    exact pairLaw_all l1 N (by omega) r g0 g1 true hlast N 0 [] acc hacc (by omega) (by simp)
  simp only [List.mem_cons, List.not_mem_nil, or_false] at hn
  rcases hn with rfl | rfl | rfl | rfl | rfl | rfl | rfl | rfl | rfl | rfl
  · exact no (by decide) (by decide)
  · exact yes 3 rfl (by omega) (by decide) (by omega)
  · exact no (by decide) (by decide)
  · exact yes 5 rfl (by omega) (by decide) (by omega)
  · exact yes 7 rfl (by omega) (by decide) (by omega)
  · exact yes 9 rfl (by omega) (by decide) (by omega)
  · exact yes 11 rfl (by omega) (by decide) (by omega)
  · exact no (by decide) (by decide)
  · exact no (by decide) (by decide)
  · exact no (by decide) (by decide)

end Go.Proofs.Ytenmdfeldcjdfaa.Pure
