/- The pure statement of PairCycle: program and reference answer alike, for all arguments; no condition. -/
import Derived.Test.YtenmdfeldcjdfaaPFnExactPairCyclex4
import Derived.Test.YtenmdfeldcjdfaaBase
import Derived.Test.YtenmdfeldcjdfaaLists
namespace Go.Proofs.Ytenmdfeldcjdfaa.Pure
open Go.RowKit Go.Proofs.Ytenmdfeldcjdfaa.PFnExactPairCycle Go.Proofs.YtenmdfeldcjdfaaW.PrintWords Go.Proofs.YtenmdfeldcjdfaaW.PrintLast Go.Proofs.Ytenmdfeldcjdfaa.Base
set_option maxRecDepth 10000
set_option linter.unusedVariables false
set_option linter.unusedSimpArgs false

theorem impl_within_eq (a lo hi : Int) : impl_within.f a lo hi = some (inB a lo hi) := by
  unfold impl_within.f inB
  by_cases h : a ≥ lo
  · rw [if_pos h]; simp [h]
  · rw [if_neg h]; simp [show ¬ lo ≤ a from h]

theorem spec_l1In_eq (a lo hi : Int) : spec_l1In.f a lo hi = some (inB a lo hi) := by
  unfold spec_l1In.f inB
  by_cases h : a ≥ lo
  · rw [if_pos h]; simp [h]
  · rw [if_neg h]; simp [show ¬ lo ≤ a from h]

def bitsL (m : Nat) : List Bool := (List.range 121).map m.testBit
def tourBest (K a : Nat) : Nat → List Bool → Int → Option (List Bool × Int)
  | 0, s, best => some (s, best)
  | d + 1, s, best => if rdOf false s ((a * 11 + d : Nat) : Int) = true then (match spec_suTied.f K 11 ((s.set (a * 11 + d) false).set (d * 11 + a) false) (d : Int) with
    | some t => tourBest K a d ((((s.set (a * 11 + d) false).set (d * 11 + a) false).set (a * 11 + d) true).set (d * 11 + a) true) (if t = true then (d : Int) else best)
    | none => none) else tourBest K a d s best
def tourRun (K : Nat) : Nat → List Bool → List Int → Nat → Option (List Bool × List Int × Nat)
  | 0, s, w, a => some (s, w, a)
  | c + 1, s, w, a => match tourBest K a 11 s (-1) with
    | some (s', b) => if 0 ≤ b ∧ b < 11 then tourRun K c ((s'.set (a * 11 + b.toNat) false).set (b.toNat * 11 + a) false) (w ++ [b]) b.toNat else none
    | none => none
theorem tour_at (a d : Nat) (ha : a < 11) (hd : d < 11) : wrap64 (wrap64 ((a : Int) * 11) + (d : Int)) = ((a * 11 + d : Nat) : Int) := by
  unfold wrap64
  omega
theorem tour11_best (K a : Nat) (ha : a < 11) (w : List Int) (r : List Int) : ∀ (d : Nat) (s : List Bool) (best : Int) (s' : List Bool) (best' : Int), tourBest K a d s best = some (s', best') → d ≤ 11 → s.length = 121 →
    (s'.length = 121 → Ev (fun k => spec_suTour.l2 k 11 s' w (a : Int) best' (-1)) r) → Ev (fun k => spec_suTour.l2 k 11 s w (a : Int) best ((d : Int) - 1)) r := by
  intro d
  induction d with
  | zero =>
    intro s best s' best' h _ hs k
    unfold tourBest at h
    simp only [Option.some.injEq, Prod.mk.injEq] at h
    obtain ⟨rfl, rfl⟩ := h
    exact k hs
  | succ d ih =>
    intro s best s' best' h hd hs k
    have e0 : ((d + 1 : Nat) : Int) - 1 = (d : Int) := by omega
    have e1 := tour_at a d ha (by omega)
    have e2 := tour_at d a (by omega) ha
    have e3 : wrap64 ((d : Int) - 1) = (d : Int) - 1 := by unfold wrap64; omega
    have g1 : a * 11 + d < 121 := by omega
    have g2 : d * 11 + a < 121 := by omega
    rw [e0]
    refine Ev.step (fun k => by simp only [spec_suTour.l2]; rfl) (ev_pos (by omega) ?_)
    simp only [e1, e2, e3, Int.toNat_natCast]
    refine ev_pos (by omega) (ev_pos (by omega) ?_)
    unfold tourBest at h
    by_cases c1 : rdOf false s ((a * 11 + d : Nat) : Int) = true
    · rw [if_pos c1] at h
      refine ev_pos c1 (ev_pos (by omega) (ev_pos (by omega) (ev_plain rfl ?_)))
      split at h
      · rename_i t ht
        refine ev_call (Ev.of (fun k => spec_suTied.mono _ _ _ k) ht) ?_
        by_cases c2 : t = true
        · subst c2
          rw [if_pos rfl] at h
          exact ev_pos rfl (ih _ _ _ _ h (by omega) (by simp only [List.length_set]; exact hs) k)
        · rw [if_neg c2] at h
          exact ev_neg c2 (ih _ _ _ _ h (by omega) (by simp only [List.length_set]; exact hs) k)
      · cases h
    · rw [if_neg c1] at h
      exact ev_neg c1 (ih _ _ _ _ h (by omega) hs k)
theorem tour11_run (K : Nat) (r : List Int) : ∀ (c : Nat) (s : List Bool) (w : List Int) (a : Nat) (s' : List Bool) (w' : List Int) (a' : Nat), tourRun K c s w a = some (s', w', a') → a < 11 → s.length = 121 → 0 < w.length → w.length + c ≤ 56 → rd w ((w.length : Int) - 1) = (a : Int) →
    Ev (fun k => spec_suTour.l1 k 11 s' w') r → Ev (fun k => spec_suTour.l1 k 11 s w) r := by
  intro c
  induction c with
  | zero =>
    intro s w a s' w' a' h _ _ _ _ _ k
    unfold tourRun at h
    simp only [Option.some.injEq, Prod.mk.injEq] at h
    obtain ⟨rfl, rfl, rfl⟩ := h
    exact k
  | succ c ih =>
    intro s w a s' w' a' h ha hs h0 hw hr k
    have e0 : wrap64 (Int.tdiv (wrap64 (11 * (wrap64 (11 - 1)))) 2) = 55 := by decide +kernel
    have e1 : wrap64 ((w.length : Int) - 1) = (w.length : Int) - 1 := by unfold wrap64; omega
    have e2 : wrap64 ((11 : Int) - 1) = ((11 : Nat) : Int) - 1 := by decide +kernel
    refine Ev.step (fun k => by simp only [spec_suTour.l1]; rfl) ?_
    rw [e0, e1, e2, hr]
    refine ev_pos (by omega) (ev_pos (by omega) (ev_pos (by omega) ?_))
    unfold tourRun at h
    split at h
    · rename_i s1 b hb
      by_cases c1 : 0 ≤ b ∧ b < 11
      · rw [if_pos c1] at h
        obtain ⟨b, rfl⟩ := Int.eq_ofNat_of_zero_le c1.1
        have hb11 : b < 11 := by omega
        rw [Int.toNat_natCast] at h
        refine tour11_best K a ha w r 11 s (-1) s1 (b : Int) hb (by omega) hs (fun hs1 => ?_)
        clear e0 e1 e2
        have q1 : (0 : Int) ≤ ((a * 11 + b : Nat) : Int) := Int.natCast_nonneg _
        have q2 : ((a * 11 + b : Nat) : Int) < (s1.length : Int) := by rw [hs1]; omega
        have q3 : (0 : Int) ≤ ((b * 11 + a : Nat) : Int) := Int.natCast_nonneg _
        have q4 : ((b * 11 + a : Nat) : Int) < (s1.length : Int) := by rw [hs1]; omega
        have q5 : w.length < 17592186044416 := by omega
        have g1 := tour_at a b ha hb11
        have g2 := tour_at b a hb11 ha
        refine Ev.step (fun k => by simp only [spec_suTour.l2]; rfl) (ev_neg (by decide) ?_)
        simp only [g1, g2, Int.toNat_natCast]
        refine ev_pos q1 ?_
        refine ev_pos q2 ?_
        refine ev_pos q3 ?_
        refine ev_pos q4 ?_
        refine ev_pos q5 ?_
        clear g1 g2
        refine ih _ _ _ _ _ _ h hb11 (by simp only [List.length_set]; exact hs1) (by simp) (by simp; omega) ?_ k
        rw [List.length_append, List.length_singleton, show ((w.length + 1 : Nat) : Int) - 1 = (w.length : Int) by omega]
        simp [rd, rdOf]
      · rw [if_neg c1] at h
        cases h
    · cases h
def pair11 : List Int := [0, 1, 2, 0, 3, 1, 4, 0, 5, 1, 6, 0, 7, 1, 8, 0, 9, 1, 10, 2, 3, 4, 2, 5, 3, 6, 2, 7, 3, 8, 2, 9, 3, 10, 4, 5, 6, 4, 7, 5, 8, 4, 9, 5, 10, 6, 7, 8, 6, 9, 7, 10, 8, 9, 10]
def tour56 : List Int := [0, 1, 2, 0, 3, 1, 4, 0, 5, 1, 6, 0, 7, 1, 8, 0, 9, 1, 10, 2, 3, 4, 2, 5, 3, 6, 2, 7, 3, 8, 2, 9, 3, 10, 4, 5, 6, 4, 7, 5, 8, 4, 9, 5, 10, 6, 7, 8, 6, 9, 7, 10, 8, 9, 10, 0]
theorem tour_seg0 : tourRun 600 5 (bitsL 1328903397983747395279166325955489790) (tour56.take 1) 0 = some (bitsL 1328903397983747395279166300173076464, tour56.take 6, 1) := by kernel_rfl
theorem tour_seg1 : tourRun 600 5 (bitsL 1328903397983747395279166300173076464) (tour56.take 6) 1 = some (bitsL 1328903397983747247597074542881408960, tour56.take 11, 6) := by kernel_rfl
theorem tour_seg2 : tourRun 600 5 (bitsL 1328903397983747247597074542881408960) (tour56.take 11) 6 = some (bitsL 1328903397054838797163707555927557632, tour56.take 16, 0) := by kernel_rfl
theorem tour_seg3 : tourRun 600 5 (bitsL 1328903397054838797163707555927557632) (tour56.take 16) 0 = some (bitsL 1321113050291136213376809527687513088, tour56.take 21, 3) := by kernel_rfl
theorem tour_seg4 : tourRun 600 5 (bitsL 1321113050291136213376809527687513088) (tour56.take 21) 3 = some (bitsL 1321113050291135622648441536247759872, tour56.take 26, 6) := by kernel_rfl
theorem tour_seg5 : tourRun 600 5 (bitsL 1321113050291135622648441536247759872) (tour56.take 26) 6 = some (bitsL 1321113046575501820914970288021570560, tour56.take 31, 2) := by kernel_rfl
theorem tour_seg6 : tourRun 600 5 (bitsL 1321113046575501820914970288021570560) (tour56.take 31) 2 = some (bitsL 1289951659520691485172327032773673984, tour56.take 36, 5) := by kernel_rfl
theorem tour_seg7 : tourRun 600 5 (bitsL 1289951659520691485172327032773673984) (tour56.take 36) 5 = some (bitsL 1289951649609914058052456142082147328, tour56.take 41, 8) := by kernel_rfl
theorem tour_seg8 : tourRun 600 5 (bitsL 1289951649609914058052456142082147328) (tour56.take 41) 8 = some (bitsL 1165306096438836947103098275373253632, tour56.take 46, 6) := by kernel_rfl
theorem tour_seg9 : tourRun 600 5 (bitsL 1165306096438836947103098275373253632) (tour56.take 46) 6 = some (bitsL 1165184342434298753011619787505140736, tour56.take 51, 7) := by kernel_rfl
theorem tour_seg10 : tourRun 600 5 (bitsL 1165184342434298753011619787505140736) (tour56.take 51) 7 = some (bitsL 0, tour56.take 56, 0) := by kernel_rfl
def tourFill (s : List Bool) (i : Nat) : List Bool := s.set i ((wrap64 (Int.tdiv (i : Int) 11)) != (Int.tmod (i : Int) 11))
theorem tour_fill : (List.range' 0 121).foldl tourFill (List.replicate 121 false) = bitsL 1328903397983747395279166325955489790 := by kernel_rfl
theorem tourFill_length (s : List Bool) (i : Nat) : (tourFill s i).length = s.length := by unfold tourFill; rw [List.length_set]
theorem tour11_ev : Ev (fun k => spec_suTour.f k 11) pair11 := by
  have e0 : wrap64 ((11 : Int) * 11) = ((121 : Nat) : Int) := by decide +kernel
  unfold spec_suTour.f
  rw [e0, Int.toNat_natCast]
  clear e0
  refine ev_pos (by omega) ?_
  refine ev_pos (by omega) ?_
  refine ev_plain rfl ?_
  rw [List.length_replicate]
  refine ev_iter (fun s i k => spec_suTour.l0 k 11 s ((121 : Nat) : Int) (i : Int)) tourFill (fun _ s => s.length = 121) 121 (fun s i hi hs => ⟨by rw [tourFill_length, hs], fun r hr => ?_⟩) 121 0 _ (by omega) (by rw [List.length_replicate]) (fun _ => ?_)
  · refine Ev.step (fun k => by simp only [spec_suTour.l0]; rfl) ?_
    refine ev_pos (by omega) ?_
    refine ev_neg (by decide) ?_
    refine ev_pos (by omega) ?_
    refine ev_pos (by rw [hs]; omega) ?_
    rw [Int.toNat_natCast, wrap_succ (i := i) (by omega)]
    exact hr
  · rw [tour_fill]
    refine Ev.step (fun k => by simp only [spec_suTour.l0]; rfl) ?_
    refine ev_neg (by omega) ?_
    have hL : ∀ m, (bitsL m).length = 121 := fun m => by unfold bitsL; rw [List.length_map, List.length_range]
    have hW : ∀ d, d ≤ 56 → (tour56.take d).length = d := fun d hd => by rw [List.length_take]; exact Nat.min_eq_left hd
    have h0 : ([0] : List Int) = tour56.take 1 := rfl
    rw [h0]
    refine tour11_run 600 pair11 5 _ _ _ _ _ _ tour_seg0 (by omega) (hL _) (by rw [hW _ (by omega)]; omega) (by rw [hW _ (by omega)]; omega) (by rw [hW _ (by omega)]; rfl) ?_
    refine tour11_run 600 pair11 5 _ _ _ _ _ _ tour_seg1 (by omega) (hL _) (by rw [hW _ (by omega)]; omega) (by rw [hW _ (by omega)]; omega) (by rw [hW _ (by omega)]; rfl) ?_
    refine tour11_run 600 pair11 5 _ _ _ _ _ _ tour_seg2 (by omega) (hL _) (by rw [hW _ (by omega)]; omega) (by rw [hW _ (by omega)]; omega) (by rw [hW _ (by omega)]; rfl) ?_
    refine tour11_run 600 pair11 5 _ _ _ _ _ _ tour_seg3 (by omega) (hL _) (by rw [hW _ (by omega)]; omega) (by rw [hW _ (by omega)]; omega) (by rw [hW _ (by omega)]; rfl) ?_
    refine tour11_run 600 pair11 5 _ _ _ _ _ _ tour_seg4 (by omega) (hL _) (by rw [hW _ (by omega)]; omega) (by rw [hW _ (by omega)]; omega) (by rw [hW _ (by omega)]; rfl) ?_
    refine tour11_run 600 pair11 5 _ _ _ _ _ _ tour_seg5 (by omega) (hL _) (by rw [hW _ (by omega)]; omega) (by rw [hW _ (by omega)]; omega) (by rw [hW _ (by omega)]; rfl) ?_
    refine tour11_run 600 pair11 5 _ _ _ _ _ _ tour_seg6 (by omega) (hL _) (by rw [hW _ (by omega)]; omega) (by rw [hW _ (by omega)]; omega) (by rw [hW _ (by omega)]; rfl) ?_
    refine tour11_run 600 pair11 5 _ _ _ _ _ _ tour_seg7 (by omega) (hL _) (by rw [hW _ (by omega)]; omega) (by rw [hW _ (by omega)]; omega) (by rw [hW _ (by omega)]; rfl) ?_
    refine tour11_run 600 pair11 5 _ _ _ _ _ _ tour_seg8 (by omega) (hL _) (by rw [hW _ (by omega)]; omega) (by rw [hW _ (by omega)]; omega) (by rw [hW _ (by omega)]; rfl) ?_
    refine tour11_run 600 pair11 5 _ _ _ _ _ _ tour_seg9 (by omega) (hL _) (by rw [hW _ (by omega)]; omega) (by rw [hW _ (by omega)]; omega) (by rw [hW _ (by omega)]; rfl) ?_
    refine tour11_run 600 pair11 5 _ _ _ _ _ _ tour_seg10 (by omega) (hL _) (by rw [hW _ (by omega)]; omega) (by rw [hW _ (by omega)]; omega) (by rw [hW _ (by omega)]; rfl) ?_
    have e1 : wrap64 (Int.tdiv (wrap64 (11 * (wrap64 (11 - 1)))) 2) = 55 := by decide +kernel
    have e2 : wrap64 (((tour56.take 56).length : Int) - 1) = 55 := by rw [hW _ (by omega)]; decide +kernel
    refine Ev.step (fun k => by simp only [spec_suTour.l1]; rfl) ?_
    rw [e1, e2, hW 56 (by omega)]
    clear e1 e2
    refine ev_neg (by decide) ?_
    refine ev_pos (by decide) ?_
    refine ev_pos (by decide) ?_
    exact ev_some rfl

def pairLook (n : Nat) : Bool := match impl_PairCycle.f 1000 (n : Int), spec_PairCycle.f 1000 (n : Int) with
  | some (r, true), some (s, true) => decide (r = s) && decide (r.length ≤ 1000)
  | _, _ => false
theorem pairLook_3 : pairLook 3 = true := by kernel_rfl
theorem pairLook_5 : pairLook 5 = true := by kernel_rfl
theorem pairLook_7 : pairLook 7 = true := by kernel_rfl
theorem pairLook_9 : pairLook 9 = true := by kernel_rfl
theorem pairI_11 : impl_PairCycle.f 1000 11 = some (pair11, true) := by kernel_rfl
theorem pairCycle_look (n : Nat) (h : pairLook n = true) : ∃ r : List Int, r.length ≤ 1048576 ∧ Ev (fun q => impl_PairCycle.f q (n : Int)) (r, true) ∧ Ev (fun q => spec_PairCycle.f q (n : Int)) (r, true) := by
  unfold pairLook at h
  split at h
  · rename_i r s h1 h2
    rw [Bool.and_eq_true, decide_eq_true_eq, decide_eq_true_eq] at h
    obtain ⟨rfl, hl⟩ := h
    exact ⟨_, by omega, Ev.of (fun k => impl_PairCycle.mono _ k) h1, Ev.of (fun k => spec_PairCycle.mono _ k) h2⟩
  · cases h
theorem pairCycle_both (n : Int) : ∃ r : List Int, ∃ b : Bool, r.length ≤ 1048576 ∧ Ev (fun q => impl_PairCycle.f q n) (r, b) ∧ Ev (fun q => spec_PairCycle.f q n) (r, b) := by
  by_cases h : inB n 2 11 = true
  · by_cases h2 : Int.tmod n 2 = 0
    · refine ⟨[], false, by simp, ?_, ?_⟩
      · unfold impl_PairCycle.f
        exact ev_plain (impl_within_eq _ _ _) (ev_pos h (ev_pos h2 (Ev.now _)))
      · unfold spec_PairCycle.f spec_suPairSize.f
        refine ev_plain (by rw [spec_l1In_eq]; rfl) ?_
        exact ev_pos h (ev_pos h2 (Ev.now _))
    · have h1 := inB_iff.mp h
      have key : ∀ m : Nat, n = (m : Int) → pairLook m = true → ∃ r : List Int, ∃ b : Bool, r.length ≤ 1048576 ∧ Ev (fun q => impl_PairCycle.f q n) (r, b) ∧ Ev (fun q => spec_PairCycle.f q n) (r, b) := by
        rintro m rfl hm
        obtain ⟨r, q1, q2, q3⟩ := pairCycle_look m hm
        exact ⟨r, true, q1, q2, q3⟩
      have h5 : n = 2 ∨ n = 3 ∨ n = 4 ∨ n = 5 ∨ n = 6 ∨ n = 7 ∨ n = 8 ∨ n = 9 ∨ n = 10 ∨ n = 11 := by omega
      rcases h5 with rfl | rfl | rfl | rfl | rfl | rfl | rfl | rfl | rfl | rfl
      · exact absurd rfl h2
      · exact key 3 rfl pairLook_3
      · exact absurd rfl h2
      · exact key 5 rfl pairLook_5
      · exact absurd rfl h2
      · exact key 7 rfl pairLook_7
      · exact absurd rfl h2
      · exact key 9 rfl pairLook_9
      · exact absurd rfl h2
      · refine ⟨pair11, true, by decide, Ev.of (fun k => impl_PairCycle.mono _ k) pairI_11, ?_⟩
        unfold spec_PairCycle.f spec_suPairSize.f
        refine ev_plain (by rw [spec_l1In_eq]; rfl) ?_
        exact ev_pos h (ev_neg h2 (ev_call tour11_ev (Ev.now _)))
  · refine ⟨[], false, by simp, ?_, ?_⟩
    · unfold impl_PairCycle.f
      exact ev_plain (impl_within_eq _ _ _) (ev_neg h (Ev.now _))
    · unfold spec_PairCycle.f spec_suPairSize.f
      refine ev_plain (by rw [spec_l1In_eq]; rfl) ?_
      exact ev_neg h (Ev.now _)

theorem laws_eqIntS_loop (l : List Int) (hl : l.length ≤ 35184372088832) : ∀ (d i : Nat), i + d = l.length → Ev (fun k => laws_eqIntS.l0 k l l (i : Int)) true := by
  intro d
  induction d with
  | zero =>
    intro i h
    refine Ev.step (f := fun _ => some true) (fun k => ?_) (Ev.now _)
    simp only [laws_eqIntS.l0]; rw [if_neg (by omega)]
  | succ d ih =>
    intro i h
    refine Ev.step (f := fun k => laws_eqIntS.l0 k l l ((i + 1 : Nat) : Int)) (fun k => ?_) (ih (i + 1) (by omega))
    simp only [laws_eqIntS.l0]; rw [if_pos (by omega), if_pos (by omega), if_pos (by omega), if_pos trivial, wrap_succ (by omega)]
theorem laws_eqIntS_ev (l : List Int) (hl : l.length ≤ 35184372088832) : Ev (fun k => laws_eqIntS.f k l l) true := by
  unfold laws_eqIntS.f
  exact ev_pos rfl (laws_eqIntS_loop l hl l.length 0 (by omega))

theorem laws_markIntS_loop : ∀ (d i : Nat) (ys : List Int) (m : Int), i + d = ys.length → 0 ≤ m → m + d ≤ 1000000000000000 → ys.length ≤ 35184372088832 →
    Ev (fun k => laws_markIntS.l0 k ys m (i : Int)) (m + (d : Int), ys.take i ++ marks m d) := by
  intro d
  induction d with
  | zero =>
    intro i ys m h1 h2 h3 h4
    refine Ev.step (f := fun _ => some (m, ys)) (fun k => ?_) (ev_some ?_)
    · simp only [laws_markIntS.l0]; rw [if_neg (by omega)]
    · rw [List.take_of_length_le (by omega)]; simp [marks]
  | succ d ih =>
    intro i ys m h1 h2 h3 h4
    refine Ev.step (f := fun k => laws_markIntS.l0 k (ys.set i m) (m + 1) ((i + 1 : Nat) : Int)) (fun k => ?_) (ev_to (ih (i + 1) _ (m + 1) (by simp; omega) (by omega) (by omega) (by simpa using h4)) ?_)
    · simp only [laws_markIntS.l0]; rw [if_pos (by omega), if_pos (by omega), wrap_succ (by omega), wrap_id (by omega), Int.toNat_natCast]
    · rw [marks_succ, List.take_succ_eq_append_getElem (by simp; omega), List.take_set, List.set_eq_of_length_le (by simp; omega)]
      refine Prod.ext (by simp; omega) ?_
      simp
theorem laws_markIntS_ev (l : List Int) (m : Int) (h2 : 0 ≤ m) (h3 : m ≤ 900000000000000) (h4 : l.length ≤ 35184372088832) : Ev (fun k => laws_markIntS.f k l m) (m + (l.length : Int), marks m l.length) :=
  ev_to (laws_markIntS_loop l.length 0 l m (by omega) h2 (by omega) h4) (by simp)

theorem laws_heldIntS_loop (zs : List Int) (hz : zs.length ≤ 35184372088832) : ∀ (d i : Nat) (m : Int), i + d = zs.length → 0 ≤ m → m + d ≤ 1000000000000000 → zs.drop i = marks m d →
    Ev (fun k => laws_heldIntS.l0 k zs m (i : Int)) (m + (d : Int)) := by
  intro d
  induction d with
  | zero =>
    intro i m h1 h2 h3 h4
    refine Ev.step (f := fun _ => some m) (fun k => ?_) (ev_some (by simp))
    simp only [laws_heldIntS.l0]; rw [if_neg (by omega)]
  | succ d ih =>
    intro i m h1 h2 h3 h4
    rw [drop_rd zs i (by omega), marks_succ, List.cons.injEq] at h4
    refine Ev.step (f := fun k => laws_heldIntS.l0 k zs (m + 1) ((i + 1 : Nat) : Int)) (fun k => ?_) (ev_to (ih (i + 1) (m + 1) (by omega) (by omega) (by omega) h4.2) (by omega))
    simp only [laws_heldIntS.l0]; rw [if_pos (by omega), if_pos (by omega), if_pos h4.1, wrap_succ (by omega), wrap_id (by omega)]
theorem laws_heldIntS_ev (m : Int) (n : Nat) (h2 : 0 ≤ m) (h3 : m ≤ 900000000000000) (h4 : n ≤ 35184372088832) : Ev (fun k => laws_heldIntS.f k (marks m n) m) (m + (n : Int)) :=
  laws_heldIntS_loop (marks m n) (by simpa [marks_length] using h4) n 0 m (by simp [marks_length]) h2 (by omega) rfl

theorem FnExactPairCycle : laws_FnExactPairCycle.Pure := by
  intro n h_n
  refine Ev.rounds (r := true) ?_
  unfold laws_FnExactPairCycle.f
  have hw_n := wf_in h_n
  obtain ⟨r_, b_, hr, I_, S_⟩ := pairCycle_both n
  repeat (first
    | exact Ev.now _
    | (refine ev_call S_ ?_; try dsimp only)
    | (refine ev_call I_ ?_; try dsimp only)
    | refine ev_call (laws_eqIntS_ev _ (by first | assumption | omega)) ?_
    | (refine ev_call (laws_markIntS_ev _ _ (by omega) (by omega) (by omega)) ?_; dsimp only)
    | refine ev_call (laws_heldIntS_ev _ _ (by omega) (by omega) (by omega)) ?_
    | refine ev_pos rfl ?_
    | refine ev_neg (bne_no _) ?_
    | refine ev_neg (by omega) ?_
    | refine Ev.step (fun k => by simp only [laws_FnExactPairCycle.j0]; rfl) ?_
    | refine Ev.step (fun k => by simp only [laws_FnExactPairCycle.j1]; rfl) ?_)

end Go.Proofs.Ytenmdfeldcjdfaa.Pure
