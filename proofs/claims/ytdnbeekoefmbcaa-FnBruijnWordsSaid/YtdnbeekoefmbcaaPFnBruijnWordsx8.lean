-- Written for this claim by a copy of the print that meets some functions by contracts of this session.
import Derived.Test.YtdnbeekoefmbcaaPFnBruijnWordsx0
import Derived.Test.YtdnbeekoefmbcaaPFnBruijnWordsx1
import Derived.Test.YtdnbeekoefmbcaaPFnBruijnWordsx2
import Derived.Test.YtdnbeekoefmbcaaPFnBruijnWordsx3
import Derived.Test.YtdnbeekoefmbcaaPFnBruijnWordsx4
import Derived.Test.YtdnbeekoefmbcaaPFnBruijnWordsx5
import Derived.Test.YtdnbeekoefmbcaaPFnBruijnWordsx6
import Derived.Test.YtdnbeekoefmbcaaPFnBruijnWordsx7
namespace Go.Proofs.Ytdnbeekoefmbcaa.PFnBruijnWords
open Go.RowKit Go.Proofs.YtdnbeekoefmbcaaW.PrintWords Go.Proofs.YtdnbeekoefmbcaaW.PrintLast Go.Proofs.YtdnbeekoefmbcaaW.PrintMore
attribute [local go_sem] max2_int min2_int max_two min_two max_three min_three max_four min_four   -- for this text's walks alone
set_option linter.unusedVariables false
set_option linter.unusedSimpArgs false

/-! ### laws_FnBruijnWords: function 11 -/
mutual
def laws_FnBruijnWords.j0 : Nat → List Int → Int → Int → List Int → Bool → List Int → List Int → Bool → Option (Bool)
  | 0, _, _, _, _, _, _, _, _ => none
  | k + 1, x1, x5, x6, x7, x10, x11, x15, x116 => if x116 = true then (some false) else (if x10 = true then ((impl_IsBruijn.f k x7 x5 x6).bind fun bt378 => ((impl_IsBruijn.f k x11 x5 x6).bind fun bt380 => ((impl_IsBruijn.f k x15 x5 x6).bind fun bt382 => (if bt378.2 = true then (if bt380.2 = true then (if bt382.2 = true then (if bt378.1 = true then (if bt380.1 = true then (if bt382.1 = true then ((laws_tLess.f k x11 x7).bind fun t384 => (laws_FnBruijnWords.j1 k x1 x5 x7 x15 t384)) else (laws_FnBruijnWords.j1 k x1 x5 x7 x15 true)) else (laws_FnBruijnWords.j1 k x1 x5 x7 x15 true)) else (laws_FnBruijnWords.j1 k x1 x5 x7 x15 true)) else (laws_FnBruijnWords.j1 k x1 x5 x7 x15 true)) else (laws_FnBruijnWords.j1 k x1 x5 x7 x15 true)) else (laws_FnBruijnWords.j1 k x1 x5 x7 x15 true))))) else (some true))
def laws_FnBruijnWords.j1 : Nat → List Int → Int → List Int → List Int → Bool → Option (Bool)
  | 0, _, _, _, _, _ => none
  | k + 1, x1, x5, x7, x15, x166 => if x166 = true then (some false) else (if (x7.length : Int) = 0 then (none) else ((impl_WindowAt.f k x7 x5 ((x1.length : Int) % (x7.length : Int))).bind fun bt385 => ((impl_PlacesOf.f k x7 bt385.1).bind fun bt389 => ((impl_PlacesOf.f k x15 bt385.1).bind fun bt393 => (if bt385.2 = true then (if bt389.2 = true then (if bt393.2 = true then (if (bt385.1.length : Int) = x5 then ((laws_tSame.f k bt389.1 (([(x1.length : Int) % (x7.length : Int)] : List Int))).bind fun t400 => (if t400 = true then (some ((bt393.1.length : Int) == 1)) else (some false))) else (some false)) else (some false)) else (some false)) else (some false))))))
end
def laws_FnBruijnWords.f (k : Nat) (l0 : List Int) (l1 : List Int) : Option (Bool) := (laws_big.f l0 l1).bind fun t348 => (if t348 = true then (some true) else ((spec_DrawLeastBruijn.f l0).bind fun bt349 => ((impl_LeastBruijn.f k bt349.1 bt349.2).bind fun bt351 => ((spec_LeastBruijn.f k bt349.1 bt349.2).bind fun bt355 => ((impl_GreedyBruijn.f k bt349.1 bt349.2).bind fun bt359 => ((spec_GreedyBruijn.f k bt349.1 bt349.2).bind fun bt363 => ((impl_EulerBruijn.f k bt349.1 bt349.2).bind fun bt367 => ((spec_EulerBruijn.f k bt349.1 bt349.2).bind fun bt371 => (if (bt351.2 != bt355.2) = true then (laws_FnBruijnWords.j0 k l1 bt349.1 bt349.2 bt351.1 bt355.2 bt359.1 bt367.1 true) else ((laws_tSame.f k bt351.1 bt355.1).bind fun t375 => (if t375 = true then (if (bt359.2 != bt363.2) = true then (laws_FnBruijnWords.j0 k l1 bt349.1 bt349.2 bt351.1 bt355.2 bt359.1 bt367.1 true) else ((laws_tSame.f k bt359.1 bt363.1).bind fun t376 => (if t376 = true then (if (bt367.2 != bt371.2) = true then (laws_FnBruijnWords.j0 k l1 bt349.1 bt349.2 bt351.1 bt355.2 bt359.1 bt367.1 true) else ((laws_tSame.f k bt367.1 bt371.1).bind fun t377 => (if t377 = true then (if (bt359.2 != bt351.2) = true then (laws_FnBruijnWords.j0 k l1 bt349.1 bt349.2 bt351.1 bt355.2 bt359.1 bt367.1 true) else (laws_FnBruijnWords.j0 k l1 bt349.1 bt349.2 bt351.1 bt355.2 bt359.1 bt367.1 (bt367.2 != bt351.2))) else (laws_FnBruijnWords.j0 k l1 bt349.1 bt349.2 bt351.1 bt355.2 bt359.1 bt367.1 true)))) else (laws_FnBruijnWords.j0 k l1 bt349.1 bt349.2 bt351.1 bt355.2 bt359.1 bt367.1 true)))) else (laws_FnBruijnWords.j0 k l1 bt349.1 bt349.2 bt351.1 bt355.2 bt359.1 bt367.1 true))))))))))))
theorem laws_FnBruijnWords.mono_l : ∀ k, (∀ y0 y1 y2 y3 y4 y5 y6 y7, LeO (laws_FnBruijnWords.j0 k y0 y1 y2 y3 y4 y5 y6 y7) (laws_FnBruijnWords.j0 (k + 1) y0 y1 y2 y3 y4 y5 y6 y7)) ∧ (∀ y0 y1 y2 y3 y4, LeO (laws_FnBruijnWords.j1 k y0 y1 y2 y3 y4) (laws_FnBruijnWords.j1 (k + 1) y0 y1 y2 y3 y4))
  | 0 => ⟨fun _ _ _ _ _ _ _ _ r h => by simp [laws_FnBruijnWords.j0] at h, fun _ _ _ _ _ r h => by simp [laws_FnBruijnWords.j1] at h⟩
  | k + 1 => by
    obtain ⟨ih0, ih1⟩ := laws_FnBruijnWords.mono_l k
    refine ⟨?_, ?_⟩
    · intro y0 y1 y2 y3 y4 y5 y6 y7
      unfold laws_FnBruijnWords.j0
      repeat' first
      | (with_reducible exact ih0 _ _ _ _ _ _ _ _)
      | (with_reducible exact ih1 _ _ _ _ _)
      | (with_reducible exact impl_EulerBruijn.mono _ _ _)
      | (with_reducible exact impl_GreedyBruijn.mono _ _ _)
      | (with_reducible exact impl_IsBruijn.mono _ _ _ _)
      | (with_reducible exact impl_LeastBruijn.mono _ _ _)
      | (with_reducible exact impl_PlacesOf.mono _ _ _)
      | (with_reducible exact impl_WindowAt.mono _ _ _ _)
      | (with_reducible exact laws_tLess.mono _ _ _)
      | (with_reducible exact laws_tSame.mono _ _ _)
      | (with_reducible exact spec_EulerBruijn.mono _ _ _)
      | (with_reducible exact spec_GreedyBruijn.mono _ _ _)
      | (with_reducible exact spec_LeastBruijn.mono _ _ _)
      | (with_reducible exact LeO.refl _)
      | (with_reducible exact LeO.none _)
      | (with_reducible refine LeO.ite ?_ ?_)
      | (with_reducible refine LeO.bind ?_ (fun _ => ?_))
      | exact ih0 _ _ _ _ _ _ _ _
      | exact ih1 _ _ _ _ _
      | exact impl_EulerBruijn.mono _ _ _
      | exact impl_GreedyBruijn.mono _ _ _
      | exact impl_IsBruijn.mono _ _ _ _
      | exact impl_LeastBruijn.mono _ _ _
      | exact impl_PlacesOf.mono _ _ _
      | exact impl_WindowAt.mono _ _ _ _
      | exact laws_tLess.mono _ _ _
      | exact laws_tSame.mono _ _ _
      | exact spec_EulerBruijn.mono _ _ _
      | exact spec_GreedyBruijn.mono _ _ _
      | exact spec_LeastBruijn.mono _ _ _
      | exact LeO.none _
      | refine LeO.ite ?_ ?_
      | refine LeO.bind ?_ (fun _ => ?_)
    · intro y0 y1 y2 y3 y4
      unfold laws_FnBruijnWords.j1
      repeat' first
      | (with_reducible exact ih0 _ _ _ _ _ _ _ _)
      | (with_reducible exact ih1 _ _ _ _ _)
      | (with_reducible exact impl_EulerBruijn.mono _ _ _)
      | (with_reducible exact impl_GreedyBruijn.mono _ _ _)
      | (with_reducible exact impl_IsBruijn.mono _ _ _ _)
      | (with_reducible exact impl_LeastBruijn.mono _ _ _)
      | (with_reducible exact impl_PlacesOf.mono _ _ _)
      | (with_reducible exact impl_WindowAt.mono _ _ _ _)
      | (with_reducible exact laws_tLess.mono _ _ _)
      | (with_reducible exact laws_tSame.mono _ _ _)
      | (with_reducible exact spec_EulerBruijn.mono _ _ _)
      | (with_reducible exact spec_GreedyBruijn.mono _ _ _)
      | (with_reducible exact spec_LeastBruijn.mono _ _ _)
      | (with_reducible exact LeO.refl _)
      | (with_reducible exact LeO.none _)
      | (with_reducible refine LeO.ite ?_ ?_)
      | (with_reducible refine LeO.bind ?_ (fun _ => ?_))
      | exact ih0 _ _ _ _ _ _ _ _
      | exact ih1 _ _ _ _ _
      | exact impl_EulerBruijn.mono _ _ _
      | exact impl_GreedyBruijn.mono _ _ _
      | exact impl_IsBruijn.mono _ _ _ _
      | exact impl_LeastBruijn.mono _ _ _
      | exact impl_PlacesOf.mono _ _ _
      | exact impl_WindowAt.mono _ _ _ _
      | exact laws_tLess.mono _ _ _
      | exact laws_tSame.mono _ _ _
      | exact spec_EulerBruijn.mono _ _ _
      | exact spec_GreedyBruijn.mono _ _ _
      | exact spec_LeastBruijn.mono _ _ _
      | exact LeO.none _
      | refine LeO.ite ?_ ?_
      | refine LeO.bind ?_ (fun _ => ?_)
theorem laws_FnBruijnWords.mono : ∀ a0 a1 k, LeO (laws_FnBruijnWords.f k a0 a1) (laws_FnBruijnWords.f (k + 1) a0 a1) := by
  intro a0 a1 k
  obtain ⟨ih0, ih1⟩ := laws_FnBruijnWords.mono_l k
  unfold laws_FnBruijnWords.f
  repeat' first
      | (with_reducible exact ih0 _ _ _ _ _ _ _ _)
      | (with_reducible exact ih1 _ _ _ _ _)
      | (with_reducible exact impl_EulerBruijn.mono _ _ _)
      | (with_reducible exact impl_GreedyBruijn.mono _ _ _)
      | (with_reducible exact impl_IsBruijn.mono _ _ _ _)
      | (with_reducible exact impl_LeastBruijn.mono _ _ _)
      | (with_reducible exact impl_PlacesOf.mono _ _ _)
      | (with_reducible exact impl_WindowAt.mono _ _ _ _)
      | (with_reducible exact laws_tLess.mono _ _ _)
      | (with_reducible exact laws_tSame.mono _ _ _)
      | (with_reducible exact spec_EulerBruijn.mono _ _ _)
      | (with_reducible exact spec_GreedyBruijn.mono _ _ _)
      | (with_reducible exact spec_LeastBruijn.mono _ _ _)
      | (with_reducible exact LeO.refl _)
      | (with_reducible exact LeO.none _)
      | (with_reducible refine LeO.ite ?_ ?_)
      | (with_reducible refine LeO.bind ?_ (fun _ => ?_))
      | exact ih0 _ _ _ _ _ _ _ _
      | exact ih1 _ _ _ _ _
      | exact impl_EulerBruijn.mono _ _ _
      | exact impl_GreedyBruijn.mono _ _ _
      | exact impl_IsBruijn.mono _ _ _ _
      | exact impl_LeastBruijn.mono _ _ _
      | exact impl_PlacesOf.mono _ _ _
      | exact impl_WindowAt.mono _ _ _ _
      | exact laws_tLess.mono _ _ _
      | exact laws_tSame.mono _ _ _
      | exact spec_EulerBruijn.mono _ _ _
      | exact spec_GreedyBruijn.mono _ _ _
      | exact spec_LeastBruijn.mono _ _ _
      | exact LeO.none _
      | refine LeO.ite ?_ ?_
      | refine LeO.bind ?_ (fun _ => ?_)
set_option maxHeartbeats 8000000 in
set_option maxRecDepth 100000 in
theorem laws_FnBruijnWords.calls (k : Nat) (A0 : Option Addr) (c0 : Nat) (l0 : List Int) (A1 : Option Addr) (c1 : Nat) (l1 : List Int) (r : Bool) (w : World) (hr0 : Kd.C (Kd.int .u8) w A0 l0.length l0) (hc0 : l0.length ≤ c0) (hr1 : Kd.C (Kd.int .u8) w A1 l1.length l1) (hc1 : l1.length ≤ c1) (h : laws_FnBruijnWords.f k l0 l1 = some r) :
    Calls Try.prog 11 #[.slice A0 l0.length c0, .slice A1 l1.length c1] w fun e w' => e = .returned (.bool r) ∧ Below w.heap.size w w' := by
  have HR0 := Aside0.mk hr0
  have HC0 := Aside0.mk hc0
  clear hr0 hc0
  have HR1 := Aside0.mk hr1
  have HC1 := Aside0.mk hc1
  clear hr1 hc1
  have HB := Aside0.mk (Below.refl w.heap.size w)
  have H : ((laws_big.f l0 l1).bind fun t348 => (if t348 = true then (some true) else ((spec_DrawLeastBruijn.f l0).bind fun bt349 => ((impl_LeastBruijn.f k bt349.1 bt349.2).bind fun bt351 => ((spec_LeastBruijn.f k bt349.1 bt349.2).bind fun bt355 => ((impl_GreedyBruijn.f k bt349.1 bt349.2).bind fun bt359 => ((spec_GreedyBruijn.f k bt349.1 bt349.2).bind fun bt363 => ((impl_EulerBruijn.f k bt349.1 bt349.2).bind fun bt367 => ((spec_EulerBruijn.f k bt349.1 bt349.2).bind fun bt371 => (if (bt351.2 != bt355.2) = true then (laws_FnBruijnWords.j0 k l1 bt349.1 bt349.2 bt351.1 bt355.2 bt359.1 bt367.1 true) else ((laws_tSame.f k bt351.1 bt355.1).bind fun t375 => (if t375 = true then (if (bt359.2 != bt363.2) = true then (laws_FnBruijnWords.j0 k l1 bt349.1 bt349.2 bt351.1 bt355.2 bt359.1 bt367.1 true) else ((laws_tSame.f k bt359.1 bt363.1).bind fun t376 => (if t376 = true then (if (bt367.2 != bt371.2) = true then (laws_FnBruijnWords.j0 k l1 bt349.1 bt349.2 bt351.1 bt355.2 bt359.1 bt367.1 true) else ((laws_tSame.f k bt367.1 bt371.1).bind fun t377 => (if t377 = true then (if (bt359.2 != bt351.2) = true then (laws_FnBruijnWords.j0 k l1 bt349.1 bt349.2 bt351.1 bt355.2 bt359.1 bt367.1 true) else (laws_FnBruijnWords.j0 k l1 bt349.1 bt349.2 bt351.1 bt355.2 bt359.1 bt367.1 (bt367.2 != bt351.2))) else (laws_FnBruijnWords.j0 k l1 bt349.1 bt349.2 bt351.1 bt355.2 bt359.1 bt367.1 true)))) else (laws_FnBruijnWords.j0 k l1 bt349.1 bt349.2 bt351.1 bt355.2 bt359.1 bt367.1 true)))) else (laws_FnBruijnWords.j0 k l1 bt349.1 bt349.2 bt351.1 bt355.2 bt359.1 bt367.1 true))))))))))))) = some r := h
  clear h
  replace H := Option.bind_eq_some_iff.mp H
  obtain ⟨t348, A30, H⟩ := H
  replace H : (if t348 = true then (some true) else ((spec_DrawLeastBruijn.f l0).bind fun bt349 => ((impl_LeastBruijn.f k bt349.1 bt349.2).bind fun bt351 => ((spec_LeastBruijn.f k bt349.1 bt349.2).bind fun bt355 => ((impl_GreedyBruijn.f k bt349.1 bt349.2).bind fun bt359 => ((spec_GreedyBruijn.f k bt349.1 bt349.2).bind fun bt363 => ((impl_EulerBruijn.f k bt349.1 bt349.2).bind fun bt367 => ((spec_EulerBruijn.f k bt349.1 bt349.2).bind fun bt371 => (if (bt351.2 != bt355.2) = true then (laws_FnBruijnWords.j0 k l1 bt349.1 bt349.2 bt351.1 bt355.2 bt359.1 bt367.1 true) else ((laws_tSame.f k bt351.1 bt355.1).bind fun t375 => (if t375 = true then (if (bt359.2 != bt363.2) = true then (laws_FnBruijnWords.j0 k l1 bt349.1 bt349.2 bt351.1 bt355.2 bt359.1 bt367.1 true) else ((laws_tSame.f k bt359.1 bt363.1).bind fun t376 => (if t376 = true then (if (bt367.2 != bt371.2) = true then (laws_FnBruijnWords.j0 k l1 bt349.1 bt349.2 bt351.1 bt355.2 bt359.1 bt367.1 true) else ((laws_tSame.f k bt367.1 bt371.1).bind fun t377 => (if t377 = true then (if (bt359.2 != bt351.2) = true then (laws_FnBruijnWords.j0 k l1 bt349.1 bt349.2 bt351.1 bt355.2 bt359.1 bt367.1 true) else (laws_FnBruijnWords.j0 k l1 bt349.1 bt349.2 bt351.1 bt355.2 bt359.1 bt367.1 (bt367.2 != bt351.2))) else (laws_FnBruijnWords.j0 k l1 bt349.1 bt349.2 bt351.1 bt355.2 bt359.1 bt367.1 true)))) else (laws_FnBruijnWords.j0 k l1 bt349.1 bt349.2 bt351.1 bt355.2 bt359.1 bt367.1 true)))) else (laws_FnBruijnWords.j0 k l1 bt349.1 bt349.2 bt351.1 bt355.2 bt359.1 bt367.1 true)))))))))))) = some r := H
  have A3 := Aside0.mk A30
  clear A30
  by_cases c4 : t348 = true
  · subst c4
    have H1 : (some true) = some r := by rw [if_pos rfl] at H; exact H
    clear H
    have H := H1
    clear H1
    as_aux_lemma =>
      obtain rfl := Option.some.inj H
      go_enter Try.func11, Try.ntmps11
      go_wp2_with (first | ((with_reducible refine gate_callee (f := 33) rfl ?_); refine goesL_ (some 34) rfl rfl Try.func33 (by kernel_rfl) rfl #[.slice A0 l0.length c0, .slice A1 l1.length c1] rfl (by (try simp only [List.map_toArray, List.map_cons, List.map_nil]); first | done | rfl | (simp only [List.length_drop, List.length_take]; rfl)) ?_; (with_reducible refine (laws_big.calls _ _ l0 _ _ l1 true _ ?side1 ?side2 ?side3 ?side4 A3.out).mono ?_); (case side1 => repeat (first | exact HR0.out | (with_reducible refine Kd.C_alloc ?_ _) | (with_reducible refine Kd.C_drewN ?_ _) | (with_reducible refine Kd.C_drew ?_))); (case side2 => exact HC0.out); (case side3 => repeat (first | exact HR1.out | (with_reducible refine Kd.C_alloc ?_ _) | (with_reducible refine Kd.C_drewN ?_ _) | (with_reducible refine Kd.C_drew ?_))); (case side4 => exact HC1.out); rintro e w' ⟨rfl, ⟨nd, rfl⟩⟩; refine ⟨_, rfl, ?_⟩))
      go_ret
      exact ⟨by first | rfl | (simp [errW_none, errW_some] <;> rfl) | (simp [*, errW_none, errW_some] <;> rfl), by repeat (first | (with_reducible first | exact HB.out | apply below_alloc | apply pw_below_drewN | apply below_drew1) | exact HB.out)⟩
  · replace c4 := Bool.eq_false_iff.mpr c4
    subst c4
    have H1 : ((spec_DrawLeastBruijn.f l0).bind fun bt349 => ((impl_LeastBruijn.f k bt349.1 bt349.2).bind fun bt351 => ((spec_LeastBruijn.f k bt349.1 bt349.2).bind fun bt355 => ((impl_GreedyBruijn.f k bt349.1 bt349.2).bind fun bt359 => ((spec_GreedyBruijn.f k bt349.1 bt349.2).bind fun bt363 => ((impl_EulerBruijn.f k bt349.1 bt349.2).bind fun bt367 => ((spec_EulerBruijn.f k bt349.1 bt349.2).bind fun bt371 => (if (bt351.2 != bt355.2) = true then (laws_FnBruijnWords.j0 k l1 bt349.1 bt349.2 bt351.1 bt355.2 bt359.1 bt367.1 true) else ((laws_tSame.f k bt351.1 bt355.1).bind fun t375 => (if t375 = true then (if (bt359.2 != bt363.2) = true then (laws_FnBruijnWords.j0 k l1 bt349.1 bt349.2 bt351.1 bt355.2 bt359.1 bt367.1 true) else ((laws_tSame.f k bt359.1 bt363.1).bind fun t376 => (if t376 = true then (if (bt367.2 != bt371.2) = true then (laws_FnBruijnWords.j0 k l1 bt349.1 bt349.2 bt351.1 bt355.2 bt359.1 bt367.1 true) else ((laws_tSame.f k bt367.1 bt371.1).bind fun t377 => (if t377 = true then (if (bt359.2 != bt351.2) = true then (laws_FnBruijnWords.j0 k l1 bt349.1 bt349.2 bt351.1 bt355.2 bt359.1 bt367.1 true) else (laws_FnBruijnWords.j0 k l1 bt349.1 bt349.2 bt351.1 bt355.2 bt359.1 bt367.1 (bt367.2 != bt351.2))) else (laws_FnBruijnWords.j0 k l1 bt349.1 bt349.2 bt351.1 bt355.2 bt359.1 bt367.1 true)))) else (laws_FnBruijnWords.j0 k l1 bt349.1 bt349.2 bt351.1 bt355.2 bt359.1 bt367.1 true)))) else (laws_FnBruijnWords.j0 k l1 bt349.1 bt349.2 bt351.1 bt355.2 bt359.1 bt367.1 true))))))))))) = some r := by rw [if_neg (show ¬ (false = true) by decide)] at H; exact H
    clear H
    have H := H1
    clear H1
    replace H := Option.bind_eq_some_iff.mp H
    obtain ⟨⟨t349, t350⟩, A50, H⟩ := H
    replace H : ((impl_LeastBruijn.f k t349 t350).bind fun bt351 => ((spec_LeastBruijn.f k t349 t350).bind fun bt355 => ((impl_GreedyBruijn.f k t349 t350).bind fun bt359 => ((spec_GreedyBruijn.f k t349 t350).bind fun bt363 => ((impl_EulerBruijn.f k t349 t350).bind fun bt367 => ((spec_EulerBruijn.f k t349 t350).bind fun bt371 => (if (bt351.2 != bt355.2) = true then (laws_FnBruijnWords.j0 k l1 t349 t350 bt351.1 bt355.2 bt359.1 bt367.1 true) else ((laws_tSame.f k bt351.1 bt355.1).bind fun t375 => (if t375 = true then (if (bt359.2 != bt363.2) = true then (laws_FnBruijnWords.j0 k l1 t349 t350 bt351.1 bt355.2 bt359.1 bt367.1 true) else ((laws_tSame.f k bt359.1 bt363.1).bind fun t376 => (if t376 = true then (if (bt367.2 != bt371.2) = true then (laws_FnBruijnWords.j0 k l1 t349 t350 bt351.1 bt355.2 bt359.1 bt367.1 true) else ((laws_tSame.f k bt367.1 bt371.1).bind fun t377 => (if t377 = true then (if (bt359.2 != bt351.2) = true then (laws_FnBruijnWords.j0 k l1 t349 t350 bt351.1 bt355.2 bt359.1 bt367.1 true) else (laws_FnBruijnWords.j0 k l1 t349 t350 bt351.1 bt355.2 bt359.1 bt367.1 (bt367.2 != bt351.2))) else (laws_FnBruijnWords.j0 k l1 t349 t350 bt351.1 bt355.2 bt359.1 bt367.1 true)))) else (laws_FnBruijnWords.j0 k l1 t349 t350 bt351.1 bt355.2 bt359.1 bt367.1 true)))) else (laws_FnBruijnWords.j0 k l1 t349 t350 bt351.1 bt355.2 bt359.1 bt367.1 true)))))))))) = some r := H
    have A5 := Aside0.mk A50
    clear A50
    replace H := Option.bind_eq_some_iff.mp H
    obtain ⟨⟨t351, t352⟩, A60, H⟩ := H
    replace H : ((spec_LeastBruijn.f k t349 t350).bind fun bt355 => ((impl_GreedyBruijn.f k t349 t350).bind fun bt359 => ((spec_GreedyBruijn.f k t349 t350).bind fun bt363 => ((impl_EulerBruijn.f k t349 t350).bind fun bt367 => ((spec_EulerBruijn.f k t349 t350).bind fun bt371 => (if (t352 != bt355.2) = true then (laws_FnBruijnWords.j0 k l1 t349 t350 t351 bt355.2 bt359.1 bt367.1 true) else ((laws_tSame.f k t351 bt355.1).bind fun t375 => (if t375 = true then (if (bt359.2 != bt363.2) = true then (laws_FnBruijnWords.j0 k l1 t349 t350 t351 bt355.2 bt359.1 bt367.1 true) else ((laws_tSame.f k bt359.1 bt363.1).bind fun t376 => (if t376 = true then (if (bt367.2 != bt371.2) = true then (laws_FnBruijnWords.j0 k l1 t349 t350 t351 bt355.2 bt359.1 bt367.1 true) else ((laws_tSame.f k bt367.1 bt371.1).bind fun t377 => (if t377 = true then (if (bt359.2 != t352) = true then (laws_FnBruijnWords.j0 k l1 t349 t350 t351 bt355.2 bt359.1 bt367.1 true) else (laws_FnBruijnWords.j0 k l1 t349 t350 t351 bt355.2 bt359.1 bt367.1 (bt367.2 != t352))) else (laws_FnBruijnWords.j0 k l1 t349 t350 t351 bt355.2 bt359.1 bt367.1 true)))) else (laws_FnBruijnWords.j0 k l1 t349 t350 t351 bt355.2 bt359.1 bt367.1 true)))) else (laws_FnBruijnWords.j0 k l1 t349 t350 t351 bt355.2 bt359.1 bt367.1 true))))))))) = some r := H
    have A6 := Aside0.mk A60
    clear A60
    replace H := Option.bind_eq_some_iff.mp H
    obtain ⟨⟨t355, t356⟩, A70, H⟩ := H
    replace H : ((impl_GreedyBruijn.f k t349 t350).bind fun bt359 => ((spec_GreedyBruijn.f k t349 t350).bind fun bt363 => ((impl_EulerBruijn.f k t349 t350).bind fun bt367 => ((spec_EulerBruijn.f k t349 t350).bind fun bt371 => (if (t352 != t356) = true then (laws_FnBruijnWords.j0 k l1 t349 t350 t351 t356 bt359.1 bt367.1 true) else ((laws_tSame.f k t351 t355).bind fun t375 => (if t375 = true then (if (bt359.2 != bt363.2) = true then (laws_FnBruijnWords.j0 k l1 t349 t350 t351 t356 bt359.1 bt367.1 true) else ((laws_tSame.f k bt359.1 bt363.1).bind fun t376 => (if t376 = true then (if (bt367.2 != bt371.2) = true then (laws_FnBruijnWords.j0 k l1 t349 t350 t351 t356 bt359.1 bt367.1 true) else ((laws_tSame.f k bt367.1 bt371.1).bind fun t377 => (if t377 = true then (if (bt359.2 != t352) = true then (laws_FnBruijnWords.j0 k l1 t349 t350 t351 t356 bt359.1 bt367.1 true) else (laws_FnBruijnWords.j0 k l1 t349 t350 t351 t356 bt359.1 bt367.1 (bt367.2 != t352))) else (laws_FnBruijnWords.j0 k l1 t349 t350 t351 t356 bt359.1 bt367.1 true)))) else (laws_FnBruijnWords.j0 k l1 t349 t350 t351 t356 bt359.1 bt367.1 true)))) else (laws_FnBruijnWords.j0 k l1 t349 t350 t351 t356 bt359.1 bt367.1 true)))))))) = some r := H
    have A7 := Aside0.mk A70
    clear A70
    replace H := Option.bind_eq_some_iff.mp H
    obtain ⟨⟨t359, t360⟩, A80, H⟩ := H
    replace H : ((spec_GreedyBruijn.f k t349 t350).bind fun bt363 => ((impl_EulerBruijn.f k t349 t350).bind fun bt367 => ((spec_EulerBruijn.f k t349 t350).bind fun bt371 => (if (t352 != t356) = true then (laws_FnBruijnWords.j0 k l1 t349 t350 t351 t356 t359 bt367.1 true) else ((laws_tSame.f k t351 t355).bind fun t375 => (if t375 = true then (if (t360 != bt363.2) = true then (laws_FnBruijnWords.j0 k l1 t349 t350 t351 t356 t359 bt367.1 true) else ((laws_tSame.f k t359 bt363.1).bind fun t376 => (if t376 = true then (if (bt367.2 != bt371.2) = true then (laws_FnBruijnWords.j0 k l1 t349 t350 t351 t356 t359 bt367.1 true) else ((laws_tSame.f k bt367.1 bt371.1).bind fun t377 => (if t377 = true then (if (t360 != t352) = true then (laws_FnBruijnWords.j0 k l1 t349 t350 t351 t356 t359 bt367.1 true) else (laws_FnBruijnWords.j0 k l1 t349 t350 t351 t356 t359 bt367.1 (bt367.2 != t352))) else (laws_FnBruijnWords.j0 k l1 t349 t350 t351 t356 t359 bt367.1 true)))) else (laws_FnBruijnWords.j0 k l1 t349 t350 t351 t356 t359 bt367.1 true)))) else (laws_FnBruijnWords.j0 k l1 t349 t350 t351 t356 t359 bt367.1 true))))))) = some r := H
    have A8 := Aside0.mk A80
    clear A80
    replace H := Option.bind_eq_some_iff.mp H
    obtain ⟨⟨t363, t364⟩, A90, H⟩ := H
    replace H : ((impl_EulerBruijn.f k t349 t350).bind fun bt367 => ((spec_EulerBruijn.f k t349 t350).bind fun bt371 => (if (t352 != t356) = true then (laws_FnBruijnWords.j0 k l1 t349 t350 t351 t356 t359 bt367.1 true) else ((laws_tSame.f k t351 t355).bind fun t375 => (if t375 = true then (if (t360 != t364) = true then (laws_FnBruijnWords.j0 k l1 t349 t350 t351 t356 t359 bt367.1 true) else ((laws_tSame.f k t359 t363).bind fun t376 => (if t376 = true then (if (bt367.2 != bt371.2) = true then (laws_FnBruijnWords.j0 k l1 t349 t350 t351 t356 t359 bt367.1 true) else ((laws_tSame.f k bt367.1 bt371.1).bind fun t377 => (if t377 = true then (if (t360 != t352) = true then (laws_FnBruijnWords.j0 k l1 t349 t350 t351 t356 t359 bt367.1 true) else (laws_FnBruijnWords.j0 k l1 t349 t350 t351 t356 t359 bt367.1 (bt367.2 != t352))) else (laws_FnBruijnWords.j0 k l1 t349 t350 t351 t356 t359 bt367.1 true)))) else (laws_FnBruijnWords.j0 k l1 t349 t350 t351 t356 t359 bt367.1 true)))) else (laws_FnBruijnWords.j0 k l1 t349 t350 t351 t356 t359 bt367.1 true)))))) = some r := H
    have A9 := Aside0.mk A90
    clear A90
    replace H := Option.bind_eq_some_iff.mp H
    obtain ⟨⟨t367, t368⟩, A100, H⟩ := H
    replace H : ((spec_EulerBruijn.f k t349 t350).bind fun bt371 => (if (t352 != t356) = true then (laws_FnBruijnWords.j0 k l1 t349 t350 t351 t356 t359 t367 true) else ((laws_tSame.f k t351 t355).bind fun t375 => (if t375 = true then (if (t360 != t364) = true then (laws_FnBruijnWords.j0 k l1 t349 t350 t351 t356 t359 t367 true) else ((laws_tSame.f k t359 t363).bind fun t376 => (if t376 = true then (if (t368 != bt371.2) = true then (laws_FnBruijnWords.j0 k l1 t349 t350 t351 t356 t359 t367 true) else ((laws_tSame.f k t367 bt371.1).bind fun t377 => (if t377 = true then (if (t360 != t352) = true then (laws_FnBruijnWords.j0 k l1 t349 t350 t351 t356 t359 t367 true) else (laws_FnBruijnWords.j0 k l1 t349 t350 t351 t356 t359 t367 (t368 != t352))) else (laws_FnBruijnWords.j0 k l1 t349 t350 t351 t356 t359 t367 true)))) else (laws_FnBruijnWords.j0 k l1 t349 t350 t351 t356 t359 t367 true)))) else (laws_FnBruijnWords.j0 k l1 t349 t350 t351 t356 t359 t367 true))))) = some r := H
    have A10 := Aside0.mk A100
    clear A100
    replace H := Option.bind_eq_some_iff.mp H
    obtain ⟨⟨t371, t372⟩, A110, H⟩ := H
    replace H : (if (t352 != t356) = true then (laws_FnBruijnWords.j0 k l1 t349 t350 t351 t356 t359 t367 true) else ((laws_tSame.f k t351 t355).bind fun t375 => (if t375 = true then (if (t360 != t364) = true then (laws_FnBruijnWords.j0 k l1 t349 t350 t351 t356 t359 t367 true) else ((laws_tSame.f k t359 t363).bind fun t376 => (if t376 = true then (if (t368 != t372) = true then (laws_FnBruijnWords.j0 k l1 t349 t350 t351 t356 t359 t367 true) else ((laws_tSame.f k t367 t371).bind fun t377 => (if t377 = true then (if (t360 != t352) = true then (laws_FnBruijnWords.j0 k l1 t349 t350 t351 t356 t359 t367 true) else (laws_FnBruijnWords.j0 k l1 t349 t350 t351 t356 t359 t367 (t368 != t352))) else (laws_FnBruijnWords.j0 k l1 t349 t350 t351 t356 t359 t367 true)))) else (laws_FnBruijnWords.j0 k l1 t349 t350 t351 t356 t359 t367 true)))) else (laws_FnBruijnWords.j0 k l1 t349 t350 t351 t356 t359 t367 true)))) = some r := H
    have A11 := Aside0.mk A110
    clear A110
    have HC12 := Aside0.mk H
    clear H
    go_enter Try.func11, Try.ntmps11
    go_upto_region 10 with (first | ((with_reducible refine gate_callee (f := 33) rfl ?_); refine goesL_ (some 34) rfl rfl Try.func33 (by kernel_rfl) rfl #[.slice A0 l0.length c0, .slice A1 l1.length c1] rfl (by (try simp only [List.map_toArray, List.map_cons, List.map_nil]); first | done | rfl | (simp only [List.length_drop, List.length_take]; rfl)) ?_; (with_reducible refine (laws_big.calls _ _ l0 _ _ l1 false _ ?side1 ?side2 ?side3 ?side4 A3.out).mono ?_); (case side1 => repeat (first | exact HR0.out | (with_reducible refine Kd.C_alloc ?_ _) | (with_reducible refine Kd.C_drewN ?_ _) | (with_reducible refine Kd.C_drew ?_))); (case side2 => exact HC0.out); (case side3 => repeat (first | exact HR1.out | (with_reducible refine Kd.C_alloc ?_ _) | (with_reducible refine Kd.C_drewN ?_ _) | (with_reducible refine Kd.C_drew ?_))); (case side4 => exact HC1.out); rintro e w' ⟨rfl, ⟨nd, rfl⟩⟩; refine ⟨_, rfl, ?_⟩) | ((with_reducible refine gate_callee (f := 52) rfl ?_); refine goesL_ (some 37) rfl rfl Try.func52 (by kernel_rfl) rfl #[.slice A0 l0.length c0] rfl (by (try simp only [List.map_toArray, List.map_cons, List.map_nil]); first | done | rfl | (simp only [List.length_drop, List.length_take]; rfl)) ?_; (with_reducible refine (spec_DrawLeastBruijn.calls _ _ l0 t349 t350 _ ?side1 ?side2 A5.out).mono ?_); (case side1 => repeat (first | exact HR0.out | (with_reducible refine Kd.C_alloc ?_ _) | (with_reducible refine Kd.C_drewN ?_ _) | (with_reducible refine Kd.C_drew ?_))); (case side2 => exact HC0.out); rintro e w13 ⟨rfl, hb⟩; refine ⟨_, rfl, ?_⟩; have n0_ := Aside0.mk (below_step (by repeat (first | (with_reducible first | exact HB.out | apply below_alloc | apply pw_below_drewN | apply below_drew1) | exact HB.out)) hb); clear HB; have HB := n0_; clear n0_; (try clear hb); (try clear hb2); (try clear hk); (try clear hi)) | ((with_reducible refine gate_callee (f := 47) rfl ?_); refine goesL_ (some 43) rfl rfl Try.func47 (by kernel_rfl) rfl #[.int .i64 t349, .int .i64 t350] rfl (by (try simp only [List.map_toArray, List.map_cons, List.map_nil]); first | done | rfl | (simp only [List.length_drop, List.length_take]; rfl)) ?_; (with_reducible refine (impl_LeastBruijn.calls k t349 t350 t351 t352 _ A6.out).mono ?_); rintro e w14 ⟨v353, rfl, ho0, hb⟩; refine ⟨_, rfl, ?_⟩; have n0_ := Aside0.mk (Kd.R_lower ho0 (below_size (by repeat (first | (with_reducible first | exact HB.out | apply below_alloc | apply pw_below_drewN | apply below_drew1) | exact HB.out)))); have n1_ := Aside0.mk (below_step (by repeat (first | (with_reducible first | exact HB.out | apply below_alloc | apply pw_below_drewN | apply below_drew1) | exact HB.out)) hb); clear HB; have HO354 := n0_; have HB := n1_; clear n0_ n1_; (try clear hb); (try clear hb2); (try clear hk); (try clear hi); (try clear ho0)) | ((with_reducible refine gate_callee (f := 53) rfl ?_); refine goesL_ (some 49) rfl rfl Try.func53 (by kernel_rfl) rfl #[.int .i64 t349, .int .i64 t350] rfl (by (try simp only [List.map_toArray, List.map_cons, List.map_nil]); first | done | rfl | (simp only [List.length_drop, List.length_take]; rfl)) ?_; (with_reducible refine (spec_LeastBruijn.calls k t349 t350 t355 t356 _ A7.out).mono ?_); rintro e w15 ⟨v357, rfl, ho0, hb⟩; refine ⟨_, rfl, ?_⟩; have n0_ := Aside0.mk (Kd.R_elder' (by (with_reducible repeat (first | apply Kd.R_alloc | apply Kd.R_drewN | apply Kd.R_drew)); exact HO354.out) (Kd.R_base ho0) hb); have n1_ := Aside0.mk (Kd.R_lower (Kd.R_new' ho0 (Kd.R_lt (by (with_reducible repeat (first | apply Kd.R_alloc | apply Kd.R_drewN | apply Kd.R_drew)); exact HO354.out))) (below_size (by repeat (first | (with_reducible first | exact HB.out | apply below_alloc | apply pw_below_drewN | apply below_drew1) | exact HB.out)))); have n2_ := Aside0.mk (below_step (by repeat (first | (with_reducible first | exact HB.out | apply below_alloc | apply pw_below_drewN | apply below_drew1) | exact HB.out)) hb); clear HO354; clear HB; have HO354 := n0_; have HO358 := n1_; have HB := n2_; clear n0_ n1_ n2_; (try clear hb); (try clear hb2); (try clear hk); (try clear hi); (try clear ho0)) | ((with_reducible refine gate_callee (f := 54) rfl ?_); refine goesL_ (some 55) rfl rfl Try.func54 (by kernel_rfl) rfl #[.int .i64 t349, .int .i64 t350] rfl (by (try simp only [List.map_toArray, List.map_cons, List.map_nil]); first | done | rfl | (simp only [List.length_drop, List.length_take]; rfl)) ?_; (with_reducible refine (impl_GreedyBruijn.calls k t349 t350 t359 t360 _ A8.out).mono ?_); rintro e w16 ⟨v361, rfl, ho0, hb⟩; refine ⟨_, rfl, ?_⟩; have n0_ := Aside0.mk (Kd.R_elder' (by (with_reducible repeat (first | apply Kd.R_alloc | apply Kd.R_drewN | apply Kd.R_drew)); exact HO354.out) (Kd.R_base ho0) hb); have n1_ := Aside0.mk (Kd.R_elder' (by (with_reducible repeat (first | apply Kd.R_alloc | apply Kd.R_drewN | apply Kd.R_drew)); exact HO358.out) (Kd.R_base ho0) hb); have n2_ := Aside0.mk (Kd.R_lower (Kd.R_new' (Kd.R_new' ho0 (Kd.R_lt (by (with_reducible repeat (first | apply Kd.R_alloc | apply Kd.R_drewN | apply Kd.R_drew)); exact HO354.out))) (Kd.R_lt (by (with_reducible repeat (first | apply Kd.R_alloc | apply Kd.R_drewN | apply Kd.R_drew)); exact HO358.out))) (below_size (by repeat (first | (with_reducible first | exact HB.out | apply below_alloc | apply pw_below_drewN | apply below_drew1) | exact HB.out)))); have n3_ := Aside0.mk (below_step (by repeat (first | (with_reducible first | exact HB.out | apply below_alloc | apply pw_below_drewN | apply below_drew1) | exact HB.out)) hb); clear HO354; clear HO358; clear HB; have HO354 := n0_; have HO358 := n1_; have HO362 := n2_; have HB := n3_; clear n0_ n1_ n2_ n3_; (try clear hb); (try clear hb2); (try clear hk); (try clear hi); (try clear ho0)) | ((with_reducible refine gate_callee (f := 55) rfl ?_); refine goesL_ (some 61) rfl rfl Try.func55 (by kernel_rfl) rfl #[.int .i64 t349, .int .i64 t350] rfl (by (try simp only [List.map_toArray, List.map_cons, List.map_nil]); first | done | rfl | (simp only [List.length_drop, List.length_take]; rfl)) ?_; (with_reducible refine (spec_GreedyBruijn.calls k t349 t350 t363 t364 _ A9.out).mono ?_); rintro e w17 ⟨v365, rfl, ho0, hb⟩; refine ⟨_, rfl, ?_⟩; have n0_ := Aside0.mk (Kd.R_elder' (by (with_reducible repeat (first | apply Kd.R_alloc | apply Kd.R_drewN | apply Kd.R_drew)); exact HO354.out) (Kd.R_base ho0) hb); have n1_ := Aside0.mk (Kd.R_elder' (by (with_reducible repeat (first | apply Kd.R_alloc | apply Kd.R_drewN | apply Kd.R_drew)); exact HO358.out) (Kd.R_base ho0) hb); have n2_ := Aside0.mk (Kd.R_elder' (by (with_reducible repeat (first | apply Kd.R_alloc | apply Kd.R_drewN | apply Kd.R_drew)); exact HO362.out) (Kd.R_base ho0) hb); have n3_ := Aside0.mk (Kd.R_lower (Kd.R_new' (Kd.R_new' (Kd.R_new' ho0 (Kd.R_lt (by (with_reducible repeat (first | apply Kd.R_alloc | apply Kd.R_drewN | apply Kd.R_drew)); exact HO354.out))) (Kd.R_lt (by (with_reducible repeat (first | apply Kd.R_alloc | apply Kd.R_drewN | apply Kd.R_drew)); exact HO358.out))) (Kd.R_lt (by (with_reducible repeat (first | apply Kd.R_alloc | apply Kd.R_drewN | apply Kd.R_drew)); exact HO362.out))) (below_size (by repeat (first | (with_reducible first | exact HB.out | apply below_alloc | apply pw_below_drewN | apply below_drew1) | exact HB.out)))); have n4_ := Aside0.mk (below_step (by repeat (first | (with_reducible first | exact HB.out | apply below_alloc | apply pw_below_drewN | apply below_drew1) | exact HB.out)) hb); clear HO354; clear HO358; clear HO362; clear HB; have HO354 := n0_; have HO358 := n1_; have HO362 := n2_; have HO366 := n3_; have HB := n4_; clear n0_ n1_ n2_ n3_ n4_; (try clear hb); (try clear hb2); (try clear hk); (try clear hi); (try clear ho0)) | ((with_reducible refine gate_callee (f := 56) rfl ?_); refine goesL_ (some 67) rfl rfl Try.func56 (by kernel_rfl) rfl #[.int .i64 t349, .int .i64 t350] rfl (by (try simp only [List.map_toArray, List.map_cons, List.map_nil]); first | done | rfl | (simp only [List.length_drop, List.length_take]; rfl)) ?_; (with_reducible refine (impl_EulerBruijn.calls k t349 t350 t367 t368 _ A10.out).mono ?_); rintro e w18 ⟨v369, rfl, ho0, hb⟩; refine ⟨_, rfl, ?_⟩; have n0_ := Aside0.mk (Kd.R_elder' (by (with_reducible repeat (first | apply Kd.R_alloc | apply Kd.R_drewN | apply Kd.R_drew)); exact HO354.out) (Kd.R_base ho0) hb); have n1_ := Aside0.mk (Kd.R_elder' (by (with_reducible repeat (first | apply Kd.R_alloc | apply Kd.R_drewN | apply Kd.R_drew)); exact HO358.out) (Kd.R_base ho0) hb); have n2_ := Aside0.mk (Kd.R_elder' (by (with_reducible repeat (first | apply Kd.R_alloc | apply Kd.R_drewN | apply Kd.R_drew)); exact HO362.out) (Kd.R_base ho0) hb); have n3_ := Aside0.mk (Kd.R_elder' (by (with_reducible repeat (first | apply Kd.R_alloc | apply Kd.R_drewN | apply Kd.R_drew)); exact HO366.out) (Kd.R_base ho0) hb); have n4_ := Aside0.mk (Kd.R_lower (Kd.R_new' (Kd.R_new' (Kd.R_new' (Kd.R_new' ho0 (Kd.R_lt (by (with_reducible repeat (first | apply Kd.R_alloc | apply Kd.R_drewN | apply Kd.R_drew)); exact HO354.out))) (Kd.R_lt (by (with_reducible repeat (first | apply Kd.R_alloc | apply Kd.R_drewN | apply Kd.R_drew)); exact HO358.out))) (Kd.R_lt (by (with_reducible repeat (first | apply Kd.R_alloc | apply Kd.R_drewN | apply Kd.R_drew)); exact HO362.out))) (Kd.R_lt (by (with_reducible repeat (first | apply Kd.R_alloc | apply Kd.R_drewN | apply Kd.R_drew)); exact HO366.out))) (below_size (by repeat (first | (with_reducible first | exact HB.out | apply below_alloc | apply pw_below_drewN | apply below_drew1) | exact HB.out)))); have n5_ := Aside0.mk (below_step (by repeat (first | (with_reducible first | exact HB.out | apply below_alloc | apply pw_below_drewN | apply below_drew1) | exact HB.out)) hb); clear HO354; clear HO358; clear HO362; clear HO366; clear HB; have HO354 := n0_; have HO358 := n1_; have HO362 := n2_; have HO366 := n3_; have HO370 := n4_; have HB := n5_; clear n0_ n1_ n2_ n3_ n4_ n5_; (try clear hb); (try clear hb2); (try clear hk); (try clear hi); (try clear ho0)) | ((with_reducible refine gate_callee (f := 57) rfl ?_); refine goesL_ (some 73) rfl rfl Try.func57 (by kernel_rfl) rfl #[.int .i64 t349, .int .i64 t350] rfl (by (try simp only [List.map_toArray, List.map_cons, List.map_nil]); first | done | rfl | (simp only [List.length_drop, List.length_take]; rfl)) ?_; (with_reducible refine (spec_EulerBruijn.calls k t349 t350 t371 t372 _ A11.out).mono ?_); rintro e w19 ⟨v373, rfl, ho0, hb⟩; refine ⟨_, rfl, ?_⟩; have n0_ := Aside0.mk (Kd.R_elder' (by (with_reducible repeat (first | apply Kd.R_alloc | apply Kd.R_drewN | apply Kd.R_drew)); exact HO354.out) (Kd.R_base ho0) hb); have n1_ := Aside0.mk (Kd.R_elder' (by (with_reducible repeat (first | apply Kd.R_alloc | apply Kd.R_drewN | apply Kd.R_drew)); exact HO358.out) (Kd.R_base ho0) hb); have n2_ := Aside0.mk (Kd.R_elder' (by (with_reducible repeat (first | apply Kd.R_alloc | apply Kd.R_drewN | apply Kd.R_drew)); exact HO362.out) (Kd.R_base ho0) hb); have n3_ := Aside0.mk (Kd.R_elder' (by (with_reducible repeat (first | apply Kd.R_alloc | apply Kd.R_drewN | apply Kd.R_drew)); exact HO366.out) (Kd.R_base ho0) hb); have n4_ := Aside0.mk (Kd.R_elder' (by (with_reducible repeat (first | apply Kd.R_alloc | apply Kd.R_drewN | apply Kd.R_drew)); exact HO370.out) (Kd.R_base ho0) hb); have n5_ := Aside0.mk (Kd.R_lower (Kd.R_new' (Kd.R_new' (Kd.R_new' (Kd.R_new' (Kd.R_new' ho0 (Kd.R_lt (by (with_reducible repeat (first | apply Kd.R_alloc | apply Kd.R_drewN | apply Kd.R_drew)); exact HO354.out))) (Kd.R_lt (by (with_reducible repeat (first | apply Kd.R_alloc | apply Kd.R_drewN | apply Kd.R_drew)); exact HO358.out))) (Kd.R_lt (by (with_reducible repeat (first | apply Kd.R_alloc | apply Kd.R_drewN | apply Kd.R_drew)); exact HO362.out))) (Kd.R_lt (by (with_reducible repeat (first | apply Kd.R_alloc | apply Kd.R_drewN | apply Kd.R_drew)); exact HO366.out))) (Kd.R_lt (by (with_reducible repeat (first | apply Kd.R_alloc | apply Kd.R_drewN | apply Kd.R_drew)); exact HO370.out))) (below_size (by repeat (first | (with_reducible first | exact HB.out | apply below_alloc | apply pw_below_drewN | apply below_drew1) | exact HB.out)))); have n6_ := Aside0.mk (below_step (by repeat (first | (with_reducible first | exact HB.out | apply below_alloc | apply pw_below_drewN | apply below_drew1) | exact HB.out)) hb); clear HO354; clear HO358; clear HO362; clear HO366; clear HO370; clear HB; have HO354 := n0_; have HO358 := n1_; have HO362 := n2_; have HO366 := n3_; have HO370 := n4_; have HO374 := n5_; have HB := n6_; clear n0_ n1_ n2_ n3_ n4_ n5_ n6_; (try clear hb); (try clear hb2); (try clear hk); (try clear hi); (try clear ho0)))
    (try simp only [Act.put, List.setIfInBounds_toArray, List.set_cons_zero, List.set_cons_succ])
    go_cut [116] (fun v116 wc => ∃ (kq : Nat) (x116_11 : Bool), v116 = .bool x116_11 ∧ Aside0 (laws_FnBruijnWords.j0 kq l1 t349 t350 t351 t356 t359 t367 x116_11 = some r) ∧ Aside0 (kq ≤ k) ∧ Aside0 (Kd.R (Kd.int .i64) 3 wc w.heap.size (fun k_ => some k_ ≠ (v361 : Value).ownBlock ∧ some k_ ≠ (v369 : Value).ownBlock) v353 t351) ∧ Aside0 (Kd.R (Kd.int .i64) 3 wc w.heap.size (fun k_ => some k_ ≠ (v353 : Value).ownBlock ∧ some k_ ≠ (v369 : Value).ownBlock) v361 t359) ∧ Aside0 (Kd.R (Kd.int .i64) 3 wc w.heap.size (fun k_ => some k_ ≠ (v353 : Value).ownBlock ∧ some k_ ≠ (v361 : Value).ownBlock) v369 t367) ∧ Aside0 (Below w.heap.size w wc))
    case first =>
      have H := HC12.out
      clear HC12
      by_cases c20 : (t352 != t356) = true
      · rw [if_pos c20] at H
        have c20b0 : (t352 != t356) = true := c20
        (try (have c20b1 : decide (t352 = t356) = false := by simpa using c20))
        (try (have c20b2 : (t352 == t356) = false := by simpa using c20))
        (try (have c20b3 : ¬ (t352 = t356) := by simpa using c20))
        clear c20
        (first | rw [c20b0] | (simp only [i64_w, i32_w]; rw [c20b0]) | skip)
        as_aux_lemma =>
          have H' := Aside0.mk H
          clear H
          go_wp2
          go_meet
          case rel => exact ⟨_, (true), (by first | rfl | (simp; done) | (simp [*]; done)), H', ⟨by first | omega | exact Nat.le_refl _⟩, ⟨by (with_reducible repeat (first | apply Kd.R_alloc | apply Kd.R_drewN | apply Kd.R_drew)); exact Kd.R_mono HO354.out (fun _ hk => ⟨hk.1.1.1.2, hk.1.2⟩)⟩, ⟨by (with_reducible repeat (first | apply Kd.R_alloc | apply Kd.R_drewN | apply Kd.R_drew)); exact Kd.R_mono HO362.out (fun _ hk => ⟨hk.1.1.1.1.2, hk.1.2⟩)⟩, ⟨by (with_reducible repeat (first | apply Kd.R_alloc | apply Kd.R_drewN | apply Kd.R_drew)); exact Kd.R_mono HO370.out (fun _ hk => ⟨hk.1.1.1.1.2, hk.1.1.2⟩)⟩, ⟨by repeat (first | (with_reducible first | exact HB.out | apply below_alloc | apply pw_below_drewN | apply below_drew1) | exact HB.out)⟩⟩
      · rw [if_neg c20] at H
        have c20b0 : (t352 != t356) = false := by simpa using c20
        (try (have c20b1 : decide (t352 = t356) = true := by simpa using c20))
        (try (have c20b2 : (t352 == t356) = true := by simpa using c20))
        clear c20
        (first | rw [c20b0] | (simp only [i64_w, i32_w]; rw [c20b0]) | skip)
        replace H := Option.bind_eq_some_iff.mp H
        obtain ⟨t375, A210, H⟩ := H
        replace H : (if t375 = true then (if (t360 != t364) = true then (laws_FnBruijnWords.j0 k l1 t349 t350 t351 t356 t359 t367 true) else ((laws_tSame.f k t359 t363).bind fun t376 => (if t376 = true then (if (t368 != t372) = true then (laws_FnBruijnWords.j0 k l1 t349 t350 t351 t356 t359 t367 true) else ((laws_tSame.f k t367 t371).bind fun t377 => (if t377 = true then (if (t360 != t352) = true then (laws_FnBruijnWords.j0 k l1 t349 t350 t351 t356 t359 t367 true) else (laws_FnBruijnWords.j0 k l1 t349 t350 t351 t356 t359 t367 (t368 != t352))) else (laws_FnBruijnWords.j0 k l1 t349 t350 t351 t356 t359 t367 true)))) else (laws_FnBruijnWords.j0 k l1 t349 t350 t351 t356 t359 t367 true)))) else (laws_FnBruijnWords.j0 k l1 t349 t350 t351 t356 t359 t367 true)) = some r := H
        have A21 := Aside0.mk A210
        clear A210
        by_cases c22 : t375 = true
        · subst c22
          have H1 : (if (t360 != t364) = true then (laws_FnBruijnWords.j0 k l1 t349 t350 t351 t356 t359 t367 true) else ((laws_tSame.f k t359 t363).bind fun t376 => (if t376 = true then (if (t368 != t372) = true then (laws_FnBruijnWords.j0 k l1 t349 t350 t351 t356 t359 t367 true) else ((laws_tSame.f k t367 t371).bind fun t377 => (if t377 = true then (if (t360 != t352) = true then (laws_FnBruijnWords.j0 k l1 t349 t350 t351 t356 t359 t367 true) else (laws_FnBruijnWords.j0 k l1 t349 t350 t351 t356 t359 t367 (t368 != t352))) else (laws_FnBruijnWords.j0 k l1 t349 t350 t351 t356 t359 t367 true)))) else (laws_FnBruijnWords.j0 k l1 t349 t350 t351 t356 t359 t367 true)))) = some r := by rw [if_pos rfl] at H; exact H
          clear H
          have H := H1
          clear H1
          by_cases c23 : (t360 != t364) = true
          · rw [if_pos c23] at H
            have c23b0 : (t360 != t364) = true := c23
            (try (have c23b1 : decide (t360 = t364) = false := by simpa using c23))
            (try (have c23b2 : (t360 == t364) = false := by simpa using c23))
            (try (have c23b3 : ¬ (t360 = t364) := by simpa using c23))
            clear c23
            as_aux_lemma =>
              have H' := Aside0.mk H
              clear H
              obtain ⟨Ao24, co24, eo24⟩ := Kd.R_slice HO354.out
              subst eo24
              obtain ⟨Ao25, co25, eo25⟩ := Kd.R_slice HO358.out
              subst eo25
              go_wp2_with (first | (go_at_call 48; (with_reducible refine (laws_tSame.calls k _ _ t351 _ _ t355 true _ ?side1 ?side2 ?side3 ?side4 A21.out).mono ?_); (case side1 => repeat (first | exact (Kd.R_reads' HO354.out).2.2 | (with_reducible refine Kd.C_alloc ?_ _) | (with_reducible refine Kd.C_drewN ?_ _) | (with_reducible refine Kd.C_drew ?_))); (case side2 => exact (Kd.R_reads' HO354.out).2.1); (case side3 => repeat (first | exact (Kd.R_reads' HO358.out).2.2 | (with_reducible refine Kd.C_alloc ?_ _) | (with_reducible refine Kd.C_drewN ?_ _) | (with_reducible refine Kd.C_drew ?_))); (case side4 => exact (Kd.R_reads' HO358.out).2.1); rintro e w' ⟨rfl, ⟨nd, rfl⟩⟩))
              go_meet
              case rel => exact ⟨_, (true), (by first | rfl | (simp; done) | (simp [*]; done)), H', ⟨by first | omega | exact Nat.le_refl _⟩, ⟨by (with_reducible repeat (first | apply Kd.R_alloc | apply Kd.R_drewN | apply Kd.R_drew)); exact Kd.R_mono HO354.out (fun _ hk => ⟨hk.1.1.1.2, hk.1.2⟩)⟩, ⟨by (with_reducible repeat (first | apply Kd.R_alloc | apply Kd.R_drewN | apply Kd.R_drew)); exact Kd.R_mono HO362.out (fun _ hk => ⟨hk.1.1.1.1.2, hk.1.2⟩)⟩, ⟨by (with_reducible repeat (first | apply Kd.R_alloc | apply Kd.R_drewN | apply Kd.R_drew)); exact Kd.R_mono HO370.out (fun _ hk => ⟨hk.1.1.1.1.2, hk.1.1.2⟩)⟩, ⟨by repeat (first | (with_reducible first | exact HB.out | apply below_alloc | apply pw_below_drewN | apply below_drew1) | exact HB.out)⟩⟩
          · rw [if_neg c23] at H
            have c23b0 : (t360 != t364) = false := by simpa using c23
            (try (have c23b1 : decide (t360 = t364) = true := by simpa using c23))
            (try (have c23b2 : (t360 == t364) = true := by simpa using c23))
            clear c23
            replace H := Option.bind_eq_some_iff.mp H
            obtain ⟨t376, A260, H⟩ := H
            replace H : (if t376 = true then (if (t368 != t372) = true then (laws_FnBruijnWords.j0 k l1 t349 t350 t351 t356 t359 t367 true) else ((laws_tSame.f k t367 t371).bind fun t377 => (if t377 = true then (if (t360 != t352) = true then (laws_FnBruijnWords.j0 k l1 t349 t350 t351 t356 t359 t367 true) else (laws_FnBruijnWords.j0 k l1 t349 t350 t351 t356 t359 t367 (t368 != t352))) else (laws_FnBruijnWords.j0 k l1 t349 t350 t351 t356 t359 t367 true)))) else (laws_FnBruijnWords.j0 k l1 t349 t350 t351 t356 t359 t367 true)) = some r := H
            have A26 := Aside0.mk A260
            clear A260
            by_cases c27 : t376 = true
            · subst c27
              have H1 : (if (t368 != t372) = true then (laws_FnBruijnWords.j0 k l1 t349 t350 t351 t356 t359 t367 true) else ((laws_tSame.f k t367 t371).bind fun t377 => (if t377 = true then (if (t360 != t352) = true then (laws_FnBruijnWords.j0 k l1 t349 t350 t351 t356 t359 t367 true) else (laws_FnBruijnWords.j0 k l1 t349 t350 t351 t356 t359 t367 (t368 != t352))) else (laws_FnBruijnWords.j0 k l1 t349 t350 t351 t356 t359 t367 true)))) = some r := by rw [if_pos rfl] at H; exact H
              clear H
              have H := H1
              clear H1
              by_cases c28 : (t368 != t372) = true
              · rw [if_pos c28] at H
                have c28b0 : (t368 != t372) = true := c28
                (try (have c28b1 : decide (t368 = t372) = false := by simpa using c28))
                (try (have c28b2 : (t368 == t372) = false := by simpa using c28))
                (try (have c28b3 : ¬ (t368 = t372) := by simpa using c28))
                clear c28
                as_aux_lemma =>
                  have H' := Aside0.mk H
                  clear H
                  obtain ⟨Ao29, co29, eo29⟩ := Kd.R_slice HO354.out
                  subst eo29
                  obtain ⟨Ao30, co30, eo30⟩ := Kd.R_slice HO358.out
                  subst eo30
                  go_wp2_with (first | (go_at_call 48; (with_reducible refine (laws_tSame.calls k _ _ t351 _ _ t355 true _ ?side1 ?side2 ?side3 ?side4 A21.out).mono ?_); (case side1 => repeat (first | exact (Kd.R_reads' HO354.out).2.2 | (with_reducible refine Kd.C_alloc ?_ _) | (with_reducible refine Kd.C_drewN ?_ _) | (with_reducible refine Kd.C_drew ?_))); (case side2 => exact (Kd.R_reads' HO354.out).2.1); (case side3 => repeat (first | exact (Kd.R_reads' HO358.out).2.2 | (with_reducible refine Kd.C_alloc ?_ _) | (with_reducible refine Kd.C_drewN ?_ _) | (with_reducible refine Kd.C_drew ?_))); (case side4 => exact (Kd.R_reads' HO358.out).2.1); rintro e w' ⟨rfl, ⟨nd, rfl⟩⟩; obtain ⟨Ao31, co31, eo31⟩ := Kd.R_slice HO362.out; subst eo31; obtain ⟨Ao32, co32, eo32⟩ := Kd.R_slice HO366.out; subst eo32) | (go_at_call 48; (with_reducible refine (laws_tSame.calls k _ _ t359 _ _ t363 true _ ?side1 ?side2 ?side3 ?side4 A26.out).mono ?_); (case side1 => repeat (first | exact (Kd.R_reads' HO362.out).2.2 | (with_reducible refine Kd.C_alloc ?_ _) | (with_reducible refine Kd.C_drewN ?_ _) | (with_reducible refine Kd.C_drew ?_))); (case side2 => exact (Kd.R_reads' HO362.out).2.1); (case side3 => repeat (first | exact (Kd.R_reads' HO366.out).2.2 | (with_reducible refine Kd.C_alloc ?_ _) | (with_reducible refine Kd.C_drewN ?_ _) | (with_reducible refine Kd.C_drew ?_))); (case side4 => exact (Kd.R_reads' HO366.out).2.1); rintro e w' ⟨rfl, ⟨nd, rfl⟩⟩))
                  go_meet
                  case rel => exact ⟨_, (true), (by first | rfl | (simp; done) | (simp [*]; done)), H', ⟨by first | omega | exact Nat.le_refl _⟩, ⟨by (with_reducible repeat (first | apply Kd.R_alloc | apply Kd.R_drewN | apply Kd.R_drew)); exact Kd.R_mono HO354.out (fun _ hk => ⟨hk.1.1.1.2, hk.1.2⟩)⟩, ⟨by (with_reducible repeat (first | apply Kd.R_alloc | apply Kd.R_drewN | apply Kd.R_drew)); exact Kd.R_mono HO362.out (fun _ hk => ⟨hk.1.1.1.1.2, hk.1.2⟩)⟩, ⟨by (with_reducible repeat (first | apply Kd.R_alloc | apply Kd.R_drewN | apply Kd.R_drew)); exact Kd.R_mono HO370.out (fun _ hk => ⟨hk.1.1.1.1.2, hk.1.1.2⟩)⟩, ⟨by repeat (first | (with_reducible first | exact HB.out | apply below_alloc | apply pw_below_drewN | apply below_drew1) | exact HB.out)⟩⟩
              · rw [if_neg c28] at H
                have c28b0 : (t368 != t372) = false := by simpa using c28
                (try (have c28b1 : decide (t368 = t372) = true := by simpa using c28))
                (try (have c28b2 : (t368 == t372) = true := by simpa using c28))
                clear c28
                replace H := Option.bind_eq_some_iff.mp H
                obtain ⟨t377, A330, H⟩ := H
                replace H : (if t377 = true then (if (t360 != t352) = true then (laws_FnBruijnWords.j0 k l1 t349 t350 t351 t356 t359 t367 true) else (laws_FnBruijnWords.j0 k l1 t349 t350 t351 t356 t359 t367 (t368 != t352))) else (laws_FnBruijnWords.j0 k l1 t349 t350 t351 t356 t359 t367 true)) = some r := H
                have A33 := Aside0.mk A330
                clear A330
                by_cases c34 : t377 = true
                · subst c34
                  have H1 : (if (t360 != t352) = true then (laws_FnBruijnWords.j0 k l1 t349 t350 t351 t356 t359 t367 true) else (laws_FnBruijnWords.j0 k l1 t349 t350 t351 t356 t359 t367 (t368 != t352))) = some r := by rw [if_pos rfl] at H; exact H
                  clear H
                  have H := H1
                  clear H1
                  by_cases c35 : (t360 != t352) = true
                  · rw [if_pos c35] at H
                    have c35b0 : (t360 != t352) = true := c35
                    (try (have c35b1 : decide (t360 = t352) = false := by simpa using c35))
                    (try (have c35b2 : (t360 == t352) = false := by simpa using c35))
                    (try (have c35b3 : ¬ (t360 = t352) := by simpa using c35))
                    clear c35
                    as_aux_lemma =>
                      have H' := Aside0.mk H
                      clear H
                      obtain ⟨Ao36, co36, eo36⟩ := Kd.R_slice HO354.out
                      subst eo36
                      obtain ⟨Ao37, co37, eo37⟩ := Kd.R_slice HO358.out
                      subst eo37
                      go_wp2_with (first | (go_at_call 48; (with_reducible refine (laws_tSame.calls k _ _ t351 _ _ t355 true _ ?side1 ?side2 ?side3 ?side4 A21.out).mono ?_); (case side1 => repeat (first | exact (Kd.R_reads' HO354.out).2.2 | (with_reducible refine Kd.C_alloc ?_ _) | (with_reducible refine Kd.C_drewN ?_ _) | (with_reducible refine Kd.C_drew ?_))); (case side2 => exact (Kd.R_reads' HO354.out).2.1); (case side3 => repeat (first | exact (Kd.R_reads' HO358.out).2.2 | (with_reducible refine Kd.C_alloc ?_ _) | (with_reducible refine Kd.C_drewN ?_ _) | (with_reducible refine Kd.C_drew ?_))); (case side4 => exact (Kd.R_reads' HO358.out).2.1); rintro e w' ⟨rfl, ⟨nd, rfl⟩⟩; obtain ⟨Ao38, co38, eo38⟩ := Kd.R_slice HO362.out; subst eo38; obtain ⟨Ao39, co39, eo39⟩ := Kd.R_slice HO366.out; subst eo39) | (go_at_call 48; (with_reducible refine (laws_tSame.calls k _ _ t359 _ _ t363 true _ ?side1 ?side2 ?side3 ?side4 A26.out).mono ?_); (case side1 => repeat (first | exact (Kd.R_reads' HO362.out).2.2 | (with_reducible refine Kd.C_alloc ?_ _) | (with_reducible refine Kd.C_drewN ?_ _) | (with_reducible refine Kd.C_drew ?_))); (case side2 => exact (Kd.R_reads' HO362.out).2.1); (case side3 => repeat (first | exact (Kd.R_reads' HO366.out).2.2 | (with_reducible refine Kd.C_alloc ?_ _) | (with_reducible refine Kd.C_drewN ?_ _) | (with_reducible refine Kd.C_drew ?_))); (case side4 => exact (Kd.R_reads' HO366.out).2.1); rintro e w' ⟨rfl, ⟨nd, rfl⟩⟩; obtain ⟨Ao40, co40, eo40⟩ := Kd.R_slice HO370.out; subst eo40; obtain ⟨Ao41, co41, eo41⟩ := Kd.R_slice HO374.out; subst eo41) | (go_at_call 48; (with_reducible refine (laws_tSame.calls k _ _ t367 _ _ t371 true _ ?side1 ?side2 ?side3 ?side4 A33.out).mono ?_); (case side1 => repeat (first | exact (Kd.R_reads' HO370.out).2.2 | (with_reducible refine Kd.C_alloc ?_ _) | (with_reducible refine Kd.C_drewN ?_ _) | (with_reducible refine Kd.C_drew ?_))); (case side2 => exact (Kd.R_reads' HO370.out).2.1); (case side3 => repeat (first | exact (Kd.R_reads' HO374.out).2.2 | (with_reducible refine Kd.C_alloc ?_ _) | (with_reducible refine Kd.C_drewN ?_ _) | (with_reducible refine Kd.C_drew ?_))); (case side4 => exact (Kd.R_reads' HO374.out).2.1); rintro e w' ⟨rfl, ⟨nd, rfl⟩⟩))
                      go_meet
                      case rel => exact ⟨_, (true), (by first | rfl | (simp; done) | (simp [*]; done)), H', ⟨by first | omega | exact Nat.le_refl _⟩, ⟨by (with_reducible repeat (first | apply Kd.R_alloc | apply Kd.R_drewN | apply Kd.R_drew)); exact Kd.R_mono HO354.out (fun _ hk => ⟨hk.1.1.1.2, hk.1.2⟩)⟩, ⟨by (with_reducible repeat (first | apply Kd.R_alloc | apply Kd.R_drewN | apply Kd.R_drew)); exact Kd.R_mono HO362.out (fun _ hk => ⟨hk.1.1.1.1.2, hk.1.2⟩)⟩, ⟨by (with_reducible repeat (first | apply Kd.R_alloc | apply Kd.R_drewN | apply Kd.R_drew)); exact Kd.R_mono HO370.out (fun _ hk => ⟨hk.1.1.1.1.2, hk.1.1.2⟩)⟩, ⟨by repeat (first | (with_reducible first | exact HB.out | apply below_alloc | apply pw_below_drewN | apply below_drew1) | exact HB.out)⟩⟩
                  · rw [if_neg c35] at H
                    have c35b0 : (t360 != t352) = false := by simpa using c35
                    (try (have c35b1 : decide (t360 = t352) = true := by simpa using c35))
                    (try (have c35b2 : (t360 == t352) = true := by simpa using c35))
                    clear c35
                    as_aux_lemma =>
                      have H' := Aside0.mk H
                      clear H
                      obtain ⟨Ao42, co42, eo42⟩ := Kd.R_slice HO354.out
                      subst eo42
                      obtain ⟨Ao43, co43, eo43⟩ := Kd.R_slice HO358.out
                      subst eo43
                      go_wp2_with (first | (go_at_call 48; (with_reducible refine (laws_tSame.calls k _ _ t351 _ _ t355 true _ ?side1 ?side2 ?side3 ?side4 A21.out).mono ?_); (case side1 => repeat (first | exact (Kd.R_reads' HO354.out).2.2 | (with_reducible refine Kd.C_alloc ?_ _) | (with_reducible refine Kd.C_drewN ?_ _) | (with_reducible refine Kd.C_drew ?_))); (case side2 => exact (Kd.R_reads' HO354.out).2.1); (case side3 => repeat (first | exact (Kd.R_reads' HO358.out).2.2 | (with_reducible refine Kd.C_alloc ?_ _) | (with_reducible refine Kd.C_drewN ?_ _) | (with_reducible refine Kd.C_drew ?_))); (case side4 => exact (Kd.R_reads' HO358.out).2.1); rintro e w' ⟨rfl, ⟨nd, rfl⟩⟩; obtain ⟨Ao44, co44, eo44⟩ := Kd.R_slice HO362.out; subst eo44; obtain ⟨Ao45, co45, eo45⟩ := Kd.R_slice HO366.out; subst eo45) | (go_at_call 48; (with_reducible refine (laws_tSame.calls k _ _ t359 _ _ t363 true _ ?side1 ?side2 ?side3 ?side4 A26.out).mono ?_); (case side1 => repeat (first | exact (Kd.R_reads' HO362.out).2.2 | (with_reducible refine Kd.C_alloc ?_ _) | (with_reducible refine Kd.C_drewN ?_ _) | (with_reducible refine Kd.C_drew ?_))); (case side2 => exact (Kd.R_reads' HO362.out).2.1); (case side3 => repeat (first | exact (Kd.R_reads' HO366.out).2.2 | (with_reducible refine Kd.C_alloc ?_ _) | (with_reducible refine Kd.C_drewN ?_ _) | (with_reducible refine Kd.C_drew ?_))); (case side4 => exact (Kd.R_reads' HO366.out).2.1); rintro e w' ⟨rfl, ⟨nd, rfl⟩⟩; obtain ⟨Ao46, co46, eo46⟩ := Kd.R_slice HO370.out; subst eo46; obtain ⟨Ao47, co47, eo47⟩ := Kd.R_slice HO374.out; subst eo47) | (go_at_call 48; (with_reducible refine (laws_tSame.calls k _ _ t367 _ _ t371 true _ ?side1 ?side2 ?side3 ?side4 A33.out).mono ?_); (case side1 => repeat (first | exact (Kd.R_reads' HO370.out).2.2 | (with_reducible refine Kd.C_alloc ?_ _) | (with_reducible refine Kd.C_drewN ?_ _) | (with_reducible refine Kd.C_drew ?_))); (case side2 => exact (Kd.R_reads' HO370.out).2.1); (case side3 => repeat (first | exact (Kd.R_reads' HO374.out).2.2 | (with_reducible refine Kd.C_alloc ?_ _) | (with_reducible refine Kd.C_drewN ?_ _) | (with_reducible refine Kd.C_drew ?_))); (case side4 => exact (Kd.R_reads' HO374.out).2.1); rintro e w' ⟨rfl, ⟨nd, rfl⟩⟩))
                      go_meet
                      case rel => exact ⟨_, ((t368 != t352)), (by first | rfl | (simp; done) | (simp [*]; done)), H', ⟨by first | omega | exact Nat.le_refl _⟩, ⟨by (with_reducible repeat (first | apply Kd.R_alloc | apply Kd.R_drewN | apply Kd.R_drew)); exact Kd.R_mono HO354.out (fun _ hk => ⟨hk.1.1.1.2, hk.1.2⟩)⟩, ⟨by (with_reducible repeat (first | apply Kd.R_alloc | apply Kd.R_drewN | apply Kd.R_drew)); exact Kd.R_mono HO362.out (fun _ hk => ⟨hk.1.1.1.1.2, hk.1.2⟩)⟩, ⟨by (with_reducible repeat (first | apply Kd.R_alloc | apply Kd.R_drewN | apply Kd.R_drew)); exact Kd.R_mono HO370.out (fun _ hk => ⟨hk.1.1.1.1.2, hk.1.1.2⟩)⟩, ⟨by repeat (first | (with_reducible first | exact HB.out | apply below_alloc | apply pw_below_drewN | apply below_drew1) | exact HB.out)⟩⟩
                · replace c34 := Bool.eq_false_iff.mpr c34
                  subst c34
                  have H1 : (laws_FnBruijnWords.j0 k l1 t349 t350 t351 t356 t359 t367 true) = some r := by rw [if_neg (show ¬ (false = true) by decide)] at H; exact H
                  clear H
                  have H := H1
                  clear H1
                  as_aux_lemma =>
                    have H' := Aside0.mk H
                    clear H
                    obtain ⟨Ao48, co48, eo48⟩ := Kd.R_slice HO354.out
                    subst eo48
                    obtain ⟨Ao49, co49, eo49⟩ := Kd.R_slice HO358.out
                    subst eo49
                    go_wp2_with (first | (go_at_call 48; (with_reducible refine (laws_tSame.calls k _ _ t351 _ _ t355 true _ ?side1 ?side2 ?side3 ?side4 A21.out).mono ?_); (case side1 => repeat (first | exact (Kd.R_reads' HO354.out).2.2 | (with_reducible refine Kd.C_alloc ?_ _) | (with_reducible refine Kd.C_drewN ?_ _) | (with_reducible refine Kd.C_drew ?_))); (case side2 => exact (Kd.R_reads' HO354.out).2.1); (case side3 => repeat (first | exact (Kd.R_reads' HO358.out).2.2 | (with_reducible refine Kd.C_alloc ?_ _) | (with_reducible refine Kd.C_drewN ?_ _) | (with_reducible refine Kd.C_drew ?_))); (case side4 => exact (Kd.R_reads' HO358.out).2.1); rintro e w' ⟨rfl, ⟨nd, rfl⟩⟩; obtain ⟨Ao50, co50, eo50⟩ := Kd.R_slice HO362.out; subst eo50; obtain ⟨Ao51, co51, eo51⟩ := Kd.R_slice HO366.out; subst eo51) | (go_at_call 48; (with_reducible refine (laws_tSame.calls k _ _ t359 _ _ t363 true _ ?side1 ?side2 ?side3 ?side4 A26.out).mono ?_); (case side1 => repeat (first | exact (Kd.R_reads' HO362.out).2.2 | (with_reducible refine Kd.C_alloc ?_ _) | (with_reducible refine Kd.C_drewN ?_ _) | (with_reducible refine Kd.C_drew ?_))); (case side2 => exact (Kd.R_reads' HO362.out).2.1); (case side3 => repeat (first | exact (Kd.R_reads' HO366.out).2.2 | (with_reducible refine Kd.C_alloc ?_ _) | (with_reducible refine Kd.C_drewN ?_ _) | (with_reducible refine Kd.C_drew ?_))); (case side4 => exact (Kd.R_reads' HO366.out).2.1); rintro e w' ⟨rfl, ⟨nd, rfl⟩⟩; obtain ⟨Ao52, co52, eo52⟩ := Kd.R_slice HO370.out; subst eo52; obtain ⟨Ao53, co53, eo53⟩ := Kd.R_slice HO374.out; subst eo53) | (go_at_call 48; (with_reducible refine (laws_tSame.calls k _ _ t367 _ _ t371 false _ ?side1 ?side2 ?side3 ?side4 A33.out).mono ?_); (case side1 => repeat (first | exact (Kd.R_reads' HO370.out).2.2 | (with_reducible refine Kd.C_alloc ?_ _) | (with_reducible refine Kd.C_drewN ?_ _) | (with_reducible refine Kd.C_drew ?_))); (case side2 => exact (Kd.R_reads' HO370.out).2.1); (case side3 => repeat (first | exact (Kd.R_reads' HO374.out).2.2 | (with_reducible refine Kd.C_alloc ?_ _) | (with_reducible refine Kd.C_drewN ?_ _) | (with_reducible refine Kd.C_drew ?_))); (case side4 => exact (Kd.R_reads' HO374.out).2.1); rintro e w' ⟨rfl, ⟨nd, rfl⟩⟩))
                    go_meet
                    case rel => exact ⟨_, (true), (by first | rfl | (simp; done) | (simp [*]; done)), H', ⟨by first | omega | exact Nat.le_refl _⟩, ⟨by (with_reducible repeat (first | apply Kd.R_alloc | apply Kd.R_drewN | apply Kd.R_drew)); exact Kd.R_mono HO354.out (fun _ hk => ⟨hk.1.1.1.2, hk.1.2⟩)⟩, ⟨by (with_reducible repeat (first | apply Kd.R_alloc | apply Kd.R_drewN | apply Kd.R_drew)); exact Kd.R_mono HO362.out (fun _ hk => ⟨hk.1.1.1.1.2, hk.1.2⟩)⟩, ⟨by (with_reducible repeat (first | apply Kd.R_alloc | apply Kd.R_drewN | apply Kd.R_drew)); exact Kd.R_mono HO370.out (fun _ hk => ⟨hk.1.1.1.1.2, hk.1.1.2⟩)⟩, ⟨by repeat (first | (with_reducible first | exact HB.out | apply below_alloc | apply pw_below_drewN | apply below_drew1) | exact HB.out)⟩⟩
            · replace c27 := Bool.eq_false_iff.mpr c27
              subst c27
              have H1 : (laws_FnBruijnWords.j0 k l1 t349 t350 t351 t356 t359 t367 true) = some r := by rw [if_neg (show ¬ (false = true) by decide)] at H; exact H
              clear H
              have H := H1
              clear H1
              as_aux_lemma =>
                have H' := Aside0.mk H
                clear H
                obtain ⟨Ao54, co54, eo54⟩ := Kd.R_slice HO354.out
                subst eo54
                obtain ⟨Ao55, co55, eo55⟩ := Kd.R_slice HO358.out
                subst eo55
                go_wp2_with (first | (go_at_call 48; (with_reducible refine (laws_tSame.calls k _ _ t351 _ _ t355 true _ ?side1 ?side2 ?side3 ?side4 A21.out).mono ?_); (case side1 => repeat (first | exact (Kd.R_reads' HO354.out).2.2 | (with_reducible refine Kd.C_alloc ?_ _) | (with_reducible refine Kd.C_drewN ?_ _) | (with_reducible refine Kd.C_drew ?_))); (case side2 => exact (Kd.R_reads' HO354.out).2.1); (case side3 => repeat (first | exact (Kd.R_reads' HO358.out).2.2 | (with_reducible refine Kd.C_alloc ?_ _) | (with_reducible refine Kd.C_drewN ?_ _) | (with_reducible refine Kd.C_drew ?_))); (case side4 => exact (Kd.R_reads' HO358.out).2.1); rintro e w' ⟨rfl, ⟨nd, rfl⟩⟩; obtain ⟨Ao56, co56, eo56⟩ := Kd.R_slice HO362.out; subst eo56; obtain ⟨Ao57, co57, eo57⟩ := Kd.R_slice HO366.out; subst eo57) | (go_at_call 48; (with_reducible refine (laws_tSame.calls k _ _ t359 _ _ t363 false _ ?side1 ?side2 ?side3 ?side4 A26.out).mono ?_); (case side1 => repeat (first | exact (Kd.R_reads' HO362.out).2.2 | (with_reducible refine Kd.C_alloc ?_ _) | (with_reducible refine Kd.C_drewN ?_ _) | (with_reducible refine Kd.C_drew ?_))); (case side2 => exact (Kd.R_reads' HO362.out).2.1); (case side3 => repeat (first | exact (Kd.R_reads' HO366.out).2.2 | (with_reducible refine Kd.C_alloc ?_ _) | (with_reducible refine Kd.C_drewN ?_ _) | (with_reducible refine Kd.C_drew ?_))); (case side4 => exact (Kd.R_reads' HO366.out).2.1); rintro e w' ⟨rfl, ⟨nd, rfl⟩⟩))
                go_meet
                case rel => exact ⟨_, (true), (by first | rfl | (simp; done) | (simp [*]; done)), H', ⟨by first | omega | exact Nat.le_refl _⟩, ⟨by (with_reducible repeat (first | apply Kd.R_alloc | apply Kd.R_drewN | apply Kd.R_drew)); exact Kd.R_mono HO354.out (fun _ hk => ⟨hk.1.1.1.2, hk.1.2⟩)⟩, ⟨by (with_reducible repeat (first | apply Kd.R_alloc | apply Kd.R_drewN | apply Kd.R_drew)); exact Kd.R_mono HO362.out (fun _ hk => ⟨hk.1.1.1.1.2, hk.1.2⟩)⟩, ⟨by (with_reducible repeat (first | apply Kd.R_alloc | apply Kd.R_drewN | apply Kd.R_drew)); exact Kd.R_mono HO370.out (fun _ hk => ⟨hk.1.1.1.1.2, hk.1.1.2⟩)⟩, ⟨by repeat (first | (with_reducible first | exact HB.out | apply below_alloc | apply pw_below_drewN | apply below_drew1) | exact HB.out)⟩⟩
        · replace c22 := Bool.eq_false_iff.mpr c22
          subst c22
          have H1 : (laws_FnBruijnWords.j0 k l1 t349 t350 t351 t356 t359 t367 true) = some r := by rw [if_neg (show ¬ (false = true) by decide)] at H; exact H
          clear H
          have H := H1
          clear H1
          as_aux_lemma =>
            have H' := Aside0.mk H
            clear H
            obtain ⟨Ao58, co58, eo58⟩ := Kd.R_slice HO354.out
            subst eo58
            obtain ⟨Ao59, co59, eo59⟩ := Kd.R_slice HO358.out
            subst eo59
            go_wp2_with (first | (go_at_call 48; (with_reducible refine (laws_tSame.calls k _ _ t351 _ _ t355 false _ ?side1 ?side2 ?side3 ?side4 A21.out).mono ?_); (case side1 => repeat (first | exact (Kd.R_reads' HO354.out).2.2 | (with_reducible refine Kd.C_alloc ?_ _) | (with_reducible refine Kd.C_drewN ?_ _) | (with_reducible refine Kd.C_drew ?_))); (case side2 => exact (Kd.R_reads' HO354.out).2.1); (case side3 => repeat (first | exact (Kd.R_reads' HO358.out).2.2 | (with_reducible refine Kd.C_alloc ?_ _) | (with_reducible refine Kd.C_drewN ?_ _) | (with_reducible refine Kd.C_drew ?_))); (case side4 => exact (Kd.R_reads' HO358.out).2.1); rintro e w' ⟨rfl, ⟨nd, rfl⟩⟩))
            go_meet
            case rel => exact ⟨_, (true), (by first | rfl | (simp; done) | (simp [*]; done)), H', ⟨by first | omega | exact Nat.le_refl _⟩, ⟨by (with_reducible repeat (first | apply Kd.R_alloc | apply Kd.R_drewN | apply Kd.R_drew)); exact Kd.R_mono HO354.out (fun _ hk => ⟨hk.1.1.1.2, hk.1.2⟩)⟩, ⟨by (with_reducible repeat (first | apply Kd.R_alloc | apply Kd.R_drewN | apply Kd.R_drew)); exact Kd.R_mono HO362.out (fun _ hk => ⟨hk.1.1.1.1.2, hk.1.2⟩)⟩, ⟨by (with_reducible repeat (first | apply Kd.R_alloc | apply Kd.R_drewN | apply Kd.R_drew)); exact Kd.R_mono HO370.out (fun _ hk => ⟨hk.1.1.1.1.2, hk.1.1.2⟩)⟩, ⟨by repeat (first | (with_reducible first | exact HB.out | apply below_alloc | apply pw_below_drewN | apply below_drew1) | exact HB.out)⟩⟩
    case rest =>
      clear HC12
      try clear c1
      try clear c2
      try clear p2
      try clear c3
      try clear c4
      try clear c5
      try clear c11
      try clear c20
      try clear c20b0
      try clear c20b1
      try clear c20b2
      try clear c22
      try clear c23
      try clear c23b0
      try clear c23b1
      try clear c23b2
      try clear c27
      try clear c28
      try clear c28b0
      try clear c28b1
      try clear c28b2
      try clear c33
      try clear c34
      try clear c35
      try clear c35b0
      try clear c35b1
      try clear c35b2
      try clear c47
      try clear c52
      try clear c53
      try clear c54
      try clear c55
      try clear c56
      try clear c57
      obtain ⟨kq, x116_11, rfl, HA, HJ11, HO_7, HO_11, HO_15, HB⟩ := hcut
      cases kq with
      | zero => exact absurd HA.out (by simp [laws_FnBruijnWords.j0])
      | succ kj11 =>
        have H := HA.out
        clear HA
        simp only [laws_FnBruijnWords.j0] at H
        by_cases c60 : x116_11 = true
        · subst c60
          have H1 : (some false) = some r := by rw [if_pos rfl] at H; exact H
          clear H
          have H := H1
          clear H1
          as_aux_lemma =>
            obtain rfl := Option.some.inj H
            go_wp2
            go_ret
            exact ⟨by first | rfl | (simp [errW_none, errW_some] <;> rfl) | (simp [*, errW_none, errW_some] <;> rfl), by repeat (first | (with_reducible first | exact HB.out | apply below_alloc | apply pw_below_drewN | apply below_drew1) | exact HB.out)⟩
        · replace c60 := Bool.eq_false_iff.mpr c60
          subst c60
          have H1 : (if t356 = true then ((impl_IsBruijn.f kj11 t351 t349 t350).bind fun bt378 => ((impl_IsBruijn.f kj11 t359 t349 t350).bind fun bt380 => ((impl_IsBruijn.f kj11 t367 t349 t350).bind fun bt382 => (if bt378.2 = true then (if bt380.2 = true then (if bt382.2 = true then (if bt378.1 = true then (if bt380.1 = true then (if bt382.1 = true then ((laws_tLess.f kj11 t359 t351).bind fun t384 => (laws_FnBruijnWords.j1 kj11 l1 t349 t351 t367 t384)) else (laws_FnBruijnWords.j1 kj11 l1 t349 t351 t367 true)) else (laws_FnBruijnWords.j1 kj11 l1 t349 t351 t367 true)) else (laws_FnBruijnWords.j1 kj11 l1 t349 t351 t367 true)) else (laws_FnBruijnWords.j1 kj11 l1 t349 t351 t367 true)) else (laws_FnBruijnWords.j1 kj11 l1 t349 t351 t367 true)) else (laws_FnBruijnWords.j1 kj11 l1 t349 t351 t367 true))))) else (some true)) = some r := by rw [if_neg (show ¬ (false = true) by decide)] at H; exact H
          clear H
          have H := H1
          clear H1
          by_cases c61 : t356 = true
          · subst c61
            have H1 : ((impl_IsBruijn.f kj11 t351 t349 t350).bind fun bt378 => ((impl_IsBruijn.f kj11 t359 t349 t350).bind fun bt380 => ((impl_IsBruijn.f kj11 t367 t349 t350).bind fun bt382 => (if bt378.2 = true then (if bt380.2 = true then (if bt382.2 = true then (if bt378.1 = true then (if bt380.1 = true then (if bt382.1 = true then ((laws_tLess.f kj11 t359 t351).bind fun t384 => (laws_FnBruijnWords.j1 kj11 l1 t349 t351 t367 t384)) else (laws_FnBruijnWords.j1 kj11 l1 t349 t351 t367 true)) else (laws_FnBruijnWords.j1 kj11 l1 t349 t351 t367 true)) else (laws_FnBruijnWords.j1 kj11 l1 t349 t351 t367 true)) else (laws_FnBruijnWords.j1 kj11 l1 t349 t351 t367 true)) else (laws_FnBruijnWords.j1 kj11 l1 t349 t351 t367 true)) else (laws_FnBruijnWords.j1 kj11 l1 t349 t351 t367 true))))) = some r := by rw [if_pos rfl] at H; exact H
            clear H
            have H := H1
            clear H1
            replace H := Option.bind_eq_some_iff.mp H
            obtain ⟨⟨t378, t379⟩, A620, H⟩ := H
            replace H : ((impl_IsBruijn.f kj11 t359 t349 t350).bind fun bt380 => ((impl_IsBruijn.f kj11 t367 t349 t350).bind fun bt382 => (if t379 = true then (if bt380.2 = true then (if bt382.2 = true then (if t378 = true then (if bt380.1 = true then (if bt382.1 = true then ((laws_tLess.f kj11 t359 t351).bind fun t384 => (laws_FnBruijnWords.j1 kj11 l1 t349 t351 t367 t384)) else (laws_FnBruijnWords.j1 kj11 l1 t349 t351 t367 true)) else (laws_FnBruijnWords.j1 kj11 l1 t349 t351 t367 true)) else (laws_FnBruijnWords.j1 kj11 l1 t349 t351 t367 true)) else (laws_FnBruijnWords.j1 kj11 l1 t349 t351 t367 true)) else (laws_FnBruijnWords.j1 kj11 l1 t349 t351 t367 true)) else (laws_FnBruijnWords.j1 kj11 l1 t349 t351 t367 true)))) = some r := H
            have A62 := Aside0.mk A620
            clear A620
            replace H := Option.bind_eq_some_iff.mp H
            obtain ⟨⟨t380, t381⟩, A630, H⟩ := H
            replace H : ((impl_IsBruijn.f kj11 t367 t349 t350).bind fun bt382 => (if t379 = true then (if t381 = true then (if bt382.2 = true then (if t378 = true then (if t380 = true then (if bt382.1 = true then ((laws_tLess.f kj11 t359 t351).bind fun t384 => (laws_FnBruijnWords.j1 kj11 l1 t349 t351 t367 t384)) else (laws_FnBruijnWords.j1 kj11 l1 t349 t351 t367 true)) else (laws_FnBruijnWords.j1 kj11 l1 t349 t351 t367 true)) else (laws_FnBruijnWords.j1 kj11 l1 t349 t351 t367 true)) else (laws_FnBruijnWords.j1 kj11 l1 t349 t351 t367 true)) else (laws_FnBruijnWords.j1 kj11 l1 t349 t351 t367 true)) else (laws_FnBruijnWords.j1 kj11 l1 t349 t351 t367 true))) = some r := H
            have A63 := Aside0.mk A630
            clear A630
            replace H := Option.bind_eq_some_iff.mp H
            obtain ⟨⟨t382, t383⟩, A640, H⟩ := H
            replace H : (if t379 = true then (if t381 = true then (if t383 = true then (if t378 = true then (if t380 = true then (if t382 = true then ((laws_tLess.f kj11 t359 t351).bind fun t384 => (laws_FnBruijnWords.j1 kj11 l1 t349 t351 t367 t384)) else (laws_FnBruijnWords.j1 kj11 l1 t349 t351 t367 true)) else (laws_FnBruijnWords.j1 kj11 l1 t349 t351 t367 true)) else (laws_FnBruijnWords.j1 kj11 l1 t349 t351 t367 true)) else (laws_FnBruijnWords.j1 kj11 l1 t349 t351 t367 true)) else (laws_FnBruijnWords.j1 kj11 l1 t349 t351 t367 true)) else (laws_FnBruijnWords.j1 kj11 l1 t349 t351 t367 true)) = some r := H
            have A64 := Aside0.mk A640
            clear A640
            have HC65 := Aside0.mk H
            clear H
            obtain ⟨Ao66, co66, eo66⟩ := Kd.R_slice HO_7.out
            subst eo66
            go_upto_region 17 with (first | ((with_reducible refine gate_callee (f := 49) rfl ?_); refine goesL_ (some 123) rfl rfl Try.func49 (by kernel_rfl) rfl #[.slice Ao66 t351.length co66, .int .i64 t349, .int .i64 t350] rfl (by (try simp only [List.map_toArray, List.map_cons, List.map_nil]); first | done | rfl | (simp only [List.length_drop, List.length_take]; rfl)) ?_; (with_reducible refine (impl_IsBruijn.calls kj11 _ _ t351 t349 t350 t378 t379 _ ?side1 ?side2 A62.out).mono ?_); (case side1 => repeat (first | exact (Kd.R_reads' HO_7.out).2.2 | (with_reducible refine Kd.C_alloc ?_ _) | (with_reducible refine Kd.C_drewN ?_ _) | (with_reducible refine Kd.C_drew ?_))); (case side2 => exact (Kd.R_reads' HO_7.out).2.1); rintro e w67 ⟨rfl, hb⟩; refine ⟨_, rfl, ?_⟩; have n0_ := Aside0.mk (Kd.R_below (by (with_reducible repeat (first | apply Kd.R_alloc | apply Kd.R_drewN | apply Kd.R_drew)); exact HO_7.out) hb); have n1_ := Aside0.mk (Kd.R_below (by (with_reducible repeat (first | apply Kd.R_alloc | apply Kd.R_drewN | apply Kd.R_drew)); exact HO_11.out) hb); have n2_ := Aside0.mk (Kd.R_below (by (with_reducible repeat (first | apply Kd.R_alloc | apply Kd.R_drewN | apply Kd.R_drew)); exact HO_15.out) hb); have n3_ := Aside0.mk (below_step (by repeat (first | (with_reducible first | exact HB.out | apply below_alloc | apply pw_below_drewN | apply below_drew1) | exact HB.out)) hb); clear HO_7; clear HO_11; clear HO_15; clear HB; have HO_7 := n0_; have HO_11 := n1_; have HO_15 := n2_; have HB := n3_; clear n0_ n1_ n2_ n3_; (try clear hb); (try clear hb2); (try clear hk); (try clear hi); obtain ⟨Ao68, co68, eo68⟩ := Kd.R_slice HO_11.out; subst eo68) | ((with_reducible refine gate_callee (f := 49) rfl ?_); refine goesL_ (some 130) rfl rfl Try.func49 (by kernel_rfl) rfl #[.slice Ao68 t359.length co68, .int .i64 t349, .int .i64 t350] rfl (by (try simp only [List.map_toArray, List.map_cons, List.map_nil]); first | done | rfl | (simp only [List.length_drop, List.length_take]; rfl)) ?_; (with_reducible refine (impl_IsBruijn.calls kj11 _ _ t359 t349 t350 t380 t381 _ ?side1 ?side2 A63.out).mono ?_); (case side1 => repeat (first | exact (Kd.R_reads' HO_11.out).2.2 | (with_reducible refine Kd.C_alloc ?_ _) | (with_reducible refine Kd.C_drewN ?_ _) | (with_reducible refine Kd.C_drew ?_))); (case side2 => exact (Kd.R_reads' HO_11.out).2.1); rintro e w69 ⟨rfl, hb⟩; refine ⟨_, rfl, ?_⟩; have n0_ := Aside0.mk (Kd.R_below (by (with_reducible repeat (first | apply Kd.R_alloc | apply Kd.R_drewN | apply Kd.R_drew)); exact HO_7.out) hb); have n1_ := Aside0.mk (Kd.R_below (by (with_reducible repeat (first | apply Kd.R_alloc | apply Kd.R_drewN | apply Kd.R_drew)); exact HO_11.out) hb); have n2_ := Aside0.mk (Kd.R_below (by (with_reducible repeat (first | apply Kd.R_alloc | apply Kd.R_drewN | apply Kd.R_drew)); exact HO_15.out) hb); have n3_ := Aside0.mk (below_step (by repeat (first | (with_reducible first | exact HB.out | apply below_alloc | apply pw_below_drewN | apply below_drew1) | exact HB.out)) hb); clear HO_7; clear HO_11; clear HO_15; clear HB; have HO_7 := n0_; have HO_11 := n1_; have HO_15 := n2_; have HB := n3_; clear n0_ n1_ n2_ n3_; (try clear hb); (try clear hb2); (try clear hk); (try clear hi); obtain ⟨Ao70, co70, eo70⟩ := Kd.R_slice HO_15.out; subst eo70) | ((with_reducible refine gate_callee (f := 49) rfl ?_); refine goesL_ (some 137) rfl rfl Try.func49 (by kernel_rfl) rfl #[.slice Ao70 t367.length co70, .int .i64 t349, .int .i64 t350] rfl (by (try simp only [List.map_toArray, List.map_cons, List.map_nil]); first | done | rfl | (simp only [List.length_drop, List.length_take]; rfl)) ?_; (with_reducible refine (impl_IsBruijn.calls kj11 _ _ t367 t349 t350 t382 t383 _ ?side1 ?side2 A64.out).mono ?_); (case side1 => repeat (first | exact (Kd.R_reads' HO_15.out).2.2 | (with_reducible refine Kd.C_alloc ?_ _) | (with_reducible refine Kd.C_drewN ?_ _) | (with_reducible refine Kd.C_drew ?_))); (case side2 => exact (Kd.R_reads' HO_15.out).2.1); rintro e w71 ⟨rfl, hb⟩; refine ⟨_, rfl, ?_⟩; have n0_ := Aside0.mk (Kd.R_below (by (with_reducible repeat (first | apply Kd.R_alloc | apply Kd.R_drewN | apply Kd.R_drew)); exact HO_7.out) hb); have n1_ := Aside0.mk (Kd.R_below (by (with_reducible repeat (first | apply Kd.R_alloc | apply Kd.R_drewN | apply Kd.R_drew)); exact HO_11.out) hb); have n2_ := Aside0.mk (Kd.R_below (by (with_reducible repeat (first | apply Kd.R_alloc | apply Kd.R_drewN | apply Kd.R_drew)); exact HO_15.out) hb); have n3_ := Aside0.mk (below_step (by repeat (first | (with_reducible first | exact HB.out | apply below_alloc | apply pw_below_drewN | apply below_drew1) | exact HB.out)) hb); clear HO_7; clear HO_11; clear HO_15; clear HB; have HO_7 := n0_; have HO_11 := n1_; have HO_15 := n2_; have HB := n3_; clear n0_ n1_ n2_ n3_; (try clear hb); (try clear hb2); (try clear hk); (try clear hi)))
            (try simp only [Act.put, List.setIfInBounds_toArray, List.set_cons_zero, List.set_cons_succ])
            go_cut [166] (fun v166 wc => ∃ (kq : Nat) (x166_64 : Bool), v166 = .bool x166_64 ∧ Aside0 (laws_FnBruijnWords.j1 kq l1 t349 t351 t367 x166_64 = some r) ∧ Aside0 (kq ≤ kj11) ∧ Aside0 (Kd.R (Kd.int .i64) 3 wc w.heap.size (fun k_ => some k_ ≠ ((.slice Ao70 t367.length co70) : Value).ownBlock) (.slice Ao66 t351.length co66) t351) ∧ Aside0 (Kd.R (Kd.int .i64) 3 wc w.heap.size (fun k_ => some k_ ≠ ((.slice Ao66 t351.length co66) : Value).ownBlock) (.slice Ao70 t367.length co70) t367) ∧ Aside0 (Below w.heap.size w wc))
            case first =>
              have H := HC65.out
              clear HC65
              by_cases c72 : t379 = true
              · subst c72
                have H1 : (if t381 = true then (if t383 = true then (if t378 = true then (if t380 = true then (if t382 = true then ((laws_tLess.f kj11 t359 t351).bind fun t384 => (laws_FnBruijnWords.j1 kj11 l1 t349 t351 t367 t384)) else (laws_FnBruijnWords.j1 kj11 l1 t349 t351 t367 true)) else (laws_FnBruijnWords.j1 kj11 l1 t349 t351 t367 true)) else (laws_FnBruijnWords.j1 kj11 l1 t349 t351 t367 true)) else (laws_FnBruijnWords.j1 kj11 l1 t349 t351 t367 true)) else (laws_FnBruijnWords.j1 kj11 l1 t349 t351 t367 true)) = some r := by rw [if_pos rfl] at H; exact H
                clear H
                have H := H1
                clear H1
                by_cases c73 : t381 = true
                · subst c73
                  have H1 : (if t383 = true then (if t378 = true then (if t380 = true then (if t382 = true then ((laws_tLess.f kj11 t359 t351).bind fun t384 => (laws_FnBruijnWords.j1 kj11 l1 t349 t351 t367 t384)) else (laws_FnBruijnWords.j1 kj11 l1 t349 t351 t367 true)) else (laws_FnBruijnWords.j1 kj11 l1 t349 t351 t367 true)) else (laws_FnBruijnWords.j1 kj11 l1 t349 t351 t367 true)) else (laws_FnBruijnWords.j1 kj11 l1 t349 t351 t367 true)) = some r := by rw [if_pos rfl] at H; exact H
                  clear H
                  have H := H1
                  clear H1
                  by_cases c74 : t383 = true
                  · subst c74
                    have H1 : (if t378 = true then (if t380 = true then (if t382 = true then ((laws_tLess.f kj11 t359 t351).bind fun t384 => (laws_FnBruijnWords.j1 kj11 l1 t349 t351 t367 t384)) else (laws_FnBruijnWords.j1 kj11 l1 t349 t351 t367 true)) else (laws_FnBruijnWords.j1 kj11 l1 t349 t351 t367 true)) else (laws_FnBruijnWords.j1 kj11 l1 t349 t351 t367 true)) = some r := by rw [if_pos rfl] at H; exact H
                    clear H
                    have H := H1
                    clear H1
                    by_cases c75 : t378 = true
                    · subst c75
                      have H1 : (if t380 = true then (if t382 = true then ((laws_tLess.f kj11 t359 t351).bind fun t384 => (laws_FnBruijnWords.j1 kj11 l1 t349 t351 t367 t384)) else (laws_FnBruijnWords.j1 kj11 l1 t349 t351 t367 true)) else (laws_FnBruijnWords.j1 kj11 l1 t349 t351 t367 true)) = some r := by rw [if_pos rfl] at H; exact H
                      clear H
                      have H := H1
                      clear H1
                      by_cases c76 : t380 = true
                      · subst c76
                        have H1 : (if t382 = true then ((laws_tLess.f kj11 t359 t351).bind fun t384 => (laws_FnBruijnWords.j1 kj11 l1 t349 t351 t367 t384)) else (laws_FnBruijnWords.j1 kj11 l1 t349 t351 t367 true)) = some r := by rw [if_pos rfl] at H; exact H
                        clear H
                        have H := H1
                        clear H1
                        by_cases c77 : t382 = true
                        · subst c77
                          have H1 : ((laws_tLess.f kj11 t359 t351).bind fun t384 => (laws_FnBruijnWords.j1 kj11 l1 t349 t351 t367 t384)) = some r := by rw [if_pos rfl] at H; exact H
                          clear H
                          have H := H1
                          clear H1
                          replace H := Option.bind_eq_some_iff.mp H
                          obtain ⟨t384, A780, H⟩ := H
                          replace H : (laws_FnBruijnWords.j1 kj11 l1 t349 t351 t367 t384) = some r := H
                          have A78 := Aside0.mk A780
                          clear A780
                          as_aux_lemma =>
                            have H' := Aside0.mk H
                            clear H
                            go_wp2_with (first | (go_at_call 51; (with_reducible refine (laws_tLess.calls kj11 _ _ t359 _ _ t351 t384 _ ?side1 ?side2 ?side3 ?side4 A78.out).mono ?_); (case side1 => repeat (first | exact (Kd.R_reads' HO_11.out).2.2 | (with_reducible refine Kd.C_alloc ?_ _) | (with_reducible refine Kd.C_drewN ?_ _) | (with_reducible refine Kd.C_drew ?_))); (case side2 => exact (Kd.R_reads' HO_11.out).2.1); (case side3 => repeat (first | exact (Kd.R_reads' HO_7.out).2.2 | (with_reducible refine Kd.C_alloc ?_ _) | (with_reducible refine Kd.C_drewN ?_ _) | (with_reducible refine Kd.C_drew ?_))); (case side4 => exact (Kd.R_reads' HO_7.out).2.1); rintro e w' ⟨rfl, ⟨nd, rfl⟩⟩))
                            go_meet
                            case rel => exact ⟨_, (t384), (by first | rfl | (simp; done) | (simp [*]; done)), H', ⟨by have := HJ11.out; first | omega | exact Nat.le_refl _⟩, ⟨by (with_reducible repeat (first | apply Kd.R_alloc | apply Kd.R_drewN | apply Kd.R_drew)); exact Kd.R_mono HO_7.out (fun _ hk => hk.2)⟩, ⟨by (with_reducible repeat (first | apply Kd.R_alloc | apply Kd.R_drewN | apply Kd.R_drew)); exact Kd.R_mono HO_15.out (fun _ hk => hk.1)⟩, ⟨by repeat (first | (with_reducible first | exact HB.out | apply below_alloc | apply pw_below_drewN | apply below_drew1) | exact HB.out)⟩⟩
                        · replace c77 := Bool.eq_false_iff.mpr c77
                          subst c77
                          have H1 : (laws_FnBruijnWords.j1 kj11 l1 t349 t351 t367 true) = some r := by rw [if_neg (show ¬ (false = true) by decide)] at H; exact H
                          clear H
                          have H := H1
                          clear H1
                          as_aux_lemma =>
                            have H' := Aside0.mk H
                            clear H
                            go_wp2
                            go_meet
                            case rel => exact ⟨_, (true), (by first | rfl | (simp; done) | (simp [*]; done)), H', ⟨by have := HJ11.out; first | omega | exact Nat.le_refl _⟩, ⟨by (with_reducible repeat (first | apply Kd.R_alloc | apply Kd.R_drewN | apply Kd.R_drew)); exact Kd.R_mono HO_7.out (fun _ hk => hk.2)⟩, ⟨by (with_reducible repeat (first | apply Kd.R_alloc | apply Kd.R_drewN | apply Kd.R_drew)); exact Kd.R_mono HO_15.out (fun _ hk => hk.1)⟩, ⟨by repeat (first | (with_reducible first | exact HB.out | apply below_alloc | apply pw_below_drewN | apply below_drew1) | exact HB.out)⟩⟩
                      · replace c76 := Bool.eq_false_iff.mpr c76
                        subst c76
                        have H1 : (laws_FnBruijnWords.j1 kj11 l1 t349 t351 t367 true) = some r := by rw [if_neg (show ¬ (false = true) by decide)] at H; exact H
                        clear H
                        have H := H1
                        clear H1
                        as_aux_lemma =>
                          have H' := Aside0.mk H
                          clear H
                          go_wp2
                          go_meet
                          case rel => exact ⟨_, (true), (by first | rfl | (simp; done) | (simp [*]; done)), H', ⟨by have := HJ11.out; first | omega | exact Nat.le_refl _⟩, ⟨by (with_reducible repeat (first | apply Kd.R_alloc | apply Kd.R_drewN | apply Kd.R_drew)); exact Kd.R_mono HO_7.out (fun _ hk => hk.2)⟩, ⟨by (with_reducible repeat (first | apply Kd.R_alloc | apply Kd.R_drewN | apply Kd.R_drew)); exact Kd.R_mono HO_15.out (fun _ hk => hk.1)⟩, ⟨by repeat (first | (with_reducible first | exact HB.out | apply below_alloc | apply pw_below_drewN | apply below_drew1) | exact HB.out)⟩⟩
                    · replace c75 := Bool.eq_false_iff.mpr c75
                      subst c75
                      have H1 : (laws_FnBruijnWords.j1 kj11 l1 t349 t351 t367 true) = some r := by rw [if_neg (show ¬ (false = true) by decide)] at H; exact H
                      clear H
                      have H := H1
                      clear H1
                      as_aux_lemma =>
                        have H' := Aside0.mk H
                        clear H
                        go_wp2
                        go_meet
                        case rel => exact ⟨_, (true), (by first | rfl | (simp; done) | (simp [*]; done)), H', ⟨by have := HJ11.out; first | omega | exact Nat.le_refl _⟩, ⟨by (with_reducible repeat (first | apply Kd.R_alloc | apply Kd.R_drewN | apply Kd.R_drew)); exact Kd.R_mono HO_7.out (fun _ hk => hk.2)⟩, ⟨by (with_reducible repeat (first | apply Kd.R_alloc | apply Kd.R_drewN | apply Kd.R_drew)); exact Kd.R_mono HO_15.out (fun _ hk => hk.1)⟩, ⟨by repeat (first | (with_reducible first | exact HB.out | apply below_alloc | apply pw_below_drewN | apply below_drew1) | exact HB.out)⟩⟩
                  · replace c74 := Bool.eq_false_iff.mpr c74
                    subst c74
                    have H1 : (laws_FnBruijnWords.j1 kj11 l1 t349 t351 t367 true) = some r := by rw [if_neg (show ¬ (false = true) by decide)] at H; exact H
                    clear H
                    have H := H1
                    clear H1
                    as_aux_lemma =>
                      have H' := Aside0.mk H
                      clear H
                      go_wp2
                      go_meet
                      case rel => exact ⟨_, (true), (by first | rfl | (simp; done) | (simp [*]; done)), H', ⟨by have := HJ11.out; first | omega | exact Nat.le_refl _⟩, ⟨by (with_reducible repeat (first | apply Kd.R_alloc | apply Kd.R_drewN | apply Kd.R_drew)); exact Kd.R_mono HO_7.out (fun _ hk => hk.2)⟩, ⟨by (with_reducible repeat (first | apply Kd.R_alloc | apply Kd.R_drewN | apply Kd.R_drew)); exact Kd.R_mono HO_15.out (fun _ hk => hk.1)⟩, ⟨by repeat (first | (with_reducible first | exact HB.out | apply below_alloc | apply pw_below_drewN | apply below_drew1) | exact HB.out)⟩⟩
                · replace c73 := Bool.eq_false_iff.mpr c73
                  subst c73
                  have H1 : (laws_FnBruijnWords.j1 kj11 l1 t349 t351 t367 true) = some r := by rw [if_neg (show ¬ (false = true) by decide)] at H; exact H
                  clear H
                  have H := H1
                  clear H1
                  as_aux_lemma =>
                    have H' := Aside0.mk H
                    clear H
                    go_wp2
                    go_meet
                    case rel => exact ⟨_, (true), (by first | rfl | (simp; done) | (simp [*]; done)), H', ⟨by have := HJ11.out; first | omega | exact Nat.le_refl _⟩, ⟨by (with_reducible repeat (first | apply Kd.R_alloc | apply Kd.R_drewN | apply Kd.R_drew)); exact Kd.R_mono HO_7.out (fun _ hk => hk.2)⟩, ⟨by (with_reducible repeat (first | apply Kd.R_alloc | apply Kd.R_drewN | apply Kd.R_drew)); exact Kd.R_mono HO_15.out (fun _ hk => hk.1)⟩, ⟨by repeat (first | (with_reducible first | exact HB.out | apply below_alloc | apply pw_below_drewN | apply below_drew1) | exact HB.out)⟩⟩
              · replace c72 := Bool.eq_false_iff.mpr c72
                subst c72
                have H1 : (laws_FnBruijnWords.j1 kj11 l1 t349 t351 t367 true) = some r := by rw [if_neg (show ¬ (false = true) by decide)] at H; exact H
                clear H
                have H := H1
                clear H1
                as_aux_lemma =>
                  have H' := Aside0.mk H
                  clear H
                  go_wp2
                  go_meet
                  case rel => exact ⟨_, (true), (by first | rfl | (simp; done) | (simp [*]; done)), H', ⟨by have := HJ11.out; first | omega | exact Nat.le_refl _⟩, ⟨by (with_reducible repeat (first | apply Kd.R_alloc | apply Kd.R_drewN | apply Kd.R_drew)); exact Kd.R_mono HO_7.out (fun _ hk => hk.2)⟩, ⟨by (with_reducible repeat (first | apply Kd.R_alloc | apply Kd.R_drewN | apply Kd.R_drew)); exact Kd.R_mono HO_15.out (fun _ hk => hk.1)⟩, ⟨by repeat (first | (with_reducible first | exact HB.out | apply below_alloc | apply pw_below_drewN | apply below_drew1) | exact HB.out)⟩⟩
            case rest =>
              clear HC65
              try clear c1
              try clear c2
              try clear p2
              try clear c3
              try clear c4
              try clear c5
              try clear c6
              try clear c7
              try clear c11
              try clear c20
              try clear c20b0
              try clear c20b1
              try clear c20b2
              try clear c22
              try clear c23
              try clear c23b0
              try clear c23b1
              try clear c23b2
              try clear c27
              try clear c28
              try clear c28b0
              try clear c28b1
              try clear c28b2
              try clear c33
              try clear c34
              try clear c35
              try clear c35b0
              try clear c35b1
              try clear c35b2
              try clear c47
              try clear c49
              try clear c52
              try clear c53
              try clear c54
              try clear c55
              try clear c56
              try clear c57
              try clear c60
              try clear c61
              try clear c72
              try clear c73
              try clear c74
              try clear c75
              try clear c76
              try clear c77
              try clear p2
              obtain ⟨kq, x166_64, rfl, HA, HJ64, HO_7, HO_15, HB⟩ := hcut
              cases kq with
              | zero => exact absurd HA.out (by simp [laws_FnBruijnWords.j1])
              | succ kj64 =>
                have H := HA.out
                clear HA
                simp only [laws_FnBruijnWords.j1] at H
                by_cases c79 : x166_64 = true
                · subst c79
                  have H1 : (some false) = some r := by rw [if_pos rfl] at H; exact H
                  clear H
                  have H := H1
                  clear H1
                  as_aux_lemma =>
                    obtain rfl := Option.some.inj H
                    go_wp2
                    go_ret
                    exact ⟨by first | rfl | (simp [errW_none, errW_some] <;> rfl) | (simp [*, errW_none, errW_some] <;> rfl), by repeat (first | (with_reducible first | exact HB.out | apply below_alloc | apply pw_below_drewN | apply below_drew1) | exact HB.out)⟩
                · replace c79 := Bool.eq_false_iff.mpr c79
                  subst c79
                  have H1 : (if (t351.length : Int) = 0 then (none) else ((impl_WindowAt.f kj64 t351 t349 ((l1.length : Int) % (t351.length : Int))).bind fun bt385 => ((impl_PlacesOf.f kj64 t351 bt385.1).bind fun bt389 => ((impl_PlacesOf.f kj64 t367 bt385.1).bind fun bt393 => (if bt385.2 = true then (if bt389.2 = true then (if bt393.2 = true then (if (bt385.1.length : Int) = t349 then ((laws_tSame.f kj64 bt389.1 (([(l1.length : Int) % (t351.length : Int)] : List Int))).bind fun t400 => (if t400 = true then (some ((bt393.1.length : Int) == 1)) else (some false))) else (some false)) else (some false)) else (some false)) else (some false)))))) = some r := by rw [if_neg (show ¬ (false = true) by decide)] at H; exact H
                  clear H
                  have H := H1
                  clear H1
                  by_cases c80 : (t351.length : Int) = 0
                  · rw [if_pos c80] at H
                    exact absurd H (by simp)
                  · rw [if_neg c80] at H
                    have c80b0 : ((t351.length : Int) == 0) = false := beq_eq_false_iff_ne.mpr c80
                    have c80b1 : ((t351.length : Int) != 0) = true := bne_iff_ne.mpr c80
                    have c80b2 : ¬ (t351 = []) := fun h_ => c80 (by rw [h_]; rfl)
                    replace H := Option.bind_eq_some_iff.mp H
                    obtain ⟨⟨t385, t386⟩, A810, H⟩ := H
                    replace H : ((impl_PlacesOf.f kj64 t351 t385).bind fun bt389 => ((impl_PlacesOf.f kj64 t367 t385).bind fun bt393 => (if t386 = true then (if bt389.2 = true then (if bt393.2 = true then (if (t385.length : Int) = t349 then ((laws_tSame.f kj64 bt389.1 (([(l1.length : Int) % (t351.length : Int)] : List Int))).bind fun t400 => (if t400 = true then (some ((bt393.1.length : Int) == 1)) else (some false))) else (some false)) else (some false)) else (some false)) else (some false)))) = some r := H
                    have A81 := Aside0.mk A810
                    clear A810
                    replace H := Option.bind_eq_some_iff.mp H
                    obtain ⟨⟨t389, t390⟩, A820, H⟩ := H
                    replace H : ((impl_PlacesOf.f kj64 t367 t385).bind fun bt393 => (if t386 = true then (if t390 = true then (if bt393.2 = true then (if (t385.length : Int) = t349 then ((laws_tSame.f kj64 t389 (([(l1.length : Int) % (t351.length : Int)] : List Int))).bind fun t400 => (if t400 = true then (some ((bt393.1.length : Int) == 1)) else (some false))) else (some false)) else (some false)) else (some false)) else (some false))) = some r := H
                    have A82 := Aside0.mk A820
                    clear A820
                    replace H := Option.bind_eq_some_iff.mp H
                    obtain ⟨⟨t393, t394⟩, A830, H⟩ := H
                    replace H : (if t386 = true then (if t390 = true then (if t394 = true then (if (t385.length : Int) = t349 then ((laws_tSame.f kj64 t389 (([(l1.length : Int) % (t351.length : Int)] : List Int))).bind fun t400 => (if t400 = true then (some ((t393.length : Int) == 1)) else (some false))) else (some false)) else (some false)) else (some false)) else (some false)) = some r := H
                    have A83 := Aside0.mk A830
                    clear A830
                    by_cases c84 : t386 = true
                    · subst c84
                      have H1 : (if t390 = true then (if t394 = true then (if (t385.length : Int) = t349 then ((laws_tSame.f kj64 t389 (([(l1.length : Int) % (t351.length : Int)] : List Int))).bind fun t400 => (if t400 = true then (some ((t393.length : Int) == 1)) else (some false))) else (some false)) else (some false)) else (some false)) = some r := by rw [if_pos rfl] at H; exact H
                      clear H
                      have H := H1
                      clear H1
                      by_cases c85 : t390 = true
                      · subst c85
                        have H1 : (if t394 = true then (if (t385.length : Int) = t349 then ((laws_tSame.f kj64 t389 (([(l1.length : Int) % (t351.length : Int)] : List Int))).bind fun t400 => (if t400 = true then (some ((t393.length : Int) == 1)) else (some false))) else (some false)) else (some false)) = some r := by rw [if_pos rfl] at H; exact H
                        clear H
                        have H := H1
                        clear H1
                        by_cases c86 : t394 = true
                        · subst c86
                          have H1 : (if (t385.length : Int) = t349 then ((laws_tSame.f kj64 t389 (([(l1.length : Int) % (t351.length : Int)] : List Int))).bind fun t400 => (if t400 = true then (some ((t393.length : Int) == 1)) else (some false))) else (some false)) = some r := by rw [if_pos rfl] at H; exact H
                          clear H
                          have H := H1
                          clear H1
                          by_cases c87 : (t385.length : Int) = t349
                          · rw [if_pos c87] at H
                            have c87b0 : ((t385.length : Int) == t349) = true := beq_iff_eq.mpr c87
                            have c87b1 : ((t385.length : Int) != t349) = false := bne_eq_false_iff_eq.mpr c87
                            clear c87
                            obtain ⟨y397, hy397⟩ : ∃ y_ : List Int, y_ = (([(l1.length : Int) % (t351.length : Int)] : List Int)) := ⟨_, rfl⟩
                            replace H : ((laws_tSame.f kj64 t389 y397).bind fun t400 => (if t400 = true then (some ((t393.length : Int) == 1)) else (some false))) = some r := by first | (rw [hy397]; with_reducible exact H) | (have H2_ := (Option.bind_some _ _).symm.trans H; rw [hy397]; with_reducible exact H2_) | (have H2_ := (Option.bind_some _ _).symm.trans H; with_reducible exact H2_) | with_reducible exact H | (rw [hy397]; exact H) | exact H
                            have Ny397 := Aside0.mk hy397
                            clear hy397
                            replace H := Option.bind_eq_some_iff.mp H
                            obtain ⟨t400, A880, H⟩ := H
                            replace H : (if t400 = true then (some ((t393.length : Int) == 1)) else (some false)) = some r := H
                            have A88 := Aside0.mk A880
                            clear A880
                            by_cases c89 : t400 = true
                            · subst c89
                              have H1 : (some ((t393.length : Int) == 1)) = some r := by rw [if_pos rfl] at H; exact H
                              clear H
                              have H := H1
                              clear H1
                              as_aux_lemma =>
                                obtain rfl := Option.some.inj H
                                go_wp2_with (first | ((with_reducible refine gate_callee (f := 58) rfl ?_); refine goesL_ (some 176) rfl rfl Try.func58 (by kernel_rfl) rfl #[.slice Ao66 t351.length co66, .int .i64 t349, .int .i64 ((l1.length : Int) % (t351.length : Int))] rfl (by (try simp only [List.map_toArray, List.map_cons, List.map_nil]); first | done | rfl | (simp only [List.length_drop, List.length_take]; rfl)) ?_; (with_reducible refine (impl_WindowAt.calls kj64 _ _ t351 t349 ((l1.length : Int) % (t351.length : Int)) t385 true _ ?side1 ?side2 A81.out).mono ?_); (case side1 => repeat (first | exact (Kd.R_reads' HO_7.out).2.2 | (with_reducible refine Kd.C_alloc ?_ _) | (with_reducible refine Kd.C_drewN ?_ _) | (with_reducible refine Kd.C_drew ?_))); (case side2 => exact (Kd.R_reads' HO_7.out).2.1); rintro e w90 ⟨v387, rfl, ho0, hb⟩; refine ⟨_, rfl, ?_⟩; have n0_ := Aside0.mk (Kd.R_elder' (by (with_reducible repeat (first | apply Kd.R_alloc | apply Kd.R_drewN | apply Kd.R_drew)); exact HO_7.out) (Kd.R_base ho0) hb); have n1_ := Aside0.mk (Kd.R_elder' (by (with_reducible repeat (first | apply Kd.R_alloc | apply Kd.R_drewN | apply Kd.R_drew)); exact HO_15.out) (Kd.R_base ho0) hb); have n2_ := Aside0.mk (Kd.R_lower (Kd.R_new' (Kd.R_new' ho0 (Kd.R_lt (by (with_reducible repeat (first | apply Kd.R_alloc | apply Kd.R_drewN | apply Kd.R_drew)); exact HO_7.out))) (Kd.R_lt (by (with_reducible repeat (first | apply Kd.R_alloc | apply Kd.R_drewN | apply Kd.R_drew)); exact HO_15.out))) (below_size (by repeat (first | (with_reducible first | exact HB.out | apply below_alloc | apply pw_below_drewN | apply below_drew1) | exact HB.out)))); have n3_ := Aside0.mk (below_step (by repeat (first | (with_reducible first | exact HB.out | apply below_alloc | apply pw_below_drewN | apply below_drew1) | exact HB.out)) hb); clear HO_7; clear HO_15; clear HB; have HO_7 := n0_; have HO_15 := n1_; have HO388 := n2_; have HB := n3_; clear n0_ n1_ n2_ n3_; (try clear hb); (try clear hb2); (try clear hk); (try clear hi); (try clear ho0); obtain ⟨Ao91, co91, eo91⟩ := Kd.R_slice HO388.out; subst eo91) | ((with_reducible refine gate_callee (f := 59) rfl ?_); refine goesL_ (some 182) rfl rfl Try.func59 (by kernel_rfl) rfl #[.slice Ao66 t351.length co66, .slice Ao91 t385.length co91] rfl (by (try simp only [List.map_toArray, List.map_cons, List.map_nil]); first | done | rfl | (simp only [List.length_drop, List.length_take]; rfl)) ?_; (with_reducible refine (impl_PlacesOf.calls kj64 _ _ t351 _ _ t385 t389 true _ ?side1 ?side2 ?side3 ?side4 A82.out).mono ?_); (case side1 => repeat (first | exact (Kd.R_reads' HO_7.out).2.2 | (with_reducible refine Kd.C_alloc ?_ _) | (with_reducible refine Kd.C_drewN ?_ _) | (with_reducible refine Kd.C_drew ?_))); (case side2 => exact (Kd.R_reads' HO_7.out).2.1); (case side3 => repeat (first | exact (Kd.R_reads' HO388.out).2.2 | (with_reducible refine Kd.C_alloc ?_ _) | (with_reducible refine Kd.C_drewN ?_ _) | (with_reducible refine Kd.C_drew ?_))); (case side4 => exact (Kd.R_reads' HO388.out).2.1); rintro e w92 ⟨v391, rfl, ho0, hb⟩; refine ⟨_, rfl, ?_⟩; have n0_ := Aside0.mk (Kd.R_elder' (by (with_reducible repeat (first | apply Kd.R_alloc | apply Kd.R_drewN | apply Kd.R_drew)); exact HO_7.out) (Kd.R_base ho0) hb); have n1_ := Aside0.mk (Kd.R_elder' (by (with_reducible repeat (first | apply Kd.R_alloc | apply Kd.R_drewN | apply Kd.R_drew)); exact HO_15.out) (Kd.R_base ho0) hb); have n2_ := Aside0.mk (Kd.R_elder' (by (with_reducible repeat (first | apply Kd.R_alloc | apply Kd.R_drewN | apply Kd.R_drew)); exact HO388.out) (Kd.R_base ho0) hb); have n3_ := Aside0.mk (Kd.R_lower (Kd.R_new' (Kd.R_new' (Kd.R_new' ho0 (Kd.R_lt (by (with_reducible repeat (first | apply Kd.R_alloc | apply Kd.R_drewN | apply Kd.R_drew)); exact HO_7.out))) (Kd.R_lt (by (with_reducible repeat (first | apply Kd.R_alloc | apply Kd.R_drewN | apply Kd.R_drew)); exact HO_15.out))) (Kd.R_lt (by (with_reducible repeat (first | apply Kd.R_alloc | apply Kd.R_drewN | apply Kd.R_drew)); exact HO388.out))) (below_size (by repeat (first | (with_reducible first | exact HB.out | apply below_alloc | apply pw_below_drewN | apply below_drew1) | exact HB.out)))); have n4_ := Aside0.mk (below_step (by repeat (first | (with_reducible first | exact HB.out | apply below_alloc | apply pw_below_drewN | apply below_drew1) | exact HB.out)) hb); clear HO_7; clear HO_15; clear HO388; clear HB; have HO_7 := n0_; have HO_15 := n1_; have HO388 := n2_; have HO392 := n3_; have HB := n4_; clear n0_ n1_ n2_ n3_ n4_; (try clear hb); (try clear hb2); (try clear hk); (try clear hi); (try clear ho0)) | ((with_reducible refine gate_callee (f := 59) rfl ?_); refine goesL_ (some 188) rfl rfl Try.func59 (by kernel_rfl) rfl #[.slice Ao70 t367.length co70, .slice Ao91 t385.length co91] rfl (by (try simp only [List.map_toArray, List.map_cons, List.map_nil]); first | done | rfl | (simp only [List.length_drop, List.length_take]; rfl)) ?_; (with_reducible refine (impl_PlacesOf.calls kj64 _ _ t367 _ _ t385 t393 true _ ?side1 ?side2 ?side3 ?side4 A83.out).mono ?_); (case side1 => repeat (first | exact (Kd.R_reads' HO_15.out).2.2 | (with_reducible refine Kd.C_alloc ?_ _) | (with_reducible refine Kd.C_drewN ?_ _) | (with_reducible refine Kd.C_drew ?_))); (case side2 => exact (Kd.R_reads' HO_15.out).2.1); (case side3 => repeat (first | exact (Kd.R_reads' HO388.out).2.2 | (with_reducible refine Kd.C_alloc ?_ _) | (with_reducible refine Kd.C_drewN ?_ _) | (with_reducible refine Kd.C_drew ?_))); (case side4 => exact (Kd.R_reads' HO388.out).2.1); rintro e w93 ⟨v395, rfl, ho0, hb⟩; refine ⟨_, rfl, ?_⟩; have n0_ := Aside0.mk (Kd.R_elder' (by (with_reducible repeat (first | apply Kd.R_alloc | apply Kd.R_drewN | apply Kd.R_drew)); exact HO_7.out) (Kd.R_base ho0) hb); have n1_ := Aside0.mk (Kd.R_elder' (by (with_reducible repeat (first | apply Kd.R_alloc | apply Kd.R_drewN | apply Kd.R_drew)); exact HO_15.out) (Kd.R_base ho0) hb); have n2_ := Aside0.mk (Kd.R_elder' (by (with_reducible repeat (first | apply Kd.R_alloc | apply Kd.R_drewN | apply Kd.R_drew)); exact HO388.out) (Kd.R_base ho0) hb); have n3_ := Aside0.mk (Kd.R_elder' (by (with_reducible repeat (first | apply Kd.R_alloc | apply Kd.R_drewN | apply Kd.R_drew)); exact HO392.out) (Kd.R_base ho0) hb); have n4_ := Aside0.mk (Kd.R_lower (Kd.R_new' (Kd.R_new' (Kd.R_new' (Kd.R_new' ho0 (Kd.R_lt (by (with_reducible repeat (first | apply Kd.R_alloc | apply Kd.R_drewN | apply Kd.R_drew)); exact HO_7.out))) (Kd.R_lt (by (with_reducible repeat (first | apply Kd.R_alloc | apply Kd.R_drewN | apply Kd.R_drew)); exact HO_15.out))) (Kd.R_lt (by (with_reducible repeat (first | apply Kd.R_alloc | apply Kd.R_drewN | apply Kd.R_drew)); exact HO388.out))) (Kd.R_lt (by (with_reducible repeat (first | apply Kd.R_alloc | apply Kd.R_drewN | apply Kd.R_drew)); exact HO392.out))) (below_size (by repeat (first | (with_reducible first | exact HB.out | apply below_alloc | apply pw_below_drewN | apply below_drew1) | exact HB.out)))); have n5_ := Aside0.mk (below_step (by repeat (first | (with_reducible first | exact HB.out | apply below_alloc | apply pw_below_drewN | apply below_drew1) | exact HB.out)) hb); clear HO_7; clear HO_15; clear HO388; clear HO392; clear HB; have HO_7 := n0_; have HO_15 := n1_; have HO388 := n2_; have HO392 := n3_; have HO396 := n4_; have HB := n5_; clear n0_ n1_ n2_ n3_ n4_ n5_; (try clear hb); (try clear hb2); (try clear hk); (try clear hi); (try clear ho0)) | ((with_reducible refine gate_dst (N := 207) rfl ?_); (try (refine gate_guard (by rfl) ?_; dsimp only)); refine Kd.R_lit (Kd.int .i64) _ 3 ?hg (N := 207) ?hd (xs := ([(l1.length : Int) % (t351.length : Int)] : List Int)) (inner := [.int .i64 ((l1.length : Int) % (t351.length : Int))]) (ok := fun _ => True) (okp := fun _ => True) ?hr ?hp (fun _ hk => hk) trivial (Below.refl _ _) (Nat.le_refl _) (by simp) ?_; (case hd => rfl); (case hg => rfl); (case hr => first | (go_simp; done) | (go_simp; rfl)); (case hp => exact (Reps.one (show Kd.M (Kd.int .i64) _ _ _ ((l1.length : Int) % (t351.length : Int)) [.int .i64 ((l1.length : Int) % (t351.length : Int))] from rfl) (Reps.none _ _))); intro v398 w94 ho95 hb hg_ hnew_; clear hg_ hnew_; (first | rw [← Ny397.out] at ho95 | (simp only [Int.reduceToNat] at ho95; rw [← Ny397.out] at ho95)); have n0_ := Aside0.mk (Kd.R_elder' (by (with_reducible repeat (first | apply Kd.R_alloc | apply Kd.R_drewN | apply Kd.R_drew)); exact HO_7.out) (Kd.R_base ho95) hb); have n1_ := Aside0.mk (Kd.R_elder' (by (with_reducible repeat (first | apply Kd.R_alloc | apply Kd.R_drewN | apply Kd.R_drew)); exact HO_15.out) (Kd.R_base ho95) hb); have n2_ := Aside0.mk (Kd.R_elder' (by (with_reducible repeat (first | apply Kd.R_alloc | apply Kd.R_drewN | apply Kd.R_drew)); exact HO388.out) (Kd.R_base ho95) hb); have n3_ := Aside0.mk (Kd.R_elder' (by (with_reducible repeat (first | apply Kd.R_alloc | apply Kd.R_drewN | apply Kd.R_drew)); exact HO392.out) (Kd.R_base ho95) hb); have n4_ := Aside0.mk (Kd.R_elder' (by (with_reducible repeat (first | apply Kd.R_alloc | apply Kd.R_drewN | apply Kd.R_drew)); exact HO396.out) (Kd.R_base ho95) hb); have n5_ := Aside0.mk (Kd.R_lower (Kd.R_new' (Kd.R_new' (Kd.R_new' (Kd.R_new' (Kd.R_new' ho95 (Kd.R_lt (by (with_reducible repeat (first | apply Kd.R_alloc | apply Kd.R_drewN | apply Kd.R_drew)); exact HO_7.out))) (Kd.R_lt (by (with_reducible repeat (first | apply Kd.R_alloc | apply Kd.R_drewN | apply Kd.R_drew)); exact HO_15.out))) (Kd.R_lt (by (with_reducible repeat (first | apply Kd.R_alloc | apply Kd.R_drewN | apply Kd.R_drew)); exact HO388.out))) (Kd.R_lt (by (with_reducible repeat (first | apply Kd.R_alloc | apply Kd.R_drewN | apply Kd.R_drew)); exact HO392.out))) (Kd.R_lt (by (with_reducible repeat (first | apply Kd.R_alloc | apply Kd.R_drewN | apply Kd.R_drew)); exact HO396.out))) (below_size (by repeat (first | (with_reducible first | exact HB.out | apply below_alloc | apply pw_below_drewN | apply below_drew1) | exact HB.out)))); have n6_ := Aside0.mk (below_step (by repeat (first | (with_reducible first | exact HB.out | apply below_alloc | apply pw_below_drewN | apply below_drew1) | exact HB.out)) hb); clear HO_7; clear HO_15; clear HO388; clear HO392; clear HO396; clear HB; have HO_7 := n0_; have HO_15 := n1_; have HO388 := n2_; have HO392 := n3_; have HO396 := n4_; have HO399 := n5_; have HB := n6_; clear n0_ n1_ n2_ n3_ n4_ n5_ n6_; clear hb ho95; obtain ⟨Ao96, co96, eo96⟩ := Kd.R_slice HO392.out; subst eo96; obtain ⟨Ao97, co97, eo97⟩ := Kd.R_slice HO399.out; subst eo97) | (go_at_call 48; (with_reducible refine (laws_tSame.calls kj64 _ _ t389 _ _ y397 true _ ?side1 ?side2 ?side3 ?side4 A88.out).mono ?_); (case side1 => repeat (first | exact (Kd.R_reads' HO392.out).2.2 | (with_reducible refine Kd.C_alloc ?_ _) | (with_reducible refine Kd.C_drewN ?_ _) | (with_reducible refine Kd.C_drew ?_))); (case side2 => exact (Kd.R_reads' HO392.out).2.1); (case side3 => repeat (first | exact (Kd.R_reads' HO399.out).2.2 | (with_reducible refine Kd.C_alloc ?_ _) | (with_reducible refine Kd.C_drewN ?_ _) | (with_reducible refine Kd.C_drew ?_))); (case side4 => exact (Kd.R_reads' HO399.out).2.1); rintro e w' ⟨rfl, ⟨nd, rfl⟩⟩; obtain ⟨Ao98, co98, eo98⟩ := Kd.R_slice HO396.out; subst eo98))
                                go_ret
                                exact ⟨by first | rfl | (simp [errW_none, errW_some] <;> rfl) | (simp [*, errW_none, errW_some] <;> rfl), by repeat (first | (with_reducible first | exact HB.out | apply below_alloc | apply pw_below_drewN | apply below_drew1) | exact HB.out)⟩
                            · replace c89 := Bool.eq_false_iff.mpr c89
                              subst c89
                              have H1 : (some false) = some r := by rw [if_neg (show ¬ (false = true) by decide)] at H; exact H
                              clear H
                              have H := H1
                              clear H1
                              as_aux_lemma =>
                                obtain rfl := Option.some.inj H
                                go_wp2_with (first | ((with_reducible refine gate_callee (f := 58) rfl ?_); refine goesL_ (some 176) rfl rfl Try.func58 (by kernel_rfl) rfl #[.slice Ao66 t351.length co66, .int .i64 t349, .int .i64 ((l1.length : Int) % (t351.length : Int))] rfl (by (try simp only [List.map_toArray, List.map_cons, List.map_nil]); first | done | rfl | (simp only [List.length_drop, List.length_take]; rfl)) ?_; (with_reducible refine (impl_WindowAt.calls kj64 _ _ t351 t349 ((l1.length : Int) % (t351.length : Int)) t385 true _ ?side1 ?side2 A81.out).mono ?_); (case side1 => repeat (first | exact (Kd.R_reads' HO_7.out).2.2 | (with_reducible refine Kd.C_alloc ?_ _) | (with_reducible refine Kd.C_drewN ?_ _) | (with_reducible refine Kd.C_drew ?_))); (case side2 => exact (Kd.R_reads' HO_7.out).2.1); rintro e w99 ⟨v387, rfl, ho0, hb⟩; refine ⟨_, rfl, ?_⟩; have n0_ := Aside0.mk (Kd.R_elder' (by (with_reducible repeat (first | apply Kd.R_alloc | apply Kd.R_drewN | apply Kd.R_drew)); exact HO_7.out) (Kd.R_base ho0) hb); have n1_ := Aside0.mk (Kd.R_elder' (by (with_reducible repeat (first | apply Kd.R_alloc | apply Kd.R_drewN | apply Kd.R_drew)); exact HO_15.out) (Kd.R_base ho0) hb); have n2_ := Aside0.mk (Kd.R_lower (Kd.R_new' (Kd.R_new' ho0 (Kd.R_lt (by (with_reducible repeat (first | apply Kd.R_alloc | apply Kd.R_drewN | apply Kd.R_drew)); exact HO_7.out))) (Kd.R_lt (by (with_reducible repeat (first | apply Kd.R_alloc | apply Kd.R_drewN | apply Kd.R_drew)); exact HO_15.out))) (below_size (by repeat (first | (with_reducible first | exact HB.out | apply below_alloc | apply pw_below_drewN | apply below_drew1) | exact HB.out)))); have n3_ := Aside0.mk (below_step (by repeat (first | (with_reducible first | exact HB.out | apply below_alloc | apply pw_below_drewN | apply below_drew1) | exact HB.out)) hb); clear HO_7; clear HO_15; clear HB; have HO_7 := n0_; have HO_15 := n1_; have HO388 := n2_; have HB := n3_; clear n0_ n1_ n2_ n3_; (try clear hb); (try clear hb2); (try clear hk); (try clear hi); (try clear ho0); obtain ⟨Ao100, co100, eo100⟩ := Kd.R_slice HO388.out; subst eo100) | ((with_reducible refine gate_callee (f := 59) rfl ?_); refine goesL_ (some 182) rfl rfl Try.func59 (by kernel_rfl) rfl #[.slice Ao66 t351.length co66, .slice Ao100 t385.length co100] rfl (by (try simp only [List.map_toArray, List.map_cons, List.map_nil]); first | done | rfl | (simp only [List.length_drop, List.length_take]; rfl)) ?_; (with_reducible refine (impl_PlacesOf.calls kj64 _ _ t351 _ _ t385 t389 true _ ?side1 ?side2 ?side3 ?side4 A82.out).mono ?_); (case side1 => repeat (first | exact (Kd.R_reads' HO_7.out).2.2 | (with_reducible refine Kd.C_alloc ?_ _) | (with_reducible refine Kd.C_drewN ?_ _) | (with_reducible refine Kd.C_drew ?_))); (case side2 => exact (Kd.R_reads' HO_7.out).2.1); (case side3 => repeat (first | exact (Kd.R_reads' HO388.out).2.2 | (with_reducible refine Kd.C_alloc ?_ _) | (with_reducible refine Kd.C_drewN ?_ _) | (with_reducible refine Kd.C_drew ?_))); (case side4 => exact (Kd.R_reads' HO388.out).2.1); rintro e w101 ⟨v391, rfl, ho0, hb⟩; refine ⟨_, rfl, ?_⟩; have n0_ := Aside0.mk (Kd.R_elder' (by (with_reducible repeat (first | apply Kd.R_alloc | apply Kd.R_drewN | apply Kd.R_drew)); exact HO_7.out) (Kd.R_base ho0) hb); have n1_ := Aside0.mk (Kd.R_elder' (by (with_reducible repeat (first | apply Kd.R_alloc | apply Kd.R_drewN | apply Kd.R_drew)); exact HO_15.out) (Kd.R_base ho0) hb); have n2_ := Aside0.mk (Kd.R_elder' (by (with_reducible repeat (first | apply Kd.R_alloc | apply Kd.R_drewN | apply Kd.R_drew)); exact HO388.out) (Kd.R_base ho0) hb); have n3_ := Aside0.mk (Kd.R_lower (Kd.R_new' (Kd.R_new' (Kd.R_new' ho0 (Kd.R_lt (by (with_reducible repeat (first | apply Kd.R_alloc | apply Kd.R_drewN | apply Kd.R_drew)); exact HO_7.out))) (Kd.R_lt (by (with_reducible repeat (first | apply Kd.R_alloc | apply Kd.R_drewN | apply Kd.R_drew)); exact HO_15.out))) (Kd.R_lt (by (with_reducible repeat (first | apply Kd.R_alloc | apply Kd.R_drewN | apply Kd.R_drew)); exact HO388.out))) (below_size (by repeat (first | (with_reducible first | exact HB.out | apply below_alloc | apply pw_below_drewN | apply below_drew1) | exact HB.out)))); have n4_ := Aside0.mk (below_step (by repeat (first | (with_reducible first | exact HB.out | apply below_alloc | apply pw_below_drewN | apply below_drew1) | exact HB.out)) hb); clear HO_7; clear HO_15; clear HO388; clear HB; have HO_7 := n0_; have HO_15 := n1_; have HO388 := n2_; have HO392 := n3_; have HB := n4_; clear n0_ n1_ n2_ n3_ n4_; (try clear hb); (try clear hb2); (try clear hk); (try clear hi); (try clear ho0)) | ((with_reducible refine gate_callee (f := 59) rfl ?_); refine goesL_ (some 188) rfl rfl Try.func59 (by kernel_rfl) rfl #[.slice Ao70 t367.length co70, .slice Ao100 t385.length co100] rfl (by (try simp only [List.map_toArray, List.map_cons, List.map_nil]); first | done | rfl | (simp only [List.length_drop, List.length_take]; rfl)) ?_; (with_reducible refine (impl_PlacesOf.calls kj64 _ _ t367 _ _ t385 t393 true _ ?side1 ?side2 ?side3 ?side4 A83.out).mono ?_); (case side1 => repeat (first | exact (Kd.R_reads' HO_15.out).2.2 | (with_reducible refine Kd.C_alloc ?_ _) | (with_reducible refine Kd.C_drewN ?_ _) | (with_reducible refine Kd.C_drew ?_))); (case side2 => exact (Kd.R_reads' HO_15.out).2.1); (case side3 => repeat (first | exact (Kd.R_reads' HO388.out).2.2 | (with_reducible refine Kd.C_alloc ?_ _) | (with_reducible refine Kd.C_drewN ?_ _) | (with_reducible refine Kd.C_drew ?_))); (case side4 => exact (Kd.R_reads' HO388.out).2.1); rintro e w102 ⟨v395, rfl, ho0, hb⟩; refine ⟨_, rfl, ?_⟩; have n0_ := Aside0.mk (Kd.R_elder' (by (with_reducible repeat (first | apply Kd.R_alloc | apply Kd.R_drewN | apply Kd.R_drew)); exact HO_7.out) (Kd.R_base ho0) hb); have n1_ := Aside0.mk (Kd.R_elder' (by (with_reducible repeat (first | apply Kd.R_alloc | apply Kd.R_drewN | apply Kd.R_drew)); exact HO_15.out) (Kd.R_base ho0) hb); have n2_ := Aside0.mk (Kd.R_elder' (by (with_reducible repeat (first | apply Kd.R_alloc | apply Kd.R_drewN | apply Kd.R_drew)); exact HO388.out) (Kd.R_base ho0) hb); have n3_ := Aside0.mk (Kd.R_elder' (by (with_reducible repeat (first | apply Kd.R_alloc | apply Kd.R_drewN | apply Kd.R_drew)); exact HO392.out) (Kd.R_base ho0) hb); have n4_ := Aside0.mk (Kd.R_lower (Kd.R_new' (Kd.R_new' (Kd.R_new' (Kd.R_new' ho0 (Kd.R_lt (by (with_reducible repeat (first | apply Kd.R_alloc | apply Kd.R_drewN | apply Kd.R_drew)); exact HO_7.out))) (Kd.R_lt (by (with_reducible repeat (first | apply Kd.R_alloc | apply Kd.R_drewN | apply Kd.R_drew)); exact HO_15.out))) (Kd.R_lt (by (with_reducible repeat (first | apply Kd.R_alloc | apply Kd.R_drewN | apply Kd.R_drew)); exact HO388.out))) (Kd.R_lt (by (with_reducible repeat (first | apply Kd.R_alloc | apply Kd.R_drewN | apply Kd.R_drew)); exact HO392.out))) (below_size (by repeat (first | (with_reducible first | exact HB.out | apply below_alloc | apply pw_below_drewN | apply below_drew1) | exact HB.out)))); have n5_ := Aside0.mk (below_step (by repeat (first | (with_reducible first | exact HB.out | apply below_alloc | apply pw_below_drewN | apply below_drew1) | exact HB.out)) hb); clear HO_7; clear HO_15; clear HO388; clear HO392; clear HB; have HO_7 := n0_; have HO_15 := n1_; have HO388 := n2_; have HO392 := n3_; have HO396 := n4_; have HB := n5_; clear n0_ n1_ n2_ n3_ n4_ n5_; (try clear hb); (try clear hb2); (try clear hk); (try clear hi); (try clear ho0)) | ((with_reducible refine gate_dst (N := 207) rfl ?_); (try (refine gate_guard (by rfl) ?_; dsimp only)); refine Kd.R_lit (Kd.int .i64) _ 3 ?hg (N := 207) ?hd (xs := ([(l1.length : Int) % (t351.length : Int)] : List Int)) (inner := [.int .i64 ((l1.length : Int) % (t351.length : Int))]) (ok := fun _ => True) (okp := fun _ => True) ?hr ?hp (fun _ hk => hk) trivial (Below.refl _ _) (Nat.le_refl _) (by simp) ?_; (case hd => rfl); (case hg => rfl); (case hr => first | (go_simp; done) | (go_simp; rfl)); (case hp => exact (Reps.one (show Kd.M (Kd.int .i64) _ _ _ ((l1.length : Int) % (t351.length : Int)) [.int .i64 ((l1.length : Int) % (t351.length : Int))] from rfl) (Reps.none _ _))); intro v398 w103 ho104 hb hg_ hnew_; clear hg_ hnew_; (first | rw [← Ny397.out] at ho104 | (simp only [Int.reduceToNat] at ho104; rw [← Ny397.out] at ho104)); have n0_ := Aside0.mk (Kd.R_elder' (by (with_reducible repeat (first | apply Kd.R_alloc | apply Kd.R_drewN | apply Kd.R_drew)); exact HO_7.out) (Kd.R_base ho104) hb); have n1_ := Aside0.mk (Kd.R_elder' (by (with_reducible repeat (first | apply Kd.R_alloc | apply Kd.R_drewN | apply Kd.R_drew)); exact HO_15.out) (Kd.R_base ho104) hb); have n2_ := Aside0.mk (Kd.R_elder' (by (with_reducible repeat (first | apply Kd.R_alloc | apply Kd.R_drewN | apply Kd.R_drew)); exact HO388.out) (Kd.R_base ho104) hb); have n3_ := Aside0.mk (Kd.R_elder' (by (with_reducible repeat (first | apply Kd.R_alloc | apply Kd.R_drewN | apply Kd.R_drew)); exact HO392.out) (Kd.R_base ho104) hb); have n4_ := Aside0.mk (Kd.R_elder' (by (with_reducible repeat (first | apply Kd.R_alloc | apply Kd.R_drewN | apply Kd.R_drew)); exact HO396.out) (Kd.R_base ho104) hb); have n5_ := Aside0.mk (Kd.R_lower (Kd.R_new' (Kd.R_new' (Kd.R_new' (Kd.R_new' (Kd.R_new' ho104 (Kd.R_lt (by (with_reducible repeat (first | apply Kd.R_alloc | apply Kd.R_drewN | apply Kd.R_drew)); exact HO_7.out))) (Kd.R_lt (by (with_reducible repeat (first | apply Kd.R_alloc | apply Kd.R_drewN | apply Kd.R_drew)); exact HO_15.out))) (Kd.R_lt (by (with_reducible repeat (first | apply Kd.R_alloc | apply Kd.R_drewN | apply Kd.R_drew)); exact HO388.out))) (Kd.R_lt (by (with_reducible repeat (first | apply Kd.R_alloc | apply Kd.R_drewN | apply Kd.R_drew)); exact HO392.out))) (Kd.R_lt (by (with_reducible repeat (first | apply Kd.R_alloc | apply Kd.R_drewN | apply Kd.R_drew)); exact HO396.out))) (below_size (by repeat (first | (with_reducible first | exact HB.out | apply below_alloc | apply pw_below_drewN | apply below_drew1) | exact HB.out)))); have n6_ := Aside0.mk (below_step (by repeat (first | (with_reducible first | exact HB.out | apply below_alloc | apply pw_below_drewN | apply below_drew1) | exact HB.out)) hb); clear HO_7; clear HO_15; clear HO388; clear HO392; clear HO396; clear HB; have HO_7 := n0_; have HO_15 := n1_; have HO388 := n2_; have HO392 := n3_; have HO396 := n4_; have HO399 := n5_; have HB := n6_; clear n0_ n1_ n2_ n3_ n4_ n5_ n6_; clear hb ho104; obtain ⟨Ao105, co105, eo105⟩ := Kd.R_slice HO392.out; subst eo105; obtain ⟨Ao106, co106, eo106⟩ := Kd.R_slice HO399.out; subst eo106) | (go_at_call 48; (with_reducible refine (laws_tSame.calls kj64 _ _ t389 _ _ y397 false _ ?side1 ?side2 ?side3 ?side4 A88.out).mono ?_); (case side1 => repeat (first | exact (Kd.R_reads' HO392.out).2.2 | (with_reducible refine Kd.C_alloc ?_ _) | (with_reducible refine Kd.C_drewN ?_ _) | (with_reducible refine Kd.C_drew ?_))); (case side2 => exact (Kd.R_reads' HO392.out).2.1); (case side3 => repeat (first | exact (Kd.R_reads' HO399.out).2.2 | (with_reducible refine Kd.C_alloc ?_ _) | (with_reducible refine Kd.C_drewN ?_ _) | (with_reducible refine Kd.C_drew ?_))); (case side4 => exact (Kd.R_reads' HO399.out).2.1); rintro e w' ⟨rfl, ⟨nd, rfl⟩⟩))
                                go_ret
                                exact ⟨by first | rfl | (simp [errW_none, errW_some] <;> rfl) | (simp [*, errW_none, errW_some] <;> rfl), by repeat (first | (with_reducible first | exact HB.out | apply below_alloc | apply pw_below_drewN | apply below_drew1) | exact HB.out)⟩
                          · rw [if_neg c87] at H
                            have c87b0 : ((t385.length : Int) == t349) = false := beq_eq_false_iff_ne.mpr c87
                            have c87b1 : ((t385.length : Int) != t349) = true := bne_iff_ne.mpr c87
                            as_aux_lemma =>
                              obtain rfl := Option.some.inj H
                              go_wp2_with (first | ((with_reducible refine gate_callee (f := 58) rfl ?_); refine goesL_ (some 176) rfl rfl Try.func58 (by kernel_rfl) rfl #[.slice Ao66 t351.length co66, .int .i64 t349, .int .i64 ((l1.length : Int) % (t351.length : Int))] rfl (by (try simp only [List.map_toArray, List.map_cons, List.map_nil]); first | done | rfl | (simp only [List.length_drop, List.length_take]; rfl)) ?_; (with_reducible refine (impl_WindowAt.calls kj64 _ _ t351 t349 ((l1.length : Int) % (t351.length : Int)) t385 true _ ?side1 ?side2 A81.out).mono ?_); (case side1 => repeat (first | exact (Kd.R_reads' HO_7.out).2.2 | (with_reducible refine Kd.C_alloc ?_ _) | (with_reducible refine Kd.C_drewN ?_ _) | (with_reducible refine Kd.C_drew ?_))); (case side2 => exact (Kd.R_reads' HO_7.out).2.1); rintro e w107 ⟨v387, rfl, ho0, hb⟩; refine ⟨_, rfl, ?_⟩; have n0_ := Aside0.mk (Kd.R_elder' (by (with_reducible repeat (first | apply Kd.R_alloc | apply Kd.R_drewN | apply Kd.R_drew)); exact HO_7.out) (Kd.R_base ho0) hb); have n1_ := Aside0.mk (Kd.R_elder' (by (with_reducible repeat (first | apply Kd.R_alloc | apply Kd.R_drewN | apply Kd.R_drew)); exact HO_15.out) (Kd.R_base ho0) hb); have n2_ := Aside0.mk (Kd.R_lower (Kd.R_new' (Kd.R_new' ho0 (Kd.R_lt (by (with_reducible repeat (first | apply Kd.R_alloc | apply Kd.R_drewN | apply Kd.R_drew)); exact HO_7.out))) (Kd.R_lt (by (with_reducible repeat (first | apply Kd.R_alloc | apply Kd.R_drewN | apply Kd.R_drew)); exact HO_15.out))) (below_size (by repeat (first | (with_reducible first | exact HB.out | apply below_alloc | apply pw_below_drewN | apply below_drew1) | exact HB.out)))); have n3_ := Aside0.mk (below_step (by repeat (first | (with_reducible first | exact HB.out | apply below_alloc | apply pw_below_drewN | apply below_drew1) | exact HB.out)) hb); clear HO_7; clear HO_15; clear HB; have HO_7 := n0_; have HO_15 := n1_; have HO388 := n2_; have HB := n3_; clear n0_ n1_ n2_ n3_; (try clear hb); (try clear hb2); (try clear hk); (try clear hi); (try clear ho0); obtain ⟨Ao108, co108, eo108⟩ := Kd.R_slice HO388.out; subst eo108) | ((with_reducible refine gate_callee (f := 59) rfl ?_); refine goesL_ (some 182) rfl rfl Try.func59 (by kernel_rfl) rfl #[.slice Ao66 t351.length co66, .slice Ao108 t385.length co108] rfl (by (try simp only [List.map_toArray, List.map_cons, List.map_nil]); first | done | rfl | (simp only [List.length_drop, List.length_take]; rfl)) ?_; (with_reducible refine (impl_PlacesOf.calls kj64 _ _ t351 _ _ t385 t389 true _ ?side1 ?side2 ?side3 ?side4 A82.out).mono ?_); (case side1 => repeat (first | exact (Kd.R_reads' HO_7.out).2.2 | (with_reducible refine Kd.C_alloc ?_ _) | (with_reducible refine Kd.C_drewN ?_ _) | (with_reducible refine Kd.C_drew ?_))); (case side2 => exact (Kd.R_reads' HO_7.out).2.1); (case side3 => repeat (first | exact (Kd.R_reads' HO388.out).2.2 | (with_reducible refine Kd.C_alloc ?_ _) | (with_reducible refine Kd.C_drewN ?_ _) | (with_reducible refine Kd.C_drew ?_))); (case side4 => exact (Kd.R_reads' HO388.out).2.1); rintro e w109 ⟨v391, rfl, ho0, hb⟩; refine ⟨_, rfl, ?_⟩; have n0_ := Aside0.mk (Kd.R_elder' (by (with_reducible repeat (first | apply Kd.R_alloc | apply Kd.R_drewN | apply Kd.R_drew)); exact HO_7.out) (Kd.R_base ho0) hb); have n1_ := Aside0.mk (Kd.R_elder' (by (with_reducible repeat (first | apply Kd.R_alloc | apply Kd.R_drewN | apply Kd.R_drew)); exact HO_15.out) (Kd.R_base ho0) hb); have n2_ := Aside0.mk (Kd.R_elder' (by (with_reducible repeat (first | apply Kd.R_alloc | apply Kd.R_drewN | apply Kd.R_drew)); exact HO388.out) (Kd.R_base ho0) hb); have n3_ := Aside0.mk (Kd.R_lower (Kd.R_new' (Kd.R_new' (Kd.R_new' ho0 (Kd.R_lt (by (with_reducible repeat (first | apply Kd.R_alloc | apply Kd.R_drewN | apply Kd.R_drew)); exact HO_7.out))) (Kd.R_lt (by (with_reducible repeat (first | apply Kd.R_alloc | apply Kd.R_drewN | apply Kd.R_drew)); exact HO_15.out))) (Kd.R_lt (by (with_reducible repeat (first | apply Kd.R_alloc | apply Kd.R_drewN | apply Kd.R_drew)); exact HO388.out))) (below_size (by repeat (first | (with_reducible first | exact HB.out | apply below_alloc | apply pw_below_drewN | apply below_drew1) | exact HB.out)))); have n4_ := Aside0.mk (below_step (by repeat (first | (with_reducible first | exact HB.out | apply below_alloc | apply pw_below_drewN | apply below_drew1) | exact HB.out)) hb); clear HO_7; clear HO_15; clear HO388; clear HB; have HO_7 := n0_; have HO_15 := n1_; have HO388 := n2_; have HO392 := n3_; have HB := n4_; clear n0_ n1_ n2_ n3_ n4_; (try clear hb); (try clear hb2); (try clear hk); (try clear hi); (try clear ho0)) | ((with_reducible refine gate_callee (f := 59) rfl ?_); refine goesL_ (some 188) rfl rfl Try.func59 (by kernel_rfl) rfl #[.slice Ao70 t367.length co70, .slice Ao108 t385.length co108] rfl (by (try simp only [List.map_toArray, List.map_cons, List.map_nil]); first | done | rfl | (simp only [List.length_drop, List.length_take]; rfl)) ?_; (with_reducible refine (impl_PlacesOf.calls kj64 _ _ t367 _ _ t385 t393 true _ ?side1 ?side2 ?side3 ?side4 A83.out).mono ?_); (case side1 => repeat (first | exact (Kd.R_reads' HO_15.out).2.2 | (with_reducible refine Kd.C_alloc ?_ _) | (with_reducible refine Kd.C_drewN ?_ _) | (with_reducible refine Kd.C_drew ?_))); (case side2 => exact (Kd.R_reads' HO_15.out).2.1); (case side3 => repeat (first | exact (Kd.R_reads' HO388.out).2.2 | (with_reducible refine Kd.C_alloc ?_ _) | (with_reducible refine Kd.C_drewN ?_ _) | (with_reducible refine Kd.C_drew ?_))); (case side4 => exact (Kd.R_reads' HO388.out).2.1); rintro e w110 ⟨v395, rfl, ho0, hb⟩; refine ⟨_, rfl, ?_⟩; have n0_ := Aside0.mk (Kd.R_elder' (by (with_reducible repeat (first | apply Kd.R_alloc | apply Kd.R_drewN | apply Kd.R_drew)); exact HO_7.out) (Kd.R_base ho0) hb); have n1_ := Aside0.mk (Kd.R_elder' (by (with_reducible repeat (first | apply Kd.R_alloc | apply Kd.R_drewN | apply Kd.R_drew)); exact HO_15.out) (Kd.R_base ho0) hb); have n2_ := Aside0.mk (Kd.R_elder' (by (with_reducible repeat (first | apply Kd.R_alloc | apply Kd.R_drewN | apply Kd.R_drew)); exact HO388.out) (Kd.R_base ho0) hb); have n3_ := Aside0.mk (Kd.R_elder' (by (with_reducible repeat (first | apply Kd.R_alloc | apply Kd.R_drewN | apply Kd.R_drew)); exact HO392.out) (Kd.R_base ho0) hb); have n4_ := Aside0.mk (Kd.R_lower (Kd.R_new' (Kd.R_new' (Kd.R_new' (Kd.R_new' ho0 (Kd.R_lt (by (with_reducible repeat (first | apply Kd.R_alloc | apply Kd.R_drewN | apply Kd.R_drew)); exact HO_7.out))) (Kd.R_lt (by (with_reducible repeat (first | apply Kd.R_alloc | apply Kd.R_drewN | apply Kd.R_drew)); exact HO_15.out))) (Kd.R_lt (by (with_reducible repeat (first | apply Kd.R_alloc | apply Kd.R_drewN | apply Kd.R_drew)); exact HO388.out))) (Kd.R_lt (by (with_reducible repeat (first | apply Kd.R_alloc | apply Kd.R_drewN | apply Kd.R_drew)); exact HO392.out))) (below_size (by repeat (first | (with_reducible first | exact HB.out | apply below_alloc | apply pw_below_drewN | apply below_drew1) | exact HB.out)))); have n5_ := Aside0.mk (below_step (by repeat (first | (with_reducible first | exact HB.out | apply below_alloc | apply pw_below_drewN | apply below_drew1) | exact HB.out)) hb); clear HO_7; clear HO_15; clear HO388; clear HO392; clear HB; have HO_7 := n0_; have HO_15 := n1_; have HO388 := n2_; have HO392 := n3_; have HO396 := n4_; have HB := n5_; clear n0_ n1_ n2_ n3_ n4_ n5_; (try clear hb); (try clear hb2); (try clear hk); (try clear hi); (try clear ho0)))
                              go_ret
                              exact ⟨by first | rfl | (simp [errW_none, errW_some] <;> rfl) | (simp [*, errW_none, errW_some] <;> rfl), by repeat (first | (with_reducible first | exact HB.out | apply below_alloc | apply pw_below_drewN | apply below_drew1) | exact HB.out)⟩
                        · replace c86 := Bool.eq_false_iff.mpr c86
                          subst c86
                          have H1 : (some false) = some r := by rw [if_neg (show ¬ (false = true) by decide)] at H; exact H
                          clear H
                          have H := H1
                          clear H1
                          as_aux_lemma =>
                            obtain rfl := Option.some.inj H
                            go_wp2_with (first | ((with_reducible refine gate_callee (f := 58) rfl ?_); refine goesL_ (some 176) rfl rfl Try.func58 (by kernel_rfl) rfl #[.slice Ao66 t351.length co66, .int .i64 t349, .int .i64 ((l1.length : Int) % (t351.length : Int))] rfl (by (try simp only [List.map_toArray, List.map_cons, List.map_nil]); first | done | rfl | (simp only [List.length_drop, List.length_take]; rfl)) ?_; (with_reducible refine (impl_WindowAt.calls kj64 _ _ t351 t349 ((l1.length : Int) % (t351.length : Int)) t385 true _ ?side1 ?side2 A81.out).mono ?_); (case side1 => repeat (first | exact (Kd.R_reads' HO_7.out).2.2 | (with_reducible refine Kd.C_alloc ?_ _) | (with_reducible refine Kd.C_drewN ?_ _) | (with_reducible refine Kd.C_drew ?_))); (case side2 => exact (Kd.R_reads' HO_7.out).2.1); rintro e w111 ⟨v387, rfl, ho0, hb⟩; refine ⟨_, rfl, ?_⟩; have n0_ := Aside0.mk (Kd.R_elder' (by (with_reducible repeat (first | apply Kd.R_alloc | apply Kd.R_drewN | apply Kd.R_drew)); exact HO_7.out) (Kd.R_base ho0) hb); have n1_ := Aside0.mk (Kd.R_elder' (by (with_reducible repeat (first | apply Kd.R_alloc | apply Kd.R_drewN | apply Kd.R_drew)); exact HO_15.out) (Kd.R_base ho0) hb); have n2_ := Aside0.mk (Kd.R_lower (Kd.R_new' (Kd.R_new' ho0 (Kd.R_lt (by (with_reducible repeat (first | apply Kd.R_alloc | apply Kd.R_drewN | apply Kd.R_drew)); exact HO_7.out))) (Kd.R_lt (by (with_reducible repeat (first | apply Kd.R_alloc | apply Kd.R_drewN | apply Kd.R_drew)); exact HO_15.out))) (below_size (by repeat (first | (with_reducible first | exact HB.out | apply below_alloc | apply pw_below_drewN | apply below_drew1) | exact HB.out)))); have n3_ := Aside0.mk (below_step (by repeat (first | (with_reducible first | exact HB.out | apply below_alloc | apply pw_below_drewN | apply below_drew1) | exact HB.out)) hb); clear HO_7; clear HO_15; clear HB; have HO_7 := n0_; have HO_15 := n1_; have HO388 := n2_; have HB := n3_; clear n0_ n1_ n2_ n3_; (try clear hb); (try clear hb2); (try clear hk); (try clear hi); (try clear ho0); obtain ⟨Ao112, co112, eo112⟩ := Kd.R_slice HO388.out; subst eo112) | ((with_reducible refine gate_callee (f := 59) rfl ?_); refine goesL_ (some 182) rfl rfl Try.func59 (by kernel_rfl) rfl #[.slice Ao66 t351.length co66, .slice Ao112 t385.length co112] rfl (by (try simp only [List.map_toArray, List.map_cons, List.map_nil]); first | done | rfl | (simp only [List.length_drop, List.length_take]; rfl)) ?_; (with_reducible refine (impl_PlacesOf.calls kj64 _ _ t351 _ _ t385 t389 true _ ?side1 ?side2 ?side3 ?side4 A82.out).mono ?_); (case side1 => repeat (first | exact (Kd.R_reads' HO_7.out).2.2 | (with_reducible refine Kd.C_alloc ?_ _) | (with_reducible refine Kd.C_drewN ?_ _) | (with_reducible refine Kd.C_drew ?_))); (case side2 => exact (Kd.R_reads' HO_7.out).2.1); (case side3 => repeat (first | exact (Kd.R_reads' HO388.out).2.2 | (with_reducible refine Kd.C_alloc ?_ _) | (with_reducible refine Kd.C_drewN ?_ _) | (with_reducible refine Kd.C_drew ?_))); (case side4 => exact (Kd.R_reads' HO388.out).2.1); rintro e w113 ⟨v391, rfl, ho0, hb⟩; refine ⟨_, rfl, ?_⟩; have n0_ := Aside0.mk (Kd.R_elder' (by (with_reducible repeat (first | apply Kd.R_alloc | apply Kd.R_drewN | apply Kd.R_drew)); exact HO_7.out) (Kd.R_base ho0) hb); have n1_ := Aside0.mk (Kd.R_elder' (by (with_reducible repeat (first | apply Kd.R_alloc | apply Kd.R_drewN | apply Kd.R_drew)); exact HO_15.out) (Kd.R_base ho0) hb); have n2_ := Aside0.mk (Kd.R_elder' (by (with_reducible repeat (first | apply Kd.R_alloc | apply Kd.R_drewN | apply Kd.R_drew)); exact HO388.out) (Kd.R_base ho0) hb); have n3_ := Aside0.mk (Kd.R_lower (Kd.R_new' (Kd.R_new' (Kd.R_new' ho0 (Kd.R_lt (by (with_reducible repeat (first | apply Kd.R_alloc | apply Kd.R_drewN | apply Kd.R_drew)); exact HO_7.out))) (Kd.R_lt (by (with_reducible repeat (first | apply Kd.R_alloc | apply Kd.R_drewN | apply Kd.R_drew)); exact HO_15.out))) (Kd.R_lt (by (with_reducible repeat (first | apply Kd.R_alloc | apply Kd.R_drewN | apply Kd.R_drew)); exact HO388.out))) (below_size (by repeat (first | (with_reducible first | exact HB.out | apply below_alloc | apply pw_below_drewN | apply below_drew1) | exact HB.out)))); have n4_ := Aside0.mk (below_step (by repeat (first | (with_reducible first | exact HB.out | apply below_alloc | apply pw_below_drewN | apply below_drew1) | exact HB.out)) hb); clear HO_7; clear HO_15; clear HO388; clear HB; have HO_7 := n0_; have HO_15 := n1_; have HO388 := n2_; have HO392 := n3_; have HB := n4_; clear n0_ n1_ n2_ n3_ n4_; (try clear hb); (try clear hb2); (try clear hk); (try clear hi); (try clear ho0)) | ((with_reducible refine gate_callee (f := 59) rfl ?_); refine goesL_ (some 188) rfl rfl Try.func59 (by kernel_rfl) rfl #[.slice Ao70 t367.length co70, .slice Ao112 t385.length co112] rfl (by (try simp only [List.map_toArray, List.map_cons, List.map_nil]); first | done | rfl | (simp only [List.length_drop, List.length_take]; rfl)) ?_; (with_reducible refine (impl_PlacesOf.calls kj64 _ _ t367 _ _ t385 t393 false _ ?side1 ?side2 ?side3 ?side4 A83.out).mono ?_); (case side1 => repeat (first | exact (Kd.R_reads' HO_15.out).2.2 | (with_reducible refine Kd.C_alloc ?_ _) | (with_reducible refine Kd.C_drewN ?_ _) | (with_reducible refine Kd.C_drew ?_))); (case side2 => exact (Kd.R_reads' HO_15.out).2.1); (case side3 => repeat (first | exact (Kd.R_reads' HO388.out).2.2 | (with_reducible refine Kd.C_alloc ?_ _) | (with_reducible refine Kd.C_drewN ?_ _) | (with_reducible refine Kd.C_drew ?_))); (case side4 => exact (Kd.R_reads' HO388.out).2.1); rintro e w114 ⟨v395, rfl, ho0, hb⟩; refine ⟨_, rfl, ?_⟩; have n0_ := Aside0.mk (Kd.R_elder' (by (with_reducible repeat (first | apply Kd.R_alloc | apply Kd.R_drewN | apply Kd.R_drew)); exact HO_7.out) (Kd.R_base ho0) hb); have n1_ := Aside0.mk (Kd.R_elder' (by (with_reducible repeat (first | apply Kd.R_alloc | apply Kd.R_drewN | apply Kd.R_drew)); exact HO_15.out) (Kd.R_base ho0) hb); have n2_ := Aside0.mk (Kd.R_elder' (by (with_reducible repeat (first | apply Kd.R_alloc | apply Kd.R_drewN | apply Kd.R_drew)); exact HO388.out) (Kd.R_base ho0) hb); have n3_ := Aside0.mk (Kd.R_elder' (by (with_reducible repeat (first | apply Kd.R_alloc | apply Kd.R_drewN | apply Kd.R_drew)); exact HO392.out) (Kd.R_base ho0) hb); have n4_ := Aside0.mk (Kd.R_lower (Kd.R_new' (Kd.R_new' (Kd.R_new' (Kd.R_new' ho0 (Kd.R_lt (by (with_reducible repeat (first | apply Kd.R_alloc | apply Kd.R_drewN | apply Kd.R_drew)); exact HO_7.out))) (Kd.R_lt (by (with_reducible repeat (first | apply Kd.R_alloc | apply Kd.R_drewN | apply Kd.R_drew)); exact HO_15.out))) (Kd.R_lt (by (with_reducible repeat (first | apply Kd.R_alloc | apply Kd.R_drewN | apply Kd.R_drew)); exact HO388.out))) (Kd.R_lt (by (with_reducible repeat (first | apply Kd.R_alloc | apply Kd.R_drewN | apply Kd.R_drew)); exact HO392.out))) (below_size (by repeat (first | (with_reducible first | exact HB.out | apply below_alloc | apply pw_below_drewN | apply below_drew1) | exact HB.out)))); have n5_ := Aside0.mk (below_step (by repeat (first | (with_reducible first | exact HB.out | apply below_alloc | apply pw_below_drewN | apply below_drew1) | exact HB.out)) hb); clear HO_7; clear HO_15; clear HO388; clear HO392; clear HB; have HO_7 := n0_; have HO_15 := n1_; have HO388 := n2_; have HO392 := n3_; have HO396 := n4_; have HB := n5_; clear n0_ n1_ n2_ n3_ n4_ n5_; (try clear hb); (try clear hb2); (try clear hk); (try clear hi); (try clear ho0)))
                            go_ret
                            exact ⟨by first | rfl | (simp [errW_none, errW_some] <;> rfl) | (simp [*, errW_none, errW_some] <;> rfl), by repeat (first | (with_reducible first | exact HB.out | apply below_alloc | apply pw_below_drewN | apply below_drew1) | exact HB.out)⟩
                      · replace c85 := Bool.eq_false_iff.mpr c85
                        subst c85
                        have H1 : (some false) = some r := by rw [if_neg (show ¬ (false = true) by decide)] at H; exact H
                        clear H
                        have H := H1
                        clear H1
                        as_aux_lemma =>
                          obtain rfl := Option.some.inj H
                          go_wp2_with (first | ((with_reducible refine gate_callee (f := 58) rfl ?_); refine goesL_ (some 176) rfl rfl Try.func58 (by kernel_rfl) rfl #[.slice Ao66 t351.length co66, .int .i64 t349, .int .i64 ((l1.length : Int) % (t351.length : Int))] rfl (by (try simp only [List.map_toArray, List.map_cons, List.map_nil]); first | done | rfl | (simp only [List.length_drop, List.length_take]; rfl)) ?_; (with_reducible refine (impl_WindowAt.calls kj64 _ _ t351 t349 ((l1.length : Int) % (t351.length : Int)) t385 true _ ?side1 ?side2 A81.out).mono ?_); (case side1 => repeat (first | exact (Kd.R_reads' HO_7.out).2.2 | (with_reducible refine Kd.C_alloc ?_ _) | (with_reducible refine Kd.C_drewN ?_ _) | (with_reducible refine Kd.C_drew ?_))); (case side2 => exact (Kd.R_reads' HO_7.out).2.1); rintro e w115 ⟨v387, rfl, ho0, hb⟩; refine ⟨_, rfl, ?_⟩; have n0_ := Aside0.mk (Kd.R_elder' (by (with_reducible repeat (first | apply Kd.R_alloc | apply Kd.R_drewN | apply Kd.R_drew)); exact HO_7.out) (Kd.R_base ho0) hb); have n1_ := Aside0.mk (Kd.R_elder' (by (with_reducible repeat (first | apply Kd.R_alloc | apply Kd.R_drewN | apply Kd.R_drew)); exact HO_15.out) (Kd.R_base ho0) hb); have n2_ := Aside0.mk (Kd.R_lower (Kd.R_new' (Kd.R_new' ho0 (Kd.R_lt (by (with_reducible repeat (first | apply Kd.R_alloc | apply Kd.R_drewN | apply Kd.R_drew)); exact HO_7.out))) (Kd.R_lt (by (with_reducible repeat (first | apply Kd.R_alloc | apply Kd.R_drewN | apply Kd.R_drew)); exact HO_15.out))) (below_size (by repeat (first | (with_reducible first | exact HB.out | apply below_alloc | apply pw_below_drewN | apply below_drew1) | exact HB.out)))); have n3_ := Aside0.mk (below_step (by repeat (first | (with_reducible first | exact HB.out | apply below_alloc | apply pw_below_drewN | apply below_drew1) | exact HB.out)) hb); clear HO_7; clear HO_15; clear HB; have HO_7 := n0_; have HO_15 := n1_; have HO388 := n2_; have HB := n3_; clear n0_ n1_ n2_ n3_; (try clear hb); (try clear hb2); (try clear hk); (try clear hi); (try clear ho0); obtain ⟨Ao116, co116, eo116⟩ := Kd.R_slice HO388.out; subst eo116) | ((with_reducible refine gate_callee (f := 59) rfl ?_); refine goesL_ (some 182) rfl rfl Try.func59 (by kernel_rfl) rfl #[.slice Ao66 t351.length co66, .slice Ao116 t385.length co116] rfl (by (try simp only [List.map_toArray, List.map_cons, List.map_nil]); first | done | rfl | (simp only [List.length_drop, List.length_take]; rfl)) ?_; (with_reducible refine (impl_PlacesOf.calls kj64 _ _ t351 _ _ t385 t389 false _ ?side1 ?side2 ?side3 ?side4 A82.out).mono ?_); (case side1 => repeat (first | exact (Kd.R_reads' HO_7.out).2.2 | (with_reducible refine Kd.C_alloc ?_ _) | (with_reducible refine Kd.C_drewN ?_ _) | (with_reducible refine Kd.C_drew ?_))); (case side2 => exact (Kd.R_reads' HO_7.out).2.1); (case side3 => repeat (first | exact (Kd.R_reads' HO388.out).2.2 | (with_reducible refine Kd.C_alloc ?_ _) | (with_reducible refine Kd.C_drewN ?_ _) | (with_reducible refine Kd.C_drew ?_))); (case side4 => exact (Kd.R_reads' HO388.out).2.1); rintro e w117 ⟨v391, rfl, ho0, hb⟩; refine ⟨_, rfl, ?_⟩; have n0_ := Aside0.mk (Kd.R_elder' (by (with_reducible repeat (first | apply Kd.R_alloc | apply Kd.R_drewN | apply Kd.R_drew)); exact HO_7.out) (Kd.R_base ho0) hb); have n1_ := Aside0.mk (Kd.R_elder' (by (with_reducible repeat (first | apply Kd.R_alloc | apply Kd.R_drewN | apply Kd.R_drew)); exact HO_15.out) (Kd.R_base ho0) hb); have n2_ := Aside0.mk (Kd.R_elder' (by (with_reducible repeat (first | apply Kd.R_alloc | apply Kd.R_drewN | apply Kd.R_drew)); exact HO388.out) (Kd.R_base ho0) hb); have n3_ := Aside0.mk (Kd.R_lower (Kd.R_new' (Kd.R_new' (Kd.R_new' ho0 (Kd.R_lt (by (with_reducible repeat (first | apply Kd.R_alloc | apply Kd.R_drewN | apply Kd.R_drew)); exact HO_7.out))) (Kd.R_lt (by (with_reducible repeat (first | apply Kd.R_alloc | apply Kd.R_drewN | apply Kd.R_drew)); exact HO_15.out))) (Kd.R_lt (by (with_reducible repeat (first | apply Kd.R_alloc | apply Kd.R_drewN | apply Kd.R_drew)); exact HO388.out))) (below_size (by repeat (first | (with_reducible first | exact HB.out | apply below_alloc | apply pw_below_drewN | apply below_drew1) | exact HB.out)))); have n4_ := Aside0.mk (below_step (by repeat (first | (with_reducible first | exact HB.out | apply below_alloc | apply pw_below_drewN | apply below_drew1) | exact HB.out)) hb); clear HO_7; clear HO_15; clear HO388; clear HB; have HO_7 := n0_; have HO_15 := n1_; have HO388 := n2_; have HO392 := n3_; have HB := n4_; clear n0_ n1_ n2_ n3_ n4_; (try clear hb); (try clear hb2); (try clear hk); (try clear hi); (try clear ho0)) | ((with_reducible refine gate_callee (f := 59) rfl ?_); refine goesL_ (some 188) rfl rfl Try.func59 (by kernel_rfl) rfl #[.slice Ao70 t367.length co70, .slice Ao116 t385.length co116] rfl (by (try simp only [List.map_toArray, List.map_cons, List.map_nil]); first | done | rfl | (simp only [List.length_drop, List.length_take]; rfl)) ?_; (with_reducible refine (impl_PlacesOf.calls kj64 _ _ t367 _ _ t385 t393 t394 _ ?side1 ?side2 ?side3 ?side4 A83.out).mono ?_); (case side1 => repeat (first | exact (Kd.R_reads' HO_15.out).2.2 | (with_reducible refine Kd.C_alloc ?_ _) | (with_reducible refine Kd.C_drewN ?_ _) | (with_reducible refine Kd.C_drew ?_))); (case side2 => exact (Kd.R_reads' HO_15.out).2.1); (case side3 => repeat (first | exact (Kd.R_reads' HO388.out).2.2 | (with_reducible refine Kd.C_alloc ?_ _) | (with_reducible refine Kd.C_drewN ?_ _) | (with_reducible refine Kd.C_drew ?_))); (case side4 => exact (Kd.R_reads' HO388.out).2.1); rintro e w118 ⟨v395, rfl, ho0, hb⟩; refine ⟨_, rfl, ?_⟩; have n0_ := Aside0.mk (Kd.R_elder' (by (with_reducible repeat (first | apply Kd.R_alloc | apply Kd.R_drewN | apply Kd.R_drew)); exact HO_7.out) (Kd.R_base ho0) hb); have n1_ := Aside0.mk (Kd.R_elder' (by (with_reducible repeat (first | apply Kd.R_alloc | apply Kd.R_drewN | apply Kd.R_drew)); exact HO_15.out) (Kd.R_base ho0) hb); have n2_ := Aside0.mk (Kd.R_elder' (by (with_reducible repeat (first | apply Kd.R_alloc | apply Kd.R_drewN | apply Kd.R_drew)); exact HO388.out) (Kd.R_base ho0) hb); have n3_ := Aside0.mk (Kd.R_elder' (by (with_reducible repeat (first | apply Kd.R_alloc | apply Kd.R_drewN | apply Kd.R_drew)); exact HO392.out) (Kd.R_base ho0) hb); have n4_ := Aside0.mk (Kd.R_lower (Kd.R_new' (Kd.R_new' (Kd.R_new' (Kd.R_new' ho0 (Kd.R_lt (by (with_reducible repeat (first | apply Kd.R_alloc | apply Kd.R_drewN | apply Kd.R_drew)); exact HO_7.out))) (Kd.R_lt (by (with_reducible repeat (first | apply Kd.R_alloc | apply Kd.R_drewN | apply Kd.R_drew)); exact HO_15.out))) (Kd.R_lt (by (with_reducible repeat (first | apply Kd.R_alloc | apply Kd.R_drewN | apply Kd.R_drew)); exact HO388.out))) (Kd.R_lt (by (with_reducible repeat (first | apply Kd.R_alloc | apply Kd.R_drewN | apply Kd.R_drew)); exact HO392.out))) (below_size (by repeat (first | (with_reducible first | exact HB.out | apply below_alloc | apply pw_below_drewN | apply below_drew1) | exact HB.out)))); have n5_ := Aside0.mk (below_step (by repeat (first | (with_reducible first | exact HB.out | apply below_alloc | apply pw_below_drewN | apply below_drew1) | exact HB.out)) hb); clear HO_7; clear HO_15; clear HO388; clear HO392; clear HB; have HO_7 := n0_; have HO_15 := n1_; have HO388 := n2_; have HO392 := n3_; have HO396 := n4_; have HB := n5_; clear n0_ n1_ n2_ n3_ n4_ n5_; (try clear hb); (try clear hb2); (try clear hk); (try clear hi); (try clear ho0)))
                          go_ret
                          exact ⟨by first | rfl | (simp [errW_none, errW_some] <;> rfl) | (simp [*, errW_none, errW_some] <;> rfl), by repeat (first | (with_reducible first | exact HB.out | apply below_alloc | apply pw_below_drewN | apply below_drew1) | exact HB.out)⟩
                    · replace c84 := Bool.eq_false_iff.mpr c84
                      subst c84
                      have H1 : (some false) = some r := by rw [if_neg (show ¬ (false = true) by decide)] at H; exact H
                      clear H
                      have H := H1
                      clear H1
                      as_aux_lemma =>
                        obtain rfl := Option.some.inj H
                        go_wp2_with (first | ((with_reducible refine gate_callee (f := 58) rfl ?_); refine goesL_ (some 176) rfl rfl Try.func58 (by kernel_rfl) rfl #[.slice Ao66 t351.length co66, .int .i64 t349, .int .i64 ((l1.length : Int) % (t351.length : Int))] rfl (by (try simp only [List.map_toArray, List.map_cons, List.map_nil]); first | done | rfl | (simp only [List.length_drop, List.length_take]; rfl)) ?_; (with_reducible refine (impl_WindowAt.calls kj64 _ _ t351 t349 ((l1.length : Int) % (t351.length : Int)) t385 false _ ?side1 ?side2 A81.out).mono ?_); (case side1 => repeat (first | exact (Kd.R_reads' HO_7.out).2.2 | (with_reducible refine Kd.C_alloc ?_ _) | (with_reducible refine Kd.C_drewN ?_ _) | (with_reducible refine Kd.C_drew ?_))); (case side2 => exact (Kd.R_reads' HO_7.out).2.1); rintro e w119 ⟨v387, rfl, ho0, hb⟩; refine ⟨_, rfl, ?_⟩; have n0_ := Aside0.mk (Kd.R_elder' (by (with_reducible repeat (first | apply Kd.R_alloc | apply Kd.R_drewN | apply Kd.R_drew)); exact HO_7.out) (Kd.R_base ho0) hb); have n1_ := Aside0.mk (Kd.R_elder' (by (with_reducible repeat (first | apply Kd.R_alloc | apply Kd.R_drewN | apply Kd.R_drew)); exact HO_15.out) (Kd.R_base ho0) hb); have n2_ := Aside0.mk (Kd.R_lower (Kd.R_new' (Kd.R_new' ho0 (Kd.R_lt (by (with_reducible repeat (first | apply Kd.R_alloc | apply Kd.R_drewN | apply Kd.R_drew)); exact HO_7.out))) (Kd.R_lt (by (with_reducible repeat (first | apply Kd.R_alloc | apply Kd.R_drewN | apply Kd.R_drew)); exact HO_15.out))) (below_size (by repeat (first | (with_reducible first | exact HB.out | apply below_alloc | apply pw_below_drewN | apply below_drew1) | exact HB.out)))); have n3_ := Aside0.mk (below_step (by repeat (first | (with_reducible first | exact HB.out | apply below_alloc | apply pw_below_drewN | apply below_drew1) | exact HB.out)) hb); clear HO_7; clear HO_15; clear HB; have HO_7 := n0_; have HO_15 := n1_; have HO388 := n2_; have HB := n3_; clear n0_ n1_ n2_ n3_; (try clear hb); (try clear hb2); (try clear hk); (try clear hi); (try clear ho0); obtain ⟨Ao120, co120, eo120⟩ := Kd.R_slice HO388.out; subst eo120) | ((with_reducible refine gate_callee (f := 59) rfl ?_); refine goesL_ (some 182) rfl rfl Try.func59 (by kernel_rfl) rfl #[.slice Ao66 t351.length co66, .slice Ao120 t385.length co120] rfl (by (try simp only [List.map_toArray, List.map_cons, List.map_nil]); first | done | rfl | (simp only [List.length_drop, List.length_take]; rfl)) ?_; (with_reducible refine (impl_PlacesOf.calls kj64 _ _ t351 _ _ t385 t389 t390 _ ?side1 ?side2 ?side3 ?side4 A82.out).mono ?_); (case side1 => repeat (first | exact (Kd.R_reads' HO_7.out).2.2 | (with_reducible refine Kd.C_alloc ?_ _) | (with_reducible refine Kd.C_drewN ?_ _) | (with_reducible refine Kd.C_drew ?_))); (case side2 => exact (Kd.R_reads' HO_7.out).2.1); (case side3 => repeat (first | exact (Kd.R_reads' HO388.out).2.2 | (with_reducible refine Kd.C_alloc ?_ _) | (with_reducible refine Kd.C_drewN ?_ _) | (with_reducible refine Kd.C_drew ?_))); (case side4 => exact (Kd.R_reads' HO388.out).2.1); rintro e w121 ⟨v391, rfl, ho0, hb⟩; refine ⟨_, rfl, ?_⟩; have n0_ := Aside0.mk (Kd.R_elder' (by (with_reducible repeat (first | apply Kd.R_alloc | apply Kd.R_drewN | apply Kd.R_drew)); exact HO_7.out) (Kd.R_base ho0) hb); have n1_ := Aside0.mk (Kd.R_elder' (by (with_reducible repeat (first | apply Kd.R_alloc | apply Kd.R_drewN | apply Kd.R_drew)); exact HO_15.out) (Kd.R_base ho0) hb); have n2_ := Aside0.mk (Kd.R_elder' (by (with_reducible repeat (first | apply Kd.R_alloc | apply Kd.R_drewN | apply Kd.R_drew)); exact HO388.out) (Kd.R_base ho0) hb); have n3_ := Aside0.mk (Kd.R_lower (Kd.R_new' (Kd.R_new' (Kd.R_new' ho0 (Kd.R_lt (by (with_reducible repeat (first | apply Kd.R_alloc | apply Kd.R_drewN | apply Kd.R_drew)); exact HO_7.out))) (Kd.R_lt (by (with_reducible repeat (first | apply Kd.R_alloc | apply Kd.R_drewN | apply Kd.R_drew)); exact HO_15.out))) (Kd.R_lt (by (with_reducible repeat (first | apply Kd.R_alloc | apply Kd.R_drewN | apply Kd.R_drew)); exact HO388.out))) (below_size (by repeat (first | (with_reducible first | exact HB.out | apply below_alloc | apply pw_below_drewN | apply below_drew1) | exact HB.out)))); have n4_ := Aside0.mk (below_step (by repeat (first | (with_reducible first | exact HB.out | apply below_alloc | apply pw_below_drewN | apply below_drew1) | exact HB.out)) hb); clear HO_7; clear HO_15; clear HO388; clear HB; have HO_7 := n0_; have HO_15 := n1_; have HO388 := n2_; have HO392 := n3_; have HB := n4_; clear n0_ n1_ n2_ n3_ n4_; (try clear hb); (try clear hb2); (try clear hk); (try clear hi); (try clear ho0)) | ((with_reducible refine gate_callee (f := 59) rfl ?_); refine goesL_ (some 188) rfl rfl Try.func59 (by kernel_rfl) rfl #[.slice Ao70 t367.length co70, .slice Ao120 t385.length co120] rfl (by (try simp only [List.map_toArray, List.map_cons, List.map_nil]); first | done | rfl | (simp only [List.length_drop, List.length_take]; rfl)) ?_; (with_reducible refine (impl_PlacesOf.calls kj64 _ _ t367 _ _ t385 t393 t394 _ ?side1 ?side2 ?side3 ?side4 A83.out).mono ?_); (case side1 => repeat (first | exact (Kd.R_reads' HO_15.out).2.2 | (with_reducible refine Kd.C_alloc ?_ _) | (with_reducible refine Kd.C_drewN ?_ _) | (with_reducible refine Kd.C_drew ?_))); (case side2 => exact (Kd.R_reads' HO_15.out).2.1); (case side3 => repeat (first | exact (Kd.R_reads' HO388.out).2.2 | (with_reducible refine Kd.C_alloc ?_ _) | (with_reducible refine Kd.C_drewN ?_ _) | (with_reducible refine Kd.C_drew ?_))); (case side4 => exact (Kd.R_reads' HO388.out).2.1); rintro e w122 ⟨v395, rfl, ho0, hb⟩; refine ⟨_, rfl, ?_⟩; have n0_ := Aside0.mk (Kd.R_elder' (by (with_reducible repeat (first | apply Kd.R_alloc | apply Kd.R_drewN | apply Kd.R_drew)); exact HO_7.out) (Kd.R_base ho0) hb); have n1_ := Aside0.mk (Kd.R_elder' (by (with_reducible repeat (first | apply Kd.R_alloc | apply Kd.R_drewN | apply Kd.R_drew)); exact HO_15.out) (Kd.R_base ho0) hb); have n2_ := Aside0.mk (Kd.R_elder' (by (with_reducible repeat (first | apply Kd.R_alloc | apply Kd.R_drewN | apply Kd.R_drew)); exact HO388.out) (Kd.R_base ho0) hb); have n3_ := Aside0.mk (Kd.R_elder' (by (with_reducible repeat (first | apply Kd.R_alloc | apply Kd.R_drewN | apply Kd.R_drew)); exact HO392.out) (Kd.R_base ho0) hb); have n4_ := Aside0.mk (Kd.R_lower (Kd.R_new' (Kd.R_new' (Kd.R_new' (Kd.R_new' ho0 (Kd.R_lt (by (with_reducible repeat (first | apply Kd.R_alloc | apply Kd.R_drewN | apply Kd.R_drew)); exact HO_7.out))) (Kd.R_lt (by (with_reducible repeat (first | apply Kd.R_alloc | apply Kd.R_drewN | apply Kd.R_drew)); exact HO_15.out))) (Kd.R_lt (by (with_reducible repeat (first | apply Kd.R_alloc | apply Kd.R_drewN | apply Kd.R_drew)); exact HO388.out))) (Kd.R_lt (by (with_reducible repeat (first | apply Kd.R_alloc | apply Kd.R_drewN | apply Kd.R_drew)); exact HO392.out))) (below_size (by repeat (first | (with_reducible first | exact HB.out | apply below_alloc | apply pw_below_drewN | apply below_drew1) | exact HB.out)))); have n5_ := Aside0.mk (below_step (by repeat (first | (with_reducible first | exact HB.out | apply below_alloc | apply pw_below_drewN | apply below_drew1) | exact HB.out)) hb); clear HO_7; clear HO_15; clear HO388; clear HO392; clear HB; have HO_7 := n0_; have HO_15 := n1_; have HO388 := n2_; have HO392 := n3_; have HO396 := n4_; have HB := n5_; clear n0_ n1_ n2_ n3_ n4_ n5_; (try clear hb); (try clear hb2); (try clear hk); (try clear hi); (try clear ho0)))
                        go_ret
                        exact ⟨by first | rfl | (simp [errW_none, errW_some] <;> rfl) | (simp [*, errW_none, errW_some] <;> rfl), by repeat (first | (with_reducible first | exact HB.out | apply below_alloc | apply pw_below_drewN | apply below_drew1) | exact HB.out)⟩
          · replace c61 := Bool.eq_false_iff.mpr c61
            subst c61
            have H1 : (some true) = some r := by rw [if_neg (show ¬ (false = true) by decide)] at H; exact H
            clear H
            have H := H1
            clear H1
            as_aux_lemma =>
              obtain rfl := Option.some.inj H
              go_wp2
              go_ret
              exact ⟨by first | rfl | (simp [errW_none, errW_some] <;> rfl) | (simp [*, errW_none, errW_some] <;> rfl), by repeat (first | (with_reducible first | exact HB.out | apply below_alloc | apply pw_below_drewN | apply below_drew1) | exact HB.out)⟩

/-- THE ONE PURE STATEMENT of laws_FnBruijnWords: yours. -/
def laws_FnBruijnWords.Pure : Prop := ∀ (l0 : List Int) (l1 : List Int), l0.length ≤ maxLen → l0.length * 1 ≤ 140737488351232 → (∀ x ∈ l0, (Lit.int .u8 x).wf = true) → l1.length ≤ maxLen → l1.length * 1 ≤ 140737488351232 → (∀ x ∈ l1, (Lit.int .u8 x).wf = true) → ∃ k, laws_FnBruijnWords.f k l0 l1 = some true
theorem laws_FnBruijnWords.walk (P : laws_FnBruijnWords.Pure) (a0 : Option Addr) (len0 cap0 : Nat) (z0 : List Int) (a1 : Option Addr) (len1 cap1 : Nat) (z1 : List Int) (w : World) (w0 : (a0 = none ∧ len0 = 0 ∧ cap0 = 0 ∧ z0 = []) ∨ ∃ x, a0 = some x ∧ len0 ≤ cap0 ∧ cap0 ≤ maxLen ∧ z0.length = cap0 ∧ (∀ i, i < z0.length → w.cell? (x.add i) = some (.int .u8 (z0.getD i 0))) ∧ ∀ n ∈ z0, (Lit.int .u8 n).wf = true) (y0 : len0 * 1 ≤ 140737488351232) (w1 : (a1 = none ∧ len1 = 0 ∧ cap1 = 0 ∧ z1 = []) ∨ ∃ x, a1 = some x ∧ len1 ≤ cap1 ∧ cap1 ≤ maxLen ∧ z1.length = cap1 ∧ (∀ i, i < z1.length → w.cell? (x.add i) = some (.int .u8 (z1.getD i 0))) ∧ ∀ n ∈ z1, (Lit.int .u8 n).wf = true) (y1 : len1 * 1 ≤ 140737488351232) :
    Calls Try.prog 11 #[.slice a0 len0 cap0, .slice a1 len1 cap1] w fun e w' => e = .returned (.bool true) ∧ Below w.heap.size w w' := by
  obtain ⟨l0, rfl, hr0, hm0, hw0, hc0⟩ := ReadsInt.ofRowC w0
  obtain ⟨l1, rfl, hr1, hm1, hw1, hc1⟩ := ReadsInt.ofRowC w1
  obtain ⟨k, h⟩ := P l0 l1 hm0 y0 hw0 hm1 y1 hw1
  refine (laws_FnBruijnWords.calls k _ _ l0 _ _ l1 true w (Kd.C_of_reads (d := (0 : Int)) (h1 := fun _ => rfl) hr0) hc0 (Kd.C_of_reads (d := (0 : Int)) (h1 := fun _ => rfl) hr1) hc1 h).mono ?_
  rintro e w' ⟨rfl, hd⟩
  exact ⟨rfl, hd⟩

end Go.Proofs.Ytdnbeekoefmbcaa.PFnBruijnWords
