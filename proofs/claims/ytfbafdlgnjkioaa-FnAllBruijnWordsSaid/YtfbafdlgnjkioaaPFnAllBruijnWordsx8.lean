-- Written for this claim by a copy of the print that meets some functions by contracts of this session.
import Derived.Test.YtfbafdlgnjkioaaPFnAllBruijnWordsx0
import Derived.Test.YtfbafdlgnjkioaaPFnAllBruijnWordsx1
import Derived.Test.YtfbafdlgnjkioaaPFnAllBruijnWordsx3
import Derived.Test.YtfbafdlgnjkioaaPFnAllBruijnWordsx5
import Derived.Test.YtfbafdlgnjkioaaPFnAllBruijnWordsx6
import Derived.Test.YtfbafdlgnjkioaaPFnAllBruijnWordsx7
namespace Go.Proofs.Ytfbafdlgnjkioaa.PFnAllBruijnWords
open Go.RowKit Go.Proofs.YtfbafdlgnjkioaaW.PrintWords Go.Proofs.YtfbafdlgnjkioaaW.PrintLast Go.Proofs.YtfbafdlgnjkioaaW.PrintMore
attribute [local go_sem] max2_int min2_int max_two min_two max_three min_three max_four min_four   -- for this text's walks alone
set_option linter.unusedVariables false
set_option linter.unusedSimpArgs false

/-! ### laws_FnAllBruijnWords: function 9 -/
mutual
def laws_FnAllBruijnWords.j0 : Nat → Int → Int → List (List Int) → Bool → Bool → Bool → Option (Bool)
  | 0, _, _, _, _, _, _ => none
  | k + 1, x5, x6, x7, x8, x10, x49 => if x49 = true then (some false) else ((impl_CountBruijn.f k x5 x6).bind fun bt302 => ((spec_CountBruijn.f k x5 x6).bind fun bt304 => (if (bt302.2 != bt304.2) = true then (laws_FnAllBruijnWords.j1 k x5 x6 x7 x10 bt302.1 true) else (if bt302.1 = bt304.1 then (if x8 = true then (if bt302.2 = true then (laws_FnAllBruijnWords.j1 k x5 x6 x7 x10 bt302.1 (x8 != (decide (bt302.1 ≤ 40)))) else (laws_FnAllBruijnWords.j1 k x5 x6 x7 x10 bt302.1 true)) else (if bt302.2 = true then (laws_FnAllBruijnWords.j1 k x5 x6 x7 x10 bt302.1 (x8 != (decide (bt302.1 ≤ 40)))) else (laws_FnAllBruijnWords.j1 k x5 x6 x7 x10 bt302.1 false))) else (laws_FnAllBruijnWords.j1 k x5 x6 x7 x10 bt302.1 true)))))
def laws_FnAllBruijnWords.j1 : Nat → Int → Int → List (List Int) → Bool → Int → Bool → Option (Bool)
  | 0, _, _, _, _, _, _ => none
  | k + 1, x5, x6, x7, x10, x11, x85 => if x85 = true then (some false) else (if x10 = true then ((impl_LeastBruijn.f k x5 x6).bind fun bt306 => (if bt306.2 = true then (if (x7.length : Int) = x11 then (if 0 < (x7.length : Int) then ((laws_tSame.f k (rd_L2 x7 0) bt306.1).bind fun t311 => (laws_FnAllBruijnWords.j2 k x5 x6 x7 (!t311))) else (none)) else (laws_FnAllBruijnWords.j2 k x5 x6 x7 true)) else (laws_FnAllBruijnWords.j2 k x5 x6 x7 true))) else (some true))
def laws_FnAllBruijnWords.j2 : Nat → Int → Int → List (List Int) → Bool → Option (Bool)
  | 0, _, _, _, _ => none
  | k + 1, x5, x6, x7, x109 => if x109 = true then (some false) else (laws_FnAllBruijnWords.l0 k x5 x6 x7 x7 (x7.length : Int) 0)
def laws_FnAllBruijnWords.l0 : Nat → Int → Int → List (List Int) → List (List Int) → Int → Int → Option (Bool)
  | 0, _, _, _, _, _, _ => none
  | k + 1, x5, x6, x7, x110, x111, x112 => if x112 < x111 then (if 0 ≤ x112 then (if x112 < (x110.length : Int) then ((impl_IsBruijn.f k (rd_L2 x110 x112) x5 x6).bind fun bt313 => (if bt313.2 = true then (if bt313.1 = true then (if 0 ≤ x5 then (if x5 ≤ ((rd_L2 x110 x112).length : Int) then ((laws_tSum.f k ((rd_L2 x110 x112).take (x5 : Int).toNat)).bind fun t320 => (if t320 = 0 then (if x112 > 0 then (if 0 ≤ (wrap64 (x112 - 1)) then (if (wrap64 (x112 - 1)) < (x7.length : Int) then ((laws_tLess.f k (rd_L2 x7 (wrap64 (x112 - 1))) (rd_L2 x110 x112)).bind fun t322 => (if t322 = true then (laws_FnAllBruijnWords.l0 k x5 x6 x7 x110 x111 (wrap64 (x112 + 1))) else (some false))) else (none)) else (none)) else (laws_FnAllBruijnWords.l0 k x5 x6 x7 x110 x111 (wrap64 (x112 + 1)))) else (some false))) else (none)) else (none)) else (some false)) else (some false))) else (none)) else (none)) else (some true)
end
def laws_FnAllBruijnWords.f (k : Nat) (l0 : List Int) (l1 : List Int) : Option (Bool) := (laws_big.f l0 l1).bind fun t290 => (if t290 = true then (some true) else ((spec_DrawAllBruijn.f l0).bind fun bt291 => ((impl_AllBruijn.f k bt291.1 bt291.2).bind fun bt293 => ((spec_AllBruijn.f k bt291.1 bt291.2).bind fun bt297 => (if (bt293.2 != bt297.2) = true then (laws_FnAllBruijnWords.j0 k bt291.1 bt291.2 bt293.1 bt293.2 bt297.2 true) else ((laws_tSameRows.f k bt293.1 bt297.1).bind fun t301 => (laws_FnAllBruijnWords.j0 k bt291.1 bt291.2 bt293.1 bt293.2 bt297.2 (!t301))))))))
theorem laws_FnAllBruijnWords.mono_l : ∀ k, (∀ y0 y1 y2 y3 y4 y5, LeO (laws_FnAllBruijnWords.j0 k y0 y1 y2 y3 y4 y5) (laws_FnAllBruijnWords.j0 (k + 1) y0 y1 y2 y3 y4 y5)) ∧ (∀ y0 y1 y2 y3 y4 y5, LeO (laws_FnAllBruijnWords.j1 k y0 y1 y2 y3 y4 y5) (laws_FnAllBruijnWords.j1 (k + 1) y0 y1 y2 y3 y4 y5)) ∧ (∀ y0 y1 y2 y3, LeO (laws_FnAllBruijnWords.j2 k y0 y1 y2 y3) (laws_FnAllBruijnWords.j2 (k + 1) y0 y1 y2 y3)) ∧ (∀ y0 y1 y2 y3 y4 y5, LeO (laws_FnAllBruijnWords.l0 k y0 y1 y2 y3 y4 y5) (laws_FnAllBruijnWords.l0 (k + 1) y0 y1 y2 y3 y4 y5))
  | 0 => ⟨fun _ _ _ _ _ _ r h => by simp [laws_FnAllBruijnWords.j0] at h, fun _ _ _ _ _ _ r h => by simp [laws_FnAllBruijnWords.j1] at h, fun _ _ _ _ r h => by simp [laws_FnAllBruijnWords.j2] at h, fun _ _ _ _ _ _ r h => by simp [laws_FnAllBruijnWords.l0] at h⟩
  | k + 1 => by
    obtain ⟨ih0, ih1, ih2, ih3⟩ := laws_FnAllBruijnWords.mono_l k
    refine ⟨?_, ?_, ?_, ?_⟩
    · intro y0 y1 y2 y3 y4 y5
      unfold laws_FnAllBruijnWords.j0
      repeat' first
      | (with_reducible exact ih0 _ _ _ _ _ _)
      | (with_reducible exact ih1 _ _ _ _ _ _)
      | (with_reducible exact ih2 _ _ _ _)
      | (with_reducible exact ih3 _ _ _ _ _ _)
      | (with_reducible exact impl_AllBruijn.mono _ _ _)
      | (with_reducible exact impl_CountBruijn.mono _ _ _)
      | (with_reducible exact impl_IsBruijn.mono _ _ _ _)
      | (with_reducible exact impl_LeastBruijn.mono _ _ _)
      | (with_reducible exact laws_tLess.mono _ _ _)
      | (with_reducible exact laws_tSame.mono _ _ _)
      | (with_reducible exact laws_tSameRows.mono _ _ _)
      | (with_reducible exact laws_tSum.mono _ _)
      | (with_reducible exact spec_AllBruijn.mono _ _ _)
      | (with_reducible exact spec_CountBruijn.mono _ _ _)
      | (with_reducible exact LeO.refl _)
      | (with_reducible exact LeO.none _)
      | (with_reducible refine LeO.ite ?_ ?_)
      | (with_reducible refine LeO.bind ?_ (fun _ => ?_))
      | exact ih0 _ _ _ _ _ _
      | exact ih1 _ _ _ _ _ _
      | exact ih2 _ _ _ _
      | exact ih3 _ _ _ _ _ _
      | exact impl_AllBruijn.mono _ _ _
      | exact impl_CountBruijn.mono _ _ _
      | exact impl_IsBruijn.mono _ _ _ _
      | exact impl_LeastBruijn.mono _ _ _
      | exact laws_tLess.mono _ _ _
      | exact laws_tSame.mono _ _ _
      | exact laws_tSameRows.mono _ _ _
      | exact laws_tSum.mono _ _
      | exact spec_AllBruijn.mono _ _ _
      | exact spec_CountBruijn.mono _ _ _
      | exact LeO.none _
      | refine LeO.ite ?_ ?_
      | refine LeO.bind ?_ (fun _ => ?_)
    · intro y0 y1 y2 y3 y4 y5
      unfold laws_FnAllBruijnWords.j1
      repeat' first
      | (with_reducible exact ih0 _ _ _ _ _ _)
      | (with_reducible exact ih1 _ _ _ _ _ _)
      | (with_reducible exact ih2 _ _ _ _)
      | (with_reducible exact ih3 _ _ _ _ _ _)
      | (with_reducible exact impl_AllBruijn.mono _ _ _)
      | (with_reducible exact impl_CountBruijn.mono _ _ _)
      | (with_reducible exact impl_IsBruijn.mono _ _ _ _)
      | (with_reducible exact impl_LeastBruijn.mono _ _ _)
      | (with_reducible exact laws_tLess.mono _ _ _)
      | (with_reducible exact laws_tSame.mono _ _ _)
      | (with_reducible exact laws_tSameRows.mono _ _ _)
      | (with_reducible exact laws_tSum.mono _ _)
      | (with_reducible exact spec_AllBruijn.mono _ _ _)
      | (with_reducible exact spec_CountBruijn.mono _ _ _)
      | (with_reducible exact LeO.refl _)
      | (with_reducible exact LeO.none _)
      | (with_reducible refine LeO.ite ?_ ?_)
      | (with_reducible refine LeO.bind ?_ (fun _ => ?_))
      | exact ih0 _ _ _ _ _ _
      | exact ih1 _ _ _ _ _ _
      | exact ih2 _ _ _ _
      | exact ih3 _ _ _ _ _ _
      | exact impl_AllBruijn.mono _ _ _
      | exact impl_CountBruijn.mono _ _ _
      | exact impl_IsBruijn.mono _ _ _ _
      | exact impl_LeastBruijn.mono _ _ _
      | exact laws_tLess.mono _ _ _
      | exact laws_tSame.mono _ _ _
      | exact laws_tSameRows.mono _ _ _
      | exact laws_tSum.mono _ _
      | exact spec_AllBruijn.mono _ _ _
      | exact spec_CountBruijn.mono _ _ _
      | exact LeO.none _
      | refine LeO.ite ?_ ?_
      | refine LeO.bind ?_ (fun _ => ?_)
    · intro y0 y1 y2 y3
      unfold laws_FnAllBruijnWords.j2
      repeat' first
      | (with_reducible exact ih0 _ _ _ _ _ _)
      | (with_reducible exact ih1 _ _ _ _ _ _)
      | (with_reducible exact ih2 _ _ _ _)
      | (with_reducible exact ih3 _ _ _ _ _ _)
      | (with_reducible exact impl_AllBruijn.mono _ _ _)
      | (with_reducible exact impl_CountBruijn.mono _ _ _)
      | (with_reducible exact impl_IsBruijn.mono _ _ _ _)
      | (with_reducible exact impl_LeastBruijn.mono _ _ _)
      | (with_reducible exact laws_tLess.mono _ _ _)
      | (with_reducible exact laws_tSame.mono _ _ _)
      | (with_reducible exact laws_tSameRows.mono _ _ _)
      | (with_reducible exact laws_tSum.mono _ _)
      | (with_reducible exact spec_AllBruijn.mono _ _ _)
      | (with_reducible exact spec_CountBruijn.mono _ _ _)
      | (with_reducible exact LeO.refl _)
      | (with_reducible exact LeO.none _)
      | (with_reducible refine LeO.ite ?_ ?_)
      | (with_reducible refine LeO.bind ?_ (fun _ => ?_))
      | exact ih0 _ _ _ _ _ _
      | exact ih1 _ _ _ _ _ _
      | exact ih2 _ _ _ _
      | exact ih3 _ _ _ _ _ _
      | exact impl_AllBruijn.mono _ _ _
      | exact impl_CountBruijn.mono _ _ _
      | exact impl_IsBruijn.mono _ _ _ _
      | exact impl_LeastBruijn.mono _ _ _
      | exact laws_tLess.mono _ _ _
      | exact laws_tSame.mono _ _ _
      | exact laws_tSameRows.mono _ _ _
      | exact laws_tSum.mono _ _
      | exact spec_AllBruijn.mono _ _ _
      | exact spec_CountBruijn.mono _ _ _
      | exact LeO.none _
      | refine LeO.ite ?_ ?_
      | refine LeO.bind ?_ (fun _ => ?_)
    · intro y0 y1 y2 y3 y4 y5
      unfold laws_FnAllBruijnWords.l0
      repeat' first
      | (with_reducible exact ih0 _ _ _ _ _ _)
      | (with_reducible exact ih1 _ _ _ _ _ _)
      | (with_reducible exact ih2 _ _ _ _)
      | (with_reducible exact ih3 _ _ _ _ _ _)
      | (with_reducible exact impl_AllBruijn.mono _ _ _)
      | (with_reducible exact impl_CountBruijn.mono _ _ _)
      | (with_reducible exact impl_IsBruijn.mono _ _ _ _)
      | (with_reducible exact impl_LeastBruijn.mono _ _ _)
      | (with_reducible exact laws_tLess.mono _ _ _)
      | (with_reducible exact laws_tSame.mono _ _ _)
      | (with_reducible exact laws_tSameRows.mono _ _ _)
      | (with_reducible exact laws_tSum.mono _ _)
      | (with_reducible exact spec_AllBruijn.mono _ _ _)
      | (with_reducible exact spec_CountBruijn.mono _ _ _)
      | (with_reducible exact LeO.refl _)
      | (with_reducible exact LeO.none _)
      | (with_reducible refine LeO.ite ?_ ?_)
      | (with_reducible refine LeO.bind ?_ (fun _ => ?_))
      | exact ih0 _ _ _ _ _ _
      | exact ih1 _ _ _ _ _ _
      | exact ih2 _ _ _ _
      | exact ih3 _ _ _ _ _ _
      | exact impl_AllBruijn.mono _ _ _
      | exact impl_CountBruijn.mono _ _ _
      | exact impl_IsBruijn.mono _ _ _ _
      | exact impl_LeastBruijn.mono _ _ _
      | exact laws_tLess.mono _ _ _
      | exact laws_tSame.mono _ _ _
      | exact laws_tSameRows.mono _ _ _
      | exact laws_tSum.mono _ _
      | exact spec_AllBruijn.mono _ _ _
      | exact spec_CountBruijn.mono _ _ _
      | exact LeO.none _
      | refine LeO.ite ?_ ?_
      | refine LeO.bind ?_ (fun _ => ?_)
theorem laws_FnAllBruijnWords.mono : ∀ a0 a1 k, LeO (laws_FnAllBruijnWords.f k a0 a1) (laws_FnAllBruijnWords.f (k + 1) a0 a1) := by
  intro a0 a1 k
  obtain ⟨ih0, ih1, ih2, ih3⟩ := laws_FnAllBruijnWords.mono_l k
  unfold laws_FnAllBruijnWords.f
  repeat' first
      | (with_reducible exact ih0 _ _ _ _ _ _)
      | (with_reducible exact ih1 _ _ _ _ _ _)
      | (with_reducible exact ih2 _ _ _ _)
      | (with_reducible exact ih3 _ _ _ _ _ _)
      | (with_reducible exact impl_AllBruijn.mono _ _ _)
      | (with_reducible exact impl_CountBruijn.mono _ _ _)
      | (with_reducible exact impl_IsBruijn.mono _ _ _ _)
      | (with_reducible exact impl_LeastBruijn.mono _ _ _)
      | (with_reducible exact laws_tLess.mono _ _ _)
      | (with_reducible exact laws_tSame.mono _ _ _)
      | (with_reducible exact laws_tSameRows.mono _ _ _)
      | (with_reducible exact laws_tSum.mono _ _)
      | (with_reducible exact spec_AllBruijn.mono _ _ _)
      | (with_reducible exact spec_CountBruijn.mono _ _ _)
      | (with_reducible exact LeO.refl _)
      | (with_reducible exact LeO.none _)
      | (with_reducible refine LeO.ite ?_ ?_)
      | (with_reducible refine LeO.bind ?_ (fun _ => ?_))
      | exact ih0 _ _ _ _ _ _
      | exact ih1 _ _ _ _ _ _
      | exact ih2 _ _ _ _
      | exact ih3 _ _ _ _ _ _
      | exact impl_AllBruijn.mono _ _ _
      | exact impl_CountBruijn.mono _ _ _
      | exact impl_IsBruijn.mono _ _ _ _
      | exact impl_LeastBruijn.mono _ _ _
      | exact laws_tLess.mono _ _ _
      | exact laws_tSame.mono _ _ _
      | exact laws_tSameRows.mono _ _ _
      | exact laws_tSum.mono _ _
      | exact spec_AllBruijn.mono _ _ _
      | exact spec_CountBruijn.mono _ _ _
      | exact LeO.none _
      | refine LeO.ite ?_ ?_
      | refine LeO.bind ?_ (fun _ => ?_)
set_option maxHeartbeats 8000000 in
set_option maxRecDepth 100000 in
theorem laws_FnAllBruijnWords.calls (k : Nat) (A0 : Option Addr) (c0 : Nat) (l0 : List Int) (A1 : Option Addr) (c1 : Nat) (l1 : List Int) (r : Bool) (w : World) (hr0 : Kd.C (Kd.int .u8) w A0 l0.length l0) (hc0 : l0.length ≤ c0) (hr1 : Kd.C (Kd.int .u8) w A1 l1.length l1) (hc1 : l1.length ≤ c1) (h : laws_FnAllBruijnWords.f k l0 l1 = some r) :
    Calls Try.prog 9 #[.slice A0 l0.length c0, .slice A1 l1.length c1] w fun e w' => e = .returned (.bool r) ∧ Below w.heap.size w w' := by
  have HR0 := Aside0.mk hr0
  have HC0 := Aside0.mk hc0
  clear hr0 hc0
  have HR1 := Aside0.mk hr1
  have HC1 := Aside0.mk hc1
  clear hr1 hc1
  have HB := Aside0.mk (Below.refl w.heap.size w)
  have H : ((laws_big.f l0 l1).bind fun t290 => (if t290 = true then (some true) else ((spec_DrawAllBruijn.f l0).bind fun bt291 => ((impl_AllBruijn.f k bt291.1 bt291.2).bind fun bt293 => ((spec_AllBruijn.f k bt291.1 bt291.2).bind fun bt297 => (if (bt293.2 != bt297.2) = true then (laws_FnAllBruijnWords.j0 k bt291.1 bt291.2 bt293.1 bt293.2 bt297.2 true) else ((laws_tSameRows.f k bt293.1 bt297.1).bind fun t301 => (laws_FnAllBruijnWords.j0 k bt291.1 bt291.2 bt293.1 bt293.2 bt297.2 (!t301))))))))) = some r := h
  clear h
  replace H := Option.bind_eq_some_iff.mp H
  obtain ⟨t290, A30, H⟩ := H
  replace H : (if t290 = true then (some true) else ((spec_DrawAllBruijn.f l0).bind fun bt291 => ((impl_AllBruijn.f k bt291.1 bt291.2).bind fun bt293 => ((spec_AllBruijn.f k bt291.1 bt291.2).bind fun bt297 => (if (bt293.2 != bt297.2) = true then (laws_FnAllBruijnWords.j0 k bt291.1 bt291.2 bt293.1 bt293.2 bt297.2 true) else ((laws_tSameRows.f k bt293.1 bt297.1).bind fun t301 => (laws_FnAllBruijnWords.j0 k bt291.1 bt291.2 bt293.1 bt293.2 bt297.2 (!t301)))))))) = some r := H
  have A3 := Aside0.mk A30
  clear A30
  by_cases c4 : t290 = true
  · subst c4
    have H1 : (some true) = some r := by rw [if_pos rfl] at H; exact H
    clear H
    have H := H1
    clear H1
    obtain rfl := Option.some.inj H
    go_enter Try.func9, Try.ntmps9
    go_wp2_with (first | ((with_reducible refine gate_callee (f := 19) rfl ?_); refine goesL_ (some 23) rfl rfl Try.func19 (by kernel_rfl) rfl #[.slice A0 l0.length c0, .slice A1 l1.length c1] rfl (by (try simp only [List.map_toArray, List.map_cons, List.map_nil]); first | done | rfl | (simp only [List.length_drop, List.length_take]; rfl)) ?_; (with_reducible refine (laws_big.calls _ _ l0 _ _ l1 true _ ?side1 ?side2 ?side3 ?side4 A3.out).mono ?_); (case side1 => repeat (first | exact HR0.out | (with_reducible refine Kd.C_alloc ?_ _) | (with_reducible refine Kd.C_drewN ?_ _) | (with_reducible refine Kd.C_drew ?_))); (case side2 => exact HC0.out); (case side3 => repeat (first | exact HR1.out | (with_reducible refine Kd.C_alloc ?_ _) | (with_reducible refine Kd.C_drewN ?_ _) | (with_reducible refine Kd.C_drew ?_))); (case side4 => exact HC1.out); rintro e w' ⟨rfl, ⟨nd, rfl⟩⟩; refine ⟨_, rfl, ?_⟩))
    go_ret
    exact ⟨by first | rfl | (simp [errW_none, errW_some] <;> rfl) | (simp [*, errW_none, errW_some] <;> rfl), by repeat (first | (with_reducible first | exact HB.out | apply below_alloc | apply pw_below_drewN | apply below_drew1) | exact HB.out)⟩
  · replace c4 := Bool.eq_false_iff.mpr c4
    subst c4
    have H1 : ((spec_DrawAllBruijn.f l0).bind fun bt291 => ((impl_AllBruijn.f k bt291.1 bt291.2).bind fun bt293 => ((spec_AllBruijn.f k bt291.1 bt291.2).bind fun bt297 => (if (bt293.2 != bt297.2) = true then (laws_FnAllBruijnWords.j0 k bt291.1 bt291.2 bt293.1 bt293.2 bt297.2 true) else ((laws_tSameRows.f k bt293.1 bt297.1).bind fun t301 => (laws_FnAllBruijnWords.j0 k bt291.1 bt291.2 bt293.1 bt293.2 bt297.2 (!t301))))))) = some r := by rw [if_neg (show ¬ (false = true) by decide)] at H; exact H
    clear H
    have H := H1
    clear H1
    replace H := Option.bind_eq_some_iff.mp H
    obtain ⟨⟨t291, t292⟩, A50, H⟩ := H
    replace H : ((impl_AllBruijn.f k t291 t292).bind fun bt293 => ((spec_AllBruijn.f k t291 t292).bind fun bt297 => (if (bt293.2 != bt297.2) = true then (laws_FnAllBruijnWords.j0 k t291 t292 bt293.1 bt293.2 bt297.2 true) else ((laws_tSameRows.f k bt293.1 bt297.1).bind fun t301 => (laws_FnAllBruijnWords.j0 k t291 t292 bt293.1 bt293.2 bt297.2 (!t301)))))) = some r := H
    have A5 := Aside0.mk A50
    clear A50
    replace H := Option.bind_eq_some_iff.mp H
    obtain ⟨⟨t293, t294⟩, A60, H⟩ := H
    replace H : ((spec_AllBruijn.f k t291 t292).bind fun bt297 => (if (t294 != bt297.2) = true then (laws_FnAllBruijnWords.j0 k t291 t292 t293 t294 bt297.2 true) else ((laws_tSameRows.f k t293 bt297.1).bind fun t301 => (laws_FnAllBruijnWords.j0 k t291 t292 t293 t294 bt297.2 (!t301))))) = some r := H
    have A6 := Aside0.mk A60
    clear A60
    replace H := Option.bind_eq_some_iff.mp H
    obtain ⟨⟨t297, t300⟩, A70, H⟩ := H
    replace H : (if (t294 != t300) = true then (laws_FnAllBruijnWords.j0 k t291 t292 t293 t294 t300 true) else ((laws_tSameRows.f k t293 t297).bind fun t301 => (laws_FnAllBruijnWords.j0 k t291 t292 t293 t294 t300 (!t301)))) = some r := H
    have A7 := Aside0.mk A70
    clear A70
    have HC8 := Aside0.mk H
    clear H
    go_enter Try.func9, Try.ntmps9
    go_upto_region 6 with (first | ((with_reducible refine gate_callee (f := 19) rfl ?_); refine goesL_ (some 23) rfl rfl Try.func19 (by kernel_rfl) rfl #[.slice A0 l0.length c0, .slice A1 l1.length c1] rfl (by (try simp only [List.map_toArray, List.map_cons, List.map_nil]); first | done | rfl | (simp only [List.length_drop, List.length_take]; rfl)) ?_; (with_reducible refine (laws_big.calls _ _ l0 _ _ l1 false _ ?side1 ?side2 ?side3 ?side4 A3.out).mono ?_); (case side1 => repeat (first | exact HR0.out | (with_reducible refine Kd.C_alloc ?_ _) | (with_reducible refine Kd.C_drewN ?_ _) | (with_reducible refine Kd.C_drew ?_))); (case side2 => exact HC0.out); (case side3 => repeat (first | exact HR1.out | (with_reducible refine Kd.C_alloc ?_ _) | (with_reducible refine Kd.C_drewN ?_ _) | (with_reducible refine Kd.C_drew ?_))); (case side4 => exact HC1.out); rintro e w' ⟨rfl, ⟨nd, rfl⟩⟩; refine ⟨_, rfl, ?_⟩) | ((with_reducible refine gate_callee (f := 56) rfl ?_); refine goesL_ (some 26) rfl rfl Try.func56 (by kernel_rfl) rfl #[.slice A0 l0.length c0] rfl (by (try simp only [List.map_toArray, List.map_cons, List.map_nil]); first | done | rfl | (simp only [List.length_drop, List.length_take]; rfl)) ?_; (with_reducible refine (spec_DrawAllBruijn.calls _ _ l0 t291 t292 _ ?side1 ?side2 A5.out).mono ?_); (case side1 => repeat (first | exact HR0.out | (with_reducible refine Kd.C_alloc ?_ _) | (with_reducible refine Kd.C_drewN ?_ _) | (with_reducible refine Kd.C_drew ?_))); (case side2 => exact HC0.out); rintro e w9 ⟨rfl, hb⟩; refine ⟨_, rfl, ?_⟩; have n0_ := Aside0.mk (below_step (by repeat (first | (with_reducible first | exact HB.out | apply below_alloc | apply pw_below_drewN | apply below_drew1) | exact HB.out)) hb); clear HB; have HB := n0_; clear n0_; (try clear hb); (try clear hb2); (try clear hk); (try clear hi)) | ((with_reducible refine gate_callee (f := 52) rfl ?_); refine goesL_ (some 32) rfl rfl Try.func52 (by kernel_rfl) rfl #[.int .i64 t291, .int .i64 t292] rfl (by (try simp only [List.map_toArray, List.map_cons, List.map_nil]); first | done | rfl | (simp only [List.length_drop, List.length_take]; rfl)) ?_; (with_reducible refine (impl_AllBruijn.calls k t291 t292 t293 t294 _ A6.out).mono ?_); rintro e w10 ⟨v295, rfl, ho0, hb⟩; refine ⟨_, rfl, ?_⟩; have n0_ := Aside0.mk (Kd.N_lower (Kd.N_mono (ok' := fun k_ => True) (Kd.S_N (Kd.S_bound ho0)) (fun k_ hk_ => trivial)) (below_size (by repeat (first | (with_reducible first | exact HB.out | apply below_alloc | apply pw_below_drewN | apply below_drew1) | exact HB.out)))); have n1_ := Aside0.mk (below_step (by repeat (first | (with_reducible first | exact HB.out | apply below_alloc | apply pw_below_drewN | apply below_drew1) | exact HB.out)) hb); clear HB; have HO296 := n0_; have HB := n1_; clear n0_ n1_; (try clear hb); (try clear hb2); (try clear hk); (try clear hi); (try clear ho0)) | ((with_reducible refine gate_callee (f := 51) rfl ?_); refine goesL_ (some 38) rfl rfl Try.func51 (by kernel_rfl) rfl #[.int .i64 t291, .int .i64 t292] rfl (by (try simp only [List.map_toArray, List.map_cons, List.map_nil]); first | done | rfl | (simp only [List.length_drop, List.length_take]; rfl)) ?_; (with_reducible refine (spec_AllBruijn.calls k t291 t292 t297 t300 _ A7.out).mono ?_); rintro e w11 ⟨v298, rfl, ho0, hb⟩; refine ⟨_, rfl, ?_⟩; have n0_ := Aside0.mk (Kd.N_elder' (by (with_reducible repeat (first | apply Kd.N_alloc | apply Kd.N_drewN | apply Kd.N_drew)); exact HO296.out) (Kd.N_base ho0) hb); have n1_ := Aside0.mk (Kd.N_lower (Kd.N_mono (ok' := fun k_ => some k_ ≠ (v295 : Value).ownBlock) ho0 (fun k_ hk_ => (Kd.fresh' (Kd.N_lt (by (with_reducible repeat (first | apply Kd.N_alloc | apply Kd.N_drewN | apply Kd.N_drew)); exact HO296.out)) k_ hk_))) (below_size (by repeat (first | (with_reducible first | exact HB.out | apply below_alloc | apply pw_below_drewN | apply below_drew1) | exact HB.out)))); have n2_ := Aside0.mk (below_step (by repeat (first | (with_reducible first | exact HB.out | apply below_alloc | apply pw_below_drewN | apply below_drew1) | exact HB.out)) hb); clear HO296; clear HB; have HO296 := n0_; have HO299 := n1_; have HB := n2_; clear n0_ n1_ n2_; (try clear hb); (try clear hb2); (try clear hk); (try clear hi); (try clear ho0)))
    (try simp only [Act.put, List.setIfInBounds_toArray, List.set_cons_zero, List.set_cons_succ])
    go_cut [49] (fun v49 wc => ∃ (kq : Nat) (x49_7 : Bool), v49 = .bool x49_7 ∧ Aside0 (laws_FnAllBruijnWords.j0 kq t291 t292 t293 t294 t300 x49_7 = some r) ∧ Aside0 (kq ≤ k) ∧ Aside0 (Kd.N (Kd.slice 3 (Kd.int .i64)) 44 wc w.heap.size (fun _ => True) v295 t293) ∧ Aside0 (Below w.heap.size w wc))
    case first =>
      have H := HC8.out
      clear HC8
      by_cases c12 : (t294 != t300) = true
      · rw [if_pos c12] at H
        have c12b0 : (t294 != t300) = true := c12
        (try (have c12b1 : decide (t294 = t300) = false := by simpa using c12))
        (try (have c12b2 : (t294 == t300) = false := by simpa using c12))
        (try (have c12b3 : ¬ (t294 = t300) := by simpa using c12))
        clear c12
        (first | rw [c12b0] | (simp only [i64_w, i32_w]; rw [c12b0]) | skip)
        have H' := Aside0.mk H
        clear H
        go_wp2
        go_meet
        case rel => exact ⟨_, (true), (by first | rfl | (simp; done) | (simp [*]; done)), H', ⟨by first | omega | exact Nat.le_refl _⟩, ⟨by (with_reducible repeat (first | apply Kd.N_alloc | apply Kd.N_drewN | apply Kd.N_drew)); exact Kd.N_mono HO296.out (fun _ hk => trivial)⟩, ⟨by repeat (first | (with_reducible first | exact HB.out | apply below_alloc | apply pw_below_drewN | apply below_drew1) | exact HB.out)⟩⟩
      · rw [if_neg c12] at H
        have c12b0 : (t294 != t300) = false := by simpa using c12
        (try (have c12b1 : decide (t294 = t300) = true := by simpa using c12))
        (try (have c12b2 : (t294 == t300) = true := by simpa using c12))
        clear c12
        (first | rw [c12b0] | (simp only [i64_w, i32_w]; rw [c12b0]) | skip)
        replace H := Option.bind_eq_some_iff.mp H
        obtain ⟨t301, A130, H⟩ := H
        replace H : (laws_FnAllBruijnWords.j0 k t291 t292 t293 t294 t300 (!t301)) = some r := H
        have A13 := Aside0.mk A130
        clear A130
        have H' := Aside0.mk H
        clear H
        obtain ⟨Ao14, co14, eo14⟩ := Kd.N_slice HO296.out
        subst eo14
        obtain ⟨Ao15, co15, eo15⟩ := Kd.N_slice HO299.out
        subst eo15
        go_wp2_with (first | (go_at_call 23; (with_reducible refine (laws_tSameRows.calls k _ _ t293 _ _ t297 t301 _ ?side1 ?side2 ?side3 ?side4 A13.out).mono ?_); (case side1 => repeat (first | exact (Kd.N_reads' HO296.out).2.2 | (with_reducible refine Kd.C_alloc ?_ _) | (with_reducible refine Kd.C_drewN ?_ _) | (with_reducible refine Kd.C_drew ?_))); (case side2 => exact (Kd.N_reads' HO296.out).2.1); (case side3 => repeat (first | exact (Kd.N_reads' HO299.out).2.2 | (with_reducible refine Kd.C_alloc ?_ _) | (with_reducible refine Kd.C_drewN ?_ _) | (with_reducible refine Kd.C_drew ?_))); (case side4 => exact (Kd.N_reads' HO299.out).2.1); rintro e w' ⟨rfl, ⟨nd, rfl⟩⟩))
        go_meet
        case rel => exact ⟨_, (!t301), (by first | rfl | (simp; done) | (simp [*]; done)), H', ⟨by first | omega | exact Nat.le_refl _⟩, ⟨by (with_reducible repeat (first | apply Kd.N_alloc | apply Kd.N_drewN | apply Kd.N_drew)); exact Kd.N_mono HO296.out (fun _ hk => trivial)⟩, ⟨by repeat (first | (with_reducible first | exact HB.out | apply below_alloc | apply pw_below_drewN | apply below_drew1) | exact HB.out)⟩⟩
    case rest =>
      clear HC8
      try clear c1
      try clear p2
      try clear c4
      try clear c5
      try clear c9
      try clear c12
      try clear c12b0
      try clear c12b1
      try clear c12b2
      obtain ⟨kq, x49_7, rfl, HA, HJ7, HO_7, HB⟩ := hcut
      cases kq with
      | zero => exact absurd HA.out (by simp [laws_FnAllBruijnWords.j0])
      | succ kj7 =>
        have H := HA.out
        clear HA
        simp only [laws_FnAllBruijnWords.j0] at H
        by_cases c16 : x49_7 = true
        · subst c16
          have H1 : (some false) = some r := by rw [if_pos rfl] at H; exact H
          clear H
          have H := H1
          clear H1
          obtain rfl := Option.some.inj H
          go_wp2
          go_ret
          exact ⟨by first | rfl | (simp [errW_none, errW_some] <;> rfl) | (simp [*, errW_none, errW_some] <;> rfl), by repeat (first | (with_reducible first | exact HB.out | apply below_alloc | apply pw_below_drewN | apply below_drew1) | exact HB.out)⟩
        · replace c16 := Bool.eq_false_iff.mpr c16
          subst c16
          have H1 : ((impl_CountBruijn.f kj7 t291 t292).bind fun bt302 => ((spec_CountBruijn.f kj7 t291 t292).bind fun bt304 => (if (bt302.2 != bt304.2) = true then (laws_FnAllBruijnWords.j1 kj7 t291 t292 t293 t300 bt302.1 true) else (if bt302.1 = bt304.1 then (if t294 = true then (if bt302.2 = true then (laws_FnAllBruijnWords.j1 kj7 t291 t292 t293 t300 bt302.1 (t294 != (decide (bt302.1 ≤ 40)))) else (laws_FnAllBruijnWords.j1 kj7 t291 t292 t293 t300 bt302.1 true)) else (if bt302.2 = true then (laws_FnAllBruijnWords.j1 kj7 t291 t292 t293 t300 bt302.1 (t294 != (decide (bt302.1 ≤ 40)))) else (laws_FnAllBruijnWords.j1 kj7 t291 t292 t293 t300 bt302.1 false))) else (laws_FnAllBruijnWords.j1 kj7 t291 t292 t293 t300 bt302.1 true))))) = some r := by rw [if_neg (show ¬ (false = true) by decide)] at H; exact H
          clear H
          have H := H1
          clear H1
          replace H := Option.bind_eq_some_iff.mp H
          obtain ⟨⟨t302, t303⟩, A170, H⟩ := H
          replace H : ((spec_CountBruijn.f kj7 t291 t292).bind fun bt304 => (if (t303 != bt304.2) = true then (laws_FnAllBruijnWords.j1 kj7 t291 t292 t293 t300 t302 true) else (if t302 = bt304.1 then (if t294 = true then (if t303 = true then (laws_FnAllBruijnWords.j1 kj7 t291 t292 t293 t300 t302 (t294 != (decide (t302 ≤ 40)))) else (laws_FnAllBruijnWords.j1 kj7 t291 t292 t293 t300 t302 true)) else (if t303 = true then (laws_FnAllBruijnWords.j1 kj7 t291 t292 t293 t300 t302 (t294 != (decide (t302 ≤ 40)))) else (laws_FnAllBruijnWords.j1 kj7 t291 t292 t293 t300 t302 false))) else (laws_FnAllBruijnWords.j1 kj7 t291 t292 t293 t300 t302 true)))) = some r := H
          have A17 := Aside0.mk A170
          clear A170
          replace H := Option.bind_eq_some_iff.mp H
          obtain ⟨⟨t304, t305⟩, A180, H⟩ := H
          replace H : (if (t303 != t305) = true then (laws_FnAllBruijnWords.j1 kj7 t291 t292 t293 t300 t302 true) else (if t302 = t304 then (if t294 = true then (if t303 = true then (laws_FnAllBruijnWords.j1 kj7 t291 t292 t293 t300 t302 (t294 != (decide (t302 ≤ 40)))) else (laws_FnAllBruijnWords.j1 kj7 t291 t292 t293 t300 t302 true)) else (if t303 = true then (laws_FnAllBruijnWords.j1 kj7 t291 t292 t293 t300 t302 (t294 != (decide (t302 ≤ 40)))) else (laws_FnAllBruijnWords.j1 kj7 t291 t292 t293 t300 t302 false))) else (laws_FnAllBruijnWords.j1 kj7 t291 t292 t293 t300 t302 true))) = some r := H
          have A18 := Aside0.mk A180
          clear A180
          have HC19 := Aside0.mk H
          clear H
          go_upto_region 10 with (first | ((with_reducible refine gate_callee (f := 57) rfl ?_); refine goesL_ (some 53) rfl rfl Try.func57 (by kernel_rfl) rfl #[.int .i64 t291, .int .i64 t292] rfl (by (try simp only [List.map_toArray, List.map_cons, List.map_nil]); first | done | rfl | (simp only [List.length_drop, List.length_take]; rfl)) ?_; (with_reducible refine (impl_CountBruijn.calls kj7 t291 t292 t302 t303 _ A17.out).mono ?_); rintro e w20 ⟨rfl, hb⟩; refine ⟨_, rfl, ?_⟩; have n0_ := Aside0.mk (Kd.N_below (by (with_reducible repeat (first | apply Kd.N_alloc | apply Kd.N_drewN | apply Kd.N_drew)); exact HO_7.out) hb); have n1_ := Aside0.mk (below_step (by repeat (first | (with_reducible first | exact HB.out | apply below_alloc | apply pw_below_drewN | apply below_drew1) | exact HB.out)) hb); clear HO_7; clear HB; have HO_7 := n0_; have HB := n1_; clear n0_ n1_; (try clear hb); (try clear hb2); (try clear hk); (try clear hi)) | ((with_reducible refine gate_callee (f := 58) rfl ?_); refine goesL_ (some 59) rfl rfl Try.func58 (by kernel_rfl) rfl #[.int .i64 t291, .int .i64 t292] rfl (by (try simp only [List.map_toArray, List.map_cons, List.map_nil]); first | done | rfl | (simp only [List.length_drop, List.length_take]; rfl)) ?_; (with_reducible refine (spec_CountBruijn.calls kj7 t291 t292 t304 t305 _ A18.out).mono ?_); rintro e w' ⟨rfl, ⟨nd, rfl⟩⟩; refine ⟨_, rfl, ?_⟩))
          (try simp only [Act.put, List.setIfInBounds_toArray, List.set_cons_zero, List.set_cons_succ])
          go_cut [85] (fun v85 wc => ∃ (kq : Nat) (x85_18 : Bool), v85 = .bool x85_18 ∧ Aside0 (laws_FnAllBruijnWords.j1 kq t291 t292 t293 t300 t302 x85_18 = some r) ∧ Aside0 (kq ≤ kj7) ∧ Aside0 (Kd.N (Kd.slice 3 (Kd.int .i64)) 44 wc w.heap.size (fun _ => True) v295 t293) ∧ Aside0 (Below w.heap.size w wc))
          case first =>
            have H := HC19.out
            clear HC19
            by_cases c21 : (t303 != t305) = true
            · rw [if_pos c21] at H
              have c21b0 : (t303 != t305) = true := c21
              (try (have c21b1 : decide (t303 = t305) = false := by simpa using c21))
              (try (have c21b2 : (t303 == t305) = false := by simpa using c21))
              (try (have c21b3 : ¬ (t303 = t305) := by simpa using c21))
              clear c21
              (first | rw [c21b0] | (simp only [i64_w, i32_w]; rw [c21b0]) | skip)
              have H' := Aside0.mk H
              clear H
              go_wp2
              go_meet
              case rel => exact ⟨_, (true), (by first | rfl | (simp; done) | (simp [*]; done)), H', ⟨by have := HJ7.out; first | omega | exact Nat.le_refl _⟩, ⟨by (with_reducible repeat (first | apply Kd.N_alloc | apply Kd.N_drewN | apply Kd.N_drew)); exact HO_7.out⟩, ⟨by repeat (first | (with_reducible first | exact HB.out | apply below_alloc | apply pw_below_drewN | apply below_drew1) | exact HB.out)⟩⟩
            · rw [if_neg c21] at H
              have c21b0 : (t303 != t305) = false := by simpa using c21
              (try (have c21b1 : decide (t303 = t305) = true := by simpa using c21))
              (try (have c21b2 : (t303 == t305) = true := by simpa using c21))
              clear c21
              (first | rw [c21b0] | (simp only [i64_w, i32_w]; rw [c21b0]) | skip)
              by_cases c22 : t302 = t304
              · rw [if_pos c22] at H
                have c22b0 : (t302 == t304) = true := beq_iff_eq.mpr c22
                have c22b1 : (t302 != t304) = false := bne_eq_false_iff_eq.mpr c22
                clear c22
                by_cases c23 : t294 = true
                · subst c23
                  have H1 : (if t303 = true then (laws_FnAllBruijnWords.j1 kj7 t291 t292 t293 t300 t302 (true != (decide (t302 ≤ 40)))) else (laws_FnAllBruijnWords.j1 kj7 t291 t292 t293 t300 t302 true)) = some r := by rw [if_pos rfl] at H; exact H
                  clear H
                  have H := H1
                  clear H1
                  by_cases c24 : t303 = true
                  · subst c24
                    have H1 : (laws_FnAllBruijnWords.j1 kj7 t291 t292 t293 t300 t302 (true != (decide (t302 ≤ 40)))) = some r := by rw [if_pos rfl] at H; exact H
                    clear H
                    have H := H1
                    clear H1
                    have H' := Aside0.mk H
                    clear H
                    go_wp2
                    go_meet
                    case rel => exact ⟨_, ((true != (decide (t302 ≤ 40)))), (by first | rfl | (simp; done) | (simp [*]; done)), H', ⟨by have := HJ7.out; first | omega | exact Nat.le_refl _⟩, ⟨by (with_reducible repeat (first | apply Kd.N_alloc | apply Kd.N_drewN | apply Kd.N_drew)); exact HO_7.out⟩, ⟨by repeat (first | (with_reducible first | exact HB.out | apply below_alloc | apply pw_below_drewN | apply below_drew1) | exact HB.out)⟩⟩
                  · replace c24 := Bool.eq_false_iff.mpr c24
                    subst c24
                    have H1 : (laws_FnAllBruijnWords.j1 kj7 t291 t292 t293 t300 t302 true) = some r := by rw [if_neg (show ¬ (false = true) by decide)] at H; exact H
                    clear H
                    have H := H1
                    clear H1
                    have H' := Aside0.mk H
                    clear H
                    go_wp2
                    go_meet
                    case rel => exact ⟨_, (true), (by first | rfl | (simp; done) | (simp [*]; done)), H', ⟨by have := HJ7.out; first | omega | exact Nat.le_refl _⟩, ⟨by (with_reducible repeat (first | apply Kd.N_alloc | apply Kd.N_drewN | apply Kd.N_drew)); exact HO_7.out⟩, ⟨by repeat (first | (with_reducible first | exact HB.out | apply below_alloc | apply pw_below_drewN | apply below_drew1) | exact HB.out)⟩⟩
                · replace c23 := Bool.eq_false_iff.mpr c23
                  subst c23
                  have H1 : (if t303 = true then (laws_FnAllBruijnWords.j1 kj7 t291 t292 t293 t300 t302 (false != (decide (t302 ≤ 40)))) else (laws_FnAllBruijnWords.j1 kj7 t291 t292 t293 t300 t302 false)) = some r := by rw [if_neg (show ¬ (false = true) by decide)] at H; exact H
                  clear H
                  have H := H1
                  clear H1
                  by_cases c25 : t303 = true
                  · subst c25
                    have H1 : (laws_FnAllBruijnWords.j1 kj7 t291 t292 t293 t300 t302 (false != (decide (t302 ≤ 40)))) = some r := by rw [if_pos rfl] at H; exact H
                    clear H
                    have H := H1
                    clear H1
                    have H' := Aside0.mk H
                    clear H
                    go_wp2
                    go_meet
                    case rel => exact ⟨_, ((false != (decide (t302 ≤ 40)))), (by first | rfl | (simp; done) | (simp [*]; done)), H', ⟨by have := HJ7.out; first | omega | exact Nat.le_refl _⟩, ⟨by (with_reducible repeat (first | apply Kd.N_alloc | apply Kd.N_drewN | apply Kd.N_drew)); exact HO_7.out⟩, ⟨by repeat (first | (with_reducible first | exact HB.out | apply below_alloc | apply pw_below_drewN | apply below_drew1) | exact HB.out)⟩⟩
                  · replace c25 := Bool.eq_false_iff.mpr c25
                    subst c25
                    have H1 : (laws_FnAllBruijnWords.j1 kj7 t291 t292 t293 t300 t302 false) = some r := by rw [if_neg (show ¬ (false = true) by decide)] at H; exact H
                    clear H
                    have H := H1
                    clear H1
                    have H' := Aside0.mk H
                    clear H
                    go_wp2
                    go_meet
                    case rel => exact ⟨_, (false), (by first | rfl | (simp; done) | (simp [*]; done)), H', ⟨by have := HJ7.out; first | omega | exact Nat.le_refl _⟩, ⟨by (with_reducible repeat (first | apply Kd.N_alloc | apply Kd.N_drewN | apply Kd.N_drew)); exact HO_7.out⟩, ⟨by repeat (first | (with_reducible first | exact HB.out | apply below_alloc | apply pw_below_drewN | apply below_drew1) | exact HB.out)⟩⟩
              · rw [if_neg c22] at H
                have c22b0 : (t302 == t304) = false := beq_eq_false_iff_ne.mpr c22
                have c22b1 : (t302 != t304) = true := bne_iff_ne.mpr c22
                have H' := Aside0.mk H
                clear H
                go_wp2
                go_meet
                case rel => exact ⟨_, (true), (by first | rfl | (simp; done) | (simp [*]; done)), H', ⟨by have := HJ7.out; first | omega | exact Nat.le_refl _⟩, ⟨by (with_reducible repeat (first | apply Kd.N_alloc | apply Kd.N_drewN | apply Kd.N_drew)); exact HO_7.out⟩, ⟨by repeat (first | (with_reducible first | exact HB.out | apply below_alloc | apply pw_below_drewN | apply below_drew1) | exact HB.out)⟩⟩
          case rest =>
            clear HC19
            try clear c1
            try clear c2
            try clear p2
            try clear c4
            try clear c5
            try clear c9
            try clear c12
            try clear c12b0
            try clear c12b1
            try clear c12b2
            try clear c16
            try clear c19
            try clear c21
            try clear c21b0
            try clear c21b1
            try clear c21b2
            try clear c22
            try clear c22b0
            try clear c22b1
            try clear c23
            try clear c24
            try clear c25
            try clear p2
            obtain ⟨kq, x85_18, rfl, HA, HJ18, HO_7, HB⟩ := hcut
            cases kq with
            | zero => exact absurd HA.out (by simp [laws_FnAllBruijnWords.j1])
            | succ kj18 =>
              have H := HA.out
              clear HA
              simp only [laws_FnAllBruijnWords.j1] at H
              by_cases c26 : x85_18 = true
              · subst c26
                have H1 : (some false) = some r := by rw [if_pos rfl] at H; exact H
                clear H
                have H := H1
                clear H1
                obtain rfl := Option.some.inj H
                go_wp2
                go_ret
                exact ⟨by first | rfl | (simp [errW_none, errW_some] <;> rfl) | (simp [*, errW_none, errW_some] <;> rfl), by repeat (first | (with_reducible first | exact HB.out | apply below_alloc | apply pw_below_drewN | apply below_drew1) | exact HB.out)⟩
              · replace c26 := Bool.eq_false_iff.mpr c26
                subst c26
                have H1 : (if t300 = true then ((impl_LeastBruijn.f kj18 t291 t292).bind fun bt306 => (if bt306.2 = true then (if (t293.length : Int) = t302 then (if 0 < (t293.length : Int) then ((laws_tSame.f kj18 (rd_L2 t293 0) bt306.1).bind fun t311 => (laws_FnAllBruijnWords.j2 kj18 t291 t292 t293 (!t311))) else (none)) else (laws_FnAllBruijnWords.j2 kj18 t291 t292 t293 true)) else (laws_FnAllBruijnWords.j2 kj18 t291 t292 t293 true))) else (some true)) = some r := by rw [if_neg (show ¬ (false = true) by decide)] at H; exact H
                clear H
                have H := H1
                clear H1
                by_cases c27 : t300 = true
                · subst c27
                  have H1 : ((impl_LeastBruijn.f kj18 t291 t292).bind fun bt306 => (if bt306.2 = true then (if (t293.length : Int) = t302 then (if 0 < (t293.length : Int) then ((laws_tSame.f kj18 (rd_L2 t293 0) bt306.1).bind fun t311 => (laws_FnAllBruijnWords.j2 kj18 t291 t292 t293 (!t311))) else (none)) else (laws_FnAllBruijnWords.j2 kj18 t291 t292 t293 true)) else (laws_FnAllBruijnWords.j2 kj18 t291 t292 t293 true))) = some r := by rw [if_pos rfl] at H; exact H
                  clear H
                  have H := H1
                  clear H1
                  replace H := Option.bind_eq_some_iff.mp H
                  obtain ⟨⟨t306, t307⟩, A280, H⟩ := H
                  replace H : (if t307 = true then (if (t293.length : Int) = t302 then (if 0 < (t293.length : Int) then ((laws_tSame.f kj18 (rd_L2 t293 0) t306).bind fun t311 => (laws_FnAllBruijnWords.j2 kj18 t291 t292 t293 (!t311))) else (none)) else (laws_FnAllBruijnWords.j2 kj18 t291 t292 t293 true)) else (laws_FnAllBruijnWords.j2 kj18 t291 t292 t293 true)) = some r := H
                  have A28 := Aside0.mk A280
                  clear A280
                  have HC29 := Aside0.mk H
                  clear H
                  go_upto_region 15 with (first | ((with_reducible refine gate_callee (f := 59) rfl ?_); refine goesL_ (some 91) rfl rfl Try.func59 (by kernel_rfl) rfl #[.int .i64 t291, .int .i64 t292] rfl (by (try simp only [List.map_toArray, List.map_cons, List.map_nil]); first | done | rfl | (simp only [List.length_drop, List.length_take]; rfl)) ?_; (with_reducible refine (impl_LeastBruijn.calls kj18 t291 t292 t306 t307 _ A28.out).mono ?_); rintro e w30 ⟨v308, rfl, ho0, hb⟩; refine ⟨_, rfl, ?_⟩; have n0_ := Aside0.mk (Kd.N_elder' (by (with_reducible repeat (first | apply Kd.N_alloc | apply Kd.N_drewN | apply Kd.N_drew)); exact HO_7.out) (Kd.R_base ho0) hb); have n1_ := Aside0.mk (Kd.R_lower ho0 (below_size (by repeat (first | (with_reducible first | exact HB.out | apply below_alloc | apply pw_below_drewN | apply below_drew1) | exact HB.out)))); have n2_ := Aside0.mk (below_step (by repeat (first | (with_reducible first | exact HB.out | apply below_alloc | apply pw_below_drewN | apply below_drew1) | exact HB.out)) hb); clear HO_7; clear HB; have HO_7 := n0_; have HO309 := n1_; have HB := n2_; clear n0_ n1_ n2_; (try clear hb); (try clear hb2); (try clear hk); (try clear hi); (try clear ho0)))
                  (try simp only [Act.put, List.setIfInBounds_toArray, List.set_cons_zero, List.set_cons_succ])
                  go_cut [109] (fun v109 wc => ∃ (kq : Nat) (x109_28 : Bool), v109 = .bool x109_28 ∧ Aside0 (laws_FnAllBruijnWords.j2 kq t291 t292 t293 x109_28 = some r) ∧ Aside0 (kq ≤ kj18) ∧ Aside0 (Kd.N (Kd.slice 3 (Kd.int .i64)) 44 wc w.heap.size (fun _ => True) v295 t293) ∧ Aside0 (Below w.heap.size w wc))
                  case first =>
                    have H := HC29.out
                    clear HC29
                    by_cases c31 : t307 = true
                    · subst c31
                      have H1 : (if (t293.length : Int) = t302 then (if 0 < (t293.length : Int) then ((laws_tSame.f kj18 (rd_L2 t293 0) t306).bind fun t311 => (laws_FnAllBruijnWords.j2 kj18 t291 t292 t293 (!t311))) else (none)) else (laws_FnAllBruijnWords.j2 kj18 t291 t292 t293 true)) = some r := by rw [if_pos rfl] at H; exact H
                      clear H
                      have H := H1
                      clear H1
                      by_cases c32 : (t293.length : Int) = t302
                      · rw [if_pos c32] at H
                        have c32b0 : ((t293.length : Int) == t302) = true := beq_iff_eq.mpr c32
                        have c32b1 : ((t293.length : Int) != t302) = false := bne_eq_false_iff_eq.mpr c32
                        clear c32
                        (first | rw [c32b0] | (simp only [i64_w, i32_w]; rw [c32b0]) | skip)
                        by_cases c33 : 0 < (t293.length : Int)
                        · rw [if_pos c33] at H
                          have c33b0 : decide (0 < (t293.length : Int)) = true := decide_eq_true c33
                          have c33b1 : decide (0 < t293.length) = true := decide_eq_true (by omega)
                          clear c33
                          replace H := Option.bind_eq_some_iff.mp H
                          obtain ⟨t311, A340, H⟩ := H
                          replace H : (laws_FnAllBruijnWords.j2 kj18 t291 t292 t293 (!t311)) = some r := H
                          have A34 := Aside0.mk A340
                          clear A340
                          have H' := Aside0.mk H
                          clear H
                          obtain ⟨Ao35, co35, eo35⟩ := Kd.N_slice HO_7.out
                          subst eo35
                          have p310 : 0 ≤ (0 : Int) := (by omega)
                          have q310 : 0 < (t293.length : Int) := of_decide_eq_true (by first | (with_reducible assumption) | assumption)
                          obtain ⟨ad310, A310_0, c310_0, e310, hx310_0, hl310_0, hi310_0⟩ := at_L2 (Kd.N_reads' HO_7.out).2.2 0 p310 q310
                          cases e310
                          obtain ⟨ce310, hce310, hMe310, hcc310⟩ := Kd.N_get HO_7.out [] 0 p310 (by first | exact q310 | exact of_decide_eq_true (by first | (with_reducible assumption) | assumption) | (have e_ := (Kd.N_reads' HO_7.out).1; omega))
                          obtain ⟨ua310_0, uc310_0, rfl, ul310_0, ge310_0⟩ := Kd.FK_slice_open hMe310
                          have hv310_0 := hcc310 0 _ rfl
                          rw [Nat.add_zero, show ((Kd.slice 3 (Kd.int .i64))).sz = 1 from rfl, Nat.mul_one] at hv310_0
                          replace hv310_0 := Option.some.inj (hv310_0.symm.trans hx310_0)
                          injection hv310_0 with hva_ hvn_ hvc_
                          rw [hva_] at ge310_0
                          rw [hvc_] at ul310_0
                          have HL310_0 := Aside0.mk (show Kd.V (Kd.int .i64) 3 _ w.heap.size _ _ (rd_L2 t293 0) from Kd.V_mk ul310_0 ge310_0)
                          clear hva_ hvn_ hvc_ ge310_0 ul310_0
                          clear hcc310 hce310
                          have qi310 : (0 < t293.length) = True := eq_true (by omega)
                          (try rw [show ((0 : Int)).toNat = 0 from rfl] at hx310_0)
                          (try rw [Addr.add_zero'] at hx310_0)
                          have HR310_0 := Aside0.mk hi310_0
                          have HC310_0 := Aside0.mk hl310_0
                          clear hi310_0 hl310_0
                          replace p310 := eq_true p310
                          replace q310 := eq_true q310
                          obtain ⟨Ao36, co36, eo36⟩ := Kd.R_slice HO309.out
                          subst eo36
                          go_wp2_with (first | (go_at_call 45; (with_reducible refine (laws_tSame.calls kj18 _ _ (rd_L2 t293 0) _ _ t306 t311 _ ?side1 ?side2 ?side3 ?side4 A34.out).mono ?_); (case side1 => repeat (first | exact (by repeat (first | (with_reducible exact HR310_0.out) | (with_reducible refine Kd.C_alloc ?_ _) | (with_reducible refine Kd.C_drewN ?_ _) | (with_reducible refine Kd.C_drew ?_) | exact HR310_0.out)) | (with_reducible refine Kd.C_alloc ?_ _) | (with_reducible refine Kd.C_drewN ?_ _) | (with_reducible refine Kd.C_drew ?_))); (case side2 => exact HC310_0.out); (case side3 => repeat (first | exact (Kd.R_reads' HO309.out).2.2 | (with_reducible refine Kd.C_alloc ?_ _) | (with_reducible refine Kd.C_drewN ?_ _) | (with_reducible refine Kd.C_drew ?_))); (case side4 => exact (Kd.R_reads' HO309.out).2.1); rintro e w' ⟨rfl, ⟨nd, rfl⟩⟩))
                          go_meet
                          case rel => exact ⟨_, (!t311), (by first | rfl | (simp; done) | (simp [*]; done)), H', ⟨by have := HJ7.out; have := HJ18.out; first | omega | exact Nat.le_refl _⟩, ⟨by (with_reducible repeat (first | apply Kd.N_alloc | apply Kd.N_drewN | apply Kd.N_drew)); exact Kd.N_mono HO_7.out (fun _ hk => trivial)⟩, ⟨by repeat (first | (with_reducible first | exact HB.out | apply below_alloc | apply pw_below_drewN | apply below_drew1) | exact HB.out)⟩⟩
                        · rw [if_neg c33] at H
                          exact absurd H (by simp)
                      · rw [if_neg c32] at H
                        have c32b0 : ((t293.length : Int) == t302) = false := beq_eq_false_iff_ne.mpr c32
                        have c32b1 : ((t293.length : Int) != t302) = true := bne_iff_ne.mpr c32
                        (first | rw [c32b0] | (simp only [i64_w, i32_w]; rw [c32b0]) | skip)
                        have H' := Aside0.mk H
                        clear H
                        obtain ⟨Ao37, co37, eo37⟩ := Kd.N_slice HO_7.out
                        subst eo37
                        go_wp2
                        go_meet
                        case rel => exact ⟨_, (true), (by first | rfl | (simp; done) | (simp [*]; done)), H', ⟨by have := HJ7.out; have := HJ18.out; first | omega | exact Nat.le_refl _⟩, ⟨by (with_reducible repeat (first | apply Kd.N_alloc | apply Kd.N_drewN | apply Kd.N_drew)); exact Kd.N_mono HO_7.out (fun _ hk => trivial)⟩, ⟨by repeat (first | (with_reducible first | exact HB.out | apply below_alloc | apply pw_below_drewN | apply below_drew1) | exact HB.out)⟩⟩
                    · replace c31 := Bool.eq_false_iff.mpr c31
                      subst c31
                      have H1 : (laws_FnAllBruijnWords.j2 kj18 t291 t292 t293 true) = some r := by rw [if_neg (show ¬ (false = true) by decide)] at H; exact H
                      clear H
                      have H := H1
                      clear H1
                      have H' := Aside0.mk H
                      clear H
                      go_wp2
                      go_meet
                      case rel => exact ⟨_, (true), (by first | rfl | (simp; done) | (simp [*]; done)), H', ⟨by have := HJ7.out; have := HJ18.out; first | omega | exact Nat.le_refl _⟩, ⟨by (with_reducible repeat (first | apply Kd.N_alloc | apply Kd.N_drewN | apply Kd.N_drew)); exact Kd.N_mono HO_7.out (fun _ hk => trivial)⟩, ⟨by repeat (first | (with_reducible first | exact HB.out | apply below_alloc | apply pw_below_drewN | apply below_drew1) | exact HB.out)⟩⟩
                  case rest =>
                    clear HC29
                    try clear c1
                    try clear c2
                    try clear p2
                    try clear c3
                    try clear p3
                    try clear q3
                    try clear hx3
                    try clear qi3
                    try clear c4
                    try clear c5
                    try clear c9
                    try clear c12
                    try clear c12b0
                    try clear c12b1
                    try clear c12b2
                    try clear c16
                    try clear c19
                    try clear c21
                    try clear c21b0
                    try clear c21b1
                    try clear c21b2
                    try clear c22
                    try clear c22b0
                    try clear c22b1
                    try clear c23
                    try clear c24
                    try clear c25
                    try clear c26
                    try clear c27
                    try clear c31
                    try clear p31
                    try clear q31
                    try clear hx31
                    try clear qi31
                    try clear c32
                    try clear c32b0
                    try clear c32b1
                    try clear c33
                    try clear c33b0
                    try clear c33b1
                    try clear hx310_0
                    try clear p2
                    try clear p310
                    try clear q310
                    obtain ⟨kq, x109_28, rfl, HA, HJ28, HO_7, HB⟩ := hcut
                    cases kq with
                    | zero => exact absurd HA.out (by simp [laws_FnAllBruijnWords.j2])
                    | succ kj28 =>
                      have H := HA.out
                      clear HA
                      simp only [laws_FnAllBruijnWords.j2] at H
                      by_cases c38 : x109_28 = true
                      · subst c38
                        have H1 : (some false) = some r := by rw [if_pos rfl] at H; exact H
                        clear H
                        have H := H1
                        clear H1
                        obtain rfl := Option.some.inj H
                        go_wp2
                        go_ret
                        exact ⟨by first | rfl | (simp [errW_none, errW_some] <;> rfl) | (simp [*, errW_none, errW_some] <;> rfl), by repeat (first | (with_reducible first | exact HB.out | apply below_alloc | apply pw_below_drewN | apply below_drew1) | exact HB.out)⟩
                      · replace c38 := Bool.eq_false_iff.mpr c38
                        subst c38
                        have H1 : (laws_FnAllBruijnWords.l0 kj28 t291 t292 t293 t293 (t293.length : Int) 0) = some r := by rw [if_neg (show ¬ (false = true) by decide)] at H; exact H
                        clear H
                        have H := H1
                        clear H1
                        have H' := Aside0.mk H
                        clear H
                        obtain ⟨Ao39, co39, eo39⟩ := Kd.N_slice HO_7.out
                        subst eo39
                        go_wp2
                        go_loopg [112] kj28 (fun kq v112 w' => ∃ (x112_4 : Int), v112 = .int .i64 x112_4 ∧ Aside0 (laws_FnAllBruijnWords.l0 kq t291 t292 t293 t293 (t293.length : Int) x112_4 = some r) ∧ Aside0 (kq ≤ kj28) ∧ Aside0 (Kd.N (Kd.slice 3 (Kd.int .i64)) 44 w' w.heap.size (fun _ => True) (.slice Ao39 t293.length co39) t293) ∧ Aside0 (Kd.N (Kd.slice 3 (Kd.int .i64)) 44 w' w.heap.size (fun _ => True) (.slice Ao39 t293.length co39) t293) ∧ Aside0 (Below w.heap.size w w'))
                        case atStart => exact ⟨(0), (by first | rfl | (simp; done) | (simp [*]; done)), H', ⟨Nat.le_refl _⟩, ⟨by (with_reducible repeat (first | apply Kd.N_alloc | apply Kd.N_drewN | apply Kd.N_drew)); exact HO_7.out⟩, ⟨by (with_reducible repeat (first | apply Kd.N_alloc | apply Kd.N_drewN | apply Kd.N_drew)); exact HO_7.out⟩, ⟨by repeat (first | (with_reducible first | exact HB.out | apply below_alloc | apply pw_below_drewN | apply below_drew1) | exact HB.out)⟩⟩
                        case round =>
                          clear H'
                          try clear c1
                          try clear c2
                          try clear p2
                          try clear c3
                          try clear p3
                          try clear q3
                          try clear hx3
                          try clear qi3
                          try clear c4
                          try clear c5
                          try clear c9
                          try clear c12
                          try clear c12b0
                          try clear c12b1
                          try clear c12b2
                          try clear c16
                          try clear c19
                          try clear c21
                          try clear c21b0
                          try clear c21b1
                          try clear c21b2
                          try clear c22
                          try clear c22b0
                          try clear c22b1
                          try clear c23
                          try clear c24
                          try clear c25
                          try clear c26
                          try clear c27
                          try clear c31
                          try clear p31
                          try clear q31
                          try clear hx31
                          try clear qi31
                          try clear c32
                          try clear c32b0
                          try clear c32b1
                          try clear c33
                          try clear c33b0
                          try clear c33b1
                          try clear c38
                          try clear hx310_0
                          try clear p2
                          try clear p3
                          try clear p31
                          try clear p310
                          try clear q3
                          try clear q31
                          try clear q310
                          obtain ⟨x112_4, rfl, HA, HK4, HO_7, HO_110, HB⟩ := hrel
                          cases gk with
                          | zero => exact absurd HA.out (by simp [laws_FnAllBruijnWords.l0])
                          | succ k4 =>
                            have H := HA.out
                            clear HA
                            simp only [laws_FnAllBruijnWords.l0] at H
                            by_cases c40 : x112_4 < (t293.length : Int)
                            · rw [if_pos c40] at H
                              have c40b0 : decide (x112_4 < (t293.length : Int)) = true := decide_eq_true c40
                              clear c40
                              by_cases c41 : 0 ≤ x112_4
                              · rw [if_pos c41] at H
                                have c41b0 : decide (0 ≤ x112_4) = true := decide_eq_true c41
                                clear c41
                                by_cases c42 : x112_4 < (t293.length : Int)
                                · rw [if_pos c42] at H
                                  have c42b0 : decide (x112_4 < (t293.length : Int)) = true := decide_eq_true c42
                                  clear c42
                                  replace H := Option.bind_eq_some_iff.mp H
                                  obtain ⟨⟨t313, t314⟩, A430, H⟩ := H
                                  replace H : (if t314 = true then (if t313 = true then (if 0 ≤ t291 then (if t291 ≤ ((rd_L2 t293 x112_4).length : Int) then ((laws_tSum.f k4 ((rd_L2 t293 x112_4).take (t291 : Int).toNat)).bind fun t320 => (if t320 = 0 then (if x112_4 > 0 then (if 0 ≤ (wrap64 (x112_4 - 1)) then (if (wrap64 (x112_4 - 1)) < (t293.length : Int) then ((laws_tLess.f k4 (rd_L2 t293 (wrap64 (x112_4 - 1))) (rd_L2 t293 x112_4)).bind fun t322 => (if t322 = true then (laws_FnAllBruijnWords.l0 k4 t291 t292 t293 t293 (t293.length : Int) (wrap64 (x112_4 + 1))) else (some false))) else (none)) else (none)) else (laws_FnAllBruijnWords.l0 k4 t291 t292 t293 t293 (t293.length : Int) (wrap64 (x112_4 + 1)))) else (some false))) else (none)) else (none)) else (some false)) else (some false)) = some r := H
                                  have A43 := Aside0.mk A430
                                  clear A430
                                  by_cases c44 : t314 = true
                                  · subst c44
                                    have H1 : (if t313 = true then (if 0 ≤ t291 then (if t291 ≤ ((rd_L2 t293 x112_4).length : Int) then ((laws_tSum.f k4 ((rd_L2 t293 x112_4).take (t291 : Int).toNat)).bind fun t320 => (if t320 = 0 then (if x112_4 > 0 then (if 0 ≤ (wrap64 (x112_4 - 1)) then (if (wrap64 (x112_4 - 1)) < (t293.length : Int) then ((laws_tLess.f k4 (rd_L2 t293 (wrap64 (x112_4 - 1))) (rd_L2 t293 x112_4)).bind fun t322 => (if t322 = true then (laws_FnAllBruijnWords.l0 k4 t291 t292 t293 t293 (t293.length : Int) (wrap64 (x112_4 + 1))) else (some false))) else (none)) else (none)) else (laws_FnAllBruijnWords.l0 k4 t291 t292 t293 t293 (t293.length : Int) (wrap64 (x112_4 + 1)))) else (some false))) else (none)) else (none)) else (some false)) = some r := by rw [if_pos rfl] at H; exact H
                                    clear H
                                    have H := H1
                                    clear H1
                                    by_cases c45 : t313 = true
                                    · subst c45
                                      have H1 : (if 0 ≤ t291 then (if t291 ≤ ((rd_L2 t293 x112_4).length : Int) then ((laws_tSum.f k4 ((rd_L2 t293 x112_4).take (t291 : Int).toNat)).bind fun t320 => (if t320 = 0 then (if x112_4 > 0 then (if 0 ≤ (wrap64 (x112_4 - 1)) then (if (wrap64 (x112_4 - 1)) < (t293.length : Int) then ((laws_tLess.f k4 (rd_L2 t293 (wrap64 (x112_4 - 1))) (rd_L2 t293 x112_4)).bind fun t322 => (if t322 = true then (laws_FnAllBruijnWords.l0 k4 t291 t292 t293 t293 (t293.length : Int) (wrap64 (x112_4 + 1))) else (some false))) else (none)) else (none)) else (laws_FnAllBruijnWords.l0 k4 t291 t292 t293 t293 (t293.length : Int) (wrap64 (x112_4 + 1)))) else (some false))) else (none)) else (none)) = some r := by rw [if_pos rfl] at H; exact H
                                      clear H
                                      have H := H1
                                      clear H1
                                      by_cases c46 : 0 ≤ t291
                                      · rw [if_pos c46] at H
                                        have c46b0 := eq_true c46
                                        have c46b1 : decide (0 ≤ t291) = true := decide_eq_true c46
                                        clear c46
                                        by_cases c47 : t291 ≤ ((rd_L2 t293 x112_4).length : Int)
                                        · rw [if_pos c47] at H
                                          have c47b0 := eq_true c47
                                          have c47b1 : decide (t291 ≤ ((rd_L2 t293 x112_4).length : Int)) = true := decide_eq_true c47
                                          clear c47
                                          obtain ⟨y315, hy315⟩ : ∃ y_ : List Int, y_ = ((rd_L2 t293 x112_4).take (t291 : Int).toNat) := ⟨_, rfl⟩
                                          replace H : ((laws_tSum.f k4 y315).bind fun t320 => (if t320 = 0 then (if x112_4 > 0 then (if 0 ≤ (wrap64 (x112_4 - 1)) then (if (wrap64 (x112_4 - 1)) < (t293.length : Int) then ((laws_tLess.f k4 (rd_L2 t293 (wrap64 (x112_4 - 1))) (rd_L2 t293 x112_4)).bind fun t322 => (if t322 = true then (laws_FnAllBruijnWords.l0 k4 t291 t292 t293 t293 (t293.length : Int) (wrap64 (x112_4 + 1))) else (some false))) else (none)) else (none)) else (laws_FnAllBruijnWords.l0 k4 t291 t292 t293 t293 (t293.length : Int) (wrap64 (x112_4 + 1)))) else (some false))) = some r := by first | (rw [hy315]; with_reducible exact H) | (have H2_ := (Option.bind_some _ _).symm.trans H; rw [hy315]; with_reducible exact H2_) | (have H2_ := (Option.bind_some _ _).symm.trans H; with_reducible exact H2_) | with_reducible exact H | (rw [hy315]; exact H) | exact H
                                          have Ny315 := Aside0.mk hy315
                                          clear hy315
                                          replace H := Option.bind_eq_some_iff.mp H
                                          obtain ⟨t320, A480, H⟩ := H
                                          replace H : (if t320 = 0 then (if x112_4 > 0 then (if 0 ≤ (wrap64 (x112_4 - 1)) then (if (wrap64 (x112_4 - 1)) < (t293.length : Int) then ((laws_tLess.f k4 (rd_L2 t293 (wrap64 (x112_4 - 1))) (rd_L2 t293 x112_4)).bind fun t322 => (if t322 = true then (laws_FnAllBruijnWords.l0 k4 t291 t292 t293 t293 (t293.length : Int) (wrap64 (x112_4 + 1))) else (some false))) else (none)) else (none)) else (laws_FnAllBruijnWords.l0 k4 t291 t292 t293 t293 (t293.length : Int) (wrap64 (x112_4 + 1)))) else (some false)) = some r := H
                                          have A48 := Aside0.mk A480
                                          clear A480
                                          by_cases c49 : t320 = 0
                                          · rw [if_pos c49] at H
                                            have c49b0 : (t320 == 0) = true := beq_iff_eq.mpr c49
                                            have c49b1 : (t320 != 0) = false := bne_eq_false_iff_eq.mpr c49
                                            clear c49
                                            by_cases c50 : x112_4 > 0
                                            · rw [if_pos c50] at H
                                              have c50b0 : decide (0 < x112_4) = true := decide_eq_true c50
                                              clear c50
                                              obtain ⟨ji51, hji51⟩ : ∃ j_ : Int, (wrap64 (x112_4 - 1)) = j_ := ⟨_, rfl⟩
                                              replace H : (if 0 ≤ (ji51) then (if (ji51) < (t293.length : Int) then ((laws_tLess.f k4 (rd_L2 t293 (ji51)) (rd_L2 t293 x112_4)).bind fun t322 => (if t322 = true then (laws_FnAllBruijnWords.l0 k4 t291 t292 t293 t293 (t293.length : Int) (wrap64 (x112_4 + 1))) else (some false))) else (none)) else (none)) = some r := by first | (rw [hji51] at H; exact H) | (simp only [hji51] at H ⊢; exact H)
                                              (try rw [hji51] at A43)
                                              (try rw [hji51] at A48)
                                              have hji51w : (IntKind.i64.wrap (x112_4 - 1)) = ji51 := (i64_w _).trans hji51
                                              by_cases c52 : 0 ≤ (ji51)
                                              · rw [if_pos c52] at H
                                                have c52b0 : decide (0 ≤ (ji51)) = true := decide_eq_true c52
                                                clear c52
                                                by_cases c53 : (ji51) < (t293.length : Int)
                                                · rw [if_pos c53] at H
                                                  have c53b0 : decide ((ji51) < (t293.length : Int)) = true := decide_eq_true c53
                                                  clear c53
                                                  replace H := Option.bind_eq_some_iff.mp H
                                                  obtain ⟨t322, A540, H⟩ := H
                                                  replace H : (if t322 = true then (laws_FnAllBruijnWords.l0 k4 t291 t292 t293 t293 (t293.length : Int) (wrap64 (x112_4 + 1))) else (some false)) = some r := H
                                                  have A54 := Aside0.mk A540
                                                  clear A540
                                                  by_cases c55 : t322 = true
                                                  · subst c55
                                                    have H1 : (laws_FnAllBruijnWords.l0 k4 t291 t292 t293 t293 (t293.length : Int) (wrap64 (x112_4 + 1))) = some r := by rw [if_pos rfl] at H; exact H
                                                    clear H
                                                    have H := H1
                                                    clear H1
                                                    have H' := Aside0.mk H
                                                    clear H
                                                    have p312 : 0 ≤ (x112_4 : Int) := of_decide_eq_true (by first | (with_reducible assumption) | assumption)
                                                    have q312 : x112_4 < (t293.length : Int) := of_decide_eq_true (by first | (with_reducible assumption) | assumption)
                                                    obtain ⟨ad312, A312_0, c312_0, e312, hx312_0, hl312_0, hi312_0⟩ := at_L2 (Kd.N_reads' HO_110.out).2.2 x112_4 p312 q312
                                                    cases e312
                                                    obtain ⟨ce312, hce312, hMe312, hcc312⟩ := Kd.N_get HO_110.out [] x112_4 p312 (by first | exact q312 | exact of_decide_eq_true (by first | (with_reducible assumption) | assumption) | (have e_ := (Kd.N_reads' HO_110.out).1; omega))
                                                    obtain ⟨ua312_0, uc312_0, rfl, ul312_0, ge312_0⟩ := Kd.FK_slice_open hMe312
                                                    have hv312_0 := hcc312 0 _ rfl
                                                    rw [Nat.add_zero, show ((Kd.slice 3 (Kd.int .i64))).sz = 1 from rfl, Nat.mul_one] at hv312_0
                                                    replace hv312_0 := Option.some.inj (hv312_0.symm.trans hx312_0)
                                                    injection hv312_0 with hva_ hvn_ hvc_
                                                    rw [hva_] at ge312_0
                                                    rw [hvc_] at ul312_0
                                                    have HL312_0 := Aside0.mk (show Kd.V (Kd.int .i64) 3 _ w.heap.size _ _ (rd_L2 t293 x112_4) from Kd.V_mk ul312_0 ge312_0)
                                                    clear hva_ hvn_ hvc_ ge312_0 ul312_0
                                                    clear hcc312 hce312
                                                    have HR312_0 := Aside0.mk hi312_0
                                                    have HC312_0 := Aside0.mk hl312_0
                                                    clear hi312_0 hl312_0
                                                    replace p312 := eq_true p312
                                                    replace q312 := eq_true q312
                                                    go_wp2_with (first | ((with_reducible refine gate_callee (f := 60) rfl ?_); refine goesL_ (some 121) rfl rfl Try.func60 (by kernel_rfl) rfl #[.slice A312_0 (rd_L2 t293 x112_4).length c312_0, .int .i64 t291, .int .i64 t292] rfl (by (try simp only [List.map_toArray, List.map_cons, List.map_nil]); first | done | rfl | (simp only [List.length_drop, List.length_take]; rfl)) ?_; (with_reducible refine (impl_IsBruijn.calls k4 _ _ (rd_L2 t293 x112_4) t291 t292 true true _ ?side1 ?side2 A43.out).mono ?_); (case side1 => repeat (first | exact (by repeat (first | (with_reducible exact HR312_0.out) | (with_reducible refine Kd.C_alloc ?_ _) | (with_reducible refine Kd.C_drewN ?_ _) | (with_reducible refine Kd.C_drew ?_) | exact HR312_0.out)) | (with_reducible refine Kd.C_alloc ?_ _) | (with_reducible refine Kd.C_drewN ?_ _) | (with_reducible refine Kd.C_drew ?_))); (case side2 => exact HC312_0.out); rintro e w56 ⟨rfl, hb⟩; refine ⟨_, rfl, ?_⟩; have n0_ := Aside0.mk (Kd.N_below (by (with_reducible repeat (first | apply Kd.N_alloc | apply Kd.N_drewN | apply Kd.N_drew)); exact HO_7.out) hb); have n1_ := Aside0.mk (Kd.N_below (by (with_reducible repeat (first | apply Kd.N_alloc | apply Kd.N_drewN | apply Kd.N_drew)); exact HO_110.out) hb); have n2_ := Aside0.mk (Kd.V_below (by (with_reducible repeat (first | apply Kd.V_alloc | apply Kd.V_drewN | apply Kd.V_drew)); exact HL312_0.out) hb); have n3_ := Aside0.mk (Kd.C_below (by repeat (first | (with_reducible exact HR312_0.out) | (with_reducible refine Kd.C_alloc ?_ _) | (with_reducible refine Kd.C_drewN ?_ _) | (with_reducible refine Kd.C_drew ?_) | exact HR312_0.out)) hb); have n4_ := Aside0.mk (below_step (by repeat (first | (with_reducible first | exact HB.out | apply below_alloc | apply pw_below_drewN | apply below_drew1) | exact HB.out)) hb); clear HO_7; clear HO_110; clear HL312_0; clear HR312_0; clear HB; have HO_7 := n0_; have HO_110 := n1_; have HL312_0 := n2_; have HR312_0 := n3_; have HB := n4_; clear n0_ n1_ n2_ n3_ n4_; (try clear hb); (try clear hb2); (try clear hk); (try clear hi); have q57 : (t291 : Int) ≤ (((rd_L2 t293 x112_4).length : Int) : Int) := of_decide_eq_true (by first | (with_reducible assumption) | assumption); obtain ⟨i057, hi057, _, hsz57, _⟩ := info_parts info3; have hroom57 : (rd_L2 t293 x112_4).length ≤ c312_0 := HC312_0.out; have hC57 : Kd.F (Kd.int .i64) _ _ A312_0 (rd_L2 t293 x112_4).length (rd_L2 t293 x112_4) := (Kd.V_at (base := w.heap.size) HL312_0.out).2.2; have hcut57 := cut_to (P := Try.prog) 44 3 .i64 Try.underlying44 hi057 A312_0 (rd_L2 t293 x112_4).length c312_0 t291 (of_decide_eq_true (by first | (with_reducible assumption) | assumption)) q57 hroom57; have hr57 := Kd.F_take (m := (t291 : Int).toNat) hC57 (by omega); have hy57 : y315.length = (t291 : Int).toNat := (by rw [Ny315.out, List.length_take]; omega); rw [← Ny315.out] at hr57; rw [← hy57] at hcut57; have HO319 := Aside0.mk (show Kd.V (Kd.int .i64) 3 _ w.heap.size _ (.slice A312_0 y315.length c312_0) y315 from Kd.V_mk (by omega) hr57); have HC319 := Aside0.mk (show y315.length ≤ c312_0 from by omega); clear hr57 hC57 hroom57 hi057 hsz57; have KY57 := Aside0.mk hy57; clear hy57; replace q57 := eq_true q57) | (go_at_call 61; (with_reducible refine (laws_tSum.calls k4 _ _ y315 t320 _ ?side1 ?side2 A48.out).mono ?_); (case side1 => repeat (first | exact (Kd.V_reads' HO319.out).2.2 | (with_reducible refine Kd.C_alloc ?_ _) | (with_reducible refine Kd.C_drewN ?_ _) | (with_reducible refine Kd.C_drew ?_))); (case side2 => exact (Kd.V_reads' HO319.out).2.1); rintro e w' ⟨rfl, ⟨nd, rfl⟩⟩; have p321 : 0 ≤ ((ji51) : Int) := of_decide_eq_true (by first | (with_reducible assumption) | assumption); have q321 : (ji51) < (t293.length : Int) := of_decide_eq_true (by first | (with_reducible assumption) | assumption); obtain ⟨ad321, A321_0, c321_0, e321, hx321_0, hl321_0, hi321_0⟩ := at_L2 (Kd.N_reads' HO_7.out).2.2 (ji51) p321 q321; obtain rfl : ad312 = ad321 := (by injection e321); obtain ⟨ce321, hce321, hMe321, hcc321⟩ := Kd.N_get HO_7.out [] (ji51) p321 (by first | exact q321 | exact of_decide_eq_true (by first | (with_reducible assumption) | assumption) | (have e_ := (Kd.N_reads' HO_7.out).1; omega)); obtain ⟨ua321_0, uc321_0, rfl, ul321_0, ge321_0⟩ := Kd.FK_slice_open hMe321; have hv321_0 := hcc321 0 _ rfl; rw [Nat.add_zero, show ((Kd.slice 3 (Kd.int .i64))).sz = 1 from rfl, Nat.mul_one] at hv321_0; replace hv321_0 := Option.some.inj (hv321_0.symm.trans hx321_0); injection hv321_0 with hva_ hvn_ hvc_; rw [hva_] at ge321_0; rw [hvc_] at ul321_0; have HL321_0 := Aside0.mk (show Kd.V (Kd.int .i64) 3 _ w.heap.size _ _ (rd_L2 t293 (ji51)) from Kd.V_mk ul321_0 ge321_0); clear hva_ hvn_ hvc_ ge321_0 ul321_0; clear hcc321 hce321; have HR321_0 := Aside0.mk hi321_0; have HC321_0 := Aside0.mk hl321_0; clear hi321_0 hl321_0; replace p321 := eq_true p321; replace q321 := eq_true q321) | (go_at_call 28; (with_reducible refine (laws_tLess.calls k4 _ _ (rd_L2 t293 (ji51)) _ _ (rd_L2 t293 x112_4) true _ ?side1 ?side2 ?side3 ?side4 A54.out).mono ?_); (case side1 => repeat (first | exact (by repeat (first | (with_reducible exact HR321_0.out) | (with_reducible refine Kd.C_alloc ?_ _) | (with_reducible refine Kd.C_drewN ?_ _) | (with_reducible refine Kd.C_drew ?_) | exact HR321_0.out)) | (with_reducible refine Kd.C_alloc ?_ _) | (with_reducible refine Kd.C_drewN ?_ _) | (with_reducible refine Kd.C_drew ?_))); (case side2 => exact HC321_0.out); (case side3 => repeat (first | exact (by repeat (first | (with_reducible exact HR312_0.out) | (with_reducible refine Kd.C_alloc ?_ _) | (with_reducible refine Kd.C_drewN ?_ _) | (with_reducible refine Kd.C_drew ?_) | exact HR312_0.out)) | (with_reducible refine Kd.C_alloc ?_ _) | (with_reducible refine Kd.C_drewN ?_ _) | (with_reducible refine Kd.C_drew ?_))); (case side4 => exact HC312_0.out); rintro e w' ⟨rfl, ⟨nd, rfl⟩⟩))
                                                    go_roundg k4
                                                    case measure => have := HJ7.out; have := HJ18.out; have := HJ28.out; have := HK4.out; omega
                                                    case rel => exact ⟨(wrap64 (x112_4 + 1)), (by first | rfl | (simp; done) | (simp [*]; done)), H', ⟨by have := HJ7.out; have := HJ18.out; have := HJ28.out; have := HK4.out; omega⟩, ⟨by (with_reducible repeat (first | apply Kd.N_alloc | apply Kd.N_drewN | apply Kd.N_drew)); exact HO_7.out⟩, ⟨by (with_reducible repeat (first | apply Kd.N_alloc | apply Kd.N_drewN | apply Kd.N_drew)); exact HO_110.out⟩, ⟨by repeat (first | (with_reducible first | exact HB.out | apply below_alloc | apply pw_below_drewN | apply below_drew1) | exact HB.out)⟩⟩
                                                  · replace c55 := Bool.eq_false_iff.mpr c55
                                                    subst c55
                                                    have H1 : (some false) = some r := by rw [if_neg (show ¬ (false = true) by decide)] at H; exact H
                                                    clear H
                                                    have H := H1
                                                    clear H1
                                                    obtain rfl := Option.some.inj H
                                                    have p312 : 0 ≤ (x112_4 : Int) := of_decide_eq_true (by first | (with_reducible assumption) | assumption)
                                                    have q312 : x112_4 < (t293.length : Int) := of_decide_eq_true (by first | (with_reducible assumption) | assumption)
                                                    obtain ⟨ad312, A312_0, c312_0, e312, hx312_0, hl312_0, hi312_0⟩ := at_L2 (Kd.N_reads' HO_110.out).2.2 x112_4 p312 q312
                                                    cases e312
                                                    obtain ⟨ce312, hce312, hMe312, hcc312⟩ := Kd.N_get HO_110.out [] x112_4 p312 (by first | exact q312 | exact of_decide_eq_true (by first | (with_reducible assumption) | assumption) | (have e_ := (Kd.N_reads' HO_110.out).1; omega))
                                                    obtain ⟨ua312_0, uc312_0, rfl, ul312_0, ge312_0⟩ := Kd.FK_slice_open hMe312
                                                    have hv312_0 := hcc312 0 _ rfl
                                                    rw [Nat.add_zero, show ((Kd.slice 3 (Kd.int .i64))).sz = 1 from rfl, Nat.mul_one] at hv312_0
                                                    replace hv312_0 := Option.some.inj (hv312_0.symm.trans hx312_0)
                                                    injection hv312_0 with hva_ hvn_ hvc_
                                                    rw [hva_] at ge312_0
                                                    rw [hvc_] at ul312_0
                                                    have HL312_0 := Aside0.mk (show Kd.V (Kd.int .i64) 3 _ w.heap.size _ _ (rd_L2 t293 x112_4) from Kd.V_mk ul312_0 ge312_0)
                                                    clear hva_ hvn_ hvc_ ge312_0 ul312_0
                                                    clear hcc312 hce312
                                                    have HR312_0 := Aside0.mk hi312_0
                                                    have HC312_0 := Aside0.mk hl312_0
                                                    clear hi312_0 hl312_0
                                                    replace p312 := eq_true p312
                                                    replace q312 := eq_true q312
                                                    go_wp2_with (first | ((with_reducible refine gate_callee (f := 60) rfl ?_); refine goesL_ (some 121) rfl rfl Try.func60 (by kernel_rfl) rfl #[.slice A312_0 (rd_L2 t293 x112_4).length c312_0, .int .i64 t291, .int .i64 t292] rfl (by (try simp only [List.map_toArray, List.map_cons, List.map_nil]); first | done | rfl | (simp only [List.length_drop, List.length_take]; rfl)) ?_; (with_reducible refine (impl_IsBruijn.calls k4 _ _ (rd_L2 t293 x112_4) t291 t292 true true _ ?side1 ?side2 A43.out).mono ?_); (case side1 => repeat (first | exact (by repeat (first | (with_reducible exact HR312_0.out) | (with_reducible refine Kd.C_alloc ?_ _) | (with_reducible refine Kd.C_drewN ?_ _) | (with_reducible refine Kd.C_drew ?_) | exact HR312_0.out)) | (with_reducible refine Kd.C_alloc ?_ _) | (with_reducible refine Kd.C_drewN ?_ _) | (with_reducible refine Kd.C_drew ?_))); (case side2 => exact HC312_0.out); rintro e w58 ⟨rfl, hb⟩; refine ⟨_, rfl, ?_⟩; have n0_ := Aside0.mk (Kd.N_below (by (with_reducible repeat (first | apply Kd.N_alloc | apply Kd.N_drewN | apply Kd.N_drew)); exact HO_7.out) hb); have n1_ := Aside0.mk (Kd.N_below (by (with_reducible repeat (first | apply Kd.N_alloc | apply Kd.N_drewN | apply Kd.N_drew)); exact HO_110.out) hb); have n2_ := Aside0.mk (Kd.V_below (by (with_reducible repeat (first | apply Kd.V_alloc | apply Kd.V_drewN | apply Kd.V_drew)); exact HL312_0.out) hb); have n3_ := Aside0.mk (Kd.C_below (by repeat (first | (with_reducible exact HR312_0.out) | (with_reducible refine Kd.C_alloc ?_ _) | (with_reducible refine Kd.C_drewN ?_ _) | (with_reducible refine Kd.C_drew ?_) | exact HR312_0.out)) hb); have n4_ := Aside0.mk (below_step (by repeat (first | (with_reducible first | exact HB.out | apply below_alloc | apply pw_below_drewN | apply below_drew1) | exact HB.out)) hb); clear HO_7; clear HO_110; clear HL312_0; clear HR312_0; clear HB; have HO_7 := n0_; have HO_110 := n1_; have HL312_0 := n2_; have HR312_0 := n3_; have HB := n4_; clear n0_ n1_ n2_ n3_ n4_; (try clear hb); (try clear hb2); (try clear hk); (try clear hi); have q59 : (t291 : Int) ≤ (((rd_L2 t293 x112_4).length : Int) : Int) := of_decide_eq_true (by first | (with_reducible assumption) | assumption); obtain ⟨i059, hi059, _, hsz59, _⟩ := info_parts info3; have hroom59 : (rd_L2 t293 x112_4).length ≤ c312_0 := HC312_0.out; have hC59 : Kd.F (Kd.int .i64) _ _ A312_0 (rd_L2 t293 x112_4).length (rd_L2 t293 x112_4) := (Kd.V_at (base := w.heap.size) HL312_0.out).2.2; have hcut59 := cut_to (P := Try.prog) 44 3 .i64 Try.underlying44 hi059 A312_0 (rd_L2 t293 x112_4).length c312_0 t291 (of_decide_eq_true (by first | (with_reducible assumption) | assumption)) q59 hroom59; have hr59 := Kd.F_take (m := (t291 : Int).toNat) hC59 (by omega); have hy59 : y315.length = (t291 : Int).toNat := (by rw [Ny315.out, List.length_take]; omega); rw [← Ny315.out] at hr59; rw [← hy59] at hcut59; have HO319 := Aside0.mk (show Kd.V (Kd.int .i64) 3 _ w.heap.size _ (.slice A312_0 y315.length c312_0) y315 from Kd.V_mk (by omega) hr59); have HC319 := Aside0.mk (show y315.length ≤ c312_0 from by omega); clear hr59 hC59 hroom59 hi059 hsz59; have KY59 := Aside0.mk hy59; clear hy59; replace q59 := eq_true q59) | (go_at_call 61; (with_reducible refine (laws_tSum.calls k4 _ _ y315 t320 _ ?side1 ?side2 A48.out).mono ?_); (case side1 => repeat (first | exact (Kd.V_reads' HO319.out).2.2 | (with_reducible refine Kd.C_alloc ?_ _) | (with_reducible refine Kd.C_drewN ?_ _) | (with_reducible refine Kd.C_drew ?_))); (case side2 => exact (Kd.V_reads' HO319.out).2.1); rintro e w' ⟨rfl, ⟨nd, rfl⟩⟩; have p321 : 0 ≤ ((ji51) : Int) := of_decide_eq_true (by first | (with_reducible assumption) | assumption); have q321 : (ji51) < (t293.length : Int) := of_decide_eq_true (by first | (with_reducible assumption) | assumption); obtain ⟨ad321, A321_0, c321_0, e321, hx321_0, hl321_0, hi321_0⟩ := at_L2 (Kd.N_reads' HO_7.out).2.2 (ji51) p321 q321; obtain rfl : ad312 = ad321 := (by injection e321); obtain ⟨ce321, hce321, hMe321, hcc321⟩ := Kd.N_get HO_7.out [] (ji51) p321 (by first | exact q321 | exact of_decide_eq_true (by first | (with_reducible assumption) | assumption) | (have e_ := (Kd.N_reads' HO_7.out).1; omega)); obtain ⟨ua321_0, uc321_0, rfl, ul321_0, ge321_0⟩ := Kd.FK_slice_open hMe321; have hv321_0 := hcc321 0 _ rfl; rw [Nat.add_zero, show ((Kd.slice 3 (Kd.int .i64))).sz = 1 from rfl, Nat.mul_one] at hv321_0; replace hv321_0 := Option.some.inj (hv321_0.symm.trans hx321_0); injection hv321_0 with hva_ hvn_ hvc_; rw [hva_] at ge321_0; rw [hvc_] at ul321_0; have HL321_0 := Aside0.mk (show Kd.V (Kd.int .i64) 3 _ w.heap.size _ _ (rd_L2 t293 (ji51)) from Kd.V_mk ul321_0 ge321_0); clear hva_ hvn_ hvc_ ge321_0 ul321_0; clear hcc321 hce321; have HR321_0 := Aside0.mk hi321_0; have HC321_0 := Aside0.mk hl321_0; clear hi321_0 hl321_0; replace p321 := eq_true p321; replace q321 := eq_true q321) | (go_at_call 28; (with_reducible refine (laws_tLess.calls k4 _ _ (rd_L2 t293 (ji51)) _ _ (rd_L2 t293 x112_4) false _ ?side1 ?side2 ?side3 ?side4 A54.out).mono ?_); (case side1 => repeat (first | exact (by repeat (first | (with_reducible exact HR321_0.out) | (with_reducible refine Kd.C_alloc ?_ _) | (with_reducible refine Kd.C_drewN ?_ _) | (with_reducible refine Kd.C_drew ?_) | exact HR321_0.out)) | (with_reducible refine Kd.C_alloc ?_ _) | (with_reducible refine Kd.C_drewN ?_ _) | (with_reducible refine Kd.C_drew ?_))); (case side2 => exact HC321_0.out); (case side3 => repeat (first | exact (by repeat (first | (with_reducible exact HR312_0.out) | (with_reducible refine Kd.C_alloc ?_ _) | (with_reducible refine Kd.C_drewN ?_ _) | (with_reducible refine Kd.C_drew ?_) | exact HR312_0.out)) | (with_reducible refine Kd.C_alloc ?_ _) | (with_reducible refine Kd.C_drewN ?_ _) | (with_reducible refine Kd.C_drew ?_))); (case side4 => exact HC312_0.out); rintro e w' ⟨rfl, ⟨nd, rfl⟩⟩))
                                                    go_ret
                                                    exact ⟨by first | rfl | (simp [errW_none, errW_some] <;> rfl) | (simp only [← hji51]; first | rfl | (simp [errW_none, errW_some] <;> rfl)) | (simp [*, errW_none, errW_some] <;> rfl), by repeat (first | (with_reducible first | exact HB.out | apply below_alloc | apply pw_below_drewN | apply below_drew1) | exact HB.out)⟩
                                                · rw [if_neg c53] at H
                                                  exact absurd H (by simp)
                                              · rw [if_neg c52] at H
                                                exact absurd H (by simp)
                                            · rw [if_neg c50] at H
                                              have c50b0 : decide (0 < x112_4) = false := decide_eq_false c50
                                              clear c50
                                              have H' := Aside0.mk H
                                              clear H
                                              have p312 : 0 ≤ (x112_4 : Int) := of_decide_eq_true (by first | (with_reducible assumption) | assumption)
                                              have q312 : x112_4 < (t293.length : Int) := of_decide_eq_true (by first | (with_reducible assumption) | assumption)
                                              obtain ⟨ad312, A312_0, c312_0, e312, hx312_0, hl312_0, hi312_0⟩ := at_L2 (Kd.N_reads' HO_110.out).2.2 x112_4 p312 q312
                                              cases e312
                                              obtain ⟨ce312, hce312, hMe312, hcc312⟩ := Kd.N_get HO_110.out [] x112_4 p312 (by first | exact q312 | exact of_decide_eq_true (by first | (with_reducible assumption) | assumption) | (have e_ := (Kd.N_reads' HO_110.out).1; omega))
                                              obtain ⟨ua312_0, uc312_0, rfl, ul312_0, ge312_0⟩ := Kd.FK_slice_open hMe312
                                              have hv312_0 := hcc312 0 _ rfl
                                              rw [Nat.add_zero, show ((Kd.slice 3 (Kd.int .i64))).sz = 1 from rfl, Nat.mul_one] at hv312_0
                                              replace hv312_0 := Option.some.inj (hv312_0.symm.trans hx312_0)
                                              injection hv312_0 with hva_ hvn_ hvc_
                                              rw [hva_] at ge312_0
                                              rw [hvc_] at ul312_0
                                              have HL312_0 := Aside0.mk (show Kd.V (Kd.int .i64) 3 _ w.heap.size _ _ (rd_L2 t293 x112_4) from Kd.V_mk ul312_0 ge312_0)
                                              clear hva_ hvn_ hvc_ ge312_0 ul312_0
                                              clear hcc312 hce312
                                              have HR312_0 := Aside0.mk hi312_0
                                              have HC312_0 := Aside0.mk hl312_0
                                              clear hi312_0 hl312_0
                                              replace p312 := eq_true p312
                                              replace q312 := eq_true q312
                                              go_wp2_with (first | ((with_reducible refine gate_callee (f := 60) rfl ?_); refine goesL_ (some 121) rfl rfl Try.func60 (by kernel_rfl) rfl #[.slice A312_0 (rd_L2 t293 x112_4).length c312_0, .int .i64 t291, .int .i64 t292] rfl (by (try simp only [List.map_toArray, List.map_cons, List.map_nil]); first | done | rfl | (simp only [List.length_drop, List.length_take]; rfl)) ?_; (with_reducible refine (impl_IsBruijn.calls k4 _ _ (rd_L2 t293 x112_4) t291 t292 true true _ ?side1 ?side2 A43.out).mono ?_); (case side1 => repeat (first | exact (by repeat (first | (with_reducible exact HR312_0.out) | (with_reducible refine Kd.C_alloc ?_ _) | (with_reducible refine Kd.C_drewN ?_ _) | (with_reducible refine Kd.C_drew ?_) | exact HR312_0.out)) | (with_reducible refine Kd.C_alloc ?_ _) | (with_reducible refine Kd.C_drewN ?_ _) | (with_reducible refine Kd.C_drew ?_))); (case side2 => exact HC312_0.out); rintro e w60 ⟨rfl, hb⟩; refine ⟨_, rfl, ?_⟩; have n0_ := Aside0.mk (Kd.N_below (by (with_reducible repeat (first | apply Kd.N_alloc | apply Kd.N_drewN | apply Kd.N_drew)); exact HO_7.out) hb); have n1_ := Aside0.mk (Kd.N_below (by (with_reducible repeat (first | apply Kd.N_alloc | apply Kd.N_drewN | apply Kd.N_drew)); exact HO_110.out) hb); have n2_ := Aside0.mk (Kd.V_below (by (with_reducible repeat (first | apply Kd.V_alloc | apply Kd.V_drewN | apply Kd.V_drew)); exact HL312_0.out) hb); have n3_ := Aside0.mk (Kd.C_below (by repeat (first | (with_reducible exact HR312_0.out) | (with_reducible refine Kd.C_alloc ?_ _) | (with_reducible refine Kd.C_drewN ?_ _) | (with_reducible refine Kd.C_drew ?_) | exact HR312_0.out)) hb); have n4_ := Aside0.mk (below_step (by repeat (first | (with_reducible first | exact HB.out | apply below_alloc | apply pw_below_drewN | apply below_drew1) | exact HB.out)) hb); clear HO_7; clear HO_110; clear HL312_0; clear HR312_0; clear HB; have HO_7 := n0_; have HO_110 := n1_; have HL312_0 := n2_; have HR312_0 := n3_; have HB := n4_; clear n0_ n1_ n2_ n3_ n4_; (try clear hb); (try clear hb2); (try clear hk); (try clear hi); have q61 : (t291 : Int) ≤ (((rd_L2 t293 x112_4).length : Int) : Int) := of_decide_eq_true (by first | (with_reducible assumption) | assumption); obtain ⟨i061, hi061, _, hsz61, _⟩ := info_parts info3; have hroom61 : (rd_L2 t293 x112_4).length ≤ c312_0 := HC312_0.out; have hC61 : Kd.F (Kd.int .i64) _ _ A312_0 (rd_L2 t293 x112_4).length (rd_L2 t293 x112_4) := (Kd.V_at (base := w.heap.size) HL312_0.out).2.2; have hcut61 := cut_to (P := Try.prog) 44 3 .i64 Try.underlying44 hi061 A312_0 (rd_L2 t293 x112_4).length c312_0 t291 (of_decide_eq_true (by first | (with_reducible assumption) | assumption)) q61 hroom61; have hr61 := Kd.F_take (m := (t291 : Int).toNat) hC61 (by omega); have hy61 : y315.length = (t291 : Int).toNat := (by rw [Ny315.out, List.length_take]; omega); rw [← Ny315.out] at hr61; rw [← hy61] at hcut61; have HO319 := Aside0.mk (show Kd.V (Kd.int .i64) 3 _ w.heap.size _ (.slice A312_0 y315.length c312_0) y315 from Kd.V_mk (by omega) hr61); have HC319 := Aside0.mk (show y315.length ≤ c312_0 from by omega); clear hr61 hC61 hroom61 hi061 hsz61; have KY61 := Aside0.mk hy61; clear hy61; replace q61 := eq_true q61) | (go_at_call 61; (with_reducible refine (laws_tSum.calls k4 _ _ y315 t320 _ ?side1 ?side2 A48.out).mono ?_); (case side1 => repeat (first | exact (Kd.V_reads' HO319.out).2.2 | (with_reducible refine Kd.C_alloc ?_ _) | (with_reducible refine Kd.C_drewN ?_ _) | (with_reducible refine Kd.C_drew ?_))); (case side2 => exact (Kd.V_reads' HO319.out).2.1); rintro e w' ⟨rfl, ⟨nd, rfl⟩⟩))
                                              go_roundg k4
                                              case measure => have := HJ7.out; have := HJ18.out; have := HJ28.out; have := HK4.out; omega
                                              case rel => exact ⟨(wrap64 (x112_4 + 1)), (by first | rfl | (simp; done) | (simp [*]; done)), H', ⟨by have := HJ7.out; have := HJ18.out; have := HJ28.out; have := HK4.out; omega⟩, ⟨by (with_reducible repeat (first | apply Kd.N_alloc | apply Kd.N_drewN | apply Kd.N_drew)); exact HO_7.out⟩, ⟨by (with_reducible repeat (first | apply Kd.N_alloc | apply Kd.N_drewN | apply Kd.N_drew)); exact HO_110.out⟩, ⟨by repeat (first | (with_reducible first | exact HB.out | apply below_alloc | apply pw_below_drewN | apply below_drew1) | exact HB.out)⟩⟩
                                          · rw [if_neg c49] at H
                                            have c49b0 : (t320 == 0) = false := beq_eq_false_iff_ne.mpr c49
                                            have c49b1 : (t320 != 0) = true := bne_iff_ne.mpr c49
                                            obtain rfl := Option.some.inj H
                                            have p312 : 0 ≤ (x112_4 : Int) := of_decide_eq_true (by first | (with_reducible assumption) | assumption)
                                            have q312 : x112_4 < (t293.length : Int) := of_decide_eq_true (by first | (with_reducible assumption) | assumption)
                                            obtain ⟨ad312, A312_0, c312_0, e312, hx312_0, hl312_0, hi312_0⟩ := at_L2 (Kd.N_reads' HO_110.out).2.2 x112_4 p312 q312
                                            cases e312
                                            obtain ⟨ce312, hce312, hMe312, hcc312⟩ := Kd.N_get HO_110.out [] x112_4 p312 (by first | exact q312 | exact of_decide_eq_true (by first | (with_reducible assumption) | assumption) | (have e_ := (Kd.N_reads' HO_110.out).1; omega))
                                            obtain ⟨ua312_0, uc312_0, rfl, ul312_0, ge312_0⟩ := Kd.FK_slice_open hMe312
                                            have hv312_0 := hcc312 0 _ rfl
                                            rw [Nat.add_zero, show ((Kd.slice 3 (Kd.int .i64))).sz = 1 from rfl, Nat.mul_one] at hv312_0
                                            replace hv312_0 := Option.some.inj (hv312_0.symm.trans hx312_0)
                                            injection hv312_0 with hva_ hvn_ hvc_
                                            rw [hva_] at ge312_0
                                            rw [hvc_] at ul312_0
                                            have HL312_0 := Aside0.mk (show Kd.V (Kd.int .i64) 3 _ w.heap.size _ _ (rd_L2 t293 x112_4) from Kd.V_mk ul312_0 ge312_0)
                                            clear hva_ hvn_ hvc_ ge312_0 ul312_0
                                            clear hcc312 hce312
                                            have HR312_0 := Aside0.mk hi312_0
                                            have HC312_0 := Aside0.mk hl312_0
                                            clear hi312_0 hl312_0
                                            replace p312 := eq_true p312
                                            replace q312 := eq_true q312
                                            go_wp2_with (first | ((with_reducible refine gate_callee (f := 60) rfl ?_); refine goesL_ (some 121) rfl rfl Try.func60 (by kernel_rfl) rfl #[.slice A312_0 (rd_L2 t293 x112_4).length c312_0, .int .i64 t291, .int .i64 t292] rfl (by (try simp only [List.map_toArray, List.map_cons, List.map_nil]); first | done | rfl | (simp only [List.length_drop, List.length_take]; rfl)) ?_; (with_reducible refine (impl_IsBruijn.calls k4 _ _ (rd_L2 t293 x112_4) t291 t292 true true _ ?side1 ?side2 A43.out).mono ?_); (case side1 => repeat (first | exact (by repeat (first | (with_reducible exact HR312_0.out) | (with_reducible refine Kd.C_alloc ?_ _) | (with_reducible refine Kd.C_drewN ?_ _) | (with_reducible refine Kd.C_drew ?_) | exact HR312_0.out)) | (with_reducible refine Kd.C_alloc ?_ _) | (with_reducible refine Kd.C_drewN ?_ _) | (with_reducible refine Kd.C_drew ?_))); (case side2 => exact HC312_0.out); rintro e w62 ⟨rfl, hb⟩; refine ⟨_, rfl, ?_⟩; have n0_ := Aside0.mk (Kd.N_below (by (with_reducible repeat (first | apply Kd.N_alloc | apply Kd.N_drewN | apply Kd.N_drew)); exact HO_7.out) hb); have n1_ := Aside0.mk (Kd.N_below (by (with_reducible repeat (first | apply Kd.N_alloc | apply Kd.N_drewN | apply Kd.N_drew)); exact HO_110.out) hb); have n2_ := Aside0.mk (Kd.V_below (by (with_reducible repeat (first | apply Kd.V_alloc | apply Kd.V_drewN | apply Kd.V_drew)); exact HL312_0.out) hb); have n3_ := Aside0.mk (Kd.C_below (by repeat (first | (with_reducible exact HR312_0.out) | (with_reducible refine Kd.C_alloc ?_ _) | (with_reducible refine Kd.C_drewN ?_ _) | (with_reducible refine Kd.C_drew ?_) | exact HR312_0.out)) hb); have n4_ := Aside0.mk (below_step (by repeat (first | (with_reducible first | exact HB.out | apply below_alloc | apply pw_below_drewN | apply below_drew1) | exact HB.out)) hb); clear HO_7; clear HO_110; clear HL312_0; clear HR312_0; clear HB; have HO_7 := n0_; have HO_110 := n1_; have HL312_0 := n2_; have HR312_0 := n3_; have HB := n4_; clear n0_ n1_ n2_ n3_ n4_; (try clear hb); (try clear hb2); (try clear hk); (try clear hi); have q63 : (t291 : Int) ≤ (((rd_L2 t293 x112_4).length : Int) : Int) := of_decide_eq_true (by first | (with_reducible assumption) | assumption); obtain ⟨i063, hi063, _, hsz63, _⟩ := info_parts info3; have hroom63 : (rd_L2 t293 x112_4).length ≤ c312_0 := HC312_0.out; have hC63 : Kd.F (Kd.int .i64) _ _ A312_0 (rd_L2 t293 x112_4).length (rd_L2 t293 x112_4) := (Kd.V_at (base := w.heap.size) HL312_0.out).2.2; have hcut63 := cut_to (P := Try.prog) 44 3 .i64 Try.underlying44 hi063 A312_0 (rd_L2 t293 x112_4).length c312_0 t291 (of_decide_eq_true (by first | (with_reducible assumption) | assumption)) q63 hroom63; have hr63 := Kd.F_take (m := (t291 : Int).toNat) hC63 (by omega); have hy63 : y315.length = (t291 : Int).toNat := (by rw [Ny315.out, List.length_take]; omega); rw [← Ny315.out] at hr63; rw [← hy63] at hcut63; have HO319 := Aside0.mk (show Kd.V (Kd.int .i64) 3 _ w.heap.size _ (.slice A312_0 y315.length c312_0) y315 from Kd.V_mk (by omega) hr63); have HC319 := Aside0.mk (show y315.length ≤ c312_0 from by omega); clear hr63 hC63 hroom63 hi063 hsz63; have KY63 := Aside0.mk hy63; clear hy63; replace q63 := eq_true q63) | (go_at_call 61; (with_reducible refine (laws_tSum.calls k4 _ _ y315 t320 _ ?side1 ?side2 A48.out).mono ?_); (case side1 => repeat (first | exact (Kd.V_reads' HO319.out).2.2 | (with_reducible refine Kd.C_alloc ?_ _) | (with_reducible refine Kd.C_drewN ?_ _) | (with_reducible refine Kd.C_drew ?_))); (case side2 => exact (Kd.V_reads' HO319.out).2.1); rintro e w' ⟨rfl, ⟨nd, rfl⟩⟩))
                                            go_ret
                                            exact ⟨by first | rfl | (simp [errW_none, errW_some] <;> rfl) | (simp [*, errW_none, errW_some] <;> rfl), by repeat (first | (with_reducible first | exact HB.out | apply below_alloc | apply pw_below_drewN | apply below_drew1) | exact HB.out)⟩
                                        · rw [if_neg c47] at H
                                          exact absurd H (by simp)
                                      · rw [if_neg c46] at H
                                        exact absurd H (by simp)
                                    · replace c45 := Bool.eq_false_iff.mpr c45
                                      subst c45
                                      have H1 : (some false) = some r := by rw [if_neg (show ¬ (false = true) by decide)] at H; exact H
                                      clear H
                                      have H := H1
                                      clear H1
                                      obtain rfl := Option.some.inj H
                                      have p312 : 0 ≤ (x112_4 : Int) := of_decide_eq_true (by first | (with_reducible assumption) | assumption)
                                      have q312 : x112_4 < (t293.length : Int) := of_decide_eq_true (by first | (with_reducible assumption) | assumption)
                                      obtain ⟨ad312, A312_0, c312_0, e312, hx312_0, hl312_0, hi312_0⟩ := at_L2 (Kd.N_reads' HO_110.out).2.2 x112_4 p312 q312
                                      cases e312
                                      obtain ⟨ce312, hce312, hMe312, hcc312⟩ := Kd.N_get HO_110.out [] x112_4 p312 (by first | exact q312 | exact of_decide_eq_true (by first | (with_reducible assumption) | assumption) | (have e_ := (Kd.N_reads' HO_110.out).1; omega))
                                      obtain ⟨ua312_0, uc312_0, rfl, ul312_0, ge312_0⟩ := Kd.FK_slice_open hMe312
                                      have hv312_0 := hcc312 0 _ rfl
                                      rw [Nat.add_zero, show ((Kd.slice 3 (Kd.int .i64))).sz = 1 from rfl, Nat.mul_one] at hv312_0
                                      replace hv312_0 := Option.some.inj (hv312_0.symm.trans hx312_0)
                                      injection hv312_0 with hva_ hvn_ hvc_
                                      rw [hva_] at ge312_0
                                      rw [hvc_] at ul312_0
                                      have HL312_0 := Aside0.mk (show Kd.V (Kd.int .i64) 3 _ w.heap.size _ _ (rd_L2 t293 x112_4) from Kd.V_mk ul312_0 ge312_0)
                                      clear hva_ hvn_ hvc_ ge312_0 ul312_0
                                      clear hcc312 hce312
                                      have HR312_0 := Aside0.mk hi312_0
                                      have HC312_0 := Aside0.mk hl312_0
                                      clear hi312_0 hl312_0
                                      replace p312 := eq_true p312
                                      replace q312 := eq_true q312
                                      go_wp2_with (first | ((with_reducible refine gate_callee (f := 60) rfl ?_); refine goesL_ (some 121) rfl rfl Try.func60 (by kernel_rfl) rfl #[.slice A312_0 (rd_L2 t293 x112_4).length c312_0, .int .i64 t291, .int .i64 t292] rfl (by (try simp only [List.map_toArray, List.map_cons, List.map_nil]); first | done | rfl | (simp only [List.length_drop, List.length_take]; rfl)) ?_; (with_reducible refine (impl_IsBruijn.calls k4 _ _ (rd_L2 t293 x112_4) t291 t292 false true _ ?side1 ?side2 A43.out).mono ?_); (case side1 => repeat (first | exact (by repeat (first | (with_reducible exact HR312_0.out) | (with_reducible refine Kd.C_alloc ?_ _) | (with_reducible refine Kd.C_drewN ?_ _) | (with_reducible refine Kd.C_drew ?_) | exact HR312_0.out)) | (with_reducible refine Kd.C_alloc ?_ _) | (with_reducible refine Kd.C_drewN ?_ _) | (with_reducible refine Kd.C_drew ?_))); (case side2 => exact HC312_0.out); rintro e w64 ⟨rfl, hb⟩; refine ⟨_, rfl, ?_⟩; have n0_ := Aside0.mk (Kd.N_below (by (with_reducible repeat (first | apply Kd.N_alloc | apply Kd.N_drewN | apply Kd.N_drew)); exact HO_7.out) hb); have n1_ := Aside0.mk (Kd.N_below (by (with_reducible repeat (first | apply Kd.N_alloc | apply Kd.N_drewN | apply Kd.N_drew)); exact HO_110.out) hb); have n2_ := Aside0.mk (Kd.V_below (by (with_reducible repeat (first | apply Kd.V_alloc | apply Kd.V_drewN | apply Kd.V_drew)); exact HL312_0.out) hb); have n3_ := Aside0.mk (Kd.C_below (by repeat (first | (with_reducible exact HR312_0.out) | (with_reducible refine Kd.C_alloc ?_ _) | (with_reducible refine Kd.C_drewN ?_ _) | (with_reducible refine Kd.C_drew ?_) | exact HR312_0.out)) hb); have n4_ := Aside0.mk (below_step (by repeat (first | (with_reducible first | exact HB.out | apply below_alloc | apply pw_below_drewN | apply below_drew1) | exact HB.out)) hb); clear HO_7; clear HO_110; clear HL312_0; clear HR312_0; clear HB; have HO_7 := n0_; have HO_110 := n1_; have HL312_0 := n2_; have HR312_0 := n3_; have HB := n4_; clear n0_ n1_ n2_ n3_ n4_; (try clear hb); (try clear hb2); (try clear hk); (try clear hi)))
                                      go_ret
                                      exact ⟨by first | rfl | (simp [errW_none, errW_some] <;> rfl) | (simp [*, errW_none, errW_some] <;> rfl), by repeat (first | (with_reducible first | exact HB.out | apply below_alloc | apply pw_below_drewN | apply below_drew1) | exact HB.out)⟩
                                  · replace c44 := Bool.eq_false_iff.mpr c44
                                    subst c44
                                    have H1 : (some false) = some r := by rw [if_neg (show ¬ (false = true) by decide)] at H; exact H
                                    clear H
                                    have H := H1
                                    clear H1
                                    obtain rfl := Option.some.inj H
                                    have p312 : 0 ≤ (x112_4 : Int) := of_decide_eq_true (by first | (with_reducible assumption) | assumption)
                                    have q312 : x112_4 < (t293.length : Int) := of_decide_eq_true (by first | (with_reducible assumption) | assumption)
                                    obtain ⟨ad312, A312_0, c312_0, e312, hx312_0, hl312_0, hi312_0⟩ := at_L2 (Kd.N_reads' HO_110.out).2.2 x112_4 p312 q312
                                    cases e312
                                    obtain ⟨ce312, hce312, hMe312, hcc312⟩ := Kd.N_get HO_110.out [] x112_4 p312 (by first | exact q312 | exact of_decide_eq_true (by first | (with_reducible assumption) | assumption) | (have e_ := (Kd.N_reads' HO_110.out).1; omega))
                                    obtain ⟨ua312_0, uc312_0, rfl, ul312_0, ge312_0⟩ := Kd.FK_slice_open hMe312
                                    have hv312_0 := hcc312 0 _ rfl
                                    rw [Nat.add_zero, show ((Kd.slice 3 (Kd.int .i64))).sz = 1 from rfl, Nat.mul_one] at hv312_0
                                    replace hv312_0 := Option.some.inj (hv312_0.symm.trans hx312_0)
                                    injection hv312_0 with hva_ hvn_ hvc_
                                    rw [hva_] at ge312_0
                                    rw [hvc_] at ul312_0
                                    have HL312_0 := Aside0.mk (show Kd.V (Kd.int .i64) 3 _ w.heap.size _ _ (rd_L2 t293 x112_4) from Kd.V_mk ul312_0 ge312_0)
                                    clear hva_ hvn_ hvc_ ge312_0 ul312_0
                                    clear hcc312 hce312
                                    have HR312_0 := Aside0.mk hi312_0
                                    have HC312_0 := Aside0.mk hl312_0
                                    clear hi312_0 hl312_0
                                    replace p312 := eq_true p312
                                    replace q312 := eq_true q312
                                    go_wp2_with (first | ((with_reducible refine gate_callee (f := 60) rfl ?_); refine goesL_ (some 121) rfl rfl Try.func60 (by kernel_rfl) rfl #[.slice A312_0 (rd_L2 t293 x112_4).length c312_0, .int .i64 t291, .int .i64 t292] rfl (by (try simp only [List.map_toArray, List.map_cons, List.map_nil]); first | done | rfl | (simp only [List.length_drop, List.length_take]; rfl)) ?_; (with_reducible refine (impl_IsBruijn.calls k4 _ _ (rd_L2 t293 x112_4) t291 t292 t313 false _ ?side1 ?side2 A43.out).mono ?_); (case side1 => repeat (first | exact (by repeat (first | (with_reducible exact HR312_0.out) | (with_reducible refine Kd.C_alloc ?_ _) | (with_reducible refine Kd.C_drewN ?_ _) | (with_reducible refine Kd.C_drew ?_) | exact HR312_0.out)) | (with_reducible refine Kd.C_alloc ?_ _) | (with_reducible refine Kd.C_drewN ?_ _) | (with_reducible refine Kd.C_drew ?_))); (case side2 => exact HC312_0.out); rintro e w65 ⟨rfl, hb⟩; refine ⟨_, rfl, ?_⟩; have n0_ := Aside0.mk (Kd.N_below (by (with_reducible repeat (first | apply Kd.N_alloc | apply Kd.N_drewN | apply Kd.N_drew)); exact HO_7.out) hb); have n1_ := Aside0.mk (Kd.N_below (by (with_reducible repeat (first | apply Kd.N_alloc | apply Kd.N_drewN | apply Kd.N_drew)); exact HO_110.out) hb); have n2_ := Aside0.mk (Kd.V_below (by (with_reducible repeat (first | apply Kd.V_alloc | apply Kd.V_drewN | apply Kd.V_drew)); exact HL312_0.out) hb); have n3_ := Aside0.mk (Kd.C_below (by repeat (first | (with_reducible exact HR312_0.out) | (with_reducible refine Kd.C_alloc ?_ _) | (with_reducible refine Kd.C_drewN ?_ _) | (with_reducible refine Kd.C_drew ?_) | exact HR312_0.out)) hb); have n4_ := Aside0.mk (below_step (by repeat (first | (with_reducible first | exact HB.out | apply below_alloc | apply pw_below_drewN | apply below_drew1) | exact HB.out)) hb); clear HO_7; clear HO_110; clear HL312_0; clear HR312_0; clear HB; have HO_7 := n0_; have HO_110 := n1_; have HL312_0 := n2_; have HR312_0 := n3_; have HB := n4_; clear n0_ n1_ n2_ n3_ n4_; (try clear hb); (try clear hb2); (try clear hk); (try clear hi)))
                                    go_ret
                                    exact ⟨by first | rfl | (simp [errW_none, errW_some] <;> rfl) | (simp [*, errW_none, errW_some] <;> rfl), by repeat (first | (with_reducible first | exact HB.out | apply below_alloc | apply pw_below_drewN | apply below_drew1) | exact HB.out)⟩
                                · rw [if_neg c42] at H
                                  exact absurd H (by simp)
                              · rw [if_neg c41] at H
                                exact absurd H (by simp)
                            · rw [if_neg c40] at H
                              have c40b0 : decide (x112_4 < (t293.length : Int)) = false := decide_eq_false c40
                              clear c40
                              obtain rfl := Option.some.inj H
                              go_wp2
                              go_ret
                              exact ⟨by first | rfl | (simp [errW_none, errW_some] <;> rfl) | (simp [*, errW_none, errW_some] <;> rfl), by repeat (first | (with_reducible first | exact HB.out | apply below_alloc | apply pw_below_drewN | apply below_drew1) | exact HB.out)⟩
                · replace c27 := Bool.eq_false_iff.mpr c27
                  subst c27
                  have H1 : (some true) = some r := by rw [if_neg (show ¬ (false = true) by decide)] at H; exact H
                  clear H
                  have H := H1
                  clear H1
                  obtain rfl := Option.some.inj H
                  go_wp2
                  go_ret
                  exact ⟨by first | rfl | (simp [errW_none, errW_some] <;> rfl) | (simp [*, errW_none, errW_some] <;> rfl), by repeat (first | (with_reducible first | exact HB.out | apply below_alloc | apply pw_below_drewN | apply below_drew1) | exact HB.out)⟩

/-- THE ONE PURE STATEMENT of laws_FnAllBruijnWords: yours. -/
def laws_FnAllBruijnWords.Pure : Prop := ∀ (l0 : List Int) (l1 : List Int), l0.length ≤ maxLen → l0.length * 1 ≤ 140737488351232 → (∀ x ∈ l0, (Lit.int .u8 x).wf = true) → l1.length ≤ maxLen → l1.length * 1 ≤ 140737488351232 → (∀ x ∈ l1, (Lit.int .u8 x).wf = true) → ∃ k, laws_FnAllBruijnWords.f k l0 l1 = some true
theorem laws_FnAllBruijnWords.walk (P : laws_FnAllBruijnWords.Pure) (a0 : Option Addr) (len0 cap0 : Nat) (z0 : List Int) (a1 : Option Addr) (len1 cap1 : Nat) (z1 : List Int) (w : World) (w0 : (a0 = none ∧ len0 = 0 ∧ cap0 = 0 ∧ z0 = []) ∨ ∃ x, a0 = some x ∧ len0 ≤ cap0 ∧ cap0 ≤ maxLen ∧ z0.length = cap0 ∧ (∀ i, i < z0.length → w.cell? (x.add i) = some (.int .u8 (z0.getD i 0))) ∧ ∀ n ∈ z0, (Lit.int .u8 n).wf = true) (y0 : len0 * 1 ≤ 140737488351232) (w1 : (a1 = none ∧ len1 = 0 ∧ cap1 = 0 ∧ z1 = []) ∨ ∃ x, a1 = some x ∧ len1 ≤ cap1 ∧ cap1 ≤ maxLen ∧ z1.length = cap1 ∧ (∀ i, i < z1.length → w.cell? (x.add i) = some (.int .u8 (z1.getD i 0))) ∧ ∀ n ∈ z1, (Lit.int .u8 n).wf = true) (y1 : len1 * 1 ≤ 140737488351232) :
    Calls Try.prog 9 #[.slice a0 len0 cap0, .slice a1 len1 cap1] w fun e w' => e = .returned (.bool true) ∧ Below w.heap.size w w' := by
  obtain ⟨l0, rfl, hr0, hm0, hw0, hc0⟩ := ReadsInt.ofRowC w0
  obtain ⟨l1, rfl, hr1, hm1, hw1, hc1⟩ := ReadsInt.ofRowC w1
  obtain ⟨k, h⟩ := P l0 l1 hm0 y0 hw0 hm1 y1 hw1
  refine (laws_FnAllBruijnWords.calls k _ _ l0 _ _ l1 true w (Kd.C_of_reads (d := (0 : Int)) (h1 := fun _ => rfl) hr0) hc0 (Kd.C_of_reads (d := (0 : Int)) (h1 := fun _ => rfl) hr1) hc1 h).mono ?_
  rintro e w' ⟨rfl, hd⟩
  exact ⟨rfl, hd⟩

end Go.Proofs.Ytfbafdlgnjkioaa.PFnAllBruijnWords
