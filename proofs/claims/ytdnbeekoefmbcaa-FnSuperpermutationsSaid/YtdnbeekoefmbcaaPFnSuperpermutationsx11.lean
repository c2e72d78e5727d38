import Derived.Test.YtdnbeekoefmbcaaPFnSuperpermutationsx0
import Derived.Test.YtdnbeekoefmbcaaPFnSuperpermutationsx2
import Derived.Test.YtdnbeekoefmbcaaPFnSuperpermutationsx4
import Derived.Test.YtdnbeekoefmbcaaPFnSuperpermutationsx6
import Derived.Test.YtdnbeekoefmbcaaPFnSuperpermutationsx7
import Derived.Test.YtdnbeekoefmbcaaPFnSuperpermutationsx8
import Derived.Test.YtdnbeekoefmbcaaPFnSuperpermutationsx9
import Derived.Test.YtdnbeekoefmbcaaPFnSuperpermutationsx10
namespace Go.Proofs.Ytdnbeekoefmbcaa.PFnSuperpermutations
open Go.RowKit Go.Proofs.YtdnbeekoefmbcaaW.PrintWords Go.Proofs.YtdnbeekoefmbcaaW.PrintLast Go.Proofs.YtdnbeekoefmbcaaW.PrintMore
attribute [local go_sem] max2_int min2_int max_two min_two max_three min_three max_four min_four
set_option linter.unusedVariables false
set_option linter.unusedSimpArgs false
mutual
def laws_FnSuperpermutations.j0 : Nat → List Int → Int → List Int → Bool → Int → Int → Bool → Bool → Option (Bool)
  | 0, _, _, _, _, _, _, _, _ => none
  | k + 1, x1, x5, x6, x7, x10, x12, x13, x98 => if x98 = true then (some false) else (if x7 = true then ((impl_IsSuper.f k x5 x6).bind fun bt447 => (if bt447.2 = true then (if bt447.1 = true then (if (x6.length : Int) = x10 then (if x13 = true then (laws_FnSuperpermutations.j1 k x1 x6 (decide (x12 > x10))) else (laws_FnSuperpermutations.j1 k x1 x6 true)) else (laws_FnSuperpermutations.j1 k x1 x6 true)) else (laws_FnSuperpermutations.j1 k x1 x6 true)) else (laws_FnSuperpermutations.j1 k x1 x6 true))) else (laws_FnSuperpermutations.j3 k x1))
def laws_FnSuperpermutations.j3 : Nat → List Int → Option (Bool)
  | 0, _ => none
  | k + 1, x1 => (spec_DrawShortestSuper.f x1).bind fun t451 => ((impl_ShortestSuper.f k t451).bind fun bt452 => ((spec_ShortestSuper.f k t451).bind fun bt456 => (if (bt452.2 != bt456.2) = true then (laws_FnSuperpermutations.j4 k x1 t451 bt452.1 bt452.2 true) else ((laws_uSame.f k bt452.1 bt456.1).bind fun t460 => (laws_FnSuperpermutations.j4 k x1 t451 bt452.1 bt452.2 (!t460))))))
def laws_FnSuperpermutations.j4 : Nat → List Int → Int → List Int → Bool → Bool → Option (Bool)
  | 0, _, _, _, _, _ => none
  | k + 1, x1, x19, x20, x21, x166 => if x166 = true then (some false) else (if x21 = true then ((impl_IsSuper.f k x19 x20).bind fun bt461 => ((impl_SuperBound.f k x19).bind fun bt463 => ((impl_SuperLength.f k x19).bind fun bt465 => (if bt461.2 = true then (if bt461.1 = true then (if bt463.2 = true then (if bt465.2 = true then (if (x20.length : Int) < bt463.1 then (some false) else (if (x20.length : Int) > bt465.1 then (some false) else (laws_FnSuperpermutations.j5 k x1))) else (some false)) else (some false)) else (some false)) else (some false))))) else (laws_FnSuperpermutations.j5 k x1))
def laws_FnSuperpermutations.j5 : Nat → List Int → Option (Bool)
  | 0, _ => none
  | k + 1, x1 => (spec_DrawIsSuper.f k x1).bind fun bt467 => ((impl_IsSuper.f k bt467.1 bt467.2).bind fun bt471 => ((spec_IsSuper.f k bt467.1 bt467.2).bind fun bt473 => ((impl_RanksIn.f k bt467.1 bt467.2).bind fun bt475 => ((spec_RanksIn.f k bt467.1 bt467.2).bind fun bt479 => ((impl_WastedIn.f k bt467.1 bt467.2).bind fun bt483 => (if (bt471.2 != bt473.2) = true then (laws_FnSuperpermutations.j6 k bt467.1 bt467.2 bt471.1 bt475.1 bt475.2 bt483.1 true) else (if (bt471.1 != bt473.1) = true then (laws_FnSuperpermutations.j6 k bt467.1 bt467.2 bt471.1 bt475.1 bt475.2 bt483.1 true) else (if (bt475.2 != bt479.2) = true then (laws_FnSuperpermutations.j6 k bt467.1 bt467.2 bt471.1 bt475.1 bt475.2 bt483.1 true) else ((laws_uSame.f k bt475.1 bt479.1).bind fun t485 => (if t485 = true then (laws_FnSuperpermutations.j6 k bt467.1 bt467.2 bt471.1 bt475.1 bt475.2 bt483.1 (bt483.2 != bt475.2)) else (laws_FnSuperpermutations.j6 k bt467.1 bt467.2 bt471.1 bt475.1 bt475.2 bt483.1 true)))))))))))
def laws_FnSuperpermutations.j6 : Nat → Int → List Int → Bool → List Int → Bool → Int → Bool → Option (Bool)
  | 0, _, _, _, _, _, _, _ => none
  | k + 1, x30, x31, x32, x36, x37, x40, x268 => if x268 = true then (some false) else (if x37 = true then ((impl_Factorial.f k x30).bind fun bt486 => (if (wrap64 ((wrap64 ((x31.length : Int) - x30)) + 1)) < 0 then (if bt486.2 = true then (if (x32 == ((x36.length : Int) == bt486.1)) = true then (some (x40 == (wrap64 (-(x36.length : Int))))) else (some false)) else (some false)) else (if bt486.2 = true then (if (x32 == ((x36.length : Int) == bt486.1)) = true then (some (x40 == (wrap64 ((wrap64 ((wrap64 ((x31.length : Int) - x30)) + 1)) - (x36.length : Int))))) else (some false)) else (some false)))) else (some true))
def laws_FnSuperpermutations.j1 : Nat → List Int → List Int → Bool → Option (Bool)
  | 0, _, _, _ => none
  | k + 1, x1, x6, x126 => if x126 = true then (some false) else (laws_FnSuperpermutations.l0 k x1 x6 (x6.length : Int) 0)
def laws_FnSuperpermutations.l0 : Nat → List Int → List Int → Int → Int → Option (Bool)
  | 0, _, _, _, _ => none
  | k + 1, x1, x6, x128, x129 => if x129 < x128 then (if 0 ≤ x129 then (if x129 < (x6.length : Int) then (if 0 ≤ (wrap64 ((wrap64 ((x6.length : Int) - 1)) - x129)) then (if (wrap64 ((wrap64 ((x6.length : Int) - 1)) - x129)) < (x6.length : Int) then (if (rd x6 x129) = (rd x6 (wrap64 ((wrap64 ((x6.length : Int) - 1)) - x129))) then (laws_FnSuperpermutations.l0 k x1 x6 x128 (wrap64 (x129 + 1))) else (some false)) else (none)) else (none)) else (none)) else (none)) else (laws_FnSuperpermutations.j3 k x1)
end
def laws_FnSuperpermutations.f (k : Nat) (l0 : List Int) (l1 : List Int) : Option (Bool) := (laws_big.f l0 l1).bind fun t430 => (if t430 = true then (some true) else ((spec_DrawSuperOf.f l0).bind fun t431 => ((impl_SuperOf.f k t431).bind fun bt432 => ((spec_SuperOf.f k t431).bind fun bt436 => ((impl_SuperLength.f k t431).bind fun bt440 => ((impl_SuperBound.f k t431).bind fun bt442 => ((spec_SuperBound.f k t431).bind fun bt444 => (if (bt432.2 != bt436.2) = true then (laws_FnSuperpermutations.j0 k l1 t431 bt432.1 bt432.2 bt440.1 bt442.1 bt442.2 true) else ((laws_uSame.f k bt432.1 bt436.1).bind fun t446 => (if t446 = true then (if (bt440.2 != bt432.2) = true then (laws_FnSuperpermutations.j0 k l1 t431 bt432.1 bt432.2 bt440.1 bt442.1 bt442.2 true) else (if (bt442.2 != bt444.2) = true then (laws_FnSuperpermutations.j0 k l1 t431 bt432.1 bt432.2 bt440.1 bt442.1 bt442.2 true) else (laws_FnSuperpermutations.j0 k l1 t431 bt432.1 bt432.2 bt440.1 bt442.1 bt442.2 (bt442.1 != bt444.1)))) else (laws_FnSuperpermutations.j0 k l1 t431 bt432.1 bt432.2 bt440.1 bt442.1 bt442.2 true)))))))))))
theorem laws_FnSuperpermutations.mono_l : ∀ k, (∀ y0 y1 y2 y3 y4 y5 y6 y7, LeO (laws_FnSuperpermutations.j0 k y0 y1 y2 y3 y4 y5 y6 y7) (laws_FnSuperpermutations.j0 (k + 1) y0 y1 y2 y3 y4 y5 y6 y7)) ∧ (∀ y0, LeO (laws_FnSuperpermutations.j3 k y0) (laws_FnSuperpermutations.j3 (k + 1) y0)) ∧ (∀ y0 y1 y2 y3 y4, LeO (laws_FnSuperpermutations.j4 k y0 y1 y2 y3 y4) (laws_FnSuperpermutations.j4 (k + 1) y0 y1 y2 y3 y4)) ∧ (∀ y0, LeO (laws_FnSuperpermutations.j5 k y0) (laws_FnSuperpermutations.j5 (k + 1) y0)) ∧ (∀ y0 y1 y2 y3 y4 y5 y6, LeO (laws_FnSuperpermutations.j6 k y0 y1 y2 y3 y4 y5 y6) (laws_FnSuperpermutations.j6 (k + 1) y0 y1 y2 y3 y4 y5 y6)) ∧ (∀ y0 y1 y2, LeO (laws_FnSuperpermutations.j1 k y0 y1 y2) (laws_FnSuperpermutations.j1 (k + 1) y0 y1 y2)) ∧ (∀ y0 y1 y2 y3, LeO (laws_FnSuperpermutations.l0 k y0 y1 y2 y3) (laws_FnSuperpermutations.l0 (k + 1) y0 y1 y2 y3))
  | 0 => ⟨fun _ _ _ _ _ _ _ _ r h => by simp [laws_FnSuperpermutations.j0] at h, fun _ r h => by simp [laws_FnSuperpermutations.j3] at h, fun _ _ _ _ _ r h => by simp [laws_FnSuperpermutations.j4] at h, fun _ r h => by simp [laws_FnSuperpermutations.j5] at h, fun _ _ _ _ _ _ _ r h => by simp [laws_FnSuperpermutations.j6] at h, fun _ _ _ r h => by simp [laws_FnSuperpermutations.j1] at h, fun _ _ _ _ r h => by simp [laws_FnSuperpermutations.l0] at h⟩
  | k + 1 => by
    obtain ⟨ih0, ih1, ih2, ih3, ih4, ih5, ih6⟩ := laws_FnSuperpermutations.mono_l k
    refine ⟨?_, ?_, ?_, ?_, ?_, ?_, ?_⟩
    · intro y0 y1 y2 y3 y4 y5 y6 y7
      unfold laws_FnSuperpermutations.j0
      repeat' first
      | (with_reducible exact ih0 _ _ _ _ _ _ _ _)
      | (with_reducible exact ih1 _)
      | (with_reducible exact ih2 _ _ _ _ _)
      | (with_reducible exact ih3 _)
      | (with_reducible exact ih4 _ _ _ _ _ _ _)
      | (with_reducible exact ih5 _ _ _)
      | (with_reducible exact ih6 _ _ _ _)
      | (with_reducible exact impl_Factorial.mono _ _)
      | (with_reducible exact impl_IsSuper.mono _ _ _)
      | (with_reducible exact impl_RanksIn.mono _ _ _)
      | (with_reducible exact impl_ShortestSuper.mono _ _)
      | (with_reducible exact impl_SuperBound.mono _ _)
      | (with_reducible exact impl_SuperLength.mono _ _)
      | (with_reducible exact impl_SuperOf.mono _ _)
      | (with_reducible exact impl_WastedIn.mono _ _ _)
      | (with_reducible exact laws_uSame.mono _ _ _)
      | (with_reducible exact spec_DrawIsSuper.mono _ _)
      | (with_reducible exact spec_IsSuper.mono _ _ _)
      | (with_reducible exact spec_RanksIn.mono _ _ _)
      | (with_reducible exact spec_ShortestSuper.mono _ _)
      | (with_reducible exact spec_SuperBound.mono _ _)
      | (with_reducible exact spec_SuperOf.mono _ _)
      | (with_reducible exact LeO.refl _)
      | (with_reducible exact LeO.none _)
      | (with_reducible refine LeO.ite ?_ ?_)
      | (with_reducible refine LeO.bind ?_ (fun _ => ?_))
      | exact ih0 _ _ _ _ _ _ _ _
      | exact ih1 _
      | exact ih2 _ _ _ _ _
      | exact ih3 _
      | exact ih4 _ _ _ _ _ _ _
      | exact ih5 _ _ _
      | exact ih6 _ _ _ _
      | exact impl_Factorial.mono _ _
      | exact impl_IsSuper.mono _ _ _
      | exact impl_RanksIn.mono _ _ _
      | exact impl_ShortestSuper.mono _ _
      | exact impl_SuperBound.mono _ _
      | exact impl_SuperLength.mono _ _
      | exact impl_SuperOf.mono _ _
      | exact impl_WastedIn.mono _ _ _
      | exact laws_uSame.mono _ _ _
      | exact spec_DrawIsSuper.mono _ _
      | exact spec_IsSuper.mono _ _ _
      | exact spec_RanksIn.mono _ _ _
      | exact spec_ShortestSuper.mono _ _
      | exact spec_SuperBound.mono _ _
      | exact spec_SuperOf.mono _ _
      | exact LeO.none _
      | refine LeO.ite ?_ ?_
      | refine LeO.bind ?_ (fun _ => ?_)
    · intro y0
      unfold laws_FnSuperpermutations.j3
      repeat' first
      | (with_reducible exact ih0 _ _ _ _ _ _ _ _)
      | (with_reducible exact ih1 _)
      | (with_reducible exact ih2 _ _ _ _ _)
      | (with_reducible exact ih3 _)
      | (with_reducible exact ih4 _ _ _ _ _ _ _)
      | (with_reducible exact ih5 _ _ _)
      | (with_reducible exact ih6 _ _ _ _)
      | (with_reducible exact impl_Factorial.mono _ _)
      | (with_reducible exact impl_IsSuper.mono _ _ _)
      | (with_reducible exact impl_RanksIn.mono _ _ _)
      | (with_reducible exact impl_ShortestSuper.mono _ _)
      | (with_reducible exact impl_SuperBound.mono _ _)
      | (with_reducible exact impl_SuperLength.mono _ _)
      | (with_reducible exact impl_SuperOf.mono _ _)
      | (with_reducible exact impl_WastedIn.mono _ _ _)
      | (with_reducible exact laws_uSame.mono _ _ _)
      | (with_reducible exact spec_DrawIsSuper.mono _ _)
      | (with_reducible exact spec_IsSuper.mono _ _ _)
      | (with_reducible exact spec_RanksIn.mono _ _ _)
      | (with_reducible exact spec_ShortestSuper.mono _ _)
      | (with_reducible exact spec_SuperBound.mono _ _)
      | (with_reducible exact spec_SuperOf.mono _ _)
      | (with_reducible exact LeO.refl _)
      | (with_reducible exact LeO.none _)
      | (with_reducible refine LeO.ite ?_ ?_)
      | (with_reducible refine LeO.bind ?_ (fun _ => ?_))
      | exact ih0 _ _ _ _ _ _ _ _
      | exact ih1 _
      | exact ih2 _ _ _ _ _
      | exact ih3 _
      | exact ih4 _ _ _ _ _ _ _
      | exact ih5 _ _ _
      | exact ih6 _ _ _ _
      | exact impl_Factorial.mono _ _
      | exact impl_IsSuper.mono _ _ _
      | exact impl_RanksIn.mono _ _ _
      | exact impl_ShortestSuper.mono _ _
      | exact impl_SuperBound.mono _ _
      | exact impl_SuperLength.mono _ _
      | exact impl_SuperOf.mono _ _
      | exact impl_WastedIn.mono _ _ _
      | exact laws_uSame.mono _ _ _
      | exact spec_DrawIsSuper.mono _ _
      | exact spec_IsSuper.mono _ _ _
      | exact spec_RanksIn.mono _ _ _
      | exact spec_ShortestSuper.mono _ _
      | exact spec_SuperBound.mono _ _
      | exact spec_SuperOf.mono _ _
      | exact LeO.none _
      | refine LeO.ite ?_ ?_
      | refine LeO.bind ?_ (fun _ => ?_)
    · intro y0 y1 y2 y3 y4
      unfold laws_FnSuperpermutations.j4
      repeat' first
      | (with_reducible exact ih0 _ _ _ _ _ _ _ _)
      | (with_reducible exact ih1 _)
      | (with_reducible exact ih2 _ _ _ _ _)
      | (with_reducible exact ih3 _)
      | (with_reducible exact ih4 _ _ _ _ _ _ _)
      | (with_reducible exact ih5 _ _ _)
      | (with_reducible exact ih6 _ _ _ _)
      | (with_reducible exact impl_Factorial.mono _ _)
      | (with_reducible exact impl_IsSuper.mono _ _ _)
      | (with_reducible exact impl_RanksIn.mono _ _ _)
      | (with_reducible exact impl_ShortestSuper.mono _ _)
      | (with_reducible exact impl_SuperBound.mono _ _)
      | (with_reducible exact impl_SuperLength.mono _ _)
      | (with_reducible exact impl_SuperOf.mono _ _)
      | (with_reducible exact impl_WastedIn.mono _ _ _)
      | (with_reducible exact laws_uSame.mono _ _ _)
      | (with_reducible exact spec_DrawIsSuper.mono _ _)
      | (with_reducible exact spec_IsSuper.mono _ _ _)
      | (with_reducible exact spec_RanksIn.mono _ _ _)
      | (with_reducible exact spec_ShortestSuper.mono _ _)
      | (with_reducible exact spec_SuperBound.mono _ _)
      | (with_reducible exact spec_SuperOf.mono _ _)
      | (with_reducible exact LeO.refl _)
      | (with_reducible exact LeO.none _)
      | (with_reducible refine LeO.ite ?_ ?_)
      | (with_reducible refine LeO.bind ?_ (fun _ => ?_))
      | exact ih0 _ _ _ _ _ _ _ _
      | exact ih1 _
      | exact ih2 _ _ _ _ _
      | exact ih3 _
      | exact ih4 _ _ _ _ _ _ _
      | exact ih5 _ _ _
      | exact ih6 _ _ _ _
      | exact impl_Factorial.mono _ _
      | exact impl_IsSuper.mono _ _ _
      | exact impl_RanksIn.mono _ _ _
      | exact impl_ShortestSuper.mono _ _
      | exact impl_SuperBound.mono _ _
      | exact impl_SuperLength.mono _ _
      | exact impl_SuperOf.mono _ _
      | exact impl_WastedIn.mono _ _ _
      | exact laws_uSame.mono _ _ _
      | exact spec_DrawIsSuper.mono _ _
      | exact spec_IsSuper.mono _ _ _
      | exact spec_RanksIn.mono _ _ _
      | exact spec_ShortestSuper.mono _ _
      | exact spec_SuperBound.mono _ _
      | exact spec_SuperOf.mono _ _
      | exact LeO.none _
      | refine LeO.ite ?_ ?_
      | refine LeO.bind ?_ (fun _ => ?_)
    · intro y0
      unfold laws_FnSuperpermutations.j5
      repeat' first
      | (with_reducible exact ih0 _ _ _ _ _ _ _ _)
      | (with_reducible exact ih1 _)
      | (with_reducible exact ih2 _ _ _ _ _)
      | (with_reducible exact ih3 _)
      | (with_reducible exact ih4 _ _ _ _ _ _ _)
      | (with_reducible exact ih5 _ _ _)
      | (with_reducible exact ih6 _ _ _ _)
      | (with_reducible exact impl_Factorial.mono _ _)
      | (with_reducible exact impl_IsSuper.mono _ _ _)
      | (with_reducible exact impl_RanksIn.mono _ _ _)
      | (with_reducible exact impl_ShortestSuper.mono _ _)
      | (with_reducible exact impl_SuperBound.mono _ _)
      | (with_reducible exact impl_SuperLength.mono _ _)
      | (with_reducible exact impl_SuperOf.mono _ _)
      | (with_reducible exact impl_WastedIn.mono _ _ _)
      | (with_reducible exact laws_uSame.mono _ _ _)
      | (with_reducible exact spec_DrawIsSuper.mono _ _)
      | (with_reducible exact spec_IsSuper.mono _ _ _)
      | (with_reducible exact spec_RanksIn.mono _ _ _)
      | (with_reducible exact spec_ShortestSuper.mono _ _)
      | (with_reducible exact spec_SuperBound.mono _ _)
      | (with_reducible exact spec_SuperOf.mono _ _)
      | (with_reducible exact LeO.refl _)
      | (with_reducible exact LeO.none _)
      | (with_reducible refine LeO.ite ?_ ?_)
      | (with_reducible refine LeO.bind ?_ (fun _ => ?_))
      | exact ih0 _ _ _ _ _ _ _ _
      | exact ih1 _
      | exact ih2 _ _ _ _ _
      | exact ih3 _
      | exact ih4 _ _ _ _ _ _ _
      | exact ih5 _ _ _
      | exact ih6 _ _ _ _
      | exact impl_Factorial.mono _ _
      | exact impl_IsSuper.mono _ _ _
      | exact impl_RanksIn.mono _ _ _
      | exact impl_ShortestSuper.mono _ _
      | exact impl_SuperBound.mono _ _
      | exact impl_SuperLength.mono _ _
      | exact impl_SuperOf.mono _ _
      | exact impl_WastedIn.mono _ _ _
      | exact laws_uSame.mono _ _ _
      | exact spec_DrawIsSuper.mono _ _
      | exact spec_IsSuper.mono _ _ _
      | exact spec_RanksIn.mono _ _ _
      | exact spec_ShortestSuper.mono _ _
      | exact spec_SuperBound.mono _ _
      | exact spec_SuperOf.mono _ _
      | exact LeO.none _
      | refine LeO.ite ?_ ?_
      | refine LeO.bind ?_ (fun _ => ?_)
    · intro y0 y1 y2 y3 y4 y5 y6
      unfold laws_FnSuperpermutations.j6
      repeat' first
      | (with_reducible exact ih0 _ _ _ _ _ _ _ _)
      | (with_reducible exact ih1 _)
      | (with_reducible exact ih2 _ _ _ _ _)
      | (with_reducible exact ih3 _)
      | (with_reducible exact ih4 _ _ _ _ _ _ _)
      | (with_reducible exact ih5 _ _ _)
      | (with_reducible exact ih6 _ _ _ _)
      | (with_reducible exact impl_Factorial.mono _ _)
      | (with_reducible exact impl_IsSuper.mono _ _ _)
      | (with_reducible exact impl_RanksIn.mono _ _ _)
      | (with_reducible exact impl_ShortestSuper.mono _ _)
      | (with_reducible exact impl_SuperBound.mono _ _)
      | (with_reducible exact impl_SuperLength.mono _ _)
      | (with_reducible exact impl_SuperOf.mono _ _)
      | (with_reducible exact impl_WastedIn.mono _ _ _)
      | (with_reducible exact laws_uSame.mono _ _ _)
      | (with_reducible exact spec_DrawIsSuper.mono _ _)
      | (with_reducible exact spec_IsSuper.mono _ _ _)
      | (with_reducible exact spec_RanksIn.mono _ _ _)
      | (with_reducible exact spec_ShortestSuper.mono _ _)
      | (with_reducible exact spec_SuperBound.mono _ _)
      | (with_reducible exact spec_SuperOf.mono _ _)
      | (with_reducible exact LeO.refl _)
      | (with_reducible exact LeO.none _)
      | (with_reducible refine LeO.ite ?_ ?_)
      | (with_reducible refine LeO.bind ?_ (fun _ => ?_))
      | exact ih0 _ _ _ _ _ _ _ _
      | exact ih1 _
      | exact ih2 _ _ _ _ _
      | exact ih3 _
      | exact ih4 _ _ _ _ _ _ _
      | exact ih5 _ _ _
      | exact ih6 _ _ _ _
      | exact impl_Factorial.mono _ _
      | exact impl_IsSuper.mono _ _ _
      | exact impl_RanksIn.mono _ _ _
      | exact impl_ShortestSuper.mono _ _
      | exact impl_SuperBound.mono _ _
      | exact impl_SuperLength.mono _ _
      | exact impl_SuperOf.mono _ _
      | exact impl_WastedIn.mono _ _ _
      | exact laws_uSame.mono _ _ _
      | exact spec_DrawIsSuper.mono _ _
      | exact spec_IsSuper.mono _ _ _
      | exact spec_RanksIn.mono _ _ _
      | exact spec_ShortestSuper.mono _ _
      | exact spec_SuperBound.mono _ _
      | exact spec_SuperOf.mono _ _
      | exact LeO.none _
      | refine LeO.ite ?_ ?_
      | refine LeO.bind ?_ (fun _ => ?_)
    · intro y0 y1 y2
      unfold laws_FnSuperpermutations.j1
      repeat' first
      | (with_reducible exact ih0 _ _ _ _ _ _ _ _)
      | (with_reducible exact ih1 _)
      | (with_reducible exact ih2 _ _ _ _ _)
      | (with_reducible exact ih3 _)
      | (with_reducible exact ih4 _ _ _ _ _ _ _)
      | (with_reducible exact ih5 _ _ _)
      | (with_reducible exact ih6 _ _ _ _)
      | (with_reducible exact impl_Factorial.mono _ _)
      | (with_reducible exact impl_IsSuper.mono _ _ _)
      | (with_reducible exact impl_RanksIn.mono _ _ _)
      | (with_reducible exact impl_ShortestSuper.mono _ _)
      | (with_reducible exact impl_SuperBound.mono _ _)
      | (with_reducible exact impl_SuperLength.mono _ _)
      | (with_reducible exact impl_SuperOf.mono _ _)
      | (with_reducible exact impl_WastedIn.mono _ _ _)
      | (with_reducible exact laws_uSame.mono _ _ _)
      | (with_reducible exact spec_DrawIsSuper.mono _ _)
      | (with_reducible exact spec_IsSuper.mono _ _ _)
      | (with_reducible exact spec_RanksIn.mono _ _ _)
      | (with_reducible exact spec_ShortestSuper.mono _ _)
      | (with_reducible exact spec_SuperBound.mono _ _)
      | (with_reducible exact spec_SuperOf.mono _ _)
      | (with_reducible exact LeO.refl _)
      | (with_reducible exact LeO.none _)
      | (with_reducible refine LeO.ite ?_ ?_)
      | (with_reducible refine LeO.bind ?_ (fun _ => ?_))
      | exact ih0 _ _ _ _ _ _ _ _
      | exact ih1 _
      | exact ih2 _ _ _ _ _
      | exact ih3 _
      | exact ih4 _ _ _ _ _ _ _
      | exact ih5 _ _ _
      | exact ih6 _ _ _ _
      | exact impl_Factorial.mono _ _
      | exact impl_IsSuper.mono _ _ _
      | exact impl_RanksIn.mono _ _ _
      | exact impl_ShortestSuper.mono _ _
      | exact impl_SuperBound.mono _ _
      | exact impl_SuperLength.mono _ _
      | exact impl_SuperOf.mono _ _
      | exact impl_WastedIn.mono _ _ _
      | exact laws_uSame.mono _ _ _
      | exact spec_DrawIsSuper.mono _ _
      | exact spec_IsSuper.mono _ _ _
      | exact spec_RanksIn.mono _ _ _
      | exact spec_ShortestSuper.mono _ _
      | exact spec_SuperBound.mono _ _
      | exact spec_SuperOf.mono _ _
      | exact LeO.none _
      | refine LeO.ite ?_ ?_
      | refine LeO.bind ?_ (fun _ => ?_)
    · intro y0 y1 y2 y3
      unfold laws_FnSuperpermutations.l0
      repeat' first
      | (with_reducible exact ih0 _ _ _ _ _ _ _ _)
      | (with_reducible exact ih1 _)
      | (with_reducible exact ih2 _ _ _ _ _)
      | (with_reducible exact ih3 _)
      | (with_reducible exact ih4 _ _ _ _ _ _ _)
      | (with_reducible exact ih5 _ _ _)
      | (with_reducible exact ih6 _ _ _ _)
      | (with_reducible exact impl_Factorial.mono _ _)
      | (with_reducible exact impl_IsSuper.mono _ _ _)
      | (with_reducible exact impl_RanksIn.mono _ _ _)
      | (with_reducible exact impl_ShortestSuper.mono _ _)
      | (with_reducible exact impl_SuperBound.mono _ _)
      | (with_reducible exact impl_SuperLength.mono _ _)
      | (with_reducible exact impl_SuperOf.mono _ _)
      | (with_reducible exact impl_WastedIn.mono _ _ _)
      | (with_reducible exact laws_uSame.mono _ _ _)
      | (with_reducible exact spec_DrawIsSuper.mono _ _)
      | (with_reducible exact spec_IsSuper.mono _ _ _)
      | (with_reducible exact spec_RanksIn.mono _ _ _)
      | (with_reducible exact spec_ShortestSuper.mono _ _)
      | (with_reducible exact spec_SuperBound.mono _ _)
      | (with_reducible exact spec_SuperOf.mono _ _)
      | (with_reducible exact LeO.refl _)
      | (with_reducible exact LeO.none _)
      | (with_reducible refine LeO.ite ?_ ?_)
      | (with_reducible refine LeO.bind ?_ (fun _ => ?_))
      | exact ih0 _ _ _ _ _ _ _ _
      | exact ih1 _
      | exact ih2 _ _ _ _ _
      | exact ih3 _
      | exact ih4 _ _ _ _ _ _ _
      | exact ih5 _ _ _
      | exact ih6 _ _ _ _
      | exact impl_Factorial.mono _ _
      | exact impl_IsSuper.mono _ _ _
      | exact impl_RanksIn.mono _ _ _
      | exact impl_ShortestSuper.mono _ _
      | exact impl_SuperBound.mono _ _
      | exact impl_SuperLength.mono _ _
      | exact impl_SuperOf.mono _ _
      | exact impl_WastedIn.mono _ _ _
      | exact laws_uSame.mono _ _ _
      | exact spec_DrawIsSuper.mono _ _
      | exact spec_IsSuper.mono _ _ _
      | exact spec_RanksIn.mono _ _ _
      | exact spec_ShortestSuper.mono _ _
      | exact spec_SuperBound.mono _ _
      | exact spec_SuperOf.mono _ _
      | exact LeO.none _
      | refine LeO.ite ?_ ?_
      | refine LeO.bind ?_ (fun _ => ?_)
theorem laws_FnSuperpermutations.mono : ∀ a0 a1 k, LeO (laws_FnSuperpermutations.f k a0 a1) (laws_FnSuperpermutations.f (k + 1) a0 a1) := by
  intro a0 a1 k
  obtain ⟨ih0, ih1, ih2, ih3, ih4, ih5, ih6⟩ := laws_FnSuperpermutations.mono_l k
  unfold laws_FnSuperpermutations.f
  repeat' first
      | (with_reducible exact ih0 _ _ _ _ _ _ _ _)
      | (with_reducible exact ih1 _)
      | (with_reducible exact ih2 _ _ _ _ _)
      | (with_reducible exact ih3 _)
      | (with_reducible exact ih4 _ _ _ _ _ _ _)
      | (with_reducible exact ih5 _ _ _)
      | (with_reducible exact ih6 _ _ _ _)
      | (with_reducible exact impl_Factorial.mono _ _)
      | (with_reducible exact impl_IsSuper.mono _ _ _)
      | (with_reducible exact impl_RanksIn.mono _ _ _)
      | (with_reducible exact impl_ShortestSuper.mono _ _)
      | (with_reducible exact impl_SuperBound.mono _ _)
      | (with_reducible exact impl_SuperLength.mono _ _)
      | (with_reducible exact impl_SuperOf.mono _ _)
      | (with_reducible exact impl_WastedIn.mono _ _ _)
      | (with_reducible exact laws_uSame.mono _ _ _)
      | (with_reducible exact spec_DrawIsSuper.mono _ _)
      | (with_reducible exact spec_IsSuper.mono _ _ _)
      | (with_reducible exact spec_RanksIn.mono _ _ _)
      | (with_reducible exact spec_ShortestSuper.mono _ _)
      | (with_reducible exact spec_SuperBound.mono _ _)
      | (with_reducible exact spec_SuperOf.mono _ _)
      | (with_reducible exact LeO.refl _)
      | (with_reducible exact LeO.none _)
      | (with_reducible refine LeO.ite ?_ ?_)
      | (with_reducible refine LeO.bind ?_ (fun _ => ?_))
      | exact ih0 _ _ _ _ _ _ _ _
      | exact ih1 _
      | exact ih2 _ _ _ _ _
      | exact ih3 _
      | exact ih4 _ _ _ _ _ _ _
      | exact ih5 _ _ _
      | exact ih6 _ _ _ _
      | exact impl_Factorial.mono _ _
      | exact impl_IsSuper.mono _ _ _
      | exact impl_RanksIn.mono _ _ _
      | exact impl_ShortestSuper.mono _ _
      | exact impl_SuperBound.mono _ _
      | exact impl_SuperLength.mono _ _
      | exact impl_SuperOf.mono _ _
      | exact impl_WastedIn.mono _ _ _
      | exact laws_uSame.mono _ _ _
      | exact spec_DrawIsSuper.mono _ _
      | exact spec_IsSuper.mono _ _ _
      | exact spec_RanksIn.mono _ _ _
      | exact spec_ShortestSuper.mono _ _
      | exact spec_SuperBound.mono _ _
      | exact spec_SuperOf.mono _ _
      | exact LeO.none _
      | refine LeO.ite ?_ ?_
      | refine LeO.bind ?_ (fun _ => ?_)
set_option maxHeartbeats 8000000 in
set_option maxRecDepth 100000 in
theorem laws_FnSuperpermutations.calls (k : Nat) (A0 : Option Addr) (c0 : Nat) (l0 : List Int) (A1 : Option Addr) (c1 : Nat) (l1 : List Int) (r : Bool) (w : World) (hr0 : Kd.C (Kd.int .u8) w A0 l0.length l0) (hc0 : l0.length ≤ c0) (hr1 : Kd.C (Kd.int .u8) w A1 l1.length l1) (hc1 : l1.length ≤ c1) (h : laws_FnSuperpermutations.f k l0 l1 = some r) :
    Calls Try.prog 13 #[.slice A0 l0.length c0, .slice A1 l1.length c1] w fun e w' => e = .returned (.bool r) ∧ Below w.heap.size w w' := by
  have HR0 := Aside0.mk hr0
  have HC0 := Aside0.mk hc0
  clear hr0 hc0
  have HR1 := Aside0.mk hr1
  have HC1 := Aside0.mk hc1
  clear hr1 hc1
  have HB := Aside0.mk (Below.refl w.heap.size w)
  have H : ((laws_big.f l0 l1).bind fun t430 => (if t430 = true then (some true) else ((spec_DrawSuperOf.f l0).bind fun t431 => ((impl_SuperOf.f k t431).bind fun bt432 => ((spec_SuperOf.f k t431).bind fun bt436 => ((impl_SuperLength.f k t431).bind fun bt440 => ((impl_SuperBound.f k t431).bind fun bt442 => ((spec_SuperBound.f k t431).bind fun bt444 => (if (bt432.2 != bt436.2) = true then (laws_FnSuperpermutations.j0 k l1 t431 bt432.1 bt432.2 bt440.1 bt442.1 bt442.2 true) else ((laws_uSame.f k bt432.1 bt436.1).bind fun t446 => (if t446 = true then (if (bt440.2 != bt432.2) = true then (laws_FnSuperpermutations.j0 k l1 t431 bt432.1 bt432.2 bt440.1 bt442.1 bt442.2 true) else (if (bt442.2 != bt444.2) = true then (laws_FnSuperpermutations.j0 k l1 t431 bt432.1 bt432.2 bt440.1 bt442.1 bt442.2 true) else (laws_FnSuperpermutations.j0 k l1 t431 bt432.1 bt432.2 bt440.1 bt442.1 bt442.2 (bt442.1 != bt444.1)))) else (laws_FnSuperpermutations.j0 k l1 t431 bt432.1 bt432.2 bt440.1 bt442.1 bt442.2 true)))))))))))) = some r := h
  clear h
  replace H := Option.bind_eq_some_iff.mp H
  obtain ⟨t430, A30, H⟩ := H
  replace H : (if t430 = true then (some true) else ((spec_DrawSuperOf.f l0).bind fun t431 => ((impl_SuperOf.f k t431).bind fun bt432 => ((spec_SuperOf.f k t431).bind fun bt436 => ((impl_SuperLength.f k t431).bind fun bt440 => ((impl_SuperBound.f k t431).bind fun bt442 => ((spec_SuperBound.f k t431).bind fun bt444 => (if (bt432.2 != bt436.2) = true then (laws_FnSuperpermutations.j0 k l1 t431 bt432.1 bt432.2 bt440.1 bt442.1 bt442.2 true) else ((laws_uSame.f k bt432.1 bt436.1).bind fun t446 => (if t446 = true then (if (bt440.2 != bt432.2) = true then (laws_FnSuperpermutations.j0 k l1 t431 bt432.1 bt432.2 bt440.1 bt442.1 bt442.2 true) else (if (bt442.2 != bt444.2) = true then (laws_FnSuperpermutations.j0 k l1 t431 bt432.1 bt432.2 bt440.1 bt442.1 bt442.2 true) else (laws_FnSuperpermutations.j0 k l1 t431 bt432.1 bt432.2 bt440.1 bt442.1 bt442.2 (bt442.1 != bt444.1)))) else (laws_FnSuperpermutations.j0 k l1 t431 bt432.1 bt432.2 bt440.1 bt442.1 bt442.2 true))))))))))) = some r := H
  have A3 := Aside0.mk A30
  clear A30
  by_cases c4 : t430 = true
  · subst c4
    have H1 : (some true) = some r := by rw [if_pos rfl] at H; exact H
    clear H
    have H := H1
    clear H1
    as_aux_lemma =>
      obtain rfl := Option.some.inj H
      go_enter Try.func13, Try.ntmps13
      go_wp2_with (first | (go_at_call 33; (with_reducible refine (laws_big.calls _ _ l0 _ _ l1 true _ ?side1 ?side2 ?side3 ?side4 A3.out).mono ?_); (case side1 => repeat (first | exact HR0.out | (with_reducible refine Kd.C_alloc ?_ _) | (with_reducible refine Kd.C_drewN ?_ _) | (with_reducible refine Kd.C_drew ?_))); (case side2 => exact HC0.out); (case side3 => repeat (first | exact HR1.out | (with_reducible refine Kd.C_alloc ?_ _) | (with_reducible refine Kd.C_drewN ?_ _) | (with_reducible refine Kd.C_drew ?_))); (case side4 => exact HC1.out); rintro e w' ⟨rfl, ⟨nd, rfl⟩⟩; (try first | exact ⟨rfl, _, World.drewN_drewN _ _ _⟩ | exact ⟨rfl, _, Eq.trans (World.drewN_drewN _ _ _) (congrArg (World.drewN _) (Nat.add_assoc _ _ _))⟩)))
      go_ret
      exact ⟨by first | rfl | (simp [errW_none, errW_some] <;> rfl) | (simp [*, errW_none, errW_some] <;> rfl), by repeat (first | (with_reducible first | exact HB.out | apply below_alloc | apply pw_below_drewN | apply below_drew1) | exact HB.out)⟩
  · replace c4 := Bool.eq_false_iff.mpr c4
    subst c4
    have H1 : ((spec_DrawSuperOf.f l0).bind fun t431 => ((impl_SuperOf.f k t431).bind fun bt432 => ((spec_SuperOf.f k t431).bind fun bt436 => ((impl_SuperLength.f k t431).bind fun bt440 => ((impl_SuperBound.f k t431).bind fun bt442 => ((spec_SuperBound.f k t431).bind fun bt444 => (if (bt432.2 != bt436.2) = true then (laws_FnSuperpermutations.j0 k l1 t431 bt432.1 bt432.2 bt440.1 bt442.1 bt442.2 true) else ((laws_uSame.f k bt432.1 bt436.1).bind fun t446 => (if t446 = true then (if (bt440.2 != bt432.2) = true then (laws_FnSuperpermutations.j0 k l1 t431 bt432.1 bt432.2 bt440.1 bt442.1 bt442.2 true) else (if (bt442.2 != bt444.2) = true then (laws_FnSuperpermutations.j0 k l1 t431 bt432.1 bt432.2 bt440.1 bt442.1 bt442.2 true) else (laws_FnSuperpermutations.j0 k l1 t431 bt432.1 bt432.2 bt440.1 bt442.1 bt442.2 (bt442.1 != bt444.1)))) else (laws_FnSuperpermutations.j0 k l1 t431 bt432.1 bt432.2 bt440.1 bt442.1 bt442.2 true)))))))))) = some r := by rw [if_neg (show ¬ (false = true) by decide)] at H; exact H
    clear H
    have H := H1
    clear H1
    replace H := Option.bind_eq_some_iff.mp H
    obtain ⟨t431, A50, H⟩ := H
    replace H : ((impl_SuperOf.f k t431).bind fun bt432 => ((spec_SuperOf.f k t431).bind fun bt436 => ((impl_SuperLength.f k t431).bind fun bt440 => ((impl_SuperBound.f k t431).bind fun bt442 => ((spec_SuperBound.f k t431).bind fun bt444 => (if (bt432.2 != bt436.2) = true then (laws_FnSuperpermutations.j0 k l1 t431 bt432.1 bt432.2 bt440.1 bt442.1 bt442.2 true) else ((laws_uSame.f k bt432.1 bt436.1).bind fun t446 => (if t446 = true then (if (bt440.2 != bt432.2) = true then (laws_FnSuperpermutations.j0 k l1 t431 bt432.1 bt432.2 bt440.1 bt442.1 bt442.2 true) else (if (bt442.2 != bt444.2) = true then (laws_FnSuperpermutations.j0 k l1 t431 bt432.1 bt432.2 bt440.1 bt442.1 bt442.2 true) else (laws_FnSuperpermutations.j0 k l1 t431 bt432.1 bt432.2 bt440.1 bt442.1 bt442.2 (bt442.1 != bt444.1)))) else (laws_FnSuperpermutations.j0 k l1 t431 bt432.1 bt432.2 bt440.1 bt442.1 bt442.2 true))))))))) = some r := H
    have A5 := Aside0.mk A50
    clear A50
    replace H := Option.bind_eq_some_iff.mp H
    obtain ⟨⟨t432, t433⟩, A60, H⟩ := H
    replace H : ((spec_SuperOf.f k t431).bind fun bt436 => ((impl_SuperLength.f k t431).bind fun bt440 => ((impl_SuperBound.f k t431).bind fun bt442 => ((spec_SuperBound.f k t431).bind fun bt444 => (if (t433 != bt436.2) = true then (laws_FnSuperpermutations.j0 k l1 t431 t432 t433 bt440.1 bt442.1 bt442.2 true) else ((laws_uSame.f k t432 bt436.1).bind fun t446 => (if t446 = true then (if (bt440.2 != t433) = true then (laws_FnSuperpermutations.j0 k l1 t431 t432 t433 bt440.1 bt442.1 bt442.2 true) else (if (bt442.2 != bt444.2) = true then (laws_FnSuperpermutations.j0 k l1 t431 t432 t433 bt440.1 bt442.1 bt442.2 true) else (laws_FnSuperpermutations.j0 k l1 t431 t432 t433 bt440.1 bt442.1 bt442.2 (bt442.1 != bt444.1)))) else (laws_FnSuperpermutations.j0 k l1 t431 t432 t433 bt440.1 bt442.1 bt442.2 true)))))))) = some r := H
    have A6 := Aside0.mk A60
    clear A60
    replace H := Option.bind_eq_some_iff.mp H
    obtain ⟨⟨t436, t437⟩, A70, H⟩ := H
    replace H : ((impl_SuperLength.f k t431).bind fun bt440 => ((impl_SuperBound.f k t431).bind fun bt442 => ((spec_SuperBound.f k t431).bind fun bt444 => (if (t433 != t437) = true then (laws_FnSuperpermutations.j0 k l1 t431 t432 t433 bt440.1 bt442.1 bt442.2 true) else ((laws_uSame.f k t432 t436).bind fun t446 => (if t446 = true then (if (bt440.2 != t433) = true then (laws_FnSuperpermutations.j0 k l1 t431 t432 t433 bt440.1 bt442.1 bt442.2 true) else (if (bt442.2 != bt444.2) = true then (laws_FnSuperpermutations.j0 k l1 t431 t432 t433 bt440.1 bt442.1 bt442.2 true) else (laws_FnSuperpermutations.j0 k l1 t431 t432 t433 bt440.1 bt442.1 bt442.2 (bt442.1 != bt444.1)))) else (laws_FnSuperpermutations.j0 k l1 t431 t432 t433 bt440.1 bt442.1 bt442.2 true))))))) = some r := H
    have A7 := Aside0.mk A70
    clear A70
    replace H := Option.bind_eq_some_iff.mp H
    obtain ⟨⟨t440, t441⟩, A80, H⟩ := H
    replace H : ((impl_SuperBound.f k t431).bind fun bt442 => ((spec_SuperBound.f k t431).bind fun bt444 => (if (t433 != t437) = true then (laws_FnSuperpermutations.j0 k l1 t431 t432 t433 t440 bt442.1 bt442.2 true) else ((laws_uSame.f k t432 t436).bind fun t446 => (if t446 = true then (if (t441 != t433) = true then (laws_FnSuperpermutations.j0 k l1 t431 t432 t433 t440 bt442.1 bt442.2 true) else (if (bt442.2 != bt444.2) = true then (laws_FnSuperpermutations.j0 k l1 t431 t432 t433 t440 bt442.1 bt442.2 true) else (laws_FnSuperpermutations.j0 k l1 t431 t432 t433 t440 bt442.1 bt442.2 (bt442.1 != bt444.1)))) else (laws_FnSuperpermutations.j0 k l1 t431 t432 t433 t440 bt442.1 bt442.2 true)))))) = some r := H
    have A8 := Aside0.mk A80
    clear A80
    replace H := Option.bind_eq_some_iff.mp H
    obtain ⟨⟨t442, t443⟩, A90, H⟩ := H
    replace H : ((spec_SuperBound.f k t431).bind fun bt444 => (if (t433 != t437) = true then (laws_FnSuperpermutations.j0 k l1 t431 t432 t433 t440 t442 t443 true) else ((laws_uSame.f k t432 t436).bind fun t446 => (if t446 = true then (if (t441 != t433) = true then (laws_FnSuperpermutations.j0 k l1 t431 t432 t433 t440 t442 t443 true) else (if (t443 != bt444.2) = true then (laws_FnSuperpermutations.j0 k l1 t431 t432 t433 t440 t442 t443 true) else (laws_FnSuperpermutations.j0 k l1 t431 t432 t433 t440 t442 t443 (t442 != bt444.1)))) else (laws_FnSuperpermutations.j0 k l1 t431 t432 t433 t440 t442 t443 true))))) = some r := H
    have A9 := Aside0.mk A90
    clear A90
    replace H := Option.bind_eq_some_iff.mp H
    obtain ⟨⟨t444, t445⟩, A100, H⟩ := H
    replace H : (if (t433 != t437) = true then (laws_FnSuperpermutations.j0 k l1 t431 t432 t433 t440 t442 t443 true) else ((laws_uSame.f k t432 t436).bind fun t446 => (if t446 = true then (if (t441 != t433) = true then (laws_FnSuperpermutations.j0 k l1 t431 t432 t433 t440 t442 t443 true) else (if (t443 != t445) = true then (laws_FnSuperpermutations.j0 k l1 t431 t432 t433 t440 t442 t443 true) else (laws_FnSuperpermutations.j0 k l1 t431 t432 t433 t440 t442 t443 (t442 != t444)))) else (laws_FnSuperpermutations.j0 k l1 t431 t432 t433 t440 t442 t443 true)))) = some r := H
    have A10 := Aside0.mk A100
    clear A100
    have HC11 := Aside0.mk H
    clear H
    go_enter Try.func13, Try.ntmps13
    go_upto_region 9 with (first | (go_at_call 33; (with_reducible refine (laws_big.calls _ _ l0 _ _ l1 false _ ?side1 ?side2 ?side3 ?side4 A3.out).mono ?_); (case side1 => repeat (first | exact HR0.out | (with_reducible refine Kd.C_alloc ?_ _) | (with_reducible refine Kd.C_drewN ?_ _) | (with_reducible refine Kd.C_drew ?_))); (case side2 => exact HC0.out); (case side3 => repeat (first | exact HR1.out | (with_reducible refine Kd.C_alloc ?_ _) | (with_reducible refine Kd.C_drewN ?_ _) | (with_reducible refine Kd.C_drew ?_))); (case side4 => exact HC1.out); rintro e w' ⟨rfl, ⟨nd, rfl⟩⟩; (try first | exact ⟨rfl, _, World.drewN_drewN _ _ _⟩ | exact ⟨rfl, _, Eq.trans (World.drewN_drewN _ _ _) (congrArg (World.drewN _) (Nat.add_assoc _ _ _))⟩)) | (go_at_call 64; (with_reducible refine (spec_DrawSuperOf.calls _ _ l0 t431 _ ?side1 ?side2 A5.out).mono ?_); (case side1 => repeat (first | exact HR0.out | (with_reducible refine Kd.C_alloc ?_ _) | (with_reducible refine Kd.C_drewN ?_ _) | (with_reducible refine Kd.C_drew ?_))); (case side2 => exact HC0.out); rintro e w12 ⟨rfl, hb⟩; have n0_ := Aside0.mk (below_step (by repeat (first | (with_reducible first | exact HB.out | apply below_alloc | apply pw_below_drewN | apply below_drew1) | exact HB.out)) hb); clear HB; have HB := n0_; clear n0_; (try clear hb); (try clear hb2); (try clear hk); (try clear hi)) | (go_at_call 30; (with_reducible refine (impl_SuperOf.calls k t431 t432 t433 _ A6.out).mono ?_); rintro e w13 ⟨v434, rfl, ho0, hb⟩; have n0_ := Aside0.mk (Kd.R_lower ho0 (below_size (by repeat (first | (with_reducible first | exact HB.out | apply below_alloc | apply pw_below_drewN | apply below_drew1) | exact HB.out)))); have n1_ := Aside0.mk (below_step (by repeat (first | (with_reducible first | exact HB.out | apply below_alloc | apply pw_below_drewN | apply below_drew1) | exact HB.out)) hb); clear HB; have HO435 := n0_; have HB := n1_; clear n0_ n1_; (try clear hb); (try clear hb2); (try clear hk); (try clear hi); (try clear ho0)) | (go_at_call 29; (with_reducible refine (spec_SuperOf.calls k t431 t436 t437 _ A7.out).mono ?_); rintro e w14 ⟨v438, rfl, ho0, hb⟩; have n0_ := Aside0.mk (Kd.R_elder' (by (with_reducible repeat (first | apply Kd.R_alloc | apply Kd.R_drewN | apply Kd.R_drew)); exact HO435.out) (Kd.R_base ho0) hb); have n1_ := Aside0.mk (Kd.R_lower (Kd.R_new' ho0 (Kd.R_lt (by (with_reducible repeat (first | apply Kd.R_alloc | apply Kd.R_drewN | apply Kd.R_drew)); exact HO435.out))) (below_size (by repeat (first | (with_reducible first | exact HB.out | apply below_alloc | apply pw_below_drewN | apply below_drew1) | exact HB.out)))); have n2_ := Aside0.mk (below_step (by repeat (first | (with_reducible first | exact HB.out | apply below_alloc | apply pw_below_drewN | apply below_drew1) | exact HB.out)) hb); clear HO435; clear HB; have HO435 := n0_; have HO439 := n1_; have HB := n2_; clear n0_ n1_ n2_; (try clear hb); (try clear hb2); (try clear hk); (try clear hi); (try clear ho0)) | (go_at_call 65; (with_reducible refine (impl_SuperLength.calls k t431 t440 t441 _ A8.out).mono ?_); rintro e w' ⟨rfl, ⟨nd, rfl⟩⟩; (try first | exact ⟨rfl, _, World.drewN_drewN _ _ _⟩ | exact ⟨rfl, _, Eq.trans (World.drewN_drewN _ _ _) (congrArg (World.drewN _) (Nat.add_assoc _ _ _))⟩)) | (go_at_call 66; (with_reducible refine (impl_SuperBound.calls k t431 t442 t443 _ A9.out).mono ?_); rintro e w' ⟨rfl, ⟨nd, rfl⟩⟩; (try first | exact ⟨rfl, _, World.drewN_drewN _ _ _⟩ | exact ⟨rfl, _, Eq.trans (World.drewN_drewN _ _ _) (congrArg (World.drewN _) (Nat.add_assoc _ _ _))⟩)) | (go_at_call 67; (with_reducible refine (spec_SuperBound.calls k t431 t444 t445 _ A10.out).mono ?_); rintro e w' ⟨rfl, ⟨nd, rfl⟩⟩; (try first | exact ⟨rfl, _, World.drewN_drewN _ _ _⟩ | exact ⟨rfl, _, Eq.trans (World.drewN_drewN _ _ _) (congrArg (World.drewN _) (Nat.add_assoc _ _ _))⟩)))
    (try simp only [Act.put, List.setIfInBounds_toArray, List.set_cons_zero, List.set_cons_succ])
    go_cut [98] (fun v98 wc => ∃ (kq : Nat) (x98_10 : Bool), v98 = .bool x98_10 ∧ Aside0 (laws_FnSuperpermutations.j0 kq l1 t431 t432 t433 t440 t442 t443 x98_10 = some r) ∧ Aside0 (kq ≤ k) ∧ Aside0 (Kd.R (Kd.int .i64) 3 wc w.heap.size (fun _ => True) v434 t432) ∧ Aside0 (Below w.heap.size w wc))
    case first =>
      have H := HC11.out
      clear HC11
      by_cases c15 : (t433 != t437) = true
      · rw [if_pos c15] at H
        have c15b0 : (t433 != t437) = true := c15
        (try (have c15b1 : decide (t433 = t437) = false := by simpa using c15))
        (try (have c15b2 : (t433 == t437) = false := by simpa using c15))
        (try (have c15b3 : ¬ (t433 = t437) := by simpa using c15))
        clear c15
        (first | rw [c15b0] | (simp only [i64_w, i32_w]; rw [c15b0]) | skip)
        as_aux_lemma =>
          have H' := Aside0.mk H
          clear H
          go_wp2
          repeat (go_quiet (fail); try go_wp2)
          go_meet
          case rel => exact ⟨_, (true), (by first | rfl | (simp; done) | (simp [*]; done)), H', ⟨by first | omega | exact Nat.le_refl _⟩, ⟨by (with_reducible repeat (first | apply Kd.R_alloc | apply Kd.R_drewN | apply Kd.R_drew)); exact Kd.R_mono HO435.out (fun _ hk => trivial)⟩, ⟨by repeat (first | (with_reducible first | exact HB.out | apply below_alloc | apply pw_below_drewN | apply below_drew1) | exact HB.out)⟩⟩
      · rw [if_neg c15] at H
        have c15b0 : (t433 != t437) = false := by simpa using c15
        (try (have c15b1 : decide (t433 = t437) = true := by simpa using c15))
        (try (have c15b2 : (t433 == t437) = true := by simpa using c15))
        clear c15
        (first | rw [c15b0] | (simp only [i64_w, i32_w]; rw [c15b0]) | skip)
        replace H := Option.bind_eq_some_iff.mp H
        obtain ⟨t446, A160, H⟩ := H
        replace H : (if t446 = true then (if (t441 != t433) = true then (laws_FnSuperpermutations.j0 k l1 t431 t432 t433 t440 t442 t443 true) else (if (t443 != t445) = true then (laws_FnSuperpermutations.j0 k l1 t431 t432 t433 t440 t442 t443 true) else (laws_FnSuperpermutations.j0 k l1 t431 t432 t433 t440 t442 t443 (t442 != t444)))) else (laws_FnSuperpermutations.j0 k l1 t431 t432 t433 t440 t442 t443 true)) = some r := H
        have A16 := Aside0.mk A160
        clear A160
        by_cases c17 : t446 = true
        · subst c17
          have H1 : (if (t441 != t433) = true then (laws_FnSuperpermutations.j0 k l1 t431 t432 t433 t440 t442 t443 true) else (if (t443 != t445) = true then (laws_FnSuperpermutations.j0 k l1 t431 t432 t433 t440 t442 t443 true) else (laws_FnSuperpermutations.j0 k l1 t431 t432 t433 t440 t442 t443 (t442 != t444)))) = some r := by rw [if_pos rfl] at H; exact H
          clear H
          have H := H1
          clear H1
          by_cases c18 : (t441 != t433) = true
          · rw [if_pos c18] at H
            have c18b0 : (t441 != t433) = true := c18
            (try (have c18b1 : decide (t441 = t433) = false := by simpa using c18))
            (try (have c18b2 : (t441 == t433) = false := by simpa using c18))
            (try (have c18b3 : ¬ (t441 = t433) := by simpa using c18))
            clear c18
            as_aux_lemma =>
              have H' := Aside0.mk H
              clear H
              obtain ⟨Ao19, co19, eo19⟩ := Kd.R_slice HO435.out
              subst eo19
              obtain ⟨Ao20, co20, eo20⟩ := Kd.R_slice HO439.out
              subst eo20
              go_wp2_with (first | (go_at_call 37; (with_reducible refine (laws_uSame.calls k _ _ t432 _ _ t436 true _ ?side1 ?side2 ?side3 ?side4 A16.out).mono ?_); (case side1 => repeat (first | exact (Kd.R_reads' HO435.out).2.2 | (with_reducible refine Kd.C_alloc ?_ _) | (with_reducible refine Kd.C_drewN ?_ _) | (with_reducible refine Kd.C_drew ?_))); (case side2 => exact (Kd.R_reads' HO435.out).2.1); (case side3 => repeat (first | exact (Kd.R_reads' HO439.out).2.2 | (with_reducible refine Kd.C_alloc ?_ _) | (with_reducible refine Kd.C_drewN ?_ _) | (with_reducible refine Kd.C_drew ?_))); (case side4 => exact (Kd.R_reads' HO439.out).2.1); rintro e w' ⟨rfl, ⟨nd, rfl⟩⟩; (try first | exact ⟨rfl, _, World.drewN_drewN _ _ _⟩ | exact ⟨rfl, _, Eq.trans (World.drewN_drewN _ _ _) (congrArg (World.drewN _) (Nat.add_assoc _ _ _))⟩)))
              go_meet
              case rel => exact ⟨_, (true), (by first | rfl | (simp; done) | (simp [*]; done)), H', ⟨by first | omega | exact Nat.le_refl _⟩, ⟨by (with_reducible repeat (first | apply Kd.R_alloc | apply Kd.R_drewN | apply Kd.R_drew)); exact Kd.R_mono HO435.out (fun _ hk => trivial)⟩, ⟨by repeat (first | (with_reducible first | exact HB.out | apply below_alloc | apply pw_below_drewN | apply below_drew1) | exact HB.out)⟩⟩
          · rw [if_neg c18] at H
            have c18b0 : (t441 != t433) = false := by simpa using c18
            (try (have c18b1 : decide (t441 = t433) = true := by simpa using c18))
            (try (have c18b2 : (t441 == t433) = true := by simpa using c18))
            clear c18
            by_cases c21 : (t443 != t445) = true
            · rw [if_pos c21] at H
              have c21b0 : (t443 != t445) = true := c21
              (try (have c21b1 : decide (t443 = t445) = false := by simpa using c21))
              (try (have c21b2 : (t443 == t445) = false := by simpa using c21))
              (try (have c21b3 : ¬ (t443 = t445) := by simpa using c21))
              clear c21
              as_aux_lemma =>
                have H' := Aside0.mk H
                clear H
                obtain ⟨Ao22, co22, eo22⟩ := Kd.R_slice HO435.out
                subst eo22
                obtain ⟨Ao23, co23, eo23⟩ := Kd.R_slice HO439.out
                subst eo23
                go_wp2_with (first | (go_at_call 37; (with_reducible refine (laws_uSame.calls k _ _ t432 _ _ t436 true _ ?side1 ?side2 ?side3 ?side4 A16.out).mono ?_); (case side1 => repeat (first | exact (Kd.R_reads' HO435.out).2.2 | (with_reducible refine Kd.C_alloc ?_ _) | (with_reducible refine Kd.C_drewN ?_ _) | (with_reducible refine Kd.C_drew ?_))); (case side2 => exact (Kd.R_reads' HO435.out).2.1); (case side3 => repeat (first | exact (Kd.R_reads' HO439.out).2.2 | (with_reducible refine Kd.C_alloc ?_ _) | (with_reducible refine Kd.C_drewN ?_ _) | (with_reducible refine Kd.C_drew ?_))); (case side4 => exact (Kd.R_reads' HO439.out).2.1); rintro e w' ⟨rfl, ⟨nd, rfl⟩⟩; (try first | exact ⟨rfl, _, World.drewN_drewN _ _ _⟩ | exact ⟨rfl, _, Eq.trans (World.drewN_drewN _ _ _) (congrArg (World.drewN _) (Nat.add_assoc _ _ _))⟩)))
                go_meet
                case rel => exact ⟨_, (true), (by first | rfl | (simp; done) | (simp [*]; done)), H', ⟨by first | omega | exact Nat.le_refl _⟩, ⟨by (with_reducible repeat (first | apply Kd.R_alloc | apply Kd.R_drewN | apply Kd.R_drew)); exact Kd.R_mono HO435.out (fun _ hk => trivial)⟩, ⟨by repeat (first | (with_reducible first | exact HB.out | apply below_alloc | apply pw_below_drewN | apply below_drew1) | exact HB.out)⟩⟩
            · rw [if_neg c21] at H
              have c21b0 : (t443 != t445) = false := by simpa using c21
              (try (have c21b1 : decide (t443 = t445) = true := by simpa using c21))
              (try (have c21b2 : (t443 == t445) = true := by simpa using c21))
              clear c21
              as_aux_lemma =>
                have H' := Aside0.mk H
                clear H
                obtain ⟨Ao24, co24, eo24⟩ := Kd.R_slice HO435.out
                subst eo24
                obtain ⟨Ao25, co25, eo25⟩ := Kd.R_slice HO439.out
                subst eo25
                go_wp2_with (first | (go_at_call 37; (with_reducible refine (laws_uSame.calls k _ _ t432 _ _ t436 true _ ?side1 ?side2 ?side3 ?side4 A16.out).mono ?_); (case side1 => repeat (first | exact (Kd.R_reads' HO435.out).2.2 | (with_reducible refine Kd.C_alloc ?_ _) | (with_reducible refine Kd.C_drewN ?_ _) | (with_reducible refine Kd.C_drew ?_))); (case side2 => exact (Kd.R_reads' HO435.out).2.1); (case side3 => repeat (first | exact (Kd.R_reads' HO439.out).2.2 | (with_reducible refine Kd.C_alloc ?_ _) | (with_reducible refine Kd.C_drewN ?_ _) | (with_reducible refine Kd.C_drew ?_))); (case side4 => exact (Kd.R_reads' HO439.out).2.1); rintro e w' ⟨rfl, ⟨nd, rfl⟩⟩; (try first | exact ⟨rfl, _, World.drewN_drewN _ _ _⟩ | exact ⟨rfl, _, Eq.trans (World.drewN_drewN _ _ _) (congrArg (World.drewN _) (Nat.add_assoc _ _ _))⟩)))
                go_meet
                case rel => exact ⟨_, ((t442 != t444)), (by first | rfl | (simp; done) | (simp [*]; done)), H', ⟨by first | omega | exact Nat.le_refl _⟩, ⟨by (with_reducible repeat (first | apply Kd.R_alloc | apply Kd.R_drewN | apply Kd.R_drew)); exact Kd.R_mono HO435.out (fun _ hk => trivial)⟩, ⟨by repeat (first | (with_reducible first | exact HB.out | apply below_alloc | apply pw_below_drewN | apply below_drew1) | exact HB.out)⟩⟩
        · replace c17 := Bool.eq_false_iff.mpr c17
          subst c17
          have H1 : (laws_FnSuperpermutations.j0 k l1 t431 t432 t433 t440 t442 t443 true) = some r := by rw [if_neg (show ¬ (false = true) by decide)] at H; exact H
          clear H
          have H := H1
          clear H1
          as_aux_lemma =>
            have H' := Aside0.mk H
            clear H
            obtain ⟨Ao26, co26, eo26⟩ := Kd.R_slice HO435.out
            subst eo26
            obtain ⟨Ao27, co27, eo27⟩ := Kd.R_slice HO439.out
            subst eo27
            go_wp2_with (first | (go_at_call 37; (with_reducible refine (laws_uSame.calls k _ _ t432 _ _ t436 false _ ?side1 ?side2 ?side3 ?side4 A16.out).mono ?_); (case side1 => repeat (first | exact (Kd.R_reads' HO435.out).2.2 | (with_reducible refine Kd.C_alloc ?_ _) | (with_reducible refine Kd.C_drewN ?_ _) | (with_reducible refine Kd.C_drew ?_))); (case side2 => exact (Kd.R_reads' HO435.out).2.1); (case side3 => repeat (first | exact (Kd.R_reads' HO439.out).2.2 | (with_reducible refine Kd.C_alloc ?_ _) | (with_reducible refine Kd.C_drewN ?_ _) | (with_reducible refine Kd.C_drew ?_))); (case side4 => exact (Kd.R_reads' HO439.out).2.1); rintro e w' ⟨rfl, ⟨nd, rfl⟩⟩; (try first | exact ⟨rfl, _, World.drewN_drewN _ _ _⟩ | exact ⟨rfl, _, Eq.trans (World.drewN_drewN _ _ _) (congrArg (World.drewN _) (Nat.add_assoc _ _ _))⟩)))
            go_meet
            case rel => exact ⟨_, (true), (by first | rfl | (simp; done) | (simp [*]; done)), H', ⟨by first | omega | exact Nat.le_refl _⟩, ⟨by (with_reducible repeat (first | apply Kd.R_alloc | apply Kd.R_drewN | apply Kd.R_drew)); exact Kd.R_mono HO435.out (fun _ hk => trivial)⟩, ⟨by repeat (first | (with_reducible first | exact HB.out | apply below_alloc | apply pw_below_drewN | apply below_drew1) | exact HB.out)⟩⟩
    case rest =>
      clear HC11
      try clear c1
      try clear c2
      try clear p2
      try clear c4
      try clear c13
      try clear c15
      try clear c15b0
      try clear c15b1
      try clear c15b2
      try clear c17
      try clear c18
      try clear c18b0
      try clear c18b1
      try clear c18b2
      try clear c21
      try clear c21b0
      try clear c21b1
      try clear c21b2
      obtain ⟨kq, x98_10, rfl, HA, HJ10, HO_6, HB⟩ := hcut
      cases kq with
      | zero => exact absurd HA.out (by simp [laws_FnSuperpermutations.j0])
      | succ kj10 =>
        have H := HA.out
        clear HA
        simp only [laws_FnSuperpermutations.j0] at H
        by_cases c28 : x98_10 = true
        · subst c28
          have H1 : (some false) = some r := by rw [if_pos rfl] at H; exact H
          clear H
          have H := H1
          clear H1
          as_aux_lemma =>
            obtain rfl := Option.some.inj H
            go_wp2
            repeat (go_quiet (fail); try go_wp2)
            go_ret
            exact ⟨by first | rfl | (simp [errW_none, errW_some] <;> rfl) | (simp [*, errW_none, errW_some] <;> rfl), by repeat (first | (with_reducible first | exact HB.out | apply below_alloc | apply pw_below_drewN | apply below_drew1) | exact HB.out)⟩
        · replace c28 := Bool.eq_false_iff.mpr c28
          subst c28
          have H1 : (if t433 = true then ((impl_IsSuper.f kj10 t431 t432).bind fun bt447 => (if bt447.2 = true then (if bt447.1 = true then (if (t432.length : Int) = t440 then (if t443 = true then (laws_FnSuperpermutations.j1 kj10 l1 t432 (decide (t442 > t440))) else (laws_FnSuperpermutations.j1 kj10 l1 t432 true)) else (laws_FnSuperpermutations.j1 kj10 l1 t432 true)) else (laws_FnSuperpermutations.j1 kj10 l1 t432 true)) else (laws_FnSuperpermutations.j1 kj10 l1 t432 true))) else (laws_FnSuperpermutations.j3 kj10 l1)) = some r := by rw [if_neg (show ¬ (false = true) by decide)] at H; exact H
          clear H
          have H := H1
          clear H1
          have HC29 := Aside0.mk H
          clear H
          go_upto_if 99 with (fail)
          repeat (go_quiet (fail); go_upto_if 99 with (fail))
          go_cut [] (fun wc => ∃ (kq : Nat), Aside0 (laws_FnSuperpermutations.j3 kq l1 = some r) ∧ Aside0 (kq ≤ kj10) ∧ Aside0 (Below w.heap.size w wc))
          case first =>
            have H := HC29.out
            clear HC29
            by_cases c30 : t433 = true
            · subst c30
              have H1 : ((impl_IsSuper.f kj10 t431 t432).bind fun bt447 => (if bt447.2 = true then (if bt447.1 = true then (if (t432.length : Int) = t440 then (if t443 = true then (laws_FnSuperpermutations.j1 kj10 l1 t432 (decide (t442 > t440))) else (laws_FnSuperpermutations.j1 kj10 l1 t432 true)) else (laws_FnSuperpermutations.j1 kj10 l1 t432 true)) else (laws_FnSuperpermutations.j1 kj10 l1 t432 true)) else (laws_FnSuperpermutations.j1 kj10 l1 t432 true))) = some r := by rw [if_pos rfl] at H; exact H
              clear H
              have H := H1
              clear H1
              replace H := Option.bind_eq_some_iff.mp H
              obtain ⟨⟨t447, t448⟩, A310, H⟩ := H
              replace H : (if t448 = true then (if t447 = true then (if (t432.length : Int) = t440 then (if t443 = true then (laws_FnSuperpermutations.j1 kj10 l1 t432 (decide (t442 > t440))) else (laws_FnSuperpermutations.j1 kj10 l1 t432 true)) else (laws_FnSuperpermutations.j1 kj10 l1 t432 true)) else (laws_FnSuperpermutations.j1 kj10 l1 t432 true)) else (laws_FnSuperpermutations.j1 kj10 l1 t432 true)) = some r := H
              have A31 := Aside0.mk A310
              clear A310
              have HC32 := Aside0.mk H
              clear H
              obtain ⟨Ao33, co33, eo33⟩ := Kd.R_slice HO_6.out
              subst eo33
              go_upto_region 13 with (first | (go_at_call 68; (with_reducible refine (impl_IsSuper.calls kj10 t431 _ _ t432 t447 t448 _ ?side1 ?side2 A31.out).mono ?_); (case side1 => repeat (first | exact (Kd.R_reads' HO_6.out).2.2 | (with_reducible refine Kd.C_alloc ?_ _) | (with_reducible refine Kd.C_drewN ?_ _) | (with_reducible refine Kd.C_drew ?_))); (case side2 => exact (Kd.R_reads' HO_6.out).2.1); rintro e w34 ⟨rfl, hb⟩; have n0_ := Aside0.mk (Kd.R_below (by (with_reducible repeat (first | apply Kd.R_alloc | apply Kd.R_drewN | apply Kd.R_drew)); exact HO_6.out) hb); have n1_ := Aside0.mk (below_step (by repeat (first | (with_reducible first | exact HB.out | apply below_alloc | apply pw_below_drewN | apply below_drew1) | exact HB.out)) hb); clear HO_6; clear HB; have HO_6 := n0_; have HB := n1_; clear n0_ n1_; (try clear hb); (try clear hb2); (try clear hk); (try clear hi)))
              (try simp only [Act.put, List.setIfInBounds_toArray, List.set_cons_zero, List.set_cons_succ])
              go_cut [126] (fun v126 wc => ∃ (kq : Nat) (x126_31 : Bool), v126 = .bool x126_31 ∧ Aside0 (laws_FnSuperpermutations.j1 kq l1 t432 x126_31 = some r) ∧ Aside0 (kq ≤ kj10) ∧ Aside0 (Kd.R (Kd.int .i64) 3 wc w.heap.size (fun _ => True) (.slice Ao33 t432.length co33) t432) ∧ Aside0 (Below w.heap.size w wc))
              case first =>
                have H := HC32.out
                clear HC32
                by_cases c35 : t448 = true
                · subst c35
                  have H1 : (if t447 = true then (if (t432.length : Int) = t440 then (if t443 = true then (laws_FnSuperpermutations.j1 kj10 l1 t432 (decide (t442 > t440))) else (laws_FnSuperpermutations.j1 kj10 l1 t432 true)) else (laws_FnSuperpermutations.j1 kj10 l1 t432 true)) else (laws_FnSuperpermutations.j1 kj10 l1 t432 true)) = some r := by rw [if_pos rfl] at H; exact H
                  clear H
                  have H := H1
                  clear H1
                  by_cases c36 : t447 = true
                  · subst c36
                    have H1 : (if (t432.length : Int) = t440 then (if t443 = true then (laws_FnSuperpermutations.j1 kj10 l1 t432 (decide (t442 > t440))) else (laws_FnSuperpermutations.j1 kj10 l1 t432 true)) else (laws_FnSuperpermutations.j1 kj10 l1 t432 true)) = some r := by rw [if_pos rfl] at H; exact H
                    clear H
                    have H := H1
                    clear H1
                    by_cases c37 : (t432.length : Int) = t440
                    · rw [if_pos c37] at H
                      have c37b0 : ((t432.length : Int) == t440) = true := beq_iff_eq.mpr c37
                      have c37b1 : ((t432.length : Int) != t440) = false := bne_eq_false_iff_eq.mpr c37
                      clear c37
                      (first | rw [c37b0] | (simp only [i64_w, i32_w]; rw [c37b0]) | skip)
                      by_cases c38 : t443 = true
                      · subst c38
                        have H1 : (laws_FnSuperpermutations.j1 kj10 l1 t432 (decide (t442 > t440))) = some r := by rw [if_pos rfl] at H; exact H
                        clear H
                        have H := H1
                        clear H1
                        as_aux_lemma =>
                          have H' := Aside0.mk H
                          clear H
                          go_wp2
                          repeat (go_quiet (fail); try go_wp2)
                          go_meet
                          case rel => exact ⟨_, (decide (t442 > t440)), (by first | rfl | (simp; done) | (simp [*]; done)), H', ⟨by have := HJ10.out; first | omega | exact Nat.le_refl _⟩, ⟨by (with_reducible repeat (first | apply Kd.R_alloc | apply Kd.R_drewN | apply Kd.R_drew)); exact HO_6.out⟩, ⟨by repeat (first | (with_reducible first | exact HB.out | apply below_alloc | apply pw_below_drewN | apply below_drew1) | exact HB.out)⟩⟩
                      · replace c38 := Bool.eq_false_iff.mpr c38
                        subst c38
                        have H1 : (laws_FnSuperpermutations.j1 kj10 l1 t432 true) = some r := by rw [if_neg (show ¬ (false = true) by decide)] at H; exact H
                        clear H
                        have H := H1
                        clear H1
                        as_aux_lemma =>
                          have H' := Aside0.mk H
                          clear H
                          go_wp2
                          repeat (go_quiet (fail); try go_wp2)
                          go_meet
                          case rel => exact ⟨_, (true), (by first | rfl | (simp; done) | (simp [*]; done)), H', ⟨by have := HJ10.out; first | omega | exact Nat.le_refl _⟩, ⟨by (with_reducible repeat (first | apply Kd.R_alloc | apply Kd.R_drewN | apply Kd.R_drew)); exact HO_6.out⟩, ⟨by repeat (first | (with_reducible first | exact HB.out | apply below_alloc | apply pw_below_drewN | apply below_drew1) | exact HB.out)⟩⟩
                    · rw [if_neg c37] at H
                      have c37b0 : ((t432.length : Int) == t440) = false := beq_eq_false_iff_ne.mpr c37
                      have c37b1 : ((t432.length : Int) != t440) = true := bne_iff_ne.mpr c37
                      (first | rw [c37b0] | (simp only [i64_w, i32_w]; rw [c37b0]) | skip)
                      as_aux_lemma =>
                        have H' := Aside0.mk H
                        clear H
                        go_wp2
                        repeat (go_quiet (fail); try go_wp2)
                        go_meet
                        case rel => exact ⟨_, (true), (by first | rfl | (simp; done) | (simp [*]; done)), H', ⟨by have := HJ10.out; first | omega | exact Nat.le_refl _⟩, ⟨by (with_reducible repeat (first | apply Kd.R_alloc | apply Kd.R_drewN | apply Kd.R_drew)); exact HO_6.out⟩, ⟨by repeat (first | (with_reducible first | exact HB.out | apply below_alloc | apply pw_below_drewN | apply below_drew1) | exact HB.out)⟩⟩
                  · replace c36 := Bool.eq_false_iff.mpr c36
                    subst c36
                    have H1 : (laws_FnSuperpermutations.j1 kj10 l1 t432 true) = some r := by rw [if_neg (show ¬ (false = true) by decide)] at H; exact H
                    clear H
                    have H := H1
                    clear H1
                    as_aux_lemma =>
                      have H' := Aside0.mk H
                      clear H
                      go_wp2
                      repeat (go_quiet (fail); try go_wp2)
                      go_meet
                      case rel => exact ⟨_, (true), (by first | rfl | (simp; done) | (simp [*]; done)), H', ⟨by have := HJ10.out; first | omega | exact Nat.le_refl _⟩, ⟨by (with_reducible repeat (first | apply Kd.R_alloc | apply Kd.R_drewN | apply Kd.R_drew)); exact HO_6.out⟩, ⟨by repeat (first | (with_reducible first | exact HB.out | apply below_alloc | apply pw_below_drewN | apply below_drew1) | exact HB.out)⟩⟩
                · replace c35 := Bool.eq_false_iff.mpr c35
                  subst c35
                  have H1 : (laws_FnSuperpermutations.j1 kj10 l1 t432 true) = some r := by rw [if_neg (show ¬ (false = true) by decide)] at H; exact H
                  clear H
                  have H := H1
                  clear H1
                  as_aux_lemma =>
                    have H' := Aside0.mk H
                    clear H
                    go_wp2
                    repeat (go_quiet (fail); try go_wp2)
                    go_meet
                    case rel => exact ⟨_, (true), (by first | rfl | (simp; done) | (simp [*]; done)), H', ⟨by have := HJ10.out; first | omega | exact Nat.le_refl _⟩, ⟨by (with_reducible repeat (first | apply Kd.R_alloc | apply Kd.R_drewN | apply Kd.R_drew)); exact HO_6.out⟩, ⟨by repeat (first | (with_reducible first | exact HB.out | apply below_alloc | apply pw_below_drewN | apply below_drew1) | exact HB.out)⟩⟩
              case rest =>
                clear HC32
                try clear c1
                try clear c2
                try clear p2
                try clear c3
                try clear c4
                try clear c13
                try clear c15
                try clear c15b0
                try clear c15b1
                try clear c15b2
                try clear c17
                try clear c18
                try clear c18b0
                try clear c18b1
                try clear c18b2
                try clear c21
                try clear c21b0
                try clear c21b1
                try clear c21b2
                try clear c28
                try clear c30
                try clear c35
                try clear c36
                try clear c37
                try clear c37b0
                try clear c37b1
                try clear c38
                try clear p2
                obtain ⟨kq, x126_31, rfl, HA, HJ31, HO_6, HB⟩ := hcut
                cases kq with
                | zero => exact absurd HA.out (by simp [laws_FnSuperpermutations.j1])
                | succ kj31 =>
                  have H := HA.out
                  clear HA
                  simp only [laws_FnSuperpermutations.j1] at H
                  by_cases c39 : x126_31 = true
                  · subst c39
                    have H1 : (some false) = some r := by rw [if_pos rfl] at H; exact H
                    clear H
                    have H := H1
                    clear H1
                    as_aux_lemma =>
                      obtain rfl := Option.some.inj H
                      go_wp2
                      repeat (go_quiet (fail); try go_wp2)
                      go_ret
                      exact ⟨by first | rfl | (simp [errW_none, errW_some] <;> rfl) | (simp [*, errW_none, errW_some] <;> rfl), by repeat (first | (with_reducible first | exact HB.out | apply below_alloc | apply pw_below_drewN | apply below_drew1) | exact HB.out)⟩
                  · replace c39 := Bool.eq_false_iff.mpr c39
                    subst c39
                    have H1 : (laws_FnSuperpermutations.l0 kj31 l1 t432 (t432.length : Int) 0) = some r := by rw [if_neg (show ¬ (false = true) by decide)] at H; exact H
                    clear H
                    have H := H1
                    clear H1
                    have H' := Aside0.mk H
                    clear H
                    go_wp2
                    repeat (go_quiet (fail); try go_wp2)
                    go_loopg [129] kj31 (fun kq v129 w' => ∃ (x129_3 : Int), v129 = .int .i64 x129_3 ∧ Aside0 (laws_FnSuperpermutations.l0 kq l1 t432 (t432.length : Int) x129_3 = some r) ∧ Aside0 (kq ≤ kj31) ∧ Aside0 (Kd.R (Kd.int .i64) 3 w' w.heap.size (fun _ => True) (.slice Ao33 t432.length co33) t432) ∧ Aside0 (Below w.heap.size w w'))
                    case atStart => exact ⟨(0), (by first | rfl | (simp; done) | (simp [*]; done)), H', ⟨Nat.le_refl _⟩, ⟨by (with_reducible repeat (first | apply Kd.R_alloc | apply Kd.R_drewN | apply Kd.R_drew)); exact HO_6.out⟩, ⟨by repeat (first | (with_reducible first | exact HB.out | apply below_alloc | apply pw_below_drewN | apply below_drew1) | exact HB.out)⟩⟩
                    case round =>
                      clear H'
                      try clear c1
                      try clear c2
                      try clear p2
                      try clear c3
                      try clear c4
                      try clear c13
                      try clear c15
                      try clear c15b0
                      try clear c15b1
                      try clear c15b2
                      try clear c17
                      try clear c18
                      try clear c18b0
                      try clear c18b1
                      try clear c18b2
                      try clear c21
                      try clear c21b0
                      try clear c21b1
                      try clear c21b2
                      try clear c28
                      try clear c30
                      try clear c35
                      try clear c36
                      try clear c37
                      try clear c37b0
                      try clear c37b1
                      try clear c38
                      try clear c39
                      try clear p2
                      obtain ⟨x129_3, rfl, HA, HK3, HO_6, HB⟩ := hrel
                      cases gk with
                      | zero => exact absurd HA.out (by simp [laws_FnSuperpermutations.l0])
                      | succ k3 =>
                        have H := HA.out
                        clear HA
                        simp only [laws_FnSuperpermutations.l0] at H
                        by_cases c40 : x129_3 < (t432.length : Int)
                        · rw [if_pos c40] at H
                          have c40b0 : decide (x129_3 < (t432.length : Int)) = true := decide_eq_true c40
                          clear c40
                          by_cases c41 : 0 ≤ x129_3
                          · rw [if_pos c41] at H
                            have c41b0 : decide (0 ≤ x129_3) = true := decide_eq_true c41
                            clear c41
                            by_cases c42 : x129_3 < (t432.length : Int)
                            · rw [if_pos c42] at H
                              have c42b0 : decide (x129_3 < (t432.length : Int)) = true := decide_eq_true c42
                              clear c42
                              obtain ⟨ji43, hji43⟩ : ∃ j_ : Int, (wrap64 ((wrap64 ((t432.length : Int) - 1)) - x129_3)) = j_ := ⟨_, rfl⟩
                              replace H : (if 0 ≤ (ji43) then (if (ji43) < (t432.length : Int) then (if (rd t432 x129_3) = (rd t432 (ji43)) then (laws_FnSuperpermutations.l0 k3 l1 t432 (t432.length : Int) (wrap64 (x129_3 + 1))) else (some false)) else (none)) else (none)) = some r := by first | (rw [hji43] at H; exact H) | (simp only [hji43] at H ⊢; exact H)
                              have hji43w : (IntKind.i64.wrap ((wrap64 ((t432.length : Int) - 1)) - x129_3)) = ji43 := (i64_w _).trans hji43
                              by_cases c44 : 0 ≤ (ji43)
                              · rw [if_pos c44] at H
                                have c44b0 : decide (0 ≤ (ji43)) = true := decide_eq_true c44
                                clear c44
                                by_cases c45 : (ji43) < (t432.length : Int)
                                · rw [if_pos c45] at H
                                  have c45b0 : decide ((ji43) < (t432.length : Int)) = true := decide_eq_true c45
                                  clear c45
                                  by_cases c46 : (rd t432 x129_3) = (rd t432 (ji43))
                                  · rw [if_pos c46] at H
                                    have c46b0 : ((rd t432 x129_3) == (rd t432 (ji43))) = true := beq_iff_eq.mpr c46
                                    have c46b1 : ((rd t432 x129_3) != (rd t432 (ji43))) = false := bne_eq_false_iff_eq.mpr c46
                                    clear c46
                                    as_aux_lemma =>
                                      have H' := Aside0.mk H
                                      clear H
                                      have p449 : 0 ≤ (x129_3 : Int) := of_decide_eq_true (by first | (with_reducible assumption) | assumption)
                                      have q449 : x129_3 < (t432.length : Int) := of_decide_eq_true (by first | (with_reducible assumption) | assumption)
                                      obtain ⟨ad449, e449, hx449_0⟩ := Kd.at_int (Kd.R_reads' HO_6.out).2.2 x129_3 p449 q449
                                      cases e449
                                      replace p449 := eq_true p449
                                      replace q449 := eq_true q449
                                      have p450 : 0 ≤ ((ji43) : Int) := of_decide_eq_true (by first | (with_reducible assumption) | assumption)
                                      have q450 : (ji43) < (t432.length : Int) := of_decide_eq_true (by first | (with_reducible assumption) | assumption)
                                      obtain ⟨ad450, e450, hx450_0⟩ := Kd.at_int (Kd.R_reads' HO_6.out).2.2 (ji43) p450 q450
                                      obtain rfl : ad449 = ad450 := (by injection e450)
                                      replace p450 := eq_true p450
                                      replace q450 := eq_true q450
                                      go_wp2
                                      repeat (go_quiet (fail); try go_wp2)
                                      go_roundg k3
                                      case measure => have := HJ10.out; have := HJ31.out; have := HK3.out; omega
                                      case rel => exact ⟨(wrap64 (x129_3 + 1)), (by first | rfl | (simp; done) | (simp [*]; done)), H', ⟨by have := HJ10.out; have := HJ31.out; have := HK3.out; omega⟩, ⟨by (with_reducible repeat (first | apply Kd.R_alloc | apply Kd.R_drewN | apply Kd.R_drew)); exact HO_6.out⟩, ⟨by repeat (first | (with_reducible first | exact HB.out | apply below_alloc | apply pw_below_drewN | apply below_drew1) | exact HB.out)⟩⟩
                                  · rw [if_neg c46] at H
                                    have c46b0 : ((rd t432 x129_3) == (rd t432 (ji43))) = false := beq_eq_false_iff_ne.mpr c46
                                    have c46b1 : ((rd t432 x129_3) != (rd t432 (ji43))) = true := bne_iff_ne.mpr c46
                                    as_aux_lemma =>
                                      obtain rfl := Option.some.inj H
                                      have p449 : 0 ≤ (x129_3 : Int) := of_decide_eq_true (by first | (with_reducible assumption) | assumption)
                                      have q449 : x129_3 < (t432.length : Int) := of_decide_eq_true (by first | (with_reducible assumption) | assumption)
                                      obtain ⟨ad449, e449, hx449_0⟩ := Kd.at_int (Kd.R_reads' HO_6.out).2.2 x129_3 p449 q449
                                      cases e449
                                      replace p449 := eq_true p449
                                      replace q449 := eq_true q449
                                      have p450 : 0 ≤ ((ji43) : Int) := of_decide_eq_true (by first | (with_reducible assumption) | assumption)
                                      have q450 : (ji43) < (t432.length : Int) := of_decide_eq_true (by first | (with_reducible assumption) | assumption)
                                      obtain ⟨ad450, e450, hx450_0⟩ := Kd.at_int (Kd.R_reads' HO_6.out).2.2 (ji43) p450 q450
                                      obtain rfl : ad449 = ad450 := (by injection e450)
                                      replace p450 := eq_true p450
                                      replace q450 := eq_true q450
                                      go_wp2
                                      repeat (go_quiet (fail); try go_wp2)
                                      go_ret
                                      exact ⟨by first | rfl | (simp [errW_none, errW_some] <;> rfl) | (simp only [← hji43]; first | rfl | (simp [errW_none, errW_some] <;> rfl)) | (simp [*, errW_none, errW_some] <;> rfl), by repeat (first | (with_reducible first | exact HB.out | apply below_alloc | apply pw_below_drewN | apply below_drew1) | exact HB.out)⟩
                                · rw [if_neg c45] at H
                                  exact absurd H (by simp)
                              · rw [if_neg c44] at H
                                exact absurd H (by simp)
                            · rw [if_neg c42] at H
                              exact absurd H (by simp)
                          · rw [if_neg c41] at H
                            exact absurd H (by simp)
                        · rw [if_neg c40] at H
                          have c40b0 : decide (x129_3 < (t432.length : Int)) = false := decide_eq_false c40
                          clear c40
                          as_aux_lemma =>
                            have H' := Aside0.mk H
                            clear H
                            go_wp2
                            repeat (go_quiet (fail); try go_wp2)
                            go_meet
                            case rel => exact ⟨_, H', ⟨by have := HJ10.out; have := HJ31.out; have := HK3.out; first | omega | exact Nat.le_refl _⟩, ⟨by repeat (first | (with_reducible first | exact HB.out | apply below_alloc | apply pw_below_drewN | apply below_drew1) | exact HB.out)⟩⟩
            · replace c30 := Bool.eq_false_iff.mpr c30
              subst c30
              have H1 : (laws_FnSuperpermutations.j3 kj10 l1) = some r := by rw [if_neg (show ¬ (false = true) by decide)] at H; exact H
              clear H
              have H := H1
              clear H1
              as_aux_lemma =>
                have H' := Aside0.mk H
                clear H
                go_wp2
                repeat (go_quiet (fail); try go_wp2)
                go_meet
                case rel => exact ⟨_, H', ⟨by have := HJ10.out; first | omega | exact Nat.le_refl _⟩, ⟨by repeat (first | (with_reducible first | exact HB.out | apply below_alloc | apply pw_below_drewN | apply below_drew1) | exact HB.out)⟩⟩
          case rest =>
            clear HC29
            try clear c1
            try clear c2
            try clear p2
            try clear c3
            try clear c4
            try clear p4
            try clear q4
            try clear hx4
            try clear p6
            try clear c13
            try clear c15
            try clear c15b0
            try clear c15b1
            try clear c15b2
            try clear c17
            try clear c18
            try clear c18b0
            try clear c18b1
            try clear c18b2
            try clear c21
            try clear c21b0
            try clear c21b1
            try clear c21b2
            try clear c28
            try clear c30
            try clear c35
            try clear c36
            try clear c37
            try clear c37b0
            try clear c37b1
            try clear c38
            try clear c39
            try clear c40
            try clear c40b0
            try clear c41
            try clear c41b0
            try clear c42
            try clear c42b0
            try clear c44
            try clear c44b0
            try clear p44
            try clear q44
            try clear hx44
            try clear c45
            try clear c45b0
            try clear p45
            try clear q45
            try clear hx45
            try clear c46
            try clear c46b0
            try clear c46b1
            try clear hx449_0
            try clear hx450_0
            try clear p2
            try clear p449
            try clear p450
            try clear q449
            try clear q450
            obtain ⟨kq, HA, HJ28, HB⟩ := hcut
            cases kq with
            | zero => exact absurd HA.out (by simp [laws_FnSuperpermutations.j3])
            | succ kj28 =>
              have H := HA.out
              clear HA
              simp only [laws_FnSuperpermutations.j3] at H
              replace H := Option.bind_eq_some_iff.mp H
              obtain ⟨t451, A470, H⟩ := H
              replace H : ((impl_ShortestSuper.f kj28 t451).bind fun bt452 => ((spec_ShortestSuper.f kj28 t451).bind fun bt456 => (if (bt452.2 != bt456.2) = true then (laws_FnSuperpermutations.j4 kj28 l1 t451 bt452.1 bt452.2 true) else ((laws_uSame.f kj28 bt452.1 bt456.1).bind fun t460 => (laws_FnSuperpermutations.j4 kj28 l1 t451 bt452.1 bt452.2 (!t460)))))) = some r := H
              have A47 := Aside0.mk A470
              clear A470
              replace H := Option.bind_eq_some_iff.mp H
              obtain ⟨⟨t452, t453⟩, A480, H⟩ := H
              replace H : ((spec_ShortestSuper.f kj28 t451).bind fun bt456 => (if (t453 != bt456.2) = true then (laws_FnSuperpermutations.j4 kj28 l1 t451 t452 t453 true) else ((laws_uSame.f kj28 t452 bt456.1).bind fun t460 => (laws_FnSuperpermutations.j4 kj28 l1 t451 t452 t453 (!t460))))) = some r := H
              have A48 := Aside0.mk A480
              clear A480
              replace H := Option.bind_eq_some_iff.mp H
              obtain ⟨⟨t456, t457⟩, A490, H⟩ := H
              replace H : (if (t453 != t457) = true then (laws_FnSuperpermutations.j4 kj28 l1 t451 t452 t453 true) else ((laws_uSame.f kj28 t452 t456).bind fun t460 => (laws_FnSuperpermutations.j4 kj28 l1 t451 t452 t453 (!t460)))) = some r := H
              have A49 := Aside0.mk A490
              clear A490
              have HC50 := Aside0.mk H
              clear H
              go_upto_region 24 with (first | (go_at_call 69; (with_reducible refine (spec_DrawShortestSuper.calls _ _ l1 t451 _ ?side1 ?side2 A47.out).mono ?_); (case side1 => repeat (first | exact (Kd.C_below HR1.out HB.out) | (with_reducible refine Kd.C_alloc ?_ _) | (with_reducible refine Kd.C_drewN ?_ _) | (with_reducible refine Kd.C_drew ?_))); (case side2 => exact HC1.out); rintro e w51 ⟨rfl, hb⟩; have n0_ := Aside0.mk (below_step (by repeat (first | (with_reducible first | exact HB.out | apply below_alloc | apply pw_below_drewN | apply below_drew1) | exact HB.out)) hb); clear HB; have HB := n0_; clear n0_; (try clear hb); (try clear hb2); (try clear hk); (try clear hi)) | (go_at_call 20; (with_reducible refine (impl_ShortestSuper.calls kj28 t451 t452 t453 _ A48.out).mono ?_); rintro e w52 ⟨v454, rfl, ho0, hb⟩; have n0_ := Aside0.mk (Kd.R_lower ho0 (below_size (by repeat (first | (with_reducible first | exact HB.out | apply below_alloc | apply pw_below_drewN | apply below_drew1) | exact HB.out)))); have n1_ := Aside0.mk (below_step (by repeat (first | (with_reducible first | exact HB.out | apply below_alloc | apply pw_below_drewN | apply below_drew1) | exact HB.out)) hb); clear HB; have HO455 := n0_; have HB := n1_; clear n0_ n1_; (try clear hb); (try clear hb2); (try clear hk); (try clear hi); (try clear ho0)) | (go_at_call 19; (with_reducible refine (spec_ShortestSuper.calls kj28 t451 t456 t457 _ A49.out).mono ?_); rintro e w53 ⟨v458, rfl, ho0, hb⟩; have n0_ := Aside0.mk (Kd.R_elder' (by (with_reducible repeat (first | apply Kd.R_alloc | apply Kd.R_drewN | apply Kd.R_drew)); exact HO455.out) (Kd.R_base ho0) hb); have n1_ := Aside0.mk (Kd.R_lower (Kd.R_new' ho0 (Kd.R_lt (by (with_reducible repeat (first | apply Kd.R_alloc | apply Kd.R_drewN | apply Kd.R_drew)); exact HO455.out))) (below_size (by repeat (first | (with_reducible first | exact HB.out | apply below_alloc | apply pw_below_drewN | apply below_drew1) | exact HB.out)))); have n2_ := Aside0.mk (below_step (by repeat (first | (with_reducible first | exact HB.out | apply below_alloc | apply pw_below_drewN | apply below_drew1) | exact HB.out)) hb); clear HO455; clear HB; have HO455 := n0_; have HO459 := n1_; have HB := n2_; clear n0_ n1_ n2_; (try clear hb); (try clear hb2); (try clear hk); (try clear hi); (try clear ho0)))
              (try simp only [Act.put, List.setIfInBounds_toArray, List.set_cons_zero, List.set_cons_succ])
              go_cut [166] (fun v166 wc => ∃ (kq : Nat) (x166_49 : Bool), v166 = .bool x166_49 ∧ Aside0 (laws_FnSuperpermutations.j4 kq l1 t451 t452 t453 x166_49 = some r) ∧ Aside0 (kq ≤ kj28) ∧ Aside0 (Kd.R (Kd.int .i64) 3 wc w.heap.size (fun _ => True) v454 t452) ∧ Aside0 (Below w.heap.size w wc))
              case first =>
                have H := HC50.out
                clear HC50
                by_cases c54 : (t453 != t457) = true
                · rw [if_pos c54] at H
                  have c54b0 : (t453 != t457) = true := c54
                  (try (have c54b1 : decide (t453 = t457) = false := by simpa using c54))
                  (try (have c54b2 : (t453 == t457) = false := by simpa using c54))
                  (try (have c54b3 : ¬ (t453 = t457) := by simpa using c54))
                  clear c54
                  (first | rw [c54b0] | (simp only [i64_w, i32_w]; rw [c54b0]) | skip)
                  as_aux_lemma =>
                    have H' := Aside0.mk H
                    clear H
                    go_wp2
                    repeat (go_quiet (fail); try go_wp2)
                    go_meet
                    case rel => exact ⟨_, (true), (by first | rfl | (simp; done) | (simp [*]; done)), H', ⟨by have := HJ10.out; have := HJ28.out; first | omega | exact Nat.le_refl _⟩, ⟨by (with_reducible repeat (first | apply Kd.R_alloc | apply Kd.R_drewN | apply Kd.R_drew)); exact Kd.R_mono HO455.out (fun _ hk => trivial)⟩, ⟨by repeat (first | (with_reducible first | exact HB.out | apply below_alloc | apply pw_below_drewN | apply below_drew1) | exact HB.out)⟩⟩
                · rw [if_neg c54] at H
                  have c54b0 : (t453 != t457) = false := by simpa using c54
                  (try (have c54b1 : decide (t453 = t457) = true := by simpa using c54))
                  (try (have c54b2 : (t453 == t457) = true := by simpa using c54))
                  clear c54
                  (first | rw [c54b0] | (simp only [i64_w, i32_w]; rw [c54b0]) | skip)
                  replace H := Option.bind_eq_some_iff.mp H
                  obtain ⟨t460, A550, H⟩ := H
                  replace H : (laws_FnSuperpermutations.j4 kj28 l1 t451 t452 t453 (!t460)) = some r := H
                  have A55 := Aside0.mk A550
                  clear A550
                  as_aux_lemma =>
                    have H' := Aside0.mk H
                    clear H
                    obtain ⟨Ao56, co56, eo56⟩ := Kd.R_slice HO455.out
                    subst eo56
                    obtain ⟨Ao57, co57, eo57⟩ := Kd.R_slice HO459.out
                    subst eo57
                    go_wp2_with (first | (go_at_call 37; (with_reducible refine (laws_uSame.calls kj28 _ _ t452 _ _ t456 t460 _ ?side1 ?side2 ?side3 ?side4 A55.out).mono ?_); (case side1 => repeat (first | exact (Kd.R_reads' HO455.out).2.2 | (with_reducible refine Kd.C_alloc ?_ _) | (with_reducible refine Kd.C_drewN ?_ _) | (with_reducible refine Kd.C_drew ?_))); (case side2 => exact (Kd.R_reads' HO455.out).2.1); (case side3 => repeat (first | exact (Kd.R_reads' HO459.out).2.2 | (with_reducible refine Kd.C_alloc ?_ _) | (with_reducible refine Kd.C_drewN ?_ _) | (with_reducible refine Kd.C_drew ?_))); (case side4 => exact (Kd.R_reads' HO459.out).2.1); rintro e w' ⟨rfl, ⟨nd, rfl⟩⟩; (try first | exact ⟨rfl, _, World.drewN_drewN _ _ _⟩ | exact ⟨rfl, _, Eq.trans (World.drewN_drewN _ _ _) (congrArg (World.drewN _) (Nat.add_assoc _ _ _))⟩)))
                    go_meet
                    case rel => exact ⟨_, (!t460), (by first | rfl | (simp; done) | (simp [*]; done)), H', ⟨by have := HJ10.out; have := HJ28.out; first | omega | exact Nat.le_refl _⟩, ⟨by (with_reducible repeat (first | apply Kd.R_alloc | apply Kd.R_drewN | apply Kd.R_drew)); exact Kd.R_mono HO455.out (fun _ hk => trivial)⟩, ⟨by repeat (first | (with_reducible first | exact HB.out | apply below_alloc | apply pw_below_drewN | apply below_drew1) | exact HB.out)⟩⟩
              case rest =>
                clear HC50
                try clear c1
                try clear c2
                try clear p2
                try clear c3
                try clear c4
                try clear p4
                try clear q4
                try clear hx4
                try clear c5
                try clear p6
                try clear c13
                try clear c15
                try clear c15b0
                try clear c15b1
                try clear c15b2
                try clear c17
                try clear c18
                try clear c18b0
                try clear c18b1
                try clear c18b2
                try clear c21
                try clear c21b0
                try clear c21b1
                try clear c21b2
                try clear c28
                try clear c30
                try clear c35
                try clear c36
                try clear c37
                try clear c37b0
                try clear c37b1
                try clear c38
                try clear c39
                try clear c40
                try clear c40b0
                try clear c41
                try clear c41b0
                try clear c42
                try clear c42b0
                try clear c44
                try clear c44b0
                try clear p44
                try clear q44
                try clear hx44
                try clear c45
                try clear c45b0
                try clear p45
                try clear q45
                try clear hx45
                try clear c46
                try clear c46b0
                try clear c46b1
                try clear c54
                try clear c54b0
                try clear c54b1
                try clear c54b2
                try clear hx449_0
                try clear hx450_0
                try clear p2
                try clear p4
                try clear p44
                try clear p449
                try clear p45
                try clear p450
                try clear p6
                try clear q4
                try clear q44
                try clear q449
                try clear q45
                try clear q450
                obtain ⟨kq, x166_49, rfl, HA, HJ49, HO_20, HB⟩ := hcut
                cases kq with
                | zero => exact absurd HA.out (by simp [laws_FnSuperpermutations.j4])
                | succ kj49 =>
                  have H := HA.out
                  clear HA
                  simp only [laws_FnSuperpermutations.j4] at H
                  by_cases c58 : x166_49 = true
                  · subst c58
                    have H1 : (some false) = some r := by rw [if_pos rfl] at H; exact H
                    clear H
                    have H := H1
                    clear H1
                    as_aux_lemma =>
                      obtain rfl := Option.some.inj H
                      go_wp2
                      repeat (go_quiet (fail); try go_wp2)
                      go_ret
                      exact ⟨by first | rfl | (simp [errW_none, errW_some] <;> rfl) | (simp [*, errW_none, errW_some] <;> rfl), by repeat (first | (with_reducible first | exact HB.out | apply below_alloc | apply pw_below_drewN | apply below_drew1) | exact HB.out)⟩
                  · replace c58 := Bool.eq_false_iff.mpr c58
                    subst c58
                    have H1 : (if t453 = true then ((impl_IsSuper.f kj49 t451 t452).bind fun bt461 => ((impl_SuperBound.f kj49 t451).bind fun bt463 => ((impl_SuperLength.f kj49 t451).bind fun bt465 => (if bt461.2 = true then (if bt461.1 = true then (if bt463.2 = true then (if bt465.2 = true then (if (t452.length : Int) < bt463.1 then (some false) else (if (t452.length : Int) > bt465.1 then (some false) else (laws_FnSuperpermutations.j5 kj49 l1))) else (some false)) else (some false)) else (some false)) else (some false))))) else (laws_FnSuperpermutations.j5 kj49 l1)) = some r := by rw [if_neg (show ¬ (false = true) by decide)] at H; exact H
                    clear H
                    have H := H1
                    clear H1
                    have HC59 := Aside0.mk H
                    clear H
                    go_upto_if 167 with (fail)
                    repeat (go_quiet (fail); go_upto_if 167 with (fail))
                    go_cut [] (fun wc => ∃ (kq : Nat), Aside0 (laws_FnSuperpermutations.j5 kq l1 = some r) ∧ Aside0 (kq ≤ kj49) ∧ Aside0 (Below w.heap.size w wc))
                    case first =>
                      have H := HC59.out
                      clear HC59
                      by_cases c60 : t453 = true
                      · subst c60
                        have H1 : ((impl_IsSuper.f kj49 t451 t452).bind fun bt461 => ((impl_SuperBound.f kj49 t451).bind fun bt463 => ((impl_SuperLength.f kj49 t451).bind fun bt465 => (if bt461.2 = true then (if bt461.1 = true then (if bt463.2 = true then (if bt465.2 = true then (if (t452.length : Int) < bt463.1 then (some false) else (if (t452.length : Int) > bt465.1 then (some false) else (laws_FnSuperpermutations.j5 kj49 l1))) else (some false)) else (some false)) else (some false)) else (some false))))) = some r := by rw [if_pos rfl] at H; exact H
                        clear H
                        have H := H1
                        clear H1
                        replace H := Option.bind_eq_some_iff.mp H
                        obtain ⟨⟨t461, t462⟩, A610, H⟩ := H
                        replace H : ((impl_SuperBound.f kj49 t451).bind fun bt463 => ((impl_SuperLength.f kj49 t451).bind fun bt465 => (if t462 = true then (if t461 = true then (if bt463.2 = true then (if bt465.2 = true then (if (t452.length : Int) < bt463.1 then (some false) else (if (t452.length : Int) > bt465.1 then (some false) else (laws_FnSuperpermutations.j5 kj49 l1))) else (some false)) else (some false)) else (some false)) else (some false)))) = some r := H
                        have A61 := Aside0.mk A610
                        clear A610
                        replace H := Option.bind_eq_some_iff.mp H
                        obtain ⟨⟨t463, t464⟩, A620, H⟩ := H
                        replace H : ((impl_SuperLength.f kj49 t451).bind fun bt465 => (if t462 = true then (if t461 = true then (if t464 = true then (if bt465.2 = true then (if (t452.length : Int) < t463 then (some false) else (if (t452.length : Int) > bt465.1 then (some false) else (laws_FnSuperpermutations.j5 kj49 l1))) else (some false)) else (some false)) else (some false)) else (some false))) = some r := H
                        have A62 := Aside0.mk A620
                        clear A620
                        replace H := Option.bind_eq_some_iff.mp H
                        obtain ⟨⟨t465, t466⟩, A630, H⟩ := H
                        replace H : (if t462 = true then (if t461 = true then (if t464 = true then (if t466 = true then (if (t452.length : Int) < t463 then (some false) else (if (t452.length : Int) > t465 then (some false) else (laws_FnSuperpermutations.j5 kj49 l1))) else (some false)) else (some false)) else (some false)) else (some false)) = some r := H
                        have A63 := Aside0.mk A630
                        clear A630
                        by_cases c64 : t462 = true
                        · subst c64
                          have H1 : (if t461 = true then (if t464 = true then (if t466 = true then (if (t452.length : Int) < t463 then (some false) else (if (t452.length : Int) > t465 then (some false) else (laws_FnSuperpermutations.j5 kj49 l1))) else (some false)) else (some false)) else (some false)) = some r := by rw [if_pos rfl] at H; exact H
                          clear H
                          have H := H1
                          clear H1
                          by_cases c65 : t461 = true
                          · subst c65
                            have H1 : (if t464 = true then (if t466 = true then (if (t452.length : Int) < t463 then (some false) else (if (t452.length : Int) > t465 then (some false) else (laws_FnSuperpermutations.j5 kj49 l1))) else (some false)) else (some false)) = some r := by rw [if_pos rfl] at H; exact H
                            clear H
                            have H := H1
                            clear H1
                            by_cases c66 : t464 = true
                            · subst c66
                              have H1 : (if t466 = true then (if (t452.length : Int) < t463 then (some false) else (if (t452.length : Int) > t465 then (some false) else (laws_FnSuperpermutations.j5 kj49 l1))) else (some false)) = some r := by rw [if_pos rfl] at H; exact H
                              clear H
                              have H := H1
                              clear H1
                              by_cases c67 : t466 = true
                              · subst c67
                                have H1 : (if (t452.length : Int) < t463 then (some false) else (if (t452.length : Int) > t465 then (some false) else (laws_FnSuperpermutations.j5 kj49 l1))) = some r := by rw [if_pos rfl] at H; exact H
                                clear H
                                have H := H1
                                clear H1
                                by_cases c68 : (t452.length : Int) < t463
                                · rw [if_pos c68] at H
                                  have c68b0 : decide ((t452.length : Int) < t463) = true := decide_eq_true c68
                                  clear c68
                                  (first | rw [c68b0] | (simp only [i64_w, i32_w]; rw [c68b0]) | skip)
                                  as_aux_lemma =>
                                    obtain rfl := Option.some.inj H
                                    obtain ⟨Ao69, co69, eo69⟩ := Kd.R_slice HO_20.out
                                    subst eo69
                                    go_wp2_with (first | (go_at_call 68; (with_reducible refine (impl_IsSuper.calls kj49 t451 _ _ t452 true true _ ?side1 ?side2 A61.out).mono ?_); (case side1 => repeat (first | exact (Kd.R_reads' HO_20.out).2.2 | (with_reducible refine Kd.C_alloc ?_ _) | (with_reducible refine Kd.C_drewN ?_ _) | (with_reducible refine Kd.C_drew ?_))); (case side2 => exact (Kd.R_reads' HO_20.out).2.1); rintro e w70 ⟨rfl, hb⟩; have n0_ := Aside0.mk (Kd.R_below (by (with_reducible repeat (first | apply Kd.R_alloc | apply Kd.R_drewN | apply Kd.R_drew)); exact HO_20.out) hb); have n1_ := Aside0.mk (below_step (by repeat (first | (with_reducible first | exact HB.out | apply below_alloc | apply pw_below_drewN | apply below_drew1) | exact HB.out)) hb); clear HO_20; clear HB; have HO_20 := n0_; have HB := n1_; clear n0_ n1_; (try clear hb); (try clear hb2); (try clear hk); (try clear hi)) | (go_at_call 66; (with_reducible refine (impl_SuperBound.calls kj49 t451 t463 true _ A62.out).mono ?_); rintro e w' ⟨rfl, ⟨nd, rfl⟩⟩; (try first | exact ⟨rfl, _, World.drewN_drewN _ _ _⟩ | exact ⟨rfl, _, Eq.trans (World.drewN_drewN _ _ _) (congrArg (World.drewN _) (Nat.add_assoc _ _ _))⟩)) | (go_at_call 65; (with_reducible refine (impl_SuperLength.calls kj49 t451 t465 true _ A63.out).mono ?_); rintro e w' ⟨rfl, ⟨nd, rfl⟩⟩; (try first | exact ⟨rfl, _, World.drewN_drewN _ _ _⟩ | exact ⟨rfl, _, Eq.trans (World.drewN_drewN _ _ _) (congrArg (World.drewN _) (Nat.add_assoc _ _ _))⟩)))
                                    go_ret
                                    exact ⟨by first | rfl | (simp [errW_none, errW_some] <;> rfl) | (simp [*, errW_none, errW_some] <;> rfl), by repeat (first | (with_reducible first | exact HB.out | apply below_alloc | apply pw_below_drewN | apply below_drew1) | exact HB.out)⟩
                                · rw [if_neg c68] at H
                                  have c68b0 : decide ((t452.length : Int) < t463) = false := decide_eq_false c68
                                  clear c68
                                  (first | rw [c68b0] | (simp only [i64_w, i32_w]; rw [c68b0]) | skip)
                                  by_cases c71 : (t452.length : Int) > t465
                                  · rw [if_pos c71] at H
                                    have c71b0 : decide (t465 < (t452.length : Int)) = true := decide_eq_true c71
                                    clear c71
                                    as_aux_lemma =>
                                      obtain rfl := Option.some.inj H
                                      obtain ⟨Ao72, co72, eo72⟩ := Kd.R_slice HO_20.out
                                      subst eo72
                                      go_wp2_with (first | (go_at_call 68; (with_reducible refine (impl_IsSuper.calls kj49 t451 _ _ t452 true true _ ?side1 ?side2 A61.out).mono ?_); (case side1 => repeat (first | exact (Kd.R_reads' HO_20.out).2.2 | (with_reducible refine Kd.C_alloc ?_ _) | (with_reducible refine Kd.C_drewN ?_ _) | (with_reducible refine Kd.C_drew ?_))); (case side2 => exact (Kd.R_reads' HO_20.out).2.1); rintro e w73 ⟨rfl, hb⟩; have n0_ := Aside0.mk (Kd.R_below (by (with_reducible repeat (first | apply Kd.R_alloc | apply Kd.R_drewN | apply Kd.R_drew)); exact HO_20.out) hb); have n1_ := Aside0.mk (below_step (by repeat (first | (with_reducible first | exact HB.out | apply below_alloc | apply pw_below_drewN | apply below_drew1) | exact HB.out)) hb); clear HO_20; clear HB; have HO_20 := n0_; have HB := n1_; clear n0_ n1_; (try clear hb); (try clear hb2); (try clear hk); (try clear hi)) | (go_at_call 66; (with_reducible refine (impl_SuperBound.calls kj49 t451 t463 true _ A62.out).mono ?_); rintro e w' ⟨rfl, ⟨nd, rfl⟩⟩; (try first | exact ⟨rfl, _, World.drewN_drewN _ _ _⟩ | exact ⟨rfl, _, Eq.trans (World.drewN_drewN _ _ _) (congrArg (World.drewN _) (Nat.add_assoc _ _ _))⟩)) | (go_at_call 65; (with_reducible refine (impl_SuperLength.calls kj49 t451 t465 true _ A63.out).mono ?_); rintro e w' ⟨rfl, ⟨nd, rfl⟩⟩; (try first | exact ⟨rfl, _, World.drewN_drewN _ _ _⟩ | exact ⟨rfl, _, Eq.trans (World.drewN_drewN _ _ _) (congrArg (World.drewN _) (Nat.add_assoc _ _ _))⟩)))
                                      go_ret
                                      exact ⟨by first | rfl | (simp [errW_none, errW_some] <;> rfl) | (simp [*, errW_none, errW_some] <;> rfl), by repeat (first | (with_reducible first | exact HB.out | apply below_alloc | apply pw_below_drewN | apply below_drew1) | exact HB.out)⟩
                                  · rw [if_neg c71] at H
                                    have c71b0 : decide (t465 < (t452.length : Int)) = false := decide_eq_false c71
                                    clear c71
                                    as_aux_lemma =>
                                      have H' := Aside0.mk H
                                      clear H
                                      obtain ⟨Ao74, co74, eo74⟩ := Kd.R_slice HO_20.out
                                      subst eo74
                                      go_wp2_with (first | (go_at_call 68; (with_reducible refine (impl_IsSuper.calls kj49 t451 _ _ t452 true true _ ?side1 ?side2 A61.out).mono ?_); (case side1 => repeat (first | exact (Kd.R_reads' HO_20.out).2.2 | (with_reducible refine Kd.C_alloc ?_ _) | (with_reducible refine Kd.C_drewN ?_ _) | (with_reducible refine Kd.C_drew ?_))); (case side2 => exact (Kd.R_reads' HO_20.out).2.1); rintro e w75 ⟨rfl, hb⟩; have n0_ := Aside0.mk (Kd.R_below (by (with_reducible repeat (first | apply Kd.R_alloc | apply Kd.R_drewN | apply Kd.R_drew)); exact HO_20.out) hb); have n1_ := Aside0.mk (below_step (by repeat (first | (with_reducible first | exact HB.out | apply below_alloc | apply pw_below_drewN | apply below_drew1) | exact HB.out)) hb); clear HO_20; clear HB; have HO_20 := n0_; have HB := n1_; clear n0_ n1_; (try clear hb); (try clear hb2); (try clear hk); (try clear hi)) | (go_at_call 66; (with_reducible refine (impl_SuperBound.calls kj49 t451 t463 true _ A62.out).mono ?_); rintro e w' ⟨rfl, ⟨nd, rfl⟩⟩; (try first | exact ⟨rfl, _, World.drewN_drewN _ _ _⟩ | exact ⟨rfl, _, Eq.trans (World.drewN_drewN _ _ _) (congrArg (World.drewN _) (Nat.add_assoc _ _ _))⟩)) | (go_at_call 65; (with_reducible refine (impl_SuperLength.calls kj49 t451 t465 true _ A63.out).mono ?_); rintro e w' ⟨rfl, ⟨nd, rfl⟩⟩; (try first | exact ⟨rfl, _, World.drewN_drewN _ _ _⟩ | exact ⟨rfl, _, Eq.trans (World.drewN_drewN _ _ _) (congrArg (World.drewN _) (Nat.add_assoc _ _ _))⟩)))
                                      go_meet
                                      case rel => exact ⟨_, H', ⟨by have := HJ10.out; have := HJ28.out; have := HJ49.out; first | omega | exact Nat.le_refl _⟩, ⟨by repeat (first | (with_reducible first | exact HB.out | apply below_alloc | apply pw_below_drewN | apply below_drew1) | exact HB.out)⟩⟩
                              · replace c67 := Bool.eq_false_iff.mpr c67
                                subst c67
                                have H1 : (some false) = some r := by rw [if_neg (show ¬ (false = true) by decide)] at H; exact H
                                clear H
                                have H := H1
                                clear H1
                                as_aux_lemma =>
                                  obtain rfl := Option.some.inj H
                                  obtain ⟨Ao76, co76, eo76⟩ := Kd.R_slice HO_20.out
                                  subst eo76
                                  go_wp2_with (first | (go_at_call 68; (with_reducible refine (impl_IsSuper.calls kj49 t451 _ _ t452 true true _ ?side1 ?side2 A61.out).mono ?_); (case side1 => repeat (first | exact (Kd.R_reads' HO_20.out).2.2 | (with_reducible refine Kd.C_alloc ?_ _) | (with_reducible refine Kd.C_drewN ?_ _) | (with_reducible refine Kd.C_drew ?_))); (case side2 => exact (Kd.R_reads' HO_20.out).2.1); rintro e w77 ⟨rfl, hb⟩; have n0_ := Aside0.mk (Kd.R_below (by (with_reducible repeat (first | apply Kd.R_alloc | apply Kd.R_drewN | apply Kd.R_drew)); exact HO_20.out) hb); have n1_ := Aside0.mk (below_step (by repeat (first | (with_reducible first | exact HB.out | apply below_alloc | apply pw_below_drewN | apply below_drew1) | exact HB.out)) hb); clear HO_20; clear HB; have HO_20 := n0_; have HB := n1_; clear n0_ n1_; (try clear hb); (try clear hb2); (try clear hk); (try clear hi)) | (go_at_call 66; (with_reducible refine (impl_SuperBound.calls kj49 t451 t463 true _ A62.out).mono ?_); rintro e w' ⟨rfl, ⟨nd, rfl⟩⟩; (try first | exact ⟨rfl, _, World.drewN_drewN _ _ _⟩ | exact ⟨rfl, _, Eq.trans (World.drewN_drewN _ _ _) (congrArg (World.drewN _) (Nat.add_assoc _ _ _))⟩)) | (go_at_call 65; (with_reducible refine (impl_SuperLength.calls kj49 t451 t465 false _ A63.out).mono ?_); rintro e w' ⟨rfl, ⟨nd, rfl⟩⟩; (try first | exact ⟨rfl, _, World.drewN_drewN _ _ _⟩ | exact ⟨rfl, _, Eq.trans (World.drewN_drewN _ _ _) (congrArg (World.drewN _) (Nat.add_assoc _ _ _))⟩)))
                                  go_ret
                                  exact ⟨by first | rfl | (simp [errW_none, errW_some] <;> rfl) | (simp [*, errW_none, errW_some] <;> rfl), by repeat (first | (with_reducible first | exact HB.out | apply below_alloc | apply pw_below_drewN | apply below_drew1) | exact HB.out)⟩
                            · replace c66 := Bool.eq_false_iff.mpr c66
                              subst c66
                              have H1 : (some false) = some r := by rw [if_neg (show ¬ (false = true) by decide)] at H; exact H
                              clear H
                              have H := H1
                              clear H1
                              as_aux_lemma =>
                                obtain rfl := Option.some.inj H
                                obtain ⟨Ao78, co78, eo78⟩ := Kd.R_slice HO_20.out
                                subst eo78
                                go_wp2_with (first | (go_at_call 68; (with_reducible refine (impl_IsSuper.calls kj49 t451 _ _ t452 true true _ ?side1 ?side2 A61.out).mono ?_); (case side1 => repeat (first | exact (Kd.R_reads' HO_20.out).2.2 | (with_reducible refine Kd.C_alloc ?_ _) | (with_reducible refine Kd.C_drewN ?_ _) | (with_reducible refine Kd.C_drew ?_))); (case side2 => exact (Kd.R_reads' HO_20.out).2.1); rintro e w79 ⟨rfl, hb⟩; have n0_ := Aside0.mk (Kd.R_below (by (with_reducible repeat (first | apply Kd.R_alloc | apply Kd.R_drewN | apply Kd.R_drew)); exact HO_20.out) hb); have n1_ := Aside0.mk (below_step (by repeat (first | (with_reducible first | exact HB.out | apply below_alloc | apply pw_below_drewN | apply below_drew1) | exact HB.out)) hb); clear HO_20; clear HB; have HO_20 := n0_; have HB := n1_; clear n0_ n1_; (try clear hb); (try clear hb2); (try clear hk); (try clear hi)) | (go_at_call 66; (with_reducible refine (impl_SuperBound.calls kj49 t451 t463 false _ A62.out).mono ?_); rintro e w' ⟨rfl, ⟨nd, rfl⟩⟩; (try first | exact ⟨rfl, _, World.drewN_drewN _ _ _⟩ | exact ⟨rfl, _, Eq.trans (World.drewN_drewN _ _ _) (congrArg (World.drewN _) (Nat.add_assoc _ _ _))⟩)) | (go_at_call 65; (with_reducible refine (impl_SuperLength.calls kj49 t451 t465 t466 _ A63.out).mono ?_); rintro e w' ⟨rfl, ⟨nd, rfl⟩⟩; (try first | exact ⟨rfl, _, World.drewN_drewN _ _ _⟩ | exact ⟨rfl, _, Eq.trans (World.drewN_drewN _ _ _) (congrArg (World.drewN _) (Nat.add_assoc _ _ _))⟩)))
                                go_ret
                                exact ⟨by first | rfl | (simp [errW_none, errW_some] <;> rfl) | (simp [*, errW_none, errW_some] <;> rfl), by repeat (first | (with_reducible first | exact HB.out | apply below_alloc | apply pw_below_drewN | apply below_drew1) | exact HB.out)⟩
                          · replace c65 := Bool.eq_false_iff.mpr c65
                            subst c65
                            have H1 : (some false) = some r := by rw [if_neg (show ¬ (false = true) by decide)] at H; exact H
                            clear H
                            have H := H1
                            clear H1
                            as_aux_lemma =>
                              obtain rfl := Option.some.inj H
                              obtain ⟨Ao80, co80, eo80⟩ := Kd.R_slice HO_20.out
                              subst eo80
                              go_wp2_with (first | (go_at_call 68; (with_reducible refine (impl_IsSuper.calls kj49 t451 _ _ t452 false true _ ?side1 ?side2 A61.out).mono ?_); (case side1 => repeat (first | exact (Kd.R_reads' HO_20.out).2.2 | (with_reducible refine Kd.C_alloc ?_ _) | (with_reducible refine Kd.C_drewN ?_ _) | (with_reducible refine Kd.C_drew ?_))); (case side2 => exact (Kd.R_reads' HO_20.out).2.1); rintro e w81 ⟨rfl, hb⟩; have n0_ := Aside0.mk (Kd.R_below (by (with_reducible repeat (first | apply Kd.R_alloc | apply Kd.R_drewN | apply Kd.R_drew)); exact HO_20.out) hb); have n1_ := Aside0.mk (below_step (by repeat (first | (with_reducible first | exact HB.out | apply below_alloc | apply pw_below_drewN | apply below_drew1) | exact HB.out)) hb); clear HO_20; clear HB; have HO_20 := n0_; have HB := n1_; clear n0_ n1_; (try clear hb); (try clear hb2); (try clear hk); (try clear hi)) | (go_at_call 66; (with_reducible refine (impl_SuperBound.calls kj49 t451 t463 t464 _ A62.out).mono ?_); rintro e w' ⟨rfl, ⟨nd, rfl⟩⟩; (try first | exact ⟨rfl, _, World.drewN_drewN _ _ _⟩ | exact ⟨rfl, _, Eq.trans (World.drewN_drewN _ _ _) (congrArg (World.drewN _) (Nat.add_assoc _ _ _))⟩)) | (go_at_call 65; (with_reducible refine (impl_SuperLength.calls kj49 t451 t465 t466 _ A63.out).mono ?_); rintro e w' ⟨rfl, ⟨nd, rfl⟩⟩; (try first | exact ⟨rfl, _, World.drewN_drewN _ _ _⟩ | exact ⟨rfl, _, Eq.trans (World.drewN_drewN _ _ _) (congrArg (World.drewN _) (Nat.add_assoc _ _ _))⟩)))
                              go_ret
                              exact ⟨by first | rfl | (simp [errW_none, errW_some] <;> rfl) | (simp [*, errW_none, errW_some] <;> rfl), by repeat (first | (with_reducible first | exact HB.out | apply below_alloc | apply pw_below_drewN | apply below_drew1) | exact HB.out)⟩
                        · replace c64 := Bool.eq_false_iff.mpr c64
                          subst c64
                          have H1 : (some false) = some r := by rw [if_neg (show ¬ (false = true) by decide)] at H; exact H
                          clear H
                          have H := H1
                          clear H1
                          as_aux_lemma =>
                            obtain rfl := Option.some.inj H
                            obtain ⟨Ao82, co82, eo82⟩ := Kd.R_slice HO_20.out
                            subst eo82
                            go_wp2_with (first | (go_at_call 68; (with_reducible refine (impl_IsSuper.calls kj49 t451 _ _ t452 t461 false _ ?side1 ?side2 A61.out).mono ?_); (case side1 => repeat (first | exact (Kd.R_reads' HO_20.out).2.2 | (with_reducible refine Kd.C_alloc ?_ _) | (with_reducible refine Kd.C_drewN ?_ _) | (with_reducible refine Kd.C_drew ?_))); (case side2 => exact (Kd.R_reads' HO_20.out).2.1); rintro e w83 ⟨rfl, hb⟩; have n0_ := Aside0.mk (Kd.R_below (by (with_reducible repeat (first | apply Kd.R_alloc | apply Kd.R_drewN | apply Kd.R_drew)); exact HO_20.out) hb); have n1_ := Aside0.mk (below_step (by repeat (first | (with_reducible first | exact HB.out | apply below_alloc | apply pw_below_drewN | apply below_drew1) | exact HB.out)) hb); clear HO_20; clear HB; have HO_20 := n0_; have HB := n1_; clear n0_ n1_; (try clear hb); (try clear hb2); (try clear hk); (try clear hi)) | (go_at_call 66; (with_reducible refine (impl_SuperBound.calls kj49 t451 t463 t464 _ A62.out).mono ?_); rintro e w' ⟨rfl, ⟨nd, rfl⟩⟩; (try first | exact ⟨rfl, _, World.drewN_drewN _ _ _⟩ | exact ⟨rfl, _, Eq.trans (World.drewN_drewN _ _ _) (congrArg (World.drewN _) (Nat.add_assoc _ _ _))⟩)) | (go_at_call 65; (with_reducible refine (impl_SuperLength.calls kj49 t451 t465 t466 _ A63.out).mono ?_); rintro e w' ⟨rfl, ⟨nd, rfl⟩⟩; (try first | exact ⟨rfl, _, World.drewN_drewN _ _ _⟩ | exact ⟨rfl, _, Eq.trans (World.drewN_drewN _ _ _) (congrArg (World.drewN _) (Nat.add_assoc _ _ _))⟩)))
                            go_ret
                            exact ⟨by first | rfl | (simp [errW_none, errW_some] <;> rfl) | (simp [*, errW_none, errW_some] <;> rfl), by repeat (first | (with_reducible first | exact HB.out | apply below_alloc | apply pw_below_drewN | apply below_drew1) | exact HB.out)⟩
                      · replace c60 := Bool.eq_false_iff.mpr c60
                        subst c60
                        have H1 : (laws_FnSuperpermutations.j5 kj49 l1) = some r := by rw [if_neg (show ¬ (false = true) by decide)] at H; exact H
                        clear H
                        have H := H1
                        clear H1
                        as_aux_lemma =>
                          have H' := Aside0.mk H
                          clear H
                          go_wp2
                          repeat (go_quiet (fail); try go_wp2)
                          go_meet
                          case rel => exact ⟨_, H', ⟨by have := HJ10.out; have := HJ28.out; have := HJ49.out; first | omega | exact Nat.le_refl _⟩, ⟨by repeat (first | (with_reducible first | exact HB.out | apply below_alloc | apply pw_below_drewN | apply below_drew1) | exact HB.out)⟩⟩
                    case rest =>
                      clear HC59
                      try clear c1
                      try clear c2
                      try clear p2
                      try clear c3
                      try clear c4
                      try clear p4
                      try clear q4
                      try clear hx4
                      try clear c5
                      try clear c6
                      try clear p6
                      try clear c7
                      try clear c13
                      try clear c15
                      try clear c15b0
                      try clear c15b1
                      try clear c15b2
                      try clear c17
                      try clear c18
                      try clear c18b0
                      try clear c18b1
                      try clear c18b2
                      try clear c21
                      try clear c21b0
                      try clear c21b1
                      try clear c21b2
                      try clear c28
                      try clear c30
                      try clear c35
                      try clear c36
                      try clear c37
                      try clear c37b0
                      try clear c37b1
                      try clear c38
                      try clear c39
                      try clear c40
                      try clear c40b0
                      try clear c41
                      try clear c41b0
                      try clear c42
                      try clear c42b0
                      try clear c44
                      try clear c44b0
                      try clear p44
                      try clear q44
                      try clear hx44
                      try clear c45
                      try clear c45b0
                      try clear p45
                      try clear q45
                      try clear hx45
                      try clear c46
                      try clear c46b0
                      try clear c46b1
                      try clear c54
                      try clear c54b0
                      try clear c54b1
                      try clear c54b2
                      try clear c58
                      try clear c60
                      try clear c64
                      try clear p64
                      try clear c65
                      try clear c66
                      try clear c67
                      try clear c68
                      try clear c68b0
                      try clear c71
                      try clear c71b0
                      try clear hx449_0
                      try clear hx450_0
                      try clear p2
                      try clear p4
                      try clear p44
                      try clear p449
                      try clear p45
                      try clear p450
                      try clear p6
                      try clear q4
                      try clear q44
                      try clear q449
                      try clear q45
                      try clear q450
                      obtain ⟨kq, HA, HJ58, HB⟩ := hcut
                      cases kq with
                      | zero => exact absurd HA.out (by simp [laws_FnSuperpermutations.j5])
                      | succ kj58 =>
                        have H := HA.out
                        clear HA
                        simp only [laws_FnSuperpermutations.j5] at H
                        replace H := Option.bind_eq_some_iff.mp H
                        obtain ⟨⟨t467, t468⟩, A840, H⟩ := H
                        replace H : ((impl_IsSuper.f kj58 t467 t468).bind fun bt471 => ((spec_IsSuper.f kj58 t467 t468).bind fun bt473 => ((impl_RanksIn.f kj58 t467 t468).bind fun bt475 => ((spec_RanksIn.f kj58 t467 t468).bind fun bt479 => ((impl_WastedIn.f kj58 t467 t468).bind fun bt483 => (if (bt471.2 != bt473.2) = true then (laws_FnSuperpermutations.j6 kj58 t467 t468 bt471.1 bt475.1 bt475.2 bt483.1 true) else (if (bt471.1 != bt473.1) = true then (laws_FnSuperpermutations.j6 kj58 t467 t468 bt471.1 bt475.1 bt475.2 bt483.1 true) else (if (bt475.2 != bt479.2) = true then (laws_FnSuperpermutations.j6 kj58 t467 t468 bt471.1 bt475.1 bt475.2 bt483.1 true) else ((laws_uSame.f kj58 bt475.1 bt479.1).bind fun t485 => (if t485 = true then (laws_FnSuperpermutations.j6 kj58 t467 t468 bt471.1 bt475.1 bt475.2 bt483.1 (bt483.2 != bt475.2)) else (laws_FnSuperpermutations.j6 kj58 t467 t468 bt471.1 bt475.1 bt475.2 bt483.1 true))))))))))) = some r := H
                        have A84 := Aside0.mk A840
                        clear A840
                        replace H := Option.bind_eq_some_iff.mp H
                        obtain ⟨⟨t471, t472⟩, A850, H⟩ := H
                        replace H : ((spec_IsSuper.f kj58 t467 t468).bind fun bt473 => ((impl_RanksIn.f kj58 t467 t468).bind fun bt475 => ((spec_RanksIn.f kj58 t467 t468).bind fun bt479 => ((impl_WastedIn.f kj58 t467 t468).bind fun bt483 => (if (t472 != bt473.2) = true then (laws_FnSuperpermutations.j6 kj58 t467 t468 t471 bt475.1 bt475.2 bt483.1 true) else (if (t471 != bt473.1) = true then (laws_FnSuperpermutations.j6 kj58 t467 t468 t471 bt475.1 bt475.2 bt483.1 true) else (if (bt475.2 != bt479.2) = true then (laws_FnSuperpermutations.j6 kj58 t467 t468 t471 bt475.1 bt475.2 bt483.1 true) else ((laws_uSame.f kj58 bt475.1 bt479.1).bind fun t485 => (if t485 = true then (laws_FnSuperpermutations.j6 kj58 t467 t468 t471 bt475.1 bt475.2 bt483.1 (bt483.2 != bt475.2)) else (laws_FnSuperpermutations.j6 kj58 t467 t468 t471 bt475.1 bt475.2 bt483.1 true)))))))))) = some r := H
                        have A85 := Aside0.mk A850
                        clear A850
                        replace H := Option.bind_eq_some_iff.mp H
                        obtain ⟨⟨t473, t474⟩, A860, H⟩ := H
                        replace H : ((impl_RanksIn.f kj58 t467 t468).bind fun bt475 => ((spec_RanksIn.f kj58 t467 t468).bind fun bt479 => ((impl_WastedIn.f kj58 t467 t468).bind fun bt483 => (if (t472 != t474) = true then (laws_FnSuperpermutations.j6 kj58 t467 t468 t471 bt475.1 bt475.2 bt483.1 true) else (if (t471 != t473) = true then (laws_FnSuperpermutations.j6 kj58 t467 t468 t471 bt475.1 bt475.2 bt483.1 true) else (if (bt475.2 != bt479.2) = true then (laws_FnSuperpermutations.j6 kj58 t467 t468 t471 bt475.1 bt475.2 bt483.1 true) else ((laws_uSame.f kj58 bt475.1 bt479.1).bind fun t485 => (if t485 = true then (laws_FnSuperpermutations.j6 kj58 t467 t468 t471 bt475.1 bt475.2 bt483.1 (bt483.2 != bt475.2)) else (laws_FnSuperpermutations.j6 kj58 t467 t468 t471 bt475.1 bt475.2 bt483.1 true))))))))) = some r := H
                        have A86 := Aside0.mk A860
                        clear A860
                        replace H := Option.bind_eq_some_iff.mp H
                        obtain ⟨⟨t475, t476⟩, A870, H⟩ := H
                        replace H : ((spec_RanksIn.f kj58 t467 t468).bind fun bt479 => ((impl_WastedIn.f kj58 t467 t468).bind fun bt483 => (if (t472 != t474) = true then (laws_FnSuperpermutations.j6 kj58 t467 t468 t471 t475 t476 bt483.1 true) else (if (t471 != t473) = true then (laws_FnSuperpermutations.j6 kj58 t467 t468 t471 t475 t476 bt483.1 true) else (if (t476 != bt479.2) = true then (laws_FnSuperpermutations.j6 kj58 t467 t468 t471 t475 t476 bt483.1 true) else ((laws_uSame.f kj58 t475 bt479.1).bind fun t485 => (if t485 = true then (laws_FnSuperpermutations.j6 kj58 t467 t468 t471 t475 t476 bt483.1 (bt483.2 != t476)) else (laws_FnSuperpermutations.j6 kj58 t467 t468 t471 t475 t476 bt483.1 true)))))))) = some r := H
                        have A87 := Aside0.mk A870
                        clear A870
                        replace H := Option.bind_eq_some_iff.mp H
                        obtain ⟨⟨t479, t480⟩, A880, H⟩ := H
                        replace H : ((impl_WastedIn.f kj58 t467 t468).bind fun bt483 => (if (t472 != t474) = true then (laws_FnSuperpermutations.j6 kj58 t467 t468 t471 t475 t476 bt483.1 true) else (if (t471 != t473) = true then (laws_FnSuperpermutations.j6 kj58 t467 t468 t471 t475 t476 bt483.1 true) else (if (t476 != t480) = true then (laws_FnSuperpermutations.j6 kj58 t467 t468 t471 t475 t476 bt483.1 true) else ((laws_uSame.f kj58 t475 t479).bind fun t485 => (if t485 = true then (laws_FnSuperpermutations.j6 kj58 t467 t468 t471 t475 t476 bt483.1 (bt483.2 != t476)) else (laws_FnSuperpermutations.j6 kj58 t467 t468 t471 t475 t476 bt483.1 true))))))) = some r := H
                        have A88 := Aside0.mk A880
                        clear A880
                        replace H := Option.bind_eq_some_iff.mp H
                        obtain ⟨⟨t483, t484⟩, A890, H⟩ := H
                        replace H : (if (t472 != t474) = true then (laws_FnSuperpermutations.j6 kj58 t467 t468 t471 t475 t476 t483 true) else (if (t471 != t473) = true then (laws_FnSuperpermutations.j6 kj58 t467 t468 t471 t475 t476 t483 true) else (if (t476 != t480) = true then (laws_FnSuperpermutations.j6 kj58 t467 t468 t471 t475 t476 t483 true) else ((laws_uSame.f kj58 t475 t479).bind fun t485 => (if t485 = true then (laws_FnSuperpermutations.j6 kj58 t467 t468 t471 t475 t476 t483 (t484 != t476)) else (laws_FnSuperpermutations.j6 kj58 t467 t468 t471 t475 t476 t483 true)))))) = some r := H
                        have A89 := Aside0.mk A890
                        clear A890
                        have HC90 := Aside0.mk H
                        clear H
                        go_upto_region 38 with (first | (go_at_call 70; (with_reducible refine (spec_DrawIsSuper.calls kj58 _ _ l1 t467 t468 _ ?side1 ?side2 A84.out).mono ?_); (case side1 => repeat (first | exact (Kd.C_below HR1.out HB.out) | (with_reducible refine Kd.C_alloc ?_ _) | (with_reducible refine Kd.C_drewN ?_ _) | (with_reducible refine Kd.C_drew ?_))); (case side2 => exact HC1.out); rintro e w91 ⟨v469, rfl, ho0, hb⟩; have n0_ := Aside0.mk (Kd.Q_lower ho0 (below_size (by repeat (first | (with_reducible first | exact HB.out | apply below_alloc | apply pw_below_drewN | apply below_drew1) | exact HB.out)))); have n1_ := Aside0.mk (below_step (by repeat (first | (with_reducible first | exact HB.out | apply below_alloc | apply pw_below_drewN | apply below_drew1) | exact HB.out)) hb); clear HB; have HO470 := n0_; have HB := n1_; clear n0_ n1_; (try clear hb); (try clear hb2); (try clear hk); (try clear hi); (try clear ho0); obtain ⟨Ao92, co92, eo92, _⟩ := Kd.Q_slice HO470.out; subst eo92) | (go_at_call 68; (with_reducible refine (impl_IsSuper.calls kj58 t467 _ _ t468 t471 t472 _ ?side1 ?side2 A85.out).mono ?_); (case side1 => repeat (first | exact (Kd.Q_reads' HO470.out).2.2 | (with_reducible refine Kd.C_alloc ?_ _) | (with_reducible refine Kd.C_drewN ?_ _) | (with_reducible refine Kd.C_drew ?_))); (case side2 => exact (Kd.Q_reads' HO470.out).2.1); rintro e w93 ⟨rfl, hb⟩; have n0_ := Aside0.mk (Kd.Q_below (by (with_reducible repeat (first | apply Kd.Q_alloc | apply Kd.Q_drewN | apply Kd.Q_drew)); exact HO470.out) hb); have n1_ := Aside0.mk (below_step (by repeat (first | (with_reducible first | exact HB.out | apply below_alloc | apply pw_below_drewN | apply below_drew1) | exact HB.out)) hb); clear HO470; clear HB; have HO470 := n0_; have HB := n1_; clear n0_ n1_; (try clear hb); (try clear hb2); (try clear hk); (try clear hi)) | (go_at_call 71; (with_reducible refine (spec_IsSuper.calls kj58 t467 _ _ t468 t473 t474 _ ?side1 ?side2 A86.out).mono ?_); (case side1 => repeat (first | exact (Kd.Q_reads' HO470.out).2.2 | (with_reducible refine Kd.C_alloc ?_ _) | (with_reducible refine Kd.C_drewN ?_ _) | (with_reducible refine Kd.C_drew ?_))); (case side2 => exact (Kd.Q_reads' HO470.out).2.1); rintro e w94 ⟨rfl, hb⟩; have n0_ := Aside0.mk (Kd.Q_below (by (with_reducible repeat (first | apply Kd.Q_alloc | apply Kd.Q_drewN | apply Kd.Q_drew)); exact HO470.out) hb); have n1_ := Aside0.mk (below_step (by repeat (first | (with_reducible first | exact HB.out | apply below_alloc | apply pw_below_drewN | apply below_drew1) | exact HB.out)) hb); clear HO470; clear HB; have HO470 := n0_; have HB := n1_; clear n0_ n1_; (try clear hb); (try clear hb2); (try clear hk); (try clear hi)) | (go_at_call 72; (with_reducible refine (impl_RanksIn.calls kj58 t467 _ _ t468 t475 t476 _ ?side1 ?side2 A87.out).mono ?_); (case side1 => repeat (first | exact (Kd.Q_reads' HO470.out).2.2 | (with_reducible refine Kd.C_alloc ?_ _) | (with_reducible refine Kd.C_drewN ?_ _) | (with_reducible refine Kd.C_drew ?_))); (case side2 => exact (Kd.Q_reads' HO470.out).2.1); rintro e w95 ⟨v477, rfl, ho0, hb⟩; have n0_ := Aside0.mk (Kd.Q_elder' (by (with_reducible repeat (first | apply Kd.Q_alloc | apply Kd.Q_drewN | apply Kd.Q_drew)); exact HO470.out) (Kd.R_base ho0) hb); have n1_ := Aside0.mk (Kd.R_lower (Kd.R_new' ho0 (Kd.Q_lt (by (with_reducible repeat (first | apply Kd.Q_alloc | apply Kd.Q_drewN | apply Kd.Q_drew)); exact HO470.out))) (below_size (by repeat (first | (with_reducible first | exact HB.out | apply below_alloc | apply pw_below_drewN | apply below_drew1) | exact HB.out)))); have n2_ := Aside0.mk (below_step (by repeat (first | (with_reducible first | exact HB.out | apply below_alloc | apply pw_below_drewN | apply below_drew1) | exact HB.out)) hb); clear HO470; clear HB; have HO470 := n0_; have HO478 := n1_; have HB := n2_; clear n0_ n1_ n2_; (try clear hb); (try clear hb2); (try clear hk); (try clear hi); (try clear ho0)) | (go_at_call 73; (with_reducible refine (spec_RanksIn.calls kj58 t467 _ _ t468 t479 t480 _ ?side1 ?side2 A88.out).mono ?_); (case side1 => repeat (first | exact (Kd.Q_reads' HO470.out).2.2 | (with_reducible refine Kd.C_alloc ?_ _) | (with_reducible refine Kd.C_drewN ?_ _) | (with_reducible refine Kd.C_drew ?_))); (case side2 => exact (Kd.Q_reads' HO470.out).2.1); rintro e w96 ⟨v481, rfl, ho0, hb⟩; have n0_ := Aside0.mk (Kd.Q_elder' (by (with_reducible repeat (first | apply Kd.Q_alloc | apply Kd.Q_drewN | apply Kd.Q_drew)); exact HO470.out) (Kd.R_base ho0) hb); have n1_ := Aside0.mk (Kd.R_elder' (by (with_reducible repeat (first | apply Kd.R_alloc | apply Kd.R_drewN | apply Kd.R_drew)); exact HO478.out) (Kd.R_base ho0) hb); have n2_ := Aside0.mk (Kd.R_lower (Kd.R_new' (Kd.R_new' ho0 (Kd.Q_lt (by (with_reducible repeat (first | apply Kd.Q_alloc | apply Kd.Q_drewN | apply Kd.Q_drew)); exact HO470.out))) (Kd.R_lt (by (with_reducible repeat (first | apply Kd.R_alloc | apply Kd.R_drewN | apply Kd.R_drew)); exact HO478.out))) (below_size (by repeat (first | (with_reducible first | exact HB.out | apply below_alloc | apply pw_below_drewN | apply below_drew1) | exact HB.out)))); have n3_ := Aside0.mk (below_step (by repeat (first | (with_reducible first | exact HB.out | apply below_alloc | apply pw_below_drewN | apply below_drew1) | exact HB.out)) hb); clear HO470; clear HO478; clear HB; have HO470 := n0_; have HO478 := n1_; have HO482 := n2_; have HB := n3_; clear n0_ n1_ n2_ n3_; (try clear hb); (try clear hb2); (try clear hk); (try clear hi); (try clear ho0)) | (go_at_call 74; (with_reducible refine (impl_WastedIn.calls kj58 t467 _ _ t468 t483 t484 _ ?side1 ?side2 A89.out).mono ?_); (case side1 => repeat (first | exact (Kd.Q_reads' HO470.out).2.2 | (with_reducible refine Kd.C_alloc ?_ _) | (with_reducible refine Kd.C_drewN ?_ _) | (with_reducible refine Kd.C_drew ?_))); (case side2 => exact (Kd.Q_reads' HO470.out).2.1); rintro e w97 ⟨rfl, hb⟩; have n0_ := Aside0.mk (Kd.Q_below (by (with_reducible repeat (first | apply Kd.Q_alloc | apply Kd.Q_drewN | apply Kd.Q_drew)); exact HO470.out) hb); have n1_ := Aside0.mk (Kd.R_below (by (with_reducible repeat (first | apply Kd.R_alloc | apply Kd.R_drewN | apply Kd.R_drew)); exact HO478.out) hb); have n2_ := Aside0.mk (Kd.R_below (by (with_reducible repeat (first | apply Kd.R_alloc | apply Kd.R_drewN | apply Kd.R_drew)); exact HO482.out) hb); have n3_ := Aside0.mk (below_step (by repeat (first | (with_reducible first | exact HB.out | apply below_alloc | apply pw_below_drewN | apply below_drew1) | exact HB.out)) hb); clear HO470; clear HO478; clear HO482; clear HB; have HO470 := n0_; have HO478 := n1_; have HO482 := n2_; have HB := n3_; clear n0_ n1_ n2_ n3_; (try clear hb); (try clear hb2); (try clear hk); (try clear hi)))
                        (try simp only [Act.put, List.setIfInBounds_toArray, List.set_cons_zero, List.set_cons_succ])
                        go_cut [268] (fun v268 wc => ∃ (kq : Nat) (x268_89 : Bool), v268 = .bool x268_89 ∧ Aside0 (laws_FnSuperpermutations.j6 kq t467 t468 t471 t475 t476 t483 x268_89 = some r) ∧ Aside0 (kq ≤ kj58) ∧ Aside0 (Kd.Q (Kd.int .i64) 3 wc w.heap.size (fun k_ => some k_ ≠ (v477 : Value).ownBlock) (.slice Ao92 t468.length co92) t468) ∧ Aside0 (Kd.R (Kd.int .i64) 3 wc w.heap.size (fun k_ => some k_ ≠ ((.slice Ao92 t468.length co92) : Value).ownBlock) v477 t475) ∧ Aside0 (Below w.heap.size w wc))
                        case first =>
                          have H := HC90.out
                          clear HC90
                          by_cases c98 : (t472 != t474) = true
                          · rw [if_pos c98] at H
                            have c98b0 : (t472 != t474) = true := c98
                            (try (have c98b1 : decide (t472 = t474) = false := by simpa using c98))
                            (try (have c98b2 : (t472 == t474) = false := by simpa using c98))
                            (try (have c98b3 : ¬ (t472 = t474) := by simpa using c98))
                            clear c98
                            (first | rw [c98b0] | (simp only [i64_w, i32_w]; rw [c98b0]) | skip)
                            as_aux_lemma =>
                              have H' := Aside0.mk H
                              clear H
                              go_wp2
                              repeat (go_quiet (fail); try go_wp2)
                              go_meet
                              case rel => exact ⟨_, (true), (by first | rfl | (simp; done) | (simp [*]; done)), H', ⟨by have := HJ10.out; have := HJ28.out; have := HJ49.out; have := HJ58.out; first | omega | exact Nat.le_refl _⟩, ⟨by (with_reducible repeat (first | apply Kd.Q_alloc | apply Kd.Q_drewN | apply Kd.Q_drew)); exact Kd.Q_mono HO470.out (fun _ hk => hk.1.2)⟩, ⟨by (with_reducible repeat (first | apply Kd.R_alloc | apply Kd.R_drewN | apply Kd.R_drew)); exact Kd.R_mono HO478.out (fun _ hk => hk.1.2)⟩, ⟨by repeat (first | (with_reducible first | exact HB.out | apply below_alloc | apply pw_below_drewN | apply below_drew1) | exact HB.out)⟩⟩
                          · rw [if_neg c98] at H
                            have c98b0 : (t472 != t474) = false := by simpa using c98
                            (try (have c98b1 : decide (t472 = t474) = true := by simpa using c98))
                            (try (have c98b2 : (t472 == t474) = true := by simpa using c98))
                            clear c98
                            (first | rw [c98b0] | (simp only [i64_w, i32_w]; rw [c98b0]) | skip)
                            by_cases c99 : (t471 != t473) = true
                            · rw [if_pos c99] at H
                              have c99b0 : (t471 != t473) = true := c99
                              (try (have c99b1 : decide (t471 = t473) = false := by simpa using c99))
                              (try (have c99b2 : (t471 == t473) = false := by simpa using c99))
                              (try (have c99b3 : ¬ (t471 = t473) := by simpa using c99))
                              clear c99
                              as_aux_lemma =>
                                have H' := Aside0.mk H
                                clear H
                                go_wp2
                                repeat (go_quiet (fail); try go_wp2)
                                go_meet
                                case rel => exact ⟨_, (true), (by first | rfl | (simp; done) | (simp [*]; done)), H', ⟨by have := HJ10.out; have := HJ28.out; have := HJ49.out; have := HJ58.out; first | omega | exact Nat.le_refl _⟩, ⟨by (with_reducible repeat (first | apply Kd.Q_alloc | apply Kd.Q_drewN | apply Kd.Q_drew)); exact Kd.Q_mono HO470.out (fun _ hk => hk.1.2)⟩, ⟨by (with_reducible repeat (first | apply Kd.R_alloc | apply Kd.R_drewN | apply Kd.R_drew)); exact Kd.R_mono HO478.out (fun _ hk => hk.1.2)⟩, ⟨by repeat (first | (with_reducible first | exact HB.out | apply below_alloc | apply pw_below_drewN | apply below_drew1) | exact HB.out)⟩⟩
                            · rw [if_neg c99] at H
                              have c99b0 : (t471 != t473) = false := by simpa using c99
                              (try (have c99b1 : decide (t471 = t473) = true := by simpa using c99))
                              (try (have c99b2 : (t471 == t473) = true := by simpa using c99))
                              clear c99
                              by_cases c100 : (t476 != t480) = true
                              · rw [if_pos c100] at H
                                have c100b0 : (t476 != t480) = true := c100
                                (try (have c100b1 : decide (t476 = t480) = false := by simpa using c100))
                                (try (have c100b2 : (t476 == t480) = false := by simpa using c100))
                                (try (have c100b3 : ¬ (t476 = t480) := by simpa using c100))
                                clear c100
                                as_aux_lemma =>
                                  have H' := Aside0.mk H
                                  clear H
                                  go_wp2
                                  repeat (go_quiet (fail); try go_wp2)
                                  go_meet
                                  case rel => exact ⟨_, (true), (by first | rfl | (simp; done) | (simp [*]; done)), H', ⟨by have := HJ10.out; have := HJ28.out; have := HJ49.out; have := HJ58.out; first | omega | exact Nat.le_refl _⟩, ⟨by (with_reducible repeat (first | apply Kd.Q_alloc | apply Kd.Q_drewN | apply Kd.Q_drew)); exact Kd.Q_mono HO470.out (fun _ hk => hk.1.2)⟩, ⟨by (with_reducible repeat (first | apply Kd.R_alloc | apply Kd.R_drewN | apply Kd.R_drew)); exact Kd.R_mono HO478.out (fun _ hk => hk.1.2)⟩, ⟨by repeat (first | (with_reducible first | exact HB.out | apply below_alloc | apply pw_below_drewN | apply below_drew1) | exact HB.out)⟩⟩
                              · rw [if_neg c100] at H
                                have c100b0 : (t476 != t480) = false := by simpa using c100
                                (try (have c100b1 : decide (t476 = t480) = true := by simpa using c100))
                                (try (have c100b2 : (t476 == t480) = true := by simpa using c100))
                                clear c100
                                replace H := Option.bind_eq_some_iff.mp H
                                obtain ⟨t485, A1010, H⟩ := H
                                replace H : (if t485 = true then (laws_FnSuperpermutations.j6 kj58 t467 t468 t471 t475 t476 t483 (t484 != t476)) else (laws_FnSuperpermutations.j6 kj58 t467 t468 t471 t475 t476 t483 true)) = some r := H
                                have A101 := Aside0.mk A1010
                                clear A1010
                                by_cases c102 : t485 = true
                                · subst c102
                                  have H1 : (laws_FnSuperpermutations.j6 kj58 t467 t468 t471 t475 t476 t483 (t484 != t476)) = some r := by rw [if_pos rfl] at H; exact H
                                  clear H
                                  have H := H1
                                  clear H1
                                  as_aux_lemma =>
                                    have H' := Aside0.mk H
                                    clear H
                                    obtain ⟨Ao103, co103, eo103⟩ := Kd.R_slice HO478.out
                                    subst eo103
                                    obtain ⟨Ao104, co104, eo104⟩ := Kd.R_slice HO482.out
                                    subst eo104
                                    go_wp2_with (first | (go_at_call 37; (with_reducible refine (laws_uSame.calls kj58 _ _ t475 _ _ t479 true _ ?side1 ?side2 ?side3 ?side4 A101.out).mono ?_); (case side1 => repeat (first | exact (Kd.R_reads' HO478.out).2.2 | (with_reducible refine Kd.C_alloc ?_ _) | (with_reducible refine Kd.C_drewN ?_ _) | (with_reducible refine Kd.C_drew ?_))); (case side2 => exact (Kd.R_reads' HO478.out).2.1); (case side3 => repeat (first | exact (Kd.R_reads' HO482.out).2.2 | (with_reducible refine Kd.C_alloc ?_ _) | (with_reducible refine Kd.C_drewN ?_ _) | (with_reducible refine Kd.C_drew ?_))); (case side4 => exact (Kd.R_reads' HO482.out).2.1); rintro e w' ⟨rfl, ⟨nd, rfl⟩⟩; (try first | exact ⟨rfl, _, World.drewN_drewN _ _ _⟩ | exact ⟨rfl, _, Eq.trans (World.drewN_drewN _ _ _) (congrArg (World.drewN _) (Nat.add_assoc _ _ _))⟩)))
                                    go_meet
                                    case rel => exact ⟨_, ((t484 != t476)), (by first | rfl | (simp; done) | (simp [*]; done)), H', ⟨by have := HJ10.out; have := HJ28.out; have := HJ49.out; have := HJ58.out; first | omega | exact Nat.le_refl _⟩, ⟨by (with_reducible repeat (first | apply Kd.Q_alloc | apply Kd.Q_drewN | apply Kd.Q_drew)); exact Kd.Q_mono HO470.out (fun _ hk => hk.1.2)⟩, ⟨by (with_reducible repeat (first | apply Kd.R_alloc | apply Kd.R_drewN | apply Kd.R_drew)); exact Kd.R_mono HO478.out (fun _ hk => hk.1.2)⟩, ⟨by repeat (first | (with_reducible first | exact HB.out | apply below_alloc | apply pw_below_drewN | apply below_drew1) | exact HB.out)⟩⟩
                                · replace c102 := Bool.eq_false_iff.mpr c102
                                  subst c102
                                  have H1 : (laws_FnSuperpermutations.j6 kj58 t467 t468 t471 t475 t476 t483 true) = some r := by rw [if_neg (show ¬ (false = true) by decide)] at H; exact H
                                  clear H
                                  have H := H1
                                  clear H1
                                  as_aux_lemma =>
                                    have H' := Aside0.mk H
                                    clear H
                                    obtain ⟨Ao105, co105, eo105⟩ := Kd.R_slice HO478.out
                                    subst eo105
                                    obtain ⟨Ao106, co106, eo106⟩ := Kd.R_slice HO482.out
                                    subst eo106
                                    go_wp2_with (first | (go_at_call 37; (with_reducible refine (laws_uSame.calls kj58 _ _ t475 _ _ t479 false _ ?side1 ?side2 ?side3 ?side4 A101.out).mono ?_); (case side1 => repeat (first | exact (Kd.R_reads' HO478.out).2.2 | (with_reducible refine Kd.C_alloc ?_ _) | (with_reducible refine Kd.C_drewN ?_ _) | (with_reducible refine Kd.C_drew ?_))); (case side2 => exact (Kd.R_reads' HO478.out).2.1); (case side3 => repeat (first | exact (Kd.R_reads' HO482.out).2.2 | (with_reducible refine Kd.C_alloc ?_ _) | (with_reducible refine Kd.C_drewN ?_ _) | (with_reducible refine Kd.C_drew ?_))); (case side4 => exact (Kd.R_reads' HO482.out).2.1); rintro e w' ⟨rfl, ⟨nd, rfl⟩⟩; (try first | exact ⟨rfl, _, World.drewN_drewN _ _ _⟩ | exact ⟨rfl, _, Eq.trans (World.drewN_drewN _ _ _) (congrArg (World.drewN _) (Nat.add_assoc _ _ _))⟩)))
                                    go_meet
                                    case rel => exact ⟨_, (true), (by first | rfl | (simp; done) | (simp [*]; done)), H', ⟨by have := HJ10.out; have := HJ28.out; have := HJ49.out; have := HJ58.out; first | omega | exact Nat.le_refl _⟩, ⟨by (with_reducible repeat (first | apply Kd.Q_alloc | apply Kd.Q_drewN | apply Kd.Q_drew)); exact Kd.Q_mono HO470.out (fun _ hk => hk.1.2)⟩, ⟨by (with_reducible repeat (first | apply Kd.R_alloc | apply Kd.R_drewN | apply Kd.R_drew)); exact Kd.R_mono HO478.out (fun _ hk => hk.1.2)⟩, ⟨by repeat (first | (with_reducible first | exact HB.out | apply below_alloc | apply pw_below_drewN | apply below_drew1) | exact HB.out)⟩⟩
                        case rest =>
                          clear HC90
                          try clear c1
                          try clear c2
                          try clear p2
                          try clear c3
                          try clear c4
                          try clear p4
                          try clear q4
                          try clear hx4
                          try clear c5
                          try clear c6
                          try clear p6
                          try clear c7
                          try clear c9
                          try clear c10
                          try clear c13
                          try clear c15
                          try clear c15b0
                          try clear c15b1
                          try clear c15b2
                          try clear c17
                          try clear c18
                          try clear c18b0
                          try clear c18b1
                          try clear c18b2
                          try clear c21
                          try clear c21b0
                          try clear c21b1
                          try clear c21b2
                          try clear c28
                          try clear c30
                          try clear c35
                          try clear c36
                          try clear c37
                          try clear c37b0
                          try clear c37b1
                          try clear c38
                          try clear c39
                          try clear c40
                          try clear c40b0
                          try clear c41
                          try clear c41b0
                          try clear c42
                          try clear c42b0
                          try clear c44
                          try clear c44b0
                          try clear p44
                          try clear q44
                          try clear hx44
                          try clear c45
                          try clear c45b0
                          try clear p45
                          try clear q45
                          try clear hx45
                          try clear c46
                          try clear c46b0
                          try clear c46b1
                          try clear c54
                          try clear c54b0
                          try clear c54b1
                          try clear c54b2
                          try clear c58
                          try clear c60
                          try clear c64
                          try clear p64
                          try clear c65
                          try clear c66
                          try clear c67
                          try clear c68
                          try clear c68b0
                          try clear c71
                          try clear c71b0
                          try clear c98
                          try clear c98b0
                          try clear c98b1
                          try clear c98b2
                          try clear c99
                          try clear c99b0
                          try clear c99b1
                          try clear c99b2
                          try clear c100
                          try clear c100b0
                          try clear c100b1
                          try clear c100b2
                          try clear c102
                          try clear hx449_0
                          try clear hx450_0
                          try clear p2
                          try clear p4
                          try clear p44
                          try clear p449
                          try clear p45
                          try clear p450
                          try clear p6
                          try clear p64
                          try clear q4
                          try clear q44
                          try clear q449
                          try clear q45
                          try clear q450
                          obtain ⟨kq, x268_89, rfl, HA, HJ89, HO_31, HO_36, HB⟩ := hcut
                          cases kq with
                          | zero => exact absurd HA.out (by simp [laws_FnSuperpermutations.j6])
                          | succ kj89 =>
                            have H := HA.out
                            clear HA
                            simp only [laws_FnSuperpermutations.j6] at H
                            by_cases c107 : x268_89 = true
                            · subst c107
                              have H1 : (some false) = some r := by rw [if_pos rfl] at H; exact H
                              clear H
                              have H := H1
                              clear H1
                              as_aux_lemma =>
                                obtain rfl := Option.some.inj H
                                go_wp2
                                repeat (go_quiet (fail); try go_wp2)
                                go_ret
                                exact ⟨by first | rfl | (simp [errW_none, errW_some] <;> rfl) | (simp [*, errW_none, errW_some] <;> rfl), by repeat (first | (with_reducible first | exact HB.out | apply below_alloc | apply pw_below_drewN | apply below_drew1) | exact HB.out)⟩
                            · replace c107 := Bool.eq_false_iff.mpr c107
                              subst c107
                              have H1 : (if t476 = true then ((impl_Factorial.f kj89 t467).bind fun bt486 => (if (wrap64 ((wrap64 ((t468.length : Int) - t467)) + 1)) < 0 then (if bt486.2 = true then (if (t471 == ((t475.length : Int) == bt486.1)) = true then (some (t483 == (wrap64 (-(t475.length : Int))))) else (some false)) else (some false)) else (if bt486.2 = true then (if (t471 == ((t475.length : Int) == bt486.1)) = true then (some (t483 == (wrap64 ((wrap64 ((wrap64 ((t468.length : Int) - t467)) + 1)) - (t475.length : Int))))) else (some false)) else (some false)))) else (some true)) = some r := by rw [if_neg (show ¬ (false = true) by decide)] at H; exact H
                              clear H
                              have H := H1
                              clear H1
                              by_cases c108 : t476 = true
                              · subst c108
                                have H1 : ((impl_Factorial.f kj89 t467).bind fun bt486 => (if (wrap64 ((wrap64 ((t468.length : Int) - t467)) + 1)) < 0 then (if bt486.2 = true then (if (t471 == ((t475.length : Int) == bt486.1)) = true then (some (t483 == (wrap64 (-(t475.length : Int))))) else (some false)) else (some false)) else (if bt486.2 = true then (if (t471 == ((t475.length : Int) == bt486.1)) = true then (some (t483 == (wrap64 ((wrap64 ((wrap64 ((t468.length : Int) - t467)) + 1)) - (t475.length : Int))))) else (some false)) else (some false)))) = some r := by rw [if_pos rfl] at H; exact H
                                clear H
                                have H := H1
                                clear H1
                                replace H := Option.bind_eq_some_iff.mp H
                                obtain ⟨⟨t486, t487⟩, A1090, H⟩ := H
                                replace H : (if (wrap64 ((wrap64 ((t468.length : Int) - t467)) + 1)) < 0 then (if t487 = true then (if (t471 == ((t475.length : Int) == t486)) = true then (some (t483 == (wrap64 (-(t475.length : Int))))) else (some false)) else (some false)) else (if t487 = true then (if (t471 == ((t475.length : Int) == t486)) = true then (some (t483 == (wrap64 ((wrap64 ((wrap64 ((t468.length : Int) - t467)) + 1)) - (t475.length : Int))))) else (some false)) else (some false))) = some r := H
                                have A109 := Aside0.mk A1090
                                clear A1090
                                by_cases c110 : (wrap64 ((wrap64 ((t468.length : Int) - t467)) + 1)) < 0
                                · rw [if_pos c110] at H
                                  have c110b0 : decide ((wrap64 ((wrap64 ((t468.length : Int) - t467)) + 1)) < 0) = true := decide_eq_true c110
                                  clear c110
                                  by_cases c111 : t487 = true
                                  · subst c111
                                    have H1 : (if (t471 == ((t475.length : Int) == t486)) = true then (some (t483 == (wrap64 (-(t475.length : Int))))) else (some false)) = some r := by rw [if_pos rfl] at H; exact H
                                    clear H
                                    have H := H1
                                    clear H1
                                    by_cases c112 : (t471 == ((t475.length : Int) == t486)) = true
                                    · rw [if_pos c112] at H
                                      have c112b0 : (t471 == ((t475.length : Int) == t486)) = true := c112
                                      (try (have c112b1 : decide (t471 = ((t475.length : Int) == t486)) = true := by simpa using c112))
                                      (try (have c112b2 : (t471 == ((t475.length : Int) == t486)) = true := by simpa using c112))
                                      clear c112
                                      as_aux_lemma =>
                                        obtain rfl := Option.some.inj H
                                        go_wp2_with (first | (go_at_call 75; (with_reducible refine (impl_Factorial.calls kj89 t467 t486 true _ A109.out).mono ?_); rintro e w' ⟨rfl, ⟨nd, rfl⟩⟩; (try first | exact ⟨rfl, _, World.drewN_drewN _ _ _⟩ | exact ⟨rfl, _, Eq.trans (World.drewN_drewN _ _ _) (congrArg (World.drewN _) (Nat.add_assoc _ _ _))⟩); obtain ⟨Ao113, co113, eo113⟩ := Kd.R_slice HO_36.out; subst eo113))
                                        go_ret
                                        exact ⟨by first | rfl | (simp [errW_none, errW_some] <;> rfl) | (simp [*, errW_none, errW_some] <;> rfl), by repeat (first | (with_reducible first | exact HB.out | apply below_alloc | apply pw_below_drewN | apply below_drew1) | exact HB.out)⟩
                                    · rw [if_neg c112] at H
                                      have c112b0 : (t471 == ((t475.length : Int) == t486)) = false := by simpa using c112
                                      (try (have c112b1 : decide (t471 = ((t475.length : Int) == t486)) = false := by simpa using c112))
                                      (try (have c112b2 : (t471 == ((t475.length : Int) == t486)) = false := by simpa using c112))
                                      (try (have c112b3 : ¬ (t471 = ((t475.length : Int) == t486)) := by simpa using c112))
                                      clear c112
                                      as_aux_lemma =>
                                        obtain rfl := Option.some.inj H
                                        go_wp2_with (first | (go_at_call 75; (with_reducible refine (impl_Factorial.calls kj89 t467 t486 true _ A109.out).mono ?_); rintro e w' ⟨rfl, ⟨nd, rfl⟩⟩; (try first | exact ⟨rfl, _, World.drewN_drewN _ _ _⟩ | exact ⟨rfl, _, Eq.trans (World.drewN_drewN _ _ _) (congrArg (World.drewN _) (Nat.add_assoc _ _ _))⟩); obtain ⟨Ao114, co114, eo114⟩ := Kd.R_slice HO_36.out; subst eo114))
                                        go_ret
                                        exact ⟨by first | rfl | (simp [errW_none, errW_some] <;> rfl) | (simp [*, errW_none, errW_some] <;> rfl), by repeat (first | (with_reducible first | exact HB.out | apply below_alloc | apply pw_below_drewN | apply below_drew1) | exact HB.out)⟩
                                  · replace c111 := Bool.eq_false_iff.mpr c111
                                    subst c111
                                    have H1 : (some false) = some r := by rw [if_neg (show ¬ (false = true) by decide)] at H; exact H
                                    clear H
                                    have H := H1
                                    clear H1
                                    as_aux_lemma =>
                                      obtain rfl := Option.some.inj H
                                      go_wp2_with (first | (go_at_call 75; (with_reducible refine (impl_Factorial.calls kj89 t467 t486 false _ A109.out).mono ?_); rintro e w' ⟨rfl, ⟨nd, rfl⟩⟩; (try first | exact ⟨rfl, _, World.drewN_drewN _ _ _⟩ | exact ⟨rfl, _, Eq.trans (World.drewN_drewN _ _ _) (congrArg (World.drewN _) (Nat.add_assoc _ _ _))⟩)))
                                      go_ret
                                      exact ⟨by first | rfl | (simp [errW_none, errW_some] <;> rfl) | (simp [*, errW_none, errW_some] <;> rfl), by repeat (first | (with_reducible first | exact HB.out | apply below_alloc | apply pw_below_drewN | apply below_drew1) | exact HB.out)⟩
                                · rw [if_neg c110] at H
                                  have c110b0 : decide ((wrap64 ((wrap64 ((t468.length : Int) - t467)) + 1)) < 0) = false := decide_eq_false c110
                                  clear c110
                                  by_cases c115 : t487 = true
                                  · subst c115
                                    have H1 : (if (t471 == ((t475.length : Int) == t486)) = true then (some (t483 == (wrap64 ((wrap64 ((wrap64 ((t468.length : Int) - t467)) + 1)) - (t475.length : Int))))) else (some false)) = some r := by rw [if_pos rfl] at H; exact H
                                    clear H
                                    have H := H1
                                    clear H1
                                    by_cases c116 : (t471 == ((t475.length : Int) == t486)) = true
                                    · rw [if_pos c116] at H
                                      have c116b0 : (t471 == ((t475.length : Int) == t486)) = true := c116
                                      (try (have c116b1 : decide (t471 = ((t475.length : Int) == t486)) = true := by simpa using c116))
                                      (try (have c116b2 : (t471 == ((t475.length : Int) == t486)) = true := by simpa using c116))
                                      clear c116
                                      as_aux_lemma =>
                                        obtain rfl := Option.some.inj H
                                        go_wp2_with (first | (go_at_call 75; (with_reducible refine (impl_Factorial.calls kj89 t467 t486 true _ A109.out).mono ?_); rintro e w' ⟨rfl, ⟨nd, rfl⟩⟩; (try first | exact ⟨rfl, _, World.drewN_drewN _ _ _⟩ | exact ⟨rfl, _, Eq.trans (World.drewN_drewN _ _ _) (congrArg (World.drewN _) (Nat.add_assoc _ _ _))⟩); obtain ⟨Ao117, co117, eo117⟩ := Kd.R_slice HO_36.out; subst eo117))
                                        go_ret
                                        exact ⟨by first | rfl | (simp [errW_none, errW_some] <;> rfl) | (simp [*, errW_none, errW_some] <;> rfl), by repeat (first | (with_reducible first | exact HB.out | apply below_alloc | apply pw_below_drewN | apply below_drew1) | exact HB.out)⟩
                                    · rw [if_neg c116] at H
                                      have c116b0 : (t471 == ((t475.length : Int) == t486)) = false := by simpa using c116
                                      (try (have c116b1 : decide (t471 = ((t475.length : Int) == t486)) = false := by simpa using c116))
                                      (try (have c116b2 : (t471 == ((t475.length : Int) == t486)) = false := by simpa using c116))
                                      (try (have c116b3 : ¬ (t471 = ((t475.length : Int) == t486)) := by simpa using c116))
                                      clear c116
                                      as_aux_lemma =>
                                        obtain rfl := Option.some.inj H
                                        go_wp2_with (first | (go_at_call 75; (with_reducible refine (impl_Factorial.calls kj89 t467 t486 true _ A109.out).mono ?_); rintro e w' ⟨rfl, ⟨nd, rfl⟩⟩; (try first | exact ⟨rfl, _, World.drewN_drewN _ _ _⟩ | exact ⟨rfl, _, Eq.trans (World.drewN_drewN _ _ _) (congrArg (World.drewN _) (Nat.add_assoc _ _ _))⟩); obtain ⟨Ao118, co118, eo118⟩ := Kd.R_slice HO_36.out; subst eo118))
                                        go_ret
                                        exact ⟨by first | rfl | (simp [errW_none, errW_some] <;> rfl) | (simp [*, errW_none, errW_some] <;> rfl), by repeat (first | (with_reducible first | exact HB.out | apply below_alloc | apply pw_below_drewN | apply below_drew1) | exact HB.out)⟩
                                  · replace c115 := Bool.eq_false_iff.mpr c115
                                    subst c115
                                    have H1 : (some false) = some r := by rw [if_neg (show ¬ (false = true) by decide)] at H; exact H
                                    clear H
                                    have H := H1
                                    clear H1
                                    as_aux_lemma =>
                                      obtain rfl := Option.some.inj H
                                      go_wp2_with (first | (go_at_call 75; (with_reducible refine (impl_Factorial.calls kj89 t467 t486 false _ A109.out).mono ?_); rintro e w' ⟨rfl, ⟨nd, rfl⟩⟩; (try first | exact ⟨rfl, _, World.drewN_drewN _ _ _⟩ | exact ⟨rfl, _, Eq.trans (World.drewN_drewN _ _ _) (congrArg (World.drewN _) (Nat.add_assoc _ _ _))⟩)))
                                      go_ret
                                      exact ⟨by first | rfl | (simp [errW_none, errW_some] <;> rfl) | (simp [*, errW_none, errW_some] <;> rfl), by repeat (first | (with_reducible first | exact HB.out | apply below_alloc | apply pw_below_drewN | apply below_drew1) | exact HB.out)⟩
                              · replace c108 := Bool.eq_false_iff.mpr c108
                                subst c108
                                have H1 : (some true) = some r := by rw [if_neg (show ¬ (false = true) by decide)] at H; exact H
                                clear H
                                have H := H1
                                clear H1
                                as_aux_lemma =>
                                  obtain rfl := Option.some.inj H
                                  go_wp2
                                  repeat (go_quiet (fail); try go_wp2)
                                  go_ret
                                  exact ⟨by first | rfl | (simp [errW_none, errW_some] <;> rfl) | (simp [*, errW_none, errW_some] <;> rfl), by repeat (first | (with_reducible first | exact HB.out | apply below_alloc | apply pw_below_drewN | apply below_drew1) | exact HB.out)⟩
def laws_FnSuperpermutations.Pure : Prop := ∀ (l0 : List Int) (l1 : List Int), l0.length ≤ maxLen → l0.length * 1 ≤ 140737488351232 → (∀ x ∈ l0, (Lit.int .u8 x).wf = true) → l1.length ≤ maxLen → l1.length * 1 ≤ 140737488351232 → (∀ x ∈ l1, (Lit.int .u8 x).wf = true) → ∃ k, laws_FnSuperpermutations.f k l0 l1 = some true
theorem laws_FnSuperpermutations.walk (P : laws_FnSuperpermutations.Pure) (a0 : Option Addr) (len0 cap0 : Nat) (z0 : List Int) (a1 : Option Addr) (len1 cap1 : Nat) (z1 : List Int) (w : World) (w0 : (a0 = none ∧ len0 = 0 ∧ cap0 = 0 ∧ z0 = []) ∨ ∃ x, a0 = some x ∧ len0 ≤ cap0 ∧ cap0 ≤ maxLen ∧ z0.length = cap0 ∧ (∀ i, i < z0.length → w.cell? (x.add i) = some (.int .u8 (z0.getD i 0))) ∧ ∀ n ∈ z0, (Lit.int .u8 n).wf = true) (y0 : len0 * 1 ≤ 140737488351232) (w1 : (a1 = none ∧ len1 = 0 ∧ cap1 = 0 ∧ z1 = []) ∨ ∃ x, a1 = some x ∧ len1 ≤ cap1 ∧ cap1 ≤ maxLen ∧ z1.length = cap1 ∧ (∀ i, i < z1.length → w.cell? (x.add i) = some (.int .u8 (z1.getD i 0))) ∧ ∀ n ∈ z1, (Lit.int .u8 n).wf = true) (y1 : len1 * 1 ≤ 140737488351232) :
    Calls Try.prog 13 #[.slice a0 len0 cap0, .slice a1 len1 cap1] w fun e w' => e = .returned (.bool true) ∧ Below w.heap.size w w' := by
  obtain ⟨l0, rfl, hr0, hm0, hw0, hc0⟩ := ReadsInt.ofRowC w0
  obtain ⟨l1, rfl, hr1, hm1, hw1, hc1⟩ := ReadsInt.ofRowC w1
  obtain ⟨k, h⟩ := P l0 l1 hm0 y0 hw0 hm1 y1 hw1
  refine (laws_FnSuperpermutations.calls k _ _ l0 _ _ l1 true w (Kd.C_of_reads (d := (0 : Int)) (h1 := fun _ => rfl) hr0) hc0 (Kd.C_of_reads (d := (0 : Int)) (h1 := fun _ => rfl) hr1) hc1 h).mono ?_
  rintro e w' ⟨rfl, hd⟩
  exact ⟨rfl, hd⟩
end Go.Proofs.Ytdnbeekoefmbcaa.PFnSuperpermutations
