-- Written for this claim by a copy of the print that meets some functions by contracts of this session.
import Derived.Test.YtdnbeekoefmbcaaPFnRegistersx0
import Derived.Test.YtdnbeekoefmbcaaPFnRegistersx3
import Derived.Test.YtdnbeekoefmbcaaPFnRegistersx4
import Derived.Test.YtdnbeekoefmbcaaPFnRegistersx5
import Derived.Test.YtdnbeekoefmbcaaPFnRegistersx6
import Derived.Test.YtdnbeekoefmbcaaPFnRegistersx7
import Derived.Test.YtdnbeekoefmbcaaPFnRegistersx8
namespace Go.Proofs.Ytdnbeekoefmbcaa.PFnRegisters
open Go.RowKit Go.Proofs.YtdnbeekoefmbcaaW.PrintWords Go.Proofs.YtdnbeekoefmbcaaW.PrintLast Go.Proofs.YtdnbeekoefmbcaaW.PrintMore
attribute [local go_sem] max2_int min2_int max_two min_two max_three min_three max_four min_four   -- for this text's walks alone
set_option linter.unusedVariables false
set_option linter.unusedSimpArgs false

/-! ### laws_FnRegisters: function 12 -/
mutual
def laws_FnRegisters.j0 : Nat → List Int → Int → List Int → Bool → Bool → Bool → Option (Bool)
  | 0, _, _, _, _, _, _ => none
  | k + 1, x5, x6, x7, x10, x11, x62 => if x62 = true then (some false) else (if x10 = true then (laws_FnRegisters.l0 k x5 x6 x7 x11 (x7.length : Int) 0) else (some true))
def laws_FnRegisters.l0 : Nat → List Int → Int → List Int → Bool → Int → Int → Option (Bool)
  | 0, _, _, _, _, _, _ => none
  | k + 1, x5, x6, x7, x11, x66, x67 => if x67 < x66 then (laws_FnRegisters.l1 k x5 x6 x7 x11 x67 0 x66 x67 x5 (x5.length : Int) 0) else (laws_FnRegisters.l2 k x6 x7 x11 1 0)
def laws_FnRegisters.l1 : Nat → List Int → Int → List Int → Bool → Int → Int → Int → Int → List Int → Int → Int → Option (Bool)
  | 0, _, _, _, _, _, _, _, _, _, _, _ => none
  | k + 1, x5, x6, x7, x11, x13, x14, x66, x67, x70, x71, x72 => if x72 < x71 then (if 0 ≤ x72 then (if x72 < (x70.length : Int) then (if (x7.length : Int) = 0 then (none) else (if 0 ≤ (Int.tmod (wrap64 (x13 + (rd x70 x72))) (x7.length : Int)) then (if (Int.tmod (wrap64 (x13 + (rd x70 x72))) (x7.length : Int)) < (x7.length : Int) then (laws_FnRegisters.l1 k x5 x6 x7 x11 x13 (wrap64 (x14 + (rd x7 (Int.tmod (wrap64 (x13 + (rd x70 x72))) (x7.length : Int))))) x66 x67 x70 x71 (wrap64 (x72 + 1))) else (none)) else (none))) else (none)) else (none)) else (if (x7.length : Int) = 0 then (none) else (if 0 ≤ (Int.tmod (wrap64 (x13 + x6)) (x7.length : Int)) then (if (Int.tmod (wrap64 (x13 + x6)) (x7.length : Int)) < (x7.length : Int) then (if (rd x7 (Int.tmod (wrap64 (x13 + x6)) (x7.length : Int))) = (Int.tmod x14 2) then (laws_FnRegisters.l0 k x5 x6 x7 x11 x66 (wrap64 (x67 + 1))) else (some false)) else (none)) else (none)))
def laws_FnRegisters.l2 : Nat → Int → List Int → Bool → Int → Int → Option (Bool)
  | 0, _, _, _, _, _ => none
  | k + 1, x6, x7, x11, x17, x18 => if x18 < x6 then (laws_FnRegisters.l2 k x6 x7 x11 (wrap64 (x17 * 2)) (wrap64 (x18 + 1))) else (if (x11 != ((x7.length : Int) == (wrap64 (x17 - 1)))) = true then (laws_FnRegisters.j4 k x6 x7 x11 true) else (laws_FnRegisters.j4 k x6 x7 x11 (decide ((x7.length : Int) > (wrap64 (x17 - 1))))))
def laws_FnRegisters.j4 : Nat → Int → List Int → Bool → Bool → Option (Bool)
  | 0, _, _, _, _ => none
  | k + 1, x6, x7, x11, x121 => if x121 = true then (some false) else (if x11 = true then ((impl_WithZero.f k x7 x6 2).bind fun bt305 => ((impl_IsBruijn.f k bt305.1 x6 2).bind fun bt309 => (if bt305.2 = true then (if bt309.2 = true then (some bt309.1) else (some false)) else (some false)))) else (some true))
end
def laws_FnRegisters.f (k : Nat) (l0 : List Int) (l1 : List Int) : Option (Bool) := (laws_big.f l0 l1).bind fun t286 => (if t286 = true then (some true) else ((spec_DrawRegisterWord.f k l0).bind fun bt287 => ((impl_RegisterWord.f k bt287.1 bt287.2).bind fun bt291 => ((spec_RegisterWord.f k bt287.1 bt287.2).bind fun bt295 => ((impl_IsFullRegister.f k bt287.1 bt287.2).bind fun bt299 => (if (bt291.2 != bt295.2) = true then (laws_FnRegisters.j0 k bt287.1 bt287.2 bt291.1 bt295.2 bt299.1 true) else ((laws_tSame.f k bt291.1 bt295.1).bind fun t301 => (if t301 = true then (laws_FnRegisters.j0 k bt287.1 bt287.2 bt291.1 bt295.2 bt299.1 (bt299.2 != bt291.2)) else (laws_FnRegisters.j0 k bt287.1 bt287.2 bt291.1 bt295.2 bt299.1 true)))))))))
theorem laws_FnRegisters.mono_l : ∀ k, (∀ y0 y1 y2 y3 y4 y5, LeO (laws_FnRegisters.j0 k y0 y1 y2 y3 y4 y5) (laws_FnRegisters.j0 (k + 1) y0 y1 y2 y3 y4 y5)) ∧ (∀ y0 y1 y2 y3 y4 y5, LeO (laws_FnRegisters.l0 k y0 y1 y2 y3 y4 y5) (laws_FnRegisters.l0 (k + 1) y0 y1 y2 y3 y4 y5)) ∧ (∀ y0 y1 y2 y3 y4 y5 y6 y7 y8 y9 y10, LeO (laws_FnRegisters.l1 k y0 y1 y2 y3 y4 y5 y6 y7 y8 y9 y10) (laws_FnRegisters.l1 (k + 1) y0 y1 y2 y3 y4 y5 y6 y7 y8 y9 y10)) ∧ (∀ y0 y1 y2 y3 y4, LeO (laws_FnRegisters.l2 k y0 y1 y2 y3 y4) (laws_FnRegisters.l2 (k + 1) y0 y1 y2 y3 y4)) ∧ (∀ y0 y1 y2 y3, LeO (laws_FnRegisters.j4 k y0 y1 y2 y3) (laws_FnRegisters.j4 (k + 1) y0 y1 y2 y3))
  | 0 => ⟨fun _ _ _ _ _ _ r h => by simp [laws_FnRegisters.j0] at h, fun _ _ _ _ _ _ r h => by simp [laws_FnRegisters.l0] at h, fun _ _ _ _ _ _ _ _ _ _ _ r h => by simp [laws_FnRegisters.l1] at h, fun _ _ _ _ _ r h => by simp [laws_FnRegisters.l2] at h, fun _ _ _ _ r h => by simp [laws_FnRegisters.j4] at h⟩
  | k + 1 => by
    obtain ⟨ih0, ih1, ih2, ih3, ih4⟩ := laws_FnRegisters.mono_l k
    refine ⟨?_, ?_, ?_, ?_, ?_⟩
    · intro y0 y1 y2 y3 y4 y5
      unfold laws_FnRegisters.j0
      repeat' first
      | (with_reducible exact ih0 _ _ _ _ _ _)
      | (with_reducible exact ih1 _ _ _ _ _ _)
      | (with_reducible exact ih2 _ _ _ _ _ _ _ _ _ _ _)
      | (with_reducible exact ih3 _ _ _ _ _)
      | (with_reducible exact ih4 _ _ _ _)
      | (with_reducible exact impl_IsBruijn.mono _ _ _ _)
      | (with_reducible exact impl_IsFullRegister.mono _ _ _)
      | (with_reducible exact impl_RegisterWord.mono _ _ _)
      | (with_reducible exact impl_WithZero.mono _ _ _ _)
      | (with_reducible exact laws_tSame.mono _ _ _)
      | (with_reducible exact spec_DrawRegisterWord.mono _ _)
      | (with_reducible exact spec_RegisterWord.mono _ _ _)
      | (with_reducible exact LeO.refl _)
      | (with_reducible exact LeO.none _)
      | (with_reducible refine LeO.ite ?_ ?_)
      | (with_reducible refine LeO.bind ?_ (fun _ => ?_))
      | exact ih0 _ _ _ _ _ _
      | exact ih1 _ _ _ _ _ _
      | exact ih2 _ _ _ _ _ _ _ _ _ _ _
      | exact ih3 _ _ _ _ _
      | exact ih4 _ _ _ _
      | exact impl_IsBruijn.mono _ _ _ _
      | exact impl_IsFullRegister.mono _ _ _
      | exact impl_RegisterWord.mono _ _ _
      | exact impl_WithZero.mono _ _ _ _
      | exact laws_tSame.mono _ _ _
      | exact spec_DrawRegisterWord.mono _ _
      | exact spec_RegisterWord.mono _ _ _
      | exact LeO.none _
      | refine LeO.ite ?_ ?_
      | refine LeO.bind ?_ (fun _ => ?_)
    · intro y0 y1 y2 y3 y4 y5
      unfold laws_FnRegisters.l0
      repeat' first
      | (with_reducible exact ih0 _ _ _ _ _ _)
      | (with_reducible exact ih1 _ _ _ _ _ _)
      | (with_reducible exact ih2 _ _ _ _ _ _ _ _ _ _ _)
      | (with_reducible exact ih3 _ _ _ _ _)
      | (with_reducible exact ih4 _ _ _ _)
      | (with_reducible exact impl_IsBruijn.mono _ _ _ _)
      | (with_reducible exact impl_IsFullRegister.mono _ _ _)
      | (with_reducible exact impl_RegisterWord.mono _ _ _)
      | (with_reducible exact impl_WithZero.mono _ _ _ _)
      | (with_reducible exact laws_tSame.mono _ _ _)
      | (with_reducible exact spec_DrawRegisterWord.mono _ _)
      | (with_reducible exact spec_RegisterWord.mono _ _ _)
      | (with_reducible exact LeO.refl _)
      | (with_reducible exact LeO.none _)
      | (with_reducible refine LeO.ite ?_ ?_)
      | (with_reducible refine LeO.bind ?_ (fun _ => ?_))
      | exact ih0 _ _ _ _ _ _
      | exact ih1 _ _ _ _ _ _
      | exact ih2 _ _ _ _ _ _ _ _ _ _ _
      | exact ih3 _ _ _ _ _
      | exact ih4 _ _ _ _
      | exact impl_IsBruijn.mono _ _ _ _
      | exact impl_IsFullRegister.mono _ _ _
      | exact impl_RegisterWord.mono _ _ _
      | exact impl_WithZero.mono _ _ _ _
      | exact laws_tSame.mono _ _ _
      | exact spec_DrawRegisterWord.mono _ _
      | exact spec_RegisterWord.mono _ _ _
      | exact LeO.none _
      | refine LeO.ite ?_ ?_
      | refine LeO.bind ?_ (fun _ => ?_)
    · intro y0 y1 y2 y3 y4 y5 y6 y7 y8 y9 y10
      unfold laws_FnRegisters.l1
      repeat' first
      | (with_reducible exact ih0 _ _ _ _ _ _)
      | (with_reducible exact ih1 _ _ _ _ _ _)
      | (with_reducible exact ih2 _ _ _ _ _ _ _ _ _ _ _)
      | (with_reducible exact ih3 _ _ _ _ _)
      | (with_reducible exact ih4 _ _ _ _)
      | (with_reducible exact impl_IsBruijn.mono _ _ _ _)
      | (with_reducible exact impl_IsFullRegister.mono _ _ _)
      | (with_reducible exact impl_RegisterWord.mono _ _ _)
      | (with_reducible exact impl_WithZero.mono _ _ _ _)
      | (with_reducible exact laws_tSame.mono _ _ _)
      | (with_reducible exact spec_DrawRegisterWord.mono _ _)
      | (with_reducible exact spec_RegisterWord.mono _ _ _)
      | (with_reducible exact LeO.refl _)
      | (with_reducible exact LeO.none _)
      | (with_reducible refine LeO.ite ?_ ?_)
      | (with_reducible refine LeO.bind ?_ (fun _ => ?_))
      | exact ih0 _ _ _ _ _ _
      | exact ih1 _ _ _ _ _ _
      | exact ih2 _ _ _ _ _ _ _ _ _ _ _
      | exact ih3 _ _ _ _ _
      | exact ih4 _ _ _ _
      | exact impl_IsBruijn.mono _ _ _ _
      | exact impl_IsFullRegister.mono _ _ _
      | exact impl_RegisterWord.mono _ _ _
      | exact impl_WithZero.mono _ _ _ _
      | exact laws_tSame.mono _ _ _
      | exact spec_DrawRegisterWord.mono _ _
      | exact spec_RegisterWord.mono _ _ _
      | exact LeO.none _
      | refine LeO.ite ?_ ?_
      | refine LeO.bind ?_ (fun _ => ?_)
    · intro y0 y1 y2 y3 y4
      unfold laws_FnRegisters.l2
      repeat' first
      | (with_reducible exact ih0 _ _ _ _ _ _)
      | (with_reducible exact ih1 _ _ _ _ _ _)
      | (with_reducible exact ih2 _ _ _ _ _ _ _ _ _ _ _)
      | (with_reducible exact ih3 _ _ _ _ _)
      | (with_reducible exact ih4 _ _ _ _)
      | (with_reducible exact impl_IsBruijn.mono _ _ _ _)
      | (with_reducible exact impl_IsFullRegister.mono _ _ _)
      | (with_reducible exact impl_RegisterWord.mono _ _ _)
      | (with_reducible exact impl_WithZero.mono _ _ _ _)
      | (with_reducible exact laws_tSame.mono _ _ _)
      | (with_reducible exact spec_DrawRegisterWord.mono _ _)
      | (with_reducible exact spec_RegisterWord.mono _ _ _)
      | (with_reducible exact LeO.refl _)
      | (with_reducible exact LeO.none _)
      | (with_reducible refine LeO.ite ?_ ?_)
      | (with_reducible refine LeO.bind ?_ (fun _ => ?_))
      | exact ih0 _ _ _ _ _ _
      | exact ih1 _ _ _ _ _ _
      | exact ih2 _ _ _ _ _ _ _ _ _ _ _
      | exact ih3 _ _ _ _ _
      | exact ih4 _ _ _ _
      | exact impl_IsBruijn.mono _ _ _ _
      | exact impl_IsFullRegister.mono _ _ _
      | exact impl_RegisterWord.mono _ _ _
      | exact impl_WithZero.mono _ _ _ _
      | exact laws_tSame.mono _ _ _
      | exact spec_DrawRegisterWord.mono _ _
      | exact spec_RegisterWord.mono _ _ _
      | exact LeO.none _
      | refine LeO.ite ?_ ?_
      | refine LeO.bind ?_ (fun _ => ?_)
    · intro y0 y1 y2 y3
      unfold laws_FnRegisters.j4
      repeat' first
      | (with_reducible exact ih0 _ _ _ _ _ _)
      | (with_reducible exact ih1 _ _ _ _ _ _)
      | (with_reducible exact ih2 _ _ _ _ _ _ _ _ _ _ _)
      | (with_reducible exact ih3 _ _ _ _ _)
      | (with_reducible exact ih4 _ _ _ _)
      | (with_reducible exact impl_IsBruijn.mono _ _ _ _)
      | (with_reducible exact impl_IsFullRegister.mono _ _ _)
      | (with_reducible exact impl_RegisterWord.mono _ _ _)
      | (with_reducible exact impl_WithZero.mono _ _ _ _)
      | (with_reducible exact laws_tSame.mono _ _ _)
      | (with_reducible exact spec_DrawRegisterWord.mono _ _)
      | (with_reducible exact spec_RegisterWord.mono _ _ _)
      | (with_reducible exact LeO.refl _)
      | (with_reducible exact LeO.none _)
      | (with_reducible refine LeO.ite ?_ ?_)
      | (with_reducible refine LeO.bind ?_ (fun _ => ?_))
      | exact ih0 _ _ _ _ _ _
      | exact ih1 _ _ _ _ _ _
      | exact ih2 _ _ _ _ _ _ _ _ _ _ _
      | exact ih3 _ _ _ _ _
      | exact ih4 _ _ _ _
      | exact impl_IsBruijn.mono _ _ _ _
      | exact impl_IsFullRegister.mono _ _ _
      | exact impl_RegisterWord.mono _ _ _
      | exact impl_WithZero.mono _ _ _ _
      | exact laws_tSame.mono _ _ _
      | exact spec_DrawRegisterWord.mono _ _
      | exact spec_RegisterWord.mono _ _ _
      | exact LeO.none _
      | refine LeO.ite ?_ ?_
      | refine LeO.bind ?_ (fun _ => ?_)
theorem laws_FnRegisters.mono : ∀ a0 a1 k, LeO (laws_FnRegisters.f k a0 a1) (laws_FnRegisters.f (k + 1) a0 a1) := by
  intro a0 a1 k
  obtain ⟨ih0, ih1, ih2, ih3, ih4⟩ := laws_FnRegisters.mono_l k
  unfold laws_FnRegisters.f
  repeat' first
      | (with_reducible exact ih0 _ _ _ _ _ _)
      | (with_reducible exact ih1 _ _ _ _ _ _)
      | (with_reducible exact ih2 _ _ _ _ _ _ _ _ _ _ _)
      | (with_reducible exact ih3 _ _ _ _ _)
      | (with_reducible exact ih4 _ _ _ _)
      | (with_reducible exact impl_IsBruijn.mono _ _ _ _)
      | (with_reducible exact impl_IsFullRegister.mono _ _ _)
      | (with_reducible exact impl_RegisterWord.mono _ _ _)
      | (with_reducible exact impl_WithZero.mono _ _ _ _)
      | (with_reducible exact laws_tSame.mono _ _ _)
      | (with_reducible exact spec_DrawRegisterWord.mono _ _)
      | (with_reducible exact spec_RegisterWord.mono _ _ _)
      | (with_reducible exact LeO.refl _)
      | (with_reducible exact LeO.none _)
      | (with_reducible refine LeO.ite ?_ ?_)
      | (with_reducible refine LeO.bind ?_ (fun _ => ?_))
      | exact ih0 _ _ _ _ _ _
      | exact ih1 _ _ _ _ _ _
      | exact ih2 _ _ _ _ _ _ _ _ _ _ _
      | exact ih3 _ _ _ _ _
      | exact ih4 _ _ _ _
      | exact impl_IsBruijn.mono _ _ _ _
      | exact impl_IsFullRegister.mono _ _ _
      | exact impl_RegisterWord.mono _ _ _
      | exact impl_WithZero.mono _ _ _ _
      | exact laws_tSame.mono _ _ _
      | exact spec_DrawRegisterWord.mono _ _
      | exact spec_RegisterWord.mono _ _ _
      | exact LeO.none _
      | refine LeO.ite ?_ ?_
      | refine LeO.bind ?_ (fun _ => ?_)
set_option maxHeartbeats 8000000 in
set_option maxRecDepth 100000 in
theorem laws_FnRegisters.calls (k : Nat) (A0 : Option Addr) (c0 : Nat) (l0 : List Int) (A1 : Option Addr) (c1 : Nat) (l1 : List Int) (r : Bool) (w : World) (hr0 : Kd.C (Kd.int .u8) w A0 l0.length l0) (hc0 : l0.length ≤ c0) (hr1 : Kd.C (Kd.int .u8) w A1 l1.length l1) (hc1 : l1.length ≤ c1) (h : laws_FnRegisters.f k l0 l1 = some r) :
    Calls Try.prog 12 #[.slice A0 l0.length c0, .slice A1 l1.length c1] w fun e w' => e = .returned (.bool r) ∧ Below w.heap.size w w' := by
  have HR0 := Aside0.mk hr0
  have HC0 := Aside0.mk hc0
  clear hr0 hc0
  have HR1 := Aside0.mk hr1
  have HC1 := Aside0.mk hc1
  clear hr1 hc1
  have HB := Aside0.mk (Below.refl w.heap.size w)
  have H : ((laws_big.f l0 l1).bind fun t286 => (if t286 = true then (some true) else ((spec_DrawRegisterWord.f k l0).bind fun bt287 => ((impl_RegisterWord.f k bt287.1 bt287.2).bind fun bt291 => ((spec_RegisterWord.f k bt287.1 bt287.2).bind fun bt295 => ((impl_IsFullRegister.f k bt287.1 bt287.2).bind fun bt299 => (if (bt291.2 != bt295.2) = true then (laws_FnRegisters.j0 k bt287.1 bt287.2 bt291.1 bt295.2 bt299.1 true) else ((laws_tSame.f k bt291.1 bt295.1).bind fun t301 => (if t301 = true then (laws_FnRegisters.j0 k bt287.1 bt287.2 bt291.1 bt295.2 bt299.1 (bt299.2 != bt291.2)) else (laws_FnRegisters.j0 k bt287.1 bt287.2 bt291.1 bt295.2 bt299.1 true)))))))))) = some r := h
  clear h
  replace H := Option.bind_eq_some_iff.mp H
  obtain ⟨t286, A30, H⟩ := H
  replace H : (if t286 = true then (some true) else ((spec_DrawRegisterWord.f k l0).bind fun bt287 => ((impl_RegisterWord.f k bt287.1 bt287.2).bind fun bt291 => ((spec_RegisterWord.f k bt287.1 bt287.2).bind fun bt295 => ((impl_IsFullRegister.f k bt287.1 bt287.2).bind fun bt299 => (if (bt291.2 != bt295.2) = true then (laws_FnRegisters.j0 k bt287.1 bt287.2 bt291.1 bt295.2 bt299.1 true) else ((laws_tSame.f k bt291.1 bt295.1).bind fun t301 => (if t301 = true then (laws_FnRegisters.j0 k bt287.1 bt287.2 bt291.1 bt295.2 bt299.1 (bt299.2 != bt291.2)) else (laws_FnRegisters.j0 k bt287.1 bt287.2 bt291.1 bt295.2 bt299.1 true))))))))) = some r := H
  have A3 := Aside0.mk A30
  clear A30
  by_cases c4 : t286 = true
  · subst c4
    have H1 : (some true) = some r := by rw [if_pos rfl] at H; exact H
    clear H
    have H := H1
    clear H1
    obtain rfl := Option.some.inj H
    go_enter Try.func12, Try.ntmps12
    go_wp2_with (first | ((with_reducible refine gate_callee (f := 33) rfl ?_); refine goesL_ (some 25) rfl rfl Try.func33 (by kernel_rfl) rfl #[.slice A0 l0.length c0, .slice A1 l1.length c1] rfl (by (try simp only [List.map_toArray, List.map_cons, List.map_nil]); first | done | rfl | (simp only [List.length_drop, List.length_take]; rfl)) ?_; (with_reducible refine (laws_big.calls _ _ l0 _ _ l1 true _ ?side1 ?side2 ?side3 ?side4 A3.out).mono ?_); (case side1 => repeat (first | exact HR0.out | (with_reducible refine Kd.C_alloc ?_ _) | (with_reducible refine Kd.C_drewN ?_ _) | (with_reducible refine Kd.C_drew ?_))); (case side2 => exact HC0.out); (case side3 => repeat (first | exact HR1.out | (with_reducible refine Kd.C_alloc ?_ _) | (with_reducible refine Kd.C_drewN ?_ _) | (with_reducible refine Kd.C_drew ?_))); (case side4 => exact HC1.out); rintro e w' ⟨rfl, ⟨nd, rfl⟩⟩; refine ⟨_, rfl, ?_⟩))
    go_ret
    exact ⟨by first | rfl | (simp [errW_none, errW_some] <;> rfl) | (simp [*, errW_none, errW_some] <;> rfl), by repeat (first | (with_reducible first | exact HB.out | apply below_alloc | apply pw_below_drewN | apply below_drew1) | exact HB.out)⟩
  · replace c4 := Bool.eq_false_iff.mpr c4
    subst c4
    have H1 : ((spec_DrawRegisterWord.f k l0).bind fun bt287 => ((impl_RegisterWord.f k bt287.1 bt287.2).bind fun bt291 => ((spec_RegisterWord.f k bt287.1 bt287.2).bind fun bt295 => ((impl_IsFullRegister.f k bt287.1 bt287.2).bind fun bt299 => (if (bt291.2 != bt295.2) = true then (laws_FnRegisters.j0 k bt287.1 bt287.2 bt291.1 bt295.2 bt299.1 true) else ((laws_tSame.f k bt291.1 bt295.1).bind fun t301 => (if t301 = true then (laws_FnRegisters.j0 k bt287.1 bt287.2 bt291.1 bt295.2 bt299.1 (bt299.2 != bt291.2)) else (laws_FnRegisters.j0 k bt287.1 bt287.2 bt291.1 bt295.2 bt299.1 true)))))))) = some r := by rw [if_neg (show ¬ (false = true) by decide)] at H; exact H
    clear H
    have H := H1
    clear H1
    replace H := Option.bind_eq_some_iff.mp H
    obtain ⟨⟨t287, t288⟩, A50, H⟩ := H
    replace H : ((impl_RegisterWord.f k t287 t288).bind fun bt291 => ((spec_RegisterWord.f k t287 t288).bind fun bt295 => ((impl_IsFullRegister.f k t287 t288).bind fun bt299 => (if (bt291.2 != bt295.2) = true then (laws_FnRegisters.j0 k t287 t288 bt291.1 bt295.2 bt299.1 true) else ((laws_tSame.f k bt291.1 bt295.1).bind fun t301 => (if t301 = true then (laws_FnRegisters.j0 k t287 t288 bt291.1 bt295.2 bt299.1 (bt299.2 != bt291.2)) else (laws_FnRegisters.j0 k t287 t288 bt291.1 bt295.2 bt299.1 true))))))) = some r := H
    have A5 := Aside0.mk A50
    clear A50
    replace H := Option.bind_eq_some_iff.mp H
    obtain ⟨⟨t291, t292⟩, A60, H⟩ := H
    replace H : ((spec_RegisterWord.f k t287 t288).bind fun bt295 => ((impl_IsFullRegister.f k t287 t288).bind fun bt299 => (if (t292 != bt295.2) = true then (laws_FnRegisters.j0 k t287 t288 t291 bt295.2 bt299.1 true) else ((laws_tSame.f k t291 bt295.1).bind fun t301 => (if t301 = true then (laws_FnRegisters.j0 k t287 t288 t291 bt295.2 bt299.1 (bt299.2 != t292)) else (laws_FnRegisters.j0 k t287 t288 t291 bt295.2 bt299.1 true)))))) = some r := H
    have A6 := Aside0.mk A60
    clear A60
    replace H := Option.bind_eq_some_iff.mp H
    obtain ⟨⟨t295, t296⟩, A70, H⟩ := H
    replace H : ((impl_IsFullRegister.f k t287 t288).bind fun bt299 => (if (t292 != t296) = true then (laws_FnRegisters.j0 k t287 t288 t291 t296 bt299.1 true) else ((laws_tSame.f k t291 t295).bind fun t301 => (if t301 = true then (laws_FnRegisters.j0 k t287 t288 t291 t296 bt299.1 (bt299.2 != t292)) else (laws_FnRegisters.j0 k t287 t288 t291 t296 bt299.1 true))))) = some r := H
    have A7 := Aside0.mk A70
    clear A70
    replace H := Option.bind_eq_some_iff.mp H
    obtain ⟨⟨t299, t300⟩, A80, H⟩ := H
    replace H : (if (t292 != t296) = true then (laws_FnRegisters.j0 k t287 t288 t291 t296 t299 true) else ((laws_tSame.f k t291 t295).bind fun t301 => (if t301 = true then (laws_FnRegisters.j0 k t287 t288 t291 t296 t299 (t300 != t292)) else (laws_FnRegisters.j0 k t287 t288 t291 t296 t299 true)))) = some r := H
    have A8 := Aside0.mk A80
    clear A80
    have HC9 := Aside0.mk H
    clear H
    go_enter Try.func12, Try.ntmps12
    go_upto_region 7 with (first | ((with_reducible refine gate_callee (f := 33) rfl ?_); refine goesL_ (some 25) rfl rfl Try.func33 (by kernel_rfl) rfl #[.slice A0 l0.length c0, .slice A1 l1.length c1] rfl (by (try simp only [List.map_toArray, List.map_cons, List.map_nil]); first | done | rfl | (simp only [List.length_drop, List.length_take]; rfl)) ?_; (with_reducible refine (laws_big.calls _ _ l0 _ _ l1 false _ ?side1 ?side2 ?side3 ?side4 A3.out).mono ?_); (case side1 => repeat (first | exact HR0.out | (with_reducible refine Kd.C_alloc ?_ _) | (with_reducible refine Kd.C_drewN ?_ _) | (with_reducible refine Kd.C_drew ?_))); (case side2 => exact HC0.out); (case side3 => repeat (first | exact HR1.out | (with_reducible refine Kd.C_alloc ?_ _) | (with_reducible refine Kd.C_drewN ?_ _) | (with_reducible refine Kd.C_drew ?_))); (case side4 => exact HC1.out); rintro e w' ⟨rfl, ⟨nd, rfl⟩⟩; refine ⟨_, rfl, ?_⟩) | ((with_reducible refine gate_callee (f := 60) rfl ?_); refine goesL_ (some 28) rfl rfl Try.func60 (by kernel_rfl) rfl #[.slice A0 l0.length c0] rfl (by (try simp only [List.map_toArray, List.map_cons, List.map_nil]); first | done | rfl | (simp only [List.length_drop, List.length_take]; rfl)) ?_; (with_reducible refine (spec_DrawRegisterWord.calls k _ _ l0 t287 t288 _ ?side1 ?side2 A5.out).mono ?_); (case side1 => repeat (first | exact HR0.out | (with_reducible refine Kd.C_alloc ?_ _) | (with_reducible refine Kd.C_drewN ?_ _) | (with_reducible refine Kd.C_drew ?_))); (case side2 => exact HC0.out); rintro e w10 ⟨v289, rfl, ho0, hb⟩; refine ⟨_, rfl, ?_⟩; have n0_ := Aside0.mk (Kd.Q_lower ho0 (below_size (by repeat (first | (with_reducible first | exact HB.out | apply below_alloc | apply pw_below_drewN | apply below_drew1) | exact HB.out)))); have n1_ := Aside0.mk (below_step (by repeat (first | (with_reducible first | exact HB.out | apply below_alloc | apply pw_below_drewN | apply below_drew1) | exact HB.out)) hb); clear HB; have HO290 := n0_; have HB := n1_; clear n0_ n1_; (try clear hb); (try clear hb2); (try clear hk); (try clear hi); (try clear ho0); obtain ⟨Ao11, co11, eo11, _⟩ := Kd.Q_slice HO290.out; subst eo11) | ((with_reducible refine gate_callee (f := 61) rfl ?_); refine goesL_ (some 34) rfl rfl Try.func61 (by kernel_rfl) rfl #[.slice Ao11 t287.length co11, .int .i64 t288] rfl (by (try simp only [List.map_toArray, List.map_cons, List.map_nil]); first | done | rfl | (simp only [List.length_drop, List.length_take]; rfl)) ?_; (with_reducible refine (impl_RegisterWord.calls k _ _ t287 t288 t291 t292 _ ?side1 ?side2 A6.out).mono ?_); (case side1 => repeat (first | exact (Kd.Q_reads' HO290.out).2.2 | (with_reducible refine Kd.C_alloc ?_ _) | (with_reducible refine Kd.C_drewN ?_ _) | (with_reducible refine Kd.C_drew ?_))); (case side2 => exact (Kd.Q_reads' HO290.out).2.1); rintro e w12 ⟨v293, rfl, ho0, hb⟩; refine ⟨_, rfl, ?_⟩; have n0_ := Aside0.mk (Kd.Q_elder' (by (with_reducible repeat (first | apply Kd.Q_alloc | apply Kd.Q_drewN | apply Kd.Q_drew)); exact HO290.out) (Kd.R_base ho0) hb); have n1_ := Aside0.mk (Kd.R_lower (Kd.R_new' ho0 (Kd.Q_lt (by (with_reducible repeat (first | apply Kd.Q_alloc | apply Kd.Q_drewN | apply Kd.Q_drew)); exact HO290.out))) (below_size (by repeat (first | (with_reducible first | exact HB.out | apply below_alloc | apply pw_below_drewN | apply below_drew1) | exact HB.out)))); have n2_ := Aside0.mk (below_step (by repeat (first | (with_reducible first | exact HB.out | apply below_alloc | apply pw_below_drewN | apply below_drew1) | exact HB.out)) hb); clear HO290; clear HB; have HO290 := n0_; have HO294 := n1_; have HB := n2_; clear n0_ n1_ n2_; (try clear hb); (try clear hb2); (try clear hk); (try clear hi); (try clear ho0)) | ((with_reducible refine gate_callee (f := 62) rfl ?_); refine goesL_ (some 40) rfl rfl Try.func62 (by kernel_rfl) rfl #[.slice Ao11 t287.length co11, .int .i64 t288] rfl (by (try simp only [List.map_toArray, List.map_cons, List.map_nil]); first | done | rfl | (simp only [List.length_drop, List.length_take]; rfl)) ?_; (with_reducible refine (spec_RegisterWord.calls k _ _ t287 t288 t295 t296 _ ?side1 ?side2 A7.out).mono ?_); (case side1 => repeat (first | exact (Kd.Q_reads' HO290.out).2.2 | (with_reducible refine Kd.C_alloc ?_ _) | (with_reducible refine Kd.C_drewN ?_ _) | (with_reducible refine Kd.C_drew ?_))); (case side2 => exact (Kd.Q_reads' HO290.out).2.1); rintro e w13 ⟨v297, rfl, ho0, hb⟩; refine ⟨_, rfl, ?_⟩; have n0_ := Aside0.mk (Kd.Q_elder' (by (with_reducible repeat (first | apply Kd.Q_alloc | apply Kd.Q_drewN | apply Kd.Q_drew)); exact HO290.out) (Kd.R_base ho0) hb); have n1_ := Aside0.mk (Kd.R_elder' (by (with_reducible repeat (first | apply Kd.R_alloc | apply Kd.R_drewN | apply Kd.R_drew)); exact HO294.out) (Kd.R_base ho0) hb); have n2_ := Aside0.mk (Kd.R_lower (Kd.R_new' (Kd.R_new' ho0 (Kd.Q_lt (by (with_reducible repeat (first | apply Kd.Q_alloc | apply Kd.Q_drewN | apply Kd.Q_drew)); exact HO290.out))) (Kd.R_lt (by (with_reducible repeat (first | apply Kd.R_alloc | apply Kd.R_drewN | apply Kd.R_drew)); exact HO294.out))) (below_size (by repeat (first | (with_reducible first | exact HB.out | apply below_alloc | apply pw_below_drewN | apply below_drew1) | exact HB.out)))); have n3_ := Aside0.mk (below_step (by repeat (first | (with_reducible first | exact HB.out | apply below_alloc | apply pw_below_drewN | apply below_drew1) | exact HB.out)) hb); clear HO290; clear HO294; clear HB; have HO290 := n0_; have HO294 := n1_; have HO298 := n2_; have HB := n3_; clear n0_ n1_ n2_ n3_; (try clear hb); (try clear hb2); (try clear hk); (try clear hi); (try clear ho0)) | ((with_reducible refine gate_callee (f := 63) rfl ?_); refine goesL_ (some 46) rfl rfl Try.func63 (by kernel_rfl) rfl #[.slice Ao11 t287.length co11, .int .i64 t288] rfl (by (try simp only [List.map_toArray, List.map_cons, List.map_nil]); first | done | rfl | (simp only [List.length_drop, List.length_take]; rfl)) ?_; (with_reducible refine (impl_IsFullRegister.calls k _ _ t287 t288 t299 t300 _ ?side1 ?side2 A8.out).mono ?_); (case side1 => repeat (first | exact (Kd.Q_reads' HO290.out).2.2 | (with_reducible refine Kd.C_alloc ?_ _) | (with_reducible refine Kd.C_drewN ?_ _) | (with_reducible refine Kd.C_drew ?_))); (case side2 => exact (Kd.Q_reads' HO290.out).2.1); rintro e w14 ⟨rfl, hb⟩; refine ⟨_, rfl, ?_⟩; have n0_ := Aside0.mk (Kd.Q_below (by (with_reducible repeat (first | apply Kd.Q_alloc | apply Kd.Q_drewN | apply Kd.Q_drew)); exact HO290.out) hb); have n1_ := Aside0.mk (Kd.R_below (by (with_reducible repeat (first | apply Kd.R_alloc | apply Kd.R_drewN | apply Kd.R_drew)); exact HO294.out) hb); have n2_ := Aside0.mk (Kd.R_below (by (with_reducible repeat (first | apply Kd.R_alloc | apply Kd.R_drewN | apply Kd.R_drew)); exact HO298.out) hb); have n3_ := Aside0.mk (below_step (by repeat (first | (with_reducible first | exact HB.out | apply below_alloc | apply pw_below_drewN | apply below_drew1) | exact HB.out)) hb); clear HO290; clear HO294; clear HO298; clear HB; have HO290 := n0_; have HO294 := n1_; have HO298 := n2_; have HB := n3_; clear n0_ n1_ n2_ n3_; (try clear hb); (try clear hb2); (try clear hk); (try clear hi)))
    (try simp only [Act.put, List.setIfInBounds_toArray, List.set_cons_zero, List.set_cons_succ])
    go_cut [62] (fun v62 wc => ∃ (kq : Nat) (x62_8 : Bool), v62 = .bool x62_8 ∧ Aside0 (laws_FnRegisters.j0 kq t287 t288 t291 t296 t299 x62_8 = some r) ∧ Aside0 (kq ≤ k) ∧ Aside0 (Kd.Q (Kd.int .i64) 3 wc w.heap.size (fun k_ => some k_ ≠ (v293 : Value).ownBlock) (.slice Ao11 t287.length co11) t287) ∧ Aside0 (Kd.R (Kd.int .i64) 3 wc w.heap.size (fun k_ => some k_ ≠ ((.slice Ao11 t287.length co11) : Value).ownBlock) v293 t291) ∧ Aside0 (Below w.heap.size w wc))
    case first =>
      have H := HC9.out
      clear HC9
      by_cases c15 : (t292 != t296) = true
      · rw [if_pos c15] at H
        have c15b0 : (t292 != t296) = true := c15
        (try (have c15b1 : decide (t292 = t296) = false := by simpa using c15))
        (try (have c15b2 : (t292 == t296) = false := by simpa using c15))
        (try (have c15b3 : ¬ (t292 = t296) := by simpa using c15))
        clear c15
        (first | rw [c15b0] | (simp only [i64_w, i32_w]; rw [c15b0]) | skip)
        have H' := Aside0.mk H
        clear H
        go_wp2
        go_meet
        case rel => exact ⟨_, (true), (by first | rfl | (simp; done) | (simp [*]; done)), H', ⟨by first | omega | exact Nat.le_refl _⟩, ⟨by (with_reducible repeat (first | apply Kd.Q_alloc | apply Kd.Q_drewN | apply Kd.Q_drew)); exact Kd.Q_mono HO290.out (fun _ hk => hk.1.2)⟩, ⟨by (with_reducible repeat (first | apply Kd.R_alloc | apply Kd.R_drewN | apply Kd.R_drew)); exact Kd.R_mono HO294.out (fun _ hk => hk.1.2)⟩, ⟨by repeat (first | (with_reducible first | exact HB.out | apply below_alloc | apply pw_below_drewN | apply below_drew1) | exact HB.out)⟩⟩
      · rw [if_neg c15] at H
        have c15b0 : (t292 != t296) = false := by simpa using c15
        (try (have c15b1 : decide (t292 = t296) = true := by simpa using c15))
        (try (have c15b2 : (t292 == t296) = true := by simpa using c15))
        clear c15
        (first | rw [c15b0] | (simp only [i64_w, i32_w]; rw [c15b0]) | skip)
        replace H := Option.bind_eq_some_iff.mp H
        obtain ⟨t301, A160, H⟩ := H
        replace H : (if t301 = true then (laws_FnRegisters.j0 k t287 t288 t291 t296 t299 (t300 != t292)) else (laws_FnRegisters.j0 k t287 t288 t291 t296 t299 true)) = some r := H
        have A16 := Aside0.mk A160
        clear A160
        by_cases c17 : t301 = true
        · subst c17
          have H1 : (laws_FnRegisters.j0 k t287 t288 t291 t296 t299 (t300 != t292)) = some r := by rw [if_pos rfl] at H; exact H
          clear H
          have H := H1
          clear H1
          have H' := Aside0.mk H
          clear H
          obtain ⟨Ao18, co18, eo18⟩ := Kd.R_slice HO294.out
          subst eo18
          obtain ⟨Ao19, co19, eo19⟩ := Kd.R_slice HO298.out
          subst eo19
          go_wp2_with (first | (go_at_call 48; (with_reducible refine (laws_tSame.calls k _ _ t291 _ _ t295 true _ ?side1 ?side2 ?side3 ?side4 A16.out).mono ?_); (case side1 => repeat (first | exact (Kd.R_reads' HO294.out).2.2 | (with_reducible refine Kd.C_alloc ?_ _) | (with_reducible refine Kd.C_drewN ?_ _) | (with_reducible refine Kd.C_drew ?_))); (case side2 => exact (Kd.R_reads' HO294.out).2.1); (case side3 => repeat (first | exact (Kd.R_reads' HO298.out).2.2 | (with_reducible refine Kd.C_alloc ?_ _) | (with_reducible refine Kd.C_drewN ?_ _) | (with_reducible refine Kd.C_drew ?_))); (case side4 => exact (Kd.R_reads' HO298.out).2.1); rintro e w' ⟨rfl, ⟨nd, rfl⟩⟩))
          go_meet
          case rel => exact ⟨_, ((t300 != t292)), (by first | rfl | (simp; done) | (simp [*]; done)), H', ⟨by first | omega | exact Nat.le_refl _⟩, ⟨by (with_reducible repeat (first | apply Kd.Q_alloc | apply Kd.Q_drewN | apply Kd.Q_drew)); exact Kd.Q_mono HO290.out (fun _ hk => hk.1.2)⟩, ⟨by (with_reducible repeat (first | apply Kd.R_alloc | apply Kd.R_drewN | apply Kd.R_drew)); exact Kd.R_mono HO294.out (fun _ hk => hk.1.2)⟩, ⟨by repeat (first | (with_reducible first | exact HB.out | apply below_alloc | apply pw_below_drewN | apply below_drew1) | exact HB.out)⟩⟩
        · replace c17 := Bool.eq_false_iff.mpr c17
          subst c17
          have H1 : (laws_FnRegisters.j0 k t287 t288 t291 t296 t299 true) = some r := by rw [if_neg (show ¬ (false = true) by decide)] at H; exact H
          clear H
          have H := H1
          clear H1
          have H' := Aside0.mk H
          clear H
          obtain ⟨Ao20, co20, eo20⟩ := Kd.R_slice HO294.out
          subst eo20
          obtain ⟨Ao21, co21, eo21⟩ := Kd.R_slice HO298.out
          subst eo21
          go_wp2_with (first | (go_at_call 48; (with_reducible refine (laws_tSame.calls k _ _ t291 _ _ t295 false _ ?side1 ?side2 ?side3 ?side4 A16.out).mono ?_); (case side1 => repeat (first | exact (Kd.R_reads' HO294.out).2.2 | (with_reducible refine Kd.C_alloc ?_ _) | (with_reducible refine Kd.C_drewN ?_ _) | (with_reducible refine Kd.C_drew ?_))); (case side2 => exact (Kd.R_reads' HO294.out).2.1); (case side3 => repeat (first | exact (Kd.R_reads' HO298.out).2.2 | (with_reducible refine Kd.C_alloc ?_ _) | (with_reducible refine Kd.C_drewN ?_ _) | (with_reducible refine Kd.C_drew ?_))); (case side4 => exact (Kd.R_reads' HO298.out).2.1); rintro e w' ⟨rfl, ⟨nd, rfl⟩⟩))
          go_meet
          case rel => exact ⟨_, (true), (by first | rfl | (simp; done) | (simp [*]; done)), H', ⟨by first | omega | exact Nat.le_refl _⟩, ⟨by (with_reducible repeat (first | apply Kd.Q_alloc | apply Kd.Q_drewN | apply Kd.Q_drew)); exact Kd.Q_mono HO290.out (fun _ hk => hk.1.2)⟩, ⟨by (with_reducible repeat (first | apply Kd.R_alloc | apply Kd.R_drewN | apply Kd.R_drew)); exact Kd.R_mono HO294.out (fun _ hk => hk.1.2)⟩, ⟨by repeat (first | (with_reducible first | exact HB.out | apply below_alloc | apply pw_below_drewN | apply below_drew1) | exact HB.out)⟩⟩
    case rest =>
      clear HC9
      try clear c1
      try clear p2
      try clear c3
      try clear c4
      try clear c6
      try clear c12
      try clear c15
      try clear c15b0
      try clear c15b1
      try clear c15b2
      try clear c17
      obtain ⟨kq, x62_8, rfl, HA, HJ8, HO_5, HO_7, HB⟩ := hcut
      cases kq with
      | zero => exact absurd HA.out (by simp [laws_FnRegisters.j0])
      | succ kj8 =>
        have H := HA.out
        clear HA
        simp only [laws_FnRegisters.j0] at H
        by_cases c22 : x62_8 = true
        · subst c22
          have H1 : (some false) = some r := by rw [if_pos rfl] at H; exact H
          clear H
          have H := H1
          clear H1
          obtain rfl := Option.some.inj H
          go_wp2
          go_ret
          exact ⟨by first | rfl | (simp [errW_none, errW_some] <;> rfl) | (simp [*, errW_none, errW_some] <;> rfl), by repeat (first | (with_reducible first | exact HB.out | apply below_alloc | apply pw_below_drewN | apply below_drew1) | exact HB.out)⟩
        · replace c22 := Bool.eq_false_iff.mpr c22
          subst c22
          have H1 : (if t296 = true then (laws_FnRegisters.l0 kj8 t287 t288 t291 t299 (t291.length : Int) 0) else (some true)) = some r := by rw [if_neg (show ¬ (false = true) by decide)] at H; exact H
          clear H
          have H := H1
          clear H1
          by_cases c23 : t296 = true
          · subst c23
            have H1 : (laws_FnRegisters.l0 kj8 t287 t288 t291 t299 (t291.length : Int) 0) = some r := by rw [if_pos rfl] at H; exact H
            clear H
            have H := H1
            clear H1
            have H' := Aside0.mk H
            clear H
            obtain ⟨Ao24, co24, eo24⟩ := Kd.R_slice HO_7.out
            subst eo24
            go_wp2
            go_loopg [67] kj8 (fun kq v67 w' => ∃ (x67_2 : Int), v67 = .int .i64 x67_2 ∧ Aside0 (laws_FnRegisters.l0 kq t287 t288 t291 t299 (t291.length : Int) x67_2 = some r) ∧ Aside0 (kq ≤ kj8) ∧ Aside0 (Kd.Q (Kd.int .i64) 3 w' w.heap.size (fun k_ => some k_ ≠ ((.slice Ao24 t291.length co24) : Value).ownBlock) (.slice Ao11 t287.length co11) t287) ∧ Aside0 (Kd.R (Kd.int .i64) 3 w' w.heap.size (fun k_ => some k_ ≠ ((.slice Ao11 t287.length co11) : Value).ownBlock) (.slice Ao24 t291.length co24) t291) ∧ Aside0 (Below w.heap.size w w'))
            case atStart => exact ⟨(0), (by first | rfl | (simp; done) | (simp [*]; done)), H', ⟨Nat.le_refl _⟩, ⟨by (with_reducible repeat (first | apply Kd.Q_alloc | apply Kd.Q_drewN | apply Kd.Q_drew)); exact HO_5.out⟩, ⟨by (with_reducible repeat (first | apply Kd.R_alloc | apply Kd.R_drewN | apply Kd.R_drew)); exact HO_7.out⟩, ⟨by repeat (first | (with_reducible first | exact HB.out | apply below_alloc | apply pw_below_drewN | apply below_drew1) | exact HB.out)⟩⟩
            case round =>
              clear H'
              try clear c1
              try clear c2
              try clear p2
              try clear c3
              try clear c4
              try clear c6
              try clear c12
              try clear c15
              try clear c15b0
              try clear c15b1
              try clear c15b2
              try clear c17
              try clear c22
              try clear c23
              try clear p2
              obtain ⟨x67_2, rfl, HA, HK2, HO_5, HO_7, HB⟩ := hrel
              cases gk with
              | zero => exact absurd HA.out (by simp [laws_FnRegisters.l0])
              | succ k2 =>
                have H := HA.out
                clear HA
                simp only [laws_FnRegisters.l0] at H
                by_cases c25 : x67_2 < (t291.length : Int)
                · rw [if_pos c25] at H
                  have c25b0 : decide (x67_2 < (t291.length : Int)) = true := decide_eq_true c25
                  clear c25
                  have H' := Aside0.mk H
                  clear H
                  go_wp2
                  go_loopg [14, 72] k2 (fun kq v14 v72 w' => ∃ (x14_3 : Int) (x72_3 : Int), v14 = .int .i64 x14_3 ∧ v72 = .int .i64 x72_3 ∧ Aside0 (laws_FnRegisters.l1 kq t287 t288 t291 t299 x67_2 x14_3 (t291.length : Int) x67_2 t287 (t287.length : Int) x72_3 = some r) ∧ Aside0 (kq ≤ k2) ∧ Aside0 (Kd.Q (Kd.int .i64) 3 w' w.heap.size (fun k_ => some k_ ≠ ((.slice Ao24 t291.length co24) : Value).ownBlock) (.slice Ao11 t287.length co11) t287) ∧ Aside0 (Kd.R (Kd.int .i64) 3 w' w.heap.size (fun k_ => some k_ ≠ ((.slice Ao11 t287.length co11) : Value).ownBlock ∧ some k_ ≠ ((.slice Ao11 t287.length co11) : Value).ownBlock) (.slice Ao24 t291.length co24) t291) ∧ Aside0 (Kd.Q (Kd.int .i64) 3 w' w.heap.size (fun k_ => some k_ ≠ ((.slice Ao24 t291.length co24) : Value).ownBlock) (.slice Ao11 t287.length co11) t287) ∧ Aside0 (Below w.heap.size w w'))
                  case atStart => exact ⟨(0), (0), (by first | rfl | (simp; done) | (simp [*]; done)), (by first | rfl | (simp; done) | (simp [*]; done)), H', ⟨Nat.le_refl _⟩, ⟨by (with_reducible repeat (first | apply Kd.Q_alloc | apply Kd.Q_drewN | apply Kd.Q_drew)); exact HO_5.out⟩, ⟨by (with_reducible repeat (first | apply Kd.R_alloc | apply Kd.R_drewN | apply Kd.R_drew)); exact Kd.R_mono HO_7.out (fun _ hk => ⟨hk, hk⟩)⟩, ⟨by (with_reducible repeat (first | apply Kd.Q_alloc | apply Kd.Q_drewN | apply Kd.Q_drew)); exact HO_5.out⟩, ⟨by repeat (first | (with_reducible first | exact HB.out | apply below_alloc | apply pw_below_drewN | apply below_drew1) | exact HB.out)⟩⟩
                  case round =>
                    clear H'
                    try clear c1
                    try clear c2
                    try clear p2
                    try clear c3
                    try clear c4
                    try clear c6
                    try clear c12
                    try clear c15
                    try clear c15b0
                    try clear c15b1
                    try clear c15b2
                    try clear c17
                    try clear c22
                    try clear c23
                    try clear c25
                    try clear c25b0
                    try clear p2
                    obtain ⟨x14_3, x72_3, rfl, rfl, HA, HK3, HO_5, HO_7, HO_70, HB⟩ := hrel
                    cases gk with
                    | zero => exact absurd HA.out (by simp [laws_FnRegisters.l1])
                    | succ k3 =>
                      have H := HA.out
                      clear HA
                      simp only [laws_FnRegisters.l1] at H
                      by_cases c26 : x72_3 < (t287.length : Int)
                      · rw [if_pos c26] at H
                        have c26b0 : decide (x72_3 < (t287.length : Int)) = true := decide_eq_true c26
                        clear c26
                        by_cases c27 : 0 ≤ x72_3
                        · rw [if_pos c27] at H
                          have c27b0 : decide (0 ≤ x72_3) = true := decide_eq_true c27
                          clear c27
                          by_cases c28 : x72_3 < (t287.length : Int)
                          · rw [if_pos c28] at H
                            have c28b0 : decide (x72_3 < (t287.length : Int)) = true := decide_eq_true c28
                            clear c28
                            by_cases c29 : (t291.length : Int) = 0
                            · rw [if_pos c29] at H
                              exact absurd H (by simp)
                            · rw [if_neg c29] at H
                              have c29b0 : ((t291.length : Int) == 0) = false := beq_eq_false_iff_ne.mpr c29
                              have c29b1 : ((t291.length : Int) != 0) = true := bne_iff_ne.mpr c29
                              have c29b2 : ¬ (t291 = []) := fun h_ => c29 (by rw [h_]; rfl)
                              obtain ⟨ji30, hji30⟩ : ∃ j_ : Int, (Int.tmod (wrap64 (x67_2 + (rd t287 x72_3))) (t291.length : Int)) = j_ := ⟨_, rfl⟩
                              replace H : (if 0 ≤ (ji30) then (if (ji30) < (t291.length : Int) then (laws_FnRegisters.l1 k3 t287 t288 t291 t299 x67_2 (wrap64 (x14_3 + (rd t291 (ji30)))) (t291.length : Int) x67_2 t287 (t287.length : Int) (wrap64 (x72_3 + 1))) else (none)) else (none)) = some r := by first | (rw [hji30] at H; exact H) | (simp only [hji30] at H ⊢; exact H)
                              by_cases c31 : 0 ≤ (ji30)
                              · rw [if_pos c31] at H
                                have c31b0 : decide (0 ≤ (ji30)) = true := decide_eq_true c31
                                clear c31
                                by_cases c32 : (ji30) < (t291.length : Int)
                                · rw [if_pos c32] at H
                                  have c32b0 : decide ((ji30) < (t291.length : Int)) = true := decide_eq_true c32
                                  clear c32
                                  have H' := Aside0.mk H
                                  clear H
                                  have p302 : 0 ≤ (x72_3 : Int) := of_decide_eq_true (by first | (with_reducible assumption) | assumption)
                                  have q302 : x72_3 < (t287.length : Int) := of_decide_eq_true (by first | (with_reducible assumption) | assumption)
                                  obtain ⟨ad302, e302, hx302_0⟩ := Kd.at_int (Kd.Q_reads' HO_70.out).2.2 x72_3 p302 q302
                                  cases e302
                                  replace p302 := eq_true p302
                                  replace q302 := eq_true q302
                                  have p303 : 0 ≤ ((ji30) : Int) := of_decide_eq_true (by first | (with_reducible assumption) | assumption)
                                  have q303 : (ji30) < (t291.length : Int) := of_decide_eq_true (by first | (with_reducible assumption) | assumption)
                                  obtain ⟨ad303, e303, hx303_0⟩ := Kd.at_int (Kd.R_reads' HO_7.out).2.2 (ji30) p303 q303
                                  cases e303
                                  replace p303 := eq_true p303
                                  replace q303 := eq_true q303
                                  go_wp2
                                  go_roundg k3
                                  case measure => have := HJ8.out; have := HK2.out; have := HK3.out; omega
                                  case rel => exact ⟨(wrap64 (x14_3 + (rd t291 (ji30)))), (wrap64 (x72_3 + 1)), (by first | rfl | (simp; done) | (simp only [← hji30] <;> (first | rfl | simp)) | (simp [*]; done)), (by first | rfl | (simp; done) | (simp [*]; done)), H', ⟨by have := HJ8.out; have := HK2.out; have := HK3.out; omega⟩, ⟨by (with_reducible repeat (first | apply Kd.Q_alloc | apply Kd.Q_drewN | apply Kd.Q_drew)); exact HO_5.out⟩, ⟨by (with_reducible repeat (first | apply Kd.R_alloc | apply Kd.R_drewN | apply Kd.R_drew)); exact HO_7.out⟩, ⟨by (with_reducible repeat (first | apply Kd.Q_alloc | apply Kd.Q_drewN | apply Kd.Q_drew)); exact HO_70.out⟩, ⟨by repeat (first | (with_reducible first | exact HB.out | apply below_alloc | apply pw_below_drewN | apply below_drew1) | exact HB.out)⟩⟩
                                · rw [if_neg c32] at H
                                  exact absurd H (by simp)
                              · rw [if_neg c31] at H
                                exact absurd H (by simp)
                          · rw [if_neg c28] at H
                            exact absurd H (by simp)
                        · rw [if_neg c27] at H
                          exact absurd H (by simp)
                      · rw [if_neg c26] at H
                        have c26b0 : decide (x72_3 < (t287.length : Int)) = false := decide_eq_false c26
                        clear c26
                        by_cases c33 : (t291.length : Int) = 0
                        · rw [if_pos c33] at H
                          exact absurd H (by simp)
                        · rw [if_neg c33] at H
                          have c33b0 : ((t291.length : Int) == 0) = false := beq_eq_false_iff_ne.mpr c33
                          have c33b1 : ((t291.length : Int) != 0) = true := bne_iff_ne.mpr c33
                          have c33b2 : ¬ (t291 = []) := fun h_ => c33 (by rw [h_]; rfl)
                          obtain ⟨ji34, hji34⟩ : ∃ j_ : Int, (Int.tmod (wrap64 (x67_2 + t288)) (t291.length : Int)) = j_ := ⟨_, rfl⟩
                          replace H : (if 0 ≤ (ji34) then (if (ji34) < (t291.length : Int) then (if (rd t291 (ji34)) = (Int.tmod x14_3 2) then (laws_FnRegisters.l0 k3 t287 t288 t291 t299 (t291.length : Int) (wrap64 (x67_2 + 1))) else (some false)) else (none)) else (none)) = some r := by first | (rw [hji34] at H; exact H) | (simp only [hji34] at H ⊢; exact H)
                          by_cases c35 : 0 ≤ (ji34)
                          · rw [if_pos c35] at H
                            have c35b0 : decide (0 ≤ (ji34)) = true := decide_eq_true c35
                            clear c35
                            by_cases c36 : (ji34) < (t291.length : Int)
                            · rw [if_pos c36] at H
                              have c36b0 : decide ((ji34) < (t291.length : Int)) = true := decide_eq_true c36
                              clear c36
                              by_cases c37 : (rd t291 (ji34)) = (Int.tmod x14_3 2)
                              · rw [if_pos c37] at H
                                have c37b0 : ((rd t291 (ji34)) == (Int.tmod x14_3 2)) = true := beq_iff_eq.mpr c37
                                have c37b1 : ((rd t291 (ji34)) != (Int.tmod x14_3 2)) = false := bne_eq_false_iff_eq.mpr c37
                                clear c37
                                have H' := Aside0.mk H
                                clear H
                                have p304 : 0 ≤ ((ji34) : Int) := of_decide_eq_true (by first | (with_reducible assumption) | assumption)
                                have q304 : (ji34) < (t291.length : Int) := of_decide_eq_true (by first | (with_reducible assumption) | assumption)
                                obtain ⟨ad304, e304, hx304_0⟩ := Kd.at_int (Kd.R_reads' HO_7.out).2.2 (ji34) p304 q304
                                cases e304
                                replace p304 := eq_true p304
                                replace q304 := eq_true q304
                                go_wp2
                                go_roundg k3
                                case measure => have := HJ8.out; have := HK2.out; have := HK3.out; omega
                                case rel => exact ⟨(wrap64 (x67_2 + 1)), (by first | rfl | (simp; done) | (simp [*]; done)), H', ⟨by have := HJ8.out; have := HK2.out; have := HK3.out; omega⟩, ⟨by (with_reducible repeat (first | apply Kd.Q_alloc | apply Kd.Q_drewN | apply Kd.Q_drew)); exact HO_5.out⟩, ⟨by (with_reducible repeat (first | apply Kd.R_alloc | apply Kd.R_drewN | apply Kd.R_drew)); exact Kd.R_mono HO_7.out (fun _ hk => hk.1)⟩, ⟨by repeat (first | (with_reducible first | exact HB.out | apply below_alloc | apply pw_below_drewN | apply below_drew1) | exact HB.out)⟩⟩
                              · rw [if_neg c37] at H
                                have c37b0 : ((rd t291 (ji34)) == (Int.tmod x14_3 2)) = false := beq_eq_false_iff_ne.mpr c37
                                have c37b1 : ((rd t291 (ji34)) != (Int.tmod x14_3 2)) = true := bne_iff_ne.mpr c37
                                obtain rfl := Option.some.inj H
                                have p304 : 0 ≤ ((ji34) : Int) := of_decide_eq_true (by first | (with_reducible assumption) | assumption)
                                have q304 : (ji34) < (t291.length : Int) := of_decide_eq_true (by first | (with_reducible assumption) | assumption)
                                obtain ⟨ad304, e304, hx304_0⟩ := Kd.at_int (Kd.R_reads' HO_7.out).2.2 (ji34) p304 q304
                                cases e304
                                replace p304 := eq_true p304
                                replace q304 := eq_true q304
                                go_wp2
                                go_ret
                                exact ⟨by first | rfl | (simp [errW_none, errW_some] <;> rfl) | (simp only [← hji34]; first | rfl | (simp [errW_none, errW_some] <;> rfl)) | (simp [*, errW_none, errW_some] <;> rfl), by repeat (first | (with_reducible first | exact HB.out | apply below_alloc | apply pw_below_drewN | apply below_drew1) | exact HB.out)⟩
                            · rw [if_neg c36] at H
                              exact absurd H (by simp)
                          · rw [if_neg c35] at H
                            exact absurd H (by simp)
                · rw [if_neg c25] at H
                  have c25b0 : decide (x67_2 < (t291.length : Int)) = false := decide_eq_false c25
                  clear c25
                  have H' := Aside0.mk H
                  clear H
                  go_wp2
                  go_loopg [17, 18] k2 (fun kq v17 v18 w' => ∃ (x17_3 : Int) (x18_3 : Int), v17 = .int .i64 x17_3 ∧ v18 = .int .i64 x18_3 ∧ Aside0 (laws_FnRegisters.l2 kq t288 t291 t299 x17_3 x18_3 = some r) ∧ Aside0 (kq ≤ k2) ∧ Aside0 (Kd.R (Kd.int .i64) 3 w' w.heap.size (fun _ => True) (.slice Ao24 t291.length co24) t291) ∧ Aside0 (Below w.heap.size w w'))
                  case atStart => exact ⟨(1), (0), (by first | rfl | (simp; done) | (simp [*]; done)), (by first | rfl | (simp; done) | (simp [*]; done)), H', ⟨Nat.le_refl _⟩, ⟨by (with_reducible repeat (first | apply Kd.R_alloc | apply Kd.R_drewN | apply Kd.R_drew)); exact Kd.R_mono HO_7.out (fun _ hk => trivial)⟩, ⟨by repeat (first | (with_reducible first | exact HB.out | apply below_alloc | apply pw_below_drewN | apply below_drew1) | exact HB.out)⟩⟩
                  case round =>
                    clear H'
                    try clear c1
                    try clear c2
                    try clear p2
                    try clear c3
                    try clear p3
                    try clear q3
                    try clear hx3
                    try clear c4
                    try clear c6
                    try clear p6
                    try clear c12
                    try clear c15
                    try clear c15b0
                    try clear c15b1
                    try clear c15b2
                    try clear c17
                    try clear c22
                    try clear c23
                    try clear c25
                    try clear c25b0
                    try clear c26
                    try clear c26b0
                    try clear c27
                    try clear c27b0
                    try clear c28
                    try clear c28b0
                    try clear c29
                    try clear c29b0
                    try clear c29b1
                    try clear c29b2
                    try clear p30
                    try clear q30
                    try clear hx30
                    try clear c31
                    try clear c31b0
                    try clear c32
                    try clear c32b0
                    try clear c33
                    try clear c33b0
                    try clear c33b1
                    try clear c33b2
                    try clear c35
                    try clear c35b0
                    try clear c36
                    try clear c36b0
                    try clear c37
                    try clear c37b0
                    try clear c37b1
                    try clear hx302_0
                    try clear hx303_0
                    try clear hx304_0
                    try clear p2
                    try clear p302
                    try clear p303
                    try clear p304
                    try clear q302
                    try clear q303
                    try clear q304
                    obtain ⟨x17_3, x18_3, rfl, rfl, HA, HK3, HO_7, HB⟩ := hrel
                    cases gk with
                    | zero => exact absurd HA.out (by simp [laws_FnRegisters.l2])
                    | succ k3 =>
                      have H := HA.out
                      clear HA
                      simp only [laws_FnRegisters.l2] at H
                      by_cases c38 : x18_3 < t288
                      · rw [if_pos c38] at H
                        have c38b0 : decide (x18_3 < t288) = true := decide_eq_true c38
                        clear c38
                        have H' := Aside0.mk H
                        clear H
                        go_wp2
                        go_roundg k3
                        case measure => have := HJ8.out; have := HK2.out; have := HK3.out; omega
                        case rel => exact ⟨(wrap64 (x17_3 * 2)), (wrap64 (x18_3 + 1)), (by first | rfl | (simp; done) | (simp [*]; done)), (by first | rfl | (simp; done) | (simp [*]; done)), H', ⟨by have := HJ8.out; have := HK2.out; have := HK3.out; omega⟩, ⟨by (with_reducible repeat (first | apply Kd.R_alloc | apply Kd.R_drewN | apply Kd.R_drew)); exact HO_7.out⟩, ⟨by repeat (first | (with_reducible first | exact HB.out | apply below_alloc | apply pw_below_drewN | apply below_drew1) | exact HB.out)⟩⟩
                      · rw [if_neg c38] at H
                        have c38b0 : decide (x18_3 < t288) = false := decide_eq_false c38
                        clear c38
                        have HC39 := Aside0.mk H
                        clear H
                        go_upto_region 28 with (fail)
                        go_cut [121] (fun v121 wc => ∃ (kq : Nat) (x121_38 : Bool), v121 = .bool x121_38 ∧ Aside0 (laws_FnRegisters.j4 kq t288 t291 t299 x121_38 = some r) ∧ Aside0 (kq ≤ k3) ∧ Aside0 (Kd.R (Kd.int .i64) 3 wc w.heap.size (fun _ => True) (.slice Ao24 t291.length co24) t291) ∧ Aside0 (Below w.heap.size w wc))
                        case first =>
                          have H := HC39.out
                          clear HC39
                          by_cases c40 : (t299 != ((t291.length : Int) == (wrap64 (x17_3 - 1)))) = true
                          · rw [if_pos c40] at H
                            have c40b0 : (t299 != ((t291.length : Int) == (wrap64 (x17_3 - 1)))) = true := c40
                            (try (have c40b1 : decide (t299 = ((t291.length : Int) == (wrap64 (x17_3 - 1)))) = false := by simpa using c40))
                            (try (have c40b2 : (t299 == ((t291.length : Int) == (wrap64 (x17_3 - 1)))) = false := by simpa using c40))
                            (try (have c40b3 : ¬ (t299 = ((t291.length : Int) == (wrap64 (x17_3 - 1)))) := by simpa using c40))
                            clear c40
                            (first | rw [c40b0] | (simp only [i64_w, i32_w]; rw [c40b0]) | skip)
                            have H' := Aside0.mk H
                            clear H
                            go_wp2
                            go_meet
                            case rel => exact ⟨_, (true), (by first | rfl | (simp; done) | (simp [*]; done)), H', ⟨by have := HJ8.out; have := HK2.out; have := HK3.out; first | omega | exact Nat.le_refl _⟩, ⟨by (with_reducible repeat (first | apply Kd.R_alloc | apply Kd.R_drewN | apply Kd.R_drew)); exact HO_7.out⟩, ⟨by repeat (first | (with_reducible first | exact HB.out | apply below_alloc | apply pw_below_drewN | apply below_drew1) | exact HB.out)⟩⟩
                          · rw [if_neg c40] at H
                            have c40b0 : (t299 != ((t291.length : Int) == (wrap64 (x17_3 - 1)))) = false := by simpa using c40
                            (try (have c40b1 : decide (t299 = ((t291.length : Int) == (wrap64 (x17_3 - 1)))) = true := by simpa using c40))
                            (try (have c40b2 : (t299 == ((t291.length : Int) == (wrap64 (x17_3 - 1)))) = true := by simpa using c40))
                            clear c40
                            (first | rw [c40b0] | (simp only [i64_w, i32_w]; rw [c40b0]) | skip)
                            have H' := Aside0.mk H
                            clear H
                            go_wp2
                            go_meet
                            case rel => exact ⟨_, (decide ((t291.length : Int) > (wrap64 (x17_3 - 1)))), (by first | rfl | (simp; done) | (simp [*]; done)), H', ⟨by have := HJ8.out; have := HK2.out; have := HK3.out; first | omega | exact Nat.le_refl _⟩, ⟨by (with_reducible repeat (first | apply Kd.R_alloc | apply Kd.R_drewN | apply Kd.R_drew)); exact HO_7.out⟩, ⟨by repeat (first | (with_reducible first | exact HB.out | apply below_alloc | apply pw_below_drewN | apply below_drew1) | exact HB.out)⟩⟩
                        case rest =>
                          clear HC39
                          try clear c1
                          try clear c2
                          try clear p2
                          try clear c3
                          try clear p3
                          try clear q3
                          try clear hx3
                          try clear c4
                          try clear c6
                          try clear p6
                          try clear c12
                          try clear c15
                          try clear c15b0
                          try clear c15b1
                          try clear c15b2
                          try clear c17
                          try clear c22
                          try clear c23
                          try clear c25
                          try clear c25b0
                          try clear c26
                          try clear c26b0
                          try clear c27
                          try clear c27b0
                          try clear c28
                          try clear c28b0
                          try clear c29
                          try clear c29b0
                          try clear c29b1
                          try clear c29b2
                          try clear p30
                          try clear q30
                          try clear hx30
                          try clear c31
                          try clear c31b0
                          try clear c32
                          try clear c32b0
                          try clear c33
                          try clear c33b0
                          try clear c33b1
                          try clear c33b2
                          try clear c35
                          try clear c35b0
                          try clear c36
                          try clear c36b0
                          try clear c37
                          try clear c37b0
                          try clear c37b1
                          try clear c38
                          try clear c38b0
                          try clear c40
                          try clear c40b0
                          try clear c40b1
                          try clear c40b2
                          try clear hx302_0
                          try clear hx303_0
                          try clear hx304_0
                          try clear p2
                          try clear p3
                          try clear p30
                          try clear p302
                          try clear p303
                          try clear p304
                          try clear p6
                          try clear q3
                          try clear q30
                          try clear q302
                          try clear q303
                          try clear q304
                          obtain ⟨kq, x121_38, rfl, HA, HJ38, HO_7, HB⟩ := hcut
                          cases kq with
                          | zero => exact absurd HA.out (by simp [laws_FnRegisters.j4])
                          | succ kj38 =>
                            have H := HA.out
                            clear HA
                            simp only [laws_FnRegisters.j4] at H
                            by_cases c41 : x121_38 = true
                            · subst c41
                              have H1 : (some false) = some r := by rw [if_pos rfl] at H; exact H
                              clear H
                              have H := H1
                              clear H1
                              obtain rfl := Option.some.inj H
                              go_wp2
                              go_ret
                              exact ⟨by first | rfl | (simp [errW_none, errW_some] <;> rfl) | (simp [*, errW_none, errW_some] <;> rfl), by repeat (first | (with_reducible first | exact HB.out | apply below_alloc | apply pw_below_drewN | apply below_drew1) | exact HB.out)⟩
                            · replace c41 := Bool.eq_false_iff.mpr c41
                              subst c41
                              have H1 : (if t299 = true then ((impl_WithZero.f kj38 t291 t288 2).bind fun bt305 => ((impl_IsBruijn.f kj38 bt305.1 t288 2).bind fun bt309 => (if bt305.2 = true then (if bt309.2 = true then (some bt309.1) else (some false)) else (some false)))) else (some true)) = some r := by rw [if_neg (show ¬ (false = true) by decide)] at H; exact H
                              clear H
                              have H := H1
                              clear H1
                              by_cases c42 : t299 = true
                              · subst c42
                                have H1 : ((impl_WithZero.f kj38 t291 t288 2).bind fun bt305 => ((impl_IsBruijn.f kj38 bt305.1 t288 2).bind fun bt309 => (if bt305.2 = true then (if bt309.2 = true then (some bt309.1) else (some false)) else (some false)))) = some r := by rw [if_pos rfl] at H; exact H
                                clear H
                                have H := H1
                                clear H1
                                replace H := Option.bind_eq_some_iff.mp H
                                obtain ⟨⟨t305, t306⟩, A430, H⟩ := H
                                replace H : ((impl_IsBruijn.f kj38 t305 t288 2).bind fun bt309 => (if t306 = true then (if bt309.2 = true then (some bt309.1) else (some false)) else (some false))) = some r := H
                                have A43 := Aside0.mk A430
                                clear A430
                                replace H := Option.bind_eq_some_iff.mp H
                                obtain ⟨⟨t309, t310⟩, A440, H⟩ := H
                                replace H : (if t306 = true then (if t310 = true then (some t309) else (some false)) else (some false)) = some r := H
                                have A44 := Aside0.mk A440
                                clear A440
                                by_cases c45 : t306 = true
                                · subst c45
                                  have H1 : (if t310 = true then (some t309) else (some false)) = some r := by rw [if_pos rfl] at H; exact H
                                  clear H
                                  have H := H1
                                  clear H1
                                  by_cases c46 : t310 = true
                                  · subst c46
                                    have H1 : (some t309) = some r := by rw [if_pos rfl] at H; exact H
                                    clear H
                                    have H := H1
                                    clear H1
                                    obtain rfl := Option.some.inj H
                                    go_wp2_with (first | ((with_reducible refine gate_callee (f := 32) rfl ?_); refine goesL_ (some 127) rfl rfl Try.func32 (by kernel_rfl) rfl #[.slice Ao24 t291.length co24, .int .i64 t288, .int .i64 2] rfl (by (try simp only [List.map_toArray, List.map_cons, List.map_nil]); first | done | rfl | (simp only [List.length_drop, List.length_take]; rfl)) ?_; (with_reducible refine (impl_WithZero.calls kj38 _ _ t291 t288 2 t305 true _ ?side1 ?side2 A43.out).mono ?_); (case side1 => repeat (first | exact (Kd.R_reads' HO_7.out).2.2 | (with_reducible refine Kd.C_alloc ?_ _) | (with_reducible refine Kd.C_drewN ?_ _) | (with_reducible refine Kd.C_drew ?_))); (case side2 => exact (Kd.R_reads' HO_7.out).2.1); rintro e w47 ⟨v307, rfl, ho0, hb⟩; refine ⟨_, rfl, ?_⟩; have n0_ := Aside0.mk (Kd.R_elder' (by (with_reducible repeat (first | apply Kd.R_alloc | apply Kd.R_drewN | apply Kd.R_drew)); exact HO_7.out) (Kd.R_base ho0) hb); have n1_ := Aside0.mk (Kd.R_lower (Kd.R_new' ho0 (Kd.R_lt (by (with_reducible repeat (first | apply Kd.R_alloc | apply Kd.R_drewN | apply Kd.R_drew)); exact HO_7.out))) (below_size (by repeat (first | (with_reducible first | exact HB.out | apply below_alloc | apply pw_below_drewN | apply below_drew1) | exact HB.out)))); have n2_ := Aside0.mk (below_step (by repeat (first | (with_reducible first | exact HB.out | apply below_alloc | apply pw_below_drewN | apply below_drew1) | exact HB.out)) hb); clear HO_7; clear HB; have HO_7 := n0_; have HO308 := n1_; have HB := n2_; clear n0_ n1_ n2_; (try clear hb); (try clear hb2); (try clear hk); (try clear hi); (try clear ho0); obtain ⟨Ao48, co48, eo48⟩ := Kd.R_slice HO308.out; subst eo48) | ((with_reducible refine gate_callee (f := 49) rfl ?_); refine goesL_ (some 133) rfl rfl Try.func49 (by kernel_rfl) rfl #[.slice Ao48 t305.length co48, .int .i64 t288, .int .i64 2] rfl (by (try simp only [List.map_toArray, List.map_cons, List.map_nil]); first | done | rfl | (simp only [List.length_drop, List.length_take]; rfl)) ?_; (with_reducible refine (impl_IsBruijn.calls kj38 _ _ t305 t288 2 t309 true _ ?side1 ?side2 A44.out).mono ?_); (case side1 => repeat (first | exact (Kd.R_reads' HO308.out).2.2 | (with_reducible refine Kd.C_alloc ?_ _) | (with_reducible refine Kd.C_drewN ?_ _) | (with_reducible refine Kd.C_drew ?_))); (case side2 => exact (Kd.R_reads' HO308.out).2.1); rintro e w49 ⟨rfl, hb⟩; refine ⟨_, rfl, ?_⟩; have n0_ := Aside0.mk (Kd.R_below (by (with_reducible repeat (first | apply Kd.R_alloc | apply Kd.R_drewN | apply Kd.R_drew)); exact HO_7.out) hb); have n1_ := Aside0.mk (Kd.R_below (by (with_reducible repeat (first | apply Kd.R_alloc | apply Kd.R_drewN | apply Kd.R_drew)); exact HO308.out) hb); have n2_ := Aside0.mk (below_step (by repeat (first | (with_reducible first | exact HB.out | apply below_alloc | apply pw_below_drewN | apply below_drew1) | exact HB.out)) hb); clear HO_7; clear HO308; clear HB; have HO_7 := n0_; have HO308 := n1_; have HB := n2_; clear n0_ n1_ n2_; (try clear hb); (try clear hb2); (try clear hk); (try clear hi)))
                                    go_ret
                                    exact ⟨by first | rfl | (simp [errW_none, errW_some] <;> rfl) | (simp [*, errW_none, errW_some] <;> rfl), by repeat (first | (with_reducible first | exact HB.out | apply below_alloc | apply pw_below_drewN | apply below_drew1) | exact HB.out)⟩
                                  · replace c46 := Bool.eq_false_iff.mpr c46
                                    subst c46
                                    have H1 : (some false) = some r := by rw [if_neg (show ¬ (false = true) by decide)] at H; exact H
                                    clear H
                                    have H := H1
                                    clear H1
                                    obtain rfl := Option.some.inj H
                                    go_wp2_with (first | ((with_reducible refine gate_callee (f := 32) rfl ?_); refine goesL_ (some 127) rfl rfl Try.func32 (by kernel_rfl) rfl #[.slice Ao24 t291.length co24, .int .i64 t288, .int .i64 2] rfl (by (try simp only [List.map_toArray, List.map_cons, List.map_nil]); first | done | rfl | (simp only [List.length_drop, List.length_take]; rfl)) ?_; (with_reducible refine (impl_WithZero.calls kj38 _ _ t291 t288 2 t305 true _ ?side1 ?side2 A43.out).mono ?_); (case side1 => repeat (first | exact (Kd.R_reads' HO_7.out).2.2 | (with_reducible refine Kd.C_alloc ?_ _) | (with_reducible refine Kd.C_drewN ?_ _) | (with_reducible refine Kd.C_drew ?_))); (case side2 => exact (Kd.R_reads' HO_7.out).2.1); rintro e w50 ⟨v307, rfl, ho0, hb⟩; refine ⟨_, rfl, ?_⟩; have n0_ := Aside0.mk (Kd.R_elder' (by (with_reducible repeat (first | apply Kd.R_alloc | apply Kd.R_drewN | apply Kd.R_drew)); exact HO_7.out) (Kd.R_base ho0) hb); have n1_ := Aside0.mk (Kd.R_lower (Kd.R_new' ho0 (Kd.R_lt (by (with_reducible repeat (first | apply Kd.R_alloc | apply Kd.R_drewN | apply Kd.R_drew)); exact HO_7.out))) (below_size (by repeat (first | (with_reducible first | exact HB.out | apply below_alloc | apply pw_below_drewN | apply below_drew1) | exact HB.out)))); have n2_ := Aside0.mk (below_step (by repeat (first | (with_reducible first | exact HB.out | apply below_alloc | apply pw_below_drewN | apply below_drew1) | exact HB.out)) hb); clear HO_7; clear HB; have HO_7 := n0_; have HO308 := n1_; have HB := n2_; clear n0_ n1_ n2_; (try clear hb); (try clear hb2); (try clear hk); (try clear hi); (try clear ho0); obtain ⟨Ao51, co51, eo51⟩ := Kd.R_slice HO308.out; subst eo51) | ((with_reducible refine gate_callee (f := 49) rfl ?_); refine goesL_ (some 133) rfl rfl Try.func49 (by kernel_rfl) rfl #[.slice Ao51 t305.length co51, .int .i64 t288, .int .i64 2] rfl (by (try simp only [List.map_toArray, List.map_cons, List.map_nil]); first | done | rfl | (simp only [List.length_drop, List.length_take]; rfl)) ?_; (with_reducible refine (impl_IsBruijn.calls kj38 _ _ t305 t288 2 t309 false _ ?side1 ?side2 A44.out).mono ?_); (case side1 => repeat (first | exact (Kd.R_reads' HO308.out).2.2 | (with_reducible refine Kd.C_alloc ?_ _) | (with_reducible refine Kd.C_drewN ?_ _) | (with_reducible refine Kd.C_drew ?_))); (case side2 => exact (Kd.R_reads' HO308.out).2.1); rintro e w52 ⟨rfl, hb⟩; refine ⟨_, rfl, ?_⟩; have n0_ := Aside0.mk (Kd.R_below (by (with_reducible repeat (first | apply Kd.R_alloc | apply Kd.R_drewN | apply Kd.R_drew)); exact HO_7.out) hb); have n1_ := Aside0.mk (Kd.R_below (by (with_reducible repeat (first | apply Kd.R_alloc | apply Kd.R_drewN | apply Kd.R_drew)); exact HO308.out) hb); have n2_ := Aside0.mk (below_step (by repeat (first | (with_reducible first | exact HB.out | apply below_alloc | apply pw_below_drewN | apply below_drew1) | exact HB.out)) hb); clear HO_7; clear HO308; clear HB; have HO_7 := n0_; have HO308 := n1_; have HB := n2_; clear n0_ n1_ n2_; (try clear hb); (try clear hb2); (try clear hk); (try clear hi)))
                                    go_ret
                                    exact ⟨by first | rfl | (simp [errW_none, errW_some] <;> rfl) | (simp [*, errW_none, errW_some] <;> rfl), by repeat (first | (with_reducible first | exact HB.out | apply below_alloc | apply pw_below_drewN | apply below_drew1) | exact HB.out)⟩
                                · replace c45 := Bool.eq_false_iff.mpr c45
                                  subst c45
                                  have H1 : (some false) = some r := by rw [if_neg (show ¬ (false = true) by decide)] at H; exact H
                                  clear H
                                  have H := H1
                                  clear H1
                                  obtain rfl := Option.some.inj H
                                  go_wp2_with (first | ((with_reducible refine gate_callee (f := 32) rfl ?_); refine goesL_ (some 127) rfl rfl Try.func32 (by kernel_rfl) rfl #[.slice Ao24 t291.length co24, .int .i64 t288, .int .i64 2] rfl (by (try simp only [List.map_toArray, List.map_cons, List.map_nil]); first | done | rfl | (simp only [List.length_drop, List.length_take]; rfl)) ?_; (with_reducible refine (impl_WithZero.calls kj38 _ _ t291 t288 2 t305 false _ ?side1 ?side2 A43.out).mono ?_); (case side1 => repeat (first | exact (Kd.R_reads' HO_7.out).2.2 | (with_reducible refine Kd.C_alloc ?_ _) | (with_reducible refine Kd.C_drewN ?_ _) | (with_reducible refine Kd.C_drew ?_))); (case side2 => exact (Kd.R_reads' HO_7.out).2.1); rintro e w53 ⟨v307, rfl, ho0, hb⟩; refine ⟨_, rfl, ?_⟩; have n0_ := Aside0.mk (Kd.R_elder' (by (with_reducible repeat (first | apply Kd.R_alloc | apply Kd.R_drewN | apply Kd.R_drew)); exact HO_7.out) (Kd.R_base ho0) hb); have n1_ := Aside0.mk (Kd.R_lower (Kd.R_new' ho0 (Kd.R_lt (by (with_reducible repeat (first | apply Kd.R_alloc | apply Kd.R_drewN | apply Kd.R_drew)); exact HO_7.out))) (below_size (by repeat (first | (with_reducible first | exact HB.out | apply below_alloc | apply pw_below_drewN | apply below_drew1) | exact HB.out)))); have n2_ := Aside0.mk (below_step (by repeat (first | (with_reducible first | exact HB.out | apply below_alloc | apply pw_below_drewN | apply below_drew1) | exact HB.out)) hb); clear HO_7; clear HB; have HO_7 := n0_; have HO308 := n1_; have HB := n2_; clear n0_ n1_ n2_; (try clear hb); (try clear hb2); (try clear hk); (try clear hi); (try clear ho0); obtain ⟨Ao54, co54, eo54⟩ := Kd.R_slice HO308.out; subst eo54) | ((with_reducible refine gate_callee (f := 49) rfl ?_); refine goesL_ (some 133) rfl rfl Try.func49 (by kernel_rfl) rfl #[.slice Ao54 t305.length co54, .int .i64 t288, .int .i64 2] rfl (by (try simp only [List.map_toArray, List.map_cons, List.map_nil]); first | done | rfl | (simp only [List.length_drop, List.length_take]; rfl)) ?_; (with_reducible refine (impl_IsBruijn.calls kj38 _ _ t305 t288 2 t309 t310 _ ?side1 ?side2 A44.out).mono ?_); (case side1 => repeat (first | exact (Kd.R_reads' HO308.out).2.2 | (with_reducible refine Kd.C_alloc ?_ _) | (with_reducible refine Kd.C_drewN ?_ _) | (with_reducible refine Kd.C_drew ?_))); (case side2 => exact (Kd.R_reads' HO308.out).2.1); rintro e w55 ⟨rfl, hb⟩; refine ⟨_, rfl, ?_⟩; have n0_ := Aside0.mk (Kd.R_below (by (with_reducible repeat (first | apply Kd.R_alloc | apply Kd.R_drewN | apply Kd.R_drew)); exact HO_7.out) hb); have n1_ := Aside0.mk (Kd.R_below (by (with_reducible repeat (first | apply Kd.R_alloc | apply Kd.R_drewN | apply Kd.R_drew)); exact HO308.out) hb); have n2_ := Aside0.mk (below_step (by repeat (first | (with_reducible first | exact HB.out | apply below_alloc | apply pw_below_drewN | apply below_drew1) | exact HB.out)) hb); clear HO_7; clear HO308; clear HB; have HO_7 := n0_; have HO308 := n1_; have HB := n2_; clear n0_ n1_ n2_; (try clear hb); (try clear hb2); (try clear hk); (try clear hi)))
                                  go_ret
                                  exact ⟨by first | rfl | (simp [errW_none, errW_some] <;> rfl) | (simp [*, errW_none, errW_some] <;> rfl), by repeat (first | (with_reducible first | exact HB.out | apply below_alloc | apply pw_below_drewN | apply below_drew1) | exact HB.out)⟩
                              · replace c42 := Bool.eq_false_iff.mpr c42
                                subst c42
                                have H1 : (some true) = some r := by rw [if_neg (show ¬ (false = true) by decide)] at H; exact H
                                clear H
                                have H := H1
                                clear H1
                                obtain rfl := Option.some.inj H
                                go_wp2
                                go_ret
                                exact ⟨by first | rfl | (simp [errW_none, errW_some] <;> rfl) | (simp [*, errW_none, errW_some] <;> rfl), by repeat (first | (with_reducible first | exact HB.out | apply below_alloc | apply pw_below_drewN | apply below_drew1) | exact HB.out)⟩
          · replace c23 := Bool.eq_false_iff.mpr c23
            subst c23
            have H1 : (some true) = some r := by rw [if_neg (show ¬ (false = true) by decide)] at H; exact H
            clear H
            have H := H1
            clear H1
            obtain rfl := Option.some.inj H
            go_wp2
            go_ret
            exact ⟨by first | rfl | (simp [errW_none, errW_some] <;> rfl) | (simp [*, errW_none, errW_some] <;> rfl), by repeat (first | (with_reducible first | exact HB.out | apply below_alloc | apply pw_below_drewN | apply below_drew1) | exact HB.out)⟩

/-- THE ONE PURE STATEMENT of laws_FnRegisters: yours. -/
def laws_FnRegisters.Pure : Prop := ∀ (l0 : List Int) (l1 : List Int), l0.length ≤ maxLen → l0.length * 1 ≤ 140737488351232 → (∀ x ∈ l0, (Lit.int .u8 x).wf = true) → l1.length ≤ maxLen → l1.length * 1 ≤ 140737488351232 → (∀ x ∈ l1, (Lit.int .u8 x).wf = true) → ∃ k, laws_FnRegisters.f k l0 l1 = some true
theorem laws_FnRegisters.walk (P : laws_FnRegisters.Pure) (a0 : Option Addr) (len0 cap0 : Nat) (z0 : List Int) (a1 : Option Addr) (len1 cap1 : Nat) (z1 : List Int) (w : World) (w0 : (a0 = none ∧ len0 = 0 ∧ cap0 = 0 ∧ z0 = []) ∨ ∃ x, a0 = some x ∧ len0 ≤ cap0 ∧ cap0 ≤ maxLen ∧ z0.length = cap0 ∧ (∀ i, i < z0.length → w.cell? (x.add i) = some (.int .u8 (z0.getD i 0))) ∧ ∀ n ∈ z0, (Lit.int .u8 n).wf = true) (y0 : len0 * 1 ≤ 140737488351232) (w1 : (a1 = none ∧ len1 = 0 ∧ cap1 = 0 ∧ z1 = []) ∨ ∃ x, a1 = some x ∧ len1 ≤ cap1 ∧ cap1 ≤ maxLen ∧ z1.length = cap1 ∧ (∀ i, i < z1.length → w.cell? (x.add i) = some (.int .u8 (z1.getD i 0))) ∧ ∀ n ∈ z1, (Lit.int .u8 n).wf = true) (y1 : len1 * 1 ≤ 140737488351232) :
    Calls Try.prog 12 #[.slice a0 len0 cap0, .slice a1 len1 cap1] w fun e w' => e = .returned (.bool true) ∧ Below w.heap.size w w' := by
  obtain ⟨l0, rfl, hr0, hm0, hw0, hc0⟩ := ReadsInt.ofRowC w0
  obtain ⟨l1, rfl, hr1, hm1, hw1, hc1⟩ := ReadsInt.ofRowC w1
  obtain ⟨k, h⟩ := P l0 l1 hm0 y0 hw0 hm1 y1 hw1
  refine (laws_FnRegisters.calls k _ _ l0 _ _ l1 true w (Kd.C_of_reads (d := (0 : Int)) (h1 := fun _ => rfl) hr0) hc0 (Kd.C_of_reads (d := (0 : Int)) (h1 := fun _ => rfl) hr1) hc1 h).mono ?_
  rintro e w' ⟨rfl, hd⟩
  exact ⟨rfl, hd⟩

end Go.Proofs.Ytdnbeekoefmbcaa.PFnRegisters
