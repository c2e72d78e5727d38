-- Written for this claim by a copy of the print that meets some functions by contracts of this session.
import Derived.Test.YtdhmdlecagjohaaPFnExactGreedyBruijnx0
import Derived.Test.YtdhmdlecagjohaaPFnExactGreedyBruijnx1
namespace Go.Proofs.Ytdhmdlecagjohaa.PFnExactGreedyBruijn
open Go.RowKit Go.Proofs.YtdhmdlecagjohaaW.PrintWords Go.Proofs.YtdhmdlecagjohaaW.PrintLast Go.Proofs.YtdhmdlecagjohaaW.PrintMore
attribute [local go_sem] max2_int min2_int max_two min_two max_three min_three max_four min_four   -- for this text's walks alone
set_option linter.unusedVariables false
set_option linter.unusedSimpArgs false

/-! ### spec_GreedyBruijn: function 35 -/
def spec_GreedyBruijn.l0 : Nat → Int → Int → List Bool → List Int → Int → Option (List Int × Bool)
  | 0, _, _, _, _, _ => none
  | k + 1, x0, x1, x6, x7, x8 => if x8 ≥ 0 then (if x7.length < 17592186044416 then ((some (x7 ++ [x8] : List Int)).bind fun y128 => (if 0 ≤ (wrap64 ((y128.length : Int) - x0)) then (if (wrap64 ((y128.length : Int) - x0)) ≤ (y128.length : Int) then ((spec_brNumber.f k (y128.drop ((wrap64 ((y128.length : Int) - x0)) : Int).toNat) x1).bind fun t135 => (if 0 ≤ t135 then (if t135 < (x6.length : Int) then ((some (x6.set (t135 : Int).toNat true : List Bool)).bind fun y136 => ((spec_brFree.f k y128 x0 x1 y136).bind fun t137 => (spec_GreedyBruijn.l0 k x0 x1 y136 y128 t137))) else (none)) else (none))) else (none)) else (none))) else (none)) else ((spec_lyPower.f k x1 x0).bind fun t138 => (if 0 ≤ t138 then (if t138 ≤ (x7.length : Int) then ((spec_l1Own.f (x7.take (t138 : Int).toNat)).bind fun t143 => (some (t143, true))) else (none)) else (none)))
def spec_GreedyBruijn.f (k : Nat) (a0 : Int) (a1 : Int) : Option (List Int × Bool) := (spec_brKind.f k a0 a1).bind fun t118 => (if t118 = true then ((spec_lyPower.f k a1 a0).bind fun t119 => (if 0 ≤ t119 then (if (t119 : Int).toNat ≤ 281474976710656 then ((some (List.replicate (t119 : Int).toNat false : List Bool)).bind fun y120 => (if 0 < (y120.length : Int) then ((some (y120.set (0 : Int).toNat true : List Bool)).bind fun y123 => (if 0 ≤ a0 then (if (a0 : Int).toNat ≤ 35184372088832 then ((some (List.replicate (a0 : Int).toNat 0 : List Int)).bind fun y124 => ((spec_brFree.f k y124 a0 a1 y123).bind fun t127 => (spec_GreedyBruijn.l0 k a0 a1 y123 y124 t127))) else (none)) else (none))) else (none))) else (none)) else (none))) else (some (([] : List Int), false)))
theorem spec_GreedyBruijn.mono_l : ∀ k, (∀ y0 y1 y2 y3 y4, LeO (spec_GreedyBruijn.l0 k y0 y1 y2 y3 y4) (spec_GreedyBruijn.l0 (k + 1) y0 y1 y2 y3 y4))
  | 0 => fun _ _ _ _ _ r h => by simp [spec_GreedyBruijn.l0] at h
  | k + 1 => by
    have ih0 := spec_GreedyBruijn.mono_l k
    · intro y0 y1 y2 y3 y4
      unfold spec_GreedyBruijn.l0
      repeat' first
      | (with_reducible exact ih0 _ _ _ _ _)
      | (with_reducible exact spec_brFree.mono _ _ _ _ _)
      | (with_reducible exact spec_brKind.mono _ _ _)
      | (with_reducible exact spec_brNumber.mono _ _ _)
      | (with_reducible exact spec_lyPower.mono _ _ _)
      | (with_reducible exact LeO.refl _)
      | (with_reducible exact LeO.none _)
      | (with_reducible refine LeO.ite ?_ ?_)
      | (with_reducible refine LeO.bind ?_ (fun _ => ?_))
      | exact ih0 _ _ _ _ _
      | exact spec_brFree.mono _ _ _ _ _
      | exact spec_brKind.mono _ _ _
      | exact spec_brNumber.mono _ _ _
      | exact spec_lyPower.mono _ _ _
      | exact LeO.none _
      | refine LeO.ite ?_ ?_
      | refine LeO.bind ?_ (fun _ => ?_)
theorem spec_GreedyBruijn.mono : ∀ a0 a1 k, LeO (spec_GreedyBruijn.f k a0 a1) (spec_GreedyBruijn.f (k + 1) a0 a1) := by
  intro a0 a1 k
  have ih0 := spec_GreedyBruijn.mono_l k
  unfold spec_GreedyBruijn.f
  repeat' first
      | (with_reducible exact ih0 _ _ _ _ _)
      | (with_reducible exact spec_brFree.mono _ _ _ _ _)
      | (with_reducible exact spec_brKind.mono _ _ _)
      | (with_reducible exact spec_brNumber.mono _ _ _)
      | (with_reducible exact spec_lyPower.mono _ _ _)
      | (with_reducible exact LeO.refl _)
      | (with_reducible exact LeO.none _)
      | (with_reducible refine LeO.ite ?_ ?_)
      | (with_reducible refine LeO.bind ?_ (fun _ => ?_))
      | exact ih0 _ _ _ _ _
      | exact spec_brFree.mono _ _ _ _ _
      | exact spec_brKind.mono _ _ _
      | exact spec_brNumber.mono _ _ _
      | exact spec_lyPower.mono _ _ _
      | exact LeO.none _
      | refine LeO.ite ?_ ?_
      | refine LeO.bind ?_ (fun _ => ?_)
set_option maxHeartbeats 8000000 in
set_option maxRecDepth 100000 in
theorem spec_GreedyBruijn.calls (k : Nat) (a0 : Int) (a1 : Int) (r1 : List Int) (r2 : Bool) (w : World) (h : spec_GreedyBruijn.f k a0 a1 = some (r1, r2)) :
    Calls Try.prog 35 #[.int .i64 a0, .int .i64 a1] w fun e w' => ∃ v0_ : Value, e = .returned (.tuple #[v0_, .bool r2]) ∧ Kd.R (Kd.int .i64) 3 w' w.heap.size (fun _ => True) v0_ r1 ∧ Below w.heap.size w w' := by
  have HB := Aside0.mk (Below.refl w.heap.size w)
  have H : ((spec_brKind.f k a0 a1).bind fun t118 => (if t118 = true then ((spec_lyPower.f k a1 a0).bind fun t119 => (if 0 ≤ t119 then (if (t119 : Int).toNat ≤ 281474976710656 then ((some (List.replicate (t119 : Int).toNat false : List Bool)).bind fun y120 => (if 0 < (y120.length : Int) then ((some (y120.set (0 : Int).toNat true : List Bool)).bind fun y123 => (if 0 ≤ a0 then (if (a0 : Int).toNat ≤ 35184372088832 then ((some (List.replicate (a0 : Int).toNat 0 : List Int)).bind fun y124 => ((spec_brFree.f k y124 a0 a1 y123).bind fun t127 => (spec_GreedyBruijn.l0 k a0 a1 y123 y124 t127))) else (none)) else (none))) else (none))) else (none)) else (none))) else (some (([] : List Int), false)))) = some (r1, r2) := h
  clear h
  replace H := Option.bind_eq_some_iff.mp H
  obtain ⟨t118, A30, H⟩ := H
  replace H : (if t118 = true then ((spec_lyPower.f k a1 a0).bind fun t119 => (if 0 ≤ t119 then (if (t119 : Int).toNat ≤ 281474976710656 then ((some (List.replicate (t119 : Int).toNat false : List Bool)).bind fun y120 => (if 0 < (y120.length : Int) then ((some (y120.set (0 : Int).toNat true : List Bool)).bind fun y123 => (if 0 ≤ a0 then (if (a0 : Int).toNat ≤ 35184372088832 then ((some (List.replicate (a0 : Int).toNat 0 : List Int)).bind fun y124 => ((spec_brFree.f k y124 a0 a1 y123).bind fun t127 => (spec_GreedyBruijn.l0 k a0 a1 y123 y124 t127))) else (none)) else (none))) else (none))) else (none)) else (none))) else (some (([] : List Int), false))) = some (r1, r2) := H
  have A3 := Aside0.mk A30
  clear A30
  by_cases c4 : t118 = true
  · subst c4
    have H1 : ((spec_lyPower.f k a1 a0).bind fun t119 => (if 0 ≤ t119 then (if (t119 : Int).toNat ≤ 281474976710656 then ((some (List.replicate (t119 : Int).toNat false : List Bool)).bind fun y120 => (if 0 < (y120.length : Int) then ((some (y120.set (0 : Int).toNat true : List Bool)).bind fun y123 => (if 0 ≤ a0 then (if (a0 : Int).toNat ≤ 35184372088832 then ((some (List.replicate (a0 : Int).toNat 0 : List Int)).bind fun y124 => ((spec_brFree.f k y124 a0 a1 y123).bind fun t127 => (spec_GreedyBruijn.l0 k a0 a1 y123 y124 t127))) else (none)) else (none))) else (none))) else (none)) else (none))) = some (r1, r2) := by rw [if_pos rfl] at H; exact H
    clear H
    have H := H1
    clear H1
    replace H := Option.bind_eq_some_iff.mp H
    obtain ⟨t119, A50, H⟩ := H
    replace H : (if 0 ≤ t119 then (if (t119 : Int).toNat ≤ 281474976710656 then ((some (List.replicate (t119 : Int).toNat false : List Bool)).bind fun y120 => (if 0 < (y120.length : Int) then ((some (y120.set (0 : Int).toNat true : List Bool)).bind fun y123 => (if 0 ≤ a0 then (if (a0 : Int).toNat ≤ 35184372088832 then ((some (List.replicate (a0 : Int).toNat 0 : List Int)).bind fun y124 => ((spec_brFree.f k y124 a0 a1 y123).bind fun t127 => (spec_GreedyBruijn.l0 k a0 a1 y123 y124 t127))) else (none)) else (none))) else (none))) else (none)) else (none)) = some (r1, r2) := H
    have A5 := Aside0.mk A50
    clear A50
    by_cases c6 : 0 ≤ t119
    · rw [if_pos c6] at H
      have c6b0 := eq_true c6
      have c6b1 : decide (0 ≤ t119) = true := decide_eq_true c6
      clear c6
      by_cases c7 : (t119 : Int).toNat ≤ 281474976710656
      · rw [if_pos c7] at H
        have c7b0 := eq_true c7
        have c7b1 : decide ((t119 : Int).toNat ≤ 281474976710656) = true := decide_eq_true c7
        clear c7
        obtain ⟨y120, hy120⟩ : ∃ y_ : List Bool, y_ = (List.replicate (t119 : Int).toNat false) := ⟨_, rfl⟩
        replace H : (if 0 < (y120.length : Int) then ((some (y120.set (0 : Int).toNat true : List Bool)).bind fun y123 => (if 0 ≤ a0 then (if (a0 : Int).toNat ≤ 35184372088832 then ((some (List.replicate (a0 : Int).toNat 0 : List Int)).bind fun y124 => ((spec_brFree.f k y124 a0 a1 y123).bind fun t127 => (spec_GreedyBruijn.l0 k a0 a1 y123 y124 t127))) else (none)) else (none))) else (none)) = some (r1, r2) := by first | (rw [hy120]; with_reducible exact H) | (have H2_ := (Option.bind_some _ _).symm.trans H; rw [hy120]; with_reducible exact H2_) | (have H2_ := (Option.bind_some _ _).symm.trans H; with_reducible exact H2_) | with_reducible exact H | (rw [hy120]; exact H) | exact H
        have Ny120 := Aside0.mk hy120
        clear hy120
        by_cases c8 : 0 < (y120.length : Int)
        · rw [if_pos c8] at H
          have c8b0 : decide (0 < (y120.length : Int)) = true := decide_eq_true c8
          have c8b1 : decide (0 < y120.length) = true := decide_eq_true (by omega)
          clear c8
          obtain ⟨y123, hy123⟩ : ∃ y_ : List Bool, y_ = (y120.set (0 : Int).toNat true) := ⟨_, rfl⟩
          replace H : (if 0 ≤ a0 then (if (a0 : Int).toNat ≤ 35184372088832 then ((some (List.replicate (a0 : Int).toNat 0 : List Int)).bind fun y124 => ((spec_brFree.f k y124 a0 a1 y123).bind fun t127 => (spec_GreedyBruijn.l0 k a0 a1 y123 y124 t127))) else (none)) else (none)) = some (r1, r2) := by first | (rw [hy123]; with_reducible exact H) | (have H2_ := (Option.bind_some _ _).symm.trans H; rw [hy123]; with_reducible exact H2_) | (have H2_ := (Option.bind_some _ _).symm.trans H; with_reducible exact H2_) | with_reducible exact H | (rw [hy123]; exact H) | exact H
          have Ny123 := Aside0.mk hy123
          clear hy123
          by_cases c10 : 0 ≤ a0
          · rw [if_pos c10] at H
            have c10b0 := eq_true c10
            have c10b1 : decide (0 ≤ a0) = true := decide_eq_true c10
            clear c10
            by_cases c11 : (a0 : Int).toNat ≤ 35184372088832
            · rw [if_pos c11] at H
              have c11b0 := eq_true c11
              have c11b1 : decide ((a0 : Int).toNat ≤ 35184372088832) = true := decide_eq_true c11
              clear c11
              obtain ⟨y124, hy124⟩ : ∃ y_ : List Int, y_ = (List.replicate (a0 : Int).toNat 0) := ⟨_, rfl⟩
              replace H : ((spec_brFree.f k y124 a0 a1 y123).bind fun t127 => (spec_GreedyBruijn.l0 k a0 a1 y123 y124 t127)) = some (r1, r2) := by first | (rw [hy124]; with_reducible exact H) | (have H2_ := (Option.bind_some _ _).symm.trans H; rw [hy124]; with_reducible exact H2_) | (have H2_ := (Option.bind_some _ _).symm.trans H; with_reducible exact H2_) | with_reducible exact H | (rw [hy124]; exact H) | exact H
              have Ny124 := Aside0.mk hy124
              clear hy124
              replace H := Option.bind_eq_some_iff.mp H
              obtain ⟨t127, A120, H⟩ := H
              replace H : (spec_GreedyBruijn.l0 k a0 a1 y123 y124 t127) = some (r1, r2) := H
              have A12 := Aside0.mk A120
              clear A120
              have H' := Aside0.mk H
              clear H
              go_enter Try.func35, Try.ntmps35
              go_wp2_with (first | ((with_reducible refine gate_callee (f := 50) rfl ?_); refine goesL_ (some 11) rfl rfl Try.func50 (by kernel_rfl) rfl #[.int .i64 a0, .int .i64 a1] rfl (by (try simp only [List.map_toArray, List.map_cons, List.map_nil]); first | done | rfl | (simp only [List.length_drop, List.length_take]; rfl)) ?_; (with_reducible refine (spec_brKind.calls k a0 a1 true _ A3.out).mono ?_); rintro e w' ⟨rfl, ⟨nd, rfl⟩⟩; refine ⟨_, rfl, ?_⟩) | ((with_reducible refine gate_callee (f := 64) rfl ?_); refine goesL_ (some 15) rfl rfl Try.func64 (by kernel_rfl) rfl #[.int .i64 a1, .int .i64 a0] rfl (by (try simp only [List.map_toArray, List.map_cons, List.map_nil]); first | done | rfl | (simp only [List.length_drop, List.length_take]; rfl)) ?_; (with_reducible refine (spec_lyPower.calls k a1 a0 t119 _ A5.out).mono ?_); rintro e w' ⟨rfl, ⟨nd, rfl⟩⟩; refine ⟨_, rfl, ?_⟩) | ((with_reducible refine gate_dst (N := 16) rfl ?_); refine Kd.R_make Kd.bool _ 4 rfl (N := 16) rfl 53 _ _ rfl t119 rfl rfl Try.underlying53 (.bool false) 1 info4 rfl (by decide) (by omega) false (ok := fun _ => True) (okp := fun _ => True) rfl (fun _ hk => hk) trivial (of_decide_eq_true (by first | (with_reducible assumption) | assumption)) (Nat.le_trans (Nat.mul_le_mul_right _ (of_decide_eq_true (by first | (with_reducible assumption) | assumption) : t119.toNat ≤ 281474976710656)) (by omega)) (Below.refl _ _) (Nat.le_refl _) ?_; intro v121 w13 ho14 hb hg_ hnew_; clear hg_ hnew_; (first | rw [← Ny120.out] at ho14 | (simp only [Int.reduceToNat] at ho14; rw [← Ny120.out] at ho14)); have n0_ := Aside0.mk (Kd.R_lower ho14 (below_size (by repeat (first | (with_reducible first | exact HB.out | apply below_alloc | apply pw_below_drewN | apply below_drew1) | exact HB.out)))); have n1_ := Aside0.mk (below_step (by repeat (first | (with_reducible first | exact HB.out | apply below_alloc | apply pw_below_drewN | apply below_drew1) | exact HB.out)) hb); clear HB; have HO122 := n0_; have HB := n1_; clear n0_ n1_; clear hb ho14; have p9 : 0 ≤ (0 : Int) := (by omega); have q9 : (0 : Int) < ((y120.length : Int) : Int) := of_decide_eq_true (by first | (with_reducible assumption) | assumption); have qi9 : (0 < y120.length) = True := eq_true (by omega); obtain ⟨go9, co9, eo9, gb9, gl9, cl9, HG9⟩ := Kd.R_form HO122.out (by omega); (first | cases eo9 | (injection eo9 with ea_ en_ ec_; (first | subst ea_ | (injection ea_ with ea_; subst ea_)); subst ec_; clear en_)); have GB9 := Aside0.mk gb9; have GG9 := Aside0.mk HG9; clear gb9 gl9 HG9; obtain ⟨hx9_0, hf9_0⟩ := Kd.R_celln false HO122.out (0 : Int) p9 q9; (try rw [show ((0 : Int)).toNat = 0 from rfl] at hx9_0); (try simp only [Nat.reduceMul, Nat.zero_mul, Nat.zero_add, Nat.reduceAdd] at hx9_0); (try rw [show ((0 : Int)).toNat = 0 from rfl] at hf9_0); (try simp only [Nat.reduceMul, Nat.zero_mul, Nat.zero_add, Nat.reduceAdd] at hf9_0); replace p9 := eq_true p9; replace q9 := eq_true q9; obtain ⟨hy15_, hz15_⟩ := Kd.R_celln false HO122.out (0 : Int) (by omega) (of_decide_eq_true (by first | (with_reducible assumption) | assumption)); (try simp only [Int.reduceToNat, Int.toNat_zero, Int.toNat_ofNat, Nat.reduceMul, Nat.zero_mul, Nat.zero_add] at hy15_ hz15_); (try rw [show ((0 : Int)).toNat = 0 from rfl] at hy15_); (try rw [show ((0 : Int)).toNat = 0 from rfl] at hz15_); have HP15 := Kd.R_putg HO122.out (0 : Int) true) | ((with_reducible refine gate_store (t := 4) (p := 18) rfl ?_); refine store_event (t := 4) (p := 18) (v := ?vo_w16) (w1 := (w13.setCell ⟨go9, (0 : Int).toNat, none⟩ (.bool true))) ?hg ?ho ?hn ?hr ?_; (case ho => rfl); (case hg => rfl); (case hn => rfl); (case hr => first | (go_simp; done) | (go_simp; rfl)); intro w16 hw; have hg : w13.grownBy w16 (some go9) := (by rw [hw]; exact HP15.2); have hp_ : Kd.R Kd.bool 4 w16 w.heap.size (fun _ => True) (.slice (some ⟨go9, 0, none⟩) y120.length co9) y123 := (by rw [hw, Ny123.out]; exact HP15.1); clear HP15; have n0_ := Aside0.mk (hp_); have n1_ := Aside0.mk ((by rw [hw]; exact below_set (HB.out) GB9.out : Below w.heap.size w w16)); clear HO122; clear HB; have HO122 := n0_; have HB := n1_; clear n0_ n1_; clear hg hw hp_) | ((with_reducible refine gate_dst (N := 20) rfl ?_); refine Kd.R_make (Kd.int .i64) _ 3 rfl (N := 20) rfl 25 _ _ rfl a0 rfl rfl Try.underlying25 (.int .i64 0) 8 info3 rfl (by decide) (by omega) 0 (ok := fun _ => True) (okp := fun _ => True) rfl (fun _ hk => hk) trivial (of_decide_eq_true (by first | (with_reducible assumption) | assumption)) (Nat.le_trans (Nat.mul_le_mul_right _ (of_decide_eq_true (by first | (with_reducible assumption) | assumption) : a0.toNat ≤ 35184372088832)) (by omega)) (Below.refl _ _) (Nat.le_refl _) ?_; intro v125 w17 ho18 hb hg_ hnew_; clear hg_ hnew_; (first | rw [← Ny124.out] at ho18 | (simp only [Int.reduceToNat] at ho18; rw [← Ny124.out] at ho18)); have n0_ := Aside0.mk (Kd.R_below (by (with_reducible repeat (first | apply Kd.R_alloc | apply Kd.R_drewN | apply Kd.R_drew)); exact HO122.out) hb); have n1_ := Aside0.mk (Kd.R_lower ho18 (below_size (by repeat (first | (with_reducible first | exact HB.out | apply below_alloc | apply pw_below_drewN | apply below_drew1) | exact HB.out)))); have n2_ := Aside0.mk (below_step (by repeat (first | (with_reducible first | exact HB.out | apply below_alloc | apply pw_below_drewN | apply below_drew1) | exact HB.out)) hb); clear HO122; clear HB; have HO122 := n0_; have HO126 := n1_; have HB := n2_; clear n0_ n1_ n2_; clear hb ho18; obtain ⟨Ao19, co19, eo19⟩ := Kd.R_slice HO126.out; subst eo19) | ((with_reducible refine gate_callee (f := 67) rfl ?_); refine goesL_ (some 25) rfl rfl Try.func67 (by kernel_rfl) rfl #[.slice Ao19 y124.length co19, .int .i64 a0, .int .i64 a1, .slice (some ⟨go9, 0, none⟩) y123.length co9] rfl (by (try simp only [List.map_toArray, List.map_cons, List.map_nil]); first | done | (rw [show y123.length = y120.length from (Kd.R_reads' HO122.out).1.symm] <;> rfl) | rfl | (simp only [List.length_drop, List.length_take]; rfl)) ?_; (with_reducible refine (spec_brFree.calls k _ _ y124 a0 a1 _ _ y123 t127 _ ?side1 ?side2 ?side3 ?side4 A12.out).mono ?_); (case side1 => repeat (first | exact (Kd.R_reads' HO126.out).2.2 | (with_reducible refine Kd.C_alloc ?_ _) | (with_reducible refine Kd.C_drewN ?_ _) | (with_reducible refine Kd.C_drew ?_))); (case side2 => exact (Kd.R_reads' HO126.out).2.1); (case side3 => repeat (first | exact (Kd.R_reads' HO122.out).2.2 | (with_reducible refine Kd.C_alloc ?_ _) | (with_reducible refine Kd.C_drewN ?_ _) | (with_reducible refine Kd.C_drew ?_))); (case side4 => rw [show y123.length = y120.length from (Kd.R_reads' HO122.out).1.symm]; exact (Kd.R_reads' HO122.out).2.1); rintro e w' ⟨rfl, ⟨nd, rfl⟩⟩; refine ⟨_, rfl, ?_⟩))
              go_loopg [7, 8] k (fun kq v7 v8 w' => ∃ (x6_1 : List Bool) (x7_1 : List Int) (x8_1 : Int), v8 = .int .i64 x8_1 ∧ Aside0 (spec_GreedyBruijn.l0 kq a0 a1 x6_1 x7_1 x8_1 = some (r1, r2)) ∧ Aside0 (kq ≤ k) ∧ Aside0 (Kd.R Kd.bool 4 w' w.heap.size (fun _ => True) (.slice (some ⟨go9, 0, none⟩) y120.length co9) x6_1) ∧ Aside0 (Kd.R (Kd.int .i64) 3 w' w.heap.size (fun _ => True) v7 x7_1) ∧ Aside0 (Below w.heap.size w w'))
              case atStart => exact ⟨(y123), (y124), (t127), (by first | rfl | (simp; done) | (simp [*]; done)), H', ⟨Nat.le_refl _⟩, ⟨by (with_reducible repeat (first | apply Kd.R_alloc | apply Kd.R_drewN | apply Kd.R_drew)); exact HO122.out⟩, ⟨by (with_reducible repeat (first | apply Kd.R_alloc | apply Kd.R_drewN | apply Kd.R_drew)); exact HO126.out⟩, ⟨by repeat (first | (with_reducible first | exact HB.out | apply below_alloc | apply pw_below_drewN | apply below_drew1) | exact HB.out)⟩⟩
              case round =>
                clear H'
                try clear c1
                try clear p2
                try clear c3
                try clear c4
                try clear c5
                try clear c6
                try clear c6b0
                try clear c6b1
                try clear c7
                try clear c7b0
                try clear c7b1
                try clear c8
                try clear c8b0
                try clear c8b1
                try clear p9
                try clear q9
                try clear hx9
                try clear qi9
                try clear hf9
                try clear c10
                try clear c10b0
                try clear c10b1
                try clear c11
                try clear c11b0
                try clear c11b1
                try clear hx9_0
                try clear p9
                try clear q9
                obtain ⟨x6_1, x7_1, x8_1, rfl, HA, HK1, HO_6, HO_7, HB⟩ := hrel
                have hl6_1 := (Kd.R_reads' HO_6.out).1
                rw [hl6_1] at HO_6
                (try simp only [hl6_1])
                (try simp only [hl6_1] at HO_7)
                cases gk with
                | zero => exact absurd HA.out (by simp [spec_GreedyBruijn.l0])
                | succ k1 =>
                  have H := HA.out
                  clear HA
                  simp only [spec_GreedyBruijn.l0] at H
                  by_cases c20 : x8_1 ≥ 0
                  · rw [if_pos c20] at H
                    have c20b0 : decide (0 ≤ x8_1) = true := decide_eq_true c20
                    clear c20
                    by_cases c21 : x7_1.length < 17592186044416
                    · rw [if_pos c21] at H
                      have LMc21 := Aside0.mk c21
                      clear c21
                      obtain ⟨y128, hy128⟩ : ∃ y_ : List Int, y_ = (x7_1 ++ [x8_1]) := ⟨_, rfl⟩
                      replace H : (if 0 ≤ (wrap64 ((y128.length : Int) - a0)) then (if (wrap64 ((y128.length : Int) - a0)) ≤ (y128.length : Int) then ((spec_brNumber.f k1 (y128.drop ((wrap64 ((y128.length : Int) - a0)) : Int).toNat) a1).bind fun t135 => (if 0 ≤ t135 then (if t135 < (x6_1.length : Int) then ((some (x6_1.set (t135 : Int).toNat true : List Bool)).bind fun y136 => ((spec_brFree.f k1 y128 a0 a1 y136).bind fun t137 => (spec_GreedyBruijn.l0 k1 a0 a1 y136 y128 t137))) else (none)) else (none))) else (none)) else (none)) = some (r1, r2) := by first | (rw [hy128]; with_reducible exact H) | (have H2_ := (Option.bind_some _ _).symm.trans H; rw [hy128]; with_reducible exact H2_) | (have H2_ := (Option.bind_some _ _).symm.trans H; with_reducible exact H2_) | with_reducible exact H | (rw [hy128]; exact H) | exact H
                      have Ny128 := Aside0.mk hy128
                      clear hy128
                      obtain ⟨ji22, hji22⟩ : ∃ j_ : Int, (wrap64 ((y128.length : Int) - a0)) = j_ := ⟨_, rfl⟩
                      replace H : (if 0 ≤ (ji22) then (if (ji22) ≤ (y128.length : Int) then ((spec_brNumber.f k1 (y128.drop ((ji22) : Int).toNat) a1).bind fun t135 => (if 0 ≤ t135 then (if t135 < (x6_1.length : Int) then ((some (x6_1.set (t135 : Int).toNat true : List Bool)).bind fun y136 => ((spec_brFree.f k1 y128 a0 a1 y136).bind fun t137 => (spec_GreedyBruijn.l0 k1 a0 a1 y136 y128 t137))) else (none)) else (none))) else (none)) else (none)) = some (r1, r2) := by first | (rw [hji22] at H; exact H) | (simp only [hji22] at H ⊢; exact H)
                      have hji22w : (IntKind.i64.wrap ((y128.length : Int) - a0)) = ji22 := (i64_w _).trans hji22
                      by_cases c23 : 0 ≤ (ji22)
                      · rw [if_pos c23] at H
                        have c23b0 := eq_true c23
                        have c23b1 : decide (0 ≤ (ji22)) = true := decide_eq_true c23
                        clear c23
                        by_cases c24 : (ji22) ≤ (y128.length : Int)
                        · rw [if_pos c24] at H
                          have c24b0 := eq_true c24
                          have c24b1 : decide ((ji22) ≤ (y128.length : Int)) = true := decide_eq_true c24
                          clear c24
                          obtain ⟨y131, hy131⟩ : ∃ y_ : List Int, y_ = (y128.drop ((ji22) : Int).toNat) := ⟨_, rfl⟩
                          replace H : ((spec_brNumber.f k1 y131 a1).bind fun t135 => (if 0 ≤ t135 then (if t135 < (x6_1.length : Int) then ((some (x6_1.set (t135 : Int).toNat true : List Bool)).bind fun y136 => ((spec_brFree.f k1 y128 a0 a1 y136).bind fun t137 => (spec_GreedyBruijn.l0 k1 a0 a1 y136 y128 t137))) else (none)) else (none))) = some (r1, r2) := by first | (rw [hy131]; with_reducible exact H) | (have H2_ := (Option.bind_some _ _).symm.trans H; rw [hy131]; with_reducible exact H2_) | (have H2_ := (Option.bind_some _ _).symm.trans H; with_reducible exact H2_) | with_reducible exact H | (rw [hy131]; exact H) | exact H
                          have Ny131 := Aside0.mk hy131
                          clear hy131
                          replace H := Option.bind_eq_some_iff.mp H
                          obtain ⟨t135, A250, H⟩ := H
                          replace H : (if 0 ≤ t135 then (if t135 < (x6_1.length : Int) then ((some (x6_1.set (t135 : Int).toNat true : List Bool)).bind fun y136 => ((spec_brFree.f k1 y128 a0 a1 y136).bind fun t137 => (spec_GreedyBruijn.l0 k1 a0 a1 y136 y128 t137))) else (none)) else (none)) = some (r1, r2) := H
                          have A25 := Aside0.mk A250
                          clear A250
                          by_cases c26 : 0 ≤ t135
                          · rw [if_pos c26] at H
                            have c26b0 : decide (0 ≤ t135) = true := decide_eq_true c26
                            clear c26
                            by_cases c27 : t135 < (x6_1.length : Int)
                            · rw [if_pos c27] at H
                              have c27b0 : decide (t135 < (x6_1.length : Int)) = true := decide_eq_true c27
                              clear c27
                              obtain ⟨y136, hy136⟩ : ∃ y_ : List Bool, y_ = (x6_1.set (t135 : Int).toNat true) := ⟨_, rfl⟩
                              replace H : ((spec_brFree.f k1 y128 a0 a1 y136).bind fun t137 => (spec_GreedyBruijn.l0 k1 a0 a1 y136 y128 t137)) = some (r1, r2) := by first | (rw [hy136]; with_reducible exact H) | (have H2_ := (Option.bind_some _ _).symm.trans H; rw [hy136]; with_reducible exact H2_) | (have H2_ := (Option.bind_some _ _).symm.trans H; with_reducible exact H2_) | with_reducible exact H | (rw [hy136]; exact H) | exact H
                              have Ny136 := Aside0.mk hy136
                              clear hy136
                              replace H := Option.bind_eq_some_iff.mp H
                              obtain ⟨t137, A290, H⟩ := H
                              replace H : (spec_GreedyBruijn.l0 k1 a0 a1 y136 y128 t137) = some (r1, r2) := H
                              have A29 := Aside0.mk A290
                              clear A290
                              have H' := Aside0.mk H
                              clear H
                              go_wp2_with (first | ((with_reducible refine gate_builtin (b := .append) (xs := #[.tmp 33, .tmp 35]) rfl ?_); at_builtin; refine Kd.R_append (Kd.int .i64) (w0 := w) w.heap.size rfl (.tmp 33) (.tmp 35) 25 3 (.int .i64 0) 8 rfl Try.underlying25 info3 rfl (by decide) (by omega) u7 x7_1 x8_1 [.int .i64 x8_1] (fun _ => True) (fun _ => False) rfl rfl ?aP (fun _ hk => hk.elim) ?aF ?aO ?aB ?aS ?aL ?_; (case aP => exact rfl); (case aB => exact (by repeat (first | (with_reducible first | exact HB.out | apply below_alloc | apply pw_below_drewN | apply below_drew1) | exact HB.out))); (case aF => exact (fun _ _ => trivial)); (case aO => exact (by (with_reducible repeat (first | apply Kd.R_alloc | apply Kd.R_drewN | apply Kd.R_drew)); exact HO_7.out)); (case aS => exact (below_size (by repeat (first | (with_reducible first | exact HB.out | apply below_alloc | apply pw_below_drewN | apply below_drew1) | exact HB.out)))); (case aL => have := LMc21.out; omega); intro v129 w30 ho hb hg hat; rw [← Ny128.out] at ho; have n0_ := Aside0.mk (Kd.R_over' (by (with_reducible repeat (first | apply Kd.R_alloc | apply Kd.R_drewN | apply Kd.R_drew)); exact HO_6.out) (Kd.R_typed (by (with_reducible repeat (first | apply Kd.R_alloc | apply Kd.R_drewN | apply Kd.R_drew)); exact HO_7.out)) (by decide) hg); have n1_ := Aside0.mk (hb); have n2_ := Aside0.mk (ho); clear HO_6; clear HB; clear HO_7; have HO_6 := n0_; have HB := n1_; have HO130 := n2_; clear n0_ n1_ n2_; clear ho hb hg hat; obtain ⟨Ao31, co31, eo31⟩ := Kd.R_slice HO130.out; subst eo31; have q32 : ((ji22) : Int) ≤ ((y128.length : Int) : Int) := of_decide_eq_true (by first | (with_reducible assumption) | assumption); obtain ⟨i032, hi032, _, hsz32, _⟩ := info_parts info3; have hroom32 : y128.length ≤ co31 := (Kd.R_reads' HO130.out).2.1; have hC32 : Kd.C (Kd.int .i64) _ Ao31 y128.length y128 := (Kd.R_reads' HO130.out).2.2; have q032 : (0 : Int) ≤ ((ji22) : Int) := of_decide_eq_true (by first | (with_reducible assumption) | assumption); have hcut32 := cut_from (P := Try.prog) 25 3 .i64 Try.underlying25 hi032 1 hsz32 Ao31 y128.length co31 (ji22) q032 q32; have hr32 := Kd.C_drop (m := ((ji22) : Int).toNat) (c := co31) hC32 (by omega) hroom32; obtain ⟨A32, hA32⟩ : ∃ A1, A1 = (if co31 = ((ji22) : Int).toNat then Ao31 else (Ao31 : Option Addr).map (·.add (((ji22) : Int).toNat * 1))) := ⟨_, rfl⟩; obtain ⟨c32, hc32⟩ : ∃ c1, c1 = co31 - ((ji22) : Int).toNat := ⟨_, rfl⟩; have hy32 : y131.length = y128.length - ((ji22) : Int).toNat := (by rw [Ny131.out, List.length_drop] <;> omega); rw [show (y128).drop ((ji22) : Int).toNat = y131 from Ny131.out.symm] at hr32; replace hr32 : Kd.C (Kd.int .i64) _ A32 y131.length y131 := (by rw [hA32]; exact hr32); rw [← hy32, ← hA32, ← hc32] at hcut32; have HR134 := Aside0.mk hr32; have HC134 := Aside0.mk (show y131.length ≤ c32 from by rw [hy32, hc32]; exact Nat.sub_le_sub_right hroom32 _); clear hr32 hC32 hroom32 hi032 hsz32 hc32; have KY32 := Aside0.mk hy32; have KA32 := Aside0.mk hA32; clear hy32 hA32; have KL32 := Aside0.mk (show ((ji22) : Int).toNat ≤ y128.length from by omega); replace q32 := eq_true q32) | ((with_reducible refine gate_callee (f := 68) rfl ?_); refine goesL_ (some 45) rfl rfl Try.func68 (by kernel_rfl) rfl #[.slice A32 y131.length c32, .int .i64 a1] rfl (by (try simp only [List.map_toArray, List.map_cons, List.map_nil]); first | done | rfl | (simp only [List.length_drop, List.length_take]; rfl)) ?_; (with_reducible refine (spec_brNumber.calls k1 _ _ y131 a1 t135 _ ?side1 ?side2 A25.out).mono ?_); (case side1 => repeat (first | exact (by repeat (first | (with_reducible exact HR134.out) | (with_reducible refine Kd.C_alloc ?_ _) | (with_reducible refine Kd.C_drewN ?_ _) | (with_reducible refine Kd.C_drew ?_) | exact HR134.out)) | (with_reducible refine Kd.C_alloc ?_ _) | (with_reducible refine Kd.C_drewN ?_ _) | (with_reducible refine Kd.C_drew ?_))); (case side2 => exact HC134.out); rintro e w' ⟨rfl, ⟨nd, rfl⟩⟩; refine ⟨_, rfl, ?_⟩; (try (rw [drewN_self w30]; generalize hq_ : World.drewN w30 _ = w30; have n0_ : Aside0 (Kd.R (Kd.int .i64) 3 w30 w.heap.size (fun _ => True) (.slice Ao31 y128.length co31) y128) := ⟨by rw [← hq_]; exact (by (with_reducible repeat (first | apply Kd.R_alloc | apply Kd.R_drewN | apply Kd.R_drew)); exact HO130.out)⟩; have n1_ : Aside0 (Kd.R Kd.bool 4 w30 w.heap.size (fun _ => True) (.slice (some ⟨go9, 0, none⟩) x6_1.length co9) x6_1) := ⟨by rw [← hq_]; exact (by (with_reducible repeat (first | apply Kd.R_alloc | apply Kd.R_drewN | apply Kd.R_drew)); exact HO_6.out)⟩; have n2_ : Aside0 (Below w.heap.size w w30) := ⟨by rw [← hq_]; exact (by repeat (first | (with_reducible first | exact HB.out | apply below_alloc | apply pw_below_drewN | apply below_drew1) | exact HB.out))⟩; have n3_ : Aside0 (Kd.C (Kd.int .i64) w30 A32 y131.length y131) := ⟨by rw [← hq_]; exact (by repeat (first | (with_reducible exact HR134.out) | (with_reducible refine Kd.C_alloc ?_ _) | (with_reducible refine Kd.C_drewN ?_ _) | (with_reducible refine Kd.C_drew ?_) | exact HR134.out))⟩; clear HO130 HO_6 HB HR134 hq_; have HO130 := n0_; have HO_6 := n1_; have HB := n2_; have HR134 := n3_; clear n0_ n1_ n2_ n3_)); have p28 : 0 ≤ (t135 : Int) := of_decide_eq_true (by first | (with_reducible assumption) | assumption); have q28 : (t135 : Int) < ((x6_1.length : Int) : Int) := of_decide_eq_true (by first | (with_reducible assumption) | assumption); obtain ⟨hx28_0, hf28_0⟩ := Kd.R_celln false HO_6.out (t135 : Int) p28 q28; replace p28 := eq_true p28; replace q28 := eq_true q28; obtain ⟨hy33_, hz33_⟩ := Kd.R_celln false HO_6.out (t135 : Int) (of_decide_eq_true (by first | (with_reducible assumption) | assumption)) (of_decide_eq_true (by first | (with_reducible assumption) | assumption)); have HP33 := Kd.R_putg HO_6.out (t135 : Int) true) | ((with_reducible refine gate_store (t := 4) (p := 46) rfl ?_); refine store_event (t := 4) (p := 46) (v := ?vo_w34) (w1 := (w30.setCell ⟨go9, (t135 : Int).toNat, none⟩ (.bool true))) ?hg ?ho ?hn ?hr ?_; (case ho => rfl); (case hg => rfl); (case hn => rfl); (case hr => first | (go_simp; done) | (go_simp; rfl)); intro w34 hw; have hg : w30.grownBy w34 (some go9) := (by rw [hw]; exact HP33.2); have hp_ : Kd.R Kd.bool 4 w34 w.heap.size (fun _ => True) (.slice (some ⟨go9, 0, none⟩) x6_1.length co9) y136 := (by rw [hw, Ny136.out]; exact HP33.1); clear HP33; have n0_ := Aside0.mk (hp_); have n1_ := Aside0.mk (Kd.R_over' (v := (.slice (some ⟨go9, 0, none⟩) x6_1.length co9)) (by (with_reducible repeat (first | apply Kd.R_alloc | apply Kd.R_drewN | apply Kd.R_drew)); exact HO130.out) (Kd.R_typed HO_6.out) (by decide) hg); have n2_ := Aside0.mk ((by rw [hw]; exact below_set (HB.out) GB9.out : Below w.heap.size w w34)); have n3_ := Aside0.mk ((show Kd.C (Kd.int .i64) w34 A32 y131.length y131 from by rw [Ny131.out, KA32.out]; exact Kd.C_drop (m := ((ji22) : Int).toNat) (c := co31) ((Kd.R_reads' (Kd.R_over' (v := (.slice (some ⟨go9, 0, none⟩) x6_1.length co9)) (by (with_reducible repeat (first | apply Kd.R_alloc | apply Kd.R_drewN | apply Kd.R_drew)); exact HO130.out) (Kd.R_typed HO_6.out) (by decide) hg)).2.2) KL32.out ((Kd.R_reads' (Kd.R_over' (v := (.slice (some ⟨go9, 0, none⟩) x6_1.length co9)) (by (with_reducible repeat (first | apply Kd.R_alloc | apply Kd.R_drewN | apply Kd.R_drew)); exact HO130.out) (Kd.R_typed HO_6.out) (by decide) hg)).2.1))); clear HO_6; clear HO130; clear HB; clear HR134; have HO_6 := n0_; have HO130 := n1_; have HB := n2_; have HR134 := n3_; clear n0_ n1_ n2_ n3_; clear hg hw hp_) | ((with_reducible refine gate_callee (f := 67) rfl ?_); refine goesL_ (some 32) rfl rfl Try.func67 (by kernel_rfl) rfl #[.slice Ao31 y128.length co31, .int .i64 a0, .int .i64 a1, .slice (some ⟨go9, 0, none⟩) y136.length co9] rfl (by (try simp only [List.map_toArray, List.map_cons, List.map_nil]); first | done | (rw [show y136.length = x6_1.length from (Kd.R_reads' HO_6.out).1.symm] <;> rfl) | rfl | (simp only [List.length_drop, List.length_take]; rfl)) ?_; (with_reducible refine (spec_brFree.calls k1 _ _ y128 a0 a1 _ _ y136 t137 _ ?side1 ?side2 ?side3 ?side4 A29.out).mono ?_); (case side1 => repeat (first | exact (Kd.R_reads' HO130.out).2.2 | (with_reducible refine Kd.C_alloc ?_ _) | (with_reducible refine Kd.C_drewN ?_ _) | (with_reducible refine Kd.C_drew ?_))); (case side2 => exact (Kd.R_reads' HO130.out).2.1); (case side3 => repeat (first | exact (Kd.R_reads' HO_6.out).2.2 | (with_reducible refine Kd.C_alloc ?_ _) | (with_reducible refine Kd.C_drewN ?_ _) | (with_reducible refine Kd.C_drew ?_))); (case side4 => rw [show y136.length = x6_1.length from (Kd.R_reads' HO_6.out).1.symm]; exact (Kd.R_reads' HO_6.out).2.1); rintro e w' ⟨rfl, ⟨nd, rfl⟩⟩; refine ⟨_, rfl, ?_⟩))
                              (try simp only [← hl6_1])
                              go_roundg k1
                              case measure => have := HK1.out; omega
                              case rel => exact ⟨(y136), (y128), (t137), (by first | rfl | (simp; done) | (simp [*]; done)), H', ⟨by have := HK1.out; omega⟩, ⟨by (try simp only [hl6_1]); (with_reducible repeat (first | apply Kd.R_alloc | apply Kd.R_drewN | apply Kd.R_drew)); exact HO_6.out⟩, ⟨by (try simp only [hl6_1]); (with_reducible repeat (first | apply Kd.R_alloc | apply Kd.R_drewN | apply Kd.R_drew)); exact HO130.out⟩, ⟨by repeat (first | (with_reducible first | exact HB.out | apply below_alloc | apply pw_below_drewN | apply below_drew1) | exact HB.out)⟩⟩
                            · rw [if_neg c27] at H
                              exact absurd H (by simp)
                          · rw [if_neg c26] at H
                            exact absurd H (by simp)
                        · rw [if_neg c24] at H
                          exact absurd H (by simp)
                      · rw [if_neg c23] at H
                        exact absurd H (by simp)
                    · rw [if_neg c21] at H
                      exact absurd H (by simp)
                  · rw [if_neg c20] at H
                    have c20b0 : decide (0 ≤ x8_1) = false := decide_eq_false c20
                    clear c20
                    replace H := Option.bind_eq_some_iff.mp H
                    obtain ⟨t138, A350, H⟩ := H
                    replace H : (if 0 ≤ t138 then (if t138 ≤ (x7_1.length : Int) then ((spec_l1Own.f (x7_1.take (t138 : Int).toNat)).bind fun t143 => (some (t143, true))) else (none)) else (none)) = some (r1, r2) := H
                    have A35 := Aside0.mk A350
                    clear A350
                    by_cases c36 : 0 ≤ t138
                    · rw [if_pos c36] at H
                      have c36b0 := eq_true c36
                      have c36b1 : decide (0 ≤ t138) = true := decide_eq_true c36
                      clear c36
                      by_cases c37 : t138 ≤ (x7_1.length : Int)
                      · rw [if_pos c37] at H
                        have c37b0 := eq_true c37
                        have c37b1 : decide (t138 ≤ (x7_1.length : Int)) = true := decide_eq_true c37
                        clear c37
                        obtain ⟨y139, hy139⟩ : ∃ y_ : List Int, y_ = (x7_1.take (t138 : Int).toNat) := ⟨_, rfl⟩
                        replace H : ((spec_l1Own.f y139).bind fun t143 => (some (t143, true))) = some (r1, r2) := by first | (rw [hy139]; with_reducible exact H) | (have H2_ := (Option.bind_some _ _).symm.trans H; rw [hy139]; with_reducible exact H2_) | (have H2_ := (Option.bind_some _ _).symm.trans H; with_reducible exact H2_) | with_reducible exact H | (rw [hy139]; exact H) | exact H
                        have Ny139 := Aside0.mk hy139
                        clear hy139
                        replace H := Option.bind_eq_some_iff.mp H
                        obtain ⟨t143, A380, H⟩ := H
                        replace H : (some (t143, true)) = some (r1, r2) := H
                        have A38 := Aside0.mk A380
                        clear A380
                        simp only [Option.some.injEq, Prod.mk.injEq] at H
                        obtain ⟨rfl, rfl⟩ := H
                        go_wp2_with (first | ((with_reducible refine gate_callee (f := 64) rfl ?_); refine goesL_ (some 50) rfl rfl Try.func64 (by kernel_rfl) rfl #[.int .i64 a1, .int .i64 a0] rfl (by (try simp only [List.map_toArray, List.map_cons, List.map_nil]); first | done | rfl | (simp only [List.length_drop, List.length_take]; rfl)) ?_; (with_reducible refine (spec_lyPower.calls k1 a1 a0 t138 _ A35.out).mono ?_); rintro e w' ⟨rfl, ⟨nd, rfl⟩⟩; refine ⟨_, rfl, ?_⟩; obtain ⟨Ao40, co40, eo40⟩ := Kd.R_slice HO_7.out; subst eo40; have q39 : (t138 : Int) ≤ ((x7_1.length : Int) : Int) := of_decide_eq_true (by first | (with_reducible assumption) | assumption); obtain ⟨i039, hi039, _, hsz39, _⟩ := info_parts info3; have hroom39 : x7_1.length ≤ co40 := (Kd.R_reads' HO_7.out).2.1; have hC39 : Kd.C (Kd.int .i64) _ Ao40 x7_1.length x7_1 := (Kd.R_reads' HO_7.out).2.2; have hcut39 := cut_to (P := Try.prog) 25 3 .i64 Try.underlying25 hi039 Ao40 x7_1.length co40 t138 (of_decide_eq_true (by first | (with_reducible assumption) | assumption)) q39 hroom39; have hr39 := Kd.C_take (m := (t138 : Int).toNat) hC39 (by omega); have hy39 : y139.length = (t138 : Int).toNat := (by rw [Ny139.out, List.length_take]; omega); rw [← Ny139.out] at hr39; rw [← hy39] at hcut39; have HR142 := Aside0.mk hr39; have HC142 := Aside0.mk (show y139.length ≤ co40 from by omega); clear hr39 hC39 hroom39 hi039 hsz39; have KY39 := Aside0.mk hy39; clear hy39; have KL39 := Aside0.mk (show (t138 : Int).toNat ≤ x7_1.length from by omega); replace q39 := eq_true q39) | ((with_reducible refine gate_callee (f := 69) rfl ?_); refine goesL_ (some 52) rfl rfl Try.func69 (by kernel_rfl) rfl #[.slice Ao40 y139.length co40] rfl (by (try simp only [List.map_toArray, List.map_cons, List.map_nil]); first | done | rfl | (simp only [List.length_drop, List.length_take]; rfl)) ?_; (with_reducible refine (spec_l1Own.calls _ _ y139 t143 _ ?side1 ?side2 A38.out).mono ?_); (case side1 => repeat (first | exact (by repeat (first | (with_reducible exact HR142.out) | (with_reducible refine Kd.C_alloc ?_ _) | (with_reducible refine Kd.C_drewN ?_ _) | (with_reducible refine Kd.C_drew ?_) | exact HR142.out)) | (with_reducible refine Kd.C_alloc ?_ _) | (with_reducible refine Kd.C_drewN ?_ _) | (with_reducible refine Kd.C_drew ?_))); (case side2 => exact HC142.out); rintro e w41 ⟨v144, rfl, ho0, hb⟩; refine ⟨_, rfl, ?_⟩; have n0_ := Aside0.mk (Kd.R_below (by (with_reducible repeat (first | apply Kd.R_alloc | apply Kd.R_drewN | apply Kd.R_drew)); exact HO_6.out) hb); have n1_ := Aside0.mk (Kd.R_elder' (by (with_reducible repeat (first | apply Kd.R_alloc | apply Kd.R_drewN | apply Kd.R_drew)); exact HO_7.out) (Kd.R_base ho0) hb); have n2_ := Aside0.mk (Kd.R_lower (Kd.R_new' ho0 (Kd.R_lt (by (with_reducible repeat (first | apply Kd.R_alloc | apply Kd.R_drewN | apply Kd.R_drew)); exact HO_7.out))) (below_size (by repeat (first | (with_reducible first | exact HB.out | apply below_alloc | apply pw_below_drewN | apply below_drew1) | exact HB.out)))); have n3_ := Aside0.mk (Kd.C_below (by repeat (first | (with_reducible exact HR142.out) | (with_reducible refine Kd.C_alloc ?_ _) | (with_reducible refine Kd.C_drewN ?_ _) | (with_reducible refine Kd.C_drew ?_) | exact HR142.out)) hb); have n4_ := Aside0.mk (below_step (by repeat (first | (with_reducible first | exact HB.out | apply below_alloc | apply pw_below_drewN | apply below_drew1) | exact HB.out)) hb); clear HO_6; clear HO_7; clear HR142; clear HB; have HO_6 := n0_; have HO_7 := n1_; have HO145 := n2_; have HR142 := n3_; have HB := n4_; clear n0_ n1_ n2_ n3_ n4_; (try clear hb); (try clear hb2); (try clear hk); (try clear hi); (try clear ho0)))
                        go_ret2
                        exact ⟨_, by first | rfl | (simp [errW_none, errW_some] <;> rfl) | (simp [*, errW_none, errW_some] <;> rfl), by (with_reducible repeat (first | apply Kd.R_alloc | apply Kd.R_drewN | apply Kd.R_drew)); exact Kd.R_mono HO145.out (fun _ hk => trivial), by repeat (first | (with_reducible first | exact HB.out | apply below_alloc | apply pw_below_drewN | apply below_drew1) | exact HB.out)⟩
                      · rw [if_neg c37] at H
                        exact absurd H (by simp)
                    · rw [if_neg c36] at H
                      exact absurd H (by simp)
            · rw [if_neg c11] at H
              exact absurd H (by simp)
          · rw [if_neg c10] at H
            exact absurd H (by simp)
        · rw [if_neg c8] at H
          exact absurd H (by simp)
      · rw [if_neg c7] at H
        exact absurd H (by simp)
    · rw [if_neg c6] at H
      exact absurd H (by simp)
  · replace c4 := Bool.eq_false_iff.mpr c4
    subst c4
    have H1 : (some (([] : List Int), false)) = some (r1, r2) := by rw [if_neg (show ¬ (false = true) by decide)] at H; exact H
    clear H
    have H := H1
    clear H1
    simp only [Option.some.injEq, Prod.mk.injEq] at H
    obtain ⟨rfl, rfl⟩ := H
    go_enter Try.func35, Try.ntmps35
    go_wp2_with (first | ((with_reducible refine gate_callee (f := 50) rfl ?_); refine goesL_ (some 11) rfl rfl Try.func50 (by kernel_rfl) rfl #[.int .i64 a0, .int .i64 a1] rfl (by (try simp only [List.map_toArray, List.map_cons, List.map_nil]); first | done | rfl | (simp only [List.length_drop, List.length_take]; rfl)) ?_; (with_reducible refine (spec_brKind.calls k a0 a1 false _ A3.out).mono ?_); rintro e w' ⟨rfl, ⟨nd, rfl⟩⟩; refine ⟨_, rfl, ?_⟩))
    go_ret2
    exact ⟨_, by first | rfl | (simp [errW_none, errW_some] <;> rfl) | (simp [*, errW_none, errW_some] <;> rfl), by first | exact Kd.R_nil _ _ _ _ _ | exact Kd.N_nil _ _ _ _ _ | exact Kd.V_nil _ _ _ _ _ | exact Kd.Q_nil _ _ _ _ _ | exact Kd.S_nil _ _ _ _ _, by repeat (first | (with_reducible first | exact HB.out | apply below_alloc | apply pw_below_drewN | apply below_drew1) | exact HB.out)⟩

/-! ### impl_within: function 48 -/
def impl_within.f (a0 : Int) (a1 : Int) (a2 : Int) : Option (Bool) := if a0 ≥ a1 then (some (decide (a0 ≤ a2))) else (some false)
set_option maxHeartbeats 8000000 in
set_option maxRecDepth 100000 in
theorem impl_within.calls (a0 : Int) (a1 : Int) (a2 : Int) (r : Bool) (w : World) (h : impl_within.f a0 a1 a2 = some r) :
    Calls Try.prog 48 #[.int .i64 a0, .int .i64 a1, .int .i64 a2] w fun e w' => e = .returned (.bool r) ∧ Drawn0 w w' := by
  have H : (if a0 ≥ a1 then (some (decide (a0 ≤ a2))) else (some false)) = some r := h
  clear h
  by_cases c4 : a0 ≥ a1
  · rw [if_pos c4] at H
    have c4b0 : decide (a1 ≤ a0) = true := decide_eq_true c4
    clear c4
    obtain rfl := Option.some.inj H
    go_enter Try.func48, Try.ntmps48
    go_wp2
    go_ret
    exact ⟨by first | rfl | (simp; done) | (simp [*]; done), by repeat (first | exact Drawn0.refl _ | apply Drawn0.step)⟩
  · rw [if_neg c4] at H
    have c4b0 : decide (a1 ≤ a0) = false := decide_eq_false c4
    clear c4
    obtain rfl := Option.some.inj H
    go_enter Try.func48, Try.ntmps48
    go_wp2
    go_ret
    exact ⟨by first | rfl | (simp; done) | (simp [*]; done), by repeat (first | exact Drawn0.refl _ | apply Drawn0.step)⟩

/-! ### impl_power: function 65 -/
def impl_power.l0 : Nat → Int → Int → Int → Int → Option (Int)
  | 0, _, _, _, _ => none
  | k + 1, x0, x5, x6, x7 => if x7 < x6 then (impl_power.l0 k x0 (wrap64 (x5 * x0)) x6 (wrap64 (x7 + 1))) else (some x5)
def impl_power.f (k : Nat) (a0 : Int) (a1 : Int) : Option (Int) := impl_power.l0 k a0 1 a1 0
theorem impl_power.mono_l : ∀ k, (∀ y0 y1 y2 y3, LeO (impl_power.l0 k y0 y1 y2 y3) (impl_power.l0 (k + 1) y0 y1 y2 y3))
  | 0 => fun _ _ _ _ r h => by simp [impl_power.l0] at h
  | k + 1 => by
    have ih0 := impl_power.mono_l k
    · intro y0 y1 y2 y3
      unfold impl_power.l0
      repeat' first
      | (with_reducible exact ih0 _ _ _ _)
      | (with_reducible exact LeO.refl _)
      | (with_reducible exact LeO.none _)
      | (with_reducible refine LeO.ite ?_ ?_)
      | (with_reducible refine LeO.bind ?_ (fun _ => ?_))
      | exact ih0 _ _ _ _
      | exact LeO.none _
      | refine LeO.ite ?_ ?_
      | refine LeO.bind ?_ (fun _ => ?_)
theorem impl_power.mono : ∀ a0 a1 k, LeO (impl_power.f k a0 a1) (impl_power.f (k + 1) a0 a1) := by
  intro a0 a1 k
  have ih0 := impl_power.mono_l k
  unfold impl_power.f
  repeat' first
      | (with_reducible exact ih0 _ _ _ _)
      | (with_reducible exact LeO.refl _)
      | (with_reducible exact LeO.none _)
      | (with_reducible refine LeO.ite ?_ ?_)
      | (with_reducible refine LeO.bind ?_ (fun _ => ?_))
      | exact ih0 _ _ _ _
      | exact LeO.none _
      | refine LeO.ite ?_ ?_
      | refine LeO.bind ?_ (fun _ => ?_)
set_option maxHeartbeats 8000000 in
set_option maxRecDepth 100000 in
theorem impl_power.calls (k : Nat) (a0 : Int) (a1 : Int) (r : Int) (w : World) (h : impl_power.f k a0 a1 = some r) :
    Calls Try.prog 65 #[.int .i64 a0, .int .i64 a1] w fun e w' => e = .returned (.int .i64 r) ∧ Drawn0 w w' := by
  have H : (impl_power.l0 k a0 1 a1 0) = some r := h
  clear h
  have H' := Aside0.mk H
  clear H
  go_enter Try.func65, Try.ntmps65
  go_wp2
  go_loopg [5, 7] k (fun kq v5 v7 w' => ∃ (x5_1 : Int) (x7_1 : Int), v5 = .int .i64 x5_1 ∧ v7 = .int .i64 x7_1 ∧ Aside0 (impl_power.l0 kq a0 x5_1 a1 x7_1 = some r) ∧ Aside0 (kq ≤ k) ∧ Drawn0 w w')
  case atStart => exact ⟨(1), (0), (by first | rfl | (simp; done) | (simp [*]; done)), (by first | rfl | (simp; done) | (simp [*]; done)), H', ⟨Nat.le_refl _⟩, by repeat (first | exact Drawn0.refl _ | apply Drawn0.step)⟩
  case round =>
    clear H'
    try clear p2
    obtain ⟨x5_1, x7_1, rfl, rfl, HA, HK1, ⟨m1, rfl⟩⟩ := hrel
    cases gk with
    | zero => exact absurd HA.out (by simp [impl_power.l0])
    | succ k1 =>
      have H := HA.out
      clear HA
      simp only [impl_power.l0] at H
      by_cases c3 : x7_1 < a1
      · rw [if_pos c3] at H
        have c3b0 : decide (x7_1 < a1) = true := decide_eq_true c3
        clear c3
        have H' := Aside0.mk H
        clear H
        go_wp2
        go_roundg k1
        case measure => have := HK1.out; omega
        case rel => exact ⟨(wrap64 (x5_1 * a0)), (wrap64 (x7_1 + 1)), (by first | rfl | (simp; done) | (simp [*]; done)), (by first | rfl | (simp; done) | (simp [*]; done)), H', ⟨by have := HK1.out; omega⟩, by repeat (first | exact Drawn0.refl _ | apply Drawn0.step)⟩
      · rw [if_neg c3] at H
        have c3b0 : decide (x7_1 < a1) = false := decide_eq_false c3
        clear c3
        obtain rfl := Option.some.inj H
        go_wp2
        go_ret
        exact ⟨by first | rfl | (simp; done) | (simp [*]; done), by repeat (first | exact Drawn0.refl _ | apply Drawn0.step)⟩

/-! ### impl_isBruijnSize: function 52 -/
def impl_isBruijnSize.f (k : Nat) (a0 : Int) (a1 : Int) : Option (Bool) := (impl_within.f a0 1 10).bind fun t146 => (if t146 = true then ((impl_within.f a1 2 6).bind fun t147 => (if t147 = true then ((impl_power.f k a1 a0).bind fun t148 => (some (decide (t148 ≤ 1024)))) else (some false))) else (some false))
theorem impl_isBruijnSize.mono : ∀ a0 a1 k, LeO (impl_isBruijnSize.f k a0 a1) (impl_isBruijnSize.f (k + 1) a0 a1) := by
  intro a0 a1 k
  unfold impl_isBruijnSize.f
  repeat' first
      | (with_reducible exact impl_power.mono _ _ _)
      | (with_reducible exact LeO.refl _)
      | (with_reducible exact LeO.none _)
      | (with_reducible refine LeO.ite ?_ ?_)
      | (with_reducible refine LeO.bind ?_ (fun _ => ?_))
      | exact impl_power.mono _ _ _
      | exact LeO.none _
      | refine LeO.ite ?_ ?_
      | refine LeO.bind ?_ (fun _ => ?_)
set_option maxHeartbeats 8000000 in
set_option maxRecDepth 100000 in
theorem impl_isBruijnSize.calls (k : Nat) (a0 : Int) (a1 : Int) (r : Bool) (w : World) (h : impl_isBruijnSize.f k a0 a1 = some r) :
    Calls Try.prog 52 #[.int .i64 a0, .int .i64 a1] w fun e w' => e = .returned (.bool r) ∧ Drawn0 w w' := by
  have H : ((impl_within.f a0 1 10).bind fun t146 => (if t146 = true then ((impl_within.f a1 2 6).bind fun t147 => (if t147 = true then ((impl_power.f k a1 a0).bind fun t148 => (some (decide (t148 ≤ 1024)))) else (some false))) else (some false))) = some r := h
  clear h
  replace H := Option.bind_eq_some_iff.mp H
  obtain ⟨t146, A30, H⟩ := H
  replace H : (if t146 = true then ((impl_within.f a1 2 6).bind fun t147 => (if t147 = true then ((impl_power.f k a1 a0).bind fun t148 => (some (decide (t148 ≤ 1024)))) else (some false))) else (some false)) = some r := H
  have A3 := Aside0.mk A30
  clear A30
  by_cases c4 : t146 = true
  · subst c4
    have H1 : ((impl_within.f a1 2 6).bind fun t147 => (if t147 = true then ((impl_power.f k a1 a0).bind fun t148 => (some (decide (t148 ≤ 1024)))) else (some false))) = some r := by rw [if_pos rfl] at H; exact H
    clear H
    have H := H1
    clear H1
    replace H := Option.bind_eq_some_iff.mp H
    obtain ⟨t147, A50, H⟩ := H
    replace H : (if t147 = true then ((impl_power.f k a1 a0).bind fun t148 => (some (decide (t148 ≤ 1024)))) else (some false)) = some r := H
    have A5 := Aside0.mk A50
    clear A50
    by_cases c6 : t147 = true
    · subst c6
      have H1 : ((impl_power.f k a1 a0).bind fun t148 => (some (decide (t148 ≤ 1024)))) = some r := by rw [if_pos rfl] at H; exact H
      clear H
      have H := H1
      clear H1
      replace H := Option.bind_eq_some_iff.mp H
      obtain ⟨t148, A70, H⟩ := H
      replace H : (some (decide (t148 ≤ 1024))) = some r := H
      have A7 := Aside0.mk A70
      clear A70
      obtain rfl := Option.some.inj H
      go_enter Try.func52, Try.ntmps52
      go_wp2_with (first | ((with_reducible refine gate_callee (f := 48) rfl ?_); refine goesL_ (some 6) rfl rfl Try.func48 (by kernel_rfl) rfl #[.int .i64 a0, .int .i64 1, .int .i64 10] rfl (by (try simp only [List.map_toArray, List.map_cons, List.map_nil]); first | done | rfl | (simp only [List.length_drop, List.length_take]; rfl)) ?_; (with_reducible refine (impl_within.calls a0 1 10 true _ A3.out).mono ?_); rintro e w' ⟨rfl, ⟨nd, rfl⟩⟩; refine ⟨_, rfl, ?_⟩) | (go_at_call 48; (with_reducible refine (impl_within.calls a1 2 6 true _ A5.out).mono ?_); rintro e w' ⟨rfl, ⟨nd, rfl⟩⟩) | (go_at_call 65; (with_reducible refine (impl_power.calls k a1 a0 t148 _ A7.out).mono ?_); rintro e w' ⟨rfl, ⟨nd, rfl⟩⟩))
      go_ret
      exact ⟨by first | rfl | (simp; done) | (simp [*]; done), by repeat (first | exact Drawn0.refl _ | apply Drawn0.step)⟩
    · replace c6 := Bool.eq_false_iff.mpr c6
      subst c6
      have H1 : (some false) = some r := by rw [if_neg (show ¬ (false = true) by decide)] at H; exact H
      clear H
      have H := H1
      clear H1
      obtain rfl := Option.some.inj H
      go_enter Try.func52, Try.ntmps52
      go_wp2_with (first | ((with_reducible refine gate_callee (f := 48) rfl ?_); refine goesL_ (some 6) rfl rfl Try.func48 (by kernel_rfl) rfl #[.int .i64 a0, .int .i64 1, .int .i64 10] rfl (by (try simp only [List.map_toArray, List.map_cons, List.map_nil]); first | done | rfl | (simp only [List.length_drop, List.length_take]; rfl)) ?_; (with_reducible refine (impl_within.calls a0 1 10 true _ A3.out).mono ?_); rintro e w' ⟨rfl, ⟨nd, rfl⟩⟩; refine ⟨_, rfl, ?_⟩) | (go_at_call 48; (with_reducible refine (impl_within.calls a1 2 6 false _ A5.out).mono ?_); rintro e w' ⟨rfl, ⟨nd, rfl⟩⟩))
      go_ret
      exact ⟨by first | rfl | (simp; done) | (simp [*]; done), by repeat (first | exact Drawn0.refl _ | apply Drawn0.step)⟩
  · replace c4 := Bool.eq_false_iff.mpr c4
    subst c4
    have H1 : (some false) = some r := by rw [if_neg (show ¬ (false = true) by decide)] at H; exact H
    clear H
    have H := H1
    clear H1
    obtain rfl := Option.some.inj H
    go_enter Try.func52, Try.ntmps52
    go_wp2_with (first | ((with_reducible refine gate_callee (f := 48) rfl ?_); refine goesL_ (some 6) rfl rfl Try.func48 (by kernel_rfl) rfl #[.int .i64 a0, .int .i64 1, .int .i64 10] rfl (by (try simp only [List.map_toArray, List.map_cons, List.map_nil]); first | done | rfl | (simp only [List.length_drop, List.length_take]; rfl)) ?_; (with_reducible refine (impl_within.calls a0 1 10 false _ A3.out).mono ?_); rintro e w' ⟨rfl, ⟨nd, rfl⟩⟩; refine ⟨_, rfl, ?_⟩))
    go_ret
    exact ⟨by first | rfl | (simp; done) | (simp [*]; done), by repeat (first | exact Drawn0.refl _ | apply Drawn0.step)⟩

/-! ### slices_Clone_int_int: function 70 (a contract of this session's own) -/
def slices_Clone_int_int.f (l0 : List Int) : Option (List Int) := if l0.length < 17592186044416 then (some l0) else (none)
set_option maxHeartbeats 8000000 in
set_option maxRecDepth 100000 in
theorem slices_Clone_int_int.calls (A0 : Option Addr) (c0 : Nat) (l0 : List Int) (r : List Int) (w : World) (hr0 : Kd.C (Kd.int .i64) w A0 l0.length l0) (hc0 : l0.length ≤ c0) (h : slices_Clone_int_int.f l0 = some r) :
    Calls Try.prog 70 #[.slice A0 l0.length c0] w fun e w' => ∃ v0_ : Value, e = .returned (v0_) ∧ Kd.R (Kd.int .i64) 3 w' w.heap.size (fun _ => True) v0_ r ∧ Below w.heap.size w w' := by
  unfold slices_Clone_int_int.f at h
  by_cases c2 : l0.length < 17592186044416
  · rw [if_pos c2] at h
    obtain rfl := Option.some.inj h
    have kn := fun W : World => Lib.run_eql_slice_nil (P := Try.prog) W 25 3 A0 l0.length c0 0 0 Try.underlying25
    cases A0 with
    | none =>
      have hl : l0.length = 0 := by
        rcases Nat.eq_zero_or_pos l0.length with h0 | h0
        · exact h0
        · obtain ⟨ad, e, _⟩ := hr0.2.2 h0
          cases e
      have hn : l0 = [] := List.eq_nil_of_length_eq_zero hl
      have HN := Aside0.mk hn
      clear hr0 hl hn
      go_enter Try.func70, Try.ntmps70
      go_wp2
      go_ret
      exact ⟨_, rfl, by rw [HN.out]; exact Kd.R_nil _ _ _ _ _, Below.refl _ _⟩
    | some ad =>
      have HR0 := Aside0.mk hr0
      have LM := Aside0.mk c2
      have HB := Aside0.mk (Below.refl w.heap.size w)
      obtain ⟨y1, hy1⟩ : ∃ y_ : List Int, y_ = (([] : List Int)) := ⟨_, rfl⟩
      have Ny1 := Aside0.mk hy1
      clear hr0 hc0 c2 hy1
      go_enter Try.func70, Try.ntmps70
      go_wp2_with (first | ((with_reducible refine gate_dst (N := 5) rfl ?_); refine Kd.R_lit (Kd.int .i64) _ 3 ?hg (N := 5) ?hd (xs := ([] : List Int)) (inner := []) (ok := fun _ => True) (okp := fun _ => True) ?hr ?hp (fun _ hk => hk) trivial (Below.refl _ _) (Nat.le_refl _) (by simp) ?_; (case hd => rfl); (case hg => rfl); (case hr => first | (go_simp; done) | (go_simp; rfl)); (case hp => exact (Reps.none _ _)); intro v145 w3 ho4 hb hg_ hnew_; clear hg_ hnew_; (first | rw [← Ny1.out] at ho4 | (simp only [Int.reduceToNat] at ho4; rw [← Ny1.out] at ho4)); have n0_ := Aside0.mk (Kd.R_lower ho4 (below_size (by repeat (first | (with_reducible first | exact HB.out | apply below_alloc | apply pw_below_drewN | apply below_drew1) | exact HB.out)))); have n1_ := Aside0.mk (below_step (by repeat (first | (with_reducible first | exact HB.out | apply below_alloc | apply pw_below_drewN | apply below_drew1) | exact HB.out)) hb); clear HB; have HO146 := n0_; have HB := n1_; clear n0_ n1_; clear hb ho4) | ((with_reducible refine gate_builtin (b := .append) (xs := #[.tmp 5, .tmp 6]) rfl ?_); at_builtin; refine Kd.R_append_rows (Kd.int .i64) (w0 := w) w.heap.size rfl (.tmp 5) (.tmp 6) 25 3 (.int .i64 0) 8 rfl Try.underlying25 info3 rfl (by decide) (by omega) v145 y1 l0 _ _ _ (fun _ => True) (fun _ => False) rfl rfl ?aO ?aR (fun _ _ h => h) (fun _ h => h.elim) ?aF ?aB ?aS ?aL ?_; (case aR => repeat (first | exact (Kd.C_below HR0.out HB.out) | (with_reducible refine Kd.C_alloc ?_ _) | (with_reducible refine Kd.C_drewN ?_ _) | (with_reducible refine Kd.C_drew ?_))); (case aB => exact (by repeat (first | (with_reducible first | exact HB.out | apply below_alloc | apply pw_below_drewN | apply below_drew1) | exact HB.out))); (case aF => exact (fun _ _ => trivial)); (case aO => exact (by (with_reducible repeat (first | apply Kd.R_alloc | apply Kd.R_drewN | apply Kd.R_drew)); exact HO146.out)); (case aS => exact (below_size (by repeat (first | (with_reducible first | exact HB.out | apply below_alloc | apply pw_below_drewN | apply below_drew1) | exact HB.out)))); (case aL => have := LM.out; rw [Ny1.out]; simp; omega); intro v148 w5 ho hb hg hat; have n0_ := Aside0.mk (hb); have n1_ := Aside0.mk (ho); clear HB; clear HO146; have HB := n0_; have HO149 := n1_; clear n0_ n1_; clear ho hb hg hat))
      go_ret
      exact ⟨_, rfl, by have z := HO149.out; rw [Ny1.out, List.nil_append] at z; exact z, HB.out⟩
  · rw [if_neg c2] at h
    exact absurd h (by simp)

/-! ### impl_GreedyBruijn: function 36 (a contract of this session's own) -/
def impl_GreedyBruijn.next (kk size code x : Int) : Int := Int.tmod (wrap64 (wrap64 (code * kk) + x)) size
def impl_GreedyBruijn.l0 : Nat → Int → Int → List Int → Nat → Int → Int → Option (List Int × Bool)
  | 0, _, _, _, _, _, _ => none
  | k + 1, kk, size, out, m, code, x => if 0 ≤ x then (if size ≠ 0 then (if (decide (0 ≤ impl_GreedyBruijn.next kk size code x) && m.testBit (impl_GreedyBruijn.next kk size code x).toNat) = true then (impl_GreedyBruijn.l0 k kk size out m code (wrap64 (x - 1))) else (if 0 ≤ impl_GreedyBruijn.next kk size code x then (if out.length < 17592186044416 then (impl_GreedyBruijn.l0 k kk size (out ++ [x]) (m ||| (1 <<< (impl_GreedyBruijn.next kk size code x).toNat)) (impl_GreedyBruijn.next kk size code x) (wrap64 (kk - 1))) else none) else none)) else none) else (if 0 ≤ size then (if size ≤ (out.length : Int) then ((slices_Clone_int_int.f (out.take size.toNat)).bind fun t => (some (t, true))) else none) else none)
def impl_GreedyBruijn.f (k : Nat) (a0 : Int) (a1 : Int) : Option (List Int × Bool) := (impl_isBruijnSize.f k a0 a1).bind fun b => (if b = true then ((impl_power.f k a1 a0).bind fun size => (if 0 ≤ a0 then (if a0.toNat ≤ 35184372088832 then (impl_GreedyBruijn.l0 k a1 size (List.replicate a0.toNat 0) 1 0 (wrap64 (a1 - 1))) else none) else none)) else (some (([] : List Int), false)))
theorem impl_GreedyBruijn.mono_l : ∀ k, (∀ y0 y1 y2 y3 y4 y5, LeO (impl_GreedyBruijn.l0 k y0 y1 y2 y3 y4 y5) (impl_GreedyBruijn.l0 (k + 1) y0 y1 y2 y3 y4 y5))
  | 0 => fun _ _ _ _ _ _ r h => by simp [impl_GreedyBruijn.l0] at h
  | k + 1 => by
    have ih := impl_GreedyBruijn.mono_l k
    intro y0 y1 y2 y3 y4 y5
    unfold impl_GreedyBruijn.l0
    exact LeO.ite (LeO.ite (LeO.ite (ih _ _ _ _ _ _) (LeO.ite (LeO.ite (ih _ _ _ _ _ _) (LeO.refl _)) (LeO.refl _))) (LeO.refl _)) (LeO.refl _)
theorem impl_GreedyBruijn.mono : ∀ a0 a1 k, LeO (impl_GreedyBruijn.f k a0 a1) (impl_GreedyBruijn.f (k + 1) a0 a1) := fun a0 a1 k =>
  LeO.bind (impl_isBruijnSize.mono _ _ _) (fun _ => LeO.ite (LeO.bind (impl_power.mono _ _ _) (fun _ => LeO.ite (LeO.ite (impl_GreedyBruijn.mono_l k _ _ _ _ _ _) (LeO.refl _)) (LeO.refl _))) (LeO.refl _))
open Go.Proofs.Ytdhmdlecagjohaa.MapSets Go.Maps in
theorem impl_GreedyBruijn.zeroB (w : World) : (zeroValue 4).run Try.prog w = .ok (.bool false) w := by kernel_rfl
open Go.Proofs.Ytdhmdlecagjohaa.MapSets in
set_option maxHeartbeats 8000000 in
set_option maxRecDepth 100000 in
theorem impl_GreedyBruijn.calls (k : Nat) (a0 a1 : Int) (r1 : List Int) (r2 : Bool) (w : World) (h : impl_GreedyBruijn.f k a0 a1 = some (r1, r2)) :
    Calls Try.prog 36 #[.int .i64 a0, .int .i64 a1] w fun e w' => ∃ v0_ : Value, e = .returned (.tuple #[v0_, .bool r2]) ∧ Kd.R (Kd.int .i64) 3 w' w.heap.size (fun _ => True) v0_ r1 ∧ Below w.heap.size w w' := by
  have HB := Aside0.mk (Below.refl w.heap.size w)
  have hmm := @run_makeMap Try.prog
  unfold impl_GreedyBruijn.f at h
  obtain ⟨b, hb, H⟩ := Option.bind_eq_some_iff.mp h
  clear h
  have A1 := Aside0.mk hb
  clear hb
  by_cases c1 : b = true
  · subst c1
    replace H := (if_pos rfl).symm.trans H
    obtain ⟨size, hs, H⟩ := Option.bind_eq_some_iff.mp H
    have A2 := Aside0.mk hs
    clear hs
    by_cases c2 : 0 ≤ a0
    · rw [if_pos c2] at H
      have c2b := decide_eq_true c2
      by_cases c3 : a0.toNat ≤ 35184372088832
      · rw [if_pos c3] at H
        have H' := Aside0.mk H
        clear H
        have C2 := Aside0.mk c2
        have C3 := Aside0.mk c3
        clear c2 c3
        obtain ⟨y, hy⟩ : ∃ y : List Int, y = List.replicate a0.toNat 0 := ⟨_, rfl⟩
        rw [← hy] at H'
        have Ny := Aside0.mk hy
        clear hy
        go_enter Try.func36, Try.ntmps36
        go_wp2_with (first
          | ((with_reducible refine gate_callee (f := 52) rfl ?_); refine goesL_ (some 13) rfl rfl Try.func52 (by kernel_rfl) rfl #[.int .i64 a0, .int .i64 a1] rfl (by (try simp only [List.map_toArray, List.map_cons, List.map_nil]); first | done | rfl) ?_; (with_reducible refine (impl_isBruijnSize.calls k a0 a1 true _ A1.out).mono ?_); rintro e w' ⟨rfl, ⟨nd1, rfl⟩⟩; refine ⟨_, rfl, ?_⟩)
          | ((with_reducible refine gate_callee (f := 65) rfl ?_); refine goesL_ (some 17) rfl rfl Try.func65 (by kernel_rfl) rfl #[.int .i64 a1, .int .i64 a0] rfl (by (try simp only [List.map_toArray, List.map_cons, List.map_nil]); first | done | rfl) ?_; (with_reducible refine (impl_power.calls k a1 a0 size _ A2.out).mono ?_); rintro e w' ⟨rfl, ⟨nd2, rfl⟩⟩; refine ⟨_, rfl, ?_⟩)
          | ((with_reducible refine gate_dst (N := 19) rfl ?_); refine Kd.R_make (Kd.int .i64) _ 3 rfl (N := 19) rfl 25 _ _ rfl a0 rfl rfl Try.underlying25 (.int .i64 0) 8 info3 rfl (by decide) (by omega) 0 (ok := fun _ => True) (okp := fun _ => True) rfl (fun _ hk => hk) trivial (of_decide_eq_true c2b) (Nat.le_trans (Nat.mul_le_mul_right _ C3.out) (by omega)) (Below.refl _ _) (Nat.le_refl _) ?_; intro v19 w3 ho hb hg_ hnew_; clear hg_ hnew_; rw [← Ny.out] at ho)
          | ((with_reducible refine gate_insert (t := 55) (m := .tmp 20) rfl ?_); refine update_op (t := 55) (k := 3) (e := 4) rfl _ _ _ (.inr rfl) (Go.Maps.int_keyed Try.underlying3) Try.underlying55 Try.underlying4 rfl (KSet.made _) (by unfold maxLen; omega) _ (.int .i64 0) rfl rfl (Go.Maps.keyOf_int_mk Try.underlying3 (by decide)) ?_; intro w4 hs4 hg4; simp only [Bool.false_eq_true, if_false] at hs4))
        have hb3 : Below w.heap.size w w3 := below_step (pw_below_drewN (Below.refl _ _) _) hb
        have hB3 := hb3.size
        have ha4 : some w3.heap.size ≠ v19.ownBlock := fun e => by have := Kd.R_lt ho _ e.symm; omega
        have n0_ : Aside0 (Below w.heap.size w w4) := ⟨(below_alloc hb3 _).grown hg4 (below_alloc hb3 _).size (fun j hj => by cases hj; exact hb3.size)⟩
        have n1_ : Aside0 (Kd.R (Kd.int .i64) 3 w4 w.heap.size (fun _ => True) v19 y) := ⟨Kd.R_grown2 (Kd.R_alloc (Kd.R_lower ho (by simp)) _) rfl hg4 (fun k hk => by cases hk; exact ha4)⟩
        have n2_ : Aside0 (BSet Try.prog 3 4 w4 w3.heap.size (y.length + 1) 1) := ⟨_, _, hs4.mono (by omega), fun c => by simpa using bset_add (m := 0) (S := fun _ => false) (by simp) (c := 0) (by omega) c⟩
        have n3_ : Aside0 (y.length < 17592186044417 * 2) := ⟨by rw [Ny.out, List.length_replicate]; have := C3.out; omega⟩
        clear HB hs4 hg4 ho hb ha4
        have HB := n0_
        have HO := n1_
        have HS := n2_
        have HL := n3_
        clear n0_ n1_ n2_ n3_ hb3
        go_loopg [7, 9] k (fun kq v7 v9 w' => ∃ (out : List Int) (m : Nat) (code : Int), v9 = .int .i64 code ∧ Aside0 (impl_GreedyBruijn.l0 kq a1 size out m code (wrap64 (a1 - 1)) = some (r1, r2)) ∧ Aside0 (kq ≤ k) ∧ Aside0 (Kd.R (Kd.int .i64) 3 w' w.heap.size (fun _ => True) v7 out) ∧ Aside0 (BSet Try.prog 3 4 w' w3.heap.size (out.length + 1) m) ∧ Aside0 (out.length < 17592186044417 * 2) ∧ Aside0 (Below w.heap.size w w'))
        case atStart => exact ⟨y, 1, 0, rfl, H', ⟨Nat.le_refl _⟩, HO, HS, HL, HB⟩
        case round =>
          clear H' HO HS HL HB
          obtain ⟨out, m, code, rfl, HA, HK1, HO, HS, HL, HB⟩ := hrel
          cases gk with
          | zero => exact absurd HA.out (by simp [impl_GreedyBruijn.l0])
          | succ k1 =>
            go_wp2
            go_loopg [10] (k1 + 1) (fun kq v10 w' => ∃ (x : Int), v10 = .int .i64 x ∧ Aside0 (impl_GreedyBruijn.l0 kq a1 size out m code x = some (r1, r2)) ∧ Aside0 (kq ≤ k1 + 1) ∧ Aside0 (Kd.R (Kd.int .i64) 3 w' w.heap.size (fun _ => True) u7 out) ∧ Aside0 (BSet Try.prog 3 4 w' w3.heap.size (out.length + 1) m) ∧ Aside0 (Below w.heap.size w w'))
            case atStart => exact ⟨wrap64 (a1 - 1), (by first | rfl | (simp; done)), HA, ⟨Nat.le_refl _⟩, ⟨(by (with_reducible repeat (first | apply Kd.R_alloc | apply Kd.R_drewN | apply Kd.R_drew)); exact HO.out)⟩, ⟨by obtain ⟨S, z, h1, h2⟩ := HS.out; exact ⟨S, z, (by repeat (first | exact h1 | apply KSet.alloc | apply KSet.drewN | apply KSet.drew)), h2⟩⟩, ⟨(by repeat (first | (with_reducible first | exact HB.out | apply below_alloc | apply pw_below_drewN | apply below_drew1) | exact HB.out))⟩⟩
            case round =>
              clear HA HO HS HB
              obtain ⟨x, rfl, HA, HK2, HO, HS, HB⟩ := hrel
              cases gk with
              | zero => exact absurd HA.out (by simp [impl_GreedyBruijn.l0])
              | succ k3 =>
                have H := HA.out
                clear HA
                simp only [impl_GreedyBruijn.l0] at H
                obtain ⟨S, z, hK, hS⟩ := HS.out
                have HKS := Aside0.mk hK
                have HSS := Aside0.mk hS
                clear hK hS HS
                by_cases cx : 0 ≤ x
                · rw [if_pos cx] at H
                  have cxb : decide (0 ≤ x) = true := decide_eq_true cx
                  clear cx
                  by_cases cz : size ≠ 0
                  · rw [if_pos cz] at H
                    have czb : (size == 0) = false := beq_eq_false_iff_ne.mpr cz
                    have czc : (size = 0) = False := eq_false cz
                    clear cz
                    have hwf : Aside0 ((Lit.int .i64 (impl_GreedyBruijn.next a1 size code x)).wf = true) := ⟨tmod_wf (wrap64_wf _)⟩
                    by_cases cm : (decide (0 ≤ impl_GreedyBruijn.next a1 size code x) && m.testBit (impl_GreedyBruijn.next a1 size code x).toNat) = true
                    · rw [if_pos cm] at H
                      have H' := Aside0.mk H
                      clear H
                      have hval : S (.int .i64 (impl_GreedyBruijn.next a1 size code x)) = true := (HSS.out _).trans cm
                      clear cm
                      go_wp2_with (first
                        | ((with_reducible refine gate_lookup (t := 55) (m := .tmp 27) rfl ?_); refine gate_guard (by rfl) ?_; refine lookup_op (t := 55) (k := 3) (e := 4) rfl _ _ rfl (Go.Maps.int_keyed Try.underlying3) Try.underlying55 Try.underlying4 (impl_GreedyBruijn.zeroB _) rfl (by repeat (first | exact HKS.out | apply KSet.alloc | apply KSet.drewN | apply KSet.drew)) _ (.int .i64 (impl_GreedyBruijn.next a1 size code x)) rfl (Go.Maps.keyOf_int_mk Try.underlying3 hwf.out) ?_; rw [hval]))
                      go_roundg k3
                      case measure => have := HK2.out; omega
                      case rel => exact ⟨wrap64 (x - 1), (by first | rfl | (simp; done)), H', ⟨by have := HK2.out; omega⟩, ⟨(by (with_reducible repeat (first | apply Kd.R_alloc | apply Kd.R_drewN | apply Kd.R_drew)); exact HO.out)⟩, ⟨S, z, (by repeat (first | exact HKS.out | apply KSet.alloc | apply KSet.drewN | apply KSet.drew)), HSS.out⟩, ⟨(by repeat (first | (with_reducible first | exact HB.out | apply below_alloc | apply pw_below_drewN | apply below_drew1) | exact HB.out))⟩⟩
                    · rw [if_neg cm] at H
                      have hval : S (.int .i64 (impl_GreedyBruijn.next a1 size code x)) = false := (HSS.out _).trans (Bool.eq_false_iff.mpr cm)
                      clear cm
                      by_cases cn : 0 ≤ impl_GreedyBruijn.next a1 size code x
                      · rw [if_pos cn] at H
                        have CN := Aside0.mk cn
                        clear cn
                        by_cases cl : out.length < 17592186044416
                        · rw [if_pos cl] at H
                          have H' := Aside0.mk H
                          have CL := Aside0.mk cl
                          clear H cl
                          have cxn : decide (x < 0) = false := decide_eq_false (by have := of_decide_eq_true cxb; omega)
                          obtain ⟨y2, hy2⟩ : ∃ y_ : List Int, y_ = out ++ [x] := ⟨_, rfl⟩
                          rw [← hy2] at H'
                          have Ny2 := Aside0.mk hy2
                          clear hy2
                          go_wp2_with (first
                            | ((with_reducible refine gate_lookup (t := 55) (m := .tmp 27) rfl ?_); refine gate_guard (by rfl) ?_; refine lookup_op (t := 55) (k := 3) (e := 4) rfl _ _ rfl (Go.Maps.int_keyed Try.underlying3) Try.underlying55 Try.underlying4 (impl_GreedyBruijn.zeroB _) rfl (by repeat (first | exact HKS.out | apply KSet.alloc | apply KSet.drewN | apply KSet.drew)) _ (.int .i64 (impl_GreedyBruijn.next a1 size code x)) rfl (Go.Maps.keyOf_int_mk Try.underlying3 hwf.out) ?_; rw [hval])
                            | ((with_reducible refine gate_update (t := 55) (m := .tmp 52) rfl ?_); refine update_op (t := 55) (k := 3) (e := 4) rfl _ _ _ (.inl rfl) (Go.Maps.int_keyed Try.underlying3) Try.underlying55 Try.underlying4 rfl (by repeat (first | exact HKS.out | apply KSet.alloc | apply KSet.drewN | apply KSet.drew)) (by have := CL.out; unfold maxLen; omega) _ (.int .i64 (impl_GreedyBruijn.next a1 size code x)) rfl rfl (Go.Maps.keyOf_int_mk Try.underlying3 hwf.out) ?_; intro w5 hs5 hg5; have hap := KSet.apart HKS.out (v := u7) (fun g hg => by obtain ⟨cells, hc⟩ := Kd.R_typed HO.out g hg; exact ⟨cells, _, hc⟩); have n0_ : Aside0 (Below w.heap.size w w5) := ⟨((by repeat (first | (with_reducible first | exact HB.out | apply below_alloc | apply pw_below_drewN | apply below_drew1) | exact HB.out)) : Below w.heap.size w _).grown hg5 (below_size (by repeat (first | (with_reducible first | exact HB.out | apply below_alloc | apply pw_below_drewN | apply below_drew1) | exact HB.out))) (fun j hj => by cases hj; exact hB3)⟩; have n1_ : Aside0 (Kd.R (Kd.int .i64) 3 w5 w.heap.size (fun _ => True) u7 out) := ⟨Kd.R_grown2 (by (with_reducible repeat (first | apply Kd.R_alloc | apply Kd.R_drewN | apply Kd.R_drew)); exact HO.out) rfl hg5 (fun k hk => by cases hk; exact hap)⟩; have n2_ := Aside0.mk hs5; clear HB HO hg5 hs5 hap; have HB := n0_; have HO := n1_; have HS5 := n2_; clear n0_ n1_ n2_)
                            | ((with_reducible refine gate_builtin (b := .append) (xs := #[.tmp 54, .tmp 56]) rfl ?_); at_builtin; refine Kd.R_append (Kd.int .i64) (w0 := w) w.heap.size rfl (.tmp 54) (.tmp 56) 25 3 (.int .i64 0) 8 rfl Try.underlying25 info3 rfl (by decide) (by omega) u7 out x [.int .i64 x] (fun _ => True) (fun _ => False) rfl rfl ?aP (fun _ hk => hk.elim) ?aF ?aO ?aB ?aS ?aL ?_; (case aP => exact rfl); (case aB => exact (by repeat (first | (with_reducible first | exact HB.out | apply below_alloc | apply pw_below_drewN | apply below_drew1) | exact HB.out))); (case aF => exact fun _ _ => trivial); (case aO => exact (by (with_reducible repeat (first | apply Kd.R_alloc | apply Kd.R_drewN | apply Kd.R_drew)); exact HO.out)); (case aS => exact (below_size (by repeat (first | (with_reducible first | exact HB.out | apply below_alloc | apply pw_below_drewN | apply below_drew1) | exact HB.out)))); (case aL => have := CL.out; omega); intro v6 w6 ho hb hg hat; rw [← Ny2.out] at ho))
                          have hap5 := KSet.apart HS5.out (v := u7) (fun g hg => by obtain ⟨cells, hc⟩ := Kd.R_typed HO.out g hg; exact ⟨cells, _, hc⟩)
                          have hlen : y2.length = out.length + 1 := by rw [Ny2.out]; simp
                          go_roundg k3
                          case measure => have := HK2.out; omega
                          case rel => exact ⟨y2, _, _, (by first | rfl | (simp; done)), H', ⟨by have := HK1.out; have := HK2.out; omega⟩, ⟨ho⟩, ⟨_, _, (HS5.out.kept hg hap5).mono (by omega), bset_add HSS.out CN.out⟩, ⟨by have := CL.out; omega⟩, ⟨hb⟩⟩
                        · rw [if_neg cl] at H; exact absurd H (by simp)
                      · rw [if_neg cn] at H; exact absurd H (by simp)
                  · rw [if_neg cz] at H; exact absurd H (by simp)
                · rw [if_neg cx] at H
                  have cxb : decide (0 ≤ x) = false := decide_eq_false cx
                  have cxn : decide (x < 0) = true := decide_eq_true (by omega)
                  clear cx
                  by_cases cs : 0 ≤ size
                  · rw [if_pos cs] at H
                    have csb : decide (0 ≤ size) = true := decide_eq_true cs
                    by_cases cl : size ≤ (out.length : Int)
                    · rw [if_pos cl] at H
                      obtain ⟨y3, hy3⟩ : ∃ y_ : List Int, y_ = out.take size.toNat := ⟨_, rfl⟩
                      rw [← hy3] at H
                      have Ny3 := Aside0.mk hy3
                      clear hy3
                      obtain ⟨t, ht, H⟩ := Option.bind_eq_some_iff.mp H
                      have A3 := Aside0.mk ht
                      clear ht
                      simp only [Option.some.injEq, Prod.mk.injEq] at H
                      obtain ⟨rfl, rfl⟩ := H
                      obtain ⟨Ao, co, eo⟩ := Kd.R_slice HO.out
                      subst eo
                      obtain ⟨i0, hi0, _, hsz, _⟩ := info_parts info3
                      have hroom : out.length ≤ co := (Kd.R_reads' HO.out).2.1
                      have hC : Kd.C (Kd.int .i64) _ Ao out.length out := (Kd.R_reads' HO.out).2.2
                      have hcut := cut_to (P := Try.prog) 25 3 .i64 Try.underlying25 hi0 Ao out.length co size cs cl hroom
                      have hr := Kd.C_take (m := size.toNat) hC (by omega)
                      have hy3l : y3.length = size.toNat := (by rw [Ny3.out, List.length_take]; omega)
                      rw [← Ny3.out] at hr
                      rw [← hy3l] at hcut
                      have HR := Aside0.mk hr
                      have HC := Aside0.mk (show y3.length ≤ co from by omega)
                      clear hr hC hroom hi0 hsz hy3l cs cl
                      go_wp2_with (first
                        | ((with_reducible refine gate_lookup (t := 55) (m := .tmp 27) rfl ?_); refine skip_guard (by rfl) ?_)
                        | ((with_reducible refine gate_callee (f := 70) rfl ?_); refine goesL_ (some 44) rfl rfl Try.func70 (by kernel_rfl) rfl #[.slice Ao y3.length co] rfl (by (try simp only [List.map_toArray, List.map_cons, List.map_nil]); first | done | rfl) ?_; (with_reducible refine (slices_Clone_int_int.calls _ _ y3 t _ ?side1 ?side2 A3.out).mono ?_); (case side1 => exact (by repeat (first | (with_reducible exact HR.out) | (with_reducible refine Kd.C_alloc ?_ _) | (with_reducible refine Kd.C_drewN ?_ _) | (with_reducible refine Kd.C_drew ?_) | exact HR.out))); (case side2 => exact HC.out); rintro e w9 ⟨v9_, rfl, ho9, hb9⟩; refine ⟨_, rfl, ?_⟩; have n0_ := Aside0.mk (Kd.R_lower ho9 (below_size (by repeat (first | (with_reducible first | exact HB.out | apply below_alloc | apply pw_below_drewN | apply below_drew1) | exact HB.out)))); have n1_ := Aside0.mk (below_step (by repeat (first | (with_reducible first | exact HB.out | apply below_alloc | apply pw_below_drewN | apply below_drew1) | exact HB.out)) hb9); clear HB ho9 hb9; have HO9 := n0_; have HB := n1_; clear n0_ n1_))
                      go_ret2
                      exact ⟨_, (by first | rfl | (simp; done)), HO9.out, HB.out⟩
                    · rw [if_neg cl] at H; exact absurd H (by simp)
                  · rw [if_neg cs] at H; exact absurd H (by simp)
      · rw [if_neg c3] at H; exact absurd H (by simp)
    · rw [if_neg c2] at H; exact absurd H (by simp)
  · rw [if_neg c1] at H
    obtain rfl := Bool.eq_false_iff.mpr c1
    simp only [Option.some.injEq, Prod.mk.injEq] at H
    obtain ⟨rfl, rfl⟩ := H
    go_enter Try.func36, Try.ntmps36
    go_wp2_with (first
      | ((with_reducible refine gate_callee (f := 52) rfl ?_); refine goesL_ (some 13) rfl rfl Try.func52 (by kernel_rfl) rfl #[.int .i64 a0, .int .i64 a1] rfl (by (try simp only [List.map_toArray, List.map_cons, List.map_nil]); first | done | rfl) ?_; (with_reducible refine (impl_isBruijnSize.calls k a0 a1 false _ A1.out).mono ?_); rintro e w' ⟨rfl, ⟨nd1, rfl⟩⟩; refine ⟨_, rfl, ?_⟩))
    go_ret2
    exact ⟨_, rfl, Kd.R_nil _ _ _ _ _, pw_below_drewN HB.out _⟩

end Go.Proofs.Ytdhmdlecagjohaa.PFnExactGreedyBruijn
