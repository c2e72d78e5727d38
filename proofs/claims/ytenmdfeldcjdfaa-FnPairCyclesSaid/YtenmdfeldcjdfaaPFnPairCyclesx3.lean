-- Written for this claim by a copy of the print that meets some functions by contracts of this session.
import Derived.Test.YtenmdfeldcjdfaaPFnPairCyclesx0
import Derived.Test.YtenmdfeldcjdfaaPFnPairCyclesx2
namespace Go.Proofs.Ytenmdfeldcjdfaa.PFnPairCycles
open Go.RowKit Go.Proofs.YtenmdfeldcjdfaaW.PrintWords Go.Proofs.YtenmdfeldcjdfaaW.PrintLast Go.Proofs.YtenmdfeldcjdfaaW.PrintMore
attribute [local go_sem] max2_int min2_int max_two min_two max_three min_three max_four min_four   -- for this text's walks alone
set_option linter.unusedVariables false
set_option linter.unusedSimpArgs false

/-! ### impl_PairCycle: function 8 (a contract of this session's own) -/
def impl_PairCycle.half (l : List Int) (a b : Int) : List Int := l.set a.toNat (Go.bits .xor .i64 (rd l a) (shl .i64 1 b))
def impl_PairCycle.turn (l : List Int) (a b : Int) : List Int := impl_PairCycle.half (impl_PairCycle.half l a b) b a
theorem impl_PairCycle.grown_trans {a b c : World} {row : Option Nat} (h : a.grownBy b row) (k : b.grownBy c row) : a.grownBy c row := ⟨k.os.trans h.os, k.tape.trans h.tape, k.output.trans h.output, Nat.le_trans h.size k.size, fun i hi hn => (k.block i (Nat.lt_of_lt_of_le hi h.size) hn).trans (h.block i hi hn)⟩
set_option maxHeartbeats 8000000 in
set_option maxRecDepth 100000 in
theorem impl_PairCycle.turn_calls (l : List Int) (a b : Int) (bl g c m B : Nat) (w : World) (hm : l.length = m) (hc : w.cell? ⟨bl, 0, none⟩ = some (.slice (some ⟨g, 0, none⟩) m c)) (hR : Kd.R (Kd.int .i64) 3 w B (fun _ => True) (.slice (some ⟨g, 0, none⟩) m c) l) (ha0 : 0 ≤ a) (ha1 : a < (l.length : Int)) (hb0 : 0 ≤ b) (hb1 : b < (l.length : Int)) (hne : bl ≠ g) :
    Calls Try.prog 33 #[.int .i64 a, .int .i64 b, .pointer (some ⟨bl, 0, none⟩)] w fun e w' => e = .returned (.tuple #[]) ∧ Kd.R (Kd.int .i64) 3 w' B (fun _ => True) (.slice (some ⟨g, 0, none⟩) m c) (impl_PairCycle.turn l a b) ∧ w.grownBy w' (some g) := by
  subst hm
  have a0b : decide (0 ≤ a) = true := decide_eq_true ha0
  have a1b : decide (a < (l.length : Int)) = true := decide_eq_true ha1
  have b0b : decide (0 ≤ b) = true := decide_eq_true hb0
  have b1b : decide (b < (l.length : Int)) = true := decide_eq_true hb1
  obtain ⟨y1, hy1⟩ : ∃ y : List Int, y = impl_PairCycle.half l a b := ⟨_, rfl⟩
  obtain ⟨y2, hy2⟩ : ∃ y : List Int, y = impl_PairCycle.half y1 b a := ⟨_, rfl⟩
  have hy : impl_PairCycle.turn l a b = y2 := by rw [hy2, hy1]; rfl
  have hl1 : y1.length = l.length := by rw [hy1]; unfold impl_PairCycle.half; rw [List.length_set]
  rw [hy]
  clear hy
  unfold impl_PairCycle.half at hy1 hy2
  obtain ⟨s1, hs1⟩ : ∃ s : Int, shl .i64 1 b = s := ⟨_, rfl⟩
  obtain ⟨s2, hs2⟩ : ∃ s : Int, shl .i64 1 a = s := ⟨_, rfl⟩
  rw [hs1] at hy1
  rw [hs2] at hy2
  have hs1_ : (IntKind.i64.wrap (1 * 2 ^ min (b).toNat 64)) = s1 := hs1
  have hs1z : (b) ≤ 64 → (IntKind.i64.wrap (1 * 2 ^ (b).toNat)) = s1 := shl_small hs1
  have hs1u : (IntKind.i64.wrap (2 ^ min (b).toNat 64)) = s1 := by have h_ := hs1_; rw [Int.one_mul] at h_; exact h_
  have hs1v : (b) ≤ 64 → (IntKind.i64.wrap (2 ^ (b).toNat)) = s1 := fun hle_ => by have h_ := hs1z hle_; rw [Int.one_mul] at h_; exact h_
  have hs1y : (wrap64 (1 * 2 ^ min (b).toNat 64)) = s1 := (i64_w _).symm.trans hs1_
  have hs1x : (b) ≤ 64 → (wrap64 (1 * 2 ^ (b).toNat)) = s1 := fun h_ => (i64_w _).symm.trans (hs1z h_)
  have hs2_ : (IntKind.i64.wrap (1 * 2 ^ min (a).toNat 64)) = s2 := hs2
  have hs2z : (a) ≤ 64 → (IntKind.i64.wrap (1 * 2 ^ (a).toNat)) = s2 := shl_small hs2
  have hs2u : (IntKind.i64.wrap (2 ^ min (a).toNat 64)) = s2 := by have h_ := hs2_; rw [Int.one_mul] at h_; exact h_
  have hs2v : (a) ≤ 64 → (IntKind.i64.wrap (2 ^ (a).toNat)) = s2 := fun hle_ => by have h_ := hs2z hle_; rw [Int.one_mul] at h_; exact h_
  have hs2y : (wrap64 (1 * 2 ^ min (a).toNat 64)) = s2 := (i64_w _).symm.trans hs2_
  have hs2x : (a) ≤ 64 → (wrap64 (1 * 2 ^ (a).toNat)) = s2 := fun h_ => (i64_w _).symm.trans (hs2z h_)
  have n1 := Aside0.mk hy1
  have n2 := Aside0.mk hy2
  clear hy1 hy2
  have hR1 := Kd.R_drew hR
  have hc1 : w.drew.cell? ⟨bl, 0, none⟩ = some (.slice (some ⟨g, 0, none⟩) l.length c) := hc
  have hg1 : w.grownBy w.drew (some g) := ⟨rfl, rfl, rfl, Nat.le_refl _, fun _ _ _ => rfl⟩
  obtain ⟨hx1, hf1⟩ : w.drew.cell? ⟨g, a.toNat, none⟩ = some (.int .i64 (rd l a)) ∧ w.drew.frozen? ⟨g, a.toNat, none⟩ = false := Kd.R_celln 0 hR1 a ha0 ha1
  have e0 : (0 ≤ a) = True := eq_true ha0
  have e1 : (a < (l.length : Int)) = True := eq_true ha1
  have e2 : (0 ≤ b) = True := eq_true hb0
  have e3 : (b < (l.length : Int)) = True := eq_true hb1
  go_enter Try.func33, Try.ntmps33
  try go_wp2
  refine start_ (n := 9) (S := fun w' => w'.cell? ⟨bl, 0, none⟩ = some (.slice (some ⟨g, 0, none⟩) l.length c) ∧ w'.cell? ⟨g, a.toNat, none⟩ = some (.int .i64 (rd l a)) ∧ w'.frozen? ⟨g, a.toNat, none⟩ = false) (ds := [8]) #[false, false, false, false, false, false, false, false, false] (by kernel_rfl) rfl rfl ⟨hc1, hx1, hf1⟩ (fun hHeld => ?_)
  generalize w.drew = w13 at hR1 hc1 hg1 hx1 hf1 hHeld ⊢
  refine pure_ (i := 1) (N := some 6) (v := ?_) (a' := ?_) #[false, true, false, false, false, false, false, false, false] rfl rfl (by kernel_rfl) (fun _ _ _ h => h) (Or.inl ⟨by rfl, ?_⟩) ?_ ?_
  rotate_left
  · intro w'
    go_simp
    with_reducible rfl
  rotate_left
  · simp only [Act.put, List.setIfInBounds_toArray, List.set_cons_zero, List.set_cons_succ, i64_w, i32_w]
    rfl
  refine pure_ (i := 4) (N := some 9) (v := ?_) (a' := ?_) #[false, true, false, false, true, false, false, false, false] rfl rfl (by kernel_rfl) (fun _ _ _ h => h) (Or.inl ⟨by rfl, ?_⟩) ?_ ?_
  rotate_left
  · intro w'
    go_simp
    with_reducible rfl
  rotate_left
  · simp only [Act.put, List.setIfInBounds_toArray, List.set_cons_zero, List.set_cons_succ, i64_w, i32_w]
    rfl
  refine pure_ (i := 5) (N := some 10) (v := ?_) (a' := ?_) #[false, true, false, false, true, true, false, false, false] rfl rfl (by kernel_rfl) (fun _ _ _ h => h) (Or.inl ⟨by rfl, ?_⟩) ?_ ?_
  rotate_left
  · intro w'
    go_simp
    with_reducible rfl
  rotate_left
  · simp only [Act.put, List.setIfInBounds_toArray, List.set_cons_zero, List.set_cons_succ, i64_w, i32_w]
    rfl
  refine take_ (i := 0) (N := some 5) (v := ?_) (a' := ?_) #[true, true, false, false, true, true, false, false, false] rfl rfl (by kernel_rfl) (fun _ _ _ h => h) (Or.inl ⟨by rfl, ?_⟩) hHeld ?_ ?_
  rotate_left
  · rintro w' ⟨s0, s1, s2⟩
    go_simp
    with_reducible rfl
  rotate_left
  · simp only [Act.put, List.setIfInBounds_toArray, List.set_cons_zero, List.set_cons_succ, i64_w, i32_w]
    rfl
  refine pure_ (i := 2) (N := some 7) (v := ?_) (a' := ?_) #[true, true, true, false, true, true, false, false, false] rfl rfl (by kernel_rfl) (fun _ _ _ h => h) (Or.inl ⟨by rfl, ?_⟩) ?_ ?_
  rotate_left
  · intro w'
    go_simp
    with_reducible rfl
  rotate_left
  · simp only [Act.put, List.setIfInBounds_toArray, List.set_cons_zero, List.set_cons_succ, i64_w, i32_w]
    rfl
  refine take_ (i := 3) (N := some 8) (v := ?_) (a' := ?_) #[true, true, true, true, true, true, false, false, false] rfl rfl (by kernel_rfl) (fun _ _ _ h => h) (Or.inl ⟨by rfl, ?_⟩) hHeld ?_ ?_
  rotate_left
  · rintro w' ⟨s0, s1, s2⟩
    go_simp
    with_reducible rfl
  rotate_left
  · simp only [Act.put, List.setIfInBounds_toArray, List.set_cons_zero, List.set_cons_succ, i64_w, i32_w]
    rfl
  refine pure_ (i := 6) (N := some 11) (v := ?_) (a' := ?_) #[true, true, true, true, true, true, true, false, false] rfl rfl (by kernel_rfl) (fun _ _ _ h => h) (Or.inl ⟨by rfl, ?_⟩) ?_ ?_
  rotate_left
  · intro w'
    go_simp
    with_reducible rfl
  rotate_left
  · simp only [Act.put, List.setIfInBounds_toArray, List.set_cons_zero, List.set_cons_succ, i64_w, i32_w]
    rfl
  refine pure_ (i := 7) (N := some 12) (v := ?_) (a' := ?_) #[true, true, true, true, true, true, true, true, false] rfl rfl (by kernel_rfl) (fun _ _ _ h => h) (Or.inl ⟨by rfl, ?_⟩) ?_ ?_
  rotate_left
  · intro w'
    go_simp
    with_reducible rfl
  rotate_left
  · simp only [Act.put, List.setIfInBounds_toArray, List.set_cons_zero, List.set_cons_succ, i64_w, i32_w]
    rfl
  refine last_ (i := 8) (N := none) #[true, true, true, true, true, true, true, true, true] rfl rfl (by kernel_rfl) (by decide) (fun K hK => ?_)
  refine skip_ (w1 := ?_) (by rfl) rfl ?_ ?_
  rotate_left
  · go_simp
    rfl
  refine hK.out _ _ ?_
  clear hK K
  refine done_ (by kernel_rfl) ?_
  
  have HP := Kd.R_putg hR1 a (Go.bits .xor .i64 (rd l a) s1)
  rw [← n1.out] at HP
  generalize hw : w13.setCell ⟨g, a.toNat, none⟩ (.int .i64 (Go.bits .xor .i64 (rd l a) s1)) = w14 at HP ⊢
  have hc2 : w14.cell? ⟨bl, 0, none⟩ = some (.slice (some ⟨g, 0, none⟩) l.length c) := HP.2.cell hc1 (by simpa using hne)
  have hg2 := impl_PairCycle.grown_trans hg1 HP.2
  have hR2 := Kd.R_drew HP.1
  have hc3 : w14.drew.cell? ⟨bl, 0, none⟩ = some (.slice (some ⟨g, 0, none⟩) l.length c) := hc2
  have hg3 : w.grownBy w14.drew (some g) := impl_PairCycle.grown_trans hg2 ⟨rfl, rfl, rfl, Nat.le_refl _, fun _ _ _ => rfl⟩
  obtain ⟨hx3, hf3⟩ : w14.drew.cell? ⟨g, b.toNat, none⟩ = some (.int .i64 (rd y1 b)) ∧ w14.drew.frozen? ⟨g, b.toNat, none⟩ = false := Kd.R_celln 0 hR2 b hb0 hb1
  clear hR1 hc1 hg1 hx1 hf1 HP hc2 hg2
  try go_wp2
  refine start_ (n := 9) (S := fun w' => w'.cell? ⟨bl, 0, none⟩ = some (.slice (some ⟨g, 0, none⟩) l.length c) ∧ w'.cell? ⟨g, b.toNat, none⟩ = some (.int .i64 (rd y1 b)) ∧ w'.frozen? ⟨g, b.toNat, none⟩ = false) (ds := [8]) #[false, false, false, false, false, false, false, false, false] (by kernel_rfl) rfl rfl ⟨hc3, hx3, hf3⟩ (fun hHeld => ?_)
  generalize w14.drew = w15 at hR2 hc3 hg3 hx3 hf3 hHeld ⊢
  refine pure_ (i := 1) (N := some 14) (v := ?_) (a' := ?_) #[false, true, false, false, false, false, false, false, false] rfl rfl (by kernel_rfl) (fun _ _ _ h => h) (Or.inl ⟨by rfl, ?_⟩) ?_ ?_
  rotate_left
  · intro w'
    go_simp
    with_reducible rfl
  rotate_left
  · simp only [Act.put, List.setIfInBounds_toArray, List.set_cons_zero, List.set_cons_succ, i64_w, i32_w]
    rfl
  refine pure_ (i := 4) (N := some 17) (v := ?_) (a' := ?_) #[false, true, false, false, true, false, false, false, false] rfl rfl (by kernel_rfl) (fun _ _ _ h => h) (Or.inl ⟨by rfl, ?_⟩) ?_ ?_
  rotate_left
  · intro w'
    go_simp
    with_reducible rfl
  rotate_left
  · simp only [Act.put, List.setIfInBounds_toArray, List.set_cons_zero, List.set_cons_succ, i64_w, i32_w]
    rfl
  refine pure_ (i := 5) (N := some 18) (v := ?_) (a' := ?_) #[false, true, false, false, true, true, false, false, false] rfl rfl (by kernel_rfl) (fun _ _ _ h => h) (Or.inl ⟨by rfl, ?_⟩) ?_ ?_
  rotate_left
  · intro w'
    go_simp
    with_reducible rfl
  rotate_left
  · simp only [Act.put, List.setIfInBounds_toArray, List.set_cons_zero, List.set_cons_succ, i64_w, i32_w]
    rfl
  refine take_ (i := 0) (N := some 13) (v := ?_) (a' := ?_) #[true, true, false, false, true, true, false, false, false] rfl rfl (by kernel_rfl) (fun _ _ _ h => h) (Or.inl ⟨by rfl, ?_⟩) hHeld ?_ ?_
  rotate_left
  · rintro w' ⟨s0, s1, s2⟩
    go_simp
    with_reducible rfl
  rotate_left
  · simp only [Act.put, List.setIfInBounds_toArray, List.set_cons_zero, List.set_cons_succ, i64_w, i32_w]
    rfl
  refine pure_ (i := 2) (N := some 15) (v := ?_) (a' := ?_) #[true, true, true, false, true, true, false, false, false] rfl rfl (by kernel_rfl) (fun _ _ _ h => h) (Or.inl ⟨by rfl, ?_⟩) ?_ ?_
  rotate_left
  · intro w'
    go_simp
    with_reducible rfl
  rotate_left
  · simp only [Act.put, List.setIfInBounds_toArray, List.set_cons_zero, List.set_cons_succ, i64_w, i32_w]
    rfl
  refine take_ (i := 3) (N := some 16) (v := ?_) (a' := ?_) #[true, true, true, true, true, true, false, false, false] rfl rfl (by kernel_rfl) (fun _ _ _ h => h) (Or.inl ⟨by rfl, ?_⟩) hHeld ?_ ?_
  rotate_left
  · rintro w' ⟨s0, s1, s2⟩
    go_simp
    with_reducible rfl
  rotate_left
  · simp only [Act.put, List.setIfInBounds_toArray, List.set_cons_zero, List.set_cons_succ, i64_w, i32_w]
    rfl
  refine pure_ (i := 6) (N := some 19) (v := ?_) (a' := ?_) #[true, true, true, true, true, true, true, false, false] rfl rfl (by kernel_rfl) (fun _ _ _ h => h) (Or.inl ⟨by rfl, ?_⟩) ?_ ?_
  rotate_left
  · intro w'
    go_simp
    with_reducible rfl
  rotate_left
  · simp only [Act.put, List.setIfInBounds_toArray, List.set_cons_zero, List.set_cons_succ, i64_w, i32_w]
    rfl
  refine pure_ (i := 7) (N := some 20) (v := ?_) (a' := ?_) #[true, true, true, true, true, true, true, true, false] rfl rfl (by kernel_rfl) (fun _ _ _ h => h) (Or.inl ⟨by rfl, ?_⟩) ?_ ?_
  rotate_left
  · intro w'
    go_simp
    with_reducible rfl
  rotate_left
  · simp only [Act.put, List.setIfInBounds_toArray, List.set_cons_zero, List.set_cons_succ, i64_w, i32_w]
    rfl
  refine last_ (i := 8) (N := none) #[true, true, true, true, true, true, true, true, true] rfl rfl (by kernel_rfl) (by decide) (fun K hK => ?_)
  refine skip_ (w1 := ?_) (by rfl) rfl ?_ ?_
  rotate_left
  · go_simp
    rfl
  refine hK.out _ _ ?_
  clear hK K
  refine done_ (by kernel_rfl) ?_
  
  have HP := Kd.R_putg hR2 b (Go.bits .xor .i64 (rd y1 b) s2)
  rw [← n2.out] at HP
  try go_wp2
  first | go_end0 | ((try simp only [Exit.inBlock, Exit.then]); refine bodyPost_ret (results_none rfl _ _ _) rfl ?_)
  exact ⟨rfl, HP.1, impl_PairCycle.grown_trans hg3 HP.2⟩
def impl_PairCycle.in0 : Nat → List Int → Int → Int → Int → List Int → Int → Option (Int × List Int)
  | 0, _, _, _, _, _, _ => none
  | k + 1, l, n, i, s, q, b => if b < n then (if 0 ≤ b then (if rd q i < (l.length : Int) then (if 0 ≤ rd q i then (if Go.bits .and .i64 (shr .i64 (rd l (rd q i)) b) 1 = 1 then (if Go.bits .and .i64 (shr .i64 s b) 1 = 0 then (if q.length < 1000 then (impl_PairCycle.in0 k l n i (Go.bits .or .i64 s (shl .i64 1 b)) (q ++ [b]) (wrap64 (b + 1))) else none) else (impl_PairCycle.in0 k l n i s q (wrap64 (b + 1)))) else (impl_PairCycle.in0 k l n i s q (wrap64 (b + 1)))) else none) else none) else none) else some (s, q)
def impl_PairCycle.l4 : Nat → List Int → Int → Int → Option Bool
  | 0, _, _, _ => none
  | k + 1, l, s, a => if a < (l.length : Int) then (if 0 ≤ a then (if rd l a = 0 then (impl_PairCycle.l4 k l s (wrap64 (a + 1))) else (if Go.bits .and .i64 (shr .i64 s a) 1 = 0 then some false else (impl_PairCycle.l4 k l s (wrap64 (a + 1))))) else none) else some true
def impl_PairCycle.l0 : Nat → List Int → Int → Int → Int → List Int → Option Bool
  | 0, _, _, _, _, _ => none
  | k + 1, l, n, i, s, q => if i < (q.length : Int) then (if 0 ≤ i then ((impl_PairCycle.in0 k l n i s q 0).bind fun z => impl_PairCycle.l0 k l n (wrap64 (i + 1)) z.1 z.2) else none) else (impl_PairCycle.l4 k l s 0)
def impl_PairCycle.whole (k : Nat) (l : List Int) (n b0 : Int) : Option Bool := if 0 ≤ b0 then impl_PairCycle.l0 k l n 0 (shl .i64 1 b0) [b0] else none
set_option maxHeartbeats 16000000 in
set_option maxRecDepth 100000 in
theorem impl_PairCycle.whole_calls (k : Nat) (l : List Int) (n b0 : Int) (r : Bool) (bn bl g c m B : Nat) (w : World) (hn : w.cell? ⟨bn, 0, none⟩ = some (.int .i64 n)) (hm : l.length = m) (hc : w.cell? ⟨bl, 0, none⟩ = some (.slice (some ⟨g, 0, none⟩) m c)) (hR : Kd.R (Kd.int .i64) 3 w B (fun _ => True) (.slice (some ⟨g, 0, none⟩) m c) l) (h : impl_PairCycle.whole k l n b0 = some r) :
    Calls Try.prog 34 #[.int .i64 b0, .pointer (some ⟨bn, 0, none⟩), .pointer (some ⟨bl, 0, none⟩)] w fun e w' => e = .returned (.bool r) ∧ Below w.heap.size w w' := by
  subst hm
  have HB := Aside0.mk (Below.refl w.heap.size w)
  have HN := Aside0.mk hn
  have HC := Aside0.mk hc
  have HR0 := Aside0.mk hR
  have HNL := Aside0.mk (World.block_lt_of_cell? _ _ hn)
  have HCL := Aside0.mk (World.block_lt_of_cell? _ _ hc)
  clear hn hc hR
  unfold impl_PairCycle.whole at h
  by_cases c0 : 0 ≤ b0
  · rw [if_pos c0] at h
    have c0b : decide (0 ≤ b0) = true := decide_eq_true c0
    have c0e := eq_true c0
    clear c0
    obtain ⟨s0, hs0⟩ : ∃ s : Int, shl .i64 1 b0 = s := ⟨_, rfl⟩
    rw [hs0] at h
    have hs0_ : (IntKind.i64.wrap (1 * 2 ^ min (b0).toNat 64)) = s0 := hs0
    have hs0z : (b0) ≤ 64 → (IntKind.i64.wrap (1 * 2 ^ (b0).toNat)) = s0 := shl_small hs0
    have hs0u : (IntKind.i64.wrap (2 ^ min (b0).toNat 64)) = s0 := by have h_ := hs0_; rw [Int.one_mul] at h_; exact h_
    have hs0v : (b0) ≤ 64 → (IntKind.i64.wrap (2 ^ (b0).toNat)) = s0 := fun hle_ => by have h_ := hs0z hle_; rw [Int.one_mul] at h_; exact h_
    have hs0y : (wrap64 (1 * 2 ^ min (b0).toNat 64)) = s0 := (i64_w _).symm.trans hs0_
    have hs0x : (b0) ≤ 64 → (wrap64 (1 * 2 ^ (b0).toNat)) = s0 := fun h_ => (i64_w _).symm.trans (hs0z h_)
    obtain ⟨y0, hy0⟩ : ∃ y : List Int, y = [b0] := ⟨_, rfl⟩
    rw [← hy0] at h
    have Ny := Aside0.mk hy0
    have H' := Aside0.mk h
    clear h hy0
    go_enter Try.func34, Try.ntmps34
    go_wp2_with (first
      | ((with_reducible refine gate_dst (N := 14) rfl ?_); refine Kd.R_lit (Kd.int .i64) _ 3 ?hg (N := 14) ?hd (xs := ([b0] : List Int)) (inner := [.int .i64 b0]) (ok := fun _ => True) (okp := fun _ => True) ?hr ?hp (fun _ hk => hk) trivial (Below.refl _ _) (Nat.le_refl _) (by simp) ?_; (case hd => rfl); (case hg => rfl); (case hr => first | (go_simp; done) | (go_simp; rfl)); (case hp => exact (Reps.one (show Kd.M (Kd.int .i64) _ _ _ b0 [.int .i64 b0] from rfl) (Reps.none _ _))); intro v14 w14 ho hb hg_ hnew_; clear hg_ hnew_; rw [← Ny.out] at ho; have n0_ := Aside0.mk (Kd.R_lower ho (below_size (by repeat (first | (with_reducible first | exact HB.out | apply below_alloc | apply pw_below_drewN | apply below_drew1) | exact HB.out)))); have n1_ := Aside0.mk (below_step (by repeat (first | (with_reducible first | exact HB.out | apply below_alloc | apply pw_below_drewN | apply below_drew1) | exact HB.out)) hb); clear HB ho hb; have HO := n0_; have HB := n1_; clear n0_ n1_))
    go_loopg [5, 6, 7] k (fun kq v5 v6 v7 w' => ∃ (s : Int) (q : List Int) (i : Int), v5 = .int .i64 s ∧ v7 = .int .i64 i ∧ Aside0 (impl_PairCycle.l0 kq l n i s q = some r) ∧ Aside0 (kq ≤ k) ∧ Aside0 (Kd.R (Kd.int .i64) 3 w' w.heap.size (fun _ => True) v6 q) ∧ Aside0 (Below w.heap.size w w'))
    case atStart => exact ⟨s0, y0, 0, (by first | rfl | (simp; done) | (simp [*]; done)), (by first | rfl | (simp; done) | (simp [*]; done)), H', ⟨Nat.le_refl _⟩, ⟨(by (with_reducible repeat (first | apply Kd.R_alloc | apply Kd.R_drewN | apply Kd.R_drew)); exact HO.out)⟩, ⟨(by repeat (first | (with_reducible first | exact HB.out | apply below_alloc | apply pw_below_drewN | apply below_drew1) | exact HB.out))⟩⟩
    case round =>
      clear H' HO HB
      obtain ⟨s, q, i, rfl, rfl, HA, HK1, HO, HB⟩ := hrel
      cases gk with
      | zero => exact absurd HA.out (by simp [impl_PairCycle.l0])
      | succ k1 =>
        have H := HA.out
        clear HA
        simp only [impl_PairCycle.l0] at H
        have hnr : wr.cell? ⟨bn, 0, none⟩ = some (.int .i64 n) := (HB.out.cell HNL.out).trans HN.out
        have hcr : wr.cell? ⟨bl, 0, none⟩ = some (.slice (some ⟨g, 0, none⟩) l.length c) := (HB.out.cell HCL.out).trans HC.out
        obtain ⟨Aq, cq, eq⟩ := Kd.R_slice HO.out
        subst eq
        by_cases c1 : i < (q.length : Int)
        · rw [if_pos c1] at H
          have c1b : decide (i < (q.length : Int)) = true := decide_eq_true c1
          have C1 := Aside0.mk c1
          clear c1
          by_cases c2 : 0 ≤ i
          · rw [if_pos c2] at H
            have c2b : decide (0 ≤ i) = true := decide_eq_true c2
            have C2 := Aside0.mk c2
            have c2e := eq_true c2
            clear c2
            obtain ⟨⟨s', q'⟩, hin, H⟩ := Option.bind_eq_some_iff.mp H
            have A2 := Aside0.mk hin
            have HH := Aside0.mk H
            clear hin H
            go_wp2
            go_loopg [5, 6, 22] k1 (fun kq v5 v6 v22 w' => ∃ (s : Int) (qu : List Int) (b : Int), v5 = .int .i64 s ∧ v22 = .int .i64 b ∧ Aside0 (impl_PairCycle.in0 kq l n i s qu b = some (s', q')) ∧ Aside0 (kq ≤ k1) ∧ Aside0 (i < (qu.length : Int)) ∧ Aside0 (Kd.R (Kd.int .i64) 3 w' w.heap.size (fun _ => True) v6 qu) ∧ Aside0 (Below w.heap.size w w'))
            case atStart => exact ⟨s, q, 0, (by first | rfl | (simp; done) | (simp [*]; done)), (by first | rfl | (simp; done) | (simp [*]; done)), A2, ⟨Nat.le_refl _⟩, C1, ⟨(by (with_reducible repeat (first | apply Kd.R_alloc | apply Kd.R_drewN | apply Kd.R_drew)); exact HO.out)⟩, ⟨(by repeat (first | (with_reducible first | exact HB.out | apply below_alloc | apply pw_below_drewN | apply below_drew1) | exact HB.out))⟩⟩
            case round =>
              clear A2 HO HB hnr hcr c1b C1
              obtain ⟨s, qu, b, rfl, rfl, HI, HK2, HQ, HO, HB⟩ := hrel
              cases gk with
              | zero => exact absurd HI.out (by simp [impl_PairCycle.in0])
              | succ k2 =>
                have H := HI.out
                clear HI
                simp only [impl_PairCycle.in0] at H
                by_cases d1 : b < n
                · rw [if_pos d1] at H
                  have d1b : decide (b < n) = true := decide_eq_true d1
                  clear d1
                  by_cases d2 : 0 ≤ b
                  · rw [if_pos d2] at H
                    have d2b : decide (0 ≤ b) = true := decide_eq_true d2
                    have d2e := eq_true d2
                    clear d2
                    obtain ⟨q, hq⟩ : ∃ q : Int, rd qu i = q := ⟨_, rfl⟩
                    rw [hq] at H
                    by_cases d3 : q < (l.length : Int)
                    · rw [if_pos d3] at H
                      have d3b : decide (q < (l.length : Int)) = true := decide_eq_true d3
                      by_cases d4 : 0 ≤ q
                      · rw [if_pos d4] at H
                        have d4b : decide (0 ≤ q) = true := decide_eq_true d4
                        obtain ⟨v, hv⟩ : ∃ v : Int, rd l q = v := ⟨_, rfl⟩
                        rw [hv] at H
                        obtain ⟨r1, hr1⟩ : ∃ s : Int, shr .i64 v b = s := ⟨_, rfl⟩
                        obtain ⟨r2, hr2⟩ : ∃ z : Int, shr .i64 s b = z := ⟨_, rfl⟩
                        obtain ⟨s1, hs1⟩ : ∃ z : Int, shl .i64 1 b = z := ⟨_, rfl⟩
                        rw [hr1, hr2, hs1] at H
                        have hr1_ : (v / 2 ^ min (b).toNat 64) = r1 := hr1
                        have hr1z : (b) ≤ 64 → (v / 2 ^ (b).toNat) = r1 := shr_small hr1
                        have hr2_ : (s / 2 ^ min (b).toNat 64) = r2 := hr2
                        have hr2z : (b) ≤ 64 → (s / 2 ^ (b).toNat) = r2 := shr_small hr2
                        have hs1_ : (IntKind.i64.wrap (1 * 2 ^ min (b).toNat 64)) = s1 := hs1
                        have hs1z : (b) ≤ 64 → (IntKind.i64.wrap (1 * 2 ^ (b).toNat)) = s1 := shl_small hs1
                        have hs1u : (IntKind.i64.wrap (2 ^ min (b).toNat 64)) = s1 := by have h_ := hs1_; rw [Int.one_mul] at h_; exact h_
                        have hs1v : (b) ≤ 64 → (IntKind.i64.wrap (2 ^ (b).toNat)) = s1 := fun hle_ => by have h_ := hs1z hle_; rw [Int.one_mul] at h_; exact h_
                        have hs1y : (wrap64 (1 * 2 ^ min (b).toNat 64)) = s1 := (i64_w _).symm.trans hs1_
                        have hs1x : (b) ≤ 64 → (wrap64 (1 * 2 ^ (b).toNat)) = s1 := fun h_ => (i64_w _).symm.trans (hs1z h_)
                        obtain ⟨gq, cq, eq, _, _, _, _⟩ := Kd.R_form HO.out (by have := HQ.out; have := C2.out; omega)
                        subst eq
                        have nO := Aside0.mk (Kd.R_drew HO.out)
                        have nB := Aside0.mk (below_drew1 HB.out)
                        have hL1 := Kd.R_drew (Kd.R_below HR0.out HB.out)
                        have hc1 : wr.drew.cell? ⟨bl, 0, none⟩ = some (.slice (some ⟨g, 0, none⟩) l.length c) := (HB.out.cell HCL.out).trans HC.out
                        clear HO HB
                        have HO := nO
                        have HB := nB
                        clear nO nB
                        have hx1 : wr.drew.cell? ⟨gq, i.toNat, none⟩ = some (.int .i64 q) := by rw [← hq]; exact (Kd.R_celln 0 HO.out i C2.out HQ.out).1
                        have hv1 : wr.drew.cell? ⟨g, q.toNat, none⟩ = some (.int .i64 v) := by rw [← hv]; exact (Kd.R_celln 0 hL1 q d4 d3).1
                        have d3e := eq_true d3
                        have d4e := eq_true d4
                        have cqb : decide (i < (qu.length : Int)) = true := decide_eq_true HQ.out
                        have cqe := eq_true HQ.out
                        clear d3 d4 hL1 hq hv
                        by_cases e1 : Go.bits .and .i64 r1 1 = 1
                        · rw [if_pos e1] at H
                          have e1b : (Go.bits .and .i64 r1 1 == 1) = true := beq_iff_eq.mpr e1
                          clear e1
                          by_cases e2 : Go.bits .and .i64 r2 1 = 0
                          · rw [if_pos e2] at H
                            have e2b : (Go.bits .and .i64 r2 1 == 0) = true := beq_iff_eq.mpr e2
                            clear e2
                            by_cases e3 : qu.length < 1000
                            · rw [if_pos e3] at H
                              have CL := Aside0.mk e3
                              clear e3
                              obtain ⟨y, hy⟩ : ∃ y_ : List Int, y_ = qu ++ [b] := ⟨_, rfl⟩
                              rw [← hy] at H
                              have Ny2 := Aside0.mk hy
                              have H' := Aside0.mk H
                              clear hy H
                              try go_wp2
                              refine start_ (n := 18) (S := fun w' => w'.cell? ⟨bl, 0, none⟩ = some (.slice (some ⟨g, 0, none⟩) l.length c) ∧ w'.cell? ⟨gq, i.toNat, none⟩ = some (.int .i64 q) ∧ w'.cell? ⟨g, q.toNat, none⟩ = some (.int .i64 v)) (ds := []) #[false, false, false, false, false, false, false, false, false, false, false, false, false, false, false, false, false, false] (by kernel_rfl) rfl rfl ⟨hc1, hx1, hv1⟩ (fun hHeld => ?_)
                              generalize wr.drew = w13 at HO HB hc1 hx1 hv1 hHeld ⊢
                              refine pure_ (i := 1) (N := some 26) (v := ?_) (a' := ?_) #[false, true, false, false, false, false, false, false, false, false, false, false, false, false, false, false, false, false] rfl rfl (by kernel_rfl) (fun _ _ _ h => h) (Or.inl ⟨by rfl, ?_⟩) ?_ ?_
                              rotate_left
                              · intro w'
                                go_simp
                                with_reducible rfl
                              rotate_left
                              · simp only [Act.put, List.setIfInBounds_toArray, List.set_cons_zero, List.set_cons_succ, i64_w, i32_w]
                                rfl
                              refine pure_ (i := 2) (N := some 27) (v := ?_) (a' := ?_) #[false, true, true, false, false, false, false, false, false, false, false, false, false, false, false, false, false, false] rfl rfl (by kernel_rfl) (fun _ _ _ h => h) (Or.inl ⟨by rfl, ?_⟩) ?_ ?_
                              rotate_left
                              · intro w'
                                go_simp
                                with_reducible rfl
                              rotate_left
                              · simp only [Act.put, List.setIfInBounds_toArray, List.set_cons_zero, List.set_cons_succ, i64_w, i32_w]
                                rfl
                              refine pure_ (i := 3) (N := some 28) (v := ?_) (a' := ?_) #[false, true, true, true, false, false, false, false, false, false, false, false, false, false, false, false, false, false] rfl rfl (by kernel_rfl) (fun _ _ _ h => h) (Or.inl ⟨by rfl, ?_⟩) ?_ ?_
                              rotate_left
                              · intro w'
                                go_simp
                                with_reducible rfl
                              rotate_left
                              · simp only [Act.put, List.setIfInBounds_toArray, List.set_cons_zero, List.set_cons_succ, i64_w, i32_w]
                                rfl
                              refine pure_ (i := 7) (N := some 32) (v := ?_) (a' := ?_) #[false, true, true, true, false, false, false, true, false, false, false, false, false, false, false, false, false, false] rfl rfl (by kernel_rfl) (fun _ _ _ h => h) (Or.inl ⟨by rfl, ?_⟩) ?_ ?_
                              rotate_left
                              · intro w'
                                go_simp
                                with_reducible rfl
                              rotate_left
                              · simp only [Act.put, List.setIfInBounds_toArray, List.set_cons_zero, List.set_cons_succ, i64_w, i32_w]
                                rfl
                              refine take_ (i := 0) (N := some 25) (v := ?_) (a' := ?_) #[true, true, true, true, false, false, false, true, false, false, false, false, false, false, false, false, false, false] rfl rfl (by kernel_rfl) (fun _ _ _ h => h) (Or.inl ⟨by rfl, ?_⟩) hHeld ?_ ?_
                              rotate_left
                              · rintro w' ⟨s0, s1, s2⟩
                                go_simp
                                with_reducible rfl
                              rotate_left
                              · simp only [Act.put, List.setIfInBounds_toArray, List.set_cons_zero, List.set_cons_succ, i64_w, i32_w]
                                rfl
                              refine take_ (i := 4) (N := some 29) (v := ?_) (a' := ?_) #[true, true, true, true, true, false, false, true, false, false, false, false, false, false, false, false, false, false] rfl rfl (by kernel_rfl) (fun _ _ _ h => h) (Or.inl ⟨by rfl, ?_⟩) hHeld ?_ ?_
                              rotate_left
                              · rintro w' ⟨s0, s1, s2⟩
                                go_simp
                                with_reducible rfl
                              rotate_left
                              · simp only [Act.put, List.setIfInBounds_toArray, List.set_cons_zero, List.set_cons_succ, i64_w, i32_w]
                                rfl
                              refine pure_ (i := 5) (N := some 30) (v := ?_) (a' := ?_) #[true, true, true, true, true, true, false, true, false, false, false, false, false, false, false, false, false, false] rfl rfl (by kernel_rfl) (fun _ _ _ h => h) (Or.inl ⟨by rfl, ?_⟩) ?_ ?_
                              rotate_left
                              · intro w'
                                go_simp
                                with_reducible rfl
                              rotate_left
                              · simp only [Act.put, List.setIfInBounds_toArray, List.set_cons_zero, List.set_cons_succ, i64_w, i32_w]
                                rfl
                              refine take_ (i := 6) (N := some 31) (v := ?_) (a' := ?_) #[true, true, true, true, true, true, true, true, false, false, false, false, false, false, false, false, false, false] rfl rfl (by kernel_rfl) (fun _ _ _ h => h) (Or.inl ⟨by rfl, ?_⟩) hHeld ?_ ?_
                              rotate_left
                              · rintro w' ⟨s0, s1, s2⟩
                                go_simp
                                with_reducible rfl
                              rotate_left
                              · simp only [Act.put, List.setIfInBounds_toArray, List.set_cons_zero, List.set_cons_succ, i64_w, i32_w]
                                rfl
                              refine pure_ (i := 8) (N := some 33) (v := ?_) (a' := ?_) #[true, true, true, true, true, true, true, true, true, false, false, false, false, false, false, false, false, false] rfl rfl (by kernel_rfl) (fun _ _ _ h => h) (Or.inl ⟨by rfl, ?_⟩) ?_ ?_
                              rotate_left
                              · intro w'
                                go_simp
                                with_reducible rfl
                              rotate_left
                              · simp only [Act.put, List.setIfInBounds_toArray, List.set_cons_zero, List.set_cons_succ, i64_w, i32_w]
                                rfl
                              refine pure_ (i := 9) (N := some 34) (v := ?_) (a' := ?_) #[true, true, true, true, true, true, true, true, true, true, false, false, false, false, false, false, false, false] rfl rfl (by kernel_rfl) (fun _ _ _ h => h) (Or.inl ⟨by rfl, ?_⟩) ?_ ?_
                              rotate_left
                              · intro w'
                                go_simp
                                with_reducible rfl
                              rotate_left
                              · simp only [Act.put, List.setIfInBounds_toArray, List.set_cons_zero, List.set_cons_succ, i64_w, i32_w]
                                rfl
                              refine pure_ (i := 10) (N := some 35) (v := ?_) (a' := ?_) #[true, true, true, true, true, true, true, true, true, true, true, false, false, false, false, false, false, false] rfl rfl (by kernel_rfl) (fun _ _ _ h => h) (Or.inl ⟨by rfl, ?_⟩) ?_ ?_
                              rotate_left
                              · intro w'
                                go_simp
                                with_reducible rfl
                              rotate_left
                              · simp only [Act.put, List.setIfInBounds_toArray, List.set_cons_zero, List.set_cons_succ, i64_w, i32_w]
                                rfl
                              refine pure_ (i := 11) (N := some 36) (v := ?_) (a' := ?_) #[true, true, true, true, true, true, true, true, true, true, true, true, false, false, false, false, false, false] rfl rfl (by kernel_rfl) (fun _ _ _ h => h) (Or.inl ⟨by rfl, ?_⟩) ?_ ?_
                              rotate_left
                              · intro w'
                                go_simp
                                with_reducible rfl
                              rotate_left
                              · simp only [Act.put, List.setIfInBounds_toArray, List.set_cons_zero, List.set_cons_succ, i64_w, i32_w]
                                rfl
                              refine pure_ (i := 12) (N := some 37) (v := ?_) (a' := ?_) #[true, true, true, true, true, true, true, true, true, true, true, true, true, false, false, false, false, false] rfl rfl (by kernel_rfl) (fun _ _ _ h => h) (Or.inl ⟨by rfl, ?_⟩) ?_ ?_
                              rotate_left
                              · intro w'
                                go_simp
                                with_reducible rfl
                              rotate_left
                              · simp only [Act.put, List.setIfInBounds_toArray, List.set_cons_zero, List.set_cons_succ, i64_w, i32_w]
                                rfl
                              refine pure_ (i := 13) (N := some 38) (v := ?_) (a' := ?_) #[true, true, true, true, true, true, true, true, true, true, true, true, true, true, false, false, false, false] rfl rfl (by kernel_rfl) (fun _ _ _ h => h) (Or.inl ⟨by rfl, ?_⟩) ?_ ?_
                              rotate_left
                              · intro w'
                                go_simp
                                with_reducible rfl
                              rotate_left
                              · simp only [Act.put, List.setIfInBounds_toArray, List.set_cons_zero, List.set_cons_succ, i64_w, i32_w]
                                rfl
                              refine pure_ (i := 14) (N := some 39) (v := ?_) (a' := ?_) #[true, true, true, true, true, true, true, true, true, true, true, true, true, true, true, false, false, false] rfl rfl (by kernel_rfl) (fun _ _ _ h => h) (Or.inl ⟨by rfl, ?_⟩) ?_ ?_
                              rotate_left
                              · intro w'
                                go_simp
                                with_reducible rfl
                              rotate_left
                              · simp only [Act.put, List.setIfInBounds_toArray, List.set_cons_zero, List.set_cons_succ, i64_w, i32_w]
                                rfl
                              refine pure_ (i := 15) (N := some 40) (v := ?_) (a' := ?_) #[true, true, true, true, true, true, true, true, true, true, true, true, true, true, true, true, false, false] rfl rfl (by kernel_rfl) (fun _ _ _ h => h) (Or.inl ⟨by rfl, ?_⟩) ?_ ?_
                              rotate_left
                              · intro w'
                                go_simp
                                with_reducible rfl
                              rotate_left
                              · simp only [Act.put, List.setIfInBounds_toArray, List.set_cons_zero, List.set_cons_succ, i64_w, i32_w]
                                rfl
                              refine pure_ (i := 16) (N := some 41) (v := ?_) (a' := ?_) #[true, true, true, true, true, true, true, true, true, true, true, true, true, true, true, true, true, false] rfl rfl (by kernel_rfl) (fun _ _ _ h => h) (Or.inl ⟨by rfl, ?_⟩) ?_ ?_
                              rotate_left
                              · intro w'
                                go_simp
                                with_reducible rfl
                              rotate_left
                              · simp only [Act.put, List.setIfInBounds_toArray, List.set_cons_zero, List.set_cons_succ, i64_w, i32_w]
                                rfl
                              refine pure_ (i := 17) (N := some 42) (v := ?_) (a' := ?_) #[true, true, true, true, true, true, true, true, true, true, true, true, true, true, true, true, true, true] rfl rfl (by kernel_rfl) (fun _ _ _ h => h) (Or.inl ⟨by rfl, ?_⟩) ?_ ?_
                              rotate_left
                              · intro w'
                                go_simp
                                with_reducible rfl
                              rotate_left
                              · simp only [Act.put, List.setIfInBounds_toArray, List.set_cons_zero, List.set_cons_succ, i64_w, i32_w]
                                rfl
                              refine done_ (by kernel_rfl) ?_
                              
                              go_wp2_with (first
                                | ((with_reducible refine gate_builtin (b := .append) (xs := #[.tmp 47, .tmp 49]) rfl ?_); at_builtin; refine Kd.R_append (Kd.int .i64) (w0 := w) w.heap.size rfl (.tmp 47) (.tmp 49) 22 3 (.int .i64 0) 8 rfl Try.underlying22 info3 rfl (by decide) (by omega) (.slice (some ⟨gq, 0, none⟩) qu.length cq) qu b [.int .i64 b] (fun _ => True) (fun _ => False) rfl rfl ?aP (fun _ hk => hk.elim) ?aF ?aO ?aB ?aS ?aL ?_; (case aP => exact rfl); (case aB => exact (by repeat (first | (with_reducible first | exact HB.out | apply below_alloc | apply pw_below_drewN | apply below_drew1) | exact HB.out))); (case aF => exact fun _ _ => trivial); (case aO => exact (by (with_reducible repeat (first | apply Kd.R_alloc | apply Kd.R_drewN | apply Kd.R_drew)); exact HO.out)); (case aS => exact (below_size (by repeat (first | (with_reducible first | exact HB.out | apply below_alloc | apply pw_below_drewN | apply below_drew1) | exact HB.out)))); (case aL => have := CL.out; omega); intro v6 w6 ho hb hg hat; rw [← Ny2.out] at ho))
                              have hlen : y.length = qu.length + 1 := by rw [Ny2.out]; simp
                              go_roundg k2
                              case measure => have := HK2.out; omega
                              case rel => exact ⟨Go.bits .or .i64 s s1, y, wrap64 (b + 1), (by first | rfl | (simp; done) | (simp [*]; done)), (by first | rfl | (simp; done) | (simp [*]; done)), H', ⟨by have := HK2.out; omega⟩, ⟨by have := HQ.out; omega⟩, ⟨ho⟩, ⟨hb⟩⟩
                            · rw [if_neg e3] at H; exact absurd H (by simp)
                          · rw [if_neg e2] at H
                            have e2b : (Go.bits .and .i64 r2 1 == 0) = false := beq_eq_false_iff_ne.mpr e2
                            clear e2
                            have H' := Aside0.mk H
                            clear H
                            try go_wp2
                            refine start_ (n := 18) (S := fun w' => w'.cell? ⟨bl, 0, none⟩ = some (.slice (some ⟨g, 0, none⟩) l.length c) ∧ w'.cell? ⟨gq, i.toNat, none⟩ = some (.int .i64 q) ∧ w'.cell? ⟨g, q.toNat, none⟩ = some (.int .i64 v)) (ds := []) #[false, false, false, false, false, false, false, false, false, false, false, false, false, false, false, false, false, false] (by kernel_rfl) rfl rfl ⟨hc1, hx1, hv1⟩ (fun hHeld => ?_)
                            generalize wr.drew = w13 at HO HB hc1 hx1 hv1 hHeld ⊢
                            refine pure_ (i := 1) (N := some 26) (v := ?_) (a' := ?_) #[false, true, false, false, false, false, false, false, false, false, false, false, false, false, false, false, false, false] rfl rfl (by kernel_rfl) (fun _ _ _ h => h) (Or.inl ⟨by rfl, ?_⟩) ?_ ?_
                            rotate_left
                            · intro w'
                              go_simp
                              with_reducible rfl
                            rotate_left
                            · simp only [Act.put, List.setIfInBounds_toArray, List.set_cons_zero, List.set_cons_succ, i64_w, i32_w]
                              rfl
                            refine pure_ (i := 2) (N := some 27) (v := ?_) (a' := ?_) #[false, true, true, false, false, false, false, false, false, false, false, false, false, false, false, false, false, false] rfl rfl (by kernel_rfl) (fun _ _ _ h => h) (Or.inl ⟨by rfl, ?_⟩) ?_ ?_
                            rotate_left
                            · intro w'
                              go_simp
                              with_reducible rfl
                            rotate_left
                            · simp only [Act.put, List.setIfInBounds_toArray, List.set_cons_zero, List.set_cons_succ, i64_w, i32_w]
                              rfl
                            refine pure_ (i := 3) (N := some 28) (v := ?_) (a' := ?_) #[false, true, true, true, false, false, false, false, false, false, false, false, false, false, false, false, false, false] rfl rfl (by kernel_rfl) (fun _ _ _ h => h) (Or.inl ⟨by rfl, ?_⟩) ?_ ?_
                            rotate_left
                            · intro w'
                              go_simp
                              with_reducible rfl
                            rotate_left
                            · simp only [Act.put, List.setIfInBounds_toArray, List.set_cons_zero, List.set_cons_succ, i64_w, i32_w]
                              rfl
                            refine pure_ (i := 7) (N := some 32) (v := ?_) (a' := ?_) #[false, true, true, true, false, false, false, true, false, false, false, false, false, false, false, false, false, false] rfl rfl (by kernel_rfl) (fun _ _ _ h => h) (Or.inl ⟨by rfl, ?_⟩) ?_ ?_
                            rotate_left
                            · intro w'
                              go_simp
                              with_reducible rfl
                            rotate_left
                            · simp only [Act.put, List.setIfInBounds_toArray, List.set_cons_zero, List.set_cons_succ, i64_w, i32_w]
                              rfl
                            refine take_ (i := 0) (N := some 25) (v := ?_) (a' := ?_) #[true, true, true, true, false, false, false, true, false, false, false, false, false, false, false, false, false, false] rfl rfl (by kernel_rfl) (fun _ _ _ h => h) (Or.inl ⟨by rfl, ?_⟩) hHeld ?_ ?_
                            rotate_left
                            · rintro w' ⟨s0, s1, s2⟩
                              go_simp
                              with_reducible rfl
                            rotate_left
                            · simp only [Act.put, List.setIfInBounds_toArray, List.set_cons_zero, List.set_cons_succ, i64_w, i32_w]
                              rfl
                            refine take_ (i := 4) (N := some 29) (v := ?_) (a' := ?_) #[true, true, true, true, true, false, false, true, false, false, false, false, false, false, false, false, false, false] rfl rfl (by kernel_rfl) (fun _ _ _ h => h) (Or.inl ⟨by rfl, ?_⟩) hHeld ?_ ?_
                            rotate_left
                            · rintro w' ⟨s0, s1, s2⟩
                              go_simp
                              with_reducible rfl
                            rotate_left
                            · simp only [Act.put, List.setIfInBounds_toArray, List.set_cons_zero, List.set_cons_succ, i64_w, i32_w]
                              rfl
                            refine pure_ (i := 5) (N := some 30) (v := ?_) (a' := ?_) #[true, true, true, true, true, true, false, true, false, false, false, false, false, false, false, false, false, false] rfl rfl (by kernel_rfl) (fun _ _ _ h => h) (Or.inl ⟨by rfl, ?_⟩) ?_ ?_
                            rotate_left
                            · intro w'
                              go_simp
                              with_reducible rfl
                            rotate_left
                            · simp only [Act.put, List.setIfInBounds_toArray, List.set_cons_zero, List.set_cons_succ, i64_w, i32_w]
                              rfl
                            refine take_ (i := 6) (N := some 31) (v := ?_) (a' := ?_) #[true, true, true, true, true, true, true, true, false, false, false, false, false, false, false, false, false, false] rfl rfl (by kernel_rfl) (fun _ _ _ h => h) (Or.inl ⟨by rfl, ?_⟩) hHeld ?_ ?_
                            rotate_left
                            · rintro w' ⟨s0, s1, s2⟩
                              go_simp
                              with_reducible rfl
                            rotate_left
                            · simp only [Act.put, List.setIfInBounds_toArray, List.set_cons_zero, List.set_cons_succ, i64_w, i32_w]
                              rfl
                            refine pure_ (i := 8) (N := some 33) (v := ?_) (a' := ?_) #[true, true, true, true, true, true, true, true, true, false, false, false, false, false, false, false, false, false] rfl rfl (by kernel_rfl) (fun _ _ _ h => h) (Or.inl ⟨by rfl, ?_⟩) ?_ ?_
                            rotate_left
                            · intro w'
                              go_simp
                              with_reducible rfl
                            rotate_left
                            · simp only [Act.put, List.setIfInBounds_toArray, List.set_cons_zero, List.set_cons_succ, i64_w, i32_w]
                              rfl
                            refine pure_ (i := 9) (N := some 34) (v := ?_) (a' := ?_) #[true, true, true, true, true, true, true, true, true, true, false, false, false, false, false, false, false, false] rfl rfl (by kernel_rfl) (fun _ _ _ h => h) (Or.inl ⟨by rfl, ?_⟩) ?_ ?_
                            rotate_left
                            · intro w'
                              go_simp
                              with_reducible rfl
                            rotate_left
                            · simp only [Act.put, List.setIfInBounds_toArray, List.set_cons_zero, List.set_cons_succ, i64_w, i32_w]
                              rfl
                            refine pure_ (i := 10) (N := some 35) (v := ?_) (a' := ?_) #[true, true, true, true, true, true, true, true, true, true, true, false, false, false, false, false, false, false] rfl rfl (by kernel_rfl) (fun _ _ _ h => h) (Or.inl ⟨by rfl, ?_⟩) ?_ ?_
                            rotate_left
                            · intro w'
                              go_simp
                              with_reducible rfl
                            rotate_left
                            · simp only [Act.put, List.setIfInBounds_toArray, List.set_cons_zero, List.set_cons_succ, i64_w, i32_w]
                              rfl
                            refine pure_ (i := 11) (N := some 36) (v := ?_) (a' := ?_) #[true, true, true, true, true, true, true, true, true, true, true, true, false, false, false, false, false, false] rfl rfl (by kernel_rfl) (fun _ _ _ h => h) (Or.inl ⟨by rfl, ?_⟩) ?_ ?_
                            rotate_left
                            · intro w'
                              go_simp
                              with_reducible rfl
                            rotate_left
                            · simp only [Act.put, List.setIfInBounds_toArray, List.set_cons_zero, List.set_cons_succ, i64_w, i32_w]
                              rfl
                            refine pure_ (i := 12) (N := some 37) (v := ?_) (a' := ?_) #[true, true, true, true, true, true, true, true, true, true, true, true, true, false, false, false, false, false] rfl rfl (by kernel_rfl) (fun _ _ _ h => h) (Or.inl ⟨by rfl, ?_⟩) ?_ ?_
                            rotate_left
                            · intro w'
                              go_simp
                              with_reducible rfl
                            rotate_left
                            · simp only [Act.put, List.setIfInBounds_toArray, List.set_cons_zero, List.set_cons_succ, i64_w, i32_w]
                              rfl
                            refine pure_ (i := 13) (N := some 38) (v := ?_) (a' := ?_) #[true, true, true, true, true, true, true, true, true, true, true, true, true, true, false, false, false, false] rfl rfl (by kernel_rfl) (fun _ _ _ h => h) (Or.inl ⟨by rfl, ?_⟩) ?_ ?_
                            rotate_left
                            · intro w'
                              go_simp
                              with_reducible rfl
                            rotate_left
                            · simp only [Act.put, List.setIfInBounds_toArray, List.set_cons_zero, List.set_cons_succ, i64_w, i32_w]
                              rfl
                            refine pure_ (i := 14) (N := some 39) (v := ?_) (a' := ?_) #[true, true, true, true, true, true, true, true, true, true, true, true, true, true, true, false, false, false] rfl rfl (by kernel_rfl) (fun _ _ _ h => h) (Or.inl ⟨by rfl, ?_⟩) ?_ ?_
                            rotate_left
                            · intro w'
                              go_simp
                              with_reducible rfl
                            rotate_left
                            · simp only [Act.put, List.setIfInBounds_toArray, List.set_cons_zero, List.set_cons_succ, i64_w, i32_w]
                              rfl
                            refine pure_ (i := 15) (N := some 40) (v := ?_) (a' := ?_) #[true, true, true, true, true, true, true, true, true, true, true, true, true, true, true, true, false, false] rfl rfl (by kernel_rfl) (fun _ _ _ h => h) (Or.inl ⟨by rfl, ?_⟩) ?_ ?_
                            rotate_left
                            · intro w'
                              go_simp
                              with_reducible rfl
                            rotate_left
                            · simp only [Act.put, List.setIfInBounds_toArray, List.set_cons_zero, List.set_cons_succ, i64_w, i32_w]
                              rfl
                            refine pure_ (i := 16) (N := some 41) (v := ?_) (a' := ?_) #[true, true, true, true, true, true, true, true, true, true, true, true, true, true, true, true, true, false] rfl rfl (by kernel_rfl) (fun _ _ _ h => h) (Or.inl ⟨by rfl, ?_⟩) ?_ ?_
                            rotate_left
                            · intro w'
                              go_simp
                              with_reducible rfl
                            rotate_left
                            · simp only [Act.put, List.setIfInBounds_toArray, List.set_cons_zero, List.set_cons_succ, i64_w, i32_w]
                              rfl
                            refine pure_ (i := 17) (N := some 42) (v := ?_) (a' := ?_) #[true, true, true, true, true, true, true, true, true, true, true, true, true, true, true, true, true, true] rfl rfl (by kernel_rfl) (fun _ _ _ h => h) (Or.inl ⟨by rfl, ?_⟩) ?_ ?_
                            rotate_left
                            · intro w'
                              go_simp
                              with_reducible rfl
                            rotate_left
                            · simp only [Act.put, List.setIfInBounds_toArray, List.set_cons_zero, List.set_cons_succ, i64_w, i32_w]
                              rfl
                            refine done_ (by kernel_rfl) ?_
                            
                            try go_wp2
                            go_roundg k2
                            case measure => have := HK2.out; omega
                            case rel => exact ⟨s, qu, wrap64 (b + 1), (by first | rfl | (simp; done) | (simp [*]; done)), (by first | rfl | (simp; done) | (simp [*]; done)), H', ⟨by have := HK2.out; omega⟩, HQ, ⟨(by (with_reducible repeat (first | apply Kd.R_alloc | apply Kd.R_drewN | apply Kd.R_drew)); exact HO.out)⟩, ⟨(by repeat (first | (with_reducible first | exact HB.out | apply below_alloc | apply pw_below_drewN | apply below_drew1) | exact HB.out))⟩⟩
                        · rw [if_neg e1] at H
                          have e1b : (Go.bits .and .i64 r1 1 == 1) = false := beq_eq_false_iff_ne.mpr e1
                          clear e1
                          have H' := Aside0.mk H
                          clear H
                          try go_wp2
                          refine start_ (n := 18) (S := fun w' => w'.cell? ⟨bl, 0, none⟩ = some (.slice (some ⟨g, 0, none⟩) l.length c) ∧ w'.cell? ⟨gq, i.toNat, none⟩ = some (.int .i64 q) ∧ w'.cell? ⟨g, q.toNat, none⟩ = some (.int .i64 v)) (ds := []) #[false, false, false, false, false, false, false, false, false, false, false, false, false, false, false, false, false, false] (by kernel_rfl) rfl rfl ⟨hc1, hx1, hv1⟩ (fun hHeld => ?_)
                          generalize wr.drew = w13 at HO HB hc1 hx1 hv1 hHeld ⊢
                          refine pure_ (i := 1) (N := some 26) (v := ?_) (a' := ?_) #[false, true, false, false, false, false, false, false, false, false, false, false, false, false, false, false, false, false] rfl rfl (by kernel_rfl) (fun _ _ _ h => h) (Or.inl ⟨by rfl, ?_⟩) ?_ ?_
                          rotate_left
                          · intro w'
                            go_simp
                            with_reducible rfl
                          rotate_left
                          · simp only [Act.put, List.setIfInBounds_toArray, List.set_cons_zero, List.set_cons_succ, i64_w, i32_w]
                            rfl
                          refine pure_ (i := 2) (N := some 27) (v := ?_) (a' := ?_) #[false, true, true, false, false, false, false, false, false, false, false, false, false, false, false, false, false, false] rfl rfl (by kernel_rfl) (fun _ _ _ h => h) (Or.inl ⟨by rfl, ?_⟩) ?_ ?_
                          rotate_left
                          · intro w'
                            go_simp
                            with_reducible rfl
                          rotate_left
                          · simp only [Act.put, List.setIfInBounds_toArray, List.set_cons_zero, List.set_cons_succ, i64_w, i32_w]
                            rfl
                          refine pure_ (i := 3) (N := some 28) (v := ?_) (a' := ?_) #[false, true, true, true, false, false, false, false, false, false, false, false, false, false, false, false, false, false] rfl rfl (by kernel_rfl) (fun _ _ _ h => h) (Or.inl ⟨by rfl, ?_⟩) ?_ ?_
                          rotate_left
                          · intro w'
                            go_simp
                            with_reducible rfl
                          rotate_left
                          · simp only [Act.put, List.setIfInBounds_toArray, List.set_cons_zero, List.set_cons_succ, i64_w, i32_w]
                            rfl
                          refine pure_ (i := 7) (N := some 32) (v := ?_) (a' := ?_) #[false, true, true, true, false, false, false, true, false, false, false, false, false, false, false, false, false, false] rfl rfl (by kernel_rfl) (fun _ _ _ h => h) (Or.inl ⟨by rfl, ?_⟩) ?_ ?_
                          rotate_left
                          · intro w'
                            go_simp
                            with_reducible rfl
                          rotate_left
                          · simp only [Act.put, List.setIfInBounds_toArray, List.set_cons_zero, List.set_cons_succ, i64_w, i32_w]
                            rfl
                          refine take_ (i := 0) (N := some 25) (v := ?_) (a' := ?_) #[true, true, true, true, false, false, false, true, false, false, false, false, false, false, false, false, false, false] rfl rfl (by kernel_rfl) (fun _ _ _ h => h) (Or.inl ⟨by rfl, ?_⟩) hHeld ?_ ?_
                          rotate_left
                          · rintro w' ⟨s0, s1, s2⟩
                            go_simp
                            with_reducible rfl
                          rotate_left
                          · simp only [Act.put, List.setIfInBounds_toArray, List.set_cons_zero, List.set_cons_succ, i64_w, i32_w]
                            rfl
                          refine take_ (i := 4) (N := some 29) (v := ?_) (a' := ?_) #[true, true, true, true, true, false, false, true, false, false, false, false, false, false, false, false, false, false] rfl rfl (by kernel_rfl) (fun _ _ _ h => h) (Or.inl ⟨by rfl, ?_⟩) hHeld ?_ ?_
                          rotate_left
                          · rintro w' ⟨s0, s1, s2⟩
                            go_simp
                            with_reducible rfl
                          rotate_left
                          · simp only [Act.put, List.setIfInBounds_toArray, List.set_cons_zero, List.set_cons_succ, i64_w, i32_w]
                            rfl
                          refine pure_ (i := 5) (N := some 30) (v := ?_) (a' := ?_) #[true, true, true, true, true, true, false, true, false, false, false, false, false, false, false, false, false, false] rfl rfl (by kernel_rfl) (fun _ _ _ h => h) (Or.inl ⟨by rfl, ?_⟩) ?_ ?_
                          rotate_left
                          · intro w'
                            go_simp
                            with_reducible rfl
                          rotate_left
                          · simp only [Act.put, List.setIfInBounds_toArray, List.set_cons_zero, List.set_cons_succ, i64_w, i32_w]
                            rfl
                          refine take_ (i := 6) (N := some 31) (v := ?_) (a' := ?_) #[true, true, true, true, true, true, true, true, false, false, false, false, false, false, false, false, false, false] rfl rfl (by kernel_rfl) (fun _ _ _ h => h) (Or.inl ⟨by rfl, ?_⟩) hHeld ?_ ?_
                          rotate_left
                          · rintro w' ⟨s0, s1, s2⟩
                            go_simp
                            with_reducible rfl
                          rotate_left
                          · simp only [Act.put, List.setIfInBounds_toArray, List.set_cons_zero, List.set_cons_succ, i64_w, i32_w]
                            rfl
                          refine pure_ (i := 8) (N := some 33) (v := ?_) (a' := ?_) #[true, true, true, true, true, true, true, true, true, false, false, false, false, false, false, false, false, false] rfl rfl (by kernel_rfl) (fun _ _ _ h => h) (Or.inl ⟨by rfl, ?_⟩) ?_ ?_
                          rotate_left
                          · intro w'
                            go_simp
                            with_reducible rfl
                          rotate_left
                          · simp only [Act.put, List.setIfInBounds_toArray, List.set_cons_zero, List.set_cons_succ, i64_w, i32_w]
                            rfl
                          refine pure_ (i := 9) (N := some 34) (v := ?_) (a' := ?_) #[true, true, true, true, true, true, true, true, true, true, false, false, false, false, false, false, false, false] rfl rfl (by kernel_rfl) (fun _ _ _ h => h) (Or.inl ⟨by rfl, ?_⟩) ?_ ?_
                          rotate_left
                          · intro w'
                            go_simp
                            with_reducible rfl
                          rotate_left
                          · simp only [Act.put, List.setIfInBounds_toArray, List.set_cons_zero, List.set_cons_succ, i64_w, i32_w]
                            rfl
                          refine pure_ (i := 10) (N := some 35) (v := ?_) (a' := ?_) #[true, true, true, true, true, true, true, true, true, true, true, false, false, false, false, false, false, false] rfl rfl (by kernel_rfl) (fun _ _ _ h => h) (Or.inl ⟨by rfl, ?_⟩) ?_ ?_
                          rotate_left
                          · intro w'
                            go_simp
                            with_reducible rfl
                          rotate_left
                          · simp only [Act.put, List.setIfInBounds_toArray, List.set_cons_zero, List.set_cons_succ, i64_w, i32_w]
                            rfl
                          refine pure_ (i := 11) (N := some 36) (v := ?_) (a' := ?_) #[true, true, true, true, true, true, true, true, true, true, true, true, false, false, false, false, false, false] rfl rfl (by kernel_rfl) (fun _ _ _ h => h) (Or.inl ⟨by rfl, ?_⟩) ?_ ?_
                          rotate_left
                          · intro w'
                            go_simp
                            with_reducible rfl
                          rotate_left
                          · simp only [Act.put, List.setIfInBounds_toArray, List.set_cons_zero, List.set_cons_succ, i64_w, i32_w]
                            rfl
                          refine pure_ (i := 12) (N := some 37) (v := undef) (a' := ?_) #[true, true, true, true, true, true, true, true, true, true, true, true, true, false, false, false, false, false] rfl rfl (by kernel_rfl) (fun _ _ _ h => h) (Or.inr ⟨by rfl, rfl⟩) ?_ ?_
                          rotate_left
                          · simp only [Act.put, List.setIfInBounds_toArray, List.set_cons_zero, List.set_cons_succ, i64_w, i32_w]
                            rfl
                          refine pure_ (i := 13) (N := some 38) (v := undef) (a' := ?_) #[true, true, true, true, true, true, true, true, true, true, true, true, true, true, false, false, false, false] rfl rfl (by kernel_rfl) (fun _ _ _ h => h) (Or.inr ⟨by rfl, rfl⟩) ?_ ?_
                          rotate_left
                          · simp only [Act.put, List.setIfInBounds_toArray, List.set_cons_zero, List.set_cons_succ, i64_w, i32_w]
                            rfl
                          refine pure_ (i := 14) (N := some 39) (v := undef) (a' := ?_) #[true, true, true, true, true, true, true, true, true, true, true, true, true, true, true, false, false, false] rfl rfl (by kernel_rfl) (fun _ _ _ h => h) (Or.inr ⟨by rfl, rfl⟩) ?_ ?_
                          rotate_left
                          · simp only [Act.put, List.setIfInBounds_toArray, List.set_cons_zero, List.set_cons_succ, i64_w, i32_w]
                            rfl
                          refine pure_ (i := 15) (N := some 40) (v := undef) (a' := ?_) #[true, true, true, true, true, true, true, true, true, true, true, true, true, true, true, true, false, false] rfl rfl (by kernel_rfl) (fun _ _ _ h => h) (Or.inr ⟨by rfl, rfl⟩) ?_ ?_
                          rotate_left
                          · simp only [Act.put, List.setIfInBounds_toArray, List.set_cons_zero, List.set_cons_succ, i64_w, i32_w]
                            rfl
                          refine pure_ (i := 16) (N := some 41) (v := undef) (a' := ?_) #[true, true, true, true, true, true, true, true, true, true, true, true, true, true, true, true, true, false] rfl rfl (by kernel_rfl) (fun _ _ _ h => h) (Or.inr ⟨by rfl, rfl⟩) ?_ ?_
                          rotate_left
                          · simp only [Act.put, List.setIfInBounds_toArray, List.set_cons_zero, List.set_cons_succ, i64_w, i32_w]
                            rfl
                          refine pure_ (i := 17) (N := some 42) (v := ?_) (a' := ?_) #[true, true, true, true, true, true, true, true, true, true, true, true, true, true, true, true, true, true] rfl rfl (by kernel_rfl) (fun _ _ _ h => h) (Or.inl ⟨by rfl, ?_⟩) ?_ ?_
                          rotate_left
                          · intro w'
                            go_simp
                            with_reducible rfl
                          rotate_left
                          · simp only [Act.put, List.setIfInBounds_toArray, List.set_cons_zero, List.set_cons_succ, i64_w, i32_w]
                            rfl
                          refine done_ (by kernel_rfl) ?_
                          
                          try go_wp2
                          go_roundg k2
                          case measure => have := HK2.out; omega
                          case rel => exact ⟨s, qu, wrap64 (b + 1), (by first | rfl | (simp; done) | (simp [*]; done)), (by first | rfl | (simp; done) | (simp [*]; done)), H', ⟨by have := HK2.out; omega⟩, HQ, ⟨(by (with_reducible repeat (first | apply Kd.R_alloc | apply Kd.R_drewN | apply Kd.R_drew)); exact HO.out)⟩, ⟨(by repeat (first | (with_reducible first | exact HB.out | apply below_alloc | apply pw_below_drewN | apply below_drew1) | exact HB.out))⟩⟩
                      · rw [if_neg d4] at H; exact absurd H (by simp)
                    · rw [if_neg d3] at H; exact absurd H (by simp)
                  · rw [if_neg d2] at H; exact absurd H (by simp)
                · rw [if_neg d1] at H
                  have d1b : decide (b < n) = false := decide_eq_false d1
                  clear d1
                  simp only [Option.some.injEq, Prod.mk.injEq] at H
                  obtain ⟨rfl, rfl⟩ := H
                  go_wp2
                  go_roundg k1
                  case measure => have := HK1.out; omega
                  case rel => exact ⟨s, qu, wrap64 (i + 1), (by first | rfl | (simp; done) | (simp [*]; done)), (by first | rfl | (simp; done) | (simp [*]; done)), HH, ⟨by have := HK1.out; omega⟩, ⟨(by (with_reducible repeat (first | apply Kd.R_alloc | apply Kd.R_drewN | apply Kd.R_drew)); exact HO.out)⟩, ⟨(by repeat (first | (with_reducible first | exact HB.out | apply below_alloc | apply pw_below_drewN | apply below_drew1) | exact HB.out))⟩⟩
          · rw [if_neg c2] at H; exact absurd H (by simp)
        · rw [if_neg c1] at H
          have c1b : decide (i < (q.length : Int)) = false := decide_eq_false c1
          clear c1
          have H' := Aside0.mk H
          clear H
          go_wp2
          go_loopg [54] k1 (fun kq v54 w' => ∃ (a : Int), v54 = .int .i64 a ∧ Aside0 (impl_PairCycle.l4 kq l s a = some r) ∧ Aside0 (kq ≤ k1) ∧ Aside0 (Below w.heap.size w w'))
          case atStart => exact ⟨0, (by first | rfl | (simp; done) | (simp [*]; done)), H', ⟨Nat.le_refl _⟩, ⟨(by repeat (first | (with_reducible first | exact HB.out | apply below_alloc | apply pw_below_drewN | apply below_drew1) | exact HB.out))⟩⟩
          case round =>
            clear H' HB HO hnr hcr
            obtain ⟨a, rfl, HI, HK2, HB⟩ := hrel
            cases gk with
            | zero => exact absurd HI.out (by simp [impl_PairCycle.l4])
            | succ k2 =>
              have H := HI.out
              clear HI
              simp only [impl_PairCycle.l4] at H
              by_cases d1 : a < (l.length : Int)
              · rw [if_pos d1] at H
                have d1b : decide (a < (l.length : Int)) = true := decide_eq_true d1
                by_cases d2 : 0 ≤ a
                · rw [if_pos d2] at H
                  have d2b : decide (0 ≤ a) = true := decide_eq_true d2
                  obtain ⟨v, hv⟩ : ∃ v : Int, rd l a = v := ⟨_, rfl⟩
                  rw [hv] at H
                  have hv1 : wr.cell? ⟨g, a.toNat, none⟩ = some (.int .i64 v) := by rw [← hv]; exact (Kd.R_celln 0 (Kd.R_below HR0.out HB.out) a d2 d1).1
                  have d1e := eq_true d1
                  have d2e := eq_true d2
                  clear d1 d2 hv
                  obtain ⟨r2, hr2⟩ : ∃ z : Int, shr .i64 s a = z := ⟨_, rfl⟩
                  rw [hr2] at H
                  have hr2_ : (s / 2 ^ min (a).toNat 64) = r2 := hr2
                  have hr2z : (a) ≤ 64 → (s / 2 ^ (a).toNat) = r2 := shr_small hr2
                  by_cases e1 : v = 0
                  · rw [if_pos e1] at H
                    have e1b : (v != 0) = false := by rw [e1]; rfl
                    clear e1
                    have H' := Aside0.mk H
                    clear H
                    go_wp2
                    go_roundg k2
                    case measure => have := HK2.out; omega
                    case rel => exact ⟨wrap64 (a + 1), (by first | rfl | (simp; done) | (simp [*]; done)), H', ⟨by have := HK2.out; omega⟩, ⟨(by repeat (first | (with_reducible first | exact HB.out | apply below_alloc | apply pw_below_drewN | apply below_drew1) | exact HB.out))⟩⟩
                  · rw [if_neg e1] at H
                    have e1b : (v != 0) = true := bne_iff_ne.mpr e1
                    clear e1
                    by_cases e2 : Go.bits .and .i64 r2 1 = 0
                    · rw [if_pos e2] at H
                      have e2b : (Go.bits .and .i64 r2 1 == 0) = true := beq_iff_eq.mpr e2
                      clear e2
                      obtain rfl := Option.some.inj H
                      clear H
                      go_wp2
                      go_ret
                      exact ⟨rfl, (by repeat (first | (with_reducible first | exact HB.out | apply below_alloc | apply pw_below_drewN | apply below_drew1) | exact HB.out))⟩
                    · rw [if_neg e2] at H
                      have e2b : (Go.bits .and .i64 r2 1 == 0) = false := beq_eq_false_iff_ne.mpr e2
                      clear e2
                      have H' := Aside0.mk H
                      clear H
                      go_wp2
                      go_roundg k2
                      case measure => have := HK2.out; omega
                      case rel => exact ⟨wrap64 (a + 1), (by first | rfl | (simp; done) | (simp [*]; done)), H', ⟨by have := HK2.out; omega⟩, ⟨(by repeat (first | (with_reducible first | exact HB.out | apply below_alloc | apply pw_below_drewN | apply below_drew1) | exact HB.out))⟩⟩
                · rw [if_neg d2] at H; exact absurd H (by simp)
              · rw [if_neg d1] at H
                have d1b : decide (a < (l.length : Int)) = false := decide_eq_false d1
                clear d1
                obtain rfl := Option.some.inj H
                clear H
                go_wp2
                go_ret
                exact ⟨rfl, (by repeat (first | (with_reducible first | exact HB.out | apply below_alloc | apply pw_below_drewN | apply below_drew1) | exact HB.out))⟩
  · rw [if_neg c0] at h; exact absurd h (by simp)
def impl_PairCycle.l1 : Nat → Int → List Int → Int → Option (List Int)
  | 0, _, _, _ => none
  | k + 1, n, l, i => if i < (l.length : Int) then (if 0 ≤ i then (impl_PairCycle.l1 k n (l.set i.toNat (Go.bits .andNot .i64 (wrap64 (shl .i64 1 n - 1)) (shl .i64 1 i))) (wrap64 (i + 1))) else none) else some l
def impl_PairCycle.in1 : Nat → Int → Int → List Int → List Int → Int → Option (List Int × List Int)
  | 0, _, _, _, _, _ => none
  | k + 1, n, a, l, o, b => if b < n then (if 0 ≤ b then (if b < (l.length : Int) then (if 0 ≤ a then (if a < (l.length : Int) then (if Go.bits .and .i64 (shr .i64 (rd l a) b) 1 = 0 then (impl_PairCycle.in1 k n a l o (wrap64 (b + 1))) else ((impl_PairCycle.whole k (impl_PairCycle.turn l a b) n b).bind fun t => (if t = true then (if o.length < 1000 then some (impl_PairCycle.turn l a b, o ++ [b]) else none) else (impl_PairCycle.in1 k n a (impl_PairCycle.turn (impl_PairCycle.turn l a b) a b) o (wrap64 (b + 1)))))) else none) else none) else none) else none) else some (l, o)
def impl_PairCycle.l2 : Nat → Int → List Int → List Int → Option (List Int)
  | 0, _, _, _ => none
  | k + 1, n, l, o => if (o.length : Int) < wrap64 (Int.tdiv (wrap64 (n * wrap64 (n - 1))) 2) then (if 0 < o.length then ((impl_PairCycle.in1 k n (rd o (wrap64 ((o.length : Int) - 1))) l o 0).bind fun z => impl_PairCycle.l2 k n z.1 z.2) else none) else some o
def impl_PairCycle.f (k : Nat) (a0 : Int) : Option (List Int × Bool) := (impl_within.f a0 2 11).bind fun b => (if b = true then (if Int.tmod a0 2 = 0 then some (([] : List Int), false) else (if 0 < a0 then (if a0.toNat ≤ 1000 then ((impl_PairCycle.l1 k a0 (List.replicate a0.toNat 0) 0).bind fun l => ((impl_PairCycle.l2 k a0 l [0]).bind fun o => some (o, true))) else none) else none)) else some (([] : List Int), false))
theorem impl_PairCycle.mono_in0 : ∀ k, (∀ y0 y1 y2 y3 y4 y5, LeO (impl_PairCycle.in0 k y0 y1 y2 y3 y4 y5) (impl_PairCycle.in0 (k + 1) y0 y1 y2 y3 y4 y5))
  | 0 => fun _ _ _ _ _ _ r h => by simp [impl_PairCycle.in0] at h
  | k + 1 => by
    have ih := impl_PairCycle.mono_in0 k
    intro y0 y1 y2 y3 y4 y5
    unfold impl_PairCycle.in0
    exact LeO.ite (LeO.ite (LeO.ite (LeO.ite (LeO.ite (LeO.ite (LeO.ite (ih _ _ _ _ _ _) (LeO.refl _)) (ih _ _ _ _ _ _)) (ih _ _ _ _ _ _)) (LeO.refl _)) (LeO.refl _)) (LeO.refl _)) (LeO.refl _)
theorem impl_PairCycle.mono_l4 : ∀ k, (∀ y0 y1 y2, LeO (impl_PairCycle.l4 k y0 y1 y2) (impl_PairCycle.l4 (k + 1) y0 y1 y2))
  | 0 => fun _ _ _ r h => by simp [impl_PairCycle.l4] at h
  | k + 1 => by
    have ih := impl_PairCycle.mono_l4 k
    intro y0 y1 y2
    unfold impl_PairCycle.l4
    exact LeO.ite (LeO.ite (LeO.ite (ih _ _ _) (LeO.ite (LeO.refl _) (ih _ _ _))) (LeO.refl _)) (LeO.refl _)
theorem impl_PairCycle.mono_l0 : ∀ k, (∀ y0 y1 y2 y3 y4, LeO (impl_PairCycle.l0 k y0 y1 y2 y3 y4) (impl_PairCycle.l0 (k + 1) y0 y1 y2 y3 y4))
  | 0 => fun _ _ _ _ _ r h => by simp [impl_PairCycle.l0] at h
  | k + 1 => by
    have ih := impl_PairCycle.mono_l0 k
    intro y0 y1 y2 y3 y4
    unfold impl_PairCycle.l0
    exact LeO.ite (LeO.ite (LeO.bind (impl_PairCycle.mono_in0 k _ _ _ _ _ _) (fun _ => ih _ _ _ _ _)) (LeO.refl _)) (impl_PairCycle.mono_l4 k _ _ _)
theorem impl_PairCycle.mono_whole (k : Nat) (l : List Int) (n b : Int) : LeO (impl_PairCycle.whole k l n b) (impl_PairCycle.whole (k + 1) l n b) := LeO.ite (impl_PairCycle.mono_l0 k _ _ _ _ _) (LeO.refl _)
theorem impl_PairCycle.mono_l1 : ∀ k, (∀ y0 y1 y2, LeO (impl_PairCycle.l1 k y0 y1 y2) (impl_PairCycle.l1 (k + 1) y0 y1 y2))
  | 0 => fun _ _ _ r h => by simp [impl_PairCycle.l1] at h
  | k + 1 => by
    have ih := impl_PairCycle.mono_l1 k
    intro y0 y1 y2
    unfold impl_PairCycle.l1
    exact LeO.ite (LeO.ite (ih _ _ _) (LeO.refl _)) (LeO.refl _)
theorem impl_PairCycle.mono_in1 : ∀ k, (∀ y0 y1 y2 y3 y4, LeO (impl_PairCycle.in1 k y0 y1 y2 y3 y4) (impl_PairCycle.in1 (k + 1) y0 y1 y2 y3 y4))
  | 0 => fun _ _ _ _ _ r h => by simp [impl_PairCycle.in1] at h
  | k + 1 => by
    have ih := impl_PairCycle.mono_in1 k
    intro y0 y1 y2 y3 y4
    unfold impl_PairCycle.in1
    exact LeO.ite (LeO.ite (LeO.ite (LeO.ite (LeO.ite (LeO.ite (ih _ _ _ _ _) (LeO.bind (impl_PairCycle.mono_whole k _ _ _) (fun _ => LeO.ite (LeO.refl _) (ih _ _ _ _ _)))) (LeO.refl _)) (LeO.refl _)) (LeO.refl _)) (LeO.refl _)) (LeO.refl _)
theorem impl_PairCycle.mono_l2 : ∀ k, (∀ y0 y1 y2, LeO (impl_PairCycle.l2 k y0 y1 y2) (impl_PairCycle.l2 (k + 1) y0 y1 y2))
  | 0 => fun _ _ _ r h => by simp [impl_PairCycle.l2] at h
  | k + 1 => by
    have ih := impl_PairCycle.mono_l2 k
    intro y0 y1 y2
    unfold impl_PairCycle.l2
    exact LeO.ite (LeO.ite (LeO.bind (impl_PairCycle.mono_in1 k _ _ _ _ _) (fun _ => ih _ _ _)) (LeO.refl _)) (LeO.refl _)
theorem impl_PairCycle.mono : ∀ a0 k, LeO (impl_PairCycle.f k a0) (impl_PairCycle.f (k + 1) a0) := fun a0 k =>
  LeO.bind (LeO.refl _) (fun _ => LeO.ite (LeO.ite (LeO.refl _) (LeO.ite (LeO.ite (LeO.bind (impl_PairCycle.mono_l1 k _ _ _) (fun _ => LeO.bind (impl_PairCycle.mono_l2 k _ _ _) (fun _ => LeO.refl _))) (LeO.refl _)) (LeO.refl _))) (LeO.refl _))
theorem impl_PairCycle.turn_length (l : List Int) (a b : Int) : (impl_PairCycle.turn l a b).length = l.length := by unfold impl_PairCycle.turn impl_PairCycle.half; rw [List.length_set, List.length_set]
section
variable {P : Program} {ops : Array Oper} {Q : Exit → Act → World → Prop}
theorem impl_PairCycle.gate_tmp {rest : List Oper} {o : Oper} {a : Act} {W : World} {t : Tmp} {xs : Array Operand} {ts : Array TypeId} (_ho : o.op = .call { callee := .value (.tmp t), args := xs, argTypes := ts }) (h : wpList P ops Q (o :: rest) a W) : wpList P ops Q (o :: rest) a W := h
theorem impl_PairCycle.goesV {rest : List Oper} {oi : Oper} {a : Act} {w : World} (N : Option Tmp) (hd : oi.dst = N) (hg : oi.guard = none) {t : Tmp} {f : FuncId} {fn : Func} {cap : Array Value} {xs : Array Operand} {ts : Array TypeId} (hf : P.funcs[f]? = some fn) (hname : (fn.name == "runtime.NumGoroutine") = false) (hb : fn.body.isSome = true) (args : Array Value)
    (hop : oi.op = .call { callee := .value (.tmp t), args := xs, argTypes := ts }) (hv : a.eval (.tmp t) = .func (.func f) #[] cap) (hargs : xs.map a.eval ++ cap = args)
    (h : Calls P f args w fun e w' => ∃ v, e = .returned v ∧ wpList P ops Q rest (a.put N v) w') : wpList P ops Q (oi :: rest) a w := by
  refine wpList_plain hg fun K hK => ?_
  have he := enters_ hf hname hb args w
  have hrun : (execOp a.eval oi).run P w = .ok (.enter f args) w := by
    unfold execOp
    simp [hop, resolve, Deferred.ofValue, invoke, hv, hargs, he]
  unfold Oper.wp
  rw [hrun, Oper.upon_enter]
  refine h.mono fun e w'' hh => ?_
  obtain ⟨v, rfl, hk⟩ := hh
  subst hd
  exact hK _ _ hk
end
def impl_PairCycle.Inv (w w' : World) (n : Int) (bn bl g c m : Nat) (l : List Int) : Prop :=
  w'.cell? ⟨bn, 0, none⟩ = some (.int .i64 n) ∧ w'.cell? ⟨bl, 0, none⟩ = some (.slice (some ⟨g, 0, none⟩) m c) ∧ l.length = m ∧ Kd.R (Kd.int .i64) 3 w' w.heap.size (fun _ => True) (.slice (some ⟨g, 0, none⟩) m c) l ∧ Below w.heap.size w w' ∧ w.heap.size ≤ g ∧ bn ≠ g ∧ bl ≠ g ∧ g < w'.heap.size
theorem impl_PairCycle.inv_drew {w w' : World} {n : Int} {bn bl g c m : Nat} {l : List Int} (h : impl_PairCycle.Inv w w' n bn bl g c m l) : impl_PairCycle.Inv w w'.drew n bn bl g c m l := by
  obtain ⟨h1, h2, h3, h4, h5, h6, h7, h8, h9⟩ := h
  exact ⟨h1, h2, h3, Kd.R_drew h4, below_drew1 h5, h6, h7, h8, h9⟩
theorem impl_PairCycle.inv_below {w w' w1 : World} {n : Int} {bn bl g c m : Nat} {l : List Int} (h : impl_PairCycle.Inv w w' n bn bl g c m l) (hb : Below w'.heap.size w' w1) : impl_PairCycle.Inv w w1 n bn bl g c m l := by
  obtain ⟨h1, h2, h3, h4, h5, h6, h7, h8, h9⟩ := h
  exact ⟨(hb.cell (World.block_lt_of_cell? _ _ h1)).trans h1, (hb.cell (World.block_lt_of_cell? _ _ h2)).trans h2, h3, Kd.R_below h4 hb, below_step h5 hb, h6, h7, h8, Nat.lt_of_lt_of_le h9 hb.size⟩
theorem impl_PairCycle.inv_put {w w' w1 : World} {n : Int} {bn bl g c m : Nat} {l l' : List Int} (h : impl_PairCycle.Inv w w' n bn bl g c m l) (hg : w'.grownBy w1 (some g)) (hR : Kd.R (Kd.int .i64) 3 w1 w.heap.size (fun _ => True) (.slice (some ⟨g, 0, none⟩) m c) l') (hl : l'.length = l.length) : impl_PairCycle.Inv w w1 n bn bl g c m l' := by
  obtain ⟨h1, h2, h3, h4, h5, h6, h7, h8, h9⟩ := h
  exact ⟨cell_grown hg h1 (by simpa using h7), cell_grown hg h2 (by simpa using h8), hl.trans h3, hR, h5.grown hg h5.size (fun k hk => by cases hk; exact h6), h6, h7, h8, Nat.lt_of_lt_of_le h9 hg.size⟩
theorem impl_PairCycle.inv_row {w w' w1 : World} {n : Int} {bn bl g c m : Nat} {l : List Int} {row : Option Nat} (h : impl_PairCycle.Inv w w' n bn bl g c m l) (hg : w'.grownBy w1 row) (hr : ∀ k, row = some k → k ≠ bn ∧ k ≠ bl ∧ k ≠ g) (hB : Below w.heap.size w w1) : impl_PairCycle.Inv w w1 n bn bl g c m l := by
  obtain ⟨h1, h2, h3, h4, h5, h6, h7, h8, h9⟩ := h
  refine ⟨cell_grown hg h1 (fun e => (hr _ e.symm).1 rfl), cell_grown hg h2 (fun e => (hr _ e.symm).2.1 rfl), h3, Kd.R_grown2 h4 rfl hg (fun k hk e => ?_), hB, h6, h7, h8, Nat.lt_of_lt_of_le h9 hg.size⟩
  have := (hr k hk).2.2
  simp [Value.ownBlock] at e
  exact this e
theorem impl_PairCycle.inv_new {w w' : World} {n : Int} {bn bl g c m : Nat} {l : List Int} (h : impl_PairCycle.Inv w w' n bn bl g c m l) (k : Nat) (hk : w'.heap.size ≤ k) : k ≠ bn ∧ k ≠ bl ∧ k ≠ g := by
  obtain ⟨h1, h2, h3, h4, h5, h6, h7, h8, h9⟩ := h
  have q1 := World.block_lt_of_cell? _ _ h1
  have q2 := World.block_lt_of_cell? _ _ h2
  exact ⟨by rintro rfl; exact absurd q1 (Nat.not_lt.mpr hk), by rintro rfl; exact absurd q2 (Nat.not_lt.mpr hk), by omega⟩
theorem impl_PairCycle.set_grown (W : World) (b : Nat) (v : Value) : W.grownBy (W.setCell ⟨b, 0, none⟩ v) (some b) := ⟨rfl, rfl, rfl, by simp [World.setCell], fun k _ hk => Below.heap_setCell W ⟨b, 0, none⟩ v k (fun e => hk (by rw [e]))⟩
theorem impl_PairCycle.len_lt {e base : Nat} {ok : Nat → Prop} {W : World} {v : Value} {xs : List Int} (h : Kd.R (Kd.int .i64) e W base ok v xs) : xs.length ≤ maxLen := by
  obtain ⟨_, ho⟩ := Kd.own_of_R h
  rcases ho with ⟨_, hn⟩ | ⟨g, cap, cur, _, _, _, h2, h3, _, _⟩
  · omega
  · omega
theorem impl_PairCycle.wrap64_sub1 {n : Nat} (h : 0 < n) (hn : n ≤ maxLen) : wrap64 ((n : Int) - 1) = (n : Int) - 1 := by
  unfold maxLen at hn
  unfold wrap64
  omega
set_option maxHeartbeats 16000000 in
set_option maxRecDepth 100000 in
theorem impl_PairCycle.calls (k : Nat) (a0 : Int) (r1 : List Int) (r2 : Bool) (w : World) (h : impl_PairCycle.f k a0 = some (r1, r2)) :
    Calls Try.prog 8 #[.int .i64 a0] w fun e w' => ∃ v0_ : Value, e = .returned (.tuple #[v0_, .bool r2]) ∧ Kd.R (Kd.int .i64) 3 w' w.heap.size (fun _ => True) v0_ r1 ∧ Below w.heap.size w w' := by
  have HB := Aside0.mk (Below.refl w.heap.size w)
  have hmf : ∀ (fn : Fn) (first cap : Array Value) (w : World), (Instr.makeFunc fn first cap).run Try.prog w = .ok (.func fn first cap) w := fun _ _ _ _ => rfl
  unfold impl_PairCycle.f at h
  obtain ⟨b, hb, H⟩ := Option.bind_eq_some_iff.mp h
  have A1 := Aside0.mk hb
  clear h hb
  by_cases c1 : b = true
  · subst c1
    replace H := (if_pos rfl).symm.trans H
    by_cases c2 : Int.tmod a0 2 = 0
    · rw [if_pos c2] at H
      have c2b : (Int.tmod a0 2 == 0) = true := beq_iff_eq.mpr c2
      clear c2
      simp only [Option.some.injEq, Prod.mk.injEq] at H
      obtain ⟨rfl, rfl⟩ := H
      go_enter Try.func8, Try.ntmps8
      go_wp2_with (first
        | ((with_reducible refine gate_dst (N := 1) rfl ?_); refine box_event ?hg (N := 1) ?hd (cs := #[.int .i64 a0]) (t := 3) ?hr ?_; (case hd => rfl); (case hg => rfl); (case hr => first | (go_simp; done) | (go_simp; rfl)); intro bn hbn w1 hbox hb; have n0_ := Aside0.mk (below_step (by repeat (first | (with_reducible first | exact HB.out | apply below_alloc | apply pw_below_drewN | apply below_drew1) | exact HB.out)) hb); clear HB; have HB := n0_; clear n0_; have hcz : w1.cell? ⟨bn, 0, none⟩ = some (.int .i64 a0) := (blk_cell hbox 0).trans rfl; clear hbox hb hbn)
        | ((with_reducible refine gate_callee (f := 32) rfl ?_); refine goesL_ (some 12) rfl rfl Try.func32 (by kernel_rfl) rfl #[.int .i64 a0, .int .i64 2, .int .i64 11] rfl (by (try simp only [List.map_toArray, List.map_cons, List.map_nil]); first | done | rfl) ?_; (with_reducible refine (impl_within.calls a0 2 11 true _ A1.out).mono ?_); rintro e w2 ⟨rfl, ⟨nd2, rfl⟩⟩; refine ⟨_, rfl, ?_⟩; have hcz2 : (w1.drewN nd2).cell? ⟨bn, 0, none⟩ = some (.int .i64 a0) := hcz))
      go_ret2
      exact ⟨_, rfl, Kd.R_nil _ _ _ _ _, (by repeat (first | (with_reducible first | exact HB.out | apply below_alloc | apply pw_below_drewN | apply below_drew1) | exact HB.out))⟩
    · rw [if_neg c2] at H
      have c2b : (Int.tmod a0 2 == 0) = false := beq_eq_false_iff_ne.mpr c2
      clear c2
      by_cases c3 : 0 < a0
      · rw [if_pos c3] at H
        have C3 := Aside0.mk c3
        have c3b : decide (0 ≤ a0) = true := decide_eq_true (by omega)
        have c3e : (0 ≤ a0) = True := eq_true (by omega)
        clear c3
        by_cases c4 : a0.toNat ≤ 1000
        · rw [if_pos c4] at H
          have C4 := Aside0.mk c4
          clear c4
          obtain ⟨left, hl1, H⟩ := Option.bind_eq_some_iff.mp H
          obtain ⟨oF, hl2, H⟩ := Option.bind_eq_some_iff.mp H
          simp only [Option.some.injEq, Prod.mk.injEq] at H
          obtain ⟨rfl, rfl⟩ := H
          obtain ⟨y0, hy0⟩ : ∃ y : List Int, y = List.replicate a0.toNat 0 := ⟨_, rfl⟩
          rw [← hy0] at hl1
          have Ny := Aside0.mk hy0
          have A2 := Aside0.mk hl1
          have A3 := Aside0.mk hl2
          clear hl1 hl2 hy0
          obtain ⟨yo, hyo⟩ : ∃ y : List Int, y = [0] := ⟨_, rfl⟩
          rw [← hyo] at A3
          have Nyo := Aside0.mk hyo
          clear hyo
          go_enter Try.func8, Try.ntmps8
          go_wp2_with (first
            | ((with_reducible refine gate_dst (N := 1) rfl ?_); refine box_event ?hg (N := 1) ?hd (cs := #[.int .i64 a0]) (t := 3) ?hr ?_; (case hd => rfl); (case hg => rfl); (case hr => first | (go_simp; done) | (go_simp; rfl)); intro bn hbn w1 hbox hb; have n0_ := Aside0.mk (below_step (by repeat (first | (with_reducible first | exact HB.out | apply below_alloc | apply pw_below_drewN | apply below_drew1) | exact HB.out)) hb); clear HB; have HB := n0_; clear n0_; have hcz : w1.cell? ⟨bn, 0, none⟩ = some (.int .i64 a0) := (blk_cell hbox 0).trans rfl; clear hbox hb hbn)
            | ((with_reducible refine gate_callee (f := 32) rfl ?_); refine goesL_ (some 12) rfl rfl Try.func32 (by kernel_rfl) rfl #[.int .i64 a0, .int .i64 2, .int .i64 11] rfl (by (try simp only [List.map_toArray, List.map_cons, List.map_nil]); first | done | rfl) ?_; (with_reducible refine (impl_within.calls a0 2 11 true _ A1.out).mono ?_); rintro e w2 ⟨rfl, ⟨nd2, rfl⟩⟩; refine ⟨_, rfl, ?_⟩; have hcz2 : (w1.drewN nd2).cell? ⟨bn, 0, none⟩ = some (.int .i64 a0) := hcz)
            | ((with_reducible refine gate_dst (N := 20) rfl ?_); refine Kd.R_make (Kd.int .i64) _ 3 rfl (N := 20) rfl 22 _ _ rfl a0 rfl rfl Try.underlying22 (.int .i64 0) 8 info3 rfl (by decide) (by omega) 0 (ok := fun _ => True) (okp := fun _ => True) rfl (fun _ hk => hk) trivial (by have := C3.out; omega) (Nat.le_trans (Nat.mul_le_mul_right _ C4.out) (by omega)) (Below.refl _ _) (Nat.le_refl _) ?_; intro v20 w3 ho hb hg_ hnew_; clear hg_ hnew_; rw [← Ny.out] at ho; obtain ⟨g, c, eo, gb, gl, _, _⟩ := Kd.R_form ho (by rw [Ny.out, List.length_replicate]; have := C3.out; omega); subst eo; have hn3 : w3.cell? ⟨bn, 0, none⟩ = some (.int .i64 a0) := (hb.cell (World.block_lt_of_cell? _ _ hcz2)).trans hcz2; have N1 : Aside0 (bn ≠ g) := ⟨fun e_ => by have := World.block_lt_of_cell? _ _ hcz2; rw [e_] at this; exact absurd gb (Nat.not_le.mpr this)⟩; have GG := Aside0.mk (Nat.le_trans (below_size (by repeat (first | (with_reducible first | exact HB.out | apply below_alloc | apply pw_below_drewN | apply below_drew1) | exact HB.out))) gb); have GL := Aside0.mk gl; have HR := Aside0.mk (Kd.R_lower ho (below_size (by repeat (first | (with_reducible first | exact HB.out | apply below_alloc | apply pw_below_drewN | apply below_drew1) | exact HB.out)))); have n1_ := Aside0.mk (below_step (by repeat (first | (with_reducible first | exact HB.out | apply below_alloc | apply pw_below_drewN | apply below_drew1) | exact HB.out)) hb); clear HB ho hb gb gl; have HB := n1_; clear n1_)
            | ((with_reducible refine gate_dst (N := 4) rfl ?_); refine box_event ?hg (N := 4) ?hd (cs := #[.slice none 0 0]) (t := 22) ?hr ?_; (case hd => rfl); (case hg => rfl); (case hr => first | (go_simp; done) | (go_simp; rfl)); intro bl hbl w4 hbox hb; have hn4 : w4.cell? ⟨bn, 0, none⟩ = some (.int .i64 a0) := (hb.cell (World.block_lt_of_cell? _ _ hn3)).trans hn3; have N2 : Aside0 (bl ≠ g) := ⟨fun e_ => by have := GL.out; omega⟩; have N3 : Aside0 (bl ≠ bn) := ⟨fun e_ => by have := World.block_lt_of_cell? _ _ hn3; rw [← e_, hbl] at this; exact absurd this (Nat.lt_irrefl _)⟩; have GEl := Aside0.mk (show w.heap.size ≤ bl by rw [hbl]; exact below_size (by repeat (first | (with_reducible first | exact HB.out | apply below_alloc | apply pw_below_drewN | apply below_drew1) | exact HB.out))); have n0_ := Aside0.mk (Kd.R_below HR.out hb); have n1_ := Aside0.mk (below_step (by repeat (first | (with_reducible first | exact HB.out | apply below_alloc | apply pw_below_drewN | apply below_drew1) | exact HB.out)) hb); have n2_ := Aside0.mk (Nat.lt_of_lt_of_le GL.out hb.size); have hcz4 : w4.cell? ⟨bl, 0, none⟩ = some (.slice none 0 0) := (blk_cell hbox 0).trans rfl; have hfz4 := blk_frozen hbox 0; have BKl := Aside0.mk hbox; clear HB HR GL hb hbl hbox; have HR := n0_; have HB := n1_; have GL := n2_; clear n0_ n1_ n2_)
            | ((with_reducible refine gate_store (t := 22) (p := 4) rfl ?_); refine store_event (t := 22) (p := 4) (v := .tmp 20) (w1 := (w4.setCell ⟨bl, 0, none⟩ (.slice (some ⟨g, 0, none⟩) y0.length c))) ?hg ?ho ?hn ?hr ?_; (case ho => rfl); (case hg => rfl); (case hn => rfl); (case hr => first | (go_simp; done) | (go_simp; rfl)); intro w5 hw; have hcl5 : w5.cell? ⟨bl, 0, none⟩ = some (.slice (some ⟨g, 0, none⟩) y0.length c) := (by rw [hw]; simp [World.cell?, World.setCell, Array.getElem?_modify, BKl.out]); have HI : Aside0 (impl_PairCycle.Inv w w5 a0 bn bl g c y0.length y0) := ⟨⟨by rw [hw, World.cell?_setCell_far _ _ _ _ N3.out]; exact hn4, hcl5, rfl, by rw [hw]; exact Kd.R_grown2 HR.out rfl (impl_PairCycle.set_grown w4 bl _) (fun k hk e_ => by cases hk; simp [Value.ownBlock] at e_; exact N2.out e_), by rw [hw]; exact below_set HB.out GEl.out, GG.out, N1.out, N2.out, by rw [hw]; simpa [World.setCell] using GL.out⟩⟩; clear hw))
          go_loopg [23] k (fun kq v23 w' => ∃ (y : List Int) (i : Int), v23 = .int .i64 i ∧ Aside0 (impl_PairCycle.l1 kq a0 y i = some left) ∧ Aside0 (kq ≤ k) ∧ Aside0 (impl_PairCycle.Inv w w' a0 bn bl g c y0.length y))
          case atStart => exact ⟨y0, 0, (by first | rfl | (simp; done) | (simp [*]; done)), A2, ⟨Nat.le_refl _⟩, HI⟩
          case round =>
            clear A2 HI hcl5
            obtain ⟨y, i, rfl, HA, HK1, HI⟩ := hrel
            cases gk with
            | zero => exact absurd HA.out (by simp [impl_PairCycle.l1])
            | succ k1 =>
              have H := HA.out
              clear HA
              simp only [impl_PairCycle.l1] at H
              have hm : y.length = y0.length := HI.out.2.2.1
              by_cases d1 : i < (y.length : Int)
              · rw [if_pos d1] at H
                have d1' : i < (y0.length : Int) := by omega
                have d1b : decide (i < (y0.length : Int)) = true := decide_eq_true d1'
                by_cases d2 : 0 ≤ i
                · rw [if_pos d2] at H
                  have d2b : decide (0 ≤ i) = true := decide_eq_true d2
                  obtain ⟨sn, hsn⟩ : ∃ s : Int, shl .i64 1 a0 = s := ⟨_, rfl⟩
                  obtain ⟨si, hsi⟩ : ∃ s : Int, shl .i64 1 i = s := ⟨_, rfl⟩
                  rw [hsn, hsi] at H
                  have hsn_ : (IntKind.i64.wrap (1 * 2 ^ min (a0).toNat 64)) = sn := hsn
                  have hsnz : (a0) ≤ 64 → (IntKind.i64.wrap (1 * 2 ^ (a0).toNat)) = sn := shl_small hsn
                  have hsnu : (IntKind.i64.wrap (2 ^ min (a0).toNat 64)) = sn := by have h_ := hsn_; rw [Int.one_mul] at h_; exact h_
                  have hsnv : (a0) ≤ 64 → (IntKind.i64.wrap (2 ^ (a0).toNat)) = sn := fun hle_ => by have h_ := hsnz hle_; rw [Int.one_mul] at h_; exact h_
                  have hsny : (wrap64 (1 * 2 ^ min (a0).toNat 64)) = sn := (i64_w _).symm.trans hsn_
                  have hsnx : (a0) ≤ 64 → (wrap64 (1 * 2 ^ (a0).toNat)) = sn := fun h_ => (i64_w _).symm.trans (hsnz h_)
                  have hsi_ : (IntKind.i64.wrap (1 * 2 ^ min (i).toNat 64)) = si := hsi
                  have hsiz : (i) ≤ 64 → (IntKind.i64.wrap (1 * 2 ^ (i).toNat)) = si := shl_small hsi
                  have hsiu : (IntKind.i64.wrap (2 ^ min (i).toNat 64)) = si := by have h_ := hsi_; rw [Int.one_mul] at h_; exact h_
                  have hsiv : (i) ≤ 64 → (IntKind.i64.wrap (2 ^ (i).toNat)) = si := fun hle_ => by have h_ := hsiz hle_; rw [Int.one_mul] at h_; exact h_
                  have hsiy : (wrap64 (1 * 2 ^ min (i).toNat 64)) = si := (i64_w _).symm.trans hsi_
                  have hsix : (i) ≤ 64 → (wrap64 (1 * 2 ^ (i).toNat)) = si := fun h_ => (i64_w _).symm.trans (hsiz h_)
                  obtain ⟨y2, hy2⟩ : ∃ y_ : List Int, y_ = y.set i.toNat (Go.bits .andNot .i64 (wrap64 (sn - 1)) si) := ⟨_, rfl⟩
                  rw [← hy2] at H
                  have Ny2 := Aside0.mk hy2
                  have H' := Aside0.mk H
                  clear hy2 H
                  have HJ := Aside0.mk (impl_PairCycle.inv_drew HI.out)
                  have hn1 : wr.drew.cell? ⟨bn, 0, none⟩ = some (.int .i64 a0) := HJ.out.1
                  have hc1 : wr.drew.cell? ⟨bl, 0, none⟩ = some (.slice (some ⟨g, 0, none⟩) y0.length c) := HJ.out.2.1
                  obtain ⟨hx1, hf1⟩ : wr.drew.cell? ⟨g, i.toNat, none⟩ = some (.int .i64 (rd y i)) ∧ wr.drew.frozen? ⟨g, i.toNat, none⟩ = false := Kd.R_celln 0 HJ.out.2.2.2.1 i d2 d1'
                  have d1e := eq_true d1'
                  have d2e := eq_true d2
                  clear d1 d2 d1' HI hm
                  try go_wp2
                  refine start_ (n := 10) (S := fun w' => w'.cell? ⟨bl, 0, none⟩ = some (.slice (some ⟨g, 0, none⟩) y0.length c) ∧ w'.cell? ⟨bn, 0, none⟩ = some (.int .i64 a0) ∧ w'.cell? ⟨g, i.toNat, none⟩ = some (.int .i64 (rd y i)) ∧ w'.frozen? ⟨g, i.toNat, none⟩ = false) (ds := [9]) #[false, false, false, false, false, false, false, false, false, false] (by kernel_rfl) rfl rfl ⟨hc1, hn1, hx1, hf1⟩ (fun hHeld => ?_)
                  generalize wr.drew = w13 at HJ hc1 hn1 hx1 hf1 hHeld ⊢
                  refine pure_ (i := 1) (N := some 27) (v := ?_) (a' := ?_) #[false, true, false, false, false, false, false, false, false, false] rfl rfl (by kernel_rfl) (fun _ _ _ h => h) (Or.inl ⟨by rfl, ?_⟩) ?_ ?_
                  rotate_left
                  · intro w'
                    go_simp
                    with_reducible rfl
                  rotate_left
                  · simp only [Act.put, List.setIfInBounds_toArray, List.set_cons_zero, List.set_cons_succ, i64_w, i32_w]
                    rfl
                  refine pure_ (i := 5) (N := some 31) (v := ?_) (a' := ?_) #[false, true, false, false, false, true, false, false, false, false] rfl rfl (by kernel_rfl) (fun _ _ _ h => h) (Or.inl ⟨by rfl, ?_⟩) ?_ ?_
                  rotate_left
                  · intro w'
                    go_simp
                    with_reducible rfl
                  rotate_left
                  · simp only [Act.put, List.setIfInBounds_toArray, List.set_cons_zero, List.set_cons_succ, i64_w, i32_w]
                    rfl
                  refine pure_ (i := 6) (N := some 32) (v := ?_) (a' := ?_) #[false, true, false, false, false, true, true, false, false, false] rfl rfl (by kernel_rfl) (fun _ _ _ h => h) (Or.inl ⟨by rfl, ?_⟩) ?_ ?_
                  rotate_left
                  · intro w'
                    go_simp
                    with_reducible rfl
                  rotate_left
                  · simp only [Act.put, List.setIfInBounds_toArray, List.set_cons_zero, List.set_cons_succ, i64_w, i32_w]
                    rfl
                  refine take_ (i := 0) (N := some 26) (v := ?_) (a' := ?_) #[true, true, false, false, false, true, true, false, false, false] rfl rfl (by kernel_rfl) (fun _ _ _ h => h) (Or.inl ⟨by rfl, ?_⟩) hHeld ?_ ?_
                  rotate_left
                  · rintro w' ⟨s0, s1, s2, s3⟩
                    go_simp
                    with_reducible rfl
                  rotate_left
                  · simp only [Act.put, List.setIfInBounds_toArray, List.set_cons_zero, List.set_cons_succ, i64_w, i32_w]
                    rfl
                  refine take_ (i := 2) (N := some 28) (v := ?_) (a' := ?_) #[true, true, true, false, false, true, true, false, false, false] rfl rfl (by kernel_rfl) (fun _ _ _ h => h) (Or.inl ⟨by rfl, ?_⟩) hHeld ?_ ?_
                  rotate_left
                  · rintro w' ⟨s0, s1, s2, s3⟩
                    go_simp
                    with_reducible rfl
                  rotate_left
                  · simp only [Act.put, List.setIfInBounds_toArray, List.set_cons_zero, List.set_cons_succ, i64_w, i32_w]
                    rfl
                  refine pure_ (i := 3) (N := some 29) (v := ?_) (a' := ?_) #[true, true, true, true, false, true, true, false, false, false] rfl rfl (by kernel_rfl) (fun _ _ _ h => h) (Or.inl ⟨by rfl, ?_⟩) ?_ ?_
                  rotate_left
                  · intro w'
                    go_simp
                    with_reducible rfl
                  rotate_left
                  · simp only [Act.put, List.setIfInBounds_toArray, List.set_cons_zero, List.set_cons_succ, i64_w, i32_w]
                    rfl
                  refine pure_ (i := 4) (N := some 30) (v := ?_) (a' := ?_) #[true, true, true, true, true, true, true, false, false, false] rfl rfl (by kernel_rfl) (fun _ _ _ h => h) (Or.inl ⟨by rfl, ?_⟩) ?_ ?_
                  rotate_left
                  · intro w'
                    go_simp
                    with_reducible rfl
                  rotate_left
                  · simp only [Act.put, List.setIfInBounds_toArray, List.set_cons_zero, List.set_cons_succ, i64_w, i32_w]
                    rfl
                  refine pure_ (i := 7) (N := some 33) (v := ?_) (a' := ?_) #[true, true, true, true, true, true, true, true, false, false] rfl rfl (by kernel_rfl) (fun _ _ _ h => h) (Or.inl ⟨by rfl, ?_⟩) ?_ ?_
                  rotate_left
                  · intro w'
                    go_simp
                    with_reducible rfl
                  rotate_left
                  · simp only [Act.put, List.setIfInBounds_toArray, List.set_cons_zero, List.set_cons_succ, i64_w, i32_w]
                    rfl
                  refine pure_ (i := 8) (N := some 34) (v := ?_) (a' := ?_) #[true, true, true, true, true, true, true, true, true, false] rfl rfl (by kernel_rfl) (fun _ _ _ h => h) (Or.inl ⟨by rfl, ?_⟩) ?_ ?_
                  rotate_left
                  · intro w'
                    go_simp
                    with_reducible rfl
                  rotate_left
                  · simp only [Act.put, List.setIfInBounds_toArray, List.set_cons_zero, List.set_cons_succ, i64_w, i32_w]
                    rfl
                  refine last_ (i := 9) (N := none) #[true, true, true, true, true, true, true, true, true, true] rfl rfl (by kernel_rfl) (by decide) (fun K hK => ?_)
                  refine skip_ (w1 := ?_) (by rfl) rfl ?_ ?_
                  rotate_left
                  · go_simp
                    rfl
                  refine hK.out _ _ ?_
                  clear hK K
                  refine done_ (by kernel_rfl) ?_
                  
                  have HP := Kd.R_putg HJ.out.2.2.2.1 i (Go.bits .andNot .i64 (wrap64 (sn - 1)) si)
                  rw [← Ny2.out] at HP
                  have HI := Aside0.mk (impl_PairCycle.inv_put HJ.out HP.2 HP.1 (by rw [Ny2.out, List.length_set]))
                  try go_wp2
                  go_roundg k1
                  case measure => have := HK1.out; omega
                  case rel => exact ⟨y2, wrap64 (i + 1), (by first | rfl | (simp; done) | (simp [*]; done)), H', ⟨by have := HK1.out; omega⟩, HI⟩
                · rw [if_neg d2] at H; exact absurd H (by simp)
              · rw [if_neg d1] at H
                have d1b : decide (i < (y0.length : Int)) = false := decide_eq_false (by omega)
                clear d1 hm
                obtain rfl := Option.some.inj H
                clear H
                have hnr : wr.cell? ⟨bn, 0, none⟩ = some (.int .i64 a0) := HI.out.1
                go_wp2_with (first
                  | ((with_reducible refine gate_dst (N := 38) rfl ?_); refine Kd.R_lit (Kd.int .i64) _ 3 ?hg (N := 38) ?hd (xs := ([0] : List Int)) (inner := [.int .i64 0]) (ok := (fun k_ => k_ ≠ bn ∧ k_ ≠ bl ∧ k_ ≠ g)) (okp := fun _ => False) ?hr ?hp (fun _ hk => hk.elim) (impl_PairCycle.inv_new HI.out _ (Nat.le_refl _)) (Below.refl _ _) (Nat.le_refl _) (by simp) ?_; (case hd => rfl); (case hg => rfl); (case hr => first | (go_simp; done) | (go_simp; rfl)); (case hp => exact (Reps.one (show Kd.M (Kd.int .i64) _ _ _ 0 [.int .i64 0] from rfl) (Reps.none _ _))); intro v38 w38 ho hb hg_ hnew_; clear hg_ hnew_; rw [← Nyo.out] at ho; have n0_ := Aside0.mk (Kd.R_lower ho (below_size HI.out.2.2.2.2.1)); have n1_ := Aside0.mk (impl_PairCycle.inv_below HI.out hb); clear HI ho hb; have HO := n0_; have HI := n1_; clear n0_ n1_))
                clear hnr
                go_loopg [8] k (fun kq v8 w' => ∃ (l o : List Int), Aside0 (impl_PairCycle.l2 kq a0 l o = some oF) ∧ Aside0 (kq ≤ k) ∧ Aside0 (impl_PairCycle.Inv w w' a0 bn bl g c y0.length l) ∧ Aside0 (Kd.R (Kd.int .i64) 3 w' w.heap.size (fun k_ => k_ ≠ bn ∧ k_ ≠ bl ∧ k_ ≠ g) v8 o))
                case atStart => exact ⟨y, yo, A3, ⟨Nat.le_refl _⟩, HI, HO⟩
                case round =>
                  clear A3 HI HO HK1
                  obtain ⟨l, o, HA, HK1, HI, HO⟩ := hrel
                  cases gk with
                  | zero => exact absurd HA.out (by simp [impl_PairCycle.l2])
                  | succ k1 =>
                    have H := HA.out
                    clear HA
                    simp only [impl_PairCycle.l2] at H
                    have hnr : wr.cell? ⟨bn, 0, none⟩ = some (.int .i64 a0) := HI.out.1
                    have hcr : wr.cell? ⟨bl, 0, none⟩ = some (.slice (some ⟨g, 0, none⟩) y0.length c) := HI.out.2.1
                    by_cases e1 : (o.length : Int) < wrap64 (Int.tdiv (wrap64 (a0 * wrap64 (a0 - 1))) 2)
                    · rw [if_pos e1] at H
                      have e1b : decide ((o.length : Int) < wrap64 (Int.tdiv (wrap64 (a0 * wrap64 (a0 - 1))) 2)) = true := decide_eq_true e1
                      clear e1
                      by_cases e2 : 0 < o.length
                      · rw [if_pos e2] at H
                        obtain ⟨go, co, eo, _, _, _, _⟩ := Kd.R_form HO.out e2
                        subst eo
                        have hco := (Kd.R_reads' HO.out).2.1
                        obtain ⟨j, hj⟩ : ∃ j : Int, wrap64 ((o.length : Int) - 1) = j := ⟨_, rfl⟩
                        rw [hj] at H
                        obtain ⟨hj1, hj2, hj3⟩ : (o.length : Int) - 1 = j ∧ 0 ≤ j ∧ j < (o.length : Int) := by
                          have hlen := impl_PairCycle.len_lt HO.out
                          rw [impl_PairCycle.wrap64_sub1 e2 hlen] at hj
                          omega
                        have hjk : wrap64 j = j := by rw [hj1] at hj; exact hj
                        have hjw : IntKind.i64.wrap j = j := (i64_w _).trans hjk
                        obtain ⟨a, ha⟩ : ∃ a : Int, rd o j = a := ⟨_, rfl⟩
                        rw [ha] at H
                        have hx : wr.cell? ⟨go, j.toNat, none⟩ = some (.int .i64 a) := by rw [← ha]; exact (Kd.R_celln 0 HO.out j hj2 hj3).1
                        have hj2b : decide (0 ≤ j) = true := decide_eq_true hj2
                        have hj3b : decide (j < (o.length : Int)) = true := decide_eq_true hj3
                        have hj2e := eq_true hj2
                        have hj3e := eq_true hj3
                        clear hj2 hj3
                        obtain ⟨⟨z1, z2⟩, hin, H⟩ := Option.bind_eq_some_iff.mp H
                        have A4 := Aside0.mk hin
                        have HH := Aside0.mk H
                        clear hin H
                        go_wp2
                        go_loopg [8, 54] k1 (fun kq v8 v54 w' => ∃ (l : List Int) (b : Int), v8 = .slice (some ⟨go, 0, none⟩) o.length co ∧ v54 = .int .i64 b ∧ Aside0 (impl_PairCycle.in1 kq a0 a l o b = some (z1, z2)) ∧ Aside0 (kq ≤ k1) ∧ Aside0 (impl_PairCycle.Inv w w' a0 bn bl g c y0.length l) ∧ Aside0 (Kd.R (Kd.int .i64) 3 w' w.heap.size (fun k_ => k_ ≠ bn ∧ k_ ≠ bl ∧ k_ ≠ g) (.slice (some ⟨go, 0, none⟩) o.length co) o))
                        case atStart => exact ⟨l, 0, (by first | rfl | (simp; done) | (simp [*]; done)), (by first | rfl | (simp; done) | (simp [*]; done)), A4, ⟨Nat.le_refl _⟩, HI, HO⟩
                        case round =>
                          clear A4 HI HO hnr hcr hx hj hj1 hjw hjk hj2b hj3b hj2e hj3e
                          obtain ⟨l, b, rfl, rfl, HIN, HK2, HI, HO⟩ := hrel
                          cases gk with
                          | zero => exact absurd HIN.out (by simp [impl_PairCycle.in1])
                          | succ k2 =>
                            have H := HIN.out
                            clear HIN
                            simp only [impl_PairCycle.in1] at H
                            have hm : l.length = y0.length := HI.out.2.2.1
                            by_cases d1 : b < a0
                            · rw [if_pos d1] at H
                              have d1b : decide (b < a0) = true := decide_eq_true d1
                              clear d1
                              by_cases d2 : 0 ≤ b
                              · rw [if_pos d2] at H
                                have D2 := Aside0.mk d2
                                by_cases d3 : b < (l.length : Int)
                                · rw [if_pos d3] at H
                                  have D3 := Aside0.mk d3
                                  by_cases d4 : 0 ≤ a
                                  · rw [if_pos d4] at H
                                    have D4 := Aside0.mk d4
                                    by_cases d5 : a < (l.length : Int)
                                    · rw [if_pos d5] at H
                                      have D5 := Aside0.mk d5
                                      have d5' : a < (y0.length : Int) := by omega
                                      have hcr : wr.cell? ⟨bl, 0, none⟩ = some (.slice (some ⟨g, 0, none⟩) y0.length c) := HI.out.2.1
                                      obtain ⟨v, hv⟩ : ∃ v : Int, rd l a = v := ⟨_, rfl⟩
                                      rw [hv] at H
                                      have hx : wr.cell? ⟨g, a.toNat, none⟩ = some (.int .i64 v) := by rw [← hv]; exact (Kd.R_celln 0 HI.out.2.2.2.1 a d4 d5').1
                                      have d2b : decide (0 ≤ b) = true := decide_eq_true d2
                                      have d4b : decide (0 ≤ a) = true := decide_eq_true d4
                                      have d5b : decide (a < (y0.length : Int)) = true := decide_eq_true d5'
                                      have d2e := eq_true d2
                                      have d4e := eq_true d4
                                      have d5e := eq_true d5'
                                      clear d2 d3 d4 d5 d5' hv hm
                                      obtain ⟨rr1, hrr1⟩ : ∃ z : Int, shr .i64 v b = z := ⟨_, rfl⟩
                                      rw [hrr1] at H
                                      have hrr1_ : (v / 2 ^ min (b).toNat 64) = rr1 := hrr1
                                      have hrr1z : (b) ≤ 64 → (v / 2 ^ (b).toNat) = rr1 := shr_small hrr1
                                      by_cases f1 : Go.bits .and .i64 rr1 1 = 0
                                      · rw [if_pos f1] at H
                                        have f1b : (Go.bits .and .i64 rr1 1 == 0) = true := beq_iff_eq.mpr f1
                                        clear f1
                                        have H' := Aside0.mk H
                                        clear H
                                        go_wp2
                                        go_roundg k2
                                        case measure => have := HK2.out; omega
                                        case rel => exact ⟨l, wrap64 (b + 1), (by first | rfl | (simp; done) | (simp [*]; done)), (by first | rfl | (simp; done) | (simp [*]; done)), H', ⟨by have := HK2.out; omega⟩, HI, HO⟩
                                      · rw [if_neg f1] at H
                                        have f1b : (Go.bits .and .i64 rr1 1 == 0) = false := beq_eq_false_iff_ne.mpr f1
                                        clear f1
                                        obtain ⟨t, ht, H⟩ := Option.bind_eq_some_iff.mp H
                                        have A5 := Aside0.mk ht
                                        clear ht
                                        by_cases f2 : t = true
                                        · subst f2
                                          replace H := (if_pos rfl).symm.trans H
                                          by_cases f3 : o.length < 1000
                                          · rw [if_pos f3] at H
                                            have CL := Aside0.mk f3
                                            clear f3
                                            simp only [Option.some.injEq, Prod.mk.injEq] at H
                                            obtain ⟨rfl, hz2⟩ := H
                                            have Nz := Aside0.mk hz2.symm
                                            clear hz2
                                            go_wp2_with (first
                                              | ((with_reducible refine impl_PairCycle.gate_tmp (t := 65) rfl ?_); refine impl_PairCycle.goesV (some 68) rfl rfl Try.func33 (by kernel_rfl) rfl #[.int .i64 a, .int .i64 b, .pointer (some ⟨bl, 0, none⟩)] rfl rfl (by (try simp only [List.map_toArray, List.map_cons, List.map_nil]); first | done | rfl | (simp; done)) ?_; refine (impl_PairCycle.turn_calls l a b bl g c y0.length w.heap.size _ HI.out.2.2.1 HI.out.2.1 HI.out.2.2.2.1 D4.out (by have := D5.out; simpa [impl_PairCycle.turn_length] using this) D2.out (by have := D3.out; simpa [impl_PairCycle.turn_length] using this) HI.out.2.2.2.2.2.2.2.1).mono ?_; rintro e w7 ⟨rfl, hR7, hg7⟩; refine ⟨_, rfl, ?_⟩; have n0_ := Aside0.mk (impl_PairCycle.inv_put HI.out hg7 hR7 (impl_PairCycle.turn_length _ _ _)); have n1_ := Aside0.mk (Kd.R_grown HO.out hg7 (fun k_ hk_ e_ => by cases e_; exact hk_.2.2 rfl)); clear HI HO hR7 hg7; have HI := n0_; have HO := n1_; clear n0_ n1_)
                                              | ((with_reducible refine impl_PairCycle.gate_tmp (t := 69) rfl ?_); refine impl_PairCycle.goesV (some 71) rfl rfl Try.func34 (by kernel_rfl) rfl #[.int .i64 b, .pointer (some ⟨bn, 0, none⟩), .pointer (some ⟨bl, 0, none⟩)] rfl rfl (by (try simp only [List.map_toArray, List.map_cons, List.map_nil]); first | done | rfl | (simp; done)) ?_; refine (impl_PairCycle.whole_calls k2 (impl_PairCycle.turn l a b) a0 b true bn bl g c y0.length w.heap.size _ HI.out.1 HI.out.2.2.1 HI.out.2.1 HI.out.2.2.2.1 A5.out).mono ?_; rintro e w8 ⟨rfl, hb8⟩; refine ⟨_, rfl, ?_⟩; have n0_ := Aside0.mk (impl_PairCycle.inv_below HI.out hb8); have n1_ := Aside0.mk (Kd.R_below HO.out hb8); clear HI HO hb8; have HI := n0_; have HO := n1_; clear n0_ n1_)
                                              | ((with_reducible refine gate_builtin (b := .append) (xs := #[.tmp 72, .tmp 74]) rfl ?_); at_builtin; refine Kd.R_append (Kd.int .i64) (w0 := w) w.heap.size rfl (.tmp 72) (.tmp 74) 22 3 (.int .i64 0) 8 rfl Try.underlying22 info3 rfl (by decide) (by omega) (.slice (some ⟨go, 0, none⟩) o.length co) o b [.int .i64 b] (fun k_ => k_ ≠ bn ∧ k_ ≠ bl ∧ k_ ≠ g) (fun _ => False) rfl rfl ?aP (fun _ hk => hk.elim) ?aF ?aO ?aB ?aS ?aL ?_; (case aP => exact rfl); (case aB => exact HI.out.2.2.2.2.1); (case aF => exact fun k_ hk_ => impl_PairCycle.inv_new HI.out k_ hk_); (case aO => exact (by (with_reducible repeat (first | apply Kd.R_alloc | apply Kd.R_drewN | apply Kd.R_drew)); exact HO.out)); (case aS => exact (below_size HI.out.2.2.2.2.1)); (case aL => have := CL.out; omega); intro v6 w6 ho hb hg hat; have HI9 := Aside0.mk (impl_PairCycle.inv_row HI.out hg (fun k_ hk_ => HO.out.1 k_ hk_) hb); rw [← Nz.out] at ho))
                                            go_roundg k1
                                            case measure => have := HK1.out; omega
                                            case rel => exact ⟨_, z2, HH, ⟨by have := HK1.out; omega⟩, HI9, ⟨ho⟩⟩
                                          · rw [if_neg f3] at H; exact absurd H (by simp)
                                        · rw [if_neg f2] at H
                                          obtain rfl := Bool.eq_false_iff.mpr f2
                                          clear f2
                                          have H' := Aside0.mk H
                                          clear H
                                          go_wp2_with (first
                                            | ((with_reducible refine impl_PairCycle.gate_tmp (t := 65) rfl ?_); refine impl_PairCycle.goesV (some 68) rfl rfl Try.func33 (by kernel_rfl) rfl #[.int .i64 a, .int .i64 b, .pointer (some ⟨bl, 0, none⟩)] rfl rfl (by (try simp only [List.map_toArray, List.map_cons, List.map_nil]); first | done | rfl | (simp; done)) ?_; refine (impl_PairCycle.turn_calls l a b bl g c y0.length w.heap.size _ HI.out.2.2.1 HI.out.2.1 HI.out.2.2.2.1 D4.out (by have := D5.out; simpa [impl_PairCycle.turn_length] using this) D2.out (by have := D3.out; simpa [impl_PairCycle.turn_length] using this) HI.out.2.2.2.2.2.2.2.1).mono ?_; rintro e w7 ⟨rfl, hR7, hg7⟩; refine ⟨_, rfl, ?_⟩; have n0_ := Aside0.mk (impl_PairCycle.inv_put HI.out hg7 hR7 (impl_PairCycle.turn_length _ _ _)); have n1_ := Aside0.mk (Kd.R_grown HO.out hg7 (fun k_ hk_ e_ => by cases e_; exact hk_.2.2 rfl)); clear HI HO hR7 hg7; have HI := n0_; have HO := n1_; clear n0_ n1_)
                                            | ((with_reducible refine impl_PairCycle.gate_tmp (t := 69) rfl ?_); refine impl_PairCycle.goesV (some 71) rfl rfl Try.func34 (by kernel_rfl) rfl #[.int .i64 b, .pointer (some ⟨bn, 0, none⟩), .pointer (some ⟨bl, 0, none⟩)] rfl rfl (by (try simp only [List.map_toArray, List.map_cons, List.map_nil]); first | done | rfl | (simp; done)) ?_; refine (impl_PairCycle.whole_calls k2 (impl_PairCycle.turn l a b) a0 b false bn bl g c y0.length w.heap.size _ HI.out.1 HI.out.2.2.1 HI.out.2.1 HI.out.2.2.2.1 A5.out).mono ?_; rintro e w8 ⟨rfl, hb8⟩; refine ⟨_, rfl, ?_⟩; have n0_ := Aside0.mk (impl_PairCycle.inv_below HI.out hb8); have n1_ := Aside0.mk (Kd.R_below HO.out hb8); clear HI HO hb8; have HI := n0_; have HO := n1_; clear n0_ n1_)
                                            | ((with_reducible refine impl_PairCycle.gate_tmp (t := 76) rfl ?_); refine impl_PairCycle.goesV (some 79) rfl rfl Try.func33 (by kernel_rfl) rfl #[.int .i64 a, .int .i64 b, .pointer (some ⟨bl, 0, none⟩)] rfl rfl (by (try simp only [List.map_toArray, List.map_cons, List.map_nil]); first | done | rfl | (simp; done)) ?_; refine (impl_PairCycle.turn_calls (impl_PairCycle.turn l a b) a b bl g c y0.length w.heap.size _ HI.out.2.2.1 HI.out.2.1 HI.out.2.2.2.1 D4.out (by have := D5.out; simpa [impl_PairCycle.turn_length] using this) D2.out (by have := D3.out; simpa [impl_PairCycle.turn_length] using this) HI.out.2.2.2.2.2.2.2.1).mono ?_; rintro e w7 ⟨rfl, hR7, hg7⟩; refine ⟨_, rfl, ?_⟩; have n0_ := Aside0.mk (impl_PairCycle.inv_put HI.out hg7 hR7 (impl_PairCycle.turn_length _ _ _)); have n1_ := Aside0.mk (Kd.R_grown HO.out hg7 (fun k_ hk_ e_ => by cases e_; exact hk_.2.2 rfl)); clear HI HO hR7 hg7; have HI := n0_; have HO := n1_; clear n0_ n1_))
                                          go_roundg k2
                                          case measure => have := HK2.out; omega
                                          case rel => exact ⟨_, wrap64 (b + 1), (by first | rfl | (simp; done) | (simp [*]; done)), (by first | rfl | (simp; done) | (simp [*]; done)), H', ⟨by have := HK2.out; omega⟩, HI, HO⟩
                                    · rw [if_neg d5] at H; exact absurd H (by simp)
                                  · rw [if_neg d4] at H; exact absurd H (by simp)
                                · rw [if_neg d3] at H; exact absurd H (by simp)
                              · rw [if_neg d2] at H; exact absurd H (by simp)
                            · rw [if_neg d1] at H
                              have d1b : decide (b < a0) = false := decide_eq_false d1
                              clear d1
                              simp only [Option.some.injEq, Prod.mk.injEq] at H
                              obtain ⟨rfl, rfl⟩ := H
                              go_wp2
                              go_roundg k1
                              case measure => have := HK1.out; omega
                              case rel => exact ⟨l, o, HH, ⟨by have := HK1.out; omega⟩, HI, HO⟩
                      · rw [if_neg e2] at H; exact absurd H (by simp)
                    · rw [if_neg e1] at H
                      have e1b : decide ((o.length : Int) < wrap64 (Int.tdiv (wrap64 (a0 * wrap64 (a0 - 1))) 2)) = false := decide_eq_false e1
                      clear e1
                      obtain rfl := Option.some.inj H
                      clear H
                      obtain ⟨Ao, co, eo⟩ := Kd.R_slice HO.out
                      subst eo
                      go_wp2
                      go_ret2
                      exact ⟨_, rfl, Kd.R_mono HO.out (fun _ _ => trivial), HI.out.2.2.2.2.1⟩
        · rw [if_neg c4] at H; exact absurd H (by simp)
      · rw [if_neg c3] at H; exact absurd H (by simp)
  · rw [if_neg c1] at H
    obtain rfl := Bool.eq_false_iff.mpr c1
    simp only [Option.some.injEq, Prod.mk.injEq] at H
    obtain ⟨rfl, rfl⟩ := H
    go_enter Try.func8, Try.ntmps8
    go_wp2_with (first
      | ((with_reducible refine gate_dst (N := 1) rfl ?_); refine box_event ?hg (N := 1) ?hd (cs := #[.int .i64 a0]) (t := 3) ?hr ?_; (case hd => rfl); (case hg => rfl); (case hr => first | (go_simp; done) | (go_simp; rfl)); intro bn hbn w1 hbox hb; have n0_ := Aside0.mk (below_step (by repeat (first | (with_reducible first | exact HB.out | apply below_alloc | apply pw_below_drewN | apply below_drew1) | exact HB.out)) hb); clear HB; have HB := n0_; clear n0_; have hcz : w1.cell? ⟨bn, 0, none⟩ = some (.int .i64 a0) := (blk_cell hbox 0).trans rfl; clear hbox hb hbn)
      | ((with_reducible refine gate_callee (f := 32) rfl ?_); refine goesL_ (some 12) rfl rfl Try.func32 (by kernel_rfl) rfl #[.int .i64 a0, .int .i64 2, .int .i64 11] rfl (by (try simp only [List.map_toArray, List.map_cons, List.map_nil]); first | done | rfl) ?_; (with_reducible refine (impl_within.calls a0 2 11 false _ A1.out).mono ?_); rintro e w2 ⟨rfl, ⟨nd2, rfl⟩⟩; refine ⟨_, rfl, ?_⟩; have hcz2 : (w1.drewN nd2).cell? ⟨bn, 0, none⟩ = some (.int .i64 a0) := hcz))
    go_ret2
    exact ⟨_, rfl, Kd.R_nil _ _ _ _ _, (by repeat (first | (with_reducible first | exact HB.out | apply below_alloc | apply pw_below_drewN | apply below_drew1) | exact HB.out))⟩

end Go.Proofs.Ytenmdfeldcjdfaa.PFnPairCycles
