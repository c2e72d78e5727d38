import Derived.Test.YtdnbeekoefmbcaaPFnSuperpermutationsx0
import Derived.Test.YtdnbeekoefmbcaaPFnSuperpermutationsx2
import Derived.Test.YtdnbeekoefmbcaaPFnSuperpermutationsx3
import Derived.Test.YtdnbeekoefmbcaaPFnSuperpermutationsx6
namespace Go.Proofs.Ytdnbeekoefmbcaa.PFnSuperpermutations
open Go.RowKit Go.Proofs.YtdnbeekoefmbcaaW.PrintWords Go.Proofs.YtdnbeekoefmbcaaW.PrintLast Go.Proofs.YtdnbeekoefmbcaaW.PrintMore
attribute [local go_sem] max2_int min2_int max_two min_two max_three min_three max_four min_four
set_option linter.unusedVariables false
set_option linter.unusedSimpArgs false
def slices_Concat_int_int.f (l0 : List (List Int)) : Option (List Int) := if l0.flatten.length < 17592186044416 ∧ l0.length < 17592186044416 then (some l0.flatten) else (none)
set_option maxHeartbeats 8000000 in
set_option maxRecDepth 100000 in
theorem slices_Concat_int_int.grow0 (w : World) :
    Calls Try.prog 172 #[.slice none 0 0, .int .i64 0] w fun e w' => ∃ v0_ : Value, e = .returned (v0_) ∧ Kd.R (Kd.int .i64) 3 w' w.heap.size (fun _ => True) v0_ [] ∧ Below w.heap.size w w' := by
  go_enter Try.func172, Try.ntmps172
  go_wp2
  go_ret
  exact ⟨_, rfl, Kd.R_nil _ _ _ _ _, Below.refl _ _⟩
set_option maxHeartbeats 8000000 in
set_option maxRecDepth 100000 in
theorem slices_Concat_int_int.grow (n : Nat) (w : World) (h0 : 0 < n) (hn : n < 17592186044416) :
    Calls Try.prog 172 #[.slice none 0 0, .int .i64 n] w fun e w' => ∃ v0_ : Value, e = .returned (v0_) ∧ Kd.R (Kd.int .i64) 3 w' w.heap.size (fun _ => True) v0_ [] ∧ Below w.heap.size w w' := by
  have hw : wrap64 (n : Int) = n := by unfold wrap64; omega
  have c1 : decide ((n : Int) < 0) = false := decide_eq_false (by omega)
  have c2 : decide (0 < (n : Int)) = true := decide_eq_true (by omega)
  have c3 : decide (0 < n) = true := decide_eq_true h0
  have HB := Aside0.mk (Below.refl w.heap.size w)
  have HN := Aside0.mk hn
  have HO := Aside0.mk h0
  clear hn h0
  go_enter Try.func172, Try.ntmps172
  go_wp2_with (first
    | ((with_reducible refine gate_builtin (b := .append) (xs := #[.tmp 20, .tmp 21]) rfl ?_); at_builtin; refine Kd.R_append_zeros (Kd.int .i64) (w0 := w) w.heap.size rfl (.tmp 20) (.tmp 21) 22 3 3 (.int .i64 0) 8 rfl Try.underlying22 Try.underlying3 info3 rfl (by decide) (by omega) (.slice none 0 0) [] 0 (wrap64 (n : Int)) (fun _ => True) rfl rfl rfl (fun _ _ => trivial) (Kd.R_nil _ _ _ _ _) (by rw [hw]; omega) (by repeat (first | (with_reducible first | exact HB.out | apply below_alloc | apply pw_below_drewN | apply below_drew1) | exact HB.out)) (below_size (by repeat (first | (with_reducible first | exact HB.out | apply below_alloc | apply pw_below_drewN | apply below_drew1) | exact HB.out))) (by have := HN.out; rw [hw]; simp; omega) ?_; intro v1 w1 ho hb hg hat; obtain ⟨Ao, co, eo⟩ := Kd.R_slice ho; subst eo; obtain ⟨i0, hi0, _, hsz, _⟩ := info_parts info3; have hroom := (Kd.R_reads' ho).2.1; have hcut := cut_to (P := Try.prog) 22 3 .i64 Try.underlying22 hi0 Ao _ co 0 (by omega) (by omega) hroom; have HO1 := Aside0.mk (Kd.R_take (m := 0) ho (Nat.zero_le _)); have HB1 := Aside0.mk hb; clear HB ho hb hg hat hi0 hsz hroom))
  go_ret
  exact ⟨_, by first | rfl | (simp; done), HO1.out, HB1.out⟩
theorem slices_Concat_int_int.grow_any (n : Int) (w : World) (h0 : 0 ≤ n) (hn : n < 17592186044416) :
    Calls Try.prog 172 #[.slice none 0 0, .int .i64 n] w fun e w' => ∃ v0_ : Value, e = .returned (v0_) ∧ Kd.R (Kd.int .i64) 3 w' w.heap.size (fun _ => True) v0_ [] ∧ Below w.heap.size w w' := by
  obtain ⟨m, rfl⟩ := Int.eq_ofNat_of_zero_le h0
  by_cases h : m = 0
  · subst h
    exact slices_Concat_int_int.grow0 w
  · exact slices_Concat_int_int.grow m w (by omega) (by omega)
def slices_Concat_int_int.rd2 (xs : List (List Int)) (i : Int) : List Int := xs.getD i.toNat []
theorem slices_Concat_int_int.at2 {w : World} {A : Option Addr} {n : Nat} {xs : List (List Int)} (h : Kd.C (Kd.slice 3 (Kd.int .i64)) w A n xs) (i : Int) (h0 : 0 ≤ i) (h1 : i < n) : ∃ ad A0 c0, A = some ad ∧ w.cell? (ad.add i.toNat) = some (.slice A0 (slices_Concat_int_int.rd2 xs i).length c0) ∧ (slices_Concat_int_int.rd2 xs i).length ≤ c0 ∧ (Kd.int .i64).C w A0 (slices_Concat_int_int.rd2 xs i).length (slices_Concat_int_int.rd2 xs i) := by
  obtain ⟨ad, c, e, _, hK, hc0⟩ := Kd.C_get h ([] : List Int) i h0 h1
  have hc : ∀ j u, c[j]? = some u → w.cell? (ad.add (i.toNat * 1 + j)) = some u := hc0
  obtain ⟨A0, c0, rfl, l0, g0⟩ := hK
  exact ⟨ad, A0, c0, e, by have hq := hc 0 _ rfl; rwa [Nat.mul_one, Nat.add_zero] at hq, l0, g0⟩
theorem slices_Concat_int_int.take_flat (l : List (List Int)) (i : Nat) (h : i < l.length) : (l.take (i + 1)).flatten = (l.take i).flatten ++ slices_Concat_int_int.rd2 l (i : Int) := by
  rw [List.take_succ_eq_append_getElem h, List.flatten_append]
  simp [slices_Concat_int_int.rd2, List.getD_eq_getElem?_getD, List.getElem?_eq_getElem h]
theorem slices_Concat_int_int.take_le (l : List (List Int)) (i : Nat) : (l.take i).flatten.length ≤ l.flatten.length := by
  conv => rhs; rw [← List.take_append_drop i l, List.flatten_append, List.length_append]
  omega
set_option maxHeartbeats 8000000 in
set_option maxRecDepth 100000 in
theorem slices_Concat_int_int.calls (A0 : Option Addr) (c0 : Nat) (l0 : List (List Int)) (r : List Int) (w : World) (hr0 : Kd.C (Kd.slice 3 (Kd.int .i64)) w A0 l0.length l0) (hc0 : l0.length ≤ c0) (h : slices_Concat_int_int.f l0 = some r) :
    Calls Try.prog 132 #[.slice A0 l0.length c0] w fun e w' => ∃ v0_ : Value, e = .returned (v0_) ∧ Kd.R (Kd.int .i64) 3 w' w.heap.size (fun _ => True) v0_ r ∧ Below w.heap.size w w' := by
  unfold slices_Concat_int_int.f at h
  by_cases c2 : l0.flatten.length < 17592186044416 ∧ l0.length < 17592186044416
  · rw [if_pos c2] at h
    obtain rfl := Option.some.inj h
    have HR0 := Aside0.mk hr0
    have HF := Aside0.mk c2.1
    have HL := Aside0.mk c2.2
    have HB := Aside0.mk (Below.refl w.heap.size w)
    clear h hr0 hc0 c2
    go_enter Try.func132, Try.ntmps132
    go_wp2
    go_loopg [3, 11] (l0.length + 1) (fun kq v3 v11 w' => ∃ (i s : Int), v11 = .int .i64 i ∧ v3 = .int .i64 s ∧ Aside0 (0 ≤ i ∧ i + kq = l0.length + 1) ∧ Aside0 (s = (((l0.take i.toNat).flatten.length : Nat) : Int)) ∧ Aside0 (Below w.heap.size w w'))
    case atStart => exact ⟨0, 0, rfl, rfl, ⟨by omega⟩, ⟨by simp⟩, HB⟩
    case round =>
      clear HB
      obtain ⟨i, s, rfl, rfl, HI, HS, HB⟩ := hrel
      by_cases c3 : i < l0.length
      · have c3b : decide (i < (l0.length : Int)) = true := decide_eq_true c3
        have hi0 := HI.out.1
        obtain ⟨ad, A1, c1, e1, hx1, hc1, hC1⟩ := slices_Concat_int_int.at2 HR0.out i hi0 c3
        cases e1
        have hlt := World.block_lt_of_cell? w _ hx1
        replace hx1 := (HB.out.cell hlt).trans hx1
        obtain ⟨j, rfl⟩ := Int.eq_ofNat_of_zero_le hi0
        have hf := slices_Concat_int_int.take_flat l0 j (by omega)
        have hle := slices_Concat_int_int.take_le l0 (j + 1)
        have hF := HF.out
        have hS := HS.out
        obtain ⟨y, hy⟩ : ∃ y, y = slices_Concat_int_int.rd2 l0 (j : Int) := ⟨_, rfl⟩
        rw [← hy] at hx1 hf
        obtain ⟨s2, hs2⟩ : ∃ s2, s2 = wrap64 (s + (y.length : Int)) := ⟨_, rfl⟩
        have hs3 : s2 = (((l0.take (j + 1)).flatten.length : Nat) : Int) := by
          rw [Int.toNat_natCast] at hS
          rw [hf] at hle ⊢
          rw [List.length_append] at hle ⊢
          rw [hs2, hS]
          unfold wrap64; omega
        have hneg : decide (s2 < 0) = false := decide_eq_false (by omega)
        have HS2 := Aside0.mk hs3
        obtain ⟨i, hi⟩ : ∃ i : Int, i = (j : Int) := ⟨_, rfl⟩
        rw [← hi] at hx1 c3b HI ⊢
        have c4 := eq_true hi0
        have c5 := eq_true c3
        rw [← hi] at c4 c5
        replace hs2 := hs2.symm
        have HJ := Aside0.mk hi
        have HC3 := Aside0.mk c3
        clear hf hle hF hC1 hc1 hy hs3 hS hi hi0 c3 hlt
        go_wp2
        have hI := HI.out
        have hC := HC3.out
        have hJ := HJ.out
        have hL := HL.out
        have hw1 : wrap64 (i + 1) = ((j + 1 : Nat) : Int) := by unfold wrap64; omega
        go_roundg (gk - 1)
        case measure => omega
        case rel => exact ⟨wrap64 (i + 1), wrap64 (s + (y.length : Int)), (by first | rfl | (simp; done)), (by first | rfl | (simp; done)), ⟨by rw [hw1]; omega⟩, ⟨by rw [hs2, hw1, Int.toNat_natCast]; exact HS2.out⟩, HB⟩
      · have c3b : decide (i < (l0.length : Int)) = false := decide_eq_false c3
        have hlen : s = ((l0.flatten.length : Nat) : Int) := by
          have := HI.out
          rw [HS.out, List.take_of_length_le (by omega)]
        have hs0 : 0 ≤ s := by omega
        have hs1 : s < 17592186044416 := by have := HF.out; omega
        have HG := Aside0.mk (And.intro hs0 hs1)
        clear hlen hs0 hs1 c3 HS HI
        go_wp2_with (first
          | ((with_reducible refine gate_callee (f := 172) rfl ?_); refine goesL_ (some 24) rfl rfl Try.func172 (by kernel_rfl) rfl #[.slice none 0 0, .int .i64 s] rfl (by (try simp only [List.map_toArray, List.map_cons, List.map_nil]); first | done | rfl) ?_; (with_reducible refine (slices_Concat_int_int.grow_any s _ HG.out.1 HG.out.2).mono ?_); rintro e w2 ⟨v6, rfl, ho2, hb2⟩; refine ⟨_, rfl, ?_⟩; have n0_ := Aside0.mk (Kd.R_lower ho2 (below_size (by repeat (first | (with_reducible first | exact HB.out | apply below_alloc | apply pw_below_drewN | apply below_drew1) | exact HB.out)))); have n1_ := Aside0.mk (below_step (by repeat (first | (with_reducible first | exact HB.out | apply below_alloc | apply pw_below_drewN | apply below_drew1) | exact HB.out)) hb2); clear HB ho2 hb2; have HO := n0_; have HB := n1_; clear n0_ n1_))
        go_loopg [6, 27] (l0.length + 1) (fun kq v6 v27 w' => ∃ (i : Int) (out : List Int), v27 = .int .i64 i ∧ Aside0 (0 ≤ i ∧ i + kq = l0.length + 1) ∧ Aside0 (out = (l0.take i.toNat).flatten) ∧ Aside0 (Kd.R (Kd.int .i64) 3 w' w.heap.size (fun _ => True) v6 out) ∧ Aside0 (Below w.heap.size w w'))
        case atStart => exact ⟨0, [], rfl, ⟨by omega⟩, ⟨by simp⟩, HO, HB⟩
        case round =>
          clear HO HB HG c3b
          obtain ⟨i, out, rfl, HI, HS, HO, HB⟩ := hrel
          by_cases c3 : i < l0.length
          · have c3b : decide (i < (l0.length : Int)) = true := decide_eq_true c3
            have hi0 := HI.out.1
            obtain ⟨ad, A1, c1, e1, hx1, hc1, hC1⟩ := slices_Concat_int_int.at2 HR0.out i hi0 c3
            cases e1
            have hlt := World.block_lt_of_cell? w _ hx1
            replace hx1 := (HB.out.cell hlt).trans hx1
            obtain ⟨j, rfl⟩ := Int.eq_ofNat_of_zero_le hi0
            have hf := slices_Concat_int_int.take_flat l0 j (by omega)
            have hle := slices_Concat_int_int.take_le l0 (j + 1)
            obtain ⟨y, hy⟩ : ∃ y, y = slices_Concat_int_int.rd2 l0 (j : Int) := ⟨_, rfl⟩
            rw [← hy] at hx1 hf hc1 hC1
            obtain ⟨out2, ho2⟩ : ∃ o, o = out ++ y := ⟨_, rfl⟩
            have hs3 : out2 = (l0.take (j + 1)).flatten := by rw [ho2, HS.out, Int.toNat_natCast, hf]
            have HS2 := Aside0.mk hs3
            have NY := Aside0.mk ho2
            have HLE := Aside0.mk (show out.length + y.length < 17592186044416 by have := HF.out; rw [← List.length_append, ← ho2, hs3]; omega)
            have HC1 := Aside0.mk hc1
            have HCC := Aside0.mk hC1
            obtain ⟨i, hi⟩ : ∃ i : Int, i = (j : Int) := ⟨_, rfl⟩
            rw [← hi] at hx1 c3b HI ⊢
            have c4 := eq_true hi0
            have c5 := eq_true c3
            rw [← hi] at c4 c5
            have HJ := Aside0.mk hi
            have HC3 := Aside0.mk c3
            clear hf hle hC1 hc1 hy hs3 hi hi0 c3 hlt ho2
            go_wp2_with (first
              | ((with_reducible refine gate_builtin (b := .append) (xs := #[.tmp 31, .tmp 32]) rfl ?_); at_builtin; refine Kd.R_append_rows (Kd.int .i64) (w0 := w) w.heap.size rfl (.tmp 31) (.tmp 32) 22 3 (.int .i64 0) 8 rfl Try.underlying22 info3 rfl (by decide) (by omega) u6 out y _ _ _ (fun _ => True) (fun _ => False) rfl rfl ?aO ?aR (fun _ _ h => h) (fun _ h => h.elim) ?aF ?aB ?aS ?aL ?_; (case aR => repeat (first | exact (Kd.C_below HCC.out HB.out) | (with_reducible refine Kd.C_alloc ?_ _) | (with_reducible refine Kd.C_drewN ?_ _) | (with_reducible refine Kd.C_drew ?_))); (case aB => exact (by repeat (first | (with_reducible first | exact HB.out | apply below_alloc | apply pw_below_drewN | apply below_drew1) | exact HB.out))); (case aF => exact (fun _ _ => trivial)); (case aO => exact (by (with_reducible repeat (first | apply Kd.R_alloc | apply Kd.R_drewN | apply Kd.R_drew)); exact HO.out)); (case aS => exact (below_size (by repeat (first | (with_reducible first | exact HB.out | apply below_alloc | apply pw_below_drewN | apply below_drew1) | exact HB.out)))); (case aL => have := HLE.out; omega); intro v7 w7 ho7 hb7 hg7 hat7; rw [← NY.out] at ho7))
            have hI := HI.out
            have hC := HC3.out
            have hJ := HJ.out
            have hL := HL.out
            have hw1 : wrap64 (i + 1) = ((j + 1 : Nat) : Int) := by unfold wrap64; omega
            go_roundg (gk - 1)
            case measure => omega
            case rel => exact ⟨wrap64 (i + 1), out2, (by first | rfl | (simp; done)), ⟨by rw [hw1]; omega⟩, ⟨by rw [hw1, Int.toNat_natCast]; exact HS2.out⟩, ⟨ho7⟩, ⟨hb7⟩⟩
          · have c3b : decide (i < (l0.length : Int)) = false := decide_eq_false c3
            have hfin : out = l0.flatten := by
              have := HI.out
              rw [HS.out, List.take_of_length_le (by omega)]
            have HE := Aside0.mk hfin
            clear hfin c3 HS HI
            go_wp2
            go_ret
            exact ⟨_, rfl, by rw [← HE.out]; exact HO.out, HB.out⟩
  · rw [if_neg c2] at h
    exact absurd h (by simp)
def impl_permutationAt.l0 : Nat → Int → List Int → List Int → Int → Option (List Int)
  | 0, _, _, _, _ => none
  | k + 1, r, left, out, i => if 0 ≤ i then ((impl_factorial.f k i).bind fun u => (if u = 0 then none else (if 0 ≤ wrap64 (Int.tdiv r u) then (if (wrap64 (Int.tdiv r u)).toNat + 1 ≤ left.length then (if wrap64 (Int.tdiv r u) < 1000000000000 then (if out.length < 17592186044416 then impl_permutationAt.l0 k (Int.tmod r u) (left.take (wrap64 (Int.tdiv r u)).toNat ++ left.drop ((wrap64 (Int.tdiv r u)).toNat + 1)) (out ++ [rd left (wrap64 (Int.tdiv r u))]) (wrap64 (i - 1)) else none) else none) else none) else none))) else some out
def impl_permutationAt.f (k : Nat) (a0 a1 : Int) : Option (List Int) := (impl_identity.f k a0).bind fun l => impl_permutationAt.l0 k a1 l [] (wrap64 (a0 - 1))
theorem impl_permutationAt.mono_l : ∀ k, (∀ y0 y1 y2 y3, LeO (impl_permutationAt.l0 k y0 y1 y2 y3) (impl_permutationAt.l0 (k + 1) y0 y1 y2 y3))
  | 0 => fun _ _ _ _ r h => by simp [impl_permutationAt.l0] at h
  | k + 1 => by
    have ih := impl_permutationAt.mono_l k
    intro y0 y1 y2 y3
    unfold impl_permutationAt.l0
    exact LeO.ite (LeO.bind (impl_factorial.mono _ _) (fun _ => LeO.ite (LeO.refl _) (LeO.ite (LeO.ite (LeO.ite (LeO.ite (ih _ _ _ _) (LeO.refl _)) (LeO.refl _)) (LeO.refl _)) (LeO.refl _)))) (LeO.refl _)
theorem impl_permutationAt.mono : ∀ a0 a1 k, LeO (impl_permutationAt.f k a0 a1) (impl_permutationAt.f (k + 1) a0 a1) := fun a0 a1 k =>
  LeO.bind (impl_identity.mono _ _) (fun _ => impl_permutationAt.mono_l k _ _ _ _)
set_option maxHeartbeats 16000000 in
set_option maxRecDepth 100000 in
theorem impl_permutationAt.calls (k : Nat) (a0 a1 : Int) (r : List Int) (w : World) (h : impl_permutationAt.f k a0 a1 = some r) :
    Calls Try.prog 159 #[.int .i64 a0, .int .i64 a1] w fun e w' => ∃ v0_ : Value, e = .returned v0_ ∧ Kd.R (Kd.int .i64) 3 w' w.heap.size (fun _ => True) v0_ r ∧ Below w.heap.size w w' := by
  have HB := Aside0.mk (Below.refl w.heap.size w)
  unfold impl_permutationAt.f at h
  obtain ⟨l, hl, H⟩ := Option.bind_eq_some_iff.mp h
  have A0 := Aside0.mk hl
  have H' := Aside0.mk H
  clear h hl H
  go_enter Try.func159, Try.ntmps159
  go_wp2_with (first
    | ((with_reducible refine gate_callee (f := 125) rfl ?_); refine goesL_ (some 10) rfl rfl Try.func125 (by kernel_rfl) rfl #[.int .i64 a0] rfl (by (try simp only [List.map_toArray, List.map_cons, List.map_nil]); first | done | rfl) ?_; (with_reducible refine (impl_identity.calls k a0 l _ A0.out).mono ?_); rintro e w10 ⟨v10, rfl, ho, hb⟩; refine ⟨_, rfl, ?_⟩; have n0_ := Aside0.mk (Kd.R_lower ho (below_size (by repeat (first | (with_reducible first | exact HB.out | apply below_alloc | apply pw_below_drewN | apply below_drew1) | exact HB.out)))); have n1_ := Aside0.mk (below_step (by repeat (first | (with_reducible first | exact HB.out | apply below_alloc | apply pw_below_drewN | apply below_drew1) | exact HB.out)) hb); clear HB ho hb; have HL := n0_; have HB := n1_; clear n0_ n1_)
    | ((with_reducible refine gate_dst (N := 11) rfl ?_); refine Kd.R_lit (Kd.int .i64) _ 3 ?hg (N := 11) ?hd (xs := ([] : List Int)) (inner := []) (ok := fun _ => True) (okp := fun _ => True) ?hr ?hp (fun _ hk => hk) trivial (Below.refl _ _) (Nat.le_refl _) (by simp) ?_; (case hd => rfl); (case hg => rfl); (case hr => first | (go_simp; done) | (go_simp; rfl)); (case hp => exact (Reps.none _ _)); intro v11 w11 ho hb hg_ hnew_; clear hg_ hnew_; have n2_ := Aside0.mk (Kd.R_below (by (with_reducible repeat (first | apply Kd.R_alloc | apply Kd.R_drewN | apply Kd.R_drew)); exact HL.out) hb); have n0_ := Aside0.mk (Kd.R_lower (Kd.R_mono (ok' := fun k_ => some k_ ≠ (v10 : Value).ownBlock) (Kd.R_new' ho (Kd.R_lt (by (with_reducible repeat (first | apply Kd.R_alloc | apply Kd.R_drewN | apply Kd.R_drew)); exact HL.out))) (fun _ hk => hk.2)) (below_size (by repeat (first | (with_reducible first | exact HB.out | apply below_alloc | apply pw_below_drewN | apply below_drew1) | exact HB.out)))); have n1_ := Aside0.mk (below_step (by repeat (first | (with_reducible first | exact HB.out | apply below_alloc | apply pw_below_drewN | apply below_drew1) | exact HB.out)) hb); clear HB HL ho hb; have HL := n2_; have HO := n0_; have HB := n1_; clear n0_ n1_ n2_))
  go_loopg [1, 5, 6, 7] k (fun kq v1 v5 v6 v7 w' => ∃ (rr : Int) (left out : List Int) (i : Int), v1 = .int .i64 rr ∧ v7 = .int .i64 i ∧ Aside0 (impl_permutationAt.l0 kq rr left out i = some r) ∧ Aside0 (kq ≤ k) ∧ Aside0 (Kd.R (Kd.int .i64) 3 w' w.heap.size (fun _ => True) v5 left) ∧ Aside0 (Kd.R (Kd.int .i64) 3 w' w.heap.size (fun k_ => some k_ ≠ (v5 : Value).ownBlock) v6 out) ∧ Aside0 (Below w.heap.size w w'))
  case atStart => exact ⟨a1, l, [], wrap64 (a0 - 1), (by first | rfl | (simp; done)), (by first | rfl | (simp; done)), H', ⟨Nat.le_refl _⟩, ⟨(by (with_reducible repeat (first | apply Kd.R_alloc | apply Kd.R_drewN | apply Kd.R_drew)); exact HL.out)⟩, ⟨(by (with_reducible repeat (first | apply Kd.R_alloc | apply Kd.R_drewN | apply Kd.R_drew)); exact HO.out)⟩, ⟨(by repeat (first | (with_reducible first | exact HB.out | apply below_alloc | apply pw_below_drewN | apply below_drew1) | exact HB.out))⟩⟩
  case round =>
    clear H' HB HL HO
    obtain ⟨rr, left, out, i, rfl, rfl, HA, HK1, HL, HO, HB⟩ := hrel
    cases gk with
    | zero => exact absurd HA.out (by simp [impl_permutationAt.l0])
    | succ k1 =>
      have H := HA.out
      clear HA
      simp only [impl_permutationAt.l0] at H
      by_cases c1 : 0 ≤ i
      · rw [if_pos c1] at H
        have c1b : decide (0 ≤ i) = true := decide_eq_true c1
        clear c1
        obtain ⟨u, hu, H⟩ := Option.bind_eq_some_iff.mp H
        have A1 := Aside0.mk hu
        clear hu
        by_cases c2 : u = 0
        · rw [if_pos c2] at H; exact absurd H (by simp)
        · rw [if_neg c2] at H
          have c2b : (u == 0) = false := beq_eq_false_iff_ne.mpr c2
          have c2c : (u = 0) = False := eq_false c2
          clear c2
          obtain ⟨kk, hkk⟩ : ∃ kk, wrap64 (Int.tdiv rr u) = kk := ⟨_, rfl⟩
          rw [hkk] at H
          by_cases c3 : 0 ≤ kk
          · rw [if_pos c3] at H
            obtain ⟨q, rfl⟩ := Int.eq_ofNat_of_zero_le c3
            rw [Int.toNat_natCast] at H
            by_cases c4 : q + 1 ≤ left.length
            · rw [if_pos c4] at H
              by_cases c5 : (q : Int) < 1000000000000
              · rw [if_pos c5] at H
                by_cases c6 : out.length < 17592186044416
                · rw [if_pos c6] at H
                  have CL := Aside0.mk c6
                  have C1 := Aside0.mk c4
                  have hq1 : wrap64 ((q : Int) + 1) = ((q + 1 : Nat) : Int) := by unfold wrap64; omega
                  obtain ⟨x, hx⟩ : ∃ x, x = rd left (q : Int) := ⟨_, rfl⟩
                  rw [← hx] at H
                  obtain ⟨y, hy⟩ : ∃ y : List Int, y = out ++ [x] := ⟨_, rfl⟩
                  rw [← hy] at H
                  have Ny := Aside0.mk hy
                  have H' := Aside0.mk H
                  clear H hy c6 c5
                  obtain ⟨g, cl, el, gb, gl, _, _⟩ := Kd.R_form HL.out (by omega)
                  subst el
                  clear gb gl
                  have hcell : wr.cell? ⟨g, q, none⟩ = some (.int .i64 x) := by
                    have := (Kd.R_celln (enc := Value.int .i64) (h1 := fun _ => rfl) 0 HL.out (q : Int) (by omega) (by omega)).1
                    rw [Int.toNat_natCast] at this
                    rw [hx]; exact this
                  clear hx
                  have p1 : (0 ≤ (q : Int)) = True := eq_true (by omega)
                  have p2 : ((q : Int) < (left.length : Int)) = True := eq_true (by omega)
                  have p3 : (q < left.length) = True := eq_true (by omega)
                  have p4 : decide ((q : Int) < (left.length : Int)) = true := decide_eq_true (by omega)
                  clear c4 c3
                  go_wp2_with (first
                    | ((with_reducible refine gate_callee (f := 82) rfl ?_); refine goesL_ (some 20) rfl rfl Try.func82 (by kernel_rfl) rfl #[.int .i64 i] rfl (by (try simp only [List.map_toArray, List.map_cons, List.map_nil]); first | done | rfl) ?_; (with_reducible refine (impl_factorial.calls k1 i u _ A1.out).mono ?_); rintro e w20 ⟨rfl, ⟨nd20, rfl⟩⟩; refine ⟨_, rfl, ?_⟩)
                    | ((with_reducible refine gate_callee (f := 82) rfl ?_); refine goesL_ (some 24) rfl rfl Try.func82 (by kernel_rfl) rfl #[.int .i64 i] rfl (by (try simp only [List.map_toArray, List.map_cons, List.map_nil]); first | done | rfl) ?_; (with_reducible refine (impl_factorial.calls k1 i u _ A1.out).mono ?_); rintro e w24 ⟨rfl, ⟨nd24, rfl⟩⟩; refine ⟨_, rfl, ?_⟩)
                    | ((with_reducible refine gate_builtin (b := .append) (xs := #[.tmp 26, .tmp 31]) rfl ?_); at_builtin; refine Kd.R_append (Kd.int .i64) (w0 := w) w.heap.size rfl (.tmp 26) (.tmp 31) 22 3 (.int .i64 0) 8 rfl Try.underlying22 info3 rfl (by decide) (by omega) u6 out x [.int .i64 x] (fun k_ => some k_ ≠ (.slice (some ⟨g, 0, none⟩) left.length cl : Value).ownBlock) (fun _ => False) rfl rfl ?aP (fun _ hk => hk.elim) ?aF ?aO ?aB ?aS ?aL ?_; (case aP => exact rfl); (case aB => exact (by repeat (first | (with_reducible first | exact HB.out | apply below_alloc | apply pw_below_drewN | apply below_drew1) | exact HB.out))); (case aF => exact fun k_ hk => Kd.fresh' (Kd.R_lt (by (with_reducible repeat (first | apply Kd.R_alloc | apply Kd.R_drewN | apply Kd.R_drew)); exact HL.out)) k_ hk); (case aO => exact (by (with_reducible repeat (first | apply Kd.R_alloc | apply Kd.R_drewN | apply Kd.R_drew)); exact HO.out)); (case aS => exact (below_size (by repeat (first | (with_reducible first | exact HB.out | apply below_alloc | apply pw_below_drewN | apply below_drew1) | exact HB.out)))); (case aL => have := CL.out; omega); intro v32 w32 ho hb hg hat; rw [← Ny.out] at ho; have n2_ := Aside0.mk (Kd.R_grown2 (by (with_reducible repeat (first | apply Kd.R_alloc | apply Kd.R_drewN | apply Kd.R_drew)); exact HL.out) rfl hg (fun k_ hk_ => HO.out.1 k_ hk_)); have n0_ := Aside0.mk ho; have n1_ := Aside0.mk hb; clear HB HO HL ho hb hg hat; have HL := n2_; have HO := n0_; have HB := n1_; clear n0_ n1_ n2_)
                    | ((with_reducible refine gate_callee (f := 98) rfl ?_); refine goesL_ (some 37) rfl rfl Try.func98 (by kernel_rfl) rfl #[.slice (some ⟨g, 0, none⟩) left.length cl, .int .i64 (q : Nat), .int .i64 ((q + 1 : Nat) : Int)] rfl (by (try simp only [List.map_toArray, List.map_cons, List.map_nil]); first | done | rfl | (simp only [hq1]; rfl)) ?_; refine (Go.Proofs.Ytdnbeekoefmbcaa.Dels.delete_own2 q (q + 1) (by (with_reducible repeat (first | apply Kd.R_alloc | apply Kd.R_drewN | apply Kd.R_drew)); exact HL.out) (by omega) C1.out).mono ?_; rintro e w37 ⟨g', hgg, hg, rfl, hR, hbl, hkk⟩; injection hgg with hgg; injection hgg with hgg _ _; subst hgg; refine ⟨_, rfl, ?_⟩; have n2_ := Aside0.mk (Kd.R_move (ok := fun k_ => some k_ ≠ (.slice (some ⟨g, 0, none⟩) left.length cl : Value).ownBlock) (by (with_reducible repeat (first | apply Kd.R_alloc | apply Kd.R_drewN | apply Kd.R_drew)); exact HO.out) (fun k_ hk_ => hkk k_ (fun e_ => hk_ (by rw [e_]; rfl)))); have n0_ := Aside0.mk hR; have n1_ := Aside0.mk (Below.trans (by repeat (first | (with_reducible first | exact HB.out | apply below_alloc | apply pw_below_drewN | apply below_drew1) | exact HB.out)) (hbl _ hg)); clear HB HO HL hR hbl hg hkk; have HL := n0_; have HO := n2_; have HB := n1_; clear n0_ n1_ n2_))
                  go_roundg k1
                  case measure => have := HK1.out; omega
                  case rel => exact ⟨Int.tmod rr u, left.take q ++ left.drop (q + 1), y, wrap64 (i - 1), (by first | rfl | (simp; done)), (by first | rfl | (simp; done)), H', ⟨by have := HK1.out; omega⟩, ⟨by have hl_ := HL.out; have hc_ := C1.out; rw [show left.length - (q + 1 - q) = left.length - 1 by omega] at hl_; exact hl_⟩, ⟨(by (with_reducible repeat (first | apply Kd.R_alloc | apply Kd.R_drewN | apply Kd.R_drew)); exact HO.out)⟩, ⟨(by repeat (first | (with_reducible first | exact HB.out | apply below_alloc | apply pw_below_drewN | apply below_drew1) | exact HB.out))⟩⟩
                · rw [if_neg c6] at H; exact absurd H (by simp)
              · rw [if_neg c5] at H; exact absurd H (by simp)
            · rw [if_neg c4] at H; exact absurd H (by simp)
          · rw [if_neg c3] at H; exact absurd H (by simp)
      · rw [if_neg c1] at H
        have c1b : decide (0 ≤ i) = false := decide_eq_false c1
        clear c1
        obtain rfl := Option.some.inj H
        clear H
        go_wp2
        go_ret
        exact ⟨_, rfl, Kd.R_mono (by (with_reducible repeat (first | apply Kd.R_alloc | apply Kd.R_drewN | apply Kd.R_drew)); exact HO.out) (fun _ _ => trivial), (by repeat (first | (with_reducible first | exact HB.out | apply below_alloc | apply pw_below_drewN | apply below_drew1) | exact HB.out))⟩
mutual
def impl_superOf.l0 : Nat → Int → List Int → List Int → Int → Int → Option (List Int)
  | 0, _, _, _, _, _ => none
  | k + 1, x0, x3, x20, x21, x22 => if x22 < x21 then (if 0 ≤ x22 then (if x22 < (x20.length : Int) then ((impl_permutationAt.f k (wrap64 (x0 - 1)) (rd x20 x22)).bind fun t250 => ((slices_Concat_int_int.f (([t250, (([wrap64 (x0 - 1)] : List Int)), t250] : List (List Int)))).bind fun t259 => (impl_superOf.l1 k x0 x3 t259 (mn (t259.length : Int) (x3.length : Int)) x20 x21 x22))) else (none)) else (none)) else (some x3)
def impl_superOf.l1 : Nat → Int → List Int → List Int → Int → List Int → Int → Int → Option (List Int)
  | 0, _, _, _, _, _, _, _ => none
  | k + 1, x0, x3, x8, x9, x20, x21, x22 => if 0 ≤ x9 then (if x9 ≤ (x8.length : Int) then (if 0 ≤ (wrap64 ((x3.length : Int) - x9)) then (if (wrap64 ((x3.length : Int) - x9)) ≤ (x3.length : Int) then ((slices_Equal_int_int.f k (x8.take (x9 : Int).toNat) (x3.drop ((wrap64 ((x3.length : Int) - x9)) : Int).toNat)).bind fun t272 => (if t272 = true then ((some (x8.drop (x9 : Int).toNat : List Int)).bind fun y273 => (if x3.length + y273.length < 17592186044416 then (impl_superOf.l0 k x0 (x3 ++ y273) x20 x21 (wrap64 (x22 + 1))) else (none))) else (impl_superOf.l1 k x0 x3 x8 (wrap64 (x9 - 1)) x20 x21 x22))) else (none)) else (none)) else (none)) else (none)
def impl_superOf.f : Nat → Int → Option (List Int)
  | 0, _ => none
  | k + 1, a0 => if a0 = 1 then (some (([0] : List Int))) else ((impl_superOf.f k (wrap64 (a0 - 1))).bind fun t243 => ((impl_comings.f k (wrap64 (a0 - 1)) t243).bind fun t246 => (impl_superOf.l0 k a0 (([] : List Int)) t246 (t246.length : Int) 0)))
end
theorem impl_superOf.mono_l : ∀ k, (∀ y0, LeO (impl_superOf.f k y0) (impl_superOf.f (k + 1) y0)) ∧ (∀ y0 y1 y2 y3 y4, LeO (impl_superOf.l0 k y0 y1 y2 y3 y4) (impl_superOf.l0 (k + 1) y0 y1 y2 y3 y4)) ∧ (∀ y0 y1 y2 y3 y4 y5 y6, LeO (impl_superOf.l1 k y0 y1 y2 y3 y4 y5 y6) (impl_superOf.l1 (k + 1) y0 y1 y2 y3 y4 y5 y6))
  | 0 => ⟨fun _ r h => by simp [impl_superOf.f] at h, fun _ _ _ _ _ r h => by simp [impl_superOf.l0] at h, fun _ _ _ _ _ _ _ r h => by simp [impl_superOf.l1] at h⟩
  | k + 1 => by
    obtain ⟨ih0, ih1, ih2⟩ := impl_superOf.mono_l k
    refine ⟨?_, ?_, ?_⟩
    · intro y0
      unfold impl_superOf.f
      repeat' first
      | (with_reducible exact ih0 _)
      | (with_reducible exact ih1 _ _ _ _ _)
      | (with_reducible exact ih2 _ _ _ _ _ _ _)
      | (with_reducible exact impl_comings.mono _ _ _)
      | (with_reducible exact impl_permutationAt.mono _ _ _)
      | (with_reducible exact slices_Equal_int_int.mono _ _ _)
      | (with_reducible exact LeO.refl _)
      | (with_reducible exact LeO.none _)
      | (with_reducible refine LeO.ite ?_ ?_)
      | (with_reducible refine LeO.bind ?_ (fun _ => ?_))
      | exact ih0 _
      | exact ih1 _ _ _ _ _
      | exact ih2 _ _ _ _ _ _ _
      | exact impl_comings.mono _ _ _
      | exact impl_permutationAt.mono _ _ _
      | exact slices_Equal_int_int.mono _ _ _
      | exact LeO.none _
      | refine LeO.ite ?_ ?_
      | refine LeO.bind ?_ (fun _ => ?_)
    · intro y0 y1 y2 y3 y4
      unfold impl_superOf.l0
      repeat' first
      | (with_reducible exact ih0 _)
      | (with_reducible exact ih1 _ _ _ _ _)
      | (with_reducible exact ih2 _ _ _ _ _ _ _)
      | (with_reducible exact impl_comings.mono _ _ _)
      | (with_reducible exact impl_permutationAt.mono _ _ _)
      | (with_reducible exact slices_Equal_int_int.mono _ _ _)
      | (with_reducible exact LeO.refl _)
      | (with_reducible exact LeO.none _)
      | (with_reducible refine LeO.ite ?_ ?_)
      | (with_reducible refine LeO.bind ?_ (fun _ => ?_))
      | exact ih0 _
      | exact ih1 _ _ _ _ _
      | exact ih2 _ _ _ _ _ _ _
      | exact impl_comings.mono _ _ _
      | exact impl_permutationAt.mono _ _ _
      | exact slices_Equal_int_int.mono _ _ _
      | exact LeO.none _
      | refine LeO.ite ?_ ?_
      | refine LeO.bind ?_ (fun _ => ?_)
    · intro y0 y1 y2 y3 y4 y5 y6
      unfold impl_superOf.l1
      repeat' first
      | (with_reducible exact ih0 _)
      | (with_reducible exact ih1 _ _ _ _ _)
      | (with_reducible exact ih2 _ _ _ _ _ _ _)
      | (with_reducible exact impl_comings.mono _ _ _)
      | (with_reducible exact impl_permutationAt.mono _ _ _)
      | (with_reducible exact slices_Equal_int_int.mono _ _ _)
      | (with_reducible exact LeO.refl _)
      | (with_reducible exact LeO.none _)
      | (with_reducible refine LeO.ite ?_ ?_)
      | (with_reducible refine LeO.bind ?_ (fun _ => ?_))
      | exact ih0 _
      | exact ih1 _ _ _ _ _
      | exact ih2 _ _ _ _ _ _ _
      | exact impl_comings.mono _ _ _
      | exact impl_permutationAt.mono _ _ _
      | exact slices_Equal_int_int.mono _ _ _
      | exact LeO.none _
      | refine LeO.ite ?_ ?_
      | refine LeO.bind ?_ (fun _ => ?_)
theorem impl_superOf.mono : ∀ a0 k, LeO (impl_superOf.f k a0) (impl_superOf.f (k + 1) a0) := by
  intro a0 k
  obtain ⟨ih0, ih1, ih2⟩ := impl_superOf.mono_l k
  exact ih0 a0
set_option maxHeartbeats 8000000 in
set_option maxRecDepth 100000 in
theorem impl_superOf.calls (k : Nat) : ∀ (a0 : Int) (r : List Int) (w : World) (h : impl_superOf.f k a0 = some r),
    Calls Try.prog 109 #[.int .i64 a0] w fun e w' => ∃ v0_ : Value, e = .returned (v0_) ∧ Kd.R (Kd.int .i64) 3 w' w.heap.size (fun _ => True) v0_ r ∧ Below w.heap.size w w' := by
  induction k using Nat.strongRecOn with
  | _ k ih =>
  intro a0 r w h
  cases k with
  | zero => exact absurd h (by simp [impl_superOf.f])
  | succ k =>
  simp only [impl_superOf.f] at h
  have HB := Aside0.mk (Below.refl w.heap.size w)
  have H : (if a0 = 1 then (some (([0] : List Int))) else ((impl_superOf.f k (wrap64 (a0 - 1))).bind fun t243 => ((impl_comings.f k (wrap64 (a0 - 1)) t243).bind fun t246 => (impl_superOf.l0 k a0 (([] : List Int)) t246 (t246.length : Int) 0)))) = some r := h
  clear h
  by_cases c2 : a0 = 1
  · rw [if_pos c2] at H
    have c2b0 : (a0 == 1) = true := beq_iff_eq.mpr c2
    have c2b1 : (a0 != 1) = false := bne_eq_false_iff_eq.mpr c2
    clear c2
    obtain ⟨y237, hy237⟩ : ∃ y_ : List Int, y_ = (([0] : List Int)) := ⟨_, rfl⟩
    replace H : (some y237) = some r := by first | (rw [hy237]; with_reducible exact H) | (have H2_ := (Option.bind_some _ _).symm.trans H; rw [hy237]; with_reducible exact H2_) | (have H2_ := (Option.bind_some _ _).symm.trans H; with_reducible exact H2_) | with_reducible exact H | (rw [hy237]; exact H) | exact H
    have Ny237 := Aside0.mk hy237
    clear hy237
    obtain rfl := Option.some.inj H
    go_enter Try.func109, Try.ntmps109
    go_wp2_with (first | ((with_reducible refine gate_dst (N := 12) rfl ?_); refine Kd.R_lit (Kd.int .i64) _ 3 ?hg (N := 12) ?hd (xs := ([0] : List Int)) (inner := [.int .i64 0]) (ok := fun _ => True) (okp := fun _ => True) ?hr ?hp (fun _ hk => hk) trivial (Below.refl _ _) (Nat.le_refl _) (by simp) ?_; (case hd => rfl); (case hg => rfl); (case hr => first | (go_simp; done) | (go_simp; rfl)); (case hp => exact (Reps.one (show Kd.M (Kd.int .i64) _ _ _ 0 [.int .i64 0] from rfl) (Reps.none _ _))); intro v238 w3 ho4 hb hg_ hnew_; clear hg_ hnew_; (first | rw [← Ny237.out] at ho4 | (simp only [Int.reduceToNat] at ho4; rw [← Ny237.out] at ho4)); have n0_ := Aside0.mk (Kd.R_lower ho4 (below_size (by repeat (first | (with_reducible first | exact HB.out | apply below_alloc | apply pw_below_drewN | apply below_drew1) | exact HB.out)))); have n1_ := Aside0.mk (below_step (by repeat (first | (with_reducible first | exact HB.out | apply below_alloc | apply pw_below_drewN | apply below_drew1) | exact HB.out)) hb); clear HB; have HO239 := n0_; have HB := n1_; clear n0_ n1_; clear hb ho4))
    go_ret
    exact ⟨_, by first | rfl | (simp [errW_none, errW_some] <;> rfl) | (simp [*, errW_none, errW_some] <;> rfl), by (with_reducible repeat (first | apply Kd.R_alloc | apply Kd.R_drewN | apply Kd.R_drew)); exact HO239.out, by repeat (first | (with_reducible first | exact HB.out | apply below_alloc | apply pw_below_drewN | apply below_drew1) | exact HB.out)⟩
  · rw [if_neg c2] at H
    have c2b0 : (a0 == 1) = false := beq_eq_false_iff_ne.mpr c2
    have c2b1 : (a0 != 1) = true := bne_iff_ne.mpr c2
    obtain ⟨y240, hy240⟩ : ∃ y_ : List Int, y_ = (([] : List Int)) := ⟨_, rfl⟩
    replace H : ((impl_superOf.f k (wrap64 (a0 - 1))).bind fun t243 => ((impl_comings.f k (wrap64 (a0 - 1)) t243).bind fun t246 => (impl_superOf.l0 k a0 y240 t246 (t246.length : Int) 0))) = some r := by first | (rw [hy240]; with_reducible exact H) | (have H2_ := (Option.bind_some _ _).symm.trans H; rw [hy240]; with_reducible exact H2_) | (have H2_ := (Option.bind_some _ _).symm.trans H; with_reducible exact H2_) | with_reducible exact H | (rw [hy240]; exact H) | exact H
    have Ny240 := Aside0.mk hy240
    clear hy240
    replace H := Option.bind_eq_some_iff.mp H
    obtain ⟨t243, A50, H⟩ := H
    replace H : ((impl_comings.f k (wrap64 (a0 - 1)) t243).bind fun t246 => (impl_superOf.l0 k a0 y240 t246 (t246.length : Int) 0)) = some r := H
    have A5 := Aside0.mk A50
    clear A50
    replace H := Option.bind_eq_some_iff.mp H
    obtain ⟨t246, A60, H⟩ := H
    replace H : (impl_superOf.l0 k a0 y240 t246 (t246.length : Int) 0) = some r := H
    have A6 := Aside0.mk A60
    clear A60
    have H' := Aside0.mk H
    clear H
    go_enter Try.func109, Try.ntmps109
    go_wp2_with (first | ((with_reducible refine gate_dst (N := 13) rfl ?_); refine Kd.R_lit (Kd.int .i64) _ 3 ?hg (N := 13) ?hd (xs := ([] : List Int)) (inner := []) (ok := fun _ => True) (okp := fun _ => True) ?hr ?hp (fun _ hk => hk) trivial (Below.refl _ _) (Nat.le_refl _) (by simp) ?_; (case hd => rfl); (case hg => rfl); (case hr => first | (go_simp; done) | (go_simp; rfl)); (case hp => exact (Reps.none _ _)); intro v241 w7 ho8 hb hg_ hnew_; clear hg_ hnew_; (first | rw [← Ny240.out] at ho8 | (simp only [Int.reduceToNat] at ho8; rw [← Ny240.out] at ho8)); have n0_ := Aside0.mk (Kd.R_lower ho8 (below_size (by repeat (first | (with_reducible first | exact HB.out | apply below_alloc | apply pw_below_drewN | apply below_drew1) | exact HB.out)))); have n1_ := Aside0.mk (below_step (by repeat (first | (with_reducible first | exact HB.out | apply below_alloc | apply pw_below_drewN | apply below_drew1) | exact HB.out)) hb); clear HB; have HO242 := n0_; have HB := n1_; clear n0_ n1_; clear hb ho8) | (go_at_call 109; (with_reducible refine (ih k (by omega) (wrap64 (a0 - 1)) t243 _ A5.out).mono ?_); rintro e w9 ⟨v244, rfl, ho0, hb⟩; have n0_ := Aside0.mk (Kd.R_elder' (by (with_reducible repeat (first | apply Kd.R_alloc | apply Kd.R_drewN | apply Kd.R_drew)); exact HO242.out) (Kd.R_base ho0) hb); have n1_ := Aside0.mk (Kd.R_lower (Kd.R_new' ho0 (Kd.R_lt (by (with_reducible repeat (first | apply Kd.R_alloc | apply Kd.R_drewN | apply Kd.R_drew)); exact HO242.out))) (below_size (by repeat (first | (with_reducible first | exact HB.out | apply below_alloc | apply pw_below_drewN | apply below_drew1) | exact HB.out)))); have n2_ := Aside0.mk (below_step (by repeat (first | (with_reducible first | exact HB.out | apply below_alloc | apply pw_below_drewN | apply below_drew1) | exact HB.out)) hb); clear HO242; clear HB; have HO242 := n0_; have HO245 := n1_; have HB := n2_; clear n0_ n1_ n2_; (try clear hb); (try clear hb2); (try clear hk); (try clear hi); (try clear ho0); obtain ⟨Ao10, co10, eo10⟩ := Kd.R_slice HO245.out; subst eo10) | (go_at_call 87; (with_reducible refine (impl_comings.calls k (wrap64 (a0 - 1)) _ _ t243 t246 _ ?side1 ?side2 A6.out).mono ?_); (case side1 => repeat (first | exact (Kd.R_reads' HO245.out).2.2 | (with_reducible refine Kd.C_alloc ?_ _) | (with_reducible refine Kd.C_drewN ?_ _) | (with_reducible refine Kd.C_drew ?_))); (case side2 => exact (Kd.R_reads' HO245.out).2.1); rintro e w11 ⟨v247, rfl, ho0, hb⟩; have n0_ := Aside0.mk (Kd.R_elder' (by (with_reducible repeat (first | apply Kd.R_alloc | apply Kd.R_drewN | apply Kd.R_drew)); exact HO242.out) (Kd.R_base ho0) hb); have n1_ := Aside0.mk (Kd.R_elder' (by (with_reducible repeat (first | apply Kd.R_alloc | apply Kd.R_drewN | apply Kd.R_drew)); exact HO245.out) (Kd.R_base ho0) hb); have n2_ := Aside0.mk (Kd.R_lower (Kd.R_new' (Kd.R_new' ho0 (Kd.R_lt (by (with_reducible repeat (first | apply Kd.R_alloc | apply Kd.R_drewN | apply Kd.R_drew)); exact HO242.out))) (Kd.R_lt (by (with_reducible repeat (first | apply Kd.R_alloc | apply Kd.R_drewN | apply Kd.R_drew)); exact HO245.out))) (below_size (by repeat (first | (with_reducible first | exact HB.out | apply below_alloc | apply pw_below_drewN | apply below_drew1) | exact HB.out)))); have n3_ := Aside0.mk (below_step (by repeat (first | (with_reducible first | exact HB.out | apply below_alloc | apply pw_below_drewN | apply below_drew1) | exact HB.out)) hb); clear HO242; clear HO245; clear HB; have HO242 := n0_; have HO245 := n1_; have HO248 := n2_; have HB := n3_; clear n0_ n1_ n2_ n3_; (try clear hb); (try clear hb2); (try clear hk); (try clear hi); (try clear ho0); obtain ⟨Ao12, co12, eo12⟩ := Kd.R_slice HO248.out; subst eo12))
    go_loopg [3, 22] k (fun kq v3 v22 w' => ∃ (x3_1 : List Int) (x22_1 : Int), v22 = .int .i64 x22_1 ∧ Aside0 (impl_superOf.l0 kq a0 x3_1 t246 (t246.length : Int) x22_1 = some r) ∧ Aside0 (kq ≤ k) ∧ Aside0 (Kd.R (Kd.int .i64) 3 w' w.heap.size (fun k_ => some k_ ≠ ((.slice Ao12 t246.length co12) : Value).ownBlock) v3 x3_1) ∧ Aside0 (Kd.R (Kd.int .i64) 3 w' w.heap.size (fun k_ => some k_ ≠ (v3 : Value).ownBlock) (.slice Ao12 t246.length co12) t246) ∧ Aside0 (Below w.heap.size w w'))
    case atStart => exact ⟨(y240), (0), (by first | rfl | (simp; done) | (simp [*]; done)), H', ⟨Nat.le_refl _⟩, ⟨by (with_reducible repeat (first | apply Kd.R_alloc | apply Kd.R_drewN | apply Kd.R_drew)); exact Kd.R_mono HO242.out (fun _ hk => hk.2)⟩, ⟨by (with_reducible repeat (first | apply Kd.R_alloc | apply Kd.R_drewN | apply Kd.R_drew)); exact Kd.R_mono HO248.out (fun _ hk => hk.1.2)⟩, ⟨by repeat (first | (with_reducible first | exact HB.out | apply below_alloc | apply pw_below_drewN | apply below_drew1) | exact HB.out)⟩⟩
    case round =>
      clear H'
      try clear c1
      try clear c2
      try clear c2b0
      try clear c2b1
      try clear p2
      try clear p6
      try clear c10
      obtain ⟨x3_1, x22_1, rfl, HA, HK1, HO_3, HO_20, HB⟩ := hrel
      cases gk with
      | zero => exact absurd HA.out (by simp [impl_superOf.l0])
      | succ k1 =>
        have H := HA.out
        clear HA
        simp only [impl_superOf.l0] at H
        by_cases c13 : x22_1 < (t246.length : Int)
        · rw [if_pos c13] at H
          have c13b0 : decide (x22_1 < (t246.length : Int)) = true := decide_eq_true c13
          clear c13
          by_cases c14 : 0 ≤ x22_1
          · rw [if_pos c14] at H
            have c14b0 : decide (0 ≤ x22_1) = true := decide_eq_true c14
            clear c14
            by_cases c15 : x22_1 < (t246.length : Int)
            · rw [if_pos c15] at H
              have c15b0 : decide (x22_1 < (t246.length : Int)) = true := decide_eq_true c15
              clear c15
              replace H := Option.bind_eq_some_iff.mp H
              obtain ⟨t250, A160, H⟩ := H
              replace H : ((slices_Concat_int_int.f (([t250, (([wrap64 (a0 - 1)] : List Int)), t250] : List (List Int)))).bind fun t259 => (impl_superOf.l1 k1 a0 x3_1 t259 (mn (t259.length : Int) (x3_1.length : Int)) t246 (t246.length : Int) x22_1)) = some r := H
              have A16 := Aside0.mk A160
              clear A160
              obtain ⟨y253, hy253⟩ : ∃ y_ : List Int, y_ = (([wrap64 (a0 - 1)] : List Int)) := ⟨_, rfl⟩
              replace H : ((slices_Concat_int_int.f (([t250, y253, t250] : List (List Int)))).bind fun t259 => (impl_superOf.l1 k1 a0 x3_1 t259 (mn (t259.length : Int) (x3_1.length : Int)) t246 (t246.length : Int) x22_1)) = some r := by first | (rw [hy253]; with_reducible exact H) | (have H2_ := (Option.bind_some _ _).symm.trans H; rw [hy253]; with_reducible exact H2_) | (have H2_ := (Option.bind_some _ _).symm.trans H; with_reducible exact H2_) | with_reducible exact H | (rw [hy253]; exact H) | exact H
              have Ny253 := Aside0.mk hy253
              clear hy253
              obtain ⟨y256, hy256⟩ : ∃ y_ : List (List Int), y_ = (([t250, y253, t250] : List (List Int))) := ⟨_, rfl⟩
              replace H : ((slices_Concat_int_int.f y256).bind fun t259 => (impl_superOf.l1 k1 a0 x3_1 t259 (mn (t259.length : Int) (x3_1.length : Int)) t246 (t246.length : Int) x22_1)) = some r := by first | (rw [hy256]; with_reducible exact H) | (have H2_ := (Option.bind_some _ _).symm.trans H; rw [hy256]; with_reducible exact H2_) | (have H2_ := (Option.bind_some _ _).symm.trans H; with_reducible exact H2_) | with_reducible exact H | (rw [hy256]; exact H) | exact H
              have Ny256 := Aside0.mk hy256
              clear hy256
              replace H := Option.bind_eq_some_iff.mp H
              obtain ⟨t259, A170, H⟩ := H
              replace H : (impl_superOf.l1 k1 a0 x3_1 t259 (mn (t259.length : Int) (x3_1.length : Int)) t246 (t246.length : Int) x22_1) = some r := H
              have A17 := Aside0.mk A170
              clear A170
              obtain ⟨ji18, hji18⟩ : ∃ j_ : Int, (mn (t259.length : Int) (x3_1.length : Int)) = j_ := ⟨_, rfl⟩
              replace H : (impl_superOf.l1 k1 a0 x3_1 t259 ji18 t246 (t246.length : Int) x22_1) = some r := by first | (rw [hji18] at H; exact H) | (simp only [hji18] at H ⊢; exact H)
              (try rw [hji18] at A16)
              (try rw [hji18] at A17)
              have hji18_ : (if (x3_1.length : Int) < (t259.length : Int) then (x3_1.length : Int) else (t259.length : Int)) = ji18 := hji18
              have hji18_n : (if x3_1.length < t259.length then (x3_1.length : Int) else (t259.length : Int)) = ji18 := by rw [← hji18_]; simp only [Int.ofNat_lt]
              have H' := Aside0.mk H
              clear H
              have p249 : 0 ≤ (x22_1 : Int) := of_decide_eq_true (by first | (with_reducible assumption) | assumption)
              have q249 : x22_1 < (t246.length : Int) := of_decide_eq_true (by first | (with_reducible assumption) | assumption)
              obtain ⟨ad249, e249, hx249_0⟩ := Kd.at_int (Kd.R_reads' HO_20.out).2.2 x22_1 p249 q249
              cases e249
              replace p249 := eq_true p249
              replace q249 := eq_true q249
              go_wp2_with (first | (go_at_call 159; (with_reducible refine (impl_permutationAt.calls k1 (wrap64 (a0 - 1)) (rd t246 x22_1) t250 _ A16.out).mono ?_); rintro e w19 ⟨v251, rfl, ho0, hb⟩; have n0_ := Aside0.mk (Kd.R_elder' (by (with_reducible repeat (first | apply Kd.R_alloc | apply Kd.R_drewN | apply Kd.R_drew)); exact HO_3.out) (Kd.R_base ho0) hb); have n1_ := Aside0.mk (Kd.R_elder' (by (with_reducible repeat (first | apply Kd.R_alloc | apply Kd.R_drewN | apply Kd.R_drew)); exact HO_20.out) (Kd.R_base ho0) hb); have n2_ := Aside0.mk (Kd.R_lower (Kd.R_new' (Kd.R_new' ho0 (Kd.R_lt (by (with_reducible repeat (first | apply Kd.R_alloc | apply Kd.R_drewN | apply Kd.R_drew)); exact HO_3.out))) (Kd.R_lt (by (with_reducible repeat (first | apply Kd.R_alloc | apply Kd.R_drewN | apply Kd.R_drew)); exact HO_20.out))) (below_size (by repeat (first | (with_reducible first | exact HB.out | apply below_alloc | apply pw_below_drewN | apply below_drew1) | exact HB.out)))); have n3_ := Aside0.mk (below_step (by repeat (first | (with_reducible first | exact HB.out | apply below_alloc | apply pw_below_drewN | apply below_drew1) | exact HB.out)) hb); clear HO_3; clear HO_20; clear HB; have HO_3 := n0_; have HO_20 := n1_; have HO252 := n2_; have HB := n3_; clear n0_ n1_ n2_ n3_; (try clear hb); (try clear hb2); (try clear hk); (try clear hi); (try clear ho0)) | ((with_reducible refine gate_dst (N := 33) rfl ?_); refine Kd.R_lit (Kd.int .i64) _ 3 ?hg (N := 33) ?hd (xs := ([wrap64 (a0 - 1)] : List Int)) (inner := [.int .i64 (wrap64 (a0 - 1))]) (ok := fun _ => True) (okp := fun _ => True) ?hr ?hp (fun _ hk => hk) trivial (Below.refl _ _) (Nat.le_refl _) (by simp) ?_; (case hd => rfl); (case hg => rfl); (case hr => first | (go_simp; done) | (go_simp; rfl)); (case hp => exact (Reps.one (show Kd.M (Kd.int .i64) _ _ _ (wrap64 (a0 - 1)) [.int .i64 (wrap64 (a0 - 1))] from rfl) (Reps.none _ _))); intro v254 w20 ho21 hb hg_ hnew_; clear hg_ hnew_; (first | rw [← Ny253.out] at ho21 | (simp only [Int.reduceToNat] at ho21; rw [← Ny253.out] at ho21)); have n0_ := Aside0.mk (Kd.R_elder' (by (with_reducible repeat (first | apply Kd.R_alloc | apply Kd.R_drewN | apply Kd.R_drew)); exact HO_3.out) (Kd.R_base ho21) hb); have n1_ := Aside0.mk (Kd.R_elder' (by (with_reducible repeat (first | apply Kd.R_alloc | apply Kd.R_drewN | apply Kd.R_drew)); exact HO_20.out) (Kd.R_base ho21) hb); have n2_ := Aside0.mk (Kd.R_elder' (by (with_reducible repeat (first | apply Kd.R_alloc | apply Kd.R_drewN | apply Kd.R_drew)); exact HO252.out) (Kd.R_base ho21) hb); have n3_ := Aside0.mk (Kd.R_lower (Kd.R_new' (Kd.R_new' (Kd.R_new' ho21 (Kd.R_lt (by (with_reducible repeat (first | apply Kd.R_alloc | apply Kd.R_drewN | apply Kd.R_drew)); exact HO_3.out))) (Kd.R_lt (by (with_reducible repeat (first | apply Kd.R_alloc | apply Kd.R_drewN | apply Kd.R_drew)); exact HO_20.out))) (Kd.R_lt (by (with_reducible repeat (first | apply Kd.R_alloc | apply Kd.R_drewN | apply Kd.R_drew)); exact HO252.out))) (below_size (by repeat (first | (with_reducible first | exact HB.out | apply below_alloc | apply pw_below_drewN | apply below_drew1) | exact HB.out)))); have n4_ := Aside0.mk (below_step (by repeat (first | (with_reducible first | exact HB.out | apply below_alloc | apply pw_below_drewN | apply below_drew1) | exact HB.out)) hb); clear HO_3; clear HO_20; clear HO252; clear HB; have HO_3 := n0_; have HO_20 := n1_; have HO252 := n2_; have HO255 := n3_; have HB := n4_; clear n0_ n1_ n2_ n3_ n4_; clear hb ho21; obtain ⟨Ao22, co22, eo22⟩ := Kd.R_slice HO252.out; subst eo22; obtain ⟨Ao23, co23, eo23⟩ := Kd.R_slice HO255.out; subst eo23) | ((with_reducible refine gate_dst (N := 35) rfl ?_); refine Kd.N_lit (Kd.slice 3 (Kd.int .i64)) _ 22 ?hg (N' := 35) ?hd (xs := ([t250, y253, t250] : List (List Int))) (inner := [.slice Ao22 t250.length co22, .slice Ao23 y253.length co23, .slice Ao22 t250.length co22]) (ok := (fun k_ => some k_ ≠ (u3 : Value).ownBlock ∧ some k_ ≠ (.slice (some ad249) t246.length co12 : Value).ownBlock)) (okp := (fun k_ => some k_ ≠ (u3 : Value).ownBlock ∧ some k_ ≠ (.slice (some ad249) t246.length co12 : Value).ownBlock)) ?hr ?hp (fun _ hk => hk) ((show ∀ k_, w20.heap.size ≤ k_ → (fun k_ => some k_ ≠ (u3 : Value).ownBlock ∧ some k_ ≠ (.slice (some ad249) t246.length co12 : Value).ownBlock) k_ from fun k_ hk => ⟨Kd.fresh' (Kd.R_lt (by (with_reducible repeat (first | apply Kd.R_alloc | apply Kd.R_drewN | apply Kd.R_drew)); exact HO_3.out)) k_ hk, Kd.fresh' (Kd.R_lt (by (with_reducible repeat (first | apply Kd.R_alloc | apply Kd.R_drewN | apply Kd.R_drew)); exact HO_20.out)) k_ hk⟩) _ (Nat.le_refl _)) (Below.refl _ _) (Nat.le_refl _) (by simp) ?_; (case hd => rfl); (case hg => rfl); (case hr => first | (go_simp; done) | (go_simp; rfl)); (case hp => exact (Reps.one (show Kd.FK (Kd.slice 3 (Kd.int .i64)) _ _ t250 [.slice Ao22 t250.length co22] from (Kd.FK_slice_mk (Kd.R_reads' (Kd.R_mono (ok' := (fun k_ => some k_ ≠ (u3 : Value).ownBlock ∧ some k_ ≠ (.slice (some ad249) t246.length co12 : Value).ownBlock)) (HO252.out) (fun k_ hk => ⟨hk.1.1.2, hk.1.2⟩))).2.1 (Kd.R_F (Kd.R_mono (ok' := (fun k_ => some k_ ≠ (u3 : Value).ownBlock ∧ some k_ ≠ (.slice (some ad249) t246.length co12 : Value).ownBlock)) (HO252.out) (fun k_ hk => ⟨hk.1.1.2, hk.1.2⟩))))) (Reps.one (show Kd.FK (Kd.slice 3 (Kd.int .i64)) _ _ y253 [.slice Ao23 y253.length co23] from (Kd.FK_slice_mk (Kd.R_reads' (Kd.R_mono (ok' := (fun k_ => some k_ ≠ (u3 : Value).ownBlock ∧ some k_ ≠ (.slice (some ad249) t246.length co12 : Value).ownBlock)) (HO255.out) (fun k_ hk => ⟨hk.1.1.2, hk.1.2⟩))).2.1 (Kd.R_F (Kd.R_mono (ok' := (fun k_ => some k_ ≠ (u3 : Value).ownBlock ∧ some k_ ≠ (.slice (some ad249) t246.length co12 : Value).ownBlock)) (HO255.out) (fun k_ hk => ⟨hk.1.1.2, hk.1.2⟩))))) (Reps.one (show Kd.FK (Kd.slice 3 (Kd.int .i64)) _ _ t250 [.slice Ao22 t250.length co22] from (Kd.FK_slice_mk (Kd.R_reads' (Kd.R_mono (ok' := (fun k_ => some k_ ≠ (u3 : Value).ownBlock ∧ some k_ ≠ (.slice (some ad249) t246.length co12 : Value).ownBlock)) (HO252.out) (fun k_ hk => ⟨hk.1.1.2, hk.1.2⟩))).2.1 (Kd.R_F (Kd.R_mono (ok' := (fun k_ => some k_ ≠ (u3 : Value).ownBlock ∧ some k_ ≠ (.slice (some ad249) t246.length co12 : Value).ownBlock)) (HO252.out) (fun k_ hk => ⟨hk.1.1.2, hk.1.2⟩))))) (Reps.none _ _))))); intro v257 w24 ho25 hb hg_ hnew_; clear hg_ hnew_; (first | rw [← Ny256.out] at ho25 | (simp only [Int.reduceToNat] at ho25; rw [← Ny256.out] at ho25)); have n0_ := Aside0.mk (Kd.R_below (by (with_reducible repeat (first | apply Kd.R_alloc | apply Kd.R_drewN | apply Kd.R_drew)); exact HO_3.out) hb); have n1_ := Aside0.mk (Kd.R_below (by (with_reducible repeat (first | apply Kd.R_alloc | apply Kd.R_drewN | apply Kd.R_drew)); exact HO_20.out) hb); have n2_ := Aside0.mk (Kd.N_lower ho25 (below_size (by repeat (first | (with_reducible first | exact HB.out | apply below_alloc | apply pw_below_drewN | apply below_drew1) | exact HB.out)))); have n3_ := Aside0.mk (below_step (by repeat (first | (with_reducible first | exact HB.out | apply below_alloc | apply pw_below_drewN | apply below_drew1) | exact HB.out)) hb); clear HO_3; clear HO_20; clear HB; clear HO252; clear HO255; have HO_3 := n0_; have HO_20 := n1_; have HO258 := n2_; have HB := n3_; clear n0_ n1_ n2_ n3_; clear hb ho25; obtain ⟨Ao26, co26, eo26⟩ := Kd.N_slice HO258.out; subst eo26) | (go_at_call 132; (with_reducible refine (slices_Concat_int_int.calls _ _ y256 t259 _ ?side1 ?side2 A17.out).mono ?_); (case side1 => repeat (first | exact (Kd.N_reads' HO258.out).2.2 | (with_reducible refine Kd.C_alloc ?_ _) | (with_reducible refine Kd.C_drewN ?_ _) | (with_reducible refine Kd.C_drew ?_))); (case side2 => exact (Kd.N_reads' HO258.out).2.1); rintro e w27 ⟨v260, rfl, ho0, hb⟩; have n0_ := Aside0.mk (Kd.R_elder' (by (with_reducible repeat (first | apply Kd.R_alloc | apply Kd.R_drewN | apply Kd.R_drew)); exact HO_3.out) (Kd.R_base ho0) hb); have n1_ := Aside0.mk (Kd.R_elder' (by (with_reducible repeat (first | apply Kd.R_alloc | apply Kd.R_drewN | apply Kd.R_drew)); exact HO_20.out) (Kd.R_base ho0) hb); have n2_ := Aside0.mk (Kd.N_elder' (by (with_reducible repeat (first | apply Kd.N_alloc | apply Kd.N_drewN | apply Kd.N_drew)); exact HO258.out) (Kd.R_base ho0) hb); have n3_ := Aside0.mk (Kd.R_lower (Kd.R_new' (Kd.R_new' ho0 (Kd.R_lt (by (with_reducible repeat (first | apply Kd.R_alloc | apply Kd.R_drewN | apply Kd.R_drew)); exact HO_3.out))) (Kd.R_lt (by (with_reducible repeat (first | apply Kd.R_alloc | apply Kd.R_drewN | apply Kd.R_drew)); exact HO_20.out))) (below_size (by repeat (first | (with_reducible first | exact HB.out | apply below_alloc | apply pw_below_drewN | apply below_drew1) | exact HB.out)))); have n4_ := Aside0.mk (below_step (by repeat (first | (with_reducible first | exact HB.out | apply below_alloc | apply pw_below_drewN | apply below_drew1) | exact HB.out)) hb); clear HO_3; clear HO_20; clear HO258; clear HB; have HO_3 := n0_; have HO_20 := n1_; have HO258 := n2_; have HO261 := n3_; have HB := n4_; clear n0_ n1_ n2_ n3_ n4_; (try clear hb); (try clear hb2); (try clear hk); (try clear hi); (try clear ho0); obtain ⟨Ao28, co28, eo28⟩ := Kd.R_slice HO261.out; subst eo28; obtain ⟨Ao29, co29, eo29⟩ := Kd.R_slice HO_3.out; subst eo29))
              go_loopg [9] k1 (fun kq v9 w' => ∃ (x9_2 : Int), v9 = .int .i64 x9_2 ∧ Aside0 (impl_superOf.l1 kq a0 x3_1 t259 x9_2 t246 (t246.length : Int) x22_1 = some r) ∧ Aside0 (kq ≤ k1) ∧ Aside0 (Kd.R (Kd.int .i64) 3 w' w.heap.size (fun k_ => some k_ ≠ ((.slice Ao28 t259.length co28) : Value).ownBlock ∧ some k_ ≠ ((.slice (some ad249) t246.length co12) : Value).ownBlock) (.slice Ao29 x3_1.length co29) x3_1) ∧ Aside0 (Kd.R (Kd.int .i64) 3 w' w.heap.size (fun k_ => some k_ ≠ ((.slice Ao29 x3_1.length co29) : Value).ownBlock ∧ some k_ ≠ ((.slice (some ad249) t246.length co12) : Value).ownBlock) (.slice Ao28 t259.length co28) t259) ∧ Aside0 (Kd.R (Kd.int .i64) 3 w' w.heap.size (fun k_ => some k_ ≠ ((.slice Ao29 x3_1.length co29) : Value).ownBlock ∧ some k_ ≠ ((.slice Ao28 t259.length co28) : Value).ownBlock) (.slice (some ad249) t246.length co12) t246) ∧ Aside0 (Below w.heap.size w w'))
              case atStart => exact ⟨(ji18), (by first | rfl | (simp; done) | (simp only [← hji18] <;> (first | rfl | simp)) | (simp [*]; done)), H', ⟨Nat.le_refl _⟩, ⟨by (with_reducible repeat (first | apply Kd.R_alloc | apply Kd.R_drewN | apply Kd.R_drew)); exact Kd.R_mono HO_3.out (fun _ hk => ⟨hk.2, hk.1.1.1⟩)⟩, ⟨by (with_reducible repeat (first | apply Kd.R_alloc | apply Kd.R_drewN | apply Kd.R_drew)); exact Kd.R_mono HO261.out (fun _ hk => ⟨hk.1.2, hk.2⟩)⟩, ⟨by (with_reducible repeat (first | apply Kd.R_alloc | apply Kd.R_drewN | apply Kd.R_drew)); exact Kd.R_mono HO_20.out (fun _ hk => ⟨hk.1.1.1, hk.2⟩)⟩, ⟨by repeat (first | (with_reducible first | exact HB.out | apply below_alloc | apply pw_below_drewN | apply below_drew1) | exact HB.out)⟩⟩
              case round =>
                clear H'
                try clear c1
                try clear c2
                try clear c2b0
                try clear c2b1
                try clear p2
                try clear q2
                try clear hx2
                try clear p6
                try clear c10
                try clear c13
                try clear c13b0
                try clear c14
                try clear c14b0
                try clear c15
                try clear c15b0
                try clear p24
                try clear q24
                try clear hx24
                try clear hx249_0
                try clear p2
                try clear p249
                try clear p6
                try clear q249
                obtain ⟨x9_2, rfl, HA, HK2, HO_3, HO_8, HO_20, HB⟩ := hrel
                cases gk with
                | zero => exact absurd HA.out (by simp [impl_superOf.l1])
                | succ k2 =>
                  have H := HA.out
                  clear HA
                  simp only [impl_superOf.l1] at H
                  by_cases c30 : 0 ≤ x9_2
                  · rw [if_pos c30] at H
                    have c30b0 := eq_true c30
                    have c30b1 : decide (0 ≤ x9_2) = true := decide_eq_true c30
                    clear c30
                    by_cases c31 : x9_2 ≤ (t259.length : Int)
                    · rw [if_pos c31] at H
                      have c31b0 := eq_true c31
                      have c31b1 : decide (x9_2 ≤ (t259.length : Int)) = true := decide_eq_true c31
                      clear c31
                      obtain ⟨y262, hy262⟩ : ∃ y_ : List Int, y_ = (t259.take (x9_2 : Int).toNat) := ⟨_, rfl⟩
                      replace H : (if 0 ≤ (wrap64 ((x3_1.length : Int) - x9_2)) then (if (wrap64 ((x3_1.length : Int) - x9_2)) ≤ (x3_1.length : Int) then ((slices_Equal_int_int.f k2 y262 (x3_1.drop ((wrap64 ((x3_1.length : Int) - x9_2)) : Int).toNat)).bind fun t272 => (if t272 = true then ((some (t259.drop (x9_2 : Int).toNat : List Int)).bind fun y273 => (if x3_1.length + y273.length < 17592186044416 then (impl_superOf.l0 k2 a0 (x3_1 ++ y273) t246 (t246.length : Int) (wrap64 (x22_1 + 1))) else (none))) else (impl_superOf.l1 k2 a0 x3_1 t259 (wrap64 (x9_2 - 1)) t246 (t246.length : Int) x22_1))) else (none)) else (none)) = some r := by first | (rw [hy262]; with_reducible exact H) | (have H2_ := (Option.bind_some _ _).symm.trans H; rw [hy262]; with_reducible exact H2_) | (have H2_ := (Option.bind_some _ _).symm.trans H; with_reducible exact H2_) | with_reducible exact H | (rw [hy262]; exact H) | exact H
                      have Ny262 := Aside0.mk hy262
                      clear hy262
                      obtain ⟨ji32, hji32⟩ : ∃ j_ : Int, (wrap64 ((x3_1.length : Int) - x9_2)) = j_ := ⟨_, rfl⟩
                      replace H : (if 0 ≤ (ji32) then (if (ji32) ≤ (x3_1.length : Int) then ((slices_Equal_int_int.f k2 y262 (x3_1.drop ((ji32) : Int).toNat)).bind fun t272 => (if t272 = true then ((some (t259.drop (x9_2 : Int).toNat : List Int)).bind fun y273 => (if x3_1.length + y273.length < 17592186044416 then (impl_superOf.l0 k2 a0 (x3_1 ++ y273) t246 (t246.length : Int) (wrap64 (x22_1 + 1))) else (none))) else (impl_superOf.l1 k2 a0 x3_1 t259 (wrap64 (x9_2 - 1)) t246 (t246.length : Int) x22_1))) else (none)) else (none)) = some r := by first | (rw [hji32] at H; exact H) | (simp only [hji32] at H ⊢; exact H)
                      have hji32w : (IntKind.i64.wrap ((x3_1.length : Int) - x9_2)) = ji32 := (i64_w _).trans hji32
                      by_cases c33 : 0 ≤ (ji32)
                      · rw [if_pos c33] at H
                        have c33b0 := eq_true c33
                        have c33b1 : decide (0 ≤ (ji32)) = true := decide_eq_true c33
                        clear c33
                        by_cases c34 : (ji32) ≤ (x3_1.length : Int)
                        · rw [if_pos c34] at H
                          have c34b0 := eq_true c34
                          have c34b1 : decide ((ji32) ≤ (x3_1.length : Int)) = true := decide_eq_true c34
                          clear c34
                          obtain ⟨y267, hy267⟩ : ∃ y_ : List Int, y_ = (x3_1.drop ((ji32) : Int).toNat) := ⟨_, rfl⟩
                          replace H : ((slices_Equal_int_int.f k2 y262 y267).bind fun t272 => (if t272 = true then ((some (t259.drop (x9_2 : Int).toNat : List Int)).bind fun y273 => (if x3_1.length + y273.length < 17592186044416 then (impl_superOf.l0 k2 a0 (x3_1 ++ y273) t246 (t246.length : Int) (wrap64 (x22_1 + 1))) else (none))) else (impl_superOf.l1 k2 a0 x3_1 t259 (wrap64 (x9_2 - 1)) t246 (t246.length : Int) x22_1))) = some r := by first | (rw [hy267]; with_reducible exact H) | (have H2_ := (Option.bind_some _ _).symm.trans H; rw [hy267]; with_reducible exact H2_) | (have H2_ := (Option.bind_some _ _).symm.trans H; with_reducible exact H2_) | with_reducible exact H | (rw [hy267]; exact H) | exact H
                          have Ny267 := Aside0.mk hy267
                          clear hy267
                          replace H := Option.bind_eq_some_iff.mp H
                          obtain ⟨t272, A350, H⟩ := H
                          replace H : (if t272 = true then ((some (t259.drop (x9_2 : Int).toNat : List Int)).bind fun y273 => (if x3_1.length + y273.length < 17592186044416 then (impl_superOf.l0 k2 a0 (x3_1 ++ y273) t246 (t246.length : Int) (wrap64 (x22_1 + 1))) else (none))) else (impl_superOf.l1 k2 a0 x3_1 t259 (wrap64 (x9_2 - 1)) t246 (t246.length : Int) x22_1)) = some r := H
                          have A35 := Aside0.mk A350
                          clear A350
                          by_cases c36 : t272 = true
                          · subst c36
                            have H1 : ((some (t259.drop (x9_2 : Int).toNat : List Int)).bind fun y273 => (if x3_1.length + y273.length < 17592186044416 then (impl_superOf.l0 k2 a0 (x3_1 ++ y273) t246 (t246.length : Int) (wrap64 (x22_1 + 1))) else (none))) = some r := by rw [if_pos rfl] at H; exact H
                            clear H
                            have H := H1
                            clear H1
                            have c37b0 := eq_true (of_decide_eq_true (by first | (with_reducible assumption) | assumption) : 0 ≤ x9_2)
                            have c38b0 := eq_true (of_decide_eq_true (by first | (with_reducible assumption) | assumption) : x9_2 ≤ (t259.length : Int))
                            obtain ⟨y273, hy273⟩ : ∃ y_ : List Int, y_ = (t259.drop (x9_2 : Int).toNat) := ⟨_, rfl⟩
                            replace H : (if x3_1.length + y273.length < 17592186044416 then (impl_superOf.l0 k2 a0 (x3_1 ++ y273) t246 (t246.length : Int) (wrap64 (x22_1 + 1))) else (none)) = some r := by first | (rw [hy273]; with_reducible exact H) | (have H2_ := (Option.bind_some _ _).symm.trans H; rw [hy273]; with_reducible exact H2_) | (have H2_ := (Option.bind_some _ _).symm.trans H; with_reducible exact H2_) | with_reducible exact H | (rw [hy273]; exact H) | exact H
                            have Ny273 := Aside0.mk hy273
                            clear hy273
                            by_cases c39 : x3_1.length + y273.length < 17592186044416
                            · rw [if_pos c39] at H
                              have LMc39 := Aside0.mk c39
                              clear c39
                              obtain ⟨y278, hy278⟩ : ∃ y_ : List Int, y_ = (x3_1 ++ y273) := ⟨_, rfl⟩
                              replace H : (impl_superOf.l0 k2 a0 y278 t246 (t246.length : Int) (wrap64 (x22_1 + 1))) = some r := by first | (rw [hy278]; with_reducible exact H) | (have H2_ := (Option.bind_some _ _).symm.trans H; rw [hy278]; with_reducible exact H2_) | (have H2_ := (Option.bind_some _ _).symm.trans H; with_reducible exact H2_) | with_reducible exact H | (rw [hy278]; exact H) | exact H
                              have Ny278 := Aside0.mk hy278
                              clear hy278
                              have H' := Aside0.mk H
                              clear H
                              have q40 : (x9_2 : Int) ≤ ((t259.length : Int) : Int) := of_decide_eq_true (by first | (with_reducible assumption) | assumption)
                              obtain ⟨i040, hi040, _, hsz40, _⟩ := info_parts info3
                              have hroom40 : t259.length ≤ co28 := (Kd.R_reads' HO_8.out).2.1
                              have hC40 : Kd.F (Kd.int .i64) _ _ Ao28 t259.length t259 := (Kd.V_at (base := w.heap.size) (Kd.R_V HO_8.out)).2.2
                              have hcut40 := cut_to (P := Try.prog) 22 3 .i64 Try.underlying22 hi040 Ao28 t259.length co28 x9_2 (of_decide_eq_true (by first | (with_reducible assumption) | assumption)) q40 hroom40
                              have hr40 := Kd.F_take (m := (x9_2 : Int).toNat) hC40 (by omega)
                              have hy40 : y262.length = (x9_2 : Int).toNat := (by rw [Ny262.out, List.length_take]; omega)
                              rw [← Ny262.out] at hr40
                              rw [← hy40] at hcut40
                              have HO266 := Aside0.mk (show Kd.V (Kd.int .i64) 3 _ w.heap.size _ (.slice Ao28 y262.length co28) y262 from Kd.V_mk (by omega) hr40)
                              have HC266 := Aside0.mk (show y262.length ≤ co28 from by omega)
                              clear hr40 hC40 hroom40 hi040 hsz40
                              have KY40 := Aside0.mk hy40
                              clear hy40
                              replace q40 := eq_true q40
                              have q41 : ((ji32) : Int) ≤ ((x3_1.length : Int) : Int) := of_decide_eq_true (by first | (with_reducible assumption) | assumption)
                              obtain ⟨i041, hi041, _, hsz41, _⟩ := info_parts info3
                              have hroom41 : x3_1.length ≤ co29 := (Kd.R_reads' HO_3.out).2.1
                              have hC41 : Kd.F (Kd.int .i64) _ _ Ao29 x3_1.length x3_1 := (Kd.V_at (base := w.heap.size) (Kd.R_V HO_3.out)).2.2
                              have q041 : (0 : Int) ≤ ((ji32) : Int) := of_decide_eq_true (by first | (with_reducible assumption) | assumption)
                              have hcut41 := cut_from (P := Try.prog) 22 3 .i64 Try.underlying22 hi041 1 hsz41 Ao29 x3_1.length co29 (ji32) q041 q41
                              have hr41 := Kd.F_cut (m := ((ji32) : Int).toNat) (c := co29) hC41 (by omega) hroom41
                              obtain ⟨A41, hA41⟩ : ∃ A1, A1 = (if co29 = ((ji32) : Int).toNat then Ao29 else (Ao29 : Option Addr).map (·.add (((ji32) : Int).toNat * 1))) := ⟨_, rfl⟩
                              obtain ⟨c41, hc41⟩ : ∃ c1, c1 = co29 - ((ji32) : Int).toNat := ⟨_, rfl⟩
                              have hy41 : y267.length = x3_1.length - ((ji32) : Int).toNat := (by rw [Ny267.out, List.length_drop] <;> omega)
                              rw [show (x3_1).drop ((ji32) : Int).toNat = y267 from Ny267.out.symm] at hr41
                              replace hr41 : Kd.F (Kd.int .i64) _ _ A41 y267.length y267 := (by rw [hA41]; exact hr41)
                              rw [← hy41, ← hA41, ← hc41] at hcut41
                              have HO271 := Aside0.mk (show Kd.V (Kd.int .i64) 3 _ w.heap.size _ (.slice A41 y267.length c41) y267 from Kd.V_mk (by rw [hy41, hc41]; exact Nat.sub_le_sub_right hroom41 _) hr41)
                              have HC271 := Aside0.mk (show y267.length ≤ c41 from by rw [hy41, hc41]; exact Nat.sub_le_sub_right hroom41 _)
                              clear hr41 hC41 hroom41 hi041 hsz41 hc41
                              have KY41 := Aside0.mk hy41
                              have KA41 := Aside0.mk hA41
                              clear hy41 hA41
                              replace q41 := eq_true q41
                              go_wp2_with (first | (go_at_call 122; (with_reducible refine (slices_Equal_int_int.calls k2 _ _ y262 _ _ y267 true _ ?side1 ?side2 ?side3 ?side4 A35.out).mono ?_); (case side1 => repeat (first | exact (Kd.V_reads' HO266.out).2.2 | (with_reducible refine Kd.C_alloc ?_ _) | (with_reducible refine Kd.C_drewN ?_ _) | (with_reducible refine Kd.C_drew ?_))); (case side2 => exact (Kd.V_reads' HO266.out).2.1); (case side3 => repeat (first | exact (Kd.V_reads' HO271.out).2.2 | (with_reducible refine Kd.C_alloc ?_ _) | (with_reducible refine Kd.C_drewN ?_ _) | (with_reducible refine Kd.C_drew ?_))); (case side4 => exact (Kd.V_reads' HO271.out).2.1); rintro e w' ⟨rfl, ⟨nd, rfl⟩⟩; (try first | exact ⟨rfl, _, World.drewN_drewN _ _ _⟩ | exact ⟨rfl, _, Eq.trans (World.drewN_drewN _ _ _) (congrArg (World.drewN _) (Nat.add_assoc _ _ _))⟩); have q42 : (x9_2 : Int) ≤ ((t259.length : Int) : Int) := of_decide_eq_true (by first | (with_reducible assumption) | assumption); obtain ⟨i042, hi042, _, hsz42, _⟩ := info_parts info3; have hroom42 : t259.length ≤ co28 := (Kd.R_reads' HO_8.out).2.1; have hC42 : Kd.F (Kd.int .i64) _ _ Ao28 t259.length t259 := (Kd.V_at (base := w.heap.size) (Kd.R_V HO_8.out)).2.2; have q042 : (0 : Int) ≤ (x9_2 : Int) := of_decide_eq_true (by first | (with_reducible assumption) | assumption); have hcut42 := cut_from (P := Try.prog) 22 3 .i64 Try.underlying22 hi042 1 hsz42 Ao28 t259.length co28 x9_2 q042 q42; have hr42 := Kd.F_cut (m := (x9_2 : Int).toNat) (c := co28) hC42 (by omega) hroom42; obtain ⟨A42, hA42⟩ : ∃ A1, A1 = (if co28 = (x9_2 : Int).toNat then Ao28 else (Ao28 : Option Addr).map (·.add ((x9_2 : Int).toNat * 1))) := ⟨_, rfl⟩; obtain ⟨c42, hc42⟩ : ∃ c1, c1 = co28 - (x9_2 : Int).toNat := ⟨_, rfl⟩; have hy42 : y273.length = t259.length - (x9_2 : Int).toNat := (by rw [Ny273.out, List.length_drop] <;> omega); rw [show (t259).drop (x9_2 : Int).toNat = y273 from Ny273.out.symm] at hr42; replace hr42 : Kd.F (Kd.int .i64) _ _ A42 y273.length y273 := (by rw [hA42]; exact hr42); rw [← hy42, ← hA42, ← hc42] at hcut42; have HO277 := Aside0.mk (show Kd.V (Kd.int .i64) 3 _ w.heap.size _ (.slice A42 y273.length c42) y273 from Kd.V_mk (by rw [hy42, hc42]; exact Nat.sub_le_sub_right hroom42 _) hr42); have HC277 := Aside0.mk (show y273.length ≤ c42 from by rw [hy42, hc42]; exact Nat.sub_le_sub_right hroom42 _); clear hr42 hC42 hroom42 hi042 hsz42 hc42; have KY42 := Aside0.mk hy42; have KA42 := Aside0.mk hA42; clear hy42 hA42; replace q42 := eq_true q42) | ((with_reducible refine gate_builtin (b := .append) (xs := #[.tmp 55, .tmp 58]) rfl ?_); at_builtin; refine Kd.R_append_rows (Kd.int .i64) (w0 := w) w.heap.size rfl (.tmp 55) (.tmp 58) 22 3 (.int .i64 0) 8 rfl Try.underlying22 info3 rfl (by decide) (by omega) (.slice Ao29 x3_1.length co29) x3_1 y273 _ _ _ (fun k_ => some k_ ≠ (.slice Ao28 t259.length co28 : Value).ownBlock ∧ some k_ ≠ (.slice (some ad249) t246.length co12 : Value).ownBlock) (fun _ => False) rfl rfl ?aO ?aR (fun _ _ h => h) (fun _ h => h.elim) ?aF ?aB ?aS ?aL ?_; (case aR => repeat (first | exact (Kd.V_reads' HO277.out).2.2 | (with_reducible refine Kd.C_alloc ?_ _) | (with_reducible refine Kd.C_drewN ?_ _) | (with_reducible refine Kd.C_drew ?_))); (case aB => exact (by repeat (first | (with_reducible first | exact HB.out | apply below_alloc | apply pw_below_drewN | apply below_drew1) | exact HB.out))); (case aF => exact (fun k_ hk => ⟨Kd.fresh' (Kd.R_lt (by (with_reducible repeat (first | apply Kd.R_alloc | apply Kd.R_drewN | apply Kd.R_drew)); exact HO_8.out)) k_ hk, Kd.fresh' (Kd.R_lt (by (with_reducible repeat (first | apply Kd.R_alloc | apply Kd.R_drewN | apply Kd.R_drew)); exact HO_20.out)) k_ hk⟩)); (case aO => exact (by (with_reducible repeat (first | apply Kd.R_alloc | apply Kd.R_drewN | apply Kd.R_drew)); exact HO_3.out)); (case aS => exact (below_size (by repeat (first | (with_reducible first | exact HB.out | apply below_alloc | apply pw_below_drewN | apply below_drew1) | exact HB.out)))); (case aL => have := LMc39.out; omega); intro v279 w43 ho hb hg hat; rw [← Ny278.out] at ho; have n0_ := Aside0.mk (Kd.R_after (ok := (fun k_ => some k_ ≠ (.slice (some ad249) t246.length co12 : Value).ownBlock)) (by (with_reducible repeat (first | apply Kd.R_alloc | apply Kd.R_drewN | apply Kd.R_drew)); exact Kd.R_mono HO_8.out (fun _ hk => ⟨hk.2, hk.1⟩)) hg hat); have n1_ := Aside0.mk (Kd.R_after (ok := (fun k_ => some k_ ≠ (.slice Ao28 t259.length co28 : Value).ownBlock)) (by (with_reducible repeat (first | apply Kd.R_alloc | apply Kd.R_drewN | apply Kd.R_drew)); exact Kd.R_mono HO_20.out (fun _ hk => ⟨hk.2, hk.1⟩)) hg hat); have n2_ := Aside0.mk (Kd.V_afterv (ok := (fun k_ => some k_ ≠ (.slice (some ad249) t246.length co12 : Value).ownBlock)) (by (with_reducible repeat (first | apply Kd.V_alloc | apply Kd.V_drewN | apply Kd.V_drew)); exact Kd.V_mono HO266.out (fun _ hk => ⟨hk.2, hk.1⟩)) hg hat); have n3_ := Aside0.mk (Kd.V_afterv (ok := (fun k_ => some k_ ≠ (.slice (some ad249) t246.length co12 : Value).ownBlock)) (by (with_reducible repeat (first | apply Kd.V_alloc | apply Kd.V_drewN | apply Kd.V_drew)); exact Kd.V_mono HO277.out (fun _ hk => ⟨hk.2, hk.1⟩)) hg hat); have n4_ := Aside0.mk (hb); have n5_ := Aside0.mk (ho); clear HO_8; clear HO_20; clear HO266; clear HO277; clear HB; clear HO_3; have HO_8 := n0_; have HO_20 := n1_; have HO266 := n2_; have HO277 := n3_; have HB := n4_; have HO280 := n5_; clear n0_ n1_ n2_ n3_ n4_ n5_; clear ho hb hg hat))
                              repeat (go_quiet (first | (go_at_call 122; (with_reducible refine (slices_Equal_int_int.calls k2 _ _ y262 _ _ y267 true _ ?side1 ?side2 ?side3 ?side4 A35.out).mono ?_); (case side1 => repeat (first | exact (Kd.V_reads' HO266.out).2.2 | (with_reducible refine Kd.C_alloc ?_ _) | (with_reducible refine Kd.C_drewN ?_ _) | (with_reducible refine Kd.C_drew ?_))); (case side2 => exact (Kd.V_reads' HO266.out).2.1); (case side3 => repeat (first | exact (Kd.V_reads' HO271.out).2.2 | (with_reducible refine Kd.C_alloc ?_ _) | (with_reducible refine Kd.C_drewN ?_ _) | (with_reducible refine Kd.C_drew ?_))); (case side4 => exact (Kd.V_reads' HO271.out).2.1); rintro e w' ⟨rfl, ⟨nd, rfl⟩⟩; (try first | exact ⟨rfl, _, World.drewN_drewN _ _ _⟩ | exact ⟨rfl, _, Eq.trans (World.drewN_drewN _ _ _) (congrArg (World.drewN _) (Nat.add_assoc _ _ _))⟩); have q42 : (x9_2 : Int) ≤ ((t259.length : Int) : Int) := of_decide_eq_true (by first | (with_reducible assumption) | assumption); obtain ⟨i042, hi042, _, hsz42, _⟩ := info_parts info3; have hroom42 : t259.length ≤ co28 := (Kd.R_reads' HO_8.out).2.1; have hC42 : Kd.F (Kd.int .i64) _ _ Ao28 t259.length t259 := (Kd.V_at (base := w.heap.size) (Kd.R_V HO_8.out)).2.2; have q042 : (0 : Int) ≤ (x9_2 : Int) := of_decide_eq_true (by first | (with_reducible assumption) | assumption); have hcut42 := cut_from (P := Try.prog) 22 3 .i64 Try.underlying22 hi042 1 hsz42 Ao28 t259.length co28 x9_2 q042 q42; have hr42 := Kd.F_cut (m := (x9_2 : Int).toNat) (c := co28) hC42 (by omega) hroom42; obtain ⟨A42, hA42⟩ : ∃ A1, A1 = (if co28 = (x9_2 : Int).toNat then Ao28 else (Ao28 : Option Addr).map (·.add ((x9_2 : Int).toNat * 1))) := ⟨_, rfl⟩; obtain ⟨c42, hc42⟩ : ∃ c1, c1 = co28 - (x9_2 : Int).toNat := ⟨_, rfl⟩; have hy42 : y273.length = t259.length - (x9_2 : Int).toNat := (by rw [Ny273.out, List.length_drop] <;> omega); rw [show (t259).drop (x9_2 : Int).toNat = y273 from Ny273.out.symm] at hr42; replace hr42 : Kd.F (Kd.int .i64) _ _ A42 y273.length y273 := (by rw [hA42]; exact hr42); rw [← hy42, ← hA42, ← hc42] at hcut42; have HO277 := Aside0.mk (show Kd.V (Kd.int .i64) 3 _ w.heap.size _ (.slice A42 y273.length c42) y273 from Kd.V_mk (by rw [hy42, hc42]; exact Nat.sub_le_sub_right hroom42 _) hr42); have HC277 := Aside0.mk (show y273.length ≤ c42 from by rw [hy42, hc42]; exact Nat.sub_le_sub_right hroom42 _); clear hr42 hC42 hroom42 hi042 hsz42 hc42; have KY42 := Aside0.mk hy42; have KA42 := Aside0.mk hA42; clear hy42 hA42; replace q42 := eq_true q42) | ((with_reducible refine gate_builtin (b := .append) (xs := #[.tmp 55, .tmp 58]) rfl ?_); at_builtin; refine Kd.R_append_rows (Kd.int .i64) (w0 := w) w.heap.size rfl (.tmp 55) (.tmp 58) 22 3 (.int .i64 0) 8 rfl Try.underlying22 info3 rfl (by decide) (by omega) (.slice Ao29 x3_1.length co29) x3_1 y273 _ _ _ (fun k_ => some k_ ≠ (.slice Ao28 t259.length co28 : Value).ownBlock ∧ some k_ ≠ (.slice (some ad249) t246.length co12 : Value).ownBlock) (fun _ => False) rfl rfl ?aO ?aR (fun _ _ h => h) (fun _ h => h.elim) ?aF ?aB ?aS ?aL ?_; (case aR => repeat (first | exact (Kd.V_reads' HO277.out).2.2 | (with_reducible refine Kd.C_alloc ?_ _) | (with_reducible refine Kd.C_drewN ?_ _) | (with_reducible refine Kd.C_drew ?_))); (case aB => exact (by repeat (first | (with_reducible first | exact HB.out | apply below_alloc | apply pw_below_drewN | apply below_drew1) | exact HB.out))); (case aF => exact (fun k_ hk => ⟨Kd.fresh' (Kd.R_lt (by (with_reducible repeat (first | apply Kd.R_alloc | apply Kd.R_drewN | apply Kd.R_drew)); exact HO_8.out)) k_ hk, Kd.fresh' (Kd.R_lt (by (with_reducible repeat (first | apply Kd.R_alloc | apply Kd.R_drewN | apply Kd.R_drew)); exact HO_20.out)) k_ hk⟩)); (case aO => exact (by (with_reducible repeat (first | apply Kd.R_alloc | apply Kd.R_drewN | apply Kd.R_drew)); exact HO_3.out)); (case aS => exact (below_size (by repeat (first | (with_reducible first | exact HB.out | apply below_alloc | apply pw_below_drewN | apply below_drew1) | exact HB.out)))); (case aL => have := LMc39.out; omega); intro v279 w43 ho hb hg hat; rw [← Ny278.out] at ho; have n0_ := Aside0.mk (Kd.R_after (ok := (fun k_ => some k_ ≠ (.slice (some ad249) t246.length co12 : Value).ownBlock)) (by (with_reducible repeat (first | apply Kd.R_alloc | apply Kd.R_drewN | apply Kd.R_drew)); exact Kd.R_mono HO_8.out (fun _ hk => ⟨hk.2, hk.1⟩)) hg hat); have n1_ := Aside0.mk (Kd.R_after (ok := (fun k_ => some k_ ≠ (.slice Ao28 t259.length co28 : Value).ownBlock)) (by (with_reducible repeat (first | apply Kd.R_alloc | apply Kd.R_drewN | apply Kd.R_drew)); exact Kd.R_mono HO_20.out (fun _ hk => ⟨hk.2, hk.1⟩)) hg hat); have n2_ := Aside0.mk (Kd.V_afterv (ok := (fun k_ => some k_ ≠ (.slice (some ad249) t246.length co12 : Value).ownBlock)) (by (with_reducible repeat (first | apply Kd.V_alloc | apply Kd.V_drewN | apply Kd.V_drew)); exact Kd.V_mono HO266.out (fun _ hk => ⟨hk.2, hk.1⟩)) hg hat); have n3_ := Aside0.mk (Kd.V_afterv (ok := (fun k_ => some k_ ≠ (.slice (some ad249) t246.length co12 : Value).ownBlock)) (by (with_reducible repeat (first | apply Kd.V_alloc | apply Kd.V_drewN | apply Kd.V_drew)); exact Kd.V_mono HO277.out (fun _ hk => ⟨hk.2, hk.1⟩)) hg hat); have n4_ := Aside0.mk (hb); have n5_ := Aside0.mk (ho); clear HO_8; clear HO_20; clear HO266; clear HO277; clear HB; clear HO_3; have HO_8 := n0_; have HO_20 := n1_; have HO266 := n2_; have HO277 := n3_; have HB := n4_; have HO280 := n5_; clear n0_ n1_ n2_ n3_ n4_ n5_; clear ho hb hg hat)); try go_wp2_with (first | (go_at_call 122; (with_reducible refine (slices_Equal_int_int.calls k2 _ _ y262 _ _ y267 true _ ?side1 ?side2 ?side3 ?side4 A35.out).mono ?_); (case side1 => repeat (first | exact (Kd.V_reads' HO266.out).2.2 | (with_reducible refine Kd.C_alloc ?_ _) | (with_reducible refine Kd.C_drewN ?_ _) | (with_reducible refine Kd.C_drew ?_))); (case side2 => exact (Kd.V_reads' HO266.out).2.1); (case side3 => repeat (first | exact (Kd.V_reads' HO271.out).2.2 | (with_reducible refine Kd.C_alloc ?_ _) | (with_reducible refine Kd.C_drewN ?_ _) | (with_reducible refine Kd.C_drew ?_))); (case side4 => exact (Kd.V_reads' HO271.out).2.1); rintro e w' ⟨rfl, ⟨nd, rfl⟩⟩; (try first | exact ⟨rfl, _, World.drewN_drewN _ _ _⟩ | exact ⟨rfl, _, Eq.trans (World.drewN_drewN _ _ _) (congrArg (World.drewN _) (Nat.add_assoc _ _ _))⟩); have q42 : (x9_2 : Int) ≤ ((t259.length : Int) : Int) := of_decide_eq_true (by first | (with_reducible assumption) | assumption); obtain ⟨i042, hi042, _, hsz42, _⟩ := info_parts info3; have hroom42 : t259.length ≤ co28 := (Kd.R_reads' HO_8.out).2.1; have hC42 : Kd.F (Kd.int .i64) _ _ Ao28 t259.length t259 := (Kd.V_at (base := w.heap.size) (Kd.R_V HO_8.out)).2.2; have q042 : (0 : Int) ≤ (x9_2 : Int) := of_decide_eq_true (by first | (with_reducible assumption) | assumption); have hcut42 := cut_from (P := Try.prog) 22 3 .i64 Try.underlying22 hi042 1 hsz42 Ao28 t259.length co28 x9_2 q042 q42; have hr42 := Kd.F_cut (m := (x9_2 : Int).toNat) (c := co28) hC42 (by omega) hroom42; obtain ⟨A42, hA42⟩ : ∃ A1, A1 = (if co28 = (x9_2 : Int).toNat then Ao28 else (Ao28 : Option Addr).map (·.add ((x9_2 : Int).toNat * 1))) := ⟨_, rfl⟩; obtain ⟨c42, hc42⟩ : ∃ c1, c1 = co28 - (x9_2 : Int).toNat := ⟨_, rfl⟩; have hy42 : y273.length = t259.length - (x9_2 : Int).toNat := (by rw [Ny273.out, List.length_drop] <;> omega); rw [show (t259).drop (x9_2 : Int).toNat = y273 from Ny273.out.symm] at hr42; replace hr42 : Kd.F (Kd.int .i64) _ _ A42 y273.length y273 := (by rw [hA42]; exact hr42); rw [← hy42, ← hA42, ← hc42] at hcut42; have HO277 := Aside0.mk (show Kd.V (Kd.int .i64) 3 _ w.heap.size _ (.slice A42 y273.length c42) y273 from Kd.V_mk (by rw [hy42, hc42]; exact Nat.sub_le_sub_right hroom42 _) hr42); have HC277 := Aside0.mk (show y273.length ≤ c42 from by rw [hy42, hc42]; exact Nat.sub_le_sub_right hroom42 _); clear hr42 hC42 hroom42 hi042 hsz42 hc42; have KY42 := Aside0.mk hy42; have KA42 := Aside0.mk hA42; clear hy42 hA42; replace q42 := eq_true q42) | ((with_reducible refine gate_builtin (b := .append) (xs := #[.tmp 55, .tmp 58]) rfl ?_); at_builtin; refine Kd.R_append_rows (Kd.int .i64) (w0 := w) w.heap.size rfl (.tmp 55) (.tmp 58) 22 3 (.int .i64 0) 8 rfl Try.underlying22 info3 rfl (by decide) (by omega) (.slice Ao29 x3_1.length co29) x3_1 y273 _ _ _ (fun k_ => some k_ ≠ (.slice Ao28 t259.length co28 : Value).ownBlock ∧ some k_ ≠ (.slice (some ad249) t246.length co12 : Value).ownBlock) (fun _ => False) rfl rfl ?aO ?aR (fun _ _ h => h) (fun _ h => h.elim) ?aF ?aB ?aS ?aL ?_; (case aR => repeat (first | exact (Kd.V_reads' HO277.out).2.2 | (with_reducible refine Kd.C_alloc ?_ _) | (with_reducible refine Kd.C_drewN ?_ _) | (with_reducible refine Kd.C_drew ?_))); (case aB => exact (by repeat (first | (with_reducible first | exact HB.out | apply below_alloc | apply pw_below_drewN | apply below_drew1) | exact HB.out))); (case aF => exact (fun k_ hk => ⟨Kd.fresh' (Kd.R_lt (by (with_reducible repeat (first | apply Kd.R_alloc | apply Kd.R_drewN | apply Kd.R_drew)); exact HO_8.out)) k_ hk, Kd.fresh' (Kd.R_lt (by (with_reducible repeat (first | apply Kd.R_alloc | apply Kd.R_drewN | apply Kd.R_drew)); exact HO_20.out)) k_ hk⟩)); (case aO => exact (by (with_reducible repeat (first | apply Kd.R_alloc | apply Kd.R_drewN | apply Kd.R_drew)); exact HO_3.out)); (case aS => exact (below_size (by repeat (first | (with_reducible first | exact HB.out | apply below_alloc | apply pw_below_drewN | apply below_drew1) | exact HB.out)))); (case aL => have := LMc39.out; omega); intro v279 w43 ho hb hg hat; rw [← Ny278.out] at ho; have n0_ := Aside0.mk (Kd.R_after (ok := (fun k_ => some k_ ≠ (.slice (some ad249) t246.length co12 : Value).ownBlock)) (by (with_reducible repeat (first | apply Kd.R_alloc | apply Kd.R_drewN | apply Kd.R_drew)); exact Kd.R_mono HO_8.out (fun _ hk => ⟨hk.2, hk.1⟩)) hg hat); have n1_ := Aside0.mk (Kd.R_after (ok := (fun k_ => some k_ ≠ (.slice Ao28 t259.length co28 : Value).ownBlock)) (by (with_reducible repeat (first | apply Kd.R_alloc | apply Kd.R_drewN | apply Kd.R_drew)); exact Kd.R_mono HO_20.out (fun _ hk => ⟨hk.2, hk.1⟩)) hg hat); have n2_ := Aside0.mk (Kd.V_afterv (ok := (fun k_ => some k_ ≠ (.slice (some ad249) t246.length co12 : Value).ownBlock)) (by (with_reducible repeat (first | apply Kd.V_alloc | apply Kd.V_drewN | apply Kd.V_drew)); exact Kd.V_mono HO266.out (fun _ hk => ⟨hk.2, hk.1⟩)) hg hat); have n3_ := Aside0.mk (Kd.V_afterv (ok := (fun k_ => some k_ ≠ (.slice (some ad249) t246.length co12 : Value).ownBlock)) (by (with_reducible repeat (first | apply Kd.V_alloc | apply Kd.V_drewN | apply Kd.V_drew)); exact Kd.V_mono HO277.out (fun _ hk => ⟨hk.2, hk.1⟩)) hg hat); have n4_ := Aside0.mk (hb); have n5_ := Aside0.mk (ho); clear HO_8; clear HO_20; clear HO266; clear HO277; clear HB; clear HO_3; have HO_8 := n0_; have HO_20 := n1_; have HO266 := n2_; have HO277 := n3_; have HB := n4_; have HO280 := n5_; clear n0_ n1_ n2_ n3_ n4_ n5_; clear ho hb hg hat)))
                              go_roundg k2
                              case measure => have := HK1.out; have := HK2.out; omega
                              case rel => exact ⟨(y278), (wrap64 (x22_1 + 1)), (by first | rfl | (simp; done) | (simp [*]; done)), H', ⟨by have := HK1.out; have := HK2.out; omega⟩, ⟨by (with_reducible repeat (first | apply Kd.R_alloc | apply Kd.R_drewN | apply Kd.R_drew)); exact Kd.R_mono HO280.out (fun _ hk => hk.2)⟩, ⟨by (with_reducible repeat (first | apply Kd.R_alloc | apply Kd.R_drewN | apply Kd.R_drew)); exact Kd.R_mono HO_20.out (fun _ hk => hk.2)⟩, ⟨by repeat (first | (with_reducible first | exact HB.out | apply below_alloc | apply pw_below_drewN | apply below_drew1) | exact HB.out)⟩⟩
                            · rw [if_neg c39] at H
                              exact absurd H (by simp)
                          · replace c36 := Bool.eq_false_iff.mpr c36
                            subst c36
                            have H1 : (impl_superOf.l1 k2 a0 x3_1 t259 (wrap64 (x9_2 - 1)) t246 (t246.length : Int) x22_1) = some r := by rw [if_neg (show ¬ (false = true) by decide)] at H; exact H
                            clear H
                            have H := H1
                            clear H1
                            have H' := Aside0.mk H
                            clear H
                            have q44 : (x9_2 : Int) ≤ ((t259.length : Int) : Int) := of_decide_eq_true (by first | (with_reducible assumption) | assumption)
                            obtain ⟨i044, hi044, _, hsz44, _⟩ := info_parts info3
                            have hroom44 : t259.length ≤ co28 := (Kd.R_reads' HO_8.out).2.1
                            have hC44 : Kd.F (Kd.int .i64) _ _ Ao28 t259.length t259 := (Kd.V_at (base := w.heap.size) (Kd.R_V HO_8.out)).2.2
                            have hcut44 := cut_to (P := Try.prog) 22 3 .i64 Try.underlying22 hi044 Ao28 t259.length co28 x9_2 (of_decide_eq_true (by first | (with_reducible assumption) | assumption)) q44 hroom44
                            have hr44 := Kd.F_take (m := (x9_2 : Int).toNat) hC44 (by omega)
                            have hy44 : y262.length = (x9_2 : Int).toNat := (by rw [Ny262.out, List.length_take]; omega)
                            rw [← Ny262.out] at hr44
                            rw [← hy44] at hcut44
                            have HO266 := Aside0.mk (show Kd.V (Kd.int .i64) 3 _ w.heap.size _ (.slice Ao28 y262.length co28) y262 from Kd.V_mk (by omega) hr44)
                            have HC266 := Aside0.mk (show y262.length ≤ co28 from by omega)
                            clear hr44 hC44 hroom44 hi044 hsz44
                            have KY44 := Aside0.mk hy44
                            clear hy44
                            replace q44 := eq_true q44
                            have q45 : ((ji32) : Int) ≤ ((x3_1.length : Int) : Int) := of_decide_eq_true (by first | (with_reducible assumption) | assumption)
                            obtain ⟨i045, hi045, _, hsz45, _⟩ := info_parts info3
                            have hroom45 : x3_1.length ≤ co29 := (Kd.R_reads' HO_3.out).2.1
                            have hC45 : Kd.F (Kd.int .i64) _ _ Ao29 x3_1.length x3_1 := (Kd.V_at (base := w.heap.size) (Kd.R_V HO_3.out)).2.2
                            have q045 : (0 : Int) ≤ ((ji32) : Int) := of_decide_eq_true (by first | (with_reducible assumption) | assumption)
                            have hcut45 := cut_from (P := Try.prog) 22 3 .i64 Try.underlying22 hi045 1 hsz45 Ao29 x3_1.length co29 (ji32) q045 q45
                            have hr45 := Kd.F_cut (m := ((ji32) : Int).toNat) (c := co29) hC45 (by omega) hroom45
                            obtain ⟨A45, hA45⟩ : ∃ A1, A1 = (if co29 = ((ji32) : Int).toNat then Ao29 else (Ao29 : Option Addr).map (·.add (((ji32) : Int).toNat * 1))) := ⟨_, rfl⟩
                            obtain ⟨c45, hc45⟩ : ∃ c1, c1 = co29 - ((ji32) : Int).toNat := ⟨_, rfl⟩
                            have hy45 : y267.length = x3_1.length - ((ji32) : Int).toNat := (by rw [Ny267.out, List.length_drop] <;> omega)
                            rw [show (x3_1).drop ((ji32) : Int).toNat = y267 from Ny267.out.symm] at hr45
                            replace hr45 : Kd.F (Kd.int .i64) _ _ A45 y267.length y267 := (by rw [hA45]; exact hr45)
                            rw [← hy45, ← hA45, ← hc45] at hcut45
                            have HO271 := Aside0.mk (show Kd.V (Kd.int .i64) 3 _ w.heap.size _ (.slice A45 y267.length c45) y267 from Kd.V_mk (by rw [hy45, hc45]; exact Nat.sub_le_sub_right hroom45 _) hr45)
                            have HC271 := Aside0.mk (show y267.length ≤ c45 from by rw [hy45, hc45]; exact Nat.sub_le_sub_right hroom45 _)
                            clear hr45 hC45 hroom45 hi045 hsz45 hc45
                            have KY45 := Aside0.mk hy45
                            have KA45 := Aside0.mk hA45
                            clear hy45 hA45
                            replace q45 := eq_true q45
                            go_wp2_with (first | (go_at_call 122; (with_reducible refine (slices_Equal_int_int.calls k2 _ _ y262 _ _ y267 false _ ?side1 ?side2 ?side3 ?side4 A35.out).mono ?_); (case side1 => repeat (first | exact (Kd.V_reads' HO266.out).2.2 | (with_reducible refine Kd.C_alloc ?_ _) | (with_reducible refine Kd.C_drewN ?_ _) | (with_reducible refine Kd.C_drew ?_))); (case side2 => exact (Kd.V_reads' HO266.out).2.1); (case side3 => repeat (first | exact (Kd.V_reads' HO271.out).2.2 | (with_reducible refine Kd.C_alloc ?_ _) | (with_reducible refine Kd.C_drewN ?_ _) | (with_reducible refine Kd.C_drew ?_))); (case side4 => exact (Kd.V_reads' HO271.out).2.1); rintro e w' ⟨rfl, ⟨nd, rfl⟩⟩; (try first | exact ⟨rfl, _, World.drewN_drewN _ _ _⟩ | exact ⟨rfl, _, Eq.trans (World.drewN_drewN _ _ _) (congrArg (World.drewN _) (Nat.add_assoc _ _ _))⟩)))
                            repeat (go_quiet (first | (go_at_call 122; (with_reducible refine (slices_Equal_int_int.calls k2 _ _ y262 _ _ y267 false _ ?side1 ?side2 ?side3 ?side4 A35.out).mono ?_); (case side1 => repeat (first | exact (Kd.V_reads' HO266.out).2.2 | (with_reducible refine Kd.C_alloc ?_ _) | (with_reducible refine Kd.C_drewN ?_ _) | (with_reducible refine Kd.C_drew ?_))); (case side2 => exact (Kd.V_reads' HO266.out).2.1); (case side3 => repeat (first | exact (Kd.V_reads' HO271.out).2.2 | (with_reducible refine Kd.C_alloc ?_ _) | (with_reducible refine Kd.C_drewN ?_ _) | (with_reducible refine Kd.C_drew ?_))); (case side4 => exact (Kd.V_reads' HO271.out).2.1); rintro e w' ⟨rfl, ⟨nd, rfl⟩⟩; (try first | exact ⟨rfl, _, World.drewN_drewN _ _ _⟩ | exact ⟨rfl, _, Eq.trans (World.drewN_drewN _ _ _) (congrArg (World.drewN _) (Nat.add_assoc _ _ _))⟩))); try go_wp2_with (first | (go_at_call 122; (with_reducible refine (slices_Equal_int_int.calls k2 _ _ y262 _ _ y267 false _ ?side1 ?side2 ?side3 ?side4 A35.out).mono ?_); (case side1 => repeat (first | exact (Kd.V_reads' HO266.out).2.2 | (with_reducible refine Kd.C_alloc ?_ _) | (with_reducible refine Kd.C_drewN ?_ _) | (with_reducible refine Kd.C_drew ?_))); (case side2 => exact (Kd.V_reads' HO266.out).2.1); (case side3 => repeat (first | exact (Kd.V_reads' HO271.out).2.2 | (with_reducible refine Kd.C_alloc ?_ _) | (with_reducible refine Kd.C_drewN ?_ _) | (with_reducible refine Kd.C_drew ?_))); (case side4 => exact (Kd.V_reads' HO271.out).2.1); rintro e w' ⟨rfl, ⟨nd, rfl⟩⟩; (try first | exact ⟨rfl, _, World.drewN_drewN _ _ _⟩ | exact ⟨rfl, _, Eq.trans (World.drewN_drewN _ _ _) (congrArg (World.drewN _) (Nat.add_assoc _ _ _))⟩))))
                            go_roundg k2
                            case measure => have := HK1.out; have := HK2.out; omega
                            case rel => exact ⟨(wrap64 (x9_2 - 1)), (by first | rfl | (simp; done) | (simp [*]; done)), H', ⟨by have := HK1.out; have := HK2.out; omega⟩, ⟨by (with_reducible repeat (first | apply Kd.R_alloc | apply Kd.R_drewN | apply Kd.R_drew)); exact HO_3.out⟩, ⟨by (with_reducible repeat (first | apply Kd.R_alloc | apply Kd.R_drewN | apply Kd.R_drew)); exact HO_8.out⟩, ⟨by (with_reducible repeat (first | apply Kd.R_alloc | apply Kd.R_drewN | apply Kd.R_drew)); exact HO_20.out⟩, ⟨by repeat (first | (with_reducible first | exact HB.out | apply below_alloc | apply pw_below_drewN | apply below_drew1) | exact HB.out)⟩⟩
                        · rw [if_neg c34] at H
                          exact absurd H (by simp)
                      · rw [if_neg c33] at H
                        exact absurd H (by simp)
                    · rw [if_neg c31] at H
                      exact absurd H (by simp)
                  · rw [if_neg c30] at H
                    exact absurd H (by simp)
            · rw [if_neg c15] at H
              exact absurd H (by simp)
          · rw [if_neg c14] at H
            exact absurd H (by simp)
        · rw [if_neg c13] at H
          have c13b0 : decide (x22_1 < (t246.length : Int)) = false := decide_eq_false c13
          clear c13
          obtain rfl := Option.some.inj H
          go_wp2
          repeat (go_quiet (fail); try go_wp2)
          go_ret
          exact ⟨_, by first | rfl | (simp [errW_none, errW_some] <;> rfl) | (simp [*, errW_none, errW_some] <;> rfl), by (with_reducible repeat (first | apply Kd.R_alloc | apply Kd.R_drewN | apply Kd.R_drew)); exact Kd.R_mono HO_3.out (fun _ hk => trivial), by repeat (first | (with_reducible first | exact HB.out | apply below_alloc | apply pw_below_drewN | apply below_drew1) | exact HB.out)⟩
def impl_SuperOf.f (k : Nat) (a0 : Int) : Option (List Int × Bool) := (impl_isSuperSize.f a0).bind fun t281 => (if t281 = true then ((impl_superOf.f k a0).bind fun t282 => (some (t282, true))) else (some (([] : List Int), false)))
theorem impl_SuperOf.mono : ∀ a0 k, LeO (impl_SuperOf.f k a0) (impl_SuperOf.f (k + 1) a0) := by
  intro a0 k
  unfold impl_SuperOf.f
  repeat' first
      | (with_reducible exact impl_superOf.mono _ _)
      | (with_reducible exact LeO.refl _)
      | (with_reducible exact LeO.none _)
      | (with_reducible refine LeO.ite ?_ ?_)
      | (with_reducible refine LeO.bind ?_ (fun _ => ?_))
      | exact impl_superOf.mono _ _
      | exact LeO.none _
      | refine LeO.ite ?_ ?_
      | refine LeO.bind ?_ (fun _ => ?_)
set_option maxHeartbeats 8000000 in
set_option maxRecDepth 100000 in
theorem impl_SuperOf.calls (k : Nat) (a0 : Int) (r1 : List Int) (r2 : Bool) (w : World) (h : impl_SuperOf.f k a0 = some (r1, r2)) :
    Calls Try.prog 30 #[.int .i64 a0] w fun e w' => ∃ v0_ : Value, e = .returned (.tuple #[v0_, .bool r2]) ∧ Kd.R (Kd.int .i64) 3 w' w.heap.size (fun _ => True) v0_ r1 ∧ Below w.heap.size w w' := by
  have HB := Aside0.mk (Below.refl w.heap.size w)
  have H : ((impl_isSuperSize.f a0).bind fun t281 => (if t281 = true then ((impl_superOf.f k a0).bind fun t282 => (some (t282, true))) else (some (([] : List Int), false)))) = some (r1, r2) := h
  clear h
  replace H := Option.bind_eq_some_iff.mp H
  obtain ⟨t281, A20, H⟩ := H
  replace H : (if t281 = true then ((impl_superOf.f k a0).bind fun t282 => (some (t282, true))) else (some (([] : List Int), false))) = some (r1, r2) := H
  have A2 := Aside0.mk A20
  clear A20
  by_cases c3 : t281 = true
  · subst c3
    have H1 : ((impl_superOf.f k a0).bind fun t282 => (some (t282, true))) = some (r1, r2) := by rw [if_pos rfl] at H; exact H
    clear H
    have H := H1
    clear H1
    replace H := Option.bind_eq_some_iff.mp H
    obtain ⟨t282, A40, H⟩ := H
    replace H : (some (t282, true)) = some (r1, r2) := H
    have A4 := Aside0.mk A40
    clear A40
    simp only [Option.some.injEq, Prod.mk.injEq] at H
    obtain ⟨rfl, rfl⟩ := H
    go_enter Try.func30, Try.ntmps30
    go_wp2_with (first | ((with_reducible refine gate_callee (f := 108) rfl ?_); refine goesL_ (some 5) rfl rfl Try.func108 (by kernel_rfl) rfl #[.int .i64 a0] rfl (by (try simp only [List.map_toArray, List.map_cons, List.map_nil]); first | done | rfl | (simp only [List.length_drop, List.length_take]; rfl) | (simp only [List.length_drop, List.length_take]; rw [(fun (x : Int) (n : Nat) (h : (x ≤ (n : Int)) = True) => Nat.min_eq_left (by have := of_eq_true h; omega) : ∀ (x : Int) (n : Nat), (x ≤ (n : Int)) = True → min x.toNat n = x.toNat) _ _ (by assumption)]; rfl)) ?_; (with_reducible refine (impl_isSuperSize.calls a0 true _ A2.out).mono ?_); rintro e w' ⟨rfl, ⟨nd, rfl⟩⟩; refine ⟨_, rfl, ?_⟩) | ((with_reducible refine gate_callee (f := 109) rfl ?_); refine goesL_ (some 8) rfl rfl Try.func109 (by kernel_rfl) rfl #[.int .i64 a0] rfl (by (try simp only [List.map_toArray, List.map_cons, List.map_nil]); first | done | rfl | (simp only [List.length_drop, List.length_take]; rfl) | (simp only [List.length_drop, List.length_take]; rw [(fun (x : Int) (n : Nat) (h : (x ≤ (n : Int)) = True) => Nat.min_eq_left (by have := of_eq_true h; omega) : ∀ (x : Int) (n : Nat), (x ≤ (n : Int)) = True → min x.toNat n = x.toNat) _ _ (by assumption)]; rfl)) ?_; (with_reducible refine (impl_superOf.calls k a0 t282 _ A4.out).mono ?_); rintro e w5 ⟨v283, rfl, ho0, hb⟩; refine ⟨_, rfl, ?_⟩; have n0_ := Aside0.mk (Kd.R_lower ho0 (below_size (by repeat (first | (with_reducible first | exact HB.out | apply below_alloc | apply pw_below_drewN | apply below_drew1) | exact HB.out)))); have n1_ := Aside0.mk (below_step (by repeat (first | (with_reducible first | exact HB.out | apply below_alloc | apply pw_below_drewN | apply below_drew1) | exact HB.out)) hb); clear HB; have HO284 := n0_; have HB := n1_; clear n0_ n1_; (try clear hb); (try clear hb2); (try clear hk); (try clear hi); (try clear ho0)))
    go_ret2
    exact ⟨_, by first | rfl | (simp [errW_none, errW_some] <;> rfl) | (simp [*, errW_none, errW_some] <;> rfl), by (with_reducible repeat (first | apply Kd.R_alloc | apply Kd.R_drewN | apply Kd.R_drew)); exact HO284.out, by repeat (first | (with_reducible first | exact HB.out | apply below_alloc | apply pw_below_drewN | apply below_drew1) | exact HB.out)⟩
  · replace c3 := Bool.eq_false_iff.mpr c3
    subst c3
    have H1 : (some (([] : List Int), false)) = some (r1, r2) := by rw [if_neg (show ¬ (false = true) by decide)] at H; exact H
    clear H
    have H := H1
    clear H1
    simp only [Option.some.injEq, Prod.mk.injEq] at H
    obtain ⟨rfl, rfl⟩ := H
    go_enter Try.func30, Try.ntmps30
    go_wp2_with (first | ((with_reducible refine gate_callee (f := 108) rfl ?_); refine goesL_ (some 5) rfl rfl Try.func108 (by kernel_rfl) rfl #[.int .i64 a0] rfl (by (try simp only [List.map_toArray, List.map_cons, List.map_nil]); first | done | rfl | (simp only [List.length_drop, List.length_take]; rfl) | (simp only [List.length_drop, List.length_take]; rw [(fun (x : Int) (n : Nat) (h : (x ≤ (n : Int)) = True) => Nat.min_eq_left (by have := of_eq_true h; omega) : ∀ (x : Int) (n : Nat), (x ≤ (n : Int)) = True → min x.toNat n = x.toNat) _ _ (by assumption)]; rfl)) ?_; (with_reducible refine (impl_isSuperSize.calls a0 false _ A2.out).mono ?_); rintro e w' ⟨rfl, ⟨nd, rfl⟩⟩; refine ⟨_, rfl, ?_⟩))
    go_ret2
    exact ⟨_, by first | rfl | (simp [errW_none, errW_some] <;> rfl) | (simp [*, errW_none, errW_some] <;> rfl), by first | exact Kd.R_nil _ _ _ _ _ | exact Kd.N_nil _ _ _ _ _ | exact Kd.V_nil _ _ _ _ _ | exact Kd.Q_nil _ _ _ _ _ | exact Kd.S_nil _ _ _ _ _, by repeat (first | (with_reducible first | exact HB.out | apply below_alloc | apply pw_below_drewN | apply below_drew1) | exact HB.out)⟩
def laws_big.f (l0 : List Int) (l1 : List Int) : Option (Bool) := if (l0.length : Int) > 1048576 then (some true) else (some (decide ((l1.length : Int) > (wrap64 (1048576 - (l0.length : Int))))))
set_option maxHeartbeats 8000000 in
set_option maxRecDepth 100000 in
theorem laws_big.calls (A0 : Option Addr) (c0 : Nat) (l0 : List Int) (A1 : Option Addr) (c1 : Nat) (l1 : List Int) (r : Bool) (w : World) (hr0 : Kd.C (Kd.int .u8) w A0 l0.length l0) (hc0 : l0.length ≤ c0) (hr1 : Kd.C (Kd.int .u8) w A1 l1.length l1) (hc1 : l1.length ≤ c1) (h : laws_big.f l0 l1 = some r) :
    Calls Try.prog 33 #[.slice A0 l0.length c0, .slice A1 l1.length c1] w fun e w' => e = .returned (.bool r) ∧ Drawn0 w w' := by
  have HR0 := Aside0.mk hr0
  have HC0 := Aside0.mk hc0
  clear hr0 hc0
  have HR1 := Aside0.mk hr1
  have HC1 := Aside0.mk hc1
  clear hr1 hc1
  have H : (if (l0.length : Int) > 1048576 then (some true) else (some (decide ((l1.length : Int) > (wrap64 (1048576 - (l0.length : Int))))))) = some r := h
  clear h
  by_cases c3 : (l0.length : Int) > 1048576
  · rw [if_pos c3] at H
    have c3b0 : decide (1048576 < (l0.length : Int)) = true := decide_eq_true c3
    have c3b1 : decide (1048576 < l0.length) = true := decide_eq_true (by omega)
    clear c3
    obtain rfl := Option.some.inj H
    go_enter Try.func33, Try.ntmps33
    go_wp2
    go_ret
    exact ⟨by first | rfl | (simp; done) | (simp [*]; done), by repeat (first | exact Drawn0.refl _ | apply Drawn0.step)⟩
  · rw [if_neg c3] at H
    have c3b0 : decide (1048576 < (l0.length : Int)) = false := decide_eq_false c3
    have c3b1 : decide (1048576 < l0.length) = false := decide_eq_false (by omega)
    clear c3
    obtain rfl := Option.some.inj H
    go_enter Try.func33, Try.ntmps33
    go_wp2
    go_ret
    exact ⟨by first | rfl | (simp; done) | (simp [*]; done), by repeat (first | exact Drawn0.refl _ | apply Drawn0.step)⟩
end Go.Proofs.Ytdnbeekoefmbcaa.PFnSuperpermutations
