/- The pure statement of EulerBruijn: program and reference answer alike, for all arguments; no condition. -/
import Derived.Test.YtdhmdlecagjohaaPFnExactEulerBruijnx3
import Derived.Test.YtdhmdlecagjohaaBase
namespace Go.Proofs.Ytdhmdlecagjohaa.Pure
open Go.RowKit Go.Proofs.Ytdhmdlecagjohaa.PFnExactEulerBruijn Go.Proofs.YtdhmdlecagjohaaW.PrintWords Go.Proofs.YtdhmdlecagjohaaW.PrintLast Go.Proofs.Ytdhmdlecagjohaa.Base
set_option maxRecDepth 10000

/-- How often the nodes may still be left. -/
def slack (k : Nat) (left : List Int) : Nat := (left.map fun x => ((k : Int) - x).toNat).sum
theorem slack_set (k : Nat) : ∀ (left : List Int) (i : Nat), i < left.length → left.getD i 0 < (k : Int) → slack k (left.set i (left.getD i 0 + 1)) + 1 = slack k left := by
  intro left
  induction left with
  | nil => intro i h; simp at h
  | cons x left ih =>
    intro i h h2
    cases i with
    | zero => simp [slack] at h2 ⊢; omega
    | succ i =>
      have := ih i (by simpa using h) (by simpa using h2)
      simp [slack] at this ⊢
      omega
theorem slack_zeros (k n : Nat) : slack k (List.replicate n 0) = n * k := by
  simp [slack, List.map_replicate, List.sum_replicate_nat]

def kindB (n k : Int) : Bool := inB n 1 10 && (inB k 2 6 && decide (k.toNat ^ n.toNat ≤ 1024))
theorem kindB_iff {n k : Int} : kindB n k = true ↔ (1 ≤ n ∧ n ≤ 10) ∧ (2 ≤ k ∧ k ≤ 6) ∧ k.toNat ^ n.toNat ≤ 1024 := by simp [kindB, inB_iff]
theorem kindB_nat {n k : Int} (h : kindB n k = true) : ∃ n' k' : Nat, n = n' ∧ k = k' ∧ 1 ≤ n' ∧ n' ≤ 10 ∧ 2 ≤ k' ∧ k' ≤ 6 ∧ k' ^ n' ≤ 1024 := by
  obtain ⟨h1, h2, h3⟩ := kindB_iff.mp h
  exact ⟨n.toNat, k.toNat, by omega, by omega, by omega, by omega, by omega, by omega, h3⟩

theorem impl_within_eq (a lo hi : Int) : impl_within.f a lo hi = some (inB a lo hi) := by
  unfold impl_within.f inB
  by_cases h : a ≥ lo
  · rw [if_pos h]; simp [h]
  · rw [if_neg h]; simp [show ¬ lo ≤ a from h]

theorem impl_power_ev (a n : Nat) (ha : a ≤ 6) (hn : n ≤ 12) : Ev (fun k => impl_power.f k (a : Int) (n : Int)) ((a ^ n : Nat) : Int) := by
  have hb : ∀ j, j ≤ n → a ^ j ≤ 2176782336 := fun j hj => Nat.le_trans (Nat.pow_le_pow_left ha j) (Nat.le_trans (Nat.pow_le_pow_right (by omega) (show j ≤ 12 by omega)) (by decide))
  unfold impl_power.f
  refine ev_iter (fun (o : Nat) i k => impl_power.l0 k (a : Int) (o : Int) (n : Int) (i : Int)) (fun o _ => o * a) (fun i o => o = a ^ i) n ?_ n 0 1 (by omega) rfl ?_
  · intro o i hi hI
    refine ⟨by rw [hI, Nat.pow_succ], fun r k => ?_⟩
    have h1 := hb (i + 1) (by omega)
    rw [Nat.pow_succ, ← hI] at h1
    refine Ev.step (fun k => by simp only [impl_power.l0]; rfl) ?_
    refine ev_pos (by omega) ?_
    rw [wrap_succ (by omega), show (o : Int) * (a : Int) = ((o * a : Nat) : Int) by simp, wrap_id (by omega)]
    exact k
  · intro h
    refine Ev.step (fun k => by simp only [impl_power.l0]; rfl) (ev_neg (by omega) (ev_some (by rw [h])))

theorem impl_isBruijnSize_ev (n k : Int) : Ev (fun q => impl_isBruijnSize.f q n k) (kindB n k) := by
  unfold impl_isBruijnSize.f kindB
  refine ev_plain (impl_within_eq _ _ _) (ev_if (fun h1 => ?_) (fun h1 => ev_some (by simp [Bool.eq_false_iff.mpr h1])))
  refine ev_plain (impl_within_eq _ _ _) (ev_if (fun h2 => ?_) (fun h2 => ev_some (by simp [Bool.eq_false_iff.mpr h2])))
  have e1 := inB_iff.mp h1
  have e2 := inB_iff.mp h2
  obtain ⟨n, rfl⟩ := Int.eq_ofNat_of_zero_le (show 0 ≤ n by omega)
  obtain ⟨k, rfl⟩ := Int.eq_ofNat_of_zero_le (show 0 ≤ k by omega)
  refine ev_call (impl_power_ev k n (by omega) (by omega)) (ev_some ?_)
  rw [h1, h2]
  simp only [Bool.true_and, Int.toNat_natCast]
  exact decide_eq_decide.mpr (by omega)

theorem spec_l1In_eq (a lo hi : Int) : spec_l1In.f a lo hi = some (inB a lo hi) := by
  unfold spec_l1In.f inB
  by_cases h : a ≥ lo
  · rw [if_pos h]; simp [h]
  · rw [if_neg h]; simp [show ¬ lo ≤ a from h]

theorem spec_lyPower_loop (a : Nat) (ha : a ≤ 6) : ∀ (e j : Nat), e + j ≤ 12 → Ev (fun k => spec_lyPower.l0 k (a : Int) (e : Int) ((a ^ j : Nat) : Int)) ((a ^ (j + e) : Nat) : Int) := by
  intro e
  induction e with
  | zero =>
    intro j h
    exact Ev.step (fun k => by simp only [spec_lyPower.l0]; rfl) (ev_neg (by omega) (Ev.now _))
  | succ e ih =>
    intro j h
    have h1 : a ^ (j + 1) ≤ 2176782336 := Nat.le_trans (Nat.pow_le_pow_left ha (j + 1)) (Nat.le_trans (Nat.pow_le_pow_right (by omega) (show j + 1 ≤ 12 by omega)) (by decide))
    refine Ev.step (fun k => by simp only [spec_lyPower.l0]; rfl) ?_
    refine ev_pos (by omega) ?_
    rw [wrap_pred (by omega), show ((a ^ j : Nat) : Int) * (a : Int) = ((a ^ (j + 1) : Nat) : Int) by rw [Nat.pow_succ]; simp, wrap_id (by omega)]
    exact ev_to (ih (j + 1) (by omega)) (by rw [show j + 1 + e = j + (e + 1) by omega])
theorem spec_lyPower_ev (a n : Nat) (ha : a ≤ 6) (hn : n ≤ 12) : Ev (fun k => spec_lyPower.f k (a : Int) (n : Int)) ((a ^ n : Nat) : Int) :=
  ev_to (spec_lyPower_loop a ha n 0 (by omega)) (by simp)

theorem spec_brKind_ev (n k : Int) : Ev (fun q => spec_brKind.f q n k) (kindB n k) := by
  unfold spec_brKind.f kindB
  refine ev_plain (spec_l1In_eq _ _ _) (ev_if (fun h1 => ?_) (fun h1 => ev_some (by simp [Bool.eq_false_iff.mpr h1])))
  refine ev_plain (spec_l1In_eq _ _ _) (ev_if (fun h2 => ?_) (fun h2 => ev_some (by simp [Bool.eq_false_iff.mpr h2])))
  have e1 := inB_iff.mp h1
  have e2 := inB_iff.mp h2
  obtain ⟨n, rfl⟩ := Int.eq_ofNat_of_zero_le (show 0 ≤ n by omega)
  obtain ⟨k, rfl⟩ := Int.eq_ofNat_of_zero_le (show 0 ≤ k by omega)
  refine ev_call (spec_lyPower_ev k n (by omega) (by omega)) (ev_some ?_)
  rw [h1, h2]
  simp only [Bool.true_and, Int.toNat_natCast]
  exact decide_eq_decide.mpr (by omega)

theorem slices_Reverse_loop (n : Nat) (hn : n ≤ 1000000000000) : ∀ (d i : Nat) (j : Int) (ys : List Int), ys.length = n → (i : Int) + j = (n : Int) - 1 → n ≤ 2 * i + d →
    ∃ r, r.length = n ∧ (∀ q, q < n → r.getD q 0 = if i ≤ q ∧ (q : Int) ≤ j then ys.getD (n - 1 - q) 0 else ys.getD q 0) ∧ Ev (fun k => slices_Reverse_int_int.l0 k ys (i : Int) j) r := by
  intro d
  induction d with
  | zero =>
    intro i j ys h1 h2 h3
    refine ⟨ys, h1, fun q hq => ?_, Ev.step (fun k => by simp only [slices_Reverse_int_int.l0]; rfl) (ev_neg (by omega) (Ev.now _))⟩
    split
    · congr 1; omega
    · rfl
  | succ d ih =>
    intro i j ys h1 h2 h3
    by_cases hij : (i : Int) < j
    · obtain ⟨j, rfl⟩ := Int.eq_ofNat_of_zero_le (show 0 ≤ j by omega)
      obtain ⟨r, r1, r2, r3⟩ := ih (i + 1) ((j : Int) - 1) ((ys.set i (rd ys (j : Int))).set j (rd ys (i : Int))) (by simpa using h1) (by omega) (by omega)
      refine ⟨r, r1, fun q hq => ?_, ?_⟩
      · rw [r2 q hq]
        have e : ∀ p, p < n → ((ys.set i (rd ys (j : Int))).set j (rd ys (i : Int))).getD p 0 = if p = j then ys.getD i 0 else if p = i then ys.getD j 0 else ys.getD p 0 := by
          intro p hp
          simp only [List.getD_eq_getElem?_getD, List.getElem?_set, List.length_set, h1, rd_nat]
          by_cases e1 : j = p
          · subst e1; simp [hp]
          · by_cases e2 : i = p
            · subst e2; simp [hp, e1, Ne.symm e1]
            · simp [e1, e2, Ne.symm e1, Ne.symm e2]
        by_cases c1 : i + 1 ≤ q ∧ (q : Int) ≤ (j : Int) - 1
        · rw [if_pos c1, if_pos (by omega), e _ (by omega), if_neg (by omega), if_neg (by omega)]
        · rw [if_neg c1, e q hq]
          by_cases c2 : q = j
          · subst c2; rw [if_pos rfl, if_pos (by omega)]; congr 1; omega
          · rw [if_neg c2]
            by_cases c3 : q = i
            · subst c3; rw [if_pos rfl, if_pos (by omega)]; congr 1; omega
            · rw [if_neg c3, if_neg (by omega)]
      · refine Ev.step (fun k => by simp only [slices_Reverse_int_int.l0]; rfl) ?_
        refine ev_pos hij (ev_pos (by omega) (ev_pos (by omega) (ev_pos (by omega) (ev_pos (by omega) ?_))))
        rw [wrap_succ (by omega), wrap_id (by omega), Int.toNat_natCast, Int.toNat_natCast]
        exact r3
    · refine ⟨ys, h1, fun q hq => ?_, Ev.step (fun k => by simp only [slices_Reverse_int_int.l0]; rfl) (ev_neg hij (Ev.now _))⟩
      split
      · congr 1; omega
      · rfl
theorem slices_Reverse_int_int_ev (xs : List Int) (hx : xs.length ≤ 1000000000000) : Ev (fun k => slices_Reverse_int_int.f k xs) xs.reverse := by
  unfold slices_Reverse_int_int.f
  rw [wrap_id (by omega)]
  obtain ⟨r, r1, r2, r3⟩ := slices_Reverse_loop xs.length hx xs.length 0 ((xs.length : Int) - 1) xs rfl (by omega) (by omega)
  refine ev_to r3 (List.ext_getElem (by simp [r1]) fun q h1 h2 => ?_)
  have := r2 q (by omega)
  rw [if_pos (by omega)] at this
  simp only [List.getD_eq_getElem?_getD, List.getElem?_eq_getElem h1, List.getElem?_eq_getElem (show xs.length - 1 - q < xs.length by omega), Option.getD_some] at this
  rw [this, List.getElem_reverse]

theorem euler_walk (kk nodes : Nat) (hk : 1 ≤ kk) (hk6 : kk ≤ 6) (hn : 1 ≤ nodes) (hn2 : nodes ≤ 1024) : ∀ (m : Nat) (left : List Int) (way : List S51) (node : Nat) (out : List Int),
    left.length = nodes → (∀ x ∈ left, 0 ≤ x ∧ x ≤ (kk : Int)) → node < nodes → (∀ s ∈ way, ∃ f : Nat, s.f0 = (f : Int) ∧ f < nodes) → way.length + out.length + slack kk left ≤ 10000 → 2 * slack kk left + way.length = m →
    ∃ r : List Int, r.length ≤ 10000 ∧ Ev (fun k => impl_EulerBruijn.l0 k (kk : Int) (nodes : Int) left way (node : Int) out) (r, true) ∧
      Ev (fun k => spec_EulerBruijn.l0 k (kk : Int) (nodes : Int) left (way.map (·.f0) ++ [(node : Int)]) (way.map (·.f1)) out.reverse) (r, true) := by
  intro m
  induction m using nat_strong with
  | h m ih =>
  intro left way node out h1 h2 h3 h4 h5 h6
  have hx : 0 ≤ left.getD node 0 ∧ left.getD node 0 ≤ (kk : Int) := by
    have : left.getD node 0 ∈ left := by
      rw [List.getD_eq_getElem?_getD, List.getElem?_eq_getElem (by omega)]; exact List.getElem_mem _
    exact h2 _ this
  have e1 : rd (way.map (·.f0) ++ [(node : Int)]) ((way.length : Nat) : Int) = (node : Int) := by
    rw [rd_nat, List.getD_eq_getElem?_getD, List.getElem?_append_right (by simp)]; simp
  have e2 : wrap64 (((way.map (·.f0) ++ [(node : Int)]).length : Int) - 1) = (way.length : Int) := by
    rw [wrap_id (by simp <;> omega)]; simp
  by_cases hlt : left.getD node 0 < (kk : Int)
  · obtain ⟨x, hxx⟩ := Int.eq_ofNat_of_zero_le hx.1
    have hs := slack_set kk left node (by omega) hlt
    have hmul : node * kk ≤ 1024 * 6 := Nat.mul_le_mul (by omega) hk6
    have hmod : Int.tmod (wrap64 (wrap64 ((node : Int) * (kk : Int)) + left.getD node 0)) (nodes : Int) = (((node * kk + x) % nodes : Nat) : Int) := by
      rw [hxx, show (node : Int) * (kk : Int) = ((node * kk : Nat) : Int) by simp, wrap_id (x := ((node * kk : Nat) : Int)) (by omega), show ((node * kk : Nat) : Int) + (x : Int) = ((node * kk + x : Nat) : Int) by omega, wrap_id (by omega), tmod_nat]
    obtain ⟨r, r1, r2, r3⟩ := ih (m - 1) (by omega) (left.set node (left.getD node 0 + 1)) (way ++ [⟨(node : Int), left.getD node 0⟩]) ((node * kk + x) % nodes) out (by simpa using h1)
      (by intro y hy; rcases List.mem_or_eq_of_mem_set hy with hy | rfl
          · exact h2 y hy
          · omega) (Nat.mod_lt _ hn) (by intro s hs; rcases List.mem_append.mp hs with hs | hs
                                         · exact h4 s hs
                                         · simp at hs; subst hs; exact ⟨node, rfl, h3⟩) (by simp only [List.length_append, List.length_cons, List.length_nil]; omega) (by simp only [List.length_append, List.length_cons, List.length_nil]; omega)
    refine ⟨r, r1, ?_, ?_⟩
    · refine Ev.step (fun k => by simp only [impl_EulerBruijn.l0]; rfl) ?_
      rw [rd_nat, Int.toNat_natCast, hmod, wrap_id (x := left.getD node 0 + 1) (by omega)]
      exact ev_pos (by omega) (ev_pos (by omega) (ev_pos hlt (ev_pos (by omega) (ev_neg (by omega) r2))))
    · refine Ev.step (fun k => by simp only [spec_EulerBruijn.l0]; rfl) ?_
      rw [e2, e1, rd_nat, Int.toNat_natCast, hmod, wrap_id (x := left.getD node 0 + 1) (by omega)]
      refine ev_pos (by simp <;> omega) (ev_pos (by omega) (ev_pos (by simp <;> omega) (ev_pos (by omega) (ev_pos (by omega) (ev_pos hlt (ev_neg (by omega) (ev_pos (by simp <;> omega) (ev_pos (by simp <;> omega) ?_))))))))
      simpa using r3
  · rcases List.eq_nil_or_concat way with rfl | ⟨way0, s, rfl⟩
    · refine ⟨out.reverse, by simp; omega, ?_, ?_⟩
      · refine Ev.step (fun k => by simp only [impl_EulerBruijn.l0]; rfl) ?_
        rw [rd_nat]
        exact ev_pos (by omega) (ev_pos (by omega) (ev_neg hlt (ev_pos rfl (ev_call (slices_Reverse_int_int_ev out (by omega)) (Ev.now _)))))
      · refine Ev.step (fun k => by simp only [spec_EulerBruijn.l0]; rfl) ?_
        rw [e2, e1, rd_nat]
        refine ev_pos (by simp) (ev_pos (by omega) (ev_pos (by simp) (ev_pos (by omega) (ev_pos (by omega) (ev_neg hlt (ev_pos (by simp) ?_))))))
        refine ev_plain rfl ?_
        refine ev_neg (by simp) ?_
        refine Ev.step (fun k => by simp only [spec_EulerBruijn.l0]; rfl) ?_
        exact ev_neg (by simp) (Ev.now _)
    · obtain ⟨f, hf, hf2⟩ := h4 s (by simp)
      rw [List.concat_eq_append] at *
      simp at h5 h6
      obtain ⟨r, r1, r2, r3⟩ := ih (m - 1) (by omega) left way0 f (out ++ [s.f1]) h1 h2 hf2 (fun s' hs' => h4 s' (by simp [hs'])) (by simp <;> omega) (by omega)
      rw [← hf] at r2 r3
      refine ⟨r, r1, ?_, ?_⟩
      · refine Ev.step (fun k => by simp only [impl_EulerBruijn.l0]; rfl) ?_
        have w1 : wrap64 (((way0 ++ [s]).length : Int) - 1) = (way0.length : Int) := by rw [wrap_id (by simp <;> omega)]; simp
        have w2 : rd_T51 (way0 ++ [s]) (way0.length : Int) = s := by simp [rd_T51, List.getD_eq_getElem?_getD]
        rw [rd_nat, w1, w2]
        refine ev_pos (by omega) (ev_pos (by omega) (ev_neg hlt (ev_neg (by simp <;> omega) (ev_pos (by omega) (ev_pos (by simp <;> omega) (ev_pos (by simp <;> omega) (ev_pos (by omega) ?_)))))))
        simpa using r2
      · refine Ev.step (fun k => by simp only [spec_EulerBruijn.l0]; rfl) ?_
        have w3 : wrap64 ((((way0 ++ [s]).map (·.f1)).length : Int) - 1) = (way0.length : Int) := by rw [wrap_id (by simp <;> omega)]; simp
        have w4 : rd ((way0 ++ [s]).map (·.f1)) (way0.length : Int) = s.f1 := by rw [rd_nat]; simp [List.getD_eq_getElem?_getD]
        rw [e2, e1, rd_nat]
        refine ev_pos (by simp <;> omega) (ev_pos (by omega) (ev_pos (by simp <;> omega) (ev_pos (by omega) (ev_pos (by omega) (ev_neg hlt (ev_pos (by simp <;> omega) ?_))))))
        refine ev_plain rfl ?_
        rw [w3, w4]
        refine ev_pos (by simp <;> omega) (ev_pos (by omega) (ev_pos (by simp <;> omega) ?_))
        refine ev_plain rfl ?_
        refine ev_pos (by simp <;> omega) (ev_pos (by simp <;> omega) ?_)
        have t1 : ((way0 ++ [s]).map (·.f0) ++ [(node : Int)]).take ((((way0 ++ [s]).length : Nat) : Int)).toNat = way0.map (·.f0) ++ [s.f0] := by
          rw [Int.toNat_natCast, List.take_append_of_le_length (by simp), List.take_of_length_le (by simp)]; simp
        have t2 : ((way0 ++ [s]).map (·.f1)).take ((way0.length : Nat) : Int).toNat = way0.map (·.f1) := by simp
        rw [t1, t2]
        simpa using r3
theorem euler_both (n k : Int) : ∃ r b, r.length ≤ 10000 ∧ Ev (fun q => impl_EulerBruijn.f q n k) (r, b) ∧ Ev (fun q => spec_EulerBruijn.f q n k) (r, b) := by
  by_cases h : kindB n k = true
  · obtain ⟨n, k, rfl, rfl, n1, n2, k1, k2, hp⟩ := kindB_nat h
    have hp2 : k ^ (n - 1) ≤ 1024 := Nat.le_trans (Nat.pow_le_pow_right (by omega) (by omega)) hp
    have hp3 : 1 ≤ k ^ (n - 1) := Nat.one_le_pow _ _ (by omega)
    have hs : k ^ (n - 1) * k ≤ 1024 := by rw [← Nat.pow_succ, show (n - 1).succ = n by omega]; exact hp
    obtain ⟨r, r1, r2, r3⟩ := euler_walk k (k ^ (n - 1)) (by omega) k2 hp3 hp2 _ (List.replicate (k ^ (n - 1)) 0) [] 0 [] (by simp) (by intro x hx; simp at hx; omega) (by omega) (by intro s hs; cases hs) (by rw [slack_zeros]; simp; omega) rfl
    refine ⟨r, true, r1, ?_, ?_⟩
    · unfold impl_EulerBruijn.f
      refine ev_call (impl_isBruijnSize_ev _ _) (ev_pos h ?_)
      rw [wrap_id (by omega), show ((n : Int) - 1) = ((n - 1 : Nat) : Int) by omega]
      refine ev_call (impl_power_ev k (n - 1) (by omega) (by omega)) (ev_pos (by omega) (ev_pos (by omega) ?_))
      rw [Int.toNat_natCast]
      exact r2
    · unfold spec_EulerBruijn.f
      refine ev_call (spec_brKind_ev _ _) (ev_pos h ?_)
      rw [wrap_id (by omega), show ((n : Int) - 1) = ((n - 1 : Nat) : Int) by omega]
      refine ev_call (spec_lyPower_ev k (n - 1) (by omega) (by omega)) (ev_pos (by omega) (ev_pos (by omega) ?_))
      rw [Int.toNat_natCast]
      exact r3
  · refine ⟨[], false, by simp, ?_, ?_⟩
    · unfold impl_EulerBruijn.f
      exact ev_call (impl_isBruijnSize_ev _ _) (ev_neg h (Ev.now _))
    · unfold spec_EulerBruijn.f
      exact ev_call (spec_brKind_ev _ _) (ev_neg h (Ev.now _))

theorem laws_eqIntS_loop (l : List Int) (hl : l.length ≤ 35184372088832) : ∀ (d i : Nat), i + d = l.length → Ev (fun k => laws_eqIntS.l0 k l l (i : Int)) true := by
  intro d
  induction d with
  | zero =>
    intro i h
    refine Ev.step (f := fun _ => some true) (fun k => ?_) (Ev.now _)
    simp only [laws_eqIntS.l0]; rw [if_neg (by omega)]
  | succ d ih =>
    intro i h
    refine Ev.step (f := fun k => laws_eqIntS.l0 k l l ((i + 1 : Nat) : Int)) (fun k => ?_) (ih (i + 1) (by omega))
    simp only [laws_eqIntS.l0]; rw [if_pos (by omega), if_pos (by omega), if_pos (by omega), if_pos trivial, wrap_succ (by omega)]
theorem laws_eqIntS_ev (l : List Int) (hl : l.length ≤ 35184372088832) : Ev (fun k => laws_eqIntS.f k l l) true := by
  unfold laws_eqIntS.f
  exact ev_pos rfl (laws_eqIntS_loop l hl l.length 0 (by omega))

theorem laws_markIntS_loop : ∀ (d i : Nat) (ys : List Int) (m : Int), i + d = ys.length → 0 ≤ m → m + d ≤ 1000000000000000 → ys.length ≤ 35184372088832 →
    Ev (fun k => laws_markIntS.l0 k ys m (i : Int)) (m + (d : Int), ys.take i ++ marks m d) := by
  intro d
  induction d with
  | zero =>
    intro i ys m h1 h2 h3 h4
    refine Ev.step (f := fun _ => some (m, ys)) (fun k => ?_) (ev_some ?_)
    · simp only [laws_markIntS.l0]; rw [if_neg (by omega)]
    · rw [List.take_of_length_le (by omega)]; simp [marks]
  | succ d ih =>
    intro i ys m h1 h2 h3 h4
    refine Ev.step (f := fun k => laws_markIntS.l0 k (ys.set i m) (m + 1) ((i + 1 : Nat) : Int)) (fun k => ?_) (ev_to (ih (i + 1) _ (m + 1) (by simp; omega) (by omega) (by omega) (by simpa using h4)) ?_)
    · simp only [laws_markIntS.l0]; rw [if_pos (by omega), if_pos (by omega), wrap_succ (by omega), wrap_id (by omega), Int.toNat_natCast]
    · rw [marks_succ, List.take_succ_eq_append_getElem (by simp; omega), List.take_set, List.set_eq_of_length_le (by simp; omega)]
      refine Prod.ext (by simp; omega) ?_
      simp
theorem laws_markIntS_ev (l : List Int) (m : Int) (h2 : 0 ≤ m) (h3 : m ≤ 900000000000000) (h4 : l.length ≤ 35184372088832) : Ev (fun k => laws_markIntS.f k l m) (m + (l.length : Int), marks m l.length) :=
  ev_to (laws_markIntS_loop l.length 0 l m (by omega) h2 (by omega) h4) (by simp)

theorem laws_heldIntS_loop (zs : List Int) (hz : zs.length ≤ 35184372088832) : ∀ (d i : Nat) (m : Int), i + d = zs.length → 0 ≤ m → m + d ≤ 1000000000000000 → zs.drop i = marks m d →
    Ev (fun k => laws_heldIntS.l0 k zs m (i : Int)) (m + (d : Int)) := by
  intro d
  induction d with
  | zero =>
    intro i m h1 h2 h3 h4
    refine Ev.step (f := fun _ => some m) (fun k => ?_) (ev_some (by simp))
    simp only [laws_heldIntS.l0]; rw [if_neg (by omega)]
  | succ d ih =>
    intro i m h1 h2 h3 h4
    rw [drop_rd zs i (by omega), marks_succ, List.cons.injEq] at h4
    refine Ev.step (f := fun k => laws_heldIntS.l0 k zs (m + 1) ((i + 1 : Nat) : Int)) (fun k => ?_) (ev_to (ih (i + 1) (m + 1) (by omega) (by omega) (by omega) h4.2) (by omega))
    simp only [laws_heldIntS.l0]; rw [if_pos (by omega), if_pos (by omega), if_pos h4.1, wrap_succ (by omega), wrap_id (by omega)]
theorem laws_heldIntS_ev (m : Int) (n : Nat) (h2 : 0 ≤ m) (h3 : m ≤ 900000000000000) (h4 : n ≤ 35184372088832) : Ev (fun k => laws_heldIntS.f k (marks m n) m) (m + (n : Int)) :=
  laws_heldIntS_loop (marks m n) (by simpa [marks_length] using h4) n 0 m (by simp [marks_length]) h2 (by omega) rfl

theorem FnExactEulerBruijn : laws_FnExactEulerBruijn.Pure := by
  intro n k h_n h_k
  refine Ev.rounds (r := true) ?_
  unfold laws_FnExactEulerBruijn.f
  have hw_n := wf_in h_n
  have hw_k := wf_in h_k
  obtain ⟨r_, b_, hr, I_, S_⟩ := euler_both n k
  repeat (first
    | exact Ev.now _
    | (refine ev_call S_ ?_; try dsimp only)
    | (refine ev_call I_ ?_; try dsimp only)
    | refine ev_call (laws_eqIntS_ev _ (by first | assumption | omega)) ?_
    | (refine ev_call (laws_markIntS_ev _ _ (by omega) (by omega) (by omega)) ?_; dsimp only)
    | refine ev_call (laws_heldIntS_ev _ _ (by omega) (by omega) (by omega)) ?_
    | refine ev_pos rfl ?_
    | refine ev_neg (bne_no _) ?_
    | refine ev_neg (by omega) ?_
    | refine Ev.step (fun k => by simp only [laws_FnExactEulerBruijn.j0]; rfl) ?_
    | refine Ev.step (fun k => by simp only [laws_FnExactEulerBruijn.j1]; rfl) ?_)

end Go.Proofs.Ytdhmdlecagjohaa.Pure
