-- Written for this claim by a copy of the print that meets some functions by contracts of this session.
import Derived.Test.YtdhmdlecagjohaaPFnExactCountBruijnx0
import Derived.Test.YtdhmdlecagjohaaPFnExactCountBruijnx1
namespace Go.Proofs.Ytdhmdlecagjohaa.PFnExactCountBruijn
open Go.RowKit Go.Proofs.YtdhmdlecagjohaaW.PrintWords Go.Proofs.YtdhmdlecagjohaaW.PrintLast Go.Proofs.YtdhmdlecagjohaaW.PrintMore
attribute [local go_sem] max2_int min2_int max_two min_two max_three min_three max_four min_four   -- for this text's walks alone
set_option linter.unusedVariables false
set_option linter.unusedSimpArgs false

/-! ### impl_countBruijn: function 53 (a contract of this session's own) -/
def mulC (o a : Int) : Int := if 0 < o ∧ o ≤ 1000000000 then wrap64 (o * a) else o
def impl_countBruijn.l1 : Nat → Int → Int → Int → Int → Option Int
  | 0, _, _, _, _ => none
  | k + 1, kk, o, lim, i => if i < lim then ((impl_factorial.f k kk).bind fun t => (impl_countBruijn.l1 k kk (mulC o t) lim (wrap64 (i + 1)))) else (some (if o > 1000000000 then -1 else o))
def impl_countBruijn.l0 : Nat → Int → Int → Int → Int → Option Int
  | 0, _, _, _, _ => none
  | k + 1, n, kk, o, i => if i < n then ((impl_factorial.f k (wrap64 (kk - 1))).bind fun t => (impl_countBruijn.l0 k n kk (mulC o t) (wrap64 (i + 1)))) else ((impl_power.f k kk (wrap64 (n - 1))).bind fun p => (impl_countBruijn.l1 k kk o (wrap64 (p - n)) 0))
def impl_countBruijn.f (k : Nat) (a0 : Int) (a1 : Int) : Option Int := impl_countBruijn.l0 k a0 a1 1 0
theorem impl_countBruijn.mono_l1 : ∀ k, (∀ y0 y1 y2 y3, LeO (impl_countBruijn.l1 k y0 y1 y2 y3) (impl_countBruijn.l1 (k + 1) y0 y1 y2 y3))
  | 0 => fun _ _ _ _ r h => by simp [impl_countBruijn.l1] at h
  | k + 1 => by
    have ih := impl_countBruijn.mono_l1 k
    intro y0 y1 y2 y3
    unfold impl_countBruijn.l1
    exact LeO.ite (LeO.bind (impl_factorial.mono _ _) (fun _ => ih _ _ _ _)) (LeO.refl _)
theorem impl_countBruijn.mono_l : ∀ k, (∀ y0 y1 y2 y3, LeO (impl_countBruijn.l0 k y0 y1 y2 y3) (impl_countBruijn.l0 (k + 1) y0 y1 y2 y3))
  | 0 => fun _ _ _ _ r h => by simp [impl_countBruijn.l0] at h
  | k + 1 => by
    have ih := impl_countBruijn.mono_l k
    intro y0 y1 y2 y3
    unfold impl_countBruijn.l0
    exact LeO.ite (LeO.bind (impl_factorial.mono _ _) (fun _ => ih _ _ _ _)) (LeO.bind (impl_power.mono _ _ _) (fun _ => impl_countBruijn.mono_l1 k _ _ _ _))
theorem impl_countBruijn.mono : ∀ a0 a1 k, LeO (impl_countBruijn.f k a0 a1) (impl_countBruijn.f (k + 1) a0 a1) := fun a0 a1 k => impl_countBruijn.mono_l k _ _ _ _
/-- The two variables that 'times' has captured: out, and most. -/
structure CntAt (B : Nat) (o : Int) (w : World) : Prop where
  co : w.cell? ⟨B, 0, none⟩ = some (.int .i64 o)
  fo : w.frozen? ⟨B, 0, none⟩ = false
  cm : w.cell? ⟨B + 1, 0, none⟩ = some (.int .i64 1000000000)
theorem CntAt.drewN {B : Nat} {o : Int} {w : World} (h : CntAt B o w) (n : Nat) : CntAt B o (w.drewN n) := ⟨h.co, h.fo, h.cm⟩
theorem CntAt.put {B : Nat} {o : Int} {w : World} (h : CntAt B o w) (x : Int) : CntAt B x (w.setCell ⟨B, 0, none⟩ (.int .i64 x)) :=
  ⟨World.cell?_setCell_same' _ _ _ (by rw [h.co]; rfl), by rw [World.frozen?_setCell]; exact h.fo, by
    have hne : (⟨B, 0, none⟩ : Addr) ≠ ⟨B + 1, 0, none⟩ := by intro e; injection e; omega
    have := h.cm
    simpa [World.cell?_setCell_other, hne, Ne.symm hne] using this⟩
set_option maxHeartbeats 2000000 in
theorem times_yes (a o : Int) (B : Nat) (w : World) (h : CntAt B o w) (h1 : 0 < o) (h2 : o ≤ 1000000000) :
    Calls Try.prog 78 #[.int .i64 a, .pointer (some ⟨B, 0, none⟩), .pointer (some ⟨B + 1, 0, none⟩)] w fun e w' => e = .returned (.tuple #[]) ∧ w' = w.setCell ⟨B, 0, none⟩ (.int .i64 (wrap64 (o * a))) := by
  obtain ⟨co, fo, cm⟩ := h
  have d1 : decide (0 < o) = true := decide_eq_true h1
  have d2 : decide (o ≤ 1000000000) = true := decide_eq_true h2
  clear h1 h2
  go_enter Try.func78, Try.ntmps78
  go_wp2
  go_end0
  exact ⟨rfl, rfl⟩
set_option maxHeartbeats 2000000 in
theorem times_no1 (a o : Int) (B : Nat) (w : World) (h : CntAt B o w) (h1 : ¬ 0 < o) :
    Calls Try.prog 78 #[.int .i64 a, .pointer (some ⟨B, 0, none⟩), .pointer (some ⟨B + 1, 0, none⟩)] w fun e w' => e = .returned (.tuple #[]) ∧ w' = w := by
  obtain ⟨co, fo, cm⟩ := h
  have d1 : decide (0 < o) = false := decide_eq_false h1
  clear h1
  go_enter Try.func78, Try.ntmps78
  go_wp2
  go_end0
  exact ⟨rfl, rfl⟩
set_option maxHeartbeats 2000000 in
theorem times_no2 (a o : Int) (B : Nat) (w : World) (h : CntAt B o w) (h1 : 0 < o) (h2 : ¬ o ≤ 1000000000) :
    Calls Try.prog 78 #[.int .i64 a, .pointer (some ⟨B, 0, none⟩), .pointer (some ⟨B + 1, 0, none⟩)] w fun e w' => e = .returned (.tuple #[]) ∧ w' = w := by
  obtain ⟨co, fo, cm⟩ := h
  have d1 : decide (0 < o) = true := decide_eq_true h1
  have d2 : decide (o ≤ 1000000000) = false := decide_eq_false h2
  clear h1 h2
  go_enter Try.func78, Try.ntmps78
  go_wp2
  go_end0
  exact ⟨rfl, rfl⟩
theorem CntAt.start (w : World) : CntAt w.heap.size 1 ((w.alloc (.cells #[.int .i64 1] 3)).alloc (.cells #[.int .i64 1000000000] 3)) := ⟨by go_simp, by go_simp, by go_simp⟩
/-- The closure, in one law: behind it the variable holds mulC, and all else is as it was. -/
theorem times_any (a o : Int) (B : Nat) (w : World) (h : CntAt B o w) :
    Calls Try.prog 78 #[.int .i64 a, .pointer (some ⟨B, 0, none⟩), .pointer (some ⟨B + 1, 0, none⟩)] w fun e w' => e = .returned (.tuple #[]) ∧ CntAt B (mulC o a) w' ∧ ∀ B0 w0, B0 ≤ B → Below B0 w0 w → Below B0 w0 w' := by
  unfold mulC
  by_cases h1 : 0 < o
  · by_cases h2 : o ≤ 1000000000
    · rw [if_pos ⟨h1, h2⟩]
      refine (times_yes a o B w h h1 h2).mono ?_
      rintro e w' ⟨rfl, rfl⟩
      exact ⟨rfl, h.put _, fun B0 w0 hB hb => hb.setCell (by simp; omega) _⟩
    · rw [if_neg (fun h => h2 h.2)]
      refine (times_no2 a o B w h h1 h2).mono ?_
      rintro e w' ⟨rfl, rfl⟩
      exact ⟨rfl, h, fun B0 w0 hB hb => hb⟩
  · rw [if_neg (fun h => h1 h.1)]
    refine (times_no1 a o B w h h1).mono ?_
    rintro e w' ⟨rfl, rfl⟩
    exact ⟨rfl, h, fun B0 w0 hB hb => hb⟩
section
variable {P : Program} {ops : Array Oper} {Q : Exit → Act → World → Prop}
/-- The operation calls the function value in this place. -/
theorem gate_tmp_ {rest : List Oper} {o : Oper} {a : Act} {W : World} {t : Tmp} {xs : Array Operand} {ts : Array TypeId} (_ho : o.op = .call { callee := .value (.tmp t), args := xs, argTypes := ts }) (h : wpList P ops Q (o :: rest) a W) : wpList P ops Q (o :: rest) a W := h
theorem goesV_ {rest : List Oper} {oi : Oper} {a : Act} {w : World} (N : Option Tmp) (hd : oi.dst = N) (hg : oi.guard = none) {t : Tmp} {f : FuncId} {fn : Func} {cap : Array Value} {xs : Array Operand} {ts : Array TypeId} (hf : P.funcs[f]? = some fn) (hname : (fn.name == "runtime.NumGoroutine") = false) (hb : fn.body.isSome = true) (args : Array Value)
    (hop : oi.op = .call { callee := .value (.tmp t), args := xs, argTypes := ts }) (hv : a.eval (.tmp t) = .func (.func f) #[] cap) (hargs : xs.map a.eval ++ cap = args)
    (h : Calls P f args w fun e w' => ∃ v, e = .returned v ∧ wpList P ops Q rest (a.put N v) w') : wpList P ops Q (oi :: rest) a w := by
  refine wpList_plain hg fun K hK => ?_
  have he := enters_ hf hname hb args w
  have hrun : (execOp a.eval oi).run P w = .ok (.enter f args) w := by
    unfold execOp
    simp [hop, resolve, Deferred.ofValue, invoke, hv, hargs, he]
  unfold Oper.wp
  rw [hrun, Oper.upon_enter]
  refine h.mono fun e w'' hh => ?_
  obtain ⟨v, rfl, hk⟩ := hh
  subst hd
  exact hK _ _ hk
end
set_option maxHeartbeats 8000000 in
set_option maxRecDepth 100000 in
theorem impl_countBruijn.calls (k : Nat) (a0 a1 : Int) (r : Int) (w : World) (h : impl_countBruijn.f k a0 a1 = some r) :
    Calls Try.prog 53 #[.int .i64 a0, .int .i64 a1] w fun e w' => e = .returned (.int .i64 r) ∧ Below w.heap.size w w' := by
  have H' : Aside0 (impl_countBruijn.l0 k a0 a1 1 0 = some r) := ⟨h⟩
  clear h
  have hmf : ∀ (fn : Fn) (first cap : Array Value) (w : World), (Instr.makeFunc fn first cap).run Try.prog w = .ok (.func fn first cap) w := fun _ _ _ _ => rfl
  go_enter Try.func53, Try.ntmps53
  go_wp2
  go_loopg [10] k (fun kq v10 w' => ∃ (i o : Int), v10 = .int .i64 i ∧ CntAt w.heap.size o w' ∧ Aside0 (impl_countBruijn.l0 kq a0 a1 o i = some r) ∧ Aside0 (kq ≤ k) ∧ Below w.heap.size w w')
  case atStart =>
    exact ⟨0, 1, rfl, CntAt.start w, H', ⟨Nat.le_refl _⟩, below_alloc (below_alloc (Below.refl _ _) _) _⟩
  case round =>
    clear H'
    obtain ⟨i, o, rfl, HC, HA, HK1, HB⟩ := hrel
    cases gk with
    | zero => exact absurd HA.out (by simp [impl_countBruijn.l0])
    | succ k1 =>
      have H := HA.out
      clear HA
      simp only [impl_countBruijn.l0] at H
      by_cases c2 : i < a0
      · rw [if_pos c2] at H
        have c2b0 : decide (i < a0) = true := decide_eq_true c2
        clear c2
        obtain ⟨t, ht, H⟩ := Option.bind_eq_some_iff.mp H
        have A1 : Aside0 (impl_factorial.f k1 (wrap64 (a1 - 1)) = some t) := ⟨ht⟩
        have H' : Aside0 (impl_countBruijn.l0 k1 a0 a1 (mulC o t) (wrap64 (i + 1)) = some r) := ⟨H⟩
        clear H ht
        go_wp2_with (first
          | ((with_reducible refine gate_callee (f := 46) rfl ?_); refine goesL_ (some 15) rfl rfl Try.func46 (by kernel_rfl) rfl #[.int .i64 (wrap64 (a1 - 1))] rfl (by (try simp only [List.map_toArray, List.map_cons, List.map_nil]); first | done | rfl) ?_; (with_reducible refine (impl_factorial.calls k1 (wrap64 (a1 - 1)) t _ A1.out).mono ?_); rintro e w2 ⟨rfl, ⟨nd, rfl⟩⟩; refine ⟨_, rfl, ?_⟩)
          | ((with_reducible refine gate_tmp_ (t := 12) rfl ?_); refine goesV_ (some 16) rfl rfl Try.func78 (by kernel_rfl) rfl #[.int .i64 t, .pointer (some ⟨w.heap.size, 0, none⟩), .pointer (some ⟨w.heap.size + 1, 0, none⟩)] rfl rfl (by (try simp only [List.map_toArray, List.map_cons, List.map_nil]); first | done | rfl) ?_; refine (times_any t o w.heap.size _ (HC.drewN nd)).mono ?_; rintro e w3 ⟨rfl, HC3, HB3⟩; refine ⟨_, rfl, ?_⟩))
        go_roundg k1
        case measure => have := HK1.out; omega
        case rel => exact ⟨wrap64 (i + 1), mulC o t, (by first | rfl | (simp; done)), HC3, H', ⟨by have := HK1.out; omega⟩, HB3 _ _ (Nat.le_refl _) (pw_below_drewN HB nd)⟩
      · rw [if_neg c2] at H
        have c2b0 : decide (i < a0) = false := decide_eq_false c2
        clear c2
        obtain ⟨p, hp, H⟩ := Option.bind_eq_some_iff.mp H
        have A1 : Aside0 (impl_power.f k1 a1 (wrap64 (a0 - 1)) = some p) := ⟨hp⟩
        have H' : Aside0 (impl_countBruijn.l1 k1 a1 o (wrap64 (p - a0)) 0 = some r) := ⟨H⟩
        clear H hp
        go_wp2_with (first
          | ((with_reducible refine gate_callee (f := 65) rfl ?_); refine goesL_ (some 21) rfl rfl Try.func65 (by kernel_rfl) rfl #[.int .i64 a1, .int .i64 (wrap64 (a0 - 1))] rfl (by (try simp only [List.map_toArray, List.map_cons, List.map_nil]); first | done | rfl) ?_; (with_reducible refine (impl_power.calls k1 a1 (wrap64 (a0 - 1)) p _ A1.out).mono ?_); rintro e w2 ⟨rfl, ⟨nd, rfl⟩⟩; refine ⟨_, rfl, ?_⟩))
        go_loopg [24] k1 (fun kq v24 w' => ∃ (i o : Int), v24 = .int .i64 i ∧ CntAt w.heap.size o w' ∧ Aside0 (impl_countBruijn.l1 kq a1 o (wrap64 (p - a0)) i = some r) ∧ Aside0 (kq ≤ k1) ∧ Below w.heap.size w w')
        case atStart => exact ⟨0, o, rfl, HC.drewN _, H', ⟨Nat.le_refl _⟩, pw_below_drewN HB _⟩
        case round =>
          clear H' HC HB HK1
          obtain ⟨i2, o2, rfl, HC, HA, HK1, HB⟩ := hrel
          cases gk with
          | zero => exact absurd HA.out (by simp [impl_countBruijn.l1])
          | succ k2 =>
            have H := HA.out
            clear HA
            simp only [impl_countBruijn.l1] at H
            by_cases c3 : i2 < (wrap64 (p - a0))
            · rw [if_pos c3] at H
              have c3b0 : decide (i2 < (wrap64 (p - a0))) = true := decide_eq_true c3
              clear c3
              obtain ⟨t, ht, H⟩ := Option.bind_eq_some_iff.mp H
              have A3 : Aside0 (impl_factorial.f k2 a1 = some t) := ⟨ht⟩
              have H' : Aside0 (impl_countBruijn.l1 k2 a1 (mulC o2 t) (wrap64 (p - a0)) (wrap64 (i2 + 1)) = some r) := ⟨H⟩
              clear H ht
              go_wp2_with (first
                | ((with_reducible refine gate_callee (f := 46) rfl ?_); refine goesL_ (some 28) rfl rfl Try.func46 (by kernel_rfl) rfl #[.int .i64 a1] rfl (by (try simp only [List.map_toArray, List.map_cons, List.map_nil]); first | done | rfl) ?_; (with_reducible refine (impl_factorial.calls k2 a1 t _ A3.out).mono ?_); rintro e w2 ⟨rfl, ⟨nd2, rfl⟩⟩; refine ⟨_, rfl, ?_⟩)
                | ((with_reducible refine gate_tmp_ (t := 26) rfl ?_); refine goesV_ (some 29) rfl rfl Try.func78 (by kernel_rfl) rfl #[.int .i64 t, .pointer (some ⟨w.heap.size, 0, none⟩), .pointer (some ⟨w.heap.size + 1, 0, none⟩)] rfl rfl (by (try simp only [List.map_toArray, List.map_cons, List.map_nil]); first | done | rfl) ?_; refine (times_any t o2 w.heap.size _ (HC.drewN nd2)).mono ?_; rintro e w3 ⟨rfl, HC3, HB3⟩; refine ⟨_, rfl, ?_⟩))
              go_roundg k2
              case measure => have := HK1.out; omega
              case rel => exact ⟨wrap64 (i2 + 1), mulC o2 t, (by first | rfl | (simp; done)), HC3, H', ⟨by have := HK1.out; omega⟩, HB3 _ _ (Nat.le_refl _) (pw_below_drewN HB nd2)⟩
            · rw [if_neg c3] at H
              have c3b0 : decide (i2 < (wrap64 (p - a0))) = false := decide_eq_false c3
              clear c3
              obtain ⟨co, fo, cm⟩ := HC
              by_cases c4 : o2 > 1000000000
              · rw [if_pos c4] at H
                obtain rfl := Option.some.inj H
                clear H
                have c4b0 : decide (1000000000 < o2) = true := decide_eq_true c4
                clear c4
                go_wp2
                go_ret
                exact ⟨rfl, HB⟩
              · rw [if_neg c4] at H
                obtain rfl := Option.some.inj H
                clear H
                have c4b0 : decide (1000000000 < o2) = false := decide_eq_false c4
                clear c4
                go_wp2
                go_ret
                exact ⟨rfl, HB⟩

/-! ### impl_CountBruijn: function 24 -/
def impl_CountBruijn.f (k : Nat) (a0 : Int) (a1 : Int) : Option (Int × Bool) := (impl_isBruijnSize.f k a0 a1).bind fun t111 => (if t111 = true then ((impl_countBruijn.f k a0 a1).bind fun t112 => (some (mx 0 t112, decide (t112 ≥ 0)))) else (some (0, false)))
theorem impl_CountBruijn.mono : ∀ a0 a1 k, LeO (impl_CountBruijn.f k a0 a1) (impl_CountBruijn.f (k + 1) a0 a1) := by
  intro a0 a1 k
  unfold impl_CountBruijn.f
  repeat' first
      | (with_reducible exact impl_countBruijn.mono _ _ _)
      | (with_reducible exact impl_isBruijnSize.mono _ _ _)
      | (with_reducible exact LeO.refl _)
      | (with_reducible exact LeO.none _)
      | (with_reducible refine LeO.ite ?_ ?_)
      | (with_reducible refine LeO.bind ?_ (fun _ => ?_))
      | exact impl_countBruijn.mono _ _ _
      | exact impl_isBruijnSize.mono _ _ _
      | exact LeO.none _
      | refine LeO.ite ?_ ?_
      | refine LeO.bind ?_ (fun _ => ?_)
set_option maxHeartbeats 8000000 in
set_option maxRecDepth 100000 in
theorem impl_CountBruijn.calls (k : Nat) (a0 : Int) (a1 : Int) (r1 : Int) (r2 : Bool) (w : World) (h : impl_CountBruijn.f k a0 a1 = some (r1, r2)) :
    Calls Try.prog 24 #[.int .i64 a0, .int .i64 a1] w fun e w' => e = .returned (.tuple #[.int .i64 r1, .bool r2]) ∧ Below w.heap.size w w' := by
  have HB := Aside0.mk (Below.refl w.heap.size w)
  have H : ((impl_isBruijnSize.f k a0 a1).bind fun t111 => (if t111 = true then ((impl_countBruijn.f k a0 a1).bind fun t112 => (some (mx 0 t112, decide (t112 ≥ 0)))) else (some (0, false)))) = some (r1, r2) := h
  clear h
  replace H := Option.bind_eq_some_iff.mp H
  obtain ⟨t111, A30, H⟩ := H
  replace H : (if t111 = true then ((impl_countBruijn.f k a0 a1).bind fun t112 => (some (mx 0 t112, decide (t112 ≥ 0)))) else (some (0, false))) = some (r1, r2) := H
  have A3 := Aside0.mk A30
  clear A30
  by_cases c4 : t111 = true
  · subst c4
    have H1 : ((impl_countBruijn.f k a0 a1).bind fun t112 => (some (mx 0 t112, decide (t112 ≥ 0)))) = some (r1, r2) := by rw [if_pos rfl] at H; exact H
    clear H
    have H := H1
    clear H1
    replace H := Option.bind_eq_some_iff.mp H
    obtain ⟨t112, A50, H⟩ := H
    replace H : (some (mx 0 t112, decide (t112 ≥ 0))) = some (r1, r2) := H
    have A5 := Aside0.mk A50
    clear A50
    obtain ⟨ji6, hji6⟩ : ∃ j_ : Int, (mx 0 t112) = j_ := ⟨_, rfl⟩
    replace H : (some (ji6, decide (t112 ≥ 0))) = some (r1, r2) := by first | (rw [hji6] at H; exact H) | (simp only [hji6] at H ⊢; exact H)
    (try rw [hji6] at A3)
    (try rw [hji6] at A5)
    (try (have hji6l : 0 ≤ ji6 := by (rw [← hji6]; unfold mx; (repeat' split) <;> omega)))
    (try (have hji6m : 0 ≤ ji6 := by omega))
    have hji6_ : (if 0 < t112 then t112 else 0) = ji6 := hji6
    simp only [Option.some.injEq, Prod.mk.injEq] at H
    obtain ⟨rfl, rfl⟩ := H
    go_enter Try.func24, Try.ntmps24
    go_wp2_with (first | ((with_reducible refine gate_callee (f := 52) rfl ?_); refine goesL_ (some 9) rfl rfl Try.func52 (by kernel_rfl) rfl #[.int .i64 a0, .int .i64 a1] rfl (by (try simp only [List.map_toArray, List.map_cons, List.map_nil]); first | done | rfl | (simp only [List.length_drop, List.length_take]; rfl)) ?_; (with_reducible refine (impl_isBruijnSize.calls k a0 a1 true _ A3.out).mono ?_); rintro e w' ⟨rfl, ⟨nd, rfl⟩⟩; refine ⟨_, rfl, ?_⟩) | ((with_reducible refine gate_callee (f := 53) rfl ?_); refine goesL_ (some 13) rfl rfl Try.func53 (by kernel_rfl) rfl #[.int .i64 a0, .int .i64 a1] rfl (by (try simp only [List.map_toArray, List.map_cons, List.map_nil]); first | done | rfl | (simp only [List.length_drop, List.length_take]; rfl)) ?_; (with_reducible refine (impl_countBruijn.calls k a0 a1 t112 _ A5.out).mono ?_); rintro e w7 ⟨rfl, hb⟩; refine ⟨_, rfl, ?_⟩; have n0_ := Aside0.mk (below_step (by repeat (first | (with_reducible first | exact HB.out | apply below_alloc | apply pw_below_drewN | apply below_drew1) | exact HB.out)) hb); clear HB; have HB := n0_; clear n0_; (try clear hb); (try clear hb2); (try clear hk); (try clear hi)))
    go_ret2
    exact ⟨by first | rfl | (simp [errW_none, errW_some] <;> rfl) | (simp only [← hji6]; first | rfl | (simp [errW_none, errW_some] <;> rfl)) | (simp [*, errW_none, errW_some] <;> rfl), by repeat (first | (with_reducible first | exact HB.out | apply below_alloc | apply pw_below_drewN | apply below_drew1) | exact HB.out)⟩
  · replace c4 := Bool.eq_false_iff.mpr c4
    subst c4
    have H1 : (some (0, false)) = some (r1, r2) := by rw [if_neg (show ¬ (false = true) by decide)] at H; exact H
    clear H
    have H := H1
    clear H1
    simp only [Option.some.injEq, Prod.mk.injEq] at H
    obtain ⟨rfl, rfl⟩ := H
    go_enter Try.func24, Try.ntmps24
    go_wp2_with (first | ((with_reducible refine gate_callee (f := 52) rfl ?_); refine goesL_ (some 9) rfl rfl Try.func52 (by kernel_rfl) rfl #[.int .i64 a0, .int .i64 a1] rfl (by (try simp only [List.map_toArray, List.map_cons, List.map_nil]); first | done | rfl | (simp only [List.length_drop, List.length_take]; rfl)) ?_; (with_reducible refine (impl_isBruijnSize.calls k a0 a1 false _ A3.out).mono ?_); rintro e w' ⟨rfl, ⟨nd, rfl⟩⟩; refine ⟨_, rfl, ?_⟩))
    go_ret2
    exact ⟨by first | rfl | (simp [errW_none, errW_some] <;> rfl) | (simp [*, errW_none, errW_some] <;> rfl), by repeat (first | (with_reducible first | exact HB.out | apply below_alloc | apply pw_below_drewN | apply below_drew1) | exact HB.out)⟩

/-! ### laws_FnExactCountBruijn: function 6 -/
def laws_FnExactCountBruijn.f (k : Nat) (a0 : Int) (a1 : Int) : Option (Bool) := (spec_CountBruijn.f k a0 a1).bind fun bt113 => ((impl_CountBruijn.f k a0 a1).bind fun bt115 => (if bt115.1 = bt113.1 then (if (bt115.2 != bt113.2) = true then (some false) else (some true)) else (some false)))
theorem laws_FnExactCountBruijn.mono : ∀ a0 a1 k, LeO (laws_FnExactCountBruijn.f k a0 a1) (laws_FnExactCountBruijn.f (k + 1) a0 a1) := by
  intro a0 a1 k
  unfold laws_FnExactCountBruijn.f
  repeat' first
      | (with_reducible exact impl_CountBruijn.mono _ _ _)
      | (with_reducible exact spec_CountBruijn.mono _ _ _)
      | (with_reducible exact LeO.refl _)
      | (with_reducible exact LeO.none _)
      | (with_reducible refine LeO.ite ?_ ?_)
      | (with_reducible refine LeO.bind ?_ (fun _ => ?_))
      | exact impl_CountBruijn.mono _ _ _
      | exact spec_CountBruijn.mono _ _ _
      | exact LeO.none _
      | refine LeO.ite ?_ ?_
      | refine LeO.bind ?_ (fun _ => ?_)
set_option maxHeartbeats 8000000 in
set_option maxRecDepth 100000 in
theorem laws_FnExactCountBruijn.calls (k : Nat) (a0 : Int) (a1 : Int) (r : Bool) (w : World) (h : laws_FnExactCountBruijn.f k a0 a1 = some r) :
    Calls Try.prog 6 #[.int .i64 a0, .int .i64 a1] w fun e w' => e = .returned (.bool r) ∧ Below w.heap.size w w' := by
  have HB := Aside0.mk (Below.refl w.heap.size w)
  have H : ((spec_CountBruijn.f k a0 a1).bind fun bt113 => ((impl_CountBruijn.f k a0 a1).bind fun bt115 => (if bt115.1 = bt113.1 then (if (bt115.2 != bt113.2) = true then (some false) else (some true)) else (some false)))) = some r := h
  clear h
  replace H := Option.bind_eq_some_iff.mp H
  obtain ⟨⟨t113, t114⟩, A30, H⟩ := H
  replace H : ((impl_CountBruijn.f k a0 a1).bind fun bt115 => (if bt115.1 = t113 then (if (bt115.2 != t114) = true then (some false) else (some true)) else (some false))) = some r := H
  have A3 := Aside0.mk A30
  clear A30
  replace H := Option.bind_eq_some_iff.mp H
  obtain ⟨⟨t115, t116⟩, A40, H⟩ := H
  replace H : (if t115 = t113 then (if (t116 != t114) = true then (some false) else (some true)) else (some false)) = some r := H
  have A4 := Aside0.mk A40
  clear A40
  by_cases c5 : t115 = t113
  · rw [if_pos c5] at H
    have c5b0 : (t115 == t113) = true := beq_iff_eq.mpr c5
    have c5b1 : (t115 != t113) = false := bne_eq_false_iff_eq.mpr c5
    clear c5
    by_cases c6 : (t116 != t114) = true
    · rw [if_pos c6] at H
      have c6b0 : (t116 != t114) = true := c6
      (try (have c6b1 : decide (t116 = t114) = false := by simpa using c6))
      (try (have c6b2 : (t116 == t114) = false := by simpa using c6))
      (try (have c6b3 : ¬ (t116 = t114) := by simpa using c6))
      clear c6
      obtain rfl := Option.some.inj H
      go_enter Try.func6, Try.ntmps6
      go_wp2_with (first | ((with_reducible refine gate_callee (f := 23) rfl ?_); refine goesL_ (some 12) rfl rfl Try.func23 (by kernel_rfl) rfl #[.int .i64 a0, .int .i64 a1] rfl (by (try simp only [List.map_toArray, List.map_cons, List.map_nil]); first | done | rfl | (simp only [List.length_drop, List.length_take]; rfl)) ?_; (with_reducible refine (spec_CountBruijn.calls k a0 a1 t113 t114 _ A3.out).mono ?_); rintro e w' ⟨rfl, ⟨nd, rfl⟩⟩; refine ⟨_, rfl, ?_⟩) | ((with_reducible refine gate_callee (f := 24) rfl ?_); refine goesL_ (some 18) rfl rfl Try.func24 (by kernel_rfl) rfl #[.int .i64 a0, .int .i64 a1] rfl (by (try simp only [List.map_toArray, List.map_cons, List.map_nil]); first | done | rfl | (simp only [List.length_drop, List.length_take]; rfl)) ?_; (with_reducible refine (impl_CountBruijn.calls k a0 a1 t115 t116 _ A4.out).mono ?_); rintro e w7 ⟨rfl, hb⟩; refine ⟨_, rfl, ?_⟩; have n0_ := Aside0.mk (below_step (by repeat (first | (with_reducible first | exact HB.out | apply below_alloc | apply pw_below_drewN | apply below_drew1) | exact HB.out)) hb); clear HB; have HB := n0_; clear n0_; (try clear hb); (try clear hb2); (try clear hk); (try clear hi)))
      go_ret
      exact ⟨by first | rfl | (simp [errW_none, errW_some] <;> rfl) | (simp [*, errW_none, errW_some] <;> rfl), by repeat (first | (with_reducible first | exact HB.out | apply below_alloc | apply pw_below_drewN | apply below_drew1) | exact HB.out)⟩
    · rw [if_neg c6] at H
      have c6b0 : (t116 != t114) = false := by simpa using c6
      (try (have c6b1 : decide (t116 = t114) = true := by simpa using c6))
      (try (have c6b2 : (t116 == t114) = true := by simpa using c6))
      clear c6
      obtain rfl := Option.some.inj H
      go_enter Try.func6, Try.ntmps6
      go_wp2_with (first | ((with_reducible refine gate_callee (f := 23) rfl ?_); refine goesL_ (some 12) rfl rfl Try.func23 (by kernel_rfl) rfl #[.int .i64 a0, .int .i64 a1] rfl (by (try simp only [List.map_toArray, List.map_cons, List.map_nil]); first | done | rfl | (simp only [List.length_drop, List.length_take]; rfl)) ?_; (with_reducible refine (spec_CountBruijn.calls k a0 a1 t113 t114 _ A3.out).mono ?_); rintro e w' ⟨rfl, ⟨nd, rfl⟩⟩; refine ⟨_, rfl, ?_⟩) | ((with_reducible refine gate_callee (f := 24) rfl ?_); refine goesL_ (some 18) rfl rfl Try.func24 (by kernel_rfl) rfl #[.int .i64 a0, .int .i64 a1] rfl (by (try simp only [List.map_toArray, List.map_cons, List.map_nil]); first | done | rfl | (simp only [List.length_drop, List.length_take]; rfl)) ?_; (with_reducible refine (impl_CountBruijn.calls k a0 a1 t115 t116 _ A4.out).mono ?_); rintro e w8 ⟨rfl, hb⟩; refine ⟨_, rfl, ?_⟩; have n0_ := Aside0.mk (below_step (by repeat (first | (with_reducible first | exact HB.out | apply below_alloc | apply pw_below_drewN | apply below_drew1) | exact HB.out)) hb); clear HB; have HB := n0_; clear n0_; (try clear hb); (try clear hb2); (try clear hk); (try clear hi)))
      go_ret
      exact ⟨by first | rfl | (simp [errW_none, errW_some] <;> rfl) | (simp [*, errW_none, errW_some] <;> rfl), by repeat (first | (with_reducible first | exact HB.out | apply below_alloc | apply pw_below_drewN | apply below_drew1) | exact HB.out)⟩
  · rw [if_neg c5] at H
    have c5b0 : (t115 == t113) = false := beq_eq_false_iff_ne.mpr c5
    have c5b1 : (t115 != t113) = true := bne_iff_ne.mpr c5
    obtain rfl := Option.some.inj H
    go_enter Try.func6, Try.ntmps6
    go_wp2_with (first | ((with_reducible refine gate_callee (f := 23) rfl ?_); refine goesL_ (some 12) rfl rfl Try.func23 (by kernel_rfl) rfl #[.int .i64 a0, .int .i64 a1] rfl (by (try simp only [List.map_toArray, List.map_cons, List.map_nil]); first | done | rfl | (simp only [List.length_drop, List.length_take]; rfl)) ?_; (with_reducible refine (spec_CountBruijn.calls k a0 a1 t113 t114 _ A3.out).mono ?_); rintro e w' ⟨rfl, ⟨nd, rfl⟩⟩; refine ⟨_, rfl, ?_⟩) | ((with_reducible refine gate_callee (f := 24) rfl ?_); refine goesL_ (some 18) rfl rfl Try.func24 (by kernel_rfl) rfl #[.int .i64 a0, .int .i64 a1] rfl (by (try simp only [List.map_toArray, List.map_cons, List.map_nil]); first | done | rfl | (simp only [List.length_drop, List.length_take]; rfl)) ?_; (with_reducible refine (impl_CountBruijn.calls k a0 a1 t115 t116 _ A4.out).mono ?_); rintro e w9 ⟨rfl, hb⟩; refine ⟨_, rfl, ?_⟩; have n0_ := Aside0.mk (below_step (by repeat (first | (with_reducible first | exact HB.out | apply below_alloc | apply pw_below_drewN | apply below_drew1) | exact HB.out)) hb); clear HB; have HB := n0_; clear n0_; (try clear hb); (try clear hb2); (try clear hk); (try clear hi)))
    go_ret
    exact ⟨by first | rfl | (simp [errW_none, errW_some] <;> rfl) | (simp [*, errW_none, errW_some] <;> rfl), by repeat (first | (with_reducible first | exact HB.out | apply below_alloc | apply pw_below_drewN | apply below_drew1) | exact HB.out)⟩

/-- THE ONE PURE STATEMENT of laws_FnExactCountBruijn: yours. -/
def laws_FnExactCountBruijn.Pure : Prop := ∀ (a0 : Int) (a1 : Int), (Lit.int .i64 a0).wf = true → (Lit.int .i64 a1).wf = true → ∃ k, laws_FnExactCountBruijn.f k a0 a1 = some true
theorem laws_FnExactCountBruijn.walk (P : laws_FnExactCountBruijn.Pure) (a0 : Int) (a1 : Int) (w : World) (w0 : (Lit.int .i64 a0).wf = true) (w1 : (Lit.int .i64 a1).wf = true) :
    Calls Try.prog 6 #[.int .i64 a0, .int .i64 a1] w fun e w' => e = .returned (.bool true) ∧ Below w.heap.size w w' := by
  obtain ⟨k, h⟩ := P a0 a1 w0 w1
  refine (laws_FnExactCountBruijn.calls k a0 a1 true w h).mono ?_
  rintro e w' ⟨rfl, hd⟩
  exact ⟨rfl, hd⟩

end Go.Proofs.Ytdhmdlecagjohaa.PFnExactCountBruijn
