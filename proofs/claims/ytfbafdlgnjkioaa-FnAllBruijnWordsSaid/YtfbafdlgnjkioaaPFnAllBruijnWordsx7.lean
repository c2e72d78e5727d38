-- Written for this claim by a copy of the print that meets some functions by contracts of this session.
import Derived.Test.YtfbafdlgnjkioaaPFnAllBruijnWordsx0
import Derived.Test.YtfbafdlgnjkioaaPFnAllBruijnWordsx3
import Derived.Test.YtfbafdlgnjkioaaPFnAllBruijnWordsx4
import Derived.Test.YtfbafdlgnjkioaaPFnAllBruijnWordsx6
namespace Go.Proofs.Ytfbafdlgnjkioaa.PFnAllBruijnWords
open Go.RowKit Go.Proofs.YtfbafdlgnjkioaaW.PrintWords Go.Proofs.YtfbafdlgnjkioaaW.PrintLast Go.Proofs.YtfbafdlgnjkioaaW.PrintMore
attribute [local go_sem] max2_int min2_int max_two min_two max_three min_three max_four min_four   -- for this text's walks alone
set_option linter.unusedVariables false
set_option linter.unusedSimpArgs false

/-! ### impl_lyndonWords: function 81 (a contract of this session's own) -/
def impl_lyndonWords.l0 (p : List Int → Option Bool) : Nat → Int → Int → Int → List (List Int) → List Int → Option (List (List Int) × Bool)
  | 0, _, _, _, _, _ => none
  | q + 1, n, k, most, out, w => if (w.length : Int) > 0 then ((p w).bind fun b => (if b = true then ((impl_copied.f w).bind fun c => (if out.length < 5864062014805 then (if ((out ++ [c]).length : Int) > most then some ([], false) else ((impl_nextLyndon.f q w n k).bind fun t => impl_lyndonWords.l0 p q n k most (out ++ [c]) t)) else none)) else ((impl_nextLyndon.f q w n k).bind fun t => impl_lyndonWords.l0 p q n k most out t))) else some (out, true)
def impl_lyndonWords.f (p : List Int → Option Bool) (k : Nat) (a0 : Int) (a1 : Int) (a2 : Int) : Option (List (List Int) × Bool) := impl_lyndonWords.l0 p k a0 a1 a2 [] [0]
theorem impl_lyndonWords.mono_l (p : List Int → Option Bool) : ∀ k, (∀ y0 y1 y2 y3 y4, LeO (impl_lyndonWords.l0 p k y0 y1 y2 y3 y4) (impl_lyndonWords.l0 p (k + 1) y0 y1 y2 y3 y4))
  | 0 => fun _ _ _ _ _ r h => by simp [impl_lyndonWords.l0] at h
  | k + 1 => by
    have ih := impl_lyndonWords.mono_l p k
    intro y0 y1 y2 y3 y4
    unfold impl_lyndonWords.l0
    exact LeO.ite (LeO.bind (LeO.refl _) (fun _ => LeO.ite (LeO.bind (LeO.refl _) (fun _ => LeO.ite (LeO.ite (LeO.refl _) (LeO.bind (impl_nextLyndon.mono _ _ _ _) (fun _ => ih _ _ _ _ _))) (LeO.refl _))) (LeO.bind (impl_nextLyndon.mono _ _ _ _) (fun _ => ih _ _ _ _ _)))) (LeO.refl _)
theorem impl_lyndonWords.mono (p : List Int → Option Bool) : ∀ a0 a1 a2 k, LeO (impl_lyndonWords.f p k a0 a1 a2) (impl_lyndonWords.f p (k + 1) a0 a1 a2) := fun a0 a1 a2 k => impl_lyndonWords.mono_l p k _ _ _ _ _
section
variable {P : Program} {ops : Array Oper} {Q : Exit → Act → World → Prop}
theorem impl_lyndonWords.gate_tmp {rest : List Oper} {o : Oper} {a : Act} {W : World} {t : Tmp} {xs : Array Operand} {ts : Array TypeId} (_ho : o.op = .call { callee := .value (.tmp t), args := xs, argTypes := ts }) (h : wpList P ops Q (o :: rest) a W) : wpList P ops Q (o :: rest) a W := h
theorem impl_lyndonWords.goesV {rest : List Oper} {oi : Oper} {a : Act} {w : World} (N : Option Tmp) (hd : oi.dst = N) (hg : oi.guard = none) {t : Tmp} {f : FuncId} {fn : Func} {cap : Array Value} {xs : Array Operand} {ts : Array TypeId} (hf : P.funcs[f]? = some fn) (hname : (fn.name == "runtime.NumGoroutine") = false) (hb : fn.body.isSome = true) (args : Array Value)
    (hop : oi.op = .call { callee := .value (.tmp t), args := xs, argTypes := ts }) (hv : a.eval (.tmp t) = .func (.func f) #[] cap) (hargs : xs.map a.eval ++ cap = args)
    (h : Calls P f args w fun e w' => ∃ v, e = .returned v ∧ wpList P ops Q rest (a.put N v) w') : wpList P ops Q (oi :: rest) a w := by
  refine wpList_plain hg fun K hK => ?_
  have he := enters_ hf hname hb args w
  have hrun : (execOp a.eval oi).run P w = .ok (.enter f args) w := by
    unfold execOp
    simp [hop, resolve, Deferred.ofValue, invoke, hv, hargs, he]
  unfold Oper.wp
  rw [hrun, Oper.upon_enter]
  refine h.mono fun e w'' hh => ?_
  obtain ⟨v, rfl, hk⟩ := hh
  subst hd
  exact hK _ _ hk
end
theorem impl_lyndonWords.infoS : (Try.prog.info? 44).map (fun i => (i.zero, i.size, i.bytes)) = some (some (.slice none 0 0), 1, 24) := by kernel_rfl
set_option maxHeartbeats 16000000 in
set_option maxRecDepth 100000 in
theorem impl_lyndonWords.calls (p : List Int → Option Bool) (F : FuncId) (fn : Func) (cap : Array Value) (hF : Try.prog.funcs[F]? = some fn) (hname : (fn.name == "runtime.NumGoroutine") = false) (hbody : fn.body.isSome = true) (k : Nat) (a0 a1 a2 : Int) (r1 : List (List Int)) (r2 : Bool) (w : World)
    (hp : ∀ (W : World) (A : Option Addr) (c : Nat) (l : List Int) (b : Bool), Below w.heap.size w W → Kd.C (Kd.int .i64) W A l.length l → l.length ≤ c → p l = some b → Calls Try.prog F (#[.slice A l.length c] ++ cap) W fun e W' => e = .returned (.bool b) ∧ Drawn0 W W')
    (h : impl_lyndonWords.f p k a0 a1 a2 = some (r1, r2)) :
    Calls Try.prog 81 #[.int .i64 a0, .int .i64 a1, .int .i64 a2, .func (.func F) #[] cap] w fun e w' => ∃ v0_ : Value, e = .returned (.tuple #[v0_, .bool r2]) ∧ Kd.S (Kd.slice 3 (Kd.int .i64)) 44 w' w.heap.size (fun _ => True) v0_ r1 ∧ Below w.heap.size w w' := by
  have HB := Aside0.mk (Below.refl w.heap.size w)
  obtain ⟨y0, hy0⟩ : ∃ y : List Int, y = [0] := ⟨_, rfl⟩
  have H' : Aside0 (impl_lyndonWords.l0 p k a0 a1 a2 [] y0 = some (r1, r2)) := ⟨by rw [hy0]; exact h⟩
  have NY := Aside0.mk hy0
  clear h hy0
  go_enter Try.func81, Try.ntmps81
  go_wp2_with (first
    | ((with_reducible refine gate_dst (N := 12) rfl ?_); refine Kd.S_lits (Kd.slice 3 (Kd.int .i64)) (w0 := w) w.heap.size 44 ?hg (N := 12) ?hd (xs := ([] : List (List Int))) (inner := []) (ok := fun _ => True) (fun _ _ => False) ?hr rfl (fun j x hx => by simp at hx) (fun _ _ _ h => h.elim) (fun _ _ h => h.elim) trivial (by repeat (first | (with_reducible first | exact HB.out | apply below_alloc | apply pw_below_drewN | apply below_drew1) | exact HB.out)) (below_size (by repeat (first | (with_reducible first | exact HB.out | apply below_alloc | apply pw_below_drewN | apply below_drew1) | exact HB.out))) (by simp) ?_; (case hd => rfl); (case hg => rfl); (case hr => first | (go_simp; done) | (go_simp; rfl)); intro v12 w1 ho hb hg_ hnew_; have n0_ := Aside0.mk ho; have n1_ := Aside0.mk hb; clear HB ho hb hg_ hnew_; have HO := n0_; have HB := n1_; clear n0_ n1_)
    | ((with_reducible refine gate_dst (N := 13) rfl ?_); refine Kd.R_lit (Kd.int .i64) _ 3 ?hg (N := 13) ?hd (xs := ([0] : List Int)) (inner := [.int .i64 0]) (ok := fun _ => True) (okp := fun _ => True) ?hr ?hp (fun _ hk => hk) trivial (Below.refl _ _) (Nat.le_refl _) (by simp) ?_; (case hd => rfl); (case hg => rfl); (case hr => first | (go_simp; done) | (go_simp; rfl)); (case hp => exact (Reps.one (show Kd.M (Kd.int .i64) _ _ _ 0 [.int .i64 0] from rfl) (Reps.none _ _))); intro v13 w3 ho hb hg_ hnew_; clear hg_ hnew_; rw [← NY.out] at ho; have n0_ := Aside0.mk (Kd.S_elder' (by (with_reducible repeat (first | apply Kd.S_alloc | apply Kd.S_drewN | apply Kd.S_drew)); exact HO.out) (Kd.R_base ho) hb); have n1_ := Aside0.mk (Kd.R_lower ho (below_size (by repeat (first | (with_reducible first | exact HB.out | apply below_alloc | apply pw_below_drewN | apply below_drew1) | exact HB.out)))); have n2_ := Aside0.mk (below_step (by repeat (first | (with_reducible first | exact HB.out | apply below_alloc | apply pw_below_drewN | apply below_drew1) | exact HB.out)) hb); clear HO HB ho hb; have HO := n0_; have HW := n1_; have HB := n2_; clear n0_ n1_ n2_))
  go_loopg [10, 11] k (fun kq v10 v11 w' => ∃ (out : List (List Int)) (x : List Int), Aside0 (impl_lyndonWords.l0 p kq a0 a1 a2 out x = some (r1, r2)) ∧ Aside0 (kq ≤ k) ∧ Aside0 (Kd.S (Kd.slice 3 (Kd.int .i64)) 44 w' w.heap.size (fun k_ => some k_ ≠ (v11 : Value).ownBlock) v10 out) ∧ Aside0 (Kd.R (Kd.int .i64) 3 w' w.heap.size (fun _ => True) v11 x) ∧ Aside0 (Below w.heap.size w w'))
  case atStart => exact ⟨[], y0, H', ⟨Nat.le_refl _⟩, ⟨Kd.S_mono HO.out (fun _ hk => hk.2)⟩, HW, HB⟩
  case round =>
    clear H' HO HW HB
    obtain ⟨out, x, HA, HK1, HO, HW, HB⟩ := hrel
    cases gk with
    | zero => exact absurd HA.out (by simp [impl_lyndonWords.l0])
    | succ k1 =>
      have H := HA.out
      clear HA
      simp only [impl_lyndonWords.l0] at H
      obtain ⟨Ao, co, eo⟩ := Kd.R_slice HW.out
      subst eo
      by_cases c5 : (x.length : Int) > 0
      · rw [if_pos c5] at H
        have c5b0 : decide (0 < (x.length : Int)) = true := decide_eq_true c5
        have c5b1 : decide (0 < x.length) = true := decide_eq_true (by omega)
        clear c5
        obtain ⟨b, hb1, H⟩ := Option.bind_eq_some_iff.mp H
        have A1 := Aside0.mk hb1
        clear hb1
        by_cases c6 : b = true
        · subst c6
          replace H := (if_pos rfl).symm.trans H
          obtain ⟨c, hc, H⟩ := Option.bind_eq_some_iff.mp H
          have A3 := Aside0.mk hc
          clear hc
          by_cases c7 : out.length < 5864062014805
          · rw [if_pos c7] at H
            have LM := Aside0.mk c7
            clear c7
            obtain ⟨y2, hy2⟩ : ∃ y : List (List Int), y = out ++ [c] := ⟨_, rfl⟩
            rw [← hy2] at H
            have NY2 := Aside0.mk hy2
            clear hy2
            by_cases c8 : (y2.length : Int) > a2
            · rw [if_pos c8] at H
              have c8b0 : decide (a2 < (y2.length : Int)) = true := decide_eq_true c8
              clear c8
              simp only [Option.some.injEq, Prod.mk.injEq] at H
              obtain ⟨rfl, rfl⟩ := H
              go_wp2_with (first
                | ((with_reducible refine impl_lyndonWords.gate_tmp (t := 21) rfl ?_); refine impl_lyndonWords.goesV (some 23) rfl rfl hF hname hbody (#[.slice Ao x.length co] ++ cap) rfl rfl (by (try simp only [List.map_toArray, List.map_cons, List.map_nil]); first | done | rfl) ?_; refine (hp _ Ao co x true (by repeat (first | (with_reducible first | exact HB.out | apply below_alloc | apply pw_below_drewN | apply below_drew1) | exact HB.out)) (by repeat (first | exact (Kd.R_reads' HW.out).2.2 | (with_reducible refine Kd.C_alloc ?_ _) | (with_reducible refine Kd.C_drewN ?_ _) | (with_reducible refine Kd.C_drew ?_))) (Kd.R_reads' HW.out).2.1 A1.out).mono ?_; rintro e w1 ⟨rfl, ⟨nd, rfl⟩⟩; refine ⟨_, rfl, ?_⟩)
                | ((with_reducible refine gate_callee (f := 90) rfl ?_); refine goesL_ (some 27) rfl rfl Try.func90 (by kernel_rfl) rfl #[.slice Ao x.length co] rfl (by (try simp only [List.map_toArray, List.map_cons, List.map_nil]); first | done | rfl) ?_; (with_reducible refine (impl_copied.calls _ _ x c _ ?side1 ?side2 A3.out).mono ?_); (case side1 => repeat (first | exact (Kd.R_reads' HW.out).2.2 | (with_reducible refine Kd.C_alloc ?_ _) | (with_reducible refine Kd.C_drewN ?_ _) | (with_reducible refine Kd.C_drew ?_))); (case side2 => exact (Kd.R_reads' HW.out).2.1); rintro e w27 ⟨v27, rfl, ho0, hb⟩; refine ⟨_, rfl, ?_⟩; obtain ⟨Ac, cc, ec⟩ := Kd.R_slice ho0; subst ec; have n0_ := Aside0.mk (Kd.S_elder' (by (with_reducible repeat (first | apply Kd.S_alloc | apply Kd.S_drewN | apply Kd.S_drew)); exact HO.out) (Kd.R_base ho0) hb); have n1_ := Aside0.mk (Kd.R_elder' (by (with_reducible repeat (first | apply Kd.R_alloc | apply Kd.R_drewN | apply Kd.R_drew)); exact HW.out) (Kd.R_base ho0) hb); have n2_ := Aside0.mk (Kd.R_lower (Kd.R_mono (ok' := fun k_ => some k_ ≠ (.slice Ao x.length co : Value).ownBlock) (Kd.R_new' ho0 (Kd.R_lt (by (with_reducible repeat (first | apply Kd.R_alloc | apply Kd.R_drewN | apply Kd.R_drew)); exact HW.out))) (fun _ hk => hk.2)) (below_size (by repeat (first | (with_reducible first | exact HB.out | apply below_alloc | apply pw_below_drewN | apply below_drew1) | exact HB.out)))); have n3_ := Aside0.mk (below_step (by repeat (first | (with_reducible first | exact HB.out | apply below_alloc | apply pw_below_drewN | apply below_drew1) | exact HB.out)) hb); clear HO HW HB ho0 hb; have HO := n0_; have HW := n1_; have HC := n2_; have HB := n3_; clear n0_ n1_ n2_ n3_)
                | ((with_reducible refine gate_builtin (b := .append) (xs := #[.tmp 25, .tmp 28]) rfl ?_); at_builtin; refine Kd.S_append (Kd.slice 3 (Kd.int .i64)) (w0 := w) w.heap.size rfl (.tmp 25) (.tmp 28) 22 44 (.slice none 0 0) 24 rfl Try.underlying22 impl_lyndonWords.infoS rfl (by decide) (by omega) u10 out c [.slice Ac c.length cc] (fun k_ => some k_ ≠ (.slice Ao x.length co : Value).ownBlock) (fun k_ => some k_ = (.slice Ac c.length cc : Value).ownBlock) rfl rfl ?aP (fun k_ hk_ => ((Kd.R_mono (ok' := fun k_ => ((fun k_ => some k_ ≠ (.slice Ao x.length co : Value).ownBlock)) k_ ∧ some k_ ≠ (u10 : Value).ownBlock) (Kd.R_apart' (HC.out) (Kd.S_typed HO.out) (by decide)) (fun k_ hk => ⟨hk.1, hk.2⟩))).1 k_ hk_.symm) ?aF ?aO ?aB ?aS ?aL ?_; (case aP => exact Kd.M_row (Kd.R_mono (Kd.R_tight rfl (Kd.R_mono (ok' := fun k_ => ((fun k_ => some k_ ≠ (.slice Ao x.length co : Value).ownBlock)) k_ ∧ some k_ ≠ (u10 : Value).ownBlock) (Kd.R_apart' (HC.out) (Kd.S_typed HO.out) (by decide)) (fun k_ hk => ⟨hk.1, hk.2⟩))) (fun _ h_ => h_))); (case aB => exact (by repeat (first | (with_reducible first | exact HB.out | apply below_alloc | apply pw_below_drewN | apply below_drew1) | exact HB.out))); (case aF => exact (fun k_ hk => Kd.fresh' (Kd.R_lt (by (with_reducible repeat (first | apply Kd.R_alloc | apply Kd.R_drewN | apply Kd.R_drew)); exact HW.out)) k_ hk)); (case aO => exact (by (with_reducible repeat (first | apply Kd.S_alloc | apply Kd.S_drewN | apply Kd.S_drew)); exact Kd.S_mono HO.out (fun k_ hk => ⟨hk.1, fun e_ => hk.2 e_⟩))); (case aS => exact (below_size (by repeat (first | (with_reducible first | exact HB.out | apply below_alloc | apply pw_below_drewN | apply below_drew1) | exact HB.out)))); (case aL => have := LM.out; omega); intro v29 w29 ho hb hg hat; rw [← NY2.out] at ho; obtain ⟨Aq, cq, eq_⟩ := Kd.S_slice ho; subst eq_; have n0_ := Aside0.mk (Kd.R_over' (by (with_reducible repeat (first | apply Kd.R_alloc | apply Kd.R_drewN | apply Kd.R_drew)); exact HW.out) (Kd.S_typed (by (with_reducible repeat (first | apply Kd.S_alloc | apply Kd.S_drewN | apply Kd.S_drew)); exact HO.out)) (by decide) hg); have n1_ := Aside0.mk hb; have n2_ := Aside0.mk ho; clear HW HB HO HC ho hb hg hat; have HW := n0_; have HB := n1_; have HO := n2_; clear n0_ n1_ n2_))
              go_ret2
              exact ⟨_, rfl, Kd.S_nil _ _ _ _ _, HB.out⟩
            · rw [if_neg c8] at H
              have c8b0 : decide (a2 < (y2.length : Int)) = false := decide_eq_false c8
              clear c8
              obtain ⟨t, ht, H⟩ := Option.bind_eq_some_iff.mp H
              have A2 := Aside0.mk ht
              have H' := Aside0.mk H
              clear H ht
              go_wp2_with (first
                | ((with_reducible refine impl_lyndonWords.gate_tmp (t := 21) rfl ?_); refine impl_lyndonWords.goesV (some 23) rfl rfl hF hname hbody (#[.slice Ao x.length co] ++ cap) rfl rfl (by (try simp only [List.map_toArray, List.map_cons, List.map_nil]); first | done | rfl) ?_; refine (hp _ Ao co x true (by repeat (first | (with_reducible first | exact HB.out | apply below_alloc | apply pw_below_drewN | apply below_drew1) | exact HB.out)) (by repeat (first | exact (Kd.R_reads' HW.out).2.2 | (with_reducible refine Kd.C_alloc ?_ _) | (with_reducible refine Kd.C_drewN ?_ _) | (with_reducible refine Kd.C_drew ?_))) (Kd.R_reads' HW.out).2.1 A1.out).mono ?_; rintro e w1 ⟨rfl, ⟨nd, rfl⟩⟩; refine ⟨_, rfl, ?_⟩)
                | ((with_reducible refine gate_callee (f := 90) rfl ?_); refine goesL_ (some 27) rfl rfl Try.func90 (by kernel_rfl) rfl #[.slice Ao x.length co] rfl (by (try simp only [List.map_toArray, List.map_cons, List.map_nil]); first | done | rfl) ?_; (with_reducible refine (impl_copied.calls _ _ x c _ ?side1 ?side2 A3.out).mono ?_); (case side1 => repeat (first | exact (Kd.R_reads' HW.out).2.2 | (with_reducible refine Kd.C_alloc ?_ _) | (with_reducible refine Kd.C_drewN ?_ _) | (with_reducible refine Kd.C_drew ?_))); (case side2 => exact (Kd.R_reads' HW.out).2.1); rintro e w27 ⟨v27, rfl, ho0, hb⟩; refine ⟨_, rfl, ?_⟩; obtain ⟨Ac, cc, ec⟩ := Kd.R_slice ho0; subst ec; have n0_ := Aside0.mk (Kd.S_elder' (by (with_reducible repeat (first | apply Kd.S_alloc | apply Kd.S_drewN | apply Kd.S_drew)); exact HO.out) (Kd.R_base ho0) hb); have n1_ := Aside0.mk (Kd.R_elder' (by (with_reducible repeat (first | apply Kd.R_alloc | apply Kd.R_drewN | apply Kd.R_drew)); exact HW.out) (Kd.R_base ho0) hb); have n2_ := Aside0.mk (Kd.R_lower (Kd.R_mono (ok' := fun k_ => some k_ ≠ (.slice Ao x.length co : Value).ownBlock) (Kd.R_new' ho0 (Kd.R_lt (by (with_reducible repeat (first | apply Kd.R_alloc | apply Kd.R_drewN | apply Kd.R_drew)); exact HW.out))) (fun _ hk => hk.2)) (below_size (by repeat (first | (with_reducible first | exact HB.out | apply below_alloc | apply pw_below_drewN | apply below_drew1) | exact HB.out)))); have n3_ := Aside0.mk (below_step (by repeat (first | (with_reducible first | exact HB.out | apply below_alloc | apply pw_below_drewN | apply below_drew1) | exact HB.out)) hb); clear HO HW HB ho0 hb; have HO := n0_; have HW := n1_; have HC := n2_; have HB := n3_; clear n0_ n1_ n2_ n3_)
                | ((with_reducible refine gate_builtin (b := .append) (xs := #[.tmp 25, .tmp 28]) rfl ?_); at_builtin; refine Kd.S_append (Kd.slice 3 (Kd.int .i64)) (w0 := w) w.heap.size rfl (.tmp 25) (.tmp 28) 22 44 (.slice none 0 0) 24 rfl Try.underlying22 impl_lyndonWords.infoS rfl (by decide) (by omega) u10 out c [.slice Ac c.length cc] (fun k_ => some k_ ≠ (.slice Ao x.length co : Value).ownBlock) (fun k_ => some k_ = (.slice Ac c.length cc : Value).ownBlock) rfl rfl ?aP (fun k_ hk_ => ((Kd.R_mono (ok' := fun k_ => ((fun k_ => some k_ ≠ (.slice Ao x.length co : Value).ownBlock)) k_ ∧ some k_ ≠ (u10 : Value).ownBlock) (Kd.R_apart' (HC.out) (Kd.S_typed HO.out) (by decide)) (fun k_ hk => ⟨hk.1, hk.2⟩))).1 k_ hk_.symm) ?aF ?aO ?aB ?aS ?aL ?_; (case aP => exact Kd.M_row (Kd.R_mono (Kd.R_tight rfl (Kd.R_mono (ok' := fun k_ => ((fun k_ => some k_ ≠ (.slice Ao x.length co : Value).ownBlock)) k_ ∧ some k_ ≠ (u10 : Value).ownBlock) (Kd.R_apart' (HC.out) (Kd.S_typed HO.out) (by decide)) (fun k_ hk => ⟨hk.1, hk.2⟩))) (fun _ h_ => h_))); (case aB => exact (by repeat (first | (with_reducible first | exact HB.out | apply below_alloc | apply pw_below_drewN | apply below_drew1) | exact HB.out))); (case aF => exact (fun k_ hk => Kd.fresh' (Kd.R_lt (by (with_reducible repeat (first | apply Kd.R_alloc | apply Kd.R_drewN | apply Kd.R_drew)); exact HW.out)) k_ hk)); (case aO => exact (by (with_reducible repeat (first | apply Kd.S_alloc | apply Kd.S_drewN | apply Kd.S_drew)); exact Kd.S_mono HO.out (fun k_ hk => ⟨hk.1, fun e_ => hk.2 e_⟩))); (case aS => exact (below_size (by repeat (first | (with_reducible first | exact HB.out | apply below_alloc | apply pw_below_drewN | apply below_drew1) | exact HB.out)))); (case aL => have := LM.out; omega); intro v29 w29 ho hb hg hat; rw [← NY2.out] at ho; obtain ⟨Aq, cq, eq_⟩ := Kd.S_slice ho; subst eq_; have n0_ := Aside0.mk (Kd.R_over' (by (with_reducible repeat (first | apply Kd.R_alloc | apply Kd.R_drewN | apply Kd.R_drew)); exact HW.out) (Kd.S_typed (by (with_reducible repeat (first | apply Kd.S_alloc | apply Kd.S_drewN | apply Kd.S_drew)); exact HO.out)) (by decide) hg); have n1_ := Aside0.mk hb; have n2_ := Aside0.mk ho; clear HW HB HO HC ho hb hg hat; have HW := n0_; have HB := n1_; have HO := n2_; clear n0_ n1_ n2_)
                | ((with_reducible refine gate_callee (f := 116) rfl ?_); refine goesL_ (some 20) rfl rfl Try.func116 (by kernel_rfl) rfl #[.slice Ao x.length co, .int .i64 a0, .int .i64 a1] rfl (by (try simp only [List.map_toArray, List.map_cons, List.map_nil]); first | done | rfl) ?_; (with_reducible refine (impl_nextLyndon.calls k1 _ _ x a0 a1 t _ ?side1 ?side2 A2.out).mono ?_); (case side1 => repeat (first | exact (Kd.R_reads' HW.out).2.2 | (with_reducible refine Kd.C_alloc ?_ _) | (with_reducible refine Kd.C_drewN ?_ _) | (with_reducible refine Kd.C_drew ?_))); (case side2 => exact (Kd.R_reads' HW.out).2.1); rintro e w20 ⟨v20, rfl, ho0, hb⟩; refine ⟨_, rfl, ?_⟩; have n0_ := Aside0.mk (Kd.S_elder' (by (with_reducible repeat (first | apply Kd.S_alloc | apply Kd.S_drewN | apply Kd.S_drew)); exact HO.out) (Kd.R_base ho0) hb); have n2_ := Aside0.mk (Kd.R_lower ho0 (below_size (by repeat (first | (with_reducible first | exact HB.out | apply below_alloc | apply pw_below_drewN | apply below_drew1) | exact HB.out)))); have n3_ := Aside0.mk (below_step (by repeat (first | (with_reducible first | exact HB.out | apply below_alloc | apply pw_below_drewN | apply below_drew1) | exact HB.out)) hb); clear HO HW HB ho0 hb; have HO := n0_; have HW := n2_; have HB := n3_; clear n0_ n2_ n3_))
              go_roundg k1
              case measure => have := HK1.out; omega
              case rel => exact ⟨y2, t, H', ⟨by have := HK1.out; omega⟩, ⟨Kd.S_mono HO.out (fun _ hk => hk.2)⟩, HW, HB⟩
          · rw [if_neg c7] at H; exact absurd H (by simp)
        · rw [if_neg c6] at H
          obtain rfl := Bool.eq_false_iff.mpr c6
          clear c6
          obtain ⟨t, ht, H⟩ := Option.bind_eq_some_iff.mp H
          have A2 := Aside0.mk ht
          have H' := Aside0.mk H
          clear H ht
          go_wp2_with (first
            | ((with_reducible refine impl_lyndonWords.gate_tmp (t := 21) rfl ?_); refine impl_lyndonWords.goesV (some 23) rfl rfl hF hname hbody (#[.slice Ao x.length co] ++ cap) rfl rfl (by (try simp only [List.map_toArray, List.map_cons, List.map_nil]); first | done | rfl) ?_; refine (hp _ Ao co x false (by repeat (first | (with_reducible first | exact HB.out | apply below_alloc | apply pw_below_drewN | apply below_drew1) | exact HB.out)) (by repeat (first | exact (Kd.R_reads' HW.out).2.2 | (with_reducible refine Kd.C_alloc ?_ _) | (with_reducible refine Kd.C_drewN ?_ _) | (with_reducible refine Kd.C_drew ?_))) (Kd.R_reads' HW.out).2.1 A1.out).mono ?_; rintro e w1 ⟨rfl, ⟨nd, rfl⟩⟩; refine ⟨_, rfl, ?_⟩)
            | ((with_reducible refine gate_callee (f := 116) rfl ?_); refine goesL_ (some 20) rfl rfl Try.func116 (by kernel_rfl) rfl #[.slice Ao x.length co, .int .i64 a0, .int .i64 a1] rfl (by (try simp only [List.map_toArray, List.map_cons, List.map_nil]); first | done | rfl) ?_; (with_reducible refine (impl_nextLyndon.calls k1 _ _ x a0 a1 t _ ?side1 ?side2 A2.out).mono ?_); (case side1 => repeat (first | exact (Kd.R_reads' HW.out).2.2 | (with_reducible refine Kd.C_alloc ?_ _) | (with_reducible refine Kd.C_drewN ?_ _) | (with_reducible refine Kd.C_drew ?_))); (case side2 => exact (Kd.R_reads' HW.out).2.1); rintro e w20 ⟨v20, rfl, ho0, hb⟩; refine ⟨_, rfl, ?_⟩; have n0_ := Aside0.mk (Kd.S_elder' (by (with_reducible repeat (first | apply Kd.S_alloc | apply Kd.S_drewN | apply Kd.S_drew)); exact HO.out) (Kd.R_base ho0) hb); have n2_ := Aside0.mk (Kd.R_lower ho0 (below_size (by repeat (first | (with_reducible first | exact HB.out | apply below_alloc | apply pw_below_drewN | apply below_drew1) | exact HB.out)))); have n3_ := Aside0.mk (below_step (by repeat (first | (with_reducible first | exact HB.out | apply below_alloc | apply pw_below_drewN | apply below_drew1) | exact HB.out)) hb); clear HO HW HB ho0 hb; have HO := n0_; have HW := n2_; have HB := n3_; clear n0_ n2_ n3_))
          go_roundg k1
          case measure => have := HK1.out; omega
          case rel => exact ⟨out, t, H', ⟨by have := HK1.out; omega⟩, ⟨Kd.S_mono HO.out (fun _ hk => hk.2)⟩, HW, HB⟩
      · rw [if_neg c5] at H
        have c5b0 : decide (0 < (x.length : Int)) = false := decide_eq_false c5
        have c5b1 : decide (0 < x.length) = false := decide_eq_false (by omega)
        clear c5
        simp only [Option.some.injEq, Prod.mk.injEq] at H
        obtain ⟨rfl, rfl⟩ := H
        go_wp2
        go_ret2
        exact ⟨_, rfl, Kd.S_mono HO.out (fun _ _ => trivial), HB.out⟩

/-! ### slices_Concat_int_int: function 132 (a contract of this session's own) -/
def slices_Concat_int_int.f (l0 : List (List Int)) : Option (List Int) := if l0.flatten.length < 17592186044416 ∧ l0.length < 17592186044416 then (some l0.flatten) else (none)
set_option maxHeartbeats 8000000 in
set_option maxRecDepth 100000 in
theorem slices_Concat_int_int.grow0 (w : World) :
    Calls Try.prog 155 #[.slice none 0 0, .int .i64 0] w fun e w' => ∃ v0_ : Value, e = .returned (v0_) ∧ Kd.R (Kd.int .i64) 3 w' w.heap.size (fun _ => True) v0_ [] ∧ Below w.heap.size w w' := by
  go_enter Try.func155, Try.ntmps155
  go_wp2
  go_ret
  exact ⟨_, rfl, Kd.R_nil _ _ _ _ _, Below.refl _ _⟩
set_option maxHeartbeats 8000000 in
set_option maxRecDepth 100000 in
theorem slices_Concat_int_int.grow (n : Nat) (w : World) (h0 : 0 < n) (hn : n < 17592186044416) :
    Calls Try.prog 155 #[.slice none 0 0, .int .i64 n] w fun e w' => ∃ v0_ : Value, e = .returned (v0_) ∧ Kd.R (Kd.int .i64) 3 w' w.heap.size (fun _ => True) v0_ [] ∧ Below w.heap.size w w' := by
  have hw : wrap64 (n : Int) = n := by unfold wrap64; omega
  have c1 : decide ((n : Int) < 0) = false := decide_eq_false (by omega)
  have c2 : decide (0 < (n : Int)) = true := decide_eq_true (by omega)
  have c3 : decide (0 < n) = true := decide_eq_true h0
  have HB := Aside0.mk (Below.refl w.heap.size w)
  have HN := Aside0.mk hn
  have HO := Aside0.mk h0
  clear hn h0
  go_enter Try.func155, Try.ntmps155
  go_wp2_with (first
    | ((with_reducible refine gate_builtin (b := .append) (xs := #[.tmp 20, .tmp 21]) rfl ?_); at_builtin; refine Kd.R_append_zeros (Kd.int .i64) (w0 := w) w.heap.size rfl (.tmp 20) (.tmp 21) 44 3 3 (.int .i64 0) 8 rfl Try.underlying44 Try.underlying3 info3 rfl (by decide) (by omega) (.slice none 0 0) [] 0 (wrap64 (n : Int)) (fun _ => True) rfl rfl rfl (fun _ _ => trivial) (Kd.R_nil _ _ _ _ _) (by rw [hw]; omega) (by repeat (first | (with_reducible first | exact HB.out | apply below_alloc | apply pw_below_drewN | apply below_drew1) | exact HB.out)) (below_size (by repeat (first | (with_reducible first | exact HB.out | apply below_alloc | apply pw_below_drewN | apply below_drew1) | exact HB.out))) (by have := HN.out; rw [hw]; simp; omega) ?_; intro v1 w1 ho hb hg hat; obtain ⟨Ao, co, eo⟩ := Kd.R_slice ho; subst eo; obtain ⟨i0, hi0, _, hsz, _⟩ := info_parts info3; have hroom := (Kd.R_reads' ho).2.1; have hcut := cut_to (P := Try.prog) 44 3 .i64 Try.underlying44 hi0 Ao _ co 0 (by omega) (by omega) hroom; have HO1 := Aside0.mk (Kd.R_take (m := 0) ho (Nat.zero_le _)); have HB1 := Aside0.mk hb; clear HB ho hb hg hat hi0 hsz hroom))
  go_ret
  exact ⟨_, by first | rfl | (simp; done), HO1.out, HB1.out⟩
theorem slices_Concat_int_int.grow_any (n : Int) (w : World) (h0 : 0 ≤ n) (hn : n < 17592186044416) :
    Calls Try.prog 155 #[.slice none 0 0, .int .i64 n] w fun e w' => ∃ v0_ : Value, e = .returned (v0_) ∧ Kd.R (Kd.int .i64) 3 w' w.heap.size (fun _ => True) v0_ [] ∧ Below w.heap.size w w' := by
  obtain ⟨m, rfl⟩ := Int.eq_ofNat_of_zero_le h0
  by_cases h : m = 0
  · subst h
    exact slices_Concat_int_int.grow0 w
  · exact slices_Concat_int_int.grow m w (by omega) (by omega)
def slices_Concat_int_int.rd2 (xs : List (List Int)) (i : Int) : List Int := xs.getD i.toNat []
theorem slices_Concat_int_int.at2 {w : World} {A : Option Addr} {n : Nat} {xs : List (List Int)} (h : Kd.C (Kd.slice 3 (Kd.int .i64)) w A n xs) (i : Int) (h0 : 0 ≤ i) (h1 : i < n) : ∃ ad A0 c0, A = some ad ∧ w.cell? (ad.add i.toNat) = some (.slice A0 (slices_Concat_int_int.rd2 xs i).length c0) ∧ (slices_Concat_int_int.rd2 xs i).length ≤ c0 ∧ (Kd.int .i64).C w A0 (slices_Concat_int_int.rd2 xs i).length (slices_Concat_int_int.rd2 xs i) := by
  obtain ⟨ad, c, e, _, hK, hc0⟩ := Kd.C_get h ([] : List Int) i h0 h1
  have hc : ∀ j u, c[j]? = some u → w.cell? (ad.add (i.toNat * 1 + j)) = some u := hc0
  obtain ⟨A0, c0, rfl, l0, g0⟩ := hK
  exact ⟨ad, A0, c0, e, by have hq := hc 0 _ rfl; rwa [Nat.mul_one, Nat.add_zero] at hq, l0, g0⟩
theorem slices_Concat_int_int.take_flat (l : List (List Int)) (i : Nat) (h : i < l.length) : (l.take (i + 1)).flatten = (l.take i).flatten ++ slices_Concat_int_int.rd2 l (i : Int) := by
  rw [List.take_succ_eq_append_getElem h, List.flatten_append]
  simp [slices_Concat_int_int.rd2, List.getD_eq_getElem?_getD, List.getElem?_eq_getElem h]
theorem slices_Concat_int_int.take_le (l : List (List Int)) (i : Nat) : (l.take i).flatten.length ≤ l.flatten.length := by
  conv => rhs; rw [← List.take_append_drop i l, List.flatten_append, List.length_append]
  omega
set_option maxHeartbeats 8000000 in
set_option maxRecDepth 100000 in
theorem slices_Concat_int_int.calls (A0 : Option Addr) (c0 : Nat) (l0 : List (List Int)) (r : List Int) (w : World) (hr0 : Kd.C (Kd.slice 3 (Kd.int .i64)) w A0 l0.length l0) (hc0 : l0.length ≤ c0) (h : slices_Concat_int_int.f l0 = some r) :
    Calls Try.prog 132 #[.slice A0 l0.length c0] w fun e w' => ∃ v0_ : Value, e = .returned (v0_) ∧ Kd.R (Kd.int .i64) 3 w' w.heap.size (fun _ => True) v0_ r ∧ Below w.heap.size w w' := by
  unfold slices_Concat_int_int.f at h
  by_cases c2 : l0.flatten.length < 17592186044416 ∧ l0.length < 17592186044416
  · rw [if_pos c2] at h
    obtain rfl := Option.some.inj h
    have HR0 := Aside0.mk hr0
    have HF := Aside0.mk c2.1
    have HL := Aside0.mk c2.2
    have HB := Aside0.mk (Below.refl w.heap.size w)
    clear h hr0 hc0 c2
    go_enter Try.func132, Try.ntmps132
    go_wp2
    go_loopg [3, 11] (l0.length + 1) (fun kq v3 v11 w' => ∃ (i s : Int), v11 = .int .i64 i ∧ v3 = .int .i64 s ∧ Aside0 (0 ≤ i ∧ i + kq = l0.length + 1) ∧ Aside0 (s = (((l0.take i.toNat).flatten.length : Nat) : Int)) ∧ Aside0 (Below w.heap.size w w'))
    case atStart => exact ⟨0, 0, rfl, rfl, ⟨by omega⟩, ⟨by simp⟩, HB⟩
    case round =>
      clear HB
      obtain ⟨i, s, rfl, rfl, HI, HS, HB⟩ := hrel
      by_cases c3 : i < l0.length
      · have c3b : decide (i < (l0.length : Int)) = true := decide_eq_true c3
        have hi0 := HI.out.1
        obtain ⟨ad, A1, c1, e1, hx1, hc1, hC1⟩ := slices_Concat_int_int.at2 HR0.out i hi0 c3
        cases e1
        have hlt := World.block_lt_of_cell? w _ hx1
        replace hx1 := (HB.out.cell hlt).trans hx1
        obtain ⟨j, rfl⟩ := Int.eq_ofNat_of_zero_le hi0
        have hf := slices_Concat_int_int.take_flat l0 j (by omega)
        have hle := slices_Concat_int_int.take_le l0 (j + 1)
        have hF := HF.out
        have hS := HS.out
        obtain ⟨y, hy⟩ : ∃ y, y = slices_Concat_int_int.rd2 l0 (j : Int) := ⟨_, rfl⟩
        rw [← hy] at hx1 hf
        obtain ⟨s2, hs2⟩ : ∃ s2, s2 = wrap64 (s + (y.length : Int)) := ⟨_, rfl⟩
        have hs3 : s2 = (((l0.take (j + 1)).flatten.length : Nat) : Int) := by
          rw [Int.toNat_natCast] at hS
          rw [hf] at hle ⊢
          rw [List.length_append] at hle ⊢
          rw [hs2, hS]
          unfold wrap64; omega
        have hneg : decide (s2 < 0) = false := decide_eq_false (by omega)
        have HS2 := Aside0.mk hs3
        obtain ⟨i, hi⟩ : ∃ i : Int, i = (j : Int) := ⟨_, rfl⟩
        rw [← hi] at hx1 c3b HI ⊢
        have c4 := eq_true hi0
        have c5 := eq_true c3
        rw [← hi] at c4 c5
        replace hs2 := hs2.symm
        have HJ := Aside0.mk hi
        have HC3 := Aside0.mk c3
        clear hf hle hF hC1 hc1 hy hs3 hS hi hi0 c3 hlt
        go_wp2
        have hI := HI.out
        have hC := HC3.out
        have hJ := HJ.out
        have hL := HL.out
        have hw1 : wrap64 (i + 1) = ((j + 1 : Nat) : Int) := by unfold wrap64; omega
        go_roundg (gk - 1)
        case measure => omega
        case rel => exact ⟨wrap64 (i + 1), wrap64 (s + (y.length : Int)), (by first | rfl | (simp; done)), (by first | rfl | (simp; done)), ⟨by rw [hw1]; omega⟩, ⟨by rw [hs2, hw1, Int.toNat_natCast]; exact HS2.out⟩, HB⟩
      · have c3b : decide (i < (l0.length : Int)) = false := decide_eq_false c3
        have hlen : s = ((l0.flatten.length : Nat) : Int) := by
          have := HI.out
          rw [HS.out, List.take_of_length_le (by omega)]
        have hs0 : 0 ≤ s := by omega
        have hs1 : s < 17592186044416 := by have := HF.out; omega
        have HG := Aside0.mk (And.intro hs0 hs1)
        clear hlen hs0 hs1 c3 HS HI
        go_wp2_with (first
          | ((with_reducible refine gate_callee (f := 155) rfl ?_); refine goesL_ (some 24) rfl rfl Try.func155 (by kernel_rfl) rfl #[.slice none 0 0, .int .i64 s] rfl (by (try simp only [List.map_toArray, List.map_cons, List.map_nil]); first | done | rfl) ?_; (with_reducible refine (slices_Concat_int_int.grow_any s _ HG.out.1 HG.out.2).mono ?_); rintro e w2 ⟨v6, rfl, ho2, hb2⟩; refine ⟨_, rfl, ?_⟩; have n0_ := Aside0.mk (Kd.R_lower ho2 (below_size (by repeat (first | (with_reducible first | exact HB.out | apply below_alloc | apply pw_below_drewN | apply below_drew1) | exact HB.out)))); have n1_ := Aside0.mk (below_step (by repeat (first | (with_reducible first | exact HB.out | apply below_alloc | apply pw_below_drewN | apply below_drew1) | exact HB.out)) hb2); clear HB ho2 hb2; have HO := n0_; have HB := n1_; clear n0_ n1_))
        go_loopg [6, 27] (l0.length + 1) (fun kq v6 v27 w' => ∃ (i : Int) (out : List Int), v27 = .int .i64 i ∧ Aside0 (0 ≤ i ∧ i + kq = l0.length + 1) ∧ Aside0 (out = (l0.take i.toNat).flatten) ∧ Aside0 (Kd.R (Kd.int .i64) 3 w' w.heap.size (fun _ => True) v6 out) ∧ Aside0 (Below w.heap.size w w'))
        case atStart => exact ⟨0, [], rfl, ⟨by omega⟩, ⟨by simp⟩, HO, HB⟩
        case round =>
          clear HO HB HG c3b
          obtain ⟨i, out, rfl, HI, HS, HO, HB⟩ := hrel
          by_cases c3 : i < l0.length
          · have c3b : decide (i < (l0.length : Int)) = true := decide_eq_true c3
            have hi0 := HI.out.1
            obtain ⟨ad, A1, c1, e1, hx1, hc1, hC1⟩ := slices_Concat_int_int.at2 HR0.out i hi0 c3
            cases e1
            have hlt := World.block_lt_of_cell? w _ hx1
            replace hx1 := (HB.out.cell hlt).trans hx1
            obtain ⟨j, rfl⟩ := Int.eq_ofNat_of_zero_le hi0
            have hf := slices_Concat_int_int.take_flat l0 j (by omega)
            have hle := slices_Concat_int_int.take_le l0 (j + 1)
            obtain ⟨y, hy⟩ : ∃ y, y = slices_Concat_int_int.rd2 l0 (j : Int) := ⟨_, rfl⟩
            rw [← hy] at hx1 hf hc1 hC1
            obtain ⟨out2, ho2⟩ : ∃ o, o = out ++ y := ⟨_, rfl⟩
            have hs3 : out2 = (l0.take (j + 1)).flatten := by rw [ho2, HS.out, Int.toNat_natCast, hf]
            have HS2 := Aside0.mk hs3
            have NY := Aside0.mk ho2
            have HLE := Aside0.mk (show out.length + y.length < 17592186044416 by have := HF.out; rw [← List.length_append, ← ho2, hs3]; omega)
            have HC1 := Aside0.mk hc1
            have HCC := Aside0.mk hC1
            obtain ⟨i, hi⟩ : ∃ i : Int, i = (j : Int) := ⟨_, rfl⟩
            rw [← hi] at hx1 c3b HI ⊢
            have c4 := eq_true hi0
            have c5 := eq_true c3
            rw [← hi] at c4 c5
            have HJ := Aside0.mk hi
            have HC3 := Aside0.mk c3
            clear hf hle hC1 hc1 hy hs3 hi hi0 c3 hlt ho2
            go_wp2_with (first
              | ((with_reducible refine gate_builtin (b := .append) (xs := #[.tmp 31, .tmp 32]) rfl ?_); at_builtin; refine Kd.R_append_rows (Kd.int .i64) (w0 := w) w.heap.size rfl (.tmp 31) (.tmp 32) 44 3 (.int .i64 0) 8 rfl Try.underlying44 info3 rfl (by decide) (by omega) u6 out y _ _ _ (fun _ => True) (fun _ => False) rfl rfl ?aO ?aR (fun _ _ h => h) (fun _ h => h.elim) ?aF ?aB ?aS ?aL ?_; (case aR => repeat (first | exact (Kd.C_below HCC.out HB.out) | (with_reducible refine Kd.C_alloc ?_ _) | (with_reducible refine Kd.C_drewN ?_ _) | (with_reducible refine Kd.C_drew ?_))); (case aB => exact (by repeat (first | (with_reducible first | exact HB.out | apply below_alloc | apply pw_below_drewN | apply below_drew1) | exact HB.out))); (case aF => exact (fun _ _ => trivial)); (case aO => exact (by (with_reducible repeat (first | apply Kd.R_alloc | apply Kd.R_drewN | apply Kd.R_drew)); exact HO.out)); (case aS => exact (below_size (by repeat (first | (with_reducible first | exact HB.out | apply below_alloc | apply pw_below_drewN | apply below_drew1) | exact HB.out)))); (case aL => have := HLE.out; omega); intro v7 w7 ho7 hb7 hg7 hat7; rw [← NY.out] at ho7))
            have hI := HI.out
            have hC := HC3.out
            have hJ := HJ.out
            have hL := HL.out
            have hw1 : wrap64 (i + 1) = ((j + 1 : Nat) : Int) := by unfold wrap64; omega
            go_roundg (gk - 1)
            case measure => omega
            case rel => exact ⟨wrap64 (i + 1), out2, (by first | rfl | (simp; done)), ⟨by rw [hw1]; omega⟩, ⟨by rw [hw1, Int.toNat_natCast]; exact HS2.out⟩, ⟨ho7⟩, ⟨hb7⟩⟩
          · have c3b : decide (i < (l0.length : Int)) = false := decide_eq_false c3
            have hfin : out = l0.flatten := by
              have := HI.out
              rw [HS.out, List.take_of_length_le (by omega)]
            have HE := Aside0.mk hfin
            clear hfin c3 HS HI
            go_wp2
            go_ret
            exact ⟨_, rfl, by rw [← HE.out]; exact HO.out, HB.out⟩
  · rw [if_neg c2] at h
    exact absurd h (by simp)

/-! ### impl_LeastBruijn: function 59 (a contract of this session's own) -/
def impl_LeastBruijn.is (n : Int) (l : List Int) : Option Bool := if (l.length : Int) = 0 then none else some (Int.tmod n (l.length : Int) == 0)
def impl_LeastBruijn.f (k : Nat) (a0 : Int) (a1 : Int) : Option (List Int × Bool) := (impl_isBruijnSize.f k a0 a1).bind fun b => (if b = true then ((impl_lyndonWords.f (impl_LeastBruijn.is a0) k a0 a1 1024).bind fun t => ((slices_Concat_int_int.f t.1).bind fun c => (some (c, true)))) else (some (([] : List Int), false)))
theorem impl_LeastBruijn.mono : ∀ a0 a1 k, LeO (impl_LeastBruijn.f k a0 a1) (impl_LeastBruijn.f (k + 1) a0 a1) := fun a0 a1 k =>
  LeO.bind (impl_isBruijnSize.mono _ _ _) (fun _ => LeO.ite (LeO.bind (impl_lyndonWords.mono _ _ _ _ _) (fun _ => LeO.refl _)) (LeO.refl _))
set_option maxHeartbeats 8000000 in
set_option maxRecDepth 100000 in
theorem impl_LeastBruijn.is_calls (n : Int) (B : Nat) (W : World) (A : Option Addr) (c : Nat) (l : List Int) (b : Bool) (hc : W.cell? ⟨B, 0, none⟩ = some (.int .i64 n)) (h : impl_LeastBruijn.is n l = some b) :
    Calls Try.prog 131 #[.slice A l.length c, .pointer (some ⟨B, 0, none⟩)] W fun e W' => e = .returned (.bool b) ∧ Drawn0 W W' := by
  unfold impl_LeastBruijn.is at h
  by_cases c1 : (l.length : Int) = 0
  · rw [if_pos c1] at h; cases h
  · rw [if_neg c1] at h
    obtain rfl := Option.some.inj h
    have hl0 : ((l.length : Int) == 0) = false := beq_eq_false_iff_ne.mpr c1
    have hnil : (l = []) = False := eq_false (by intro e; rw [e] at c1; simp at c1)
    clear h c1
    go_enter Try.func131, Try.ntmps131
    go_wp2
    go_ret
    exact ⟨rfl, by repeat (first | exact Drawn0.refl _ | apply Drawn0.step)⟩
set_option maxHeartbeats 8000000 in
set_option maxRecDepth 100000 in
theorem impl_LeastBruijn.calls (k : Nat) (a0 a1 : Int) (r1 : List Int) (r2 : Bool) (w : World) (h : impl_LeastBruijn.f k a0 a1 = some (r1, r2)) :
    Calls Try.prog 59 #[.int .i64 a0, .int .i64 a1] w fun e w' => ∃ v0_ : Value, e = .returned (.tuple #[v0_, .bool r2]) ∧ Kd.R (Kd.int .i64) 3 w' w.heap.size (fun _ => True) v0_ r1 ∧ Below w.heap.size w w' := by
  have HB := Aside0.mk (Below.refl w.heap.size w)
  have hmf : ∀ (fn : Fn) (first cap : Array Value) (w : World), (Instr.makeFunc fn first cap).run Try.prog w = .ok (.func fn first cap) w := fun _ _ _ _ => rfl
  unfold impl_LeastBruijn.f at h
  obtain ⟨b, hb, H⟩ := Option.bind_eq_some_iff.mp h
  have A1 := Aside0.mk hb
  clear h hb
  by_cases c1 : b = true
  · subst c1
    replace H := (if_pos rfl).symm.trans H
    obtain ⟨⟨t1, t2⟩, ht, H⟩ := Option.bind_eq_some_iff.mp H
    have A2 := Aside0.mk ht
    obtain ⟨c, hc, H⟩ := Option.bind_eq_some_iff.mp H
    have A3 : Aside0 (slices_Concat_int_int.f t1 = some c) := ⟨hc⟩
    simp only [Option.some.injEq, Prod.mk.injEq] at H
    obtain ⟨rfl, rfl⟩ := H
    clear hc ht
    go_enter Try.func59, Try.ntmps59
    go_wp2_with (first
      | ((with_reducible refine gate_callee (f := 123) rfl ?_); refine goesL_ (some 10) rfl rfl Try.func123 (by kernel_rfl) rfl #[.int .i64 a0, .int .i64 a1] rfl (by (try simp only [List.map_toArray, List.map_cons, List.map_nil]); first | done | rfl) ?_; (with_reducible refine (impl_isBruijnSize.calls k a0 a1 true _ A1.out).mono ?_); rintro e w1 ⟨rfl, ⟨nd1, rfl⟩⟩; refine ⟨_, rfl, ?_⟩)
      | ((with_reducible refine gate_callee (f := 81) rfl ?_); refine goesL_ (some 16) rfl rfl Try.func81 (by kernel_rfl) rfl #[.int .i64 a0, .int .i64 a1, .int .i64 1024, .func (.func 131) #[] #[.pointer (some ⟨w.heap.size, 0, none⟩)]] rfl (by (try simp only [List.map_toArray, List.map_cons, List.map_nil]); first | done | rfl) ?_; refine (impl_lyndonWords.calls (impl_LeastBruijn.is a0) 131 _ #[.pointer (some ⟨w.heap.size, 0, none⟩)] Try.func131 (by kernel_rfl) rfl k a0 a1 1024 t1 t2 _ ?hp A2.out).mono ?_; (case hp => exact fun W A c l b hb _ _ hl => calls_of_args (by simp) (impl_LeastBruijn.is_calls a0 w.heap.size W A c l b ((hb.cell (by simp)).trans (by go_simp)) hl)); rintro e w2 ⟨v16, rfl, ho, hb⟩; refine ⟨_, rfl, ?_⟩; obtain ⟨As, cs, es⟩ := Kd.S_slice ho; subst es; have n0_ := Aside0.mk (Kd.S_lower ho (below_size (by repeat (first | (with_reducible first | exact HB.out | apply below_alloc | apply pw_below_drewN | apply below_drew1) | exact HB.out)))); have n1_ := Aside0.mk (below_step (by repeat (first | (with_reducible first | exact HB.out | apply below_alloc | apply pw_below_drewN | apply below_drew1) | exact HB.out)) hb); clear HB ho hb; have HO := n0_; have HB := n1_; clear n0_ n1_)
      | ((with_reducible refine gate_callee (f := 132) rfl ?_); refine goesL_ (some 20) rfl rfl Try.func132 (by kernel_rfl) rfl #[.slice As t1.length cs] rfl (by (try simp only [List.map_toArray, List.map_cons, List.map_nil]); first | done | rfl) ?_; (with_reducible refine (slices_Concat_int_int.calls _ _ t1 c _ ?side1 ?side2 A3.out).mono ?_); (case side1 => repeat (first | exact (Kd.S_reads' HO.out).2.2 | (with_reducible refine Kd.C_alloc ?_ _) | (with_reducible refine Kd.C_drewN ?_ _) | (with_reducible refine Kd.C_drew ?_))); (case side2 => exact (Kd.S_reads' HO.out).2.1); rintro e w3 ⟨v20, rfl, ho, hb⟩; refine ⟨_, rfl, ?_⟩; have n0_ := Aside0.mk (Kd.R_lower ho (below_size (by repeat (first | (with_reducible first | exact HB.out | apply below_alloc | apply pw_below_drewN | apply below_drew1) | exact HB.out)))); have n1_ := Aside0.mk (below_step (by repeat (first | (with_reducible first | exact HB.out | apply below_alloc | apply pw_below_drewN | apply below_drew1) | exact HB.out)) hb); clear HB ho hb; have HR := n0_; have HB := n1_; clear n0_ n1_))
    go_ret2
    exact ⟨_, rfl, HR.out, HB.out⟩
  · rw [if_neg c1] at H
    obtain rfl := Bool.eq_false_iff.mpr c1
    simp only [Option.some.injEq, Prod.mk.injEq] at H
    obtain ⟨rfl, rfl⟩ := H
    go_enter Try.func59, Try.ntmps59
    go_wp2_with (first
      | ((with_reducible refine gate_callee (f := 123) rfl ?_); refine goesL_ (some 10) rfl rfl Try.func123 (by kernel_rfl) rfl #[.int .i64 a0, .int .i64 a1] rfl (by (try simp only [List.map_toArray, List.map_cons, List.map_nil]); first | done | rfl) ?_; (with_reducible refine (impl_isBruijnSize.calls k a0 a1 false _ A1.out).mono ?_); rintro e w1 ⟨rfl, ⟨nd1, rfl⟩⟩; refine ⟨_, rfl, ?_⟩))
    go_ret2
    exact ⟨_, rfl, Kd.R_nil _ _ _ _ _, by repeat (first | (with_reducible first | exact HB.out | apply below_alloc | apply pw_below_drewN | apply below_drew1) | exact HB.out)⟩

/-! ### impl_allWithin: function 110 -/
def impl_allWithin.l0 : Nat → Int → Int → List Int → Int → Int → Option (Bool)
  | 0, _, _, _, _, _ => none
  | k + 1, x1, x2, x9, x10, x11 => if x11 < x10 then (if 0 ≤ x11 then (if x11 < (x9.length : Int) then ((impl_within.f (rd x9 x11) x1 x2).bind fun t282 => (if t282 = true then (impl_allWithin.l0 k x1 x2 x9 x10 (wrap64 (x11 + 1))) else (some false))) else (none)) else (none)) else (some true)
def impl_allWithin.f (k : Nat) (l0 : List Int) (a1 : Int) (a2 : Int) : Option (Bool) := impl_allWithin.l0 k a1 a2 l0 (l0.length : Int) 0
theorem impl_allWithin.mono_l : ∀ k, (∀ y0 y1 y2 y3 y4, LeO (impl_allWithin.l0 k y0 y1 y2 y3 y4) (impl_allWithin.l0 (k + 1) y0 y1 y2 y3 y4))
  | 0 => fun _ _ _ _ _ r h => by simp [impl_allWithin.l0] at h
  | k + 1 => by
    have ih0 := impl_allWithin.mono_l k
    · intro y0 y1 y2 y3 y4
      unfold impl_allWithin.l0
      repeat' first
      | (with_reducible exact ih0 _ _ _ _ _)
      | (with_reducible exact LeO.refl _)
      | (with_reducible exact LeO.none _)
      | (with_reducible refine LeO.ite ?_ ?_)
      | (with_reducible refine LeO.bind ?_ (fun _ => ?_))
      | exact ih0 _ _ _ _ _
      | exact LeO.none _
      | refine LeO.ite ?_ ?_
      | refine LeO.bind ?_ (fun _ => ?_)
theorem impl_allWithin.mono : ∀ a0 a1 a2 k, LeO (impl_allWithin.f k a0 a1 a2) (impl_allWithin.f (k + 1) a0 a1 a2) := by
  intro a0 a1 a2 k
  have ih0 := impl_allWithin.mono_l k
  unfold impl_allWithin.f
  repeat' first
      | (with_reducible exact ih0 _ _ _ _ _)
      | (with_reducible exact LeO.refl _)
      | (with_reducible exact LeO.none _)
      | (with_reducible refine LeO.ite ?_ ?_)
      | (with_reducible refine LeO.bind ?_ (fun _ => ?_))
      | exact ih0 _ _ _ _ _
      | exact LeO.none _
      | refine LeO.ite ?_ ?_
      | refine LeO.bind ?_ (fun _ => ?_)
set_option maxHeartbeats 8000000 in
set_option maxRecDepth 100000 in
theorem impl_allWithin.calls (k : Nat) (A0 : Option Addr) (c0 : Nat) (l0 : List Int) (a1 : Int) (a2 : Int) (r : Bool) (w : World) (hr0 : Kd.C (Kd.int .i64) w A0 l0.length l0) (hc0 : l0.length ≤ c0) (h : impl_allWithin.f k l0 a1 a2 = some r) :
    Calls Try.prog 110 #[.slice A0 l0.length c0, .int .i64 a1, .int .i64 a2] w fun e w' => e = .returned (.bool r) ∧ Drawn0 w w' := by
  have HR0 := Aside0.mk hr0
  have HC0 := Aside0.mk hc0
  clear hr0 hc0
  have H : (impl_allWithin.l0 k a1 a2 l0 (l0.length : Int) 0) = some r := h
  clear h
  have H' := Aside0.mk H
  clear H
  go_enter Try.func110, Try.ntmps110
  go_wp2
  go_loopg [11] k (fun kq v11 w' => ∃ (x11_1 : Int), v11 = .int .i64 x11_1 ∧ Aside0 (impl_allWithin.l0 kq a1 a2 l0 (l0.length : Int) x11_1 = some r) ∧ Aside0 (kq ≤ k) ∧ Drawn0 w w')
  case atStart => exact ⟨(0), (by first | rfl | (simp; done) | (simp [*]; done)), H', ⟨Nat.le_refl _⟩, by repeat (first | exact Drawn0.refl _ | apply Drawn0.step)⟩
  case round =>
    clear H'
    try clear c1
    try clear p2
    obtain ⟨x11_1, rfl, HA, HK1, ⟨m1, rfl⟩⟩ := hrel
    cases gk with
    | zero => exact absurd HA.out (by simp [impl_allWithin.l0])
    | succ k1 =>
      have H := HA.out
      clear HA
      simp only [impl_allWithin.l0] at H
      by_cases c4 : x11_1 < (l0.length : Int)
      · rw [if_pos c4] at H
        have c4b0 : decide (x11_1 < (l0.length : Int)) = true := decide_eq_true c4
        clear c4
        by_cases c5 : 0 ≤ x11_1
        · rw [if_pos c5] at H
          have c5b0 : decide (0 ≤ x11_1) = true := decide_eq_true c5
          clear c5
          by_cases c6 : x11_1 < (l0.length : Int)
          · rw [if_pos c6] at H
            have c6b0 : decide (x11_1 < (l0.length : Int)) = true := decide_eq_true c6
            clear c6
            replace H := Option.bind_eq_some_iff.mp H
            obtain ⟨t282, A70, H⟩ := H
            replace H : (if t282 = true then (impl_allWithin.l0 k1 a1 a2 l0 (l0.length : Int) (wrap64 (x11_1 + 1))) else (some false)) = some r := H
            have A7 := Aside0.mk A70
            clear A70
            by_cases c8 : t282 = true
            · subst c8
              have H1 : (impl_allWithin.l0 k1 a1 a2 l0 (l0.length : Int) (wrap64 (x11_1 + 1))) = some r := by rw [if_pos rfl] at H; exact H
              clear H
              have H := H1
              clear H1
              have H' := Aside0.mk H
              clear H
              have p281 : 0 ≤ (x11_1 : Int) := of_decide_eq_true (by first | (with_reducible assumption) | assumption)
              have q281 : x11_1 < (l0.length : Int) := of_decide_eq_true (by first | (with_reducible assumption) | assumption)
              obtain ⟨ad281, e281, hx281_0⟩ := Kd.at_int HR0.out x11_1 p281 q281
              cases e281
              replace p281 := eq_true p281
              replace q281 := eq_true q281
              go_wp2_with (first | ((with_reducible refine gate_callee (f := 68) rfl ?_); refine goesL_ (some 18) rfl rfl Try.func68 (by kernel_rfl) rfl #[.int .i64 (rd l0 x11_1), .int .i64 a1, .int .i64 a2] rfl (by (try simp only [List.map_toArray, List.map_cons, List.map_nil]); first | done | rfl | (simp only [List.length_drop, List.length_take]; rfl)) ?_; (with_reducible refine (impl_within.calls (rd l0 x11_1) a1 a2 true _ A7.out).mono ?_); rintro e w' ⟨rfl, ⟨nd, rfl⟩⟩; refine ⟨_, rfl, ?_⟩))
              go_roundg k1
              case measure => have := HK1.out; omega
              case rel => exact ⟨(wrap64 (x11_1 + 1)), (by first | rfl | (simp; done) | (simp [*]; done)), H', ⟨by have := HK1.out; omega⟩, by repeat (first | exact Drawn0.refl _ | apply Drawn0.step)⟩
            · replace c8 := Bool.eq_false_iff.mpr c8
              subst c8
              have H1 : (some false) = some r := by rw [if_neg (show ¬ (false = true) by decide)] at H; exact H
              clear H
              have H := H1
              clear H1
              obtain rfl := Option.some.inj H
              have p281 : 0 ≤ (x11_1 : Int) := of_decide_eq_true (by first | (with_reducible assumption) | assumption)
              have q281 : x11_1 < (l0.length : Int) := of_decide_eq_true (by first | (with_reducible assumption) | assumption)
              obtain ⟨ad281, e281, hx281_0⟩ := Kd.at_int HR0.out x11_1 p281 q281
              cases e281
              replace p281 := eq_true p281
              replace q281 := eq_true q281
              go_wp2_with (first | ((with_reducible refine gate_callee (f := 68) rfl ?_); refine goesL_ (some 18) rfl rfl Try.func68 (by kernel_rfl) rfl #[.int .i64 (rd l0 x11_1), .int .i64 a1, .int .i64 a2] rfl (by (try simp only [List.map_toArray, List.map_cons, List.map_nil]); first | done | rfl | (simp only [List.length_drop, List.length_take]; rfl)) ?_; (with_reducible refine (impl_within.calls (rd l0 x11_1) a1 a2 false _ A7.out).mono ?_); rintro e w' ⟨rfl, ⟨nd, rfl⟩⟩; refine ⟨_, rfl, ?_⟩))
              go_ret
              exact ⟨by first | rfl | (simp; done) | (simp [*]; done), by repeat (first | exact Drawn0.refl _ | apply Drawn0.step)⟩
          · rw [if_neg c6] at H
            exact absurd H (by simp)
        · rw [if_neg c5] at H
          exact absurd H (by simp)
      · rw [if_neg c4] at H
        have c4b0 : decide (x11_1 < (l0.length : Int)) = false := decide_eq_false c4
        clear c4
        obtain rfl := Option.some.inj H
        go_wp2
        go_ret
        exact ⟨by first | rfl | (simp; done) | (simp [*]; done), by repeat (first | exact Drawn0.refl _ | apply Drawn0.step)⟩

/-! ### impl_IsCycle: function 133 -/
def impl_IsCycle.f (k : Nat) (l0 : List Int) (a1 : Int) : Option (Bool) := (impl_within.f a1 1 6).bind fun t283 => (if t283 = true then ((impl_within.f (l0.length : Int) 1 1024).bind fun t284 => (if t284 = true then ((impl_allWithin.f k l0 0 (wrap64 (a1 - 1))).bind fun t285 => (some t285)) else (some false))) else (some false))
theorem impl_IsCycle.mono : ∀ a0 a1 k, LeO (impl_IsCycle.f k a0 a1) (impl_IsCycle.f (k + 1) a0 a1) := by
  intro a0 a1 k
  unfold impl_IsCycle.f
  repeat' first
      | (with_reducible exact impl_allWithin.mono _ _ _ _)
      | (with_reducible exact LeO.refl _)
      | (with_reducible exact LeO.none _)
      | (with_reducible refine LeO.ite ?_ ?_)
      | (with_reducible refine LeO.bind ?_ (fun _ => ?_))
      | exact impl_allWithin.mono _ _ _ _
      | exact LeO.none _
      | refine LeO.ite ?_ ?_
      | refine LeO.bind ?_ (fun _ => ?_)
set_option maxHeartbeats 8000000 in
set_option maxRecDepth 100000 in
theorem impl_IsCycle.calls (k : Nat) (A0 : Option Addr) (c0 : Nat) (l0 : List Int) (a1 : Int) (r : Bool) (w : World) (hr0 : Kd.C (Kd.int .i64) w A0 l0.length l0) (hc0 : l0.length ≤ c0) (h : impl_IsCycle.f k l0 a1 = some r) :
    Calls Try.prog 133 #[.slice A0 l0.length c0, .int .i64 a1] w fun e w' => e = .returned (.bool r) ∧ Drawn0 w w' := by
  have HR0 := Aside0.mk hr0
  have HC0 := Aside0.mk hc0
  clear hr0 hc0
  have H : ((impl_within.f a1 1 6).bind fun t283 => (if t283 = true then ((impl_within.f (l0.length : Int) 1 1024).bind fun t284 => (if t284 = true then ((impl_allWithin.f k l0 0 (wrap64 (a1 - 1))).bind fun t285 => (some t285)) else (some false))) else (some false))) = some r := h
  clear h
  replace H := Option.bind_eq_some_iff.mp H
  obtain ⟨t283, A30, H⟩ := H
  replace H : (if t283 = true then ((impl_within.f (l0.length : Int) 1 1024).bind fun t284 => (if t284 = true then ((impl_allWithin.f k l0 0 (wrap64 (a1 - 1))).bind fun t285 => (some t285)) else (some false))) else (some false)) = some r := H
  have A3 := Aside0.mk A30
  clear A30
  by_cases c4 : t283 = true
  · subst c4
    have H1 : ((impl_within.f (l0.length : Int) 1 1024).bind fun t284 => (if t284 = true then ((impl_allWithin.f k l0 0 (wrap64 (a1 - 1))).bind fun t285 => (some t285)) else (some false))) = some r := by rw [if_pos rfl] at H; exact H
    clear H
    have H := H1
    clear H1
    replace H := Option.bind_eq_some_iff.mp H
    obtain ⟨t284, A50, H⟩ := H
    replace H : (if t284 = true then ((impl_allWithin.f k l0 0 (wrap64 (a1 - 1))).bind fun t285 => (some t285)) else (some false)) = some r := H
    have A5 := Aside0.mk A50
    clear A50
    by_cases c6 : t284 = true
    · subst c6
      have H1 : ((impl_allWithin.f k l0 0 (wrap64 (a1 - 1))).bind fun t285 => (some t285)) = some r := by rw [if_pos rfl] at H; exact H
      clear H
      have H := H1
      clear H1
      replace H := Option.bind_eq_some_iff.mp H
      obtain ⟨t285, A70, H⟩ := H
      replace H : (some t285) = some r := H
      have A7 := Aside0.mk A70
      clear A70
      obtain rfl := Option.some.inj H
      go_enter Try.func133, Try.ntmps133
      go_wp2_with (first | ((with_reducible refine gate_callee (f := 68) rfl ?_); refine goesL_ (some 6) rfl rfl Try.func68 (by kernel_rfl) rfl #[.int .i64 a1, .int .i64 1, .int .i64 6] rfl (by (try simp only [List.map_toArray, List.map_cons, List.map_nil]); first | done | rfl | (simp only [List.length_drop, List.length_take]; rfl)) ?_; (with_reducible refine (impl_within.calls a1 1 6 true _ A3.out).mono ?_); rintro e w' ⟨rfl, ⟨nd, rfl⟩⟩; refine ⟨_, rfl, ?_⟩) | (go_at_call 68; (with_reducible refine (impl_within.calls (l0.length : Int) 1 1024 true _ A5.out).mono ?_); rintro e w' ⟨rfl, ⟨nd, rfl⟩⟩) | (go_at_call 110; (with_reducible refine (impl_allWithin.calls k _ _ l0 0 (wrap64 (a1 - 1)) t285 _ ?side1 ?side2 A7.out).mono ?_); (case side1 => repeat (first | exact HR0.out | (with_reducible refine Kd.C_alloc ?_ _) | (with_reducible refine Kd.C_drewN ?_ _) | (with_reducible refine Kd.C_drew ?_))); (case side2 => exact HC0.out); rintro e w' ⟨rfl, ⟨nd, rfl⟩⟩))
      go_ret
      exact ⟨by first | rfl | (simp; done) | (simp [*]; done), by repeat (first | exact Drawn0.refl _ | apply Drawn0.step)⟩
    · replace c6 := Bool.eq_false_iff.mpr c6
      subst c6
      have H1 : (some false) = some r := by rw [if_neg (show ¬ (false = true) by decide)] at H; exact H
      clear H
      have H := H1
      clear H1
      obtain rfl := Option.some.inj H
      go_enter Try.func133, Try.ntmps133
      go_wp2_with (first | ((with_reducible refine gate_callee (f := 68) rfl ?_); refine goesL_ (some 6) rfl rfl Try.func68 (by kernel_rfl) rfl #[.int .i64 a1, .int .i64 1, .int .i64 6] rfl (by (try simp only [List.map_toArray, List.map_cons, List.map_nil]); first | done | rfl | (simp only [List.length_drop, List.length_take]; rfl)) ?_; (with_reducible refine (impl_within.calls a1 1 6 true _ A3.out).mono ?_); rintro e w' ⟨rfl, ⟨nd, rfl⟩⟩; refine ⟨_, rfl, ?_⟩) | (go_at_call 68; (with_reducible refine (impl_within.calls (l0.length : Int) 1 1024 false _ A5.out).mono ?_); rintro e w' ⟨rfl, ⟨nd, rfl⟩⟩))
      go_ret
      exact ⟨by first | rfl | (simp; done) | (simp [*]; done), by repeat (first | exact Drawn0.refl _ | apply Drawn0.step)⟩
  · replace c4 := Bool.eq_false_iff.mpr c4
    subst c4
    have H1 : (some false) = some r := by rw [if_neg (show ¬ (false = true) by decide)] at H; exact H
    clear H
    have H := H1
    clear H1
    obtain rfl := Option.some.inj H
    go_enter Try.func133, Try.ntmps133
    go_wp2_with (first | ((with_reducible refine gate_callee (f := 68) rfl ?_); refine goesL_ (some 6) rfl rfl Try.func68 (by kernel_rfl) rfl #[.int .i64 a1, .int .i64 1, .int .i64 6] rfl (by (try simp only [List.map_toArray, List.map_cons, List.map_nil]); first | done | rfl | (simp only [List.length_drop, List.length_take]; rfl)) ?_; (with_reducible refine (impl_within.calls a1 1 6 false _ A3.out).mono ?_); rintro e w' ⟨rfl, ⟨nd, rfl⟩⟩; refine ⟨_, rfl, ?_⟩))
    go_ret
    exact ⟨by first | rfl | (simp; done) | (simp [*]; done), by repeat (first | exact Drawn0.refl _ | apply Drawn0.step)⟩

/-! ### impl_IsBruijn: function 60 -/
def impl_IsBruijn.f (k : Nat) (l0 : List Int) (a1 : Int) (a2 : Int) : Option (Bool × Bool) := (impl_isBruijnSize.f k a1 a2).bind fun t286 => (if t286 = true then ((impl_IsCycle.f k l0 a2).bind fun t287 => (if t287 = true then ((impl_isBruijn.f k l0 a1 a2).bind fun t288 => (some (t288, true))) else (some (false, false)))) else (some (false, false)))
theorem impl_IsBruijn.mono : ∀ a0 a1 a2 k, LeO (impl_IsBruijn.f k a0 a1 a2) (impl_IsBruijn.f (k + 1) a0 a1 a2) := by
  intro a0 a1 a2 k
  unfold impl_IsBruijn.f
  repeat' first
      | (with_reducible exact impl_IsCycle.mono _ _ _)
      | (with_reducible exact impl_isBruijn.mono _ _ _ _)
      | (with_reducible exact impl_isBruijnSize.mono _ _ _)
      | (with_reducible exact LeO.refl _)
      | (with_reducible exact LeO.none _)
      | (with_reducible refine LeO.ite ?_ ?_)
      | (with_reducible refine LeO.bind ?_ (fun _ => ?_))
      | exact impl_IsCycle.mono _ _ _
      | exact impl_isBruijn.mono _ _ _ _
      | exact impl_isBruijnSize.mono _ _ _
      | exact LeO.none _
      | refine LeO.ite ?_ ?_
      | refine LeO.bind ?_ (fun _ => ?_)
set_option maxHeartbeats 8000000 in
set_option maxRecDepth 100000 in
theorem impl_IsBruijn.calls (k : Nat) (A0 : Option Addr) (c0 : Nat) (l0 : List Int) (a1 : Int) (a2 : Int) (r1 : Bool) (r2 : Bool) (w : World) (hr0 : Kd.C (Kd.int .i64) w A0 l0.length l0) (hc0 : l0.length ≤ c0) (h : impl_IsBruijn.f k l0 a1 a2 = some (r1, r2)) :
    Calls Try.prog 60 #[.slice A0 l0.length c0, .int .i64 a1, .int .i64 a2] w fun e w' => e = .returned (.tuple #[.bool r1, .bool r2]) ∧ Below w.heap.size w w' := by
  have HR0 := Aside0.mk hr0
  have HC0 := Aside0.mk hc0
  clear hr0 hc0
  have HB := Aside0.mk (Below.refl w.heap.size w)
  have H : ((impl_isBruijnSize.f k a1 a2).bind fun t286 => (if t286 = true then ((impl_IsCycle.f k l0 a2).bind fun t287 => (if t287 = true then ((impl_isBruijn.f k l0 a1 a2).bind fun t288 => (some (t288, true))) else (some (false, false)))) else (some (false, false)))) = some (r1, r2) := h
  clear h
  replace H := Option.bind_eq_some_iff.mp H
  obtain ⟨t286, A40, H⟩ := H
  replace H : (if t286 = true then ((impl_IsCycle.f k l0 a2).bind fun t287 => (if t287 = true then ((impl_isBruijn.f k l0 a1 a2).bind fun t288 => (some (t288, true))) else (some (false, false)))) else (some (false, false))) = some (r1, r2) := H
  have A4 := Aside0.mk A40
  clear A40
  by_cases c5 : t286 = true
  · subst c5
    have H1 : ((impl_IsCycle.f k l0 a2).bind fun t287 => (if t287 = true then ((impl_isBruijn.f k l0 a1 a2).bind fun t288 => (some (t288, true))) else (some (false, false)))) = some (r1, r2) := by rw [if_pos rfl] at H; exact H
    clear H
    have H := H1
    clear H1
    replace H := Option.bind_eq_some_iff.mp H
    obtain ⟨t287, A60, H⟩ := H
    replace H : (if t287 = true then ((impl_isBruijn.f k l0 a1 a2).bind fun t288 => (some (t288, true))) else (some (false, false))) = some (r1, r2) := H
    have A6 := Aside0.mk A60
    clear A60
    by_cases c7 : t287 = true
    · subst c7
      have H1 : ((impl_isBruijn.f k l0 a1 a2).bind fun t288 => (some (t288, true))) = some (r1, r2) := by rw [if_pos rfl] at H; exact H
      clear H
      have H := H1
      clear H1
      replace H := Option.bind_eq_some_iff.mp H
      obtain ⟨t288, A80, H⟩ := H
      replace H : (some (t288, true)) = some (r1, r2) := H
      have A8 := Aside0.mk A80
      clear A80
      simp only [Option.some.injEq, Prod.mk.injEq] at H
      obtain ⟨rfl, rfl⟩ := H
      go_enter Try.func60, Try.ntmps60
      go_wp2_with (first | ((with_reducible refine gate_callee (f := 123) rfl ?_); refine goesL_ (some 10) rfl rfl Try.func123 (by kernel_rfl) rfl #[.int .i64 a1, .int .i64 a2] rfl (by (try simp only [List.map_toArray, List.map_cons, List.map_nil]); first | done | rfl | (simp only [List.length_drop, List.length_take]; rfl)) ?_; (with_reducible refine (impl_isBruijnSize.calls k a1 a2 true _ A4.out).mono ?_); rintro e w' ⟨rfl, ⟨nd, rfl⟩⟩; refine ⟨_, rfl, ?_⟩) | (go_at_call 133; (with_reducible refine (impl_IsCycle.calls k _ _ l0 a2 true _ ?side1 ?side2 A6.out).mono ?_); (case side1 => repeat (first | exact HR0.out | (with_reducible refine Kd.C_alloc ?_ _) | (with_reducible refine Kd.C_drewN ?_ _) | (with_reducible refine Kd.C_drew ?_))); (case side2 => exact HC0.out); rintro e w' ⟨rfl, ⟨nd, rfl⟩⟩) | ((with_reducible refine gate_callee (f := 126) rfl ?_); refine goesL_ (some 21) rfl rfl Try.func126 (by kernel_rfl) rfl #[.slice A0 l0.length c0, .int .i64 a1, .int .i64 a2] rfl (by (try simp only [List.map_toArray, List.map_cons, List.map_nil]); first | done | rfl | (simp only [List.length_drop, List.length_take]; rfl)) ?_; (with_reducible refine (impl_isBruijn.calls k _ _ l0 a1 a2 t288 _ ?side1 ?side2 A8.out).mono ?_); (case side1 => repeat (first | exact HR0.out | (with_reducible refine Kd.C_alloc ?_ _) | (with_reducible refine Kd.C_drewN ?_ _) | (with_reducible refine Kd.C_drew ?_))); (case side2 => exact HC0.out); rintro e w9 ⟨rfl, hb⟩; refine ⟨_, rfl, ?_⟩; have n0_ := Aside0.mk (below_step (by repeat (first | (with_reducible first | exact HB.out | apply below_alloc | apply pw_below_drewN | apply below_drew1) | exact HB.out)) hb); clear HB; have HB := n0_; clear n0_; (try clear hb); (try clear hb2); (try clear hk); (try clear hi)))
      go_ret2
      exact ⟨by first | rfl | (simp [errW_none, errW_some] <;> rfl) | (simp [*, errW_none, errW_some] <;> rfl), by repeat (first | (with_reducible first | exact HB.out | apply below_alloc | apply pw_below_drewN | apply below_drew1) | exact HB.out)⟩
    · replace c7 := Bool.eq_false_iff.mpr c7
      subst c7
      have H1 : (some (false, false)) = some (r1, r2) := by rw [if_neg (show ¬ (false = true) by decide)] at H; exact H
      clear H
      have H := H1
      clear H1
      simp only [Option.some.injEq, Prod.mk.injEq] at H
      obtain ⟨rfl, rfl⟩ := H
      go_enter Try.func60, Try.ntmps60
      go_wp2_with (first | ((with_reducible refine gate_callee (f := 123) rfl ?_); refine goesL_ (some 10) rfl rfl Try.func123 (by kernel_rfl) rfl #[.int .i64 a1, .int .i64 a2] rfl (by (try simp only [List.map_toArray, List.map_cons, List.map_nil]); first | done | rfl | (simp only [List.length_drop, List.length_take]; rfl)) ?_; (with_reducible refine (impl_isBruijnSize.calls k a1 a2 true _ A4.out).mono ?_); rintro e w' ⟨rfl, ⟨nd, rfl⟩⟩; refine ⟨_, rfl, ?_⟩) | (go_at_call 133; (with_reducible refine (impl_IsCycle.calls k _ _ l0 a2 false _ ?side1 ?side2 A6.out).mono ?_); (case side1 => repeat (first | exact HR0.out | (with_reducible refine Kd.C_alloc ?_ _) | (with_reducible refine Kd.C_drewN ?_ _) | (with_reducible refine Kd.C_drew ?_))); (case side2 => exact HC0.out); rintro e w' ⟨rfl, ⟨nd, rfl⟩⟩))
      go_ret2
      exact ⟨by first | rfl | (simp [errW_none, errW_some] <;> rfl) | (simp [*, errW_none, errW_some] <;> rfl), by repeat (first | (with_reducible first | exact HB.out | apply below_alloc | apply pw_below_drewN | apply below_drew1) | exact HB.out)⟩
  · replace c5 := Bool.eq_false_iff.mpr c5
    subst c5
    have H1 : (some (false, false)) = some (r1, r2) := by rw [if_neg (show ¬ (false = true) by decide)] at H; exact H
    clear H
    have H := H1
    clear H1
    simp only [Option.some.injEq, Prod.mk.injEq] at H
    obtain ⟨rfl, rfl⟩ := H
    go_enter Try.func60, Try.ntmps60
    go_wp2_with (first | ((with_reducible refine gate_callee (f := 123) rfl ?_); refine goesL_ (some 10) rfl rfl Try.func123 (by kernel_rfl) rfl #[.int .i64 a1, .int .i64 a2] rfl (by (try simp only [List.map_toArray, List.map_cons, List.map_nil]); first | done | rfl | (simp only [List.length_drop, List.length_take]; rfl)) ?_; (with_reducible refine (impl_isBruijnSize.calls k a1 a2 false _ A4.out).mono ?_); rintro e w' ⟨rfl, ⟨nd, rfl⟩⟩; refine ⟨_, rfl, ?_⟩))
    go_ret2
    exact ⟨by first | rfl | (simp [errW_none, errW_some] <;> rfl) | (simp [*, errW_none, errW_some] <;> rfl), by repeat (first | (with_reducible first | exact HB.out | apply below_alloc | apply pw_below_drewN | apply below_drew1) | exact HB.out)⟩

/-! ### laws_tSum: function 61 -/
def laws_tSum.l0 : Nat → Int → List Int → Int → Int → Option (Int)
  | 0, _, _, _, _ => none
  | k + 1, x3, x6, x7, x8 => if x8 < x7 then (if 0 ≤ x8 then (if x8 < (x6.length : Int) then (laws_tSum.l0 k (wrap64 (x3 + (rd x6 x8))) x6 x7 (wrap64 (x8 + 1))) else (none)) else (none)) else (some x3)
def laws_tSum.f (k : Nat) (l0 : List Int) : Option (Int) := laws_tSum.l0 k 0 l0 (l0.length : Int) 0
theorem laws_tSum.mono_l : ∀ k, (∀ y0 y1 y2 y3, LeO (laws_tSum.l0 k y0 y1 y2 y3) (laws_tSum.l0 (k + 1) y0 y1 y2 y3))
  | 0 => fun _ _ _ _ r h => by simp [laws_tSum.l0] at h
  | k + 1 => by
    have ih0 := laws_tSum.mono_l k
    · intro y0 y1 y2 y3
      unfold laws_tSum.l0
      repeat' first
      | (with_reducible exact ih0 _ _ _ _)
      | (with_reducible exact LeO.refl _)
      | (with_reducible exact LeO.none _)
      | (with_reducible refine LeO.ite ?_ ?_)
      | (with_reducible refine LeO.bind ?_ (fun _ => ?_))
      | exact ih0 _ _ _ _
      | exact LeO.none _
      | refine LeO.ite ?_ ?_
      | refine LeO.bind ?_ (fun _ => ?_)
theorem laws_tSum.mono : ∀ a0 k, LeO (laws_tSum.f k a0) (laws_tSum.f (k + 1) a0) := by
  intro a0 k
  have ih0 := laws_tSum.mono_l k
  unfold laws_tSum.f
  repeat' first
      | (with_reducible exact ih0 _ _ _ _)
      | (with_reducible exact LeO.refl _)
      | (with_reducible exact LeO.none _)
      | (with_reducible refine LeO.ite ?_ ?_)
      | (with_reducible refine LeO.bind ?_ (fun _ => ?_))
      | exact ih0 _ _ _ _
      | exact LeO.none _
      | refine LeO.ite ?_ ?_
      | refine LeO.bind ?_ (fun _ => ?_)
set_option maxHeartbeats 8000000 in
set_option maxRecDepth 100000 in
theorem laws_tSum.calls (k : Nat) (A0 : Option Addr) (c0 : Nat) (l0 : List Int) (r : Int) (w : World) (hr0 : Kd.C (Kd.int .i64) w A0 l0.length l0) (hc0 : l0.length ≤ c0) (h : laws_tSum.f k l0 = some r) :
    Calls Try.prog 61 #[.slice A0 l0.length c0] w fun e w' => e = .returned (.int .i64 r) ∧ Drawn0 w w' := by
  have HR0 := Aside0.mk hr0
  have HC0 := Aside0.mk hc0
  clear hr0 hc0
  have H : (laws_tSum.l0 k 0 l0 (l0.length : Int) 0) = some r := h
  clear h
  have H' := Aside0.mk H
  clear H
  go_enter Try.func61, Try.ntmps61
  go_wp2
  go_loopg [3, 8] k (fun kq v3 v8 w' => ∃ (x3_1 : Int) (x8_1 : Int), v3 = .int .i64 x3_1 ∧ v8 = .int .i64 x8_1 ∧ Aside0 (laws_tSum.l0 kq x3_1 l0 (l0.length : Int) x8_1 = some r) ∧ Aside0 (kq ≤ k) ∧ Drawn0 w w')
  case atStart => exact ⟨(0), (0), (by first | rfl | (simp; done) | (simp [*]; done)), (by first | rfl | (simp; done) | (simp [*]; done)), H', ⟨Nat.le_refl _⟩, by repeat (first | exact Drawn0.refl _ | apply Drawn0.step)⟩
  case round =>
    clear H'
    obtain ⟨x3_1, x8_1, rfl, rfl, HA, HK1, ⟨m1, rfl⟩⟩ := hrel
    cases gk with
    | zero => exact absurd HA.out (by simp [laws_tSum.l0])
    | succ k1 =>
      have H := HA.out
      clear HA
      simp only [laws_tSum.l0] at H
      by_cases c2 : x8_1 < (l0.length : Int)
      · rw [if_pos c2] at H
        have c2b0 : decide (x8_1 < (l0.length : Int)) = true := decide_eq_true c2
        clear c2
        by_cases c3 : 0 ≤ x8_1
        · rw [if_pos c3] at H
          have c3b0 : decide (0 ≤ x8_1) = true := decide_eq_true c3
          clear c3
          by_cases c4 : x8_1 < (l0.length : Int)
          · rw [if_pos c4] at H
            have c4b0 : decide (x8_1 < (l0.length : Int)) = true := decide_eq_true c4
            clear c4
            have H' := Aside0.mk H
            clear H
            have p289 : 0 ≤ (x8_1 : Int) := of_decide_eq_true (by first | (with_reducible assumption) | assumption)
            have q289 : x8_1 < (l0.length : Int) := of_decide_eq_true (by first | (with_reducible assumption) | assumption)
            obtain ⟨ad289, e289, hx289_0⟩ := Kd.at_int HR0.out x8_1 p289 q289
            cases e289
            replace p289 := eq_true p289
            replace q289 := eq_true q289
            go_wp2
            go_roundg k1
            case measure => have := HK1.out; omega
            case rel => exact ⟨(wrap64 (x3_1 + (rd l0 x8_1))), (wrap64 (x8_1 + 1)), (by first | rfl | (simp; done) | (simp [*]; done)), (by first | rfl | (simp; done) | (simp [*]; done)), H', ⟨by have := HK1.out; omega⟩, by repeat (first | exact Drawn0.refl _ | apply Drawn0.step)⟩
          · rw [if_neg c4] at H
            exact absurd H (by simp)
        · rw [if_neg c3] at H
          exact absurd H (by simp)
      · rw [if_neg c2] at H
        have c2b0 : decide (x8_1 < (l0.length : Int)) = false := decide_eq_false c2
        clear c2
        obtain rfl := Option.some.inj H
        go_wp2
        go_ret
        exact ⟨by first | rfl | (simp; done) | (simp [*]; done), by repeat (first | exact Drawn0.refl _ | apply Drawn0.step)⟩

end Go.Proofs.Ytfbafdlgnjkioaa.PFnAllBruijnWords
