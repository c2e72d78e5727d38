/- The row of the law FnExactTurnTorus out of its pure statement and its walk: for every argument the call answers true and leaves its arguments as they were. -/
import Derived.Test.YtfbafdlgnjkioaaRows
import Derived.Test.YtfbafdlgnjkioaaPFnExactTurnTorusx6
import Derived.Test.YtfbafdlgnjkioaaPureFnExactTurnTorus
import Derived.Test.YtfbafdlgnjkioaaTorus
import Derived.WalkKit
import Derived.ProofKit
import Derived.OpenShut
import Derived.ShutString
import Derived.ChangeOld
import Derived.Below
import Derived.SizedLaws
import Derived.Test.YtfbafdlgnjkioaaWSized
namespace Go.Proofs.Ytfbafdlgnjkioaa.fnExactTurnTorus
open Go.ChangeShapes Go.WideShapes Go.ChangeAt Go.RowKit Go.Proofs.YtfbafdlgnjkioaaW.PrintWords
set_option linter.unusedVariables false
theorem own : ownKnob Try.prog.godebug = none := by kernel_rfl
theorem laidOut : laidOutB Try.prog = true := by kernel_rfl
def IsRow (k : IntKind) (w : World) (a : Option Addr) (len cap : Nat) (zs : List Int) : Prop :=
  (a = none ∧ len = 0 ∧ cap = 0 ∧ zs = []) ∨
  ∃ x, a = some x ∧ len ≤ cap ∧ cap ≤ maxLen ∧ zs.length = cap ∧ (∀ i, i < zs.length → w.cell? (x.add i) = some (.int k (zs.getD i 0))) ∧ ∀ n ∈ zs, (Lit.int k n).wf = true
set_option maxHeartbeats 4000000 in
set_option maxRecDepth 100000 in
theorem lifted (os : Os) (started : os.Started) (H : Type) (enc : TypeId × Value → H) :
    ReturnsInHanded {} Try.checked os 3 .any (Rows.fnExactTurnTorusSpec.pre6 enc Try.prog Try.f3 Rows.fnExactTurnTorusRow.domain false) (Rows.fnExactTurnTorusSpec.post enc Try.prog Try.f3 false true false false) := by
  refine returnsInHanded_of_change_sized (C := Try.checked) own started (by kernel_rfl) Try.func3
    (ChangeSpec.witness6 (enc := enc) (C := Try.checked) false ⟨#[], #[.agg #[.slice none 0 0], .int .i64 0, .int .i64 0], []⟩ 8 (by kernel_rfl) (by kernel_rfl) (by kernel_rfl) (by kernel_rfl)) ?_
  intro W base args ds gs before hval0 hW hcnd hsz0 _
  have hval : ∀ (j : Nat) t v, Try.f3.params[j]? = some t → args[j]? = some v → Value.okWide Try.prog W .any base t v := hval0
  have hW' := hW
  obtain ⟨p, q, hA0, hV, rfl, hfz, hnd⟩ := hW
  have hA : DataW.TrodAll enc Try.prog W 0 (fun _ => true) true Try.f3.params.toList args.toList ds p := hA0
  rw [Try.params3] at hA hval
  obtain ⟨v0, vs0, d0, ds0, p0, q0, hargs, rfl, rfl, h0, r0⟩ := trodAll_cons hA
  obtain ⟨v1, vs1, d1, ds1, p1, q1, rfl, rfl, rfl, h1, r1⟩ := trodAll_cons r0
  obtain ⟨v2, vs2, d2, ds2, p2, q2, rfl, rfl, rfl, h2, r2⟩ := trodAll_cons r1
  obtain ⟨rfl, rfl, rfl⟩ := trodAll_nil r2
  obtain rfl : args = #[v0, v1, v2] := by cases args; simp_all
  obtain ⟨rfl, rfl⟩ := trodVars_none hV
  obtain ⟨cs0, rfl, hs0⟩ := okWide_struct Try.underlying24 (hval 0 24 v0 rfl rfl)
  have k0 := h0
  have lt0 : ∀ x ∈ p0, x.block < W.heap.size := by obtain ⟨m, hm⟩ := k0; exact DataW.trod_lt m _ _ _ hm
  obtain ⟨A0, cap0, l0, rfl, hle0, hm0, hC0, hrows⟩ : ∃ (A : Option Addr) (cap : Nat) (l : List (List Int)), cs0 = #[.slice A l.length cap] ∧ l.length ≤ cap ∧ cap ≤ maxLen ∧ Kd.C (Kd.slice 3 (Kd.int .i64)) W A l.length l ∧ ∀ row ∈ l, row.length ≤ maxLen ∧ ∀ x ∈ row, (Lit.int .i64 x).wf = true := by
    obtain ⟨fuel, hf⟩ := h0
    obtain ⟨y0, m, _, hl, hin⟩ := trod_struct1 Try.underlying24 hf
    have hc1 : Try.prog.cellsOf 24 = 1 := by kernel_rfl
    have hc2 : Try.prog.cellsOf 22 = 1 := by kernel_rfl
    rw [hc1] at hs0
    obtain ⟨c0, rfl⟩ := Torus.one_cell cs0 hs0
    have hin2 : DataW.trod enc Try.prog W 0 (fun _ => true) true m 22 [c0] = some y0 := by simpa [Value.cells, hc2] using hin
    obtain ⟨A, cap, l, e, r1, r2, r3, r4⟩ := Torus.rows_C Try.underlying22 Try.underlying44 Try.underlying3 (by kernel_rfl) (by kernel_rfl) hin2
    injection e with e _
    subst e
    exact ⟨A, cap, l, rfl, r1, r2, r3, r4⟩
  obtain ⟨a1, rfl, rfl, rfl, w1⟩ := open_int Try.underlying3 (hval 1 3 v1 rfl rfl) h1
  obtain ⟨a2, rfl, rfl, rfl, w2⟩ := open_int Try.underlying3 (hval 2 3 v2 rfl rfl) h2
  clear hA0 hval0 hsz0
  obtain ⟨k, hk⟩ := Pure.FnExactTurnTorus l0 a1 a2 (Nat.le_trans hle0 hm0) hrows w1 w2
  refine (PFnExactTurnTorus.laws_FnExactTurnTorus.calls k _ _ l0 a1 a2 true W hC0 hle0  hk).mono fun e W' ⟨he, bel0⟩ => ?_
  have bel : Below W.heap.size W W' := by first | exact bel0 | exact bel0.below
  subst he
  exact ⟨_, rfl, _, _, _, [], _, [], hW', trodAll_mk1 (shut_bool Try.underlying4 _), (trodAll_cons_mk (Below.trod laidOut (by kernel_rfl) (of_decide_eq_true (by kernel_rfl)) k0 bel lt0) (trodAll_cons_mk (shut_int Try.underlying3 w1) (trodAll_cons_mk (shut_int Try.underlying3 w2) trodAll_mk0))), rfl, bel.frame _, fun h => by cases h⟩
theorem over : Rows.fnExactTurnTorusRow.holds Try.pinned (OpenSpec.ofChange Rows.fnExactTurnTorusSpec) :=
  OpenClaim.holds_of_wide 3 Try.f3 rfl rfl rfl rfl rfl rfl rfl ⟨rfl, rfl, rfl, rfl, rfl⟩ rfl rfl rfl rfl rfl (by kernel_rfl) Try.func3 (by kernel_rfl)
    (of_decide_eq_true (by kernel_rfl)) (by unfold Func.isWrapper; first | (rw [if_pos (by decide +kernel)]; kernel_rfl) | (rw [if_neg (by decide +kernel)]; exact ⟨rfl, rfl⟩))
    (fun os started H enc _ => lifted os started H enc)
theorem proved : Rows.FnExactTurnTorusSaid := over
#print axioms proved
end Go.Proofs.Ytfbafdlgnjkioaa.fnExactTurnTorus
namespace Go.Proofs.Ytfbafdlgnjkioaa
/-- The row, under a short name, for the claim. -/
theorem fnExactTurnTorus_holds : Rows.FnExactTurnTorusSaid := fnExactTurnTorus.proved
end Go.Proofs.Ytfbafdlgnjkioaa
