/-
  No cell of these rows narrows 'for every input' (looked for: loops, veiled, ifaces, maps, wideKeys, modest, calm, conditions, laid).
  DERIVED. THE GIVEN ROWS OF THIS SEAT. 12 by the template 'for every input the law returns true; each argument reads behind the call as it read before'; 0 by the template 'total and deterministic' (their statements: YtdhmdlecagjohaaTotals.lean).
  GIVEN WITH THE SEED: the statements are not yours to turn. If you find one false, say at which input.
  Laid BY PROGRAM, IN A SANDBOX (cutbox-rows.mjs): the forced cells as the released guide's own fill.sh prints them over the translation 577259d49ef8e673… (all of the seat's roots in one cut). By AI agents, Wed Nov 11 2026. No macro, syntax, notation, axiom, sorry.
-/
import Derived.Test.YtdhmdlecagjohaaChecked
import GoSem.Claim
import GoSem.ClaimJoined
import GoSem.ClaimMapViews
import Derived.JoinedTies
import Derived.KernelRfl
namespace Go.Proofs.Ytdhmdlecagjohaa
/- THE CELL 'sum', in the pinned program and in every row, IS THE sha256 OF THE DUMP (.gsa) THAT YtdhmdlecagjohaaProg.lean LOADS. Nothing in Lean hashes anything: it is a label: what it is worth is what the hold of that sum in a sandbox is worth. -/
noncomputable def Try.pinned : Pinned := { name := "ytdhmdlecagjohaa", sum := "577259d49ef8e6739a2eabfacaa4327775f6cb2fc075480e025bbb9dbe115737", checked := Try.checked }
namespace Rows
def none {H : Type} : Left H := { results := [], args := [] }

/-- 'laws.FnExactSuperBound': WHATEVER THE INPUT: true; the input reads as it did. -/
def fnExactSuperBoundSpec : ChangeSpec := { name := "fnExactSuperBound", fn := fun _ => fun
  | [d] => { results := [.lit (.bool true)], args := [d] }
  | _ => none }
def fnExactSuperBoundRow : OpenClaim := { program := "ytdhmdlecagjohaa", sum := "577259d49ef8e6739a2eabfacaa4327775f6cb2fc075480e025bbb9dbe115737", func := "loop.example/g01104/laws.FnExactSuperBound", spec := "fnExactSuperBound", recurses := true, plainKeys := false, apart := false }
def FnExactSuperBoundSaid : Prop := fnExactSuperBoundRow.holds Try.pinned (OpenSpec.ofChange fnExactSuperBoundSpec)

/-- ITS FALSE NEIGHBOUR: 'it returns false'. Refute it at one input. -/
def fnExactSuperBoundWrong : ChangeSpec := { name := "fnExactSuperBound", fn := fun _ => fun
  | [d] => { results := [.lit (.bool false)], args := [d] }
  | _ => none }
def FnExactSuperBoundWrongFalsely : Prop := fnExactSuperBoundRow.holds Try.pinned (OpenSpec.ofChange fnExactSuperBoundWrong)

/-- 'laws.FnExactSuperLength': WHATEVER THE INPUT: true; the input reads as it did. -/
def fnExactSuperLengthSpec : ChangeSpec := { name := "fnExactSuperLength", fn := fun _ => fun
  | [d] => { results := [.lit (.bool true)], args := [d] }
  | _ => none }
def fnExactSuperLengthRow : OpenClaim := { program := "ytdhmdlecagjohaa", sum := "577259d49ef8e6739a2eabfacaa4327775f6cb2fc075480e025bbb9dbe115737", func := "loop.example/g01104/laws.FnExactSuperLength", spec := "fnExactSuperLength", recurses := true, plainKeys := false, apart := false }
def FnExactSuperLengthSaid : Prop := fnExactSuperLengthRow.holds Try.pinned (OpenSpec.ofChange fnExactSuperLengthSpec)

/-- ITS FALSE NEIGHBOUR: 'it returns false'. Refute it at one input. -/
def fnExactSuperLengthWrong : ChangeSpec := { name := "fnExactSuperLength", fn := fun _ => fun
  | [d] => { results := [.lit (.bool false)], args := [d] }
  | _ => none }
def FnExactSuperLengthWrongFalsely : Prop := fnExactSuperLengthRow.holds Try.pinned (OpenSpec.ofChange fnExactSuperLengthWrong)

/-- 'laws.FnExactIsCycle': WHATEVER THE INPUT: true; the input reads as it did. -/
def fnExactIsCycleSpec : ChangeSpec := { name := "fnExactIsCycle", fn := fun _ => fun
  | [d1, d2] => { results := [.lit (.bool true)], args := [d1, d2] }
  | _ => none }
def fnExactIsCycleRow : OpenClaim := { program := "ytdhmdlecagjohaa", sum := "577259d49ef8e6739a2eabfacaa4327775f6cb2fc075480e025bbb9dbe115737", func := "loop.example/g01104/laws.FnExactIsCycle", spec := "fnExactIsCycle", plainKeys := false, apart := false }
def FnExactIsCycleSaid : Prop := fnExactIsCycleRow.holds Try.pinned (OpenSpec.ofChange fnExactIsCycleSpec)

/-- ITS FALSE NEIGHBOUR: 'it returns false'. Refute it at one input. -/
def fnExactIsCycleWrong : ChangeSpec := { name := "fnExactIsCycle", fn := fun _ => fun
  | [d1, d2] => { results := [.lit (.bool false)], args := [d1, d2] }
  | _ => none }
def FnExactIsCycleWrongFalsely : Prop := fnExactIsCycleRow.holds Try.pinned (OpenSpec.ofChange fnExactIsCycleWrong)

/-- 'laws.FnExactCountBruijn': WHATEVER THE INPUT: true; the input reads as it did. -/
def fnExactCountBruijnSpec : ChangeSpec := { name := "fnExactCountBruijn", fn := fun _ => fun
  | [d1, d2] => { results := [.lit (.bool true)], args := [d1, d2] }
  | _ => none }
def fnExactCountBruijnRow : OpenClaim := { program := "ytdhmdlecagjohaa", sum := "577259d49ef8e6739a2eabfacaa4327775f6cb2fc075480e025bbb9dbe115737", func := "loop.example/g01104/laws.FnExactCountBruijn", spec := "fnExactCountBruijn", unfollowed := true, recurses := true, plainKeys := false, apart := false }
def FnExactCountBruijnSaid : Prop := fnExactCountBruijnRow.holds Try.pinned (OpenSpec.ofChange fnExactCountBruijnSpec)

/-- ITS FALSE NEIGHBOUR: 'it returns false'. Refute it at one input. -/
def fnExactCountBruijnWrong : ChangeSpec := { name := "fnExactCountBruijn", fn := fun _ => fun
  | [d1, d2] => { results := [.lit (.bool false)], args := [d1, d2] }
  | _ => none }
def FnExactCountBruijnWrongFalsely : Prop := fnExactCountBruijnRow.holds Try.pinned (OpenSpec.ofChange fnExactCountBruijnWrong)

/-- 'laws.FnExactIsPairCycle': WHATEVER THE INPUT: true; the input reads as it did. -/
def fnExactIsPairCycleSpec : ChangeSpec := { name := "fnExactIsPairCycle", fn := fun _ => fun
  | [d1, d2] => { results := [.lit (.bool true)], args := [d1, d2] }
  | _ => none }
def fnExactIsPairCycleRow : OpenClaim := { program := "ytdhmdlecagjohaa", sum := "577259d49ef8e6739a2eabfacaa4327775f6cb2fc075480e025bbb9dbe115737", func := "loop.example/g01104/laws.FnExactIsPairCycle", spec := "fnExactIsPairCycle", plainKeys := false, apart := false }
def FnExactIsPairCycleSaid : Prop := fnExactIsPairCycleRow.holds Try.pinned (OpenSpec.ofChange fnExactIsPairCycleSpec)

/-- ITS FALSE NEIGHBOUR: 'it returns false'. Refute it at one input. -/
def fnExactIsPairCycleWrong : ChangeSpec := { name := "fnExactIsPairCycle", fn := fun _ => fun
  | [d1, d2] => { results := [.lit (.bool false)], args := [d1, d2] }
  | _ => none }
def FnExactIsPairCycleWrongFalsely : Prop := fnExactIsPairCycleRow.holds Try.pinned (OpenSpec.ofChange fnExactIsPairCycleWrong)

/-- 'laws.FnExactWindowAt': WHATEVER THE INPUT: true; the input reads as it did. -/
def fnExactWindowAtSpec : ChangeSpec := { name := "fnExactWindowAt", fn := fun _ => fun
  | [d1, d2, d3] => { results := [.lit (.bool true)], args := [d1, d2, d3] }
  | _ => none }
def fnExactWindowAtRow : OpenClaim := { program := "ytdhmdlecagjohaa", sum := "577259d49ef8e6739a2eabfacaa4327775f6cb2fc075480e025bbb9dbe115737", func := "loop.example/g01104/laws.FnExactWindowAt", spec := "fnExactWindowAt", plainKeys := false, apart := false }
def FnExactWindowAtSaid : Prop := fnExactWindowAtRow.holds Try.pinned (OpenSpec.ofChange fnExactWindowAtSpec)

/-- ITS FALSE NEIGHBOUR: 'it returns false'. Refute it at one input. -/
def fnExactWindowAtWrong : ChangeSpec := { name := "fnExactWindowAt", fn := fun _ => fun
  | [d1, d2, d3] => { results := [.lit (.bool false)], args := [d1, d2, d3] }
  | _ => none }
def FnExactWindowAtWrongFalsely : Prop := fnExactWindowAtRow.holds Try.pinned (OpenSpec.ofChange fnExactWindowAtWrong)

/-- 'laws.FnExactPairPlace': WHATEVER THE INPUT: true; the input reads as it did. -/
def fnExactPairPlaceSpec : ChangeSpec := { name := "fnExactPairPlace", fn := fun _ => fun
  | [d1, d2, d3, d4] => { results := [.lit (.bool true)], args := [d1, d2, d3, d4] }
  | _ => none }
def fnExactPairPlaceRow : OpenClaim := { program := "ytdhmdlecagjohaa", sum := "577259d49ef8e6739a2eabfacaa4327775f6cb2fc075480e025bbb9dbe115737", func := "loop.example/g01104/laws.FnExactPairPlace", spec := "fnExactPairPlace", plainKeys := false, apart := false }
def FnExactPairPlaceSaid : Prop := fnExactPairPlaceRow.holds Try.pinned (OpenSpec.ofChange fnExactPairPlaceSpec)

/-- ITS FALSE NEIGHBOUR: 'it returns false'. Refute it at one input. -/
def fnExactPairPlaceWrong : ChangeSpec := { name := "fnExactPairPlace", fn := fun _ => fun
  | [d1, d2, d3, d4] => { results := [.lit (.bool false)], args := [d1, d2, d3, d4] }
  | _ => none }
def FnExactPairPlaceWrongFalsely : Prop := fnExactPairPlaceRow.holds Try.pinned (OpenSpec.ofChange fnExactPairPlaceWrong)

/-- 'laws.FnExactEulerBruijn': WHATEVER THE INPUT: true; the input reads as it did. -/
def fnExactEulerBruijnSpec : ChangeSpec := { name := "fnExactEulerBruijn", fn := fun _ => fun
  | [d1, d2] => { results := [.lit (.bool true)], args := [d1, d2] }
  | _ => none }
def fnExactEulerBruijnRow : OpenClaim := { program := "ytdhmdlecagjohaa", sum := "577259d49ef8e6739a2eabfacaa4327775f6cb2fc075480e025bbb9dbe115737", func := "loop.example/g01104/laws.FnExactEulerBruijn", spec := "fnExactEulerBruijn", plainKeys := false, apart := false }
def FnExactEulerBruijnSaid : Prop := fnExactEulerBruijnRow.holds Try.pinned (OpenSpec.ofChange fnExactEulerBruijnSpec)

/-- ITS FALSE NEIGHBOUR: 'it returns false'. Refute it at one input. -/
def fnExactEulerBruijnWrong : ChangeSpec := { name := "fnExactEulerBruijn", fn := fun _ => fun
  | [d1, d2] => { results := [.lit (.bool false)], args := [d1, d2] }
  | _ => none }
def FnExactEulerBruijnWrongFalsely : Prop := fnExactEulerBruijnRow.holds Try.pinned (OpenSpec.ofChange fnExactEulerBruijnWrong)

/-- 'laws.FnExactGreedyBruijn': WHATEVER THE INPUT: true; the input reads as it did. -/
def fnExactGreedyBruijnSpec : ChangeSpec := { name := "fnExactGreedyBruijn", fn := fun _ => fun
  | [d1, d2] => { results := [.lit (.bool true)], args := [d1, d2] }
  | _ => none }
def fnExactGreedyBruijnRow : OpenClaim := { program := "ytdhmdlecagjohaa", sum := "577259d49ef8e6739a2eabfacaa4327775f6cb2fc075480e025bbb9dbe115737", func := "loop.example/g01104/laws.FnExactGreedyBruijn", spec := "fnExactGreedyBruijn", plainKeys := false, apart := false }
def FnExactGreedyBruijnSaid : Prop := fnExactGreedyBruijnRow.holds Try.pinned (OpenSpec.ofChange fnExactGreedyBruijnSpec)

/-- ITS FALSE NEIGHBOUR: 'it returns false'. Refute it at one input. -/
def fnExactGreedyBruijnWrong : ChangeSpec := { name := "fnExactGreedyBruijn", fn := fun _ => fun
  | [d1, d2] => { results := [.lit (.bool false)], args := [d1, d2] }
  | _ => none }
def FnExactGreedyBruijnWrongFalsely : Prop := fnExactGreedyBruijnRow.holds Try.pinned (OpenSpec.ofChange fnExactGreedyBruijnWrong)

/-- 'laws.FnExactSpreadOf': WHATEVER THE INPUT: true; the input reads as it did. -/
def fnExactSpreadOfSpec : ChangeSpec := { name := "fnExactSpreadOf", fn := fun _ => fun
  | [d1, d2] => { results := [.lit (.bool true)], args := [d1, d2] }
  | _ => none }
def fnExactSpreadOfRow : OpenClaim := { program := "ytdhmdlecagjohaa", sum := "577259d49ef8e6739a2eabfacaa4327775f6cb2fc075480e025bbb9dbe115737", func := "loop.example/g01104/laws.FnExactSpreadOf", spec := "fnExactSpreadOf", plainKeys := false, apart := false }
def FnExactSpreadOfSaid : Prop := fnExactSpreadOfRow.holds Try.pinned (OpenSpec.ofChange fnExactSpreadOfSpec)

/-- ITS FALSE NEIGHBOUR: 'it returns false'. Refute it at one input. -/
def fnExactSpreadOfWrong : ChangeSpec := { name := "fnExactSpreadOf", fn := fun _ => fun
  | [d1, d2] => { results := [.lit (.bool false)], args := [d1, d2] }
  | _ => none }
def FnExactSpreadOfWrongFalsely : Prop := fnExactSpreadOfRow.holds Try.pinned (OpenSpec.ofChange fnExactSpreadOfWrong)

/-- 'laws.FnExactPlacesOf': WHATEVER THE INPUT: true; the input reads as it did. -/
def fnExactPlacesOfSpec : ChangeSpec := { name := "fnExactPlacesOf", fn := fun _ => fun
  | [d1, d2] => { results := [.lit (.bool true)], args := [d1, d2] }
  | _ => none }
def fnExactPlacesOfRow : OpenClaim := { program := "ytdhmdlecagjohaa", sum := "577259d49ef8e6739a2eabfacaa4327775f6cb2fc075480e025bbb9dbe115737", func := "loop.example/g01104/laws.FnExactPlacesOf", spec := "fnExactPlacesOf", plainKeys := false, apart := false }
def FnExactPlacesOfSaid : Prop := fnExactPlacesOfRow.holds Try.pinned (OpenSpec.ofChange fnExactPlacesOfSpec)

/-- ITS FALSE NEIGHBOUR: 'it returns false'. Refute it at one input. -/
def fnExactPlacesOfWrong : ChangeSpec := { name := "fnExactPlacesOf", fn := fun _ => fun
  | [d1, d2] => { results := [.lit (.bool false)], args := [d1, d2] }
  | _ => none }
def FnExactPlacesOfWrongFalsely : Prop := fnExactPlacesOfRow.holds Try.pinned (OpenSpec.ofChange fnExactPlacesOfWrong)

/-- 'laws.FnExactSafeLength': WHATEVER THE INPUT: true; the input reads as it did. -/
def fnExactSafeLengthSpec : ChangeSpec := { name := "fnExactSafeLength", fn := fun _ => fun
  | [d] => { results := [.lit (.bool true)], args := [d] }
  | _ => none }
def fnExactSafeLengthRow : OpenClaim := { program := "ytdhmdlecagjohaa", sum := "577259d49ef8e6739a2eabfacaa4327775f6cb2fc075480e025bbb9dbe115737", func := "loop.example/g01104/laws.FnExactSafeLength", spec := "fnExactSafeLength", plainKeys := false, apart := false }
def FnExactSafeLengthSaid : Prop := fnExactSafeLengthRow.holds Try.pinned (OpenSpec.ofChange fnExactSafeLengthSpec)

/-- ITS FALSE NEIGHBOUR: 'it returns false'. Refute it at one input. -/
def fnExactSafeLengthWrong : ChangeSpec := { name := "fnExactSafeLength", fn := fun _ => fun
  | [d] => { results := [.lit (.bool false)], args := [d] }
  | _ => none }
def FnExactSafeLengthWrongFalsely : Prop := fnExactSafeLengthRow.holds Try.pinned (OpenSpec.ofChange fnExactSafeLengthWrong)

/- THE SECOND FORM. 'bulk': how many values and letters a reading holds, each counted each time it is reached (what is shared counts as often as it is met; a slice's spare places count too). A statement '..UptoSaid' is the law's where the arguments, and the package variables that the reading takes, are together of bulk at most 1048576: NARROWER than '..Said'. Prove '..Said' where nothing that the law and all that it calls make is longer than what came in: it says more and counts as full. Else prove '..UptoSaid'. A law counts once. -/
mutual
def uptoBulk {H : Type} : DataW H → Nat
  | .lit (.string bytes) => bytes.length + 1
  | .lit _ => 1
  | .nil => 1
  | .ptr d => uptoBulk d + 1
  | .slice elems spare => uptoBulkAll elems + uptoBulkAll spare + 1
  | .agg parts => uptoBulkAll parts + 1
  | .iface _ d => uptoBulk d + 1
  | .map entries => uptoBulkEntries entries + 1
  | .held _ => 1
def uptoBulkAll {H : Type} : List (DataW H) → Nat
  | [] => 0
  | d :: r => uptoBulk d + uptoBulkAll r
def uptoBulkEntries {H : Type} : List (Lit × DataW H) → Nat
  | [] => 0
  | x :: r => uptoBulkEntry x + uptoBulkEntries r
def uptoBulkEntry {H : Type} : Lit × DataW H → Nat
  | (.string bytes, d) => bytes.length + uptoBulk d + 1
  | (_, d) => uptoBulk d + 1
 end
def uptoSmall : (H : Type) → List (DataW H) → Bool := fun _ ds => decide (uptoBulkAll ds ≤ 1048576)
def OpenSpec.upto (s : _root_.Go.ChangeSpec) : _root_.Go.OpenSpec := { _root_.Go.OpenSpec.ofChange s with cond := some uptoSmall }

/-- 'laws.FnExactSuperBound', WHERE WHAT IT READS IS OF BULK AT MOST 1048576: true; the input reads as it did. -/
def fnExactSuperBoundUptoRow : OpenClaim := { program := "ytdhmdlecagjohaa", sum := "577259d49ef8e6739a2eabfacaa4327775f6cb2fc075480e025bbb9dbe115737", func := "loop.example/g01104/laws.FnExactSuperBound", spec := "fnExactSuperBound", recurses := true, plainKeys := false, apart := false, narrowed := true }
def FnExactSuperBoundUptoSaid : Prop := fnExactSuperBoundUptoRow.holds Try.pinned (OpenSpec.upto fnExactSuperBoundSpec)

/-- 'laws.FnExactSuperLength', WHERE WHAT IT READS IS OF BULK AT MOST 1048576: true; the input reads as it did. -/
def fnExactSuperLengthUptoRow : OpenClaim := { program := "ytdhmdlecagjohaa", sum := "577259d49ef8e6739a2eabfacaa4327775f6cb2fc075480e025bbb9dbe115737", func := "loop.example/g01104/laws.FnExactSuperLength", spec := "fnExactSuperLength", recurses := true, plainKeys := false, apart := false, narrowed := true }
def FnExactSuperLengthUptoSaid : Prop := fnExactSuperLengthUptoRow.holds Try.pinned (OpenSpec.upto fnExactSuperLengthSpec)

/-- 'laws.FnExactIsCycle', WHERE WHAT IT READS IS OF BULK AT MOST 1048576: true; the input reads as it did. -/
def fnExactIsCycleUptoRow : OpenClaim := { program := "ytdhmdlecagjohaa", sum := "577259d49ef8e6739a2eabfacaa4327775f6cb2fc075480e025bbb9dbe115737", func := "loop.example/g01104/laws.FnExactIsCycle", spec := "fnExactIsCycle", plainKeys := false, apart := false, narrowed := true }
def FnExactIsCycleUptoSaid : Prop := fnExactIsCycleUptoRow.holds Try.pinned (OpenSpec.upto fnExactIsCycleSpec)

/-- 'laws.FnExactCountBruijn', WHERE WHAT IT READS IS OF BULK AT MOST 1048576: true; the input reads as it did. -/
def fnExactCountBruijnUptoRow : OpenClaim := { program := "ytdhmdlecagjohaa", sum := "577259d49ef8e6739a2eabfacaa4327775f6cb2fc075480e025bbb9dbe115737", func := "loop.example/g01104/laws.FnExactCountBruijn", spec := "fnExactCountBruijn", unfollowed := true, recurses := true, plainKeys := false, apart := false, narrowed := true }
def FnExactCountBruijnUptoSaid : Prop := fnExactCountBruijnUptoRow.holds Try.pinned (OpenSpec.upto fnExactCountBruijnSpec)

/-- 'laws.FnExactIsPairCycle', WHERE WHAT IT READS IS OF BULK AT MOST 1048576: true; the input reads as it did. -/
def fnExactIsPairCycleUptoRow : OpenClaim := { program := "ytdhmdlecagjohaa", sum := "577259d49ef8e6739a2eabfacaa4327775f6cb2fc075480e025bbb9dbe115737", func := "loop.example/g01104/laws.FnExactIsPairCycle", spec := "fnExactIsPairCycle", plainKeys := false, apart := false, narrowed := true }
def FnExactIsPairCycleUptoSaid : Prop := fnExactIsPairCycleUptoRow.holds Try.pinned (OpenSpec.upto fnExactIsPairCycleSpec)

/-- 'laws.FnExactWindowAt', WHERE WHAT IT READS IS OF BULK AT MOST 1048576: true; the input reads as it did. -/
def fnExactWindowAtUptoRow : OpenClaim := { program := "ytdhmdlecagjohaa", sum := "577259d49ef8e6739a2eabfacaa4327775f6cb2fc075480e025bbb9dbe115737", func := "loop.example/g01104/laws.FnExactWindowAt", spec := "fnExactWindowAt", plainKeys := false, apart := false, narrowed := true }
def FnExactWindowAtUptoSaid : Prop := fnExactWindowAtUptoRow.holds Try.pinned (OpenSpec.upto fnExactWindowAtSpec)

/-- 'laws.FnExactPairPlace', WHERE WHAT IT READS IS OF BULK AT MOST 1048576: true; the input reads as it did. -/
def fnExactPairPlaceUptoRow : OpenClaim := { program := "ytdhmdlecagjohaa", sum := "577259d49ef8e6739a2eabfacaa4327775f6cb2fc075480e025bbb9dbe115737", func := "loop.example/g01104/laws.FnExactPairPlace", spec := "fnExactPairPlace", plainKeys := false, apart := false, narrowed := true }
def FnExactPairPlaceUptoSaid : Prop := fnExactPairPlaceUptoRow.holds Try.pinned (OpenSpec.upto fnExactPairPlaceSpec)

/-- 'laws.FnExactEulerBruijn', WHERE WHAT IT READS IS OF BULK AT MOST 1048576: true; the input reads as it did. -/
def fnExactEulerBruijnUptoRow : OpenClaim := { program := "ytdhmdlecagjohaa", sum := "577259d49ef8e6739a2eabfacaa4327775f6cb2fc075480e025bbb9dbe115737", func := "loop.example/g01104/laws.FnExactEulerBruijn", spec := "fnExactEulerBruijn", plainKeys := false, apart := false, narrowed := true }
def FnExactEulerBruijnUptoSaid : Prop := fnExactEulerBruijnUptoRow.holds Try.pinned (OpenSpec.upto fnExactEulerBruijnSpec)

/-- 'laws.FnExactGreedyBruijn', WHERE WHAT IT READS IS OF BULK AT MOST 1048576: true; the input reads as it did. -/
def fnExactGreedyBruijnUptoRow : OpenClaim := { program := "ytdhmdlecagjohaa", sum := "577259d49ef8e6739a2eabfacaa4327775f6cb2fc075480e025bbb9dbe115737", func := "loop.example/g01104/laws.FnExactGreedyBruijn", spec := "fnExactGreedyBruijn", plainKeys := false, apart := false, narrowed := true }
def FnExactGreedyBruijnUptoSaid : Prop := fnExactGreedyBruijnUptoRow.holds Try.pinned (OpenSpec.upto fnExactGreedyBruijnSpec)

/-- 'laws.FnExactSpreadOf', WHERE WHAT IT READS IS OF BULK AT MOST 1048576: true; the input reads as it did. -/
def fnExactSpreadOfUptoRow : OpenClaim := { program := "ytdhmdlecagjohaa", sum := "577259d49ef8e6739a2eabfacaa4327775f6cb2fc075480e025bbb9dbe115737", func := "loop.example/g01104/laws.FnExactSpreadOf", spec := "fnExactSpreadOf", plainKeys := false, apart := false, narrowed := true }
def FnExactSpreadOfUptoSaid : Prop := fnExactSpreadOfUptoRow.holds Try.pinned (OpenSpec.upto fnExactSpreadOfSpec)

/-- 'laws.FnExactPlacesOf', WHERE WHAT IT READS IS OF BULK AT MOST 1048576: true; the input reads as it did. -/
def fnExactPlacesOfUptoRow : OpenClaim := { program := "ytdhmdlecagjohaa", sum := "577259d49ef8e6739a2eabfacaa4327775f6cb2fc075480e025bbb9dbe115737", func := "loop.example/g01104/laws.FnExactPlacesOf", spec := "fnExactPlacesOf", plainKeys := false, apart := false, narrowed := true }
def FnExactPlacesOfUptoSaid : Prop := fnExactPlacesOfUptoRow.holds Try.pinned (OpenSpec.upto fnExactPlacesOfSpec)

/-- 'laws.FnExactSafeLength', WHERE WHAT IT READS IS OF BULK AT MOST 1048576: true; the input reads as it did. -/
def fnExactSafeLengthUptoRow : OpenClaim := { program := "ytdhmdlecagjohaa", sum := "577259d49ef8e6739a2eabfacaa4327775f6cb2fc075480e025bbb9dbe115737", func := "loop.example/g01104/laws.FnExactSafeLength", spec := "fnExactSafeLength", plainKeys := false, apart := false, narrowed := true }
def FnExactSafeLengthUptoSaid : Prop := fnExactSafeLengthUptoRow.holds Try.pinned (OpenSpec.upto fnExactSafeLengthSpec)

end Rows
end Go.Proofs.Ytdhmdlecagjohaa
