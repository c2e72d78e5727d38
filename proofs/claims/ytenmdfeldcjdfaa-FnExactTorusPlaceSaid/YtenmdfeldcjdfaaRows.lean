/-
  No cell of these rows narrows 'for every input' (looked for: loops, veiled, ifaces, maps, wideKeys, modest, calm, conditions, laid).
  DERIVED. THE GIVEN ROWS OF THIS SEAT. 4 by the template 'for every input the law returns true; each argument reads behind the call as it read before'; 0 by the template 'total and deterministic' (their statements: YtenmdfeldcjdfaaTotals.lean).
  GIVEN WITH THE SEED: the statements are not yours to turn. If you find one false, say at which input.
  Laid BY PROGRAM, IN A SANDBOX (cutbox-rows.mjs): the forced cells as the released guide's own fill.sh prints them over the translation ba9523527af358f4… (all of the seat's roots in one cut). By AI agents, Wed Nov 11 2026. No macro, syntax, notation, axiom, sorry.
-/
import Derived.Test.YtenmdfeldcjdfaaChecked
import GoSem.Claim
import GoSem.ClaimJoined
import GoSem.ClaimMapViews
import Derived.JoinedTies
import Derived.KernelRfl
namespace Go.Proofs.Ytenmdfeldcjdfaa
/- THE CELL 'sum', in the pinned program and in every row, IS THE sha256 OF THE DUMP (.gsa) THAT YtenmdfeldcjdfaaProg.lean LOADS. Nothing in Lean hashes anything: it is a label: what it is worth is what the hold of that sum in a sandbox is worth. -/
noncomputable def Try.pinned : Pinned := { name := "ytenmdfeldcjdfaa", sum := "ba9523527af358f4cb97b776837551b550c88f2d2997826c74b3e83af84e0e95", checked := Try.checked }
namespace Rows
def none {H : Type} : Left H := { results := [], args := [] }

/-- 'laws.FnExactPairCycle': WHATEVER THE INPUT: true; the input reads as it did. -/
def fnExactPairCycleSpec : ChangeSpec := { name := "fnExactPairCycle", fn := fun _ => fun
  | [d] => { results := [.lit (.bool true)], args := [d] }
  | _ => none }
def fnExactPairCycleRow : OpenClaim := { program := "ytenmdfeldcjdfaa", sum := "ba9523527af358f4cb97b776837551b550c88f2d2997826c74b3e83af84e0e95", func := "loop.example/g01104/laws.FnExactPairCycle", spec := "fnExactPairCycle", unfollowed := true, recurses := true, plainKeys := false, apart := false }
def FnExactPairCycleSaid : Prop := fnExactPairCycleRow.holds Try.pinned (OpenSpec.ofChange fnExactPairCycleSpec)

/-- ITS FALSE NEIGHBOUR: 'it returns false'. Refute it at one input. -/
def fnExactPairCycleWrong : ChangeSpec := { name := "fnExactPairCycle", fn := fun _ => fun
  | [d] => { results := [.lit (.bool false)], args := [d] }
  | _ => none }
def FnExactPairCycleWrongFalsely : Prop := fnExactPairCycleRow.holds Try.pinned (OpenSpec.ofChange fnExactPairCycleWrong)

/-- 'laws.FnExactIsTorus': WHATEVER THE INPUT: true; the input reads as it did. -/
def fnExactIsTorusSpec : ChangeSpec := { name := "fnExactIsTorus", fn := fun _ => fun
  | [d] => { results := [.lit (.bool true)], args := [d] }
  | _ => none }
def fnExactIsTorusRow : OpenClaim := { program := "ytenmdfeldcjdfaa", sum := "ba9523527af358f4cb97b776837551b550c88f2d2997826c74b3e83af84e0e95", func := "loop.example/g01104/laws.FnExactIsTorus", spec := "fnExactIsTorus", plainKeys := false, apart := false }
def FnExactIsTorusSaid : Prop := fnExactIsTorusRow.holds Try.pinned (OpenSpec.ofChange fnExactIsTorusSpec)

/-- ITS FALSE NEIGHBOUR: 'it returns false'. Refute it at one input. -/
def fnExactIsTorusWrong : ChangeSpec := { name := "fnExactIsTorus", fn := fun _ => fun
  | [d] => { results := [.lit (.bool false)], args := [d] }
  | _ => none }
def FnExactIsTorusWrongFalsely : Prop := fnExactIsTorusRow.holds Try.pinned (OpenSpec.ofChange fnExactIsTorusWrong)

/-- 'laws.FnExactTorusPlace': WHATEVER THE INPUT: true; the input reads as it did. -/
def fnExactTorusPlaceSpec : ChangeSpec := { name := "fnExactTorusPlace", fn := fun _ => fun
  | [d1, d2] => { results := [.lit (.bool true)], args := [d1, d2] }
  | _ => none }
def fnExactTorusPlaceRow : OpenClaim := { program := "ytenmdfeldcjdfaa", sum := "ba9523527af358f4cb97b776837551b550c88f2d2997826c74b3e83af84e0e95", func := "loop.example/g01104/laws.FnExactTorusPlace", spec := "fnExactTorusPlace", plainKeys := false, apart := false }
def FnExactTorusPlaceSaid : Prop := fnExactTorusPlaceRow.holds Try.pinned (OpenSpec.ofChange fnExactTorusPlaceSpec)

/-- ITS FALSE NEIGHBOUR: 'it returns false'. Refute it at one input. -/
def fnExactTorusPlaceWrong : ChangeSpec := { name := "fnExactTorusPlace", fn := fun _ => fun
  | [d1, d2] => { results := [.lit (.bool false)], args := [d1, d2] }
  | _ => none }
def FnExactTorusPlaceWrongFalsely : Prop := fnExactTorusPlaceRow.holds Try.pinned (OpenSpec.ofChange fnExactTorusPlaceWrong)

/-- 'laws.FnPairCycles': WHATEVER THE INPUT: true; the input reads as it did. -/
def fnPairCyclesSpec : ChangeSpec := { name := "fnPairCycles", fn := fun _ => fun
  | [d1, d2] => { results := [.lit (.bool true)], args := [d1, d2] }
  | _ => none }
def fnPairCyclesRow : OpenClaim := { program := "ytenmdfeldcjdfaa", sum := "ba9523527af358f4cb97b776837551b550c88f2d2997826c74b3e83af84e0e95", func := "loop.example/g01104/laws.FnPairCycles", spec := "fnPairCycles", unfollowed := true, recurses := true, plainKeys := false, apart := false }
def FnPairCyclesSaid : Prop := fnPairCyclesRow.holds Try.pinned (OpenSpec.ofChange fnPairCyclesSpec)

/-- ITS FALSE NEIGHBOUR: 'it returns false'. Refute it at one input. -/
def fnPairCyclesWrong : ChangeSpec := { name := "fnPairCycles", fn := fun _ => fun
  | [d1, d2] => { results := [.lit (.bool false)], args := [d1, d2] }
  | _ => none }
def FnPairCyclesWrongFalsely : Prop := fnPairCyclesRow.holds Try.pinned (OpenSpec.ofChange fnPairCyclesWrong)

/- THE SECOND FORM. 'bulk': how many values and letters a reading holds, each counted each time it is reached (what is shared counts as often as it is met; a slice's spare places count too). A statement '..UptoSaid' is the law's where the arguments, and the package variables that the reading takes, are together of bulk at most 1048576: NARROWER than '..Said'. Prove '..Said' where nothing that the law and all that it calls make is longer than what came in: it says more and counts as full. Else prove '..UptoSaid'. A law counts once. -/
mutual
def uptoBulk {H : Type} : DataW H → Nat
  | .lit (.string bytes) => bytes.length + 1
  | .lit _ => 1
  | .nil => 1
  | .ptr d => uptoBulk d + 1
  | .slice elems spare => uptoBulkAll elems + uptoBulkAll spare + 1
  | .agg parts => uptoBulkAll parts + 1
  | .iface _ d => uptoBulk d + 1
  | .map entries => uptoBulkEntries entries + 1
  | .held _ => 1
def uptoBulkAll {H : Type} : List (DataW H) → Nat
  | [] => 0
  | d :: r => uptoBulk d + uptoBulkAll r
def uptoBulkEntries {H : Type} : List (Lit × DataW H) → Nat
  | [] => 0
  | x :: r => uptoBulkEntry x + uptoBulkEntries r
def uptoBulkEntry {H : Type} : Lit × DataW H → Nat
  | (.string bytes, d) => bytes.length + uptoBulk d + 1
  | (_, d) => uptoBulk d + 1
 end
def uptoSmall : (H : Type) → List (DataW H) → Bool := fun _ ds => decide (uptoBulkAll ds ≤ 1048576)
def OpenSpec.upto (s : _root_.Go.ChangeSpec) : _root_.Go.OpenSpec := { _root_.Go.OpenSpec.ofChange s with cond := some uptoSmall }

/-- 'laws.FnExactPairCycle', WHERE WHAT IT READS IS OF BULK AT MOST 1048576: true; the input reads as it did. -/
def fnExactPairCycleUptoRow : OpenClaim := { program := "ytenmdfeldcjdfaa", sum := "ba9523527af358f4cb97b776837551b550c88f2d2997826c74b3e83af84e0e95", func := "loop.example/g01104/laws.FnExactPairCycle", spec := "fnExactPairCycle", unfollowed := true, recurses := true, plainKeys := false, apart := false, narrowed := true }
def FnExactPairCycleUptoSaid : Prop := fnExactPairCycleUptoRow.holds Try.pinned (OpenSpec.upto fnExactPairCycleSpec)

/-- 'laws.FnExactIsTorus', WHERE WHAT IT READS IS OF BULK AT MOST 1048576: true; the input reads as it did. -/
def fnExactIsTorusUptoRow : OpenClaim := { program := "ytenmdfeldcjdfaa", sum := "ba9523527af358f4cb97b776837551b550c88f2d2997826c74b3e83af84e0e95", func := "loop.example/g01104/laws.FnExactIsTorus", spec := "fnExactIsTorus", plainKeys := false, apart := false, narrowed := true }
def FnExactIsTorusUptoSaid : Prop := fnExactIsTorusUptoRow.holds Try.pinned (OpenSpec.upto fnExactIsTorusSpec)

/-- 'laws.FnExactTorusPlace', WHERE WHAT IT READS IS OF BULK AT MOST 1048576: true; the input reads as it did. -/
def fnExactTorusPlaceUptoRow : OpenClaim := { program := "ytenmdfeldcjdfaa", sum := "ba9523527af358f4cb97b776837551b550c88f2d2997826c74b3e83af84e0e95", func := "loop.example/g01104/laws.FnExactTorusPlace", spec := "fnExactTorusPlace", plainKeys := false, apart := false, narrowed := true }
def FnExactTorusPlaceUptoSaid : Prop := fnExactTorusPlaceUptoRow.holds Try.pinned (OpenSpec.upto fnExactTorusPlaceSpec)

/-- 'laws.FnPairCycles', WHERE WHAT IT READS IS OF BULK AT MOST 1048576: true; the input reads as it did. -/
def fnPairCyclesUptoRow : OpenClaim := { program := "ytenmdfeldcjdfaa", sum := "ba9523527af358f4cb97b776837551b550c88f2d2997826c74b3e83af84e0e95", func := "loop.example/g01104/laws.FnPairCycles", spec := "fnPairCycles", unfollowed := true, recurses := true, plainKeys := false, apart := false, narrowed := true }
def FnPairCyclesUptoSaid : Prop := fnPairCyclesUptoRow.holds Try.pinned (OpenSpec.upto fnPairCyclesSpec)

end Rows
end Go.Proofs.Ytenmdfeldcjdfaa
