/-
  No cell of these rows narrows 'for every input' (looked for: loops, veiled, ifaces, maps, wideKeys, modest, calm, conditions, laid).
  DERIVED. THE GIVEN ROWS OF THIS SEAT. 11 by the template 'for every input the law returns true; each argument reads behind the call as it read before'; 0 by the template 'total and deterministic' (their statements: YtaimmgonhanhoaaTotals.lean).
  GIVEN WITH THE SEED: the statements are not yours to turn. If you find one false, say at which input.
  Laid BY PROGRAM, IN A SANDBOX (cutbox-rows.mjs): the forced cells as the released guide's own fill.sh prints them over the translation 1cd546d1124a2de5… (all of the seat's roots in one cut). By AI agents, Wed Nov 11 2026. No macro, syntax, notation, axiom, sorry.
-/
import Derived.Test.YtaimmgonhanhoaaChecked
import GoSem.Claim
import GoSem.ClaimJoined
import GoSem.ClaimMapViews
import Derived.JoinedTies
import Derived.KernelRfl
namespace Go.Proofs.Ytaimmgonhanhoaa
/- THE CELL 'sum', in the pinned program and in every row, IS THE sha256 OF THE DUMP (.gsa) THAT YtaimmgonhanhoaaProg.lean LOADS. Nothing in Lean hashes anything: it is a label: what it is worth is what the hold of that sum in a sandbox is worth. -/
noncomputable def Try.pinned : Pinned := { name := "ytaimmgonhanhoaa", sum := "1cd546d1124a2de5b870e61776fc7cebbdaa660e4f0597d6f27ba0a8b5b3c476", checked := Try.checked }
namespace Rows
def none {H : Type} : Left H := { results := [], args := [] }

/-- 'laws.FnPairCycles': WHATEVER THE INPUT: true; the input reads as it did. -/
def fnPairCyclesSpec : ChangeSpec := { name := "fnPairCycles", fn := fun _ => fun
  | [d1, d2] => { results := [.lit (.bool true)], args := [d1, d2] }
  | _ => none }
def fnPairCyclesRow : OpenClaim := { program := "ytaimmgonhanhoaa", sum := "1cd546d1124a2de5b870e61776fc7cebbdaa660e4f0597d6f27ba0a8b5b3c476", func := "loop.example/g01104/laws.FnPairCycles", spec := "fnPairCycles", unfollowed := true, recurses := true, plainKeys := false, apart := false }
def FnPairCyclesSaid : Prop := fnPairCyclesRow.holds Try.pinned (OpenSpec.ofChange fnPairCyclesSpec)

/-- ITS FALSE NEIGHBOUR: 'it returns false'. Refute it at one input. -/
def fnPairCyclesWrong : ChangeSpec := { name := "fnPairCycles", fn := fun _ => fun
  | [d1, d2] => { results := [.lit (.bool false)], args := [d1, d2] }
  | _ => none }
def FnPairCyclesWrongFalsely : Prop := fnPairCyclesRow.holds Try.pinned (OpenSpec.ofChange fnPairCyclesWrong)

/-- 'laws.FnMendedTapes': WHATEVER THE INPUT: true; the input reads as it did. -/
def fnMendedTapesSpec : ChangeSpec := { name := "fnMendedTapes", fn := fun _ => fun
  | [d1, d2] => { results := [.lit (.bool true)], args := [d1, d2] }
  | _ => none }
def fnMendedTapesRow : OpenClaim := { program := "ytaimmgonhanhoaa", sum := "1cd546d1124a2de5b870e61776fc7cebbdaa660e4f0597d6f27ba0a8b5b3c476", func := "loop.example/g01104/laws.FnMendedTapes", spec := "fnMendedTapes", plainKeys := false, apart := false }
def FnMendedTapesSaid : Prop := fnMendedTapesRow.holds Try.pinned (OpenSpec.ofChange fnMendedTapesSpec)

/-- ITS FALSE NEIGHBOUR: 'it returns false'. Refute it at one input. -/
def fnMendedTapesWrong : ChangeSpec := { name := "fnMendedTapes", fn := fun _ => fun
  | [d1, d2] => { results := [.lit (.bool false)], args := [d1, d2] }
  | _ => none }
def FnMendedTapesWrongFalsely : Prop := fnMendedTapesRow.holds Try.pinned (OpenSpec.ofChange fnMendedTapesWrong)

/-- 'laws.FnNecklacesCounted': WHATEVER THE INPUT: true; the input reads as it did. -/
def fnNecklacesCountedSpec : ChangeSpec := { name := "fnNecklacesCounted", fn := fun _ => fun
  | [d1, d2] => { results := [.lit (.bool true)], args := [d1, d2] }
  | _ => none }
def fnNecklacesCountedRow : OpenClaim := { program := "ytaimmgonhanhoaa", sum := "1cd546d1124a2de5b870e61776fc7cebbdaa660e4f0597d6f27ba0a8b5b3c476", func := "loop.example/g01104/laws.FnNecklacesCounted", spec := "fnNecklacesCounted", unfollowed := true, recurses := true, plainKeys := false, apart := false }
def FnNecklacesCountedSaid : Prop := fnNecklacesCountedRow.holds Try.pinned (OpenSpec.ofChange fnNecklacesCountedSpec)

/-- ITS FALSE NEIGHBOUR: 'it returns false'. Refute it at one input. -/
def fnNecklacesCountedWrong : ChangeSpec := { name := "fnNecklacesCounted", fn := fun _ => fun
  | [d1, d2] => { results := [.lit (.bool false)], args := [d1, d2] }
  | _ => none }
def FnNecklacesCountedWrongFalsely : Prop := fnNecklacesCountedRow.holds Try.pinned (OpenSpec.ofChange fnNecklacesCountedWrong)

/-- 'laws.FnTori': WHATEVER THE INPUT: true; the input reads as it did. -/
def fnToriSpec : ChangeSpec := { name := "fnTori", fn := fun _ => fun
  | [d1, d2] => { results := [.lit (.bool true)], args := [d1, d2] }
  | _ => none }
def fnToriRow : OpenClaim := { program := "ytaimmgonhanhoaa", sum := "1cd546d1124a2de5b870e61776fc7cebbdaa660e4f0597d6f27ba0a8b5b3c476", func := "loop.example/g01104/laws.FnTori", spec := "fnTori", unfollowed := true, recurses := true, plainKeys := false, apart := false }
def FnToriSaid : Prop := fnToriRow.holds Try.pinned (OpenSpec.ofChange fnToriSpec)

/-- ITS FALSE NEIGHBOUR: 'it returns false'. Refute it at one input. -/
def fnToriWrong : ChangeSpec := { name := "fnTori", fn := fun _ => fun
  | [d1, d2] => { results := [.lit (.bool false)], args := [d1, d2] }
  | _ => none }
def FnToriWrongFalsely : Prop := fnToriRow.holds Try.pinned (OpenSpec.ofChange fnToriWrong)

/-- 'laws.FnWordsAreRead': WHATEVER THE INPUT: true; the input reads as it did. -/
def fnWordsAreReadSpec : ChangeSpec := { name := "fnWordsAreRead", fn := fun _ => fun
  | [d1, d2] => { results := [.lit (.bool true)], args := [d1, d2] }
  | _ => none }
def fnWordsAreReadRow : OpenClaim := { program := "ytaimmgonhanhoaa", sum := "1cd546d1124a2de5b870e61776fc7cebbdaa660e4f0597d6f27ba0a8b5b3c476", func := "loop.example/g01104/laws.FnWordsAreRead", spec := "fnWordsAreRead", plainKeys := false, apart := false }
def FnWordsAreReadSaid : Prop := fnWordsAreReadRow.holds Try.pinned (OpenSpec.ofChange fnWordsAreReadSpec)

/-- ITS FALSE NEIGHBOUR: 'it returns false'. Refute it at one input. -/
def fnWordsAreReadWrong : ChangeSpec := { name := "fnWordsAreRead", fn := fun _ => fun
  | [d1, d2] => { results := [.lit (.bool false)], args := [d1, d2] }
  | _ => none }
def FnWordsAreReadWrongFalsely : Prop := fnWordsAreReadRow.holds Try.pinned (OpenSpec.ofChange fnWordsAreReadWrong)

/-- 'laws.FnExactOrderOf': WHATEVER THE INPUT: true; the input reads as it did. -/
def fnExactOrderOfSpec : ChangeSpec := { name := "fnExactOrderOf", fn := fun _ => fun
  | [d] => { results := [.lit (.bool true)], args := [d] }
  | _ => none }
def fnExactOrderOfRow : OpenClaim := { program := "ytaimmgonhanhoaa", sum := "1cd546d1124a2de5b870e61776fc7cebbdaa660e4f0597d6f27ba0a8b5b3c476", func := "loop.example/g01104/laws.FnExactOrderOf", spec := "fnExactOrderOf", unfollowed := true, recurses := true, plainKeys := false, apart := false }
def FnExactOrderOfSaid : Prop := fnExactOrderOfRow.holds Try.pinned (OpenSpec.ofChange fnExactOrderOfSpec)

/-- ITS FALSE NEIGHBOUR: 'it returns false'. Refute it at one input. -/
def fnExactOrderOfWrong : ChangeSpec := { name := "fnExactOrderOf", fn := fun _ => fun
  | [d] => { results := [.lit (.bool false)], args := [d] }
  | _ => none }
def FnExactOrderOfWrongFalsely : Prop := fnExactOrderOfRow.holds Try.pinned (OpenSpec.ofChange fnExactOrderOfWrong)

/-- 'laws.FnExactIsBruijn': WHATEVER THE INPUT: true; the input reads as it did. -/
def fnExactIsBruijnSpec : ChangeSpec := { name := "fnExactIsBruijn", fn := fun _ => fun
  | [d1, d2, d3] => { results := [.lit (.bool true)], args := [d1, d2, d3] }
  | _ => none }
def fnExactIsBruijnRow : OpenClaim := { program := "ytaimmgonhanhoaa", sum := "1cd546d1124a2de5b870e61776fc7cebbdaa660e4f0597d6f27ba0a8b5b3c476", func := "loop.example/g01104/laws.FnExactIsBruijn", spec := "fnExactIsBruijn", unfollowed := true, recurses := true, plainKeys := false, apart := false }
def FnExactIsBruijnSaid : Prop := fnExactIsBruijnRow.holds Try.pinned (OpenSpec.ofChange fnExactIsBruijnSpec)

/-- ITS FALSE NEIGHBOUR: 'it returns false'. Refute it at one input. -/
def fnExactIsBruijnWrong : ChangeSpec := { name := "fnExactIsBruijn", fn := fun _ => fun
  | [d1, d2, d3] => { results := [.lit (.bool false)], args := [d1, d2, d3] }
  | _ => none }
def FnExactIsBruijnWrongFalsely : Prop := fnExactIsBruijnRow.holds Try.pinned (OpenSpec.ofChange fnExactIsBruijnWrong)

/-- 'laws.FnExactWastedIn': WHATEVER THE INPUT: true; the input reads as it did. -/
def fnExactWastedInSpec : ChangeSpec := { name := "fnExactWastedIn", fn := fun _ => fun
  | [d1, d2] => { results := [.lit (.bool true)], args := [d1, d2] }
  | _ => none }
def fnExactWastedInRow : OpenClaim := { program := "ytaimmgonhanhoaa", sum := "1cd546d1124a2de5b870e61776fc7cebbdaa660e4f0597d6f27ba0a8b5b3c476", func := "loop.example/g01104/laws.FnExactWastedIn", spec := "fnExactWastedIn", unfollowed := true, recurses := true, plainKeys := false, apart := false }
def FnExactWastedInSaid : Prop := fnExactWastedInRow.holds Try.pinned (OpenSpec.ofChange fnExactWastedInSpec)

/-- ITS FALSE NEIGHBOUR: 'it returns false'. Refute it at one input. -/
def fnExactWastedInWrong : ChangeSpec := { name := "fnExactWastedIn", fn := fun _ => fun
  | [d1, d2] => { results := [.lit (.bool false)], args := [d1, d2] }
  | _ => none }
def FnExactWastedInWrongFalsely : Prop := fnExactWastedInRow.holds Try.pinned (OpenSpec.ofChange fnExactWastedInWrong)

/-- 'laws.FnExactIsSuper': WHATEVER THE INPUT: true; the input reads as it did. -/
def fnExactIsSuperSpec : ChangeSpec := { name := "fnExactIsSuper", fn := fun _ => fun
  | [d1, d2] => { results := [.lit (.bool true)], args := [d1, d2] }
  | _ => none }
def fnExactIsSuperRow : OpenClaim := { program := "ytaimmgonhanhoaa", sum := "1cd546d1124a2de5b870e61776fc7cebbdaa660e4f0597d6f27ba0a8b5b3c476", func := "loop.example/g01104/laws.FnExactIsSuper", spec := "fnExactIsSuper", unfollowed := true, recurses := true, plainKeys := false, apart := false }
def FnExactIsSuperSaid : Prop := fnExactIsSuperRow.holds Try.pinned (OpenSpec.ofChange fnExactIsSuperSpec)

/-- ITS FALSE NEIGHBOUR: 'it returns false'. Refute it at one input. -/
def fnExactIsSuperWrong : ChangeSpec := { name := "fnExactIsSuper", fn := fun _ => fun
  | [d1, d2] => { results := [.lit (.bool false)], args := [d1, d2] }
  | _ => none }
def FnExactIsSuperWrongFalsely : Prop := fnExactIsSuperRow.holds Try.pinned (OpenSpec.ofChange fnExactIsSuperWrong)

/-- 'laws.FnExactIsOrderCycle': WHATEVER THE INPUT: true; the input reads as it did. -/
def fnExactIsOrderCycleSpec : ChangeSpec := { name := "fnExactIsOrderCycle", fn := fun _ => fun
  | [d1, d2] => { results := [.lit (.bool true)], args := [d1, d2] }
  | _ => none }
def fnExactIsOrderCycleRow : OpenClaim := { program := "ytaimmgonhanhoaa", sum := "1cd546d1124a2de5b870e61776fc7cebbdaa660e4f0597d6f27ba0a8b5b3c476", func := "loop.example/g01104/laws.FnExactIsOrderCycle", spec := "fnExactIsOrderCycle", unfollowed := true, recurses := true, plainKeys := false, apart := false }
def FnExactIsOrderCycleSaid : Prop := fnExactIsOrderCycleRow.holds Try.pinned (OpenSpec.ofChange fnExactIsOrderCycleSpec)

/-- ITS FALSE NEIGHBOUR: 'it returns false'. Refute it at one input. -/
def fnExactIsOrderCycleWrong : ChangeSpec := { name := "fnExactIsOrderCycle", fn := fun _ => fun
  | [d1, d2] => { results := [.lit (.bool false)], args := [d1, d2] }
  | _ => none }
def FnExactIsOrderCycleWrongFalsely : Prop := fnExactIsOrderCycleRow.holds Try.pinned (OpenSpec.ofChange fnExactIsOrderCycleWrong)

/-- 'laws.FnExactRanksIn': WHATEVER THE INPUT: true; the input reads as it did. -/
def fnExactRanksInSpec : ChangeSpec := { name := "fnExactRanksIn", fn := fun _ => fun
  | [d1, d2] => { results := [.lit (.bool true)], args := [d1, d2] }
  | _ => none }
def fnExactRanksInRow : OpenClaim := { program := "ytaimmgonhanhoaa", sum := "1cd546d1124a2de5b870e61776fc7cebbdaa660e4f0597d6f27ba0a8b5b3c476", func := "loop.example/g01104/laws.FnExactRanksIn", spec := "fnExactRanksIn", unfollowed := true, recurses := true, plainKeys := false, apart := false }
def FnExactRanksInSaid : Prop := fnExactRanksInRow.holds Try.pinned (OpenSpec.ofChange fnExactRanksInSpec)

/-- ITS FALSE NEIGHBOUR: 'it returns false'. Refute it at one input. -/
def fnExactRanksInWrong : ChangeSpec := { name := "fnExactRanksIn", fn := fun _ => fun
  | [d1, d2] => { results := [.lit (.bool false)], args := [d1, d2] }
  | _ => none }
def FnExactRanksInWrongFalsely : Prop := fnExactRanksInRow.holds Try.pinned (OpenSpec.ofChange fnExactRanksInWrong)

/- THE SECOND FORM. 'bulk': how many values and letters a reading holds, each counted each time it is reached (what is shared counts as often as it is met; a slice's spare places count too). A statement '..UptoSaid' is the law's where the arguments, and the package variables that the reading takes, are together of bulk at most 1048576: NARROWER than '..Said'. Prove '..Said' where nothing that the law and all that it calls make is longer than what came in: it says more and counts as full. Else prove '..UptoSaid'. A law counts once. -/
mutual
def uptoBulk {H : Type} : DataW H → Nat
  | .lit (.string bytes) => bytes.length + 1
  | .lit _ => 1
  | .nil => 1
  | .ptr d => uptoBulk d + 1
  | .slice elems spare => uptoBulkAll elems + uptoBulkAll spare + 1
  | .agg parts => uptoBulkAll parts + 1
  | .iface _ d => uptoBulk d + 1
  | .map entries => uptoBulkEntries entries + 1
  | .held _ => 1
def uptoBulkAll {H : Type} : List (DataW H) → Nat
  | [] => 0
  | d :: r => uptoBulk d + uptoBulkAll r
def uptoBulkEntries {H : Type} : List (Lit × DataW H) → Nat
  | [] => 0
  | x :: r => uptoBulkEntry x + uptoBulkEntries r
def uptoBulkEntry {H : Type} : Lit × DataW H → Nat
  | (.string bytes, d) => bytes.length + uptoBulk d + 1
  | (_, d) => uptoBulk d + 1
 end
def uptoSmall : (H : Type) → List (DataW H) → Bool := fun _ ds => decide (uptoBulkAll ds ≤ 1048576)
def OpenSpec.upto (s : _root_.Go.ChangeSpec) : _root_.Go.OpenSpec := { _root_.Go.OpenSpec.ofChange s with cond := some uptoSmall }

/-- 'laws.FnPairCycles', WHERE WHAT IT READS IS OF BULK AT MOST 1048576: true; the input reads as it did. -/
def fnPairCyclesUptoRow : OpenClaim := { program := "ytaimmgonhanhoaa", sum := "1cd546d1124a2de5b870e61776fc7cebbdaa660e4f0597d6f27ba0a8b5b3c476", func := "loop.example/g01104/laws.FnPairCycles", spec := "fnPairCycles", unfollowed := true, recurses := true, plainKeys := false, apart := false, narrowed := true }
def FnPairCyclesUptoSaid : Prop := fnPairCyclesUptoRow.holds Try.pinned (OpenSpec.upto fnPairCyclesSpec)

/-- 'laws.FnMendedTapes', WHERE WHAT IT READS IS OF BULK AT MOST 1048576: true; the input reads as it did. -/
def fnMendedTapesUptoRow : OpenClaim := { program := "ytaimmgonhanhoaa", sum := "1cd546d1124a2de5b870e61776fc7cebbdaa660e4f0597d6f27ba0a8b5b3c476", func := "loop.example/g01104/laws.FnMendedTapes", spec := "fnMendedTapes", plainKeys := false, apart := false, narrowed := true }
def FnMendedTapesUptoSaid : Prop := fnMendedTapesUptoRow.holds Try.pinned (OpenSpec.upto fnMendedTapesSpec)

/-- 'laws.FnNecklacesCounted', WHERE WHAT IT READS IS OF BULK AT MOST 1048576: true; the input reads as it did. -/
def fnNecklacesCountedUptoRow : OpenClaim := { program := "ytaimmgonhanhoaa", sum := "1cd546d1124a2de5b870e61776fc7cebbdaa660e4f0597d6f27ba0a8b5b3c476", func := "loop.example/g01104/laws.FnNecklacesCounted", spec := "fnNecklacesCounted", unfollowed := true, recurses := true, plainKeys := false, apart := false, narrowed := true }
def FnNecklacesCountedUptoSaid : Prop := fnNecklacesCountedUptoRow.holds Try.pinned (OpenSpec.upto fnNecklacesCountedSpec)

/-- 'laws.FnTori', WHERE WHAT IT READS IS OF BULK AT MOST 1048576: true; the input reads as it did. -/
def fnToriUptoRow : OpenClaim := { program := "ytaimmgonhanhoaa", sum := "1cd546d1124a2de5b870e61776fc7cebbdaa660e4f0597d6f27ba0a8b5b3c476", func := "loop.example/g01104/laws.FnTori", spec := "fnTori", unfollowed := true, recurses := true, plainKeys := false, apart := false, narrowed := true }
def FnToriUptoSaid : Prop := fnToriUptoRow.holds Try.pinned (OpenSpec.upto fnToriSpec)

/-- 'laws.FnWordsAreRead', WHERE WHAT IT READS IS OF BULK AT MOST 1048576: true; the input reads as it did. -/
def fnWordsAreReadUptoRow : OpenClaim := { program := "ytaimmgonhanhoaa", sum := "1cd546d1124a2de5b870e61776fc7cebbdaa660e4f0597d6f27ba0a8b5b3c476", func := "loop.example/g01104/laws.FnWordsAreRead", spec := "fnWordsAreRead", plainKeys := false, apart := false, narrowed := true }
def FnWordsAreReadUptoSaid : Prop := fnWordsAreReadUptoRow.holds Try.pinned (OpenSpec.upto fnWordsAreReadSpec)

/-- 'laws.FnExactOrderOf', WHERE WHAT IT READS IS OF BULK AT MOST 1048576: true; the input reads as it did. -/
def fnExactOrderOfUptoRow : OpenClaim := { program := "ytaimmgonhanhoaa", sum := "1cd546d1124a2de5b870e61776fc7cebbdaa660e4f0597d6f27ba0a8b5b3c476", func := "loop.example/g01104/laws.FnExactOrderOf", spec := "fnExactOrderOf", unfollowed := true, recurses := true, plainKeys := false, apart := false, narrowed := true }
def FnExactOrderOfUptoSaid : Prop := fnExactOrderOfUptoRow.holds Try.pinned (OpenSpec.upto fnExactOrderOfSpec)

/-- 'laws.FnExactIsBruijn', WHERE WHAT IT READS IS OF BULK AT MOST 1048576: true; the input reads as it did. -/
def fnExactIsBruijnUptoRow : OpenClaim := { program := "ytaimmgonhanhoaa", sum := "1cd546d1124a2de5b870e61776fc7cebbdaa660e4f0597d6f27ba0a8b5b3c476", func := "loop.example/g01104/laws.FnExactIsBruijn", spec := "fnExactIsBruijn", unfollowed := true, recurses := true, plainKeys := false, apart := false, narrowed := true }
def FnExactIsBruijnUptoSaid : Prop := fnExactIsBruijnUptoRow.holds Try.pinned (OpenSpec.upto fnExactIsBruijnSpec)

/-- 'laws.FnExactWastedIn', WHERE WHAT IT READS IS OF BULK AT MOST 1048576: true; the input reads as it did. -/
def fnExactWastedInUptoRow : OpenClaim := { program := "ytaimmgonhanhoaa", sum := "1cd546d1124a2de5b870e61776fc7cebbdaa660e4f0597d6f27ba0a8b5b3c476", func := "loop.example/g01104/laws.FnExactWastedIn", spec := "fnExactWastedIn", unfollowed := true, recurses := true, plainKeys := false, apart := false, narrowed := true }
def FnExactWastedInUptoSaid : Prop := fnExactWastedInUptoRow.holds Try.pinned (OpenSpec.upto fnExactWastedInSpec)

/-- 'laws.FnExactIsSuper', WHERE WHAT IT READS IS OF BULK AT MOST 1048576: true; the input reads as it did. -/
def fnExactIsSuperUptoRow : OpenClaim := { program := "ytaimmgonhanhoaa", sum := "1cd546d1124a2de5b870e61776fc7cebbdaa660e4f0597d6f27ba0a8b5b3c476", func := "loop.example/g01104/laws.FnExactIsSuper", spec := "fnExactIsSuper", unfollowed := true, recurses := true, plainKeys := false, apart := false, narrowed := true }
def FnExactIsSuperUptoSaid : Prop := fnExactIsSuperUptoRow.holds Try.pinned (OpenSpec.upto fnExactIsSuperSpec)

/-- 'laws.FnExactIsOrderCycle', WHERE WHAT IT READS IS OF BULK AT MOST 1048576: true; the input reads as it did. -/
def fnExactIsOrderCycleUptoRow : OpenClaim := { program := "ytaimmgonhanhoaa", sum := "1cd546d1124a2de5b870e61776fc7cebbdaa660e4f0597d6f27ba0a8b5b3c476", func := "loop.example/g01104/laws.FnExactIsOrderCycle", spec := "fnExactIsOrderCycle", unfollowed := true, recurses := true, plainKeys := false, apart := false, narrowed := true }
def FnExactIsOrderCycleUptoSaid : Prop := fnExactIsOrderCycleUptoRow.holds Try.pinned (OpenSpec.upto fnExactIsOrderCycleSpec)

/-- 'laws.FnExactRanksIn', WHERE WHAT IT READS IS OF BULK AT MOST 1048576: true; the input reads as it did. -/
def fnExactRanksInUptoRow : OpenClaim := { program := "ytaimmgonhanhoaa", sum := "1cd546d1124a2de5b870e61776fc7cebbdaa660e4f0597d6f27ba0a8b5b3c476", func := "loop.example/g01104/laws.FnExactRanksIn", spec := "fnExactRanksIn", unfollowed := true, recurses := true, plainKeys := false, apart := false, narrowed := true }
def FnExactRanksInUptoSaid : Prop := fnExactRanksInUptoRow.holds Try.pinned (OpenSpec.upto fnExactRanksInSpec)

end Rows
end Go.Proofs.Ytaimmgonhanhoaa
