/-
  No cell of these rows narrows 'for every input' (looked for: loops, veiled, ifaces, maps, wideKeys, modest, calm, conditions, laid).
  DERIVED. THE GIVEN ROWS OF THIS SEAT. 7 by the template 'for every input the law returns true; each argument reads behind the call as it read before'; 0 by the template 'total and deterministic' (their statements: YtfbafdlgnjkioaaTotals.lean).
  GIVEN WITH THE SEED: the statements are not yours to turn. If you find one false, say at which input.
  Laid BY PROGRAM, IN A SANDBOX (cutbox-rows.mjs): the forced cells as the released guide's own fill.sh prints them over the translation 61d9b3dcffd74fa0… (all of the seat's roots in one cut). By AI agents, Wed Nov 11 2026. No macro, syntax, notation, axiom, sorry.
-/
import Derived.Test.YtfbafdlgnjkioaaChecked
import GoSem.Claim
import GoSem.ClaimJoined
import GoSem.ClaimMapViews
import Derived.JoinedTies
import Derived.KernelRfl
namespace Go.Proofs.Ytfbafdlgnjkioaa
/- THE CELL 'sum', in the pinned program and in every row, IS THE sha256 OF THE DUMP (.gsa) THAT YtfbafdlgnjkioaaProg.lean LOADS. Nothing in Lean hashes anything: it is a label: what it is worth is what the hold of that sum in a sandbox is worth. -/
noncomputable def Try.pinned : Pinned := { name := "ytfbafdlgnjkioaa", sum := "61d9b3dcffd74fa078a9604477f84997dbcb73bf2930a02edf6162be21e49e55", checked := Try.checked }
namespace Rows
def none {H : Type} : Left H := { results := [], args := [] }

/-- 'laws.FnExactTurnTorus': WHATEVER THE INPUT: true; the input reads as it did. -/
def fnExactTurnTorusSpec : ChangeSpec := { name := "fnExactTurnTorus", fn := fun _ => fun
  | [d1, d2, d3] => { results := [.lit (.bool true)], args := [d1, d2, d3] }
  | _ => none }
def fnExactTurnTorusRow : OpenClaim := { program := "ytfbafdlgnjkioaa", sum := "61d9b3dcffd74fa078a9604477f84997dbcb73bf2930a02edf6162be21e49e55", func := "loop.example/g01104/laws.FnExactTurnTorus", spec := "fnExactTurnTorus", apart := false }
def FnExactTurnTorusSaid : Prop := fnExactTurnTorusRow.holds Try.pinned (OpenSpec.ofChange fnExactTurnTorusSpec)

/-- ITS FALSE NEIGHBOUR: 'it returns false'. Refute it at one input. -/
def fnExactTurnTorusWrong : ChangeSpec := { name := "fnExactTurnTorus", fn := fun _ => fun
  | [d1, d2, d3] => { results := [.lit (.bool false)], args := [d1, d2, d3] }
  | _ => none }
def FnExactTurnTorusWrongFalsely : Prop := fnExactTurnTorusRow.holds Try.pinned (OpenSpec.ofChange fnExactTurnTorusWrong)

/-- 'laws.FnExactFirstTorus': WHATEVER THE INPUT: true; the input reads as it did. -/
def fnExactFirstTorusSpec : ChangeSpec := { name := "fnExactFirstTorus", fn := fun _ => fun
  | [d] => { results := [.lit (.bool true)], args := [d] }
  | _ => none }
def fnExactFirstTorusRow : OpenClaim := { program := "ytfbafdlgnjkioaa", sum := "61d9b3dcffd74fa078a9604477f84997dbcb73bf2930a02edf6162be21e49e55", func := "loop.example/g01104/laws.FnExactFirstTorus", spec := "fnExactFirstTorus", unfollowed := true, recurses := true, apart := false }
def FnExactFirstTorusSaid : Prop := fnExactFirstTorusRow.holds Try.pinned (OpenSpec.ofChange fnExactFirstTorusSpec)

/-- ITS FALSE NEIGHBOUR: 'it returns false'. Refute it at one input. -/
def fnExactFirstTorusWrong : ChangeSpec := { name := "fnExactFirstTorus", fn := fun _ => fun
  | [d] => { results := [.lit (.bool false)], args := [d] }
  | _ => none }
def FnExactFirstTorusWrongFalsely : Prop := fnExactFirstTorusRow.holds Try.pinned (OpenSpec.ofChange fnExactFirstTorusWrong)

/-- 'laws.FnNecklacesCounted': WHATEVER THE INPUT: true; the input reads as it did. -/
def fnNecklacesCountedSpec : ChangeSpec := { name := "fnNecklacesCounted", fn := fun _ => fun
  | [d1, d2] => { results := [.lit (.bool true)], args := [d1, d2] }
  | _ => none }
def fnNecklacesCountedRow : OpenClaim := { program := "ytfbafdlgnjkioaa", sum := "61d9b3dcffd74fa078a9604477f84997dbcb73bf2930a02edf6162be21e49e55", func := "loop.example/g01104/laws.FnNecklacesCounted", spec := "fnNecklacesCounted", unfollowed := true, recurses := true, apart := false }
def FnNecklacesCountedSaid : Prop := fnNecklacesCountedRow.holds Try.pinned (OpenSpec.ofChange fnNecklacesCountedSpec)

/-- ITS FALSE NEIGHBOUR: 'it returns false'. Refute it at one input. -/
def fnNecklacesCountedWrong : ChangeSpec := { name := "fnNecklacesCounted", fn := fun _ => fun
  | [d1, d2] => { results := [.lit (.bool false)], args := [d1, d2] }
  | _ => none }
def FnNecklacesCountedWrongFalsely : Prop := fnNecklacesCountedRow.holds Try.pinned (OpenSpec.ofChange fnNecklacesCountedWrong)

/-- 'laws.FnTori': WHATEVER THE INPUT: true; the input reads as it did. -/
def fnToriSpec : ChangeSpec := { name := "fnTori", fn := fun _ => fun
  | [d1, d2] => { results := [.lit (.bool true)], args := [d1, d2] }
  | _ => none }
def fnToriRow : OpenClaim := { program := "ytfbafdlgnjkioaa", sum := "61d9b3dcffd74fa078a9604477f84997dbcb73bf2930a02edf6162be21e49e55", func := "loop.example/g01104/laws.FnTori", spec := "fnTori", unfollowed := true, recurses := true, apart := false }
def FnToriSaid : Prop := fnToriRow.holds Try.pinned (OpenSpec.ofChange fnToriSpec)

/-- ITS FALSE NEIGHBOUR: 'it returns false'. Refute it at one input. -/
def fnToriWrong : ChangeSpec := { name := "fnTori", fn := fun _ => fun
  | [d1, d2] => { results := [.lit (.bool false)], args := [d1, d2] }
  | _ => none }
def FnToriWrongFalsely : Prop := fnToriRow.holds Try.pinned (OpenSpec.ofChange fnToriWrong)

/-- 'laws.FnWordsAreRead': WHATEVER THE INPUT: true; the input reads as it did. -/
def fnWordsAreReadSpec : ChangeSpec := { name := "fnWordsAreRead", fn := fun _ => fun
  | [d1, d2] => { results := [.lit (.bool true)], args := [d1, d2] }
  | _ => none }
def fnWordsAreReadRow : OpenClaim := { program := "ytfbafdlgnjkioaa", sum := "61d9b3dcffd74fa078a9604477f84997dbcb73bf2930a02edf6162be21e49e55", func := "loop.example/g01104/laws.FnWordsAreRead", spec := "fnWordsAreRead", apart := false }
def FnWordsAreReadSaid : Prop := fnWordsAreReadRow.holds Try.pinned (OpenSpec.ofChange fnWordsAreReadSpec)

/-- ITS FALSE NEIGHBOUR: 'it returns false'. Refute it at one input. -/
def fnWordsAreReadWrong : ChangeSpec := { name := "fnWordsAreRead", fn := fun _ => fun
  | [d1, d2] => { results := [.lit (.bool false)], args := [d1, d2] }
  | _ => none }
def FnWordsAreReadWrongFalsely : Prop := fnWordsAreReadRow.holds Try.pinned (OpenSpec.ofChange fnWordsAreReadWrong)

/-- 'laws.FnExactAllBruijn': WHATEVER THE INPUT: true; the input reads as it did. -/
def fnExactAllBruijnSpec : ChangeSpec := { name := "fnExactAllBruijn", fn := fun _ => fun
  | [d1, d2] => { results := [.lit (.bool true)], args := [d1, d2] }
  | _ => none }
def fnExactAllBruijnRow : OpenClaim := { program := "ytfbafdlgnjkioaa", sum := "61d9b3dcffd74fa078a9604477f84997dbcb73bf2930a02edf6162be21e49e55", func := "loop.example/g01104/laws.FnExactAllBruijn", spec := "fnExactAllBruijn", unfollowed := true, recurses := true, apart := false }
def FnExactAllBruijnSaid : Prop := fnExactAllBruijnRow.holds Try.pinned (OpenSpec.ofChange fnExactAllBruijnSpec)

/-- ITS FALSE NEIGHBOUR: 'it returns false'. Refute it at one input. -/
def fnExactAllBruijnWrong : ChangeSpec := { name := "fnExactAllBruijn", fn := fun _ => fun
  | [d1, d2] => { results := [.lit (.bool false)], args := [d1, d2] }
  | _ => none }
def FnExactAllBruijnWrongFalsely : Prop := fnExactAllBruijnRow.holds Try.pinned (OpenSpec.ofChange fnExactAllBruijnWrong)

/-- 'laws.FnAllBruijnWords': WHATEVER THE INPUT: true; the input reads as it did. -/
def fnAllBruijnWordsSpec : ChangeSpec := { name := "fnAllBruijnWords", fn := fun _ => fun
  | [d1, d2] => { results := [.lit (.bool true)], args := [d1, d2] }
  | _ => none }
def fnAllBruijnWordsRow : OpenClaim := { program := "ytfbafdlgnjkioaa", sum := "61d9b3dcffd74fa078a9604477f84997dbcb73bf2930a02edf6162be21e49e55", func := "loop.example/g01104/laws.FnAllBruijnWords", spec := "fnAllBruijnWords", unfollowed := true, recurses := true, apart := false }
def FnAllBruijnWordsSaid : Prop := fnAllBruijnWordsRow.holds Try.pinned (OpenSpec.ofChange fnAllBruijnWordsSpec)

/-- ITS FALSE NEIGHBOUR: 'it returns false'. Refute it at one input. -/
def fnAllBruijnWordsWrong : ChangeSpec := { name := "fnAllBruijnWords", fn := fun _ => fun
  | [d1, d2] => { results := [.lit (.bool false)], args := [d1, d2] }
  | _ => none }
def FnAllBruijnWordsWrongFalsely : Prop := fnAllBruijnWordsRow.holds Try.pinned (OpenSpec.ofChange fnAllBruijnWordsWrong)

/- THE SECOND FORM. 'bulk': how many values and letters a reading holds, each counted each time it is reached (what is shared counts as often as it is met; a slice's spare places count too). A statement '..UptoSaid' is the law's where the arguments, and the package variables that the reading takes, are together of bulk at most 1048576: NARROWER than '..Said'. Prove '..Said' where nothing that the law and all that it calls make is longer than what came in: it says more and counts as full. Else prove '..UptoSaid'. A law counts once. -/
mutual
def uptoBulk {H : Type} : DataW H → Nat
  | .lit (.string bytes) => bytes.length + 1
  | .lit _ => 1
  | .nil => 1
  | .ptr d => uptoBulk d + 1
  | .slice elems spare => uptoBulkAll elems + uptoBulkAll spare + 1
  | .agg parts => uptoBulkAll parts + 1
  | .iface _ d => uptoBulk d + 1
  | .map entries => uptoBulkEntries entries + 1
  | .held _ => 1
def uptoBulkAll {H : Type} : List (DataW H) → Nat
  | [] => 0
  | d :: r => uptoBulk d + uptoBulkAll r
def uptoBulkEntries {H : Type} : List (Lit × DataW H) → Nat
  | [] => 0
  | x :: r => uptoBulkEntry x + uptoBulkEntries r
def uptoBulkEntry {H : Type} : Lit × DataW H → Nat
  | (.string bytes, d) => bytes.length + uptoBulk d + 1
  | (_, d) => uptoBulk d + 1
 end
def uptoSmall : (H : Type) → List (DataW H) → Bool := fun _ ds => decide (uptoBulkAll ds ≤ 1048576)
def OpenSpec.upto (s : _root_.Go.ChangeSpec) : _root_.Go.OpenSpec := { _root_.Go.OpenSpec.ofChange s with cond := some uptoSmall }

/-- 'laws.FnExactTurnTorus', WHERE WHAT IT READS IS OF BULK AT MOST 1048576: true; the input reads as it did. -/
def fnExactTurnTorusUptoRow : OpenClaim := { program := "ytfbafdlgnjkioaa", sum := "61d9b3dcffd74fa078a9604477f84997dbcb73bf2930a02edf6162be21e49e55", func := "loop.example/g01104/laws.FnExactTurnTorus", spec := "fnExactTurnTorus", apart := false, narrowed := true }
def FnExactTurnTorusUptoSaid : Prop := fnExactTurnTorusUptoRow.holds Try.pinned (OpenSpec.upto fnExactTurnTorusSpec)

/-- 'laws.FnExactFirstTorus', WHERE WHAT IT READS IS OF BULK AT MOST 1048576: true; the input reads as it did. -/
def fnExactFirstTorusUptoRow : OpenClaim := { program := "ytfbafdlgnjkioaa", sum := "61d9b3dcffd74fa078a9604477f84997dbcb73bf2930a02edf6162be21e49e55", func := "loop.example/g01104/laws.FnExactFirstTorus", spec := "fnExactFirstTorus", unfollowed := true, recurses := true, apart := false, narrowed := true }
def FnExactFirstTorusUptoSaid : Prop := fnExactFirstTorusUptoRow.holds Try.pinned (OpenSpec.upto fnExactFirstTorusSpec)

/-- 'laws.FnNecklacesCounted', WHERE WHAT IT READS IS OF BULK AT MOST 1048576: true; the input reads as it did. -/
def fnNecklacesCountedUptoRow : OpenClaim := { program := "ytfbafdlgnjkioaa", sum := "61d9b3dcffd74fa078a9604477f84997dbcb73bf2930a02edf6162be21e49e55", func := "loop.example/g01104/laws.FnNecklacesCounted", spec := "fnNecklacesCounted", unfollowed := true, recurses := true, apart := false, narrowed := true }
def FnNecklacesCountedUptoSaid : Prop := fnNecklacesCountedUptoRow.holds Try.pinned (OpenSpec.upto fnNecklacesCountedSpec)

/-- 'laws.FnTori', WHERE WHAT IT READS IS OF BULK AT MOST 1048576: true; the input reads as it did. -/
def fnToriUptoRow : OpenClaim := { program := "ytfbafdlgnjkioaa", sum := "61d9b3dcffd74fa078a9604477f84997dbcb73bf2930a02edf6162be21e49e55", func := "loop.example/g01104/laws.FnTori", spec := "fnTori", unfollowed := true, recurses := true, apart := false, narrowed := true }
def FnToriUptoSaid : Prop := fnToriUptoRow.holds Try.pinned (OpenSpec.upto fnToriSpec)

/-- 'laws.FnWordsAreRead', WHERE WHAT IT READS IS OF BULK AT MOST 1048576: true; the input reads as it did. -/
def fnWordsAreReadUptoRow : OpenClaim := { program := "ytfbafdlgnjkioaa", sum := "61d9b3dcffd74fa078a9604477f84997dbcb73bf2930a02edf6162be21e49e55", func := "loop.example/g01104/laws.FnWordsAreRead", spec := "fnWordsAreRead", apart := false, narrowed := true }
def FnWordsAreReadUptoSaid : Prop := fnWordsAreReadUptoRow.holds Try.pinned (OpenSpec.upto fnWordsAreReadSpec)

/-- 'laws.FnExactAllBruijn', WHERE WHAT IT READS IS OF BULK AT MOST 1048576: true; the input reads as it did. -/
def fnExactAllBruijnUptoRow : OpenClaim := { program := "ytfbafdlgnjkioaa", sum := "61d9b3dcffd74fa078a9604477f84997dbcb73bf2930a02edf6162be21e49e55", func := "loop.example/g01104/laws.FnExactAllBruijn", spec := "fnExactAllBruijn", unfollowed := true, recurses := true, apart := false, narrowed := true }
def FnExactAllBruijnUptoSaid : Prop := fnExactAllBruijnUptoRow.holds Try.pinned (OpenSpec.upto fnExactAllBruijnSpec)

/-- 'laws.FnAllBruijnWords', WHERE WHAT IT READS IS OF BULK AT MOST 1048576: true; the input reads as it did. -/
def fnAllBruijnWordsUptoRow : OpenClaim := { program := "ytfbafdlgnjkioaa", sum := "61d9b3dcffd74fa078a9604477f84997dbcb73bf2930a02edf6162be21e49e55", func := "loop.example/g01104/laws.FnAllBruijnWords", spec := "fnAllBruijnWords", unfollowed := true, recurses := true, apart := false, narrowed := true }
def FnAllBruijnWordsUptoSaid : Prop := fnAllBruijnWordsUptoRow.holds Try.pinned (OpenSpec.upto fnAllBruijnWordsSpec)

end Rows
end Go.Proofs.Ytfbafdlgnjkioaa
