/-
  No cell of these rows narrows 'for every input' (looked for: loops, veiled, ifaces, maps, wideKeys, modest, calm, conditions, laid).
  DERIVED. THE GIVEN ROWS OF THIS SEAT. 11 by the template 'for every input the law returns true; each argument reads behind the call as it read before'; 0 by the template 'total and deterministic' (their statements: YtdnbeekoefmbcaaTotals.lean).
  GIVEN WITH THE SEED: the statements are not yours to turn. If you find one false, say at which input.
  Laid BY PROGRAM, IN A SANDBOX (cutbox-rows.mjs): the forced cells as the released guide's own fill.sh prints them over the translation 5c41f463b8fd731f… (all of the seat's roots in one cut). By AI agents, Wed Nov 11 2026. No macro, syntax, notation, axiom, sorry.
-/
import Derived.Test.YtdnbeekoefmbcaaChecked
import GoSem.Claim
import GoSem.ClaimJoined
import GoSem.ClaimMapViews
import Derived.JoinedTies
import Derived.KernelRfl
namespace Go.Proofs.Ytdnbeekoefmbcaa
/- THE CELL 'sum', in the pinned program and in every row, IS THE sha256 OF THE DUMP (.gsa) THAT YtdnbeekoefmbcaaProg.lean LOADS. Nothing in Lean hashes anything: it is a label: what it is worth is what the hold of that sum in a sandbox is worth. -/
noncomputable def Try.pinned : Pinned := { name := "ytdnbeekoefmbcaa", sum := "5c41f463b8fd731fa18d74c6a3b4f4a05ac0fac654fd6103c2b216e03f219282", checked := Try.checked }
namespace Rows
def none {H : Type} : Left H := { results := [], args := [] }

/-- 'laws.FnExactOrderCycle': WHATEVER THE INPUT: true; the input reads as it did. -/
def fnExactOrderCycleSpec : ChangeSpec := { name := "fnExactOrderCycle", fn := fun _ => fun
  | [d] => { results := [.lit (.bool true)], args := [d] }
  | _ => none }
def fnExactOrderCycleRow : OpenClaim := { program := "ytdnbeekoefmbcaa", sum := "5c41f463b8fd731fa18d74c6a3b4f4a05ac0fac654fd6103c2b216e03f219282", func := "loop.example/g01104/laws.FnExactOrderCycle", spec := "fnExactOrderCycle", unfollowed := true, recurses := true, apart := false }
def FnExactOrderCycleSaid : Prop := fnExactOrderCycleRow.holds Try.pinned (OpenSpec.ofChange fnExactOrderCycleSpec)

/-- ITS FALSE NEIGHBOUR: 'it returns false'. Refute it at one input. -/
def fnExactOrderCycleWrong : ChangeSpec := { name := "fnExactOrderCycle", fn := fun _ => fun
  | [d] => { results := [.lit (.bool false)], args := [d] }
  | _ => none }
def FnExactOrderCycleWrongFalsely : Prop := fnExactOrderCycleRow.holds Try.pinned (OpenSpec.ofChange fnExactOrderCycleWrong)

/-- 'laws.FnExactShortestSuper': WHATEVER THE INPUT: true; the input reads as it did. -/
def fnExactShortestSuperSpec : ChangeSpec := { name := "fnExactShortestSuper", fn := fun _ => fun
  | [d] => { results := [.lit (.bool true)], args := [d] }
  | _ => none }
def fnExactShortestSuperRow : OpenClaim := { program := "ytdnbeekoefmbcaa", sum := "5c41f463b8fd731fa18d74c6a3b4f4a05ac0fac654fd6103c2b216e03f219282", func := "loop.example/g01104/laws.FnExactShortestSuper", spec := "fnExactShortestSuper", unfollowed := true, recurses := true, apart := false }
def FnExactShortestSuperSaid : Prop := fnExactShortestSuperRow.holds Try.pinned (OpenSpec.ofChange fnExactShortestSuperSpec)

/-- ITS FALSE NEIGHBOUR: 'it returns false'. Refute it at one input. -/
def fnExactShortestSuperWrong : ChangeSpec := { name := "fnExactShortestSuper", fn := fun _ => fun
  | [d] => { results := [.lit (.bool false)], args := [d] }
  | _ => none }
def FnExactShortestSuperWrongFalsely : Prop := fnExactShortestSuperRow.holds Try.pinned (OpenSpec.ofChange fnExactShortestSuperWrong)

/-- 'laws.FnExactWithoutZero': WHATEVER THE INPUT: true; the input reads as it did. -/
def fnExactWithoutZeroSpec : ChangeSpec := { name := "fnExactWithoutZero", fn := fun _ => fun
  | [d1, d2, d3] => { results := [.lit (.bool true)], args := [d1, d2, d3] }
  | _ => none }
def fnExactWithoutZeroRow : OpenClaim := { program := "ytdnbeekoefmbcaa", sum := "5c41f463b8fd731fa18d74c6a3b4f4a05ac0fac654fd6103c2b216e03f219282", func := "loop.example/g01104/laws.FnExactWithoutZero", spec := "fnExactWithoutZero", unfollowed := true, recurses := true, apart := false }
def FnExactWithoutZeroSaid : Prop := fnExactWithoutZeroRow.holds Try.pinned (OpenSpec.ofChange fnExactWithoutZeroSpec)

/-- ITS FALSE NEIGHBOUR: 'it returns false'. Refute it at one input. -/
def fnExactWithoutZeroWrong : ChangeSpec := { name := "fnExactWithoutZero", fn := fun _ => fun
  | [d1, d2, d3] => { results := [.lit (.bool false)], args := [d1, d2, d3] }
  | _ => none }
def FnExactWithoutZeroWrongFalsely : Prop := fnExactWithoutZeroRow.holds Try.pinned (OpenSpec.ofChange fnExactWithoutZeroWrong)

/-- 'laws.FnExactAllBruijn': WHATEVER THE INPUT: true; the input reads as it did. -/
def fnExactAllBruijnSpec : ChangeSpec := { name := "fnExactAllBruijn", fn := fun _ => fun
  | [d1, d2] => { results := [.lit (.bool true)], args := [d1, d2] }
  | _ => none }
def fnExactAllBruijnRow : OpenClaim := { program := "ytdnbeekoefmbcaa", sum := "5c41f463b8fd731fa18d74c6a3b4f4a05ac0fac654fd6103c2b216e03f219282", func := "loop.example/g01104/laws.FnExactAllBruijn", spec := "fnExactAllBruijn", unfollowed := true, recurses := true, apart := false }
def FnExactAllBruijnSaid : Prop := fnExactAllBruijnRow.holds Try.pinned (OpenSpec.ofChange fnExactAllBruijnSpec)

/-- ITS FALSE NEIGHBOUR: 'it returns false'. Refute it at one input. -/
def fnExactAllBruijnWrong : ChangeSpec := { name := "fnExactAllBruijn", fn := fun _ => fun
  | [d1, d2] => { results := [.lit (.bool false)], args := [d1, d2] }
  | _ => none }
def FnExactAllBruijnWrongFalsely : Prop := fnExactAllBruijnRow.holds Try.pinned (OpenSpec.ofChange fnExactAllBruijnWrong)

/-- 'laws.FnExactSuperOf': WHATEVER THE INPUT: true; the input reads as it did. -/
def fnExactSuperOfSpec : ChangeSpec := { name := "fnExactSuperOf", fn := fun _ => fun
  | [d] => { results := [.lit (.bool true)], args := [d] }
  | _ => none }
def fnExactSuperOfRow : OpenClaim := { program := "ytdnbeekoefmbcaa", sum := "5c41f463b8fd731fa18d74c6a3b4f4a05ac0fac654fd6103c2b216e03f219282", func := "loop.example/g01104/laws.FnExactSuperOf", spec := "fnExactSuperOf", unfollowed := true, recurses := true, apart := false }
def FnExactSuperOfSaid : Prop := fnExactSuperOfRow.holds Try.pinned (OpenSpec.ofChange fnExactSuperOfSpec)

/-- ITS FALSE NEIGHBOUR: 'it returns false'. Refute it at one input. -/
def fnExactSuperOfWrong : ChangeSpec := { name := "fnExactSuperOf", fn := fun _ => fun
  | [d] => { results := [.lit (.bool false)], args := [d] }
  | _ => none }
def FnExactSuperOfWrongFalsely : Prop := fnExactSuperOfRow.holds Try.pinned (OpenSpec.ofChange fnExactSuperOfWrong)

/-- 'laws.FnExactWithZero': WHATEVER THE INPUT: true; the input reads as it did. -/
def fnExactWithZeroSpec : ChangeSpec := { name := "fnExactWithZero", fn := fun _ => fun
  | [d1, d2, d3] => { results := [.lit (.bool true)], args := [d1, d2, d3] }
  | _ => none }
def fnExactWithZeroRow : OpenClaim := { program := "ytdnbeekoefmbcaa", sum := "5c41f463b8fd731fa18d74c6a3b4f4a05ac0fac654fd6103c2b216e03f219282", func := "loop.example/g01104/laws.FnExactWithZero", spec := "fnExactWithZero", inPlace := ["slices.overlaps[int]"], unfollowed := true, recurses := true, apart := false }
def FnExactWithZeroSaid : Prop := fnExactWithZeroRow.holds Try.pinned (OpenSpec.ofChange fnExactWithZeroSpec)

/-- ITS FALSE NEIGHBOUR: 'it returns false'. Refute it at one input. -/
def fnExactWithZeroWrong : ChangeSpec := { name := "fnExactWithZero", fn := fun _ => fun
  | [d1, d2, d3] => { results := [.lit (.bool false)], args := [d1, d2, d3] }
  | _ => none }
def FnExactWithZeroWrongFalsely : Prop := fnExactWithZeroRow.holds Try.pinned (OpenSpec.ofChange fnExactWithZeroWrong)

/-- 'laws.FnOrderCycles': WHATEVER THE INPUT: true; the input reads as it did. -/
def fnOrderCyclesSpec : ChangeSpec := { name := "fnOrderCycles", fn := fun _ => fun
  | [d1, d2] => { results := [.lit (.bool true)], args := [d1, d2] }
  | _ => none }
def fnOrderCyclesRow : OpenClaim := { program := "ytdnbeekoefmbcaa", sum := "5c41f463b8fd731fa18d74c6a3b4f4a05ac0fac654fd6103c2b216e03f219282", func := "loop.example/g01104/laws.FnOrderCycles", spec := "fnOrderCycles", unfollowed := true, recurses := true, apart := false }
def FnOrderCyclesSaid : Prop := fnOrderCyclesRow.holds Try.pinned (OpenSpec.ofChange fnOrderCyclesSpec)

/-- ITS FALSE NEIGHBOUR: 'it returns false'. Refute it at one input. -/
def fnOrderCyclesWrong : ChangeSpec := { name := "fnOrderCycles", fn := fun _ => fun
  | [d1, d2] => { results := [.lit (.bool false)], args := [d1, d2] }
  | _ => none }
def FnOrderCyclesWrongFalsely : Prop := fnOrderCyclesRow.holds Try.pinned (OpenSpec.ofChange fnOrderCyclesWrong)

/-- 'laws.FnAllBruijnWords': WHATEVER THE INPUT: true; the input reads as it did. -/
def fnAllBruijnWordsSpec : ChangeSpec := { name := "fnAllBruijnWords", fn := fun _ => fun
  | [d1, d2] => { results := [.lit (.bool true)], args := [d1, d2] }
  | _ => none }
def fnAllBruijnWordsRow : OpenClaim := { program := "ytdnbeekoefmbcaa", sum := "5c41f463b8fd731fa18d74c6a3b4f4a05ac0fac654fd6103c2b216e03f219282", func := "loop.example/g01104/laws.FnAllBruijnWords", spec := "fnAllBruijnWords", unfollowed := true, recurses := true, apart := false }
def FnAllBruijnWordsSaid : Prop := fnAllBruijnWordsRow.holds Try.pinned (OpenSpec.ofChange fnAllBruijnWordsSpec)

/-- ITS FALSE NEIGHBOUR: 'it returns false'. Refute it at one input. -/
def fnAllBruijnWordsWrong : ChangeSpec := { name := "fnAllBruijnWords", fn := fun _ => fun
  | [d1, d2] => { results := [.lit (.bool false)], args := [d1, d2] }
  | _ => none }
def FnAllBruijnWordsWrongFalsely : Prop := fnAllBruijnWordsRow.holds Try.pinned (OpenSpec.ofChange fnAllBruijnWordsWrong)

/-- 'laws.FnBruijnWords': WHATEVER THE INPUT: true; the input reads as it did. -/
def fnBruijnWordsSpec : ChangeSpec := { name := "fnBruijnWords", fn := fun _ => fun
  | [d1, d2] => { results := [.lit (.bool true)], args := [d1, d2] }
  | _ => none }
def fnBruijnWordsRow : OpenClaim := { program := "ytdnbeekoefmbcaa", sum := "5c41f463b8fd731fa18d74c6a3b4f4a05ac0fac654fd6103c2b216e03f219282", func := "loop.example/g01104/laws.FnBruijnWords", spec := "fnBruijnWords", unfollowed := true, recurses := true, apart := false }
def FnBruijnWordsSaid : Prop := fnBruijnWordsRow.holds Try.pinned (OpenSpec.ofChange fnBruijnWordsSpec)

/-- ITS FALSE NEIGHBOUR: 'it returns false'. Refute it at one input. -/
def fnBruijnWordsWrong : ChangeSpec := { name := "fnBruijnWords", fn := fun _ => fun
  | [d1, d2] => { results := [.lit (.bool false)], args := [d1, d2] }
  | _ => none }
def FnBruijnWordsWrongFalsely : Prop := fnBruijnWordsRow.holds Try.pinned (OpenSpec.ofChange fnBruijnWordsWrong)

/-- 'laws.FnRegisters': WHATEVER THE INPUT: true; the input reads as it did. -/
def fnRegistersSpec : ChangeSpec := { name := "fnRegisters", fn := fun _ => fun
  | [d1, d2] => { results := [.lit (.bool true)], args := [d1, d2] }
  | _ => none }
def fnRegistersRow : OpenClaim := { program := "ytdnbeekoefmbcaa", sum := "5c41f463b8fd731fa18d74c6a3b4f4a05ac0fac654fd6103c2b216e03f219282", func := "loop.example/g01104/laws.FnRegisters", spec := "fnRegisters", inPlace := ["slices.overlaps[int]"], unfollowed := true, recurses := true, apart := false }
def FnRegistersSaid : Prop := fnRegistersRow.holds Try.pinned (OpenSpec.ofChange fnRegistersSpec)

/-- ITS FALSE NEIGHBOUR: 'it returns false'. Refute it at one input. -/
def fnRegistersWrong : ChangeSpec := { name := "fnRegisters", fn := fun _ => fun
  | [d1, d2] => { results := [.lit (.bool false)], args := [d1, d2] }
  | _ => none }
def FnRegistersWrongFalsely : Prop := fnRegistersRow.holds Try.pinned (OpenSpec.ofChange fnRegistersWrong)

/-- 'laws.FnSuperpermutations': WHATEVER THE INPUT: true; the input reads as it did. -/
def fnSuperpermutationsSpec : ChangeSpec := { name := "fnSuperpermutations", fn := fun _ => fun
  | [d1, d2] => { results := [.lit (.bool true)], args := [d1, d2] }
  | _ => none }
def fnSuperpermutationsRow : OpenClaim := { program := "ytdnbeekoefmbcaa", sum := "5c41f463b8fd731fa18d74c6a3b4f4a05ac0fac654fd6103c2b216e03f219282", func := "loop.example/g01104/laws.FnSuperpermutations", spec := "fnSuperpermutations", unfollowed := true, recurses := true, apart := false }
def FnSuperpermutationsSaid : Prop := fnSuperpermutationsRow.holds Try.pinned (OpenSpec.ofChange fnSuperpermutationsSpec)

/-- ITS FALSE NEIGHBOUR: 'it returns false'. Refute it at one input. -/
def fnSuperpermutationsWrong : ChangeSpec := { name := "fnSuperpermutations", fn := fun _ => fun
  | [d1, d2] => { results := [.lit (.bool false)], args := [d1, d2] }
  | _ => none }
def FnSuperpermutationsWrongFalsely : Prop := fnSuperpermutationsRow.holds Try.pinned (OpenSpec.ofChange fnSuperpermutationsWrong)

/- THE SECOND FORM. 'bulk': how many values and letters a reading holds, each counted each time it is reached (what is shared counts as often as it is met; a slice's spare places count too). A statement '..UptoSaid' is the law's where the arguments, and the package variables that the reading takes, are together of bulk at most 1048576: NARROWER than '..Said'. Prove '..Said' where nothing that the law and all that it calls make is longer than what came in: it says more and counts as full. Else prove '..UptoSaid'. A law counts once. -/
mutual
def uptoBulk {H : Type} : DataW H → Nat
  | .lit (.string bytes) => bytes.length + 1
  | .lit _ => 1
  | .nil => 1
  | .ptr d => uptoBulk d + 1
  | .slice elems spare => uptoBulkAll elems + uptoBulkAll spare + 1
  | .agg parts => uptoBulkAll parts + 1
  | .iface _ d => uptoBulk d + 1
  | .map entries => uptoBulkEntries entries + 1
  | .held _ => 1
def uptoBulkAll {H : Type} : List (DataW H) → Nat
  | [] => 0
  | d :: r => uptoBulk d + uptoBulkAll r
def uptoBulkEntries {H : Type} : List (Lit × DataW H) → Nat
  | [] => 0
  | x :: r => uptoBulkEntry x + uptoBulkEntries r
def uptoBulkEntry {H : Type} : Lit × DataW H → Nat
  | (.string bytes, d) => bytes.length + uptoBulk d + 1
  | (_, d) => uptoBulk d + 1
 end
def uptoSmall : (H : Type) → List (DataW H) → Bool := fun _ ds => decide (uptoBulkAll ds ≤ 1048576)
def OpenSpec.upto (s : _root_.Go.ChangeSpec) : _root_.Go.OpenSpec := { _root_.Go.OpenSpec.ofChange s with cond := some uptoSmall }

/-- 'laws.FnExactOrderCycle', WHERE WHAT IT READS IS OF BULK AT MOST 1048576: true; the input reads as it did. -/
def fnExactOrderCycleUptoRow : OpenClaim := { program := "ytdnbeekoefmbcaa", sum := "5c41f463b8fd731fa18d74c6a3b4f4a05ac0fac654fd6103c2b216e03f219282", func := "loop.example/g01104/laws.FnExactOrderCycle", spec := "fnExactOrderCycle", unfollowed := true, recurses := true, apart := false, narrowed := true }
def FnExactOrderCycleUptoSaid : Prop := fnExactOrderCycleUptoRow.holds Try.pinned (OpenSpec.upto fnExactOrderCycleSpec)

/-- 'laws.FnExactShortestSuper', WHERE WHAT IT READS IS OF BULK AT MOST 1048576: true; the input reads as it did. -/
def fnExactShortestSuperUptoRow : OpenClaim := { program := "ytdnbeekoefmbcaa", sum := "5c41f463b8fd731fa18d74c6a3b4f4a05ac0fac654fd6103c2b216e03f219282", func := "loop.example/g01104/laws.FnExactShortestSuper", spec := "fnExactShortestSuper", unfollowed := true, recurses := true, apart := false, narrowed := true }
def FnExactShortestSuperUptoSaid : Prop := fnExactShortestSuperUptoRow.holds Try.pinned (OpenSpec.upto fnExactShortestSuperSpec)

/-- 'laws.FnExactWithoutZero', WHERE WHAT IT READS IS OF BULK AT MOST 1048576: true; the input reads as it did. -/
def fnExactWithoutZeroUptoRow : OpenClaim := { program := "ytdnbeekoefmbcaa", sum := "5c41f463b8fd731fa18d74c6a3b4f4a05ac0fac654fd6103c2b216e03f219282", func := "loop.example/g01104/laws.FnExactWithoutZero", spec := "fnExactWithoutZero", unfollowed := true, recurses := true, apart := false, narrowed := true }
def FnExactWithoutZeroUptoSaid : Prop := fnExactWithoutZeroUptoRow.holds Try.pinned (OpenSpec.upto fnExactWithoutZeroSpec)

/-- 'laws.FnExactAllBruijn', WHERE WHAT IT READS IS OF BULK AT MOST 1048576: true; the input reads as it did. -/
def fnExactAllBruijnUptoRow : OpenClaim := { program := "ytdnbeekoefmbcaa", sum := "5c41f463b8fd731fa18d74c6a3b4f4a05ac0fac654fd6103c2b216e03f219282", func := "loop.example/g01104/laws.FnExactAllBruijn", spec := "fnExactAllBruijn", unfollowed := true, recurses := true, apart := false, narrowed := true }
def FnExactAllBruijnUptoSaid : Prop := fnExactAllBruijnUptoRow.holds Try.pinned (OpenSpec.upto fnExactAllBruijnSpec)

/-- 'laws.FnExactSuperOf', WHERE WHAT IT READS IS OF BULK AT MOST 1048576: true; the input reads as it did. -/
def fnExactSuperOfUptoRow : OpenClaim := { program := "ytdnbeekoefmbcaa", sum := "5c41f463b8fd731fa18d74c6a3b4f4a05ac0fac654fd6103c2b216e03f219282", func := "loop.example/g01104/laws.FnExactSuperOf", spec := "fnExactSuperOf", unfollowed := true, recurses := true, apart := false, narrowed := true }
def FnExactSuperOfUptoSaid : Prop := fnExactSuperOfUptoRow.holds Try.pinned (OpenSpec.upto fnExactSuperOfSpec)

/-- 'laws.FnExactWithZero', WHERE WHAT IT READS IS OF BULK AT MOST 1048576: true; the input reads as it did. -/
def fnExactWithZeroUptoRow : OpenClaim := { program := "ytdnbeekoefmbcaa", sum := "5c41f463b8fd731fa18d74c6a3b4f4a05ac0fac654fd6103c2b216e03f219282", func := "loop.example/g01104/laws.FnExactWithZero", spec := "fnExactWithZero", inPlace := ["slices.overlaps[int]"], unfollowed := true, recurses := true, apart := false, narrowed := true }
def FnExactWithZeroUptoSaid : Prop := fnExactWithZeroUptoRow.holds Try.pinned (OpenSpec.upto fnExactWithZeroSpec)

/-- 'laws.FnOrderCycles', WHERE WHAT IT READS IS OF BULK AT MOST 1048576: true; the input reads as it did. -/
def fnOrderCyclesUptoRow : OpenClaim := { program := "ytdnbeekoefmbcaa", sum := "5c41f463b8fd731fa18d74c6a3b4f4a05ac0fac654fd6103c2b216e03f219282", func := "loop.example/g01104/laws.FnOrderCycles", spec := "fnOrderCycles", unfollowed := true, recurses := true, apart := false, narrowed := true }
def FnOrderCyclesUptoSaid : Prop := fnOrderCyclesUptoRow.holds Try.pinned (OpenSpec.upto fnOrderCyclesSpec)

/-- 'laws.FnAllBruijnWords', WHERE WHAT IT READS IS OF BULK AT MOST 1048576: true; the input reads as it did. -/
def fnAllBruijnWordsUptoRow : OpenClaim := { program := "ytdnbeekoefmbcaa", sum := "5c41f463b8fd731fa18d74c6a3b4f4a05ac0fac654fd6103c2b216e03f219282", func := "loop.example/g01104/laws.FnAllBruijnWords", spec := "fnAllBruijnWords", unfollowed := true, recurses := true, apart := false, narrowed := true }
def FnAllBruijnWordsUptoSaid : Prop := fnAllBruijnWordsUptoRow.holds Try.pinned (OpenSpec.upto fnAllBruijnWordsSpec)

/-- 'laws.FnBruijnWords', WHERE WHAT IT READS IS OF BULK AT MOST 1048576: true; the input reads as it did. -/
def fnBruijnWordsUptoRow : OpenClaim := { program := "ytdnbeekoefmbcaa", sum := "5c41f463b8fd731fa18d74c6a3b4f4a05ac0fac654fd6103c2b216e03f219282", func := "loop.example/g01104/laws.FnBruijnWords", spec := "fnBruijnWords", unfollowed := true, recurses := true, apart := false, narrowed := true }
def FnBruijnWordsUptoSaid : Prop := fnBruijnWordsUptoRow.holds Try.pinned (OpenSpec.upto fnBruijnWordsSpec)

/-- 'laws.FnRegisters', WHERE WHAT IT READS IS OF BULK AT MOST 1048576: true; the input reads as it did. -/
def fnRegistersUptoRow : OpenClaim := { program := "ytdnbeekoefmbcaa", sum := "5c41f463b8fd731fa18d74c6a3b4f4a05ac0fac654fd6103c2b216e03f219282", func := "loop.example/g01104/laws.FnRegisters", spec := "fnRegisters", inPlace := ["slices.overlaps[int]"], unfollowed := true, recurses := true, apart := false, narrowed := true }
def FnRegistersUptoSaid : Prop := fnRegistersUptoRow.holds Try.pinned (OpenSpec.upto fnRegistersSpec)

/-- 'laws.FnSuperpermutations', WHERE WHAT IT READS IS OF BULK AT MOST 1048576: true; the input reads as it did. -/
def fnSuperpermutationsUptoRow : OpenClaim := { program := "ytdnbeekoefmbcaa", sum := "5c41f463b8fd731fa18d74c6a3b4f4a05ac0fac654fd6103c2b216e03f219282", func := "loop.example/g01104/laws.FnSuperpermutations", spec := "fnSuperpermutations", unfollowed := true, recurses := true, apart := false, narrowed := true }
def FnSuperpermutationsUptoSaid : Prop := fnSuperpermutationsUptoRow.holds Try.pinned (OpenSpec.upto fnSuperpermutationsSpec)

end Rows
end Go.Proofs.Ytdnbeekoefmbcaa
