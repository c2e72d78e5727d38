/-
  No cell of these rows narrows 'for every input' (looked for: loops, veiled, ifaces, maps, wideKeys, modest, calm, conditions, laid).
  DERIVED. THE GIVEN ROWS OF THIS SEAT. 12 by the template 'for every input the law returns true; each argument reads behind the call as it read before'; 0 by the template 'total and deterministic' (their statements: YtbmgpafijkfdbaaTotals.lean).
  GIVEN WITH THE SEED: the statements are not yours to turn. If you find one false, say at which input.
  Laid BY PROGRAM, IN A SANDBOX (cutbox-rows.mjs): the forced cells as the released guide's own fill.sh prints them over the translation c72e24370dac14db… (all of the seat's roots in one cut). By AI agents, Wed Nov 11 2026. No macro, syntax, notation, axiom, sorry.
-/
import Derived.Test.YtbmgpafijkfdbaaChecked
import GoSem.Claim
import GoSem.ClaimJoined
import GoSem.ClaimMapViews
import Derived.JoinedTies
import Derived.KernelRfl
namespace Go.Proofs.Ytbmgpafijkfdbaa
/- THE CELL 'sum', in the pinned program and in every row, IS THE sha256 OF THE DUMP (.gsa) THAT YtbmgpafijkfdbaaProg.lean LOADS. Nothing in Lean hashes anything: it is a label: what it is worth is what the hold of that sum in a sandbox is worth. -/
noncomputable def Try.pinned : Pinned := { name := "ytbmgpafijkfdbaa", sum := "c72e24370dac14dbc248e443cd696260f0951b9c7865d141ae966ef678acf6ef", checked := Try.checked }
namespace Rows
def none {H : Type} : Left H := { results := [], args := [] }

/-- 'laws.FnExactIsFullRegister': WHATEVER THE INPUT: true; the input reads as it did. -/
def fnExactIsFullRegisterSpec : ChangeSpec := { name := "fnExactIsFullRegister", fn := fun _ => fun
  | [d1, d2] => { results := [.lit (.bool true)], args := [d1, d2] }
  | _ => none }
def fnExactIsFullRegisterRow : OpenClaim := { program := "ytbmgpafijkfdbaa", sum := "c72e24370dac14dbc248e443cd696260f0951b9c7865d141ae966ef678acf6ef", func := "loop.example/g01104/laws.FnExactIsFullRegister", spec := "fnExactIsFullRegister", apart := false }
def FnExactIsFullRegisterSaid : Prop := fnExactIsFullRegisterRow.holds Try.pinned (OpenSpec.ofChange fnExactIsFullRegisterSpec)

/-- ITS FALSE NEIGHBOUR: 'it returns false'. Refute it at one input. -/
def fnExactIsFullRegisterWrong : ChangeSpec := { name := "fnExactIsFullRegister", fn := fun _ => fun
  | [d1, d2] => { results := [.lit (.bool false)], args := [d1, d2] }
  | _ => none }
def FnExactIsFullRegisterWrongFalsely : Prop := fnExactIsFullRegisterRow.holds Try.pinned (OpenSpec.ofChange fnExactIsFullRegisterWrong)

/-- 'laws.FnExactMendWindow': WHATEVER THE INPUT: true; the input reads as it did. -/
def fnExactMendWindowSpec : ChangeSpec := { name := "fnExactMendWindow", fn := fun _ => fun
  | [d1, d2] => { results := [.lit (.bool true)], args := [d1, d2] }
  | _ => none }
def fnExactMendWindowRow : OpenClaim := { program := "ytbmgpafijkfdbaa", sum := "c72e24370dac14dbc248e443cd696260f0951b9c7865d141ae966ef678acf6ef", func := "loop.example/g01104/laws.FnExactMendWindow", spec := "fnExactMendWindow", apart := false }
def FnExactMendWindowSaid : Prop := fnExactMendWindowRow.holds Try.pinned (OpenSpec.ofChange fnExactMendWindowSpec)

/-- ITS FALSE NEIGHBOUR: 'it returns false'. Refute it at one input. -/
def fnExactMendWindowWrong : ChangeSpec := { name := "fnExactMendWindow", fn := fun _ => fun
  | [d1, d2] => { results := [.lit (.bool false)], args := [d1, d2] }
  | _ => none }
def FnExactMendWindowWrongFalsely : Prop := fnExactMendWindowRow.holds Try.pinned (OpenSpec.ofChange fnExactMendWindowWrong)

/-- 'laws.FnExactPairCycle': WHATEVER THE INPUT: true; the input reads as it did. -/
def fnExactPairCycleSpec : ChangeSpec := { name := "fnExactPairCycle", fn := fun _ => fun
  | [d] => { results := [.lit (.bool true)], args := [d] }
  | _ => none }
def fnExactPairCycleRow : OpenClaim := { program := "ytbmgpafijkfdbaa", sum := "c72e24370dac14dbc248e443cd696260f0951b9c7865d141ae966ef678acf6ef", func := "loop.example/g01104/laws.FnExactPairCycle", spec := "fnExactPairCycle", unfollowed := true, recurses := true, apart := false }
def FnExactPairCycleSaid : Prop := fnExactPairCycleRow.holds Try.pinned (OpenSpec.ofChange fnExactPairCycleSpec)

/-- ITS FALSE NEIGHBOUR: 'it returns false'. Refute it at one input. -/
def fnExactPairCycleWrong : ChangeSpec := { name := "fnExactPairCycle", fn := fun _ => fun
  | [d] => { results := [.lit (.bool false)], args := [d] }
  | _ => none }
def FnExactPairCycleWrongFalsely : Prop := fnExactPairCycleRow.holds Try.pinned (OpenSpec.ofChange fnExactPairCycleWrong)

/-- 'laws.FnExactLeastBruijn': WHATEVER THE INPUT: true; the input reads as it did. -/
def fnExactLeastBruijnSpec : ChangeSpec := { name := "fnExactLeastBruijn", fn := fun _ => fun
  | [d1, d2] => { results := [.lit (.bool true)], args := [d1, d2] }
  | _ => none }
def fnExactLeastBruijnRow : OpenClaim := { program := "ytbmgpafijkfdbaa", sum := "c72e24370dac14dbc248e443cd696260f0951b9c7865d141ae966ef678acf6ef", func := "loop.example/g01104/laws.FnExactLeastBruijn", spec := "fnExactLeastBruijn", unfollowed := true, recurses := true, apart := false }
def FnExactLeastBruijnSaid : Prop := fnExactLeastBruijnRow.holds Try.pinned (OpenSpec.ofChange fnExactLeastBruijnSpec)

/-- ITS FALSE NEIGHBOUR: 'it returns false'. Refute it at one input. -/
def fnExactLeastBruijnWrong : ChangeSpec := { name := "fnExactLeastBruijn", fn := fun _ => fun
  | [d1, d2] => { results := [.lit (.bool false)], args := [d1, d2] }
  | _ => none }
def FnExactLeastBruijnWrongFalsely : Prop := fnExactLeastBruijnRow.holds Try.pinned (OpenSpec.ofChange fnExactLeastBruijnWrong)

/-- 'laws.FnExactRegisterWord': WHATEVER THE INPUT: true; the input reads as it did. -/
def fnExactRegisterWordSpec : ChangeSpec := { name := "fnExactRegisterWord", fn := fun _ => fun
  | [d1, d2] => { results := [.lit (.bool true)], args := [d1, d2] }
  | _ => none }
def fnExactRegisterWordRow : OpenClaim := { program := "ytbmgpafijkfdbaa", sum := "c72e24370dac14dbc248e443cd696260f0951b9c7865d141ae966ef678acf6ef", func := "loop.example/g01104/laws.FnExactRegisterWord", spec := "fnExactRegisterWord", apart := false }
def FnExactRegisterWordSaid : Prop := fnExactRegisterWordRow.holds Try.pinned (OpenSpec.ofChange fnExactRegisterWordSpec)

/-- ITS FALSE NEIGHBOUR: 'it returns false'. Refute it at one input. -/
def fnExactRegisterWordWrong : ChangeSpec := { name := "fnExactRegisterWord", fn := fun _ => fun
  | [d1, d2] => { results := [.lit (.bool false)], args := [d1, d2] }
  | _ => none }
def FnExactRegisterWordWrongFalsely : Prop := fnExactRegisterWordRow.holds Try.pinned (OpenSpec.ofChange fnExactRegisterWordWrong)

/-- 'laws.FnExactIsTorus': WHATEVER THE INPUT: true; the input reads as it did. -/
def fnExactIsTorusSpec : ChangeSpec := { name := "fnExactIsTorus", fn := fun _ => fun
  | [d] => { results := [.lit (.bool true)], args := [d] }
  | _ => none }
def fnExactIsTorusRow : OpenClaim := { program := "ytbmgpafijkfdbaa", sum := "c72e24370dac14dbc248e443cd696260f0951b9c7865d141ae966ef678acf6ef", func := "loop.example/g01104/laws.FnExactIsTorus", spec := "fnExactIsTorus", apart := false }
def FnExactIsTorusSaid : Prop := fnExactIsTorusRow.holds Try.pinned (OpenSpec.ofChange fnExactIsTorusSpec)

/-- ITS FALSE NEIGHBOUR: 'it returns false'. Refute it at one input. -/
def fnExactIsTorusWrong : ChangeSpec := { name := "fnExactIsTorus", fn := fun _ => fun
  | [d] => { results := [.lit (.bool false)], args := [d] }
  | _ => none }
def FnExactIsTorusWrongFalsely : Prop := fnExactIsTorusRow.holds Try.pinned (OpenSpec.ofChange fnExactIsTorusWrong)

/-- 'laws.FnBruijnFromLyndon': WHATEVER THE INPUT: true; the input reads as it did. -/
def fnBruijnFromLyndonSpec : ChangeSpec := { name := "fnBruijnFromLyndon", fn := fun _ => fun
  | [d1, d2] => { results := [.lit (.bool true)], args := [d1, d2] }
  | _ => none }
def fnBruijnFromLyndonRow : OpenClaim := { program := "ytbmgpafijkfdbaa", sum := "c72e24370dac14dbc248e443cd696260f0951b9c7865d141ae966ef678acf6ef", func := "loop.example/g01104/laws.FnBruijnFromLyndon", spec := "fnBruijnFromLyndon", unfollowed := true, recurses := true, apart := false }
def FnBruijnFromLyndonSaid : Prop := fnBruijnFromLyndonRow.holds Try.pinned (OpenSpec.ofChange fnBruijnFromLyndonSpec)

/-- ITS FALSE NEIGHBOUR: 'it returns false'. Refute it at one input. -/
def fnBruijnFromLyndonWrong : ChangeSpec := { name := "fnBruijnFromLyndon", fn := fun _ => fun
  | [d1, d2] => { results := [.lit (.bool false)], args := [d1, d2] }
  | _ => none }
def FnBruijnFromLyndonWrongFalsely : Prop := fnBruijnFromLyndonRow.holds Try.pinned (OpenSpec.ofChange fnBruijnFromLyndonWrong)

/-- 'laws.FnExactTurnTorus': WHATEVER THE INPUT: true; the input reads as it did. -/
def fnExactTurnTorusSpec : ChangeSpec := { name := "fnExactTurnTorus", fn := fun _ => fun
  | [d1, d2, d3] => { results := [.lit (.bool true)], args := [d1, d2, d3] }
  | _ => none }
def fnExactTurnTorusRow : OpenClaim := { program := "ytbmgpafijkfdbaa", sum := "c72e24370dac14dbc248e443cd696260f0951b9c7865d141ae966ef678acf6ef", func := "loop.example/g01104/laws.FnExactTurnTorus", spec := "fnExactTurnTorus", apart := false }
def FnExactTurnTorusSaid : Prop := fnExactTurnTorusRow.holds Try.pinned (OpenSpec.ofChange fnExactTurnTorusSpec)

/-- ITS FALSE NEIGHBOUR: 'it returns false'. Refute it at one input. -/
def fnExactTurnTorusWrong : ChangeSpec := { name := "fnExactTurnTorus", fn := fun _ => fun
  | [d1, d2, d3] => { results := [.lit (.bool false)], args := [d1, d2, d3] }
  | _ => none }
def FnExactTurnTorusWrongFalsely : Prop := fnExactTurnTorusRow.holds Try.pinned (OpenSpec.ofChange fnExactTurnTorusWrong)

/-- 'laws.FnExactTorusPlace': WHATEVER THE INPUT: true; the input reads as it did. -/
def fnExactTorusPlaceSpec : ChangeSpec := { name := "fnExactTorusPlace", fn := fun _ => fun
  | [d1, d2] => { results := [.lit (.bool true)], args := [d1, d2] }
  | _ => none }
def fnExactTorusPlaceRow : OpenClaim := { program := "ytbmgpafijkfdbaa", sum := "c72e24370dac14dbc248e443cd696260f0951b9c7865d141ae966ef678acf6ef", func := "loop.example/g01104/laws.FnExactTorusPlace", spec := "fnExactTorusPlace", apart := false }
def FnExactTorusPlaceSaid : Prop := fnExactTorusPlaceRow.holds Try.pinned (OpenSpec.ofChange fnExactTorusPlaceSpec)

/-- ITS FALSE NEIGHBOUR: 'it returns false'. Refute it at one input. -/
def fnExactTorusPlaceWrong : ChangeSpec := { name := "fnExactTorusPlace", fn := fun _ => fun
  | [d1, d2] => { results := [.lit (.bool false)], args := [d1, d2] }
  | _ => none }
def FnExactTorusPlaceWrongFalsely : Prop := fnExactTorusPlaceRow.holds Try.pinned (OpenSpec.ofChange fnExactTorusPlaceWrong)

/-- 'laws.FnExactFirstTorus': WHATEVER THE INPUT: true; the input reads as it did. -/
def fnExactFirstTorusSpec : ChangeSpec := { name := "fnExactFirstTorus", fn := fun _ => fun
  | [d] => { results := [.lit (.bool true)], args := [d] }
  | _ => none }
def fnExactFirstTorusRow : OpenClaim := { program := "ytbmgpafijkfdbaa", sum := "c72e24370dac14dbc248e443cd696260f0951b9c7865d141ae966ef678acf6ef", func := "loop.example/g01104/laws.FnExactFirstTorus", spec := "fnExactFirstTorus", unfollowed := true, recurses := true, apart := false }
def FnExactFirstTorusSaid : Prop := fnExactFirstTorusRow.holds Try.pinned (OpenSpec.ofChange fnExactFirstTorusSpec)

/-- ITS FALSE NEIGHBOUR: 'it returns false'. Refute it at one input. -/
def fnExactFirstTorusWrong : ChangeSpec := { name := "fnExactFirstTorus", fn := fun _ => fun
  | [d] => { results := [.lit (.bool false)], args := [d] }
  | _ => none }
def FnExactFirstTorusWrongFalsely : Prop := fnExactFirstTorusRow.holds Try.pinned (OpenSpec.ofChange fnExactFirstTorusWrong)

/-- 'laws.FnWindowsGoRound': WHATEVER THE INPUT: true; the input reads as it did. -/
def fnWindowsGoRoundSpec : ChangeSpec := { name := "fnWindowsGoRound", fn := fun _ => fun
  | [d1, d2] => { results := [.lit (.bool true)], args := [d1, d2] }
  | _ => none }
def fnWindowsGoRoundRow : OpenClaim := { program := "ytbmgpafijkfdbaa", sum := "c72e24370dac14dbc248e443cd696260f0951b9c7865d141ae966ef678acf6ef", func := "loop.example/g01104/laws.FnWindowsGoRound", spec := "fnWindowsGoRound", apart := false }
def FnWindowsGoRoundSaid : Prop := fnWindowsGoRoundRow.holds Try.pinned (OpenSpec.ofChange fnWindowsGoRoundSpec)

/-- ITS FALSE NEIGHBOUR: 'it returns false'. Refute it at one input. -/
def fnWindowsGoRoundWrong : ChangeSpec := { name := "fnWindowsGoRound", fn := fun _ => fun
  | [d1, d2] => { results := [.lit (.bool false)], args := [d1, d2] }
  | _ => none }
def FnWindowsGoRoundWrongFalsely : Prop := fnWindowsGoRoundRow.holds Try.pinned (OpenSpec.ofChange fnWindowsGoRoundWrong)

/-- 'laws.FnSafeLengths': WHATEVER THE INPUT: true; the input reads as it did. -/
def fnSafeLengthsSpec : ChangeSpec := { name := "fnSafeLengths", fn := fun _ => fun
  | [d1, d2] => { results := [.lit (.bool true)], args := [d1, d2] }
  | _ => none }
def fnSafeLengthsRow : OpenClaim := { program := "ytbmgpafijkfdbaa", sum := "c72e24370dac14dbc248e443cd696260f0951b9c7865d141ae966ef678acf6ef", func := "loop.example/g01104/laws.FnSafeLengths", spec := "fnSafeLengths", apart := false }
def FnSafeLengthsSaid : Prop := fnSafeLengthsRow.holds Try.pinned (OpenSpec.ofChange fnSafeLengthsSpec)

/-- ITS FALSE NEIGHBOUR: 'it returns false'. Refute it at one input. -/
def fnSafeLengthsWrong : ChangeSpec := { name := "fnSafeLengths", fn := fun _ => fun
  | [d1, d2] => { results := [.lit (.bool false)], args := [d1, d2] }
  | _ => none }
def FnSafeLengthsWrongFalsely : Prop := fnSafeLengthsRow.holds Try.pinned (OpenSpec.ofChange fnSafeLengthsWrong)

/- THE SECOND FORM. 'bulk': how many values and letters a reading holds, each counted each time it is reached (what is shared counts as often as it is met; a slice's spare places count too). A statement '..UptoSaid' is the law's where the arguments, and the package variables that the reading takes, are together of bulk at most 1048576: NARROWER than '..Said'. Prove '..Said' where nothing that the law and all that it calls make is longer than what came in: it says more and counts as full. Else prove '..UptoSaid'. A law counts once. -/
mutual
def uptoBulk {H : Type} : DataW H → Nat
  | .lit (.string bytes) => bytes.length + 1
  | .lit _ => 1
  | .nil => 1
  | .ptr d => uptoBulk d + 1
  | .slice elems spare => uptoBulkAll elems + uptoBulkAll spare + 1
  | .agg parts => uptoBulkAll parts + 1
  | .iface _ d => uptoBulk d + 1
  | .map entries => uptoBulkEntries entries + 1
  | .held _ => 1
def uptoBulkAll {H : Type} : List (DataW H) → Nat
  | [] => 0
  | d :: r => uptoBulk d + uptoBulkAll r
def uptoBulkEntries {H : Type} : List (Lit × DataW H) → Nat
  | [] => 0
  | x :: r => uptoBulkEntry x + uptoBulkEntries r
def uptoBulkEntry {H : Type} : Lit × DataW H → Nat
  | (.string bytes, d) => bytes.length + uptoBulk d + 1
  | (_, d) => uptoBulk d + 1
 end
def uptoSmall : (H : Type) → List (DataW H) → Bool := fun _ ds => decide (uptoBulkAll ds ≤ 1048576)
def OpenSpec.upto (s : _root_.Go.ChangeSpec) : _root_.Go.OpenSpec := { _root_.Go.OpenSpec.ofChange s with cond := some uptoSmall }

/-- 'laws.FnExactIsFullRegister', WHERE WHAT IT READS IS OF BULK AT MOST 1048576: true; the input reads as it did. -/
def fnExactIsFullRegisterUptoRow : OpenClaim := { program := "ytbmgpafijkfdbaa", sum := "c72e24370dac14dbc248e443cd696260f0951b9c7865d141ae966ef678acf6ef", func := "loop.example/g01104/laws.FnExactIsFullRegister", spec := "fnExactIsFullRegister", apart := false, narrowed := true }
def FnExactIsFullRegisterUptoSaid : Prop := fnExactIsFullRegisterUptoRow.holds Try.pinned (OpenSpec.upto fnExactIsFullRegisterSpec)

/-- 'laws.FnExactMendWindow', WHERE WHAT IT READS IS OF BULK AT MOST 1048576: true; the input reads as it did. -/
def fnExactMendWindowUptoRow : OpenClaim := { program := "ytbmgpafijkfdbaa", sum := "c72e24370dac14dbc248e443cd696260f0951b9c7865d141ae966ef678acf6ef", func := "loop.example/g01104/laws.FnExactMendWindow", spec := "fnExactMendWindow", apart := false, narrowed := true }
def FnExactMendWindowUptoSaid : Prop := fnExactMendWindowUptoRow.holds Try.pinned (OpenSpec.upto fnExactMendWindowSpec)

/-- 'laws.FnExactPairCycle', WHERE WHAT IT READS IS OF BULK AT MOST 1048576: true; the input reads as it did. -/
def fnExactPairCycleUptoRow : OpenClaim := { program := "ytbmgpafijkfdbaa", sum := "c72e24370dac14dbc248e443cd696260f0951b9c7865d141ae966ef678acf6ef", func := "loop.example/g01104/laws.FnExactPairCycle", spec := "fnExactPairCycle", unfollowed := true, recurses := true, apart := false, narrowed := true }
def FnExactPairCycleUptoSaid : Prop := fnExactPairCycleUptoRow.holds Try.pinned (OpenSpec.upto fnExactPairCycleSpec)

/-- 'laws.FnExactLeastBruijn', WHERE WHAT IT READS IS OF BULK AT MOST 1048576: true; the input reads as it did. -/
def fnExactLeastBruijnUptoRow : OpenClaim := { program := "ytbmgpafijkfdbaa", sum := "c72e24370dac14dbc248e443cd696260f0951b9c7865d141ae966ef678acf6ef", func := "loop.example/g01104/laws.FnExactLeastBruijn", spec := "fnExactLeastBruijn", unfollowed := true, recurses := true, apart := false, narrowed := true }
def FnExactLeastBruijnUptoSaid : Prop := fnExactLeastBruijnUptoRow.holds Try.pinned (OpenSpec.upto fnExactLeastBruijnSpec)

/-- 'laws.FnExactRegisterWord', WHERE WHAT IT READS IS OF BULK AT MOST 1048576: true; the input reads as it did. -/
def fnExactRegisterWordUptoRow : OpenClaim := { program := "ytbmgpafijkfdbaa", sum := "c72e24370dac14dbc248e443cd696260f0951b9c7865d141ae966ef678acf6ef", func := "loop.example/g01104/laws.FnExactRegisterWord", spec := "fnExactRegisterWord", apart := false, narrowed := true }
def FnExactRegisterWordUptoSaid : Prop := fnExactRegisterWordUptoRow.holds Try.pinned (OpenSpec.upto fnExactRegisterWordSpec)

/-- 'laws.FnExactIsTorus', WHERE WHAT IT READS IS OF BULK AT MOST 1048576: true; the input reads as it did. -/
def fnExactIsTorusUptoRow : OpenClaim := { program := "ytbmgpafijkfdbaa", sum := "c72e24370dac14dbc248e443cd696260f0951b9c7865d141ae966ef678acf6ef", func := "loop.example/g01104/laws.FnExactIsTorus", spec := "fnExactIsTorus", apart := false, narrowed := true }
def FnExactIsTorusUptoSaid : Prop := fnExactIsTorusUptoRow.holds Try.pinned (OpenSpec.upto fnExactIsTorusSpec)

/-- 'laws.FnBruijnFromLyndon', WHERE WHAT IT READS IS OF BULK AT MOST 1048576: true; the input reads as it did. -/
def fnBruijnFromLyndonUptoRow : OpenClaim := { program := "ytbmgpafijkfdbaa", sum := "c72e24370dac14dbc248e443cd696260f0951b9c7865d141ae966ef678acf6ef", func := "loop.example/g01104/laws.FnBruijnFromLyndon", spec := "fnBruijnFromLyndon", unfollowed := true, recurses := true, apart := false, narrowed := true }
def FnBruijnFromLyndonUptoSaid : Prop := fnBruijnFromLyndonUptoRow.holds Try.pinned (OpenSpec.upto fnBruijnFromLyndonSpec)

/-- 'laws.FnExactTurnTorus', WHERE WHAT IT READS IS OF BULK AT MOST 1048576: true; the input reads as it did. -/
def fnExactTurnTorusUptoRow : OpenClaim := { program := "ytbmgpafijkfdbaa", sum := "c72e24370dac14dbc248e443cd696260f0951b9c7865d141ae966ef678acf6ef", func := "loop.example/g01104/laws.FnExactTurnTorus", spec := "fnExactTurnTorus", apart := false, narrowed := true }
def FnExactTurnTorusUptoSaid : Prop := fnExactTurnTorusUptoRow.holds Try.pinned (OpenSpec.upto fnExactTurnTorusSpec)

/-- 'laws.FnExactTorusPlace', WHERE WHAT IT READS IS OF BULK AT MOST 1048576: true; the input reads as it did. -/
def fnExactTorusPlaceUptoRow : OpenClaim := { program := "ytbmgpafijkfdbaa", sum := "c72e24370dac14dbc248e443cd696260f0951b9c7865d141ae966ef678acf6ef", func := "loop.example/g01104/laws.FnExactTorusPlace", spec := "fnExactTorusPlace", apart := false, narrowed := true }
def FnExactTorusPlaceUptoSaid : Prop := fnExactTorusPlaceUptoRow.holds Try.pinned (OpenSpec.upto fnExactTorusPlaceSpec)

/-- 'laws.FnExactFirstTorus', WHERE WHAT IT READS IS OF BULK AT MOST 1048576: true; the input reads as it did. -/
def fnExactFirstTorusUptoRow : OpenClaim := { program := "ytbmgpafijkfdbaa", sum := "c72e24370dac14dbc248e443cd696260f0951b9c7865d141ae966ef678acf6ef", func := "loop.example/g01104/laws.FnExactFirstTorus", spec := "fnExactFirstTorus", unfollowed := true, recurses := true, apart := false, narrowed := true }
def FnExactFirstTorusUptoSaid : Prop := fnExactFirstTorusUptoRow.holds Try.pinned (OpenSpec.upto fnExactFirstTorusSpec)

/-- 'laws.FnWindowsGoRound', WHERE WHAT IT READS IS OF BULK AT MOST 1048576: true; the input reads as it did. -/
def fnWindowsGoRoundUptoRow : OpenClaim := { program := "ytbmgpafijkfdbaa", sum := "c72e24370dac14dbc248e443cd696260f0951b9c7865d141ae966ef678acf6ef", func := "loop.example/g01104/laws.FnWindowsGoRound", spec := "fnWindowsGoRound", apart := false, narrowed := true }
def FnWindowsGoRoundUptoSaid : Prop := fnWindowsGoRoundUptoRow.holds Try.pinned (OpenSpec.upto fnWindowsGoRoundSpec)

/-- 'laws.FnSafeLengths', WHERE WHAT IT READS IS OF BULK AT MOST 1048576: true; the input reads as it did. -/
def fnSafeLengthsUptoRow : OpenClaim := { program := "ytbmgpafijkfdbaa", sum := "c72e24370dac14dbc248e443cd696260f0951b9c7865d141ae966ef678acf6ef", func := "loop.example/g01104/laws.FnSafeLengths", spec := "fnSafeLengths", apart := false, narrowed := true }
def FnSafeLengthsUptoSaid : Prop := fnSafeLengthsUptoRow.holds Try.pinned (OpenSpec.upto fnSafeLengthsSpec)

end Rows
end Go.Proofs.Ytbmgpafijkfdbaa
