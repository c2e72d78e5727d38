-- Written for this claim by a copy of the print that meets some functions by contracts of this session.
import Derived.Test.YtenmdfeldcjdfaaProg
import Derived.Below
import Derived.Deep.Draws
import Derived.Deep.AppendLies
import Derived.Maps.AppendAt
import Derived.OwnWalk
import Derived.Laws.BytesArg
import Derived.Laws.MakeOwn
import Derived.Laws.OwnMore
import Derived.Deep.OwnRows
import Derived.Tactics
import Derived.Lib.ConvBytes
import Derived.Laws.Slices
import Derived.WalkKit
import Derived.KernelRfl
import Derived.RowKit3
import Derived.Deep.LoopGhost
import Derived.Deep.QuietTactic
import Derived.BigQuiet
import Derived.WideLaws
import Derived.Deep.DeepCutAuto
import Derived.Deep.CutBlock
import Derived.Deep.RegionHeld3
import Derived.Laws.Rows
import Derived.Lib.AppendStr
import Derived.ArgAppend
import Derived.Laws.IdiomCopy
import Derived.OrdersHeld
import Derived.Laws.BitsLemmas
import Derived.RowKit
import Derived.WalkSpells
import Derived.Lib.SliceRun
import Derived.Test.YtenmdfeldcjdfaaMaps
import Derived.Test.YtenmdfeldcjdfaaWWords
import Derived.Test.YtenmdfeldcjdfaaWLast
import Derived.Test.YtenmdfeldcjdfaaWTab
import Derived.Test.YtenmdfeldcjdfaaWFour
import Derived.Test.YtenmdfeldcjdfaaWQPut
import Derived.Test.YtenmdfeldcjdfaaWApart
import Derived.Test.YtenmdfeldcjdfaaWArr
import Derived.Test.YtenmdfeldcjdfaaWZeros
import Derived.Test.YtenmdfeldcjdfaaWFoot
import Derived.Test.YtenmdfeldcjdfaaWKept
import Derived.Test.YtenmdfeldcjdfaaWShare
import Derived.Test.YtenmdfeldcjdfaaWN
import Derived.Test.YtenmdfeldcjdfaaWFootNe
import Derived.Test.YtenmdfeldcjdfaaWAt
import Derived.Test.YtenmdfeldcjdfaaWEqStruct
import Derived.Test.YtenmdfeldcjdfaaWRepsOne
import Derived.Test.YtenmdfeldcjdfaaWInv
import Derived.Test.YtenmdfeldcjdfaaWInvWords
import Derived.Test.YtenmdfeldcjdfaaWGuard
import Derived.Test.YtenmdfeldcjdfaaWNEv
import Derived.Test.YtenmdfeldcjdfaaWMore
namespace Go.Proofs.Ytenmdfeldcjdfaa.PFnPairCycles
open Go.RowKit Go.Proofs.YtenmdfeldcjdfaaW.PrintWords Go.Proofs.YtenmdfeldcjdfaaW.PrintLast Go.Proofs.YtenmdfeldcjdfaaW.PrintMore
attribute [local go_sem] max2_int min2_int max_two min_two max_three min_three max_four min_four   -- for this text's walks alone
set_option linter.unusedVariables false
set_option linter.unusedSimpArgs false



def errW : Option Int → Value
  | none => .nilIface
  | some c => .iface 0 (.int .i64 c)
theorem errW_none : errW none = .nilIface := rfl
theorem errW_some (c : Int) : errW (some c) = .iface 0 (.int .i64 c) := rfl

theorem info3 : (Try.prog.info? 3).map (fun i => (i.zero, i.size, i.bytes)) = some (some (.int .i64 0), 1, 8) := by kernel_rfl
theorem info4 : (Try.prog.info? 4).map (fun i => (i.zero, i.size, i.bytes)) = some (some (.bool false), 1, 1) := by kernel_rfl
-- the values' own types

end Go.Proofs.Ytenmdfeldcjdfaa.PFnPairCycles
