-- Written for this claim by a copy of the print that meets some functions by contracts of this session.
import Derived.Test.YthoknblgbmphmaaProg
import Derived.Below
import Derived.Deep.Draws
import Derived.Deep.AppendLies
import Derived.Maps.AppendAt
import Derived.OwnWalk
import Derived.Laws.BytesArg
import Derived.Laws.MakeOwn
import Derived.Laws.OwnMore
import Derived.Deep.OwnRows
import Derived.Tactics
import Derived.Lib.ConvBytes
import Derived.Laws.Slices
import Derived.WalkKit
import Derived.KernelRfl
import Derived.RowKit3
import Derived.Deep.LoopGhost
import Derived.Deep.QuietTactic
import Derived.BigQuiet
import Derived.WideLaws
import Derived.Deep.DeepCutAuto
import Derived.Deep.CutBlock
import Derived.Deep.RegionHeld3
import Derived.Laws.Rows
import Derived.Lib.AppendStr
import Derived.ArgAppend
import Derived.Laws.IdiomCopy
import Derived.OrdersHeld
import Derived.Laws.BitsLemmas
import Derived.RowKit
import Derived.WalkSpells
import Derived.Lib.SliceRun
import Derived.Test.YthoknblgbmphmaaSorts
import Derived.Test.YthoknblgbmphmaaDels
import Derived.Test.YthoknblgbmphmaaIns
import Derived.Test.YthoknblgbmphmaaWWords
import Derived.Test.YthoknblgbmphmaaWLast
import Derived.Test.YthoknblgbmphmaaWTab
import Derived.Test.YthoknblgbmphmaaWFour
import Derived.Test.YthoknblgbmphmaaWQPut
import Derived.Test.YthoknblgbmphmaaWApart
import Derived.Test.YthoknblgbmphmaaWArr
import Derived.Test.YthoknblgbmphmaaWZeros
import Derived.Test.YthoknblgbmphmaaWFoot
import Derived.Test.YthoknblgbmphmaaWKept
import Derived.Test.YthoknblgbmphmaaWShare
import Derived.Test.YthoknblgbmphmaaWN
import Derived.Test.YthoknblgbmphmaaWFootNe
import Derived.Test.YthoknblgbmphmaaWAt
import Derived.Test.YthoknblgbmphmaaWEqStruct
import Derived.Test.YthoknblgbmphmaaWRepsOne
import Derived.Test.YthoknblgbmphmaaWInv
import Derived.Test.YthoknblgbmphmaaWInvWords
import Derived.Test.YthoknblgbmphmaaWGuard
import Derived.Test.YthoknblgbmphmaaWNEv
import Derived.Test.YthoknblgbmphmaaWMore
namespace Go.Proofs.Ythoknblgbmphmaa.PFnZerosTakenAndPut
open Go.RowKit Go.Proofs.YthoknblgbmphmaaW.PrintWords Go.Proofs.YthoknblgbmphmaaW.PrintLast Go.Proofs.YthoknblgbmphmaaW.PrintMore
attribute [local go_sem] max2_int min2_int max_two min_two max_three min_three max_four min_four   -- for this text's walks alone
set_option linter.unusedVariables false
set_option linter.unusedSimpArgs false



def errW : Option Int → Value
  | none => .nilIface
  | some c => .iface 0 (.int .i64 c)
theorem errW_none : errW none = .nilIface := rfl
theorem errW_some (c : Int) : errW (some c) = .iface 0 (.int .i64 c) := rfl

theorem info3 : (Try.prog.info? 3).map (fun i => (i.zero, i.size, i.bytes)) = some (some (.int .i64 0), 1, 8) := by kernel_rfl
theorem info4 : (Try.prog.info? 4).map (fun i => (i.zero, i.size, i.bytes)) = some (some (.bool false), 1, 1) := by kernel_rfl
-- the values' own types

end Go.Proofs.Ythoknblgbmphmaa.PFnZerosTakenAndPut
