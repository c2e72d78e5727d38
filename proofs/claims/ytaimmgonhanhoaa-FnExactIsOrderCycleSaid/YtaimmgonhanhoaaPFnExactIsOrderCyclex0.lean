-- Written for this claim by a copy of the print that meets some functions by contracts of this session.
import Derived.Test.YtaimmgonhanhoaaProg
import Derived.Below
import Derived.Deep.Draws
import Derived.Deep.AppendLies
import Derived.Maps.AppendAt
import Derived.OwnWalk
import Derived.Laws.BytesArg
import Derived.Laws.MakeOwn
import Derived.Laws.OwnMore
import Derived.Deep.OwnRows
import Derived.Tactics
import Derived.Lib.ConvBytes
import Derived.Laws.Slices
import Derived.WalkKit
import Derived.KernelRfl
import Derived.RowKit3
import Derived.Deep.LoopGhost
import Derived.Deep.QuietTactic
import Derived.BigQuiet
import Derived.WideLaws
import Derived.Deep.DeepCutAuto
import Derived.Deep.CutBlock
import Derived.Deep.RegionHeld3
import Derived.Laws.Rows
import Derived.Lib.AppendStr
import Derived.ArgAppend
import Derived.Laws.IdiomCopy
import Derived.OrdersHeld
import Derived.Laws.BitsLemmas
import Derived.RowKit
import Derived.WalkSpells
import Derived.Lib.SliceRun
import Derived.Test.YtaimmgonhanhoaaSorts
import Derived.Test.YtaimmgonhanhoaaMaps
import Derived.Test.YtaimmgonhanhoaaWWords
import Derived.Test.YtaimmgonhanhoaaWLast
import Derived.Test.YtaimmgonhanhoaaWTab
import Derived.Test.YtaimmgonhanhoaaWFour
import Derived.Test.YtaimmgonhanhoaaWQPut
import Derived.Test.YtaimmgonhanhoaaWApart
import Derived.Test.YtaimmgonhanhoaaWArr
import Derived.Test.YtaimmgonhanhoaaWZeros
import Derived.Test.YtaimmgonhanhoaaWFoot
import Derived.Test.YtaimmgonhanhoaaWKept
import Derived.Test.YtaimmgonhanhoaaWShare
import Derived.Test.YtaimmgonhanhoaaWN
import Derived.Test.YtaimmgonhanhoaaWFootNe
import Derived.Test.YtaimmgonhanhoaaWAt
import Derived.Test.YtaimmgonhanhoaaWEqStruct
import Derived.Test.YtaimmgonhanhoaaWRepsOne
import Derived.Test.YtaimmgonhanhoaaWInv
import Derived.Test.YtaimmgonhanhoaaWInvWords
import Derived.Test.YtaimmgonhanhoaaWGuard
import Derived.Test.YtaimmgonhanhoaaWNEv
import Derived.Test.YtaimmgonhanhoaaWMore
namespace Go.Proofs.Ytaimmgonhanhoaa.PFnExactIsOrderCycle
open Go.RowKit Go.Proofs.YtaimmgonhanhoaaW.PrintWords Go.Proofs.YtaimmgonhanhoaaW.PrintLast Go.Proofs.YtaimmgonhanhoaaW.PrintMore
attribute [local go_sem] max2_int min2_int max_two min_two max_three min_three max_four min_four   -- for this text's walks alone
set_option linter.unusedVariables false
set_option linter.unusedSimpArgs false



def errW : Option Int → Value
  | none => .nilIface
  | some c => .iface 0 (.int .i64 c)
theorem errW_none : errW none = .nilIface := rfl
theorem errW_some (c : Int) : errW (some c) = .iface 0 (.int .i64 c) := rfl

theorem info3 : (Try.prog.info? 3).map (fun i => (i.zero, i.size, i.bytes)) = some (some (.int .i64 0), 1, 8) := by kernel_rfl
theorem info4 : (Try.prog.info? 4).map (fun i => (i.zero, i.size, i.bytes)) = some (some (.bool false), 1, 1) := by kernel_rfl
-- the values' own types

end Go.Proofs.Ytaimmgonhanhoaa.PFnExactIsOrderCycle
