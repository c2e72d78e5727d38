import Derived.Test.YtdnbeekoefmbcaaWInv
import Derived.Test.YtdnbeekoefmbcaaWFootNe
namespace Go.Proofs.YtdnbeekoefmbcaaW.PrintWords
open Go.RowKit
end Go.Proofs.YtdnbeekoefmbcaaW.PrintWords
namespace Go.Proofs.YtdnbeekoefmbcaaW.PrintLast
section
variable {ops : Array Oper} {a : Act} {o og : Oper} {g : Nat} {t : Tmp} {u : Bool}
end
end Go.Proofs.YtdnbeekoefmbcaaW.PrintLast
