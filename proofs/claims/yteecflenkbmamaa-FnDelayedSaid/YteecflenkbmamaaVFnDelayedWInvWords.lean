/- The words that the law's texts lean on, without those that none of them comes to (wip/tools/slim.py over the texts that print.sh wrote). No condition. -/
import Derived.Test.YteecflenkbmamaaVFnDelayedWInv
import Derived.Test.YteecflenkbmamaaVFnDelayedWFootNe
namespace Go.Proofs.YteecflenkbmamaaW.PrintWords
open Go.RowKit
end Go.Proofs.YteecflenkbmamaaW.PrintWords
namespace Go.Proofs.YteecflenkbmamaaW.PrintLast
section
variable {ops : Array Oper} {a : Act} {o og : Oper} {g : Nat} {t : Tmp} {u : Bool}
end
end Go.Proofs.YteecflenkbmamaaW.PrintLast
