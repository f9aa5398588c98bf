/- The words that the law's texts lean on, without those that none of them comes to (wip/tools/slim.py over the texts that print.sh wrote). No condition. -/
import Derived.Test.YtipmhlajjdnhoaaVFnLayersWInv
import Derived.Test.YtipmhlajjdnhoaaVFnLayersWFootNe
namespace Go.Proofs.YtipmhlajjdnhoaaW.PrintWords
open Go.RowKit
end Go.Proofs.YtipmhlajjdnhoaaW.PrintWords
namespace Go.Proofs.YtipmhlajjdnhoaaW.PrintLast
section
variable {ops : Array Oper} {a : Act} {o og : Oper} {g : Nat} {t : Tmp} {u : Bool}
end
end Go.Proofs.YtipmhlajjdnhoaaW.PrintLast
