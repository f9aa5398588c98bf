/- The words that the law's texts lean on, without those that none of them comes to (wip/tools/slim.py over the texts that print.sh wrote). No condition. -/
import Derived.Test.YtbafihapjbkagaaVFnDeepsWInv
import Derived.Test.YtbafihapjbkagaaVFnDeepsWFootNe
namespace Go.Proofs.YtbafihapjbkagaaW.PrintWords
open Go.RowKit
end Go.Proofs.YtbafihapjbkagaaW.PrintWords
namespace Go.Proofs.YtbafihapjbkagaaW.PrintLast
section
variable {ops : Array Oper} {a : Act} {o og : Oper} {g : Nat} {t : Tmp} {u : Bool}
end
end Go.Proofs.YtbafihapjbkagaaW.PrintLast
