/- The words that the law's texts lean on, without those that none of them comes to (wip/tools/slim.py over the texts that print.sh wrote). No condition. -/
import Derived.Test.YtpennfkjfeipcaaVFnBoxesOneWInv
import Derived.Test.YtpennfkjfeipcaaVFnBoxesOneWFootNe
namespace Go.Proofs.YtpennfkjfeipcaaW.PrintWords
open Go.RowKit
end Go.Proofs.YtpennfkjfeipcaaW.PrintWords
namespace Go.Proofs.YtpennfkjfeipcaaW.PrintLast
section
variable {ops : Array Oper} {a : Act} {o og : Oper} {g : Nat} {t : Tmp} {u : Bool}
end
end Go.Proofs.YtpennfkjfeipcaaW.PrintLast
