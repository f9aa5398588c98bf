/- The words that the law's texts lean on, without those that none of them comes to (wip/tools/slim.py over the texts that print.sh wrote). No condition. -/
import Derived.Test.YtpennfkjfeipcaaDoorVFnFoundWInv
import Derived.Test.YtpennfkjfeipcaaDoorVFnFoundWFootNe
namespace Go.Proofs.YtpennfkjfeipcaaDoorW.PrintWords
open Go.RowKit
end Go.Proofs.YtpennfkjfeipcaaDoorW.PrintWords
namespace Go.Proofs.YtpennfkjfeipcaaDoorW.PrintLast
section
variable {ops : Array Oper} {a : Act} {o og : Oper} {g : Nat} {t : Tmp} {u : Bool}
end
end Go.Proofs.YtpennfkjfeipcaaDoorW.PrintLast
