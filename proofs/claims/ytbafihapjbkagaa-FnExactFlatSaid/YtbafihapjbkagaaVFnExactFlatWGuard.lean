/- The words that the law's texts lean on, without those that none of them comes to (wip/tools/slim.py over the texts that print.sh wrote). No condition. -/
import Derived.Test.YtbafihapjbkagaaVFnExactFlatWWords
/-! ### 58. A guarded operation whose guard is known to want it: the same goal without the guard -/
namespace Go.Proofs.YtbafihapjbkagaaW.PrintWords
open Go.RowKit
section
variable {P : Program} {ops : Array Oper} {rest : List Oper} {o : Oper} {a : Act} {Q : Exit → Act → World → Prop} {W : World}
end
end Go.Proofs.YtbafihapjbkagaaW.PrintWords
