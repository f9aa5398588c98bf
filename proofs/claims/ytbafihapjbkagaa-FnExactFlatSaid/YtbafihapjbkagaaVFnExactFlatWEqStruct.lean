/- The words that the law's texts lean on, without those that none of them comes to (wip/tools/slim.py over the texts that print.sh wrote). No condition. -/
import Derived.Test.YtbafihapjbkagaaVFnExactFlatWWords
import Derived.Laws.StructEq
/-! ### 53. '==' of structs as_ one Bool -/
namespace Go.Proofs.YtbafihapjbkagaaW.PrintWords
open Go.RowKit
section
variable {P : Program} {d : Nat} {xs ys : Array Value} {f : Field} {fs : List Field} {a b : Value} {r s : Bool} {w : World}
end
end Go.Proofs.YtbafihapjbkagaaW.PrintWords
