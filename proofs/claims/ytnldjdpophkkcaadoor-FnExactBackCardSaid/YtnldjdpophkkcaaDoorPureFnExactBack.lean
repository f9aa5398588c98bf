/- Proved: the plain law behind FnExactBack. No condition. -/
import Derived.Test.YtnldjdpophkkcaaDoorPFnExactBackx1
namespace Go.Proofs.YtnldjdpophkkcaaDoor.Pure
open Go.RowKit Go.Proofs.YtnldjdpophkkcaaDoor.PFnExactBack Go.Proofs.YtnldjdpophkkcaaDoorW.PrintWords Go.Proofs.YtnldjdpophkkcaaDoorW.PrintLast

set_option linter.unusedVariables false

theorem FnExactBack (l0 : List PFnExactBack.S38) (w0 : (l0.length ≤ maxLen ∧ ∀ y2 ∈ l0, ((Lit.float .f64 y2.f0).wf = true) ∧ ((Lit.float .f64 y2.f1).wf = true))) : PFnExactBack.laws_FnExactBack.f l0 = some true := by
  rfl

end Go.Proofs.YtnldjdpophkkcaaDoor.Pure
