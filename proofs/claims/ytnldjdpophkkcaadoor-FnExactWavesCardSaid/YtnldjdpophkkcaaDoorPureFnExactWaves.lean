/- Proved: the plain law behind FnExactWaves. No condition. -/
import Derived.Test.YtnldjdpophkkcaaDoorPFnExactWavesx17
namespace Go.Proofs.YtnldjdpophkkcaaDoor.Pure
open Go.RowKit Go.Proofs.YtnldjdpophkkcaaDoor.PFnExactWaves Go.Proofs.YtnldjdpophkkcaaDoorW.PrintWords Go.Proofs.YtnldjdpophkkcaaDoorW.PrintLast

set_option linter.unusedVariables false

theorem FnExactWaves (l0 : List PFnExactWaves.S38) (w0 : (l0.length ≤ maxLen ∧ ∀ y2 ∈ l0, ((Lit.float .f64 y2.f0).wf = true) ∧ ((Lit.float .f64 y2.f1).wf = true))) : PFnExactWaves.laws_FnExactWaves.f l0 = some true := by
  rfl

end Go.Proofs.YtnldjdpophkkcaaDoor.Pure
