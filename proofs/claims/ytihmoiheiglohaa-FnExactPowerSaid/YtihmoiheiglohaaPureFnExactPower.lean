/- Proved: the plain law behind FnExactPower. No condition. -/
import Derived.Test.YtihmoiheiglohaaPFnExactPowerx7
namespace Go.Proofs.Ytihmoiheiglohaa.Pure
open Go.RowKit Go.Proofs.Ytihmoiheiglohaa.PFnExactPower Go.Proofs.YtihmoiheiglohaaW.PrintWords Go.Proofs.YtihmoiheiglohaaW.PrintLast

set_option linter.unusedVariables false

theorem FnExactPower (l0 : List PFnExactPower.S24) (w0 : (l0.length ≤ maxLen ∧ ∀ y2 ∈ l0, ((Lit.float .f64 y2.f0).wf = true) ∧ ((Lit.float .f64 y2.f1).wf = true))) : PFnExactPower.laws_FnExactPower.f l0 = some true := by
  rfl

end Go.Proofs.Ytihmoiheiglohaa.Pure
