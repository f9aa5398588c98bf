/- Proved: the plain law behind FnExactProduct. No condition. -/
import Derived.Test.YtihmoiheiglohaaPFnExactProductx2
namespace Go.Proofs.Ytihmoiheiglohaa.Pure
open Go.RowKit Go.Proofs.Ytihmoiheiglohaa.PFnExactProduct Go.Proofs.YtihmoiheiglohaaW.PrintWords Go.Proofs.YtihmoiheiglohaaW.PrintLast

set_option linter.unusedVariables false

theorem FnExactProduct (a0_0 : Nat) (a0_1 : Nat) (a1_0 : Nat) (a1_1 : Nat) (w0 : ((Lit.float .f64 a0_0).wf = true) ∧ ((Lit.float .f64 a0_1).wf = true)) (w1 : ((Lit.float .f64 a1_0).wf = true) ∧ ((Lit.float .f64 a1_1).wf = true)) : PFnExactProduct.laws_FnExactProduct.f a0_0 a0_1 a1_0 a1_1 = some true := by
  rfl

end Go.Proofs.Ytihmoiheiglohaa.Pure
