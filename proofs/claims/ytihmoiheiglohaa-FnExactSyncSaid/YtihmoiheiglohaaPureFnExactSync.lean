/- Proved: the plain law behind FnExactSync. No condition. -/
import Derived.Test.YtihmoiheiglohaaPFnExactSyncx4
namespace Go.Proofs.Ytihmoiheiglohaa.Pure
open Go.RowKit Go.Proofs.Ytihmoiheiglohaa.PFnExactSync Go.Proofs.YtihmoiheiglohaaW.PrintWords Go.Proofs.YtihmoiheiglohaaW.PrintLast

set_option linter.unusedVariables false

theorem FnExactSync (l0 : List Nat) (l1 : List Nat) (a2 : Int) (w0 : (l0.length ≤ maxLen ∧ ∀ y2 ∈ l0, (Lit.float .f64 y2).wf = true)) (w1 : (l1.length ≤ maxLen ∧ ∀ y2 ∈ l1, (Lit.float .f64 y2).wf = true)) (w2 : (Lit.int .i64 a2).wf = true) : PFnExactSync.laws_FnExactSync.f l0 l1 a2 = some true := by
  rfl

end Go.Proofs.Ytihmoiheiglohaa.Pure
