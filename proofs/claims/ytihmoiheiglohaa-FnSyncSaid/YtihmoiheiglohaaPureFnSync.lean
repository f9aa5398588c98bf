/- Proved: the plain law behind FnSync. No condition. -/
import Derived.Test.YtihmoiheiglohaaPFnSyncx3
namespace Go.Proofs.Ytihmoiheiglohaa.Pure
open Go.RowKit Go.Proofs.Ytihmoiheiglohaa.PFnSync Go.Proofs.YtihmoiheiglohaaW.PrintWords Go.Proofs.YtihmoiheiglohaaW.PrintLast

set_option linter.unusedVariables false

theorem FnSync (l0 : List Int) (w0 : (l0.length ≤ maxLen ∧ ∀ y2 ∈ l0, (Lit.int .u8 y2).wf = true)) : PFnSync.laws_FnSync.f l0 = some true := by
  unfold PFnSync.laws_FnSync.f
  refine if_pos (fun x hx => ?_)
  have h := w0.2 x hx
  simp [Lit.wf, IntKind.min, IntKind.max, IntKind.signed, IntKind.bits] at h
  omega

end Go.Proofs.Ytihmoiheiglohaa.Pure
