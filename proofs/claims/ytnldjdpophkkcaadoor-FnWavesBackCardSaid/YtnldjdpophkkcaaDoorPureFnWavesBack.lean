/- Proved: the plain law behind FnWavesBack. No condition. -/
import Derived.Test.YtnldjdpophkkcaaDoorPFnWavesBackx3
namespace Go.Proofs.YtnldjdpophkkcaaDoor.Pure
open Go.RowKit Go.Proofs.YtnldjdpophkkcaaDoor.PFnWavesBack Go.Proofs.YtnldjdpophkkcaaDoorW.PrintWords Go.Proofs.YtnldjdpophkkcaaDoorW.PrintLast

set_option linter.unusedVariables false

theorem FnWavesBack (l0 : List Int) (w0 : (l0.length ≤ maxLen ∧ ∀ y2 ∈ l0, (Lit.int .u8 y2).wf = true)) : PFnWavesBack.laws_FnWavesBack.f l0 = some true := by
  unfold PFnWavesBack.laws_FnWavesBack.f
  refine if_pos (fun x hx => ?_)
  have h := w0.2 x hx
  simp [Lit.wf, IntKind.min, IntKind.max, IntKind.signed, IntKind.bits] at h
  omega

end Go.Proofs.YtnldjdpophkkcaaDoor.Pure
