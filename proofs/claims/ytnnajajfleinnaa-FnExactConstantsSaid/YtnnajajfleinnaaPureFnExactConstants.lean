/- Proved: the law FnExactConstants answers true (no condition). -/
import Derived.Test.YtnnajajfleinnaaPFnExactConstantsx1
namespace Go.Proofs.Ytnnajajfleinnaa.Pure
open Go.RowKit Go.Proofs.Ytnnajajfleinnaa.PFnExactConstants Go.Proofs.YtnnajajfleinnaaW.PrintWords Go.Proofs.YtnnajajfleinnaaW.PrintLast

/-- YOURS: laws_FnExactConstants.f  = some true
What it reaches (each with k first where it has rounds; `.mono`: more rounds tell the same; `.l0`, ..: its loops, with `.mono_l`): laws_FnExactConstants.f -/
theorem FnExactConstants : laws_FnExactConstants.Pure := by
  rfl

end Go.Proofs.Ytnnajajfleinnaa.Pure
