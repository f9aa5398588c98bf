/- The functions that the law reaches, as Lean functions, each with the proof that the Go code comes to just these answers. Written by a program of this session (wip/tools/handprint.py over the kit's print); by hand where the print takes no such text. -/
-- squeezed
import Derived.Test.YtipmhlajjdnhoaaProg
import Derived.Test.YtipmhlajjdnhoaaVFnLayersFv
import Derived.Below
import Derived.Deep.Draws
import Derived.Deep.AppendLies
import Derived.Maps.AppendAt
import Derived.OwnWalk
import Derived.Laws.BytesArg
import Derived.Laws.MakeOwn
import Derived.Laws.OwnMore
import Derived.Deep.OwnRows
import Derived.Tactics
import Derived.Lib.ConvBytes
import Derived.Laws.Slices
import Derived.WalkKit
import Derived.KernelRfl
import Derived.RowKit3
import Derived.Deep.LoopGhost
import Derived.Deep.QuietTactic
import Derived.BigQuiet
import Derived.WideLaws
import Derived.Deep.DeepCutAuto
import Derived.Deep.CutBlock
import Derived.Deep.RegionHeld3
import Derived.Laws.Rows
import Derived.Lib.AppendStr
import Derived.ArgAppend
import Derived.Laws.IdiomCopy
import Derived.OrdersHeld
import Derived.Laws.BitsLemmas
import Derived.RowKit
import Derived.Test.YtipmhlajjdnhoaaVFnLayersWWords
import Derived.Test.YtipmhlajjdnhoaaVFnLayersWLast
import Derived.Test.YtipmhlajjdnhoaaVFnLayersWTab
import Derived.Test.YtipmhlajjdnhoaaVFnLayersWFour
import Derived.Test.YtipmhlajjdnhoaaVFnLayersWQPut
import Derived.Test.YtipmhlajjdnhoaaVFnLayersWApart
import Derived.Test.YtipmhlajjdnhoaaVFnLayersWArr
import Derived.Test.YtipmhlajjdnhoaaVFnLayersWZeros
import Derived.Test.YtipmhlajjdnhoaaVFnLayersWFoot
import Derived.Test.YtipmhlajjdnhoaaVFnLayersWKept
import Derived.Test.YtipmhlajjdnhoaaVFnLayersWShare
import Derived.Test.YtipmhlajjdnhoaaVFnLayersWN
import Derived.Test.YtipmhlajjdnhoaaVFnLayersWFootNe
import Derived.Test.YtipmhlajjdnhoaaVFnLayersWAt
import Derived.Test.YtipmhlajjdnhoaaVFnLayersWEqStruct
import Derived.Test.YtipmhlajjdnhoaaVFnLayersWRepsOne
import Derived.Test.YtipmhlajjdnhoaaVFnLayersWInv
import Derived.Test.YtipmhlajjdnhoaaVFnLayersWInvWords
import Derived.Test.YtipmhlajjdnhoaaVFnLayersWGuard
import Derived.Test.YtipmhlajjdnhoaaVFnLayersWNEv
import Derived.Test.YtipmhlajjdnhoaaVFnLayersWMore
namespace Go.Proofs.Ytipmhlajjdnhoaa.PFnLayers
open Go.RowKit Go.Proofs.YtipmhlajjdnhoaaW.PrintWords Go.Proofs.YtipmhlajjdnhoaaW.PrintLast Go.Proofs.YtipmhlajjdnhoaaW.PrintMore
attribute [local go_sem] max2_int min2_int max_two min_two max_three min_three max_four min_four   -- for this text's walks alone
set_option linter.unusedVariables false
set_option linter.unusedSimpArgs false



def errW : Option Int → Value
 | none => .nilIface
 | some c => .iface 0 (.int .i64 c)
theorem errW_none : errW none = .nilIface := rfl
theorem errW_some (c : Int) : errW (some c) = .iface 0 (.int .i64 c) := rfl

theorem info2 : (Try.prog.info? 2).map (fun i => (i.zero, i.size, i.bytes)) = some (some (.int .i64 0), 1, 8) := by kernel_rfl
-- the values' own types

end Go.Proofs.Ytipmhlajjdnhoaa.PFnLayers
