/- The functions that the law reaches, as Lean functions, each with the proof that the Go code comes to just these answers. Written by a program of this session (wip/tools/handprint.py over the kit's print); by hand where the print takes no such text. -/
import Derived.Test.YtdfhhnepodnioaaProg
import Derived.Test.YtdfhhnepodnioaaFv
import Derived.Below
import Derived.Deep.Draws
import Derived.Deep.AppendLies
import Derived.Maps.AppendAt
import Derived.OwnWalk
import Derived.Laws.BytesArg
import Derived.Laws.MakeOwn
import Derived.Laws.OwnMore
import Derived.Deep.OwnRows
import Derived.Tactics
import Derived.Lib.ConvBytes
import Derived.Laws.Slices
import Derived.WalkKit
import Derived.KernelRfl
import Derived.RowKit3
import Derived.Deep.LoopGhost
import Derived.Deep.QuietTactic
import Derived.BigQuiet
import Derived.WideLaws
import Derived.Deep.DeepCutAuto
import Derived.Deep.CutBlock
import Derived.Deep.RegionHeld3
import Derived.Laws.Rows
import Derived.Lib.AppendStr
import Derived.ArgAppend
import Derived.Laws.IdiomCopy
import Derived.OrdersHeld
import Derived.Laws.BitsLemmas
import Derived.RowKit
import Derived.Test.YtdfhhnepodnioaaWWords
import Derived.Test.YtdfhhnepodnioaaWLast
import Derived.Test.YtdfhhnepodnioaaWTab
import Derived.Test.YtdfhhnepodnioaaWFour
import Derived.Test.YtdfhhnepodnioaaWQPut
import Derived.Test.YtdfhhnepodnioaaWApart
import Derived.Test.YtdfhhnepodnioaaWArr
import Derived.Test.YtdfhhnepodnioaaWZeros
import Derived.Test.YtdfhhnepodnioaaWFoot
import Derived.Test.YtdfhhnepodnioaaWKept
import Derived.Test.YtdfhhnepodnioaaWShare
import Derived.Test.YtdfhhnepodnioaaWN
import Derived.Test.YtdfhhnepodnioaaWFootNe
import Derived.Test.YtdfhhnepodnioaaWAt
import Derived.Test.YtdfhhnepodnioaaWEqStruct
import Derived.Test.YtdfhhnepodnioaaWRepsOne
import Derived.Test.YtdfhhnepodnioaaWInv
import Derived.Test.YtdfhhnepodnioaaWInvWords
import Derived.Test.YtdfhhnepodnioaaWGuard
import Derived.Test.YtdfhhnepodnioaaWNEv
import Derived.Test.YtdfhhnepodnioaaWMore
namespace Go.Proofs.Ytdfhhnepodnioaa.PFnExactCurve
open Go.RowKit Go.Proofs.YtdfhhnepodnioaaW.PrintWords Go.Proofs.YtdfhhnepodnioaaW.PrintLast Go.Proofs.YtdfhhnepodnioaaW.PrintMore
attribute [local go_sem] max2_int min2_int max_two min_two max_three min_three max_four min_four   -- for this text's walks alone
set_option linter.unusedVariables false
set_option linter.unusedSimpArgs false



def errW : Option Int → Value
  | none => .nilIface
  | some c => .iface 0 (.int .i64 c)
theorem errW_none : errW none = .nilIface := rfl
theorem errW_some (c : Int) : errW (some c) = .iface 0 (.int .i64 c) := rfl

theorem info2 : (Try.prog.info? 2).map (fun i => (i.zero, i.size, i.bytes)) = some (some (.int .i64 0), 1, 8) := by kernel_rfl
-- the values' own types

end Go.Proofs.Ytdfhhnepodnioaa.PFnExactCurve
