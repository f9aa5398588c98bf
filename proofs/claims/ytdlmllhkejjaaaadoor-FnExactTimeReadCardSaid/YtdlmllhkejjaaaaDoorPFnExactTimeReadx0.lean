/- The functions that the law reaches, as Lean functions, each with the proof that the Go code comes to just these answers. Written by a program of this session (wip/tools/handprint.py over the kit's print); by hand where the print takes no such text. -/
import Derived.Test.YtdlmllhkejjaaaaDoorShelf
import Derived.Test.YtdlmllhkejjaaaaDoorProg
import Derived.Test.YtdlmllhkejjaaaaDoorFv
import Derived.Below
import Derived.Deep.Draws
import Derived.Deep.AppendLies
import Derived.Maps.AppendAt
import Derived.OwnWalk
import Derived.Laws.BytesArg
import Derived.Laws.MakeOwn
import Derived.Laws.OwnMore
import Derived.Deep.OwnRows
import Derived.Tactics
import Derived.Lib.ConvBytes
import Derived.Laws.Slices
import Derived.WalkKit
import Derived.KernelRfl
import Derived.RowKit3
import Derived.Deep.LoopGhost
import Derived.Deep.QuietTactic
import Derived.BigQuiet
import Derived.WideLaws
import Derived.Deep.DeepCutAuto
import Derived.Deep.CutBlock
import Derived.Deep.RegionHeld3
import Derived.Laws.Rows
import Derived.Lib.AppendStr
import Derived.ArgAppend
import Derived.Laws.IdiomCopy
import Derived.OrdersHeld
import Derived.Laws.BitsLemmas
import Derived.RowKit
import Derived.Lib.AppendIntMem
import Derived.LoopN
import Derived.RegionTactic
import Derived.BigRegion
import Derived.Deep.RegionHeld3
import Derived.Test.YtdlmllhkejjaaaaDoorWWords
import Derived.Test.YtdlmllhkejjaaaaDoorWLast
import Derived.Test.YtdlmllhkejjaaaaDoorWTab
import Derived.Test.YtdlmllhkejjaaaaDoorWFour
import Derived.Test.YtdlmllhkejjaaaaDoorWQPut
import Derived.Test.YtdlmllhkejjaaaaDoorWApart
import Derived.Test.YtdlmllhkejjaaaaDoorWArr
import Derived.Test.YtdlmllhkejjaaaaDoorWZeros
import Derived.Test.YtdlmllhkejjaaaaDoorWFoot
import Derived.Test.YtdlmllhkejjaaaaDoorWKept
import Derived.Test.YtdlmllhkejjaaaaDoorWShare
import Derived.Test.YtdlmllhkejjaaaaDoorWN
import Derived.Test.YtdlmllhkejjaaaaDoorWFootNe
import Derived.Test.YtdlmllhkejjaaaaDoorWAt
import Derived.Test.YtdlmllhkejjaaaaDoorWEqStruct
import Derived.Test.YtdlmllhkejjaaaaDoorWRepsOne
import Derived.Test.YtdlmllhkejjaaaaDoorWInv
import Derived.Test.YtdlmllhkejjaaaaDoorWInvWords
import Derived.Test.YtdlmllhkejjaaaaDoorWGuard
import Derived.Test.YtdlmllhkejjaaaaDoorWNEv
import Derived.Test.YtdlmllhkejjaaaaDoorWMore
namespace Go.Proofs.YtdlmllhkejjaaaaDoor.PFnExactTimeRead
open Go.RowKit Go.Proofs.YtdlmllhkejjaaaaDoorW.PrintWords Go.Proofs.YtdlmllhkejjaaaaDoorW.PrintLast Go.Proofs.YtdlmllhkejjaaaaDoorW.PrintMore
attribute [local go_sem] max2_int min2_int max_two min_two max_three min_three max_four min_four   -- for this text's walks alone
set_option linter.unusedVariables false
set_option linter.unusedSimpArgs false



def errW : Option Int → Value
  | none => .nilIface
  | some c => .iface 0 (.int .i64 c)
theorem errW_none : errW none = .nilIface := rfl
theorem errW_some (c : Int) : errW (some c) = .iface 0 (.int .i64 c) := rfl

theorem info2 : (Tryd.prog.info? 2).map (fun i => (i.zero, i.size, i.bytes)) = some (some (.int .i64 0), 1, 8) := by kernel_rfl
theorem info5 : (Tryd.prog.info? 5).map (fun i => (i.zero, i.size, i.bytes)) = some (some (.int .u8 0), 1, 1) := by kernel_rfl
-- the values' own types

end Go.Proofs.YtdlmllhkejjaaaaDoor.PFnExactTimeRead
