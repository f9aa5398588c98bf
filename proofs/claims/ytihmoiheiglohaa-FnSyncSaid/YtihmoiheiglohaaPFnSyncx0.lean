-- PRINTED BY print.sh 35421559b90ae4d0a3588c463048766b98c2df88dd9212a6774a882060cdf62d: not written by this session
import Derived.Test.YtihmoiheiglohaaProg
import Derived.Below
import Derived.Deep.Draws
import Derived.Deep.AppendLies
import Derived.Maps.AppendAt
import Derived.OwnWalk
import Derived.Laws.BytesArg
import Derived.Laws.MakeOwn
import Derived.Laws.OwnMore
import Derived.Deep.OwnRows
import Derived.Tactics
import Derived.Lib.ConvBytes
import Derived.Laws.Slices
import Derived.WalkKit
import Derived.KernelRfl
import Derived.RowKit3
import Derived.Deep.LoopGhost
import Derived.Deep.QuietTactic
import Derived.BigQuiet
import Derived.WideLaws
import Derived.Deep.DeepCutAuto
import Derived.Deep.CutBlock
import Derived.Deep.RegionHeld3
import Derived.Laws.Rows
import Derived.Lib.AppendStr
import Derived.ArgAppend
import Derived.Laws.IdiomCopy
import Derived.OrdersHeld
import Derived.Laws.BitsLemmas
import Derived.RowKit
import Derived.Test.YtihmoiheiglohaaWWords
import Derived.Test.YtihmoiheiglohaaWLast
import Derived.Test.YtihmoiheiglohaaWTab
import Derived.Test.YtihmoiheiglohaaWFour
import Derived.Test.YtihmoiheiglohaaWQPut
import Derived.Test.YtihmoiheiglohaaWApart
import Derived.Test.YtihmoiheiglohaaWArr
import Derived.Test.YtihmoiheiglohaaWZeros
import Derived.Test.YtihmoiheiglohaaWFoot
import Derived.Test.YtihmoiheiglohaaWKept
import Derived.Test.YtihmoiheiglohaaWShare
import Derived.Test.YtihmoiheiglohaaWN
import Derived.Test.YtihmoiheiglohaaWFootNe
import Derived.Test.YtihmoiheiglohaaWAt
import Derived.Test.YtihmoiheiglohaaWEqStruct
import Derived.Test.YtihmoiheiglohaaWRepsOne
import Derived.Test.YtihmoiheiglohaaWInv
import Derived.Test.YtihmoiheiglohaaWInvWords
import Derived.Test.YtihmoiheiglohaaWGuard
import Derived.Test.YtihmoiheiglohaaWNEv
import Derived.Test.YtihmoiheiglohaaWMore
namespace Go.Proofs.Ytihmoiheiglohaa.PFnSync
open Go.RowKit Go.Proofs.YtihmoiheiglohaaW.PrintWords Go.Proofs.YtihmoiheiglohaaW.PrintLast Go.Proofs.YtihmoiheiglohaaW.PrintMore
attribute [local go_sem] max2_int min2_int max_two min_two max_three min_three max_four min_four   -- for this text's walks alone
set_option linter.unusedVariables false
set_option linter.unusedSimpArgs false



def errW : Option Int → Value
  | none => .nilIface
  | some c => .iface 0 (.int .i64 c)
theorem errW_none : errW none = .nilIface := rfl
theorem errW_some (c : Int) : errW (some c) = .iface 0 (.int .i64 c) := rfl

-- the values' own types

end Go.Proofs.Ytihmoiheiglohaa.PFnSync
