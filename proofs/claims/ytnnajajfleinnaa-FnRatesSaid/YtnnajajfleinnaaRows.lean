/-
  No cell of these rows narrows 'for every input' (looked for: loops, veiled, ifaces, maps, wideKeys, modest, calm, conditions, laid).
  DERIVED. THE GIVEN ROWS OF THIS SEAT. 6 by the template 'for every input the law returns true; each argument reads behind the call as it read before'; 0 by the template 'total and deterministic' (their statements: YtnnajajfleinnaaTotals.lean).
  GIVEN WITH THE SEED: the statements are not yours to turn. If you find one false, say at which input.
  Laid BY PROGRAM, IN A SANDBOX (cutbox-rows.mjs): the forced cells as the released guide's own fill.sh prints them over the translation a613e51693ca35ac… (all of the seat's roots in one cut). By AI agents, Wed Nov 11 2026. No macro, syntax, notation, axiom, sorry.
-/
import Derived.Test.YtnnajajfleinnaaChecked
import GoSem.Claim
import GoSem.ClaimJoined
import GoSem.ClaimMapViews
import Derived.JoinedTies
import Derived.KernelRfl
namespace Go.Proofs.Ytnnajajfleinnaa
/- THE CELL 'sum', in the pinned program and in every row, IS THE sha256 OF THE DUMP (.gsa) THAT YtnnajajfleinnaaProg.lean LOADS. Nothing in Lean hashes anything: it is a label: what it is worth is what the hold of that sum in a sandbox is worth. -/
noncomputable def Try.pinned : Pinned := { name := "ytnnajajfleinnaa", sum := "a613e51693ca35ac27df9183527bacf76c4c37ea343a5f5ad32162d6a5c50dcc", checked := Try.checked }
namespace Rows
def none {H : Type} : Left H := { results := [], args := [] }

/-- 'laws.FnExactConstants': WHATEVER THE INPUT: true; the input reads as it did. -/
def fnExactConstantsSpec : ChangeSpec := { name := "fnExactConstants", fn := fun _ => fun
  | [] => { results := [.lit (.bool true)], args := [] }
  | _ => none }
def fnExactConstantsRow : OpenClaim := { program := "ytnnajajfleinnaa", sum := "a613e51693ca35ac27df9183527bacf76c4c37ea343a5f5ad32162d6a5c50dcc", func := "loop.example/g00066/laws.FnExactConstants", spec := "fnExactConstants", apart := false }
def FnExactConstantsSaid : Prop := fnExactConstantsRow.holds Try.pinned (OpenSpec.ofChange fnExactConstantsSpec)

/-- ITS FALSE NEIGHBOUR: 'it returns false'. Refute it at one input. -/
def fnExactConstantsWrong : ChangeSpec := { name := "fnExactConstants", fn := fun _ => fun
  | [] => { results := [.lit (.bool false)], args := [] }
  | _ => none }
def FnExactConstantsWrongFalsely : Prop := fnExactConstantsRow.holds Try.pinned (OpenSpec.ofChange fnExactConstantsWrong)

/-- 'laws.FnExactRateOk': WHATEVER THE INPUT: true; the input reads as it did. -/
def fnExactRateOkSpec : ChangeSpec := { name := "fnExactRateOk", fn := fun _ => fun
  | [d] => { results := [.lit (.bool true)], args := [d] }
  | _ => none }
def fnExactRateOkRow : OpenClaim := { program := "ytnnajajfleinnaa", sum := "a613e51693ca35ac27df9183527bacf76c4c37ea343a5f5ad32162d6a5c50dcc", func := "loop.example/g00066/laws.FnExactRateOk", spec := "fnExactRateOk", apart := false }
def FnExactRateOkSaid : Prop := fnExactRateOkRow.holds Try.pinned (OpenSpec.ofChange fnExactRateOkSpec)

/-- ITS FALSE NEIGHBOUR: 'it returns false'. Refute it at one input. -/
def fnExactRateOkWrong : ChangeSpec := { name := "fnExactRateOk", fn := fun _ => fun
  | [d] => { results := [.lit (.bool false)], args := [d] }
  | _ => none }
def FnExactRateOkWrongFalsely : Prop := fnExactRateOkRow.holds Try.pinned (OpenSpec.ofChange fnExactRateOkWrong)

/-- 'laws.FnExactBase': WHATEVER THE INPUT: true; the input reads as it did. -/
def fnExactBaseSpec : ChangeSpec := { name := "fnExactBase", fn := fun _ => fun
  | [d] => { results := [.lit (.bool true)], args := [d] }
  | _ => none }
def fnExactBaseRow : OpenClaim := { program := "ytnnajajfleinnaa", sum := "a613e51693ca35ac27df9183527bacf76c4c37ea343a5f5ad32162d6a5c50dcc", func := "loop.example/g00066/laws.FnExactBase", spec := "fnExactBase", apart := false }
def FnExactBaseSaid : Prop := fnExactBaseRow.holds Try.pinned (OpenSpec.ofChange fnExactBaseSpec)

/-- ITS FALSE NEIGHBOUR: 'it returns false'. Refute it at one input. -/
def fnExactBaseWrong : ChangeSpec := { name := "fnExactBase", fn := fun _ => fun
  | [d] => { results := [.lit (.bool false)], args := [d] }
  | _ => none }
def FnExactBaseWrongFalsely : Prop := fnExactBaseRow.holds Try.pinned (OpenSpec.ofChange fnExactBaseWrong)

/-- 'laws.FnExactInstant': WHATEVER THE INPUT: true; the input reads as it did. -/
def fnExactInstantSpec : ChangeSpec := { name := "fnExactInstant", fn := fun _ => fun
  | [d1, d2, d3] => { results := [.lit (.bool true)], args := [d1, d2, d3] }
  | _ => none }
def fnExactInstantRow : OpenClaim := { program := "ytnnajajfleinnaa", sum := "a613e51693ca35ac27df9183527bacf76c4c37ea343a5f5ad32162d6a5c50dcc", func := "loop.example/g00066/laws.FnExactInstant", spec := "fnExactInstant", apart := false }
def FnExactInstantSaid : Prop := fnExactInstantRow.holds Try.pinned (OpenSpec.ofChange fnExactInstantSpec)

/-- ITS FALSE NEIGHBOUR: 'it returns false'. Refute it at one input. -/
def fnExactInstantWrong : ChangeSpec := { name := "fnExactInstant", fn := fun _ => fun
  | [d1, d2, d3] => { results := [.lit (.bool false)], args := [d1, d2, d3] }
  | _ => none }
def FnExactInstantWrongFalsely : Prop := fnExactInstantRow.holds Try.pinned (OpenSpec.ofChange fnExactInstantWrong)

/-- 'laws.FnExactFrameIn': WHATEVER THE INPUT: true; the input reads as it did. -/
def fnExactFrameInSpec : ChangeSpec := { name := "fnExactFrameIn", fn := fun _ => fun
  | [d1, d2, d3] => { results := [.lit (.bool true)], args := [d1, d2, d3] }
  | _ => none }
def fnExactFrameInRow : OpenClaim := { program := "ytnnajajfleinnaa", sum := "a613e51693ca35ac27df9183527bacf76c4c37ea343a5f5ad32162d6a5c50dcc", func := "loop.example/g00066/laws.FnExactFrameIn", spec := "fnExactFrameIn", apart := false }
def FnExactFrameInSaid : Prop := fnExactFrameInRow.holds Try.pinned (OpenSpec.ofChange fnExactFrameInSpec)

/-- ITS FALSE NEIGHBOUR: 'it returns false'. Refute it at one input. -/
def fnExactFrameInWrong : ChangeSpec := { name := "fnExactFrameIn", fn := fun _ => fun
  | [d1, d2, d3] => { results := [.lit (.bool false)], args := [d1, d2, d3] }
  | _ => none }
def FnExactFrameInWrongFalsely : Prop := fnExactFrameInRow.holds Try.pinned (OpenSpec.ofChange fnExactFrameInWrong)

/-- 'laws.FnRates': WHATEVER THE INPUT: true; the input reads as it did. -/
def fnRatesSpec : ChangeSpec := { name := "fnRates", fn := fun _ => fun
  | [d] => { results := [.lit (.bool true)], args := [d] }
  | _ => none }
def fnRatesRow : OpenClaim := { program := "ytnnajajfleinnaa", sum := "a613e51693ca35ac27df9183527bacf76c4c37ea343a5f5ad32162d6a5c50dcc", func := "loop.example/g00066/laws.FnRates", spec := "fnRates", apart := false }
def FnRatesSaid : Prop := fnRatesRow.holds Try.pinned (OpenSpec.ofChange fnRatesSpec)

/-- ITS FALSE NEIGHBOUR: 'it returns false'. Refute it at one input. -/
def fnRatesWrong : ChangeSpec := { name := "fnRates", fn := fun _ => fun
  | [d] => { results := [.lit (.bool false)], args := [d] }
  | _ => none }
def FnRatesWrongFalsely : Prop := fnRatesRow.holds Try.pinned (OpenSpec.ofChange fnRatesWrong)

/- THE SECOND FORM. 'bulk': how many values and letters a reading holds, each counted each time it is reached (what is shared counts as often as it is met; a slice's spare places count too). A statement '..UptoSaid' is the law's where the arguments, and the package variables that the reading takes, are together of bulk at most 1048576: NARROWER than '..Said'. Prove '..Said' where nothing that the law and all that it calls make is longer than what came in: it says more and counts as full. Else prove '..UptoSaid'. A law counts once. -/
mutual
def uptoBulk {H : Type} : DataW H → Nat
  | .lit (.string bytes) => bytes.length + 1
  | .lit _ => 1
  | .nil => 1
  | .ptr d => uptoBulk d + 1
  | .slice elems spare => uptoBulkAll elems + uptoBulkAll spare + 1
  | .agg parts => uptoBulkAll parts + 1
  | .iface _ d => uptoBulk d + 1
  | .map entries => uptoBulkEntries entries + 1
  | .held _ => 1
def uptoBulkAll {H : Type} : List (DataW H) → Nat
  | [] => 0
  | d :: r => uptoBulk d + uptoBulkAll r
def uptoBulkEntries {H : Type} : List (Lit × DataW H) → Nat
  | [] => 0
  | x :: r => uptoBulkEntry x + uptoBulkEntries r
def uptoBulkEntry {H : Type} : Lit × DataW H → Nat
  | (.string bytes, d) => bytes.length + uptoBulk d + 1
  | (_, d) => uptoBulk d + 1
 end
def uptoSmall : (H : Type) → List (DataW H) → Bool := fun _ ds => decide (uptoBulkAll ds ≤ 1048576)
def OpenSpec.upto (s : _root_.Go.ChangeSpec) : _root_.Go.OpenSpec := { _root_.Go.OpenSpec.ofChange s with cond := some uptoSmall }

/-- 'laws.FnExactConstants', WHERE WHAT IT READS IS OF BULK AT MOST 1048576: true; the input reads as it did. -/
def fnExactConstantsUptoRow : OpenClaim := { program := "ytnnajajfleinnaa", sum := "a613e51693ca35ac27df9183527bacf76c4c37ea343a5f5ad32162d6a5c50dcc", func := "loop.example/g00066/laws.FnExactConstants", spec := "fnExactConstants", apart := false, narrowed := true }
def FnExactConstantsUptoSaid : Prop := fnExactConstantsUptoRow.holds Try.pinned (OpenSpec.upto fnExactConstantsSpec)

/-- 'laws.FnExactRateOk', WHERE WHAT IT READS IS OF BULK AT MOST 1048576: true; the input reads as it did. -/
def fnExactRateOkUptoRow : OpenClaim := { program := "ytnnajajfleinnaa", sum := "a613e51693ca35ac27df9183527bacf76c4c37ea343a5f5ad32162d6a5c50dcc", func := "loop.example/g00066/laws.FnExactRateOk", spec := "fnExactRateOk", apart := false, narrowed := true }
def FnExactRateOkUptoSaid : Prop := fnExactRateOkUptoRow.holds Try.pinned (OpenSpec.upto fnExactRateOkSpec)

/-- 'laws.FnExactBase', WHERE WHAT IT READS IS OF BULK AT MOST 1048576: true; the input reads as it did. -/
def fnExactBaseUptoRow : OpenClaim := { program := "ytnnajajfleinnaa", sum := "a613e51693ca35ac27df9183527bacf76c4c37ea343a5f5ad32162d6a5c50dcc", func := "loop.example/g00066/laws.FnExactBase", spec := "fnExactBase", apart := false, narrowed := true }
def FnExactBaseUptoSaid : Prop := fnExactBaseUptoRow.holds Try.pinned (OpenSpec.upto fnExactBaseSpec)

/-- 'laws.FnExactInstant', WHERE WHAT IT READS IS OF BULK AT MOST 1048576: true; the input reads as it did. -/
def fnExactInstantUptoRow : OpenClaim := { program := "ytnnajajfleinnaa", sum := "a613e51693ca35ac27df9183527bacf76c4c37ea343a5f5ad32162d6a5c50dcc", func := "loop.example/g00066/laws.FnExactInstant", spec := "fnExactInstant", apart := false, narrowed := true }
def FnExactInstantUptoSaid : Prop := fnExactInstantUptoRow.holds Try.pinned (OpenSpec.upto fnExactInstantSpec)

/-- 'laws.FnExactFrameIn', WHERE WHAT IT READS IS OF BULK AT MOST 1048576: true; the input reads as it did. -/
def fnExactFrameInUptoRow : OpenClaim := { program := "ytnnajajfleinnaa", sum := "a613e51693ca35ac27df9183527bacf76c4c37ea343a5f5ad32162d6a5c50dcc", func := "loop.example/g00066/laws.FnExactFrameIn", spec := "fnExactFrameIn", apart := false, narrowed := true }
def FnExactFrameInUptoSaid : Prop := fnExactFrameInUptoRow.holds Try.pinned (OpenSpec.upto fnExactFrameInSpec)

/-- 'laws.FnRates', WHERE WHAT IT READS IS OF BULK AT MOST 1048576: true; the input reads as it did. -/
def fnRatesUptoRow : OpenClaim := { program := "ytnnajajfleinnaa", sum := "a613e51693ca35ac27df9183527bacf76c4c37ea343a5f5ad32162d6a5c50dcc", func := "loop.example/g00066/laws.FnRates", spec := "fnRates", apart := false, narrowed := true }
def FnRatesUptoSaid : Prop := fnRatesUptoRow.holds Try.pinned (OpenSpec.upto fnRatesSpec)

end Rows
end Go.Proofs.Ytnnajajfleinnaa
