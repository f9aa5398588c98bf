/-
  No cell of these rows narrows 'for every input' (looked for: loops, veiled, ifaces, maps, wideKeys, modest, calm, conditions, laid).
  DERIVED. THE GIVEN ROWS OF THIS SEAT. 6 by the template 'for every input the law returns true; each argument reads behind the call as it read before'; 0 by the template 'total and deterministic' (their statements: YtdfhhnepodnioaaTotals.lean).
  GIVEN WITH THE SEED: the statements are not yours to turn. If you find one false, say at which input.
  Laid BY PROGRAM, IN A SANDBOX (cutbox-rows.mjs): the forced cells as the released guide's own fill.sh prints them over the translation efaa756d3390d4b4… (all of the seat's roots in one cut). By AI agents, Wed Nov 11 2026. No macro, syntax, notation, axiom, sorry.
-/
import Derived.Test.YtdfhhnepodnioaaChecked
import GoSem.Claim
import GoSem.ClaimJoined
import GoSem.ClaimMapViews
import Derived.JoinedTies
import Derived.KernelRfl
namespace Go.Proofs.Ytdfhhnepodnioaa
/- THE CELL 'sum', in the pinned program and in every row, IS THE sha256 OF THE DUMP (.gsa) THAT YtdfhhnepodnioaaProg.lean LOADS. Nothing in Lean hashes anything: it is a label: what it is worth is what the hold of that sum in a sandbox is worth. -/
noncomputable def Try.pinned : Pinned := { name := "ytdfhhnepodnioaa", sum := "efaa756d3390d4b4b01e47ba4e8c6095ebeaffdf3e70bf6bf8121fb03beaa05d", checked := Try.checked }
namespace Rows
def none {H : Type} : Left H := { results := [], args := [] }

/-- 'laws.FnExactKeysOk': WHATEVER THE INPUT: true; the input reads as it did. -/
def fnExactKeysOkSpec : ChangeSpec := { name := "fnExactKeysOk", fn := fun _ => fun
  | [d] => { results := [.lit (.bool true)], args := [d] }
  | _ => none }
def fnExactKeysOkRow : OpenClaim := { program := "ytdfhhnepodnioaa", sum := "efaa756d3390d4b4b01e47ba4e8c6095ebeaffdf3e70bf6bf8121fb03beaa05d", func := "loop.example/g00066/laws.FnExactKeysOk", spec := "fnExactKeysOk", apart := false }
def FnExactKeysOkSaid : Prop := fnExactKeysOkRow.holds Try.pinned (OpenSpec.ofChange fnExactKeysOkSpec)

/-- ITS FALSE NEIGHBOUR: 'it returns false'. Refute it at one input. -/
def fnExactKeysOkWrong : ChangeSpec := { name := "fnExactKeysOk", fn := fun _ => fun
  | [d] => { results := [.lit (.bool false)], args := [d] }
  | _ => none }
def FnExactKeysOkWrongFalsely : Prop := fnExactKeysOkRow.holds Try.pinned (OpenSpec.ofChange fnExactKeysOkWrong)

/-- 'laws.FnExactSpeedAt': WHATEVER THE INPUT: true; the input reads as it did. -/
def fnExactSpeedAtSpec : ChangeSpec := { name := "fnExactSpeedAt", fn := fun _ => fun
  | [d1, d2] => { results := [.lit (.bool true)], args := [d1, d2] }
  | _ => none }
def fnExactSpeedAtRow : OpenClaim := { program := "ytdfhhnepodnioaa", sum := "efaa756d3390d4b4b01e47ba4e8c6095ebeaffdf3e70bf6bf8121fb03beaa05d", func := "loop.example/g00066/laws.FnExactSpeedAt", spec := "fnExactSpeedAt", unfollowed := true, recurses := true, apart := false }
def FnExactSpeedAtSaid : Prop := fnExactSpeedAtRow.holds Try.pinned (OpenSpec.ofChange fnExactSpeedAtSpec)

/-- ITS FALSE NEIGHBOUR: 'it returns false'. Refute it at one input. -/
def fnExactSpeedAtWrong : ChangeSpec := { name := "fnExactSpeedAt", fn := fun _ => fun
  | [d1, d2] => { results := [.lit (.bool false)], args := [d1, d2] }
  | _ => none }
def FnExactSpeedAtWrongFalsely : Prop := fnExactSpeedAtRow.holds Try.pinned (OpenSpec.ofChange fnExactSpeedAtWrong)

/-- 'laws.FnExactBlend': WHATEVER THE INPUT: true; the input reads as it did. -/
def fnExactBlendSpec : ChangeSpec := { name := "fnExactBlend", fn := fun _ => fun
  | [d1, d2] => { results := [.lit (.bool true)], args := [d1, d2] }
  | _ => none }
def fnExactBlendRow : OpenClaim := { program := "ytdfhhnepodnioaa", sum := "efaa756d3390d4b4b01e47ba4e8c6095ebeaffdf3e70bf6bf8121fb03beaa05d", func := "loop.example/g00066/laws.FnExactBlend", spec := "fnExactBlend", unfollowed := true, recurses := true, apart := false }
def FnExactBlendSaid : Prop := fnExactBlendRow.holds Try.pinned (OpenSpec.ofChange fnExactBlendSpec)

/-- ITS FALSE NEIGHBOUR: 'it returns false'. Refute it at one input. -/
def fnExactBlendWrong : ChangeSpec := { name := "fnExactBlend", fn := fun _ => fun
  | [d1, d2] => { results := [.lit (.bool false)], args := [d1, d2] }
  | _ => none }
def FnExactBlendWrongFalsely : Prop := fnExactBlendRow.holds Try.pinned (OpenSpec.ofChange fnExactBlendWrong)

/-- 'laws.FnSpeed': WHATEVER THE INPUT: true; the input reads as it did. -/
def fnSpeedSpec : ChangeSpec := { name := "fnSpeed", fn := fun _ => fun
  | [d] => { results := [.lit (.bool true)], args := [d] }
  | _ => none }
def fnSpeedRow : OpenClaim := { program := "ytdfhhnepodnioaa", sum := "efaa756d3390d4b4b01e47ba4e8c6095ebeaffdf3e70bf6bf8121fb03beaa05d", func := "loop.example/g00066/laws.FnSpeed", spec := "fnSpeed", unfollowed := true, recurses := true, apart := false }
def FnSpeedSaid : Prop := fnSpeedRow.holds Try.pinned (OpenSpec.ofChange fnSpeedSpec)

/-- ITS FALSE NEIGHBOUR: 'it returns false'. Refute it at one input. -/
def fnSpeedWrong : ChangeSpec := { name := "fnSpeed", fn := fun _ => fun
  | [d] => { results := [.lit (.bool false)], args := [d] }
  | _ => none }
def FnSpeedWrongFalsely : Prop := fnSpeedRow.holds Try.pinned (OpenSpec.ofChange fnSpeedWrong)

/-- 'laws.FnExactCurve': WHATEVER THE INPUT: true; the input reads as it did. -/
def fnExactCurveSpec : ChangeSpec := { name := "fnExactCurve", fn := fun _ => fun
  | [d1, d2] => { results := [.lit (.bool true)], args := [d1, d2] }
  | _ => none }
def fnExactCurveRow : OpenClaim := { program := "ytdfhhnepodnioaa", sum := "efaa756d3390d4b4b01e47ba4e8c6095ebeaffdf3e70bf6bf8121fb03beaa05d", func := "loop.example/g00066/laws.FnExactCurve", spec := "fnExactCurve", unfollowed := true, recurses := true, apart := false }
def FnExactCurveSaid : Prop := fnExactCurveRow.holds Try.pinned (OpenSpec.ofChange fnExactCurveSpec)

/-- ITS FALSE NEIGHBOUR: 'it returns false'. Refute it at one input. -/
def fnExactCurveWrong : ChangeSpec := { name := "fnExactCurve", fn := fun _ => fun
  | [d1, d2] => { results := [.lit (.bool false)], args := [d1, d2] }
  | _ => none }
def FnExactCurveWrongFalsely : Prop := fnExactCurveRow.holds Try.pinned (OpenSpec.ofChange fnExactCurveWrong)

/-- 'laws.FnExactPlainCube': WHATEVER THE INPUT: true; the input reads as it did. -/
def fnExactPlainCubeSpec : ChangeSpec := { name := "fnExactPlainCube", fn := fun _ => fun
  | [d] => { results := [.lit (.bool true)], args := [d] }
  | _ => none }
def fnExactPlainCubeRow : OpenClaim := { program := "ytdfhhnepodnioaa", sum := "efaa756d3390d4b4b01e47ba4e8c6095ebeaffdf3e70bf6bf8121fb03beaa05d", func := "loop.example/g00066/laws.FnExactPlainCube", spec := "fnExactPlainCube", apart := false }
def FnExactPlainCubeSaid : Prop := fnExactPlainCubeRow.holds Try.pinned (OpenSpec.ofChange fnExactPlainCubeSpec)

/-- ITS FALSE NEIGHBOUR: 'it returns false'. Refute it at one input. -/
def fnExactPlainCubeWrong : ChangeSpec := { name := "fnExactPlainCube", fn := fun _ => fun
  | [d] => { results := [.lit (.bool false)], args := [d] }
  | _ => none }
def FnExactPlainCubeWrongFalsely : Prop := fnExactPlainCubeRow.holds Try.pinned (OpenSpec.ofChange fnExactPlainCubeWrong)

/- THE SECOND FORM. 'bulk': how many values and letters a reading holds, each counted each time it is reached (what is shared counts as often as it is met; a slice's spare places count too). A statement '..UptoSaid' is the law's where the arguments, and the package variables that the reading takes, are together of bulk at most 1048576: NARROWER than '..Said'. Prove '..Said' where nothing that the law and all that it calls make is longer than what came in: it says more and counts as full. Else prove '..UptoSaid'. A law counts once. -/
mutual
def uptoBulk {H : Type} : DataW H → Nat
  | .lit (.string bytes) => bytes.length + 1
  | .lit _ => 1
  | .nil => 1
  | .ptr d => uptoBulk d + 1
  | .slice elems spare => uptoBulkAll elems + uptoBulkAll spare + 1
  | .agg parts => uptoBulkAll parts + 1
  | .iface _ d => uptoBulk d + 1
  | .map entries => uptoBulkEntries entries + 1
  | .held _ => 1
def uptoBulkAll {H : Type} : List (DataW H) → Nat
  | [] => 0
  | d :: r => uptoBulk d + uptoBulkAll r
def uptoBulkEntries {H : Type} : List (Lit × DataW H) → Nat
  | [] => 0
  | x :: r => uptoBulkEntry x + uptoBulkEntries r
def uptoBulkEntry {H : Type} : Lit × DataW H → Nat
  | (.string bytes, d) => bytes.length + uptoBulk d + 1
  | (_, d) => uptoBulk d + 1
 end
def uptoSmall : (H : Type) → List (DataW H) → Bool := fun _ ds => decide (uptoBulkAll ds ≤ 1048576)
def OpenSpec.upto (s : _root_.Go.ChangeSpec) : _root_.Go.OpenSpec := { _root_.Go.OpenSpec.ofChange s with cond := some uptoSmall }

/-- 'laws.FnExactKeysOk', WHERE WHAT IT READS IS OF BULK AT MOST 1048576: true; the input reads as it did. -/
def fnExactKeysOkUptoRow : OpenClaim := { program := "ytdfhhnepodnioaa", sum := "efaa756d3390d4b4b01e47ba4e8c6095ebeaffdf3e70bf6bf8121fb03beaa05d", func := "loop.example/g00066/laws.FnExactKeysOk", spec := "fnExactKeysOk", apart := false, narrowed := true }
def FnExactKeysOkUptoSaid : Prop := fnExactKeysOkUptoRow.holds Try.pinned (OpenSpec.upto fnExactKeysOkSpec)

/-- 'laws.FnExactSpeedAt', WHERE WHAT IT READS IS OF BULK AT MOST 1048576: true; the input reads as it did. -/
def fnExactSpeedAtUptoRow : OpenClaim := { program := "ytdfhhnepodnioaa", sum := "efaa756d3390d4b4b01e47ba4e8c6095ebeaffdf3e70bf6bf8121fb03beaa05d", func := "loop.example/g00066/laws.FnExactSpeedAt", spec := "fnExactSpeedAt", unfollowed := true, recurses := true, apart := false, narrowed := true }
def FnExactSpeedAtUptoSaid : Prop := fnExactSpeedAtUptoRow.holds Try.pinned (OpenSpec.upto fnExactSpeedAtSpec)

/-- 'laws.FnExactBlend', WHERE WHAT IT READS IS OF BULK AT MOST 1048576: true; the input reads as it did. -/
def fnExactBlendUptoRow : OpenClaim := { program := "ytdfhhnepodnioaa", sum := "efaa756d3390d4b4b01e47ba4e8c6095ebeaffdf3e70bf6bf8121fb03beaa05d", func := "loop.example/g00066/laws.FnExactBlend", spec := "fnExactBlend", unfollowed := true, recurses := true, apart := false, narrowed := true }
def FnExactBlendUptoSaid : Prop := fnExactBlendUptoRow.holds Try.pinned (OpenSpec.upto fnExactBlendSpec)

/-- 'laws.FnSpeed', WHERE WHAT IT READS IS OF BULK AT MOST 1048576: true; the input reads as it did. -/
def fnSpeedUptoRow : OpenClaim := { program := "ytdfhhnepodnioaa", sum := "efaa756d3390d4b4b01e47ba4e8c6095ebeaffdf3e70bf6bf8121fb03beaa05d", func := "loop.example/g00066/laws.FnSpeed", spec := "fnSpeed", unfollowed := true, recurses := true, apart := false, narrowed := true }
def FnSpeedUptoSaid : Prop := fnSpeedUptoRow.holds Try.pinned (OpenSpec.upto fnSpeedSpec)

/-- 'laws.FnExactCurve', WHERE WHAT IT READS IS OF BULK AT MOST 1048576: true; the input reads as it did. -/
def fnExactCurveUptoRow : OpenClaim := { program := "ytdfhhnepodnioaa", sum := "efaa756d3390d4b4b01e47ba4e8c6095ebeaffdf3e70bf6bf8121fb03beaa05d", func := "loop.example/g00066/laws.FnExactCurve", spec := "fnExactCurve", unfollowed := true, recurses := true, apart := false, narrowed := true }
def FnExactCurveUptoSaid : Prop := fnExactCurveUptoRow.holds Try.pinned (OpenSpec.upto fnExactCurveSpec)

/-- 'laws.FnExactPlainCube', WHERE WHAT IT READS IS OF BULK AT MOST 1048576: true; the input reads as it did. -/
def fnExactPlainCubeUptoRow : OpenClaim := { program := "ytdfhhnepodnioaa", sum := "efaa756d3390d4b4b01e47ba4e8c6095ebeaffdf3e70bf6bf8121fb03beaa05d", func := "loop.example/g00066/laws.FnExactPlainCube", spec := "fnExactPlainCube", apart := false, narrowed := true }
def FnExactPlainCubeUptoSaid : Prop := fnExactPlainCubeUptoRow.holds Try.pinned (OpenSpec.upto fnExactPlainCubeSpec)

end Rows
end Go.Proofs.Ytdfhhnepodnioaa
