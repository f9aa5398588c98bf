/-
  No cell of these rows narrows 'for every input' (looked for: loops, veiled, ifaces, maps, wideKeys, modest, calm, conditions, laid).
  DERIVED. THE GIVEN ROWS OF THIS SEAT. 6 by the template 'for every input the law returns true; each argument reads behind the call as it read before'; 0 by the template 'total and deterministic' (their statements: YtpennfkjfeipcaaTotals.lean).
  GIVEN WITH THE SEED: the statements are not yours to turn. If you find one false, say at which input.
  Laid BY PROGRAM, IN A SANDBOX (cutbox-rows.mjs): the forced cells as the released guide's own fill.sh prints them over the translation a69b50f4b52beaea… (all of the seat's roots in one cut). By AI agents, Wed Nov 11 2026. No macro, syntax, notation, axiom, sorry.
-/
import Derived.Test.YtpennfkjfeipcaaChecked
import GoSem.Claim
import GoSem.ClaimJoined
import GoSem.ClaimMapViews
import Derived.JoinedTies
import Derived.KernelRfl
namespace Go.Proofs.Ytpennfkjfeipcaa
/- THE CELL 'sum', in the pinned program and in every row, IS THE sha256 OF THE DUMP (.gsa) THAT YtpennfkjfeipcaaProg.lean LOADS. Nothing in Lean hashes anything: it is a label: what it is worth is what the hold of that sum in a sandbox is worth. -/
noncomputable def Try.pinned : Pinned := { name := "ytpennfkjfeipcaa", sum := "a69b50f4b52beaea9da321cfc2aff5f08929be313aeab4c09656fbfce5506c04", checked := Try.checked }
namespace Rows
def none {H : Type} : Left H := { results := [], args := [] }

/-- 'laws.FnExactBoxesOk': WHATEVER THE INPUT: true; the input reads as it did. -/
def fnExactBoxesOkSpec : ChangeSpec := { name := "fnExactBoxesOk", fn := fun _ => fun
  | [d] => { results := [.lit (.bool true)], args := [d] }
  | _ => none }
def fnExactBoxesOkRow : OpenClaim := { program := "ytpennfkjfeipcaa", sum := "a69b50f4b52beaea9da321cfc2aff5f08929be313aeab4c09656fbfce5506c04", func := "loop.example/g00066/laws.FnExactBoxesOk", spec := "fnExactBoxesOk", apart := false }
def FnExactBoxesOkSaid : Prop := fnExactBoxesOkRow.holds Try.pinned (OpenSpec.ofChange fnExactBoxesOkSpec)

/-- ITS FALSE NEIGHBOUR: 'it returns false'. Refute it at one input. -/
def fnExactBoxesOkWrong : ChangeSpec := { name := "fnExactBoxesOk", fn := fun _ => fun
  | [d] => { results := [.lit (.bool false)], args := [d] }
  | _ => none }
def FnExactBoxesOkWrongFalsely : Prop := fnExactBoxesOkRow.holds Try.pinned (OpenSpec.ofChange fnExactBoxesOkWrong)

/-- 'laws.FnExactSaveBoxes': WHATEVER THE INPUT: true; the input reads as it did. -/
def fnExactSaveBoxesSpec : ChangeSpec := { name := "fnExactSaveBoxes", fn := fun _ => fun
  | [d] => { results := [.lit (.bool true)], args := [d] }
  | _ => none }
def fnExactSaveBoxesRow : OpenClaim := { program := "ytpennfkjfeipcaa", sum := "a69b50f4b52beaea9da321cfc2aff5f08929be313aeab4c09656fbfce5506c04", func := "loop.example/g00066/laws.FnExactSaveBoxes", spec := "fnExactSaveBoxes", recurses := true, apart := false }
def FnExactSaveBoxesSaid : Prop := fnExactSaveBoxesRow.holds Try.pinned (OpenSpec.ofChange fnExactSaveBoxesSpec)

/-- ITS FALSE NEIGHBOUR: 'it returns false'. Refute it at one input. -/
def fnExactSaveBoxesWrong : ChangeSpec := { name := "fnExactSaveBoxes", fn := fun _ => fun
  | [d] => { results := [.lit (.bool false)], args := [d] }
  | _ => none }
def FnExactSaveBoxesWrongFalsely : Prop := fnExactSaveBoxesRow.holds Try.pinned (OpenSpec.ofChange fnExactSaveBoxesWrong)

/-- 'laws.FnExactReadBoxes': WHATEVER THE INPUT: true; the input reads as it did. -/
def fnExactReadBoxesSpec : ChangeSpec := { name := "fnExactReadBoxes", fn := fun _ => fun
  | [d] => { results := [.lit (.bool true)], args := [d] }
  | _ => none }
def fnExactReadBoxesRow : OpenClaim := { program := "ytpennfkjfeipcaa", sum := "a69b50f4b52beaea9da321cfc2aff5f08929be313aeab4c09656fbfce5506c04", func := "loop.example/g00066/laws.FnExactReadBoxes", spec := "fnExactReadBoxes", recurses := true, apart := false }
def FnExactReadBoxesSaid : Prop := fnExactReadBoxesRow.holds Try.pinned (OpenSpec.ofChange fnExactReadBoxesSpec)

/-- ITS FALSE NEIGHBOUR: 'it returns false'. Refute it at one input. -/
def fnExactReadBoxesWrong : ChangeSpec := { name := "fnExactReadBoxes", fn := fun _ => fun
  | [d] => { results := [.lit (.bool false)], args := [d] }
  | _ => none }
def FnExactReadBoxesWrongFalsely : Prop := fnExactReadBoxesRow.holds Try.pinned (OpenSpec.ofChange fnExactReadBoxesWrong)

/-- 'laws.FnExactShowBoxes': WHATEVER THE INPUT: true; the input reads as it did. -/
def fnExactShowBoxesSpec : ChangeSpec := { name := "fnExactShowBoxes", fn := fun _ => fun
  | [d] => { results := [.lit (.bool true)], args := [d] }
  | _ => none }
def fnExactShowBoxesRow : OpenClaim := { program := "ytpennfkjfeipcaa", sum := "a69b50f4b52beaea9da321cfc2aff5f08929be313aeab4c09656fbfce5506c04", func := "loop.example/g00066/laws.FnExactShowBoxes", spec := "fnExactShowBoxes", recurses := true, apart := false }
def FnExactShowBoxesSaid : Prop := fnExactShowBoxesRow.holds Try.pinned (OpenSpec.ofChange fnExactShowBoxesSpec)

/-- ITS FALSE NEIGHBOUR: 'it returns false'. Refute it at one input. -/
def fnExactShowBoxesWrong : ChangeSpec := { name := "fnExactShowBoxes", fn := fun _ => fun
  | [d] => { results := [.lit (.bool false)], args := [d] }
  | _ => none }
def FnExactShowBoxesWrongFalsely : Prop := fnExactShowBoxesRow.holds Try.pinned (OpenSpec.ofChange fnExactShowBoxesWrong)

/-- 'laws.FnBoxesBack': WHATEVER THE INPUT: true; the input reads as it did. -/
def fnBoxesBackSpec : ChangeSpec := { name := "fnBoxesBack", fn := fun _ => fun
  | [d] => { results := [.lit (.bool true)], args := [d] }
  | _ => none }
def fnBoxesBackRow : OpenClaim := { program := "ytpennfkjfeipcaa", sum := "a69b50f4b52beaea9da321cfc2aff5f08929be313aeab4c09656fbfce5506c04", func := "loop.example/g00066/laws.FnBoxesBack", spec := "fnBoxesBack", recurses := true, apart := false }
def FnBoxesBackSaid : Prop := fnBoxesBackRow.holds Try.pinned (OpenSpec.ofChange fnBoxesBackSpec)

/-- ITS FALSE NEIGHBOUR: 'it returns false'. Refute it at one input. -/
def fnBoxesBackWrong : ChangeSpec := { name := "fnBoxesBack", fn := fun _ => fun
  | [d] => { results := [.lit (.bool false)], args := [d] }
  | _ => none }
def FnBoxesBackWrongFalsely : Prop := fnBoxesBackRow.holds Try.pinned (OpenSpec.ofChange fnBoxesBackWrong)

/-- 'laws.FnBoxesOne': WHATEVER THE INPUT: true; the input reads as it did. -/
def fnBoxesOneSpec : ChangeSpec := { name := "fnBoxesOne", fn := fun _ => fun
  | [d] => { results := [.lit (.bool true)], args := [d] }
  | _ => none }
def fnBoxesOneRow : OpenClaim := { program := "ytpennfkjfeipcaa", sum := "a69b50f4b52beaea9da321cfc2aff5f08929be313aeab4c09656fbfce5506c04", func := "loop.example/g00066/laws.FnBoxesOne", spec := "fnBoxesOne", recurses := true, apart := false }
def FnBoxesOneSaid : Prop := fnBoxesOneRow.holds Try.pinned (OpenSpec.ofChange fnBoxesOneSpec)

/-- ITS FALSE NEIGHBOUR: 'it returns false'. Refute it at one input. -/
def fnBoxesOneWrong : ChangeSpec := { name := "fnBoxesOne", fn := fun _ => fun
  | [d] => { results := [.lit (.bool false)], args := [d] }
  | _ => none }
def FnBoxesOneWrongFalsely : Prop := fnBoxesOneRow.holds Try.pinned (OpenSpec.ofChange fnBoxesOneWrong)

/- THE SECOND FORM. 'bulk': how many values and letters a reading holds, each counted each time it is reached (what is shared counts as often as it is met; a slice's spare places count too). A statement '..UptoSaid' is the law's where the arguments, and the package variables that the reading takes, are together of bulk at most 1048576: NARROWER than '..Said'. Prove '..Said' where nothing that the law and all that it calls make is longer than what came in: it says more and counts as full. Else prove '..UptoSaid'. A law counts once. -/
mutual
def uptoBulk {H : Type} : DataW H → Nat
  | .lit (.string bytes) => bytes.length + 1
  | .lit _ => 1
  | .nil => 1
  | .ptr d => uptoBulk d + 1
  | .slice elems spare => uptoBulkAll elems + uptoBulkAll spare + 1
  | .agg parts => uptoBulkAll parts + 1
  | .iface _ d => uptoBulk d + 1
  | .map entries => uptoBulkEntries entries + 1
  | .held _ => 1
def uptoBulkAll {H : Type} : List (DataW H) → Nat
  | [] => 0
  | d :: r => uptoBulk d + uptoBulkAll r
def uptoBulkEntries {H : Type} : List (Lit × DataW H) → Nat
  | [] => 0
  | x :: r => uptoBulkEntry x + uptoBulkEntries r
def uptoBulkEntry {H : Type} : Lit × DataW H → Nat
  | (.string bytes, d) => bytes.length + uptoBulk d + 1
  | (_, d) => uptoBulk d + 1
 end
def uptoSmall : (H : Type) → List (DataW H) → Bool := fun _ ds => decide (uptoBulkAll ds ≤ 1048576)
def OpenSpec.upto (s : _root_.Go.ChangeSpec) : _root_.Go.OpenSpec := { _root_.Go.OpenSpec.ofChange s with cond := some uptoSmall }

/-- 'laws.FnExactBoxesOk', WHERE WHAT IT READS IS OF BULK AT MOST 1048576: true; the input reads as it did. -/
def fnExactBoxesOkUptoRow : OpenClaim := { program := "ytpennfkjfeipcaa", sum := "a69b50f4b52beaea9da321cfc2aff5f08929be313aeab4c09656fbfce5506c04", func := "loop.example/g00066/laws.FnExactBoxesOk", spec := "fnExactBoxesOk", apart := false, narrowed := true }
def FnExactBoxesOkUptoSaid : Prop := fnExactBoxesOkUptoRow.holds Try.pinned (OpenSpec.upto fnExactBoxesOkSpec)

/-- 'laws.FnExactSaveBoxes', WHERE WHAT IT READS IS OF BULK AT MOST 1048576: true; the input reads as it did. -/
def fnExactSaveBoxesUptoRow : OpenClaim := { program := "ytpennfkjfeipcaa", sum := "a69b50f4b52beaea9da321cfc2aff5f08929be313aeab4c09656fbfce5506c04", func := "loop.example/g00066/laws.FnExactSaveBoxes", spec := "fnExactSaveBoxes", recurses := true, apart := false, narrowed := true }
def FnExactSaveBoxesUptoSaid : Prop := fnExactSaveBoxesUptoRow.holds Try.pinned (OpenSpec.upto fnExactSaveBoxesSpec)

/-- 'laws.FnExactReadBoxes', WHERE WHAT IT READS IS OF BULK AT MOST 1048576: true; the input reads as it did. -/
def fnExactReadBoxesUptoRow : OpenClaim := { program := "ytpennfkjfeipcaa", sum := "a69b50f4b52beaea9da321cfc2aff5f08929be313aeab4c09656fbfce5506c04", func := "loop.example/g00066/laws.FnExactReadBoxes", spec := "fnExactReadBoxes", recurses := true, apart := false, narrowed := true }
def FnExactReadBoxesUptoSaid : Prop := fnExactReadBoxesUptoRow.holds Try.pinned (OpenSpec.upto fnExactReadBoxesSpec)

/-- 'laws.FnExactShowBoxes', WHERE WHAT IT READS IS OF BULK AT MOST 1048576: true; the input reads as it did. -/
def fnExactShowBoxesUptoRow : OpenClaim := { program := "ytpennfkjfeipcaa", sum := "a69b50f4b52beaea9da321cfc2aff5f08929be313aeab4c09656fbfce5506c04", func := "loop.example/g00066/laws.FnExactShowBoxes", spec := "fnExactShowBoxes", recurses := true, apart := false, narrowed := true }
def FnExactShowBoxesUptoSaid : Prop := fnExactShowBoxesUptoRow.holds Try.pinned (OpenSpec.upto fnExactShowBoxesSpec)

/-- 'laws.FnBoxesBack', WHERE WHAT IT READS IS OF BULK AT MOST 1048576: true; the input reads as it did. -/
def fnBoxesBackUptoRow : OpenClaim := { program := "ytpennfkjfeipcaa", sum := "a69b50f4b52beaea9da321cfc2aff5f08929be313aeab4c09656fbfce5506c04", func := "loop.example/g00066/laws.FnBoxesBack", spec := "fnBoxesBack", recurses := true, apart := false, narrowed := true }
def FnBoxesBackUptoSaid : Prop := fnBoxesBackUptoRow.holds Try.pinned (OpenSpec.upto fnBoxesBackSpec)

/-- 'laws.FnBoxesOne', WHERE WHAT IT READS IS OF BULK AT MOST 1048576: true; the input reads as it did. -/
def fnBoxesOneUptoRow : OpenClaim := { program := "ytpennfkjfeipcaa", sum := "a69b50f4b52beaea9da321cfc2aff5f08929be313aeab4c09656fbfce5506c04", func := "loop.example/g00066/laws.FnBoxesOne", spec := "fnBoxesOne", recurses := true, apart := false, narrowed := true }
def FnBoxesOneUptoSaid : Prop := fnBoxesOneUptoRow.holds Try.pinned (OpenSpec.upto fnBoxesOneSpec)

end Rows
end Go.Proofs.Ytpennfkjfeipcaa
