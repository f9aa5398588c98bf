/-
  No cell of these rows narrows 'for every input' (looked for: loops, veiled, ifaces, maps, wideKeys, modest, calm, conditions, laid).
  DERIVED. THE GIVEN ROWS OF THIS SEAT. 9 by the template 'for every input the law returns true; each argument reads behind the call as it read before'; 0 by the template 'total and deterministic' (their statements: YtipmhlajjdnhoaaTotals.lean).
  GIVEN WITH THE SEED: the statements are not yours to turn. If you find one false, say at which input.
  Laid BY PROGRAM, IN A SANDBOX (cutbox-rows.mjs): the forced cells as the released guide's own fill.sh prints them over the translation f63dc7262642a9f0… (all of the seat's roots in one cut). By AI agents, Wed Nov 11 2026. No macro, syntax, notation, axiom, sorry.
-/
import Derived.Test.YtipmhlajjdnhoaaChecked
import GoSem.Claim
import GoSem.ClaimJoined
import GoSem.ClaimMapViews
import Derived.JoinedTies
import Derived.KernelRfl
namespace Go.Proofs.Ytipmhlajjdnhoaa
/- THE CELL 'sum', in the pinned program and in every row, IS THE sha256 OF THE DUMP (.gsa) THAT YtipmhlajjdnhoaaProg.lean LOADS. Nothing in Lean hashes anything: it is a label: what it is worth is what the hold of that sum in a sandbox is worth. -/
noncomputable def Try.pinned : Pinned := { name := "ytipmhlajjdnhoaa", sum := "f63dc7262642a9f056059d2c48441951225958120dc10eb0f1ce28b9f856e8e1", checked := Try.checked }
namespace Rows
def none {H : Type} : Left H := { results := [], args := [] }

/-- 'laws.FnExactPxOk': WHATEVER THE INPUT: true; the input reads as it did. -/
def fnExactPxOkSpec : ChangeSpec := { name := "fnExactPxOk", fn := fun _ => fun
  | [d] => { results := [.lit (.bool true)], args := [d] }
  | _ => none }
def fnExactPxOkRow : OpenClaim := { program := "ytipmhlajjdnhoaa", sum := "f63dc7262642a9f056059d2c48441951225958120dc10eb0f1ce28b9f856e8e1", func := "loop.example/g00066/laws.FnExactPxOk", spec := "fnExactPxOk", apart := false }
def FnExactPxOkSaid : Prop := fnExactPxOkRow.holds Try.pinned (OpenSpec.ofChange fnExactPxOkSpec)

/-- ITS FALSE NEIGHBOUR: 'it returns false'. Refute it at one input. -/
def fnExactPxOkWrong : ChangeSpec := { name := "fnExactPxOk", fn := fun _ => fun
  | [d] => { results := [.lit (.bool false)], args := [d] }
  | _ => none }
def FnExactPxOkWrongFalsely : Prop := fnExactPxOkRow.holds Try.pinned (OpenSpec.ofChange fnExactPxOkWrong)

/-- 'laws.FnExactAdded': WHATEVER THE INPUT: true; the input reads as it did. -/
def fnExactAddedSpec : ChangeSpec := { name := "fnExactAdded", fn := fun _ => fun
  | [d1, d2] => { results := [.lit (.bool true)], args := [d1, d2] }
  | _ => none }
def fnExactAddedRow : OpenClaim := { program := "ytipmhlajjdnhoaa", sum := "f63dc7262642a9f056059d2c48441951225958120dc10eb0f1ce28b9f856e8e1", func := "loop.example/g00066/laws.FnExactAdded", spec := "fnExactAdded", unfollowed := true, recurses := true, apart := false }
def FnExactAddedSaid : Prop := fnExactAddedRow.holds Try.pinned (OpenSpec.ofChange fnExactAddedSpec)

/-- ITS FALSE NEIGHBOUR: 'it returns false'. Refute it at one input. -/
def fnExactAddedWrong : ChangeSpec := { name := "fnExactAdded", fn := fun _ => fun
  | [d1, d2] => { results := [.lit (.bool false)], args := [d1, d2] }
  | _ => none }
def FnExactAddedWrongFalsely : Prop := fnExactAddedRow.holds Try.pinned (OpenSpec.ofChange fnExactAddedWrong)

/-- 'laws.FnExactPremul': WHATEVER THE INPUT: true; the input reads as it did. -/
def fnExactPremulSpec : ChangeSpec := { name := "fnExactPremul", fn := fun _ => fun
  | [d] => { results := [.lit (.bool true)], args := [d] }
  | _ => none }
def fnExactPremulRow : OpenClaim := { program := "ytipmhlajjdnhoaa", sum := "f63dc7262642a9f056059d2c48441951225958120dc10eb0f1ce28b9f856e8e1", func := "loop.example/g00066/laws.FnExactPremul", spec := "fnExactPremul", unfollowed := true, recurses := true, apart := false }
def FnExactPremulSaid : Prop := fnExactPremulRow.holds Try.pinned (OpenSpec.ofChange fnExactPremulSpec)

/-- ITS FALSE NEIGHBOUR: 'it returns false'. Refute it at one input. -/
def fnExactPremulWrong : ChangeSpec := { name := "fnExactPremul", fn := fun _ => fun
  | [d] => { results := [.lit (.bool false)], args := [d] }
  | _ => none }
def FnExactPremulWrongFalsely : Prop := fnExactPremulRow.holds Try.pinned (OpenSpec.ofChange fnExactPremulWrong)

/-- 'laws.FnExactPlain': WHATEVER THE INPUT: true; the input reads as it did. -/
def fnExactPlainSpec : ChangeSpec := { name := "fnExactPlain", fn := fun _ => fun
  | [d] => { results := [.lit (.bool true)], args := [d] }
  | _ => none }
def fnExactPlainRow : OpenClaim := { program := "ytipmhlajjdnhoaa", sum := "f63dc7262642a9f056059d2c48441951225958120dc10eb0f1ce28b9f856e8e1", func := "loop.example/g00066/laws.FnExactPlain", spec := "fnExactPlain", unfollowed := true, recurses := true, apart := false }
def FnExactPlainSaid : Prop := fnExactPlainRow.holds Try.pinned (OpenSpec.ofChange fnExactPlainSpec)

/-- ITS FALSE NEIGHBOUR: 'it returns false'. Refute it at one input. -/
def fnExactPlainWrong : ChangeSpec := { name := "fnExactPlain", fn := fun _ => fun
  | [d] => { results := [.lit (.bool false)], args := [d] }
  | _ => none }
def FnExactPlainWrongFalsely : Prop := fnExactPlainRow.holds Try.pinned (OpenSpec.ofChange fnExactPlainWrong)

/-- 'laws.FnExactInside': WHATEVER THE INPUT: true; the input reads as it did. -/
def fnExactInsideSpec : ChangeSpec := { name := "fnExactInside", fn := fun _ => fun
  | [d1, d2] => { results := [.lit (.bool true)], args := [d1, d2] }
  | _ => none }
def fnExactInsideRow : OpenClaim := { program := "ytipmhlajjdnhoaa", sum := "f63dc7262642a9f056059d2c48441951225958120dc10eb0f1ce28b9f856e8e1", func := "loop.example/g00066/laws.FnExactInside", spec := "fnExactInside", unfollowed := true, recurses := true, apart := false }
def FnExactInsideSaid : Prop := fnExactInsideRow.holds Try.pinned (OpenSpec.ofChange fnExactInsideSpec)

/-- ITS FALSE NEIGHBOUR: 'it returns false'. Refute it at one input. -/
def fnExactInsideWrong : ChangeSpec := { name := "fnExactInside", fn := fun _ => fun
  | [d1, d2] => { results := [.lit (.bool false)], args := [d1, d2] }
  | _ => none }
def FnExactInsideWrongFalsely : Prop := fnExactInsideRow.holds Try.pinned (OpenSpec.ofChange fnExactInsideWrong)

/-- 'laws.FnExactOutside': WHATEVER THE INPUT: true; the input reads as it did. -/
def fnExactOutsideSpec : ChangeSpec := { name := "fnExactOutside", fn := fun _ => fun
  | [d1, d2] => { results := [.lit (.bool true)], args := [d1, d2] }
  | _ => none }
def fnExactOutsideRow : OpenClaim := { program := "ytipmhlajjdnhoaa", sum := "f63dc7262642a9f056059d2c48441951225958120dc10eb0f1ce28b9f856e8e1", func := "loop.example/g00066/laws.FnExactOutside", spec := "fnExactOutside", unfollowed := true, recurses := true, apart := false }
def FnExactOutsideSaid : Prop := fnExactOutsideRow.holds Try.pinned (OpenSpec.ofChange fnExactOutsideSpec)

/-- ITS FALSE NEIGHBOUR: 'it returns false'. Refute it at one input. -/
def fnExactOutsideWrong : ChangeSpec := { name := "fnExactOutside", fn := fun _ => fun
  | [d1, d2] => { results := [.lit (.bool false)], args := [d1, d2] }
  | _ => none }
def FnExactOutsideWrongFalsely : Prop := fnExactOutsideRow.holds Try.pinned (OpenSpec.ofChange fnExactOutsideWrong)

/-- 'laws.FnExactOver': WHATEVER THE INPUT: true; the input reads as it did. -/
def fnExactOverSpec : ChangeSpec := { name := "fnExactOver", fn := fun _ => fun
  | [d1, d2] => { results := [.lit (.bool true)], args := [d1, d2] }
  | _ => none }
def fnExactOverRow : OpenClaim := { program := "ytipmhlajjdnhoaa", sum := "f63dc7262642a9f056059d2c48441951225958120dc10eb0f1ce28b9f856e8e1", func := "loop.example/g00066/laws.FnExactOver", spec := "fnExactOver", unfollowed := true, recurses := true, apart := false }
def FnExactOverSaid : Prop := fnExactOverRow.holds Try.pinned (OpenSpec.ofChange fnExactOverSpec)

/-- ITS FALSE NEIGHBOUR: 'it returns false'. Refute it at one input. -/
def fnExactOverWrong : ChangeSpec := { name := "fnExactOver", fn := fun _ => fun
  | [d1, d2] => { results := [.lit (.bool false)], args := [d1, d2] }
  | _ => none }
def FnExactOverWrongFalsely : Prop := fnExactOverRow.holds Try.pinned (OpenSpec.ofChange fnExactOverWrong)

/-- 'laws.FnPlainPx': WHATEVER THE INPUT: true; the input reads as it did. -/
def fnPlainPxSpec : ChangeSpec := { name := "fnPlainPx", fn := fun _ => fun
  | [d] => { results := [.lit (.bool true)], args := [d] }
  | _ => none }
def fnPlainPxRow : OpenClaim := { program := "ytipmhlajjdnhoaa", sum := "f63dc7262642a9f056059d2c48441951225958120dc10eb0f1ce28b9f856e8e1", func := "loop.example/g00066/laws.FnPlainPx", spec := "fnPlainPx", unfollowed := true, recurses := true, apart := false }
def FnPlainPxSaid : Prop := fnPlainPxRow.holds Try.pinned (OpenSpec.ofChange fnPlainPxSpec)

/-- ITS FALSE NEIGHBOUR: 'it returns false'. Refute it at one input. -/
def fnPlainPxWrong : ChangeSpec := { name := "fnPlainPx", fn := fun _ => fun
  | [d] => { results := [.lit (.bool false)], args := [d] }
  | _ => none }
def FnPlainPxWrongFalsely : Prop := fnPlainPxRow.holds Try.pinned (OpenSpec.ofChange fnPlainPxWrong)

/-- 'laws.FnLayers': WHATEVER THE INPUT: true; the input reads as it did. -/
def fnLayersSpec : ChangeSpec := { name := "fnLayers", fn := fun _ => fun
  | [d] => { results := [.lit (.bool true)], args := [d] }
  | _ => none }
def fnLayersRow : OpenClaim := { program := "ytipmhlajjdnhoaa", sum := "f63dc7262642a9f056059d2c48441951225958120dc10eb0f1ce28b9f856e8e1", func := "loop.example/g00066/laws.FnLayers", spec := "fnLayers", unfollowed := true, recurses := true, apart := false }
def FnLayersSaid : Prop := fnLayersRow.holds Try.pinned (OpenSpec.ofChange fnLayersSpec)

/-- ITS FALSE NEIGHBOUR: 'it returns false'. Refute it at one input. -/
def fnLayersWrong : ChangeSpec := { name := "fnLayers", fn := fun _ => fun
  | [d] => { results := [.lit (.bool false)], args := [d] }
  | _ => none }
def FnLayersWrongFalsely : Prop := fnLayersRow.holds Try.pinned (OpenSpec.ofChange fnLayersWrong)

/- THE SECOND FORM. 'bulk': how many values and letters a reading holds, each counted each time it is reached (what is shared counts as often as it is met; a slice's spare places count too). A statement '..UptoSaid' is the law's where the arguments, and the package variables that the reading takes, are together of bulk at most 1048576: NARROWER than '..Said'. Prove '..Said' where nothing that the law and all that it calls make is longer than what came in: it says more and counts as full. Else prove '..UptoSaid'. A law counts once. -/
mutual
def uptoBulk {H : Type} : DataW H → Nat
  | .lit (.string bytes) => bytes.length + 1
  | .lit _ => 1
  | .nil => 1
  | .ptr d => uptoBulk d + 1
  | .slice elems spare => uptoBulkAll elems + uptoBulkAll spare + 1
  | .agg parts => uptoBulkAll parts + 1
  | .iface _ d => uptoBulk d + 1
  | .map entries => uptoBulkEntries entries + 1
  | .held _ => 1
def uptoBulkAll {H : Type} : List (DataW H) → Nat
  | [] => 0
  | d :: r => uptoBulk d + uptoBulkAll r
def uptoBulkEntries {H : Type} : List (Lit × DataW H) → Nat
  | [] => 0
  | x :: r => uptoBulkEntry x + uptoBulkEntries r
def uptoBulkEntry {H : Type} : Lit × DataW H → Nat
  | (.string bytes, d) => bytes.length + uptoBulk d + 1
  | (_, d) => uptoBulk d + 1
 end
def uptoSmall : (H : Type) → List (DataW H) → Bool := fun _ ds => decide (uptoBulkAll ds ≤ 1048576)
def OpenSpec.upto (s : _root_.Go.ChangeSpec) : _root_.Go.OpenSpec := { _root_.Go.OpenSpec.ofChange s with cond := some uptoSmall }

/-- 'laws.FnExactPxOk', WHERE WHAT IT READS IS OF BULK AT MOST 1048576: true; the input reads as it did. -/
def fnExactPxOkUptoRow : OpenClaim := { program := "ytipmhlajjdnhoaa", sum := "f63dc7262642a9f056059d2c48441951225958120dc10eb0f1ce28b9f856e8e1", func := "loop.example/g00066/laws.FnExactPxOk", spec := "fnExactPxOk", apart := false, narrowed := true }
def FnExactPxOkUptoSaid : Prop := fnExactPxOkUptoRow.holds Try.pinned (OpenSpec.upto fnExactPxOkSpec)

/-- 'laws.FnExactAdded', WHERE WHAT IT READS IS OF BULK AT MOST 1048576: true; the input reads as it did. -/
def fnExactAddedUptoRow : OpenClaim := { program := "ytipmhlajjdnhoaa", sum := "f63dc7262642a9f056059d2c48441951225958120dc10eb0f1ce28b9f856e8e1", func := "loop.example/g00066/laws.FnExactAdded", spec := "fnExactAdded", unfollowed := true, recurses := true, apart := false, narrowed := true }
def FnExactAddedUptoSaid : Prop := fnExactAddedUptoRow.holds Try.pinned (OpenSpec.upto fnExactAddedSpec)

/-- 'laws.FnExactPremul', WHERE WHAT IT READS IS OF BULK AT MOST 1048576: true; the input reads as it did. -/
def fnExactPremulUptoRow : OpenClaim := { program := "ytipmhlajjdnhoaa", sum := "f63dc7262642a9f056059d2c48441951225958120dc10eb0f1ce28b9f856e8e1", func := "loop.example/g00066/laws.FnExactPremul", spec := "fnExactPremul", unfollowed := true, recurses := true, apart := false, narrowed := true }
def FnExactPremulUptoSaid : Prop := fnExactPremulUptoRow.holds Try.pinned (OpenSpec.upto fnExactPremulSpec)

/-- 'laws.FnExactPlain', WHERE WHAT IT READS IS OF BULK AT MOST 1048576: true; the input reads as it did. -/
def fnExactPlainUptoRow : OpenClaim := { program := "ytipmhlajjdnhoaa", sum := "f63dc7262642a9f056059d2c48441951225958120dc10eb0f1ce28b9f856e8e1", func := "loop.example/g00066/laws.FnExactPlain", spec := "fnExactPlain", unfollowed := true, recurses := true, apart := false, narrowed := true }
def FnExactPlainUptoSaid : Prop := fnExactPlainUptoRow.holds Try.pinned (OpenSpec.upto fnExactPlainSpec)

/-- 'laws.FnExactInside', WHERE WHAT IT READS IS OF BULK AT MOST 1048576: true; the input reads as it did. -/
def fnExactInsideUptoRow : OpenClaim := { program := "ytipmhlajjdnhoaa", sum := "f63dc7262642a9f056059d2c48441951225958120dc10eb0f1ce28b9f856e8e1", func := "loop.example/g00066/laws.FnExactInside", spec := "fnExactInside", unfollowed := true, recurses := true, apart := false, narrowed := true }
def FnExactInsideUptoSaid : Prop := fnExactInsideUptoRow.holds Try.pinned (OpenSpec.upto fnExactInsideSpec)

/-- 'laws.FnExactOutside', WHERE WHAT IT READS IS OF BULK AT MOST 1048576: true; the input reads as it did. -/
def fnExactOutsideUptoRow : OpenClaim := { program := "ytipmhlajjdnhoaa", sum := "f63dc7262642a9f056059d2c48441951225958120dc10eb0f1ce28b9f856e8e1", func := "loop.example/g00066/laws.FnExactOutside", spec := "fnExactOutside", unfollowed := true, recurses := true, apart := false, narrowed := true }
def FnExactOutsideUptoSaid : Prop := fnExactOutsideUptoRow.holds Try.pinned (OpenSpec.upto fnExactOutsideSpec)

/-- 'laws.FnExactOver', WHERE WHAT IT READS IS OF BULK AT MOST 1048576: true; the input reads as it did. -/
def fnExactOverUptoRow : OpenClaim := { program := "ytipmhlajjdnhoaa", sum := "f63dc7262642a9f056059d2c48441951225958120dc10eb0f1ce28b9f856e8e1", func := "loop.example/g00066/laws.FnExactOver", spec := "fnExactOver", unfollowed := true, recurses := true, apart := false, narrowed := true }
def FnExactOverUptoSaid : Prop := fnExactOverUptoRow.holds Try.pinned (OpenSpec.upto fnExactOverSpec)

/-- 'laws.FnPlainPx', WHERE WHAT IT READS IS OF BULK AT MOST 1048576: true; the input reads as it did. -/
def fnPlainPxUptoRow : OpenClaim := { program := "ytipmhlajjdnhoaa", sum := "f63dc7262642a9f056059d2c48441951225958120dc10eb0f1ce28b9f856e8e1", func := "loop.example/g00066/laws.FnPlainPx", spec := "fnPlainPx", unfollowed := true, recurses := true, apart := false, narrowed := true }
def FnPlainPxUptoSaid : Prop := fnPlainPxUptoRow.holds Try.pinned (OpenSpec.upto fnPlainPxSpec)

/-- 'laws.FnLayers', WHERE WHAT IT READS IS OF BULK AT MOST 1048576: true; the input reads as it did. -/
def fnLayersUptoRow : OpenClaim := { program := "ytipmhlajjdnhoaa", sum := "f63dc7262642a9f056059d2c48441951225958120dc10eb0f1ce28b9f856e8e1", func := "loop.example/g00066/laws.FnLayers", spec := "fnLayers", unfollowed := true, recurses := true, apart := false, narrowed := true }
def FnLayersUptoSaid : Prop := fnLayersUptoRow.holds Try.pinned (OpenSpec.upto fnLayersSpec)

end Rows
end Go.Proofs.Ytipmhlajjdnhoaa
