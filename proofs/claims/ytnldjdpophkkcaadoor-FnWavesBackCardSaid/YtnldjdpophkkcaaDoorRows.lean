/-
  NARROWER THAN 'FOR EVERY INPUT', by the rows' own cells (each row's printed sentence says how): FnWavesBack: laid · FnExactWaves: laid · FnExactBack: laid.
  DERIVED. THE GIVEN ROWS OF THIS SEAT. 3 by the template 'for every input the law returns true; each argument reads behind the call as it read before'; 0 by the template 'total and deterministic' (their statements: YtnldjdpophkkcaaDoorTotals.lean).
  GIVEN WITH THE SEED: the statements are not yours to turn. If you find one false, say at which input.
  Laid BY PROGRAM, IN A SANDBOX (cutbox-rows.mjs): the forced cells as the released guide's own fill.sh prints them over the translation dfa5047b201477f6… (all of the seat's roots in one cut). By AI agents, Wed Nov 11 2026. No macro, syntax, notation, axiom, sorry.
-/
import Derived.Test.YtnldjdpophkkcaaDoorChecked
import GoSem.Claim
import GoSem.ClaimJoined
import GoSem.ClaimMapViews
import Derived.JoinedTies
import Derived.KernelRfl
namespace Go.Proofs.YtnldjdpophkkcaaDoor
/- THE CELL 'sum', in the pinned program and in every row, IS THE sha256 OF THE DUMP (.gsa) THAT YtnldjdpophkkcaaDoorProg.lean LOADS. Nothing in Lean hashes anything: it is a label: what it is worth is what the hold of that sum in a sandbox is worth. -/
noncomputable def Tryd.pinned : Pinned := { name := "ytnldjdpophkkcaadoor", sum := "dfa5047b201477f66a83165e01675505295b7d6362fb657a95496eed896341d4", checked := Tryd.checked }
namespace Rows
def none {H : Type} : Left H := { results := [], args := [] }

/- WHAT THE LISTED PACKAGE-LEVEL VARIABLES READ AS WHEN THE CALL BEGINS. Each datum BY PROGRAM (the guide's laid-datum.mjs) off the statement by which the dump's own 'gosem.cut.vars' lays the variable. In a bare row this is a premise. The card (YtnldjdpophkkcaaDoorCards.lean) ties it to the program's text. -/
def laid_loop_example_g00066_impl_roots {H : Type} : DataW H := .agg [.agg [.lit (.float .f64 4607182418800017408), .lit (.float .f64 0)], .agg [.lit (.float .f64 4604544271217802189), .lit (.float .f64 13827916308072577997)], .agg [.lit (.float .f64 0), .lit (.float .f64 13830554455654793216)], .agg [.lit (.float .f64 13827916308072577997), .lit (.float .f64 13827916308072577997)], .agg [.lit (.float .f64 13830554455654793216), .lit (.float .f64 0)], .agg [.lit (.float .f64 13827916308072577997), .lit (.float .f64 4604544271217802189)], .agg [.lit (.float .f64 0), .lit (.float .f64 4607182418800017408)], .agg [.lit (.float .f64 4604544271217802189), .lit (.float .f64 4604544271217802189)]]

/-- 'laws.FnWavesBack': WHATEVER THE INPUT: true; the input reads as it did. -/
def fnWavesBackSpec : ChangeSpec := { name := "fnWavesBack", vars := ["loop.example/g00066/impl.roots"], fn := fun _ => fun
  | [d, g1] => { results := [.lit (.bool true)], args := [d], vars := [g1] }
  | _ => none }
def fnWavesBackRow : OpenClaim := { program := "ytnldjdpophkkcaadoor", sum := "dfa5047b201477f66a83165e01675505295b7d6362fb657a95496eed896341d4", func := "loop.example/g00066/laws.FnWavesBack", spec := "fnWavesBack", named := ["loop.example/g00066/impl.roots"], apart := false, laid := [("loop.example/g00066/impl.roots", laid_loop_example_g00066_impl_roots)] }
def FnWavesBackSaid : Prop := fnWavesBackRow.holds Tryd.pinned (OpenSpec.ofChange fnWavesBackSpec)

/-- ITS FALSE NEIGHBOUR: 'it returns false'. Refute it at one input. -/
def fnWavesBackWrong : ChangeSpec := { name := "fnWavesBack", vars := ["loop.example/g00066/impl.roots"], fn := fun _ => fun
  | [d, g1] => { results := [.lit (.bool false)], args := [d], vars := [g1] }
  | _ => none }
def FnWavesBackWrongFalsely : Prop := fnWavesBackRow.holds Tryd.pinned (OpenSpec.ofChange fnWavesBackWrong)

/-- 'laws.FnExactWaves': WHATEVER THE INPUT: true; the input reads as it did. -/
def fnExactWavesSpec : ChangeSpec := { name := "fnExactWaves", vars := ["loop.example/g00066/impl.roots"], fn := fun _ => fun
  | [d, g1] => { results := [.lit (.bool true)], args := [d], vars := [g1] }
  | _ => none }
def fnExactWavesRow : OpenClaim := { program := "ytnldjdpophkkcaadoor", sum := "dfa5047b201477f66a83165e01675505295b7d6362fb657a95496eed896341d4", func := "loop.example/g00066/laws.FnExactWaves", spec := "fnExactWaves", named := ["loop.example/g00066/impl.roots"], apart := false, laid := [("loop.example/g00066/impl.roots", laid_loop_example_g00066_impl_roots)] }
def FnExactWavesSaid : Prop := fnExactWavesRow.holds Tryd.pinned (OpenSpec.ofChange fnExactWavesSpec)

/-- ITS FALSE NEIGHBOUR: 'it returns false'. Refute it at one input. -/
def fnExactWavesWrong : ChangeSpec := { name := "fnExactWaves", vars := ["loop.example/g00066/impl.roots"], fn := fun _ => fun
  | [d, g1] => { results := [.lit (.bool false)], args := [d], vars := [g1] }
  | _ => none }
def FnExactWavesWrongFalsely : Prop := fnExactWavesRow.holds Tryd.pinned (OpenSpec.ofChange fnExactWavesWrong)

/-- 'laws.FnExactBack': WHATEVER THE INPUT: true; the input reads as it did. -/
def fnExactBackSpec : ChangeSpec := { name := "fnExactBack", vars := ["loop.example/g00066/impl.roots"], fn := fun _ => fun
  | [d, g1] => { results := [.lit (.bool true)], args := [d], vars := [g1] }
  | _ => none }
def fnExactBackRow : OpenClaim := { program := "ytnldjdpophkkcaadoor", sum := "dfa5047b201477f66a83165e01675505295b7d6362fb657a95496eed896341d4", func := "loop.example/g00066/laws.FnExactBack", spec := "fnExactBack", named := ["loop.example/g00066/impl.roots"], apart := false, laid := [("loop.example/g00066/impl.roots", laid_loop_example_g00066_impl_roots)] }
def FnExactBackSaid : Prop := fnExactBackRow.holds Tryd.pinned (OpenSpec.ofChange fnExactBackSpec)

/-- ITS FALSE NEIGHBOUR: 'it returns false'. Refute it at one input. -/
def fnExactBackWrong : ChangeSpec := { name := "fnExactBack", vars := ["loop.example/g00066/impl.roots"], fn := fun _ => fun
  | [d, g1] => { results := [.lit (.bool false)], args := [d], vars := [g1] }
  | _ => none }
def FnExactBackWrongFalsely : Prop := fnExactBackRow.holds Tryd.pinned (OpenSpec.ofChange fnExactBackWrong)

/- THE SECOND FORM. 'bulk': how many values and letters a reading holds, each counted each time it is reached (what is shared counts as often as it is met; a slice's spare places count too). A statement '..UptoSaid' is the law's where the arguments, and the package variables that the reading takes, are together of bulk at most 1048576: NARROWER than '..Said'. Prove '..Said' where nothing that the law and all that it calls make is longer than what came in: it says more and counts as full. Else prove '..UptoSaid'. A law counts once. -/
mutual
def uptoBulk {H : Type} : DataW H → Nat
  | .lit (.string bytes) => bytes.length + 1
  | .lit _ => 1
  | .nil => 1
  | .ptr d => uptoBulk d + 1
  | .slice elems spare => uptoBulkAll elems + uptoBulkAll spare + 1
  | .agg parts => uptoBulkAll parts + 1
  | .iface _ d => uptoBulk d + 1
  | .map entries => uptoBulkEntries entries + 1
  | .held _ => 1
def uptoBulkAll {H : Type} : List (DataW H) → Nat
  | [] => 0
  | d :: r => uptoBulk d + uptoBulkAll r
def uptoBulkEntries {H : Type} : List (Lit × DataW H) → Nat
  | [] => 0
  | x :: r => uptoBulkEntry x + uptoBulkEntries r
def uptoBulkEntry {H : Type} : Lit × DataW H → Nat
  | (.string bytes, d) => bytes.length + uptoBulk d + 1
  | (_, d) => uptoBulk d + 1
 end
def uptoSmall : (H : Type) → List (DataW H) → Bool := fun _ ds => decide (uptoBulkAll ds ≤ 1048576)
def OpenSpec.upto (s : _root_.Go.ChangeSpec) : _root_.Go.OpenSpec := { _root_.Go.OpenSpec.ofChange s with cond := some uptoSmall }

/-- 'laws.FnWavesBack', WHERE WHAT IT READS IS OF BULK AT MOST 1048576: true; the input reads as it did. -/
def fnWavesBackUptoRow : OpenClaim := { program := "ytnldjdpophkkcaadoor", sum := "dfa5047b201477f66a83165e01675505295b7d6362fb657a95496eed896341d4", func := "loop.example/g00066/laws.FnWavesBack", spec := "fnWavesBack", named := ["loop.example/g00066/impl.roots"], apart := false, laid := [("loop.example/g00066/impl.roots", laid_loop_example_g00066_impl_roots)], narrowed := true }
def FnWavesBackUptoSaid : Prop := fnWavesBackUptoRow.holds Tryd.pinned (OpenSpec.upto fnWavesBackSpec)

/-- 'laws.FnExactWaves', WHERE WHAT IT READS IS OF BULK AT MOST 1048576: true; the input reads as it did. -/
def fnExactWavesUptoRow : OpenClaim := { program := "ytnldjdpophkkcaadoor", sum := "dfa5047b201477f66a83165e01675505295b7d6362fb657a95496eed896341d4", func := "loop.example/g00066/laws.FnExactWaves", spec := "fnExactWaves", named := ["loop.example/g00066/impl.roots"], apart := false, laid := [("loop.example/g00066/impl.roots", laid_loop_example_g00066_impl_roots)], narrowed := true }
def FnExactWavesUptoSaid : Prop := fnExactWavesUptoRow.holds Tryd.pinned (OpenSpec.upto fnExactWavesSpec)

/-- 'laws.FnExactBack', WHERE WHAT IT READS IS OF BULK AT MOST 1048576: true; the input reads as it did. -/
def fnExactBackUptoRow : OpenClaim := { program := "ytnldjdpophkkcaadoor", sum := "dfa5047b201477f66a83165e01675505295b7d6362fb657a95496eed896341d4", func := "loop.example/g00066/laws.FnExactBack", spec := "fnExactBack", named := ["loop.example/g00066/impl.roots"], apart := false, laid := [("loop.example/g00066/impl.roots", laid_loop_example_g00066_impl_roots)], narrowed := true }
def FnExactBackUptoSaid : Prop := fnExactBackUptoRow.holds Tryd.pinned (OpenSpec.upto fnExactBackSpec)

end Rows
end Go.Proofs.YtnldjdpophkkcaaDoor
