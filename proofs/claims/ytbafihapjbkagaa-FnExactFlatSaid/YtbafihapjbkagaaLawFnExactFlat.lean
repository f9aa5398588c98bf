/- The row of the law FnExactFlat: for every argument it answers true, and each argument reads behind the call as it did. No condition. -/
import Derived.Test.YtbafihapjbkagaaRows
import Derived.Test.YtbafihapjbkagaaPFnExactFlatx9
import Derived.Test.YtbafihapjbkagaaPureFnExactFlat
import Derived.Test.YtbafihapjbkagaaVFnExactFlatMine
import Derived.WalkKit
import Derived.ProofKit
import Derived.OpenShut
import Derived.ShutString
import Derived.ChangeOld
import Derived.Below
import Derived.SizedLaws
import Derived.Carry
namespace Go.Proofs.Ytbafihapjbkagaa.fnExactFlat
open Go.ChangeShapes Go.WideShapes Go.ChangeAt Go.RowKit Go.Proofs.Ytbafihapjbkagaa.Mine Go.Proofs.YtbafihapjbkagaaW.PrintWords
open Go.ChangeMaps (open_string shut_string)
set_option linter.unusedVariables false
theorem own : ownKnob Try.prog.godebug = none := by kernel_rfl
theorem laidOut : laidOutB Try.prog = true := by kernel_rfl
instance : Inhabited PFnExactFlat.S68 := ⟨PFnExactFlat.z68⟩
theorem open36 (W : World) : Opens Try.prog W 36 (Kd.slice 68 PFnExactFlat.k68) (fun x : List PFnExactFlat.S68 => (x.length ≤ maxLen ∧ ∀ y1 ∈ x, ((Lit.int .i64 y1.f0).wf = true) ∧ (((Lit.int .i64 y1.f1.f0).wf = true) ∧ (((Lit.int .i64 y1.f1.f1).wf = true) ∧ (((Lit.int .i64 y1.f1.f2).wf = true) ∧ ((Lit.int .i64 y1.f1.f3).wf = true)))))) := (opens_slice 68 Try.underlying36 (by kernel_rfl) (opens_iso (fun x : PFnExactFlat.S68 => (x.f0, x.f1)) (fun y => ⟨y.1, y.2⟩) (fun _ => rfl) (wf' := fun x => ((Lit.int .i64 x.f0).wf = true) ∧ (((Lit.int .i64 x.f1.f0).wf = true) ∧ (((Lit.int .i64 x.f1.f1).wf = true) ∧ (((Lit.int .i64 x.f1.f2).wf = true) ∧ ((Lit.int .i64 x.f1.f3).wf = true))))) (fun _ h => h) (opens_struct Try.underlying68 (by kernel_rfl) (opens_cons rfl (by kernel_rfl) (opens_int Try.underlying2) (opens_one rfl (by kernel_rfl) (opens_iso (fun x : PFnExactFlat.S55 => (x.f0, x.f1, x.f2, x.f3)) (fun y => ⟨y.1, y.2.1, y.2.2.1, y.2.2.2⟩) (fun _ => rfl) (wf' := fun x => ((Lit.int .i64 x.f0).wf = true) ∧ (((Lit.int .i64 x.f1).wf = true) ∧ (((Lit.int .i64 x.f2).wf = true) ∧ ((Lit.int .i64 x.f3).wf = true)))) (fun _ h => h) (opens_struct Try.underlying55 (by kernel_rfl) (opens_cons rfl (by kernel_rfl) (opens_int Try.underlying2) (opens_cons rfl (by kernel_rfl) (opens_int Try.underlying2) (opens_cons rfl (by kernel_rfl) (opens_int Try.underlying2) (opens_one rfl (by kernel_rfl) (opens_int Try.underlying2))))))))))))
set_option maxRecDepth 100000 in
theorem lifted (os : Os) (started : os.Started) (H : Type) (enc : TypeId × Value → H) :
    ReturnsInHanded {} Try.checked os 5 .any (Rows.fnExactFlatSpec.pre6 enc Try.prog Try.f5 Rows.fnExactFlatRow.domain false) (Rows.fnExactFlatSpec.post enc Try.prog Try.f5 false true false false) := by
  refine returnsInHanded_of_change_sized (C := Try.checked) own started (by kernel_rfl) Try.func5
    (ChangeSpec.witness6 (enc := enc) (C := Try.checked) false ⟨#[], #[.slice none 0 0], []⟩ 8 (by kernel_rfl) (by kernel_rfl) (by kernel_rfl) (by kernel_rfl)) ?_
  intro W base args ds gs before hval0 hW hcnd hsz0 _
  have hsz : (DataW.weightsEach Try.prog (Try.f5.params.toList ++ Rows.fnExactFlatSpec.plain.varTypes Try.prog) (ds ++ gs)).all (· ≤ reachBytes) = true := hsz0
  have hval : ∀ (j : Nat) t v, Try.f5.params[j]? = some t → args[j]? = some v → Value.okWide Try.prog W .any base t v := hval0
  have hW' := hW
  obtain ⟨p, q, hA0, hV, rfl, hfz, hnd⟩ := hW
  have hA : DataW.TrodAll enc Try.prog W 0 (fun _ => true) true Try.f5.params.toList args.toList ds p := hA0
  rw [Try.params5] at hA hval hsz
  obtain ⟨v0, vs0, d0, ds0, p0, q0, hargs, rfl, rfl, h0, r0⟩ := trodAll_cons hA
  obtain ⟨rfl, rfl, rfl⟩ := trodAll_nil r0
  obtain rfl : args = #[v0] := by cases args; simp_all
  obtain ⟨rfl, rfl⟩ := trodVars_none hV
  have k0 := h0
  have lt0 : ∀ x ∈ p0, x.block < W.heap.size := by obtain ⟨m, hm⟩ := k0; exact DataW.trod_lt m _ _ _ hm
  obtain ⟨A0, len0, cap0, rfl⟩ := okWide_slice Try.underlying36 (hval 0 36 v0 rfl rfl)
  obtain ⟨l0, ⟨A0', cap0', e0, hl0, hc0⟩, w0⟩ : ∃ x, ((Kd.slice 68 PFnExactFlat.k68) : Kd (List PFnExactFlat.S68)).K W x (Value.slice A0 len0 cap0).cells.toList ∧ ((x.length ≤ maxLen ∧ ∀ y1 ∈ x, ((Lit.int .i64 y1.f0).wf = true) ∧ (((Lit.int .i64 y1.f1.f0).wf = true) ∧ (((Lit.int .i64 y1.f1.f1).wf = true) ∧ (((Lit.int .i64 y1.f1.f2).wf = true) ∧ ((Lit.int .i64 y1.f1.f3).wf = true)))))) := by
    obtain ⟨fuel, hf⟩ := h0
    exact open36 W _ _ _ _ _ hf
  obtain ⟨rfl, rfl, rfl⟩ : A0 = A0' ∧ len0 = l0.length ∧ cap0 = cap0' := by simpa [Value.cells] using e0
  clear hA0 hval0 hsz0 hsz
  obtain ⟨k, hk⟩ := Pure.FnExactFlat l0 w0
  refine (PFnExactFlat.laws_FnExactFlat.calls k _ _ l0 true W hc0 hl0 hk).mono fun e W' ⟨he, bel⟩ => ?_
  subst he
  exact ⟨_, rfl, _, _, _, [], _, [], hW', trodAll_mk1 (shut_bool Try.underlying4 _), (trodAll_cons_mk (Below.trod laidOut (by kernel_rfl) (of_decide_eq_true (by kernel_rfl)) k0 bel lt0) trodAll_mk0), rfl, bel.frame _, fun h => by cases h⟩
theorem over : Rows.fnExactFlatRow.holds Try.pinned (OpenSpec.ofChange Rows.fnExactFlatSpec) :=
  OpenClaim.holds_of_wide 5 Try.f5 rfl rfl rfl rfl rfl rfl rfl ⟨rfl, rfl, rfl, rfl, rfl⟩ rfl rfl rfl rfl rfl (by kernel_rfl) Try.func5 (by kernel_rfl)
    (of_decide_eq_true (by kernel_rfl)) (by unfold Func.isWrapper; first | (rw [if_pos (by decide +kernel)]; kernel_rfl) | (rw [if_neg (by decide +kernel)]; exact ⟨rfl, rfl⟩))
    (fun os started H enc _ => lifted os started H enc)
theorem proved : Rows.FnExactFlatSaid := over
end Go.Proofs.Ytbafihapjbkagaa.fnExactFlat
namespace Go.Proofs.Ytbafihapjbkagaa
/-- The row, under a short name, for the claim. -/
theorem fnExactFlat_holds : Rows.FnExactFlatSaid := fnExactFlat.proved
#print axioms fnExactFlat_holds
end Go.Proofs.Ytbafihapjbkagaa
