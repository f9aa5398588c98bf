/- The row of the law FnExactMerge: for every argument it answers true, and each argument reads behind the call as it did. No condition. -/
import Derived.Test.YtbafihapjbkagaaRows
import Derived.Test.YtbafihapjbkagaaPFnExactMergex8
import Derived.Test.YtbafihapjbkagaaPureFnExactMerge
import Derived.Test.YtbafihapjbkagaaVFnExactMergeMine
import Derived.WalkKit
import Derived.ProofKit
import Derived.OpenShut
import Derived.ShutString
import Derived.ChangeOld
import Derived.Below
import Derived.SizedLaws
import Derived.Carry
namespace Go.Proofs.Ytbafihapjbkagaa.fnExactMerge
open Go.ChangeShapes Go.WideShapes Go.ChangeAt Go.RowKit Go.Proofs.Ytbafihapjbkagaa.Mine Go.Proofs.YtbafihapjbkagaaW.PrintWords
open Go.ChangeMaps (open_string shut_string)
set_option linter.unusedVariables false
theorem own : ownKnob Try.prog.godebug = none := by kernel_rfl
theorem laidOut : laidOutB Try.prog = true := by kernel_rfl
instance : Inhabited PFnExactMerge.S68 := ⟨PFnExactMerge.z68⟩
theorem open36 (W : World) : Opens Try.prog W 36 (Kd.slice 68 PFnExactMerge.k68) (fun x : List PFnExactMerge.S68 => (x.length ≤ maxLen ∧ ∀ y1 ∈ x, ((Lit.int .i64 y1.f0).wf = true) ∧ (((Lit.int .i64 y1.f1.f0).wf = true) ∧ (((Lit.int .i64 y1.f1.f1).wf = true) ∧ (((Lit.int .i64 y1.f1.f2).wf = true) ∧ ((Lit.int .i64 y1.f1.f3).wf = true)))))) := (opens_slice 68 Try.underlying36 (by kernel_rfl) (opens_iso (fun x : PFnExactMerge.S68 => (x.f0, x.f1)) (fun y => ⟨y.1, y.2⟩) (fun _ => rfl) (wf' := fun x => ((Lit.int .i64 x.f0).wf = true) ∧ (((Lit.int .i64 x.f1.f0).wf = true) ∧ (((Lit.int .i64 x.f1.f1).wf = true) ∧ (((Lit.int .i64 x.f1.f2).wf = true) ∧ ((Lit.int .i64 x.f1.f3).wf = true))))) (fun _ h => h) (opens_struct Try.underlying68 (by kernel_rfl) (opens_cons rfl (by kernel_rfl) (opens_int Try.underlying2) (opens_one rfl (by kernel_rfl) (opens_iso (fun x : PFnExactMerge.S55 => (x.f0, x.f1, x.f2, x.f3)) (fun y => ⟨y.1, y.2.1, y.2.2.1, y.2.2.2⟩) (fun _ => rfl) (wf' := fun x => ((Lit.int .i64 x.f0).wf = true) ∧ (((Lit.int .i64 x.f1).wf = true) ∧ (((Lit.int .i64 x.f2).wf = true) ∧ ((Lit.int .i64 x.f3).wf = true)))) (fun _ h => h) (opens_struct Try.underlying55 (by kernel_rfl) (opens_cons rfl (by kernel_rfl) (opens_int Try.underlying2) (opens_cons rfl (by kernel_rfl) (opens_int Try.underlying2) (opens_cons rfl (by kernel_rfl) (opens_int Try.underlying2) (opens_one rfl (by kernel_rfl) (opens_int Try.underlying2))))))))))))
set_option maxRecDepth 100000 in
theorem lifted (os : Os) (started : os.Started) (H : Type) (enc : TypeId × Value → H) :
    ReturnsInHanded {} Try.checked os 6 .any (Rows.fnExactMergeSpec.pre6 enc Try.prog Try.f6 Rows.fnExactMergeRow.domain false) (Rows.fnExactMergeSpec.post enc Try.prog Try.f6 false true false false) := by
  refine returnsInHanded_of_change_sized (C := Try.checked) own started (by kernel_rfl) Try.func6
    (ChangeSpec.witness6 (enc := enc) (C := Try.checked) false ⟨#[], #[.slice none 0 0, .slice none 0 0], []⟩ 8 (by kernel_rfl) (by kernel_rfl) (by kernel_rfl) (by kernel_rfl)) ?_
  intro W base args ds gs before hval0 hW hcnd hsz0 _
  have hsz : (DataW.weightsEach Try.prog (Try.f6.params.toList ++ Rows.fnExactMergeSpec.plain.varTypes Try.prog) (ds ++ gs)).all (· ≤ reachBytes) = true := hsz0
  have hval : ∀ (j : Nat) t v, Try.f6.params[j]? = some t → args[j]? = some v → Value.okWide Try.prog W .any base t v := hval0
  have hW' := hW
  obtain ⟨p, q, hA0, hV, rfl, hfz, hnd⟩ := hW
  have hA : DataW.TrodAll enc Try.prog W 0 (fun _ => true) true Try.f6.params.toList args.toList ds p := hA0
  rw [Try.params6] at hA hval hsz
  obtain ⟨v0, vs0, d0, ds0, p0, q0, hargs, rfl, rfl, h0, r0⟩ := trodAll_cons hA
  obtain ⟨v1, vs1, d1, ds1, p1, q1, rfl, rfl, rfl, h1, r1⟩ := trodAll_cons r0
  obtain ⟨rfl, rfl, rfl⟩ := trodAll_nil r1
  obtain rfl : args = #[v0, v1] := by cases args; simp_all
  obtain ⟨rfl, rfl⟩ := trodVars_none hV
  have k0 := h0
  have lt0 : ∀ x ∈ p0, x.block < W.heap.size := by obtain ⟨m, hm⟩ := k0; exact DataW.trod_lt m _ _ _ hm
  obtain ⟨A0, len0, cap0, rfl⟩ := okWide_slice Try.underlying36 (hval 0 36 v0 rfl rfl)
  obtain ⟨l0, ⟨A0', cap0', e0, hl0, hc0⟩, w0⟩ : ∃ x, ((Kd.slice 68 PFnExactMerge.k68) : Kd (List PFnExactMerge.S68)).K W x (Value.slice A0 len0 cap0).cells.toList ∧ ((x.length ≤ maxLen ∧ ∀ y1 ∈ x, ((Lit.int .i64 y1.f0).wf = true) ∧ (((Lit.int .i64 y1.f1.f0).wf = true) ∧ (((Lit.int .i64 y1.f1.f1).wf = true) ∧ (((Lit.int .i64 y1.f1.f2).wf = true) ∧ ((Lit.int .i64 y1.f1.f3).wf = true)))))) := by
    obtain ⟨fuel, hf⟩ := h0
    exact open36 W _ _ _ _ _ hf
  obtain ⟨rfl, rfl, rfl⟩ : A0 = A0' ∧ len0 = l0.length ∧ cap0 = cap0' := by simpa [Value.cells] using e0
  have k1 := h1
  have lt1 : ∀ x ∈ p1, x.block < W.heap.size := by obtain ⟨m, hm⟩ := k1; exact DataW.trod_lt m _ _ _ hm
  obtain ⟨A1, len1, cap1, rfl⟩ := okWide_slice Try.underlying36 (hval 1 36 v1 rfl rfl)
  obtain ⟨l1, ⟨A1', cap1', e1, hl1, hc1⟩, w1⟩ : ∃ x, ((Kd.slice 68 PFnExactMerge.k68) : Kd (List PFnExactMerge.S68)).K W x (Value.slice A1 len1 cap1).cells.toList ∧ ((x.length ≤ maxLen ∧ ∀ y1 ∈ x, ((Lit.int .i64 y1.f0).wf = true) ∧ (((Lit.int .i64 y1.f1.f0).wf = true) ∧ (((Lit.int .i64 y1.f1.f1).wf = true) ∧ (((Lit.int .i64 y1.f1.f2).wf = true) ∧ ((Lit.int .i64 y1.f1.f3).wf = true)))))) := by
    obtain ⟨fuel, hf⟩ := h1
    exact open36 W _ _ _ _ _ hf
  obtain ⟨rfl, rfl, rfl⟩ : A1 = A1' ∧ len1 = l1.length ∧ cap1 = cap1' := by simpa [Value.cells] using e1
  clear hA0 hval0 hsz0 hsz
  obtain ⟨k, hk⟩ := Pure.FnExactMerge l0 l1 w0 w1
  refine (PFnExactMerge.laws_FnExactMerge.calls k _ _ l0 _ _ l1 true W hc0 hl0 hc1 hl1 hk).mono fun e W' ⟨he, bel⟩ => ?_
  subst he
  exact ⟨_, rfl, _, _, _, [], _, [], hW', trodAll_mk1 (shut_bool Try.underlying4 _), (trodAll_cons_mk (Below.trod laidOut (by kernel_rfl) (of_decide_eq_true (by kernel_rfl)) k0 bel lt0) (trodAll_cons_mk (Below.trod laidOut (by kernel_rfl) (of_decide_eq_true (by kernel_rfl)) k1 bel lt1) trodAll_mk0)), rfl, bel.frame _, fun h => by cases h⟩
theorem over : Rows.fnExactMergeRow.holds Try.pinned (OpenSpec.ofChange Rows.fnExactMergeSpec) :=
  OpenClaim.holds_of_wide 6 Try.f6 rfl rfl rfl rfl rfl rfl rfl ⟨rfl, rfl, rfl, rfl, rfl⟩ rfl rfl rfl rfl rfl (by kernel_rfl) Try.func6 (by kernel_rfl)
    (of_decide_eq_true (by kernel_rfl)) (by unfold Func.isWrapper; first | (rw [if_pos (by decide +kernel)]; kernel_rfl) | (rw [if_neg (by decide +kernel)]; exact ⟨rfl, rfl⟩))
    (fun os started H enc _ => lifted os started H enc)
theorem proved : Rows.FnExactMergeSaid := over
end Go.Proofs.Ytbafihapjbkagaa.fnExactMerge
namespace Go.Proofs.Ytbafihapjbkagaa
/-- The row, under a short name, for the claim. -/
theorem fnExactMerge_holds : Rows.FnExactMergeSaid := fnExactMerge.proved
#print axioms fnExactMerge_holds
end Go.Proofs.Ytbafihapjbkagaa
