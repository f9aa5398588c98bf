/- The row of the law FnExactProduct: for every argument it answers true, and each argument reads behind the call as it did. No condition. -/
import Derived.Test.YtihmoiheiglohaaRows
import Derived.Test.YtihmoiheiglohaaPFnExactProductx2
import Derived.Test.YtihmoiheiglohaaPureFnExactProduct
import Derived.Test.YtihmoiheiglohaaMine
import Derived.WalkKit
import Derived.ProofKit
import Derived.OpenShut
import Derived.ShutString
import Derived.ChangeOld
import Derived.Below
import Derived.SizedLaws
import Derived.Carry
namespace Go.Proofs.Ytihmoiheiglohaa.fnExactProduct
open Go.ChangeShapes Go.WideShapes Go.ChangeAt Go.RowKit Go.Proofs.Ytihmoiheiglohaa.Mine Go.Proofs.YtihmoiheiglohaaW.PrintWords
open Go.ChangeMaps (open_string shut_string)
set_option linter.unusedVariables false
theorem own : ownKnob Try.prog.godebug = none := by kernel_rfl
theorem laidOut : laidOutB Try.prog = true := by kernel_rfl
theorem open24 (W : World) : Opens Try.prog W 24 (Kd.pair (kfloat .f64) (kfloat .f64)) (fun x : (Nat × Nat) => ((Lit.float .f64 x.1).wf = true) ∧ ((Lit.float .f64 x.2).wf = true)) := (opens_struct Try.underlying24 (by kernel_rfl) (opens_cons rfl (by kernel_rfl) (opens_float Try.underlying22) (opens_one rfl (by kernel_rfl) (opens_float Try.underlying22))))
set_option maxRecDepth 100000 in
theorem lifted (os : Os) (started : os.Started) (H : Type) (enc : TypeId × Value → H) :
    ReturnsInHanded {} Try.checked os 3 .any (Rows.fnExactProductSpec.pre6 enc Try.prog Try.f3 Rows.fnExactProductRow.domain false) (Rows.fnExactProductSpec.post enc Try.prog Try.f3 false true false false) := by
  refine returnsInHanded_of_change_sized (C := Try.checked) own started (by kernel_rfl) Try.func3
    (ChangeSpec.witness6 (enc := enc) (C := Try.checked) false ⟨#[], #[.agg #[.float .f64 0, .float .f64 0], .agg #[.float .f64 0, .float .f64 0]], []⟩ 8 (by kernel_rfl) (by kernel_rfl) (by kernel_rfl) (by kernel_rfl)) ?_
  intro W base args ds gs before hval0 hW hcnd hsz0 _
  have hsz : (DataW.weightsEach Try.prog (Try.f3.params.toList ++ Rows.fnExactProductSpec.plain.varTypes Try.prog) (ds ++ gs)).all (· ≤ reachBytes) = true := hsz0
  have hval : ∀ (j : Nat) t v, Try.f3.params[j]? = some t → args[j]? = some v → Value.okWide Try.prog W .any base t v := hval0
  have hW' := hW
  obtain ⟨p, q, hA0, hV, rfl, hfz, hnd⟩ := hW
  have hA : DataW.TrodAll enc Try.prog W 0 (fun _ => true) true Try.f3.params.toList args.toList ds p := hA0
  rw [Try.params3] at hA hval hsz
  obtain ⟨v0, vs0, d0, ds0, p0, q0, hargs, rfl, rfl, h0, r0⟩ := trodAll_cons hA
  obtain ⟨v1, vs1, d1, ds1, p1, q1, rfl, rfl, rfl, h1, r1⟩ := trodAll_cons r0
  obtain ⟨rfl, rfl, rfl⟩ := trodAll_nil r1
  obtain rfl : args = #[v0, v1] := by cases args; simp_all
  obtain ⟨rfl, rfl⟩ := trodVars_none hV
  have k0 := h0
  have lt0 : ∀ x ∈ p0, x.block < W.heap.size := by obtain ⟨m, hm⟩ := k0; exact DataW.trod_lt m _ _ _ hm
  obtain ⟨cs0, rfl, _⟩ := okWide_struct Try.underlying24 (hval 0 24 v0 rfl rfl)
  obtain ⟨⟨a0_0, a0_1⟩, K0, w0⟩ : ∃ x, ((Kd.pair (kfloat .f64) (kfloat .f64)) : Kd (Nat × Nat)).K W x cs0.toList ∧ (((Lit.float .f64 x.1).wf = true) ∧ ((Lit.float .f64 x.2).wf = true)) := by
    obtain ⟨fuel, hf⟩ := h0
    exact open24 W _ _ _ _ _ hf
  obtain ⟨_, _, e0, rfl, rfl⟩ := K0
  obtain rfl := Array.ext' (show cs0.toList = (#[.float .f64 a0_0, .float .f64 a0_1] : Array Value).toList from e0)
  have k1 := h1
  have lt1 : ∀ x ∈ p1, x.block < W.heap.size := by obtain ⟨m, hm⟩ := k1; exact DataW.trod_lt m _ _ _ hm
  obtain ⟨cs1, rfl, _⟩ := okWide_struct Try.underlying24 (hval 1 24 v1 rfl rfl)
  obtain ⟨⟨a1_0, a1_1⟩, K1, w1⟩ : ∃ x, ((Kd.pair (kfloat .f64) (kfloat .f64)) : Kd (Nat × Nat)).K W x cs1.toList ∧ (((Lit.float .f64 x.1).wf = true) ∧ ((Lit.float .f64 x.2).wf = true)) := by
    obtain ⟨fuel, hf⟩ := h1
    exact open24 W _ _ _ _ _ hf
  obtain ⟨_, _, e1, rfl, rfl⟩ := K1
  obtain rfl := Array.ext' (show cs1.toList = (#[.float .f64 a1_0, .float .f64 a1_1] : Array Value).toList from e1)
  clear hA0 hval0 hsz0 hsz
  have hk := Pure.FnExactProduct a0_0 a0_1 a1_0 a1_1 w0 w1
  refine (PFnExactProduct.laws_FnExactProduct.calls a0_0 a0_1 a1_0 a1_1 true W hk).mono fun e W' ⟨he, bel⟩ => ?_
  subst he
  exact ⟨_, rfl, _, _, _, [], _, [], hW', trodAll_mk1 (shut_bool Try.underlying4 _), (trodAll_cons_mk (Below.trod laidOut (by kernel_rfl) (of_decide_eq_true (by kernel_rfl)) k0 bel lt0) (trodAll_cons_mk (Below.trod laidOut (by kernel_rfl) (of_decide_eq_true (by kernel_rfl)) k1 bel lt1) trodAll_mk0)), rfl, bel.frame _, fun h => by cases h⟩
theorem over : Rows.fnExactProductRow.holds Try.pinned (OpenSpec.ofChange Rows.fnExactProductSpec) :=
  OpenClaim.holds_of_wide 3 Try.f3 rfl rfl rfl rfl rfl rfl rfl ⟨rfl, rfl, rfl, rfl, rfl⟩ rfl rfl rfl rfl rfl (by kernel_rfl) Try.func3 (by kernel_rfl)
    (of_decide_eq_true (by kernel_rfl)) (by unfold Func.isWrapper; first | (rw [if_pos (by decide +kernel)]; kernel_rfl) | (rw [if_neg (by decide +kernel)]; exact ⟨rfl, rfl⟩))
    (fun os started H enc _ => lifted os started H enc)
theorem proved : Rows.FnExactProductSaid := over
end Go.Proofs.Ytihmoiheiglohaa.fnExactProduct
namespace Go.Proofs.Ytihmoiheiglohaa
/-- The row, under a short name, for the claim. -/
theorem fnExactProduct_holds : Rows.FnExactProductSaid := fnExactProduct.proved
#print axioms fnExactProduct_holds
end Go.Proofs.Ytihmoiheiglohaa
