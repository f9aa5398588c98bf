/- Proved: the plain law behind FnExactAdded. No condition. -/
import Derived.Test.YtipmhlajjdnhoaaPFnExactAddedx3
namespace Go.Proofs.Ytipmhlajjdnhoaa.Pure
open Go.RowKit Go.Proofs.Ytipmhlajjdnhoaa.PFnExactAdded Go.Proofs.YtipmhlajjdnhoaaW.PrintWords Go.Proofs.YtipmhlajjdnhoaaW.PrintLast

set_option linter.unusedVariables false
set_option linter.unusedSimpArgs false
theorem in_eq (a b c : Int) : spec_l1In.f a b c = impl_in.f a b c := rfl

theorem in_some (a b c : Int) : impl_in.f a b c = some (decide (b ≤ a ∧ a ≤ c)) := by
  unfold impl_in.f
  by_cases h : b ≤ a
  · simp [h]
  · simp [h]


/-- A pixel that is right. -/
def Px (r g b a : Int) : Prop := 0 ≤ a ∧ a ≤ 255 ∧ 0 ≤ r ∧ r ≤ a ∧ 0 ≤ g ∧ g ≤ a ∧ 0 ≤ b ∧ b ≤ a
instance (r g b a : Int) : Decidable (Px r g b a) := by unfold Px; exact inferInstance

theorem px_some (r g b a : Int) : impl_PxOk.f r g b a = some (decide (Px r g b a)) := by
  unfold impl_PxOk.f impl_isByte.f Px
  simp only [in_some, Option.bind_some, decide_eq_true_eq]
  by_cases h1 : 0 ≤ a ∧ a ≤ 255 <;> by_cases h2 : 0 ≤ r ∧ r ≤ a <;> by_cases h3 : 0 ≤ g ∧ g ≤ a <;> by_cases h4 : 0 ≤ b ∧ b ≤ a <;> simp [h1, h2, h3, h4] <;> omega

theorem spx_some (r g b a : Int) : spec_PxOk.f r g b a = some (decide (Px r g b a)) := by
  have h : spec_PxOk.f r g b a = impl_PxOk.f r g b a := rfl
  rw [h, px_some]

theorem FnExactAdded (a0_0 : Int) (a0_1 : Int) (a0_2 : Int) (a0_3 : Int) (a1_0 : Int) (a1_1 : Int) (a1_2 : Int) (a1_3 : Int) (w0 : ((Lit.int .i64 a0_0).wf = true) ∧ (((Lit.int .i64 a0_1).wf = true) ∧ (((Lit.int .i64 a0_2).wf = true) ∧ ((Lit.int .i64 a0_3).wf = true)))) (w1 : ((Lit.int .i64 a1_0).wf = true) ∧ (((Lit.int .i64 a1_1).wf = true) ∧ (((Lit.int .i64 a1_2).wf = true) ∧ ((Lit.int .i64 a1_3).wf = true)))) : ∃ k, PFnExactAdded.laws_FnExactAdded.f k a0_0 a0_1 a0_2 a0_3 a1_0 a1_1 a1_2 a1_3 = some true := by
  refine ⟨1, ?_⟩
  unfold laws_FnExactAdded.f laws_toPx.f
  simp only [Option.bind_some]
  unfold spec_Added.f spec_Added.j0 impl_Added.f impl_ofRight.f
  simp only [px_some, spx_some, Option.bind_some, decide_eq_true_eq]
  have hm : ∀ x : Int, spec_l1Min.f 255 x = some (mn 255 x) := by
    intro x
    unfold spec_l1Min.f mn
    by_cases h : (255 : Int) < x
    · rw [if_pos h, if_neg (by omega)]
    · rw [if_neg h]
      by_cases h2 : x < 255
      · rw [if_pos h2]
      · rw [if_neg h2, show x = 255 by omega]
  by_cases ha : Px a0_0 a0_1 a0_2 a0_3
  · by_cases hb : Px a1_0 a1_1 a1_2 a1_3
    · simp [ha, hb, hm, impl_ofEach.f, GA.f, fv38, impl_Added_1.f, laws_eqPx.f]
    · simp [ha, hb, laws_eqPx.f]
  · simp [ha, laws_eqPx.f]

end Go.Proofs.Ytipmhlajjdnhoaa.Pure
