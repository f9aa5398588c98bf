/- Proved: the plain law behind FnExactPlain. No condition. -/
import Derived.Test.YtipmhlajjdnhoaaPFnExactPlainx2
namespace Go.Proofs.Ytipmhlajjdnhoaa.Pure
open Go.RowKit Go.Proofs.Ytipmhlajjdnhoaa.PFnExactPlain Go.Proofs.YtipmhlajjdnhoaaW.PrintWords Go.Proofs.YtipmhlajjdnhoaaW.PrintLast

set_option linter.unusedVariables false
set_option linter.unusedSimpArgs false
theorem in_eq (a b c : Int) : spec_l1In.f a b c = impl_in.f a b c := rfl

theorem in_some (a b c : Int) : impl_in.f a b c = some (decide (b ≤ a ∧ a ≤ c)) := by
  unfold impl_in.f
  by_cases h : b ≤ a
  · simp [h]
  · simp [h]


/-- A pixel that is right. -/
def Px (r g b a : Int) : Prop := 0 ≤ a ∧ a ≤ 255 ∧ 0 ≤ r ∧ r ≤ a ∧ 0 ≤ g ∧ g ≤ a ∧ 0 ≤ b ∧ b ≤ a
instance (r g b a : Int) : Decidable (Px r g b a) := by unfold Px; exact inferInstance

theorem px_some (r g b a : Int) : impl_PxOk.f r g b a = some (decide (Px r g b a)) := by
  unfold impl_PxOk.f impl_isByte.f Px
  simp only [in_some, Option.bind_some, decide_eq_true_eq]
  by_cases h1 : 0 ≤ a ∧ a ≤ 255 <;> by_cases h2 : 0 ≤ r ∧ r ≤ a <;> by_cases h3 : 0 ≤ g ∧ g ≤ a <;> by_cases h4 : 0 ≤ b ∧ b ≤ a <;> simp [h1, h2, h3, h4] <;> omega

theorem spx_some (r g b a : Int) : spec_PxOk.f r g b a = some (decide (Px r g b a)) := by
  have h : spec_PxOk.f r g b a = impl_PxOk.f r g b a := rfl
  rw [h, px_some]

theorem down_some (a b : Int) (hb : b ≠ 0) : ∃ v, impl_down.f a b = some v := by
  unfold impl_down.f
  rw [if_neg hb]
  split
  · exact ⟨_, rfl⟩
  · exact ⟨_, rfl⟩

theorem near_ex (a b : Int) (hb : wrap64 (2 * b) ≠ 0) : ∃ v, impl_near.f a b = some v := by
  unfold impl_near.f
  obtain ⟨v, hv⟩ := down_some (wrap64 (wrap64 (2 * a) + b)) (wrap64 (2 * b)) hb
  exact ⟨v, by rw [hv]; rfl⟩

theorem FnExactPlain (a0_0 : Int) (a0_1 : Int) (a0_2 : Int) (a0_3 : Int) (w0 : ((Lit.int .i64 a0_0).wf = true) ∧ (((Lit.int .i64 a0_1).wf = true) ∧ (((Lit.int .i64 a0_2).wf = true) ∧ ((Lit.int .i64 a0_3).wf = true)))) : ∃ k, PFnExactPlain.laws_FnExactPlain.f k a0_0 a0_1 a0_2 a0_3 = some true := by
  refine ⟨1, ?_⟩
  unfold laws_FnExactPlain.f laws_toPx.f
  simp only [Option.bind_some]
  unfold spec_Plain.f spec_Plain.j0 impl_Plain.f
  simp only [px_some, spx_some, Option.bind_some, decide_eq_true_eq]
  have hr : ∀ a b : Int, spec_l9Round.f a b = impl_near.f a b := fun a b => rfl
  by_cases ha : Px a0_0 a0_1 a0_2 a0_3
  · by_cases h : a0_3 = 0
    · simp [ha, h, laws_eqPx.f]
    · have hd : wrap64 (2 * a0_3) ≠ 0 := by
        obtain ⟨h1, h2, _⟩ := ha
        unfold wrap64
        omega
      obtain ⟨v0, h0⟩ := near_ex (wrap64 (255 * a0_0)) a0_3 hd
      obtain ⟨v1, h1⟩ := near_ex (wrap64 (255 * a0_1)) a0_3 hd
      obtain ⟨v2, h2⟩ := near_ex (wrap64 (255 * a0_2)) a0_3 hd
      obtain ⟨v3, h3⟩ := near_ex (wrap64 (255 * a0_3)) a0_3 hd
      simp [ha, h, hr, h0, h1, h2, h3, impl_ofEach.f, GA.f, impl_Plain_1.g, laws_eqPx.f]
  · simp [ha, laws_eqPx.f]

end Go.Proofs.Ytipmhlajjdnhoaa.Pure
