/- Proved: the plain law behind FnExactInside. No condition. -/
import Derived.Test.YtipmhlajjdnhoaaPFnExactInsidex3
namespace Go.Proofs.Ytipmhlajjdnhoaa.Pure
open Go.RowKit Go.Proofs.Ytipmhlajjdnhoaa.PFnExactInside Go.Proofs.YtipmhlajjdnhoaaW.PrintWords Go.Proofs.YtipmhlajjdnhoaaW.PrintLast

set_option linter.unusedVariables false
set_option linter.unusedSimpArgs false
theorem in_eq (a b c : Int) : spec_l1In.f a b c = impl_in.f a b c := rfl

theorem in_some (a b c : Int) : impl_in.f a b c = some (decide (b ≤ a ∧ a ≤ c)) := by
  unfold impl_in.f
  by_cases h : b ≤ a
  · simp [h]
  · simp [h]


/-- A pixel that is right. -/
def Px (r g b a : Int) : Prop := 0 ≤ a ∧ a ≤ 255 ∧ 0 ≤ r ∧ r ≤ a ∧ 0 ≤ g ∧ g ≤ a ∧ 0 ≤ b ∧ b ≤ a
instance (r g b a : Int) : Decidable (Px r g b a) := by unfold Px; exact inferInstance

theorem px_some (r g b a : Int) : impl_PxOk.f r g b a = some (decide (Px r g b a)) := by
  unfold impl_PxOk.f impl_isByte.f Px
  simp only [in_some, Option.bind_some, decide_eq_true_eq]
  by_cases h1 : 0 ≤ a ∧ a ≤ 255 <;> by_cases h2 : 0 ≤ r ∧ r ≤ a <;> by_cases h3 : 0 ≤ g ∧ g ≤ a <;> by_cases h4 : 0 ≤ b ∧ b ≤ a <;> simp [h1, h2, h3, h4] <;> omega

theorem spx_some (r g b a : Int) : spec_PxOk.f r g b a = some (decide (Px r g b a)) := by
  have h : spec_PxOk.f r g b a = impl_PxOk.f r g b a := rfl
  rw [h, px_some]

theorem down_some (a b : Int) (hb : b ≠ 0) : ∃ v, impl_down.f a b = some v := by
  unfold impl_down.f
  rw [if_neg hb]
  split
  · exact ⟨_, rfl⟩
  · exact ⟨_, rfl⟩

theorem near_ex (a b : Int) (hb : wrap64 (2 * b) ≠ 0) : ∃ v, impl_near.f a b = some v := by
  unfold impl_near.f
  obtain ⟨v, hv⟩ := down_some (wrap64 (wrap64 (2 * a) + b)) (wrap64 (2 * b)) hb
  exact ⟨v, by rw [hv]; rfl⟩

theorem share_ex (a b : Int) : ∃ v, impl_share.f a b = some v := by
  unfold impl_share.f
  obtain ⟨v, hv⟩ := near_ex (wrap64 (a * b)) 255 (by unfold wrap64; omega)
  exact ⟨v, by rw [hv]; rfl⟩

theorem part_eq (a b : Int) : spec_l11Part.f a b = impl_share.f a b := rfl

theorem FnExactInside (a0_0 : Int) (a0_1 : Int) (a0_2 : Int) (a0_3 : Int) (a1_0 : Int) (a1_1 : Int) (a1_2 : Int) (a1_3 : Int) (w0 : ((Lit.int .i64 a0_0).wf = true) ∧ (((Lit.int .i64 a0_1).wf = true) ∧ (((Lit.int .i64 a0_2).wf = true) ∧ ((Lit.int .i64 a0_3).wf = true)))) (w1 : ((Lit.int .i64 a1_0).wf = true) ∧ (((Lit.int .i64 a1_1).wf = true) ∧ (((Lit.int .i64 a1_2).wf = true) ∧ ((Lit.int .i64 a1_3).wf = true)))) : PFnExactInside.laws_FnExactInside.f a0_0 a0_1 a0_2 a0_3 a1_0 a1_1 a1_2 a1_3 = some true := by
  unfold laws_FnExactInside.f laws_toPx.f
  simp only [Option.bind_some]
  unfold spec_Inside.f impl_Inside.f impl_ofRight.f
  simp only [px_some, spx_some, Option.bind_some, decide_eq_true_eq]
  by_cases ha : Px a0_0 a0_1 a0_2 a0_3
  · by_cases hb : Px a1_0 a1_1 a1_2 a1_3
    · simp only [if_pos ha, if_pos hb]
      obtain ⟨v0, h0⟩ := share_ex a0_0 a1_3
      obtain ⟨v1, h1⟩ := share_ex a0_1 a1_3
      obtain ⟨v2, h2⟩ := share_ex a0_2 a1_3
      obtain ⟨v3, h3⟩ := share_ex a0_3 a1_3
      simp [spec_l11Scale.f, impl_ofEach.f, GA.f, impl_Inside_1.g, part_eq, h0, h1, h2, h3, laws_eqPx.f]
    · simp [ha, hb, laws_eqPx.f]
  · simp [ha, laws_eqPx.f]

end Go.Proofs.Ytipmhlajjdnhoaa.Pure
