/- Proved: the plain law behind FnExactPremul. No condition. -/
import Derived.Test.YtipmhlajjdnhoaaPFnExactPremulx2
namespace Go.Proofs.Ytipmhlajjdnhoaa.Pure
open Go.RowKit Go.Proofs.Ytipmhlajjdnhoaa.PFnExactPremul Go.Proofs.YtipmhlajjdnhoaaW.PrintWords Go.Proofs.YtipmhlajjdnhoaaW.PrintLast

set_option linter.unusedVariables false
set_option linter.unusedSimpArgs false
theorem in_eq (a b c : Int) : spec_l1In.f a b c = impl_in.f a b c := rfl

theorem in_some (a b c : Int) : impl_in.f a b c = some (decide (b ≤ a ∧ a ≤ c)) := by
  unfold impl_in.f
  by_cases h : b ≤ a
  · simp [h]
  · simp [h]


theorem down_some (a b : Int) (hb : b ≠ 0) : ∃ v, impl_down.f a b = some v := by
  unfold impl_down.f
  rw [if_neg hb]
  split
  · exact ⟨_, rfl⟩
  · exact ⟨_, rfl⟩

theorem near_ex (a b : Int) (hb : wrap64 (2 * b) ≠ 0) : ∃ v, impl_near.f a b = some v := by
  unfold impl_near.f
  obtain ⟨v, hv⟩ := down_some (wrap64 (wrap64 (2 * a) + b)) (wrap64 (2 * b)) hb
  exact ⟨v, by rw [hv]; rfl⟩

theorem share_ex (a b : Int) : ∃ v, impl_share.f a b = some v := by
  unfold impl_share.f
  obtain ⟨v, hv⟩ := near_ex (wrap64 (a * b)) 255 (by unfold wrap64; omega)
  exact ⟨v, by rw [hv]; rfl⟩

theorem part_eq (a b : Int) : spec_l11Part.f a b = impl_share.f a b := rfl

theorem FnExactPremul (a0_0 : Int) (a0_1 : Int) (a0_2 : Int) (a0_3 : Int) (w0 : ((Lit.int .i64 a0_0).wf = true) ∧ (((Lit.int .i64 a0_1).wf = true) ∧ (((Lit.int .i64 a0_2).wf = true) ∧ ((Lit.int .i64 a0_3).wf = true)))) : ∃ k, PFnExactPremul.laws_FnExactPremul.f k a0_0 a0_1 a0_2 a0_3 = some true := by
  refine ⟨1, ?_⟩
  unfold laws_FnExactPremul.f laws_toPx.f
  simp only [Option.bind_some]
  unfold spec_Premul.f spec_Premul.j0 impl_Premul.f impl_isByte.f spec_l11Byte.f
  simp only [in_eq, in_some, Option.bind_some, decide_eq_true_eq]
  obtain ⟨v0, h0⟩ := share_ex a0_0 a0_3
  obtain ⟨v1, h1⟩ := share_ex a0_1 a0_3
  obtain ⟨v2, h2⟩ := share_ex a0_2 a0_3
  obtain ⟨v3, h3⟩ := share_ex a0_3 a0_3
  by_cases c0 : 0 ≤ a0_0 ∧ a0_0 ≤ 255 <;> by_cases c1 : 0 ≤ a0_1 ∧ a0_1 ≤ 255 <;> by_cases c2 : 0 ≤ a0_2 ∧ a0_2 ≤ 255 <;> by_cases c3 : 0 ≤ a0_3 ∧ a0_3 ≤ 255 <;>
    simp [c0, c1, c2, c3, impl_ofEach.f, GA.f, impl_Premul_1.g, part_eq, h0, h1, h2, h3, laws_eqPx.f]

end Go.Proofs.Ytipmhlajjdnhoaa.Pure
