/- Proved: the plain law behind FnExactFrameIn. No condition. -/
import Derived.Test.YtnnajajfleinnaaPFnExactFrameInx2
namespace Go.Proofs.Ytnnajajfleinnaa.Pure
open Go.RowKit Go.Proofs.Ytnnajajfleinnaa.PFnExactFrameIn Go.Proofs.YtnnajajfleinnaaW.PrintWords Go.Proofs.YtnnajajfleinnaaW.PrintLast

set_option linter.unusedVariables false
theorem l0_eq : ∀ (k : Nat) (x y : Int), spec_l1Gcd.l0 k x y = impl_gcd.l0 k x y
  | 0, _, _ => rfl
  | k + 1, x, y => by
    simp only [spec_l1Gcd.l0, impl_gcd.l0]
    rw [l0_eq k]

theorem l0_some : ∀ (k : Nat) (x y : Int), 0 ≤ x → 0 ≤ y → y < k → ∃ r, impl_gcd.l0 k x y = some r
  | 0, _, _, _, h, h2 => by omega
  | k + 1, x, y, hx, hy, hk => by
    simp only [impl_gcd.l0]
    by_cases c : y = 0
    · exact ⟨x, by rw [if_pos c]⟩
    · rw [if_neg c]
      have h1 := Int.tmod_lt_of_pos x (show 0 < y by omega)
      have h0 := Int.tmod_nonneg y hx
      exact l0_some k y _ hy h0 (by omega)

theorem gcd_eq (k : Nat) (x y : Int) (hx : 0 ≤ x) (hy : 0 ≤ y) : spec_l1Gcd.f k x y = impl_gcd.f k x y := by
  unfold spec_l1Gcd.f impl_gcd.f spec_l1Abs.f
  rw [if_neg (by omega), if_neg (by omega)]
  simp only [Option.bind_some]
  exact l0_eq k x y

theorem in_eq (a b c : Int) : spec_l1In.f a b c = impl_in.f a b c := rfl

theorem in_some (a b c : Int) : impl_in.f a b c = some (decide (b ≤ a ∧ a ≤ c)) := by
  unfold impl_in.f
  by_cases h : b ≤ a
  · simp [h]
  · simp [h]

theorem rate_eq (k : Nat) (a b : Int) (c : Bool) : spec_RateOk.f k a b c = impl_RateOk.f k a b c := by
  unfold spec_RateOk.f impl_RateOk.f
  simp only [in_eq, in_some, Option.bind_some, decide_eq_true_eq]
  by_cases h1 : 1 ≤ a ∧ a ≤ 240000
  · rw [if_pos h1, if_pos h1]
    by_cases h2 : 1 ≤ b ∧ b ≤ 1001
    · rw [if_pos h2, if_pos h2, gcd_eq k a b (by omega) (by omega)]
    · rw [if_neg h2, if_neg h2]
  · rw [if_neg h1, if_neg h1]

/-- What a rate that is right is. -/
theorem rate_some (a b : Int) (c : Bool) : ∃ r, impl_RateOk.f 1002 a b c = some r ∧ (r = true → 1 ≤ a ∧ a ≤ 240000 ∧ 1 ≤ b ∧ b ≤ 1001 ∧ a ≤ 120 * b) := by
  unfold impl_RateOk.f
  simp only [in_some, Option.bind_some, decide_eq_true_eq]
  by_cases h1 : 1 ≤ a ∧ a ≤ 240000
  · rw [if_pos h1]
    by_cases h2 : 1 ≤ b ∧ b ≤ 1001
    · rw [if_pos h2]
      obtain ⟨g, hg⟩ := l0_some 1002 a b (by omega) (by omega) (by omega)
      unfold impl_gcd.f
      rw [hg]
      simp only [Option.bind_some]
      by_cases h3 : g = 1
      · rw [if_pos h3]
        have hw : wrap64 (120 * b) = 120 * b := by unfold wrap64; omega
        rw [hw]
        by_cases h4 : a > 120 * b
        · exact ⟨false, by rw [if_pos h4], by simp⟩
        · rw [if_neg h4]
          split
          · split
            · split
              · exact ⟨true, rfl, fun _ => by omega⟩
              · exact ⟨_, rfl, fun _ => by omega⟩
            · exact ⟨false, rfl, by simp⟩
          · exact ⟨true, rfl, fun _ => by omega⟩
      · exact ⟨false, by rw [if_neg h3], by simp⟩
    · exact ⟨false, by rw [if_neg h2], by simp⟩
  · exact ⟨false, by rw [if_neg h1], by simp⟩

theorem FnExactFrameIn (a0_0 : Int) (a0_1 : Int) (a0_2 : Bool) (a1_0 : Int) (a1_1 : Int) (a1_2 : Bool) (a2 : Int) (w0 : ((Lit.int .i64 a0_0).wf = true) ∧ (((Lit.int .i64 a0_1).wf = true) ∧ (True))) (w1 : ((Lit.int .i64 a1_0).wf = true) ∧ (((Lit.int .i64 a1_1).wf = true) ∧ (True))) (w2 : (Lit.int .i64 a2).wf = true) : ∃ k, PFnExactFrameIn.laws_FnExactFrameIn.f k a0_0 a0_1 a0_2 a1_0 a1_1 a1_2 a2 = some true := by
  obtain ⟨r, hr, hb⟩ := rate_some a0_0 a0_1 a0_2
  obtain ⟨s, hs, hc⟩ := rate_some a1_0 a1_1 a1_2
  refine ⟨1002, ?_⟩
  unfold laws_FnExactFrameIn.f laws_toRate.f spec_FrameIn.f impl_FrameIn.f
  simp only [Option.bind_some]
  rw [rate_eq, rate_eq, hr, hs]
  unfold spec_l1Frame.f impl_isFrame.f
  simp only [Option.bind_some, in_eq, in_some]
  unfold spec_FrameIn.j0 impl_FrameIn.j0
  unfold spec_l1Frame.f impl_isFrame.f
  simp only [Option.bind_some, in_eq, in_some]
  cases r with
  | false => simp
  | true =>
    cases s with
    | false => simp
    | true =>
      have hb := hb rfl
      have hc := hc rfl
      have h0 : ¬ wrap64 (a0_0 * a1_1) = 0 := by
        have h1 : 1 * 1 ≤ a0_0 * a1_1 := Int.mul_le_mul hb.1 hc.2.2.1 (by omega) (by omega)
        have h2 : a0_0 * a1_1 ≤ 240000 * 1001 := Int.mul_le_mul hb.2.1 hc.2.2.2.1 (by omega) (by omega)
        unfold wrap64
        omega
      generalize hx : wrap64 ((wrap64 (wrap64 (a2 * a0_1) * a1_0)).tdiv (wrap64 (a0_0 * a1_1))) = x
      by_cases g : 0 ≤ a2 ∧ a2 ≤ 10000000 <;> by_cases g2 : 0 ≤ x ∧ x ≤ 10000000 <;> simp [h0, g, g2]

end Go.Proofs.Ytnnajajfleinnaa.Pure
