/- Proved: the plain law behind FnRates: whatever the draw, it answers true. No condition. -/
import Derived.Test.YtnnajajfleinnaaPFnRatesx6
namespace Go.Proofs.Ytnnajajfleinnaa.Pure
open Go.RowKit Go.Proofs.Ytnnajajfleinnaa.PFnRates Go.Proofs.YtnnajajfleinnaaW.PrintWords Go.Proofs.YtnnajajfleinnaaW.PrintLast

set_option linter.unusedVariables false
set_option linter.unusedSimpArgs false

theorem l0_eq : ∀ (k : Nat) (x y : Int), spec_l1Gcd.l0 k x y = impl_gcd.l0 k x y
  | 0, _, _ => rfl
  | k + 1, x, y => by
    simp only [spec_l1Gcd.l0, impl_gcd.l0]
    rw [l0_eq k]

theorem l0_some : ∀ (k : Nat) (x y : Int), 0 ≤ x → 0 ≤ y → y < k → ∃ r, impl_gcd.l0 k x y = some r
  | 0, _, _, _, h, h2 => by omega
  | k + 1, x, y, hx, hy, hk => by
    simp only [impl_gcd.l0]
    by_cases c : y = 0
    · exact ⟨x, by rw [if_pos c]⟩
    · rw [if_neg c]
      have h1 := Int.tmod_lt_of_pos x (show 0 < y by omega)
      have h0 := Int.tmod_nonneg y hx
      exact l0_some k y _ hy h0 (by omega)

theorem gcd_eq (k : Nat) (x y : Int) (hx : 0 ≤ x) (hy : 0 ≤ y) : spec_l1Gcd.f k x y = impl_gcd.f k x y := by
  unfold spec_l1Gcd.f impl_gcd.f spec_l1Abs.f
  rw [if_neg (by omega), if_neg (by omega)]
  simp only [Option.bind_some]
  exact l0_eq k x y

theorem in_eq (a b c : Int) : spec_l1In.f a b c = impl_in.f a b c := rfl

theorem in_some (a b c : Int) : impl_in.f a b c = some (decide (b ≤ a ∧ a ≤ c)) := by
  unfold impl_in.f
  by_cases h : b ≤ a
  · simp [h]
  · simp [h]

theorem rate_eq (k : Nat) (a b : Int) (c : Bool) : spec_RateOk.f k a b c = impl_RateOk.f k a b c := by
  unfold spec_RateOk.f impl_RateOk.f
  simp only [in_eq, in_some, Option.bind_some, decide_eq_true_eq]
  by_cases h1 : 1 ≤ a ∧ a ≤ 240000
  · rw [if_pos h1, if_pos h1]
    by_cases h2 : 1 ≤ b ∧ b ≤ 1001
    · rw [if_pos h2, if_pos h2, gcd_eq k a b (by omega) (by omega)]
    · rw [if_neg h2, if_neg h2]
  · rw [if_neg h1, if_neg h1]

/-- What a rate that is right is. -/
theorem rate_some (k : Nat) (hk : 1002 ≤ k) (a b : Int) (c : Bool) : ∃ r, impl_RateOk.f k a b c = some r ∧ (r = true → 1 ≤ a ∧ a ≤ 240000 ∧ 1 ≤ b ∧ b ≤ 1001 ∧ a ≤ 120 * b) := by
  unfold impl_RateOk.f
  simp only [in_some, Option.bind_some, decide_eq_true_eq]
  by_cases h1 : 1 ≤ a ∧ a ≤ 240000
  · rw [if_pos h1]
    by_cases h2 : 1 ≤ b ∧ b ≤ 1001
    · rw [if_pos h2]
      obtain ⟨g, hg⟩ := l0_some k a b (by omega) (by omega) (by omega)
      unfold impl_gcd.f
      rw [hg]
      simp only [Option.bind_some]
      by_cases h3 : g = 1
      · rw [if_pos h3]
        have hw : wrap64 (120 * b) = 120 * b := by unfold wrap64; omega
        rw [hw]
        by_cases h4 : a > 120 * b
        · exact ⟨false, by rw [if_pos h4], by simp⟩
        · rw [if_neg h4]
          split
          · split
            · split
              · exact ⟨true, rfl, fun _ => by omega⟩
              · exact ⟨_, rfl, fun _ => by omega⟩
            · exact ⟨false, rfl, by simp⟩
          · exact ⟨true, rfl, fun _ => by omega⟩
      · exact ⟨false, by rw [if_neg h3], by simp⟩
    · exact ⟨false, by rw [if_neg h2], by simp⟩
  · exact ⟨false, by rw [if_neg h1], by simp⟩

theorem and255 (n : Int) : Go.bits .and .i64 n 255 = n % 256 := by
  have h127 : (BitVec.ofInt 64 255).toNat = 2 ^ 8 - 1 := by decide
  have key : (BitVec.ofInt 64 n &&& BitVec.ofInt 64 255).toNat = (n % ((2 ^ 64 : Nat) : Int)).toNat % 2 ^ 8 := by
    rw [BitVec.toNat_and, BitVec.toNat_ofInt, h127, Nat.and_two_pow_sub_one_eq_mod]
  show IntKind.i64.wrap ((BitVec.ofInt 64 n &&& BitVec.ofInt 64 255).toNat : Nat) = n % 256
  rw [key, IntKind.wrap_i64]
  omega

theorem byte_ok (b : List Int) (i h : Int) (hb : b.length ≤ 4096) (hi : 0 ≤ i) :
    ∃ x i' h', spec_l1Byte.f b i h = some (x, i', h') ∧ 0 ≤ x ∧ x ≤ 255 ∧ 0 ≤ i' := by
  unfold spec_l1Byte.f
  simp only [and255]
  by_cases c : i < (b.length : Int)
  · rw [if_pos c, if_pos hi]
    have hw : wrap64 (i + 1) = i + 1 := by unfold wrap64; omega
    rw [hw]
    exact ⟨_, _, _, rfl, by omega, by omega, by omega⟩
  · rw [if_neg c]
    exact ⟨_, _, _, rfl, by omega, by omega, hi⟩

theorem below_ok (b : List Int) (i h n : Int) (hb : b.length ≤ 4096) (hi : 0 ≤ i) :
    ∃ x i' h', spec_l1Below.f b i h n = some (x, i', h') ∧ 0 ≤ i' ∧ 0 ≤ x ∧ (1 ≤ n → x < n) := by
  unfold spec_l1Below.f
  by_cases c0 : n ≤ 0
  · rw [if_pos c0]
    exact ⟨_, _, _, rfl, hi, by omega, by omega⟩
  · rw [if_neg c0]
    by_cases c : n ≤ 256
    · rw [if_pos c]
      obtain ⟨x, i1, h1, e, x0, x1, hi1⟩ := byte_ok b i h hb hi
      rw [e]
      simp only [Option.bind_some]
      rw [if_neg (by omega)]
      exact ⟨_, _, _, rfl, hi1, Int.tmod_nonneg _ x0, fun _ => Int.tmod_lt_of_pos _ (by omega)⟩
    · rw [if_neg c]
      obtain ⟨x, i1, h1, e, x0, x1, hi1⟩ := byte_ok b i h hb hi
      rw [e]
      simp only [Option.bind_some]
      obtain ⟨y, i2, h2, e, y0, y1, hi2⟩ := byte_ok b i1 h1 hb hi1
      rw [e]
      simp only [Option.bind_some]
      obtain ⟨z, i3, h3, e, z0, z1, hi3⟩ := byte_ok b i2 h2 hb hi2
      rw [e]
      simp only [Option.bind_some]
      obtain ⟨u, i4, h4, e, u0, u1, hi4⟩ := byte_ok b i3 h3 hb hi3
      rw [e]
      simp only [Option.bind_some]
      rw [if_neg (by omega)]
      have hw : wrap64 (wrap64 (wrap64 (wrap64 (x * 16777216) + wrap64 (y * 65536)) + wrap64 (z * 256)) + u) = x * 16777216 + y * 65536 + z * 256 + u := by
        have e1 : wrap64 (x * 16777216) = x * 16777216 := by unfold wrap64; omega
        have e2 : wrap64 (y * 65536) = y * 65536 := by unfold wrap64; omega
        have e3 : wrap64 (z * 256) = z * 256 := by unfold wrap64; omega
        rw [e1, e2, e3]
        have e4 : wrap64 (x * 16777216 + y * 65536) = x * 16777216 + y * 65536 := by unfold wrap64; omega
        rw [e4]
        have e5 : wrap64 (x * 16777216 + y * 65536 + z * 256) = x * 16777216 + y * 65536 + z * 256 := by unfold wrap64; omega
        rw [e5]
        unfold wrap64
        omega
      rw [hw]
      exact ⟨_, _, _, rfl, hi4, Int.tmod_nonneg _ (by omega), fun _ => Int.tmod_lt_of_pos _ (by omega)⟩

theorem once_ok (b : List Int) (i h n : Int) (hb : b.length ≤ 4096) (hi : 0 ≤ i) :
    ∃ x i' h', spec_l1Once.f b i h n = some (x, i', h') ∧ 0 ≤ i' := by
  unfold spec_l1Once.f
  obtain ⟨x, i1, h1, e, hi1, _⟩ := below_ok b i h n hb hi
  rw [e]
  exact ⟨_, _, _, rfl, hi1⟩

theorem new_loop (l : List Int) (hl : l.length ≤ 4096) (d : Nat) : ∀ (k : Nat) (h i : Int), 0 ≤ i → i ≤ l.length → (l.length : Int) - i = d → d < k → ∃ h', spec_l1New.l0 k l h i = some (l, 0, h') := by
  induction d with
  | zero =>
    intro k h i h0 h1 hd hk
    obtain ⟨k, rfl⟩ : ∃ m, k = m + 1 := ⟨k - 1, by omega⟩
    exact ⟨h, by simp only [spec_l1New.l0]; rw [if_neg (by omega)]⟩
  | succ d ih =>
    intro k h i h0 h1 hd hk
    obtain ⟨k, rfl⟩ : ∃ m, k = m + 1 := ⟨k - 1, by omega⟩
    simp only [spec_l1New.l0]
    rw [if_pos (by omega), if_pos h0]
    have hw : wrap64 (i + 1) = i + 1 := by unfold wrap64; omega
    rw [hw]
    exact ih k _ (i + 1) (by omega) (by omega) (by omega) (by omega)

theorem new_ok (l : List Int) (hl : l.length ≤ 4096) (k : Nat) (hk : 4097 ≤ k) : ∃ h, spec_l1New.f k l = some (l, 0, h) := by
  unfold spec_l1New.f
  exact new_loop l hl l.length k _ 0 (by omega) (by omega) (by omega) (by omega)

theorem drawrate_ok (b : List Int) (i h : Int) (hb : b.length ≤ 4096) (hi : 0 ≤ i) :
    ∃ x0 x1 x2 i' h', spec_l1DrawRate.f b i h = some (x0, x1, x2, i', h') ∧ 0 ≤ i' := by
  unfold spec_l1DrawRate.f
  simp only [Option.bind_some]
  obtain ⟨a, i1, h1, e, hi1, a0, a1⟩ := below_ok b i h 10 hb hi
  have a1 := a1 (by omega)
  rw [e]; simp only [Option.bind_some]; clear e
  rw [if_pos a0, if_pos (by simpa using a1)]
  obtain ⟨o, i2, h2, e, hi2⟩ := once_ok b i1 h1 16 hb hi1
  rw [e]; simp only [Option.bind_some]; clear e
  split
  · obtain ⟨k, i3, h3, e, hi3, _, _⟩ := below_ok b i2 h2 4 hb hi2
    rw [e]; simp only [Option.bind_some]; clear e
    obtain ⟨u, i4, h4, e, hi4, u0, u1⟩ := below_ok b i3 h3 6 hb hi3
    obtain ⟨v, i5, h5, e2, hi5, v0, v1⟩ := below_ok b i3 h3 5 hb hi3
    have u1 := u1 (by omega)
    have v1 := v1 (by omega)
    simp only [e, e2, Option.bind_some]
    split
    · first | rw [if_pos u0, if_pos (by simpa using u1)] | rw [if_pos (by simpa using u1)]
      exact ⟨_, _, _, _, _, rfl, hi4⟩
    · split
      · first | rw [if_pos v0, if_pos (by simpa using v1)] | rw [if_pos (by simpa using v1)]
        exact ⟨_, _, _, _, _, rfl, hi5⟩
      · split
        · exact ⟨_, _, _, _, _, rfl, hi3⟩
        · split
          · exact ⟨_, _, _, _, _, rfl, hi3⟩
          · exact ⟨_, _, _, _, _, rfl, hi3⟩
  · exact ⟨_, _, _, _, _, rfl, hi2⟩

theorem base_ok (k : Nat) (hk : 1002 ≤ k) (a b : Int) (c : Bool) : ∃ v, spec_Base.f k a b c = some v := by
  unfold spec_Base.f
  obtain ⟨r, hr, hp⟩ := rate_some k hk a b c
  rw [rate_eq, hr]
  simp only [Option.bind_some]
  cases r with
  | false => exact ⟨0, rfl⟩
  | true =>
    have hp := hp rfl
    rw [if_pos rfl, if_neg (by omega)]
    exact ⟨_, rfl⟩

theorem drawframe_ok (k : Nat) (hk : 1002 ≤ k) (b : List Int) (i h : Int) (hb : b.length ≤ 4096) (hi : 0 ≤ i) (a0 a1 : Int) (a2 : Bool) :
    ∃ f i' h', spec_l1DrawFrame.f k b i h a0 a1 a2 = some (f, i', h') := by
  have j1 : ∀ (k : Nat) (x i h : Int), 0 ≤ i → ∃ f i' h', spec_l1DrawFrame.j1 (k + 1) x b i h = some (f, i', h') := by
    intro k x i h hi
    simp only [spec_l1DrawFrame.j1]
    obtain ⟨o, i2, h2, e, hi2⟩ := once_ok b i h 16 hb hi
    rw [e]; simp only [Option.bind_some]; clear e
    split
    · obtain ⟨v, i5, h5, e2, hi5, v0, v1⟩ := below_ok b i2 h2 5 hb hi2
      have v1 := v1 (by omega)
      simp only [e2, Option.bind_some]
      first | rw [if_pos v0, if_pos (by simpa using v1)] | rw [if_pos (by simpa using v1)]
      exact ⟨_, _, _, rfl⟩
    · exact ⟨_, _, _, rfl⟩
  have j0 : ∀ (k : Nat) (x i h : Int), 0 ≤ i → ∃ f i' h', spec_l1DrawFrame.j0 (k + 2) x b i h = some (f, i', h') := by
    intro k x i h hi
    simp only [spec_l1DrawFrame.j0]
    obtain ⟨o, i2, h2, e, hi2⟩ := once_ok b i h 8 hb hi
    rw [e]; simp only [Option.bind_some]; clear e
    split
    · obtain ⟨v, i5, h5, e2, hi5, v0, v1⟩ := below_ok b i2 h2 10000000 hb hi2
      simp only [e2, Option.bind_some]
      exact j1 k _ _ _ hi5
    · exact j1 k _ _ _ hi2
  obtain ⟨k, rfl⟩ : ∃ m, k = m + 2 := ⟨k - 2, by omega⟩
  unfold spec_l1DrawFrame.f
  obtain ⟨x, i1, h1, e, hi1, _, _⟩ := below_ok b i h 2000 hb hi
  rw [e]; simp only [Option.bind_some]; clear e
  obtain ⟨o, i2, h2, e, hi2⟩ := once_ok b i1 h1 3 hb hi1
  rw [e]; simp only [Option.bind_some]; clear e
  split
  · obtain ⟨B, hB⟩ := base_ok (k + 2) hk a0 a1 a2
    rw [hB]
    obtain ⟨m, hm⟩ : ∃ m, spec_l1Max.f 1 B = some m := by
      unfold spec_l1Max.f
      split
      · exact ⟨_, rfl⟩
      · exact ⟨_, rfl⟩
    simp only [Option.bind_some]
    rw [hm]
    simp only [Option.bind_some]
    obtain ⟨v, i5, h5, e2, hi5, v0, v1⟩ := below_ok b i2 h2 7 hb hi2
    have v1 := v1 (by omega)
    simp only [e2, Option.bind_some]
    first | rw [if_pos v0, if_pos (by simpa using v1)] | rw [if_pos (by simpa using v1)]
    obtain ⟨u, i6, h6, e3, hi6, _, _⟩ := below_ok b i5 h5 3 hb hi5
    simp only [e3, Option.bind_some]
    unfold spec_l1From.f
    obtain ⟨t, i7, h7, e4, hi7, _, _⟩ := below_ok b i6 h6 (wrap64 (wrap64 (3 - (-3)) + 1)) hb hi6
    simp only [e4, Option.bind_some]
    exact j0 k _ _ _ hi7
  · exact j0 k _ _ _ hi2

theorem draw_ok (l0 : List Int) (hb : l0.length ≤ 4096) : ∃ a b c d e f g, spec_DrawFrameIn.f 4097 l0 = some (a, b, c, d, e, f, g) := by
  unfold spec_DrawFrameIn.f
  obtain ⟨hh, hnew⟩ := new_ok l0 hb 4097 (by omega)
  rw [hnew]; simp only [Option.bind_some]
  obtain ⟨a, b, c, i1, h1, e1, hi1⟩ := drawrate_ok l0 0 hh hb (by omega)
  rw [e1]; simp only [Option.bind_some]
  obtain ⟨d, e, f, i2, h2, e2, hi2⟩ := drawrate_ok l0 i1 h1 hb hi1
  rw [e2]; simp only [Option.bind_some]
  obtain ⟨g, i3, h3, e3⟩ := drawframe_ok 4097 (by omega) l0 i2 h2 hb hi2 a b c
  rw [e3]
  exact ⟨_, _, _, _, _, _, _, rfl⟩

/-- Two right rates and a frame. -/
def Ok (rn rd : Int) : Prop := 1 ≤ rn ∧ rn ≤ 240000 ∧ 1 ≤ rd ∧ rd ≤ 1001

theorem prod3 {f a b : Int} (hf : 0 ≤ f ∧ f ≤ 10000000) (ha : 1 ≤ a ∧ a ≤ 1001) (hb : 1 ≤ b ∧ b ≤ 1000000) :
    0 ≤ f * a ∧ f * a ≤ 10010000000 ∧ 0 ≤ f * a * b ∧ f * a * b ≤ 10010000000000000 := by
  have h1 : 0 ≤ f * a := Int.mul_nonneg hf.1 (by omega)
  have h2 : f * a ≤ 10000000 * 1001 := Int.mul_le_mul hf.2 ha.2 (by omega) (by omega)
  have h3 : 0 ≤ f * a * b := Int.mul_nonneg h1 (by omega)
  have h4 : f * a * b ≤ 10010000000 * 1000000 := Int.mul_le_mul (by omega) hb.2 (by omega) (by omega)
  exact ⟨h1, by omega, h3, by omega⟩

theorem prod2 {a b : Int} (ha : 1 ≤ a ∧ a ≤ 240000) (hb : 1 ≤ b ∧ b ≤ 1001) : 1 ≤ a * b ∧ a * b ≤ 240240000 := by
  have h1 : 1 * 1 ≤ a * b := Int.mul_le_mul ha.1 hb.1 (by omega) (by omega)
  have h2 : a * b ≤ 240000 * 1001 := Int.mul_le_mul ha.2 hb.2 (by omega) (by omega)
  omega

theorem frame_val (k : Nat) {rn rd sn sd f : Int} {rx sx : Bool} (hr : impl_RateOk.f (k + 1) rn rd rx = some true) (hs : impl_RateOk.f (k + 1) sn sd sx = some true) (r : Ok rn rd) (s : Ok sn sd) (hf : 0 ≤ f ∧ f ≤ 10000000) :
    impl_FrameIn.f (k + 1) rn rd rx sn sd sx f = some (if 0 ≤ f * rd * sn / (rn * sd) ∧ f * rd * sn / (rn * sd) ≤ 10000000 then f * rd * sn / (rn * sd) else -1) := by
  obtain ⟨p1, p2, p3, p4⟩ := prod3 hf ⟨r.2.2.1, r.2.2.2⟩ (b := sn) ⟨s.1, by have := s.2.1; omega⟩
  obtain ⟨q1, q2⟩ := prod2 (a := rn) (b := sd) ⟨r.1, r.2.1⟩ ⟨s.2.2.1, s.2.2.2⟩
  have d0 : 0 ≤ f * rd * sn / (rn * sd) := Int.ediv_nonneg p3 (by omega)
  have d1 : f * rd * sn / (rn * sd) ≤ f * rd * sn := Int.ediv_le_self _ p3
  unfold impl_FrameIn.f
  rw [hr, hs]
  unfold impl_isFrame.f impl_FrameIn.j0 impl_isFrame.f
  simp only [Option.bind_some, in_some, if_true]
  have e1 : wrap64 (f * rd) = f * rd := by unfold wrap64; omega
  rw [e1]
  have e2 : wrap64 (f * rd * sn) = f * rd * sn := by unfold wrap64; omega
  have e3 : wrap64 (rn * sd) = rn * sd := by unfold wrap64; omega
  rw [e2, e3, Int.tdiv_eq_ediv_of_nonneg p3]
  have e4 : wrap64 (f * rd * sn / (rn * sd)) = f * rd * sn / (rn * sd) := by unfold wrap64; omega
  rw [e4]
  have hn : ¬ rn * sd = 0 := by omega
  by_cases c : 0 ≤ f * rd * sn / (rn * sd) ∧ f * rd * sn / (rn * sd) ≤ 10000000
  · simp [hf, hn, c]
  · simp [hf, hn, c]

theorem inst_val (k : Nat) {rn rd f : Int} {rx : Bool} (hr : impl_RateOk.f k rn rd rx = some true) (r : Ok rn rd) (hf : 0 ≤ f ∧ f ≤ 10000000) :
    impl_Instant.f k rn rd rx f 1000000 = some (f * rd * 1000000 / rn) := by
  obtain ⟨p1, p2, p3, p4⟩ := prod3 hf ⟨r.2.2.1, r.2.2.2⟩ (b := 1000000) (by omega)
  have r1 := r.1
  have d0 : 0 ≤ f * rd * 1000000 / rn := Int.ediv_nonneg p3 (by omega)
  have d1 : f * rd * 1000000 / rn ≤ f * rd * 1000000 := Int.ediv_le_self _ p3
  unfold impl_Instant.f
  rw [hr]
  unfold impl_isFrame.f
  simp only [Option.bind_some, in_some, if_true]
  have e1 : wrap64 (f * rd) = f * rd := by unfold wrap64; omega
  rw [e1]
  have e2 : wrap64 (f * rd * 1000000) = f * rd * 1000000 := by unfold wrap64; omega
  rw [e2, Int.tdiv_eq_ediv_of_nonneg p3]
  have e4 : wrap64 (f * rd * 1000000 / rn) = f * rd * 1000000 / rn := by unfold wrap64; omega
  rw [e4]
  have hn : ¬ rn = 0 := by omega
  simp [hf, hn]

theorem no_later {rn rd sn sd f : Int} (r : Ok rn rd) (s : Ok sn sd) (hf : 0 ≤ f) :
    0 ≤ (f * rd * sn / (rn * sd)) * sd * rn / (sn * rd) ∧ (f * rd * sn / (rn * sd)) * sd * rn / (sn * rd) ≤ f := by
  obtain ⟨q1, _⟩ := prod2 (a := rn) (b := sd) ⟨r.1, r.2.1⟩ ⟨s.2.2.1, s.2.2.2⟩
  obtain ⟨q2, _⟩ := prod2 (a := sn) (b := rd) ⟨s.1, s.2.1⟩ ⟨r.2.2.1, r.2.2.2⟩
  have p3 : 0 ≤ f * rd * sn := Int.mul_nonneg (Int.mul_nonneg hf (by have := r.2.2.1; omega)) (by have := s.1; omega)
  have g0 : 0 ≤ f * rd * sn / (rn * sd) := Int.ediv_nonneg p3 (by omega)
  have g1 : f * rd * sn / (rn * sd) * (rn * sd) ≤ f * rd * sn := Int.ediv_mul_le _ (by omega)
  generalize f * rd * sn / (rn * sd) = g at *
  have e : g * sd * rn = g * (rn * sd) := by rw [Int.mul_assoc, Int.mul_comm sd rn]
  have e2 : f * rd * sn = f * (sn * rd) := by rw [Int.mul_assoc, Int.mul_comm rd sn]
  rw [e]
  refine ⟨Int.ediv_nonneg (Int.mul_nonneg g0 (by omega)) (by omega), ?_⟩
  have h : g * (rn * sd) ≤ f * (sn * rd) := by omega
  exact Int.le_of_lt_add_one (Int.ediv_lt_of_lt_mul (by omega) (by rw [Int.add_mul]; omega))

theorem self_back {rn rd f : Int} (r : Ok rn rd) : f * rd * rn / (rn * rd) = f := by
  obtain ⟨q1, _⟩ := prod2 (a := rn) (b := rd) ⟨r.1, r.2.1⟩ ⟨r.2.2.1, r.2.2.2⟩
  rw [Int.mul_assoc, Int.mul_comm rd rn]
  exact Int.mul_ediv_cancel _ (by omega)

theorem inst_le {rn rd sn sd f : Int} (r : Ok rn rd) (s : Ok sn sd) : (f * rd * sn / (rn * sd)) * sd * 1000000 / sn ≤ f * rd * 1000000 / rn := by
  obtain ⟨q1, _⟩ := prod2 (a := rn) (b := sd) ⟨r.1, r.2.1⟩ ⟨s.2.2.1, s.2.2.2⟩
  have g1 : f * rd * sn / (rn * sd) * (rn * sd) ≤ f * rd * sn := Int.ediv_mul_le _ (by omega)
  generalize f * rd * sn / (rn * sd) = g at *
  have sp := s.1
  have rp := r.1
  have h1 : g * sd * 1000000 / sn * sn ≤ g * sd * 1000000 := Int.ediv_mul_le _ (by omega)
  generalize g * sd * 1000000 / sn = p at *
  rw [Int.le_ediv_iff_mul_le (by omega)]
  refine Int.le_of_mul_le_mul_right (a := sn) ?_ (by omega)
  have h2 : p * sn * rn ≤ g * sd * 1000000 * rn := Int.mul_le_mul_of_nonneg_right h1 (by omega)
  have e1 : p * rn * sn = p * sn * rn := by ac_rfl
  have e2 : g * sd * 1000000 * rn = g * (rn * sd) * 1000000 := by ac_rfl
  have e3 : f * rd * 1000000 * sn = f * rd * sn * 1000000 := by ac_rfl
  omega

theorem inst_ge {rn rd sn sd f : Int} (r : Ok rn rd) (s : Ok sn sd) : f * rd * 1000000 / rn ≤ (f * rd * sn / (rn * sd) + 1) * sd * 1000000 / sn := by
  obtain ⟨q1, _⟩ := prod2 (a := rn) (b := sd) ⟨r.1, r.2.1⟩ ⟨s.2.2.1, s.2.2.2⟩
  have g1 : f * rd * sn < (f * rd * sn / (rn * sd) + 1) * (rn * sd) := Int.lt_ediv_add_one_mul_self _ (by omega)
  generalize f * rd * sn / (rn * sd) + 1 = g at *
  have sp := s.1
  have rp := r.1
  have h1 : f * rd * 1000000 / rn * rn ≤ f * rd * 1000000 := Int.ediv_mul_le _ (by omega)
  generalize f * rd * 1000000 / rn = q at *
  rw [Int.le_ediv_iff_mul_le (by omega)]
  refine Int.le_of_mul_le_mul_right (a := rn) ?_ (by omega)
  have h2 : q * rn * sn ≤ f * rd * 1000000 * sn := Int.mul_le_mul_of_nonneg_right h1 (by omega)
  have e1 : q * sn * rn = q * rn * sn := by ac_rfl
  have e2 : g * sd * 1000000 * rn = g * (rn * sd) * 1000000 := by ac_rfl
  have e3 : f * rd * 1000000 * sn = f * rd * sn * 1000000 := by ac_rfl
  omega

theorem framein_eq (k : Nat) (a b : Int) (c : Bool) (d e : Int) (f : Bool) (g : Int) : spec_FrameIn.f k a b c d e f g = impl_FrameIn.f k a b c d e f g := by
  have hj : ∀ k x y a b c d e f, spec_FrameIn.j0 k x y a b c d e f = impl_FrameIn.j0 k x y a b c d e f := by
    intro k
    cases k with
    | zero => intros; rfl
    | succ k => intros; rfl
  unfold spec_FrameIn.f impl_FrameIn.f
  simp only [rate_eq, hj]
  rfl

theorem framein_no (k : Nat) (hk : 1002 ≤ k) {rn rd sn sd f : Int} {rx sx : Bool} (h : ¬ (impl_RateOk.f k rn rd rx = some true ∧ impl_RateOk.f k sn sd sx = some true ∧ 0 ≤ f ∧ f ≤ 10000000)) :
    impl_FrameIn.f k rn rd rx sn sd sx f = some (-1) := by
  obtain ⟨k, rfl⟩ : ∃ m, k = m + 1 := ⟨k - 1, by omega⟩
  obtain ⟨r, hr, _⟩ := rate_some (k + 1) hk rn rd rx
  obtain ⟨s, hs, _⟩ := rate_some (k + 1) hk sn sd sx
  have hj : ∀ x a b c d e f, impl_FrameIn.j0 (k + 1) x true a b c d e f = some (-1) := by
    intros
    unfold impl_FrameIn.j0
    rfl
  unfold impl_FrameIn.f impl_isFrame.f
  rw [hr, hs]
  simp only [Option.bind_some, in_some]
  rw [hr, hs] at h
  cases r with
  | false => simp [hj]
  | true =>
    cases s with
    | false => simp [hj]
    | true =>
      have hf : ¬ (0 ≤ f ∧ f ≤ 10000000) := fun c => h ⟨rfl, rfl, c⟩
      simp [hf, hj]

theorem FnRates : laws_FnRates.Pure := by
  intro l0 _ _ _
  unfold laws_FnRates.f laws_big.f
  simp only [Option.bind_some, decide_eq_true_eq]
  by_cases hbig : (l0.length : Int) > 4096
  · exact ⟨1, by rw [if_pos hbig]⟩
  refine ⟨4097, ?_⟩
  rw [if_neg hbig]
  obtain ⟨rn, rd, rx, sn, sd, sx, f, hd⟩ := draw_ok l0 (by omega)
  rw [hd]
  simp only [Option.bind_some]
  rw [framein_eq]
  by_cases hall : impl_RateOk.f 4097 rn rd rx = some true ∧ impl_RateOk.f 4097 sn sd sx = some true ∧ 0 ≤ f ∧ f ≤ 10000000
  · obtain ⟨hr, hs, hf⟩ := hall
    obtain ⟨r1, hr1, rok⟩ := rate_some 4097 (by omega) rn rd rx
    obtain ⟨s1, hs1, sok⟩ := rate_some 4097 (by omega) sn sd sx
    have er : true = r1 := Option.some.inj (hr.symm.trans hr1)
    have es : true = s1 := Option.some.inj (hs.symm.trans hs1)
    have rok := rok er.symm
    have sok := sok es.symm
    have r : Ok rn rd := ⟨rok.1, rok.2.1, rok.2.2.1, rok.2.2.2.1⟩
    have s : Ok sn sd := ⟨sok.1, sok.2.1, sok.2.2.1, sok.2.2.2.1⟩
    rw [frame_val 4096 hr hs r s hf]
    simp only [Option.bind_some, if_true]
    by_cases c : 0 ≤ f * rd * sn / (rn * sd) ∧ f * rd * sn / (rn * sd) ≤ 10000000
    · rw [if_pos c]
      have hb := no_later r s hf.1 (f := f)
      have hle := inst_le r s (f := f)
      have hge := inst_ge r s (f := f)
      generalize f * rd * sn / (rn * sd) = g at *
      rw [if_neg (by omega), frame_val 4096 hs hr s r c, frame_val 4096 hr hr r r hf, self_back r, inst_val 4097 hs s c, inst_val 4097 hr r hf]
      simp only [Option.bind_some]
      rw [if_pos (⟨hb.1, by omega⟩ : 0 ≤ g * sd * rn / (sn * rd) ∧ g * sd * rn / (sn * rd) ≤ 10000000), if_pos hb.1, if_pos hb.2, if_pos hf, if_pos rfl, if_pos hle]
      by_cases e : g = 10000000
      · rw [if_pos e]
      · rw [if_neg e]
        have hw : wrap64 (g + 1) = g + 1 := by unfold wrap64; omega
        rw [hw, inst_val 4097 hs s (by omega)]
        simp only [Option.bind_some]
        rw [decide_eq_true hge]
    · rw [if_neg c]
      simp
  · rw [framein_no 4097 (by omega) hall]
    simp

end Go.Proofs.Ytnnajajfleinnaa.Pure
