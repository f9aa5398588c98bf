/- Proved: the plain law behind FnLayers: whatever the draw, it answers true. No condition. -/
import Derived.Test.YtipmhlajjdnhoaaPFnLayersx
namespace Go.Proofs.Ytipmhlajjdnhoaa.Pure
open Go.RowKit Go.Proofs.Ytipmhlajjdnhoaa.PFnLayers Go.Proofs.YtipmhlajjdnhoaaW.PrintWords Go.Proofs.YtipmhlajjdnhoaaW.PrintLast

set_option linter.unusedVariables false
set_option linter.unusedSimpArgs false
theorem in_eq (a b c : Int) : spec_l1In.f a b c = impl_in.f a b c := rfl

theorem in_some (a b c : Int) : impl_in.f a b c = some (decide (b ≤ a ∧ a ≤ c)) := by
  unfold impl_in.f
  by_cases h : b ≤ a
  · simp [h]
  · simp [h]


/-- A pixel that is right. -/
def Px (r g b a : Int) : Prop := 0 ≤ a ∧ a ≤ 255 ∧ 0 ≤ r ∧ r ≤ a ∧ 0 ≤ g ∧ g ≤ a ∧ 0 ≤ b ∧ b ≤ a
instance (r g b a : Int) : Decidable (Px r g b a) := by unfold Px; exact inferInstance

theorem px_some (r g b a : Int) : impl_PxOk.f r g b a = some (decide (Px r g b a)) := by
  unfold impl_PxOk.f impl_isByte.f Px
  simp only [in_some, Option.bind_some, decide_eq_true_eq]
  by_cases h1 : 0 ≤ a ∧ a ≤ 255 <;> by_cases h2 : 0 ≤ r ∧ r ≤ a <;> by_cases h3 : 0 ≤ g ∧ g ≤ a <;> by_cases h4 : 0 ≤ b ∧ b ≤ a <;> simp [h1, h2, h3, h4] <;> omega

theorem spx_some (r g b a : Int) : spec_PxOk.f r g b a = some (decide (Px r g b a)) := by
  have h : spec_PxOk.f r g b a = impl_PxOk.f r g b a := rfl
  rw [h, px_some]

theorem down_some (a b : Int) (hb : b ≠ 0) : ∃ v, impl_down.f a b = some v := by
  unfold impl_down.f
  rw [if_neg hb]
  split
  · exact ⟨_, rfl⟩
  · exact ⟨_, rfl⟩

theorem near_ex (a b : Int) (hb : wrap64 (2 * b) ≠ 0) : ∃ v, impl_near.f a b = some v := by
  unfold impl_near.f
  obtain ⟨v, hv⟩ := down_some (wrap64 (wrap64 (2 * a) + b)) (wrap64 (2 * b)) hb
  exact ⟨v, by rw [hv]; rfl⟩

theorem share_ex (a b : Int) : ∃ v, impl_share.f a b = some v := by
  unfold impl_share.f
  obtain ⟨v, hv⟩ := near_ex (wrap64 (a * b)) 255 (by unfold wrap64; omega)
  exact ⟨v, by rw [hv]; rfl⟩

theorem part_eq (a b : Int) : spec_l11Part.f a b = impl_share.f a b := rfl

theorem down_val (a b : Int) (ha : 0 ≤ a) (ha2 : a ≤ 9223372036854775807) (hb : 1 ≤ b) : impl_down.f a b = some (a / b) := by
  unfold impl_down.f
  rw [if_neg (by omega)]
  have h1 := Int.tmod_nonneg b ha
  rw [if_neg (by omega), Int.tdiv_eq_ediv_of_nonneg ha]
  have h2 : 0 ≤ a / b := Int.ediv_nonneg ha (by omega)
  have h3 : a / b ≤ a := Int.ediv_le_self b ha
  have : wrap64 (a / b) = a / b := by unfold wrap64; omega
  rw [this]

theorem near_val (a b : Int) (ha : 0 ≤ a) (ha2 : a ≤ 1000000000000) (hb : 1 ≤ b) (hb2 : b ≤ 1000000000000) : impl_near.f a b = some ((2 * a + b) / (2 * b)) := by
  unfold impl_near.f
  have e1 : wrap64 (2 * a) = 2 * a := by unfold wrap64; omega
  have e2 : wrap64 (2 * b) = 2 * b := by unfold wrap64; omega
  rw [e1, e2]
  have e3 : wrap64 (2 * a + b) = 2 * a + b := by unfold wrap64; omega
  rw [e3, down_val _ _ (by omega) (by omega) (by omega)]
  rfl

theorem mul_bd {a b : Int} (h0 : 0 ≤ a) (h1 : a ≤ 255) (h2 : 0 ≤ b) (h3 : b ≤ 255) : 0 ≤ a * b ∧ a * b ≤ 65025 :=
  ⟨Int.mul_nonneg h0 h2, by have := Int.mul_le_mul h1 h3 h2 (by omega : (0 : Int) ≤ 255); omega⟩

theorem share_val {a b : Int} (h0 : 0 ≤ a) (h1 : a ≤ 255) (h2 : 0 ≤ b) (h3 : b ≤ 255) : impl_share.f a b = some ((2 * (a * b) + 255) / 510) := by
  unfold impl_share.f
  obtain ⟨m0, m1⟩ := mul_bd h0 h1 h2 h3
  have e : wrap64 (a * b) = a * b := by unfold wrap64; omega
  rw [e, near_val _ _ m0 (by omega) (by omega) (by omega)]
  rfl

theorem share_bd {a b : Int} (h0 : 0 ≤ a) (h1 : a ≤ 255) (h2 : 0 ≤ b) (h3 : b ≤ 255) : 0 ≤ (2 * (a * b) + 255) / 510 ∧ (2 * (a * b) + 255) / 510 ≤ b := by
  have m1 : a * b ≤ 255 * b := Int.mul_le_mul_of_nonneg_right h1 h2
  have m0 := (mul_bd h0 h1 h2 h3).1
  omega

theorem and255 (n : Int) : Go.bits .and .i64 n 255 = n % 256 := by
  have h127 : (BitVec.ofInt 64 255).toNat = 2 ^ 8 - 1 := by decide
  have key : (BitVec.ofInt 64 n &&& BitVec.ofInt 64 255).toNat = (n % ((2 ^ 64 : Nat) : Int)).toNat % 2 ^ 8 := by
    rw [BitVec.toNat_and, BitVec.toNat_ofInt, h127, Nat.and_two_pow_sub_one_eq_mod]
  show IntKind.i64.wrap ((BitVec.ofInt 64 n &&& BitVec.ofInt 64 255).toNat : Nat) = n % 256
  rw [key, IntKind.wrap_i64]
  omega

theorem byte_ok (b : List Int) (i h : Int) (hb : b.length ≤ 4096) (hi : 0 ≤ i) :
    ∃ x i' h', spec_l1Byte.f b i h = some (x, i', h') ∧ 0 ≤ x ∧ x ≤ 255 ∧ 0 ≤ i' := by
  unfold spec_l1Byte.f
  simp only [and255]
  by_cases c : i < (b.length : Int)
  · rw [if_pos c, if_pos hi]
    have hw : wrap64 (i + 1) = i + 1 := by unfold wrap64; omega
    rw [hw]
    exact ⟨_, _, _, rfl, by omega, by omega, by omega⟩
  · rw [if_neg c]
    exact ⟨_, _, _, rfl, by omega, by omega, hi⟩

theorem below_ok (b : List Int) (i h n : Int) (hb : b.length ≤ 4096) (hi : 0 ≤ i) :
    ∃ x i' h', spec_l1Below.f b i h n = some (x, i', h') ∧ 0 ≤ i' ∧ 0 ≤ x ∧ (1 ≤ n → x < n) := by
  unfold spec_l1Below.f
  by_cases c0 : n ≤ 0
  · rw [if_pos c0]
    exact ⟨_, _, _, rfl, hi, by omega, by omega⟩
  · rw [if_neg c0]
    by_cases c : n ≤ 256
    · rw [if_pos c]
      obtain ⟨x, i1, h1, e, x0, x1, hi1⟩ := byte_ok b i h hb hi
      rw [e]
      simp only [Option.bind_some]
      rw [if_neg (by omega)]
      exact ⟨_, _, _, rfl, hi1, Int.tmod_nonneg _ x0, fun _ => Int.tmod_lt_of_pos _ (by omega)⟩
    · rw [if_neg c]
      obtain ⟨x, i1, h1, e, x0, x1, hi1⟩ := byte_ok b i h hb hi
      rw [e]
      simp only [Option.bind_some]
      obtain ⟨y, i2, h2, e, y0, y1, hi2⟩ := byte_ok b i1 h1 hb hi1
      rw [e]
      simp only [Option.bind_some]
      obtain ⟨z, i3, h3, e, z0, z1, hi3⟩ := byte_ok b i2 h2 hb hi2
      rw [e]
      simp only [Option.bind_some]
      obtain ⟨u, i4, h4, e, u0, u1, hi4⟩ := byte_ok b i3 h3 hb hi3
      rw [e]
      simp only [Option.bind_some]
      rw [if_neg (by omega)]
      have hw : wrap64 (wrap64 (wrap64 (wrap64 (x * 16777216) + wrap64 (y * 65536)) + wrap64 (z * 256)) + u) = x * 16777216 + y * 65536 + z * 256 + u := by
        have e1 : wrap64 (x * 16777216) = x * 16777216 := by unfold wrap64; omega
        have e2 : wrap64 (y * 65536) = y * 65536 := by unfold wrap64; omega
        have e3 : wrap64 (z * 256) = z * 256 := by unfold wrap64; omega
        rw [e1, e2, e3]
        have e4 : wrap64 (x * 16777216 + y * 65536) = x * 16777216 + y * 65536 := by unfold wrap64; omega
        rw [e4]
        have e5 : wrap64 (x * 16777216 + y * 65536 + z * 256) = x * 16777216 + y * 65536 + z * 256 := by unfold wrap64; omega
        rw [e5]
        unfold wrap64
        omega
      rw [hw]
      exact ⟨_, _, _, rfl, hi4, Int.tmod_nonneg _ (by omega), fun _ => Int.tmod_lt_of_pos _ (by omega)⟩

theorem once_ok (b : List Int) (i h n : Int) (hb : b.length ≤ 4096) (hi : 0 ≤ i) :
    ∃ x i' h', spec_l1Once.f b i h n = some (x, i', h') ∧ 0 ≤ i' := by
  unfold spec_l1Once.f
  obtain ⟨x, i1, h1, e, hi1, _⟩ := below_ok b i h n hb hi
  rw [e]
  exact ⟨_, _, _, rfl, hi1⟩

theorem new_loop (l : List Int) (hl : l.length ≤ 4096) (d : Nat) : ∀ (k : Nat) (h i : Int), 0 ≤ i → i ≤ l.length → (l.length : Int) - i = d → d < k → ∃ h', spec_l1New.l0 k l h i = some (l, 0, h') := by
  induction d with
  | zero =>
    intro k h i h0 h1 hd hk
    obtain ⟨k, rfl⟩ : ∃ m, k = m + 1 := ⟨k - 1, by omega⟩
    exact ⟨h, by simp only [spec_l1New.l0]; rw [if_neg (by omega)]⟩
  | succ d ih =>
    intro k h i h0 h1 hd hk
    obtain ⟨k, rfl⟩ : ∃ m, k = m + 1 := ⟨k - 1, by omega⟩
    simp only [spec_l1New.l0]
    rw [if_pos (by omega), if_pos h0]
    have hw : wrap64 (i + 1) = i + 1 := by unfold wrap64; omega
    rw [hw]
    exact ih k _ (i + 1) (by omega) (by omega) (by omega) (by omega)

theorem new_ok (l : List Int) (hl : l.length ≤ 4096) (k : Nat) (hk : 4097 ≤ k) : ∃ h, spec_l1New.f k l = some (l, 0, h) := by
  unfold spec_l1New.f
  exact new_loop l hl l.length k _ 0 (by omega) (by omega) (by omega) (by omega)

theorem drawpx_ok (b : List Int) (i h : Int) (hb : b.length ≤ 4096) (hi : 0 ≤ i) :
    ∃ x0 x1 x2 x3 i' h', spec_l11DrawPx.f b i h = some (x0, x1, x2, x3, i', h') ∧ 0 ≤ i' := by
  unfold spec_l11DrawPx.f
  obtain ⟨a, i1, h1, e, hi1, _, _⟩ := below_ok b i h 256 hb hi
  rw [e]; simp only [Option.bind_some]; clear e
  obtain ⟨a2, i2, h2, e, hi2, _, _⟩ := below_ok b i1 h1 256 hb hi1
  rw [e]; simp only [Option.bind_some]; clear e
  obtain ⟨c, i3, h3, e, hi3, c0, c1⟩ := below_ok b i2 h2 8 hb hi2
  rw [e]; simp only [Option.bind_some]; clear e
  have c1 := c1 (by omega)
  rw [if_pos c0, if_pos (by simpa using c1)]
  generalize rd [0, 255, 255, 128, 1, 254, a, a2] c = A
  obtain ⟨x, i4, h4, e, hi4, _, _⟩ := below_ok b i3 h3 (wrap64 (A + 1)) hb hi3
  rw [e]; simp only [Option.bind_some]; clear e
  obtain ⟨y, i5, h5, e, hi5, _, _⟩ := below_ok b i4 h4 (wrap64 (A + 1)) hb hi4
  rw [e]; simp only [Option.bind_some]; clear e
  obtain ⟨z, i6, h6, e, hi6, _, _⟩ := below_ok b i5 h5 (wrap64 (A + 1)) hb hi5
  rw [e]; simp only [Option.bind_some]; clear e
  obtain ⟨o, i7, h7, e, hi7⟩ := once_ok b i6 h6 40 hb hi6
  rw [e]; simp only [Option.bind_some]; clear e
  split
  · obtain ⟨k, i8, h8, e, hi8, _, _⟩ := below_ok b i7 h7 3 hb hi7
    rw [e]; simp only [Option.bind_some]; clear e
    obtain ⟨u, i9, h9, e, hi9, u0, u1⟩ := below_ok b i8 h8 3 hb hi8
    have u1 := u1 (by omega)
    simp only [e, Option.bind_some]
    split
    · first | rw [if_pos u0, if_pos (by simpa using u1)] | rw [if_pos (by simpa using u1)]
      exact ⟨_, _, _, _, _, _, rfl, hi9⟩
    · split
      · first | rw [if_pos u0, if_pos (by simpa using u1)] | rw [if_pos (by simpa using u1)]
        exact ⟨_, _, _, _, _, _, rfl, hi9⟩
      · split
        · first | rw [if_pos u0, if_pos (by simpa using u1)] | rw [if_pos (by simpa using u1)]
          exact ⟨_, _, _, _, _, _, rfl, hi9⟩
        · exact ⟨_, _, _, _, _, _, rfl, hi8⟩
  · exact ⟨_, _, _, _, _, _, rfl, hi7⟩

/-- A part of two numbers. -/
def sh (a b : Int) : Int := (2 * (a * b) + 255) / 510

theorem sh_mono {a b c : Int} (h : a ≤ b) (hc : 0 ≤ c) : sh a c ≤ sh b c := by
  unfold sh
  have := Int.mul_le_mul_of_nonneg_right h hc
  omega

theorem sh_bd {a b : Int} (h0 : 0 ≤ a) (h1 : a ≤ 255) (h2 : 0 ≤ b) (h3 : b ≤ 255) : 0 ≤ sh a b ∧ sh a b ≤ b := share_bd h0 h1 h2 h3

theorem sh_full {a : Int} : sh a 255 = a := by unfold sh; omega
theorem sh_none {a : Int} : sh a 0 = 0 := by unfold sh; omega
theorem none_sh {a : Int} : sh 0 a = 0 := by unfold sh; omega

theorem sh_both {a b : Int} (h0 : 0 ≤ a) (h1 : a ≤ 255) (h2 : 0 ≤ b) (h3 : b ≤ 255) : -1 ≤ sh a b + sh a (255 - b) - a ∧ sh a b + sh a (255 - b) - a ≤ 1 := by
  unfold sh
  have e : a * (255 - b) = 255 * a - a * b := by rw [Int.mul_sub, Int.mul_comm a 255]
  rw [e]
  generalize a * b = m
  omega

/-- The four numbers. -/
theorem inside_val {a0 a1 a2 a3 b0 b1 b2 b3 : Int} (ha : Px a0 a1 a2 a3) (hb : Px b0 b1 b2 b3) : impl_Inside.f a0 a1 a2 a3 b0 b1 b2 b3 = some (sh a0 b3, sh a1 b3, sh a2 b3, sh a3 b3) := by
  unfold impl_Inside.f impl_ofRight.f
  simp only [px_some, Option.bind_some, decide_eq_true_eq]
  rw [if_pos ha, if_pos hb]
  obtain ⟨p0, p1, p2, p3, p4, p5, p6, p7⟩ := ha
  obtain ⟨q0, q1, q2, q3, q4, q5, q6, q7⟩ := hb
  have s0 := share_val (a := a0) (b := b3) (by omega) (by omega) (by omega) (by omega)
  have s1 := share_val (a := a1) (b := b3) (by omega) (by omega) (by omega) (by omega)
  have s2 := share_val (a := a2) (b := b3) (by omega) (by omega) (by omega) (by omega)
  have s3 := share_val (a := a3) (b := b3) (by omega) (by omega) (by omega) (by omega)
  simp only [impl_ofEach.f, GA.f, impl_Inside_1.g, s0, s1, s2, s3, Option.bind_some, sh]

theorem outside_val {a0 a1 a2 a3 b0 b1 b2 b3 : Int} (ha : Px a0 a1 a2 a3) (hb : Px b0 b1 b2 b3) : impl_Outside.f a0 a1 a2 a3 b0 b1 b2 b3 = some (sh a0 (255 - b3), sh a1 (255 - b3), sh a2 (255 - b3), sh a3 (255 - b3)) := by
  unfold impl_Outside.f impl_ofRight.f
  simp only [px_some, Option.bind_some, decide_eq_true_eq]
  rw [if_pos ha, if_pos hb]
  obtain ⟨p0, p1, p2, p3, p4, p5, p6, p7⟩ := ha
  obtain ⟨q0, q1, q2, q3, q4, q5, q6, q7⟩ := hb
  have w : wrap64 (255 - b3) = 255 - b3 := by unfold wrap64; omega
  have s0 := share_val (a := a0) (b := 255 - b3) (by omega) (by omega) (by omega) (by omega)
  have s1 := share_val (a := a1) (b := 255 - b3) (by omega) (by omega) (by omega) (by omega)
  have s2 := share_val (a := a2) (b := 255 - b3) (by omega) (by omega) (by omega) (by omega)
  have s3 := share_val (a := a3) (b := 255 - b3) (by omega) (by omega) (by omega) (by omega)
  simp only [impl_ofEach.f, GA.f, impl_Outside_1.g, w, s0, s1, s2, s3, Option.bind_some, sh]

theorem over_val {a0 a1 a2 a3 b0 b1 b2 b3 : Int} (ha : Px a0 a1 a2 a3) (hb : Px b0 b1 b2 b3) : impl_Over.f a0 a1 a2 a3 b0 b1 b2 b3 = some (a0 + sh b0 (255 - a3), a1 + sh b1 (255 - a3), a2 + sh b2 (255 - a3), a3 + sh b3 (255 - a3)) := by
  unfold impl_Over.f impl_ofRight.f
  simp only [px_some, Option.bind_some, decide_eq_true_eq]
  rw [if_pos ha, if_pos hb]
  obtain ⟨p0, p1, p2, p3, p4, p5, p6, p7⟩ := ha
  obtain ⟨q0, q1, q2, q3, q4, q5, q6, q7⟩ := hb
  have w : wrap64 (255 - a3) = 255 - a3 := by unfold wrap64; omega
  have s0 := share_val (a := b0) (b := 255 - a3) (by omega) (by omega) (by omega) (by omega)
  have s1 := share_val (a := b1) (b := 255 - a3) (by omega) (by omega) (by omega) (by omega)
  have s2 := share_val (a := b2) (b := 255 - a3) (by omega) (by omega) (by omega) (by omega)
  have s3 := share_val (a := b3) (b := 255 - a3) (by omega) (by omega) (by omega) (by omega)
  have t0 := share_bd (a := b0) (b := 255 - a3) (by omega) (by omega) (by omega) (by omega)
  have t1 := share_bd (a := b1) (b := 255 - a3) (by omega) (by omega) (by omega) (by omega)
  have t2 := share_bd (a := b2) (b := 255 - a3) (by omega) (by omega) (by omega) (by omega)
  have t3 := share_bd (a := b3) (b := 255 - a3) (by omega) (by omega) (by omega) (by omega)
  simp only [impl_ofEach.f, GA.f, impl_Over_1.g, w, s0, s1, s2, s3, Option.bind_some]
  unfold sh
  generalize (2 * (b0 * (255 - a3)) + 255) / 510 = x0 at *
  generalize (2 * (b1 * (255 - a3)) + 255) / 510 = x1 at *
  generalize (2 * (b2 * (255 - a3)) + 255) / 510 = x2 at *
  generalize (2 * (b3 * (255 - a3)) + 255) / 510 = x3 at *
  have w0 : wrap64 (a0 + x0) = a0 + x0 := by unfold wrap64; omega
  have w1 : wrap64 (a1 + x1) = a1 + x1 := by unfold wrap64; omega
  have w2 : wrap64 (a2 + x2) = a2 + x2 := by unfold wrap64; omega
  have w3 : wrap64 (a3 + x3) = a3 + x3 := by unfold wrap64; omega
  rw [w0, w1, w2, w3]

theorem added_val {a0 a1 a2 a3 b0 b1 b2 b3 : Int} (ha : Px a0 a1 a2 a3) (hb : Px b0 b1 b2 b3) : impl_Added.f a0 a1 a2 a3 b0 b1 b2 b3 = some (mn 255 (a0 + b0), mn 255 (a1 + b1), mn 255 (a2 + b2), mn 255 (a3 + b3)) := by
  unfold impl_Added.f impl_ofRight.f
  simp only [px_some, Option.bind_some, decide_eq_true_eq]
  rw [if_pos ha, if_pos hb]
  obtain ⟨p0, p1, p2, p3, p4, p5, p6, p7⟩ := ha
  obtain ⟨q0, q1, q2, q3, q4, q5, q6, q7⟩ := hb
  have w0 : wrap64 (a0 + b0) = a0 + b0 := by unfold wrap64; omega
  have w1 : wrap64 (a1 + b1) = a1 + b1 := by unfold wrap64; omega
  have w2 : wrap64 (a2 + b2) = a2 + b2 := by unfold wrap64; omega
  have w3 : wrap64 (a3 + b3) = a3 + b3 := by unfold wrap64; omega
  simp only [impl_ofEach.f, GA.f, fv38, impl_Added_1.f, w0, w1, w2, w3, Option.bind_some]

theorem right_no {a0 a1 a2 a3 b0 b1 b2 b3 : Int} (h : ¬ (Px a0 a1 a2 a3 ∧ Px b0 b1 b2 b3)) (f : GtA) : impl_ofRight.f a0 a1 a2 a3 b0 b1 b2 b3 f = some (0, 0, 0, 0) := by
  unfold impl_ofRight.f
  simp only [px_some, Option.bind_some, decide_eq_true_eq]
  by_cases ha : Px a0 a1 a2 a3
  · rw [if_pos ha, if_neg (fun hb => h ⟨ha, hb⟩)]
  · rw [if_neg ha]

theorem over_eq (a0 a1 a2 a3 b0 b1 b2 b3 : Int) : spec_Over.f a0 a1 a2 a3 b0 b1 b2 b3 = impl_Over.f a0 a1 a2 a3 b0 b1 b2 b3 := by
  unfold spec_Over.f impl_Over.f impl_ofRight.f
  simp only [px_some, spx_some, Option.bind_some, decide_eq_true_eq]
  by_cases ha : Px a0 a1 a2 a3
  · by_cases hb : Px b0 b1 b2 b3
    · simp only [if_pos ha, if_pos hb]
      obtain ⟨v0, h0⟩ := share_ex b0 (wrap64 (255 - a3))
      obtain ⟨v1, h1⟩ := share_ex b1 (wrap64 (255 - a3))
      obtain ⟨v2, h2⟩ := share_ex b2 (wrap64 (255 - a3))
      obtain ⟨v3, h3⟩ := share_ex b3 (wrap64 (255 - a3))
      simp [spec_l11Over.f, spec_l11Scale.f, impl_ofEach.f, GA.f, impl_Over_1.g, part_eq, h0, h1, h2, h3]
    · simp [ha, hb]
  · simp [ha]

theorem inside_eq (a0 a1 a2 a3 b0 b1 b2 b3 : Int) : spec_Inside.f a0 a1 a2 a3 b0 b1 b2 b3 = impl_Inside.f a0 a1 a2 a3 b0 b1 b2 b3 := by
  unfold spec_Inside.f impl_Inside.f impl_ofRight.f
  simp only [px_some, spx_some, Option.bind_some, decide_eq_true_eq]
  by_cases ha : Px a0 a1 a2 a3
  · by_cases hb : Px b0 b1 b2 b3
    · simp only [if_pos ha, if_pos hb]
      obtain ⟨v0, h0⟩ := share_ex a0 b3
      obtain ⟨v1, h1⟩ := share_ex a1 b3
      obtain ⟨v2, h2⟩ := share_ex a2 b3
      obtain ⟨v3, h3⟩ := share_ex a3 b3
      simp [spec_l11Scale.f, impl_ofEach.f, GA.f, impl_Inside_1.g, part_eq, h0, h1, h2, h3]
    · simp [ha, hb]
  · simp [ha]

theorem outside_eq (a0 a1 a2 a3 b0 b1 b2 b3 : Int) : spec_Outside.f a0 a1 a2 a3 b0 b1 b2 b3 = impl_Outside.f a0 a1 a2 a3 b0 b1 b2 b3 := by
  unfold spec_Outside.f impl_Outside.f impl_ofRight.f
  simp only [px_some, spx_some, Option.bind_some, decide_eq_true_eq]
  by_cases ha : Px a0 a1 a2 a3
  · by_cases hb : Px b0 b1 b2 b3
    · simp only [if_pos ha, if_pos hb]
      obtain ⟨v0, h0⟩ := share_ex a0 (wrap64 (255 - b3))
      obtain ⟨v1, h1⟩ := share_ex a1 (wrap64 (255 - b3))
      obtain ⟨v2, h2⟩ := share_ex a2 (wrap64 (255 - b3))
      obtain ⟨v3, h3⟩ := share_ex a3 (wrap64 (255 - b3))
      simp [spec_l11Scale.f, impl_ofEach.f, GA.f, impl_Outside_1.g, part_eq, h0, h1, h2, h3]
    · simp [ha, hb]
  · simp [ha]

theorem added_eq (k : Nat) (hk : 0 < k) (a0 a1 a2 a3 b0 b1 b2 b3 : Int) : spec_Added.f k a0 a1 a2 a3 b0 b1 b2 b3 = impl_Added.f a0 a1 a2 a3 b0 b1 b2 b3 := by
  obtain ⟨k, rfl⟩ : ∃ m, k = m + 1 := ⟨k - 1, by omega⟩
  unfold spec_Added.f impl_Added.f impl_ofRight.f
  simp only [spec_Added.j0, px_some, spx_some, Option.bind_some, decide_eq_true_eq]
  have hm : ∀ x : Int, spec_l1Min.f 255 x = some (mn 255 x) := by
    intro x
    unfold spec_l1Min.f mn
    by_cases h : (255 : Int) < x
    · rw [if_pos h, if_neg (by omega)]
    · rw [if_neg h]
      by_cases h2 : x < 255
      · rw [if_pos h2]
      · rw [if_neg h2, show x = 255 by omega]
  by_cases ha : Px a0 a1 a2 a3
  · by_cases hb : Px b0 b1 b2 b3
    · simp [ha, hb, hm, impl_ofEach.f, GA.f, fv38, impl_Added_1.f]
    · simp [ha, hb]
  · simp [ha]

theorem draw_two (l0 : List Int) (hb : l0.length ≤ 4096) : ∃ a0 a1 a2 a3 b0 b1 b2 b3, spec_DrawOver.f 4097 l0 = some (a0, a1, a2, a3, b0, b1, b2, b3) := by
  obtain ⟨hh, hnew⟩ := new_ok l0 hb 4097 (by omega)
  obtain ⟨a0, a1, a2, a3, i1, h1, hd, hi1⟩ := drawpx_ok l0 0 hh hb (by omega)
  obtain ⟨b0, b1, b2, b3, i2, h2, hd2, hi2⟩ := drawpx_ok l0 i1 h1 hb hi1
  refine ⟨a0, a1, a2, a3, b0, b1, b2, b3, ?_⟩
  unfold spec_DrawOver.f
  rw [hnew]
  simp only [Option.bind_some]
  rw [hd]
  simp only [Option.bind_some]
  rw [hd2]
  rfl

theorem mn_px {a b : Int} (ha : 0 ≤ a) (hb : 0 ≤ b) : 0 ≤ mn 255 (a + b) ∧ mn 255 (a + b) ≤ 255 := by
  unfold mn
  split <;> omega
theorem mn_mono {a b : Int} (h : a ≤ b) : mn 255 a ≤ mn 255 b := by
  unfold mn
  split <;> split <;> omega

theorem FnLayers : laws_FnLayers.Pure := by
  intro l0 _ _ _
  unfold laws_FnLayers.f laws_big.f
  simp only [Option.bind_some, decide_eq_true_eq]
  by_cases hbig : (l0.length : Int) > 4096
  · exact ⟨1, by rw [if_pos hbig]⟩
  refine ⟨4097, ?_⟩
  rw [if_neg hbig]
  have hb : l0.length ≤ 4096 := by omega
  obtain ⟨a0, a1, a2, a3, b0, b1, b2, b3, e1⟩ := draw_two l0 hb
  rw [e1]
  simp only [Option.bind_some]
  rw [over_eq, inside_eq, outside_eq]
  simp only [added_eq 4097 (by omega)]
  by_cases hp : Px a0 a1 a2 a3 ∧ Px b0 b1 b2 b3
  · obtain ⟨ha, hbp⟩ := hp
    rw [over_val ha hbp, inside_val ha hbp, outside_val ha hbp, added_val ha hbp]
    have hz : Px 0 0 0 0 := by unfold Px; omega
    have ov := over_val ha hz
    have ov2 := over_val hz ha
    have pa := ha
    have pb := hbp
    obtain ⟨p0, p1, p2, p3, p4, p5, p6, p7⟩ := pa
    obtain ⟨q0, q1, q2, q3, q4, q5, q6, q7⟩ := pb
    have pxI : Px (sh a0 b3) (sh a1 b3) (sh a2 b3) (sh a3 b3) :=
      ⟨(sh_bd p0 p1 q0 q1).1, Int.le_trans (sh_bd p0 p1 q0 q1).2 q1, (sh_bd p2 (by omega) q0 q1).1, sh_mono p3 q0, (sh_bd p4 (by omega) q0 q1).1, sh_mono p5 q0, (sh_bd p6 (by omega) q0 q1).1, sh_mono p7 q0⟩
    have c0 : 0 ≤ 255 - b3 := by omega
    have c1 : 255 - b3 ≤ 255 := by omega
    have pxU : Px (sh a0 (255 - b3)) (sh a1 (255 - b3)) (sh a2 (255 - b3)) (sh a3 (255 - b3)) :=
      ⟨(sh_bd p0 p1 c0 c1).1, Int.le_trans (sh_bd p0 p1 c0 c1).2 c1, (sh_bd p2 (by omega) c0 c1).1, sh_mono p3 c0, (sh_bd p4 (by omega) c0 c1).1, sh_mono p5 c0, (sh_bd p6 (by omega) c0 c1).1, sh_mono p7 c0⟩
    have d0 : 0 ≤ 255 - a3 := by omega
    have d1 : 255 - a3 ≤ 255 := by omega
    have pxO : Px (a0 + sh b0 (255 - a3)) (a1 + sh b1 (255 - a3)) (a2 + sh b2 (255 - a3)) (a3 + sh b3 (255 - a3)) := by
      have t0 := sh_bd (a := b0) (b := 255 - a3) (by omega) (by omega) d0 d1
      have t1 := sh_bd (a := b1) (b := 255 - a3) (by omega) (by omega) d0 d1
      have t2 := sh_bd (a := b2) (b := 255 - a3) (by omega) (by omega) d0 d1
      have t3 := sh_bd (a := b3) (b := 255 - a3) (by omega) (by omega) d0 d1
      have u0 := sh_mono q3 d0
      have u1 := sh_mono q5 d0
      have u2 := sh_mono q7 d0
      unfold Px
      omega
    have pxD : Px (mn 255 (a0 + b0)) (mn 255 (a1 + b1)) (mn 255 (a2 + b2)) (mn 255 (a3 + b3)) :=
      ⟨(mn_px p0 q0).1, (mn_px p0 q0).2, (mn_px p2 q2).1, mn_mono (by omega), (mn_px p4 q4).1, mn_mono (by omega), (mn_px p6 q6).1, mn_mono (by omega)⟩
    have x0 := sh_both (a := a0) (b := b3) (by omega) (by omega) q0 q1
    have x1 := sh_both (a := a3) (b := b3) (by omega) (by omega) q0 q1
    have s0 := sh_bd (a := a0) (b := b3) (by omega) (by omega) q0 q1
    have s1 := sh_bd (a := a3) (b := b3) (by omega) (by omega) q0 q1
    have s2 := sh_bd (a := a0) (b := 255 - b3) (by omega) (by omega) c0 c1
    have s3 := sh_bd (a := a3) (b := 255 - b3) (by omega) (by omega) c0 c1
    have w0 : wrap64 (wrap64 (sh a0 b3 + sh a0 (255 - b3)) - a0) = sh a0 b3 + sh a0 (255 - b3) - a0 := by unfold wrap64; omega
    have w1 : wrap64 (wrap64 (sh a3 b3 + sh a3 (255 - b3)) - a3) = sh a3 b3 + sh a3 (255 - b3) - a3 := by unfold wrap64; omega
    have g0 : sh a0 b3 + sh a0 (255 - b3) - a0 ≥ -1 := x0.1
    have g1 : sh a3 b3 + sh a3 (255 - b3) - a3 ≥ -1 := x1.1
    simp only [Option.bind_some, bne_self_eq_false, beq_self_eq_true, Bool.not_true, Bool.or_self, Bool.false_eq_true, if_false]
    simp only [none_sh, Int.add_zero] at ov
    simp only [Int.sub_zero, sh_full, Int.zero_add] at ov2
    have fin : laws_FnLayers.j1 4096 false a0 a1 a2 a3 (a0 + sh b0 (255 - a3)) (a1 + sh b1 (255 - a3)) (a2 + sh b2 (255 - a3)) (a3 + sh b3 (255 - a3)) (sh a0 b3) (sh a1 b3) (sh a2 b3) (sh a3 b3) (sh a0 (255 - b3)) (sh a1 (255 - b3)) (sh a2 (255 - b3)) (sh a3 (255 - b3)) (mn 255 (a0 + b0)) (mn 255 (a1 + b1)) (mn 255 (a2 + b2)) (mn 255 (a3 + b3)) = some true := by
      simp only [laws_FnLayers.j1]
      rw [if_neg (by decide)]
      simp only [px_some, Option.bind_some, pxO, pxI, pxU, pxD, decide_true, if_true, ov, ov2, w0, w1, beq_self_eq_true, Bool.and_self]
      by_cases c : a3 < 255
      · rw [if_pos c, if_pos g0, if_pos x0.2, if_pos g1]
        simp [x1.2]
      · have : a3 = 255 := by omega
        subst this
        rw [if_neg c]
        have z : ∀ x y : Int, (x + sh y (255 - 255) == x) = true := by
          intro x y
          have : sh y (255 - 255) = 0 := sh_none
          rw [this]
          simp
        simp only [z, Bool.and_self, if_true]
        rw [if_pos g0, if_pos x0.2, if_pos g1]
        simp [x1.2]
    simp only [laws_FnLayers.j0]
    rw [if_neg (by decide)]
    simp only [spx_some, Option.bind_some, ha, hbp, decide_true, if_true, Bool.not_true]
    exact fin
  · have hn : ∀ f, impl_ofRight.f a0 a1 a2 a3 b0 b1 b2 b3 f = some (0, 0, 0, 0) := right_no hp
    simp only [impl_Over.f, impl_Inside.f, impl_Outside.f, impl_Added.f, hn, Option.bind_some, beq_self_eq_true, Bool.not_true, Bool.or_self, Bool.false_eq_true, if_false, laws_FnLayers.j0, spx_some]
    by_cases ha : Px a0 a1 a2 a3
    · have hbn : ¬ Px b0 b1 b2 b3 := fun hb => hp ⟨ha, hb⟩
      simp [ha, hbn, laws_FnLayers.j1]
    · simp [ha, laws_FnLayers.j1]

end Go.Proofs.Ytipmhlajjdnhoaa.Pure
