/- Proved: the plain law behind FnPlainPx: whatever the draw, it answers true. No condition. -/
import Derived.Test.YtipmhlajjdnhoaaPFnPlainPxx5
namespace Go.Proofs.Ytipmhlajjdnhoaa.Pure
open Go.RowKit Go.Proofs.Ytipmhlajjdnhoaa.PFnPlainPx Go.Proofs.YtipmhlajjdnhoaaW.PrintWords Go.Proofs.YtipmhlajjdnhoaaW.PrintLast

set_option linter.unusedVariables false
set_option linter.unusedSimpArgs false
theorem in_eq (a b c : Int) : spec_l1In.f a b c = impl_in.f a b c := rfl

theorem in_some (a b c : Int) : impl_in.f a b c = some (decide (b ≤ a ∧ a ≤ c)) := by
  unfold impl_in.f
  by_cases h : b ≤ a
  · simp [h]
  · simp [h]


/-- A pixel that is right. -/
def Px (r g b a : Int) : Prop := 0 ≤ a ∧ a ≤ 255 ∧ 0 ≤ r ∧ r ≤ a ∧ 0 ≤ g ∧ g ≤ a ∧ 0 ≤ b ∧ b ≤ a
instance (r g b a : Int) : Decidable (Px r g b a) := by unfold Px; exact inferInstance

theorem px_some (r g b a : Int) : impl_PxOk.f r g b a = some (decide (Px r g b a)) := by
  unfold impl_PxOk.f impl_isByte.f Px
  simp only [in_some, Option.bind_some, decide_eq_true_eq]
  by_cases h1 : 0 ≤ a ∧ a ≤ 255 <;> by_cases h2 : 0 ≤ r ∧ r ≤ a <;> by_cases h3 : 0 ≤ g ∧ g ≤ a <;> by_cases h4 : 0 ≤ b ∧ b ≤ a <;> simp [h1, h2, h3, h4] <;> omega

theorem spx_some (r g b a : Int) : spec_PxOk.f r g b a = some (decide (Px r g b a)) := by
  have h : spec_PxOk.f r g b a = impl_PxOk.f r g b a := rfl
  rw [h, px_some]

theorem down_some (a b : Int) (hb : b ≠ 0) : ∃ v, impl_down.f a b = some v := by
  unfold impl_down.f
  rw [if_neg hb]
  split
  · exact ⟨_, rfl⟩
  · exact ⟨_, rfl⟩

theorem near_ex (a b : Int) (hb : wrap64 (2 * b) ≠ 0) : ∃ v, impl_near.f a b = some v := by
  unfold impl_near.f
  obtain ⟨v, hv⟩ := down_some (wrap64 (wrap64 (2 * a) + b)) (wrap64 (2 * b)) hb
  exact ⟨v, by rw [hv]; rfl⟩

theorem and255 (n : Int) : Go.bits .and .i64 n 255 = n % 256 := by
  have h127 : (BitVec.ofInt 64 255).toNat = 2 ^ 8 - 1 := by decide
  have key : (BitVec.ofInt 64 n &&& BitVec.ofInt 64 255).toNat = (n % ((2 ^ 64 : Nat) : Int)).toNat % 2 ^ 8 := by
    rw [BitVec.toNat_and, BitVec.toNat_ofInt, h127, Nat.and_two_pow_sub_one_eq_mod]
  show IntKind.i64.wrap ((BitVec.ofInt 64 n &&& BitVec.ofInt 64 255).toNat : Nat) = n % 256
  rw [key, IntKind.wrap_i64]
  omega

theorem byte_ok (b : List Int) (i h : Int) (hb : b.length ≤ 4096) (hi : 0 ≤ i) :
    ∃ x i' h', spec_l1Byte.f b i h = some (x, i', h') ∧ 0 ≤ x ∧ x ≤ 255 ∧ 0 ≤ i' := by
  unfold spec_l1Byte.f
  simp only [and255]
  by_cases c : i < (b.length : Int)
  · rw [if_pos c, if_pos hi]
    have hw : wrap64 (i + 1) = i + 1 := by unfold wrap64; omega
    rw [hw]
    exact ⟨_, _, _, rfl, by omega, by omega, by omega⟩
  · rw [if_neg c]
    exact ⟨_, _, _, rfl, by omega, by omega, hi⟩

theorem below_ok (b : List Int) (i h n : Int) (hb : b.length ≤ 4096) (hi : 0 ≤ i) :
    ∃ x i' h', spec_l1Below.f b i h n = some (x, i', h') ∧ 0 ≤ i' ∧ 0 ≤ x ∧ (1 ≤ n → x < n) := by
  unfold spec_l1Below.f
  by_cases c0 : n ≤ 0
  · rw [if_pos c0]
    exact ⟨_, _, _, rfl, hi, by omega, by omega⟩
  · rw [if_neg c0]
    by_cases c : n ≤ 256
    · rw [if_pos c]
      obtain ⟨x, i1, h1, e, x0, x1, hi1⟩ := byte_ok b i h hb hi
      rw [e]
      simp only [Option.bind_some]
      rw [if_neg (by omega)]
      exact ⟨_, _, _, rfl, hi1, Int.tmod_nonneg _ x0, fun _ => Int.tmod_lt_of_pos _ (by omega)⟩
    · rw [if_neg c]
      obtain ⟨x, i1, h1, e, x0, x1, hi1⟩ := byte_ok b i h hb hi
      rw [e]
      simp only [Option.bind_some]
      obtain ⟨y, i2, h2, e, y0, y1, hi2⟩ := byte_ok b i1 h1 hb hi1
      rw [e]
      simp only [Option.bind_some]
      obtain ⟨z, i3, h3, e, z0, z1, hi3⟩ := byte_ok b i2 h2 hb hi2
      rw [e]
      simp only [Option.bind_some]
      obtain ⟨u, i4, h4, e, u0, u1, hi4⟩ := byte_ok b i3 h3 hb hi3
      rw [e]
      simp only [Option.bind_some]
      rw [if_neg (by omega)]
      have hw : wrap64 (wrap64 (wrap64 (wrap64 (x * 16777216) + wrap64 (y * 65536)) + wrap64 (z * 256)) + u) = x * 16777216 + y * 65536 + z * 256 + u := by
        have e1 : wrap64 (x * 16777216) = x * 16777216 := by unfold wrap64; omega
        have e2 : wrap64 (y * 65536) = y * 65536 := by unfold wrap64; omega
        have e3 : wrap64 (z * 256) = z * 256 := by unfold wrap64; omega
        rw [e1, e2, e3]
        have e4 : wrap64 (x * 16777216 + y * 65536) = x * 16777216 + y * 65536 := by unfold wrap64; omega
        rw [e4]
        have e5 : wrap64 (x * 16777216 + y * 65536 + z * 256) = x * 16777216 + y * 65536 + z * 256 := by unfold wrap64; omega
        rw [e5]
        unfold wrap64
        omega
      rw [hw]
      exact ⟨_, _, _, rfl, hi4, Int.tmod_nonneg _ (by omega), fun _ => Int.tmod_lt_of_pos _ (by omega)⟩

theorem once_ok (b : List Int) (i h n : Int) (hb : b.length ≤ 4096) (hi : 0 ≤ i) :
    ∃ x i' h', spec_l1Once.f b i h n = some (x, i', h') ∧ 0 ≤ i' := by
  unfold spec_l1Once.f
  obtain ⟨x, i1, h1, e, hi1, _⟩ := below_ok b i h n hb hi
  rw [e]
  exact ⟨_, _, _, rfl, hi1⟩

theorem new_loop (l : List Int) (hl : l.length ≤ 4096) (d : Nat) : ∀ (k : Nat) (h i : Int), 0 ≤ i → i ≤ l.length → (l.length : Int) - i = d → d < k → ∃ h', spec_l1New.l0 k l h i = some (l, 0, h') := by
  induction d with
  | zero =>
    intro k h i h0 h1 hd hk
    obtain ⟨k, rfl⟩ : ∃ m, k = m + 1 := ⟨k - 1, by omega⟩
    exact ⟨h, by simp only [spec_l1New.l0]; rw [if_neg (by omega)]⟩
  | succ d ih =>
    intro k h i h0 h1 hd hk
    obtain ⟨k, rfl⟩ : ∃ m, k = m + 1 := ⟨k - 1, by omega⟩
    simp only [spec_l1New.l0]
    rw [if_pos (by omega), if_pos h0]
    have hw : wrap64 (i + 1) = i + 1 := by unfold wrap64; omega
    rw [hw]
    exact ih k _ (i + 1) (by omega) (by omega) (by omega) (by omega)

theorem new_ok (l : List Int) (hl : l.length ≤ 4096) (k : Nat) (hk : 4097 ≤ k) : ∃ h, spec_l1New.f k l = some (l, 0, h) := by
  unfold spec_l1New.f
  exact new_loop l hl l.length k _ 0 (by omega) (by omega) (by omega) (by omega)

theorem drawpx_ok (b : List Int) (i h : Int) (hb : b.length ≤ 4096) (hi : 0 ≤ i) :
    ∃ x0 x1 x2 x3 i' h', spec_l11DrawPx.f b i h = some (x0, x1, x2, x3, i', h') ∧ 0 ≤ i' := by
  unfold spec_l11DrawPx.f
  obtain ⟨a, i1, h1, e, hi1, _, _⟩ := below_ok b i h 256 hb hi
  rw [e]; simp only [Option.bind_some]; clear e
  obtain ⟨a2, i2, h2, e, hi2, _, _⟩ := below_ok b i1 h1 256 hb hi1
  rw [e]; simp only [Option.bind_some]; clear e
  obtain ⟨c, i3, h3, e, hi3, c0, c1⟩ := below_ok b i2 h2 8 hb hi2
  rw [e]; simp only [Option.bind_some]; clear e
  have c1 := c1 (by omega)
  rw [if_pos c0, if_pos (by simpa using c1)]
  generalize rd [0, 255, 255, 128, 1, 254, a, a2] c = A
  obtain ⟨x, i4, h4, e, hi4, _, _⟩ := below_ok b i3 h3 (wrap64 (A + 1)) hb hi3
  rw [e]; simp only [Option.bind_some]; clear e
  obtain ⟨y, i5, h5, e, hi5, _, _⟩ := below_ok b i4 h4 (wrap64 (A + 1)) hb hi4
  rw [e]; simp only [Option.bind_some]; clear e
  obtain ⟨z, i6, h6, e, hi6, _, _⟩ := below_ok b i5 h5 (wrap64 (A + 1)) hb hi5
  rw [e]; simp only [Option.bind_some]; clear e
  obtain ⟨o, i7, h7, e, hi7⟩ := once_ok b i6 h6 40 hb hi6
  rw [e]; simp only [Option.bind_some]; clear e
  split
  · obtain ⟨k, i8, h8, e, hi8, _, _⟩ := below_ok b i7 h7 3 hb hi7
    rw [e]; simp only [Option.bind_some]; clear e
    obtain ⟨u, i9, h9, e, hi9, u0, u1⟩ := below_ok b i8 h8 3 hb hi8
    have u1 := u1 (by omega)
    simp only [e, Option.bind_some]
    split
    · first | rw [if_pos u0, if_pos (by simpa using u1)] | rw [if_pos (by simpa using u1)]
      exact ⟨_, _, _, _, _, _, rfl, hi9⟩
    · split
      · first | rw [if_pos u0, if_pos (by simpa using u1)] | rw [if_pos (by simpa using u1)]
        exact ⟨_, _, _, _, _, _, rfl, hi9⟩
      · split
        · first | rw [if_pos u0, if_pos (by simpa using u1)] | rw [if_pos (by simpa using u1)]
          exact ⟨_, _, _, _, _, _, rfl, hi9⟩
        · exact ⟨_, _, _, _, _, _, rfl, hi8⟩
  · exact ⟨_, _, _, _, _, _, rfl, hi7⟩

theorem down_val (a b : Int) (ha : 0 ≤ a) (ha2 : a ≤ 9223372036854775807) (hb : 1 ≤ b) : impl_down.f a b = some (a / b) := by
  unfold impl_down.f
  rw [if_neg (by omega)]
  have h1 := Int.tmod_nonneg b ha
  rw [if_neg (by omega), Int.tdiv_eq_ediv_of_nonneg ha]
  have h2 : 0 ≤ a / b := Int.ediv_nonneg ha (by omega)
  have h3 : a / b ≤ a := Int.ediv_le_self b ha
  have : wrap64 (a / b) = a / b := by unfold wrap64; omega
  rw [this]

theorem near_val (a b : Int) (ha : 0 ≤ a) (ha2 : a ≤ 1000000000000) (hb : 1 ≤ b) (hb2 : b ≤ 1000000000000) : impl_near.f a b = some ((2 * a + b) / (2 * b)) := by
  unfold impl_near.f
  have e1 : wrap64 (2 * a) = 2 * a := by unfold wrap64; omega
  have e2 : wrap64 (2 * b) = 2 * b := by unfold wrap64; omega
  rw [e1, e2]
  have e3 : wrap64 (2 * a + b) = 2 * a + b := by unfold wrap64; omega
  rw [e3, down_val _ _ (by omega) (by omega) (by omega)]
  rfl

theorem mul_bd {a b : Int} (h0 : 0 ≤ a) (h1 : a ≤ 255) (h2 : 0 ≤ b) (h3 : b ≤ 255) : 0 ≤ a * b ∧ a * b ≤ 65025 :=
  ⟨Int.mul_nonneg h0 h2, by have := Int.mul_le_mul h1 h3 h2 (by omega : (0 : Int) ≤ 255); omega⟩

theorem share_val {a b : Int} (h0 : 0 ≤ a) (h1 : a ≤ 255) (h2 : 0 ≤ b) (h3 : b ≤ 255) : impl_share.f a b = some ((2 * (a * b) + 255) / 510) := by
  unfold impl_share.f
  obtain ⟨m0, m1⟩ := mul_bd h0 h1 h2 h3
  have e : wrap64 (a * b) = a * b := by unfold wrap64; omega
  rw [e, near_val _ _ m0 (by omega) (by omega) (by omega)]
  rfl

theorem share_bd {a b : Int} (h0 : 0 ≤ a) (h1 : a ≤ 255) (h2 : 0 ≤ b) (h3 : b ≤ 255) : 0 ≤ (2 * (a * b) + 255) / 510 ∧ (2 * (a * b) + 255) / 510 ≤ b := by
  have m1 : a * b ≤ 255 * b := Int.mul_le_mul_of_nonneg_right h1 h2
  have m0 := (mul_bd h0 h1 h2 h3).1
  omega

theorem drawpremul_ok (l0 : List Int) (hb : l0.length ≤ 4096) : ∃ q0 q1 q2 q3, spec_DrawPremul.f 4097 l0 = some (q0, q1, q2, q3) := by
  unfold spec_DrawPremul.f
  obtain ⟨hh, hnew⟩ := new_ok l0 hb 4097 (by omega)
  rw [hnew]; simp only [Option.bind_some]
  obtain ⟨x, i4, h4, e, hi4, _, _⟩ := below_ok l0 0 hh 256 hb (by omega)
  rw [e]; simp only [Option.bind_some]; clear e
  obtain ⟨y, i5, h5, e, hi5, _, _⟩ := below_ok l0 i4 h4 256 hb hi4
  rw [e]; simp only [Option.bind_some]; clear e
  obtain ⟨z, i6, h6, e, hi6, _, _⟩ := below_ok l0 i5 h5 256 hb hi5
  rw [e]; simp only [Option.bind_some]; clear e
  obtain ⟨u, i7, h7, e, hi7, _, _⟩ := below_ok l0 i6 h6 256 hb hi6
  rw [e]; simp only [Option.bind_some]; clear e
  obtain ⟨o, i8, h8, e, hi8⟩ := once_ok l0 i7 h7 12 hb hi7
  rw [e]; simp only [Option.bind_some]; clear e
  split
  · obtain ⟨a, b, c, d, i9, h9, e, _⟩ := drawpx_ok l0 i8 h8 hb hi8
    rw [e]
    exact ⟨_, _, _, _, rfl⟩
  · exact ⟨_, _, _, _, rfl⟩

theorem plain_eq (R G B A : Int) : spec_Plain.f 4097 R G B A = impl_Plain.f R G B A := by
  unfold spec_Plain.f spec_Plain.j0 impl_Plain.f
  simp only [px_some, spx_some, Option.bind_some, decide_eq_true_eq]
  have hr : ∀ a b : Int, spec_l9Round.f a b = impl_near.f a b := fun a b => rfl
  by_cases ha : Px R G B A
  · by_cases h : A = 0
    · simp [ha, h]
    · have hd : wrap64 (2 * A) ≠ 0 := by
        obtain ⟨h1, h2, _⟩ := ha
        unfold wrap64
        omega
      obtain ⟨v0, h0⟩ := near_ex (wrap64 (255 * R)) A hd
      obtain ⟨v1, h1⟩ := near_ex (wrap64 (255 * G)) A hd
      obtain ⟨v2, h2⟩ := near_ex (wrap64 (255 * B)) A hd
      obtain ⟨v3, h3⟩ := near_ex (wrap64 (255 * A)) A hd
      simp [ha, h, hr, h0, h1, h2, h3, impl_ofEach.f, GA.f, impl_Plain_1.g]
  · simp [ha]

theorem plain_no (R G B A : Int) (h : ¬ Px R G B A) : impl_Plain.f R G B A = some (0, 0, 0, 0) := by
  unfold impl_Plain.f
  rw [px_some]
  simp [h]

/-- Made plain and premultiplied again, one number. -/
theorem back_one {R A : Int} (hA : 1 ≤ A) (hA2 : A ≤ 255) (h0 : 0 ≤ R) (h1 : R ≤ A) :
    0 ≤ (2 * (255 * R) + A) / (2 * A) ∧ (2 * (255 * R) + A) / (2 * A) ≤ 255 ∧ (2 * ((2 * (255 * R) + A) / (2 * A) * A) + 255) / 510 = R := by
  have hy0 : 0 ≤ (2 * (255 * R) + A) / (2 * A) := Int.ediv_nonneg (by omega) (by omega)
  have d1 := Int.mul_ediv_self_le (x := 2 * (255 * R) + A) (k := 2 * A) (by omega)
  have d2 := Int.lt_mul_ediv_self_add (x := 2 * (255 * R) + A) (k := 2 * A) (by omega)
  generalize hy : (2 * (255 * R) + A) / (2 * A) = y at *
  have e : 2 * A * y = 2 * (y * A) := by rw [Int.mul_assoc, Int.mul_comm A y]
  rw [e] at d1 d2
  have hy2 : y ≤ 255 := by
    by_cases c : y ≤ 255
    · exact c
    · have m : 256 * A ≤ y * A := Int.mul_le_mul_of_nonneg_right (by omega) (by omega)
      omega
  refine ⟨hy0, hy2, ?_⟩
  by_cases c : A = 255
  · subst c
    omega
  · generalize y * A = m at *
    omega

theorem plain_back (R G B A : Int) (hp : Px R G B A) : ∃ p0 p1 p2 p3, impl_Plain.f R G B A = some (p0, p1, p2, p3) ∧ impl_Premul.f p0 p1 p2 p3 = some (R, G, B, A) := by
  unfold impl_Plain.f impl_Premul.f impl_isByte.f
  simp only [px_some, in_some, Option.bind_some, decide_eq_true_eq]
  rw [if_pos hp]
  obtain ⟨a0, a1, r0, r1, g0, g1, b0, b1⟩ := hp
  by_cases h : A = 0
  · rw [if_pos h]
    have : R = 0 := by omega
    have : G = 0 := by omega
    have : B = 0 := by omega
    subst_vars
    refine ⟨_, _, _, _, rfl, ?_⟩
    have s := share_val (a := 0) (b := 0) (by omega) (by omega) (by omega) (by omega)
    simp [impl_ofEach.f, GA.f, impl_Premul_1.g, s]
  · rw [if_neg h]
    have w : ∀ x : Int, 0 ≤ x → x ≤ 255 → wrap64 (255 * x) = 255 * x := by
      intro x _ _
      unfold wrap64
      omega
    obtain ⟨x0, x1, x2⟩ := back_one (by omega) a1 r0 r1
    obtain ⟨y0, y1, y2⟩ := back_one (by omega) a1 g0 g1
    obtain ⟨z0, z1, z2⟩ := back_one (by omega) a1 b0 b1
    have n0 := near_val (255 * R) A (by omega) (by omega) (by omega) (by omega)
    have n1 := near_val (255 * G) A (by omega) (by omega) (by omega) (by omega)
    have n2 := near_val (255 * B) A (by omega) (by omega) (by omega) (by omega)
    have n3 := near_val (255 * A) A (by omega) (by omega) (by omega) (by omega)
    refine ⟨(2 * (255 * R) + A) / (2 * A), (2 * (255 * G) + A) / (2 * A), (2 * (255 * B) + A) / (2 * A), A, by simp only [impl_ofEach.f, GA.f, impl_Plain_1.g, w R r0 (by omega), w G g0 (by omega), w B b0 (by omega), w A a0 a1, n0, n1, n2, n3, Option.bind_some], ?_⟩
    have s0 := share_val x0 x1 a0 a1
    have s1 := share_val y0 y1 a0 a1
    have s2 := share_val z0 z1 a0 a1
    have s3 := share_val a0 a1 a0 a1
    rw [x2] at s0
    rw [y2] at s1
    rw [z2] at s2
    rw [if_pos ⟨x0, x1⟩, if_pos ⟨y0, y1⟩, if_pos ⟨z0, z1⟩, if_pos ⟨a0, a1⟩]
    simp only [impl_ofEach.f, GA.f, impl_Premul_1.g, s0, s1, s2, s3, Option.bind_some]

theorem premul_ok (q0 q1 q2 q3 : Int) : ∃ r0 r1 r2 r3, impl_Premul.f q0 q1 q2 q3 = some (r0, r1, r2, r3) ∧ Px r0 r1 r2 r3 := by
  unfold impl_Premul.f impl_isByte.f
  simp only [in_some, Option.bind_some, decide_eq_true_eq]
  have hz : Px 0 0 0 0 := by unfold Px; omega
  by_cases c0 : 0 ≤ q0 ∧ q0 ≤ 255
  · by_cases c1 : 0 ≤ q1 ∧ q1 ≤ 255
    · by_cases c2 : 0 ≤ q2 ∧ q2 ≤ 255
      · by_cases c3 : 0 ≤ q3 ∧ q3 ≤ 255
        · rw [if_pos c0, if_pos c1, if_pos c2, if_pos c3]
          have s0 := share_val c0.1 c0.2 c3.1 c3.2
          have s1 := share_val c1.1 c1.2 c3.1 c3.2
          have s2 := share_val c2.1 c2.2 c3.1 c3.2
          have s3 := share_val c3.1 c3.2 c3.1 c3.2
          have b0 := share_bd c0.1 c0.2 c3.1 c3.2
          have b1 := share_bd c1.1 c1.2 c3.1 c3.2
          have b2 := share_bd c2.1 c2.2 c3.1 c3.2
          refine ⟨(2 * (q0 * q3) + 255) / 510, (2 * (q1 * q3) + 255) / 510, (2 * (q2 * q3) + 255) / 510, q3, by simp only [impl_ofEach.f, GA.f, impl_Premul_1.g, s0, s1, s2, s3, Option.bind_some], ?_⟩
          exact ⟨c3.1, c3.2, b0.1, b0.2, b1.1, b1.2, b2.1, b2.2⟩
        · exact ⟨0, 0, 0, 0, by simp [c0, c1, c2, c3], hz⟩
      · exact ⟨0, 0, 0, 0, by simp [c0, c1, c2], hz⟩
    · exact ⟨0, 0, 0, 0, by simp [c0, c1], hz⟩
  · exact ⟨0, 0, 0, 0, by simp [c0], hz⟩

theorem FnPlainPx : laws_FnPlainPx.Pure := by
  intro l0 _ _ _
  unfold laws_FnPlainPx.f laws_big.f
  simp only [Option.bind_some, decide_eq_true_eq]
  by_cases hbig : (l0.length : Int) > 4096
  · exact ⟨1, by rw [if_pos hbig]⟩
  refine ⟨4097, ?_⟩
  rw [if_neg hbig]
  have hb : l0.length ≤ 4096 := by omega
  obtain ⟨hh, hnew⟩ := new_ok l0 hb 4097 (by omega)
  obtain ⟨R, G, B, A, i1, h1, hd, hi1⟩ := drawpx_ok l0 0 hh hb (by omega)
  have e1 : spec_DrawPlain.f 4097 l0 = some (R, G, B, A) := by
    unfold spec_DrawPlain.f spec_DrawPxOk.f
    rw [hnew]
    simp only [Option.bind_some]
    rw [hd]
    rfl
  rw [e1]
  simp only [Option.bind_some]
  obtain ⟨q0, q1, q2, q3, e2⟩ := drawpremul_ok l0 hb
  rw [plain_eq]
  by_cases hp : Px R G B A
  · obtain ⟨p0, p1, p2, p3, hpl, hback⟩ := plain_back R G B A hp
    rw [hpl, spx_some]
    simp only [Option.bind_some, hp, decide_true, if_true, bne_self_eq_false, beq_self_eq_true, Bool.not_true, Bool.or_self, Bool.false_eq_true, if_false]
    rw [hback]
    simp only [Option.bind_some, beq_self_eq_true, Bool.and_self, if_true]
    rw [e2]
    simp only [Option.bind_some]
    obtain ⟨r0, r1, r2, r3, hpm, hok⟩ := premul_ok q0 q1 q2 q3
    rw [hpm]
    simp only [Option.bind_some]
    rw [px_some]
    simp [hok]
  · rw [plain_no R G B A hp, spx_some]
    simp [hp]

end Go.Proofs.Ytipmhlajjdnhoaa.Pure
