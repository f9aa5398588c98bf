/- Proved: the plain law behind FnTimeBack. No condition. -/
import Derived.Test.YtdlmllhkejjaaaaDoorPFnTimeBackx8
namespace Go.Proofs.YtdlmllhkejjaaaaDoor.Pure
open Go.RowKit Go.Proofs.YtdlmllhkejjaaaaDoor.PFnTimeBack Go.Proofs.YtdlmllhkejjaaaaDoorW.PrintWords Go.Proofs.YtdlmllhkejjaaaaDoorW.PrintLast

theorem l0_eq : ∀ (k : Nat) (x y : Int), spec_l1Gcd.l0 k x y = impl_gcd.l0 k x y
  | 0, _, _ => rfl
  | k + 1, x, y => by
    simp only [spec_l1Gcd.l0, impl_gcd.l0]
    rw [l0_eq k]

theorem l0_some : ∀ (k : Nat) (x y : Int), 0 ≤ x → 0 ≤ y → y < k → ∃ r, impl_gcd.l0 k x y = some r
  | 0, _, _, _, h, h2 => by omega
  | k + 1, x, y, hx, hy, hk => by
    simp only [impl_gcd.l0]
    by_cases c : y = 0
    · exact ⟨x, by rw [if_pos c]⟩
    · rw [if_neg c]
      have h1 := Int.tmod_lt_of_pos x (show 0 < y by omega)
      have h0 := Int.tmod_nonneg y hx
      exact l0_some k y _ hy h0 (by omega)

theorem gcd_eq (k : Nat) (x y : Int) (hx : 0 ≤ x) (hy : 0 ≤ y) : spec_l1Gcd.f k x y = impl_gcd.f k x y := by
  unfold spec_l1Gcd.f impl_gcd.f spec_l1Abs.f
  rw [if_neg (by omega), if_neg (by omega)]
  simp only [Option.bind_some]
  exact l0_eq k x y

theorem in_eq (a b c : Int) : spec_l1In.f a b c = impl_in.f a b c := rfl

theorem in_some (a b c : Int) : impl_in.f a b c = some (decide (b ≤ a ∧ a ≤ c)) := by
  unfold impl_in.f
  by_cases h : b ≤ a
  · simp [h]
  · simp [h]

theorem rate_eq (k : Nat) (a b : Int) (c : Bool) : spec_RateOk.f k a b c = impl_RateOk.f k a b c := by
  unfold spec_RateOk.f impl_RateOk.f
  simp only [in_eq, in_some, Option.bind_some, decide_eq_true_eq]
  by_cases h1 : 1 ≤ a ∧ a ≤ 240000
  · rw [if_pos h1, if_pos h1]
    by_cases h2 : 1 ≤ b ∧ b ≤ 1001
    · rw [if_pos h2, if_pos h2, gcd_eq k a b (by omega) (by omega)]
    · rw [if_neg h2, if_neg h2]
  · rw [if_neg h1, if_neg h1]

/-- What a rate that is right is. -/
theorem rate_some (k : Nat) (hk : 1002 ≤ k) (a b : Int) (c : Bool) : ∃ r, impl_RateOk.f k a b c = some r ∧ (r = true → 1 ≤ a ∧ a ≤ 240000 ∧ 1 ≤ b ∧ b ≤ 1001 ∧ a ≤ 120 * b) := by
  unfold impl_RateOk.f
  simp only [in_some, Option.bind_some, decide_eq_true_eq]
  by_cases h1 : 1 ≤ a ∧ a ≤ 240000
  · rw [if_pos h1]
    by_cases h2 : 1 ≤ b ∧ b ≤ 1001
    · rw [if_pos h2]
      obtain ⟨g, hg⟩ := l0_some k a b (by omega) (by omega) (by omega)
      unfold impl_gcd.f
      rw [hg]
      simp only [Option.bind_some]
      by_cases h3 : g = 1
      · rw [if_pos h3]
        have hw : wrap64 (120 * b) = 120 * b := by unfold wrap64; omega
        rw [hw]
        by_cases h4 : a > 120 * b
        · exact ⟨false, by rw [if_pos h4], by simp⟩
        · rw [if_neg h4]
          split
          · split
            · split
              · exact ⟨true, rfl, fun _ => by omega⟩
              · exact ⟨_, rfl, fun _ => by omega⟩
            · exact ⟨false, rfl, by simp⟩
          · exact ⟨true, rfl, fun _ => by omega⟩
      · exact ⟨false, by rw [if_neg h3], by simp⟩
    · exact ⟨false, by rw [if_neg h2], by simp⟩
  · exact ⟨false, by rw [if_neg h1], by simp⟩

/-- Two digits; three digits. -/
def D2 (v : Nat) : ByteArray := ⟨#[UInt8.ofNat (48 + v / 10), UInt8.ofNat (48 + v % 10)]⟩
def D3 (v : Nat) : ByteArray := ⟨#[UInt8.ofNat (48 + v / 100), UInt8.ofNat (48 + v / 10 % 10), UInt8.ofNat (48 + v % 10)]⟩
theorem D2_size (v : Nat) : (D2 v).size = 2 := rfl
theorem D3_size (v : Nat) : (D3 v).size = 3 := rfl

theorem wide_up (a b : Int) (r : ByteArray) (k : Nat) (h : spec_l1Wide.f k a b = some r) : ∀ d, spec_l1Wide.f (k + d) a b = some r
  | 0 => h
  | d + 1 => spec_l1Wide.mono a b (k + d) r (wide_up a b r k h d)

set_option maxRecDepth 100000 in
theorem wide2_all : ∀ v : Fin 100, spec_l1Wide.f 8 ((v.val : Nat) : Int) 2 = some (D2 v.val) := by decide +kernel
set_option maxRecDepth 100000 in
theorem wide3_all : ∀ v : Fin 1000, spec_l1Wide.f 8 ((v.val : Nat) : Int) 3 = some (D3 v.val) := by decide +kernel

theorem wide2 (k : Nat) (hk : 8 ≤ k) (v : Int) (h0 : 0 ≤ v) (h1 : v < 100) : spec_l1Wide.f k v 2 = some (D2 v.toNat) := by
  obtain ⟨d, rfl⟩ := Nat.exists_eq_add_of_le hk
  obtain ⟨u, rfl⟩ : ∃ u : Nat, v = (u : Int) := ⟨v.toNat, by omega⟩
  exact wide_up _ _ _ 8 (wide2_all ⟨u, by omega⟩) d
theorem wide3 (k : Nat) (hk : 8 ≤ k) (v : Int) (h0 : 0 ≤ v) (h1 : v < 1000) : spec_l1Wide.f k v 3 = some (D3 v.toNat) := by
  obtain ⟨d, rfl⟩ := Nat.exists_eq_add_of_le hk
  obtain ⟨u, rfl⟩ : ∃ u : Nat, v = (u : Int) := ⟨v.toNat, by omega⟩
  exact wide_up _ _ _ 8 (wide3_all ⟨u, by omega⟩) d

theorem dec_three {i : Nat} (h1 : ¬ i < 100) (h2 : i < 1000) : Lib.decDigits i = [UInt8.ofNat (48 + i / 100), UInt8.ofNat (48 + i / 10 % 10), UInt8.ofNat (48 + i % 10)] := by
  rw [Lib.decDigits, dif_neg (by omega), Lib.decDigits_two (by omega) (by omega)]
  rw [show i / 10 / 10 = i / 100 by omega]; try rfl

theorem padded_of (v : Nat) (hv : v < 1000) (w : Int) (hw : w = 2 ∨ w = 3) (l : List UInt8) (hl : Lib.decDigits v = l) (c : Nat) (hc : mx (w - (l.length : Int)) 0 = (c : Int)) (hl3 : l.length ≤ 3) :
    impl_padded.f (v : Int) w = some ⟨(Lib.repeatL [48] c ++ l).toArray⟩ := by
  have hcl : c ≤ 3 := by
    unfold mx at hc
    split at hc <;> omega
  unfold impl_padded.f strconv_FormatInt_31.f
  rw [if_pos (by omega), Option.bind_some, Lib.itoa_nonneg, hl]
  have hs : (⟨l.toArray⟩ : ByteArray).size = l.length := by simp [ByteArray.size]
  rw [hs]
  have hwr : wrap64 (w - (l.length : Int)) = w - (l.length : Int) := by unfold wrap64; omega
  rw [hwr, hc]
  unfold strings_Repeat.f
  have h1 : (⟨#[48]⟩ : ByteArray).size = 1 := rfl
  have h2 : (⟨#[48]⟩ : ByteArray).data.toList = [48] := rfl
  rw [h1, h2, if_pos ⟨by omega, by omega, by omega⟩, Option.bind_some]
  have hr : (⟨(Lib.repeatL [48] ((c : Int)).toNat).toArray⟩ : ByteArray).size = c := by
    simp [ByteArray.size, Lib.repeatL_length]
  rw [hr, if_pos (by omega)]
  congr 1

theorem padded2 (v : Int) (h0 : 0 ≤ v) (h1 : v < 100) : impl_padded.f v 2 = some (D2 v.toNat) := by
  obtain ⟨u, rfl⟩ : ∃ u : Nat, v = (u : Int) := ⟨v.toNat, by omega⟩
  by_cases c : u < 10
  · rw [padded_of u (by omega) 2 (Or.inl rfl) _ (Lib.decDigits_one c) 1 rfl (by simp)]
    unfold D2
    rw [show ((u : Int)).toNat / 10 = 0 by omega, show ((u : Int)).toNat % 10 = u by omega]
    rfl
  · rw [padded_of u (by omega) 2 (Or.inl rfl) _ (Lib.decDigits_two c (by omega)) 0 rfl (by simp)]
    rfl

theorem padded3 (v : Int) (h0 : 0 ≤ v) (h1 : v < 1000) : impl_padded.f v 3 = some (D3 v.toNat) := by
  obtain ⟨u, rfl⟩ : ∃ u : Nat, v = (u : Int) := ⟨v.toNat, by omega⟩
  by_cases c : u < 10
  · rw [padded_of u (by omega) 3 (Or.inr rfl) _ (Lib.decDigits_one c) 2 rfl (by simp)]
    unfold D3
    rw [show ((u : Int)).toNat / 100 = 0 by omega, show ((u : Int)).toNat / 10 % 10 = 0 by omega, show ((u : Int)).toNat % 10 = u by omega]
    rfl
  · by_cases d : u < 100
    · rw [padded_of u (by omega) 3 (Or.inr rfl) _ (Lib.decDigits_two c d) 1 rfl (by simp)]
      unfold D3
      rw [show ((u : Int)).toNat / 100 = 0 by omega, show ((u : Int)).toNat / 10 % 10 = u / 10 by omega, show ((u : Int)).toNat % 10 = u % 10 by omega]
      rfl
    · rw [padded_of u (by omega) 3 (Or.inr rfl) _ (dec_three d (by omega)) 0 rfl (by simp)]
      rfl

set_option linter.unusedSimpArgs false
set_option linter.unusedVariables false
/-- The mark, and the text of a frame's number. -/
def mark (c : Bool) : ByteArray := if c then ⟨#[59]⟩ else ⟨#[58]⟩
theorem mark_size (c : Bool) : (mark c).size = 1 := by cases c <;> rfl
def DD (B v : Int) : ByteArray := if B > 100 then D3 v.toNat else D2 v.toNat
theorem DD_size (B v : Int) : (DD B v).size ≤ 3 := by unfold DD; split <;> simp [D2_size, D3_size]
def colon : ByteArray := ⟨#[58]⟩
def txt (B n : Int) (c : Bool) : ByteArray :=
  if n / B / 3600 > 99 then ⟨#[]⟩ else
    ((((D2 (n / B / 3600).toNat ++ colon) ++ D2 (n / B / 60 % 60).toNat) ++ colon) ++ D2 (n / B % 60).toNat ++ mark c) ++ DD B (n % B)

theorem w_div (x y : Int) (hx : 0 ≤ x) (hx2 : x < 1000000000) (hy : 1 ≤ y) : wrap64 (Int.tdiv x y) = x / y := by
  rw [Int.tdiv_eq_ediv_of_nonneg hx]
  have h0 : 0 ≤ x / y := Int.ediv_nonneg hx (by omega)
  have h1 : x / y ≤ x := Int.ediv_le_self y hx
  unfold wrap64
  omega

theorem spec_j2 (k : Nat) (hk : 8 ≤ k) (B n : Int) (c : Bool) (hB : 1 ≤ B) (hB2 : B ≤ 120) (hn : 0 ≤ n) (hn2 : n < 100000000) (hh : ¬ n / B / 3600 > 99) (w : Int) (hw : w = if B > 100 then 3 else 2) :
    spec_TimeText.j2 (k + 1) (n / B) (mark c) (Int.tmod n B) w = some (txt B n c) := by
  have s0 : 0 ≤ n / B := Int.ediv_nonneg hn (by omega)
  have s1 : n / B ≤ n := Int.ediv_le_self B hn
  have m0 : 0 ≤ n % B := Int.emod_nonneg n (by omega)
  have m1 : n % B < B := Int.emod_lt_of_pos n (by omega)
  have hm : Int.tmod n B = n % B := Int.tmod_eq_emod_of_nonneg hn
  have h4 : spec_l1Wide.f k (Int.tmod n B) w = some (DD B (n % B)) := by
    rw [hm]
    subst hw
    unfold DD
    split
    · exact wide3 k hk _ m0 (by omega)
    · exact wide2 k hk _ m0 (by omega)
  rw [spec_TimeText.j2]
  rw [w_div _ _ s0 (by omega) (by omega), wide2 k hk _ (by omega) (by omega), Option.bind_some, D2_size, if_pos (by omega)]
  rw [w_div _ _ s0 (by omega) (by omega), Int.tmod_eq_emod_of_nonneg (by omega), wide2 k hk _ (by omega) (by omega), Option.bind_some, Int.tmod_eq_emod_of_nonneg s0, wide2 k hk _ (by omega) (by omega)]
  simp only [Option.bind_some, h4]
  have z1 : (⟨#[58]⟩ : ByteArray).size = 1 := rfl
  have z2 := DD_size B (n % B)
  rw [if_pos (by simp only [ByteArray.size_append, D2_size, mark_size, z1]; omega), if_pos (by simp only [ByteArray.size_append, D2_size, mark_size, z1]; omega), if_pos (by simp only [ByteArray.size_append, D2_size, mark_size, z1]; omega), if_pos (by simp only [ByteArray.size_append, D2_size, mark_size, z1]; omega), if_pos (by simp only [ByteArray.size_append, D2_size, mark_size, z1]; omega)]
  unfold txt
  rw [if_neg hh]
  rfl

theorem impl_j2 (k : Nat) (B n : Int) (c : Bool) (hB : 1 ≤ B) (hB2 : B ≤ 120) (hn : 0 ≤ n) (hn2 : n < 100000000) (hh : ¬ n / B / 3600 > 99) (w : Int) (hw : w = if B > 100 then 3 else 2) :
    impl_TimeText.j2 (k + 1) B n (n / B) (mark c) w = some (txt B n c) := by
  have s0 : 0 ≤ n / B := Int.ediv_nonneg hn (by omega)
  have s1 : n / B ≤ n := Int.ediv_le_self B hn
  have m0 : 0 ≤ n % B := Int.emod_nonneg n (by omega)
  have m1 : n % B < B := Int.emod_lt_of_pos n (by omega)
  have hm : Int.tmod n B = n % B := Int.tmod_eq_emod_of_nonneg hn
  have h4 : impl_padded.f (Int.tmod n B) w = some (DD B (n % B)) := by
    rw [hm]
    subst hw
    unfold DD
    split
    · exact padded3 _ m0 (by omega)
    · exact padded2 _ m0 (by omega)
  rw [impl_TimeText.j2]
  rw [w_div _ _ s0 (by omega) (by omega), padded2 _ (by omega) (by omega), Option.bind_some, D2_size, if_pos (by omega)]
  rw [w_div _ _ s0 (by omega) (by omega), Int.tmod_eq_emod_of_nonneg (by omega), padded2 _ (by omega) (by omega), Option.bind_some, Int.tmod_eq_emod_of_nonneg s0, padded2 _ (by omega) (by omega)]
  simp only [Option.bind_some, h4]
  have z1 : (⟨#[58]⟩ : ByteArray).size = 1 := rfl
  have z2 := DD_size B (n % B)
  rw [if_pos (by simp only [ByteArray.size_append, D2_size, mark_size, z1]; omega), if_pos (by simp only [ByteArray.size_append, D2_size, mark_size, z1]; omega), if_pos (by simp only [ByteArray.size_append, D2_size, mark_size, z1]; omega), if_pos (by simp only [ByteArray.size_append, D2_size, mark_size, z1]; omega), if_neg (by omega), if_pos (by simp only [ByteArray.size_append, D2_size, mark_size, z1]; omega)]
  unfold txt
  rw [if_neg hh]
  rfl

theorem spec_j1 (k : Nat) (hk : 8 ≤ k) (B n : Int) (c : Bool) (hB : 1 ≤ B) (hB2 : B ≤ 120) (hn : 0 ≤ n) (hn2 : n < 100000000) :
    spec_TimeText.j1 (k + 2) B n (mark c) = some (txt B n c) := by
  have s0 : 0 ≤ n / B := Int.ediv_nonneg hn (by omega)
  have s1 : n / B ≤ n := Int.ediv_le_self B hn
  rw [spec_TimeText.j1]
  rw [if_neg (by omega), w_div n B hn (by omega) hB, w_div _ _ s0 (by omega) (by omega)]
  by_cases hh : n / B / 3600 > 99
  · rw [if_pos hh]; unfold txt; rw [if_pos hh]
  · rw [if_neg hh]
    by_cases hb : B > 100
    · rw [if_pos hb]; exact spec_j2 k hk B n c hB hB2 hn hn2 hh 3 (by rw [if_pos hb])
    · rw [if_neg hb]; exact spec_j2 k hk B n c hB hB2 hn hn2 hh 2 (by rw [if_neg hb])

/-- The number that a frame has. -/
def toldn (B f : Int) (c : Bool) : Int :=
  if c then
    let l := B / 15
    f + 9 * l * (f / (600 * B - 9 * l)) + (if f % (600 * B - 9 * l) ≥ 60 * B then l * (1 + (f % (600 * B - 9 * l) - 60 * B) / (60 * B - l)) else 0)
  else f

theorem toldn_range (B f : Int) (c : Bool) (hc : c = true → B = 30 ∨ B = 60) (h0 : 0 ≤ f) (h1 : f ≤ 10000001) : 0 ≤ toldn B f c ∧ toldn B f c < 100000000 := by
  cases c
  · unfold toldn; simp; omega
  · rcases hc rfl with rfl | rfl
    · unfold toldn; simp only [if_true]; split <;> omega
    · unfold toldn; simp only [if_true]; split <;> omega

/-- What a rate that is right is, told further. -/
theorem rate_base (a b : Int) (c : Bool) (k : Nat) (hk : 1002 ≤ k) (h : impl_RateOk.f k a b c = some true) :
    ∃ B, impl_Rate_base.f a b c = some B ∧ 1 ≤ B ∧ B ≤ 120 ∧ spec_Base.f k a b c = some B ∧ (c = true → b = 1001 ∧ (a = 30000 ∧ B = 30 ∨ a = 60000 ∧ B = 60)) := by
  obtain ⟨r, hr, hp⟩ := rate_some k hk a b c
  rw [h] at hr
  obtain rfl := Option.some.inj hr
  have hp := hp rfl
  obtain ⟨g0, g1, g2, g3, g4⟩ := hp
  have w1 : wrap64 (a + b) = a + b := by unfold wrap64; omega
  have w2 : wrap64 (a + b - 1) = a + b - 1 := by unfold wrap64; omega
  have e : wrap64 (Int.tdiv (wrap64 (wrap64 (a + b) - 1)) b) = (a + b - 1) / b := by
    rw [w1, w2]
    exact w_div _ _ (by omega) (by omega) (by omega)
  refine ⟨(a + b - 1) / b, ?_, ?_, ?_, ?_, ?_⟩
  · unfold impl_Rate_base.f
    rw [if_neg (by omega), e]
  · exact (Int.le_ediv_iff_mul_le (by omega)).2 (by omega)
  · have : (a + b - 1) / b < 121 := (Int.ediv_lt_iff_lt_mul (by omega)).2 (by omega)
    omega
  · unfold spec_Base.f
    rw [rate_eq, h, Option.bind_some, if_pos rfl, if_neg (by omega), e]
  · intro hc
    subst hc
    unfold impl_RateOk.f at h
    simp only [in_some, Option.bind_some, decide_eq_true_eq] at h
    rw [if_pos (by omega), if_pos (by omega)] at h
    obtain ⟨g, hg⟩ := l0_some k a b (by omega) (by omega) (by omega)
    unfold impl_gcd.f at h
    rw [hg] at h
    simp only [Option.bind_some] at h
    split at h
    · split at h
      · simp at h
      · simp only [if_true] at h
        split at h
        · rename_i hb
          subst hb
          refine ⟨rfl, ?_⟩
          split at h
          · rename_i ha; subst ha; exact Or.inl ⟨rfl, by decide +kernel⟩
          · have : a = 60000 := by simpa using h
            subst this; exact Or.inr ⟨rfl, by decide +kernel⟩
        · simp at h
    · simp at h

theorem impl_told (k : Nat) (a b B f : Int) (c : Bool) (hb : impl_Rate_base.f a b c = some B) (hB : 1 ≤ B) (hB2 : B ≤ 120) (hc : c = true → b = 1001 ∧ (a = 30000 ∧ B = 30 ∨ a = 60000 ∧ B = 60)) (h0 : 0 ≤ f) (h1 : f ≤ 10000001) :
    impl_Rate_told.f (k + 1) a b c f = some (toldn B f c) := by
  unfold impl_Rate_told.f
  rw [hb, Option.bind_some]
  cases c
  · have hl : impl_Rate_left.f a b false = some 0 := rfl
    rw [hl]
    simp only [Option.bind_some]
    have e1 : wrap64 (wrap64 (10 * wrap64 (60 * B)) - wrap64 (9 * 0)) = 600 * B := by unfold wrap64; omega
    rw [e1, if_neg (by omega), if_neg (by simp)]
    rw [impl_Rate_told.j0]
    unfold toldn
    rw [if_neg (by simp), if_neg (by simp)]
    have e2 : wrap64 (9 * 0) = 0 := by decide +kernel
    rw [e2, Int.zero_mul]
    congr 1
    have e3 : wrap64 0 = 0 := by decide +kernel
    rw [e3]
    unfold wrap64; omega
  · obtain ⟨rfl, h | h⟩ := hc rfl
    · obtain ⟨rfl, rfl⟩ := h
      have hl : impl_Rate_left.f 30000 1001 true = some 2 := rfl
      rw [hl]
      simp only [Option.bind_some, if_true]
      have e1 : wrap64 (wrap64 (10 * wrap64 (60 * 30)) - wrap64 (9 * 2)) = 17982 := by decide +kernel
      rw [e1, if_neg (by omega), w_div f _ h0 (by omega) (by omega), Int.tmod_eq_emod_of_nonneg h0]
      have e2 : wrap64 (60 * 30) = 1800 := by decide +kernel
      have e3 : wrap64 (9 * 2) = 18 := by decide +kernel
      have e4 : wrap64 (18 * (f / 17982)) = 18 * (f / 17982) := by unfold wrap64; omega
      have e5 : wrap64 (f + 18 * (f / 17982)) = f + 18 * (f / 17982) := by unfold wrap64; omega
      rw [e2, e3, e4, e5]
      rw [impl_Rate_told.j0]
      unfold toldn
      simp only [if_true, decide_eq_true_eq, show (30 : Int) / 15 = 2 from rfl]
      by_cases g : f % 17982 ≥ 1800
      · rw [if_pos g, if_pos (by omega), hl]
        simp only [Option.bind_some]
        have e6 : wrap64 (1800 - 2) = 1798 := by decide +kernel
        rw [e6, if_neg (by omega)]
        have e7 : wrap64 (f % 17982 - 1800) = f % 17982 - 1800 := by unfold wrap64; omega
        rw [e7, w_div _ _ (by omega) (by omega) (by omega)]
        congr 1
        unfold wrap64
        omega
      · rw [if_neg g, if_neg (by omega)]
        congr 1
        omega
    · obtain ⟨rfl, rfl⟩ := h
      have hl : impl_Rate_left.f 60000 1001 true = some 4 := rfl
      rw [hl]
      simp only [Option.bind_some, if_true]
      have e1 : wrap64 (wrap64 (10 * wrap64 (60 * 60)) - wrap64 (9 * 4)) = 35964 := by decide +kernel
      rw [e1, if_neg (by omega), w_div f _ h0 (by omega) (by omega), Int.tmod_eq_emod_of_nonneg h0]
      have e2 : wrap64 (60 * 60) = 3600 := by decide +kernel
      have e3 : wrap64 (9 * 4) = 36 := by decide +kernel
      have e4 : wrap64 (36 * (f / 35964)) = 36 * (f / 35964) := by unfold wrap64; omega
      have e5 : wrap64 (f + 36 * (f / 35964)) = f + 36 * (f / 35964) := by unfold wrap64; omega
      rw [e2, e3, e4, e5]
      rw [impl_Rate_told.j0]
      unfold toldn
      simp only [if_true, decide_eq_true_eq, show (60 : Int) / 15 = 4 from rfl]
      by_cases g : f % 35964 ≥ 3600
      · rw [if_pos g, if_pos (by omega), hl]
        simp only [Option.bind_some]
        have e6 : wrap64 (3600 - 4) = 3596 := by decide +kernel
        rw [e6, if_neg (by omega)]
        have e7 : wrap64 (f % 35964 - 3600) = f % 35964 - 3600 := by unfold wrap64; omega
        rw [e7, w_div _ _ (by omega) (by omega) (by omega)]
        congr 1
        unfold wrap64
        omega
      · rw [if_neg g, if_neg (by omega)]
        congr 1
        omega

theorem spec_j0 (k : Nat) (hk : 8 ≤ k) (a b B f : Int) (c : Bool) (hB : 1 ≤ B) (hB2 : B ≤ 120) (hc : c = true → b = 1001 ∧ (a = 30000 ∧ B = 30 ∨ a = 60000 ∧ B = 60)) (h0 : 0 ≤ f) (h1 : f ≤ 10000001) :
    spec_TimeText.j0 (k + 3) f B false a b c = some (txt B (toldn B f c) c) := by
  have hr := toldn_range B f c (fun h => by obtain ⟨_, h | h⟩ := hc h <;> omega) h0 h1
  rw [spec_TimeText.j0]
  rw [if_neg (by simp)]
  cases c
  · rw [if_neg (by simp)]
    exact spec_j1 k hk B f false hB hB2 h0 (by omega)
  · rw [if_pos rfl]
    obtain ⟨rfl, h | h⟩ := hc rfl
    · obtain ⟨rfl, rfl⟩ := h
      have e0 : wrap64 (Int.tdiv 30 15) = 2 := by decide +kernel
      have e1 : wrap64 (wrap64 (600 * 30) - wrap64 (9 * 2)) = 17982 := by decide +kernel
      have e2 : wrap64 (60 * 30) = 1800 := by decide +kernel
      have e3 : wrap64 (1800 - 2) = 1798 := by decide +kernel
      have e4 : wrap64 (9 * 2) = 18 := by decide +kernel
      rw [e0, e1, e2, e3, e4, if_neg (by omega), w_div f _ h0 (by omega) (by omega), Int.tmod_eq_emod_of_nonneg h0]
      have e5 : wrap64 (18 * (f / 17982)) = 18 * (f / 17982) := by unfold wrap64; omega
      have e6 : wrap64 (f + 18 * (f / 17982)) = f + 18 * (f / 17982) := by unfold wrap64; omega
      rw [e5, e6]
      by_cases g : f % 17982 ≥ 1800
      · rw [if_pos g, if_neg (by omega)]
        have e7 : wrap64 (f % 17982 - 1800) = f % 17982 - 1800 := by unfold wrap64; omega
        rw [e7, w_div _ _ (by omega) (by omega) (by omega)]
        have en : wrap64 (f + 18 * (f / 17982) + wrap64 (2 * wrap64 ((f % 17982 - 1800) / 1798 + 1))) = toldn 30 f true := by
          unfold toldn
          simp only [if_true, show (30 : Int) / 15 = 2 from rfl]
          rw [if_pos (by omega)]
          unfold wrap64
          omega
        rw [en]
        exact spec_j1 k hk 30 _ true hB hB2 hr.1 hr.2
      · rw [if_neg g]
        have en : f + 18 * (f / 17982) = toldn 30 f true := by
          unfold toldn
          simp only [if_true, show (30 : Int) / 15 = 2 from rfl]
          rw [if_neg (by omega)]
          omega
        rw [en]
        exact spec_j1 k hk 30 _ true hB hB2 hr.1 hr.2
    · obtain ⟨rfl, rfl⟩ := h
      have e0 : wrap64 (Int.tdiv 60 15) = 4 := by decide +kernel
      have e1 : wrap64 (wrap64 (600 * 60) - wrap64 (9 * 4)) = 35964 := by decide +kernel
      have e2 : wrap64 (60 * 60) = 3600 := by decide +kernel
      have e3 : wrap64 (3600 - 4) = 3596 := by decide +kernel
      have e4 : wrap64 (9 * 4) = 36 := by decide +kernel
      rw [e0, e1, e2, e3, e4, if_neg (by omega), w_div f _ h0 (by omega) (by omega), Int.tmod_eq_emod_of_nonneg h0]
      have e5 : wrap64 (36 * (f / 35964)) = 36 * (f / 35964) := by unfold wrap64; omega
      have e6 : wrap64 (f + 36 * (f / 35964)) = f + 36 * (f / 35964) := by unfold wrap64; omega
      rw [e5, e6]
      by_cases g : f % 35964 ≥ 3600
      · rw [if_pos g, if_neg (by omega)]
        have e7 : wrap64 (f % 35964 - 3600) = f % 35964 - 3600 := by unfold wrap64; omega
        rw [e7, w_div _ _ (by omega) (by omega) (by omega)]
        have en : wrap64 (f + 36 * (f / 35964) + wrap64 (4 * wrap64 ((f % 35964 - 3600) / 3596 + 1))) = toldn 60 f true := by
          unfold toldn
          simp only [if_true, show (60 : Int) / 15 = 4 from rfl]
          rw [if_pos (by omega)]
          unfold wrap64
          omega
        rw [en]
        exact spec_j1 k hk 60 _ true hB hB2 hr.1 hr.2
      · rw [if_neg g]
        have en : f + 36 * (f / 35964) = toldn 60 f true := by
          unfold toldn
          simp only [if_true, show (60 : Int) / 15 = 4 from rfl]
          rw [if_neg (by omega)]
          omega
        rw [en]
        exact spec_j1 k hk 60 _ true hB hB2 hr.1 hr.2

theorem impl_j0 (k : Nat) (a b B f : Int) (c : Bool) (hb : impl_Rate_base.f a b c = some B) (hB : 1 ≤ B) (hB2 : B ≤ 120) (hc : c = true → b = 1001 ∧ (a = 30000 ∧ B = 30 ∨ a = 60000 ∧ B = 60)) (h0 : 0 ≤ f) (h1 : f ≤ 10000001) :
    impl_TimeText.j0 (k + 3) f false a b c = some (txt B (toldn B f c) c) := by
  have hr := toldn_range B f c (fun h => by obtain ⟨_, h | h⟩ := hc h <;> omega) h0 h1
  have ht := impl_told (k + 1) a b B f c hb hB hB2 hc h0 h1
  generalize toldn B f c = n at hr ht
  have s0 : 0 ≤ n / B := Int.ediv_nonneg hr.1 (by omega)
  have s1 : n / B ≤ n := Int.ediv_le_self B hr.1
  rw [impl_TimeText.j0]
  rw [if_neg (by simp), hb, Option.bind_some, ht, Option.bind_some, if_neg (by omega), w_div n B hr.1 (by omega) hB, w_div _ _ s0 (by omega) (by omega)]
  by_cases hh : n / B / 3600 > 99
  · rw [if_pos hh]; unfold txt; rw [if_pos hh]
  · rw [if_neg hh]
    have fin : impl_TimeText.j1 (k + 2) B n (n / B) (mark c) 2 = some (txt B n c) := by
      rw [impl_TimeText.j1]
      by_cases hb : B > 100
      · rw [if_pos hb]; exact impl_j2 k B n c hB hB2 hr.1 hr.2 hh 3 (by rw [if_pos hb])
      · rw [if_neg hb]; exact impl_j2 k B n c hB hB2 hr.1 hr.2 hh 2 (by rw [if_neg hb])
    cases c
    · rw [if_neg (by simp)]; exact fin
    · rw [if_pos rfl]; exact fin

/-- Both tell the same text. -/
theorem text_eq (k : Nat) (hk : 1010 ≤ k) (a b f : Int) (c : Bool) : ∃ s, spec_TimeText.f k a b c f = some s ∧ impl_TimeText.f k a b c f = some s ∧
    ((impl_RateOk.f k a b c = some true ∧ 0 ≤ f ∧ f ≤ 10000000 ∧ ∃ B, impl_Rate_base.f a b c = some B ∧ s = txt B (toldn B f c) c) ∨ (s = ⟨#[]⟩ ∧ (impl_RateOk.f k a b c = some false ∨ ¬ (0 ≤ f ∧ f ≤ 10000000)))) := by
  obtain ⟨m, rfl⟩ : ∃ m, k = m + 3 := ⟨k - 3, by omega⟩
  obtain ⟨r, hr, _⟩ := rate_some (m + 3) (by omega) a b c
  unfold spec_TimeText.f impl_TimeText.f
  rw [hr]
  cases r
  · have hs : spec_Base.f (m + 3) a b c = some 0 := by
      unfold spec_Base.f
      rw [rate_eq, hr]
      rfl
    rw [hs]
    simp only [Option.bind_some, if_true]
    rw [if_neg (by simp)]
    rw [spec_TimeText.j0, impl_TimeText.j0]
    exact ⟨⟨#[]⟩, by rw [if_pos rfl], by rw [if_pos rfl], Or.inr ⟨rfl, Or.inl (by simp)⟩⟩
  · obtain ⟨B, hb, hB, hB2, hs, hc⟩ := rate_base a b c (m + 3) (by omega) hr
    rw [hs]
    simp only [Option.bind_some]
    rw [if_neg (by omega), if_pos (by simp)]
    unfold spec_l1Frame.f impl_isFrame.f
    simp only [in_eq, in_some, Option.bind_some]
    by_cases hf : 0 ≤ f ∧ f ≤ 10000000
    · have e : (!decide (0 ≤ f ∧ f ≤ 10000000)) = false := by simp [hf]
      rw [e, spec_j0 m (by omega) a b B f c hB hB2 hc hf.1 (by omega), impl_j0 m a b B f c hb hB hB2 hc hf.1 (by omega)]
      exact ⟨_, rfl, rfl, Or.inl ⟨by simp, hf.1, hf.2, B, hb, rfl⟩⟩
    · have e : (!decide (0 ≤ f ∧ f ≤ 10000000)) = true := by simp [hf]
      rw [e]
      rw [spec_TimeText.j0, impl_TimeText.j0]
      exact ⟨⟨#[]⟩, by rw [if_pos rfl], by rw [if_pos rfl], Or.inr ⟨rfl, Or.inr hf⟩⟩

/-- The number that n digits from place p on tell, behind a number that was told. -/
def dg (s : ByteArray) : Nat → Nat → Int → Option Int
  | 0, _, acc => some acc
  | n + 1, p, acc => if bt s (p : Int) < 48 then none else if bt s (p : Int) > 57 then none else dg s n (p + 1) (10 * acc + (bt s (p : Int) - 48))

theorem bt_extract (s : ByteArray) (p q i : Nat) (h : p + i < q) (hq : q ≤ s.size) : bt (s.extract p q) (i : Int) = bt s ((p + i : Nat) : Int) := by
  unfold bt
  have h1 : ((i : Int)).toNat < (s.extract p q).size := by rw [ByteArray.size_extract]; omega
  have h2 : (((p + i : Nat) : Int)).toNat < s.size := by omega
  rw [dif_pos h1, dif_pos h2]
  rw [ByteArray.getElem_extract]
  simp only [Int.toNat_natCast]

/-- There is room for n digits more. -/
def cap (n : Nat) (acc : Int) : Prop := (acc + 1) * 10 ^ n ≤ 1000000000
theorem ten_pow (n : Nat) : (1 : Int) ≤ 10 ^ n := by
  induction n with
  | zero => decide
  | succ n ih => rw [Int.pow_succ]; omega
theorem cap_lt {n : Nat} {acc : Int} (h0 : 0 ≤ acc) (h : cap (n + 1) acc) : acc < 100000000 := by
  have hp := ten_pow n
  unfold cap at h
  rw [Int.pow_succ] at h
  have e : (acc + 1) * 10 * 10 ^ n = (acc + 1) * (10 ^ n * 10) := by rw [Int.mul_assoc, Int.mul_comm 10]
  have h2 : (acc + 1) * 10 * 1 ≤ (acc + 1) * 10 * 10 ^ n := Int.mul_le_mul_of_nonneg_left hp (by omega)
  rw [e] at h2
  have h3 := Int.le_trans h2 h
  clear h h2 e
  omega
theorem cap_step {n : Nat} {acc d : Int} (h0 : 0 ≤ acc) (hd : d ≤ 9) (h : cap (n + 1) acc) : cap n (10 * acc + d) := by
  unfold cap at h ⊢
  have h3 : 10 * acc + d + 1 ≤ (acc + 1) * 10 := by omega
  refine Int.le_trans (Int.mul_le_mul_of_nonneg_right h3 (Int.le_trans (by decide) (ten_pow n))) ?_
  rw [Int.mul_assoc, Int.mul_comm 10, ← Int.pow_succ]
  exact h
/-- What a field that is no number gives. -/
def orNo (o : Option Int) (f : Int → Option (Int × Bool)) : Option (Int × Bool) := match o with | some v => f v | none => some (0, false)

theorem dg_l0 (s : ByteArray) (p q : Nat) (hq : q ≤ s.size) (hs : s.size ≤ 100) : ∀ (n i : Nat) (acc : Int) (k : Nat), p + i + n = q → 0 ≤ acc → cap n acc →
    impl_digits.l0 (k + n + 1) (s.extract p q) acc ((s.extract p q).size : Int) (i : Int) = orNo (dg s n (p + i) acc) fun v => some (v, true) := by
  intro n
  induction n with
  | zero =>
    intro i acc k h h0 h1
    rw [impl_digits.l0, ByteArray.size_extract, if_neg (by omega)]
    rfl
  | succ n ih =>
    intro i acc k h h0 h1
    rw [impl_digits.l0, if_pos (by rw [ByteArray.size_extract]; omega), if_pos (by omega), if_pos (by rw [ByteArray.size_extract]; omega), bt_extract s p q i (by omega) hq]
    rw [dg]
    have hb := bt_range s ((p + i : Nat) : Int)
    generalize bt s ((p + i : Nat) : Int) = y at hb
    by_cases c : y < 48
    · rw [if_pos c, if_pos c]; rfl
    · rw [if_neg c, if_neg c]
      by_cases d : y > 57
      · rw [if_pos d, if_pos d]; rfl
      · rw [if_neg d, if_neg d]
        have h2 := cap_lt h0 h1
        have e1 : wrap64 (wrap64 (10 * acc) + (y - 48) % 256) = 10 * acc + (y - 48) := by unfold wrap64; omega
        have e2 : wrap64 ((i : Int) + 1) = ((i + 1 : Nat) : Int) := by unfold wrap64; omega
        rw [e1, e2, show k + (n + 1) = k + n + 1 by omega]
        exact ih (i + 1) (10 * acc + (y - 48)) k (by omega) (by omega) (cap_step h0 (by omega) h1)

theorem dg_range (s : ByteArray) : ∀ (n p : Nat) (acc v : Int), 0 ≤ acc → dg s n p acc = some v → 0 ≤ v := by
  intro n
  induction n with
  | zero =>
    intro p acc v h e
    obtain rfl := Option.some.inj e
    exact h
  | succ n ih =>
    intro p acc v h e
    rw [dg] at e
    split at e
    · simp at e
    · split at e
      · simp at e
      · exact ih (p + 1) _ v (by omega) e

theorem digits_up (s : ByteArray) (r : Int × Bool) (k : Nat) (h : impl_digits.f k s = some r) : ∀ d, impl_digits.f (k + d) s = some r
  | 0 => h
  | d + 1 => impl_digits.mono s (k + d) r (digits_up s r k h d)

theorem dg_digits (s : ByteArray) (p q n : Nat) (hq : q ≤ s.size) (hs : s.size ≤ 100) (hn : p + n = q) (h1 : 1 ≤ n) (h9 : n ≤ 9) (k : Nat) (hk : 12 ≤ k) :
    impl_digits.f k (s.extract p q) = orNo (dg s n p 0) fun v => some (v, true) := by
  have hz : (s.extract p q).size = n := by rw [ByteArray.size_extract]; omega
  have hne : ¬ (s.extract p q).toList = [] := by
    rw [ByteArray.toList_eq]
    intro h
    have : (s.extract p q).data.toList.length = n := by rw [Array.length_toList]; exact hz
    rw [h] at this
    simp at this
    omega
  have hp : cap n 0 := by
    unfold cap
    have : (10 : Nat) ^ n ≤ 10 ^ 9 := Nat.pow_le_pow_right (by omega) h9
    have e : ((10 ^ n : Nat) : Int) = (10 : Int) ^ n := by push_cast; rfl
    have e2 : (10 : Nat) ^ 9 = 1000000000 := by decide
    omega
  have := dg_l0 s p q hq hs n 0 0 (k - n - 2) (by omega) (by omega) hp
  unfold impl_digits.f
  rw [if_neg hne, show decide (((s.extract p q).size : Int) > 9) = false by rw [hz]; simp; omega]
  obtain ⟨m, rfl⟩ : ∃ m, k = m + 1 := ⟨k - 1, by omega⟩
  rw [impl_digits.j0, if_neg (by simp)]
  rw [show m = m + 1 - n - 2 + n + 1 by omega]
  exact this

theorem tt_up (a b f : Int) (c : Bool) (s : ByteArray) (k : Nat) (h : impl_TimeText.f k a b c f = some s) : ∀ d, impl_TimeText.f (k + d) a b c f = some s
  | 0 => h
  | d + 1 => impl_TimeText.mono a b c f (k + d) s (tt_up a b f c s k h d)

/-- The frame that four numbers tell. -/
def frOf (B LL v0 v1 v2 v3 : Int) : Int := wrap64 (wrap64 (wrap64 (wrap64 (wrap64 (60 * wrap64 (wrap64 (60 * v0) + v1)) + v2) * B) + v3) - wrap64 (LL * wrap64 (wrap64 (wrap64 (60 * v0) + v1) - wrap64 (Int.tdiv (wrap64 (wrap64 (60 * v0) + v1)) 10))))

theorem wrap_wrap (x : Int) : wrap64 (wrap64 x) = wrap64 x := by unfold wrap64; omega

theorem left_some (a b B : Int) (c : Bool) (hc : c = true → b = 1001 ∧ (a = 30000 ∧ B = 30 ∨ a = 60000 ∧ B = 60)) : ∃ LL, impl_Rate_left.f a b c = some LL ∧ LL = if c = true then wrap64 (Int.tdiv B 15) else 0 := by
  cases c with
  | false => exact ⟨0, rfl, rfl⟩
  | true =>
    obtain ⟨rfl, h | h⟩ := hc rfl
    · obtain ⟨rfl, rfl⟩ := h
      exact ⟨2, rfl, by decide +kernel⟩
    · obtain ⟨rfl, rfl⟩ := h
      exact ⟨4, rfl, by decide +kernel⟩


theorem and255 (n : Int) : Go.bits .and .i64 n 255 = n % 256 := by
  have h127 : (BitVec.ofInt 64 255).toNat = 2 ^ 8 - 1 := by decide
  have key : (BitVec.ofInt 64 n &&& BitVec.ofInt 64 255).toNat = (n % ((2 ^ 64 : Nat) : Int)).toNat % 2 ^ 8 := by
    rw [BitVec.toNat_and, BitVec.toNat_ofInt, h127, Nat.and_two_pow_sub_one_eq_mod]
  show IntKind.i64.wrap ((BitVec.ofInt 64 n &&& BitVec.ofInt 64 255).toNat : Nat) = n % 256
  rw [key, IntKind.wrap_i64]
  omega

theorem byte_ok (b : List Int) (i h : Int) (hb : b.length ≤ 4096) (hi : 0 ≤ i) :
    ∃ x i' h', spec_l1Byte.f b i h = some (x, i', h') ∧ 0 ≤ x ∧ x ≤ 255 ∧ 0 ≤ i' := by
  unfold spec_l1Byte.f
  simp only [and255]
  by_cases c : i < (b.length : Int)
  · rw [if_pos c, if_pos hi]
    have hw : wrap64 (i + 1) = i + 1 := by unfold wrap64; omega
    rw [hw]
    exact ⟨_, _, _, rfl, by omega, by omega, by omega⟩
  · rw [if_neg c]
    exact ⟨_, _, _, rfl, by omega, by omega, hi⟩

theorem below_ok (b : List Int) (i h n : Int) (hb : b.length ≤ 4096) (hi : 0 ≤ i) :
    ∃ x i' h', spec_l1Below.f b i h n = some (x, i', h') ∧ 0 ≤ i' ∧ 0 ≤ x ∧ (1 ≤ n → x < n) := by
  unfold spec_l1Below.f
  by_cases c0 : n ≤ 0
  · rw [if_pos c0]
    exact ⟨_, _, _, rfl, hi, by omega, by omega⟩
  · rw [if_neg c0]
    by_cases c : n ≤ 256
    · rw [if_pos c]
      obtain ⟨x, i1, h1, e, x0, x1, hi1⟩ := byte_ok b i h hb hi
      rw [e]
      simp only [Option.bind_some]
      rw [if_neg (by omega)]
      exact ⟨_, _, _, rfl, hi1, Int.tmod_nonneg _ x0, fun _ => Int.tmod_lt_of_pos _ (by omega)⟩
    · rw [if_neg c]
      obtain ⟨x, i1, h1, e, x0, x1, hi1⟩ := byte_ok b i h hb hi
      rw [e]
      simp only [Option.bind_some]
      obtain ⟨y, i2, h2, e, y0, y1, hi2⟩ := byte_ok b i1 h1 hb hi1
      rw [e]
      simp only [Option.bind_some]
      obtain ⟨z, i3, h3, e, z0, z1, hi3⟩ := byte_ok b i2 h2 hb hi2
      rw [e]
      simp only [Option.bind_some]
      obtain ⟨u, i4, h4, e, u0, u1, hi4⟩ := byte_ok b i3 h3 hb hi3
      rw [e]
      simp only [Option.bind_some]
      rw [if_neg (by omega)]
      have hw : wrap64 (wrap64 (wrap64 (wrap64 (x * 16777216) + wrap64 (y * 65536)) + wrap64 (z * 256)) + u) = x * 16777216 + y * 65536 + z * 256 + u := by
        have e1 : wrap64 (x * 16777216) = x * 16777216 := by unfold wrap64; omega
        have e2 : wrap64 (y * 65536) = y * 65536 := by unfold wrap64; omega
        have e3 : wrap64 (z * 256) = z * 256 := by unfold wrap64; omega
        rw [e1, e2, e3]
        have e4 : wrap64 (x * 16777216 + y * 65536) = x * 16777216 + y * 65536 := by unfold wrap64; omega
        rw [e4]
        have e5 : wrap64 (x * 16777216 + y * 65536 + z * 256) = x * 16777216 + y * 65536 + z * 256 := by unfold wrap64; omega
        rw [e5]
        unfold wrap64
        omega
      rw [hw]
      exact ⟨_, _, _, rfl, hi4, Int.tmod_nonneg _ (by omega), fun _ => Int.tmod_lt_of_pos _ (by omega)⟩

theorem once_ok (b : List Int) (i h n : Int) (hb : b.length ≤ 4096) (hi : 0 ≤ i) :
    ∃ x i' h', spec_l1Once.f b i h n = some (x, i', h') ∧ 0 ≤ i' := by
  unfold spec_l1Once.f
  obtain ⟨x, i1, h1, e, hi1, _⟩ := below_ok b i h n hb hi
  rw [e]
  exact ⟨_, _, _, rfl, hi1⟩

theorem new_loop (l : List Int) (hl : l.length ≤ 4096) (d : Nat) : ∀ (k : Nat) (h i : Int), 0 ≤ i → i ≤ l.length → (l.length : Int) - i = d → d < k → ∃ h', spec_l1New.l0 k l h i = some (l, 0, h') := by
  induction d with
  | zero =>
    intro k h i h0 h1 hd hk
    obtain ⟨k, rfl⟩ : ∃ m, k = m + 1 := ⟨k - 1, by omega⟩
    exact ⟨h, by simp only [spec_l1New.l0]; rw [if_neg (by omega)]⟩
  | succ d ih =>
    intro k h i h0 h1 hd hk
    obtain ⟨k, rfl⟩ : ∃ m, k = m + 1 := ⟨k - 1, by omega⟩
    simp only [spec_l1New.l0]
    rw [if_pos (by omega), if_pos h0]
    have hw : wrap64 (i + 1) = i + 1 := by unfold wrap64; omega
    rw [hw]
    exact ih k _ (i + 1) (by omega) (by omega) (by omega) (by omega)

theorem new_ok (l : List Int) (hl : l.length ≤ 4096) (k : Nat) (hk : 4097 ≤ k) : ∃ h, spec_l1New.f k l = some (l, 0, h) := by
  unfold spec_l1New.f
  exact new_loop l hl l.length k _ 0 (by omega) (by omega) (by omega) (by omega)

theorem drawrate_ok (b : List Int) (i h : Int) (hb : b.length ≤ 4096) (hi : 0 ≤ i) :
    ∃ x0 x1 x2 i' h', spec_l1DrawRate.f b i h = some (x0, x1, x2, i', h') ∧ 0 ≤ i' := by
  unfold spec_l1DrawRate.f
  simp only [Option.bind_some]
  obtain ⟨a, i1, h1, e, hi1, a0, a1⟩ := below_ok b i h 10 hb hi
  have a1 := a1 (by omega)
  rw [e]; simp only [Option.bind_some]; clear e
  rw [if_pos a0, if_pos (by simpa using a1)]
  obtain ⟨o, i2, h2, e, hi2⟩ := once_ok b i1 h1 16 hb hi1
  rw [e]; simp only [Option.bind_some]; clear e
  split
  · obtain ⟨k, i3, h3, e, hi3, _, _⟩ := below_ok b i2 h2 4 hb hi2
    rw [e]; simp only [Option.bind_some]; clear e
    obtain ⟨u, i4, h4, e, hi4, u0, u1⟩ := below_ok b i3 h3 6 hb hi3
    obtain ⟨v, i5, h5, e2, hi5, v0, v1⟩ := below_ok b i3 h3 5 hb hi3
    have u1 := u1 (by omega)
    have v1 := v1 (by omega)
    simp only [e, e2, Option.bind_some]
    split
    · first | rw [if_pos u0, if_pos (by simpa using u1)] | rw [if_pos (by simpa using u1)]
      exact ⟨_, _, _, _, _, rfl, hi4⟩
    · split
      · first | rw [if_pos v0, if_pos (by simpa using v1)] | rw [if_pos (by simpa using v1)]
        exact ⟨_, _, _, _, _, rfl, hi5⟩
      · split
        · exact ⟨_, _, _, _, _, rfl, hi3⟩
        · split
          · exact ⟨_, _, _, _, _, rfl, hi3⟩
          · exact ⟨_, _, _, _, _, rfl, hi3⟩
  · exact ⟨_, _, _, _, _, rfl, hi2⟩

theorem base_ok (k : Nat) (hk : 1002 ≤ k) (a b : Int) (c : Bool) : ∃ v, spec_Base.f k a b c = some v := by
  unfold spec_Base.f
  obtain ⟨r, hr, hp⟩ := rate_some k hk a b c
  rw [rate_eq, hr]
  simp only [Option.bind_some]
  cases r with
  | false => exact ⟨0, rfl⟩
  | true =>
    have hp := hp rfl
    rw [if_pos rfl, if_neg (by omega)]
    exact ⟨_, rfl⟩

theorem drawframe_ok (k : Nat) (hk : 1002 ≤ k) (b : List Int) (i h : Int) (hb : b.length ≤ 4096) (hi : 0 ≤ i) (a0 a1 : Int) (a2 : Bool) :
    ∃ f i' h', spec_l1DrawFrame.f k b i h a0 a1 a2 = some (f, i', h') := by
  have j1 : ∀ (k : Nat) (x i h : Int), 0 ≤ i → ∃ f i' h', spec_l1DrawFrame.j1 (k + 1) x b i h = some (f, i', h') := by
    intro k x i h hi
    simp only [spec_l1DrawFrame.j1]
    obtain ⟨o, i2, h2, e, hi2⟩ := once_ok b i h 16 hb hi
    rw [e]; simp only [Option.bind_some]; clear e
    split
    · obtain ⟨v, i5, h5, e2, hi5, v0, v1⟩ := below_ok b i2 h2 5 hb hi2
      have v1 := v1 (by omega)
      simp only [e2, Option.bind_some]
      first | rw [if_pos v0, if_pos (by simpa using v1)] | rw [if_pos (by simpa using v1)]
      exact ⟨_, _, _, rfl⟩
    · exact ⟨_, _, _, rfl⟩
  have j0 : ∀ (k : Nat) (x i h : Int), 0 ≤ i → ∃ f i' h', spec_l1DrawFrame.j0 (k + 2) x b i h = some (f, i', h') := by
    intro k x i h hi
    simp only [spec_l1DrawFrame.j0]
    obtain ⟨o, i2, h2, e, hi2⟩ := once_ok b i h 8 hb hi
    rw [e]; simp only [Option.bind_some]; clear e
    split
    · obtain ⟨v, i5, h5, e2, hi5, v0, v1⟩ := below_ok b i2 h2 10000000 hb hi2
      simp only [e2, Option.bind_some]
      exact j1 k _ _ _ hi5
    · exact j1 k _ _ _ hi2
  obtain ⟨k, rfl⟩ : ∃ m, k = m + 2 := ⟨k - 2, by omega⟩
  unfold spec_l1DrawFrame.f
  obtain ⟨x, i1, h1, e, hi1, _, _⟩ := below_ok b i h 2000 hb hi
  rw [e]; simp only [Option.bind_some]; clear e
  obtain ⟨o, i2, h2, e, hi2⟩ := once_ok b i1 h1 3 hb hi1
  rw [e]; simp only [Option.bind_some]; clear e
  split
  · obtain ⟨B, hB⟩ := base_ok (k + 2) hk a0 a1 a2
    rw [hB]
    obtain ⟨m, hm⟩ : ∃ m, spec_l1Max.f 1 B = some m := by
      unfold spec_l1Max.f
      split
      · exact ⟨_, rfl⟩
      · exact ⟨_, rfl⟩
    simp only [Option.bind_some]
    rw [hm]
    simp only [Option.bind_some]
    obtain ⟨v, i5, h5, e2, hi5, v0, v1⟩ := below_ok b i2 h2 7 hb hi2
    have v1 := v1 (by omega)
    simp only [e2, Option.bind_some]
    first | rw [if_pos v0, if_pos (by simpa using v1)] | rw [if_pos (by simpa using v1)]
    obtain ⟨u, i6, h6, e3, hi6, _, _⟩ := below_ok b i5 h5 3 hb hi5
    simp only [e3, Option.bind_some]
    unfold spec_l1From.f
    obtain ⟨t, i7, h7, e4, hi7, _, _⟩ := below_ok b i6 h6 (wrap64 (wrap64 (3 - (-3)) + 1)) hb hi6
    simp only [e4, Option.bind_some]
    exact j0 k _ _ _ hi7
  · exact j0 k _ _ _ hi2


/-- Two digits and three digits as rows of bytes. -/
def q2 (v : Nat) : List UInt8 := [UInt8.ofNat (48 + v / 10), UInt8.ofNat (48 + v % 10)]
def q3 (v : Nat) : List UInt8 := [UInt8.ofNat (48 + v / 100), UInt8.ofNat (48 + v / 10 % 10), UInt8.ofNat (48 + v % 10)]
def qD (B v : Int) : List UInt8 := if B > 100 then q3 v.toNat else q2 v.toNat
def mkb (c : Bool) : UInt8 := if c then 59 else 58
def rowOf (B n : Int) (c : Bool) : List UInt8 :=
  q2 (n / B / 3600).toNat ++ 58 :: (q2 (n / B / 60 % 60).toNat ++ 58 :: (q2 (n / B % 60).toNat ++ mkb c :: qD B (n % B)))

theorem txt_row (B n : Int) (c : Bool) (hh : ¬ n / B / 3600 > 99) : (txt B n c).data.toList = rowOf B n c := by
  unfold txt
  rw [if_neg hh]
  simp only [ByteArray.data_append, Array.toList_append]
  have h2 : ∀ v, (D2 v).data.toList = q2 v := fun v => rfl
  have h3 : ∀ v, (D3 v).data.toList = q3 v := fun v => rfl
  have hD : (DD B (n % B)).data.toList = qD B (n % B) := by
    unfold DD qD
    split
    · exact h3 _
    · exact h2 _
  have hm : (mark c).data.toList = [mkb c] := by cases c <;> rfl
  have hc : colon.data.toList = [58] := rfl
  rw [h2, h2, h2, hD, hm, hc]
  unfold rowOf
  simp only [List.append_assoc, List.cons_append, List.nil_append]

theorem bt_list (s : ByteArray) (l : List UInt8) (hl : s.data.toList = l) (i : Nat) (h : i < l.length) : bt s (i : Int) = ((l[i]'h).toNat : Int) := by
  subst hl
  unfold bt
  have h1 : ((i : Int)).toNat < s.size := by
    rw [Int.toNat_natCast]
    exact h
  rw [dif_pos h1]
  simp only [Int.toNat_natCast]
  rfl

theorem d_nat (x : Nat) (h : x ≤ 9) : (UInt8.ofNat (48 + x)).toNat = 48 + x := by
  rw [UInt8.toNat_ofNat']
  omega

theorem dg_two (s : ByteArray) (p : Nat) (v : Nat) (hv : v < 100) (h0 : bt s (p : Int) = ((UInt8.ofNat (48 + v / 10)).toNat : Int)) (h1 : bt s ((p + 1 : Nat) : Int) = ((UInt8.ofNat (48 + v % 10)).toNat : Int)) : dg s 2 p 0 = some (v : Int) := by
  rw [d_nat _ (by omega)] at h0 h1
  simp only [dg]
  rw [h0, h1, if_neg (by omega), if_neg (by omega), if_neg (by omega), if_neg (by omega)]
  congr 1
  omega

theorem dg_three (s : ByteArray) (p : Nat) (v : Nat) (hv : v < 1000) (h0 : bt s (p : Int) = ((UInt8.ofNat (48 + v / 100)).toNat : Int)) (h1 : bt s ((p + 1 : Nat) : Int) = ((UInt8.ofNat (48 + v / 10 % 10)).toNat : Int)) (h2 : bt s ((p + 1 + 1 : Nat) : Int) = ((UInt8.ofNat (48 + v % 10)).toNat : Int)) : dg s 3 p 0 = some (v : Int) := by
  rw [d_nat _ (by omega)] at h0 h1 h2
  simp only [dg]
  rw [h0, h1, h2, if_neg (by omega), if_neg (by omega), if_neg (by omega), if_neg (by omega), if_neg (by omega), if_neg (by omega)]
  congr 1
  omega

theorem row_length (B n : Int) (c : Bool) : (rowOf B n c).length = if B > 100 then 12 else 11 := by
  unfold rowOf qD
  split
  · rfl
  · rfl

/-- What the fields of a text tell. -/
theorem row_fields (s : ByteArray) (B n : Int) (c : Bool) (hs : s.data.toList = rowOf B n c) (hB : 1 ≤ B) (hB2 : B ≤ 120) (hn : 0 ≤ n) (hh : ¬ n / B / 3600 > 99) :
    dg s 2 0 0 = some (n / B / 3600) ∧ dg s 2 3 0 = some (n / B / 60 % 60) ∧ dg s 2 6 0 = some (n / B % 60) ∧ dg s (s.size - 9) 9 0 = some (n % B) := by
  have s0 : 0 ≤ n / B := Int.ediv_nonneg hn (by omega)
  have m0 : 0 ≤ n % B := Int.emod_nonneg n (by omega)
  have m1 : n % B < B := Int.emod_lt_of_pos n (by omega)
  have hsz : s.size = (rowOf B n c).length := by rw [← hs]; rfl
  rw [row_length] at hsz
  obtain ⟨h, eh⟩ : ∃ h : Nat, n / B / 3600 = (h : Int) := ⟨(n / B / 3600).toNat, by omega⟩
  obtain ⟨m, em⟩ : ∃ m : Nat, n / B / 60 % 60 = (m : Int) := ⟨(n / B / 60 % 60).toNat, by omega⟩
  obtain ⟨t, et⟩ : ∃ t : Nat, n / B % 60 = (t : Int) := ⟨(n / B % 60).toNat, by omega⟩
  obtain ⟨f, ef⟩ : ∃ f : Nat, n % B = (f : Int) := ⟨(n % B).toNat, by omega⟩
  have hrow : rowOf B n c = q2 h ++ 58 :: (q2 m ++ 58 :: (q2 t ++ mkb c :: qD B f)) := by
    unfold rowOf
    rw [eh, em, et, ef]
    rfl
  rw [hrow] at hs
  rw [eh, em, et, ef]
  refine ⟨?_, ?_, ?_, ?_⟩
  · refine dg_two s 0 h (by omega) ?_ ?_
    · exact bt_list s _ hs 0 (by unfold q2; simp)
    · exact bt_list s _ hs 1 (by unfold q2; simp)
  · refine dg_two s 3 m (by omega) ?_ ?_
    · exact bt_list s _ hs 3 (by unfold q2; simp)
    · exact bt_list s _ hs 4 (by unfold q2; simp)
  · refine dg_two s 6 t (by omega) ?_ ?_
    · exact bt_list s _ hs 6 (by unfold q2; simp)
    · exact bt_list s _ hs 7 (by unfold q2; simp)
  · unfold qD at hs
    by_cases hb : B > 100
    · rw [if_pos hb] at hs hsz
      rw [hsz]
      refine dg_three s 9 f (by omega) ?_ ?_ ?_
      · exact bt_list s _ hs 9 (by unfold q2 q3; simp)
      · exact bt_list s _ hs 10 (by unfold q2 q3; simp)
      · exact bt_list s _ hs 11 (by unfold q2 q3; simp)
    · rw [if_neg hb] at hs hsz
      rw [hsz]
      refine dg_two s 9 f (by omega) ?_ ?_
      · exact bt_list s _ hs 9 (by unfold q2; simp)
      · exact bt_list s _ hs 10 (by unfold q2; simp)

theorem told_back (B LL f : Int) (c : Bool) (hc : c = true → B = 30 ∨ B = 60) (hL : LL = if c = true then wrap64 (Int.tdiv B 15) else 0) (h0 : 0 ≤ f) (h1 : f ≤ 10000000) (n : Int) (hn : n = toldn B f c) :
    n - LL * (n / B / 60 - n / B / 60 / 10) = f := by
  cases c
  · rw [if_neg (by simp)] at hL
    subst hL
    rw [Int.zero_mul, hn]
    unfold toldn
    simp
  · rw [if_pos rfl] at hL
    rcases hc rfl with rfl | rfl
    · have e0 : wrap64 (Int.tdiv 30 15) = 2 := by decide +kernel
      rw [e0] at hL
      subst hL
      unfold toldn at hn
      simp only [if_true, show (30 : Int) / 15 = 2 from rfl] at hn
      rw [show (600 * 30 - 9 * 2 : Int) = 17982 from rfl, show (60 * 30 : Int) = 1800 from rfl, show (1800 - 2 : Int) = 1798 from rfl] at hn
      rw [Int.ediv_ediv_of_nonneg (by decide : (0 : Int) ≤ 30), show (30 * 60 : Int) = 1800 from rfl]
      obtain ⟨t, r, ef, r0, r1, et, er⟩ : ∃ t r : Int, f = 17982 * t + r ∧ 0 ≤ r ∧ r < 17982 ∧ f / 17982 = t ∧ f % 17982 = r := ⟨f / 17982, f % 17982, by omega, by omega, by omega, rfl, rfl⟩
      rw [et, er] at hn
      split at hn
      · obtain ⟨q, u, eq, u0, u1, eu⟩ : ∃ q u : Int, r = 1800 + 1798 * q + u ∧ 0 ≤ u ∧ u < 1798 ∧ (r - 1800) / 1798 = q := ⟨(r - 1800) / 1798, (r - 1800) % 1798, by omega, by omega, by omega, rfl⟩
        rw [eu] at hn
        have q0 : 0 ≤ q ∧ q ≤ 8 := by omega
        have em : n / 1800 = 10 * t + 1 + q := by omega
        rw [em]
        omega
      · have em : n / 1800 = 10 * t := by omega
        rw [em]
        omega
    · have e0 : wrap64 (Int.tdiv 60 15) = 4 := by decide +kernel
      rw [e0] at hL
      subst hL
      unfold toldn at hn
      simp only [if_true, show (60 : Int) / 15 = 4 from rfl] at hn
      rw [show (600 * 60 - 9 * 4 : Int) = 35964 from rfl, show (60 * 60 : Int) = 3600 from rfl, show (3600 - 4 : Int) = 3596 from rfl] at hn
      rw [Int.ediv_ediv_of_nonneg (by decide : (0 : Int) ≤ 60), show (60 * 60 : Int) = 3600 from rfl]
      obtain ⟨t, r, ef, r0, r1, et, er⟩ : ∃ t r : Int, f = 35964 * t + r ∧ 0 ≤ r ∧ r < 35964 ∧ f / 35964 = t ∧ f % 35964 = r := ⟨f / 35964, f % 35964, by omega, by omega, by omega, rfl, rfl⟩
      rw [et, er] at hn
      split at hn
      · obtain ⟨q, u, eq, u0, u1, eu⟩ : ∃ q u : Int, r = 3600 + 3596 * q + u ∧ 0 ≤ u ∧ u < 3596 ∧ (r - 3600) / 3596 = q := ⟨(r - 3600) / 3596, (r - 3600) % 3596, by omega, by omega, by omega, rfl⟩
        rw [eu] at hn
        have q0 : 0 ≤ q ∧ q ≤ 8 := by omega
        have em : n / 3600 = 10 * t + 1 + q := by omega
        rw [em]
        omega
      · have em : n / 3600 = 10 * t := by omega
        rw [em]
        omega

theorem fr_back (B LL f : Int) (c : Bool) (hB : 1 ≤ B) (hB2 : B ≤ 120) (hc : c = true → B = 30 ∨ B = 60) (hL : LL = if c = true then wrap64 (Int.tdiv B 15) else 0) (h0 : 0 ≤ f) (h1 : f ≤ 10000000) (n : Int) (hn : n = toldn B f c) :
    frOf B LL (n / B / 3600) (n / B / 60 % 60) (n / B % 60) (n % B) = f := by
  have hb := told_back B LL f c hc hL h0 h1 n hn
  have hr := toldn_range B f c hc h0 (by omega)
  rw [← hn] at hr
  have s0 : 0 ≤ n / B := Int.ediv_nonneg hr.1 (by omega)
  have s1 : n / B ≤ n := Int.ediv_le_self B hr.1
  have m0 : 0 ≤ n % B := Int.emod_nonneg n (by omega)
  have m1 : n % B < B := Int.emod_lt_of_pos n (by omega)
  have e : n / B * B + n % B = n := by rw [Int.mul_comm]; exact Int.mul_ediv_add_emod n B
  have hL2 : LL = 0 ∨ LL = 2 ∨ LL = 4 := by
    cases c
    · left; simpa using hL
    · right
      rw [if_pos rfl] at hL
      rcases hc rfl with rfl | rfl
      · left; rw [hL]; decide +kernel
      · right; rw [hL]; decide +kernel
  clear hL hc hn
  unfold frOf
  generalize n / B = q at *
  generalize n % B = r at *
  have e1 : wrap64 (wrap64 (60 * (q / 3600)) + q / 60 % 60) = q / 60 := by unfold wrap64; omega
  rw [e1]
  have e2 : wrap64 (wrap64 (60 * (q / 60)) + q % 60) = q := by unfold wrap64; omega
  rw [e2]
  have e3 : wrap64 (q / 60 - wrap64 (Int.tdiv (q / 60) 10)) = q / 60 - q / 60 / 10 := by
    rw [Int.tdiv_eq_ediv_of_nonneg (by omega)]
    unfold wrap64
    omega
  rw [e3]
  have hp : 0 ≤ q * B := Int.mul_nonneg s0 (by omega)
  generalize q * B = P at *
  have e4 : wrap64 (wrap64 P + r) = n := by unfold wrap64; omega
  rw [e4]
  rcases hL2 with rfl | rfl | rfl
  · unfold wrap64; omega
  · unfold wrap64; omega
  · unfold wrap64; omega

/-- The text of a frame is read back. -/
theorem read_back (m : Nat) (hm : 1010 ≤ m) (a b : Int) (c : Bool) (f B : Int) (hr : impl_RateOk.f (m + 40) a b c = some true) (hb : impl_Rate_base.f a b c = some B) (h0 : 0 ≤ f) (h1 : f ≤ 10000000)
    (hh : ¬ toldn B f c / B / 3600 > 99) (ht : impl_TimeText.f (m + 40) a b c f = some (txt B (toldn B f c) c)) :
    impl_TimeRead.f (m + 40) a b c (txt B (toldn B f c) c) = some (f, true) := by
  obtain ⟨B2, hb2, hB, hB2, hs, hc⟩ := rate_base a b c (m + 40) (by omega) hr
  obtain rfl : B = B2 := Option.some.inj (hb.symm.trans hb2)
  clear hb2
  have hc2 : c = true → B = 30 ∨ B = 60 := fun h => by obtain ⟨_, h | h⟩ := hc h <;> omega
  have hrg := toldn_range B f c hc2 h0 (by omega)
  have hrow := txt_row B (toldn B f c) c hh
  obtain ⟨g0, g1, g2, g3⟩ := row_fields _ B (toldn B f c) c hrow hB hB2 hrg.1 hh
  have hsz : (txt B (toldn B f c) c).size = (rowOf B (toldn B f c) c).length := by rw [← hrow]; rfl
  rw [row_length] at hsz
  have hsz1 : 11 ≤ (txt B (toldn B f c) c).size ∧ (txt B (toldn B f c) c).size ≤ 12 := by rw [hsz]; split <;> omega
  obtain ⟨LL, hLL, hL⟩ := left_some a b B c hc
  have hfr := fr_back B LL f c hB hB2 hc2 hL h0 h1 _ rfl
  generalize hs : txt B (toldn B f c) c = s at *
  unfold impl_TimeRead.f
  rw [hr, Option.bind_some, if_pos rfl, in_some, Option.bind_some, if_pos (by simp; omega)]
  rw [dg_digits s 0 2 2 (by omega) (by omega) (by omega) (by omega) (by omega) (m + 40) (by omega), dg_digits s 3 5 2 (by omega) (by omega) (by omega) (by omega) (by omega) (m + 40) (by omega), dg_digits s 6 8 2 (by omega) (by omega) (by omega) (by omega) (by omega) (m + 40) (by omega), dg_digits s 9 s.size (s.size - 9) (by omega) (by omega) (by omega) (by omega) (by omega) (m + 40) (by omega)]
  rw [g0, g1, g2, g3]
  simp only [orNo, if_true, Option.bind_some]
  rw [hb, hLL, Option.bind_some, Option.bind_some]
  unfold frOf at hfr
  rw [hfr, ht, Option.bind_some, if_pos rfl]

set_option maxRecDepth 100000 in
theorem less2_all : ∀ v w : Fin 100, v.val < w.val → (decide (UInt8.ofNat (48 + v.val / 10) < UInt8.ofNat (48 + w.val / 10)) || (UInt8.ofNat (48 + v.val / 10) == UInt8.ofNat (48 + w.val / 10) && decide (UInt8.ofNat (48 + v.val % 10) < UInt8.ofNat (48 + w.val % 10)))) = true := by decide +kernel
set_option maxRecDepth 100000 in
theorem less3_all : ∀ v w : Fin 120, v.val < w.val → Op.bytesLess (q3 v.val) (q3 w.val) = true := by decide +kernel

theorem less2 (v w : Nat) (hv : v < w) (hw : w < 100) (x y : List UInt8) : Op.bytesLess (q2 v ++ x) (q2 w ++ y) = true := by
  have h := less2_all ⟨v, by omega⟩ ⟨w, hw⟩ hv
  unfold q2
  simp only [List.cons_append, List.nil_append, Op.bytesLess]
  simp only [Bool.or_eq_true, Bool.and_eq_true] at h ⊢
  rcases h with h | h
  · exact Or.inl h
  · exact Or.inr ⟨h.1, Or.inl h.2⟩
theorem same_cons (b : UInt8) (x y : List UInt8) : Op.bytesLess (b :: x) (b :: y) = Op.bytesLess x y := by
  simp [Op.bytesLess]
theorem same2 (v : Nat) (x y : List UInt8) : Op.bytesLess (q2 v ++ x) (q2 v ++ y) = Op.bytesLess x y := by
  unfold q2
  simp only [List.cons_append, List.nil_append, same_cons]

theorem row_less (B n n2 : Int) (c : Bool) (hB : 1 ≤ B) (hB2 : B ≤ 120) (hn : 0 ≤ n) (hlt : n < n2) (hh : ¬ n2 / B / 3600 > 99) : Op.bytesLess (rowOf B n c) (rowOf B n2 c) = true := by
  have s0 : 0 ≤ n / B := Int.ediv_nonneg hn (by omega)
  have m0 : 0 ≤ n % B := Int.emod_nonneg n (by omega)
  have m1 : n % B < B := Int.emod_lt_of_pos n (by omega)
  have m2 : 0 ≤ n2 % B := Int.emod_nonneg n2 (by omega)
  have m3 : n2 % B < B := Int.emod_lt_of_pos n2 (by omega)
  have hle : n / B ≤ n2 / B := Int.ediv_le_ediv (by omega) (by omega)
  have e1 := Int.mul_ediv_add_emod n B
  have e2 := Int.mul_ediv_add_emod n2 B
  have hcase : n / B < n2 / B ∨ (n / B = n2 / B ∧ n % B < n2 % B) := by
    by_cases h : n / B < n2 / B
    · exact Or.inl h
    · have h2 : n / B = n2 / B := by omega
      rw [h2] at e1
      exact Or.inr ⟨h2, by omega⟩
  clear e1 e2
  unfold rowOf
  generalize n / B = q at *
  generalize n2 / B = q2' at *
  generalize n % B = r at *
  generalize n2 % B = r2 at *
  rcases hcase with h | ⟨rfl, h⟩
  · by_cases a1 : q / 3600 < q2' / 3600
    · exact less2 _ _ (by omega) (by omega) _ _
    · have a2 : q / 3600 = q2' / 3600 := by omega
      rw [a2, same2, same_cons]
      by_cases b1 : q / 60 % 60 < q2' / 60 % 60
      · exact less2 _ _ (by omega) (by omega) _ _
      · have b2 : q / 60 % 60 = q2' / 60 % 60 := by omega
        rw [b2, same2, same_cons]
        exact less2 _ _ (by omega) (by omega) _ _
  · rw [same2, same_cons, same2, same_cons, same2, same_cons]
    unfold qD
    by_cases hb : B > 100
    · rw [if_pos hb, if_pos hb]
      exact less3_all ⟨r.toNat, by omega⟩ ⟨r2.toNat, by omega⟩ (by show r.toNat < r2.toNat; omega)
    · rw [if_neg hb, if_neg hb]
      have := less2 r.toNat r2.toNat (by omega) (by omega) [] []
      simpa using this

theorem told_less (B f : Int) (c : Bool) (hc : c = true → B = 30 ∨ B = 60) (h0 : 0 ≤ f) (h1 : f ≤ 10000000) : toldn B f c < toldn B (f + 1) c := by
  cases c
  · unfold toldn; simp; omega
  · rcases hc rfl with rfl | rfl
    · unfold toldn
      simp only [if_true, show (30 : Int) / 15 = 2 from rfl]
      split <;> split <;> omega
    · unfold toldn
      simp only [if_true, show (60 : Int) / 15 = 4 from rfl]
      split <;> split <;> omega

/-- Behind the last text there is none: it is that of the last second. -/
theorem told_last (B f : Int) (c : Bool) (hB : 1 ≤ B) (hc : c = true → B = 30 ∨ B = 60) (h0 : 0 ≤ f) (h1 : f ≤ 10000000) (hh : ¬ toldn B f c / B / 3600 > 99) (hg : toldn B (f + 1) c / B / 3600 > 99) : toldn B f c / B = 359999 := by
  cases c
  · have e1 : toldn B f false = f := by unfold toldn; simp
    have e2 : toldn B (f + 1) false = f + 1 := by unfold toldn; simp
    rw [e1] at hh ⊢
    rw [e2] at hg
    have h3 : 360000 ≤ (f + 1) / B := by omega
    have h4 : 360000 * B ≤ f + 1 := (Int.le_ediv_iff_mul_le (by omega)).1 h3
    have h5 : f / B < 360000 := by omega
    have h6 : f < 360000 * B := (Int.ediv_lt_iff_lt_mul (by omega)).1 h5
    have h7 : 359999 ≤ f / B := (Int.le_ediv_iff_mul_le (by omega)).2 (by omega)
    omega
  · rcases hc rfl with rfl | rfl
    · unfold toldn at hg
      simp only [if_true, show (30 : Int) / 15 = 2 from rfl] at hg
      split at hg <;> omega
    · unfold toldn at hg
      simp only [if_true, show (60 : Int) / 15 = 4 from rfl] at hg
      split at hg <;> omega

theorem draw_ok (l0 : List Int) (hb : l0.length ≤ 4096) : ∃ a b c f, spec_DrawTimeText.f 4137 l0 = some (a, b, c, f) := by
  unfold spec_DrawTimeText.f
  obtain ⟨h, e⟩ := new_ok l0 hb 4137 (by omega)
  rw [e]; simp only [Option.bind_some]; clear e
  obtain ⟨x0, x1, x2, i1, h1, e, hi1⟩ := drawrate_ok l0 0 h hb (by omega)
  rw [e]; simp only [Option.bind_some]; clear e
  obtain ⟨f, i2, h2, e⟩ := drawframe_ok 4137 (by omega) l0 i1 h1 hb hi1 x0 x1 x2
  rw [e]
  exact ⟨_, _, _, _, rfl⟩

theorem nil_iff (s : ByteArray) : s.toList = [] ↔ s.size = 0 := by
  rw [ByteArray.toList_eq]
  constructor
  · intro h
    have : s.data.toList.length = 0 := by rw [h]; rfl
    rw [Array.length_toList] at this
    exact this
  · intro h
    refine List.eq_nil_of_length_eq_zero ?_
    rw [Array.length_toList]
    exact h

theorem read_none (k : Nat) (hk : 1010 ≤ k) (a b : Int) (c : Bool) (s : ByteArray) (h : s.size = 0) : impl_TimeRead.f k a b c s = some (0, false) := by
  obtain ⟨t, ht, _⟩ := rate_some k (by omega) a b c
  unfold impl_TimeRead.f
  rw [ht, Option.bind_some]
  cases t with
  | false => rw [if_neg (by simp)]
  | true => rw [if_pos rfl, in_some, Option.bind_some, if_neg (by simp; omega)]

theorem first_eight (s : ByteArray) (B n : Int) (c : Bool) (hs : s.data.toList = rowOf B n c) (hq : n / B = 359999) : 8 ≤ s.size ∧ (s.extract 0 8).toList = ([57, 57, 58, 53, 57, 58, 53, 57] : List UInt8) := by
  have hsz : s.size = (rowOf B n c).length := by rw [← hs]; rfl
  rw [row_length] at hsz
  refine ⟨by rw [hsz]; split <;> omega, ?_⟩
  rw [ByteArray.toList_eq, ByteArray.data_extract, Array.toList_extract, hs]
  unfold rowOf
  rw [hq]
  rfl

theorem FnTimeBack (l0 : List Int) (w0 : (l0.length ≤ maxLen ∧ ∀ y2 ∈ l0, (Lit.int .u8 y2).wf = true)) : ∃ k, PFnTimeBack.laws_FnTimeBack.f k l0 = some true := by
  unfold laws_FnTimeBack.f laws_big.f
  simp only [Option.bind_some, decide_eq_true_eq]
  by_cases hbig : (l0.length : Int) > 4096
  · exact ⟨1, by rw [if_pos hbig]⟩
  refine ⟨4137, ?_⟩
  rw [if_neg hbig]
  obtain ⟨a, b, c, f, hd⟩ := draw_ok l0 (by omega)
  rw [hd]
  simp only [Option.bind_some]
  clear hd hbig w0
  obtain ⟨s, h1, h2, h3⟩ := text_eq 4137 (by omega) a b f c
  rw [h1, h2, Option.bind_some, Option.bind_some, if_pos rfl]
  by_cases he : s.toList = []
  · rw [if_pos he, read_none 4137 (by omega) a b c s ((nil_iff s).1 he), Option.bind_some, if_pos rfl]
    rfl
  · rw [if_neg he]
    rcases h3 with ⟨hr, f0, f1, B, hb, hs⟩ | ⟨hs, _⟩
    · obtain ⟨B2, hb2, hB, hB2, _, hc⟩ := rate_base a b c 4137 (by omega) hr
      obtain rfl : B = B2 := Option.some.inj (hb.symm.trans hb2)
      clear hb2
      have hc2 : c = true → B = 30 ∨ B = 60 := fun h => by obtain ⟨_, h | h⟩ := hc h <;> omega
      have hh : ¬ toldn B f c / B / 3600 > 99 := by
        intro h
        apply he
        rw [hs]
        unfold txt
        rw [if_pos h]
        exact (nil_iff _).2 rfl
      subst hs
      have hrg := toldn_range B f c hc2 f0 (by omega)
      have hrow := txt_row B (toldn B f c) c hh
      rw [read_back 4097 (by omega) a b c f B hr hb f0 f1 hh h2, Option.bind_some, show wrap64 (f + 1) = f + 1 by unfold wrap64; omega]
      obtain ⟨s2, h4, h5, h6⟩ := text_eq 4137 (by omega) a b (f + 1) c
      rw [h5, Option.bind_some, if_pos rfl, if_pos rfl]
      rcases h6 with ⟨_, g0, g1, B3, hb3, hs3⟩ | ⟨hs3, h7⟩
      · obtain rfl : B = B3 := Option.some.inj (hb.symm.trans hb3)
        by_cases hg : toldn B (f + 1) c / B / 3600 > 99
        · have e2 : s2.toList = [] := by
            rw [hs3]
            unfold txt
            rw [if_pos hg]
            exact (nil_iff _).2 rfl
          rw [if_pos e2, if_neg (by omega), if_pos (by omega)]
          obtain ⟨k1, k2⟩ := first_eight _ B _ c hrow (told_last B f c hB hc2 f0 f1 hh hg)
          rw [if_pos (by omega), if_pos k2]
        · have hrow2 := txt_row B (toldn B (f + 1) c) c hg
          have hz : (txt B (toldn B f c) c).size = (rowOf B (toldn B f c) c).length := by rw [← hrow]; rfl
          have hz2 : (txt B (toldn B (f + 1) c) c).size = (rowOf B (toldn B (f + 1) c) c).length := by rw [← hrow2]; rfl
          rw [row_length] at hz hz2
          subst hs3
          have e2 : ¬ (txt B (toldn B (f + 1) c) c).toList = [] := by
            rw [nil_iff, hz2]
            split <;> omega
          rw [if_neg e2, if_pos (by rw [hz, hz2]), ByteArray.toList_eq, ByteArray.toList_eq, hrow, hrow2]
          rw [row_less B _ _ c hB hB2 hrg.1 (told_less B f c hc2 f0 f1) hg]
      · rcases h7 with h7 | h7
        · rw [hr] at h7
          simp at h7
        · rw [if_pos (by rw [hs3]; exact (nil_iff _).2 rfl), if_pos (by omega)]
    · exact absurd (by rw [hs]; exact (nil_iff _).2 rfl) he

end Go.Proofs.YtdlmllhkejjaaaaDoor.Pure
