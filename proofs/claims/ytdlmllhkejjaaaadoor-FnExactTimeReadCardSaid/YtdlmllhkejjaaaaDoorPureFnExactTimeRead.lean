/- Proved: the plain law behind FnExactTimeRead. No condition. -/
import Derived.Test.YtdlmllhkejjaaaaDoorPFnExactTimeReadx7
namespace Go.Proofs.YtdlmllhkejjaaaaDoor.Pure
open Go.RowKit Go.Proofs.YtdlmllhkejjaaaaDoor.PFnExactTimeRead Go.Proofs.YtdlmllhkejjaaaaDoorW.PrintWords Go.Proofs.YtdlmllhkejjaaaaDoorW.PrintLast

theorem l0_eq : ∀ (k : Nat) (x y : Int), spec_l1Gcd.l0 k x y = impl_gcd.l0 k x y
  | 0, _, _ => rfl
  | k + 1, x, y => by
    simp only [spec_l1Gcd.l0, impl_gcd.l0]
    rw [l0_eq k]

theorem l0_some : ∀ (k : Nat) (x y : Int), 0 ≤ x → 0 ≤ y → y < k → ∃ r, impl_gcd.l0 k x y = some r
  | 0, _, _, _, h, h2 => by omega
  | k + 1, x, y, hx, hy, hk => by
    simp only [impl_gcd.l0]
    by_cases c : y = 0
    · exact ⟨x, by rw [if_pos c]⟩
    · rw [if_neg c]
      have h1 := Int.tmod_lt_of_pos x (show 0 < y by omega)
      have h0 := Int.tmod_nonneg y hx
      exact l0_some k y _ hy h0 (by omega)

theorem gcd_eq (k : Nat) (x y : Int) (hx : 0 ≤ x) (hy : 0 ≤ y) : spec_l1Gcd.f k x y = impl_gcd.f k x y := by
  unfold spec_l1Gcd.f impl_gcd.f spec_l1Abs.f
  rw [if_neg (by omega), if_neg (by omega)]
  simp only [Option.bind_some]
  exact l0_eq k x y

theorem in_eq (a b c : Int) : spec_l1In.f a b c = impl_in.f a b c := rfl

theorem in_some (a b c : Int) : impl_in.f a b c = some (decide (b ≤ a ∧ a ≤ c)) := by
  unfold impl_in.f
  by_cases h : b ≤ a
  · simp [h]
  · simp [h]

theorem rate_eq (k : Nat) (a b : Int) (c : Bool) : spec_RateOk.f k a b c = impl_RateOk.f k a b c := by
  unfold spec_RateOk.f impl_RateOk.f
  simp only [in_eq, in_some, Option.bind_some, decide_eq_true_eq]
  by_cases h1 : 1 ≤ a ∧ a ≤ 240000
  · rw [if_pos h1, if_pos h1]
    by_cases h2 : 1 ≤ b ∧ b ≤ 1001
    · rw [if_pos h2, if_pos h2, gcd_eq k a b (by omega) (by omega)]
    · rw [if_neg h2, if_neg h2]
  · rw [if_neg h1, if_neg h1]

/-- What a rate that is right is. -/
theorem rate_some (k : Nat) (hk : 1002 ≤ k) (a b : Int) (c : Bool) : ∃ r, impl_RateOk.f k a b c = some r ∧ (r = true → 1 ≤ a ∧ a ≤ 240000 ∧ 1 ≤ b ∧ b ≤ 1001 ∧ a ≤ 120 * b) := by
  unfold impl_RateOk.f
  simp only [in_some, Option.bind_some, decide_eq_true_eq]
  by_cases h1 : 1 ≤ a ∧ a ≤ 240000
  · rw [if_pos h1]
    by_cases h2 : 1 ≤ b ∧ b ≤ 1001
    · rw [if_pos h2]
      obtain ⟨g, hg⟩ := l0_some k a b (by omega) (by omega) (by omega)
      unfold impl_gcd.f
      rw [hg]
      simp only [Option.bind_some]
      by_cases h3 : g = 1
      · rw [if_pos h3]
        have hw : wrap64 (120 * b) = 120 * b := by unfold wrap64; omega
        rw [hw]
        by_cases h4 : a > 120 * b
        · exact ⟨false, by rw [if_pos h4], by simp⟩
        · rw [if_neg h4]
          split
          · split
            · split
              · exact ⟨true, rfl, fun _ => by omega⟩
              · exact ⟨_, rfl, fun _ => by omega⟩
            · exact ⟨false, rfl, by simp⟩
          · exact ⟨true, rfl, fun _ => by omega⟩
      · exact ⟨false, by rw [if_neg h3], by simp⟩
    · exact ⟨false, by rw [if_neg h2], by simp⟩
  · exact ⟨false, by rw [if_neg h1], by simp⟩

/-- Two digits; three digits. -/
def D2 (v : Nat) : ByteArray := ⟨#[UInt8.ofNat (48 + v / 10), UInt8.ofNat (48 + v % 10)]⟩
def D3 (v : Nat) : ByteArray := ⟨#[UInt8.ofNat (48 + v / 100), UInt8.ofNat (48 + v / 10 % 10), UInt8.ofNat (48 + v % 10)]⟩
theorem D2_size (v : Nat) : (D2 v).size = 2 := rfl
theorem D3_size (v : Nat) : (D3 v).size = 3 := rfl

theorem wide_up (a b : Int) (r : ByteArray) (k : Nat) (h : spec_l1Wide.f k a b = some r) : ∀ d, spec_l1Wide.f (k + d) a b = some r
  | 0 => h
  | d + 1 => spec_l1Wide.mono a b (k + d) r (wide_up a b r k h d)

set_option maxRecDepth 100000 in
theorem wide2_all : ∀ v : Fin 100, spec_l1Wide.f 8 ((v.val : Nat) : Int) 2 = some (D2 v.val) := by decide +kernel
set_option maxRecDepth 100000 in
theorem wide3_all : ∀ v : Fin 1000, spec_l1Wide.f 8 ((v.val : Nat) : Int) 3 = some (D3 v.val) := by decide +kernel

theorem wide2 (k : Nat) (hk : 8 ≤ k) (v : Int) (h0 : 0 ≤ v) (h1 : v < 100) : spec_l1Wide.f k v 2 = some (D2 v.toNat) := by
  obtain ⟨d, rfl⟩ := Nat.exists_eq_add_of_le hk
  obtain ⟨u, rfl⟩ : ∃ u : Nat, v = (u : Int) := ⟨v.toNat, by omega⟩
  exact wide_up _ _ _ 8 (wide2_all ⟨u, by omega⟩) d
theorem wide3 (k : Nat) (hk : 8 ≤ k) (v : Int) (h0 : 0 ≤ v) (h1 : v < 1000) : spec_l1Wide.f k v 3 = some (D3 v.toNat) := by
  obtain ⟨d, rfl⟩ := Nat.exists_eq_add_of_le hk
  obtain ⟨u, rfl⟩ : ∃ u : Nat, v = (u : Int) := ⟨v.toNat, by omega⟩
  exact wide_up _ _ _ 8 (wide3_all ⟨u, by omega⟩) d

theorem dec_three {i : Nat} (h1 : ¬ i < 100) (h2 : i < 1000) : Lib.decDigits i = [UInt8.ofNat (48 + i / 100), UInt8.ofNat (48 + i / 10 % 10), UInt8.ofNat (48 + i % 10)] := by
  rw [Lib.decDigits, dif_neg (by omega), Lib.decDigits_two (by omega) (by omega)]
  rw [show i / 10 / 10 = i / 100 by omega]; try rfl

theorem padded_of (v : Nat) (hv : v < 1000) (w : Int) (hw : w = 2 ∨ w = 3) (l : List UInt8) (hl : Lib.decDigits v = l) (c : Nat) (hc : mx (w - (l.length : Int)) 0 = (c : Int)) (hl3 : l.length ≤ 3) :
    impl_padded.f (v : Int) w = some ⟨(Lib.repeatL [48] c ++ l).toArray⟩ := by
  have hcl : c ≤ 3 := by
    unfold mx at hc
    split at hc <;> omega
  unfold impl_padded.f strconv_FormatInt_31.f
  rw [if_pos (by omega), Option.bind_some, Lib.itoa_nonneg, hl]
  have hs : (⟨l.toArray⟩ : ByteArray).size = l.length := by simp [ByteArray.size]
  rw [hs]
  have hwr : wrap64 (w - (l.length : Int)) = w - (l.length : Int) := by unfold wrap64; omega
  rw [hwr, hc]
  unfold strings_Repeat.f
  have h1 : (⟨#[48]⟩ : ByteArray).size = 1 := rfl
  have h2 : (⟨#[48]⟩ : ByteArray).data.toList = [48] := rfl
  rw [h1, h2, if_pos ⟨by omega, by omega, by omega⟩, Option.bind_some]
  have hr : (⟨(Lib.repeatL [48] ((c : Int)).toNat).toArray⟩ : ByteArray).size = c := by
    simp [ByteArray.size, Lib.repeatL_length]
  rw [hr, if_pos (by omega)]
  congr 1

theorem padded2 (v : Int) (h0 : 0 ≤ v) (h1 : v < 100) : impl_padded.f v 2 = some (D2 v.toNat) := by
  obtain ⟨u, rfl⟩ : ∃ u : Nat, v = (u : Int) := ⟨v.toNat, by omega⟩
  by_cases c : u < 10
  · rw [padded_of u (by omega) 2 (Or.inl rfl) _ (Lib.decDigits_one c) 1 rfl (by simp)]
    unfold D2
    rw [show ((u : Int)).toNat / 10 = 0 by omega, show ((u : Int)).toNat % 10 = u by omega]
    rfl
  · rw [padded_of u (by omega) 2 (Or.inl rfl) _ (Lib.decDigits_two c (by omega)) 0 rfl (by simp)]
    rfl

theorem padded3 (v : Int) (h0 : 0 ≤ v) (h1 : v < 1000) : impl_padded.f v 3 = some (D3 v.toNat) := by
  obtain ⟨u, rfl⟩ : ∃ u : Nat, v = (u : Int) := ⟨v.toNat, by omega⟩
  by_cases c : u < 10
  · rw [padded_of u (by omega) 3 (Or.inr rfl) _ (Lib.decDigits_one c) 2 rfl (by simp)]
    unfold D3
    rw [show ((u : Int)).toNat / 100 = 0 by omega, show ((u : Int)).toNat / 10 % 10 = 0 by omega, show ((u : Int)).toNat % 10 = u by omega]
    rfl
  · by_cases d : u < 100
    · rw [padded_of u (by omega) 3 (Or.inr rfl) _ (Lib.decDigits_two c d) 1 rfl (by simp)]
      unfold D3
      rw [show ((u : Int)).toNat / 100 = 0 by omega, show ((u : Int)).toNat / 10 % 10 = u / 10 by omega, show ((u : Int)).toNat % 10 = u % 10 by omega]
      rfl
    · rw [padded_of u (by omega) 3 (Or.inr rfl) _ (dec_three d (by omega)) 0 rfl (by simp)]
      rfl

set_option linter.unusedSimpArgs false
set_option linter.unusedVariables false
/-- The mark, and the text of a frame's number. -/
def mark (c : Bool) : ByteArray := if c then ⟨#[59]⟩ else ⟨#[58]⟩
theorem mark_size (c : Bool) : (mark c).size = 1 := by cases c <;> rfl
def DD (B v : Int) : ByteArray := if B > 100 then D3 v.toNat else D2 v.toNat
theorem DD_size (B v : Int) : (DD B v).size ≤ 3 := by unfold DD; split <;> simp [D2_size, D3_size]
def colon : ByteArray := ⟨#[58]⟩
def txt (B n : Int) (c : Bool) : ByteArray :=
  if n / B / 3600 > 99 then ⟨#[]⟩ else
    ((((D2 (n / B / 3600).toNat ++ colon) ++ D2 (n / B / 60 % 60).toNat) ++ colon) ++ D2 (n / B % 60).toNat ++ mark c) ++ DD B (n % B)

theorem w_div (x y : Int) (hx : 0 ≤ x) (hx2 : x < 1000000000) (hy : 1 ≤ y) : wrap64 (Int.tdiv x y) = x / y := by
  rw [Int.tdiv_eq_ediv_of_nonneg hx]
  have h0 : 0 ≤ x / y := Int.ediv_nonneg hx (by omega)
  have h1 : x / y ≤ x := Int.ediv_le_self y hx
  unfold wrap64
  omega

theorem spec_j2 (k : Nat) (hk : 8 ≤ k) (B n : Int) (c : Bool) (hB : 1 ≤ B) (hB2 : B ≤ 120) (hn : 0 ≤ n) (hn2 : n < 100000000) (hh : ¬ n / B / 3600 > 99) (w : Int) (hw : w = if B > 100 then 3 else 2) :
    spec_TimeText.j2 (k + 1) (n / B) (mark c) (Int.tmod n B) w = some (txt B n c) := by
  have s0 : 0 ≤ n / B := Int.ediv_nonneg hn (by omega)
  have s1 : n / B ≤ n := Int.ediv_le_self B hn
  have m0 : 0 ≤ n % B := Int.emod_nonneg n (by omega)
  have m1 : n % B < B := Int.emod_lt_of_pos n (by omega)
  have hm : Int.tmod n B = n % B := Int.tmod_eq_emod_of_nonneg hn
  have h4 : spec_l1Wide.f k (Int.tmod n B) w = some (DD B (n % B)) := by
    rw [hm]
    subst hw
    unfold DD
    split
    · exact wide3 k hk _ m0 (by omega)
    · exact wide2 k hk _ m0 (by omega)
  rw [spec_TimeText.j2]
  rw [w_div _ _ s0 (by omega) (by omega), wide2 k hk _ (by omega) (by omega), Option.bind_some, D2_size, if_pos (by omega)]
  rw [w_div _ _ s0 (by omega) (by omega), Int.tmod_eq_emod_of_nonneg (by omega), wide2 k hk _ (by omega) (by omega), Option.bind_some, Int.tmod_eq_emod_of_nonneg s0, wide2 k hk _ (by omega) (by omega)]
  simp only [Option.bind_some, h4]
  have z1 : (⟨#[58]⟩ : ByteArray).size = 1 := rfl
  have z2 := DD_size B (n % B)
  rw [if_pos (by simp only [ByteArray.size_append, D2_size, mark_size, z1]; omega), if_pos (by simp only [ByteArray.size_append, D2_size, mark_size, z1]; omega), if_pos (by simp only [ByteArray.size_append, D2_size, mark_size, z1]; omega), if_pos (by simp only [ByteArray.size_append, D2_size, mark_size, z1]; omega), if_pos (by simp only [ByteArray.size_append, D2_size, mark_size, z1]; omega)]
  unfold txt
  rw [if_neg hh]
  rfl

theorem impl_j2 (k : Nat) (B n : Int) (c : Bool) (hB : 1 ≤ B) (hB2 : B ≤ 120) (hn : 0 ≤ n) (hn2 : n < 100000000) (hh : ¬ n / B / 3600 > 99) (w : Int) (hw : w = if B > 100 then 3 else 2) :
    impl_TimeText.j2 (k + 1) B n (n / B) (mark c) w = some (txt B n c) := by
  have s0 : 0 ≤ n / B := Int.ediv_nonneg hn (by omega)
  have s1 : n / B ≤ n := Int.ediv_le_self B hn
  have m0 : 0 ≤ n % B := Int.emod_nonneg n (by omega)
  have m1 : n % B < B := Int.emod_lt_of_pos n (by omega)
  have hm : Int.tmod n B = n % B := Int.tmod_eq_emod_of_nonneg hn
  have h4 : impl_padded.f (Int.tmod n B) w = some (DD B (n % B)) := by
    rw [hm]
    subst hw
    unfold DD
    split
    · exact padded3 _ m0 (by omega)
    · exact padded2 _ m0 (by omega)
  rw [impl_TimeText.j2]
  rw [w_div _ _ s0 (by omega) (by omega), padded2 _ (by omega) (by omega), Option.bind_some, D2_size, if_pos (by omega)]
  rw [w_div _ _ s0 (by omega) (by omega), Int.tmod_eq_emod_of_nonneg (by omega), padded2 _ (by omega) (by omega), Option.bind_some, Int.tmod_eq_emod_of_nonneg s0, padded2 _ (by omega) (by omega)]
  simp only [Option.bind_some, h4]
  have z1 : (⟨#[58]⟩ : ByteArray).size = 1 := rfl
  have z2 := DD_size B (n % B)
  rw [if_pos (by simp only [ByteArray.size_append, D2_size, mark_size, z1]; omega), if_pos (by simp only [ByteArray.size_append, D2_size, mark_size, z1]; omega), if_pos (by simp only [ByteArray.size_append, D2_size, mark_size, z1]; omega), if_pos (by simp only [ByteArray.size_append, D2_size, mark_size, z1]; omega), if_neg (by omega), if_pos (by simp only [ByteArray.size_append, D2_size, mark_size, z1]; omega)]
  unfold txt
  rw [if_neg hh]
  rfl

theorem spec_j1 (k : Nat) (hk : 8 ≤ k) (B n : Int) (c : Bool) (hB : 1 ≤ B) (hB2 : B ≤ 120) (hn : 0 ≤ n) (hn2 : n < 100000000) :
    spec_TimeText.j1 (k + 2) B n (mark c) = some (txt B n c) := by
  have s0 : 0 ≤ n / B := Int.ediv_nonneg hn (by omega)
  have s1 : n / B ≤ n := Int.ediv_le_self B hn
  rw [spec_TimeText.j1]
  rw [if_neg (by omega), w_div n B hn (by omega) hB, w_div _ _ s0 (by omega) (by omega)]
  by_cases hh : n / B / 3600 > 99
  · rw [if_pos hh]; unfold txt; rw [if_pos hh]
  · rw [if_neg hh]
    by_cases hb : B > 100
    · rw [if_pos hb]; exact spec_j2 k hk B n c hB hB2 hn hn2 hh 3 (by rw [if_pos hb])
    · rw [if_neg hb]; exact spec_j2 k hk B n c hB hB2 hn hn2 hh 2 (by rw [if_neg hb])

/-- The number that a frame has. -/
def toldn (B f : Int) (c : Bool) : Int :=
  if c then
    let l := B / 15
    f + 9 * l * (f / (600 * B - 9 * l)) + (if f % (600 * B - 9 * l) ≥ 60 * B then l * (1 + (f % (600 * B - 9 * l) - 60 * B) / (60 * B - l)) else 0)
  else f

theorem toldn_range (B f : Int) (c : Bool) (hc : c = true → B = 30 ∨ B = 60) (h0 : 0 ≤ f) (h1 : f ≤ 10000001) : 0 ≤ toldn B f c ∧ toldn B f c < 100000000 := by
  cases c
  · unfold toldn; simp; omega
  · rcases hc rfl with rfl | rfl
    · unfold toldn; simp only [if_true]; split <;> omega
    · unfold toldn; simp only [if_true]; split <;> omega

/-- What a rate that is right is, told further. -/
theorem rate_base (a b : Int) (c : Bool) (k : Nat) (hk : 1002 ≤ k) (h : impl_RateOk.f k a b c = some true) :
    ∃ B, impl_Rate_base.f a b c = some B ∧ 1 ≤ B ∧ B ≤ 120 ∧ spec_Base.f k a b c = some B ∧ (c = true → b = 1001 ∧ (a = 30000 ∧ B = 30 ∨ a = 60000 ∧ B = 60)) := by
  obtain ⟨r, hr, hp⟩ := rate_some k hk a b c
  rw [h] at hr
  obtain rfl := Option.some.inj hr
  have hp := hp rfl
  obtain ⟨g0, g1, g2, g3, g4⟩ := hp
  have w1 : wrap64 (a + b) = a + b := by unfold wrap64; omega
  have w2 : wrap64 (a + b - 1) = a + b - 1 := by unfold wrap64; omega
  have e : wrap64 (Int.tdiv (wrap64 (wrap64 (a + b) - 1)) b) = (a + b - 1) / b := by
    rw [w1, w2]
    exact w_div _ _ (by omega) (by omega) (by omega)
  refine ⟨(a + b - 1) / b, ?_, ?_, ?_, ?_, ?_⟩
  · unfold impl_Rate_base.f
    rw [if_neg (by omega), e]
  · exact (Int.le_ediv_iff_mul_le (by omega)).2 (by omega)
  · have : (a + b - 1) / b < 121 := (Int.ediv_lt_iff_lt_mul (by omega)).2 (by omega)
    omega
  · unfold spec_Base.f
    rw [rate_eq, h, Option.bind_some, if_pos rfl, if_neg (by omega), e]
  · intro hc
    subst hc
    unfold impl_RateOk.f at h
    simp only [in_some, Option.bind_some, decide_eq_true_eq] at h
    rw [if_pos (by omega), if_pos (by omega)] at h
    obtain ⟨g, hg⟩ := l0_some k a b (by omega) (by omega) (by omega)
    unfold impl_gcd.f at h
    rw [hg] at h
    simp only [Option.bind_some] at h
    split at h
    · split at h
      · simp at h
      · simp only [if_true] at h
        split at h
        · rename_i hb
          subst hb
          refine ⟨rfl, ?_⟩
          split at h
          · rename_i ha; subst ha; exact Or.inl ⟨rfl, by decide +kernel⟩
          · have : a = 60000 := by simpa using h
            subst this; exact Or.inr ⟨rfl, by decide +kernel⟩
        · simp at h
    · simp at h

theorem impl_told (k : Nat) (a b B f : Int) (c : Bool) (hb : impl_Rate_base.f a b c = some B) (hB : 1 ≤ B) (hB2 : B ≤ 120) (hc : c = true → b = 1001 ∧ (a = 30000 ∧ B = 30 ∨ a = 60000 ∧ B = 60)) (h0 : 0 ≤ f) (h1 : f ≤ 10000001) :
    impl_Rate_told.f (k + 1) a b c f = some (toldn B f c) := by
  unfold impl_Rate_told.f
  rw [hb, Option.bind_some]
  cases c
  · have hl : impl_Rate_left.f a b false = some 0 := rfl
    rw [hl]
    simp only [Option.bind_some]
    have e1 : wrap64 (wrap64 (10 * wrap64 (60 * B)) - wrap64 (9 * 0)) = 600 * B := by unfold wrap64; omega
    rw [e1, if_neg (by omega), if_neg (by simp)]
    rw [impl_Rate_told.j0]
    unfold toldn
    rw [if_neg (by simp), if_neg (by simp)]
    have e2 : wrap64 (9 * 0) = 0 := by decide +kernel
    rw [e2, Int.zero_mul]
    congr 1
    have e3 : wrap64 0 = 0 := by decide +kernel
    rw [e3]
    unfold wrap64; omega
  · obtain ⟨rfl, h | h⟩ := hc rfl
    · obtain ⟨rfl, rfl⟩ := h
      have hl : impl_Rate_left.f 30000 1001 true = some 2 := rfl
      rw [hl]
      simp only [Option.bind_some, if_true]
      have e1 : wrap64 (wrap64 (10 * wrap64 (60 * 30)) - wrap64 (9 * 2)) = 17982 := by decide +kernel
      rw [e1, if_neg (by omega), w_div f _ h0 (by omega) (by omega), Int.tmod_eq_emod_of_nonneg h0]
      have e2 : wrap64 (60 * 30) = 1800 := by decide +kernel
      have e3 : wrap64 (9 * 2) = 18 := by decide +kernel
      have e4 : wrap64 (18 * (f / 17982)) = 18 * (f / 17982) := by unfold wrap64; omega
      have e5 : wrap64 (f + 18 * (f / 17982)) = f + 18 * (f / 17982) := by unfold wrap64; omega
      rw [e2, e3, e4, e5]
      rw [impl_Rate_told.j0]
      unfold toldn
      simp only [if_true, decide_eq_true_eq, show (30 : Int) / 15 = 2 from rfl]
      by_cases g : f % 17982 ≥ 1800
      · rw [if_pos g, if_pos (by omega), hl]
        simp only [Option.bind_some]
        have e6 : wrap64 (1800 - 2) = 1798 := by decide +kernel
        rw [e6, if_neg (by omega)]
        have e7 : wrap64 (f % 17982 - 1800) = f % 17982 - 1800 := by unfold wrap64; omega
        rw [e7, w_div _ _ (by omega) (by omega) (by omega)]
        congr 1
        unfold wrap64
        omega
      · rw [if_neg g, if_neg (by omega)]
        congr 1
        omega
    · obtain ⟨rfl, rfl⟩ := h
      have hl : impl_Rate_left.f 60000 1001 true = some 4 := rfl
      rw [hl]
      simp only [Option.bind_some, if_true]
      have e1 : wrap64 (wrap64 (10 * wrap64 (60 * 60)) - wrap64 (9 * 4)) = 35964 := by decide +kernel
      rw [e1, if_neg (by omega), w_div f _ h0 (by omega) (by omega), Int.tmod_eq_emod_of_nonneg h0]
      have e2 : wrap64 (60 * 60) = 3600 := by decide +kernel
      have e3 : wrap64 (9 * 4) = 36 := by decide +kernel
      have e4 : wrap64 (36 * (f / 35964)) = 36 * (f / 35964) := by unfold wrap64; omega
      have e5 : wrap64 (f + 36 * (f / 35964)) = f + 36 * (f / 35964) := by unfold wrap64; omega
      rw [e2, e3, e4, e5]
      rw [impl_Rate_told.j0]
      unfold toldn
      simp only [if_true, decide_eq_true_eq, show (60 : Int) / 15 = 4 from rfl]
      by_cases g : f % 35964 ≥ 3600
      · rw [if_pos g, if_pos (by omega), hl]
        simp only [Option.bind_some]
        have e6 : wrap64 (3600 - 4) = 3596 := by decide +kernel
        rw [e6, if_neg (by omega)]
        have e7 : wrap64 (f % 35964 - 3600) = f % 35964 - 3600 := by unfold wrap64; omega
        rw [e7, w_div _ _ (by omega) (by omega) (by omega)]
        congr 1
        unfold wrap64
        omega
      · rw [if_neg g, if_neg (by omega)]
        congr 1
        omega

theorem spec_j0 (k : Nat) (hk : 8 ≤ k) (a b B f : Int) (c : Bool) (hB : 1 ≤ B) (hB2 : B ≤ 120) (hc : c = true → b = 1001 ∧ (a = 30000 ∧ B = 30 ∨ a = 60000 ∧ B = 60)) (h0 : 0 ≤ f) (h1 : f ≤ 10000001) :
    spec_TimeText.j0 (k + 3) f B false a b c = some (txt B (toldn B f c) c) := by
  have hr := toldn_range B f c (fun h => by obtain ⟨_, h | h⟩ := hc h <;> omega) h0 h1
  rw [spec_TimeText.j0]
  rw [if_neg (by simp)]
  cases c
  · rw [if_neg (by simp)]
    exact spec_j1 k hk B f false hB hB2 h0 (by omega)
  · rw [if_pos rfl]
    obtain ⟨rfl, h | h⟩ := hc rfl
    · obtain ⟨rfl, rfl⟩ := h
      have e0 : wrap64 (Int.tdiv 30 15) = 2 := by decide +kernel
      have e1 : wrap64 (wrap64 (600 * 30) - wrap64 (9 * 2)) = 17982 := by decide +kernel
      have e2 : wrap64 (60 * 30) = 1800 := by decide +kernel
      have e3 : wrap64 (1800 - 2) = 1798 := by decide +kernel
      have e4 : wrap64 (9 * 2) = 18 := by decide +kernel
      rw [e0, e1, e2, e3, e4, if_neg (by omega), w_div f _ h0 (by omega) (by omega), Int.tmod_eq_emod_of_nonneg h0]
      have e5 : wrap64 (18 * (f / 17982)) = 18 * (f / 17982) := by unfold wrap64; omega
      have e6 : wrap64 (f + 18 * (f / 17982)) = f + 18 * (f / 17982) := by unfold wrap64; omega
      rw [e5, e6]
      by_cases g : f % 17982 ≥ 1800
      · rw [if_pos g, if_neg (by omega)]
        have e7 : wrap64 (f % 17982 - 1800) = f % 17982 - 1800 := by unfold wrap64; omega
        rw [e7, w_div _ _ (by omega) (by omega) (by omega)]
        have en : wrap64 (f + 18 * (f / 17982) + wrap64 (2 * wrap64 ((f % 17982 - 1800) / 1798 + 1))) = toldn 30 f true := by
          unfold toldn
          simp only [if_true, show (30 : Int) / 15 = 2 from rfl]
          rw [if_pos (by omega)]
          unfold wrap64
          omega
        rw [en]
        exact spec_j1 k hk 30 _ true hB hB2 hr.1 hr.2
      · rw [if_neg g]
        have en : f + 18 * (f / 17982) = toldn 30 f true := by
          unfold toldn
          simp only [if_true, show (30 : Int) / 15 = 2 from rfl]
          rw [if_neg (by omega)]
          omega
        rw [en]
        exact spec_j1 k hk 30 _ true hB hB2 hr.1 hr.2
    · obtain ⟨rfl, rfl⟩ := h
      have e0 : wrap64 (Int.tdiv 60 15) = 4 := by decide +kernel
      have e1 : wrap64 (wrap64 (600 * 60) - wrap64 (9 * 4)) = 35964 := by decide +kernel
      have e2 : wrap64 (60 * 60) = 3600 := by decide +kernel
      have e3 : wrap64 (3600 - 4) = 3596 := by decide +kernel
      have e4 : wrap64 (9 * 4) = 36 := by decide +kernel
      rw [e0, e1, e2, e3, e4, if_neg (by omega), w_div f _ h0 (by omega) (by omega), Int.tmod_eq_emod_of_nonneg h0]
      have e5 : wrap64 (36 * (f / 35964)) = 36 * (f / 35964) := by unfold wrap64; omega
      have e6 : wrap64 (f + 36 * (f / 35964)) = f + 36 * (f / 35964) := by unfold wrap64; omega
      rw [e5, e6]
      by_cases g : f % 35964 ≥ 3600
      · rw [if_pos g, if_neg (by omega)]
        have e7 : wrap64 (f % 35964 - 3600) = f % 35964 - 3600 := by unfold wrap64; omega
        rw [e7, w_div _ _ (by omega) (by omega) (by omega)]
        have en : wrap64 (f + 36 * (f / 35964) + wrap64 (4 * wrap64 ((f % 35964 - 3600) / 3596 + 1))) = toldn 60 f true := by
          unfold toldn
          simp only [if_true, show (60 : Int) / 15 = 4 from rfl]
          rw [if_pos (by omega)]
          unfold wrap64
          omega
        rw [en]
        exact spec_j1 k hk 60 _ true hB hB2 hr.1 hr.2
      · rw [if_neg g]
        have en : f + 36 * (f / 35964) = toldn 60 f true := by
          unfold toldn
          simp only [if_true, show (60 : Int) / 15 = 4 from rfl]
          rw [if_neg (by omega)]
          omega
        rw [en]
        exact spec_j1 k hk 60 _ true hB hB2 hr.1 hr.2

theorem impl_j0 (k : Nat) (a b B f : Int) (c : Bool) (hb : impl_Rate_base.f a b c = some B) (hB : 1 ≤ B) (hB2 : B ≤ 120) (hc : c = true → b = 1001 ∧ (a = 30000 ∧ B = 30 ∨ a = 60000 ∧ B = 60)) (h0 : 0 ≤ f) (h1 : f ≤ 10000001) :
    impl_TimeText.j0 (k + 3) f false a b c = some (txt B (toldn B f c) c) := by
  have hr := toldn_range B f c (fun h => by obtain ⟨_, h | h⟩ := hc h <;> omega) h0 h1
  have ht := impl_told (k + 1) a b B f c hb hB hB2 hc h0 h1
  generalize toldn B f c = n at hr ht
  have s0 : 0 ≤ n / B := Int.ediv_nonneg hr.1 (by omega)
  have s1 : n / B ≤ n := Int.ediv_le_self B hr.1
  rw [impl_TimeText.j0]
  rw [if_neg (by simp), hb, Option.bind_some, ht, Option.bind_some, if_neg (by omega), w_div n B hr.1 (by omega) hB, w_div _ _ s0 (by omega) (by omega)]
  by_cases hh : n / B / 3600 > 99
  · rw [if_pos hh]; unfold txt; rw [if_pos hh]
  · rw [if_neg hh]
    have fin : impl_TimeText.j1 (k + 2) B n (n / B) (mark c) 2 = some (txt B n c) := by
      rw [impl_TimeText.j1]
      by_cases hb : B > 100
      · rw [if_pos hb]; exact impl_j2 k B n c hB hB2 hr.1 hr.2 hh 3 (by rw [if_pos hb])
      · rw [if_neg hb]; exact impl_j2 k B n c hB hB2 hr.1 hr.2 hh 2 (by rw [if_neg hb])
    cases c
    · rw [if_neg (by simp)]; exact fin
    · rw [if_pos rfl]; exact fin

/-- Both tell the same text. -/
theorem text_eq (k : Nat) (hk : 1010 ≤ k) (a b f : Int) (c : Bool) : ∃ s, spec_TimeText.f k a b c f = some s ∧ impl_TimeText.f k a b c f = some s ∧
    ((impl_RateOk.f k a b c = some true ∧ 0 ≤ f ∧ f ≤ 10000000 ∧ ∃ B, impl_Rate_base.f a b c = some B ∧ s = txt B (toldn B f c) c) ∨ (s = ⟨#[]⟩ ∧ (impl_RateOk.f k a b c = some false ∨ ¬ (0 ≤ f ∧ f ≤ 10000000)))) := by
  obtain ⟨m, rfl⟩ : ∃ m, k = m + 3 := ⟨k - 3, by omega⟩
  obtain ⟨r, hr, _⟩ := rate_some (m + 3) (by omega) a b c
  unfold spec_TimeText.f impl_TimeText.f
  rw [hr]
  cases r
  · have hs : spec_Base.f (m + 3) a b c = some 0 := by
      unfold spec_Base.f
      rw [rate_eq, hr]
      rfl
    rw [hs]
    simp only [Option.bind_some, if_true]
    rw [if_neg (by simp)]
    rw [spec_TimeText.j0, impl_TimeText.j0]
    exact ⟨⟨#[]⟩, by rw [if_pos rfl], by rw [if_pos rfl], Or.inr ⟨rfl, Or.inl (by simp)⟩⟩
  · obtain ⟨B, hb, hB, hB2, hs, hc⟩ := rate_base a b c (m + 3) (by omega) hr
    rw [hs]
    simp only [Option.bind_some]
    rw [if_neg (by omega), if_pos (by simp)]
    unfold spec_l1Frame.f impl_isFrame.f
    simp only [in_eq, in_some, Option.bind_some]
    by_cases hf : 0 ≤ f ∧ f ≤ 10000000
    · have e : (!decide (0 ≤ f ∧ f ≤ 10000000)) = false := by simp [hf]
      rw [e, spec_j0 m (by omega) a b B f c hB hB2 hc hf.1 (by omega), impl_j0 m a b B f c hb hB hB2 hc hf.1 (by omega)]
      exact ⟨_, rfl, rfl, Or.inl ⟨by simp, hf.1, hf.2, B, hb, rfl⟩⟩
    · have e : (!decide (0 ≤ f ∧ f ≤ 10000000)) = true := by simp [hf]
      rw [e]
      rw [spec_TimeText.j0, impl_TimeText.j0]
      exact ⟨⟨#[]⟩, by rw [if_pos rfl], by rw [if_pos rfl], Or.inr ⟨rfl, Or.inr hf⟩⟩

/-- The number that n digits from place p on tell, behind a number that was told. -/
def dg (s : ByteArray) : Nat → Nat → Int → Option Int
  | 0, _, acc => some acc
  | n + 1, p, acc => if bt s (p : Int) < 48 then none else if bt s (p : Int) > 57 then none else dg s n (p + 1) (10 * acc + (bt s (p : Int) - 48))

theorem bt_extract (s : ByteArray) (p q i : Nat) (h : p + i < q) (hq : q ≤ s.size) : bt (s.extract p q) (i : Int) = bt s ((p + i : Nat) : Int) := by
  unfold bt
  have h1 : ((i : Int)).toNat < (s.extract p q).size := by rw [ByteArray.size_extract]; omega
  have h2 : (((p + i : Nat) : Int)).toNat < s.size := by omega
  rw [dif_pos h1, dif_pos h2]
  rw [ByteArray.getElem_extract]
  simp only [Int.toNat_natCast]

/-- There is room for n digits more. -/
def cap (n : Nat) (acc : Int) : Prop := (acc + 1) * 10 ^ n ≤ 1000000000
theorem ten_pow (n : Nat) : (1 : Int) ≤ 10 ^ n := by
  induction n with
  | zero => decide
  | succ n ih => rw [Int.pow_succ]; omega
theorem cap_lt {n : Nat} {acc : Int} (h0 : 0 ≤ acc) (h : cap (n + 1) acc) : acc < 100000000 := by
  have hp := ten_pow n
  unfold cap at h
  rw [Int.pow_succ] at h
  have e : (acc + 1) * 10 * 10 ^ n = (acc + 1) * (10 ^ n * 10) := by rw [Int.mul_assoc, Int.mul_comm 10]
  have h2 : (acc + 1) * 10 * 1 ≤ (acc + 1) * 10 * 10 ^ n := Int.mul_le_mul_of_nonneg_left hp (by omega)
  rw [e] at h2
  have h3 := Int.le_trans h2 h
  clear h h2 e
  omega
theorem cap_step {n : Nat} {acc d : Int} (h0 : 0 ≤ acc) (hd : d ≤ 9) (h : cap (n + 1) acc) : cap n (10 * acc + d) := by
  unfold cap at h ⊢
  have h3 : 10 * acc + d + 1 ≤ (acc + 1) * 10 := by omega
  refine Int.le_trans (Int.mul_le_mul_of_nonneg_right h3 (Int.le_trans (by decide) (ten_pow n))) ?_
  rw [Int.mul_assoc, Int.mul_comm 10, ← Int.pow_succ]
  exact h
/-- What a field that is no number gives. -/
def orNo (o : Option Int) (f : Int → Option (Int × Bool)) : Option (Int × Bool) := match o with | some v => f v | none => some (0, false)

theorem dg_l0 (s : ByteArray) (p q : Nat) (hq : q ≤ s.size) (hs : s.size ≤ 100) : ∀ (n i : Nat) (acc : Int) (k : Nat), p + i + n = q → 0 ≤ acc → cap n acc →
    impl_digits.l0 (k + n + 1) (s.extract p q) acc ((s.extract p q).size : Int) (i : Int) = orNo (dg s n (p + i) acc) fun v => some (v, true) := by
  intro n
  induction n with
  | zero =>
    intro i acc k h h0 h1
    rw [impl_digits.l0, ByteArray.size_extract, if_neg (by omega)]
    rfl
  | succ n ih =>
    intro i acc k h h0 h1
    rw [impl_digits.l0, if_pos (by rw [ByteArray.size_extract]; omega), if_pos (by omega), if_pos (by rw [ByteArray.size_extract]; omega), bt_extract s p q i (by omega) hq]
    rw [dg]
    have hb := bt_range s ((p + i : Nat) : Int)
    generalize bt s ((p + i : Nat) : Int) = y at hb
    by_cases c : y < 48
    · rw [if_pos c, if_pos c]; rfl
    · rw [if_neg c, if_neg c]
      by_cases d : y > 57
      · rw [if_pos d, if_pos d]; rfl
      · rw [if_neg d, if_neg d]
        have h2 := cap_lt h0 h1
        have e1 : wrap64 (wrap64 (10 * acc) + (y - 48) % 256) = 10 * acc + (y - 48) := by unfold wrap64; omega
        have e2 : wrap64 ((i : Int) + 1) = ((i + 1 : Nat) : Int) := by unfold wrap64; omega
        rw [e1, e2, show k + (n + 1) = k + n + 1 by omega]
        exact ih (i + 1) (10 * acc + (y - 48)) k (by omega) (by omega) (cap_step h0 (by omega) h1)

theorem dg_range (s : ByteArray) : ∀ (n p : Nat) (acc v : Int), 0 ≤ acc → dg s n p acc = some v → 0 ≤ v := by
  intro n
  induction n with
  | zero =>
    intro p acc v h e
    obtain rfl := Option.some.inj e
    exact h
  | succ n ih =>
    intro p acc v h e
    rw [dg] at e
    split at e
    · simp at e
    · split at e
      · simp at e
      · exact ih (p + 1) _ v (by omega) e

theorem digits_up (s : ByteArray) (r : Int × Bool) (k : Nat) (h : impl_digits.f k s = some r) : ∀ d, impl_digits.f (k + d) s = some r
  | 0 => h
  | d + 1 => impl_digits.mono s (k + d) r (digits_up s r k h d)

theorem dg_digits (s : ByteArray) (p q n : Nat) (hq : q ≤ s.size) (hs : s.size ≤ 100) (hn : p + n = q) (h1 : 1 ≤ n) (h9 : n ≤ 9) (k : Nat) (hk : 12 ≤ k) :
    impl_digits.f k (s.extract p q) = orNo (dg s n p 0) fun v => some (v, true) := by
  have hz : (s.extract p q).size = n := by rw [ByteArray.size_extract]; omega
  have hne : ¬ (s.extract p q).toList = [] := by
    rw [ByteArray.toList_eq]
    intro h
    have : (s.extract p q).data.toList.length = n := by rw [Array.length_toList]; exact hz
    rw [h] at this
    simp at this
    omega
  have hp : cap n 0 := by
    unfold cap
    have : (10 : Nat) ^ n ≤ 10 ^ 9 := Nat.pow_le_pow_right (by omega) h9
    have e : ((10 ^ n : Nat) : Int) = (10 : Int) ^ n := by push_cast; rfl
    have e2 : (10 : Nat) ^ 9 = 1000000000 := by decide
    omega
  have := dg_l0 s p q hq hs n 0 0 (k - n - 2) (by omega) (by omega) hp
  unfold impl_digits.f
  rw [if_neg hne, show decide (((s.extract p q).size : Int) > 9) = false by rw [hz]; simp; omega]
  obtain ⟨m, rfl⟩ : ∃ m, k = m + 1 := ⟨k - 1, by omega⟩
  rw [impl_digits.j0, if_neg (by simp)]
  rw [show m = m + 1 - n - 2 + n + 1 by omega]
  exact this

/-- The reference's inner loop: to the end of its field. -/
theorem l1_end (k : Nat) (s : ByteArray) (B a b : Int) (c : Bool) (hs2 : s.size ≤ 12) (i : Nat) (hi : i < 4) (p : Nat) (hp : p = if i = 3 then s.size else 3 * i + 2) (l : List Int) :
    spec_TimeRead.l1 (k + 2) s B l (i : Int) (p : Int) a b c = spec_TimeRead.l0 k s B l ((i + 1 : Nat) : Int) a b c := by
  have hw : wrap64 (wrap64 (3 * (i : Int)) + 2) = 3 * i + 2 := by unfold wrap64; omega
  have hw1 : wrap64 ((i : Int) + 1) = ((i + 1 : Nat) : Int) := by unfold wrap64; omega
  have hj : spec_TimeRead.l1 (k + 2) s B l (i : Int) (p : Int) a b c = spec_TimeRead.j3 (k + 1) s B l (i : Int) (p : Int) false a b c := by
    rw [spec_TimeRead.l1, hw]
    by_cases c3 : i = 3
    · subst c3
      rw [if_pos rfl] at hp
      rw [if_neg (by omega)]
    · rw [if_neg c3] at hp
      by_cases hps : (p : Int) < (s.size : Int)
      · rw [if_pos hps, if_neg (by omega), show ((i : Int) == 3) = false by simp; omega]
      · rw [if_neg hps]
  rw [hj, spec_TimeRead.j3, if_neg (by simp), hw1]

theorem l1_step (k : Nat) (s : ByteArray) (B a b : Int) (c : Bool) (hs2 : s.size ≤ 12) (i : Nat) (hi : i < 4) (p : Nat) (hps : p < s.size) (hp : p < if i = 3 then s.size else 3 * i + 2) (l : List Int) (hl : l.length = 4) (acc : Int) (h0 : 0 ≤ acc) (h1 : acc < 100000000) :
    spec_TimeRead.l1 (k + 2) s B (l.set i acc) (i : Int) (p : Int) a b c = if bt s (p : Int) < 48 then some (0, false) else if bt s (p : Int) > 57 then some (0, false) else
      spec_TimeRead.l1 k s B (l.set i (10 * acc + (bt s (p : Int) - 48))) (i : Int) ((p + 1 : Nat) : Int) a b c := by
  have hw : wrap64 (wrap64 (3 * (i : Int)) + 2) = 3 * i + 2 := by unfold wrap64; omega
  have hj : spec_TimeRead.l1 (k + 2) s B (l.set i acc) (i : Int) (p : Int) a b c = spec_TimeRead.j3 (k + 1) s B (l.set i acc) (i : Int) (p : Int) true a b c := by
    rw [spec_TimeRead.l1, hw, if_pos (by omega)]
    by_cases c3 : i = 3
    · subst c3
      split
      · rfl
      · rfl
    · rw [if_neg c3] at hp
      rw [if_pos (by omega)]
  have hrd : rd (l.set i acc) (i : Int) = acc := by
    unfold rd
    rw [Int.toNat_natCast, List.getD_eq_getElem?_getD, List.getElem?_set_self (by omega)]
    rfl
  rw [hj, spec_TimeRead.j3, if_pos rfl, if_pos (by omega), if_pos (by omega)]
  have hb := bt_range s (p : Int)
  generalize bt s (p : Int) = y at hb
  by_cases c1 : y < 48
  · rw [if_pos c1, if_pos c1]
  · rw [if_neg c1, if_neg c1]
    by_cases d1 : y > 57
    · rw [if_pos d1, if_pos d1]
    · rw [if_neg d1, if_neg d1, if_pos (by omega), if_pos (by rw [List.length_set]; omega)]
      have e1 : wrap64 (wrap64 (acc * 10) + (y - 48) % 256) = 10 * acc + (y - 48) := by unfold wrap64; omega
      have e2 : wrap64 ((p : Int) + 1) = ((p + 1 : Nat) : Int) := by unfold wrap64; omega
      rw [hrd, e1, e2, Int.toNat_natCast, List.set_set]

theorem spec_field (s : ByteArray) (B a b : Int) (c : Bool) (hs2 : s.size ≤ 12) (i : Nat) (hi : i < 4) (e : Nat) (he : e = if i = 3 then s.size else 3 * i + 2) (hes : e ≤ s.size) (l : List Int) (hl : l.length = 4) :
    ∀ (n p : Nat) (acc : Int) (k : Nat), p + n = e → 0 ≤ acc → cap n acc →
    spec_TimeRead.l1 (k + 2 * n + 2) s B (l.set i acc) (i : Int) (p : Int) a b c =
      orNo (dg s n p acc) fun v => spec_TimeRead.l0 k s B (l.set i v) ((i + 1 : Nat) : Int) a b c := by
  intro n
  induction n with
  | zero =>
    intro p acc k h h0 h1
    refine (l1_end k s B a b c hs2 i hi p (by omega) _).trans ?_
    simp only [dg, orNo]
  | succ n ih =>
    intro p acc k h h0 h1
    have := l1_step (k + 2 * n + 2) s B a b c hs2 i hi p (by omega) (by omega) l hl acc h0 (cap_lt h0 h1)
    rw [show k + 2 * (n + 1) + 2 = k + 2 * n + 2 + 2 by omega]
    refine this.trans ?_
    rw [dg]
    by_cases c1 : bt s (p : Int) < 48
    · rw [if_pos c1, if_pos c1]; rfl
    · rw [if_neg c1, if_neg c1]
      by_cases d1 : bt s (p : Int) > 57
      · rw [if_pos d1, if_pos d1]; rfl
      · rw [if_neg d1, if_neg d1]
        exact ih (p + 1) _ k (by omega) (by omega) (cap_step h0 (by omega) h1)

theorem tt_up (a b f : Int) (c : Bool) (s : ByteArray) (k : Nat) (h : impl_TimeText.f k a b c f = some s) : ∀ d, impl_TimeText.f (k + d) a b c f = some s
  | 0 => h
  | d + 1 => impl_TimeText.mono a b c f (k + d) s (tt_up a b f c s k h d)

/-- The frame that four numbers tell. -/
def frOf (B LL v0 v1 v2 v3 : Int) : Int := wrap64 (wrap64 (wrap64 (wrap64 (wrap64 (60 * wrap64 (wrap64 (60 * v0) + v1)) + v2) * B) + v3) - wrap64 (LL * wrap64 (wrap64 (wrap64 (60 * v0) + v1) - wrap64 (Int.tdiv (wrap64 (wrap64 (60 * v0) + v1)) 10))))

theorem wrap_wrap (x : Int) : wrap64 (wrap64 x) = wrap64 x := by unfold wrap64; omega

theorem spec_end (k : Nat) (hk : 1010 ≤ k) (s : ByteArray) (B a b LL : Int) (c : Bool) (hs : 11 ≤ s.size) (hL : LL = if c = true then wrap64 (Int.tdiv B 15) else 0) (v0 v1 v2 v3 : Int) :
    ∃ S, impl_TimeText.f k a b c (frOf B LL v0 v1 v2 v3) = some S ∧
      spec_TimeRead.l0 (k + 1) s B [v0, v1, v2, v3] 4 a b c = (if S.toList = s.toList then some (frOf B LL v0 v1 v2 v3, true) else some (0, false)) := by
  have hd : ∀ G : Int, ∃ S, impl_TimeText.f k a b c G = some S ∧ (if G < 0 then (some (0, false)) else ((spec_TimeText.f k a b c G).bind fun t => (if t.toList = s.toList then (some (G, true)) else (some (0, false))))) = (if S.toList = s.toList then some (G, true) else some (0, false)) := by
    intro G
    obtain ⟨S, h1, h2, h3⟩ := text_eq k hk a b G c
    refine ⟨S, h2, ?_⟩
    rw [h1, Option.bind_some]
    by_cases hg : G < 0
    · rw [if_pos hg]
      rcases h3 with h3 | h3
      · omega
      · rw [if_neg]
        rw [h3.1, ByteArray.toList_eq, ByteArray.toList_eq]
        intro e
        have : s.data.toList.length = 0 := by rw [← e]; rfl
        rw [Array.length_toList] at this
        have : s.size = 0 := this
        omega
    · rw [if_neg hg]
  have r0 : rd [v0, v1, v2, v3] 0 = v0 := rfl
  have r1 : rd [v0, v1, v2, v3] 1 = v1 := rfl
  have r2 : rd [v0, v1, v2, v3] 2 = v2 := rfl
  have r3 : rd [v0, v1, v2, v3] 3 = v3 := rfl
  have hl : (([v0, v1, v2, v3] : List Int).length : Int) = 4 := rfl
  rw [spec_TimeRead.l0, if_neg (by omega), hl, if_pos (by omega), if_pos (by omega), if_pos (by omega), if_pos (by omega), r0, r1, r2, r3, Int.mul_comm v0 60, Int.mul_comm (wrap64 (wrap64 (60 * v0) + v1)) 60]
  cases c with
  | true =>
    rw [if_pos rfl] at hL
    subst hL
    obtain ⟨S, h1, h2⟩ := hd (frOf B (wrap64 (Int.tdiv B 15)) v0 v1 v2 v3)
    refine ⟨S, h1, ?_⟩
    rw [if_pos rfl]
    exact h2
  | false =>
    rw [if_neg (by simp)] at hL
    subst hL
    have e : frOf B 0 v0 v1 v2 v3 = wrap64 (wrap64 (wrap64 (wrap64 (60 * wrap64 (wrap64 (60 * v0) + v1)) + v2) * B) + v3) := by
      unfold frOf
      rw [Int.zero_mul, show wrap64 0 = 0 by decide +kernel, Int.sub_zero, wrap_wrap]
    obtain ⟨S, h1, h2⟩ := hd (frOf B 0 v0 v1 v2 v3)
    refine ⟨S, h1, ?_⟩
    rw [if_neg (by simp)]
    rw [e] at h2 ⊢
    exact h2

theorem left_some (a b B : Int) (c : Bool) (hc : c = true → b = 1001 ∧ (a = 30000 ∧ B = 30 ∨ a = 60000 ∧ B = 60)) : ∃ LL, impl_Rate_left.f a b c = some LL ∧ LL = if c = true then wrap64 (Int.tdiv B 15) else 0 := by
  cases c with
  | false => exact ⟨0, rfl, rfl⟩
  | true =>
    obtain ⟨rfl, h | h⟩ := hc rfl
    · obtain ⟨rfl, rfl⟩ := h
      exact ⟨2, rfl, by decide +kernel⟩
    · obtain ⟨rfl, rfl⟩ := h
      exact ⟨4, rfl, by decide +kernel⟩

/-- The reference's loop over the fields. -/
theorem spec_fields (k : Nat) (s : ByteArray) (B a b : Int) (c : Bool) (hs : 11 ≤ s.size) (hs2 : s.size ≤ 12) :
    spec_TimeRead.l0 (k + 2 * (s.size - 9) + 25) s B [0, 0, 0, 0] 0 a b c =
      orNo (dg s 2 0 0) fun v0 => orNo (dg s 2 3 0) fun v1 => orNo (dg s 2 6 0) fun v2 => orNo (dg s (s.size - 9) 9 0) fun v3 => spec_TimeRead.l0 (k + 1) s B [v0, v1, v2, v3] 4 a b c := by
  have st : ∀ (k i : Nat) (l : List Int), i < 4 → l = l.set i 0 → spec_TimeRead.l0 (k + 1) s B l (i : Int) a b c = spec_TimeRead.l1 k s B (l.set i 0) (i : Int) ((3 * i : Nat) : Int) a b c := by
    intro k i l hi hl
    rw [spec_TimeRead.l0, if_pos (by omega), ← hl, show wrap64 (3 * (i : Int)) = ((3 * i : Nat) : Int) by unfold wrap64; omega]
  have c2 : cap 2 0 := by unfold cap; decide
  have f0 := spec_field s B a b c hs2 0 (by omega) 2 rfl (by omega) [0, 0, 0, 0] rfl 2 0 0 (k + 2 * (s.size - 9) + 18) (by omega) (by omega) c2
  have g0 := st (k + 2 * (s.size - 9) + 18 + 2 * 2 + 2) 0 [0, 0, 0, 0] (by omega) rfl
  rw [show k + 2 * (s.size - 9) + 25 = k + 2 * (s.size - 9) + 18 + 2 * 2 + 2 + 1 by omega]
  refine g0.trans (f0.trans ?_)
  clear g0 f0
  congr 1
  funext v0
  have f1 := spec_field s B a b c hs2 1 (by omega) 5 rfl (by omega) [v0, 0, 0, 0] rfl 2 3 0 (k + 2 * (s.size - 9) + 11) (by omega) (by omega) c2
  have g1 := st (k + 2 * (s.size - 9) + 11 + 2 * 2 + 2) 1 [v0, 0, 0, 0] (by omega) rfl
  refine g1.trans (f1.trans ?_)
  clear g1 f1
  congr 1
  funext v1
  have f2 := spec_field s B a b c hs2 2 (by omega) 8 rfl (by omega) [v0, v1, 0, 0] rfl 2 6 0 (k + 2 * (s.size - 9) + 4) (by omega) (by omega) c2
  have g2 := st (k + 2 * (s.size - 9) + 4 + 2 * 2 + 2) 2 [v0, v1, 0, 0] (by omega) rfl
  refine g2.trans (f2.trans ?_)
  clear g2 f2
  congr 1
  funext v2
  have hp : cap (s.size - 9) 0 := by
    have : s.size - 9 = 2 ∨ s.size - 9 = 3 := by omega
    unfold cap
    rcases this with e | e <;> rw [e] <;> decide
  have f3 := spec_field s B a b c hs2 3 (by omega) s.size rfl (by omega) [v0, v1, v2, 0] rfl (s.size - 9) 9 0 (k + 1) (by omega) (by omega) hp
  have g3 := st (k + 1 + 2 * (s.size - 9) + 2) 3 [v0, v1, v2, 0] (by omega) rfl
  rw [show k + 2 * (s.size - 9) + 4 = k + 1 + 2 * (s.size - 9) + 2 + 1 by omega]
  exact g3.trans f3

/-- Both read the same. -/
theorem read_eq (m : Nat) (hm : 1010 ≤ m) (a b : Int) (c : Bool) (s : ByteArray) :
    ∃ r, spec_TimeRead.f (m + 40) a b c s = some r ∧ impl_TimeRead.f (m + 40) a b c s = some r := by
  obtain ⟨t, ht, _⟩ := rate_some (m + 40) (by omega) a b c
  unfold spec_TimeRead.f impl_TimeRead.f
  rw [ht, Option.bind_some]
  cases t with
  | false =>
    have hs : spec_Base.f (m + 40) a b c = some 0 := by
      unfold spec_Base.f
      rw [rate_eq, ht]
      rfl
    rw [hs, Option.bind_some, if_pos rfl, if_neg (by simp), spec_TimeRead.j0, if_pos rfl]
    exact ⟨_, rfl, rfl⟩
  | true =>
    obtain ⟨B, hb, hB, hB2, hs, hc⟩ := rate_base a b c (m + 40) (by omega) ht
    rw [hs, Option.bind_some, if_neg (by omega), if_pos rfl, in_some, Option.bind_some]
    by_cases h1 : (s.size : Int) < 11
    · rw [if_pos h1, if_neg (by simp; omega), spec_TimeRead.j0, if_pos rfl]
      exact ⟨_, rfl, rfl⟩
    · rw [if_neg h1]
      by_cases h2 : (s.size : Int) > 12
      · rw [if_neg (by simp; omega), spec_TimeRead.j0, if_pos (by simpa using h2)]
        exact ⟨_, rfl, rfl⟩
      · rw [if_pos (by simp; omega), spec_TimeRead.j0, if_neg (by simp; omega)]
        have hs1 : 11 ≤ s.size := by omega
        have hs2 : s.size ≤ 12 := by omega
        rw [dg_digits s 0 2 2 (by omega) (by omega) (by omega) (by omega) (by omega) (m + 40) (by omega), dg_digits s 3 5 2 (by omega) (by omega) (by omega) (by omega) (by omega) (m + 40) (by omega), dg_digits s 6 8 2 (by omega) (by omega) (by omega) (by omega) (by omega) (m + 40) (by omega), dg_digits s 9 s.size (s.size - 9) (by omega) (by omega) (by omega) (by omega) (by omega) (m + 40) (by omega)]
        have hf := spec_fields (m + 39 - 25 - 2 * (s.size - 9)) s B a b c hs1 hs2
        rw [show m + 39 - 25 - 2 * (s.size - 9) + 2 * (s.size - 9) + 25 = m + 39 by omega] at hf
        rw [hf]
        generalize hg0 : dg s 2 0 0 = g0
        cases g0 with
        | none => exact ⟨_, rfl, rfl⟩
        | some v0 =>
          generalize hg1 : dg s 2 3 0 = g1
          cases g1 with
          | none => exact ⟨_, rfl, rfl⟩
          | some v1 =>
            generalize hg2 : dg s 2 6 0 = g2
            cases g2 with
            | none => exact ⟨_, rfl, rfl⟩
            | some v2 =>
              generalize hg3 : dg s (s.size - 9) 9 0 = g3
              cases g3 with
              | none => exact ⟨_, rfl, rfl⟩
              | some v3 =>
                simp only [orNo, if_true, Option.bind_some]
                obtain ⟨LL, hLL, hL⟩ := left_some a b B c hc
                obtain ⟨S, hS, he⟩ := spec_end (m + 39 - 25 - 2 * (s.size - 9)) (by omega) s B a b LL c hs1 hL v0 v1 v2 v3
                have hS2 := tt_up a b _ c S _ hS (26 + 2 * (s.size - 9))
                rw [show m + 39 - 25 - 2 * (s.size - 9) + (26 + 2 * (s.size - 9)) = m + 40 by omega] at hS2
                rw [he, hb, hLL, Option.bind_some, Option.bind_some]
                unfold frOf at hS2 ⊢
                rw [hS2, Option.bind_some]
                split
                · exact ⟨_, rfl, rfl⟩
                · exact ⟨_, rfl, rfl⟩

theorem FnExactTimeRead (a0_0 : Int) (a0_1 : Int) (a0_2 : Bool) (a1 : ByteArray) (w0 : ((Lit.int .i64 a0_0).wf = true) ∧ (((Lit.int .i64 a0_1).wf = true) ∧ (True))) (w1 : a1.size ≤ 140737488351232) : ∃ k, PFnExactTimeRead.laws_FnExactTimeRead.f k a0_0 a0_1 a0_2 a1 = some true := by
  refine ⟨1051, ?_⟩
  obtain ⟨⟨r1, r2⟩, h1, h2⟩ := read_eq 1011 (by omega) a0_0 a0_1 a0_2 a1
  unfold laws_FnExactTimeRead.f laws_toRate.f
  simp only [Option.bind_some]
  rw [h1, h2]
  simp

end Go.Proofs.YtdlmllhkejjaaaaDoor.Pure
