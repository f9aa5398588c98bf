/- Errors of double operations on numbers of up to 2^20, in units of 2^-32. Plain; no program. -/
import Derived.Test.YtnldjdpophkkcaaDoorVal
namespace Go.Proofs.YtnldjdpophkkcaaDoor.Rnd
open Ieee Go.Proofs.YtnldjdpophkkcaaDoor.Fl
set_option linter.unusedVariables false
set_option linter.unusedSimpArgs false
theorem pow_split (k j n : Nat) (h : n = k + j) : (2 : Nat) ^ n = 2 ^ k * 2 ^ j := by rw [h, Nat.pow_add]
theorem big_lt (K : Nat) (h : 21 ≤ K) : 1048576 < 2 ^ K := Nat.lt_of_lt_of_le (show 1048576 < 2 ^ 21 by decide) (Nat.pow_le_pow_right (by omega) h)
theorem pow_le (a b : Nat) (h : a ≤ b) : (2 : Nat) ^ a ≤ 2 ^ b := Nat.pow_le_pow_right (by omega) h
theorem pow_cast (k j n : Nat) (h : n = k + j) : ((2 ^ n : Nat) : Int) = ((2 ^ k : Nat) : Int) * ((2 ^ j : Nat) : Int) := by rw [pow_split k j n h, Int.natCast_mul]
theorem pow_castle (a b : Nat) (h : a ≤ b) : ((2 ^ a : Nat) : Int) ≤ ((2 ^ b : Nat) : Int) := Int.ofNat_le.2 (pow_le a b h)
/-- The unit of error, scaled. -/
def E : Int := ((2 ^ 2968 : Nat) : Int)
/-- One, scaled, is 2^32 units. -/
theorem one_E : ((2 ^ 3000 : Nat) : Int) = 4294967296 * E := by
  unfold E
  have h := pow_cast 32 2968 3000 rfl
  rw [show ((2 ^ 32 : Nat) : Int) = 4294967296 from rfl] at h
  exact h
theorem E_pos : 0 < E := by
  unfold E
  have := two_pos 2968
  generalize (2 : Nat) ^ 2968 = P at *
  omega
/-- The word stands for v / 2^3000. -/
def W (x : Nat) (v : Int) : Prop := Val 3000 x v
theorem W.num {x : Nat} {v : Int} (h : W x v) : ¬ NaN x := by
  obtain ⟨s, m, e, h, _⟩ := h
  unfold NaN
  rw [h]
  simp [Ieee.Datum.isNaN]
theorem W.order {x y : Nat} {a b : Int} (hx : W x a) (hy : W y b) : FloatKind.f64.format.order x y = some (compare a b) := order_val (Nat.le_refl 3000) hx hy
theorem W.int (n : Int) (hn : n.natAbs < 2 ^ 53) : W (floatOfInt .f64 n) (n * (4294967296 * E)) := by
  have h := val_int (Nat.le_refl 3000) n hn
  rw [one_E] at h
  exact h
/-- At most 2^20. -/
def Lim (v : Int) : Prop := -(1048576 * (4294967296 * E)) ≤ v ∧ v ≤ 1048576 * (4294967296 * E)
theorem Lim.lt {v : Int} (h : Lim v) : v.natAbs < 2 ^ (3000 + 800) := by
  unfold Lim at h
  rw [← one_E] at h
  have h1 : v.natAbs ≤ 1048576 * 2 ^ 3000 := by
    generalize (2 : Nat) ^ 3000 = P at *
    omega
  have h2 : 1048576 * 2 ^ 3000 < 2 ^ (3000 + 800) := by
    generalize hS : 3000 = S
    rw [Nat.pow_add, Nat.mul_comm]
    exact Nat.mul_lt_mul_of_pos_left (big_lt 800 (by omega)) (two_pos S)
  omega
/-- Within a unit. -/
def Near (v' v : Int) : Prop := v - E ≤ v' ∧ v' ≤ v + E
theorem tiny (S : Nat) (hS : S = 3000) : ((2 ^ (S - 1022) : Nat) : Int) ≤ 4294967296 * E := by
  have h := pow_castle (S - 1022) S (by omega)
  rw [show ((2 ^ S : Nat) : Int) = 4294967296 * E by rw [hS]; exact one_E] at h
  exact h
theorem near_ofS (S : Nat) (hS : S = 3000) {v' v : Int} (he : Err S v' v) (hl : Lim v) : Near v' v := by
  obtain ⟨h1, h2⟩ := he
  have ht := tiny S hS
  have hE := E_pos
  unfold Lim at hl
  unfold Near
  generalize ((2 ^ (S - 1022) : Nat) : Int) = T at h1 h2 ht
  have e : (2 * 2 ^ 52 : Int) = 9007199254740992 := by decide
  rw [e] at h1 h2
  generalize E = e at *
  omega
theorem near_of {v' v : Int} (he : Err 3000 v' v) (hl : Lim v) : Near v' v := near_ofS 3000 rfl he hl
theorem W.add {x y : Nat} {a b : Int} (hx : W x a) (hy : W y b) (hl : Lim (a + b)) : ∃ v', W (fo .add x y) v' ∧ Near v' (a + b) := by
  obtain ⟨r, v', h1, h2, h3, _⟩ := bits_add (Nat.le_refl 3000) hx hy hl.lt
  refine ⟨v', ?_, near_of h3 hl⟩
  unfold fo
  rw [h1]
  exact h2
theorem W.sub {x y : Nat} {a b : Int} (hx : W x a) (hy : W y b) (hl : Lim (a - b)) : ∃ v', W (fo .sub x y) v' ∧ Near v' (a - b) := by
  obtain ⟨r, v', h1, h2, h3, _⟩ := bits_sub (Nat.le_refl 3000) hx hy hl.lt
  refine ⟨v', ?_, near_of h3 hl⟩
  unfold fo
  rw [h1]
  exact h2
theorem mul_abs {P a c : Int} (h : P * 9007199254740992 = a * c) (hc : -9007199254740992 ≤ c ∧ c ≤ 9007199254740992) : P.natAbs ≤ a.natAbs := by
  have h1 : P.natAbs * 9007199254740992 = a.natAbs * c.natAbs := by
    have := congrArg Int.natAbs h
    rwa [Int.natAbs_mul, Int.natAbs_mul] at this
  have h2 : a.natAbs * c.natAbs ≤ a.natAbs * 9007199254740992 := Nat.mul_le_mul_left _ (by omega)
  rw [← h1] at h2
  exact Nat.le_of_mul_le_mul_right h2 (by decide)
/-- A product with c / 2^53. -/
theorem W.mul {x y : Nat} {a c : Int} (hx : W x a) (hy : W y (c * ((2 ^ 2947 : Nat) : Int))) (hc : -9007199254740992 ≤ c ∧ c ≤ 9007199254740992) (hl : Lim a) :
    ∃ P v', P * 9007199254740992 = a * c ∧ W (fo .mul x y) v' ∧ Near v' P := by
  obtain ⟨s, m, i, rx, hi, hi2, hm, hv⟩ := hx
  -- a is a multiple of 2^53
  have hdiv : ∃ a', a = a' * 9007199254740992 := by
    have hp : (i + (3000 : Nat)).toNat = (i + 2947).toNat + 53 := by omega
    refine ⟨if s then -((m * 2 ^ (i + 2947).toNat : Nat) : Int) else ((m * 2 ^ (i + 2947).toNat : Nat) : Int), ?_⟩
    rw [← hv]
    unfold ev mv
    rw [hp, Nat.pow_add, ← Nat.mul_assoc]
    cases s
    · simp only [Bool.false_eq_true, if_false]; rw [Int.natCast_mul (m * 2 ^ (i + 2947).toNat)]; rfl
    · simp only [if_true]; rw [Int.natCast_mul (m * 2 ^ (i + 2947).toNat), Int.neg_mul]; rfl
  obtain ⟨a', rfl⟩ := hdiv
  have hP : a' * c * 9007199254740992 = a' * 9007199254740992 * c := by rw [Int.mul_assoc, Int.mul_comm c, ← Int.mul_assoc]
  have hab := mul_abs hP hc
  have hLP : Lim (a' * c) := by
    unfold Lim at hl ⊢
    generalize 1048576 * (4294967296 * E) = L at *
    omega
  have hex : a' * c * ((2 ^ 3000 : Nat) : Int) = a' * 9007199254740992 * (c * ((2 ^ 2947 : Nat) : Int)) := by
    have e : ((2 ^ 3000 : Nat) : Int) = 9007199254740992 * ((2 ^ 2947 : Nat) : Int) := by
      have h := pow_cast 53 2947 3000 rfl
      rw [show ((2 ^ 53 : Nat) : Int) = 9007199254740992 from rfl] at h
      exact h
    rw [e]
    generalize ((2 ^ 2947 : Nat) : Int) = G
    generalize (9007199254740992 : Int) = D
    rw [Int.mul_assoc, Int.mul_assoc, Int.mul_left_comm c D G]
  obtain ⟨r, v', h1, h2, h3, _⟩ := bits_mul (Nat.le_refl 3000) ⟨s, m, i, rx, hi, hi2, hm, hv⟩ hy hex hLP.lt
  refine ⟨a' * c, v', hP, ?_, near_of h3 hLP⟩
  unfold fo
  rw [h1]
  exact h2
/-- A quotient by 2^t. -/
theorem W.quo {x y : Nat} {a : Int} {t : Nat} (ht : t ≤ 3) (hx : W x a) (hy : double.read y = .number false (2 ^ 52) ((t : Int) - 52)) (hl : Lim a) :
    ∃ q v', q * ((2 ^ t : Nat) : Int) = a ∧ W (fo .quo x y) v' ∧ Near v' q := by
  obtain ⟨s, m, i, rx, hi, hi2, hm, hv⟩ := hx
  have hlog : m.log2 ≤ 52 := by
    by_cases h0 : m = 0
    · subst h0; decide
    · have h1 := Nat.log2_self_le h0
      have h2 := (Nat.pow_lt_pow_iff_right (a := 2) (by omega)).1 (Nat.lt_of_le_of_lt h1 hm)
      omega
  have hl52 : Nat.log2 (2 ^ 52) = 52 := by decide +kernel
  obtain ⟨more, hmore⟩ : ∃ more, 54 + 52 - m.log2 = more := ⟨_, rfl⟩
  have hm1 : 54 ≤ more ∧ more ≤ 106 := by omega
  have e2 : m <<< more = m * 2 ^ (more - 52) * 2 ^ 52 := by rw [Nat.shiftLeft_eq, Nat.mul_assoc, ← Nat.pow_add, show more - 52 + 52 = more by omega]
  have hq : Datum.quotient 54 (.number s m i) (.number false (2 ^ 52) ((t : Int) - 52)) = some (.number s (2 * (m * 2 ^ (more - 52))) (i - ((t : Int) - 52) - more - 1)) := by
    unfold Datum.quotient
    simp only [hl52, hmore, e2]
    rw [if_neg (by decide), Nat.mul_div_cancel _ (by decide), Nat.mul_mod_left]
    cases s <;> rfl
  have hev : ev 3000 s (2 * (m * 2 ^ (more - 52))) (i - ((t : Int) - 52) - more - 1) * ((2 ^ t : Nat) : Int) = a := by
    rw [← hv]
    have e3 : 2 * (m * 2 ^ (more - 52)) * 2 ^ (i - ((t : Int) - 52) - more - 1 + (3000 : Nat)).toNat * 2 ^ t = m * 2 ^ (i + (3000 : Nat)).toNat := by
      have e4 : (i + (3000 : Nat)).toNat = 1 + (more - 52) + (i - ((t : Int) - 52) - more - 1 + (3000 : Nat)).toNat + t := by omega
      rw [e4, Nat.pow_add, Nat.pow_add, Nat.pow_add]
      generalize 2 ^ (i - ((t : Int) - 52) - more - 1 + (3000 : Nat)).toNat = A
      generalize 2 ^ (more - 52) = B
      generalize 2 ^ t = C
      rw [Nat.pow_one, Nat.mul_left_comm 2 m B, Nat.mul_assoc, Nat.mul_assoc, Nat.mul_assoc (2 * B)]
    unfold ev mv
    cases s
    · simp only [Bool.false_eq_true, if_false]; rw [← Int.natCast_mul, e3]
    · simp only [if_true]; rw [Int.neg_mul, ← Int.natCast_mul, e3]
  have hp : 0 < 2 ^ t := two_pos t
  have hlq : Lim (ev 3000 s (2 * (m * 2 ^ (more - 52))) (i - ((t : Int) - 52) - more - 1)) := by
    generalize ev 3000 s (2 * (m * 2 ^ (more - 52))) (i - ((t : Int) - 52) - more - 1) = q at hev ⊢
    unfold Lim at hl ⊢
    have hE := E_pos
    have h8 : t = 0 ∨ t = 1 ∨ t = 2 ∨ t = 3 := by omega
    generalize E = e at *
    rcases h8 with rfl | rfl | rfl | rfl
    · have : q * 1 = a := hev
      omega
    · have : q * 2 = a := hev
      omega
    · have : q * 4 = a := hev
      omega
    · have : q * 8 = a := hev
      omega
  obtain ⟨v', w1, w2, _⟩ := write_val (Nat.le_refl 3000) s (2 * (m * 2 ^ (more - 52))) (i - ((t : Int) - 52) - more - 1) (by omega) hlq.lt
  refine ⟨_, v', hev, ?_, near_of w2 hlq⟩
  unfold fo
  have hb : floatBits .quo .f64 x y = some (double.nearest s (2 * (m * 2 ^ (more - 52))) (i - ((t : Int) - 52) - more - 1)) := by
    show Option.map double.write (Datum.quotient 54 (double.read x) (double.read y)) = _
    rw [rx, hy, hq]
    rfl
  rw [hb]
  exact w1
end Go.Proofs.YtnldjdpophkkcaaDoor.Rnd
