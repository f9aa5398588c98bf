/- What the operations on double words answer, told in whole numbers scaled by 2^S. Plain; no program. -/
import Derived.Test.YtnldjdpophkkcaaDoorRnd
import Derived.Test.YtnldjdpophkkcaaDoorFl
namespace Go.Proofs.YtnldjdpophkkcaaDoor.Rnd
open Ieee Go.Proofs.YtnldjdpophkkcaaDoor.Fl
set_option linter.unusedVariables false
set_option linter.unusedSimpArgs false
/-- The value, scaled. -/
def ev (S : Nat) (s : Bool) (m : Nat) (e : Int) : Int := if s then -(mv S m e : Int) else (mv S m e : Int)
/-- The word stands for the number v / 2^S. -/
def Val (S x : Nat) (v : Int) : Prop := ∃ s m e, double.read x = .number s m e ∧ -1074 ≤ e ∧ e ≤ 1000 ∧ m < 2 ^ 53 ∧ ev S s m e = v
/-- How far a rounded value may be. -/
def Err (S : Nat) (v' v : Int) : Prop := v' * (2 * 2 ^ 52) ≤ v * (2 * 2 ^ 52) + v.natAbs + (2 ^ (S - 1022) : Nat) ∧ v * (2 * 2 ^ 52) ≤ v' * (2 * 2 ^ 52) + v.natAbs + (2 ^ (S - 1022) : Nat)
theorem ev_abs (S : Nat) (s : Bool) (m : Nat) (e : Int) : (ev S s m e).natAbs = mv S m e := by unfold ev; cases s <;> simp
theorem signed_mul (s : Bool) (m d P : Nat) : signed s m d * (P : Int) = if s then -((m * 2 ^ d * P : Nat) : Int) else ((m * 2 ^ d * P : Nat) : Int) := by
  unfold signed
  rw [Nat.shiftLeft_eq]
  cases s
  · simp only [Bool.false_eq_true, if_false]
    rw [Int.natCast_mul (m * 2 ^ d) P]
  · simp only [if_true]
    rw [Int.neg_mul, Int.natCast_mul (m * 2 ^ d) P]
/-- A shift to a lower base. -/
theorem ev_base (S : Nat) (hS : 3000 ≤ S) (s : Bool) (m : Nat) (e base : Int) (h : base ≤ e) (hb : -(3000 : Int) ≤ base) : signed s m (e - base).toNat * ((2 ^ (base + S).toNat : Nat) : Int) = ev S s m e := by
  rw [signed_mul]
  unfold ev mv
  rw [Nat.mul_assoc, ← Nat.pow_add, show (e - base).toNat + (base + S).toNat = (e + S).toNat by omega]
theorem m_lt {x : Nat} {s : Bool} {m : Nat} {e : Int} (h : double.read x = .number s m e) : m < 2 ^ 53 ∧ -1074 ≤ e ∧ e ≤ 1000 := by
  have hs : double.signWeight = 2 ^ 63 := by decide +kernel
  have hb : double.binade = 2 ^ 52 := by decide +kernel
  have hi : double.infRung = 2047 * 2 ^ 52 := by decide +kernel
  have hl : double.leastPlace = -1074 := by decide +kernel
  unfold Format.read at h
  rw [hs, hb, hi, hl] at h
  simp only at h
  generalize x % 2 ^ 63 = r at h
  split at h
  · rename_i hr
    injection h with h1 h2 h3
    omega
  · split at h
    · rename_i hr1 hr2
      injection h with h1 h2 h3
      subst h2 h3
      have h4 : r / 2 ^ 52 < 2047 := (Nat.div_lt_iff_lt_mul (two_pos 52)).2 hr2
      have h5 := Nat.mod_lt r (two_pos 52)
      omega
    · split at h <;> cases h
theorem val_of_read {S x : Nat} {s : Bool} {m : Nat} {e : Int} (h : double.read x = .number s m e) : Val S x (ev S s m e) := ⟨s, m, e, h, (m_lt h).2.1, (m_lt h).2.2, (m_lt h).1, rfl⟩
theorem ov_of {S m : Nat} {e : Int} (hS : 3000 ≤ S) (he : -(3000 : Int) ≤ e) (hv : mv S m e < 2 ^ (S + 800)) : m = 0 ∨ e + m.log2 ≤ 900 := by
  by_cases hm : m = 0
  · exact .inl hm
  · right
    have h1 : 2 ^ m.log2 * 2 ^ (e + S).toNat ≤ mv S m e := Nat.mul_le_mul_right _ (Nat.log2_self_le hm)
    rw [← Nat.pow_add] at h1
    have h2 := (Nat.pow_lt_pow_iff_right (a := 2) (by omega)).1 (Nat.lt_of_le_of_lt h1 hv)
    omega
/-- What is written. -/
theorem write_val {S : Nat} (hS : 3000 ≤ S) (s : Bool) (m : Nat) (e : Int) (he : -(3000 : Int) ≤ e) (hv : (ev S s m e).natAbs < 2 ^ (S + 800)) :
    ∃ v', Val S (double.nearest s m e) v' ∧ Err S v' (ev S s m e) ∧ (∀ N : Int, N.natAbs < 2 ^ 53 → ev S s m e = N * (2 ^ S : Nat) → v' = ev S s m e) := by
  rw [ev_abs] at hv
  have hov := ov_of hS he hv
  have hov2 : e + m.log2 ≤ 900 ∨ m = 0 := by omega
  have key : ∃ (m' : Nat) (e' : Int), double.read (double.nearest s m e) = .number s m' e' ∧ mv S m' e' * (2 * 2 ^ 52) ≤ mv S m e * (2 * 2 ^ 52) + mv S m e + 2 ^ (S - 1022) ∧ mv S m e * (2 * 2 ^ 52) ≤ mv S m' e' * (2 * 2 ^ 52) + mv S m e + 2 ^ (S - 1022) ∧ (∀ N, N < 2 ^ 53 → mv S m e = N * 2 ^ S → mv S m' e' = mv S m e) := by
    rcases hov2 with h | h
    · obtain ⟨m', e', h1, _, _, h2, h3, h4⟩ := near S hS s m e he h
      exact ⟨m', e', h1, h2, h3, h4⟩
    · subst h
      have hz : ∀ e : Int, mv S 0 e = 0 := fun e => by unfold mv; rw [Nat.zero_mul]
      have e0 : double.nearest s 0 e = double.nearest s 0 0 := by unfold Format.nearest; rw [if_pos rfl, if_pos rfl]
      obtain ⟨m', e', h1, _, _, h2, h3, h4⟩ := near S hS s 0 0 (by omega) (by decide)
      rw [hz] at h2 h3 h4
      refine ⟨m', e', by rw [e0]; exact h1, by rw [hz]; exact h2, by rw [hz]; exact h3, fun N hN hh => by rw [hz]; exact h4 0 (by decide) (by rw [Nat.zero_mul])⟩
  obtain ⟨m', e', h1, h2, h3, h4⟩ := key
  refine ⟨_, val_of_read h1, ?_, ?_⟩
  · unfold Err
    rw [ev_abs]
    unfold ev
    generalize mv S m' e' = A at *
    generalize mv S m e = B at *
    generalize 2 ^ (S - 1022) = T at *
    have c2 : (A : Int) * (2 * 2 ^ 52) ≤ (B : Int) * (2 * 2 ^ 52) + B + T := by exact_mod_cast h2
    have c3 : (B : Int) * (2 * 2 ^ 52) ≤ (A : Int) * (2 * 2 ^ 52) + B + T := by exact_mod_cast h3
    generalize (2 * 2 ^ 52 : Int) = c at *
    cases s
    · simp only [Bool.false_eq_true, if_false]
      exact ⟨c2, c3⟩
    · simp only [if_true]
      rw [Int.neg_mul, Int.neg_mul]
      omega
  · intro N hN hh
    have hB : mv S m e = N.natAbs * 2 ^ S := by
      rw [← ev_abs S s m e, hh, Int.natAbs_mul, Int.natAbs_natCast]
    have h5 := h4 _ hN hB
    unfold ev
    rw [h5]
theorem bits_add {S x y : Nat} {a b : Int} (hS : 3000 ≤ S) (hx : Val S x a) (hy : Val S y b) (hv : (a + b).natAbs < 2 ^ (S + 800)) :
    ∃ r v', floatBits .add .f64 x y = some r ∧ Val S r v' ∧ Err S v' (a + b) ∧ (∀ N : Int, N.natAbs < 2 ^ 53 → a + b = N * (2 ^ S : Nat) → v' = a + b) := by
  obtain ⟨s, m, i, hx, hi, _, _, rfl⟩ := hx
  obtain ⟨t, n, j, hy, hj, _, _, rfl⟩ := hy
  obtain ⟨base, hbase⟩ : ∃ base : Int, min i j = base := ⟨_, rfl⟩
  have h1 := ev_base S hS s m i base (by omega) (by omega)
  have h2 := ev_base S hS t n j base (by omega) (by omega)
  obtain ⟨total, ht⟩ : ∃ total, signed s m (i - base).toNat + signed t n (j - base).toNat = total := ⟨_, rfl⟩
  have h3 : ev S (if total = 0 then s && t else decide (total < 0)) total.natAbs base = ev S s m i + ev S t n j := by
    rw [← h1, ← h2, ← Int.add_mul, ht]
    unfold ev mv
    by_cases h0 : total = 0
    · subst h0; simp
    · rw [if_neg h0]
      by_cases hneg : total < 0
      · simp only [hneg, decide_true, if_true]
        rw [Int.natCast_mul, ← Int.neg_mul]
        congr 1
        omega
      · simp only [hneg, decide_false, Bool.false_eq_true, if_false]
        rw [Int.natCast_mul]
        congr 1
        omega
  obtain ⟨v', w1, w2, w3⟩ := write_val hS (if total = 0 then s && t else decide (total < 0)) total.natAbs base (by omega) (by rw [h3]; exact hv)
  rw [h3] at w2 w3
  refine ⟨_, v', ?_, w1, w2, w3⟩
  show Option.map _ (Datum.sum _ _) = _
  show Option.map double.write (Datum.sum (double.read x) (double.read y)) = _
  rw [hx, hy]
  simp only [Datum.sum, hbase, ht, Option.map_some]
  rfl
theorem bits_sub {S x y : Nat} {a b : Int} (hS : 3000 ≤ S) (hx : Val S x a) (hy : Val S y b) (hv : (a - b).natAbs < 2 ^ (S + 800)) :
    ∃ r v', floatBits .sub .f64 x y = some r ∧ Val S r v' ∧ Err S v' (a - b) ∧ (∀ N : Int, N.natAbs < 2 ^ 53 → a - b = N * (2 ^ S : Nat) → v' = a - b) := by
  obtain ⟨s, m, i, hx, hi, _, _, rfl⟩ := hx
  obtain ⟨t, n, j, hy, hj, _, _, rfl⟩ := hy
  have hneg : ev S (!t) n j = -ev S t n j := by unfold ev; cases t <;> simp
  rw [Int.sub_eq_add_neg, ← hneg] at hv ⊢
  obtain ⟨base, hbase⟩ : ∃ base : Int, min i j = base := ⟨_, rfl⟩
  have h1 := ev_base S hS s m i base (by omega) (by omega)
  have h2 := ev_base S hS (!t) n j base (by omega) (by omega)
  obtain ⟨total, ht⟩ : ∃ total, signed s m (i - base).toNat + signed (!t) n (j - base).toNat = total := ⟨_, rfl⟩
  have h3 : ev S (if total = 0 then s && !t else decide (total < 0)) total.natAbs base = ev S s m i + ev S (!t) n j := by
    rw [← h1, ← h2, ← Int.add_mul, ht]
    unfold ev mv
    by_cases h0 : total = 0
    · subst h0; simp
    · rw [if_neg h0]
      by_cases hneg : total < 0
      · simp only [hneg, decide_true, if_true]
        rw [Int.natCast_mul, ← Int.neg_mul]
        congr 1
        omega
      · simp only [hneg, decide_false, Bool.false_eq_true, if_false]
        rw [Int.natCast_mul]
        congr 1
        omega
  obtain ⟨v', w1, w2, w3⟩ := write_val hS (if total = 0 then s && !t else decide (total < 0)) total.natAbs base (by omega) (by rw [h3]; exact hv)
  rw [h3] at w2 w3
  refine ⟨_, v', ?_, w1, w2, w3⟩
  show Option.map double.write (Datum.sum (double.read x) (double.read y).opposite) = _
  rw [hx, hy]
  simp only [Datum.sum, Datum.opposite, hbase, ht, Option.map_some]
  rfl
theorem bits_mul {S x y : Nat} {a b p : Int} (hS : 3000 ≤ S) (hx : Val S x a) (hy : Val S y b) (hp : p * (2 ^ S : Nat) = a * b) (hv : p.natAbs < 2 ^ (S + 800)) :
    ∃ r v', floatBits .mul .f64 x y = some r ∧ Val S r v' ∧ Err S v' p ∧ (∀ N : Int, N.natAbs < 2 ^ 53 → p = N * (2 ^ S : Nat) → v' = p) := by
  obtain ⟨s, m, i, hx, hi, _, _, rfl⟩ := hx
  obtain ⟨t, n, j, hy, hj, _, _, rfl⟩ := hy
  have h3 : ev S (s ^^ t) (m * n) (i + j) = p := by
    have h4 : ev S (s ^^ t) (m * n) (i + j) * (2 ^ S : Nat) = ev S s m i * ev S t n j := by
      unfold ev mv
      have e : m * n * 2 ^ (i + j + (S : Int)).toNat * 2 ^ S = m * 2 ^ (i + S).toNat * (n * 2 ^ (j + S).toNat) := by
        rw [Nat.mul_assoc, ← Nat.pow_add, Nat.mul_mul_mul_comm, ← Nat.pow_add, show (i + j + (S : Int)).toNat + S = (i + S).toNat + (j + S).toNat by omega]
      have e' : ((m * n * 2 ^ (i + j + (S : Int)).toNat : Nat) : Int) * (2 ^ S : Nat) = ((m * 2 ^ (i + S).toNat : Nat) : Int) * ((n * 2 ^ (j + S).toNat : Nat) : Int) := by
        rw [← Int.natCast_mul, ← Int.natCast_mul, e]
      cases s <;> cases t <;> simp only [Bool.xor_false, Bool.xor_true, Bool.not_true, Bool.not_false, Bool.false_eq_true, if_true, if_false, Int.neg_mul, Int.mul_neg, Int.neg_neg, e']
    have hpos : ((2 ^ S : Nat) : Int) ≠ 0 := by have := two_pos S; omega
    exact Int.eq_of_mul_eq_mul_right hpos (h4.trans hp.symm)
  obtain ⟨v', w1, w2, w3⟩ := write_val hS (s ^^ t) (m * n) (i + j) (by omega) (by rw [h3]; exact hv)
  rw [h3] at w2 w3
  refine ⟨_, v', ?_, w1, w2, w3⟩
  show Option.map double.write (Datum.product (double.read x) (double.read y)) = _
  rw [hx, hy]
  rfl
/-- The order of two words. -/
theorem order_val {S x y : Nat} {a b : Int} (hS : 3000 ≤ S) (hx : Val S x a) (hy : Val S y b) : double.order x y = some (compare a b) := by
  obtain ⟨s, m, i, hx, hi, _, _, rfl⟩ := hx
  obtain ⟨t, n, j, hy, hj, _, _, rfl⟩ := hy
  obtain ⟨base, hbase⟩ : ∃ base : Int, min i j = base := ⟨_, rfl⟩
  have h1 := ev_base S hS s m i base (by omega) (by omega)
  have h2 := ev_base S hS t n j base (by omega) (by omega)
  unfold Format.order
  rw [hx, hy]
  simp only [Datum.order, hbase]
  rw [← h1, ← h2]
  have hpos : 0 < ((2 ^ (base + S).toNat : Nat) : Int) := by have := two_pos (base + S).toNat; omega
  generalize ((2 ^ (base + S).toNat : Nat) : Int) = P at hpos
  generalize signed s m (i - base).toNat = A
  generalize signed t n (j - base).toNat = B
  congr 1
  rcases Int.lt_trichotomy A B with h | h | h
  · rw [Int.compare_eq_lt.2 h, Int.compare_eq_lt.2 (Int.mul_lt_mul_of_pos_right h hpos)]
  · rw [h, Int.compare_eq_eq.2 rfl, Int.compare_eq_eq.2 rfl]
  · rw [Int.compare_eq_gt.2 h, Int.compare_eq_gt.2 (Int.mul_lt_mul_of_pos_right h hpos)]
/-- A whole number's word. -/
theorem val_int {S : Nat} (hS : 3000 ≤ S) (n : Int) (hn : n.natAbs < 2 ^ 53) : Val S (floatOfInt .f64 n) (n * (2 ^ S : Nat)) := by
  have e0 : ev S (decide (n < 0)) n.natAbs 0 = n * (2 ^ S : Nat) := by
    unfold ev mv
    rw [show ((0 : Int) + S).toNat = S by omega, Int.natCast_mul]
    by_cases h : n < 0
    · simp only [h, decide_true, if_true]
      rw [← Int.neg_mul]
      congr 1
      omega
    · simp only [h, decide_false, Bool.false_eq_true, if_false]
      congr 1
      omega
  have hlt : (n * (2 ^ S : Nat)).natAbs < 2 ^ (S + 800) := by
    rw [Int.natAbs_mul, Int.natAbs_natCast]
    have h1 : n.natAbs * 2 ^ S < 2 ^ 53 * 2 ^ S := Nat.mul_lt_mul_of_pos_right hn (two_pos _)
    rw [← Nat.pow_add] at h1
    exact Nat.lt_of_lt_of_le h1 (Nat.pow_le_pow_right (by omega) (by omega))
  obtain ⟨v', w1, w2, w3⟩ := write_val hS (decide (n < 0)) n.natAbs 0 (by omega) (by rw [e0]; exact hlt)
  have h := w3 n hn e0
  rw [h, e0] at w1
  exact w1
end Go.Proofs.YtnldjdpophkkcaaDoor.Rnd
