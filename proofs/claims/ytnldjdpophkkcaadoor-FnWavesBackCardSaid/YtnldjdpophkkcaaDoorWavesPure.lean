/- The plain law behind FnWavesBack: how far the waves and what comes back of them are from the exact sums. Plain. -/
import Derived.Test.YtnldjdpophkkcaaDoorPFnExactWavesx15
import Derived.Test.YtnldjdpophkkcaaDoorValE
namespace Go.Proofs.YtnldjdpophkkcaaDoor.WavesPure
open Go.Proofs.YtnldjdpophkkcaaDoor.Fl Go.Proofs.YtnldjdpophkkcaaDoor.Rnd Go.Proofs.YtnldjdpophkkcaaDoor.PFnExactWaves
set_option linter.unusedVariables false
set_option linter.unusedSimpArgs false
/-- The roots' numerators over 2^53. -/
def cc (m : Nat) : Int := [9007199254740992, 6369051672525773, 0, -6369051672525773, -9007199254740992, -6369051672525773, 0, 6369051672525773].getD m 0
def ss (m : Nat) : Int := [0, -6369051672525773, -9007199254740992, -6369051672525773, 0, 6369051672525773, 9007199254740992, 6369051672525773].getD m 0
theorem mv_cast (m : Nat) (e : Int) (K : Nat) (h : (e + (3000 : Nat)).toNat = K) : (mv 3000 m e : Int) = (m : Int) * ((2 ^ K : Nat) : Int) := by unfold mv; rw [h, Int.natCast_mul]
theorem W_zero : W 0 (0 * ((2 ^ 2947 : Nat) : Int)) := by
  have h : Ieee.double.read 0 = .number false 0 (-1074) := by decide +kernel
  have h2 := val_of_read (S := 3000) h
  have e : ev 3000 false 0 (-1074) = 0 * ((2 ^ 2947 : Nat) : Int) := by
    show ((mv 3000 0 (-1074) : Nat) : Int) = _
    rw [mv_cast 0 (-1074) 1926 (by decide), Int.zero_mul]
    exact Int.zero_mul _
  rw [e] at h2
  exact h2
theorem two_G : ((2 ^ 2948 : Nat) : Int) = 2 * ((2 ^ 2947 : Nat) : Int) := pow_cast 1 2947 2948 rfl
theorem W_one : W 4607182418800017408 (9007199254740992 * ((2 ^ 2947 : Nat) : Int)) := by
  have h : Ieee.double.read 4607182418800017408 = .number false 4503599627370496 (-52) := by decide +kernel
  have h2 := val_of_read (S := 3000) h
  have e : ev 3000 false 4503599627370496 (-52) = 9007199254740992 * ((2 ^ 2947 : Nat) : Int) := by
    show ((mv 3000 4503599627370496 (-52) : Nat) : Int) = _
    rw [mv_cast _ (-52) 2948 (by decide), two_G]
    generalize ((2 ^ 2947 : Nat) : Int) = G
    omega
  rw [e] at h2
  exact h2
theorem W_mone : W 13830554455654793216 (-9007199254740992 * ((2 ^ 2947 : Nat) : Int)) := by
  have h : Ieee.double.read 13830554455654793216 = .number true 4503599627370496 (-52) := by decide +kernel
  have h2 := val_of_read (S := 3000) h
  have e : ev 3000 true 4503599627370496 (-52) = -9007199254740992 * ((2 ^ 2947 : Nat) : Int) := by
    show -((mv 3000 4503599627370496 (-52) : Nat) : Int) = _
    rw [mv_cast _ (-52) 2948 (by decide), two_G]
    generalize ((2 ^ 2947 : Nat) : Int) = G
    omega
  rw [e] at h2
  exact h2
theorem W_half : W 4604544271217802189 (6369051672525773 * ((2 ^ 2947 : Nat) : Int)) := by
  have h : Ieee.double.read 4604544271217802189 = .number false 6369051672525773 (-53) := by decide +kernel
  have h2 := val_of_read (S := 3000) h
  have e : ev 3000 false 6369051672525773 (-53) = 6369051672525773 * ((2 ^ 2947 : Nat) : Int) := by
    show ((mv 3000 6369051672525773 (-53) : Nat) : Int) = _
    rw [mv_cast _ (-53) 2947 (by decide)]
    generalize ((2 ^ 2947 : Nat) : Int) = G
    omega
  rw [e] at h2
  exact h2
theorem W_mhalf : W 13827916308072577997 (-6369051672525773 * ((2 ^ 2947 : Nat) : Int)) := by
  have h : Ieee.double.read 13827916308072577997 = .number true 6369051672525773 (-53) := by decide +kernel
  have h2 := val_of_read (S := 3000) h
  have e : ev 3000 true 6369051672525773 (-53) = -6369051672525773 * ((2 ^ 2947 : Nat) : Int) := by
    show -((mv 3000 6369051672525773 (-53) : Nat) : Int) = _
    rw [mv_cast _ (-53) 2947 (by decide)]
    generalize ((2 ^ 2947 : Nat) : Int) = G
    omega
  rw [e] at h2
  exact h2
theorem rt_W (m : Nat) (hm : m < 8) : W (rt m).1 (cc m * ((2 ^ 2947 : Nat) : Int)) ∧ W (rt m).2 (ss m * ((2 ^ 2947 : Nat) : Int)) := by
  have h8 : m = 0 ∨ m = 1 ∨ m = 2 ∨ m = 3 ∨ m = 4 ∨ m = 5 ∨ m = 6 ∨ m = 7 := by omega
  rcases h8 with rfl | rfl | rfl | rfl | rfl | rfl | rfl | rfl
  · exact ⟨W_one, W_zero⟩
  · exact ⟨W_half, W_mhalf⟩
  · exact ⟨W_zero, W_mone⟩
  · exact ⟨W_mhalf, W_mhalf⟩
  · exact ⟨W_mone, W_zero⟩
  · exact ⟨W_mhalf, W_half⟩
  · exact ⟨W_zero, W_one⟩
  · exact ⟨W_half, W_half⟩
theorem cs_bd (m : Nat) (hm : m < 8) : (-9007199254740992 ≤ cc m ∧ cc m ≤ 9007199254740992) ∧ (-9007199254740992 ≤ ss m ∧ ss m ≤ 9007199254740992) := by
  have h8 : m = 0 ∨ m = 1 ∨ m = 2 ∨ m = 3 ∨ m = 4 ∨ m = 5 ∨ m = 6 ∨ m = 7 := by omega
  rcases h8 with rfl | rfl | rfl | rfl | rfl | rfl | rfl | rfl <;> decide
/-- The exact sums' numerators. -/
def SR (b : Bool) (n j : Nat) (xr xi : Nat → Int) : Nat → Int
  | 0 => 0
  | k + 1 => SR b n j xr xi k + (xr k * cc (ix b n j k) - xi k * ss (ix b n j k))
def SI (b : Bool) (n j : Nat) (xr xi : Nat → Int) : Nat → Int
  | 0 => 0
  | k + 1 => SI b n j xr xi k + (xr k * ss (ix b n j k) + xi k * cc (ix b n j k))
set_option maxHeartbeats 8000000 in
/-- The float sums' numbers. -/
theorem sm_err (b : Bool) (n j : Nat) (X : List (Nat × Nat)) (hn : X.length = n) (hn8 : n ≤ 8) (xr xi : Nat → Int) (B : Int) (hB0 : 0 ≤ B) (hB : B ≤ 20000 * (4294967296 * E))
    (hX : ∀ t, t < n → W (X.getD t (0, 0)).1 (xr t) ∧ W (X.getD t (0, 0)).2 (xi t) ∧ (-B ≤ xr t ∧ xr t ≤ B) ∧ (-B ≤ xi t ∧ xi t ≤ B)) :
    ∀ k : Nat, k ≤ n → ∃ vr vi, W (sm b X j k).1 vr ∧ W (sm b X j k).2 vi ∧
      (SR b n j xr xi k - (k : Int) * E * 36028797018963968 ≤ vr * 9007199254740992 ∧ vr * 9007199254740992 ≤ SR b n j xr xi k + (k : Int) * E * 36028797018963968) ∧
      (SI b n j xr xi k - (k : Int) * E * 36028797018963968 ≤ vi * 9007199254740992 ∧ vi * 9007199254740992 ≤ SI b n j xr xi k + (k : Int) * E * 36028797018963968) ∧
      (-((k : Int) * (2 * B + 4 * E)) ≤ vr ∧ vr ≤ (k : Int) * (2 * B + 4 * E)) ∧ (-((k : Int) * (2 * B + 4 * E)) ≤ vi ∧ vi ≤ (k : Int) * (2 * B + 4 * E))
  | 0 => fun _ => by
    have h := W_zero
    rw [Int.zero_mul] at h
    exact ⟨0, 0, h, h, by simp [SR], by simp [SI], by simp, by simp⟩
  | k + 1 => fun hk => by
    obtain ⟨vr, vi, w1, w2, e1, e2, b1, b2⟩ := sm_err b n j X hn hn8 xr xi B hB0 hB hX k (by omega)
    obtain ⟨x1, x2, xb1, xb2⟩ := hX k (by omega)
    have hE := E_pos
    have hm := ix_lt b n j k
    have hr := rt_W _ hm
    have hc := cs_bd _ hm
    have hQ : (k : Int) * (2 * B + 4 * E) ≤ 7 * (2 * B + 4 * E) := Int.mul_le_mul_of_nonneg_right (by omega) (by omega)
    have hQ1 : ((k + 1 : Nat) : Int) * (2 * B + 4 * E) = (k : Int) * (2 * B + 4 * E) + (2 * B + 4 * E) := by
      rw [show ((k + 1 : Nat) : Int) = (k : Int) + 1 from rfl, Int.add_mul, Int.one_mul]
    have hE1 : ((k + 1 : Nat) : Int) * E = (k : Int) * E + E := by
      rw [show ((k + 1 : Nat) : Int) = (k : Int) + 1 from rfl, Int.add_mul, Int.one_mul]
    rw [hQ1, hE1]
    unfold sm SR SI
    rw [hn]
    generalize ix b n j k = m at *
    obtain ⟨P1, p1, m1, g1, n1⟩ := x1.mul hr.1 hc.1 (by unfold Lim; omega)
    obtain ⟨P2, p2, m2, g2, n2⟩ := x2.mul hr.2 hc.2 (by unfold Lim; omega)
    obtain ⟨P3, p3, m3, g3, n3⟩ := x1.mul hr.2 hc.2 (by unfold Lim; omega)
    obtain ⟨P4, p4, m4, g4, n4⟩ := x2.mul hr.1 hc.1 (by unfold Lim; omega)
    have a1 := mul_abs m1 hc.1
    have a2 := mul_abs m2 hc.2
    have a3 := mul_abs m3 hc.2
    have a4 := mul_abs m4 hc.1
    clear hr hc hm
    unfold Near at n1 n2 n3 n4
    generalize xr k * cc m = T1 at *
    generalize xi k * ss m = T2 at *
    generalize xr k * ss m = T3 at *
    generalize xi k * cc m = T4 at *
    generalize (k : Int) * (2 * B + 4 * E) = Q at *
    generalize (k : Int) * E = KE at *
    generalize SR b n j xr xi k = R1 at *
    generalize SI b n j xr xi k = R2 at *
    obtain ⟨q1, g5, n5⟩ := g1.sub g2 (by unfold Lim; omega)
    obtain ⟨q2, g6, n6⟩ := g3.add g4 (by unfold Lim; omega)
    unfold Near at n5 n6
    obtain ⟨z1, g7, n7⟩ := w1.add g5 (by unfold Lim; omega)
    obtain ⟨z2, g8, n8⟩ := w2.add g6 (by unfold Lim; omega)
    unfold Near at n7 n8
    refine ⟨z1, z2, g7, g8, ?_, ?_, ?_, ?_⟩
    · omega
    · omega
    · omega
    · omega
theorem mul_bd {z e c : Int} (h1 : -e ≤ z) (h2 : z ≤ e) (hc : -9007199254740992 ≤ c ∧ c ≤ 9007199254740992) : -(e * 9007199254740992) ≤ z * c ∧ z * c ≤ e * 9007199254740992 := by
  have h3 : (z * c).natAbs ≤ e.natAbs * 9007199254740992 := by
    rw [Int.natAbs_mul]
    exact Nat.mul_le_mul (by omega) (by omega)
  have h4 : (e.natAbs : Int) = e := by omega
  omega
/-- The sums over what is near are near. -/
theorem SR_near (b : Bool) (n j : Nat) (xr xi yr yi : Nat → Int) (e : Int) : ∀ k : Nat, (∀ t, t < k → (-e ≤ xr t * 9007199254740992 - yr t ∧ xr t * 9007199254740992 - yr t ≤ e) ∧ (-e ≤ xi t * 9007199254740992 - yi t ∧ xi t * 9007199254740992 - yi t ≤ e)) →
    (-((k : Int) * e * 18014398509481984) ≤ SR b n j xr xi k * 9007199254740992 - SR b n j yr yi k ∧ SR b n j xr xi k * 9007199254740992 - SR b n j yr yi k ≤ (k : Int) * e * 18014398509481984) ∧
    (-((k : Int) * e * 18014398509481984) ≤ SI b n j xr xi k * 9007199254740992 - SI b n j yr yi k ∧ SI b n j xr xi k * 9007199254740992 - SI b n j yr yi k ≤ (k : Int) * e * 18014398509481984)
  | 0 => fun _ => by simp [SR, SI]
  | k + 1 => fun h => by
    obtain ⟨ih1, ih2⟩ := SR_near b n j xr xi yr yi e k (fun t ht => h t (by omega))
    obtain ⟨⟨h1, h2⟩, ⟨h3, h4⟩⟩ := h k (by omega)
    have hm := ix_lt b n j k
    have hc := cs_bd _ hm
    have hK : ((k + 1 : Nat) : Int) * e = (k : Int) * e + e := by rw [show ((k + 1 : Nat) : Int) = (k : Int) + 1 from rfl, Int.add_mul, Int.one_mul]
    rw [hK]
    unfold SR SI
    generalize ix b n j k = m at *
    have d1 := mul_bd h1 h2 hc.1
    have d2 := mul_bd h1 h2 hc.2
    have d3 := mul_bd h3 h4 hc.1
    have d4 := mul_bd h3 h4 hc.2
    have x1 : (xr k * 9007199254740992 - yr k) * cc m = xr k * cc m * 9007199254740992 - yr k * cc m := by rw [Int.sub_mul, Int.mul_right_comm]
    have x2 : (xr k * 9007199254740992 - yr k) * ss m = xr k * ss m * 9007199254740992 - yr k * ss m := by rw [Int.sub_mul, Int.mul_right_comm]
    have x3 : (xi k * 9007199254740992 - yi k) * cc m = xi k * cc m * 9007199254740992 - yi k * cc m := by rw [Int.sub_mul, Int.mul_right_comm]
    have x4 : (xi k * 9007199254740992 - yi k) * ss m = xi k * ss m * 9007199254740992 - yi k * ss m := by rw [Int.sub_mul, Int.mul_right_comm]
    rw [x1] at d1
    rw [x2] at d2
    rw [x3] at d3
    rw [x4] at d4
    clear x1 x2 x3 x4 hc hm h1 h2 h3 h4 hK h
    generalize xr k * cc m = t1 at *
    generalize yr k * cc m = t2 at *
    generalize xi k * ss m = t3 at *
    generalize yi k * ss m = t4 at *
    generalize xr k * ss m = t5 at *
    generalize yr k * ss m = t6 at *
    generalize xi k * cc m = t7 at *
    generalize yi k * cc m = t8 at *
    generalize (k : Int) * e = KE at *
    generalize SR b n j xr xi k = r1 at *
    generalize SR b n j yr yi k = r2 at *
    generalize SI b n j xr xi k = r3 at *
    generalize SI b n j yr yi k = r4 at *
    omega
end Go.Proofs.YtnldjdpophkkcaaDoor.WavesPure
