/- Rounding to nearest of double words, told in whole numbers scaled by 2^S: how far the written word is from the number, and that a whole number below 2^53 is written exactly. Plain; no program. -/
import Ieee.Arith
namespace Go.Proofs.YtnldjdpophkkcaaDoor.Rnd
open Ieee
set_option linter.unusedVariables false
set_option linter.unusedSimpArgs false
theorem two_pos (n : Nat) : 0 < 2 ^ n := Nat.two_pow_pos n
/-- The magnitude, scaled. -/
def mv (S m : Nat) (e : Int) : Nat := m * 2 ^ (e + S).toNat
theorem cut_zero (neg : Bool) (n : Nat) : Toward.even.cut neg n 0 = n := by
  unfold Toward.cut
  simp [Nat.mod_one]
/-- What is cut away is at most half. -/
theorem cut_err (neg : Bool) (n d : Nat) (hn : n ≠ 0) : ∃ k, Toward.even.cut neg n d = k ∧ 2 * (k * 2 ^ d) ≤ 2 * n + 2 ^ d ∧ 2 * n ≤ 2 * (k * 2 ^ d) + 2 ^ d ∧ k ≤ n / 2 ^ d + 1 ∧ n / 2 ^ d ≤ k ∧ (n % 2 ^ d = 0 → k * 2 ^ d = n) := by
  refine ⟨_, rfl, ?_⟩
  have hL : n < 2 ^ (n.log2 + 1) := Nat.lt_log2_self
  by_cases hd : d ≤ n.log2 + 2
  · have hg : 1 <<< min d (n.log2 + 2) = 2 ^ d := by rw [Nat.min_eq_left hd, Nat.shiftLeft_eq, Nat.one_mul]
    unfold Toward.cut
    simp only [hg]
    have hp := two_pos d
    have h1 := Nat.div_add_mod n (2 ^ d)
    have h2 := Nat.mod_lt n hp
    have hc : 2 ^ d * (n / 2 ^ d) = n / 2 ^ d * 2 ^ d := Nat.mul_comm _ _
    generalize hq : n / 2 ^ d = q at *
    generalize hr : n % 2 ^ d = r at *
    generalize hP : 2 ^ d = P at *
    have hqs : (q + 1) * P = q * P + P := Nat.succ_mul q P
    cases hb : (decide (P < 2 * r) || (P == 2 * r && q % 2 == 1)) with
    | true =>
      have h3 : P ≤ 2 * r := by
        simp only [Bool.or_eq_true, decide_eq_true_eq, Bool.and_eq_true, beq_iff_eq] at hb
        omega
      simp only [Bool.toNat_true]
      rw [hqs]
      exact ⟨by omega, by omega, by omega, by omega, fun h => by omega⟩
    | false =>
      have h3 : 2 * r ≤ P := by
        simp only [Bool.or_eq_false_iff, decide_eq_false_iff_not] at hb
        omega
      simp only [Bool.toNat_false, Nat.add_zero]
      exact ⟨by omega, by omega, by omega, by omega, fun h => by omega⟩
  · have hg : 1 <<< min d (n.log2 + 2) = 2 ^ (n.log2 + 2) := by rw [Nat.min_eq_right (by omega), Nat.shiftLeft_eq, Nat.one_mul]
    have hd2 : 2 ^ (n.log2 + 2) ≤ 2 ^ d := Nat.pow_le_pow_right (by omega) (by omega)
    have h4 : 2 ^ (n.log2 + 2) = 2 * 2 ^ (n.log2 + 1) := by rw [Nat.pow_succ, Nat.mul_comm]
    have hk : Toward.even.cut neg n d = 0 := by
      unfold Toward.cut
      simp only [hg]
      rw [Nat.div_eq_of_lt (by omega), Nat.mod_eq_of_lt (by omega)]
      have hb : (decide (2 ^ (n.log2 + 2) < 2 * n) || (2 ^ (n.log2 + 2) == 2 * n && 0 % 2 == 1)) = false := by
        simp
        omega
      rw [hb]
      rfl
    rw [hk, Nat.zero_mul, Nat.div_eq_of_lt (by omega), Nat.mod_eq_of_lt (by omega)]
    exact ⟨by omega, by omega, by omega, by omega, fun h => absurd h hn⟩
theorem read_word (neg : Bool) (r : Nat) (hr : r < 2047 * 2 ^ 52) : double.read (double.word neg r) = if r < 2 ^ 52 then .number neg r (-1074) else .number neg (2 ^ 52 + r % 2 ^ 52) (-1074 + (r / 2 ^ 52 - 1 : Nat)) := by
  have hs : double.signWeight = 2 ^ 63 := by decide +kernel
  have hb : double.binade = 2 ^ 52 := by decide +kernel
  have hi : double.infRung = 2047 * 2 ^ 52 := by decide +kernel
  have hl : double.leastPlace = -1074 := by decide +kernel
  unfold Format.read Format.word
  rw [hs, hb, hi, hl]
  have h63 : r < 2 ^ 63 := Nat.lt_of_lt_of_le hr (by decide)
  have e1 : (if neg = true then 2 ^ 63 + r else r) % 2 ^ 63 = r := by cases neg <;> simp <;> omega
  have e2 : ((if neg = true then 2 ^ 63 + r else r) / 2 ^ 63 % 2 == 1) = neg := by
    cases neg
    · simp only [Bool.false_eq_true, if_false, Nat.div_eq_of_lt h63]; rfl
    · simp only [if_true]; rw [Nat.add_div_left _ (by decide), Nat.div_eq_of_lt h63]; rfl
  simp only [e1, e2]
  split
  · rfl
  · rfl
theorem fin1 (c KP V P T : Nat) (h : 2 * KP ≤ 2 * V + P) (h3 : P * c ≤ V + T) : KP * (2 * c) ≤ V * (2 * c) + V + T := by
  have h1 := Nat.mul_le_mul_right c h
  have e1 : 2 * KP * c = KP * (2 * c) := by rw [Nat.mul_comm 2 KP, Nat.mul_assoc]
  have e2 : (2 * V + P) * c = V * (2 * c) + P * c := by rw [Nat.add_mul, Nat.mul_comm 2 V, Nat.mul_assoc]
  rw [e1, e2] at h1
  omega
theorem fin2 (c KP V P T : Nat) (h : 2 * V ≤ 2 * KP + P) (h3 : P * c ≤ V + T) : V * (2 * c) ≤ KP * (2 * c) + V + T := by
  have h1 := Nat.mul_le_mul_right c h
  have e1 : 2 * V * c = V * (2 * c) := by rw [Nat.mul_comm 2 V, Nat.mul_assoc]
  have e2 : (2 * KP + P) * c = KP * (2 * c) + P * c := by rw [Nat.add_mul, Nat.mul_comm 2 KP, Nat.mul_assoc]
  rw [e1, e2] at h1
  omega
/-- The word nearest to mag * 2^place. -/
theorem near (S : Nat) (hS : 3000 ≤ S) (neg : Bool) (mag : Nat) (place : Int) (h0 : -(3000 : Int) ≤ place) (hov : place + mag.log2 ≤ 900) :
    ∃ (m : Nat) (e : Int), double.read (double.nearest neg mag place) = .number neg m e ∧ -1074 ≤ e ∧ e ≤ 900 ∧
      mv S m e * (2 * 2 ^ 52) ≤ mv S mag place * (2 * 2 ^ 52) + mv S mag place + 2 ^ (S - 1022) ∧ mv S mag place * (2 * 2 ^ 52) ≤ mv S m e * (2 * 2 ^ 52) + mv S mag place + 2 ^ (S - 1022) ∧
      (∀ N, N < 2 ^ 53 → mv S mag place = N * 2 ^ S → mv S m e = mv S mag place) := by
  have hf : double.fractionBits = 52 := rfl
  have hl : double.leastPlace = -1074 := by decide +kernel
  have hb : double.binade = 2 ^ 52 := by decide +kernel
  have hi : double.infRung = 2047 * 2 ^ 52 := by decide +kernel
  by_cases hm : mag = 0
  · subst hm
    refine ⟨0, -1074, ?_, by omega, by omega, ?_, ?_, ?_⟩
    · unfold Format.nearest
      rw [if_pos rfl, read_word neg 0 (by decide), if_pos (by decide)]
    · unfold mv; rw [Nat.zero_mul, Nat.zero_mul, Nat.zero_mul]; exact Nat.zero_le _
    · unfold mv; rw [Nat.zero_mul, Nat.zero_mul, Nat.zero_mul]; exact Nat.zero_le _
    · intro N _ _; unfold mv; rw [Nat.zero_mul, Nat.zero_mul]
  · have hL1 : 2 ^ mag.log2 ≤ mag := Nat.log2_self_le hm
    have hL2 : mag < 2 ^ (mag.log2 + 1) := Nat.lt_log2_self
    unfold Format.nearest
    rw [if_neg hm, hf, hl, hb, hi]
    simp only
    generalize hLL : mag.log2 = L at *
    obtain ⟨last, hlast⟩ : ∃ last : Int, max (place + (L : Int) - ((52 : Nat) : Int)) (-1074) = last := ⟨_, rfl⟩
    rw [hlast]
    have hl1 : -1074 ≤ last := by omega
    have hl2 : place + L - 52 ≤ last := by omega
    have hl3 : last = place + L - 52 ∨ (last = -1074 ∧ place + L - 52 ≤ -1074) := by omega
    clear hlast
    -- what is kept
    have key : ∃ kept, Toward.even.cut neg (mag <<< (place - last).toNat) (last - place).toNat = kept ∧ kept ≤ 2 ^ 53 ∧ (kept < 2 ^ 52 → last = -1074) ∧
        2 * (kept * 2 ^ (last + S).toNat) ≤ 2 * mv S mag place + 2 ^ (last + S).toNat ∧ 2 * mv S mag place ≤ 2 * (kept * 2 ^ (last + S).toNat) + 2 ^ (last + S).toNat ∧
        (∀ N, N < 2 ^ 53 → mv S mag place = N * 2 ^ S → kept * 2 ^ (last + S).toNat = mv S mag place) := by
      by_cases hpl : last ≤ place
      · obtain ⟨d, hd⟩ : ∃ d : Nat, place = last + d := ⟨(place - last).toNat, by omega⟩
        have e1 : (last - place).toNat = 0 := by omega
        have e2 : (place - last).toNat = d := by omega
        have e3 : (place + S).toNat = d + (last + S).toNat := by omega
        have hv : mag * 2 ^ d * 2 ^ (last + S).toNat = mv S mag place := by unfold mv; rw [e3, Nat.pow_add, Nat.mul_assoc]
        rw [e1, e2, cut_zero, Nat.shiftLeft_eq]
        refine ⟨_, rfl, ?_, ?_, by rw [hv]; exact Nat.le_add_right _ _, by rw [hv]; exact Nat.le_add_right _ _, fun _ _ _ => hv⟩
        · have h1 : mag * 2 ^ d < 2 ^ (L + 1) * 2 ^ d := Nat.mul_lt_mul_of_pos_right hL2 (two_pos d)
          rw [← Nat.pow_add] at h1
          have h2 : 2 ^ (L + 1 + d) ≤ 2 ^ 53 := Nat.pow_le_pow_right (by omega) (by omega)
          omega
        · intro hk
          have h1 : 2 ^ L * 2 ^ d ≤ mag * 2 ^ d := Nat.mul_le_mul_right _ hL1
          rw [← Nat.pow_add] at h1
          rcases hl3 with h3 | h3
          · exfalso
            have h2 : 2 ^ 52 ≤ 2 ^ (L + d) := Nat.pow_le_pow_right (by omega) (by omega)
            omega
          · exact h3.1
      · obtain ⟨d, hd⟩ : ∃ d : Nat, last = place + d := ⟨(last - place).toNat, by omega⟩
        have e1 : (last - place).toNat = d := by omega
        have e2 : (place - last).toNat = 0 := by omega
        have e3 : (last + S).toNat = d + (place + S).toNat := by omega
        rw [e1, e2, Nat.shiftLeft_eq, Nat.pow_zero, Nat.mul_one]
        obtain ⟨k, hk, c1, c2, c3, c4, c5⟩ := cut_err neg mag d hm
        have hpp := two_pos (place + S).toNat
        have hv : k * 2 ^ (last + S).toNat = k * 2 ^ d * 2 ^ (place + S).toNat := by rw [e3, Nat.pow_add, Nat.mul_assoc]
        have hw : 2 ^ (last + S).toNat = 2 ^ d * 2 ^ (place + S).toNat := by rw [e3, Nat.pow_add]
        refine ⟨k, hk, ?_, ?_, ?_, ?_, ?_⟩
        · have h1 : mag / 2 ^ d < 2 ^ 53 := by
            refine (Nat.div_lt_iff_lt_mul (two_pos d)).2 (Nat.lt_of_lt_of_le hL2 ?_)
            rw [← Nat.pow_add]
            exact Nat.pow_le_pow_right (by omega) (by omega)
          omega
        · intro hk2
          rcases hl3 with h3 | h3
          · exfalso
            have h1 : 2 ^ 52 ≤ mag / 2 ^ d := by
              refine (Nat.le_div_iff_mul_le (two_pos d)).2 (Nat.le_trans ?_ hL1)
              rw [← Nat.pow_add]
              exact Nat.pow_le_pow_right (by omega) (by omega)
            omega
          · exact h3.1
        · rw [hv, hw]
          unfold mv
          have := Nat.mul_le_mul_right (2 ^ (place + S).toNat) c1
          rw [Nat.add_mul, Nat.mul_assoc, Nat.mul_assoc 2 mag] at this
          exact this
        · rw [hv, hw]
          unfold mv
          have := Nat.mul_le_mul_right (2 ^ (place + S).toNat) c2
          rw [Nat.add_mul, Nat.mul_assoc, Nat.mul_assoc 2 (k * 2 ^ d)] at this
          exact this
        · intro N hN he
          rw [hv]
          unfold mv at he ⊢
          rw [c5]
          -- 2^d divides mag
          have hp0 : place < 0 := by
            rcases Int.lt_or_le place 0 with h | h
            · exact h
            · exfalso
              have h1 : 2 ^ L * 2 ^ (place + S).toNat ≤ N * 2 ^ S := he ▸ Nat.mul_le_mul_right _ hL1
              have h2 : N * 2 ^ S < 2 ^ 53 * 2 ^ S := Nat.mul_lt_mul_of_pos_right hN (two_pos _)
              rw [← Nat.pow_add] at h1 h2
              have h3 := (Nat.pow_lt_pow_iff_right (a := 2) (by omega)).1 (Nat.lt_of_le_of_lt h1 h2)
              omega
          obtain ⟨t, ht⟩ : ∃ t : Nat, place = -(t : Int) := ⟨(-place).toNat, by omega⟩
          have e4 : S = t + (place + S).toNat := by omega
          rw [show (2 : Nat) ^ S = 2 ^ t * 2 ^ (place + S).toNat by rw [← Nat.pow_add, ← e4], ← Nat.mul_assoc] at he
          have he2 := Nat.eq_of_mul_eq_mul_right hpp he
          have hdt : d ≤ t := by
            have h1 : 2 ^ L ≤ N * 2 ^ t := he2 ▸ hL1
            have h2 : N * 2 ^ t < 2 ^ 53 * 2 ^ t := Nat.mul_lt_mul_of_pos_right hN (two_pos _)
            rw [← Nat.pow_add] at h2
            have h3 := (Nat.pow_lt_pow_iff_right (a := 2) (by omega)).1 (Nat.lt_of_le_of_lt h1 h2)
            omega
          rw [he2, show t = d + (t - d) by omega, Nat.pow_add, ← Nat.mul_assoc, Nat.mul_right_comm]
          exact Nat.mul_mod_left _ _
    obtain ⟨kept, hk, k1, k2, k3, k4, k5⟩ := key
    rw [hk]
    obtain ⟨t, ht⟩ : ∃ t : Nat, last = -1074 + t := ⟨(last + 1074).toNat, by omega⟩
    have e5 : (last - (-1074)).toNat = t := by omega
    have ht2 : t ≤ 1922 := by omega
    rw [e5, Nat.min_eq_left (by omega), read_word neg _ (by omega)]
    -- the value read
    have rd : ∃ (m : Nat) (e : Int), (if t * 2 ^ 52 + kept < 2 ^ 52 then Datum.number neg (t * 2 ^ 52 + kept) (-1074) else .number neg (2 ^ 52 + (t * 2 ^ 52 + kept) % 2 ^ 52) (-1074 + ((t * 2 ^ 52 + kept) / 2 ^ 52 - 1 : Nat))) = .number neg m e ∧ -1074 ≤ e ∧ e ≤ 900 ∧ mv S m e = kept * 2 ^ (last + S).toNat := by
      by_cases c : t * 2 ^ 52 + kept < 2 ^ 52
      · rw [if_pos c]
        have t0 : t = 0 := by omega
        subst t0
        refine ⟨_, _, rfl, by omega, by omega, ?_⟩
        unfold mv
        rw [ht]
        simp
      · rw [if_neg c]
        refine ⟨_, _, rfl, by omega, by omega, ?_⟩
        unfold mv
        by_cases c2 : kept = 2 ^ 53
        · have a1 : (t * 2 ^ 52 + kept) % 2 ^ 52 = 0 := by omega
          have a2 : (t * 2 ^ 52 + kept) / 2 ^ 52 = t + 2 := by omega
          rw [a1, a2, c2, show (-1074 + ((t + 2 - 1 : Nat) : Int) + S).toNat = (last + S).toNat + 1 by omega, Nat.pow_succ]
          omega
        · have h52 : 2 ^ 52 ≤ kept := by
            rcases Nat.lt_or_ge kept (2 ^ 52) with h | h
            · have := k2 h
              omega
            · exact h
          have a1 : (t * 2 ^ 52 + kept) % 2 ^ 52 = kept - 2 ^ 52 := by omega
          have a2 : (t * 2 ^ 52 + kept) / 2 ^ 52 = t + 1 := by omega
          rw [a1, a2, show (-1074 + ((t + 1 - 1 : Nat) : Int) + S).toNat = (last + S).toNat by omega, show 2 ^ 52 + (kept - 2 ^ 52) = kept by omega]
    obtain ⟨m, e, r1, r2, r3, r4⟩ := rd
    refine ⟨m, e, r1, r2, r3, ?_, ?_, fun N hN he => by rw [r4]; exact k5 N hN he⟩
    all_goals
      rw [r4]
      -- 2^(last+3000) * 2^52 is at most the value, or tiny
      have hsz : 2 ^ (last + S).toNat * 2 ^ 52 ≤ mv S mag place + 2 ^ (S - 1022) := by
        rcases hl3 with h3 | h3
        · have h1 : 2 ^ L * 2 ^ (place + S).toNat ≤ mv S mag place := Nat.mul_le_mul_right _ hL1
          have e6 : (last + S).toNat + 52 = L + (place + S).toNat := by omega
          rw [← Nat.pow_add, e6, Nat.pow_add]
          exact Nat.le_trans h1 (Nat.le_add_right _ _)
        · rw [h3.1, ← Nat.pow_add, show (-1074 + (S : Int)).toNat + 52 = S - 1022 by omega]
          exact Nat.le_add_left _ _
      clear k5 k2 k1 hk hL1 hL2 hl1 hl2 hl3 ht r1 r2 r3 r4
      generalize (2 : Nat) ^ 52 = c at hsz ⊢
      generalize (2 : Nat) ^ (S - 1022) = T at hsz ⊢
      generalize 2 ^ (last + S).toNat = P at hsz k3 k4 ⊢
      generalize mv S mag place = V at hsz k3 k4 ⊢
      generalize kept * P = KP at k3 k4 ⊢
      first | exact fin1 c KP V P T k3 hsz | exact fin2 c KP V P T k4 hsz
end Go.Proofs.YtnldjdpophkkcaaDoor.Rnd
