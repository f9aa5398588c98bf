/- The plain law behind FnSync: a list of small whole numbers with one peak is found where it was moved. Plain. -/
import Derived.Test.YtihmoiheiglohaaPFnExactSyncx1
import Derived.Test.YtihmoiheiglohaaVal
namespace Go.Proofs.Ytihmoiheiglohaa.SyncPure
set_option linter.unusedVariables false
set_option linter.unusedSimpArgs false
open Go.RowKit Go.Proofs.Ytihmoiheiglohaa.Fl Go.Proofs.Ytihmoiheiglohaa.Rnd Go.Proofs.Ytihmoiheiglohaa.PFnExactAgree Go.Proofs.Ytihmoiheiglohaa.PFnExactSync
/-- The word stands for the whole number n. -/
def Rp (x : Nat) (n : Int) : Prop := Val 3000 x (n * (2 ^ 3000 : Nat))
theorem small_lt {n : Int} (h : n.natAbs < 2 ^ 53) : (n * (2 ^ 3000 : Nat)).natAbs < 2 ^ (3000 + 800) := by
  rw [Int.natAbs_mul, Int.natAbs_natCast]
  generalize hS : 3000 = S
  have h1 : n.natAbs * 2 ^ S < 2 ^ 53 * 2 ^ S := Nat.mul_lt_mul_of_pos_right h (two_pos _)
  rw [← Nat.pow_add] at h1
  exact Nat.lt_of_lt_of_le h1 (Nat.pow_le_pow_right (by omega) (by omega))
theorem Rp.int (n : Int) (h : n.natAbs < 2 ^ 53) : Rp (floatOfInt .f64 n) n := val_int (Nat.le_refl _) n h
theorem Rp.add {x y : Nat} {a b : Int} (hx : Rp x a) (hy : Rp y b) (h : (a + b).natAbs < 2 ^ 53) : Rp (fo .add x y) (a + b) := by
  unfold Rp at hx hy ⊢
  have e : a * (2 ^ 3000 : Nat) + b * (2 ^ 3000 : Nat) = (a + b) * (2 ^ 3000 : Nat) := by rw [Int.add_mul]
  obtain ⟨r, v', h1, h2, _, h3⟩ := bits_add (Nat.le_refl 3000) hx hy (by rw [e]; exact small_lt h)
  have h4 := h3 (a + b) h e
  rw [h4, e] at h2
  unfold fo
  rw [h1]
  exact h2
theorem Rp.mul {x y : Nat} {a b : Int} (hx : Rp x a) (hy : Rp y b) (h : (a * b).natAbs < 2 ^ 53) : Rp (fo .mul x y) (a * b) := by
  unfold Rp at hx hy ⊢
  have e : a * b * (2 ^ 3000 : Nat) * (2 ^ 3000 : Nat) = a * (2 ^ 3000 : Nat) * (b * (2 ^ 3000 : Nat)) := by
    generalize ((2 ^ 3000 : Nat) : Int) = P
    rw [Int.mul_assoc, Int.mul_assoc, Int.mul_assoc, Int.mul_left_comm b P]
  obtain ⟨r, v', h1, h2, _, h3⟩ := bits_mul (Nat.le_refl 3000) hx hy (p := a * b * (2 ^ 3000 : Nat)) e (small_lt h)
  have h4 := h3 (a * b) h rfl
  rw [h4] at h2
  unfold fo
  rw [h1]
  exact h2
theorem Rp.order {x y : Nat} {a b : Int} (hx : Rp x a) (hy : Rp y b) : FloatKind.f64.format.order x y = some (compare a b) := by
  have h := order_val (Nat.le_refl 3000) hx hy
  have hp : 0 < ((2 ^ 3000 : Nat) : Int) := by
    have := two_pos 3000
    generalize (2 ^ 3000 : Nat) = P at *
    omega
  generalize ((2 ^ 3000 : Nat) : Int) = P at h hp
  have h2 : FloatKind.f64.format.order x y = some (compare (a * P) (b * P)) := h
  rw [h2]
  congr 1
  rcases Int.lt_trichotomy a b with c | c | c
  · rw [Int.compare_eq_lt.2 c, Int.compare_eq_lt.2 (Int.mul_lt_mul_of_pos_right c hp)]
  · rw [c, Int.compare_eq_eq.2 rfl, Int.compare_eq_eq.2 rfl]
  · rw [Int.compare_eq_gt.2 c, Int.compare_eq_gt.2 (Int.mul_lt_mul_of_pos_right c hp)]
theorem Rp.num {x : Nat} {a : Int} (h : Rp x a) : ¬ NaN x := by
  obtain ⟨s, m, e, h, _⟩ := h
  unfold NaN
  rw [h]
  simp [Ieee.Datum.isNaN]
/-- x takes its place. -/
theorem bt_rp {x t : Nat} {a b : Int} (hx : Rp x a) (ht : Rp t b) : bt x t = decide (b < a) := by
  unfold bt
  rw [hx.order ht, hx.order hx, ht.order ht, Int.compare_eq_eq.2 rfl, Int.compare_eq_eq.2 rfl]
  by_cases h : b < a
  · rw [Int.compare_eq_gt.2 h]; simp [h]
  · rcases Int.lt_trichotomy a b with c | c | c
    · rw [Int.compare_eq_lt.2 c]; simp [h]
    · rw [c, Int.compare_eq_eq.2 rfl]; simp
    · exact absurd c h
/-- The sum in whole numbers. -/
def cor (us bs : List Int) (lag : Int) : Nat → Int
  | 0 => 0
  | i + 1 => if 0 ≤ (i : Int) + lag ∧ (i : Int) + lag < (bs.length : Int) then cor us bs lag i + us.getD i 0 * bs.getD ((i : Int) + lag).toNat 0 else cor us bs lag i
def F (us : List Int) : List Nat := us.map fun v => floatOfInt .f64 v
theorem F_length (us : List Int) : (F us).length = us.length := by simp [F]
theorem F_at (us : List Int) (i : Nat) (hi : i < us.length) : (F us).getD i 0 = floatOfInt .f64 (us.getD i 0) := by simp [F, hi]
/-- A peak at p, elsewhere little. -/
def Pk (us : List Int) (p : Nat) : Prop := p < us.length ∧ us.getD p 0 = 500 ∧ ∀ i, i ≠ p → -1 ≤ us.getD i 0 ∧ us.getD i 0 ≤ 1
theorem Pk.big {us : List Int} {p : Nat} (h : Pk us p) (i : Nat) : -1 ≤ us.getD i 0 ∧ us.getD i 0 ≤ 500 := by
  by_cases e : i = p
  · rw [e, h.2.1]; omega
  · have := h.2.2 i e; omega
theorem mul_le_one {a b : Int} (ha : -1 ≤ a ∧ a ≤ 1) (hb : -1 ≤ b ∧ b ≤ 1) : -1 ≤ a * b ∧ a * b ≤ 1 := by
  have h1 : a = -1 ∨ a = 0 ∨ a = 1 := by omega
  rcases h1 with rfl | rfl | rfl <;> omega
/-- What one product is. -/
theorem term {us bs : List Int} {p q : Nat} (ha : Pk us p) (hb : Pk bs q) (i j : Nat) : -500 ≤ us.getD i 0 * bs.getD j 0 ∧ us.getD i 0 * bs.getD j 0 ≤ 250000 ∧ (i ≠ p → j ≠ q → -1 ≤ us.getD i 0 * bs.getD j 0 ∧ us.getD i 0 * bs.getD j 0 ≤ 1) ∧ ((i ≠ p ∨ j ≠ q) → us.getD i 0 * bs.getD j 0 ≤ 500) ∧ (i = p → j = q → us.getD i 0 * bs.getD j 0 = 250000) := by
  by_cases e1 : i = p
  · by_cases e2 : j = q
    · rw [e1, e2, ha.2.1, hb.2.1]; omega
    · have := hb.2.2 j e2
      rw [e1, ha.2.1]; omega
  · by_cases e2 : j = q
    · have := ha.2.2 i e1
      rw [e2, hb.2.1]; omega
    · have := mul_le_one (ha.2.2 i e1) (hb.2.2 j e2)
      omega
/-- The sums stay small. -/
theorem cor_small {us bs : List Int} {p q : Nat} (ha : Pk us p) (hb : Pk bs q) (lag : Int) : ∀ i : Nat, -500 * (i : Int) ≤ cor us bs lag i ∧ cor us bs lag i ≤ 250000 * (i : Int)
  | 0 => by simp [cor]
  | i + 1 => by
    have ih := cor_small ha hb lag i
    have ht := term ha hb i ((i : Int) + lag).toNat
    unfold cor
    split <;> omega
/-- Away from the peaks' distance the sum is little. -/
theorem cor_off {us bs : List Int} {p q : Nat} (ha : Pk us p) (hb : Pk bs q) (lag : Int) (hlag : (p : Int) + lag ≠ q) : ∀ i : Nat, cor us bs lag i ≤ (i : Int) + (if p < i then 500 else 0) + (if (q : Int) - lag < i then 500 else 0)
  | 0 => by
    unfold cor
    split <;> split <;> omega
  | i + 1 => by
    have ih := cor_off ha hb lag hlag i
    have ht := term ha hb i ((i : Int) + lag).toNat
    unfold cor
    generalize us.getD i 0 * bs.getD ((i : Int) + lag).toNat 0 = T at ht
    by_cases c : 0 ≤ (i : Int) + lag ∧ (i : Int) + lag < (bs.length : Int)
    · rw [if_pos c]
      by_cases e1 : i = p
      · have e2 : ((i : Int) + lag).toNat ≠ q := by omega
        have h1 := ht.2.2.2.1 (.inr e2)
        split at ih <;> split at ih <;> split <;> split <;> omega
      · by_cases e2 : ((i : Int) + lag).toNat = q
        · have h1 := ht.2.2.2.1 (.inl e1)
          split at ih <;> split at ih <;> split <;> split <;> omega
        · have h1 := ht.2.2.1 e1 e2
          split at ih <;> split at ih <;> split <;> split <;> omega
    · rw [if_neg c]
      split at ih <;> split at ih <;> split <;> split <;> omega
/-- At the peaks' distance it is great. -/
theorem cor_on {us bs : List Int} {p q : Nat} (ha : Pk us p) (hb : Pk bs q) (lag : Int) (hlag : (p : Int) + lag = q) : ∀ i : Nat, (if p < i then 250000 else 0) - (i : Int) ≤ cor us bs lag i
  | 0 => by unfold cor; split <;> omega
  | i + 1 => by
    have ih := cor_on ha hb lag hlag i
    have ht := term ha hb i ((i : Int) + lag).toNat
    unfold cor
    generalize us.getD i 0 * bs.getD ((i : Int) + lag).toNat 0 = T at ht
    by_cases c : 0 ≤ (i : Int) + lag ∧ (i : Int) + lag < (bs.length : Int)
    · rw [if_pos c]
      by_cases e1 : i = p
      · have h1 := ht.2.2.2.2 e1 (by omega)
        split at ih <;> split <;> omega
      · have h1 := (ht.2.2.1 e1 (by omega)).1
        split at ih <;> split <;> omega
    · rw [if_neg c]
      have hb1 := hb.1
      split at ih <;> split <;> omega
/-- A list against itself: squares. -/
theorem cor_sq {us : List Int} {p : Nat} (ha : Pk us p) : ∀ i : Nat, i ≤ us.length → (if p < i then 250000 else 0) ≤ cor us us 0 i
  | 0 => fun _ => by unfold cor; split <;> omega
  | i + 1 => fun hi => by
    have ih := cor_sq ha i (by omega)
    have ht := term ha ha i ((i : Int) + 0).toNat
    unfold cor
    have ei : ((i : Int) + 0).toNat = i := by omega
    rw [ei] at ht ⊢
    have hsq : 0 ≤ us.getD i 0 * us.getD i 0 := by
      rcases Int.le_total 0 (us.getD i 0) with h | h
      · exact Int.mul_nonneg h h
      · exact Int.mul_nonneg_of_nonpos_of_nonpos h h
    have hc : 0 ≤ (i : Int) + 0 ∧ (i : Int) + 0 < (us.length : Int) := by omega
    rw [if_pos hc]
    by_cases e1 : i = p
    · have h1 := ht.2.2.2.2 e1 e1
      split at ih <;> split <;> omega
    · split at ih <;> split <;> omega
/-- The float sum stands for the whole one. -/
theorem acc_rp {us bs : List Int} {p q : Nat} (ha : Pk us p) (hb : Pk bs q) (hl : us.length ≤ 4096) (lag : Int) : ∀ i : Nat, i ≤ us.length → Rp (acc (F us) (F bs) lag i) (cor us bs lag i)
  | 0 => fun _ => by
    have h := Rp.int 0 (by decide)
    rw [show floatOfInt .f64 0 = 0 by decide +kernel] at h
    exact h
  | i + 1 => fun hi => by
    have ih := acc_rp ha hb hl lag i (by omega)
    have hc := cor_small ha hb lag (i + 1)
    unfold cor at hc
    unfold acc cor
    rw [F_length]
    by_cases c : 0 ≤ (i : Int) + lag ∧ (i : Int) + lag < (bs.length : Int)
    · rw [if_pos c] at hc ⊢
      rw [if_pos c]
      rw [F_at us i (by omega), F_at bs _ (by omega)]
      have b1 := ha.big i
      have b2 := hb.big ((i : Int) + lag).toNat
      have ht := term ha hb i ((i : Int) + lag).toNat
      exact ih.add (Rp.mul (Rp.int _ (by omega)) (Rp.int _ (by omega)) (by omega)) (by omega)
    · rw [if_neg c, if_neg c]
      exact ih
/-- Agree's answer. -/
theorem agr_rp {us bs : List Int} {p q : Nat} (ha : Pk us p) (hb : Pk bs q) (hl : us.length ≤ 4096) (hlb : bs.length ≤ 4096) (lag : Int) (h1 : -4096 ≤ lag) (h2 : lag ≤ 4096) : Rp (agr (F us) (F bs) lag) (cor us bs lag us.length) := by
  rw [agr, if_pos (by rw [F_length, F_length]; omega), F_length]
  exact acc_rp ha hb hl lag us.length (Nat.le_refl _)
theorem lagOf_range (m : Nat) (hm : m < 40) : -20 ≤ lagOf m ∧ lagOf m ≤ 20 := by unfold lagOf; split <;> omega
/-- The best lag. -/
theorem sy_best {us bs : List Int} {p q : Nat} (ha : Pk us p) (hb : Pk bs q) (hl : us.length ≤ 100) (hlb : bs.length ≤ 4096) (d : Int) (hd : (p : Int) + d = q) (hd1 : -20 ≤ d) (hd2 : d ≤ 20) :
    ∀ m : Nat, m ≤ 40 → (-20 ≤ (sy (F us) (F bs) m).1 ∧ (sy (F us) (F bs) m).1 ≤ 20) ∧ (sy (F us) (F bs) m).2 = agr (F us) (F bs) (sy (F us) (F bs) m).1 ∧ ((d = 0 ∨ ∃ k, k < m ∧ lagOf k = d) → (sy (F us) (F bs) m).1 = d) := by
  have hcor : ∀ l : Int, -20 ≤ l → l ≤ 20 → l ≠ d → cor us bs l us.length < cor us bs d us.length := by
    intro l _ _ hne
    have h1 := cor_off ha hb l (by omega) us.length
    have h2 := cor_on ha hb d hd us.length
    have h3 := ha.1
    rw [if_pos h3] at h2
    split at h1 <;> split at h1 <;> omega
  have hR : ∀ l : Int, -20 ≤ l → l ≤ 20 → Rp (agr (F us) (F bs) l) (cor us bs l us.length) := fun l h1 h2 => agr_rp ha hb (by omega) hlb l (by omega) (by omega)
  intro m
  induction m with
  | zero =>
    intro _
    refine ⟨by simp [sy], rfl, fun h => ?_⟩
    rcases h with h | ⟨k, hk, _⟩
    · exact h.symm
    · omega
  | succ m ih =>
    intro hm
    obtain ⟨⟨i1, i2⟩, i3, i4⟩ := ih (by omega)
    have hr := lagOf_range m (by omega)
    have hbt : bt (agr (F us) (F bs) (lagOf m)) (sy (F us) (F bs) m).2 = decide (cor us bs (sy (F us) (F bs) m).1 us.length < cor us bs (lagOf m) us.length) := by
      rw [i3]
      exact bt_rp (hR _ hr.1 hr.2) (hR _ i1 i2)
    unfold sy
    rw [hbt]
    by_cases c : cor us bs (sy (F us) (F bs) m).1 us.length < cor us bs (lagOf m) us.length
    · rw [if_pos (by simpa using c)]
      refine ⟨hr, rfl, fun h => ?_⟩
      show lagOf m = d
      by_cases e : (sy (F us) (F bs) m).1 = d
      · by_cases e2 : lagOf m = d
        · exact e2
        · have := hcor _ hr.1 hr.2 e2
          rw [e] at c
          omega
      · rcases h with h | ⟨k, hk, hkd⟩
        · exact absurd (i4 (.inl h)) e
        · by_cases ek : k = m
          · rw [← ek]; exact hkd
          · exact absurd (i4 (.inr ⟨k, by omega, hkd⟩)) e
    · rw [if_neg (by simpa using c)]
      refine ⟨⟨i1, i2⟩, i3, fun h => ?_⟩
      by_cases e : (sy (F us) (F bs) m).1 = d
      · exact e
      · exfalso
        rcases h with h | ⟨k, hk, hkd⟩
        · exact e (i4 (.inl h))
        · by_cases ek : k = m
          · subst ek
            have := hcor _ i1 i2 e
            rw [← hkd] at this
            exact c this
          · exact e (i4 (.inr ⟨k, by omega, hkd⟩))
/-- Sync finds the distance. -/
theorem syn_found {us bs : List Int} {p q : Nat} (ha : Pk us p) (hb : Pk bs q) (hl : us.length ≤ 100) (hlb : bs.length ≤ 4096) (d : Int) (hd : (p : Int) + d = q) (hd1 : -20 ≤ d) (hd2 : d ≤ 20) : syn (F us) (F bs) 20 = d := by
  rw [syn, if_pos (by rw [F_length, F_length]; omega)]
  have h := sy_best ha hb hl hlb d hd hd1 hd2 40 (Nat.le_refl _)
  refine h.2.2 ?_
  by_cases h0 : d = 0
  · exact .inl h0
  · right
    by_cases h1 : 0 < d
    · refine ⟨2 * (d.toNat - 1), by omega, ?_⟩
      unfold lagOf
      rw [if_pos (by omega)]
      omega
    · refine ⟨2 * ((-d).toNat - 1) + 1, by omega, ?_⟩
      unfold lagOf
      rw [if_neg (by omega)]
      omega
/-- The sum of squares is 250000 at least. -/
theorem agree_great {us : List Int} {p : Nat} (ha : Pk us p) (hl : us.length ≤ 100) {r : Nat} (hr : Same r (agr (F us) (F us) 0)) : FloatKind.f64.format.order r 4687829947429945344 = some .gt ∨ FloatKind.f64.format.order r 4687829947429945344 = some .eq := by
  have h1 := agr_rp ha ha (by omega) (by omega) 0 (by omega) (by omega)
  have h2 := cor_sq ha us.length (Nat.le_refl _)
  rw [if_pos ha.1] at h2
  have h3 := Rp.int 250000 (by decide)
  rw [show floatOfInt .f64 250000 = 4687829947429945344 by decide +kernel] at h3
  have e : r = agr (F us) (F us) 0 := by
    rcases hr with h | ⟨_, h⟩
    · exact h
    · exact absurd h h1.num
  rw [e, h1.order h3]
  rcases Int.lt_trichotomy (cor us us 0 us.length) 250000 with c | c | c
  · omega
  · exact .inr (by rw [c, Int.compare_eq_eq.2 rfl])
  · exact .inl (by rw [Int.compare_eq_gt.2 c])
/-- Zeros ahead. -/
theorem Pk.ahead {us : List Int} {p : Nat} (h : Pk us p) (k : Nat) : Pk (List.replicate k 0 ++ us) (k + p) := by
  have hg : ∀ i, (List.replicate k (0 : Int) ++ us).getD i 0 = if i < k then 0 else us.getD (i - k) 0 := by
    intro i
    rw [List.getD_eq_getElem?_getD, List.getD_eq_getElem?_getD]
    by_cases c : i < k
    · rw [if_pos c, List.getElem?_append_left (by simpa using c)]; simp [c]
    · rw [if_neg c, List.getElem?_append_right (by simpa using c)]; simp
  refine ⟨by simp; exact h.1, ?_, fun i hi => ?_⟩
  · rw [hg, if_neg (by omega), show k + p - k = p by omega]; exact h.2.1
  · rw [hg]
    split
    · omega
    · exact h.2.2 _ (by omega)
end Go.Proofs.Ytihmoiheiglohaa.SyncPure
