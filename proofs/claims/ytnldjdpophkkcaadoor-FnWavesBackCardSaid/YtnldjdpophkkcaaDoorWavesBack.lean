/- The plain law behind FnWavesBack, its end: what comes back is near. Plain. -/
import Derived.Test.YtnldjdpophkkcaaDoorWavesNum
namespace Go.Proofs.YtnldjdpophkkcaaDoor.WavesPure
open Go.Proofs.YtnldjdpophkkcaaDoor.Fl Go.Proofs.YtnldjdpophkkcaaDoor.Rnd Go.Proofs.YtnldjdpophkkcaaDoor.PFnExactWaves
set_option linter.unusedVariables false
set_option linter.unusedSimpArgs false
/-- There and back, exactly. -/
def BackOk (n i : Nat) (A B : Nat → Int) : Prop :=
    (-(E * 81129638414606681695789005144064) ≤ SR true n i (fun j => SR false n j A B n) (fun j => SI false n j A B n) n - (n : Int) * 81129638414606681695789005144064 * A i ∧ SR true n i (fun j => SR false n j A B n) (fun j => SI false n j A B n) n - (n : Int) * 81129638414606681695789005144064 * A i ≤ E * 81129638414606681695789005144064) ∧
    (-(E * 81129638414606681695789005144064) ≤ SI true n i (fun j => SR false n j A B n) (fun j => SI false n j A B n) n - (n : Int) * 81129638414606681695789005144064 * B i ∧ SI true n i (fun j => SR false n j A B n) (fun j => SI false n j A B n) n - (n : Int) * 81129638414606681695789005144064 * B i ≤ E * 81129638414606681695789005144064)
theorem backs (n i : Nat) (hn : n = 1 ∨ n = 2 ∨ n = 4 ∨ n = 8) (hi : i < n) (A B : Nat → Int) (hA : ∀ t, -(1000 * (4294967296 * E)) ≤ A t ∧ A t ≤ 1000 * (4294967296 * E)) (hB : ∀ t, -(1000 * (4294967296 * E)) ≤ B t ∧ B t ≤ 1000 * (4294967296 * E)) : BackOk n i A B := by
  rcases hn with rfl | rfl | rfl | rfl
  · have h : i = 0 := by omega
    subst h
    exact back1_0 A B (hA 0) (hB 0)
  · have h : i = 0 ∨ i = 1 := by omega
    rcases h with rfl | rfl
    · exact back2_0 A B (hA 0) (hB 0) (hA 1) (hB 1)
    · exact back2_1 A B (hA 0) (hB 0) (hA 1) (hB 1)
  · have h : i = 0 ∨ i = 1 ∨ i = 2 ∨ i = 3 := by omega
    rcases h with rfl | rfl | rfl | rfl
    · exact back4_0 A B (hA 0) (hB 0) (hA 1) (hB 1) (hA 2) (hB 2) (hA 3) (hB 3)
    · exact back4_1 A B (hA 0) (hB 0) (hA 1) (hB 1) (hA 2) (hB 2) (hA 3) (hB 3)
    · exact back4_2 A B (hA 0) (hB 0) (hA 1) (hB 1) (hA 2) (hB 2) (hA 3) (hB 3)
    · exact back4_3 A B (hA 0) (hB 0) (hA 1) (hB 1) (hA 2) (hB 2) (hA 3) (hB 3)
  · have h : i = 0 ∨ i = 1 ∨ i = 2 ∨ i = 3 ∨ i = 4 ∨ i = 5 ∨ i = 6 ∨ i = 7 := by omega
    rcases h with rfl | rfl | rfl | rfl | rfl | rfl | rfl | rfl
    · exact back8_0 A B (hA 0) (hB 0) (hA 1) (hB 1) (hA 2) (hB 2) (hA 3) (hB 3) (hA 4) (hB 4) (hA 5) (hB 5) (hA 6) (hB 6) (hA 7) (hB 7)
    · exact back8_1 A B (hA 0) (hB 0) (hA 1) (hB 1) (hA 2) (hB 2) (hA 3) (hB 3) (hA 4) (hB 4) (hA 5) (hB 5) (hA 6) (hB 6) (hA 7) (hB 7)
    · exact back8_2 A B (hA 0) (hB 0) (hA 1) (hB 1) (hA 2) (hB 2) (hA 3) (hB 3) (hA 4) (hB 4) (hA 5) (hB 5) (hA 6) (hB 6) (hA 7) (hB 7)
    · exact back8_3 A B (hA 0) (hB 0) (hA 1) (hB 1) (hA 2) (hB 2) (hA 3) (hB 3) (hA 4) (hB 4) (hA 5) (hB 5) (hA 6) (hB 6) (hA 7) (hB 7)
    · exact back8_4 A B (hA 0) (hB 0) (hA 1) (hB 1) (hA 2) (hB 2) (hA 3) (hB 3) (hA 4) (hB 4) (hA 5) (hB 5) (hA 6) (hB 6) (hA 7) (hB 7)
    · exact back8_5 A B (hA 0) (hB 0) (hA 1) (hB 1) (hA 2) (hB 2) (hA 3) (hB 3) (hA 4) (hB 4) (hA 5) (hB 5) (hA 6) (hB 6) (hA 7) (hB 7)
    · exact back8_6 A B (hA 0) (hB 0) (hA 1) (hB 1) (hA 2) (hB 2) (hA 3) (hB 3) (hA 4) (hB 4) (hA 5) (hB 5) (hA 6) (hB 6) (hA 7) (hB 7)
    · exact back8_7 A B (hA 0) (hB 0) (hA 1) (hB 1) (hA 2) (hB 2) (hA 3) (hB 3) (hA 4) (hB 4) (hA 5) (hB 5) (hA 6) (hB 6) (hA 7) (hB 7)
theorem quo_read (n : Nat) (hn : n = 1 ∨ n = 2 ∨ n = 4 ∨ n = 8) : ∃ t : Nat, t ≤ 3 ∧ ((2 ^ t : Nat) : Int) = (n : Int) ∧ Ieee.double.read (floatOfInt .f64 (n : Int)) = .number false (2 ^ 52) ((t : Int) - 52) := by
  rcases hn with rfl | rfl | rfl | rfl
  · exact ⟨0, by omega, rfl, by decide +kernel⟩
  · exact ⟨1, by omega, rfl, by decide +kernel⟩
  · exact ⟨2, by omega, rfl, by decide +kernel⟩
  · exact ⟨3, by omega, rfl, by decide +kernel⟩
theorem scaled_bd {a : Int} (h : -1000 ≤ a ∧ a ≤ 1000) : -(1000 * (4294967296 * E)) ≤ a * (4294967296 * E) ∧ a * (4294967296 * E) ≤ 1000 * (4294967296 * E) := by
  have hE := E_pos
  have h1 : a * (4294967296 * E) ≤ 1000 * (4294967296 * E) := Int.mul_le_mul_of_nonneg_right h.2 (by omega)
  have h2 : -1000 * (4294967296 * E) ≤ a * (4294967296 * E) := Int.mul_le_mul_of_nonneg_right h.1 (by omega)
  omega
theorem trn_getD (X : List (Nat × Nat)) (n : Nat) (hn : n = 1 ∨ n = 2 ∨ n = 4 ∨ n = 8) (hl : X.length = n) (b : Bool) : (trn b X).length = n ∧ ∀ j, j < n → (trn b X).getD j (0, 0) = sm b X j n := by
  have hg : good X.length = true := by rw [hl]; rcases hn with rfl | rfl | rfl | rfl <;> rfl
  unfold trn
  rw [hg, if_pos rfl, hl]
  exact ⟨by simp, fun j hj => by simp [hj]⟩
/-- The waves' numbers. -/
theorem waves_W (n : Nat) (hn : n = 1 ∨ n = 2 ∨ n = 4 ∨ n = 8) (X : List (Nat × Nat)) (hl : X.length = n) (a b : Nat → Int) (ha : ∀ t, -1000 ≤ a t ∧ a t ≤ 1000) (hb : ∀ t, -1000 ≤ b t ∧ b t ≤ 1000)
    (hX : ∀ t, t < n → X.getD t (0, 0) = (floatOfInt .f64 (a t), floatOfInt .f64 (b t))) :
    ∀ j : Nat, ∃ v : Int × Int, j < n → W (sm false X j n).1 v.1 ∧ W (sm false X j n).2 v.2 ∧
      (SR false n j (fun t => a t * (4294967296 * E)) (fun t => b t * (4294967296 * E)) n - (n : Int) * E * 36028797018963968 ≤ v.1 * 9007199254740992 ∧ v.1 * 9007199254740992 ≤ SR false n j (fun t => a t * (4294967296 * E)) (fun t => b t * (4294967296 * E)) n + (n : Int) * E * 36028797018963968) ∧
      (SI false n j (fun t => a t * (4294967296 * E)) (fun t => b t * (4294967296 * E)) n - (n : Int) * E * 36028797018963968 ≤ v.2 * 9007199254740992 ∧ v.2 * 9007199254740992 ≤ SI false n j (fun t => a t * (4294967296 * E)) (fun t => b t * (4294967296 * E)) n + (n : Int) * E * 36028797018963968) ∧
      (-(20000 * (4294967296 * E)) ≤ v.1 ∧ v.1 ≤ 20000 * (4294967296 * E)) ∧ (-(20000 * (4294967296 * E)) ≤ v.2 ∧ v.2 ≤ 20000 * (4294967296 * E)) := by
  intro j
  have hE := E_pos
  obtain ⟨vr, vi, w1, w2, e1, e2, b1, b2⟩ := sm_err false n j X hl (by omega) (fun t => a t * (4294967296 * E)) (fun t => b t * (4294967296 * E)) (1000 * (4294967296 * E)) (by omega) (by omega)
    (fun t ht => by
      rw [hX t ht]
      exact ⟨W.int _ (by have := ha t; omega), W.int _ (by have := hb t; omega), scaled_bd (ha t), scaled_bd (hb t)⟩) n (Nat.le_refl _)
  refine ⟨(vr, vi), fun _ => ⟨w1, w2, e1, e2, ?_, ?_⟩⟩
  · rcases hn with rfl | rfl | rfl | rfl <;> omega
  · rcases hn with rfl | rfl | rfl | rfl <;> omega
/-- What comes back is near. -/
theorem back_close (n : Nat) (hn : n = 1 ∨ n = 2 ∨ n = 4 ∨ n = 8) (X : List (Nat × Nat)) (hl : X.length = n) (a b : Nat → Int) (ha : ∀ t, -1000 ≤ a t ∧ a t ≤ 1000) (hb : ∀ t, -1000 ≤ b t ∧ b t ≤ 1000)
    (hX : ∀ t, t < n → X.getD t (0, 0) = (floatOfInt .f64 (a t), floatOfInt .f64 (b t))) (i : Nat) (hi : i < n) :
    ∃ vr vi, W ((wvs true (trn false X)).getD i (0, 0)).1 vr ∧ W ((wvs true (trn false X)).getD i (0, 0)).2 vi ∧
      (a i * (4294967296 * E) - 600 * E ≤ vr ∧ vr ≤ a i * (4294967296 * E) + 600 * E) ∧ (b i * (4294967296 * E) - 600 * E ≤ vi ∧ vi ≤ b i * (4294967296 * E) + 600 * E) := by
  have hE := E_pos
  obtain ⟨wv, hwv⟩ := Classical.axiomOfChoice (waves_W n hn X hl a b ha hb hX)
  obtain ⟨hWl, hWg⟩ := trn_getD X n hn hl false
  have hn8 : n ≤ 8 := by omega
  obtain ⟨vr, vi, w1, w2, e1, e2, b1, b2⟩ := sm_err true n i (trn false X) hWl hn8 (fun j => (wv j).1) (fun j => (wv j).2) (20000 * (4294967296 * E)) (by omega) (by omega)
    (fun t ht => by
      rw [hWg t ht]
      have h := hwv t ht
      exact ⟨h.1, h.2.1, h.2.2.2.2.1, h.2.2.2.2.2⟩) n (Nat.le_refl _)
  have hnE : (n : Int) * E ≤ 8 * E := Int.mul_le_mul_of_nonneg_right (by omega) (by omega)
  have nr := SR_near true n i (fun j => (wv j).1) (fun j => (wv j).2) (fun j => SR false n j (fun t => a t * (4294967296 * E)) (fun t => b t * (4294967296 * E)) n) (fun j => SI false n j (fun t => a t * (4294967296 * E)) (fun t => b t * (4294967296 * E)) n) (8 * E * 36028797018963968) n
    (fun t ht => by
      have h := hwv t ht
      have h1 := h.2.2.1
      have h2 := h.2.2.2.1
      constructor <;> constructor <;> (try simp only []) <;> omega)
  have hne : (n : Int) * (8 * E * 36028797018963968) ≤ 8 * (8 * E * 36028797018963968) := Int.mul_le_mul_of_nonneg_right (by omega) (by omega)
  have bk := backs n i hn hi (fun t => a t * (4294967296 * E)) (fun t => b t * (4294967296 * E)) (fun t => scaled_bd (ha t)) (fun t => scaled_bd (hb t))
  unfold BackOk at bk
  dsimp only at bk
  have sA := scaled_bd (ha i)
  have sB := scaled_bd (hb i)
  obtain ⟨t, ht3, ht, hrd⟩ := quo_read n hn
  have hfin : (wvs true (trn false X)).getD i (0, 0) = dv n (sm true (trn false X) i n) := by
    rw [wvs_dv, hWl]
    obtain ⟨h1, h2⟩ := trn_getD (trn false X) n hn hWl true
    rw [show (List.map (dv n) (trn true (trn false X))).getD i (0, 0) = dv n ((trn true (trn false X)).getD i (0, 0)) by simp [h1, hi], h2 i hi]
  rw [hfin]
  generalize SR true n i (fun j => (wv j).1) (fun j => (wv j).2) n = z1 at *
  generalize SI true n i (fun j => (wv j).1) (fun j => (wv j).2) n = z2 at *
  generalize SR true n i (fun j => SR false n j (fun t => a t * (4294967296 * E)) (fun t => b t * (4294967296 * E)) n) (fun j => SI false n j (fun t => a t * (4294967296 * E)) (fun t => b t * (4294967296 * E)) n) n = y1 at *
  generalize SI true n i (fun j => SR false n j (fun t => a t * (4294967296 * E)) (fun t => b t * (4294967296 * E)) n) (fun j => SI false n j (fun t => a t * (4294967296 * E)) (fun t => b t * (4294967296 * E)) n) n = y2 at *
  generalize a i * (4294967296 * E) = A at *
  generalize b i * (4294967296 * E) = B at *
  clear hwv hX hWg hfin
  -- the sums, far from nothing by little
  have s1 : (n : Int) * A - 545 * E ≤ vr ∧ vr ≤ (n : Int) * A + 545 * E := by
    generalize (n : Int) * (8 * E * 36028797018963968) = Ne at *
    generalize (n : Int) * E = NE at *
    rcases hn with rfl | rfl | rfl | rfl <;> omega
  have s2 : (n : Int) * B - 545 * E ≤ vi ∧ vi ≤ (n : Int) * B + 545 * E := by
    generalize (n : Int) * (8 * E * 36028797018963968) = Ne at *
    generalize (n : Int) * E = NE at *
    rcases hn with rfl | rfl | rfl | rfl <;> omega
  have l1 : Lim vr := by unfold Lim; rcases hn with rfl | rfl | rfl | rfl <;> omega
  have l2 : Lim vi := by unfold Lim; rcases hn with rfl | rfl | rfl | rfl <;> omega
  obtain ⟨q1, v1, c1, g1, n1⟩ := w1.quo ht3 hrd l1
  obtain ⟨q2, v2, c2, g2, n2⟩ := w2.quo ht3 hrd l2
  rw [ht] at c1 c2
  unfold Near at n1 n2
  refine ⟨v1, v2, g1, g2, ?_, ?_⟩
  · clear bk nr e1 e2 hne hnE
    rcases hn with rfl | rfl | rfl | rfl <;> omega
  · clear bk nr e1 e2 hne hnE
    rcases hn with rfl | rfl | rfl | rfl <;> omega
end Go.Proofs.YtnldjdpophkkcaaDoor.WavesPure
