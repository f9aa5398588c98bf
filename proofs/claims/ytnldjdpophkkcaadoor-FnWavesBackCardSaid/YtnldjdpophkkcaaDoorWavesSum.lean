/- The plain law behind FnWavesBack: the first wave is the sum; the tests are passed. Plain. -/
import Derived.Test.YtnldjdpophkkcaaDoorWavesBack
namespace Go.Proofs.YtnldjdpophkkcaaDoor.WavesPure
open Go.Proofs.YtnldjdpophkkcaaDoor.Fl Go.Proofs.YtnldjdpophkkcaaDoor.Rnd Go.Proofs.YtnldjdpophkkcaaDoor.PFnExactWaves
set_option linter.unusedVariables false
set_option linter.unusedSimpArgs false
/-- The word stands for the whole number n. -/
def Rp (x : Nat) (n : Int) : Prop := W x (n * (4294967296 * E))
theorem lim_of {n : Int} (h : -1048576 ≤ n ∧ n ≤ 1048576) : Lim (n * (4294967296 * E)) := by
  have hE := E_pos
  have h1 : n * (4294967296 * E) ≤ 1048576 * (4294967296 * E) := Int.mul_le_mul_of_nonneg_right h.2 (by omega)
  have h2 : -1048576 * (4294967296 * E) ≤ n * (4294967296 * E) := Int.mul_le_mul_of_nonneg_right h.1 (by omega)
  unfold Lim
  omega
theorem Rp.int (n : Int) (h : n.natAbs < 2 ^ 53) : Rp (floatOfInt .f64 n) n := W.int n h
theorem Rp.add {x y : Nat} {a b : Int} (hx : Rp x a) (hy : Rp y b) (h : -1048576 ≤ a + b ∧ a + b ≤ 1048576) : Rp (fo .add x y) (a + b) := by
  unfold Rp at hx hy ⊢
  have e : a * (4294967296 * E) + b * (4294967296 * E) = (a + b) * (4294967296 * E) := by rw [Int.add_mul]
  obtain ⟨r, v', h1, h2, _, h3⟩ := bits_add (Nat.le_refl 3000) hx hy (by rw [e]; exact (lim_of h).lt)
  have h4 := h3 (a + b) (by omega) (by rw [e, one_E])
  rw [h4, e] at h2
  unfold fo
  rw [h1]
  exact h2
theorem Rp.sub {x y : Nat} {a b : Int} (hx : Rp x a) (hy : Rp y b) (h : -1048576 ≤ a - b ∧ a - b ≤ 1048576) : Rp (fo .sub x y) (a - b) := by
  unfold Rp at hx hy ⊢
  have e : a * (4294967296 * E) - b * (4294967296 * E) = (a - b) * (4294967296 * E) := by rw [Int.sub_mul]
  obtain ⟨r, v', h1, h2, _, h3⟩ := bits_sub (Nat.le_refl 3000) hx hy (by rw [e]; exact (lim_of h).lt)
  have h4 := h3 (a - b) (by omega) (by rw [e, one_E])
  rw [h4, e] at h2
  unfold fo
  rw [h1]
  exact h2
theorem Rp.mul {x y : Nat} {a b : Int} (hx : Rp x a) (hy : Rp y b) (h : -1048576 ≤ a * b ∧ a * b ≤ 1048576) : Rp (fo .mul x y) (a * b) := by
  unfold Rp at hx hy ⊢
  have e : a * b * (4294967296 * E) * ((2 ^ 3000 : Nat) : Int) = a * (4294967296 * E) * (b * (4294967296 * E)) := by
    rw [one_E]
    generalize 4294967296 * E = P
    rw [Int.mul_assoc, Int.mul_assoc, Int.mul_assoc, Int.mul_left_comm b P]
  obtain ⟨r, v', h1, h2, _, h3⟩ := bits_mul (Nat.le_refl 3000) hx hy (p := a * b * (4294967296 * E)) e (lim_of h).lt
  have h4 := h3 (a * b) (by omega) (by rw [one_E])
  rw [h4] at h2
  unfold fo
  rw [h1]
  exact h2
theorem Rp.of_same {r x : Nat} {n : Int} (h : Rp x n) (hs : Same r x) : Rp r n := by
  rcases hs with e | ⟨_, e⟩
  · rw [e]; exact h
  · exact absurd e (W.num h)
theorem W.of_same {r x : Nat} {v : Int} (h : W x v) (hs : Same r x) : W r v := by
  rcases hs with e | ⟨_, e⟩
  · rw [e]; exact h
  · exact absurd e (W.num h)
theorem Rp.eq_order {x y : Nat} {n : Int} (hx : Rp x n) (hy : Rp y n) : FloatKind.f64.format.order x y = some .eq := by
  rw [W.order hx hy, Int.compare_eq_eq.2 rfl]
/-- The sum of the first ones. -/
def su (a : Nat → Int) : Nat → Int
  | 0 => 0
  | k + 1 => su a k + a k
theorem su_bd (a : Nat → Int) (ha : ∀ t, -1000 ≤ a t ∧ a t ≤ 1000) : ∀ k : Nat, -(1000 * (k : Int)) ≤ su a k ∧ su a k ≤ 1000 * (k : Int)
  | 0 => by simp [su]
  | k + 1 => by
    have h1 := su_bd a ha k
    have h2 := ha k
    unfold su
    omega
theorem zero_Rp : Rp 0 0 := by
  have h := Rp.int 0 (by decide)
  rw [show floatOfInt .f64 0 = 0 by decide +kernel] at h
  exact h
theorem one_Rp : Rp 4607182418800017408 1 := by
  have h := Rp.int 1 (by decide)
  rw [show floatOfInt .f64 1 = 4607182418800017408 by decide +kernel] at h
  exact h
/-- The first wave is the sum. -/
theorem first_sum (n : Nat) (hn8 : n ≤ 8) (X : List (Nat × Nat)) (hl : X.length = n) (a b : Nat → Int) (ha : ∀ t, -1000 ≤ a t ∧ a t ≤ 1000) (hb : ∀ t, -1000 ≤ b t ∧ b t ≤ 1000)
    (hX : ∀ t, t < n → X.getD t (0, 0) = (floatOfInt .f64 (a t), floatOfInt .f64 (b t))) : ∀ k : Nat, k ≤ n → Rp (sm false X 0 k).1 (su a k) ∧ Rp (sm false X 0 k).2 (su b k)
  | 0 => fun _ => ⟨zero_Rp, zero_Rp⟩
  | k + 1 => fun hk => by
    obtain ⟨h1, h2⟩ := first_sum n hn8 X hl a b ha hb hX k (by omega)
    have a1 := su_bd a ha (k + 1)
    have b1 := su_bd b hb (k + 1)
    have a2 := ha k
    have b2 := hb k
    have e0 : ix false X.length 0 k = 0 := by unfold ix; simp
    unfold su at a1 b1 ⊢
    unfold sm
    rw [e0, hX k (by omega)]
    have fa := Rp.int (a k) (by omega)
    have fb := Rp.int (b k) (by omega)
    have m1 := Rp.mul fa one_Rp (by omega)
    have m2 := Rp.mul fb zero_Rp (by omega)
    have m3 := Rp.mul fa zero_Rp (by omega)
    have m4 := Rp.mul fb one_Rp (by omega)
    rw [Int.mul_one] at m1 m4
    rw [Int.mul_zero] at m2 m3
    have p1 := Rp.sub m1 m2 (by omega)
    have p2 := Rp.add m3 m4 (by omega)
    rw [Int.sub_zero] at p1
    rw [Int.zero_add] at p2
    exact ⟨Rp.add h1 p1 (by omega), Rp.add h2 p2 (by omega)⟩
theorem milli : W 4517329193108106637 (4722366482869645 * ((2 ^ 2928 : Nat) : Int)) := by
  have h : Ieee.double.read 4517329193108106637 = .number false 4722366482869645 (-72) := by decide +kernel
  have h2 := val_of_read (S := 3000) h
  have e : ev 3000 false 4722366482869645 (-72) = 4722366482869645 * ((2 ^ 2928 : Nat) : Int) := by
    show ((mv 3000 4722366482869645 (-72) : Nat) : Int) = _
    rw [mv_cast _ (-72) 2928 (by decide)]
    generalize ((2 ^ 2928 : Nat) : Int) = G
    omega
  rw [e] at h2
  exact h2
theorem mmilli : W 13740701229962882445 (-4722366482869645 * ((2 ^ 2928 : Nat) : Int)) := by
  have h : Ieee.double.read 13740701229962882445 = .number true 4722366482869645 (-72) := by decide +kernel
  have h2 := val_of_read (S := 3000) h
  have e : ev 3000 true 4722366482869645 (-72) = -4722366482869645 * ((2 ^ 2928 : Nat) : Int) := by
    show -((mv 3000 4722366482869645 (-72) : Nat) : Int) = _
    rw [mv_cast _ (-72) 2928 (by decide)]
    generalize ((2 ^ 2928 : Nat) : Int) = G
    omega
  rw [e] at h2
  exact h2
theorem E_split : E = 1099511627776 * ((2 ^ 2928 : Nat) : Int) := by
  unfold E
  have h := pow_cast 40 2928 2968 rfl
  rw [show ((2 ^ 40 : Nat) : Int) = 1099511627776 from rfl] at h
  exact h
/-- Little enough. -/
theorem little {x : Nat} {v : Int} (hx : W x v) (h : -(4000 * E) ≤ v ∧ v ≤ 4000 * E) : (FloatKind.f64.format.order x 4517329193108106637 == some .gt) = false ∧ (FloatKind.f64.format.order x 13740701229962882445 == some .lt) = false := by
  have hE := E_pos
  have hs := E_split
  have h1 := W.order hx milli
  have h2 := W.order hx mmilli
  generalize ((2 ^ 2928 : Nat) : Int) = G at *
  rw [h1, h2, Int.compare_eq_lt.2 (by omega), Int.compare_eq_gt.2 (by omega)]
  exact ⟨rfl, rfl⟩
/-- A number that comes back passes the test. -/
theorem passes {bw : Nat} {vr a : Int} (ha : -1000 ≤ a ∧ a ≤ 1000) (hb : W bw vr) (h : a * (4294967296 * E) - 600 * E ≤ vr ∧ vr ≤ a * (4294967296 * E) + 600 * E) (r : Nat) (hr : Same r (fo .sub bw (floatOfInt .f64 a))) :
    (FloatKind.f64.format.order r 4517329193108106637 == some .gt) = false ∧ (FloatKind.f64.format.order r 13740701229962882445 == some .lt) = false := by
  have hE := E_pos
  have hf := W.int a (by omega)
  generalize a * (4294967296 * E) = A at *
  obtain ⟨v', w1, n1⟩ := hb.sub hf (by unfold Lim; omega)
  unfold Near at n1
  exact little (W.of_same w1 hr) (by omega)
/-- Rows that are one up to NaN, of which one has none, are one. -/
theorem sp_eq {xs ys : List (Nat × Nat)} (h : SP xs ys) (hn : ∀ i, i < ys.length → ¬ NaN (ys.getD i (0, 0)).1 ∧ ¬ NaN (ys.getD i (0, 0)).2) : xs = ys := by
  apply List.ext_getElem h.len
  intro i h1 h2
  have hv := h.val i
  have hi := hn i h2
  have e1 : xs.getD i (0, 0) = xs[i] := by simp [h1]
  have e2 : ys.getD i (0, 0) = ys[i] := by simp [h2]
  rw [e1, e2] at hv
  rw [e2] at hi
  refine Prod.ext ?_ ?_
  · rcases hv.1 with e | ⟨_, e⟩
    · exact e
    · exact absurd e hi.1
  · rcases hv.2 with e | ⟨_, e⟩
    · exact e
    · exact absurd e hi.2
/-- All that the law asks of the waves ws and of what comes back bs. -/
theorem all_ok (n : Nat) (hn : n = 1 ∨ n = 2 ∨ n = 4 ∨ n = 8) (X : List (Nat × Nat)) (hl : X.length = n) (a b : Nat → Int) (ha : ∀ t, -1000 ≤ a t ∧ a t ≤ 1000) (hb : ∀ t, -1000 ≤ b t ∧ b t ≤ 1000)
    (hX : ∀ t, t < n → X.getD t (0, 0) = (floatOfInt .f64 (a t), floatOfInt .f64 (b t))) (ws : List (Nat × Nat)) (hws : SP ws (trn false X)) :
    ws.length = n ∧ (Rp (ws.getD 0 (0, 0)).1 (su a n) ∧ Rp (ws.getD 0 (0, 0)).2 (su b n)) ∧
    ∀ bs, SP bs (wvs true ws) → bs.length = n ∧ ∀ i, i < n → (∀ r, Same r (fo .sub (bs.getD i (0, 0)).1 (floatOfInt .f64 (a i))) → (FloatKind.f64.format.order r 4517329193108106637 == some .gt) = false ∧ (FloatKind.f64.format.order r 13740701229962882445 == some .lt) = false) ∧
      (∀ r, Same r (fo .sub (bs.getD i (0, 0)).2 (floatOfInt .f64 (b i))) → (FloatKind.f64.format.order r 4517329193108106637 == some .gt) = false ∧ (FloatKind.f64.format.order r 13740701229962882445 == some .lt) = false) := by
  obtain ⟨hWl, hWg⟩ := trn_getD X n hn hl false
  have hnum := waves_W n hn X hl a b ha hb hX
  have e : ws = trn false X := sp_eq hws (fun i hi => by
    rw [hWg i (by omega)]
    obtain ⟨v, hv⟩ := hnum i
    have h := hv (by omega)
    exact ⟨W.num h.1, W.num h.2.1⟩)
  subst e
  refine ⟨hWl, ?_, fun bs hbs => ?_⟩
  · rw [hWg 0 (by omega)]
    exact first_sum n (by omega) X hl a b ha hb hX n (Nat.le_refl _)
  · have hbl : bs.length = n := by
      rw [hbs.len, wvs_dv, List.length_map]
      exact (trn_getD (trn false X) n hn hWl true).1
    refine ⟨hbl, fun i hi => ?_⟩
    obtain ⟨vr, vi, w1, w2, c1, c2⟩ := back_close n hn X hl a b ha hb hX i hi
    have hv := hbs.val i
    exact ⟨passes (ha i) (W.of_same w1 hv.1) c1, passes (hb i) (W.of_same w2 hv.2) c2⟩
end Go.Proofs.YtnldjdpophkkcaaDoor.WavesPure
