/- Proved: the plain law behind FnExactPlainCube: whatever the draw, it answers true. No condition. -/
import Derived.Test.YtdfhhnepodnioaaPFnExactPlainCubex4
namespace Go.Proofs.Ytdfhhnepodnioaa.Pure
open Go.RowKit Go.Proofs.Ytdfhhnepodnioaa.PFnExactPlainCube Go.Proofs.YtdfhhnepodnioaaW.PrintWords Go.Proofs.YtdfhhnepodnioaaW.PrintLast

set_option linter.unusedVariables false
set_option linter.unusedSimpArgs false

theorem run_to {α : Type} (F : Nat → Int → Option α) (n : Int) (r : α) (step : ∀ k i, 0 ≤ i → i < n → F (k + 1) i = F k (i + 1)) (stop : ∀ k, F (k + 1) n = some r) :
    ∀ (d k : Nat) (i : Int), 0 ≤ i → i ≤ n → n - i = d → d < k → F k i = some r := by
  intro d
  induction d with
  | zero =>
    intro k i h0 h1 hd hk
    obtain ⟨k, rfl⟩ : ∃ m, k = m + 1 := ⟨k - 1, by omega⟩
    obtain rfl : i = n := by omega
    exact stop k
  | succ d ih =>
    intro k i h0 h1 hd hk
    obtain ⟨k, rfl⟩ : ∃ m, k = m + 1 := ⟨k - 1, by omega⟩
    rw [step k i h0 (by omega)]
    exact ih k (i + 1) (by omega) (by omega) (by omega) (by omega)

theorem set_to {α β : Type} (F : Nat → List β → Int → Option (List β)) (l : List α) (conv : α → β)
    (step : ∀ k acc i x, 0 ≤ i → l[i.toNat]? = some x → acc.length = l.length → F (k + 1) acc i = F k (acc.set i.toNat (conv x)) (i + 1)) (stop : ∀ k acc, F (k + 1) acc (l.length : Int) = some acc) :
    ∀ (d k : Nat) (acc : List β) (i : Int), 0 ≤ i → i ≤ l.length → (l.length : Int) - i = d → d < k → acc.length = l.length → F k acc i = some (acc.take i.toNat ++ (l.drop i.toNat).map conv) := by
  intro d
  induction d with
  | zero =>
    intro k acc i h0 h1 hd hk ha
    obtain ⟨k, rfl⟩ : ∃ m, k = m + 1 := ⟨k - 1, by omega⟩
    obtain rfl : i = (l.length : Int) := by omega
    rw [stop k]
    simp [← ha]
  | succ d ih =>
    intro k acc i h0 h1 hd hk ha
    obtain ⟨k, rfl⟩ : ∃ m, k = m + 1 := ⟨k - 1, by omega⟩
    have hlt : i.toNat < l.length := by omega
    have hx : l[i.toNat]? = some l[i.toNat] := List.getElem?_eq_getElem hlt
    rw [step k acc i _ h0 hx ha, ih k _ (i + 1) (by omega) (by omega) (by omega) (by omega) (by simpa using ha)]
    have e : (i + 1).toNat = i.toNat + 1 := by omega
    rw [e]
    congr 1
    rw [List.take_succ_eq_append_getElem (by simp; omega)]
    rw [List.drop_eq_getElem_cons hlt, List.map_cons, List.getElem_set_self, List.take_set_of_le (Nat.le_refl _), List.append_assoc]
    rfl

theorem rd63 (l : List S63) (i : Int) (x : S63) (h : l[i.toNat]? = some x) : rd_T63 l i = x := by
  unfold rd_T63
  rw [List.getD_eq_getElem?_getD, h]
  rfl

theorem eq_rgbs (l : List S63) (hl : l.length ≤ 1048576) (k : Nat) (hk : 1048577 ≤ k) : laws_eqRgbS.f k l l = some true := by
  unfold laws_eqRgbS.f
  rw [if_pos rfl]
  exact run_to (fun k i => laws_eqRgbS.l0 k l l i) (l.length : Int) true (by
    intro k i h0 h1
    simp only [laws_eqRgbS.l0]
    rw [if_pos h1, if_pos h0, if_pos h1]
    unfold laws_eqRgb.f
    have hw : wrap64 (i + 1) = i + 1 := by unfold wrap64; omega
    simp [hw]) (by
    intro k
    simp only [laws_eqRgbS.l0]
    rw [if_neg (by omega)]) l.length k 0 (by omega) (by omega) (by omega) (by omega)

/-- The mark at a place. -/
def mk3 (j : Nat) : S63 := ⟨1 + 3 * (j : Int), 2 + 3 * (j : Int), 3 + 3 * (j : Int)⟩

theorem rd_set3 (l : List S63) (i : Int) (v : S63) (h : i.toNat < l.length) : rd_T63 (l.set i.toNat v) i = v := rd63 _ _ _ (List.getElem?_set_self h)

theorem mark_run3 (n : Nat) (hn : n ≤ 1048576) : ∀ (d k i : Nat) (l : List S63), l.length = n → n - i = d → i ≤ n → d < k → (∀ j, j < i → l[j]? = some (mk3 j)) →
    ∃ out, laws_markRgbS.l0 k l (1 + 3 * (i : Int)) (i : Int) = some (1 + 3 * (n : Int), out) ∧ out.length = n ∧ ∀ j, j < n → out[j]? = some (mk3 j) := by
  intro d
  induction d with
  | zero =>
    intro k i l hl hd hi hk hm
    obtain ⟨k, rfl⟩ : ∃ m, k = m + 1 := ⟨k - 1, by omega⟩
    obtain rfl : i = n := by omega
    refine ⟨l, ?_, hl, hm⟩
    simp only [laws_markRgbS.l0]
    rw [if_neg (by omega)]
  | succ d ih =>
    intro k i l hl hd hi hk hm
    obtain ⟨k, rfl⟩ : ∃ m, k = m + 1 := ⟨k - 1, by omega⟩
    have wr : ∀ a : Int, -9223372036854775808 ≤ a → a ≤ 9223372036854775807 → wrap64 a = a := fun a _ _ => by unfold wrap64; omega
    have hin : ((i : Int)).toNat = i := by omega
    simp only [laws_markRgbS.l0]
    rw [if_pos (by omega), if_pos (by omega)]
    simp only [Option.bind_some]
    rw [wr (1 + 3 * (i : Int) + 1) (by omega) (by omega), wr (1 + 3 * (i : Int) + 1 + 1) (by omega) (by omega), wr (1 + 3 * (i : Int) + 1 + 1 + 1) (by omega) (by omega), wr ((i : Int) + 1) (by omega) (by omega)]
    have L1 : (i : Int).toNat < l.length := by omega
    simp only [rd_set3 l (i : Int) _ L1, List.set_set]
    have e : (⟨1 + 3 * (i : Int), 1 + 3 * (i : Int) + 1, 1 + 3 * (i : Int) + 1 + 1⟩ : S63) = mk3 i := by
      unfold mk3
      congr 1 <;> omega
    rw [e, hin]
    have := ih k (i + 1) (l.set i (mk3 i)) (by simpa using hl) (by omega) (by omega) (by omega) (fun j hj => by
      by_cases q : j = i
      · subst q
        exact List.getElem?_set_self (by omega)
      · rw [List.getElem?_set_ne (fun h => q h.symm)]
        exact hm j (by omega))
    rw [show (1 + 3 * ((i + 1 : Nat) : Int)) = 1 + 3 * (i : Int) + 1 + 1 + 1 by omega, show ((i + 1 : Nat) : Int) = (i : Int) + 1 by omega] at this
    exact this

theorem held_run3 (n : Nat) (hn : n ≤ 1048576) (l : List S63) (hl : l.length = n) (hm : ∀ j, j < n → l[j]? = some (mk3 j)) : ∀ (d k i : Nat), n - i = d → i ≤ n → d < k →
    laws_heldRgbS.l0 k l (1 + 3 * (i : Int)) (i : Int) = some (1 + 3 * (n : Int)) := by
  intro d
  induction d with
  | zero =>
    intro k i hd hi hk
    obtain ⟨k, rfl⟩ : ∃ m, k = m + 1 := ⟨k - 1, by omega⟩
    obtain rfl : i = n := by omega
    simp only [laws_heldRgbS.l0]
    rw [if_neg (by omega)]
  | succ d ih =>
    intro k i hd hi hk
    obtain ⟨k, rfl⟩ : ∃ m, k = m + 1 := ⟨k - 1, by omega⟩
    have wr : ∀ a : Int, -9223372036854775808 ≤ a → a ≤ 9223372036854775807 → wrap64 a = a := fun a _ _ => by unfold wrap64; omega
    have hr : rd_T63 l (i : Int) = mk3 i := rd63 l _ _ (by rw [show ((i : Int)).toNat = i by omega]; exact hm i (by omega))
    simp only [laws_heldRgbS.l0]
    rw [if_pos (by omega), if_pos (by omega), hr, wr (1 + 3 * (i : Int) + 1) (by omega) (by omega), wr (1 + 3 * (i : Int) + 1 + 1) (by omega) (by omega), wr (1 + 3 * (i : Int) + 1 + 1 + 1) (by omega) (by omega), wr ((i : Int) + 1) (by omega) (by omega)]
    unfold mk3
    rw [if_pos (by show (1 + 3 * (i : Int)) = _; omega), if_pos (by show (2 + 3 * (i : Int)) = _; omega), if_pos (by show (3 + 3 * (i : Int)) = _; omega)]
    have := ih k (i + 1) (by omega) (by omega) (by omega)
    rw [show (1 + 3 * ((i + 1 : Nat) : Int)) = 1 + 3 * (i : Int) + 1 + 1 + 1 by omega, show ((i + 1 : Nat) : Int) = (i : Int) + 1 by omega] at this
    exact this

theorem mark_held3 (l : List S63) (hn : l.length ≤ 1048576) (k : Nat) (hk : 1048577 ≤ k) : ∃ out, laws_markRgbS.f k l 1 = some (1 + 3 * (l.length : Int), out) ∧ ∀ k', 1048577 ≤ k' → laws_heldRgbS.f k' out 1 = some (1 + 3 * (l.length : Int)) := by
  obtain ⟨out, a, b, c⟩ := mark_run3 l.length hn l.length k 0 l rfl (by omega) (by omega) (by omega) (fun j hj => by omega)
  refine ⟨out, a, fun k' hk' => ?_⟩
  exact held_run3 l.length hn out b c l.length k' 0 (by omega) (by omega) (by omega)

theorem spec_pc (n p : Nat) (hn : 2 ≤ n) (hn9 : n ≤ 9) (hp : p < 10000) : spec_l9Round.f ((p : Int) * 65535) ((n : Int) - 1) = some (pcq n p) := by
  have w1 : wrap64 (2 * ((p : Int) * 65535)) = 2 * ((p : Int) * 65535) := by unfold wrap64; omega
  have w2 : wrap64 (2 * ((p : Int) * 65535) + ((n : Int) - 1)) = ((2 * (p * 65535) + (n - 1) : Nat) : Int) := by unfold wrap64; omega
  have w3 : wrap64 (2 * ((n : Int) - 1)) = ((2 * (n - 1) : Nat) : Int) := by unfold wrap64; omega
  unfold spec_l9Round.f
  rw [w1, w2, w3]
  unfold spec_l8Down.f
  generalize hA : 2 * (p * 65535) + (n - 1) = A
  generalize hB : 2 * (n - 1) = B
  have hB0 : B ≠ 0 := by omega
  rw [if_neg (by omega), Int.tmod_eq_emod_of_nonneg (by omega), if_neg (by have := Int.emod_nonneg (A : Int) (by omega : (B : Int) ≠ 0); omega)]
  have hq : Int.tdiv (A : Int) (B : Int) = ((A / B : Nat) : Int) := by rw [Int.tdiv_eq_ediv_of_nonneg (by omega)]; rfl
  rw [hq]
  have hle : A / B ≤ A := Nat.div_le_self _ _
  unfold pcq
  rw [hA, hB]
  generalize A / B = Q at *
  have w4 : wrap64 (Q : Int) = (Q : Int) := by unfold wrap64; omega
  rw [w4]
  rfl

theorem plain_run (n : Nat) (hn : 2 ≤ n) (hn9 : n ≤ 9) (N : Nat) (hN : N = n * n * n) (hN9 : N ≤ 729) (hnn : n * n ≤ 81) : ∀ (d k i : Nat), N - i = d → i ≤ N → d < k →
    spec_PlainCube.l0 k (n : Int) (((List.range N).map (pce n)).take i) (i : Int) = some ((List.range N).map (pce n)) := by
  have wr : ∀ a : Int, -9223372036854775808 ≤ a → a ≤ 9223372036854775807 → wrap64 a = a := fun a _ _ => by unfold wrap64; omega
  have hcube : wrap64 (wrap64 ((n : Int) * (n : Int)) * (n : Int)) = (N : Int) := by
    rw [show (n : Int) * (n : Int) = ((n * n : Nat) : Int) by push_cast; rfl, wr ((n * n : Nat) : Int) (by omega) (by omega), show ((n * n : Nat) : Int) * (n : Int) = (N : Int) by rw [hN]; push_cast; rfl, wr (N : Int) (by omega) (by omega)]
  intro d
  induction d with
  | zero =>
    intro k i hd hi hk
    obtain ⟨k, rfl⟩ : ∃ m, k = m + 1 := ⟨k - 1, by omega⟩
    simp only [spec_PlainCube.l0]
    rw [hcube, if_neg (by omega), List.take_of_length_le (by simp; omega)]
  | succ d ih =>
    intro k i hd hi hk
    obtain ⟨k, rfl⟩ : ∃ m, k = m + 1 := ⟨k - 1, by omega⟩
    simp only [spec_PlainCube.l0]
    have wn : ∀ m : Nat, m ≤ 1000000 → wrap64 (m : Int) = (m : Int) := fun m _ => wr _ (by omega) (by omega)
    have q1 : wrap64 (Int.tdiv (i : Int) (n : Int)) = ((i / n : Nat) : Int) := by
      rw [Int.tdiv_eq_ediv_of_nonneg (Int.natCast_nonneg _), show (i : Int) / (n : Int) = ((i / n : Nat) : Int) from rfl]
      exact wn _ (Nat.le_trans (Nat.div_le_self i n) (by omega))
    have q2 : wrap64 (Int.tdiv ((i / n : Nat) : Int) (n : Int)) = ((i / (n * n) : Nat) : Int) := by
      rw [Int.tdiv_eq_ediv_of_nonneg (Int.natCast_nonneg _), show ((i / n : Nat) : Int) / (n : Int) = ((i / n / n : Nat) : Int) from rfl, Nat.div_div_eq_div_mul]
      exact wn _ (Nat.le_trans (Nat.div_le_self i (n * n)) (by omega))
    have q3 : Int.tmod ((i / n : Nat) : Int) (n : Int) = ((i / n % n : Nat) : Int) := by
      rw [Int.tmod_eq_emod_of_nonneg (Int.natCast_nonneg _)]; rfl
    have q4 : Int.tmod (i : Int) (n : Int) = ((i % n : Nat) : Int) := by
      rw [Int.tmod_eq_emod_of_nonneg (Int.natCast_nonneg _)]; rfl
    have b1 : i / (n * n) < 10000 := Nat.lt_of_le_of_lt (Nat.div_le_self i (n * n)) (by omega)
    have b2 : i / n % n < 10000 := Nat.lt_trans (Nat.mod_lt (i / n) (show n > 0 by omega)) (by omega)
    have b3 : i % n < 10000 := Nat.lt_trans (Nat.mod_lt i (show n > 0 by omega)) (by omega)
    have wm : ∀ m : Nat, m < 10000 → wrap64 ((m : Int) * 65535) = (m : Int) * 65535 := fun m _ => wr _ (by omega) (by omega)
    rw [hcube, if_pos (by omega), if_neg (by omega), q1, q2, q3, q4, wr ((n : Int) - 1) (by omega) (by omega), wm _ b1, wm _ b2, wm _ b3,
      spec_pc n _ hn hn9 b1, spec_pc n _ hn hn9 b2, spec_pc n _ hn hn9 b3]
    simp only [Option.bind_some]
    rw [if_pos (by rw [List.length_take, List.length_map, List.length_range]; omega), wr ((i : Int) + 1) (by omega) (by omega)]
    have ht : ((List.range N).map (pce n)).take i ++ [(⟨pcq n (i / (n * n)), pcq n (i / n % n), pcq n (i % n)⟩ : S63)] = ((List.range N).map (pce n)).take (i + 1) := by
      rw [List.take_succ_eq_append_getElem (by rw [List.length_map, List.length_range]; omega)]
      simp only [List.getElem_map, List.getElem_range]
      rfl
    rw [ht, show (i : Int) + 1 = ((i + 1 : Nat) : Int) by omega]
    exact ih k (i + 1) (by omega) (by omega) (by omega)

theorem cube_le (n : Nat) (hn9 : n ≤ 9) : n * n ≤ 81 ∧ n * n * n ≤ 729 := by
  have a : n * n ≤ 9 * 9 := Nat.mul_le_mul hn9 hn9
  have b : n * n * n ≤ 9 * 9 * 9 := Nat.mul_le_mul a hn9
  exact ⟨a, b⟩

theorem plain_eq (a : Int) (k : Nat) (hk : 1000 ≤ k) : ∃ r : List S63, spec_PlainCube.f k a = some r ∧ impl_PlainCube.f a = some r ∧ r.length ≤ 729 := by
  unfold spec_PlainCube.f impl_PlainCube.f spec_l1In.f
  simp only [Option.bind_some]
  by_cases c : 2 ≤ a ∧ a ≤ 9
  · obtain ⟨n, rfl⟩ : ∃ n : Nat, a = (n : Int) := ⟨a.toNat, by omega⟩
    have hc := cube_le n (by omega)
    rw [if_pos c, if_pos (by omega)]
    simp only [Option.bind_some]
    rw [if_pos (by simpa using c.2), Int.toNat_natCast]
    have h := plain_run n (by omega) (by omega) (n * n * n) rfl hc.2 hc.1 (n * n * n) k 0 (by omega) (by omega) (by omega)
    exact ⟨_, h, rfl, by simpa using hc.2⟩
  · rw [if_neg c]
    refine ⟨[], ?_, rfl, by simp⟩
    by_cases c1 : a ≥ 2
    · rw [if_pos c1]
      simp only [Option.bind_some]
      rw [if_neg (by simp; omega)]
    · rw [if_neg c1]
      rfl

theorem FnExactPlainCube : laws_FnExactPlainCube.Pure := by
  intro a0 _
  obtain ⟨k, hk⟩ : ∃ k, k = 1048577 := ⟨_, rfl⟩
  refine ⟨k, ?_⟩
  unfold laws_FnExactPlainCube.f
  obtain ⟨r, h1, h2, h3⟩ := plain_eq a0 k (by omega)
  rw [h1, h2]
  simp only [Option.bind_some]
  rw [eq_rgbs r (by omega) k (by omega)]
  simp only [Option.bind_some, if_true]
  obtain ⟨o, m1, m2⟩ := mark_held3 r (by omega) k (by omega)
  rw [m1]
  simp only [Option.bind_some]
  rw [m2 k (by omega)]
  simp only [Option.bind_some]
  rw [if_neg (by omega)]
  simp only [if_true]
  rw [if_neg (by omega)]

end Go.Proofs.Ytdfhhnepodnioaa.Pure
