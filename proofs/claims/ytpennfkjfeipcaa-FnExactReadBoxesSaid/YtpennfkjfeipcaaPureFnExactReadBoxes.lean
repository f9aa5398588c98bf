/- Proved: the plain law behind FnExactReadBoxes. No condition. -/
import Derived.Test.YtpennfkjfeipcaaPFnExactReadBoxesx7
namespace Go.Proofs.Ytpennfkjfeipcaa.Pure
open Go.RowKit Go.Proofs.Ytpennfkjfeipcaa.PFnExactReadBoxes Go.Proofs.YtpennfkjfeipcaaW.PrintWords Go.Proofs.YtpennfkjfeipcaaW.PrintLast

set_option linter.unusedVariables false
set_option linter.unusedSimpArgs false

theorem run_to {α : Type} (F : Nat → Int → Option α) (n : Int) (r : α) (step : ∀ k i, 0 ≤ i → i < n → F (k + 1) i = F k (i + 1)) (stop : ∀ k, F (k + 1) n = some r) :
    ∀ (d k : Nat) (i : Int), 0 ≤ i → i ≤ n → n - i = d → d < k → F k i = some r := by
  intro d
  induction d with
  | zero =>
    intro k i h0 h1 hd hk
    obtain ⟨k, rfl⟩ : ∃ m, k = m + 1 := ⟨k - 1, by omega⟩
    obtain rfl : i = n := by omega
    exact stop k
  | succ d ih =>
    intro k i h0 h1 hd hk
    obtain ⟨k, rfl⟩ : ∃ m, k = m + 1 := ⟨k - 1, by omega⟩
    rw [step k i h0 (by omega)]
    exact ih k (i + 1) (by omega) (by omega) (by omega) (by omega)

theorem set_to {α β : Type} (F : Nat → List β → Int → Option (List β)) (l : List α) (conv : α → β)
    (step : ∀ k acc i x, 0 ≤ i → l[i.toNat]? = some x → acc.length = l.length → F (k + 1) acc i = F k (acc.set i.toNat (conv x)) (i + 1)) (stop : ∀ k acc, F (k + 1) acc (l.length : Int) = some acc) :
    ∀ (d k : Nat) (acc : List β) (i : Int), 0 ≤ i → i ≤ l.length → (l.length : Int) - i = d → d < k → acc.length = l.length → F k acc i = some (acc.take i.toNat ++ (l.drop i.toNat).map conv) := by
  intro d
  induction d with
  | zero =>
    intro k acc i h0 h1 hd hk ha
    obtain ⟨k, rfl⟩ : ∃ m, k = m + 1 := ⟨k - 1, by omega⟩
    obtain rfl : i = (l.length : Int) := by omega
    rw [stop k]
    simp [← ha]
  | succ d ih =>
    intro k acc i h0 h1 hd hk ha
    obtain ⟨k, rfl⟩ : ∃ m, k = m + 1 := ⟨k - 1, by omega⟩
    have hlt : i.toNat < l.length := by omega
    have hx : l[i.toNat]? = some l[i.toNat] := List.getElem?_eq_getElem hlt
    rw [step k acc i _ h0 hx ha, ih k _ (i + 1) (by omega) (by omega) (by omega) (by omega) (by simpa using ha)]
    have e : (i + 1).toNat = i.toNat + 1 := by omega
    rw [e]
    congr 1
    rw [List.take_succ_eq_append_getElem (by simp; omega)]
    rw [List.drop_eq_getElem_cons hlt, List.map_cons, List.getElem_set_self, List.take_set_of_le (Nat.le_refl _), List.append_assoc]
    rfl

theorem set_from {α β : Type} (F : Nat → List β → Int → Option (List β)) (l : List α) (conv : α → β) (K : Nat)
    (step : ∀ k acc i x, K ≤ k → 0 ≤ i → l[i.toNat]? = some x → acc.length = l.length → F (k + 1) acc i = F k (acc.set i.toNat (conv x)) (i + 1)) (stop : ∀ k acc, F (k + 1) acc (l.length : Int) = some acc) :
    ∀ (d k : Nat) (acc : List β) (i : Int), 0 ≤ i → i ≤ l.length → (l.length : Int) - i = d → d + K < k → acc.length = l.length → F k acc i = some (acc.take i.toNat ++ (l.drop i.toNat).map conv) := by
  intro d
  induction d with
  | zero =>
    intro k acc i h0 h1 hd hk ha
    obtain ⟨k, rfl⟩ : ∃ m, k = m + 1 := ⟨k - 1, by omega⟩
    obtain rfl : i = (l.length : Int) := by omega
    rw [stop k]
    simp [← ha]
  | succ d ih =>
    intro k acc i h0 h1 hd hk ha
    obtain ⟨k, rfl⟩ : ∃ m, k = m + 1 := ⟨k - 1, by omega⟩
    have hlt : i.toNat < l.length := by omega
    have hx : l[i.toNat]? = some l[i.toNat] := List.getElem?_eq_getElem hlt
    rw [step k acc i _ (by omega) h0 hx ha, ih k _ (i + 1) (by omega) (by omega) (by omega) (by omega) (by simpa using ha)]
    have e : (i + 1).toNat = i.toNat + 1 := by omega
    rw [e]
    congr 1
    rw [List.take_succ_eq_append_getElem (by simp; omega)]
    rw [List.drop_eq_getElem_cons hlt, List.map_cons, List.getElem_set_self, List.take_set_of_le (Nat.le_refl _), List.append_assoc]
    rfl

theorem run_from {α : Type} (F : Nat → Int → Option α) (n : Int) (r : α) (K : Nat) (step : ∀ k i, K ≤ k → 0 ≤ i → i < n → F (k + 1) i = F k (i + 1)) (stop : ∀ k, F (k + 1) n = some r) :
    ∀ (d k : Nat) (i : Int), 0 ≤ i → i ≤ n → n - i = d → d + K < k → F k i = some r := by
  intro d
  induction d with
  | zero =>
    intro k i h0 h1 hd hk
    obtain ⟨k, rfl⟩ : ∃ m, k = m + 1 := ⟨k - 1, by omega⟩
    obtain rfl : i = n := by omega
    exact stop k
  | succ d ih =>
    intro k i h0 h1 hd hk
    obtain ⟨k, rfl⟩ : ∃ m, k = m + 1 := ⟨k - 1, by omega⟩
    rw [step k i (by omega) h0 (by omega)]
    exact ih k (i + 1) (by omega) (by omega) (by omega) (by omega)

theorem to_bytes (l : List Int) (hl : l.length ≤ 1048576) (k : Nat) (hk : 1048577 ≤ k) : laws_toByteS.f k l = some l := by
  unfold laws_toByteS.f
  rw [if_pos (by omega), if_pos (by omega)]
  have h := set_to (fun k acc i => laws_toByteS.l0 k l acc i) l id (by
    intro k acc i x h0 hx ha
    have hlt : i.toNat < l.length := (List.getElem?_eq_some_iff.1 hx).1
    simp only [laws_toByteS.l0]
    have hr : rd l i = x := by
      unfold rd
      rw [List.getD_eq_getElem?_getD, hx]
      rfl
    rw [if_pos (by omega), if_pos h0, if_pos (by omega), hr]
    have hw : wrap64 (i + 1) = i + 1 := by unfold wrap64; omega
    rw [hw]
    rfl) (by
    intro k acc
    simp only [laws_toByteS.l0]
    rw [if_neg (by omega)]) l.length k (List.replicate ((l.length : Int)).toNat 0) 0 (by omega) (by omega) (by omega) (by omega) (by simp)
  rw [h]
  simp

theorem eq_bytes (l : List Int) (hl : l.length ≤ 1048576) (k : Nat) (hk : 1048577 ≤ k) : laws_eqByteS.f k l l = some true := by
  unfold laws_eqByteS.f
  rw [if_pos rfl]
  exact run_to (fun k i => laws_eqByteS.l0 k l l i) (l.length : Int) true (by
    intro k i h0 h1
    simp only [laws_eqByteS.l0]
    rw [if_pos h1, if_pos h0, if_pos h1]
    have hw : wrap64 (i + 1) = i + 1 := by unfold wrap64; omega
    simp [hw]) (by
    intro k
    simp only [laws_eqByteS.l0]
    rw [if_neg (by omega)]) l.length k 0 (by omega) (by omega) (by omega) (by omega)

theorem rd46 (l : List S46) (i : Int) (x : S46) (h : l[i.toNat]? = some x) : rd_T46 l i = x := by
  unfold rd_T46
  rw [List.getD_eq_getElem?_getD, h]
  rfl

theorem eq_boxes (l : List S46) (hl : l.length ≤ 1048576) (hd : ∀ x ∈ l, x.f2.length ≤ 1048576) (k : Nat) (hk : 2097155 ≤ k) : laws_eqBoxS.f k l l = some true := by
  unfold laws_eqBoxS.f
  rw [if_pos rfl]
  exact run_from (fun k i => laws_eqBoxS.l0 k l l i) (l.length : Int) true 1048577 (by
    intro k i hK h0 h1
    simp only [laws_eqBoxS.l0]
    have hx : l[i.toNat]? = some l[i.toNat] := List.getElem?_eq_getElem (by omega)
    rw [if_pos h1, if_pos h0, if_pos h1, rd46 l i _ hx]
    unfold laws_eqBox.f
    rw [if_pos rfl, if_pos rfl, eq_bytes _ (hd _ (List.mem_of_getElem? hx)) k hK]
    have hw : wrap64 (i + 1) = i + 1 := by unfold wrap64; omega
    simp [hw]) (by
    intro k
    simp only [laws_eqBoxS.l0]
    rw [if_neg (by omega)]) l.length k 0 (by omega) (by omega) (by omega) (by omega)


/-- A mark's text is told in as many rounds as the number has digits. -/
theorem text_some (d : Nat) : ∀ (n : Int) (s : ByteArray), 0 ≤ n → n < 10 ^ d → n ≤ 1000000000 → s.size + d ≤ 1000 → ∃ r, laws_markText.l0 (d + 1) n s = some r := by
  induction d with
  | zero =>
    intro n s h0 h1 hb hs
    simp only [laws_markText.l0]
    have : (10 : Int) ^ 0 = 1 := rfl
    rw [if_neg (by omega), if_pos (by omega)]
    exact ⟨_, rfl⟩
  | succ d ih =>
    intro n s h0 h1 hb hs
    rw [laws_markText.l0]
    by_cases c : n > 0
    · rw [if_pos c]
      simp only [Option.bind_some]
      have hz : (strOfNums [wrap64 (48 + Int.tmod n 10) % 256]).size = 1 := by rw [strOfNums_size]; rfl
      rw [hz, if_pos (by omega), Int.tdiv_eq_ediv_of_nonneg h0]
      have hq : 0 ≤ n / 10 := Int.ediv_nonneg h0 (by omega)
      have e : (10 : Int) ^ (d + 1) = 10 ^ d * 10 := Int.pow_succ ..
      rw [e] at h1
      have hq2 : n / 10 < 10 ^ d := Int.ediv_lt_of_lt_mul (by omega) h1
      have hle : n / 10 ≤ n := Int.ediv_le_self _ h0
      have w : wrap64 (n / 10) = n / 10 := by unfold wrap64; omega
      rw [w]
      refine ih _ _ hq hq2 (by omega) ?_
      rw [ByteArray.size_append, hz]
      omega
    · rw [if_neg c, if_pos (by omega)]
      exact ⟨_, rfl⟩

theorem text_f (n : Int) (h0 : 0 ≤ n) (h1 : n ≤ 10000000) : ∃ r, laws_markText.f 20 n = some r := by
  unfold laws_markText.f
  by_cases c : n ≤ 0
  · rw [if_pos c]; exact ⟨_, rfl⟩
  · rw [if_neg c]
    exact text_some 19 n _ h0 (by omega) (by omega) (by decide)

/-- The texts of the marks. -/
def Texts (mt : Int → ByteArray) : Prop := ∀ n : Int, 0 ≤ n → n ≤ 10000000 → ∀ k, 20 ≤ k → laws_markText.f k n = some (mt n)
theorem texts : ∃ mt, Texts mt := by
  refine ⟨fun n => (laws_markText.f 20 n).getD ByteArray.empty, fun n h0 h1 k hk => ?_⟩
  obtain ⟨r, hr⟩ := text_f n h0 h1
  show laws_markText.f k n = some ((laws_markText.f 20 n).getD ByteArray.empty)
  rw [hr, Option.getD_some]
  exact at_rounds (g := fun k => laws_markText.f k n) (fun k => laws_markText.mono n k) hk hr


def dsum (l : List S46) : Nat := (l.map fun x => x.f2.length).sum
theorem dsum_cons (x : S46) (l : List S46) : dsum (x :: l) = x.f2.length + dsum l := by unfold dsum; rw [List.map_cons, List.sum_cons]

def mb (n : Nat) (a : Int) : List Int := (List.range n).map fun j : Nat => (a + (j : Int)) % 256
theorem mb_length (n : Nat) (a : Int) : (mb n a).length = n := by unfold mb; simp

theorem mark_bytes_run (n : Nat) (a : Int) (h0 : 0 ≤ a) (h1 : a + n ≤ 1000000000) : ∀ (d k i : Nat) (l : List Int), l.length = n → n - i = d → i ≤ n → d < k → (∀ j, j < i → l[j]? = some ((a + (j : Int)) % 256)) →
    ∃ out, laws_markByteS.l0 k l (a + (i : Int)) (i : Int) = some (a + (n : Int), out) ∧ out.length = n ∧ ∀ j, j < n → out[j]? = some ((a + (j : Int)) % 256) := by
  intro d
  induction d with
  | zero =>
    intro k i l hl hd hi hk hm
    obtain ⟨k, rfl⟩ : ∃ m, k = m + 1 := ⟨k - 1, by omega⟩
    obtain rfl : i = n := by omega
    refine ⟨l, ?_, hl, hm⟩
    simp only [laws_markByteS.l0]
    rw [if_neg (by omega)]
  | succ d ih =>
    intro k i l hl hd hi hk hm
    obtain ⟨k, rfl⟩ : ∃ m, k = m + 1 := ⟨k - 1, by omega⟩
    have w1 : wrap64 (a + (i : Int) + 1) = a + ((i + 1 : Nat) : Int) := by unfold wrap64; omega
    have w2 : wrap64 ((i : Int) + 1) = ((i + 1 : Nat) : Int) := by unfold wrap64; omega
    simp only [laws_markByteS.l0]
    rw [if_pos (by omega), if_pos (by omega), w1, w2, Int.toNat_natCast]
    refine ih k (i + 1) _ (by simpa using hl) (by omega) (by omega) (by omega) (fun j hj => ?_)
    by_cases e : j = i
    · subst e
      exact List.getElem?_set_self (by omega)
    · rw [List.getElem?_set_ne (fun h => e h.symm)]
      exact hm j (by omega)

theorem mb_get (n : Nat) (a : Int) (j : Nat) (hj : j < n) : (mb n a)[j]? = some ((a + (j : Int)) % 256) := by
  unfold mb
  rw [List.getElem?_map, List.getElem?_range hj]
  rfl

theorem mark_bytes (l : List Int) (a : Int) (k : Nat) (h0 : 0 ≤ a) (h1 : a + l.length ≤ 1000000000) (hk : l.length < k) : laws_markByteS.f k l a = some (a + (l.length : Int), mb l.length a) := by
  obtain ⟨out, e1, e2, e3⟩ := mark_bytes_run l.length a h0 h1 l.length k 0 l rfl (by omega) (by omega) hk (fun j hj => by omega)
  unfold laws_markByteS.f
  have e : out = mb l.length a := by
    apply List.ext_getElem?
    intro j
    by_cases hj : j < l.length
    · rw [e3 j hj, mb_get _ _ _ hj]
    · rw [List.getElem?_eq_none (by omega), List.getElem?_eq_none (by rw [mb_length]; omega)]
  rw [show a + ((0 : Nat) : Int) = a by omega] at e1
  rw [← e]
  exact e1

theorem held_bytes (n : Nat) (a : Int) (h0 : 0 ≤ a) (h1 : a + n ≤ 1000000000) (k : Nat) (hk : n < k) : laws_heldByteS.f k (mb n a) a = some (a + (n : Int)) := by
  have run : ∀ (d k i : Nat), n - i = d → i ≤ n → d < k → laws_heldByteS.l0 k (mb n a) (a + (i : Int)) (i : Int) = some (a + (n : Int)) := by
    intro d
    induction d with
    | zero =>
      intro k i hd hi hk
      obtain ⟨k, rfl⟩ : ∃ m, k = m + 1 := ⟨k - 1, by omega⟩
      obtain rfl : i = n := by omega
      simp only [laws_heldByteS.l0]
      rw [if_neg (by rw [mb_length]; omega)]
    | succ d ih =>
      intro k i hd hi hk
      obtain ⟨k, rfl⟩ : ∃ m, k = m + 1 := ⟨k - 1, by omega⟩
      have w1 : wrap64 (a + (i : Int) + 1) = a + ((i + 1 : Nat) : Int) := by unfold wrap64; omega
      have w2 : wrap64 ((i : Int) + 1) = ((i + 1 : Nat) : Int) := by unfold wrap64; omega
      have hr : rd (mb n a) (i : Int) = (a + (i : Int)) % 256 := by
        unfold rd
        rw [List.getD_eq_getElem?_getD, Int.toNat_natCast, mb_get _ _ _ (by omega)]
        rfl
      simp only [laws_heldByteS.l0]
      rw [if_pos (by rw [mb_length]; omega), if_pos (by omega), if_pos hr, w1, w2]
      exact ih k (i + 1) (by omega) (by omega) (by omega)
  have := run n k 0 (by omega) (by omega) hk
  unfold laws_heldByteS.f
  rw [show a + ((0 : Nat) : Int) = a by omega] at this
  exact this

/-- Boxes, marked from a number on. -/
def mboxes (mt : Int → ByteArray) : List S46 → Int → List S46
  | [], _ => []
  | x :: xs, a => ⟨mt a, a + 1, mb x.f2.length (a + 2)⟩ :: mboxes mt xs (a + 2 + (x.f2.length : Int))
theorem mboxes_length (mt : Int → ByteArray) : ∀ (xs : List S46) (a : Int), (mboxes mt xs a).length = xs.length
  | [], _ => rfl
  | x :: xs, a => by rw [mboxes, List.length_cons, List.length_cons, mboxes_length mt xs]

theorem mark_boxes_run (mt : Int → ByteArray) (ht : Texts mt) : ∀ (xs done : List S46) (a : Int) (k : Nat), 0 ≤ a → a + 2 * (xs.length : Int) + (dsum xs : Int) ≤ 10000000 → xs.length + dsum xs + 21 < k →
    markBoxS0.l0 k (done ++ xs) a done.length = some (a + 2 * (xs.length : Int) + (dsum xs : Int), done ++ mboxes mt xs a) := by
  intro xs
  induction xs with
  | nil =>
    intro done a k h0 h1 hk
    obtain ⟨k, rfl⟩ : ∃ m, k = m + 1 := ⟨k - 1, by omega⟩
    simp only [markBoxS0.l0]
    rw [if_neg (by simp)]
    simp [dsum, mboxes]
  | cons x xs ih =>
    intro done a k h0 h1 hk
    rw [dsum_cons, List.length_cons] at h1 hk
    obtain ⟨k, rfl⟩ : ∃ m, k = m + 1 := ⟨k - 1, by omega⟩
    have hr : rd_T46 (done ++ x :: xs) (done.length : Int) = x := by
      unfold rd_T46
      rw [List.getD_eq_getElem?_getD, Int.toNat_natCast, List.getElem?_append_right (Nat.le_refl _), Nat.sub_self]
      rfl
    have w1 : wrap64 (a + 1) = a + 1 := by unfold wrap64; omega
    have w2 : wrap64 (a + 1 + 1) = a + 2 := by unfold wrap64; omega
    rw [markBoxS0.l0]
    rw [if_pos (by rw [List.length_append, List.length_cons]; omega), ht a h0 (by omega) k (by omega), Option.bind_some, hr, w1, w2, mark_bytes x.f2 (a + 2) k (by omega) (by omega) (by omega), Option.bind_some]
    have hs : (done ++ x :: xs).set done.length ⟨mt a, a + 1, mb x.f2.length (a + 2)⟩ = (done ++ [⟨mt a, a + 1, mb x.f2.length (a + 2)⟩]) ++ xs := by
      rw [List.set_append_right _ _ (Nat.le_refl _), Nat.sub_self, List.set_cons_zero, List.append_assoc]
      rfl
    have := ih (done ++ [⟨mt a, a + 1, mb x.f2.length (a + 2)⟩]) (a + 2 + (x.f2.length : Int)) k (by omega) (by omega) (by omega)
    rw [List.length_append, List.length_cons, List.length_nil] at this
    show markBoxS0.l0 k ((done ++ x :: xs).set done.length _) _ _ = _
    rw [hs, this, mboxes, dsum_cons, List.length_cons, List.append_assoc]
    congr 2
    omega

theorem mark_boxes (mt : Int → ByteArray) (ht : Texts mt) (xs : List S46) (hs : xs.length + dsum xs ≤ 1048576) (k : Nat) (hk : 1048600 ≤ k) : markBoxS0.f k xs 1 = some (1 + 2 * (xs.length : Int) + (dsum xs : Int), mboxes mt xs 1) := by
  unfold markBoxS0.f
  rw [if_pos (by omega)]
  exact mark_boxes_run mt ht xs [] 1 k (by omega) (by omega) (by omega)


theorem held_boxes_run (mt : Int → ByteArray) (ht : Texts mt) : ∀ (xs done : List S46) (a : Int) (k : Nat), 0 ≤ a → a + 2 * (xs.length : Int) + (dsum xs : Int) ≤ 10000000 → done.length + xs.length ≤ 10000000 → xs.length + dsum xs + 21 < k →
    laws_heldBoxS.l0 k (done ++ mboxes mt xs a) a (done.length : Int) = some (a + 2 * (xs.length : Int) + (dsum xs : Int)) := by
  intro xs
  induction xs with
  | nil =>
    intro done a k h0 h1 h2 hk
    obtain ⟨k, rfl⟩ : ∃ m, k = m + 1 := ⟨k - 1, by omega⟩
    simp only [laws_heldBoxS.l0]
    rw [if_neg (by simp [mboxes])]
    simp [dsum]
  | cons x xs ih =>
    intro done a k h0 h1 h2 hk
    rw [dsum_cons, List.length_cons] at h1 hk
    rw [List.length_cons] at h2
    obtain ⟨k, rfl⟩ : ∃ m, k = m + 1 := ⟨k - 1, by omega⟩
    have hr : rd_T46 (done ++ mboxes mt (x :: xs) a) (done.length : Int) = ⟨mt a, a + 1, mb x.f2.length (a + 2)⟩ := by
      unfold rd_T46
      rw [List.getD_eq_getElem?_getD, Int.toNat_natCast, List.getElem?_append_right (Nat.le_refl _), Nat.sub_self]
      rfl
    have w1 : wrap64 (a + 1) = a + 1 := by unfold wrap64; omega
    have w2 : wrap64 (a + 1 + 1) = a + 2 := by unfold wrap64; omega
    have w3 : wrap64 ((done.length : Int) + 1) = ((done.length + 1 : Nat) : Int) := by unfold wrap64; omega
    have hl : (done ++ mboxes mt (x :: xs) a).length = done.length + (xs.length + 1) := by rw [List.length_append, mboxes_length, List.length_cons]
    simp only [laws_heldBoxS.l0]
    rw [if_pos (by rw [hl]; omega), if_pos (by omega), hr, ht a h0 (by omega) k (by omega), Option.bind_some, if_pos rfl, w1, if_pos rfl, w2, held_bytes x.f2.length (a + 2) (by omega) (by omega) k (by omega), Option.bind_some, if_neg (by omega), w3]
    have := ih (done ++ [⟨mt a, a + 1, mb x.f2.length (a + 2)⟩]) (a + 2 + (x.f2.length : Int)) k (by omega) (by omega) (by rw [List.length_append]; simp only [List.length_cons, List.length_nil]; omega) (by omega)
    rw [List.length_append, List.length_cons, List.length_nil, List.append_assoc] at this
    show laws_heldBoxS.l0 k (done ++ ([⟨mt a, a + 1, mb x.f2.length (a + 2)⟩] ++ mboxes mt xs (a + 2 + (x.f2.length : Int)))) _ _ = _
    rw [this, dsum_cons, List.length_cons]
    congr 1
    omega

theorem held_boxes (mt : Int → ByteArray) (ht : Texts mt) (xs : List S46) (hs : xs.length + dsum xs ≤ 1048576) (k : Nat) (hk : 1048600 ≤ k) : laws_heldBoxS.f k (mboxes mt xs 1) 1 = some (1 + 2 * (xs.length : Int) + (dsum xs : Int)) := by
  unfold laws_heldBoxS.f
  exact held_boxes_run mt ht xs [] 1 k (by omega) (by omega) (by simp only [List.length_nil]; omega) (by omega)

theorem mem_dsum {l : List S46} {x : S46} (h : x ∈ l) : x.f2.length ≤ dsum l := by
  induction l with
  | nil => cases h
  | cons y ys ih =>
    rw [dsum_cons]
    rcases List.mem_cons.1 h with rfl | h
    · omega
    · have := ih h
      omega

theorem rdr_some : ∀ (d k : Nat) (bs : List Int) (boxes : List S46) (data : Int) (p en : Nat) (depth : Int), en - p ≤ d → d < k → ∃ r, rdr k bs boxes data p en depth = some r := by
  intro d
  induction d using Nat.strongRecOn with
  | ind d ih =>
  intro k bs boxes data p en depth hd hk
  obtain ⟨k, rfl⟩ : ∃ m, k = m + 1 := ⟨k - 1, by omega⟩
  simp only [rdr]
  by_cases c1 : p < en
  · rw [if_pos c1]
    by_cases c2 : en < p + 8
    · rw [if_pos c2]; exact ⟨_, rfl⟩
    rw [if_neg c2]
    by_cases c3 : sz4 bs p < 8
    · rw [if_pos c3]; exact ⟨_, rfl⟩
    rw [if_neg c3]
    by_cases c4 : ((en - p : Nat) : Int) < sz4 bs p
    · rw [if_pos c4]; exact ⟨_, rfl⟩
    rw [if_neg c4]
    obtain ⟨n, hn⟩ : ∃ n : Nat, sz4 bs p = (n : Int) := ⟨(sz4 bs p).toNat, by omega⟩
    rw [hn] at c3 c4 ⊢
    rw [Int.toNat_natCast]
    by_cases c5 : kindB (kd4 bs p) = true
    · rw [if_pos c5]
      by_cases c6 : 8 < depth
      · rw [if_pos c6]; exact ⟨_, rfl⟩
      rw [if_neg c6]
      by_cases c7 : boxes.length = 200
      · rw [if_pos c7]; exact ⟨_, rfl⟩
      rw [if_neg c7]
      by_cases c8 : r_hold (kd4 bs p) = true
      · rw [if_pos c8]
        obtain ⟨s, hs⟩ := ih (d - 8) (by omega) k bs (boxes ++ [⟨kd4 bs p, depth, []⟩]) data (p + 8) (p + n) (depth + 1) (by omega) (by omega)
        rw [hs, Option.bind_some]
        by_cases c9 : s.2.2.1 = 0
        · rw [if_pos c9]
          exact ih (d - 8) (by omega) k bs _ _ _ _ _ (by omega) (by omega)
        · rw [if_neg c9]; exact ⟨_, rfl⟩
      · rw [if_neg c8]
        by_cases c9 : 20000 < data + ((n : Int) - 8)
        · rw [if_pos c9]; exact ⟨_, rfl⟩
        rw [if_neg c9]
        exact ih (d - 8) (by omega) k bs _ _ _ _ _ (by omega) (by omega)
    · rw [if_neg c5]; exact ⟨_, rfl⟩
  · rw [if_neg c1]; exact ⟨_, rfl⟩

theorem dsum_snoc (l : List S46) (x : S46) : dsum (l ++ [x]) = dsum l + x.f2.length := by
  unfold dsum
  rw [List.map_append, List.sum_append]
  rfl

/-- The number that the reader keeps is that of the data that it has read. -/
theorem rdr_dsum : ∀ (k : Nat) (bs : List Int) (boxes : List S46) (data : Int) (p en : Nat) (depth : Int) (r : List S46 × Int × Int × Int), rdr k bs boxes data p en depth = some r → en ≤ bs.length → (dsum boxes : Int) = data → (dsum r.1 : Int) = r.2.1 := by
  intro k
  induction k with
  | zero => intro bs boxes data p en depth r h; simp [rdr] at h
  | succ k ih =>
    intro bs boxes data p en depth r h he h1
    simp only [rdr] at h
    have now : ∀ {c f : Int}, some (boxes, data, c, f) = some r → (dsum r.1 : Int) = r.2.1 := fun e => by
      obtain rfl := Option.some.inj e
      exact h1
    by_cases c1 : p < en
    · rw [if_pos c1] at h
      by_cases c2 : en < p + 8
      · rw [if_pos c2] at h; exact now h
      rw [if_neg c2] at h
      by_cases c3 : sz4 bs p < 8
      · rw [if_pos c3] at h; exact now h
      rw [if_neg c3] at h
      by_cases c4 : ((en - p : Nat) : Int) < sz4 bs p
      · rw [if_pos c4] at h; exact now h
      rw [if_neg c4] at h
      obtain ⟨n, hn⟩ : ∃ n : Nat, sz4 bs p = (n : Int) := ⟨(sz4 bs p).toNat, by omega⟩
      rw [hn] at c3 c4 h
      rw [Int.toNat_natCast] at h
      by_cases c5 : kindB (kd4 bs p) = true
      · rw [if_pos c5] at h
        by_cases c6 : 8 < depth
        · rw [if_pos c6] at h; exact now h
        rw [if_neg c6] at h
        by_cases c7 : boxes.length = 200
        · rw [if_pos c7] at h; exact now h
        rw [if_neg c7] at h
        by_cases c8 : r_hold (kd4 bs p) = true
        · rw [if_pos c8] at h
          obtain ⟨s, hs, h⟩ := Option.bind_eq_some_iff.1 h
          have hb := ih _ _ _ _ _ _ s hs (by omega) (by rw [dsum_snoc]; simpa using h1)
          by_cases c9 : s.2.2.1 = 0
          · rw [if_pos c9] at h
            exact ih _ _ _ _ _ _ r h he hb
          · rw [if_neg c9] at h
            obtain rfl := Option.some.inj h
            exact hb
        · rw [if_neg c8] at h
          by_cases c9 : 20000 < data + ((n : Int) - 8)
          · rw [if_pos c9] at h; exact now h
          rw [if_neg c9] at h
          have hl : ((bs.take (p + n)).drop (p + 8)).length = n - 8 := by rw [List.length_drop, List.length_take]; omega
          exact ih _ _ _ _ _ _ r h he (by rw [dsum_snoc]; show ((dsum boxes + ((bs.take (p + n)).drop (p + 8)).length : Nat) : Int) = _; rw [hl]; omega)
      · rw [if_neg c5] at h; exact now h
    · rw [if_neg c1] at h; exact now h

theorem top_some (l : List Int) (hl : l.length ≤ 40000) (hb : ∀ x ∈ l, 0 ≤ x ∧ x ≤ 255) (k : Nat) (hk : 50000 ≤ k) : ∃ r, rdTop k l = some r ∧ r.1.length ≤ 200 ∧ (dsum r.1 : Int) = r.2.1 ∧ r.2.1 ≤ 20000 := by
  have h1 : bytesOk l = true := List.all_eq_true.2 (fun x hx => decide_eq_true (hb x hx))
  unfold rdTop
  rw [if_pos (by omega), if_pos h1]
  obtain ⟨r, hr⟩ := rdr_some l.length k l [] 0 0 l.length 0 (by omega) (by omega)
  have h2 := rdr_bounds k l [] 0 0 l.length 0 r hr (by simp) (by omega) (by omega)
  exact ⟨r, hr, h2.1, rdr_dsum k l [] 0 0 l.length 0 r hr (Nat.le_refl _) rfl, h2.2.2⟩

theorem FnExactReadBoxes (l0 : List Int) (w0 : (l0.length ≤ maxLen ∧ ∀ y2 ∈ l0, (Lit.int .u8 y2).wf = true)) : ∃ k, PFnExactReadBoxes.laws_FnExactReadBoxes.f k l0 = some true := by
  have hm := w0.1
  have hb : ∀ x ∈ l0, 0 ≤ x ∧ x ≤ 255 := fun x hx => by
    have := w0.2 x hx
    simp [Lit.wf, IntKind.min, IntKind.max, IntKind.signed, IntKind.bits] at this
    omega
  obtain ⟨k, hk⟩ : ∃ k, k = 2200000 := ⟨_, rfl⟩
  refine ⟨k, ?_⟩
  unfold laws_FnExactReadBoxes.f
  by_cases c : (l0.length : Int) > 1048576
  · rw [if_pos c]
  · rw [if_neg c]
    obtain ⟨r, f2, f3, h1, h2, h3, h4⟩ : ∃ (r : List S46) (f2 f3 : Int), r.length ≤ 200 ∧ dsum r ≤ 20000 ∧ spec_ReadBoxes.f k l0 = some (r, f2, f3) ∧ impl_ReadBoxes.f k l0 = some (r, f2, f3) := by
      unfold spec_ReadBoxes.f impl_ReadBoxes.f
      by_cases c4 : (l0.length : Int) > 40000
      · rw [if_pos c4]
        exact ⟨[], 1, 0, by simp, by simp [dsum], rfl, rfl⟩
      · rw [if_neg c4]
        obtain ⟨s, e1, e2, e3, e4⟩ := top_some l0 (by omega) hb k (by omega)
        rw [e1, Option.bind_some]
        by_cases c5 : s.2.2.1 = 0
        · rw [if_pos c5]
          exact ⟨s.1, 0, 0, e2, by omega, rfl, rfl⟩
        · rw [if_neg c5]
          exact ⟨[], s.2.2.1, s.2.2.2, by simp, by simp [dsum], rfl, rfl⟩
    obtain ⟨mt, htx⟩ := texts
    have hf : laws_eqBoxFault.f f2 f3 f2 f3 = some true := by unfold laws_eqBoxFault.f; rw [if_pos rfl, if_pos rfl]
    rw [to_bytes l0 (by omega) k (by omega), Option.bind_some, h3, Option.bind_some, h4, Option.bind_some, eq_boxes r (by omega) (fun x hx => by have := mem_dsum hx; omega) k (by omega), Option.bind_some, hf, Option.bind_some, eq_bytes l0 (by omega) k (by omega), Option.bind_some, mark_bytes l0 1 k (by omega) (by omega) (by omega), Option.bind_some, mark_boxes mt htx r (by omega) k (by omega), Option.bind_some, held_boxes mt htx r (by omega) k (by omega), Option.bind_some, if_pos ⟨rfl, rfl, rfl, rfl, by omega, by omega, rfl⟩]

end Go.Proofs.Ytpennfkjfeipcaa.Pure
