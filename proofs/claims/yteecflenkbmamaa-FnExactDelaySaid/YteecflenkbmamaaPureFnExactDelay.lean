/- Proved: the plain law behind FnExactDelay. No condition. -/
import Derived.Test.YteecflenkbmamaaPFnExactDelayx7
namespace Go.Proofs.Yteecflenkbmamaa.Pure
open Go.RowKit Go.Proofs.Yteecflenkbmamaa.PFnExactDelay Go.Proofs.YteecflenkbmamaaW.PrintWords Go.Proofs.YteecflenkbmamaaW.PrintLast

set_option linter.unusedVariables false
set_option linter.unusedSimpArgs false

theorem run_to {α : Type} (F : Nat → Int → Option α) (n : Int) (r : α) (step : ∀ k i, 0 ≤ i → i < n → F (k + 1) i = F k (i + 1)) (stop : ∀ k, F (k + 1) n = some r) :
    ∀ (d k : Nat) (i : Int), 0 ≤ i → i ≤ n → n - i = d → d < k → F k i = some r := by
  intro d
  induction d with
  | zero =>
    intro k i h0 h1 hd hk
    obtain ⟨k, rfl⟩ : ∃ m, k = m + 1 := ⟨k - 1, by omega⟩
    obtain rfl : i = n := by omega
    exact stop k
  | succ d ih =>
    intro k i h0 h1 hd hk
    obtain ⟨k, rfl⟩ : ∃ m, k = m + 1 := ⟨k - 1, by omega⟩
    rw [step k i h0 (by omega)]
    exact ih k (i + 1) (by omega) (by omega) (by omega) (by omega)

theorem set_to {α β : Type} (F : Nat → List β → Int → Option (List β)) (l : List α) (conv : α → β)
    (step : ∀ k acc i x, 0 ≤ i → l[i.toNat]? = some x → acc.length = l.length → F (k + 1) acc i = F k (acc.set i.toNat (conv x)) (i + 1)) (stop : ∀ k acc, F (k + 1) acc (l.length : Int) = some acc) :
    ∀ (d k : Nat) (acc : List β) (i : Int), 0 ≤ i → i ≤ l.length → (l.length : Int) - i = d → d < k → acc.length = l.length → F k acc i = some (acc.take i.toNat ++ (l.drop i.toNat).map conv) := by
  intro d
  induction d with
  | zero =>
    intro k acc i h0 h1 hd hk ha
    obtain ⟨k, rfl⟩ : ∃ m, k = m + 1 := ⟨k - 1, by omega⟩
    obtain rfl : i = (l.length : Int) := by omega
    rw [stop k]
    simp [← ha]
  | succ d ih =>
    intro k acc i h0 h1 hd hk ha
    obtain ⟨k, rfl⟩ : ∃ m, k = m + 1 := ⟨k - 1, by omega⟩
    have hlt : i.toNat < l.length := by omega
    have hx : l[i.toNat]? = some l[i.toNat] := List.getElem?_eq_getElem hlt
    rw [step k acc i _ h0 hx ha, ih k _ (i + 1) (by omega) (by omega) (by omega) (by omega) (by simpa using ha)]
    have e : (i + 1).toNat = i.toNat + 1 := by omega
    rw [e]
    congr 1
    rw [List.take_succ_eq_append_getElem (by simp; omega)]
    rw [List.drop_eq_getElem_cons hlt, List.map_cons, List.getElem_set_self, List.take_set_of_le (Nat.le_refl _), List.append_assoc]
    rfl

theorem in_some (a b c : Int) : impl_in.f a b c = some (decide (b ≤ a ∧ a ≤ c)) := by
  unfold impl_in.f
  by_cases h : b ≤ a
  · simp [h]
  · simp [h]

theorem bt_list (s : ByteArray) (i : Int) : bt s i = ((s.data.toList.getD i.toNat 0).toNat : Int) := by
  unfold bt
  split
  · rename_i h
    have h' : i.toNat < s.data.toList.length := by rw [← Lib.size_eq]; exact h
    rw [List.getD_eq_getElem?_getD, List.getElem?_eq_getElem h']
    rfl
  · rename_i h
    have h' : ¬ i.toNat < s.data.toList.length := by rw [← Lib.size_eq]; exact h
    rw [List.getD_eq_getElem?_getD, List.getElem?_eq_none (by omega)]
    rfl

theorem num10 (b : UInt8) : ((b.toNat : Int) = 10) ↔ b = 10 := by
  constructor
  · intro h
    apply UInt8.toNat_inj.mp
    have : (10 : UInt8).toNat = 10 := rfl
    omega
  · rintro rfl
    rfl

theorem num127 (b : UInt8) : ((b.toNat : Int) = 127) ↔ b = 127 := by
  constructor
  · intro h
    apply UInt8.toNat_inj.mp
    have : (127 : UInt8).toNat = 127 := rfl
    omega
  · rintro rfl
    rfl

/-- Two newlines, one behind the other. -/
def dbl : List UInt8 → Bool
  | [] => false
  | a :: l => (decide (a = 10) && decide (l.head? = some 10)) || dbl l
/-- No sign that is not allowed. -/
def plain : List UInt8 → Bool
  | [] => true
  | b :: l => if b = 10 then plain l else if (b.toNat : Int) < 32 then false else if b = 127 then false else plain l
/-- The same, and no two newlines one behind the other; p: a newline stands ahead. -/
def both (p : Bool) : List UInt8 → Bool
  | [] => true
  | b :: l => if b = 10 then (if p = true then false else both true l) else if (b.toNat : Int) < 32 then false else if b = 127 then false else both false l

theorem both_eq (l : List UInt8) : ∀ p, both p l = (plain l && !((p && decide (l.head? = some 10)) || dbl l)) := by
  induction l with
  | nil => intro p; simp [both, plain, dbl]
  | cons b l ih =>
    intro p
    unfold both plain dbl
    by_cases h : b = 10
    · subst h
      cases p
      · simp [ih]
      · simp
    · by_cases h2 : (b.toNat : Int) < 32
      · simp [h, h2]
      · by_cases h3 : b = 127
        · simp [h3]
        · simp [h, h2, h3, ih]

theorem contains_dbl (l : List UInt8) : Lib.contains l [10, 10] = dbl l := by
  unfold Lib.contains
  induction l with
  | nil => simp [Lib.index, dbl]
  | cons b l ih =>
    unfold Lib.index dbl
    have hg := Lib.index_ge l [10, 10]
    have hp : List.isPrefixOf [10, 10] (b :: l) = (decide (b = 10) && decide (l.head? = some 10)) := by
      cases l with
      | nil => simp [List.isPrefixOf]
      | cons c l =>
        simp only [List.isPrefixOf, List.head?_cons, Option.some.injEq, Bool.and_true]
        rw [Bool.eq_iff_iff]
        simp only [Bool.and_eq_true, beq_iff_eq, decide_eq_true_eq]
        exact ⟨fun h => ⟨h.1.symm, h.2.symm⟩, fun h => ⟨h.1.symm, h.2.symm⟩⟩
    rw [hp]
    by_cases c : (decide (b = 10) && decide (l.head? = some 10)) = true
    · rw [if_pos c, c]
      simp
    · have c' : (decide (b = 10) && decide (l.head? = some 10)) = false := by simpa using c
      rw [if_neg c, c', ← ih, Bool.false_or]
      by_cases z : (Lib.index l [10, 10] == -1) = true
      · rw [if_pos z]
        have : Lib.index l [10, 10] = -1 := by simpa using z
        rw [this]
      · rw [if_neg z]
        have z' : Lib.index l [10, 10] ≠ -1 := by simpa using z
        rw [Bool.eq_iff_iff]
        simp only [decide_eq_true_eq]
        omega

theorem drop_at (s : ByteArray) (i : Int) (h0 : 0 ≤ i) (h1 : i < (s.size : Int)) : s.data.toList.drop i.toNat = s.data.toList.getD i.toNat 0 :: s.data.toList.drop (i + 1).toNat := by
  have h' : i.toNat < s.data.toList.length := by rw [← Lib.size_eq]; omega
  rw [List.drop_eq_getElem_cons h', List.getD_eq_getElem?_getD, List.getElem?_eq_getElem h']
  have e : (i + 1).toNat = i.toNat + 1 := by omega
  rw [e]
  rfl

theorem impl_loop (s : ByteArray) (hs : s.size ≤ 200) : ∀ (d k : Nat) (i : Int), 0 ≤ i → i ≤ s.size → (s.size : Int) - i = d → d < k → impl_textOk.l0 k s (s.size : Int) i = some (plain (s.data.toList.drop i.toNat)) := by
  intro d
  induction d with
  | zero =>
    intro k i h0 h1 hd hk
    obtain ⟨k, rfl⟩ : ∃ m, k = m + 1 := ⟨k - 1, by omega⟩
    simp only [impl_textOk.l0]
    rw [if_neg (by omega), List.drop_of_length_le (by rw [← Lib.size_eq]; omega)]
    rfl
  | succ d ih =>
    intro k i h0 h1 hd hk
    obtain ⟨k, rfl⟩ : ∃ m, k = m + 1 := ⟨k - 1, by omega⟩
    have hlt : i < (s.size : Int) := by omega
    have hw : wrap64 (i + 1) = i + 1 := by unfold wrap64; omega
    simp only [impl_textOk.l0]
    rw [if_pos hlt, if_pos h0, if_pos hlt, hw, ih k (i + 1) (by omega) (by omega) (by omega) (by omega), drop_at s i h0 hlt, bt_list]
    generalize s.data.toList.getD i.toNat 0 = b
    unfold plain
    by_cases c : b = 10
    · rw [if_pos ((num10 b).mpr c), if_pos c]
      cases s.data.toList.drop (i + 1).toNat <;> rfl
    · rw [if_neg (fun h => c ((num10 b).mp h)), if_neg c]
      by_cases c2 : (b.toNat : Int) < 32
      · rw [if_pos c2, if_pos c2]
      · rw [if_neg c2, if_neg c2]
        by_cases c3 : b = 127
        · rw [if_pos ((num127 b).mpr c3), if_pos c3]
        · rw [if_neg (fun h => c3 ((num127 b).mp h)), if_neg c3]
          cases s.data.toList.drop (i + 1).toNat <;> rfl

theorem spec_loop (s : ByteArray) (hs : s.size ≤ 200) (hb : bt s 0 ≠ 10) : ∀ (d k : Nat) (i : Int), 0 ≤ i → i ≤ s.size → (s.size : Int) - i = d → d < k →
    spec_l12Text.l0 k s (s.size : Int) i = some (both (decide (1 ≤ i ∧ bt s (i - 1) = 10)) (s.data.toList.drop i.toNat)) := by
  intro d
  induction d with
  | zero =>
    intro k i h0 h1 hd hk
    obtain ⟨k, rfl⟩ : ∃ m, k = m + 1 := ⟨k - 1, by omega⟩
    simp only [spec_l12Text.l0]
    rw [if_neg (by omega), List.drop_of_length_le (by rw [← Lib.size_eq]; omega)]
    rfl
  | succ d ih =>
    intro k i h0 h1 hd hk
    obtain ⟨k, rfl⟩ : ∃ m, k = m + 1 := ⟨k - 1, by omega⟩
    have hlt : i < (s.size : Int) := by omega
    have hw : wrap64 (i + 1) = i + 1 := by unfold wrap64; omega
    have hv : wrap64 (i - 1) = i - 1 := by unfold wrap64; omega
    have hn := ih k (i + 1) (by omega) (by omega) (by omega) (by omega)
    have e1 : i + 1 - 1 = i := by omega
    rw [e1] at hn
    have e2 : decide (1 ≤ i + 1 ∧ bt s i = 10) = decide (bt s i = 10) := by simp [show 1 ≤ i + 1 by omega]
    rw [e2] at hn
    simp only [spec_l12Text.l0]
    rw [if_pos hlt, if_pos h0, if_pos hlt, hw, hv, hn, drop_at s i h0 hlt]
    by_cases c : bt s i = 10
    · have hi : 1 ≤ i := by
        by_cases z : i = 0
        · subst z; exact absurd c hb
        · omega
      have cb : s.data.toList.getD i.toNat 0 = 10 := (num10 _).mp (by rw [← bt_list]; exact c)
      rw [if_pos c, if_pos (by omega), if_pos (by omega), cb]
      have h127 : ¬ bt s i = 127 := by omega
      rw [if_neg h127]
      have hc : decide (bt s i = 10) = true := by simpa using c
      rw [hc]
      by_cases c2 : bt s (i - 1) = 10
      · have : decide (1 ≤ i ∧ bt s (i - 1) = 10) = true := by simp [hi, c2]
        rw [if_pos c2, this]
        unfold both
        simp
      · have : decide (1 ≤ i ∧ bt s (i - 1) = 10) = false := by simp [c2]
        rw [if_neg c2, this]
        conv => rhs; unfold both
        simp
    · have hc : decide (bt s i = 10) = false := by simpa using c
      rw [if_neg c, hc]
      rw [bt_list] at c ⊢
      generalize s.data.toList.getD i.toNat 0 = b at *
      conv => rhs; unfold both
      rw [if_neg (fun h => c ((num10 b).mpr h))]
      by_cases c2 : (b.toNat : Int) < 32
      · rw [if_pos c2, if_pos c2]
      · rw [if_neg c2, if_neg c2]
        by_cases c3 : b = 127
        · rw [if_pos ((num127 b).mpr c3), if_pos c3]
        · rw [if_neg (fun h => c3 ((num127 b).mp h)), if_neg c3]

theorem prefix10 (s : ByteArray) (h : 1 ≤ s.size) : strings_HasPrefix.f s (⟨#[10]⟩ : ByteArray) = some (decide (bt s 0 = 10)) := by
  unfold strings_HasPrefix.f stringslite_HasPrefix.f
  have e : ((⟨#[10]⟩ : ByteArray).size : Int) = 1 := rfl
  rw [e, if_pos (by omega), if_pos (by omega), if_pos (by omega)]
  simp only [Option.bind_some]
  rw [Lib.extract_toList, bt_list]
  have e2 : (⟨#[10]⟩ : ByteArray).toList = [10] := by rw [Lib.toList_data]
  rw [e2]
  cases hl : s.data.toList with
  | nil =>
    have : s.size = 0 := by rw [Lib.size_eq, hl]; rfl
    omega
  | cons b l =>
    simp only [num10, Int.toNat_zero, List.getD_cons_zero, List.drop_zero, Nat.sub_zero]
    rw [Option.some.injEq, Bool.eq_iff_iff]
    simp [num10]

theorem suffix10 (s : ByteArray) (h : 1 ≤ s.size) (h2 : s.size ≤ 200) : strings_HasSuffix.f s (⟨#[10]⟩ : ByteArray) = some (decide (bt s ((s.size : Int) - 1) = 10)) := by
  unfold strings_HasSuffix.f stringslite_HasSuffix.f
  have e : ((⟨#[10]⟩ : ByteArray).size : Int) = 1 := rfl
  have w : wrap64 ((s.size : Int) - 1) = (s.size : Int) - 1 := by unfold wrap64; omega
  rw [e, w, if_pos (by omega), if_pos (by omega), if_pos (by omega)]
  simp only [Option.bind_some]
  rw [Lib.extract_toList, bt_list]
  have e2 : (⟨#[10]⟩ : ByteArray).toList = [10] := by rw [Lib.toList_data]
  rw [e2]
  have e3 : ((s.size : Int) - 1).toNat = s.size - 1 := by omega
  rw [e3]
  have hl : s.size - 1 < s.data.toList.length := by rw [← Lib.size_eq]; omega
  rw [List.drop_eq_getElem_cons hl, List.getD_eq_getElem?_getD, List.getElem?_eq_getElem hl]
  have e4 : s.size - (s.size - 1) = 1 := by omega
  rw [e4, Option.some.injEq, Bool.eq_iff_iff]
  simp [num10]

/-- Both say the same of a text. -/
theorem text_eq (s : ByteArray) (k : Nat) (hk : 202 ≤ k) : ∃ r, spec_l12Text.f k s = some r ∧ impl_textOk.f k s = some r := by
  obtain ⟨k, rfl⟩ : ∃ m, k = m + 1 := ⟨k - 1, by omega⟩
  unfold spec_l12Text.f impl_textOk.f
  rw [in_some]
  simp only [Option.bind_some, decide_eq_true_eq]
  by_cases c : (1 ≤ (s.size : Int) ∧ (s.size : Int) ≤ 200)
  · rw [if_pos c, if_neg (by omega), if_neg (by omega), if_pos (by omega)]
    obtain ⟨c0, c1⟩ := c
    rw [prefix10 s (by omega)]
    simp only [Option.bind_some, decide_eq_true_eq]
    by_cases b0 : bt s 0 = 10
    · rw [if_pos b0, if_pos b0]
      simp only [spec_l12Text.j0, impl_textOk.j0]
      exact ⟨false, by simp, by simp⟩
    · rw [if_neg b0, if_neg b0]
      have w : wrap64 ((s.size : Int) - 1) = (s.size : Int) - 1 := by unfold wrap64; omega
      rw [w, if_pos (by omega), if_pos (by omega), suffix10 s (by omega) (by omega)]
      simp only [Option.bind_some, decide_eq_true_eq]
      by_cases b1 : bt s ((s.size : Int) - 1) = 10
      · rw [if_pos b1]
        simp only [spec_l12Text.j0, impl_textOk.j0, b1]
        exact ⟨false, by simp, by simp⟩
      · rw [if_neg b1]
        have hz : (bt s ((s.size : Int) - 1) == 10) = false := by simpa using b1
        rw [hz]
        unfold strings_Contains.f
        rw [if_pos (by omega)]
        simp only [Option.bind_some]
        rw [contains_dbl]
        simp only [spec_l12Text.j0, impl_textOk.j0]
        have h1 := impl_loop s (by omega) s.size k 0 (by omega) (by omega) (by omega) (by omega)
        have h2 := spec_loop s (by omega) b0 s.size k 0 (by omega) (by omega) (by omega) (by omega)
        have e3 : decide ((1 : Int) ≤ 0 ∧ bt s (0 - 1) = 10) = false := by simp
        rw [e3, both_eq] at h2
        simp only [Int.toNat_zero, List.drop_zero, Bool.false_and, Bool.false_or] at h1 h2
        rw [if_neg (by decide), h1, h2]
        cases dbl s.data.toList
        · exact ⟨plain s.data.toList, by simp, by simp⟩
        · exact ⟨false, by simp, by simp⟩
  · rw [if_neg c]
    simp only [spec_l12Text.j0, impl_textOk.j0]
    refine ⟨false, ?_, by simp⟩
    by_cases c1 : (s.size : Int) < 1
    · rw [if_pos c1]; simp
    · rw [if_neg c1, if_pos (by omega)]; simp

def conv (x : S40) : S38 := ⟨x.f0, x.f1, x.f2⟩

theorem rd40 (l : List S40) (i : Int) (x : S40) (h : l[i.toNat]? = some x) : rd_T40 l i = x := by
  unfold rd_T40
  rw [List.getD_eq_getElem?_getD, h]
  rfl

theorem to_titles (l : List S40) (hl : l.length ≤ 1048576) (k : Nat) (hk : 1048577 ≤ k) : laws_toTitleS.f k l = some (l.map conv) := by
  unfold laws_toTitleS.f
  rw [if_pos (by omega), if_pos (by omega)]
  have h := set_to (fun k acc i => laws_toTitleS.l0 k l acc i) l conv (by
    intro k acc i x h0 hx ha
    have hlt : i.toNat < l.length := (List.getElem?_eq_some_iff.1 hx).1
    simp only [laws_toTitleS.l0]
    rw [if_pos (by omega), if_pos h0, rd40 l i x hx]
    unfold laws_toTitle.f
    simp only [Option.bind_some]
    rw [if_pos (by omega)]
    have hw : wrap64 (i + 1) = i + 1 := by unfold wrap64; omega
    rw [hw]
    rfl) (by
    intro k acc
    simp only [laws_toTitleS.l0]
    rw [if_neg (by omega)]) l.length k (List.replicate ((l.length : Int)).toNat z38) 0 (by omega) (by omega) (by omega) (by omega) (by simp)
  rw [h]
  simp

theorem eq_titles (l : List S38) (hl : l.length ≤ 1048576) (k : Nat) (hk : 1048577 ≤ k) : laws_eqTitleS.f k l l = some true := by
  unfold laws_eqTitleS.f
  rw [if_pos rfl]
  exact run_to (fun k i => laws_eqTitleS.l0 k l l i) (l.length : Int) true (by
    intro k i h0 h1
    simp only [laws_eqTitleS.l0]
    rw [if_pos h1, if_pos h0, if_pos h1]
    unfold laws_eqTitle.f
    have hw : wrap64 (i + 1) = i + 1 := by unfold wrap64; omega
    simp [hw]) (by
    intro k
    simp only [laws_eqTitleS.l0]
    rw [if_neg (by omega)]) l.length k 0 (by omega) (by omega) (by omega) (by omega)

/-- The sizes, added up: none, or at least as many rounds as there are titles. -/
theorem sz_titles (l : List S40) (hs : ∀ x ∈ l, x.f2.size ≤ maxLen) (hl : l.length ≤ maxLen) (k : Nat) (hk : 1048577 ≤ k) : ∃ v, laws_szTitleS.f k l 1048576 = some v ∧ (v < 0 ∨ l.length ≤ 1048576) := by
  unfold laws_szTitleS.f
  by_cases c : wrap64 (1048576 - (l.length : Int)) < 0
  · rw [if_pos c]
    exact ⟨-1, rfl, .inl (by omega)⟩
  · rw [if_neg c]
    unfold maxLen at hl hs
    have hw : wrap64 (1048576 - (l.length : Int)) = 1048576 - (l.length : Int) := by unfold wrap64; omega
    rw [hw] at c ⊢
    have key : ∀ (d k : Nat) (v i : Int), 0 ≤ v → v ≤ 1048576 → 0 ≤ i → i ≤ l.length → (l.length : Int) - i = d → d < k → ∃ r, laws_szTitleS.l0 k l v i = some r := by
      intro d
      induction d with
      | zero =>
        intro k v i _ _ h0 h1 hd hk
        obtain ⟨k, rfl⟩ : ∃ m, k = m + 1 := ⟨k - 1, by omega⟩
        exact ⟨v, by simp only [laws_szTitleS.l0]; rw [if_neg (by omega)]⟩
      | succ d ih =>
        intro k v i hv hv2 h0 h1 hd hk
        obtain ⟨k, rfl⟩ : ∃ m, k = m + 1 := ⟨k - 1, by omega⟩
        have hw : wrap64 (i + 1) = i + 1 := by unfold wrap64; omega
        have hlt : i.toNat < l.length := by omega
        have hx : l[i.toNat]? = some l[i.toNat] := List.getElem?_eq_getElem hlt
        have hm := hs _ (List.getElem_mem hlt)
        simp only [laws_szTitleS.l0]
        rw [if_pos (by omega), if_pos h0, rd40 l i _ hx, hw]
        unfold laws_szTitle.f
        by_cases c2 : wrap64 (v - (l[i.toNat].f2.size : Int)) < 0
        · rw [if_pos c2]
          exact ⟨-1, by simp⟩
        · rw [if_neg c2]
          have e : wrap64 (v - (l[i.toNat].f2.size : Int)) = v - (l[i.toNat].f2.size : Int) := by unfold wrap64; omega
          rw [e] at c2 ⊢
          simp only [Option.bind_some]
          rw [if_neg c2]
          exact ih k _ (i + 1) (by omega) (by omega) (by omega) (by omega) (by omega) (by omega)
    obtain ⟨r, hr⟩ := key l.length k (1048576 - (l.length : Int)) 0 (by omega) (by omega) (by omega) (by omega) (by omega) (by omega)
    exact ⟨r, hr, .inr (by omega)⟩

/-- The program goes on to the end and asks there how many they are; the reference asks first. -/
theorem titles_loop (l : List S38) (hl : l.length ≤ 1048576) : ∀ (d k : Nat) (i : Int), 0 ≤ i → i ≤ l.length → (l.length : Int) - i = d → d + 202 < k →
    ∃ r, spec_TitlesOk.l0 k l i = some r ∧ impl_TitlesOk.l0 k l l (l.length : Int) i = some (r && decide ((l.length : Int) ≤ 200)) := by
  intro d
  induction d with
  | zero =>
    intro k i h0 h1 hd hk
    obtain ⟨k, rfl⟩ : ∃ m, k = m + 1 := ⟨k - 1, by omega⟩
    refine ⟨true, by simp only [spec_TitlesOk.l0]; rw [if_neg (by omega)], ?_⟩
    simp only [impl_TitlesOk.l0]
    rw [if_neg (by omega)]
    simp
  | succ d ih =>
    intro k i h0 h1 hd hk
    obtain ⟨k, rfl⟩ : ∃ m, k = m + 1 := ⟨k - 1, by omega⟩
    have hw : wrap64 (i + 1) = i + 1 := by unfold wrap64; omega
    have hlt : i < (l.length : Int) := by omega
    obtain ⟨r, h2, h3⟩ := ih k (i + 1) (by omega) (by omega) (by omega) (by omega)
    obtain ⟨t, h4, h5⟩ := text_eq (rd_T38 l i).f2 k (by omega)
    simp only [spec_TitlesOk.l0, impl_TitlesOk.l0]
    rw [if_pos hlt, if_pos h0, if_pos hlt, if_pos h0, if_pos hlt, hw, h2, h3, h4, h5]
    unfold impl_Title_timesOk.f
    by_cases c1 : (rd_T38 l i).f0 < 0
    · rw [if_pos c1, if_neg (show ¬ 0 ≤ (rd_T38 l i).f0 by omega)]
      exact ⟨false, rfl, by simp⟩
    · rw [if_neg c1, if_pos (show 0 ≤ (rd_T38 l i).f0 by omega)]
      by_cases c2 : (rd_T38 l i).f0 ≥ (rd_T38 l i).f1
      · rw [if_pos c2, if_neg (show ¬ (rd_T38 l i).f0 < (rd_T38 l i).f1 by omega)]
        exact ⟨false, rfl, by simp⟩
      · rw [if_neg c2, if_pos (show (rd_T38 l i).f0 < (rd_T38 l i).f1 by omega)]
        by_cases c3 : (rd_T38 l i).f1 > 359999999
        · rw [if_pos c3]
          refine ⟨false, rfl, ?_⟩
          simp only [Option.bind_some]
          rw [if_neg (by simp; omega)]
          simp
        · rw [if_neg c3]
          simp only [Option.bind_some]
          rw [if_pos (show decide ((rd_T38 l i).f1 ≤ 359999999) = true by simp; omega)]
          cases t
          · refine ⟨false, by simp, by simp⟩
          · simp only [if_true]
            by_cases c4 : i > 0
            · have hv : wrap64 (i - 1) = i - 1 := by unfold wrap64; omega
              rw [if_pos c4, if_pos c4, hv, if_pos (show 0 ≤ i - 1 by omega), if_pos (show i - 1 < (l.length : Int) by omega), if_pos (show 0 ≤ i - 1 by omega), if_pos (show i - 1 < (l.length : Int) by omega)]
              by_cases c5 : (rd_T38 l i).f0 < (rd_T38 l (i - 1)).f1
              · rw [if_pos c5, if_pos c5]
                exact ⟨false, rfl, by simp⟩
              · rw [if_neg c5, if_neg c5]
                exact ⟨r, rfl, rfl⟩
            · rw [if_neg c4, if_neg c4]
              exact ⟨r, rfl, rfl⟩

theorem titles_eq (l : List S38) (hl : l.length ≤ 1048576) (k : Nat) (hk : 1048780 ≤ k) : ∃ r, spec_TitlesOk.f k l = some r ∧ impl_TitlesOk.f k l = some r := by
  obtain ⟨r, h1, h2⟩ := titles_loop l hl l.length k 0 (by omega) (by omega) (by omega) (by omega)
  unfold spec_TitlesOk.f impl_TitlesOk.f
  rw [h2]
  by_cases c : (l.length : Int) > 200
  · rw [if_pos c]
    refine ⟨false, rfl, ?_⟩
    have : decide ((l.length : Int) ≤ 200) = false := by simp; omega
    rw [this, Bool.and_false]
  · rw [if_neg c, h1]
    refine ⟨r, rfl, ?_⟩
    have : decide ((l.length : Int) ≤ 200) = true := by simp; omega
    rw [this, Bool.and_true]

theorem rd38 (l : List S38) (i : Int) (x : S38) (h : l[i.toNat]? = some x) : rd_T38 l i = x := by
  unfold rd_T38
  rw [List.getD_eq_getElem?_getD, h]
  rfl

/-- A mark's text is told in as many rounds as the number has digits. -/
theorem text_some (d : Nat) : ∀ (n : Int) (s : ByteArray), 0 ≤ n → n < 10 ^ d → n ≤ 1000000000 → s.size + d ≤ 1000 → ∃ r, laws_markText.l0 (d + 1) n s = some r := by
  induction d with
  | zero =>
    intro n s h0 h1 hb hs
    simp only [laws_markText.l0]
    have : (10 : Int) ^ 0 = 1 := rfl
    rw [if_neg (by omega), if_pos (by omega)]
    exact ⟨_, rfl⟩
  | succ d ih =>
    intro n s h0 h1 hb hs
    rw [laws_markText.l0]
    by_cases c : n > 0
    · rw [if_pos c]
      simp only [Option.bind_some]
      have hz : (strOfNums [wrap64 (48 + Int.tmod n 10) % 256]).size = 1 := by rw [strOfNums_size]; rfl
      rw [hz, if_pos (by omega), Int.tdiv_eq_ediv_of_nonneg h0]
      have hq : 0 ≤ n / 10 := Int.ediv_nonneg h0 (by omega)
      have e : (10 : Int) ^ (d + 1) = 10 ^ d * 10 := Int.pow_succ ..
      rw [e] at h1
      have hq2 : n / 10 < 10 ^ d := Int.ediv_lt_of_lt_mul (by omega) h1
      have hle : n / 10 ≤ n := Int.ediv_le_self _ h0
      have w : wrap64 (n / 10) = n / 10 := by unfold wrap64; omega
      rw [w]
      refine ih _ _ hq hq2 (by omega) ?_
      rw [ByteArray.size_append, hz]
      omega
    · rw [if_neg c, if_pos (by omega)]
      exact ⟨_, rfl⟩

theorem text_f (n : Int) (h0 : 0 ≤ n) (h1 : n ≤ 10000000) : ∃ r, laws_markText.f 20 n = some r := by
  unfold laws_markText.f
  by_cases c : n ≤ 0
  · rw [if_pos c]; exact ⟨_, rfl⟩
  · rw [if_neg c]
    exact text_some 19 n _ h0 (by omega) (by omega) (by decide)

/-- The texts of the marks. -/
def Texts (mt : Int → ByteArray) : Prop := ∀ n : Int, 0 ≤ n → n ≤ 10000000 → ∀ k, 20 ≤ k → laws_markText.f k n = some (mt n)
theorem texts : ∃ mt, Texts mt := by
  refine ⟨fun n => (laws_markText.f 20 n).getD ByteArray.empty, fun n h0 h1 k hk => ?_⟩
  obtain ⟨r, hr⟩ := text_f n h0 h1
  show laws_markText.f k n = some ((laws_markText.f 20 n).getD ByteArray.empty)
  rw [hr, Option.getD_some]
  exact at_rounds (g := fun k => laws_markText.f k n) (fun k => laws_markText.mono n k) hk hr

/-- The mark at a place. -/
def mk (mt : Int → ByteArray) (j : Nat) : S38 := ⟨1 + 3 * (j : Int), 2 + 3 * (j : Int), mt (3 + 3 * (j : Int))⟩

theorem rd_set (l : List S38) (i : Int) (v : S38) (h : i.toNat < l.length) : rd_T38 (l.set i.toNat v) i = v := rd38 _ _ _ (List.getElem?_set_self h)

theorem mark_run (mt : Int → ByteArray) (ht : Texts mt) (n : Nat) (hn : n ≤ 1048576) : ∀ (d k i : Nat) (l : List S38), l.length = n → n - i = d → i ≤ n → d + 20 < k → (∀ j, j < i → l[j]? = some (mk mt j)) →
    ∃ out, laws_markTitleS.l0 k l (1 + 3 * (i : Int)) (i : Int) = some (1 + 3 * (n : Int), out) ∧ out.length = n ∧ ∀ j, j < n → out[j]? = some (mk mt j) := by
  intro d
  induction d with
  | zero =>
    intro k i l hl hd hi hk hm
    obtain ⟨k, rfl⟩ : ∃ m, k = m + 1 := ⟨k - 1, by omega⟩
    obtain rfl : i = n := by omega
    refine ⟨l, ?_, hl, hm⟩
    simp only [laws_markTitleS.l0]
    rw [if_neg (by omega)]
  | succ d ih =>
    intro k i l hl hd hi hk hm
    obtain ⟨k, rfl⟩ : ∃ m, k = m + 1 := ⟨k - 1, by omega⟩
    have wr : ∀ a : Int, -9223372036854775808 ≤ a → a ≤ 9223372036854775807 → wrap64 a = a := fun a _ _ => by unfold wrap64; omega
    have hin : ((i : Int)).toNat = i := by omega
    simp only [laws_markTitleS.l0]
    rw [if_pos (by omega), if_pos (by omega), Option.bind_some, Option.bind_some]
    rw [wr (1 + 3 * (i : Int) + 1) (by omega) (by omega), wr (1 + 3 * (i : Int) + 1 + 1) (by omega) (by omega), wr (1 + 3 * (i : Int) + 1 + 1 + 1) (by omega) (by omega), wr ((i : Int) + 1) (by omega) (by omega)]
    rw [ht (1 + 3 * (i : Int) + 1 + 1) (by omega) (by omega) k (by omega), Option.bind_some]
    have L1 : (i : Int).toNat < l.length := by omega
    simp only [rd_set l (i : Int) _ L1, List.set_set]
    have e : (⟨1 + 3 * (i : Int), 1 + 3 * (i : Int) + 1, mt (1 + 3 * (i : Int) + 1 + 1)⟩ : S38) = mk mt i := by
      unfold mk
      rw [show 1 + 3 * (i : Int) + 1 = 2 + 3 * (i : Int) by omega, show 2 + 3 * (i : Int) + 1 = 3 + 3 * (i : Int) by omega]
    rw [e, hin]
    have := ih k (i + 1) (l.set i (mk mt i)) (by simpa using hl) (by omega) (by omega) (by omega) (fun j hj => by
      by_cases q : j = i
      · subst q
        exact List.getElem?_set_self (by omega)
      · rw [List.getElem?_set_ne (fun h => q h.symm)]
        exact hm j (by omega))
    rw [show (1 + 3 * ((i + 1 : Nat) : Int)) = 1 + 3 * (i : Int) + 1 + 1 + 1 by omega, show ((i + 1 : Nat) : Int) = (i : Int) + 1 by omega] at this
    exact this

theorem held_run (mt : Int → ByteArray) (ht : Texts mt) (n : Nat) (hn : n ≤ 1048576) (l : List S38) (hl : l.length = n) (hm : ∀ j, j < n → l[j]? = some (mk mt j)) : ∀ (d k i : Nat), n - i = d → i ≤ n → d + 20 < k →
    laws_heldTitleS.l0 k l (1 + 3 * (i : Int)) (i : Int) = some (1 + 3 * (n : Int)) := by
  intro d
  induction d with
  | zero =>
    intro k i hd hi hk
    obtain ⟨k, rfl⟩ : ∃ m, k = m + 1 := ⟨k - 1, by omega⟩
    obtain rfl : i = n := by omega
    simp only [laws_heldTitleS.l0]
    rw [if_neg (by omega)]
  | succ d ih =>
    intro k i hd hi hk
    obtain ⟨k, rfl⟩ : ∃ m, k = m + 1 := ⟨k - 1, by omega⟩
    have wr : ∀ a : Int, -9223372036854775808 ≤ a → a ≤ 9223372036854775807 → wrap64 a = a := fun a _ _ => by unfold wrap64; omega
    have hr : rd_T38 l (i : Int) = mk mt i := rd38 l _ _ (by rw [show ((i : Int)).toNat = i by omega]; exact hm i (by omega))
    simp only [laws_heldTitleS.l0]
    rw [if_pos (by omega), if_pos (by omega), hr, wr (1 + 3 * (i : Int) + 1) (by omega) (by omega), wr (1 + 3 * (i : Int) + 1 + 1) (by omega) (by omega), wr (1 + 3 * (i : Int) + 1 + 1 + 1) (by omega) (by omega), wr ((i : Int) + 1) (by omega) (by omega)]
    rw [ht (1 + 3 * (i : Int) + 1 + 1) (by omega) (by omega) k (by omega), Option.bind_some]
    unfold mk
    rw [if_pos (by show (1 + 3 * (i : Int)) = _; omega), if_pos (by show (2 + 3 * (i : Int)) = _; omega), if_pos (by show (mt (3 + 3 * (i : Int))).toList = _; rw [show 1 + 3 * (i : Int) + 1 + 1 = 3 + 3 * (i : Int) by omega])]
    have := ih k (i + 1) (by omega) (by omega) (by omega)
    rw [show (1 + 3 * ((i + 1 : Nat) : Int)) = 1 + 3 * (i : Int) + 1 + 1 + 1 by omega, show ((i + 1 : Nat) : Int) = (i : Int) + 1 by omega] at this
    exact this

theorem mark_held (l : List S38) (hn : l.length ≤ 1048576) (k : Nat) (hk : 1048600 ≤ k) : ∃ out, laws_markTitleS.f k l 1 = some (1 + 3 * (l.length : Int), out) ∧ ∀ k', 1048600 ≤ k' → laws_heldTitleS.f k' out 1 = some (1 + 3 * (l.length : Int)) := by
  obtain ⟨mt, ht⟩ := texts
  obtain ⟨out, a, b, c⟩ := mark_run mt ht l.length hn l.length k 0 l rfl (by omega) (by omega) (by omega) (fun j hj => by omega)
  refine ⟨out, a, fun k' hk' => ?_⟩
  exact held_run mt ht l.length hn out b c l.length k' 0 (by omega) (by omega) (by omega)

/-- What TitlesOk's 'yes' tells of each title. -/
structure Good (l : List S38) (j : Int) : Prop where
  a0 : 0 ≤ (rd_T38 l j).f0
  a1 : (rd_T38 l j).f0 < (rd_T38 l j).f1
  a2 : (rd_T38 l j).f1 ≤ 359999999
  up : 0 < j → (rd_T38 l (j - 1)).f1 ≤ (rd_T38 l j).f0
  text : ∃ k, spec_l12Text.f k (rd_T38 l j).f2 = some true

theorem titles_true (l : List S38) (hl : l.length ≤ 1048576) : ∀ (k : Nat) (i : Int), 0 ≤ i → spec_TitlesOk.l0 k l i = some true → ∀ j, i ≤ j → j < (l.length : Int) → Good l j
  | 0, i, _, h, _, _, _ => by simp [spec_TitlesOk.l0] at h
  | k + 1, i, hi, h, j, hj, hjl => by
    simp only [spec_TitlesOk.l0] at h
    have hw : wrap64 (i + 1) = i + 1 := by unfold wrap64; omega
    rw [if_pos (by omega), if_pos hi, hw] at h
    by_cases c1 : (rd_T38 l i).f0 < 0
    · rw [if_pos c1] at h; simp at h
    rw [if_neg c1] at h
    by_cases c2 : (rd_T38 l i).f0 ≥ (rd_T38 l i).f1
    · rw [if_pos c2] at h; simp at h
    rw [if_neg c2] at h
    by_cases c3 : (rd_T38 l i).f1 > 359999999
    · rw [if_pos c3] at h; simp at h
    rw [if_neg c3] at h
    obtain ⟨t, ht, h⟩ := Option.bind_eq_some_iff.1 h
    cases t
    · simp at h
    simp only [if_true] at h
    by_cases c4 : i > 0
    · have hv : wrap64 (i - 1) = i - 1 := by unfold wrap64; omega
      rw [if_pos c4, hv, if_pos (by omega), if_pos (by omega)] at h
      by_cases c5 : (rd_T38 l i).f0 < (rd_T38 l (i - 1)).f1
      · rw [if_pos c5] at h; simp at h
      rw [if_neg c5] at h
      by_cases e : j = i
      · subst e
        exact ⟨by omega, by omega, by omega, fun _ => by omega, k, ht⟩
      · exact titles_true l hl k (i + 1) (by omega) h j (by omega) hjl
    · rw [if_neg c4] at h
      by_cases e : j = i
      · subst e
        exact ⟨by omega, by omega, by omega, fun q => by omega, k, ht⟩
      · exact titles_true l hl k (i + 1) (by omega) h j (by omega) hjl

theorem ok_true (l : List S38) (hl : l.length ≤ 1048576) (k : Nat) (h : spec_TitlesOk.f k l = some true) : l.length ≤ 200 ∧ ∀ j : Int, 0 ≤ j → j < (l.length : Int) → Good l j := by
  unfold spec_TitlesOk.f at h
  by_cases c : (l.length : Int) > 200
  · rw [if_pos c] at h; simp at h
  · rw [if_neg c] at h
    exact ⟨by omega, fun j h0 h1 => titles_true l hl k 0 (by omega) h j h0 h1⟩

/-- A title, moved. -/
def sh (b : Int) (x : S38) : S38 := ⟨x.f0 + b, x.f1 + b, x.f2⟩
/-- May it be shown then? -/
def okAt (b : Int) (x : S38) : Bool := decide (0 ≤ x.f0 + b) && decide (x.f1 + b ≤ 359999999)

theorem rd_get (l : List S38) (i : Int) (h0 : 0 ≤ i) (h1 : i < (l.length : Int)) : l[i.toNat]? = some (rd_T38 l i) := by
  have hlt : i.toNat < l.length := by omega
  have hx : l[i.toNat]? = some l[i.toNat] := List.getElem?_eq_getElem hlt
  rw [hx, rd38 l i _ hx]

theorem drop_rd (l : List S38) (i : Int) (h0 : 0 ≤ i) (h1 : i < (l.length : Int)) : l.drop i.toNat = rd_T38 l i :: l.drop (i + 1).toNat := by
  have h := rd_get l i h0 h1
  have hlt : i.toNat < l.length := by omega
  rw [List.drop_eq_getElem_cons hlt]
  have e : (i + 1).toNat = i.toNat + 1 := by omega
  rw [e]
  congr 1
  rw [List.getElem?_eq_getElem hlt] at h
  exact Option.some.inj h

/-- The program's loop. -/
theorem impl_delay (l : List S38) (b : Int) (hb : -359999999 ≤ b ∧ b ≤ 359999999) (hl : l.length ≤ 200) (hg : ∀ j : Int, 0 ≤ j → j < (l.length : Int) → Good l j) : ∀ (d k : Nat) (acc : List S38) (i : Int), 0 ≤ i → i ≤ l.length → (l.length : Int) - i = d → d < k → (acc.length : Int) = i →
    impl_Delay.l0 k b acc l (l.length : Int) i = some (if ((l.drop i.toNat).all (okAt b)) = true then (acc ++ (l.drop i.toNat).map (sh b), true) else ([], false)) := by
  intro d
  induction d with
  | zero =>
    intro k acc i h0 h1 hd hk ha
    obtain ⟨k, rfl⟩ : ∃ m, k = m + 1 := ⟨k - 1, by omega⟩
    simp only [impl_Delay.l0]
    rw [if_neg (by omega), List.drop_of_length_le (by omega)]
    simp
  | succ d ih =>
    intro k acc i h0 h1 hd hk ha
    obtain ⟨k, rfl⟩ : ∃ m, k = m + 1 := ⟨k - 1, by omega⟩
    have hlt : i < (l.length : Int) := by omega
    have hw : wrap64 (i + 1) = i + 1 := by unfold wrap64; omega
    have g := hg i h0 hlt
    have g0 := g.a0; have g1 := g.a1; have g2 := g.a2
    have w0 : wrap64 ((rd_T38 l i).f0 + b) = (rd_T38 l i).f0 + b := by unfold wrap64; omega
    have w1 : wrap64 ((rd_T38 l i).f1 + b) = (rd_T38 l i).f1 + b := by unfold wrap64; omega
    simp only [impl_Delay.l0]
    rw [if_pos hlt, if_pos h0, if_pos hlt, w0, w1, hw, drop_rd l i h0 hlt]
    unfold impl_Title_timesOk.f
    rw [List.all_cons, List.map_cons]
    by_cases c0 : 0 ≤ (rd_T38 l i).f0 + b
    · rw [if_pos c0, if_pos (by omega)]
      simp only [Option.bind_some, decide_eq_true_eq]
      by_cases c1 : (rd_T38 l i).f1 + b ≤ 359999999
      · have ho : okAt b (rd_T38 l i) = true := by simp [okAt, c0, c1]
        rw [if_pos c1, if_pos (by omega), ho, ih k _ (i + 1) (by omega) (by omega) (by omega) (by omega) (by simp; omega)]
        simp [sh]
      · have ho : okAt b (rd_T38 l i) = false := by simp [okAt, c1]
        rw [if_neg c1, ho]
        simp
    · have ho : okAt b (rd_T38 l i) = false := by simp [okAt, c0]
      rw [if_neg c0, ho]
      simp

/-- The reference's loop: all are moved, and then it asks. -/
theorem spec_delay (l : List S38) (b : Int) (hb : -359999999 ≤ b ∧ b ≤ 359999999) (hl : l.length ≤ 200) (hg : ∀ j : Int, 0 ≤ j → j < (l.length : Int) → Good l j) (r : Bool) (hr : ∀ k, 1000 ≤ k → spec_TitlesOk.f k (l.map (sh b)) = some r) :
    ∀ (d k : Nat) (acc : List S38) (i : Int), 0 ≤ i → i ≤ l.length → (l.length : Int) - i = d → d + 1000 < k → acc = (l.take i.toNat).map (sh b) →
    spec_Delay.l0 k l b acc i = some (if r = true then (l.map (sh b), true) else ([], false)) := by
  intro d
  induction d with
  | zero =>
    intro k acc i h0 h1 hd hk ha
    obtain ⟨k, rfl⟩ : ∃ m, k = m + 1 := ⟨k - 1, by omega⟩
    have e : acc = l.map (sh b) := by rw [ha, List.take_of_length_le (by omega)]
    simp only [spec_Delay.l0]
    rw [if_neg (by omega), e, hr k (by omega)]
    cases r <;> simp
  | succ d ih =>
    intro k acc i h0 h1 hd hk ha
    obtain ⟨k, rfl⟩ : ∃ m, k = m + 1 := ⟨k - 1, by omega⟩
    have hlt : i < (l.length : Int) := by omega
    have hw : wrap64 (i + 1) = i + 1 := by unfold wrap64; omega
    have g := hg i h0 hlt
    have g0 := g.a0; have g1 := g.a1; have g2 := g.a2
    have w0 : wrap64 ((rd_T38 l i).f0 + b) = (rd_T38 l i).f0 + b := by unfold wrap64; omega
    have w1 : wrap64 ((rd_T38 l i).f1 + b) = (rd_T38 l i).f1 + b := by unfold wrap64; omega
    have hal : acc.length = i.toNat := by rw [ha]; simp; omega
    simp only [spec_Delay.l0]
    rw [if_pos hlt, if_pos h0, if_pos (by omega), w0, w1, hw]
    refine ih k _ (i + 1) (by omega) (by omega) (by omega) (by omega) ?_
    have e : (i + 1).toNat = i.toNat + 1 := by omega
    rw [e, List.take_add_one, rd_get l i h0 hlt, ha]
    simp [sh]

/-- TitlesOk of the moved ones. -/
theorem moved_ok (l : List S38) (b : Int) (hb : -359999999 ≤ b ∧ b ≤ 359999999) (hl : l.length ≤ 200) (hg : ∀ j : Int, 0 ≤ j → j < (l.length : Int) → Good l j) : ∀ (d k : Nat) (i : Int), 0 ≤ i → i ≤ l.length → (l.length : Int) - i = d → d + 202 < k →
    spec_TitlesOk.l0 k (l.map (sh b)) i = some ((l.drop i.toNat).all (okAt b)) := by
  have hrd : ∀ i : Int, 0 ≤ i → i < (l.length : Int) → rd_T38 (l.map (sh b)) i = sh b (rd_T38 l i) := by
    intro i h0 h1
    refine rd38 _ _ _ ?_
    rw [List.getElem?_map, rd_get l i h0 h1]
    rfl
  intro d
  induction d with
  | zero =>
    intro k i h0 h1 hd hk
    obtain ⟨k, rfl⟩ : ∃ m, k = m + 1 := ⟨k - 1, by omega⟩
    simp only [spec_TitlesOk.l0, List.length_map]
    rw [if_neg (by omega), List.drop_of_length_le (by omega)]
    rfl
  | succ d ih =>
    intro k i h0 h1 hd hk
    obtain ⟨k, rfl⟩ : ∃ m, k = m + 1 := ⟨k - 1, by omega⟩
    have hlt : i < (l.length : Int) := by omega
    have hw : wrap64 (i + 1) = i + 1 := by unfold wrap64; omega
    have g := hg i h0 hlt
    have g0 := g.a0; have g1 := g.a1; have g2 := g.a2
    obtain ⟨r, t1, t2⟩ := text_eq (rd_T38 l i).f2 k (by omega)
    have hr : r = true := by
      obtain ⟨k2, h2⟩ := g.text
      have a := at_rounds (g := fun k => spec_l12Text.f k (rd_T38 l i).f2) (fun k => spec_l12Text.mono _ k) (Nat.le_max_left k k2) t1
      have c := at_rounds (g := fun k => spec_l12Text.f k (rd_T38 l i).f2) (fun k => spec_l12Text.mono _ k) (Nat.le_max_right k k2) h2
      exact Option.some.inj (a.symm.trans c)
    subst hr
    obtain ⟨y, hy⟩ : ∃ y, y = sh b (rd_T38 l i) := ⟨_, rfl⟩
    have y0 : y.f0 = (rd_T38 l i).f0 + b := by rw [hy]; rfl
    have y1 : y.f1 = (rd_T38 l i).f1 + b := by rw [hy]; rfl
    have y2 : y.f2 = (rd_T38 l i).f2 := by rw [hy]; rfl
    simp only [spec_TitlesOk.l0, List.length_map]
    rw [if_pos hlt, if_pos h0, hrd i h0 hlt, ← hy, y2, t1, hw, ih k (i + 1) (by omega) (by omega) (by omega) (by omega), drop_rd l i h0 hlt, List.all_cons]
    by_cases c0 : y.f0 < 0
    · have ho : okAt b (rd_T38 l i) = false := by
        have : ¬ 0 ≤ (rd_T38 l i).f0 + b := by omega
        simp [okAt, this]
      rw [if_pos c0, ho]
      rfl
    · rw [if_neg c0, if_neg (show ¬ y.f0 ≥ y.f1 by omega)]
      by_cases c1 : y.f1 > 359999999
      · have ho : okAt b (rd_T38 l i) = false := by
          have : ¬ (rd_T38 l i).f1 + b ≤ 359999999 := by omega
          simp [okAt, this]
        rw [if_pos c1, ho]
        rfl
      · have ho : okAt b (rd_T38 l i) = true := by
          have : 0 ≤ (rd_T38 l i).f0 + b := by omega
          have : (rd_T38 l i).f1 + b ≤ 359999999 := by omega
          simp [okAt, *]
        rw [if_neg c1, ho]
        simp only [Option.bind_some, if_true, Bool.true_and]
        by_cases c4 : i > 0
        · have hv : wrap64 (i - 1) = i - 1 := by unfold wrap64; omega
          have hu := g.up (by omega)
          have z1 : (sh b (rd_T38 l (i - 1))).f1 = (rd_T38 l (i - 1)).f1 + b := rfl
          rw [if_pos c4, hv, if_pos (show 0 ≤ i - 1 by omega), if_pos (show i - 1 < (l.length : Int) by omega), hrd (i - 1) (by omega) (by omega), if_neg (show ¬ y.f0 < (sh b (rd_T38 l (i - 1))).f1 by omega)]
        · rw [if_neg c4]

/-- Both move titles alike. -/
theorem delay_eq (l : List S38) (b : Int) (hl : l.length ≤ 1048576) (k : Nat) (hk : 1048800 ≤ k) : ∃ r : List S38 × Bool, spec_Delay.f k l b = some r ∧ impl_Delay.f k l b = some r ∧ r.1.length ≤ 200 ∧
    (r.2 = true → r.1 = l.map (sh b) ∧ l.length ≤ 200 ∧ (∀ j : Int, 0 ≤ j → j < (l.length : Int) → Good l j) ∧ (-359999999 ≤ b ∧ b ≤ 359999999) ∧ l.all (okAt b) = true) := by
  obtain ⟨k, rfl⟩ : ∃ m, k = m + 1 := ⟨k - 1, by omega⟩
  obtain ⟨t, h1, h2⟩ := titles_eq l hl (k + 1) (by omega)
  unfold spec_Delay.f impl_Delay.f
  simp only [Option.bind_some]
  rw [h1, h2]
  simp only [Option.bind_some]
  cases t
  · refine ⟨([], false), by simp [spec_Delay.j0], by simp [impl_Delay.j0], by simp, by simp⟩
  · obtain ⟨n2, hg⟩ := ok_true l hl (k + 1) h1
    simp only [if_true]
    have hin : ∀ a b c : Int, spec_l1In.f a b c = impl_in.f a b c := fun a b c => rfl
    rw [hin, in_some]
    simp only [Option.bind_some, spec_Delay.j0, impl_Delay.j0]
    by_cases c : -359999999 ≤ b ∧ b ≤ 359999999
    · have hd : (!decide (-359999999 ≤ b ∧ b ≤ 359999999)) = false := by simp [c]
      rw [hd, if_neg (by decide), if_neg (by decide)]
      have hr : ∀ k, 1000 ≤ k → spec_TitlesOk.f k (l.map (sh b)) = some (l.all (okAt b)) := by
        intro k hk
        unfold spec_TitlesOk.f
        rw [List.length_map, if_neg (by omega), moved_ok l b c n2 hg l.length k 0 (by omega) (by omega) (by omega) (by omega)]
        simp
      have a1 := impl_delay l b c n2 hg l.length k [] 0 (by omega) (by omega) (by omega) (by omega) (by simp)
      have a2 := spec_delay l b c n2 hg _ hr l.length k [] 0 (by omega) (by omega) (by omega) (by omega) (by simp)
      rw [a1, a2]
      simp only [Int.toNat_zero, List.drop_zero, List.nil_append]
      refine ⟨_, rfl, rfl, ?_, ?_⟩
      · split
        · simpa using n2
        · simp
      · split
        · rename_i q
          intro _
          exact ⟨rfl, n2, hg, c, q⟩
        · intro q; cases q
    · have hd : (!decide (-359999999 ≤ b ∧ b ≤ 359999999)) = true := by simp [c]
      rw [hd]
      exact ⟨([], false), by simp, by simp, by simp, by simp⟩

theorem FnExactDelay (l0 : List PFnExactDelay.S40) (a1 : Int) (w0 : (l0.length ≤ maxLen ∧ ∀ y2 ∈ l0, ((Lit.int .i64 y2.f0).wf = true) ∧ (((Lit.int .i64 y2.f1).wf = true) ∧ (y2.f2.size ≤ maxLen)))) (w1 : (Lit.int .i64 a1).wf = true) : ∃ k, PFnExactDelay.laws_FnExactDelay.f k l0 a1 = some true := by
  obtain ⟨k, hk⟩ : ∃ k, k = 1048900 := ⟨_, rfl⟩
  obtain ⟨v, hv, hn⟩ := sz_titles l0 (fun x hx => (w0.2 x hx).2.2) w0.1 (k + 3) (by omega)
  refine ⟨k + 3, ?_⟩
  unfold laws_FnExactDelay.f
  rw [hv]
  simp only [Option.bind_some]
  by_cases c : v < 0
  · rw [if_pos c]
  · have hl : l0.length ≤ 1048576 := by omega
    have hl2 : (l0.map conv).length ≤ 1048576 := by simpa using hl
    rw [if_neg c, to_titles l0 hl (k + 3) (by omega)]
    simp only [Option.bind_some]
    obtain ⟨⟨g, b⟩, h1, h2, h3, _⟩ := delay_eq (l0.map conv) a1 hl2 (k + 3) (by omega)
    simp only at h3
    obtain ⟨⟨g', b'⟩, _, h5, _, _⟩ := delay_eq (l0.map conv) a1 hl2 (k + 1) (by omega)
    have e : (g', b') = (g, b) := by
      have a := at_rounds (g := fun k => impl_Delay.f k (l0.map conv) a1) (fun k => impl_Delay.mono _ _ k) (show k + 1 ≤ k + 3 by omega) h5
      exact Option.some.inj (a.symm.trans h2)
    obtain ⟨rfl, rfl⟩ := Prod.mk.inj e
    rw [h1, h2]
    simp only [Option.bind_some]
    rw [eq_titles g' (by omega) (k + 3) (by omega)]
    simp only [Option.bind_some, if_true, bne_self_eq_false]
    rw [laws_FnExactDelay.j0, if_neg (by decide), to_titles l0 hl (k + 2) (by omega)]
    simp only [Option.bind_some]
    rw [eq_titles _ hl2 (k + 2) (by omega)]
    simp only [Option.bind_some, if_true]
    obtain ⟨o1, m1, _⟩ := mark_held (l0.map conv) hl2 (k + 2) (by omega)
    rw [m1]
    simp only [Option.bind_some]
    rw [if_neg (by omega), eq_titles g' (by omega) (k + 2) (by omega)]
    simp only [Option.bind_some, if_true, bne_self_eq_false]
    obtain ⟨o2, m2, q2⟩ := mark_held g' (by omega) (k + 1) (by omega)
    rw [laws_FnExactDelay.j1, if_neg (by decide), m2]
    simp only [Option.bind_some]
    rw [q2 (k + 1) (by omega)]
    simp only [Option.bind_some]
    rw [if_neg (by omega), to_titles l0 hl (k + 1) (by omega)]
    simp only [Option.bind_some, if_true]
    rw [h5]
    simp only [Option.bind_some]
    rw [eq_titles g' (by omega) (k + 1) (by omega)]
    simp only [Option.bind_some, if_true, bne_self_eq_false]
    rw [laws_FnExactDelay.j2, if_neg (by decide), q2 k (by omega)]
    simp only [Option.bind_some]
    rw [if_neg (by omega), if_pos trivial]

end Go.Proofs.Yteecflenkbmamaa.Pure
