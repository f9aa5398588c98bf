/- Proved: the plain law behind FnExactTitlesOk. No condition. -/
import Derived.Test.YteecflenkbmamaaPFnExactTitlesOkx5
namespace Go.Proofs.Yteecflenkbmamaa.Pure
open Go.RowKit Go.Proofs.Yteecflenkbmamaa.PFnExactTitlesOk Go.Proofs.YteecflenkbmamaaW.PrintWords Go.Proofs.YteecflenkbmamaaW.PrintLast

set_option linter.unusedVariables false
set_option linter.unusedSimpArgs false

theorem run_to {α : Type} (F : Nat → Int → Option α) (n : Int) (r : α) (step : ∀ k i, 0 ≤ i → i < n → F (k + 1) i = F k (i + 1)) (stop : ∀ k, F (k + 1) n = some r) :
    ∀ (d k : Nat) (i : Int), 0 ≤ i → i ≤ n → n - i = d → d < k → F k i = some r := by
  intro d
  induction d with
  | zero =>
    intro k i h0 h1 hd hk
    obtain ⟨k, rfl⟩ : ∃ m, k = m + 1 := ⟨k - 1, by omega⟩
    obtain rfl : i = n := by omega
    exact stop k
  | succ d ih =>
    intro k i h0 h1 hd hk
    obtain ⟨k, rfl⟩ : ∃ m, k = m + 1 := ⟨k - 1, by omega⟩
    rw [step k i h0 (by omega)]
    exact ih k (i + 1) (by omega) (by omega) (by omega) (by omega)

theorem set_to {α β : Type} (F : Nat → List β → Int → Option (List β)) (l : List α) (conv : α → β)
    (step : ∀ k acc i x, 0 ≤ i → l[i.toNat]? = some x → acc.length = l.length → F (k + 1) acc i = F k (acc.set i.toNat (conv x)) (i + 1)) (stop : ∀ k acc, F (k + 1) acc (l.length : Int) = some acc) :
    ∀ (d k : Nat) (acc : List β) (i : Int), 0 ≤ i → i ≤ l.length → (l.length : Int) - i = d → d < k → acc.length = l.length → F k acc i = some (acc.take i.toNat ++ (l.drop i.toNat).map conv) := by
  intro d
  induction d with
  | zero =>
    intro k acc i h0 h1 hd hk ha
    obtain ⟨k, rfl⟩ : ∃ m, k = m + 1 := ⟨k - 1, by omega⟩
    obtain rfl : i = (l.length : Int) := by omega
    rw [stop k]
    simp [← ha]
  | succ d ih =>
    intro k acc i h0 h1 hd hk ha
    obtain ⟨k, rfl⟩ : ∃ m, k = m + 1 := ⟨k - 1, by omega⟩
    have hlt : i.toNat < l.length := by omega
    have hx : l[i.toNat]? = some l[i.toNat] := List.getElem?_eq_getElem hlt
    rw [step k acc i _ h0 hx ha, ih k _ (i + 1) (by omega) (by omega) (by omega) (by omega) (by simpa using ha)]
    have e : (i + 1).toNat = i.toNat + 1 := by omega
    rw [e]
    congr 1
    rw [List.take_succ_eq_append_getElem (by simp; omega)]
    rw [List.drop_eq_getElem_cons hlt, List.map_cons, List.getElem_set_self, List.take_set_of_le (Nat.le_refl _), List.append_assoc]
    rfl

theorem in_some (a b c : Int) : impl_in.f a b c = some (decide (b ≤ a ∧ a ≤ c)) := by
  unfold impl_in.f
  by_cases h : b ≤ a
  · simp [h]
  · simp [h]

theorem bt_list (s : ByteArray) (i : Int) : bt s i = ((s.data.toList.getD i.toNat 0).toNat : Int) := by
  unfold bt
  split
  · rename_i h
    have h' : i.toNat < s.data.toList.length := by rw [← Lib.size_eq]; exact h
    rw [List.getD_eq_getElem?_getD, List.getElem?_eq_getElem h']
    rfl
  · rename_i h
    have h' : ¬ i.toNat < s.data.toList.length := by rw [← Lib.size_eq]; exact h
    rw [List.getD_eq_getElem?_getD, List.getElem?_eq_none (by omega)]
    rfl

theorem num10 (b : UInt8) : ((b.toNat : Int) = 10) ↔ b = 10 := by
  constructor
  · intro h
    apply UInt8.toNat_inj.mp
    have : (10 : UInt8).toNat = 10 := rfl
    omega
  · rintro rfl
    rfl

theorem num127 (b : UInt8) : ((b.toNat : Int) = 127) ↔ b = 127 := by
  constructor
  · intro h
    apply UInt8.toNat_inj.mp
    have : (127 : UInt8).toNat = 127 := rfl
    omega
  · rintro rfl
    rfl

/-- Two newlines, one behind the other. -/
def dbl : List UInt8 → Bool
  | [] => false
  | a :: l => (decide (a = 10) && decide (l.head? = some 10)) || dbl l
/-- No sign that is not allowed. -/
def plain : List UInt8 → Bool
  | [] => true
  | b :: l => if b = 10 then plain l else if (b.toNat : Int) < 32 then false else if b = 127 then false else plain l
/-- The same, and no two newlines one behind the other; p: a newline stands ahead. -/
def both (p : Bool) : List UInt8 → Bool
  | [] => true
  | b :: l => if b = 10 then (if p = true then false else both true l) else if (b.toNat : Int) < 32 then false else if b = 127 then false else both false l

theorem both_eq (l : List UInt8) : ∀ p, both p l = (plain l && !((p && decide (l.head? = some 10)) || dbl l)) := by
  induction l with
  | nil => intro p; simp [both, plain, dbl]
  | cons b l ih =>
    intro p
    unfold both plain dbl
    by_cases h : b = 10
    · subst h
      cases p
      · simp [ih]
      · simp
    · by_cases h2 : (b.toNat : Int) < 32
      · simp [h, h2]
      · by_cases h3 : b = 127
        · simp [h3]
        · simp [h, h2, h3, ih]

theorem contains_dbl (l : List UInt8) : Lib.contains l [10, 10] = dbl l := by
  unfold Lib.contains
  induction l with
  | nil => simp [Lib.index, dbl]
  | cons b l ih =>
    unfold Lib.index dbl
    have hg := Lib.index_ge l [10, 10]
    have hp : List.isPrefixOf [10, 10] (b :: l) = (decide (b = 10) && decide (l.head? = some 10)) := by
      cases l with
      | nil => simp [List.isPrefixOf]
      | cons c l =>
        simp only [List.isPrefixOf, List.head?_cons, Option.some.injEq, Bool.and_true]
        rw [Bool.eq_iff_iff]
        simp only [Bool.and_eq_true, beq_iff_eq, decide_eq_true_eq]
        exact ⟨fun h => ⟨h.1.symm, h.2.symm⟩, fun h => ⟨h.1.symm, h.2.symm⟩⟩
    rw [hp]
    by_cases c : (decide (b = 10) && decide (l.head? = some 10)) = true
    · rw [if_pos c, c]
      simp
    · have c' : (decide (b = 10) && decide (l.head? = some 10)) = false := by simpa using c
      rw [if_neg c, c', ← ih, Bool.false_or]
      by_cases z : (Lib.index l [10, 10] == -1) = true
      · rw [if_pos z]
        have : Lib.index l [10, 10] = -1 := by simpa using z
        rw [this]
      · rw [if_neg z]
        have z' : Lib.index l [10, 10] ≠ -1 := by simpa using z
        rw [Bool.eq_iff_iff]
        simp only [decide_eq_true_eq]
        omega

theorem drop_at (s : ByteArray) (i : Int) (h0 : 0 ≤ i) (h1 : i < (s.size : Int)) : s.data.toList.drop i.toNat = s.data.toList.getD i.toNat 0 :: s.data.toList.drop (i + 1).toNat := by
  have h' : i.toNat < s.data.toList.length := by rw [← Lib.size_eq]; omega
  rw [List.drop_eq_getElem_cons h', List.getD_eq_getElem?_getD, List.getElem?_eq_getElem h']
  have e : (i + 1).toNat = i.toNat + 1 := by omega
  rw [e]
  rfl

theorem impl_loop (s : ByteArray) (hs : s.size ≤ 200) : ∀ (d k : Nat) (i : Int), 0 ≤ i → i ≤ s.size → (s.size : Int) - i = d → d < k → impl_textOk.l0 k s (s.size : Int) i = some (plain (s.data.toList.drop i.toNat)) := by
  intro d
  induction d with
  | zero =>
    intro k i h0 h1 hd hk
    obtain ⟨k, rfl⟩ : ∃ m, k = m + 1 := ⟨k - 1, by omega⟩
    simp only [impl_textOk.l0]
    rw [if_neg (by omega), List.drop_of_length_le (by rw [← Lib.size_eq]; omega)]
    rfl
  | succ d ih =>
    intro k i h0 h1 hd hk
    obtain ⟨k, rfl⟩ : ∃ m, k = m + 1 := ⟨k - 1, by omega⟩
    have hlt : i < (s.size : Int) := by omega
    have hw : wrap64 (i + 1) = i + 1 := by unfold wrap64; omega
    simp only [impl_textOk.l0]
    rw [if_pos hlt, if_pos h0, if_pos hlt, hw, ih k (i + 1) (by omega) (by omega) (by omega) (by omega), drop_at s i h0 hlt, bt_list]
    generalize s.data.toList.getD i.toNat 0 = b
    unfold plain
    by_cases c : b = 10
    · rw [if_pos ((num10 b).mpr c), if_pos c]
      cases s.data.toList.drop (i + 1).toNat <;> rfl
    · rw [if_neg (fun h => c ((num10 b).mp h)), if_neg c]
      by_cases c2 : (b.toNat : Int) < 32
      · rw [if_pos c2, if_pos c2]
      · rw [if_neg c2, if_neg c2]
        by_cases c3 : b = 127
        · rw [if_pos ((num127 b).mpr c3), if_pos c3]
        · rw [if_neg (fun h => c3 ((num127 b).mp h)), if_neg c3]
          cases s.data.toList.drop (i + 1).toNat <;> rfl

theorem spec_loop (s : ByteArray) (hs : s.size ≤ 200) (hb : bt s 0 ≠ 10) : ∀ (d k : Nat) (i : Int), 0 ≤ i → i ≤ s.size → (s.size : Int) - i = d → d < k →
    spec_l12Text.l0 k s (s.size : Int) i = some (both (decide (1 ≤ i ∧ bt s (i - 1) = 10)) (s.data.toList.drop i.toNat)) := by
  intro d
  induction d with
  | zero =>
    intro k i h0 h1 hd hk
    obtain ⟨k, rfl⟩ : ∃ m, k = m + 1 := ⟨k - 1, by omega⟩
    simp only [spec_l12Text.l0]
    rw [if_neg (by omega), List.drop_of_length_le (by rw [← Lib.size_eq]; omega)]
    rfl
  | succ d ih =>
    intro k i h0 h1 hd hk
    obtain ⟨k, rfl⟩ : ∃ m, k = m + 1 := ⟨k - 1, by omega⟩
    have hlt : i < (s.size : Int) := by omega
    have hw : wrap64 (i + 1) = i + 1 := by unfold wrap64; omega
    have hv : wrap64 (i - 1) = i - 1 := by unfold wrap64; omega
    have hn := ih k (i + 1) (by omega) (by omega) (by omega) (by omega)
    have e1 : i + 1 - 1 = i := by omega
    rw [e1] at hn
    have e2 : decide (1 ≤ i + 1 ∧ bt s i = 10) = decide (bt s i = 10) := by simp [show 1 ≤ i + 1 by omega]
    rw [e2] at hn
    simp only [spec_l12Text.l0]
    rw [if_pos hlt, if_pos h0, if_pos hlt, hw, hv, hn, drop_at s i h0 hlt]
    by_cases c : bt s i = 10
    · have hi : 1 ≤ i := by
        by_cases z : i = 0
        · subst z; exact absurd c hb
        · omega
      have cb : s.data.toList.getD i.toNat 0 = 10 := (num10 _).mp (by rw [← bt_list]; exact c)
      rw [if_pos c, if_pos (by omega), if_pos (by omega), cb]
      have h127 : ¬ bt s i = 127 := by omega
      rw [if_neg h127]
      have hc : decide (bt s i = 10) = true := by simpa using c
      rw [hc]
      by_cases c2 : bt s (i - 1) = 10
      · have : decide (1 ≤ i ∧ bt s (i - 1) = 10) = true := by simp [hi, c2]
        rw [if_pos c2, this]
        unfold both
        simp
      · have : decide (1 ≤ i ∧ bt s (i - 1) = 10) = false := by simp [c2]
        rw [if_neg c2, this]
        conv => rhs; unfold both
        simp
    · have hc : decide (bt s i = 10) = false := by simpa using c
      rw [if_neg c, hc]
      rw [bt_list] at c ⊢
      generalize s.data.toList.getD i.toNat 0 = b at *
      conv => rhs; unfold both
      rw [if_neg (fun h => c ((num10 b).mpr h))]
      by_cases c2 : (b.toNat : Int) < 32
      · rw [if_pos c2, if_pos c2]
      · rw [if_neg c2, if_neg c2]
        by_cases c3 : b = 127
        · rw [if_pos ((num127 b).mpr c3), if_pos c3]
        · rw [if_neg (fun h => c3 ((num127 b).mp h)), if_neg c3]

theorem prefix10 (s : ByteArray) (h : 1 ≤ s.size) : strings_HasPrefix.f s (⟨#[10]⟩ : ByteArray) = some (decide (bt s 0 = 10)) := by
  unfold strings_HasPrefix.f stringslite_HasPrefix.f
  have e : ((⟨#[10]⟩ : ByteArray).size : Int) = 1 := rfl
  rw [e, if_pos (by omega), if_pos (by omega), if_pos (by omega)]
  simp only [Option.bind_some]
  rw [Lib.extract_toList, bt_list]
  have e2 : (⟨#[10]⟩ : ByteArray).toList = [10] := by rw [Lib.toList_data]
  rw [e2]
  cases hl : s.data.toList with
  | nil =>
    have : s.size = 0 := by rw [Lib.size_eq, hl]; rfl
    omega
  | cons b l =>
    simp only [num10, Int.toNat_zero, List.getD_cons_zero, List.drop_zero, Nat.sub_zero]
    rw [Option.some.injEq, Bool.eq_iff_iff]
    simp [num10]

theorem suffix10 (s : ByteArray) (h : 1 ≤ s.size) (h2 : s.size ≤ 200) : strings_HasSuffix.f s (⟨#[10]⟩ : ByteArray) = some (decide (bt s ((s.size : Int) - 1) = 10)) := by
  unfold strings_HasSuffix.f stringslite_HasSuffix.f
  have e : ((⟨#[10]⟩ : ByteArray).size : Int) = 1 := rfl
  have w : wrap64 ((s.size : Int) - 1) = (s.size : Int) - 1 := by unfold wrap64; omega
  rw [e, w, if_pos (by omega), if_pos (by omega), if_pos (by omega)]
  simp only [Option.bind_some]
  rw [Lib.extract_toList, bt_list]
  have e2 : (⟨#[10]⟩ : ByteArray).toList = [10] := by rw [Lib.toList_data]
  rw [e2]
  have e3 : ((s.size : Int) - 1).toNat = s.size - 1 := by omega
  rw [e3]
  have hl : s.size - 1 < s.data.toList.length := by rw [← Lib.size_eq]; omega
  rw [List.drop_eq_getElem_cons hl, List.getD_eq_getElem?_getD, List.getElem?_eq_getElem hl]
  have e4 : s.size - (s.size - 1) = 1 := by omega
  rw [e4, Option.some.injEq, Bool.eq_iff_iff]
  simp [num10]

/-- Both say the same of a text. -/
theorem text_eq (s : ByteArray) (k : Nat) (hk : 202 ≤ k) : ∃ r, spec_l12Text.f k s = some r ∧ impl_textOk.f k s = some r := by
  obtain ⟨k, rfl⟩ : ∃ m, k = m + 1 := ⟨k - 1, by omega⟩
  unfold spec_l12Text.f impl_textOk.f
  rw [in_some]
  simp only [Option.bind_some, decide_eq_true_eq]
  by_cases c : (1 ≤ (s.size : Int) ∧ (s.size : Int) ≤ 200)
  · rw [if_pos c, if_neg (by omega), if_neg (by omega), if_pos (by omega)]
    obtain ⟨c0, c1⟩ := c
    rw [prefix10 s (by omega)]
    simp only [Option.bind_some, decide_eq_true_eq]
    by_cases b0 : bt s 0 = 10
    · rw [if_pos b0, if_pos b0]
      simp only [spec_l12Text.j0, impl_textOk.j0]
      exact ⟨false, by simp, by simp⟩
    · rw [if_neg b0, if_neg b0]
      have w : wrap64 ((s.size : Int) - 1) = (s.size : Int) - 1 := by unfold wrap64; omega
      rw [w, if_pos (by omega), if_pos (by omega), suffix10 s (by omega) (by omega)]
      simp only [Option.bind_some, decide_eq_true_eq]
      by_cases b1 : bt s ((s.size : Int) - 1) = 10
      · rw [if_pos b1]
        simp only [spec_l12Text.j0, impl_textOk.j0, b1]
        exact ⟨false, by simp, by simp⟩
      · rw [if_neg b1]
        have hz : (bt s ((s.size : Int) - 1) == 10) = false := by simpa using b1
        rw [hz]
        unfold strings_Contains.f
        rw [if_pos (by omega)]
        simp only [Option.bind_some]
        rw [contains_dbl]
        simp only [spec_l12Text.j0, impl_textOk.j0]
        have h1 := impl_loop s (by omega) s.size k 0 (by omega) (by omega) (by omega) (by omega)
        have h2 := spec_loop s (by omega) b0 s.size k 0 (by omega) (by omega) (by omega) (by omega)
        have e3 : decide ((1 : Int) ≤ 0 ∧ bt s (0 - 1) = 10) = false := by simp
        rw [e3, both_eq] at h2
        simp only [Int.toNat_zero, List.drop_zero, Bool.false_and, Bool.false_or] at h1 h2
        rw [if_neg (by decide), h1, h2]
        cases dbl s.data.toList
        · exact ⟨plain s.data.toList, by simp, by simp⟩
        · exact ⟨false, by simp, by simp⟩
  · rw [if_neg c]
    simp only [spec_l12Text.j0, impl_textOk.j0]
    refine ⟨false, ?_, by simp⟩
    by_cases c1 : (s.size : Int) < 1
    · rw [if_pos c1]; simp
    · rw [if_neg c1, if_pos (by omega)]; simp

def conv (x : S40) : S38 := ⟨x.f0, x.f1, x.f2⟩

theorem rd40 (l : List S40) (i : Int) (x : S40) (h : l[i.toNat]? = some x) : rd_T40 l i = x := by
  unfold rd_T40
  rw [List.getD_eq_getElem?_getD, h]
  rfl

theorem to_titles (l : List S40) (hl : l.length ≤ 1048576) (k : Nat) (hk : 1048577 ≤ k) : laws_toTitleS.f k l = some (l.map conv) := by
  unfold laws_toTitleS.f
  rw [if_pos (by omega), if_pos (by omega)]
  have h := set_to (fun k acc i => laws_toTitleS.l0 k l acc i) l conv (by
    intro k acc i x h0 hx ha
    have hlt : i.toNat < l.length := (List.getElem?_eq_some_iff.1 hx).1
    simp only [laws_toTitleS.l0]
    rw [if_pos (by omega), if_pos h0, rd40 l i x hx]
    unfold laws_toTitle.f
    simp only [Option.bind_some]
    rw [if_pos (by omega)]
    have hw : wrap64 (i + 1) = i + 1 := by unfold wrap64; omega
    rw [hw]
    rfl) (by
    intro k acc
    simp only [laws_toTitleS.l0]
    rw [if_neg (by omega)]) l.length k (List.replicate ((l.length : Int)).toNat z38) 0 (by omega) (by omega) (by omega) (by omega) (by simp)
  rw [h]
  simp

theorem eq_titles (l : List S38) (hl : l.length ≤ 1048576) (k : Nat) (hk : 1048577 ≤ k) : laws_eqTitleS.f k l l = some true := by
  unfold laws_eqTitleS.f
  rw [if_pos rfl]
  exact run_to (fun k i => laws_eqTitleS.l0 k l l i) (l.length : Int) true (by
    intro k i h0 h1
    simp only [laws_eqTitleS.l0]
    rw [if_pos h1, if_pos h0, if_pos h1]
    unfold laws_eqTitle.f
    have hw : wrap64 (i + 1) = i + 1 := by unfold wrap64; omega
    simp [hw]) (by
    intro k
    simp only [laws_eqTitleS.l0]
    rw [if_neg (by omega)]) l.length k 0 (by omega) (by omega) (by omega) (by omega)

/-- The sizes, added up: none, or at least as many rounds as there are titles. -/
theorem sz_titles (l : List S40) (hs : ∀ x ∈ l, x.f2.size ≤ maxLen) (hl : l.length ≤ maxLen) (k : Nat) (hk : 1048577 ≤ k) : ∃ v, laws_szTitleS.f k l 1048576 = some v ∧ (v < 0 ∨ l.length ≤ 1048576) := by
  unfold laws_szTitleS.f
  by_cases c : wrap64 (1048576 - (l.length : Int)) < 0
  · rw [if_pos c]
    exact ⟨-1, rfl, .inl (by omega)⟩
  · rw [if_neg c]
    unfold maxLen at hl hs
    have hw : wrap64 (1048576 - (l.length : Int)) = 1048576 - (l.length : Int) := by unfold wrap64; omega
    rw [hw] at c ⊢
    have key : ∀ (d k : Nat) (v i : Int), 0 ≤ v → v ≤ 1048576 → 0 ≤ i → i ≤ l.length → (l.length : Int) - i = d → d < k → ∃ r, laws_szTitleS.l0 k l v i = some r := by
      intro d
      induction d with
      | zero =>
        intro k v i _ _ h0 h1 hd hk
        obtain ⟨k, rfl⟩ : ∃ m, k = m + 1 := ⟨k - 1, by omega⟩
        exact ⟨v, by simp only [laws_szTitleS.l0]; rw [if_neg (by omega)]⟩
      | succ d ih =>
        intro k v i hv hv2 h0 h1 hd hk
        obtain ⟨k, rfl⟩ : ∃ m, k = m + 1 := ⟨k - 1, by omega⟩
        have hw : wrap64 (i + 1) = i + 1 := by unfold wrap64; omega
        have hlt : i.toNat < l.length := by omega
        have hx : l[i.toNat]? = some l[i.toNat] := List.getElem?_eq_getElem hlt
        have hm := hs _ (List.getElem_mem hlt)
        simp only [laws_szTitleS.l0]
        rw [if_pos (by omega), if_pos h0, rd40 l i _ hx, hw]
        unfold laws_szTitle.f
        by_cases c2 : wrap64 (v - (l[i.toNat].f2.size : Int)) < 0
        · rw [if_pos c2]
          exact ⟨-1, by simp⟩
        · rw [if_neg c2]
          have e : wrap64 (v - (l[i.toNat].f2.size : Int)) = v - (l[i.toNat].f2.size : Int) := by unfold wrap64; omega
          rw [e] at c2 ⊢
          simp only [Option.bind_some]
          rw [if_neg c2]
          exact ih k _ (i + 1) (by omega) (by omega) (by omega) (by omega) (by omega) (by omega)
    obtain ⟨r, hr⟩ := key l.length k (1048576 - (l.length : Int)) 0 (by omega) (by omega) (by omega) (by omega) (by omega) (by omega)
    exact ⟨r, hr, .inr (by omega)⟩

/-- The program goes on to the end and asks there how many they are; the reference asks first. -/
theorem titles_loop (l : List S38) (hl : l.length ≤ 1048576) : ∀ (d k : Nat) (i : Int), 0 ≤ i → i ≤ l.length → (l.length : Int) - i = d → d + 202 < k →
    ∃ r, spec_TitlesOk.l0 k l i = some r ∧ impl_TitlesOk.l0 k l l (l.length : Int) i = some (r && decide ((l.length : Int) ≤ 200)) := by
  intro d
  induction d with
  | zero =>
    intro k i h0 h1 hd hk
    obtain ⟨k, rfl⟩ : ∃ m, k = m + 1 := ⟨k - 1, by omega⟩
    refine ⟨true, by simp only [spec_TitlesOk.l0]; rw [if_neg (by omega)], ?_⟩
    simp only [impl_TitlesOk.l0]
    rw [if_neg (by omega)]
    simp
  | succ d ih =>
    intro k i h0 h1 hd hk
    obtain ⟨k, rfl⟩ : ∃ m, k = m + 1 := ⟨k - 1, by omega⟩
    have hw : wrap64 (i + 1) = i + 1 := by unfold wrap64; omega
    have hlt : i < (l.length : Int) := by omega
    obtain ⟨r, h2, h3⟩ := ih k (i + 1) (by omega) (by omega) (by omega) (by omega)
    obtain ⟨t, h4, h5⟩ := text_eq (rd_T38 l i).f2 k (by omega)
    simp only [spec_TitlesOk.l0, impl_TitlesOk.l0]
    rw [if_pos hlt, if_pos h0, if_pos hlt, if_pos h0, if_pos hlt, hw, h2, h3, h4, h5]
    unfold impl_Title_timesOk.f
    by_cases c1 : (rd_T38 l i).f0 < 0
    · rw [if_pos c1, if_neg (show ¬ 0 ≤ (rd_T38 l i).f0 by omega)]
      exact ⟨false, rfl, by simp⟩
    · rw [if_neg c1, if_pos (show 0 ≤ (rd_T38 l i).f0 by omega)]
      by_cases c2 : (rd_T38 l i).f0 ≥ (rd_T38 l i).f1
      · rw [if_pos c2, if_neg (show ¬ (rd_T38 l i).f0 < (rd_T38 l i).f1 by omega)]
        exact ⟨false, rfl, by simp⟩
      · rw [if_neg c2, if_pos (show (rd_T38 l i).f0 < (rd_T38 l i).f1 by omega)]
        by_cases c3 : (rd_T38 l i).f1 > 359999999
        · rw [if_pos c3]
          refine ⟨false, rfl, ?_⟩
          simp only [Option.bind_some]
          rw [if_neg (by simp; omega)]
          simp
        · rw [if_neg c3]
          simp only [Option.bind_some]
          rw [if_pos (show decide ((rd_T38 l i).f1 ≤ 359999999) = true by simp; omega)]
          cases t
          · refine ⟨false, by simp, by simp⟩
          · simp only [if_true]
            by_cases c4 : i > 0
            · have hv : wrap64 (i - 1) = i - 1 := by unfold wrap64; omega
              rw [if_pos c4, if_pos c4, hv, if_pos (show 0 ≤ i - 1 by omega), if_pos (show i - 1 < (l.length : Int) by omega), if_pos (show 0 ≤ i - 1 by omega), if_pos (show i - 1 < (l.length : Int) by omega)]
              by_cases c5 : (rd_T38 l i).f0 < (rd_T38 l (i - 1)).f1
              · rw [if_pos c5, if_pos c5]
                exact ⟨false, rfl, by simp⟩
              · rw [if_neg c5, if_neg c5]
                exact ⟨r, rfl, rfl⟩
            · rw [if_neg c4, if_neg c4]
              exact ⟨r, rfl, rfl⟩

theorem titles_eq (l : List S38) (hl : l.length ≤ 1048576) (k : Nat) (hk : 1048780 ≤ k) : ∃ r, spec_TitlesOk.f k l = some r ∧ impl_TitlesOk.f k l = some r := by
  obtain ⟨r, h1, h2⟩ := titles_loop l hl l.length k 0 (by omega) (by omega) (by omega) (by omega)
  unfold spec_TitlesOk.f impl_TitlesOk.f
  rw [h2]
  by_cases c : (l.length : Int) > 200
  · rw [if_pos c]
    refine ⟨false, rfl, ?_⟩
    have : decide ((l.length : Int) ≤ 200) = false := by simp; omega
    rw [this, Bool.and_false]
  · rw [if_neg c, h1]
    refine ⟨r, rfl, ?_⟩
    have : decide ((l.length : Int) ≤ 200) = true := by simp; omega
    rw [this, Bool.and_true]

theorem FnExactTitlesOk (l0 : List PFnExactTitlesOk.S40) (w0 : (l0.length ≤ maxLen ∧ ∀ y2 ∈ l0, ((Lit.int .i64 y2.f0).wf = true) ∧ (((Lit.int .i64 y2.f1).wf = true) ∧ (y2.f2.size ≤ maxLen)))) : ∃ k, PFnExactTitlesOk.laws_FnExactTitlesOk.f k l0 = some true := by
  obtain ⟨v, hv, hn⟩ := sz_titles l0 (fun x hx => (w0.2 x hx).2.2) w0.1 1048780 (by omega)
  refine ⟨1048780, ?_⟩
  unfold laws_FnExactTitlesOk.f
  rw [hv]
  simp only [Option.bind_some]
  by_cases c : v < 0
  · rw [if_pos c]
  · have hl : l0.length ≤ 1048576 := by omega
    obtain ⟨r, h1, h2⟩ := titles_eq (l0.map conv) (by simpa using hl) 1048780 (by omega)
    rw [if_neg c, to_titles l0 hl 1048780 (by omega)]
    simp only [Option.bind_some]
    rw [h1]
    simp only [Option.bind_some]
    rw [h2]
    simp only [Option.bind_some, bne_self_eq_false, Bool.false_eq_true, if_false]
    rw [eq_titles _ (by simpa using hl) 1048780 (by omega)]
    simp

end Go.Proofs.Yteecflenkbmamaa.Pure
