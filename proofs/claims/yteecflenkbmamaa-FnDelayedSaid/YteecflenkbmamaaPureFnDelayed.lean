/- Proved: the plain law behind FnDelayed. No condition. -/
import Derived.Test.YteecflenkbmamaaPFnDelayedx8
namespace Go.Proofs.Yteecflenkbmamaa.Pure
open Go.RowKit Go.Proofs.Yteecflenkbmamaa.PFnDelayed Go.Proofs.YteecflenkbmamaaW.PrintWords Go.Proofs.YteecflenkbmamaaW.PrintLast

set_option linter.unusedVariables false
set_option linter.unusedSimpArgs false

theorem run_to {α : Type} (F : Nat → Int → Option α) (n : Int) (r : α) (step : ∀ k i, 0 ≤ i → i < n → F (k + 1) i = F k (i + 1)) (stop : ∀ k, F (k + 1) n = some r) :
    ∀ (d k : Nat) (i : Int), 0 ≤ i → i ≤ n → n - i = d → d < k → F k i = some r := by
  intro d
  induction d with
  | zero =>
    intro k i h0 h1 hd hk
    obtain ⟨k, rfl⟩ : ∃ m, k = m + 1 := ⟨k - 1, by omega⟩
    obtain rfl : i = n := by omega
    exact stop k
  | succ d ih =>
    intro k i h0 h1 hd hk
    obtain ⟨k, rfl⟩ : ∃ m, k = m + 1 := ⟨k - 1, by omega⟩
    rw [step k i h0 (by omega)]
    exact ih k (i + 1) (by omega) (by omega) (by omega) (by omega)

theorem set_to {α β : Type} (F : Nat → List β → Int → Option (List β)) (l : List α) (conv : α → β)
    (step : ∀ k acc i x, 0 ≤ i → l[i.toNat]? = some x → acc.length = l.length → F (k + 1) acc i = F k (acc.set i.toNat (conv x)) (i + 1)) (stop : ∀ k acc, F (k + 1) acc (l.length : Int) = some acc) :
    ∀ (d k : Nat) (acc : List β) (i : Int), 0 ≤ i → i ≤ l.length → (l.length : Int) - i = d → d < k → acc.length = l.length → F k acc i = some (acc.take i.toNat ++ (l.drop i.toNat).map conv) := by
  intro d
  induction d with
  | zero =>
    intro k acc i h0 h1 hd hk ha
    obtain ⟨k, rfl⟩ : ∃ m, k = m + 1 := ⟨k - 1, by omega⟩
    obtain rfl : i = (l.length : Int) := by omega
    rw [stop k]
    simp [← ha]
  | succ d ih =>
    intro k acc i h0 h1 hd hk ha
    obtain ⟨k, rfl⟩ : ∃ m, k = m + 1 := ⟨k - 1, by omega⟩
    have hlt : i.toNat < l.length := by omega
    have hx : l[i.toNat]? = some l[i.toNat] := List.getElem?_eq_getElem hlt
    rw [step k acc i _ h0 hx ha, ih k _ (i + 1) (by omega) (by omega) (by omega) (by omega) (by simpa using ha)]
    have e : (i + 1).toNat = i.toNat + 1 := by omega
    rw [e]
    congr 1
    rw [List.take_succ_eq_append_getElem (by simp; omega)]
    rw [List.drop_eq_getElem_cons hlt, List.map_cons, List.getElem_set_self, List.take_set_of_le (Nat.le_refl _), List.append_assoc]
    rfl

theorem in_some (a b c : Int) : impl_in.f a b c = some (decide (b ≤ a ∧ a ≤ c)) := by
  unfold impl_in.f
  by_cases h : b ≤ a
  · simp [h]
  · simp [h]

theorem bt_list (s : ByteArray) (i : Int) : bt s i = ((s.data.toList.getD i.toNat 0).toNat : Int) := by
  unfold bt
  split
  · rename_i h
    have h' : i.toNat < s.data.toList.length := by rw [← Lib.size_eq]; exact h
    rw [List.getD_eq_getElem?_getD, List.getElem?_eq_getElem h']
    rfl
  · rename_i h
    have h' : ¬ i.toNat < s.data.toList.length := by rw [← Lib.size_eq]; exact h
    rw [List.getD_eq_getElem?_getD, List.getElem?_eq_none (by omega)]
    rfl

theorem num10 (b : UInt8) : ((b.toNat : Int) = 10) ↔ b = 10 := by
  constructor
  · intro h
    apply UInt8.toNat_inj.mp
    have : (10 : UInt8).toNat = 10 := rfl
    omega
  · rintro rfl
    rfl

theorem num127 (b : UInt8) : ((b.toNat : Int) = 127) ↔ b = 127 := by
  constructor
  · intro h
    apply UInt8.toNat_inj.mp
    have : (127 : UInt8).toNat = 127 := rfl
    omega
  · rintro rfl
    rfl

/-- Two newlines, one behind the other. -/
def dbl : List UInt8 → Bool
  | [] => false
  | a :: l => (decide (a = 10) && decide (l.head? = some 10)) || dbl l
/-- No sign that is not allowed. -/
def plain : List UInt8 → Bool
  | [] => true
  | b :: l => if b = 10 then plain l else if (b.toNat : Int) < 32 then false else if b = 127 then false else plain l
/-- The same, and no two newlines one behind the other; p: a newline stands ahead. -/
def both (p : Bool) : List UInt8 → Bool
  | [] => true
  | b :: l => if b = 10 then (if p = true then false else both true l) else if (b.toNat : Int) < 32 then false else if b = 127 then false else both false l

theorem both_eq (l : List UInt8) : ∀ p, both p l = (plain l && !((p && decide (l.head? = some 10)) || dbl l)) := by
  induction l with
  | nil => intro p; simp [both, plain, dbl]
  | cons b l ih =>
    intro p
    unfold both plain dbl
    by_cases h : b = 10
    · subst h
      cases p
      · simp [ih]
      · simp
    · by_cases h2 : (b.toNat : Int) < 32
      · simp [h, h2]
      · by_cases h3 : b = 127
        · simp [h3]
        · simp [h, h2, h3, ih]

theorem contains_dbl (l : List UInt8) : Lib.contains l [10, 10] = dbl l := by
  unfold Lib.contains
  induction l with
  | nil => simp [Lib.index, dbl]
  | cons b l ih =>
    unfold Lib.index dbl
    have hg := Lib.index_ge l [10, 10]
    have hp : List.isPrefixOf [10, 10] (b :: l) = (decide (b = 10) && decide (l.head? = some 10)) := by
      cases l with
      | nil => simp [List.isPrefixOf]
      | cons c l =>
        simp only [List.isPrefixOf, List.head?_cons, Option.some.injEq, Bool.and_true]
        rw [Bool.eq_iff_iff]
        simp only [Bool.and_eq_true, beq_iff_eq, decide_eq_true_eq]
        exact ⟨fun h => ⟨h.1.symm, h.2.symm⟩, fun h => ⟨h.1.symm, h.2.symm⟩⟩
    rw [hp]
    by_cases c : (decide (b = 10) && decide (l.head? = some 10)) = true
    · rw [if_pos c, c]
      simp
    · have c' : (decide (b = 10) && decide (l.head? = some 10)) = false := by simpa using c
      rw [if_neg c, c', ← ih, Bool.false_or]
      by_cases z : (Lib.index l [10, 10] == -1) = true
      · rw [if_pos z]
        have : Lib.index l [10, 10] = -1 := by simpa using z
        rw [this]
      · rw [if_neg z]
        have z' : Lib.index l [10, 10] ≠ -1 := by simpa using z
        rw [Bool.eq_iff_iff]
        simp only [decide_eq_true_eq]
        omega

theorem drop_at (s : ByteArray) (i : Int) (h0 : 0 ≤ i) (h1 : i < (s.size : Int)) : s.data.toList.drop i.toNat = s.data.toList.getD i.toNat 0 :: s.data.toList.drop (i + 1).toNat := by
  have h' : i.toNat < s.data.toList.length := by rw [← Lib.size_eq]; omega
  rw [List.drop_eq_getElem_cons h', List.getD_eq_getElem?_getD, List.getElem?_eq_getElem h']
  have e : (i + 1).toNat = i.toNat + 1 := by omega
  rw [e]
  rfl

theorem impl_loop (s : ByteArray) (hs : s.size ≤ 200) : ∀ (d k : Nat) (i : Int), 0 ≤ i → i ≤ s.size → (s.size : Int) - i = d → d < k → impl_textOk.l0 k s (s.size : Int) i = some (plain (s.data.toList.drop i.toNat)) := by
  intro d
  induction d with
  | zero =>
    intro k i h0 h1 hd hk
    obtain ⟨k, rfl⟩ : ∃ m, k = m + 1 := ⟨k - 1, by omega⟩
    simp only [impl_textOk.l0]
    rw [if_neg (by omega), List.drop_of_length_le (by rw [← Lib.size_eq]; omega)]
    rfl
  | succ d ih =>
    intro k i h0 h1 hd hk
    obtain ⟨k, rfl⟩ : ∃ m, k = m + 1 := ⟨k - 1, by omega⟩
    have hlt : i < (s.size : Int) := by omega
    have hw : wrap64 (i + 1) = i + 1 := by unfold wrap64; omega
    simp only [impl_textOk.l0]
    rw [if_pos hlt, if_pos h0, if_pos hlt, hw, ih k (i + 1) (by omega) (by omega) (by omega) (by omega), drop_at s i h0 hlt, bt_list]
    generalize s.data.toList.getD i.toNat 0 = b
    unfold plain
    by_cases c : b = 10
    · rw [if_pos ((num10 b).mpr c), if_pos c]
      cases s.data.toList.drop (i + 1).toNat <;> rfl
    · rw [if_neg (fun h => c ((num10 b).mp h)), if_neg c]
      by_cases c2 : (b.toNat : Int) < 32
      · rw [if_pos c2, if_pos c2]
      · rw [if_neg c2, if_neg c2]
        by_cases c3 : b = 127
        · rw [if_pos ((num127 b).mpr c3), if_pos c3]
        · rw [if_neg (fun h => c3 ((num127 b).mp h)), if_neg c3]
          cases s.data.toList.drop (i + 1).toNat <;> rfl

theorem spec_loop (s : ByteArray) (hs : s.size ≤ 200) (hb : bt s 0 ≠ 10) : ∀ (d k : Nat) (i : Int), 0 ≤ i → i ≤ s.size → (s.size : Int) - i = d → d < k →
    spec_l12Text.l0 k s (s.size : Int) i = some (both (decide (1 ≤ i ∧ bt s (i - 1) = 10)) (s.data.toList.drop i.toNat)) := by
  intro d
  induction d with
  | zero =>
    intro k i h0 h1 hd hk
    obtain ⟨k, rfl⟩ : ∃ m, k = m + 1 := ⟨k - 1, by omega⟩
    simp only [spec_l12Text.l0]
    rw [if_neg (by omega), List.drop_of_length_le (by rw [← Lib.size_eq]; omega)]
    rfl
  | succ d ih =>
    intro k i h0 h1 hd hk
    obtain ⟨k, rfl⟩ : ∃ m, k = m + 1 := ⟨k - 1, by omega⟩
    have hlt : i < (s.size : Int) := by omega
    have hw : wrap64 (i + 1) = i + 1 := by unfold wrap64; omega
    have hv : wrap64 (i - 1) = i - 1 := by unfold wrap64; omega
    have hn := ih k (i + 1) (by omega) (by omega) (by omega) (by omega)
    have e1 : i + 1 - 1 = i := by omega
    rw [e1] at hn
    have e2 : decide (1 ≤ i + 1 ∧ bt s i = 10) = decide (bt s i = 10) := by simp [show 1 ≤ i + 1 by omega]
    rw [e2] at hn
    simp only [spec_l12Text.l0]
    rw [if_pos hlt, if_pos h0, if_pos hlt, hw, hv, hn, drop_at s i h0 hlt]
    by_cases c : bt s i = 10
    · have hi : 1 ≤ i := by
        by_cases z : i = 0
        · subst z; exact absurd c hb
        · omega
      have cb : s.data.toList.getD i.toNat 0 = 10 := (num10 _).mp (by rw [← bt_list]; exact c)
      rw [if_pos c, if_pos (by omega), if_pos (by omega), cb]
      have h127 : ¬ bt s i = 127 := by omega
      rw [if_neg h127]
      have hc : decide (bt s i = 10) = true := by simpa using c
      rw [hc]
      by_cases c2 : bt s (i - 1) = 10
      · have : decide (1 ≤ i ∧ bt s (i - 1) = 10) = true := by simp [hi, c2]
        rw [if_pos c2, this]
        unfold both
        simp
      · have : decide (1 ≤ i ∧ bt s (i - 1) = 10) = false := by simp [c2]
        rw [if_neg c2, this]
        conv => rhs; unfold both
        simp
    · have hc : decide (bt s i = 10) = false := by simpa using c
      rw [if_neg c, hc]
      rw [bt_list] at c ⊢
      generalize s.data.toList.getD i.toNat 0 = b at *
      conv => rhs; unfold both
      rw [if_neg (fun h => c ((num10 b).mpr h))]
      by_cases c2 : (b.toNat : Int) < 32
      · rw [if_pos c2, if_pos c2]
      · rw [if_neg c2, if_neg c2]
        by_cases c3 : b = 127
        · rw [if_pos ((num127 b).mpr c3), if_pos c3]
        · rw [if_neg (fun h => c3 ((num127 b).mp h)), if_neg c3]

theorem prefix10 (s : ByteArray) (h : 1 ≤ s.size) : strings_HasPrefix.f s (⟨#[10]⟩ : ByteArray) = some (decide (bt s 0 = 10)) := by
  unfold strings_HasPrefix.f stringslite_HasPrefix.f
  have e : ((⟨#[10]⟩ : ByteArray).size : Int) = 1 := rfl
  rw [e, if_pos (by omega), if_pos (by omega), if_pos (by omega)]
  simp only [Option.bind_some]
  rw [Lib.extract_toList, bt_list]
  have e2 : (⟨#[10]⟩ : ByteArray).toList = [10] := by rw [Lib.toList_data]
  rw [e2]
  cases hl : s.data.toList with
  | nil =>
    have : s.size = 0 := by rw [Lib.size_eq, hl]; rfl
    omega
  | cons b l =>
    simp only [num10, Int.toNat_zero, List.getD_cons_zero, List.drop_zero, Nat.sub_zero]
    rw [Option.some.injEq, Bool.eq_iff_iff]
    simp [num10]

theorem suffix10 (s : ByteArray) (h : 1 ≤ s.size) (h2 : s.size ≤ 200) : strings_HasSuffix.f s (⟨#[10]⟩ : ByteArray) = some (decide (bt s ((s.size : Int) - 1) = 10)) := by
  unfold strings_HasSuffix.f stringslite_HasSuffix.f
  have e : ((⟨#[10]⟩ : ByteArray).size : Int) = 1 := rfl
  have w : wrap64 ((s.size : Int) - 1) = (s.size : Int) - 1 := by unfold wrap64; omega
  rw [e, w, if_pos (by omega), if_pos (by omega), if_pos (by omega)]
  simp only [Option.bind_some]
  rw [Lib.extract_toList, bt_list]
  have e2 : (⟨#[10]⟩ : ByteArray).toList = [10] := by rw [Lib.toList_data]
  rw [e2]
  have e3 : ((s.size : Int) - 1).toNat = s.size - 1 := by omega
  rw [e3]
  have hl : s.size - 1 < s.data.toList.length := by rw [← Lib.size_eq]; omega
  rw [List.drop_eq_getElem_cons hl, List.getD_eq_getElem?_getD, List.getElem?_eq_getElem hl]
  have e4 : s.size - (s.size - 1) = 1 := by omega
  rw [e4, Option.some.injEq, Bool.eq_iff_iff]
  simp [num10]

/-- Both say the same of a text. -/
theorem text_eq (s : ByteArray) (k : Nat) (hk : 202 ≤ k) : ∃ r, spec_l12Text.f k s = some r ∧ impl_textOk.f k s = some r := by
  obtain ⟨k, rfl⟩ : ∃ m, k = m + 1 := ⟨k - 1, by omega⟩
  unfold spec_l12Text.f impl_textOk.f
  rw [in_some]
  simp only [Option.bind_some, decide_eq_true_eq]
  by_cases c : (1 ≤ (s.size : Int) ∧ (s.size : Int) ≤ 200)
  · rw [if_pos c, if_neg (by omega), if_neg (by omega), if_pos (by omega)]
    obtain ⟨c0, c1⟩ := c
    rw [prefix10 s (by omega)]
    simp only [Option.bind_some, decide_eq_true_eq]
    by_cases b0 : bt s 0 = 10
    · rw [if_pos b0, if_pos b0]
      simp only [spec_l12Text.j0, impl_textOk.j0]
      exact ⟨false, by simp, by simp⟩
    · rw [if_neg b0, if_neg b0]
      have w : wrap64 ((s.size : Int) - 1) = (s.size : Int) - 1 := by unfold wrap64; omega
      rw [w, if_pos (by omega), if_pos (by omega), suffix10 s (by omega) (by omega)]
      simp only [Option.bind_some, decide_eq_true_eq]
      by_cases b1 : bt s ((s.size : Int) - 1) = 10
      · rw [if_pos b1]
        simp only [spec_l12Text.j0, impl_textOk.j0, b1]
        exact ⟨false, by simp, by simp⟩
      · rw [if_neg b1]
        have hz : (bt s ((s.size : Int) - 1) == 10) = false := by simpa using b1
        rw [hz]
        unfold strings_Contains.f
        rw [if_pos (by omega)]
        simp only [Option.bind_some]
        rw [contains_dbl]
        simp only [spec_l12Text.j0, impl_textOk.j0]
        have h1 := impl_loop s (by omega) s.size k 0 (by omega) (by omega) (by omega) (by omega)
        have h2 := spec_loop s (by omega) b0 s.size k 0 (by omega) (by omega) (by omega) (by omega)
        have e3 : decide ((1 : Int) ≤ 0 ∧ bt s (0 - 1) = 10) = false := by simp
        rw [e3, both_eq] at h2
        simp only [Int.toNat_zero, List.drop_zero, Bool.false_and, Bool.false_or] at h1 h2
        rw [if_neg (by decide), h1, h2]
        cases dbl s.data.toList
        · exact ⟨plain s.data.toList, by simp, by simp⟩
        · exact ⟨false, by simp, by simp⟩
  · rw [if_neg c]
    simp only [spec_l12Text.j0, impl_textOk.j0]
    refine ⟨false, ?_, by simp⟩
    by_cases c1 : (s.size : Int) < 1
    · rw [if_pos c1]; simp
    · rw [if_neg c1, if_pos (by omega)]; simp

theorem rd38 (l : List S38) (i : Int) (x : S38) (h : l[i.toNat]? = some x) : rd_T38 l i = x := by
  unfold rd_T38
  rw [List.getD_eq_getElem?_getD, h]
  rfl

/-- The program goes on to the end and asks there how many they are; the reference asks first. -/
theorem titles_loop (l : List S38) (hl : l.length ≤ 1048576) : ∀ (d k : Nat) (i : Int), 0 ≤ i → i ≤ l.length → (l.length : Int) - i = d → d + 202 < k →
    ∃ r, spec_TitlesOk.l0 k l i = some r ∧ impl_TitlesOk.l0 k l l (l.length : Int) i = some (r && decide ((l.length : Int) ≤ 200)) := by
  intro d
  induction d with
  | zero =>
    intro k i h0 h1 hd hk
    obtain ⟨k, rfl⟩ : ∃ m, k = m + 1 := ⟨k - 1, by omega⟩
    refine ⟨true, by simp only [spec_TitlesOk.l0]; rw [if_neg (by omega)], ?_⟩
    simp only [impl_TitlesOk.l0]
    rw [if_neg (by omega)]
    simp
  | succ d ih =>
    intro k i h0 h1 hd hk
    obtain ⟨k, rfl⟩ : ∃ m, k = m + 1 := ⟨k - 1, by omega⟩
    have hw : wrap64 (i + 1) = i + 1 := by unfold wrap64; omega
    have hlt : i < (l.length : Int) := by omega
    obtain ⟨r, h2, h3⟩ := ih k (i + 1) (by omega) (by omega) (by omega) (by omega)
    obtain ⟨t, h4, h5⟩ := text_eq (rd_T38 l i).f2 k (by omega)
    simp only [spec_TitlesOk.l0, impl_TitlesOk.l0]
    rw [if_pos hlt, if_pos h0, if_pos hlt, if_pos h0, if_pos hlt, hw, h2, h3, h4, h5]
    unfold impl_Title_timesOk.f
    by_cases c1 : (rd_T38 l i).f0 < 0
    · rw [if_pos c1, if_neg (show ¬ 0 ≤ (rd_T38 l i).f0 by omega)]
      exact ⟨false, rfl, by simp⟩
    · rw [if_neg c1, if_pos (show 0 ≤ (rd_T38 l i).f0 by omega)]
      by_cases c2 : (rd_T38 l i).f0 ≥ (rd_T38 l i).f1
      · rw [if_pos c2, if_neg (show ¬ (rd_T38 l i).f0 < (rd_T38 l i).f1 by omega)]
        exact ⟨false, rfl, by simp⟩
      · rw [if_neg c2, if_pos (show (rd_T38 l i).f0 < (rd_T38 l i).f1 by omega)]
        by_cases c3 : (rd_T38 l i).f1 > 359999999
        · rw [if_pos c3]
          refine ⟨false, rfl, ?_⟩
          simp only [Option.bind_some]
          rw [if_neg (by simp; omega)]
          simp
        · rw [if_neg c3]
          simp only [Option.bind_some]
          rw [if_pos (show decide ((rd_T38 l i).f1 ≤ 359999999) = true by simp; omega)]
          cases t
          · refine ⟨false, by simp, by simp⟩
          · simp only [if_true]
            by_cases c4 : i > 0
            · have hv : wrap64 (i - 1) = i - 1 := by unfold wrap64; omega
              rw [if_pos c4, if_pos c4, hv, if_pos (show 0 ≤ i - 1 by omega), if_pos (show i - 1 < (l.length : Int) by omega), if_pos (show 0 ≤ i - 1 by omega), if_pos (show i - 1 < (l.length : Int) by omega)]
              by_cases c5 : (rd_T38 l i).f0 < (rd_T38 l (i - 1)).f1
              · rw [if_pos c5, if_pos c5]
                exact ⟨false, rfl, by simp⟩
              · rw [if_neg c5, if_neg c5]
                exact ⟨r, rfl, rfl⟩
            · rw [if_neg c4, if_neg c4]
              exact ⟨r, rfl, rfl⟩

theorem titles_eq (l : List S38) (hl : l.length ≤ 1048576) (k : Nat) (hk : 1048780 ≤ k) : ∃ r, spec_TitlesOk.f k l = some r ∧ impl_TitlesOk.f k l = some r := by
  obtain ⟨r, h1, h2⟩ := titles_loop l hl l.length k 0 (by omega) (by omega) (by omega) (by omega)
  unfold spec_TitlesOk.f impl_TitlesOk.f
  rw [h2]
  by_cases c : (l.length : Int) > 200
  · rw [if_pos c]
    refine ⟨false, rfl, ?_⟩
    have : decide ((l.length : Int) ≤ 200) = false := by simp; omega
    rw [this, Bool.and_false]
  · rw [if_neg c, h1]
    refine ⟨r, rfl, ?_⟩
    have : decide ((l.length : Int) ≤ 200) = true := by simp; omega
    rw [this, Bool.and_true]

/-- What TitlesOk's 'yes' tells of each title. -/
structure Good (l : List S38) (j : Int) : Prop where
  a0 : 0 ≤ (rd_T38 l j).f0
  a1 : (rd_T38 l j).f0 < (rd_T38 l j).f1
  a2 : (rd_T38 l j).f1 ≤ 359999999
  up : 0 < j → (rd_T38 l (j - 1)).f1 ≤ (rd_T38 l j).f0
  text : ∃ k, spec_l12Text.f k (rd_T38 l j).f2 = some true

theorem titles_true (l : List S38) (hl : l.length ≤ 1048576) : ∀ (k : Nat) (i : Int), 0 ≤ i → spec_TitlesOk.l0 k l i = some true → ∀ j, i ≤ j → j < (l.length : Int) → Good l j
  | 0, i, _, h, _, _, _ => by simp [spec_TitlesOk.l0] at h
  | k + 1, i, hi, h, j, hj, hjl => by
    simp only [spec_TitlesOk.l0] at h
    have hw : wrap64 (i + 1) = i + 1 := by unfold wrap64; omega
    rw [if_pos (by omega), if_pos hi, hw] at h
    by_cases c1 : (rd_T38 l i).f0 < 0
    · rw [if_pos c1] at h; simp at h
    rw [if_neg c1] at h
    by_cases c2 : (rd_T38 l i).f0 ≥ (rd_T38 l i).f1
    · rw [if_pos c2] at h; simp at h
    rw [if_neg c2] at h
    by_cases c3 : (rd_T38 l i).f1 > 359999999
    · rw [if_pos c3] at h; simp at h
    rw [if_neg c3] at h
    obtain ⟨t, ht, h⟩ := Option.bind_eq_some_iff.1 h
    cases t
    · simp at h
    simp only [if_true] at h
    by_cases c4 : i > 0
    · have hv : wrap64 (i - 1) = i - 1 := by unfold wrap64; omega
      rw [if_pos c4, hv, if_pos (by omega), if_pos (by omega)] at h
      by_cases c5 : (rd_T38 l i).f0 < (rd_T38 l (i - 1)).f1
      · rw [if_pos c5] at h; simp at h
      rw [if_neg c5] at h
      by_cases e : j = i
      · subst e
        exact ⟨by omega, by omega, by omega, fun _ => by omega, k, ht⟩
      · exact titles_true l hl k (i + 1) (by omega) h j (by omega) hjl
    · rw [if_neg c4] at h
      by_cases e : j = i
      · subst e
        exact ⟨by omega, by omega, by omega, fun q => by omega, k, ht⟩
      · exact titles_true l hl k (i + 1) (by omega) h j (by omega) hjl

theorem ok_true (l : List S38) (hl : l.length ≤ 1048576) (k : Nat) (h : spec_TitlesOk.f k l = some true) : l.length ≤ 200 ∧ ∀ j : Int, 0 ≤ j → j < (l.length : Int) → Good l j := by
  unfold spec_TitlesOk.f at h
  by_cases c : (l.length : Int) > 200
  · rw [if_pos c] at h; simp at h
  · rw [if_neg c] at h
    exact ⟨by omega, fun j h0 h1 => titles_true l hl k 0 (by omega) h j h0 h1⟩

/-- A title, moved. -/
def sh (b : Int) (x : S38) : S38 := ⟨x.f0 + b, x.f1 + b, x.f2⟩
/-- May it be shown then? -/
def okAt (b : Int) (x : S38) : Bool := decide (0 ≤ x.f0 + b) && decide (x.f1 + b ≤ 359999999)

theorem rd_get (l : List S38) (i : Int) (h0 : 0 ≤ i) (h1 : i < (l.length : Int)) : l[i.toNat]? = some (rd_T38 l i) := by
  have hlt : i.toNat < l.length := by omega
  have hx : l[i.toNat]? = some l[i.toNat] := List.getElem?_eq_getElem hlt
  rw [hx, rd38 l i _ hx]

theorem drop_rd (l : List S38) (i : Int) (h0 : 0 ≤ i) (h1 : i < (l.length : Int)) : l.drop i.toNat = rd_T38 l i :: l.drop (i + 1).toNat := by
  have h := rd_get l i h0 h1
  have hlt : i.toNat < l.length := by omega
  rw [List.drop_eq_getElem_cons hlt]
  have e : (i + 1).toNat = i.toNat + 1 := by omega
  rw [e]
  congr 1
  rw [List.getElem?_eq_getElem hlt] at h
  exact Option.some.inj h

/-- The program's loop. -/
theorem impl_delay (l : List S38) (b : Int) (hb : -359999999 ≤ b ∧ b ≤ 359999999) (hl : l.length ≤ 200) (hg : ∀ j : Int, 0 ≤ j → j < (l.length : Int) → Good l j) : ∀ (d k : Nat) (acc : List S38) (i : Int), 0 ≤ i → i ≤ l.length → (l.length : Int) - i = d → d < k → (acc.length : Int) = i →
    impl_Delay.l0 k b acc l (l.length : Int) i = some (if ((l.drop i.toNat).all (okAt b)) = true then (acc ++ (l.drop i.toNat).map (sh b), true) else ([], false)) := by
  intro d
  induction d with
  | zero =>
    intro k acc i h0 h1 hd hk ha
    obtain ⟨k, rfl⟩ : ∃ m, k = m + 1 := ⟨k - 1, by omega⟩
    simp only [impl_Delay.l0]
    rw [if_neg (by omega), List.drop_of_length_le (by omega)]
    simp
  | succ d ih =>
    intro k acc i h0 h1 hd hk ha
    obtain ⟨k, rfl⟩ : ∃ m, k = m + 1 := ⟨k - 1, by omega⟩
    have hlt : i < (l.length : Int) := by omega
    have hw : wrap64 (i + 1) = i + 1 := by unfold wrap64; omega
    have g := hg i h0 hlt
    have g0 := g.a0; have g1 := g.a1; have g2 := g.a2
    have w0 : wrap64 ((rd_T38 l i).f0 + b) = (rd_T38 l i).f0 + b := by unfold wrap64; omega
    have w1 : wrap64 ((rd_T38 l i).f1 + b) = (rd_T38 l i).f1 + b := by unfold wrap64; omega
    simp only [impl_Delay.l0]
    rw [if_pos hlt, if_pos h0, if_pos hlt, w0, w1, hw, drop_rd l i h0 hlt]
    unfold impl_Title_timesOk.f
    rw [List.all_cons, List.map_cons]
    by_cases c0 : 0 ≤ (rd_T38 l i).f0 + b
    · rw [if_pos c0, if_pos (by omega)]
      simp only [Option.bind_some, decide_eq_true_eq]
      by_cases c1 : (rd_T38 l i).f1 + b ≤ 359999999
      · have ho : okAt b (rd_T38 l i) = true := by simp [okAt, c0, c1]
        rw [if_pos c1, if_pos (by omega), ho, ih k _ (i + 1) (by omega) (by omega) (by omega) (by omega) (by simp; omega)]
        simp [sh]
      · have ho : okAt b (rd_T38 l i) = false := by simp [okAt, c1]
        rw [if_neg c1, ho]
        simp
    · have ho : okAt b (rd_T38 l i) = false := by simp [okAt, c0]
      rw [if_neg c0, ho]
      simp

/-- The reference's loop: all are moved, and then it asks. -/
theorem spec_delay (l : List S38) (b : Int) (hb : -359999999 ≤ b ∧ b ≤ 359999999) (hl : l.length ≤ 200) (hg : ∀ j : Int, 0 ≤ j → j < (l.length : Int) → Good l j) (r : Bool) (hr : ∀ k, 1000 ≤ k → spec_TitlesOk.f k (l.map (sh b)) = some r) :
    ∀ (d k : Nat) (acc : List S38) (i : Int), 0 ≤ i → i ≤ l.length → (l.length : Int) - i = d → d + 1000 < k → acc = (l.take i.toNat).map (sh b) →
    spec_Delay.l0 k l b acc i = some (if r = true then (l.map (sh b), true) else ([], false)) := by
  intro d
  induction d with
  | zero =>
    intro k acc i h0 h1 hd hk ha
    obtain ⟨k, rfl⟩ : ∃ m, k = m + 1 := ⟨k - 1, by omega⟩
    have e : acc = l.map (sh b) := by rw [ha, List.take_of_length_le (by omega)]
    simp only [spec_Delay.l0]
    rw [if_neg (by omega), e, hr k (by omega)]
    cases r <;> simp
  | succ d ih =>
    intro k acc i h0 h1 hd hk ha
    obtain ⟨k, rfl⟩ : ∃ m, k = m + 1 := ⟨k - 1, by omega⟩
    have hlt : i < (l.length : Int) := by omega
    have hw : wrap64 (i + 1) = i + 1 := by unfold wrap64; omega
    have g := hg i h0 hlt
    have g0 := g.a0; have g1 := g.a1; have g2 := g.a2
    have w0 : wrap64 ((rd_T38 l i).f0 + b) = (rd_T38 l i).f0 + b := by unfold wrap64; omega
    have w1 : wrap64 ((rd_T38 l i).f1 + b) = (rd_T38 l i).f1 + b := by unfold wrap64; omega
    have hal : acc.length = i.toNat := by rw [ha]; simp; omega
    simp only [spec_Delay.l0]
    rw [if_pos hlt, if_pos h0, if_pos (by omega), w0, w1, hw]
    refine ih k _ (i + 1) (by omega) (by omega) (by omega) (by omega) ?_
    have e : (i + 1).toNat = i.toNat + 1 := by omega
    rw [e, List.take_add_one, rd_get l i h0 hlt, ha]
    simp [sh]

/-- TitlesOk of the moved ones. -/
theorem moved_ok (l : List S38) (b : Int) (hb : -359999999 ≤ b ∧ b ≤ 359999999) (hl : l.length ≤ 200) (hg : ∀ j : Int, 0 ≤ j → j < (l.length : Int) → Good l j) : ∀ (d k : Nat) (i : Int), 0 ≤ i → i ≤ l.length → (l.length : Int) - i = d → d + 202 < k →
    spec_TitlesOk.l0 k (l.map (sh b)) i = some ((l.drop i.toNat).all (okAt b)) := by
  have hrd : ∀ i : Int, 0 ≤ i → i < (l.length : Int) → rd_T38 (l.map (sh b)) i = sh b (rd_T38 l i) := by
    intro i h0 h1
    refine rd38 _ _ _ ?_
    rw [List.getElem?_map, rd_get l i h0 h1]
    rfl
  intro d
  induction d with
  | zero =>
    intro k i h0 h1 hd hk
    obtain ⟨k, rfl⟩ : ∃ m, k = m + 1 := ⟨k - 1, by omega⟩
    simp only [spec_TitlesOk.l0, List.length_map]
    rw [if_neg (by omega), List.drop_of_length_le (by omega)]
    rfl
  | succ d ih =>
    intro k i h0 h1 hd hk
    obtain ⟨k, rfl⟩ : ∃ m, k = m + 1 := ⟨k - 1, by omega⟩
    have hlt : i < (l.length : Int) := by omega
    have hw : wrap64 (i + 1) = i + 1 := by unfold wrap64; omega
    have g := hg i h0 hlt
    have g0 := g.a0; have g1 := g.a1; have g2 := g.a2
    obtain ⟨r, t1, t2⟩ := text_eq (rd_T38 l i).f2 k (by omega)
    have hr : r = true := by
      obtain ⟨k2, h2⟩ := g.text
      have a := at_rounds (g := fun k => spec_l12Text.f k (rd_T38 l i).f2) (fun k => spec_l12Text.mono _ k) (Nat.le_max_left k k2) t1
      have c := at_rounds (g := fun k => spec_l12Text.f k (rd_T38 l i).f2) (fun k => spec_l12Text.mono _ k) (Nat.le_max_right k k2) h2
      exact Option.some.inj (a.symm.trans c)
    subst hr
    obtain ⟨y, hy⟩ : ∃ y, y = sh b (rd_T38 l i) := ⟨_, rfl⟩
    have y0 : y.f0 = (rd_T38 l i).f0 + b := by rw [hy]; rfl
    have y1 : y.f1 = (rd_T38 l i).f1 + b := by rw [hy]; rfl
    have y2 : y.f2 = (rd_T38 l i).f2 := by rw [hy]; rfl
    simp only [spec_TitlesOk.l0, List.length_map]
    rw [if_pos hlt, if_pos h0, hrd i h0 hlt, ← hy, y2, t1, hw, ih k (i + 1) (by omega) (by omega) (by omega) (by omega), drop_rd l i h0 hlt, List.all_cons]
    by_cases c0 : y.f0 < 0
    · have ho : okAt b (rd_T38 l i) = false := by
        have : ¬ 0 ≤ (rd_T38 l i).f0 + b := by omega
        simp [okAt, this]
      rw [if_pos c0, ho]
      rfl
    · rw [if_neg c0, if_neg (show ¬ y.f0 ≥ y.f1 by omega)]
      by_cases c1 : y.f1 > 359999999
      · have ho : okAt b (rd_T38 l i) = false := by
          have : ¬ (rd_T38 l i).f1 + b ≤ 359999999 := by omega
          simp [okAt, this]
        rw [if_pos c1, ho]
        rfl
      · have ho : okAt b (rd_T38 l i) = true := by
          have : 0 ≤ (rd_T38 l i).f0 + b := by omega
          have : (rd_T38 l i).f1 + b ≤ 359999999 := by omega
          simp [okAt, *]
        rw [if_neg c1, ho]
        simp only [Option.bind_some, if_true, Bool.true_and]
        by_cases c4 : i > 0
        · have hv : wrap64 (i - 1) = i - 1 := by unfold wrap64; omega
          have hu := g.up (by omega)
          have z1 : (sh b (rd_T38 l (i - 1))).f1 = (rd_T38 l (i - 1)).f1 + b := rfl
          rw [if_pos c4, hv, if_pos (show 0 ≤ i - 1 by omega), if_pos (show i - 1 < (l.length : Int) by omega), hrd (i - 1) (by omega) (by omega), if_neg (show ¬ y.f0 < (sh b (rd_T38 l (i - 1))).f1 by omega)]
        · rw [if_neg c4]

/-- Both move titles alike. -/
theorem delay_eq (l : List S38) (b : Int) (hl : l.length ≤ 1048576) (k : Nat) (hk : 1048800 ≤ k) : ∃ r : List S38 × Bool, spec_Delay.f k l b = some r ∧ impl_Delay.f k l b = some r ∧ r.1.length ≤ 200 ∧
    (r.2 = true → r.1 = l.map (sh b) ∧ l.length ≤ 200 ∧ (∀ j : Int, 0 ≤ j → j < (l.length : Int) → Good l j) ∧ (-359999999 ≤ b ∧ b ≤ 359999999) ∧ l.all (okAt b) = true) ∧ (r.2 = false → r.1 = []) := by
  obtain ⟨k, rfl⟩ : ∃ m, k = m + 1 := ⟨k - 1, by omega⟩
  obtain ⟨t, h1, h2⟩ := titles_eq l hl (k + 1) (by omega)
  unfold spec_Delay.f impl_Delay.f
  simp only [Option.bind_some]
  rw [h1, h2]
  simp only [Option.bind_some]
  cases t
  · refine ⟨([], false), by simp [spec_Delay.j0], by simp [impl_Delay.j0], by simp, by simp, by simp⟩
  · obtain ⟨n2, hg⟩ := ok_true l hl (k + 1) h1
    simp only [if_true]
    have hin : ∀ a b c : Int, spec_l1In.f a b c = impl_in.f a b c := fun a b c => rfl
    rw [hin, in_some]
    simp only [Option.bind_some, spec_Delay.j0, impl_Delay.j0]
    by_cases c : -359999999 ≤ b ∧ b ≤ 359999999
    · have hd : (!decide (-359999999 ≤ b ∧ b ≤ 359999999)) = false := by simp [c]
      rw [hd, if_neg (by decide), if_neg (by decide)]
      have hr : ∀ k, 1000 ≤ k → spec_TitlesOk.f k (l.map (sh b)) = some (l.all (okAt b)) := by
        intro k hk
        unfold spec_TitlesOk.f
        rw [List.length_map, if_neg (by omega), moved_ok l b c n2 hg l.length k 0 (by omega) (by omega) (by omega) (by omega)]
        simp
      have a1 := impl_delay l b c n2 hg l.length k [] 0 (by omega) (by omega) (by omega) (by omega) (by simp)
      have a2 := spec_delay l b c n2 hg _ hr l.length k [] 0 (by omega) (by omega) (by omega) (by omega) (by simp)
      rw [a1, a2]
      simp only [Int.toNat_zero, List.drop_zero, List.nil_append]
      refine ⟨_, rfl, rfl, ?_, ?_, ?_⟩
      · split
        · simpa using n2
        · simp
      · split
        · rename_i q
          intro _
          exact ⟨rfl, n2, hg, c, q⟩
        · intro q; cases q
      · split
        · intro q; cases q
        · intro _; rfl
    · have hd : (!decide (-359999999 ≤ b ∧ b ≤ 359999999)) = true := by simp [c]
      rw [hd]
      exact ⟨([], false), by simp, by simp, by simp, by simp, by simp⟩

theorem and255 (n : Int) : Go.bits .and .i64 n 255 = n % 256 := by
  have h127 : (BitVec.ofInt 64 255).toNat = 2 ^ 8 - 1 := by decide
  have key : (BitVec.ofInt 64 n &&& BitVec.ofInt 64 255).toNat = (n % ((2 ^ 64 : Nat) : Int)).toNat % 2 ^ 8 := by
    rw [BitVec.toNat_and, BitVec.toNat_ofInt, h127, Nat.and_two_pow_sub_one_eq_mod]
  show IntKind.i64.wrap ((BitVec.ofInt 64 n &&& BitVec.ofInt 64 255).toNat : Nat) = n % 256
  rw [key, IntKind.wrap_i64]
  omega

theorem byte_ok (b : List Int) (i h : Int) (hb : b.length ≤ 4096) (hi : 0 ≤ i) :
    ∃ x i' h', spec_l1Byte.f b i h = some (x, i', h') ∧ 0 ≤ x ∧ x ≤ 255 ∧ 0 ≤ i' := by
  unfold spec_l1Byte.f
  simp only [and255]
  by_cases c : i < (b.length : Int)
  · rw [if_pos c, if_pos hi]
    have hw : wrap64 (i + 1) = i + 1 := by unfold wrap64; omega
    rw [hw]
    exact ⟨_, _, _, rfl, by omega, by omega, by omega⟩
  · rw [if_neg c]
    exact ⟨_, _, _, rfl, by omega, by omega, hi⟩

theorem below_ok (b : List Int) (i h n : Int) (hb : b.length ≤ 4096) (hi : 0 ≤ i) :
    ∃ x i' h', spec_l1Below.f b i h n = some (x, i', h') ∧ 0 ≤ i' ∧ 0 ≤ x ∧ (1 ≤ n → x < n) := by
  unfold spec_l1Below.f
  by_cases c0 : n ≤ 0
  · rw [if_pos c0]
    exact ⟨_, _, _, rfl, hi, by omega, by omega⟩
  · rw [if_neg c0]
    by_cases c : n ≤ 256
    · rw [if_pos c]
      obtain ⟨x, i1, h1, e, x0, x1, hi1⟩ := byte_ok b i h hb hi
      rw [e]
      simp only [Option.bind_some]
      rw [if_neg (by omega)]
      exact ⟨_, _, _, rfl, hi1, Int.tmod_nonneg _ x0, fun _ => Int.tmod_lt_of_pos _ (by omega)⟩
    · rw [if_neg c]
      obtain ⟨x, i1, h1, e, x0, x1, hi1⟩ := byte_ok b i h hb hi
      rw [e]
      simp only [Option.bind_some]
      obtain ⟨y, i2, h2, e, y0, y1, hi2⟩ := byte_ok b i1 h1 hb hi1
      rw [e]
      simp only [Option.bind_some]
      obtain ⟨z, i3, h3, e, z0, z1, hi3⟩ := byte_ok b i2 h2 hb hi2
      rw [e]
      simp only [Option.bind_some]
      obtain ⟨u, i4, h4, e, u0, u1, hi4⟩ := byte_ok b i3 h3 hb hi3
      rw [e]
      simp only [Option.bind_some]
      rw [if_neg (by omega)]
      have hw : wrap64 (wrap64 (wrap64 (wrap64 (x * 16777216) + wrap64 (y * 65536)) + wrap64 (z * 256)) + u) = x * 16777216 + y * 65536 + z * 256 + u := by
        have e1 : wrap64 (x * 16777216) = x * 16777216 := by unfold wrap64; omega
        have e2 : wrap64 (y * 65536) = y * 65536 := by unfold wrap64; omega
        have e3 : wrap64 (z * 256) = z * 256 := by unfold wrap64; omega
        rw [e1, e2, e3]
        have e4 : wrap64 (x * 16777216 + y * 65536) = x * 16777216 + y * 65536 := by unfold wrap64; omega
        rw [e4]
        have e5 : wrap64 (x * 16777216 + y * 65536 + z * 256) = x * 16777216 + y * 65536 + z * 256 := by unfold wrap64; omega
        rw [e5]
        unfold wrap64
        omega
      rw [hw]
      exact ⟨_, _, _, rfl, hi4, Int.tmod_nonneg _ (by omega), fun _ => Int.tmod_lt_of_pos _ (by omega)⟩

theorem once_ok (b : List Int) (i h n : Int) (hb : b.length ≤ 4096) (hi : 0 ≤ i) :
    ∃ x i' h', spec_l1Once.f b i h n = some (x, i', h') ∧ 0 ≤ i' := by
  unfold spec_l1Once.f
  obtain ⟨x, i1, h1, e, hi1, _⟩ := below_ok b i h n hb hi
  rw [e]
  exact ⟨_, _, _, rfl, hi1⟩

theorem new_loop (l : List Int) (hl : l.length ≤ 4096) (d : Nat) : ∀ (k : Nat) (h i : Int), 0 ≤ i → i ≤ l.length → (l.length : Int) - i = d → d < k → ∃ h', spec_l1New.l0 k l h i = some (l, 0, h') := by
  induction d with
  | zero =>
    intro k h i h0 h1 hd hk
    obtain ⟨k, rfl⟩ : ∃ m, k = m + 1 := ⟨k - 1, by omega⟩
    exact ⟨h, by simp only [spec_l1New.l0]; rw [if_neg (by omega)]⟩
  | succ d ih =>
    intro k h i h0 h1 hd hk
    obtain ⟨k, rfl⟩ : ∃ m, k = m + 1 := ⟨k - 1, by omega⟩
    simp only [spec_l1New.l0]
    rw [if_pos (by omega), if_pos h0]
    have hw : wrap64 (i + 1) = i + 1 := by unfold wrap64; omega
    rw [hw]
    exact ih k _ (i + 1) (by omega) (by omega) (by omega) (by omega)

theorem new_ok (l : List Int) (hl : l.length ≤ 4096) (k : Nat) (hk : 4097 ≤ k) : ∃ h, spec_l1New.f k l = some (l, 0, h) := by
  unfold spec_l1New.f
  exact new_loop l hl l.length k _ 0 (by omega) (by omega) (by omega) (by omega)

theorem from_ok (b : List Int) (i h x y : Int) (hb : b.length ≤ 4096) (hi : 0 ≤ i) : ∃ r i' h', spec_l1From.f b i h x y = some (r, i', h') ∧ 0 ≤ i' := by
  unfold spec_l1From.f
  obtain ⟨u, i1, h1, e, hi1, _, _⟩ := below_ok b i h (wrap64 (wrap64 (y - x) + 1)) hb hi
  rw [e]
  exact ⟨_, _, _, rfl, hi1⟩

theorem dt_l2 (b : List Int) (hb : b.length ≤ 4096) : ∀ (d k : Nat) (x : List S38) (j i h : Int), 0 ≤ j → j ≤ 202 → 202 - j = d → d < k → (x.length : Int) = j → 0 ≤ i →
    ∃ y i' h', spec_l12DrawTitles.l2 k x j b i h = some (y, i', h') ∧ 0 ≤ i' ∧ y.length ≤ 300 := by
  intro d
  induction d with
  | zero =>
    intro k x j i h h0 h1 hd hk hx hi
    obtain ⟨k, rfl⟩ : ∃ m, k = m + 1 := ⟨k - 1, by omega⟩
    simp only [spec_l12DrawTitles.l2]
    obtain ⟨c, i1, h1', e, hi1, c0, c1⟩ := below_ok b i h 2 hb hi
    have c1 := c1 (by omega)
    have w : wrap64 (200 + c) = 200 + c := by unfold wrap64; omega
    rw [e]; simp only [Option.bind_some, w]
    rw [if_neg (by omega)]
    exact ⟨_, _, _, rfl, hi1, by omega⟩
  | succ d ih =>
    intro k x j i h h0 h1 hd hk hx hi
    obtain ⟨k, rfl⟩ : ∃ m, k = m + 1 := ⟨k - 1, by omega⟩
    simp only [spec_l12DrawTitles.l2]
    obtain ⟨c, i1, h1', e, hi1, c0, c1⟩ := below_ok b i h 2 hb hi
    have c1 := c1 (by omega)
    have w : wrap64 (200 + c) = 200 + c := by unfold wrap64; omega
    rw [e]; simp only [Option.bind_some, w]
    by_cases q : j < 200 + c
    · have wj : wrap64 (j + 1) = j + 1 := by unfold wrap64; omega
      rw [if_pos q, if_pos (by omega), wj]
      exact ih k _ (j + 1) i1 h1' (by omega) (by omega) (by omega) (by omega) (by simp; omega) hi1
    · rw [if_neg q]
      exact ⟨_, _, _, rfl, hi1, by omega⟩

theorem dt_j4 (b : List Int) (hb : b.length ≤ 4096) (k : Nat) (hk : 205 ≤ k) (x : List S38) (i h : Int) (hx : x.length ≤ 300) (hi : 0 ≤ i) :
    ∃ y i' h', spec_l12DrawTitles.j4 k x b i h = some (y, i', h') ∧ 0 ≤ i' ∧ y.length ≤ 300 := by
  obtain ⟨k, rfl⟩ : ∃ m, k = m + 1 := ⟨k - 1, by omega⟩
  simp only [spec_l12DrawTitles.j4]
  obtain ⟨c, i1, h1, e, hi1⟩ := once_ok b i h 60 hb hi
  rw [e]; simp only [Option.bind_some]
  split
  · exact dt_l2 b hb 202 k [] 0 i1 h1 (by omega) (by omega) (by omega) (by omega) (by simp) hi1
  · exact ⟨_, _, _, rfl, hi1, hx⟩

theorem dt_j3 (b : List Int) (hb : b.length ≤ 4096) (k : Nat) (hk : 206 ≤ k) (x : List S38) (z : Bool) (hz : z = true → 0 < x.length) (i h : Int) (hx : x.length ≤ 300) (hi : 0 ≤ i) :
    ∃ y i' h', spec_l12DrawTitles.j3 k x z b i h = some (y, i', h') ∧ 0 ≤ i' ∧ y.length ≤ 300 := by
  obtain ⟨k, rfl⟩ : ∃ m, k = m + 1 := ⟨k - 1, by omega⟩
  simp only [spec_l12DrawTitles.j3]
  cases z
  · rw [if_neg (by decide)]
    exact dt_j4 b hb k (by omega) x i h hx hi
  · rw [if_pos rfl]
    obtain ⟨p, i2, h2, e, hi2, p0, p1⟩ := below_ok b i h (x.length : Int) hb hi
    have p1 := p1 (by have := hz rfl; omega)
    rw [e]; simp only [Option.bind_some]
    rw [if_pos p0, if_pos p1]
    obtain ⟨q, i3, h3, e, hi3, q0, q1⟩ := below_ok b i2 h2 3 hb hi2
    rw [e]; simp only [Option.bind_some]
    split
    · obtain ⟨u, i4, h4, e, hi4, u0, u1⟩ := below_ok b i3 h3 7 hb hi3
      have u1 := u1 (by omega)
      rw [e]; simp only [Option.bind_some]
      rw [if_pos u0, if_pos (by simpa using u1)]
      exact dt_j4 b hb k (by omega) _ i4 h4 (by simpa using hx) hi4
    · split
      · obtain ⟨u, i4, h4, e, hi4, u0, u1⟩ := below_ok b i3 h3 3 hb hi3
        have u1 := u1 (by omega)
        rw [e]; simp only [Option.bind_some]
        rw [if_pos u0, if_pos (by simpa using u1)]
        exact dt_j4 b hb k (by omega) _ i4 h4 (by simpa using hx) hi4
      · split
        · obtain ⟨u, i4, h4, e, hi4, u0, u1⟩ := below_ok b i3 h3 3 hb hi3
          have u1 := u1 (by omega)
          rw [e]; simp only [Option.bind_some]
          rw [if_pos u0, if_pos (by simpa using u1)]
          exact dt_j4 b hb k (by omega) _ i4 h4 (by simpa using hx) hi4
        · exact dt_j4 b hb k (by omega) _ i3 h3 hx hi3

/-- What the rounds over titles tell. -/
def DT0 (b : List Int) (n : Nat) : Prop := ∀ (k : Nat) (x : List S38) (t i h : Int), 8 * n + 300 ≤ k → x.length + n ≤ 100 → 0 ≤ i →
    ∃ y i' h', spec_l12DrawTitles.l0 k x t (n : Int) b i h = some (y, i', h') ∧ 0 ≤ i' ∧ y.length ≤ 300

theorem small_text (y : List ByteArray) (hy : ∀ s ∈ y, s.size ≤ 5) (c : Int) : (rdOf ByteArray.empty y c).size ≤ 5 := by
  unfold rdOf
  rw [List.getD_eq_getElem?_getD]
  cases h : y[c.toNat]? with
  | none => simp
  | some s => exact hy s (List.mem_of_getElem? h)

theorem dt_l1 (b : List Int) (hb : b.length ≤ 4096) (n : Nat) (hn : n ≤ 10) (ih0 : DT0 b n) : ∀ (d k : Nat) (x : List S38) (i h p q : Int) (s : ByteArray), d ≤ 10 → d + 1 + 8 * n + 300 ≤ k → x.length + (n + 1) ≤ 100 → s.size + 5 * d ≤ 1000 → 0 ≤ i →
    ∃ y i' h', spec_l12DrawTitles.l1 k x ((n : Int) + 1) (d : Int) b i h p q s = some (y, i', h') ∧ 0 ≤ i' ∧ y.length ≤ 300 := by
  intro d
  induction d with
  | zero =>
    intro k x i h p q s hd hk hx hs hi
    obtain ⟨k, rfl⟩ : ∃ m, k = m + 1 := ⟨k - 1, by omega⟩
    rw [spec_l12DrawTitles.l1, if_neg (by omega), if_pos (by omega)]
    obtain ⟨c, i1, h1, e, hi1, _⟩ := below_ok b i h 200 hb hi
    rw [e]; simp only [Option.bind_some]
    have w : wrap64 ((n : Int) + 1 - 1) = (n : Int) := by unfold wrap64; omega
    rw [w]
    exact ih0 k _ _ i1 h1 (by omega) (by simp; omega) hi1
  | succ d ih =>
    intro k x i h p q s hd hk hx hs hi
    obtain ⟨k, rfl⟩ : ∃ m, k = m + 1 := ⟨k - 1, by omega⟩
    rw [spec_l12DrawTitles.l1, if_pos (by omega), Option.bind_some]
    obtain ⟨c, i1, h1, e, hi1, c0, c1⟩ := below_ok b i h 8 hb hi
    have c1 := c1 (by omega)
    rw [e, Option.bind_some]
    have hz := small_text [(⟨#[87, 97, 115, 63]⟩ : ByteArray), (⟨#[101, 105, 110, 32]⟩ : ByteArray), (⟨#[87, 111, 114, 116]⟩ : ByteArray), (⟨#[195, 169, 116, 195, 169]⟩ : ByteArray), (⟨#[49, 10, 50]⟩ : ByteArray), (⟨#[45, 45, 62]⟩ : ByteArray), (⟨#[120, 10, 121]⟩ : ByteArray), (⟨#[255]⟩ : ByteArray)] (by
      intro s hs
      simp only [List.mem_cons, List.not_mem_nil, or_false] at hs
      rcases hs with rfl | rfl | rfl | rfl | rfl | rfl | rfl | rfl <;> decide) c
    have w : wrap64 (((d + 1 : Nat) : Int) - 1) = (d : Int) := by unfold wrap64; omega
    rw [if_pos c0, if_pos (by simpa using c1), w]
    generalize rdOf ByteArray.empty _ c = z at *
    rw [if_pos (by omega)]
    exact ih k x i1 h1 p q (s ++ z) (by omega) (by omega) hx (by rw [ByteArray.size_append]; omega) hi1

theorem dt_l0 (b : List Int) (hb : b.length ≤ 4096) : ∀ n : Nat, n ≤ 10 → DT0 b n := by
  intro n
  induction n with
  | zero =>
    intro hn k x t i h hk hx hi
    obtain ⟨k, rfl⟩ : ∃ m, k = m + 1 := ⟨k - 1, by omega⟩
    rw [spec_l12DrawTitles.l0, if_neg (by omega)]
    obtain ⟨c, i1, h1, e, hi1⟩ := once_ok b i h 14 hb hi
    rw [e, Option.bind_some]
    split
    · exact dt_j3 b hb k (by omega) x _ (fun z => by have := of_decide_eq_true z; omega) i1 h1 (by omega) hi1
    · exact dt_j3 b hb k (by omega) x false (fun z => by cases z) i1 h1 (by omega) hi1
  | succ n ih =>
    intro hn k x t i h hk hx hi
    obtain ⟨k, rfl⟩ : ∃ m, k = m + 1 := ⟨k - 1, by omega⟩
    rw [spec_l12DrawTitles.l0, if_pos (by omega)]
    obtain ⟨c, i1, h1, e, hi1, _⟩ := below_ok b i h 2500 hb hi
    rw [e, Option.bind_some]
    obtain ⟨c2, i2, h2, e, hi2, p0, p1⟩ := below_ok b i1 h1 5 hb hi1
    have p1 := p1 (by omega)
    rw [e, Option.bind_some]
    obtain ⟨d, hd⟩ : ∃ d : Nat, 1 + c2 = (d : Int) := ⟨(1 + c2).toNat, by omega⟩
    have w : wrap64 (1 + c2) = (d : Int) := by unfold wrap64; omega
    rw [w, show ((n + 1 : Nat) : Int) = (n : Int) + 1 by omega]
    exact dt_l1 b hb n (by omega) (ih (by omega)) d k x i2 h2 _ _ _ (by omega) (by omega) (by omega) (by have : (⟨#[]⟩ : ByteArray).size = 0 := rfl; omega) hi2

theorem dt_ok (b : List Int) (hb : b.length ≤ 4096) (k : Nat) (hk : 1000 ≤ k) (i h : Int) (hi : 0 ≤ i) : ∃ y i' h', spec_l12DrawTitles.f k b i h = some (y, i', h') ∧ 0 ≤ i' ∧ y.length ≤ 300 := by
  have j0 : ∀ (t i h : Int), 0 ≤ i → ∃ y i' h', spec_l12DrawTitles.j0 k [] t b i h = some (y, i', h') ∧ 0 ≤ i' ∧ y.length ≤ 300 := by
    intro t i h hi
    obtain ⟨k, rfl⟩ : ∃ m, k = m + 1 := ⟨k - 1, by omega⟩
    rw [spec_l12DrawTitles.j0]
    obtain ⟨c, i1, h1, e, hi1, p0, p1⟩ := below_ok b i h 6 hb hi
    have p1 := p1 (by omega)
    rw [e, Option.bind_some]
    obtain ⟨n, rfl⟩ : ∃ n : Nat, c = (n : Int) := ⟨c.toNat, by omega⟩
    exact dt_l0 b hb n (by omega) k [] t i1 h1 (by omega) (by simp; omega) hi1
  unfold spec_l12DrawTitles.f
  rw [Option.bind_some]
  obtain ⟨c, i1, h1, e, hi1, _⟩ := below_ok b i h 3000 hb hi
  rw [e, Option.bind_some]
  obtain ⟨c2, i2, h2, e, hi2⟩ := once_ok b i1 h1 16 hb hi1
  rw [e, Option.bind_some]
  split
  · exact j0 _ _ _ hi2
  · exact j0 _ _ _ hi2

theorem drawdelay_ok (l0 : List Int) (hb : l0.length ≤ 4096) (k : Nat) (hk : 4097 ≤ k) : ∃ x t, spec_DrawDelay.f k l0 = some (x, t) ∧ x.length ≤ 300 := by
  unfold spec_DrawDelay.f
  obtain ⟨hh, hnew⟩ := new_ok l0 hb k (by omega)
  rw [hnew, Option.bind_some]
  obtain ⟨t, i2, h2, e, hi2⟩ := from_ok l0 0 hh (-4000) 4000 hb (by omega)
  rw [e, Option.bind_some]
  obtain ⟨c, i3, h3, e, hi3⟩ := once_ok l0 i2 h2 12 hb hi2
  rw [e, Option.bind_some]
  split
  · rw [Option.bind_some]
    obtain ⟨u, i4, h4, e, hi4, u0, u1⟩ := below_ok l0 i3 h3 5 hb hi3
    have u1 := u1 (by omega)
    rw [e, Option.bind_some, if_pos u0, if_pos (by simpa using u1)]
    obtain ⟨x, i1, h1, e, hi1, hx⟩ := dt_ok l0 hb k (by omega) i4 h4 hi4
    rw [e, Option.bind_some]
    exact ⟨_, _, rfl, hx⟩
  · obtain ⟨x, i1, h1, e, hi1, hx⟩ := dt_ok l0 hb k (by omega) i3 h3 hi3
    rw [e, Option.bind_some]
    exact ⟨_, _, rfl, hx⟩

theorem same_loop (l : List S38) (hl : l.length ≤ 1048576) (k : Nat) (hk : 1048577 ≤ k) : laws_FnDelayed.l0 k l l 0 = some true :=
  run_to (fun k i => laws_FnDelayed.l0 k l l i) (l.length : Int) true (by
    intro k i h0 h1
    simp only [laws_FnDelayed.l0]
    rw [if_pos h1, if_pos h0, if_pos h1]
    have hw : wrap64 (i + 1) = i + 1 := by unfold wrap64; omega
    simp [hw]) (by
    intro k
    simp only [laws_FnDelayed.l0]
    rw [if_neg (by omega)]) l.length k 0 (by omega) (by omega) (by omega) (by omega)

theorem FnDelayed (l0 : List Int) (w0 : (l0.length ≤ maxLen ∧ ∀ y2 ∈ l0, (Lit.int .u8 y2).wf = true)) : ∃ k, PFnDelayed.laws_FnDelayed.f k l0 = some true := by
  have hb : l0.length ≤ 4096 ∨ (l0.length : Int) > 4096 := by omega
  unfold laws_FnDelayed.f laws_big.f
  simp only [Option.bind_some, decide_eq_true_eq]
  rcases hb with hb | hbig
  · obtain ⟨k, hk⟩ : ∃ k, k = 1048900 := ⟨_, rfl⟩
    refine ⟨k + 1, ?_⟩
    rw [if_neg (by omega)]
    obtain ⟨x, t, e, hx⟩ := drawdelay_ok l0 hb (k + 1) (by omega)
    rw [e, Option.bind_some]
    obtain ⟨⟨g, b⟩, h1, h2, h3, h4, h5⟩ := delay_eq x t (by omega) (k + 1) (by omega)
    rw [h1, h2]
    simp only [Option.bind_some, bne_self_eq_false, Bool.false_eq_true, if_false]
    cases b
    · rw [if_neg (by decide)]
      have : g = [] := h5 rfl
      subst this
      rfl
    · rw [if_pos rfl]
      obtain ⟨rfl, n2, hg, c, hok⟩ := h4 rfl
      simp only at h3 hok ⊢
      have w : wrap64 (-t) = -t := by unfold wrap64; omega
      rw [w]
      obtain ⟨⟨g2, b2⟩, q1, q2, q3, q4, q5⟩ := delay_eq (x.map (sh t)) (-t) (by simpa using (by omega : x.length ≤ 1048576)) (k + 1) (by omega)
      have hT : spec_TitlesOk.f (k + 1) (x.map (sh t)) = some true := by
        unfold spec_TitlesOk.f
        rw [List.length_map, if_neg (by omega), moved_ok x t c n2 hg x.length (k + 1) 0 (by omega) (by omega) (by omega) (by omega)]
        simpa using hok
      obtain ⟨_, hg2⟩ := ok_true (x.map (sh t)) (by simpa using (by omega : x.length ≤ 1048576)) (k + 1) hT
      have hrt : (x.map (sh t)).map (sh (-t)) = x := by
        rw [List.map_map]
        have : (sh (-t) ∘ sh t) = id := by
          funext y
          show sh (-t) (sh t y) = y
          obtain ⟨y0, y1, y2⟩ := y
          show (⟨y0 + t + -t, y1 + t + -t, y2⟩ : S38) = ⟨y0, y1, y2⟩
          rw [Int.add_neg_cancel_right, Int.add_neg_cancel_right]
        rw [this, List.map_id]
      have hall : (x.map (sh t)).all (okAt (-t)) = true := by
        rw [List.all_eq_true]
        intro y hy
        obtain ⟨z, hz, rfl⟩ := List.mem_map.1 hy
        obtain ⟨j, hj, rfl⟩ := List.mem_iff_getElem.1 hz
        have g := hg (j : Int) (by omega) (by omega)
        have hr : rd_T38 x (j : Int) = x[j] := rd38 x _ _ (by rw [show ((j : Int)).toNat = j by omega]; exact List.getElem?_eq_getElem hj)
        rw [← hr]
        have a0 := g.a0; have a1 := g.a1; have a2 := g.a2
        have s0 : (sh t (rd_T38 x (j : Int))).f0 = (rd_T38 x (j : Int)).f0 + t := rfl
        have s1 : (sh t (rd_T38 x (j : Int))).f1 = (rd_T38 x (j : Int)).f1 + t := rfl
        unfold okAt
        rw [s0, s1]
        have e0 : 0 ≤ (rd_T38 x (j : Int)).f0 + t + -t := by omega
        have e1 : (rd_T38 x (j : Int)).f1 + t + -t ≤ 359999999 := by omega
        simp [e0, e1]
      have himpl : impl_Delay.f (k + 1) (x.map (sh t)) (-t) = some (x, true) := by
        obtain ⟨z, z1, z2⟩ := titles_eq (x.map (sh t)) (by simpa using (by omega : x.length ≤ 1048576)) (k + 1) (by omega)
        rw [hT] at z1
        obtain rfl := Option.some.inj z1
        unfold impl_Delay.f
        rw [z2, Option.bind_some, if_pos rfl, in_some, Option.bind_some]
        have hd : (!decide (-359999999 ≤ -t ∧ -t ≤ 359999999)) = false := by
          have : -359999999 ≤ -t ∧ -t ≤ 359999999 := by omega
          simp [this]
        rw [hd, impl_Delay.j0, if_neg (by decide)]
        have hl : (x.map (sh t)).length = x.length := List.length_map ..
        have := impl_delay (x.map (sh t)) (-t) (by omega) (by omega) hg2 x.length k [] 0 (by omega) (by omega) (by omega) (by omega) (by simp)
        rw [this]
        simp only [Int.toNat_zero, List.drop_zero, hall, if_true, List.nil_append, hrt]
      rw [himpl]
      simp only [Option.bind_some, if_true, bne_self_eq_false]
      rw [laws_FnDelayed.j0, if_neg (by decide)]
      exact same_loop x (by omega) k (by omega)
  · exact ⟨1, by rw [if_pos hbig]⟩

end Go.Proofs.Yteecflenkbmamaa.Pure
