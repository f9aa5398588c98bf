/- Proved: the plain law behind FnExactKeysOk. No condition. -/
import Derived.Test.YtdfhhnepodnioaaPFnExactKeysOkx4
namespace Go.Proofs.Ytdfhhnepodnioaa.Pure
open Go.RowKit Go.Proofs.Ytdfhhnepodnioaa.PFnExactKeysOk Go.Proofs.YtdfhhnepodnioaaW.PrintWords Go.Proofs.YtdfhhnepodnioaaW.PrintLast

set_option linter.unusedVariables false
set_option linter.unusedSimpArgs false

theorem run_to {α : Type} (F : Nat → Int → Option α) (n : Int) (r : α) (step : ∀ k i, 0 ≤ i → i < n → F (k + 1) i = F k (i + 1)) (stop : ∀ k, F (k + 1) n = some r) :
    ∀ (d k : Nat) (i : Int), 0 ≤ i → i ≤ n → n - i = d → d < k → F k i = some r := by
  intro d
  induction d with
  | zero =>
    intro k i h0 h1 hd hk
    obtain ⟨k, rfl⟩ : ∃ m, k = m + 1 := ⟨k - 1, by omega⟩
    obtain rfl : i = n := by omega
    exact stop k
  | succ d ih =>
    intro k i h0 h1 hd hk
    obtain ⟨k, rfl⟩ : ∃ m, k = m + 1 := ⟨k - 1, by omega⟩
    rw [step k i h0 (by omega)]
    exact ih k (i + 1) (by omega) (by omega) (by omega) (by omega)

theorem set_to {α β : Type} (F : Nat → List β → Int → Option (List β)) (l : List α) (conv : α → β)
    (step : ∀ k acc i x, 0 ≤ i → l[i.toNat]? = some x → acc.length = l.length → F (k + 1) acc i = F k (acc.set i.toNat (conv x)) (i + 1)) (stop : ∀ k acc, F (k + 1) acc (l.length : Int) = some acc) :
    ∀ (d k : Nat) (acc : List β) (i : Int), 0 ≤ i → i ≤ l.length → (l.length : Int) - i = d → d < k → acc.length = l.length → F k acc i = some (acc.take i.toNat ++ (l.drop i.toNat).map conv) := by
  intro d
  induction d with
  | zero =>
    intro k acc i h0 h1 hd hk ha
    obtain ⟨k, rfl⟩ : ∃ m, k = m + 1 := ⟨k - 1, by omega⟩
    obtain rfl : i = (l.length : Int) := by omega
    rw [stop k]
    simp [← ha]
  | succ d ih =>
    intro k acc i h0 h1 hd hk ha
    obtain ⟨k, rfl⟩ : ∃ m, k = m + 1 := ⟨k - 1, by omega⟩
    have hlt : i.toNat < l.length := by omega
    have hx : l[i.toNat]? = some l[i.toNat] := List.getElem?_eq_getElem hlt
    rw [step k acc i _ h0 hx ha, ih k _ (i + 1) (by omega) (by omega) (by omega) (by omega) (by simpa using ha)]
    have e : (i + 1).toNat = i.toNat + 1 := by omega
    rw [e]
    congr 1
    rw [List.take_succ_eq_append_getElem (by simp; omega)]
    rw [List.drop_eq_getElem_cons hlt, List.map_cons, List.getElem_set_self, List.take_set_of_le (Nat.le_refl _), List.append_assoc]
    rfl

theorem in_eq (a b c : Int) : spec_l1In.f a b c = impl_in.f a b c := rfl

theorem in_some (a b c : Int) : impl_in.f a b c = some (decide (b ≤ a ∧ a ≤ c)) := by
  unfold impl_in.f
  by_cases h : b ≤ a
  · simp [h]
  · simp [h]

def conv (x : S50) : S38 := ⟨x.f0, x.f1⟩

theorem rd50 (l : List S50) (i : Int) (x : S50) (h : l[i.toNat]? = some x) : rd_T50 l i = x := by
  unfold rd_T50
  rw [List.getD_eq_getElem?_getD, h]
  rfl

theorem to_keys (l : List S50) (hl : l.length ≤ 1048576) (k : Nat) (hk : 1048577 ≤ k) : laws_toKeyS.f k l = some (l.map conv) := by
  unfold laws_toKeyS.f
  rw [if_pos (by omega), if_pos (by omega)]
  have h := set_to (fun k acc i => laws_toKeyS.l0 k l acc i) l conv (by
    intro k acc i x h0 hx ha
    have hlt : i.toNat < l.length := (List.getElem?_eq_some_iff.1 hx).1
    simp only [laws_toKeyS.l0]
    rw [if_pos (by omega), if_pos h0, rd50 l i x hx]
    unfold laws_toKey.f
    simp only [Option.bind_some]
    rw [if_pos (by omega)]
    have hw : wrap64 (i + 1) = i + 1 := by unfold wrap64; omega
    rw [hw]
    rfl) (by
    intro k acc
    simp only [laws_toKeyS.l0]
    rw [if_neg (by omega)]) l.length k (List.replicate ((l.length : Int)).toNat z38) 0 (by omega) (by omega) (by omega) (by omega) (by simp)
  rw [h]
  simp

theorem eq_keys (l : List S38) (hl : l.length ≤ 1048576) (k : Nat) (hk : 1048577 ≤ k) : laws_eqKeyS.f k l l = some true := by
  unfold laws_eqKeyS.f
  rw [if_pos rfl]
  exact run_to (fun k i => laws_eqKeyS.l0 k l l i) (l.length : Int) true (by
    intro k i h0 h1
    simp only [laws_eqKeyS.l0]
    rw [if_pos h1, if_pos h0, if_pos h1]
    unfold laws_eqKey.f
    have hw : wrap64 (i + 1) = i + 1 := by unfold wrap64; omega
    simp [hw]) (by
    intro k
    simp only [laws_eqKeyS.l0]
    rw [if_neg (by omega)]) l.length k 0 (by omega) (by omega) (by omega) (by omega)

theorem keys_l0 (l : List S38) (hl : l.length ≤ 1048576) : ∀ (k : Nat) (i : Int), 0 ≤ i → impl_KeysOk.l0 k l l (l.length : Int) i = spec_KeysOk.l0 k l i
  | 0, i, _ => rfl
  | k + 1, i, hi => by
    simp only [impl_KeysOk.l0, spec_KeysOk.l0]
    by_cases c : i < (l.length : Int)
    · rw [if_pos c, if_pos c, if_pos hi, if_pos hi, if_pos c]
      have hw : wrap64 (i + 1) = i + 1 := by unfold wrap64; omega
      rw [hw, keys_l0 l hl k (i + 1) (by omega)]
      rfl
    · rw [if_neg c, if_neg c]

theorem keys_some (l : List S38) (hl : l.length ≤ 1048576) : ∀ (d k : Nat) (i : Int), 0 ≤ i → i ≤ l.length → (l.length : Int) - i = d → d < k → ∃ r, spec_KeysOk.l0 k l i = some r := by
  intro d
  induction d with
  | zero =>
    intro k i h0 h1 hd hk
    obtain ⟨k, rfl⟩ : ∃ m, k = m + 1 := ⟨k - 1, by omega⟩
    exact ⟨true, by simp only [spec_KeysOk.l0]; rw [if_neg (by omega)]⟩
  | succ d ih =>
    intro k i h0 h1 hd hk
    obtain ⟨k, rfl⟩ : ∃ m, k = m + 1 := ⟨k - 1, by omega⟩
    have hw : wrap64 (i + 1) = i + 1 := by unfold wrap64; omega
    obtain ⟨r, hr⟩ := ih k (i + 1) (by omega) (by omega) (by omega) (by omega)
    simp only [spec_KeysOk.l0]
    rw [if_pos (by omega), if_pos h0, hw, hr]
    unfold spec_l1Frame.f
    simp only [in_eq, in_some, Option.bind_some]
    split
    · split
      · by_cases c : i > 0
        · have hv : wrap64 (i - 1) = i - 1 := by unfold wrap64; omega
          rw [if_pos c, hv, if_pos (by omega), if_pos (by omega)]
          split
          · exact ⟨_, rfl⟩
          · exact ⟨_, rfl⟩
        · rw [if_neg c]
          exact ⟨_, rfl⟩
      · exact ⟨_, rfl⟩
    · exact ⟨_, rfl⟩

/-- The program's KeysOk and the reference's answer alike. -/
theorem keys_eq (l : List S38) (hl : l.length ≤ 1048576) (k : Nat) (hk : 1048578 ≤ k) : ∃ r, spec_KeysOk.f k l = some r ∧ impl_KeysOk.f k l = some r := by
  obtain ⟨k, rfl⟩ : ∃ m, k = m + 1 := ⟨k - 1, by omega⟩
  unfold spec_KeysOk.f impl_KeysOk.f
  simp only [in_some, Option.bind_some, spec_KeysOk.j0]
  obtain ⟨r, hr⟩ := keys_some l hl l.length k 0 (by omega) (by omega) (by omega) (by omega)
  obtain ⟨r2, hr2⟩ := keys_some l hl l.length (k + 1) 0 (by omega) (by omega) (by omega) (by omega)
  have hm := spec_KeysOk.mono_l k
  have e : spec_KeysOk.l0 (k + 1) l 0 = some r := by
    have := (spec_KeysOk.mono_l k).2 l 0 r hr
    exact this
  by_cases c : 1 ≤ (l.length : Int) ∧ (l.length : Int) ≤ 100
  · rw [if_neg (by omega)]
    have hd : ¬ (l.length : Int) > 100 := by omega
    refine ⟨r, ?_, ?_⟩
    · simp [hd, hr]
    · simp [c, keys_l0 l hl (k + 1) 0 (by omega), e]
  · by_cases c2 : (l.length : Int) < 1
    · exact ⟨false, by simp [c2], by simp [c]⟩
    · have hd : (l.length : Int) > 100 := by omega
      exact ⟨false, by simp [c2, hd], by simp [c]⟩

theorem FnExactKeysOk (l0 : List PFnExactKeysOk.S50) (w0 : (l0.length ≤ maxLen ∧ ∀ y2 ∈ l0, ((Lit.int .i64 y2.f0).wf = true) ∧ ((Lit.int .i64 y2.f1).wf = true))) : ∃ k, PFnExactKeysOk.laws_FnExactKeysOk.f k l0 = some true := by
  unfold laws_FnExactKeysOk.f laws_szKeyS.f
  have hm := w0.1
  unfold maxLen at hm
  have hw : wrap64 (1048576 - (l0.length : Int)) = 1048576 - (l0.length : Int) := by unfold wrap64; omega
  rw [hw]
  by_cases c : 1048576 - (l0.length : Int) < 0
  · exact ⟨1, by simp [c]⟩
  · refine ⟨1048578, ?_⟩
    rw [if_neg c]
    simp only [Option.bind_some]
    rw [if_neg c, to_keys l0 (by omega) _ (by omega)]
    simp only [Option.bind_some]
    obtain ⟨r, h1, h2⟩ := keys_eq (l0.map conv) (by simp; omega) 1048578 (by omega)
    rw [h1, h2]
    simp only [Option.bind_some, bne_self_eq_false, Bool.false_eq_true, if_false]
    rw [eq_keys (l0.map conv) (by simp; omega) _ (by omega)]
    rfl

end Go.Proofs.Ytdfhhnepodnioaa.Pure
