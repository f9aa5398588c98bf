/- Proved: the plain law behind FnExactBlend. No condition. -/
import Derived.Test.YtdfhhnepodnioaaPFnExactBlendx6
namespace Go.Proofs.Ytdfhhnepodnioaa.Pure
open Go.RowKit Go.Proofs.Ytdfhhnepodnioaa.PFnExactBlend Go.Proofs.YtdfhhnepodnioaaW.PrintWords Go.Proofs.YtdfhhnepodnioaaW.PrintLast

set_option linter.unusedVariables false
set_option linter.unusedSimpArgs false

theorem run_to {α : Type} (F : Nat → Int → Option α) (n : Int) (r : α) (step : ∀ k i, 0 ≤ i → i < n → F (k + 1) i = F k (i + 1)) (stop : ∀ k, F (k + 1) n = some r) :
    ∀ (d k : Nat) (i : Int), 0 ≤ i → i ≤ n → n - i = d → d < k → F k i = some r := by
  intro d
  induction d with
  | zero =>
    intro k i h0 h1 hd hk
    obtain ⟨k, rfl⟩ : ∃ m, k = m + 1 := ⟨k - 1, by omega⟩
    obtain rfl : i = n := by omega
    exact stop k
  | succ d ih =>
    intro k i h0 h1 hd hk
    obtain ⟨k, rfl⟩ : ∃ m, k = m + 1 := ⟨k - 1, by omega⟩
    rw [step k i h0 (by omega)]
    exact ih k (i + 1) (by omega) (by omega) (by omega) (by omega)

theorem set_to {α β : Type} (F : Nat → List β → Int → Option (List β)) (l : List α) (conv : α → β)
    (step : ∀ k acc i x, 0 ≤ i → l[i.toNat]? = some x → acc.length = l.length → F (k + 1) acc i = F k (acc.set i.toNat (conv x)) (i + 1)) (stop : ∀ k acc, F (k + 1) acc (l.length : Int) = some acc) :
    ∀ (d k : Nat) (acc : List β) (i : Int), 0 ≤ i → i ≤ l.length → (l.length : Int) - i = d → d < k → acc.length = l.length → F k acc i = some (acc.take i.toNat ++ (l.drop i.toNat).map conv) := by
  intro d
  induction d with
  | zero =>
    intro k acc i h0 h1 hd hk ha
    obtain ⟨k, rfl⟩ : ∃ m, k = m + 1 := ⟨k - 1, by omega⟩
    obtain rfl : i = (l.length : Int) := by omega
    rw [stop k]
    simp [← ha]
  | succ d ih =>
    intro k acc i h0 h1 hd hk ha
    obtain ⟨k, rfl⟩ : ∃ m, k = m + 1 := ⟨k - 1, by omega⟩
    have hlt : i.toNat < l.length := by omega
    have hx : l[i.toNat]? = some l[i.toNat] := List.getElem?_eq_getElem hlt
    rw [step k acc i _ h0 hx ha, ih k _ (i + 1) (by omega) (by omega) (by omega) (by omega) (by simpa using ha)]
    have e : (i + 1).toNat = i.toNat + 1 := by omega
    rw [e]
    congr 1
    rw [List.take_succ_eq_append_getElem (by simp; omega)]
    rw [List.drop_eq_getElem_cons hlt, List.map_cons, List.getElem_set_self, List.take_set_of_le (Nat.le_refl _), List.append_assoc]
    rfl

theorem in_eq (a b c : Int) : spec_l1In.f a b c = impl_in.f a b c := rfl

theorem in_some (a b c : Int) : impl_in.f a b c = some (decide (b ≤ a ∧ a ≤ c)) := by
  unfold impl_in.f
  by_cases h : b ≤ a
  · simp [h]
  · simp [h]

def conv (x : S50) : S38 := ⟨x.f0, x.f1⟩

theorem rd50 (l : List S50) (i : Int) (x : S50) (h : l[i.toNat]? = some x) : rd_T50 l i = x := by
  unfold rd_T50
  rw [List.getD_eq_getElem?_getD, h]
  rfl

theorem to_keys (l : List S50) (hl : l.length ≤ 1048576) (k : Nat) (hk : 1048577 ≤ k) : laws_toKeyS.f k l = some (l.map conv) := by
  unfold laws_toKeyS.f
  rw [if_pos (by omega), if_pos (by omega)]
  have h := set_to (fun k acc i => laws_toKeyS.l0 k l acc i) l conv (by
    intro k acc i x h0 hx ha
    have hlt : i.toNat < l.length := (List.getElem?_eq_some_iff.1 hx).1
    simp only [laws_toKeyS.l0]
    rw [if_pos (by omega), if_pos h0, rd50 l i x hx]
    unfold laws_toKey.f
    simp only [Option.bind_some]
    rw [if_pos (by omega)]
    have hw : wrap64 (i + 1) = i + 1 := by unfold wrap64; omega
    rw [hw]
    rfl) (by
    intro k acc
    simp only [laws_toKeyS.l0]
    rw [if_neg (by omega)]) l.length k (List.replicate ((l.length : Int)).toNat z38) 0 (by omega) (by omega) (by omega) (by omega) (by simp)
  rw [h]
  simp

theorem eq_keys (l : List S38) (hl : l.length ≤ 1048576) (k : Nat) (hk : 1048577 ≤ k) : laws_eqKeyS.f k l l = some true := by
  unfold laws_eqKeyS.f
  rw [if_pos rfl]
  exact run_to (fun k i => laws_eqKeyS.l0 k l l i) (l.length : Int) true (by
    intro k i h0 h1
    simp only [laws_eqKeyS.l0]
    rw [if_pos h1, if_pos h0, if_pos h1]
    unfold laws_eqKey.f
    have hw : wrap64 (i + 1) = i + 1 := by unfold wrap64; omega
    simp [hw]) (by
    intro k
    simp only [laws_eqKeyS.l0]
    rw [if_neg (by omega)]) l.length k 0 (by omega) (by omega) (by omega) (by omega)

theorem keys_l0 (l : List S38) (hl : l.length ≤ 1048576) : ∀ (k : Nat) (i : Int), 0 ≤ i → impl_KeysOk.l0 k l l (l.length : Int) i = spec_KeysOk.l0 k l i
  | 0, i, _ => rfl
  | k + 1, i, hi => by
    simp only [impl_KeysOk.l0, spec_KeysOk.l0]
    by_cases c : i < (l.length : Int)
    · rw [if_pos c, if_pos c, if_pos hi, if_pos hi, if_pos c]
      have hw : wrap64 (i + 1) = i + 1 := by unfold wrap64; omega
      rw [hw, keys_l0 l hl k (i + 1) (by omega)]
      rfl
    · rw [if_neg c, if_neg c]

theorem keys_some (l : List S38) (hl : l.length ≤ 1048576) : ∀ (d k : Nat) (i : Int), 0 ≤ i → i ≤ l.length → (l.length : Int) - i = d → d < k → ∃ r, spec_KeysOk.l0 k l i = some r := by
  intro d
  induction d with
  | zero =>
    intro k i h0 h1 hd hk
    obtain ⟨k, rfl⟩ : ∃ m, k = m + 1 := ⟨k - 1, by omega⟩
    exact ⟨true, by simp only [spec_KeysOk.l0]; rw [if_neg (by omega)]⟩
  | succ d ih =>
    intro k i h0 h1 hd hk
    obtain ⟨k, rfl⟩ : ∃ m, k = m + 1 := ⟨k - 1, by omega⟩
    have hw : wrap64 (i + 1) = i + 1 := by unfold wrap64; omega
    obtain ⟨r, hr⟩ := ih k (i + 1) (by omega) (by omega) (by omega) (by omega)
    simp only [spec_KeysOk.l0]
    rw [if_pos (by omega), if_pos h0, hw, hr]
    unfold spec_l1Frame.f
    simp only [in_eq, in_some, Option.bind_some]
    split
    · split
      · by_cases c : i > 0
        · have hv : wrap64 (i - 1) = i - 1 := by unfold wrap64; omega
          rw [if_pos c, hv, if_pos (by omega), if_pos (by omega)]
          split
          · exact ⟨_, rfl⟩
          · exact ⟨_, rfl⟩
        · rw [if_neg c]
          exact ⟨_, rfl⟩
      · exact ⟨_, rfl⟩
    · exact ⟨_, rfl⟩

/-- The program's KeysOk and the reference's answer alike. -/
theorem keys_eq (l : List S38) (hl : l.length ≤ 1048576) (k : Nat) (hk : 1048578 ≤ k) : ∃ r, spec_KeysOk.f k l = some r ∧ impl_KeysOk.f k l = some r := by
  obtain ⟨k, rfl⟩ : ∃ m, k = m + 1 := ⟨k - 1, by omega⟩
  unfold spec_KeysOk.f impl_KeysOk.f
  simp only [in_some, Option.bind_some, spec_KeysOk.j0]
  obtain ⟨r, hr⟩ := keys_some l hl l.length k 0 (by omega) (by omega) (by omega) (by omega)
  obtain ⟨r2, hr2⟩ := keys_some l hl l.length (k + 1) 0 (by omega) (by omega) (by omega) (by omega)
  have hm := spec_KeysOk.mono_l k
  have e : spec_KeysOk.l0 (k + 1) l 0 = some r := by
    have := (spec_KeysOk.mono_l k).2 l 0 r hr
    exact this
  by_cases c : 1 ≤ (l.length : Int) ∧ (l.length : Int) ≤ 100
  · rw [if_neg (by omega)]
    have hd : ¬ (l.length : Int) > 100 := by omega
    refine ⟨r, ?_, ?_⟩
    · simp [hd, hr]
    · simp [c, keys_l0 l hl (k + 1) 0 (by omega), e]
  · by_cases c2 : (l.length : Int) < 1
    · exact ⟨false, by simp [c2], by simp [c]⟩
    · have hd : (l.length : Int) > 100 := by omega
      exact ⟨false, by simp [c2, hd], by simp [c]⟩

theorem frame_some (a : Int) : spec_l1Frame.f a = some (decide (0 ≤ a ∧ a ≤ 10000000)) := by
  unfold spec_l1Frame.f
  simp only [in_eq, in_some, Option.bind_some]

theorem frame_eq (a : Int) : impl_isFrame.f a = spec_l1Frame.f a := rfl

theorem down_eq (a b : Int) : spec_l8Down.f a b = impl_down.f a b := rfl

theorem down_some (a b : Int) (hb : b ≠ 0) : ∃ r, impl_down.f a b = some r := by
  unfold impl_down.f
  rw [if_neg hb]
  split <;> exact ⟨_, rfl⟩

/-- What KeysOk's 'yes' tells of each key. -/
structure Good (l : List S38) (j : Int) : Prop where
  at0 : 0 ≤ (rd_T38 l j).f0
  at1 : (rd_T38 l j).f0 ≤ 10000000
  to0 : 0 ≤ (rd_T38 l j).f1
  to1 : (rd_T38 l j).f1 ≤ 10000000
  up : 0 < j → (rd_T38 l (j - 1)).f0 < (rd_T38 l j).f0

theorem keys_true (l : List S38) (hl : l.length ≤ 1048576) : ∀ (k : Nat) (i : Int), 0 ≤ i → spec_KeysOk.l0 k l i = some true → ∀ j, i ≤ j → j < (l.length : Int) → Good l j
  | 0, i, _, h, _, _, _ => by simp [spec_KeysOk.l0] at h
  | k + 1, i, hi, h, j, hj, hjl => by
    simp only [spec_KeysOk.l0] at h
    have hw : wrap64 (i + 1) = i + 1 := by unfold wrap64; omega
    rw [if_pos (by omega), if_pos hi, frame_some, frame_some, hw] at h
    simp only [Option.bind_some, decide_eq_true_eq] at h
    by_cases c1 : 0 ≤ (rd_T38 l i).f0 ∧ (rd_T38 l i).f0 ≤ 10000000
    · rw [if_pos c1] at h
      by_cases c2 : 0 ≤ (rd_T38 l i).f1 ∧ (rd_T38 l i).f1 ≤ 10000000
      · rw [if_pos c2] at h
        by_cases c3 : i > 0
        · have hv : wrap64 (i - 1) = i - 1 := by unfold wrap64; omega
          rw [if_pos c3, hv, if_pos (by omega), if_pos (by omega)] at h
          by_cases c4 : (rd_T38 l i).f0 ≤ (rd_T38 l (i - 1)).f0
          · rw [if_pos c4] at h
            simp at h
          · rw [if_neg c4] at h
            by_cases e : j = i
            · subst e
              exact ⟨c1.1, c1.2, c2.1, c2.2, fun _ => by omega⟩
            · exact keys_true l hl k (i + 1) (by omega) h j (by omega) hjl
        · rw [if_neg c3] at h
          by_cases e : j = i
          · subst e
            exact ⟨c1.1, c1.2, c2.1, c2.2, fun q => by omega⟩
          · exact keys_true l hl k (i + 1) (by omega) h j (by omega) hjl
      · rw [if_neg c2] at h
        simp at h
    · rw [if_neg c1] at h
      simp at h

theorem ok_true (l : List S38) (hl : l.length ≤ 1048576) (k : Nat) (h : spec_KeysOk.f k l = some true) : 1 ≤ l.length ∧ l.length ≤ 100 ∧ ∀ j : Int, 0 ≤ j → j < (l.length : Int) → Good l j := by
  unfold spec_KeysOk.f at h
  cases k with
  | zero => simp [spec_KeysOk.j0] at h
  | succ k =>
    simp only [spec_KeysOk.j0] at h
    by_cases c1 : (l.length : Int) < 1
    · simp [c1] at h
    · by_cases c2 : (l.length : Int) > 100
      · simp [c1, c2] at h
      · simp [c1, c2] at h
        exact ⟨by omega, by omega, fun j h0 h1 => keys_true l hl k 0 (by omega) h j h0 h1⟩

/-- What the program's 'between' says of the place that it found. -/
def rest (l0 : List S38) (a1 t146 : Int) : Option (Int × Int × Int) := (if t146 < 0 then (if 0 ≤ (wrap64 ((l0.length : Int) - 1)) then (if (wrap64 ((l0.length : Int) - 1)) < (l0.length : Int) then (some ((rd_T38 l0 (wrap64 ((l0.length : Int) - 1))).f1, 0, 0)) else (none)) else (none)) else (if t146 = 0 then (if 0 ≤ t146 then (if t146 < (l0.length : Int) then (some ((rd_T38 l0 t146).f1, 0, 0)) else (none)) else (none)) else (if 0 ≤ t146 then (if t146 < (l0.length : Int) then (if ((rd_T38 l0 t146).f0) = a1 then (some ((rd_T38 l0 t146).f1, 0, 0)) else (if 0 ≤ (wrap64 (t146 - 1)) then (if (wrap64 (t146 - 1)) < (l0.length : Int) then ((impl_down.f (wrap64 ((wrap64 (a1 - ((rd_T38 l0 (wrap64 (t146 - 1))).f0))) * (wrap64 (((rd_T38 l0 t146).f1) - ((rd_T38 l0 (wrap64 (t146 - 1))).f1))))) (wrap64 (((rd_T38 l0 t146).f0) - ((rd_T38 l0 (wrap64 (t146 - 1))).f0)))).bind fun t155 => (some (wrap64 (((rd_T38 l0 (wrap64 (t146 - 1))).f1) + t155), wrap64 ((wrap64 ((wrap64 (a1 - ((rd_T38 l0 (wrap64 (t146 - 1))).f0))) * (wrap64 (((rd_T38 l0 t146).f1) - ((rd_T38 l0 (wrap64 (t146 - 1))).f1))))) - (wrap64 (t155 * (wrap64 (((rd_T38 l0 t146).f0) - ((rd_T38 l0 (wrap64 (t146 - 1))).f0)))))), wrap64 (((rd_T38 l0 t146).f0) - ((rd_T38 l0 (wrap64 (t146 - 1))).f0))))) else (none)) else (none))) else (none)) else (none))))

theorem between_rest (k : Nat) (l : List S38) (t : Int) : impl_between.f k l t = (impl_Key.f k l (impl_between_1.g t)).bind (rest l t) := rfl

theorem search (l : List S38) (t : Int) (h1 : 1 ≤ l.length) (h2 : l.length ≤ 100) (hg : ∀ j : Int, 0 ≤ j → j < (l.length : Int) → Good l j) : ∀ (d k : Nat) (i : Int), 1 ≤ i → i ≤ l.length → (l.length : Int) - i = d → d < k → (rd_T38 l (i - 1)).f0 < t →
    ∃ n v, impl_Key.l0 k l (impl_between_1.g t) (l.length : Int) i = some n ∧ rest l t n = some v ∧ spec_l8At.l0 k l t (l.length : Int) i = some v := by
  have wl : wrap64 ((l.length : Int) - 1) = (l.length : Int) - 1 := by unfold wrap64; omega
  intro d
  induction d with
  | zero =>
    intro k i h0 h1 hd hk ht
    obtain ⟨k, rfl⟩ : ∃ m, k = m + 1 := ⟨k - 1, by omega⟩
    refine ⟨-1, ((rd_T38 l ((l.length : Int) - 1)).f1, 0, 0), ?_, ?_, ?_⟩
    · simp only [impl_Key.l0]
      rw [if_neg (by omega)]
    · unfold rest
      rw [if_pos (by omega), wl, if_pos (by omega), if_pos (by omega)]
    · simp only [spec_l8At.l0]
      rw [if_neg (by omega), wl, if_pos (by omega), if_pos (by omega)]
  | succ d ih =>
    intro k i h0 h1 hd hk ht
    obtain ⟨k, rfl⟩ : ∃ m, k = m + 1 := ⟨k - 1, by omega⟩
    have wi : wrap64 (i + 1) = i + 1 := by unfold wrap64; omega
    have wj : wrap64 (i - 1) = i - 1 := by unfold wrap64; omega
    have hlt : i < (l.length : Int) := by omega
    have g := hg i (by omega) hlt
    have g1 := hg (i - 1) (by omega) (by omega)
    have hup := g.up (by omega)
    have hne : wrap64 ((rd_T38 l i).f0 - (rd_T38 l (i - 1)).f0) ≠ 0 := by
      have := g.at1; have := g1.at0
      unfold wrap64
      omega
    obtain ⟨q, hq⟩ := down_some (wrap64 ((wrap64 (t - (rd_T38 l (i - 1)).f0)) * (wrap64 ((rd_T38 l i).f1 - (rd_T38 l (i - 1)).f1)))) _ hne
    simp only [impl_Key.l0, spec_l8At.l0]
    rw [if_pos hlt, if_pos hlt, if_pos (by omega : 0 ≤ i), if_pos hlt, wi, wj, if_pos (by omega), if_pos (by omega), if_pos (by omega : 0 ≤ i), if_pos hlt]
    have hG : GK.f (impl_between_1.g t) (rd_T38 l i).f0 (rd_T38 l i).f1 = some (decide (t ≤ (rd_T38 l i).f0)) := rfl
    rw [hG]
    simp only [Option.bind_some, decide_eq_true_eq]
    by_cases c : t ≤ (rd_T38 l i).f0
    · rw [if_pos c]
      by_cases ce : (rd_T38 l i).f0 = t
      · refine ⟨i, ((rd_T38 l i).f1, 0, 0), rfl, ?_, ?_⟩
        · unfold rest
          rw [if_neg (by omega), if_neg (by omega), if_pos (by omega), if_pos hlt, if_pos ce]
        · rw [if_neg (by omega)]
          obtain ⟨k, rfl⟩ : ∃ m, k = m + 1 := ⟨k - 1, by omega⟩
          simp only [spec_l8At.l0]
          by_cases cl : i + 1 < (l.length : Int)
          · have wi2 : wrap64 (i + 1 - 1) = i := by unfold wrap64; omega
            have g2 := hg (i + 1) (by omega) cl
            have hup2 := g2.up (by omega)
            have ei : i + 1 - 1 = i := by omega
            rw [ei] at hup2
            have hne2 : wrap64 ((rd_T38 l (i + 1)).f0 - (rd_T38 l i).f0) ≠ 0 := by
              have := g2.at1; have := g.at0
              unfold wrap64
              omega
            obtain ⟨q2, hq2⟩ := down_some (wrap64 ((wrap64 (t - (rd_T38 l i).f0)) * (wrap64 ((rd_T38 l (i + 1)).f1 - (rd_T38 l i).f1)))) _ hne2
            rw [if_pos cl, wi2, if_pos (by omega), if_pos hlt, if_pos (by omega), if_pos cl, if_pos (by omega), down_eq, hq2]
            simp only [Option.bind_some]
            rw [if_pos ce.symm]
          · have ei : i = (l.length : Int) - 1 := by omega
            rw [if_neg cl, wl, if_pos (by omega), if_pos (by omega), ← ei]
      · refine ⟨i, (wrap64 ((rd_T38 l (i - 1)).f1 + q), wrap64 ((wrap64 ((wrap64 (t - (rd_T38 l (i - 1)).f0)) * (wrap64 ((rd_T38 l i).f1 - (rd_T38 l (i - 1)).f1)))) - wrap64 (q * wrap64 ((rd_T38 l i).f0 - (rd_T38 l (i - 1)).f0))), wrap64 ((rd_T38 l i).f0 - (rd_T38 l (i - 1)).f0)), rfl, ?_, ?_⟩
        · unfold rest
          rw [if_neg (by omega), if_neg (by omega), if_pos (by omega), if_pos hlt, if_neg ce, wj, if_pos (by omega), if_pos (by omega), hq]
          rfl
        · rw [if_pos (by omega), down_eq, hq]
          simp only [Option.bind_some]
          rw [if_neg (by omega)]
    · rw [if_neg c, if_neg (by omega)]
      exact ih k (i + 1) (by omega) (by omega) (by omega) (by omega) (by rw [show i + 1 - 1 = i by omega]; omega)

/-- Where the keys are in order, both find the same frame, rest and divisor. -/
theorem at_eq (l : List S38) (t : Int) (h1 : 1 ≤ l.length) (h2 : l.length ≤ 100) (hg : ∀ j : Int, 0 ≤ j → j < (l.length : Int) → Good l j) (k : Nat) (hk : 102 ≤ k) : ∃ v, spec_l8At.f k l t = some v ∧ impl_between.f k l t = some v := by
  obtain ⟨k, rfl⟩ : ∃ m, k = m + 1 := ⟨k - 1, by omega⟩
  rw [between_rest]
  unfold spec_l8At.f impl_Key.f
  rw [if_pos (by omega)]
  simp only [impl_Key.l0]
  have hG : GK.f (impl_between_1.g t) (rd_T38 l 0).f0 (rd_T38 l 0).f1 = some (decide (t ≤ (rd_T38 l 0).f0)) := rfl
  rw [if_pos (by omega : (0 : Int) < (l.length : Int)), if_pos (by omega : (0 : Int) ≤ 0), if_pos (by omega : (0 : Int) < (l.length : Int)), hG]
  simp only [Option.bind_some, decide_eq_true_eq]
  by_cases c : t ≤ (rd_T38 l 0).f0
  · refine ⟨((rd_T38 l 0).f1, 0, 0), by rw [if_pos c], ?_⟩
    rw [if_pos c]
    show rest l t 0 = _
    unfold rest
    rw [if_neg (by omega), if_pos rfl, if_pos (by omega), if_pos (by omega)]
  · rw [if_neg c, if_neg c]
    have w0 : wrap64 (0 + 1) = 1 := by unfold wrap64; omega
    rw [w0]
    obtain ⟨n, v, hn, hr, hs⟩ := search l t h1 h2 hg (l.length - 1) k 1 (by omega) (by omega) (by omega) (by omega) (by show (rd_T38 l 0).f0 < t; omega)
    obtain ⟨n', v', hn', hr', hs'⟩ := search l t h1 h2 hg (l.length - 1) (k + 1) 1 (by omega) (by omega) (by omega) (by omega) (by show (rd_T38 l 0).f0 < t; omega)
    have e : n' = n := by
      have := impl_Key.mono_l k l (impl_between_1.g t) (l.length : Int) 1 n hn
      rw [hn'] at this
      exact Option.some.inj this
    subst e
    rw [hr] at hr'
    obtain rfl := Option.some.inj hr'
    exact ⟨v, hs', by rw [hn]; exact hr⟩

theorem blend_eq (l : List S38) (t : Int) (hl : l.length ≤ 1048576) (k : Nat) (hk : 1048579 ≤ k) : ∃ r, spec_Blend.f k l t = some r ∧ impl_Blend.f k l t = some r := by
  obtain ⟨k, rfl⟩ : ∃ m, k = m + 1 := ⟨k - 1, by omega⟩
  unfold spec_Blend.f impl_Blend.f
  obtain ⟨r, h1, h2⟩ := keys_eq l hl (k + 1) (by omega)
  rw [h1, h2, frame_eq, frame_some]
  simp only [Option.bind_some]
  by_cases c : r = true
  · subst c
    simp only [if_true]
    by_cases d : 0 ≤ t ∧ t ≤ 10000000
    · obtain ⟨a, b, g⟩ := ok_true l hl (k + 1) h1
      obtain ⟨v, hv1, hv2⟩ := at_eq l t a b g k (by omega)
      obtain ⟨v1, v2, v3⟩ := v
      simp only [d, and_self, decide_true, Bool.not_true, spec_Blend.j0, impl_Blend.j0, Bool.false_eq_true, if_false]
      rw [hv1, hv2]
      simp only [Option.bind_some]
      by_cases e : v3 = 0
      · exact ⟨(v1, v1, 0), by simp [e], by simp [e]⟩
      · rw [if_neg e, if_neg e]
        unfold spec_l1Min.f mn
        by_cases f : 10000000 < wrap64 (v1 + 1)
        · exact ⟨(v1, 10000000, wrap64 (Int.tdiv (wrap64 (v2 * 256)) v3)), by rw [if_pos f]; rfl, by rw [if_pos f]⟩
        · exact ⟨(v1, wrap64 (v1 + 1), wrap64 (Int.tdiv (wrap64 (v2 * 256)) v3)), by rw [if_neg f]; rfl, by rw [if_neg f]⟩
    · refine ⟨(-1, -1, -1), ?_, ?_⟩
      · simp [d, spec_Blend.j0]
      · simp [d, impl_Blend.j0]
  · refine ⟨(-1, -1, -1), ?_, ?_⟩
    · simp [c, spec_Blend.j0]
    · simp [c, impl_Blend.j0]

theorem FnExactBlend (l0 : List PFnExactBlend.S50) (a1 : Int) (w0 : (l0.length ≤ maxLen ∧ ∀ y2 ∈ l0, ((Lit.int .i64 y2.f0).wf = true) ∧ ((Lit.int .i64 y2.f1).wf = true))) (w1 : (Lit.int .i64 a1).wf = true) : ∃ k, PFnExactBlend.laws_FnExactBlend.f k l0 a1 = some true := by
  have hm := w0.1
  unfold maxLen at hm
  unfold laws_FnExactBlend.f laws_szKeyS.f
  have hw : wrap64 (1048576 - (l0.length : Int)) = 1048576 - (l0.length : Int) := by unfold wrap64; omega
  rw [hw]
  by_cases c : 1048576 - (l0.length : Int) < 0
  · exact ⟨1, by simp [c]⟩
  · obtain ⟨k, hk⟩ : ∃ k, k = 1048579 := ⟨_, rfl⟩
    refine ⟨k + 1, ?_⟩
    rw [if_neg c]
    simp only [Option.bind_some]
    rw [if_neg c, to_keys l0 (by omega) _ (by omega)]
    simp only [Option.bind_some]
    obtain ⟨r, h1, h2⟩ := blend_eq (l0.map conv) a1 (by simp; omega) (k + 1) (by omega)
    rw [h1, h2]
    simp only [Option.bind_some, if_true, bne_self_eq_false, laws_FnExactBlend.j0, Bool.false_eq_true, if_false]
    rw [to_keys l0 (by omega) _ (by omega)]
    simp only [Option.bind_some]
    rw [eq_keys (l0.map conv) (by simp; omega) _ (by omega)]
    rfl

end Go.Proofs.Ytdfhhnepodnioaa.Pure
