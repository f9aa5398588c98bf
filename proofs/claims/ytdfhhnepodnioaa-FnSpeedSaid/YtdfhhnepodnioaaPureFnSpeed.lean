/- Proved: the plain law behind FnSpeed: whatever the draw, it answers true. No condition. -/
import Derived.Test.YtdfhhnepodnioaaPFnSpeedx7
namespace Go.Proofs.Ytdfhhnepodnioaa.Pure
open Go.RowKit Go.Proofs.Ytdfhhnepodnioaa.PFnSpeed Go.Proofs.YtdfhhnepodnioaaW.PrintWords Go.Proofs.YtdfhhnepodnioaaW.PrintLast

set_option linter.unusedVariables false
set_option linter.unusedSimpArgs false

theorem run_to {α : Type} (F : Nat → Int → Option α) (n : Int) (r : α) (step : ∀ k i, 0 ≤ i → i < n → F (k + 1) i = F k (i + 1)) (stop : ∀ k, F (k + 1) n = some r) :
    ∀ (d k : Nat) (i : Int), 0 ≤ i → i ≤ n → n - i = d → d < k → F k i = some r := by
  intro d
  induction d with
  | zero =>
    intro k i h0 h1 hd hk
    obtain ⟨k, rfl⟩ : ∃ m, k = m + 1 := ⟨k - 1, by omega⟩
    obtain rfl : i = n := by omega
    exact stop k
  | succ d ih =>
    intro k i h0 h1 hd hk
    obtain ⟨k, rfl⟩ : ∃ m, k = m + 1 := ⟨k - 1, by omega⟩
    rw [step k i h0 (by omega)]
    exact ih k (i + 1) (by omega) (by omega) (by omega) (by omega)

theorem set_to {α β : Type} (F : Nat → List β → Int → Option (List β)) (l : List α) (conv : α → β)
    (step : ∀ k acc i x, 0 ≤ i → l[i.toNat]? = some x → acc.length = l.length → F (k + 1) acc i = F k (acc.set i.toNat (conv x)) (i + 1)) (stop : ∀ k acc, F (k + 1) acc (l.length : Int) = some acc) :
    ∀ (d k : Nat) (acc : List β) (i : Int), 0 ≤ i → i ≤ l.length → (l.length : Int) - i = d → d < k → acc.length = l.length → F k acc i = some (acc.take i.toNat ++ (l.drop i.toNat).map conv) := by
  intro d
  induction d with
  | zero =>
    intro k acc i h0 h1 hd hk ha
    obtain ⟨k, rfl⟩ : ∃ m, k = m + 1 := ⟨k - 1, by omega⟩
    obtain rfl : i = (l.length : Int) := by omega
    rw [stop k]
    simp [← ha]
  | succ d ih =>
    intro k acc i h0 h1 hd hk ha
    obtain ⟨k, rfl⟩ : ∃ m, k = m + 1 := ⟨k - 1, by omega⟩
    have hlt : i.toNat < l.length := by omega
    have hx : l[i.toNat]? = some l[i.toNat] := List.getElem?_eq_getElem hlt
    rw [step k acc i _ h0 hx ha, ih k _ (i + 1) (by omega) (by omega) (by omega) (by omega) (by simpa using ha)]
    have e : (i + 1).toNat = i.toNat + 1 := by omega
    rw [e]
    congr 1
    rw [List.take_succ_eq_append_getElem (by simp; omega)]
    rw [List.drop_eq_getElem_cons hlt, List.map_cons, List.getElem_set_self, List.take_set_of_le (Nat.le_refl _), List.append_assoc]
    rfl

theorem in_eq (a b c : Int) : spec_l1In.f a b c = impl_in.f a b c := rfl

theorem in_some (a b c : Int) : impl_in.f a b c = some (decide (b ≤ a ∧ a ≤ c)) := by
  unfold impl_in.f
  by_cases h : b ≤ a
  · simp [h]
  · simp [h]

theorem keys_l0 (l : List S38) (hl : l.length ≤ 1048576) : ∀ (k : Nat) (i : Int), 0 ≤ i → impl_KeysOk.l0 k l l (l.length : Int) i = spec_KeysOk.l0 k l i
  | 0, i, _ => rfl
  | k + 1, i, hi => by
    simp only [impl_KeysOk.l0, spec_KeysOk.l0]
    by_cases c : i < (l.length : Int)
    · rw [if_pos c, if_pos c, if_pos hi, if_pos hi, if_pos c]
      have hw : wrap64 (i + 1) = i + 1 := by unfold wrap64; omega
      rw [hw, keys_l0 l hl k (i + 1) (by omega)]
      rfl
    · rw [if_neg c, if_neg c]

theorem keys_some (l : List S38) (hl : l.length ≤ 1048576) : ∀ (d k : Nat) (i : Int), 0 ≤ i → i ≤ l.length → (l.length : Int) - i = d → d < k → ∃ r, spec_KeysOk.l0 k l i = some r := by
  intro d
  induction d with
  | zero =>
    intro k i h0 h1 hd hk
    obtain ⟨k, rfl⟩ : ∃ m, k = m + 1 := ⟨k - 1, by omega⟩
    exact ⟨true, by simp only [spec_KeysOk.l0]; rw [if_neg (by omega)]⟩
  | succ d ih =>
    intro k i h0 h1 hd hk
    obtain ⟨k, rfl⟩ : ∃ m, k = m + 1 := ⟨k - 1, by omega⟩
    have hw : wrap64 (i + 1) = i + 1 := by unfold wrap64; omega
    obtain ⟨r, hr⟩ := ih k (i + 1) (by omega) (by omega) (by omega) (by omega)
    simp only [spec_KeysOk.l0]
    rw [if_pos (by omega), if_pos h0, hw, hr]
    unfold spec_l1Frame.f
    simp only [in_eq, in_some, Option.bind_some]
    split
    · split
      · by_cases c : i > 0
        · have hv : wrap64 (i - 1) = i - 1 := by unfold wrap64; omega
          rw [if_pos c, hv, if_pos (by omega), if_pos (by omega)]
          split
          · exact ⟨_, rfl⟩
          · exact ⟨_, rfl⟩
        · rw [if_neg c]
          exact ⟨_, rfl⟩
      · exact ⟨_, rfl⟩
    · exact ⟨_, rfl⟩

/-- The program's KeysOk and the reference's answer alike. -/
theorem keys_eq (l : List S38) (hl : l.length ≤ 1048576) (k : Nat) (hk : 1048578 ≤ k) : ∃ r, spec_KeysOk.f k l = some r ∧ impl_KeysOk.f k l = some r := by
  obtain ⟨k, rfl⟩ : ∃ m, k = m + 1 := ⟨k - 1, by omega⟩
  unfold spec_KeysOk.f impl_KeysOk.f
  simp only [in_some, Option.bind_some, spec_KeysOk.j0]
  obtain ⟨r, hr⟩ := keys_some l hl l.length k 0 (by omega) (by omega) (by omega) (by omega)
  obtain ⟨r2, hr2⟩ := keys_some l hl l.length (k + 1) 0 (by omega) (by omega) (by omega) (by omega)
  have hm := spec_KeysOk.mono_l k
  have e : spec_KeysOk.l0 (k + 1) l 0 = some r := by
    have := (spec_KeysOk.mono_l k).2 l 0 r hr
    exact this
  by_cases c : 1 ≤ (l.length : Int) ∧ (l.length : Int) ≤ 100
  · rw [if_neg (by omega)]
    have hd : ¬ (l.length : Int) > 100 := by omega
    refine ⟨r, ?_, ?_⟩
    · simp [hd, hr]
    · simp [c, keys_l0 l hl (k + 1) 0 (by omega), e]
  · by_cases c2 : (l.length : Int) < 1
    · exact ⟨false, by simp [c2], by simp [c]⟩
    · have hd : (l.length : Int) > 100 := by omega
      exact ⟨false, by simp [c2, hd], by simp [c]⟩

theorem frame_some (a : Int) : spec_l1Frame.f a = some (decide (0 ≤ a ∧ a ≤ 10000000)) := by
  unfold spec_l1Frame.f
  simp only [in_eq, in_some, Option.bind_some]

theorem frame_eq (a : Int) : impl_isFrame.f a = spec_l1Frame.f a := rfl

theorem down_eq (a b : Int) : spec_l8Down.f a b = impl_down.f a b := rfl

theorem down_some (a b : Int) (hb : b ≠ 0) : ∃ r, impl_down.f a b = some r := by
  unfold impl_down.f
  rw [if_neg hb]
  split <;> exact ⟨_, rfl⟩

/-- What KeysOk's 'yes' tells of each key. -/
structure Good (l : List S38) (j : Int) : Prop where
  at0 : 0 ≤ (rd_T38 l j).f0
  at1 : (rd_T38 l j).f0 ≤ 10000000
  to0 : 0 ≤ (rd_T38 l j).f1
  to1 : (rd_T38 l j).f1 ≤ 10000000
  up : 0 < j → (rd_T38 l (j - 1)).f0 < (rd_T38 l j).f0

theorem keys_true (l : List S38) (hl : l.length ≤ 1048576) : ∀ (k : Nat) (i : Int), 0 ≤ i → spec_KeysOk.l0 k l i = some true → ∀ j, i ≤ j → j < (l.length : Int) → Good l j
  | 0, i, _, h, _, _, _ => by simp [spec_KeysOk.l0] at h
  | k + 1, i, hi, h, j, hj, hjl => by
    simp only [spec_KeysOk.l0] at h
    have hw : wrap64 (i + 1) = i + 1 := by unfold wrap64; omega
    rw [if_pos (by omega), if_pos hi, frame_some, frame_some, hw] at h
    simp only [Option.bind_some, decide_eq_true_eq] at h
    by_cases c1 : 0 ≤ (rd_T38 l i).f0 ∧ (rd_T38 l i).f0 ≤ 10000000
    · rw [if_pos c1] at h
      by_cases c2 : 0 ≤ (rd_T38 l i).f1 ∧ (rd_T38 l i).f1 ≤ 10000000
      · rw [if_pos c2] at h
        by_cases c3 : i > 0
        · have hv : wrap64 (i - 1) = i - 1 := by unfold wrap64; omega
          rw [if_pos c3, hv, if_pos (by omega), if_pos (by omega)] at h
          by_cases c4 : (rd_T38 l i).f0 ≤ (rd_T38 l (i - 1)).f0
          · rw [if_pos c4] at h
            simp at h
          · rw [if_neg c4] at h
            by_cases e : j = i
            · subst e
              exact ⟨c1.1, c1.2, c2.1, c2.2, fun _ => by omega⟩
            · exact keys_true l hl k (i + 1) (by omega) h j (by omega) hjl
        · rw [if_neg c3] at h
          by_cases e : j = i
          · subst e
            exact ⟨c1.1, c1.2, c2.1, c2.2, fun q => by omega⟩
          · exact keys_true l hl k (i + 1) (by omega) h j (by omega) hjl
      · rw [if_neg c2] at h
        simp at h
    · rw [if_neg c1] at h
      simp at h

theorem ok_true (l : List S38) (hl : l.length ≤ 1048576) (k : Nat) (h : spec_KeysOk.f k l = some true) : 1 ≤ l.length ∧ l.length ≤ 100 ∧ ∀ j : Int, 0 ≤ j → j < (l.length : Int) → Good l j := by
  unfold spec_KeysOk.f at h
  cases k with
  | zero => simp [spec_KeysOk.j0] at h
  | succ k =>
    simp only [spec_KeysOk.j0] at h
    by_cases c1 : (l.length : Int) < 1
    · simp [c1] at h
    · by_cases c2 : (l.length : Int) > 100
      · simp [c1, c2] at h
      · simp [c1, c2] at h
        exact ⟨by omega, by omega, fun j h0 h1 => keys_true l hl k 0 (by omega) h j h0 h1⟩

/-- What the program's 'between' says of the place that it found. -/
def rest (l0 : List S38) (a1 t146 : Int) : Option (Int × Int × Int) := (if t146 < 0 then (if 0 ≤ (wrap64 ((l0.length : Int) - 1)) then (if (wrap64 ((l0.length : Int) - 1)) < (l0.length : Int) then (some ((rd_T38 l0 (wrap64 ((l0.length : Int) - 1))).f1, 0, 0)) else (none)) else (none)) else (if t146 = 0 then (if 0 ≤ t146 then (if t146 < (l0.length : Int) then (some ((rd_T38 l0 t146).f1, 0, 0)) else (none)) else (none)) else (if 0 ≤ t146 then (if t146 < (l0.length : Int) then (if ((rd_T38 l0 t146).f0) = a1 then (some ((rd_T38 l0 t146).f1, 0, 0)) else (if 0 ≤ (wrap64 (t146 - 1)) then (if (wrap64 (t146 - 1)) < (l0.length : Int) then ((impl_down.f (wrap64 ((wrap64 (a1 - ((rd_T38 l0 (wrap64 (t146 - 1))).f0))) * (wrap64 (((rd_T38 l0 t146).f1) - ((rd_T38 l0 (wrap64 (t146 - 1))).f1))))) (wrap64 (((rd_T38 l0 t146).f0) - ((rd_T38 l0 (wrap64 (t146 - 1))).f0)))).bind fun t155 => (some (wrap64 (((rd_T38 l0 (wrap64 (t146 - 1))).f1) + t155), wrap64 ((wrap64 ((wrap64 (a1 - ((rd_T38 l0 (wrap64 (t146 - 1))).f0))) * (wrap64 (((rd_T38 l0 t146).f1) - ((rd_T38 l0 (wrap64 (t146 - 1))).f1))))) - (wrap64 (t155 * (wrap64 (((rd_T38 l0 t146).f0) - ((rd_T38 l0 (wrap64 (t146 - 1))).f0)))))), wrap64 (((rd_T38 l0 t146).f0) - ((rd_T38 l0 (wrap64 (t146 - 1))).f0))))) else (none)) else (none))) else (none)) else (none))))

theorem between_rest (k : Nat) (l : List S38) (t : Int) : impl_between.f k l t = (impl_Key.f k l (impl_between_1.g t)).bind (rest l t) := rfl

theorem search (l : List S38) (t : Int) (h1 : 1 ≤ l.length) (h2 : l.length ≤ 100) (hg : ∀ j : Int, 0 ≤ j → j < (l.length : Int) → Good l j) : ∀ (d k : Nat) (i : Int), 1 ≤ i → i ≤ l.length → (l.length : Int) - i = d → d < k → (rd_T38 l (i - 1)).f0 < t →
    ∃ n v, impl_Key.l0 k l (impl_between_1.g t) (l.length : Int) i = some n ∧ rest l t n = some v ∧ spec_l8At.l0 k l t (l.length : Int) i = some v := by
  have wl : wrap64 ((l.length : Int) - 1) = (l.length : Int) - 1 := by unfold wrap64; omega
  intro d
  induction d with
  | zero =>
    intro k i h0 h1 hd hk ht
    obtain ⟨k, rfl⟩ : ∃ m, k = m + 1 := ⟨k - 1, by omega⟩
    refine ⟨-1, ((rd_T38 l ((l.length : Int) - 1)).f1, 0, 0), ?_, ?_, ?_⟩
    · simp only [impl_Key.l0]
      rw [if_neg (by omega)]
    · unfold rest
      rw [if_pos (by omega), wl, if_pos (by omega), if_pos (by omega)]
    · simp only [spec_l8At.l0]
      rw [if_neg (by omega), wl, if_pos (by omega), if_pos (by omega)]
  | succ d ih =>
    intro k i h0 h1 hd hk ht
    obtain ⟨k, rfl⟩ : ∃ m, k = m + 1 := ⟨k - 1, by omega⟩
    have wi : wrap64 (i + 1) = i + 1 := by unfold wrap64; omega
    have wj : wrap64 (i - 1) = i - 1 := by unfold wrap64; omega
    have hlt : i < (l.length : Int) := by omega
    have g := hg i (by omega) hlt
    have g1 := hg (i - 1) (by omega) (by omega)
    have hup := g.up (by omega)
    have hne : wrap64 ((rd_T38 l i).f0 - (rd_T38 l (i - 1)).f0) ≠ 0 := by
      have := g.at1; have := g1.at0
      unfold wrap64
      omega
    obtain ⟨q, hq⟩ := down_some (wrap64 ((wrap64 (t - (rd_T38 l (i - 1)).f0)) * (wrap64 ((rd_T38 l i).f1 - (rd_T38 l (i - 1)).f1)))) _ hne
    simp only [impl_Key.l0, spec_l8At.l0]
    rw [if_pos hlt, if_pos hlt, if_pos (by omega : 0 ≤ i), if_pos hlt, wi, wj, if_pos (by omega), if_pos (by omega), if_pos (by omega : 0 ≤ i), if_pos hlt]
    have hG : GK.f (impl_between_1.g t) (rd_T38 l i).f0 (rd_T38 l i).f1 = some (decide (t ≤ (rd_T38 l i).f0)) := rfl
    rw [hG]
    simp only [Option.bind_some, decide_eq_true_eq]
    by_cases c : t ≤ (rd_T38 l i).f0
    · rw [if_pos c]
      by_cases ce : (rd_T38 l i).f0 = t
      · refine ⟨i, ((rd_T38 l i).f1, 0, 0), rfl, ?_, ?_⟩
        · unfold rest
          rw [if_neg (by omega), if_neg (by omega), if_pos (by omega), if_pos hlt, if_pos ce]
        · rw [if_neg (by omega)]
          obtain ⟨k, rfl⟩ : ∃ m, k = m + 1 := ⟨k - 1, by omega⟩
          simp only [spec_l8At.l0]
          by_cases cl : i + 1 < (l.length : Int)
          · have wi2 : wrap64 (i + 1 - 1) = i := by unfold wrap64; omega
            have g2 := hg (i + 1) (by omega) cl
            have hup2 := g2.up (by omega)
            have ei : i + 1 - 1 = i := by omega
            rw [ei] at hup2
            have hne2 : wrap64 ((rd_T38 l (i + 1)).f0 - (rd_T38 l i).f0) ≠ 0 := by
              have := g2.at1; have := g.at0
              unfold wrap64
              omega
            obtain ⟨q2, hq2⟩ := down_some (wrap64 ((wrap64 (t - (rd_T38 l i).f0)) * (wrap64 ((rd_T38 l (i + 1)).f1 - (rd_T38 l i).f1)))) _ hne2
            rw [if_pos cl, wi2, if_pos (by omega), if_pos hlt, if_pos (by omega), if_pos cl, if_pos (by omega), down_eq, hq2]
            simp only [Option.bind_some]
            rw [if_pos ce.symm]
          · have ei : i = (l.length : Int) - 1 := by omega
            rw [if_neg cl, wl, if_pos (by omega), if_pos (by omega), ← ei]
      · refine ⟨i, (wrap64 ((rd_T38 l (i - 1)).f1 + q), wrap64 ((wrap64 ((wrap64 (t - (rd_T38 l (i - 1)).f0)) * (wrap64 ((rd_T38 l i).f1 - (rd_T38 l (i - 1)).f1)))) - wrap64 (q * wrap64 ((rd_T38 l i).f0 - (rd_T38 l (i - 1)).f0))), wrap64 ((rd_T38 l i).f0 - (rd_T38 l (i - 1)).f0)), rfl, ?_, ?_⟩
        · unfold rest
          rw [if_neg (by omega), if_neg (by omega), if_pos (by omega), if_pos hlt, if_neg ce, wj, if_pos (by omega), if_pos (by omega), hq]
          rfl
        · rw [if_pos (by omega), down_eq, hq]
          simp only [Option.bind_some]
          rw [if_neg (by omega)]
    · rw [if_neg c, if_neg (by omega)]
      exact ih k (i + 1) (by omega) (by omega) (by omega) (by omega) (by rw [show i + 1 - 1 = i by omega]; omega)

/-- Where the keys are in order, both find the same frame, rest and divisor. -/
theorem at_eq (l : List S38) (t : Int) (h1 : 1 ≤ l.length) (h2 : l.length ≤ 100) (hg : ∀ j : Int, 0 ≤ j → j < (l.length : Int) → Good l j) (k : Nat) (hk : 102 ≤ k) : ∃ v, spec_l8At.f k l t = some v ∧ impl_between.f k l t = some v := by
  obtain ⟨k, rfl⟩ : ∃ m, k = m + 1 := ⟨k - 1, by omega⟩
  rw [between_rest]
  unfold spec_l8At.f impl_Key.f
  rw [if_pos (by omega)]
  simp only [impl_Key.l0]
  have hG : GK.f (impl_between_1.g t) (rd_T38 l 0).f0 (rd_T38 l 0).f1 = some (decide (t ≤ (rd_T38 l 0).f0)) := rfl
  rw [if_pos (by omega : (0 : Int) < (l.length : Int)), if_pos (by omega : (0 : Int) ≤ 0), if_pos (by omega : (0 : Int) < (l.length : Int)), hG]
  simp only [Option.bind_some, decide_eq_true_eq]
  by_cases c : t ≤ (rd_T38 l 0).f0
  · refine ⟨((rd_T38 l 0).f1, 0, 0), by rw [if_pos c], ?_⟩
    rw [if_pos c]
    show rest l t 0 = _
    unfold rest
    rw [if_neg (by omega), if_pos rfl, if_pos (by omega), if_pos (by omega)]
  · rw [if_neg c, if_neg c]
    have w0 : wrap64 (0 + 1) = 1 := by unfold wrap64; omega
    rw [w0]
    obtain ⟨n, v, hn, hr, hs⟩ := search l t h1 h2 hg (l.length - 1) k 1 (by omega) (by omega) (by omega) (by omega) (by show (rd_T38 l 0).f0 < t; omega)
    obtain ⟨n', v', hn', hr', hs'⟩ := search l t h1 h2 hg (l.length - 1) (k + 1) 1 (by omega) (by omega) (by omega) (by omega) (by show (rd_T38 l 0).f0 < t; omega)
    have e : n' = n := by
      have := impl_Key.mono_l k l (impl_between_1.g t) (l.length : Int) 1 n hn
      rw [hn'] at this
      exact Option.some.inj this
    subst e
    rw [hr] at hr'
    obtain rfl := Option.some.inj hr'
    exact ⟨v, hs', by rw [hn]; exact hr⟩

theorem speedat_eq (l : List S38) (t : Int) (hl : l.length ≤ 1048576) (k : Nat) (hk : 1048578 ≤ k) : ∃ r, spec_SpeedAt.f k l t = some r ∧ impl_SpeedAt.f k l t = some r := by
  unfold spec_SpeedAt.f impl_SpeedAt.f
  obtain ⟨r, h1, h2⟩ := keys_eq l hl k hk
  rw [h1, h2, frame_eq, frame_some]
  simp only [Option.bind_some]
  by_cases c : r = true
  · subst c
    simp only [if_true]
    by_cases d : 0 ≤ t ∧ t ≤ 10000000
    · obtain ⟨a, b, g⟩ := ok_true l hl k h1
      obtain ⟨v, hv1, hv2⟩ := at_eq l t a b g k (by omega)
      exact ⟨v.1, by simp [d, hv1], by simp [d, hv2]⟩
    · exact ⟨-1, by simp [d], by simp [d]⟩
  · exact ⟨-1, by simp [c], by simp [c]⟩

theorem and255 (n : Int) : Go.bits .and .i64 n 255 = n % 256 := by
  have h127 : (BitVec.ofInt 64 255).toNat = 2 ^ 8 - 1 := by decide
  have key : (BitVec.ofInt 64 n &&& BitVec.ofInt 64 255).toNat = (n % ((2 ^ 64 : Nat) : Int)).toNat % 2 ^ 8 := by
    rw [BitVec.toNat_and, BitVec.toNat_ofInt, h127, Nat.and_two_pow_sub_one_eq_mod]
  show IntKind.i64.wrap ((BitVec.ofInt 64 n &&& BitVec.ofInt 64 255).toNat : Nat) = n % 256
  rw [key, IntKind.wrap_i64]
  omega

theorem byte_ok (b : List Int) (i h : Int) (hb : b.length ≤ 4096) (hi : 0 ≤ i) :
    ∃ x i' h', spec_l1Byte.f b i h = some (x, i', h') ∧ 0 ≤ x ∧ x ≤ 255 ∧ 0 ≤ i' := by
  unfold spec_l1Byte.f
  simp only [and255]
  by_cases c : i < (b.length : Int)
  · rw [if_pos c, if_pos hi]
    have hw : wrap64 (i + 1) = i + 1 := by unfold wrap64; omega
    rw [hw]
    exact ⟨_, _, _, rfl, by omega, by omega, by omega⟩
  · rw [if_neg c]
    exact ⟨_, _, _, rfl, by omega, by omega, hi⟩

theorem below_ok (b : List Int) (i h n : Int) (hb : b.length ≤ 4096) (hi : 0 ≤ i) :
    ∃ x i' h', spec_l1Below.f b i h n = some (x, i', h') ∧ 0 ≤ i' ∧ 0 ≤ x ∧ (1 ≤ n → x < n) := by
  unfold spec_l1Below.f
  by_cases c0 : n ≤ 0
  · rw [if_pos c0]
    exact ⟨_, _, _, rfl, hi, by omega, by omega⟩
  · rw [if_neg c0]
    by_cases c : n ≤ 256
    · rw [if_pos c]
      obtain ⟨x, i1, h1, e, x0, x1, hi1⟩ := byte_ok b i h hb hi
      rw [e]
      simp only [Option.bind_some]
      rw [if_neg (by omega)]
      exact ⟨_, _, _, rfl, hi1, Int.tmod_nonneg _ x0, fun _ => Int.tmod_lt_of_pos _ (by omega)⟩
    · rw [if_neg c]
      obtain ⟨x, i1, h1, e, x0, x1, hi1⟩ := byte_ok b i h hb hi
      rw [e]
      simp only [Option.bind_some]
      obtain ⟨y, i2, h2, e, y0, y1, hi2⟩ := byte_ok b i1 h1 hb hi1
      rw [e]
      simp only [Option.bind_some]
      obtain ⟨z, i3, h3, e, z0, z1, hi3⟩ := byte_ok b i2 h2 hb hi2
      rw [e]
      simp only [Option.bind_some]
      obtain ⟨u, i4, h4, e, u0, u1, hi4⟩ := byte_ok b i3 h3 hb hi3
      rw [e]
      simp only [Option.bind_some]
      rw [if_neg (by omega)]
      have hw : wrap64 (wrap64 (wrap64 (wrap64 (x * 16777216) + wrap64 (y * 65536)) + wrap64 (z * 256)) + u) = x * 16777216 + y * 65536 + z * 256 + u := by
        have e1 : wrap64 (x * 16777216) = x * 16777216 := by unfold wrap64; omega
        have e2 : wrap64 (y * 65536) = y * 65536 := by unfold wrap64; omega
        have e3 : wrap64 (z * 256) = z * 256 := by unfold wrap64; omega
        rw [e1, e2, e3]
        have e4 : wrap64 (x * 16777216 + y * 65536) = x * 16777216 + y * 65536 := by unfold wrap64; omega
        rw [e4]
        have e5 : wrap64 (x * 16777216 + y * 65536 + z * 256) = x * 16777216 + y * 65536 + z * 256 := by unfold wrap64; omega
        rw [e5]
        unfold wrap64
        omega
      rw [hw]
      exact ⟨_, _, _, rfl, hi4, Int.tmod_nonneg _ (by omega), fun _ => Int.tmod_lt_of_pos _ (by omega)⟩

theorem once_ok (b : List Int) (i h n : Int) (hb : b.length ≤ 4096) (hi : 0 ≤ i) :
    ∃ x i' h', spec_l1Once.f b i h n = some (x, i', h') ∧ 0 ≤ i' := by
  unfold spec_l1Once.f
  obtain ⟨x, i1, h1, e, hi1, _⟩ := below_ok b i h n hb hi
  rw [e]
  exact ⟨_, _, _, rfl, hi1⟩

theorem new_loop (l : List Int) (hl : l.length ≤ 4096) (d : Nat) : ∀ (k : Nat) (h i : Int), 0 ≤ i → i ≤ l.length → (l.length : Int) - i = d → d < k → ∃ h', spec_l1New.l0 k l h i = some (l, 0, h') := by
  induction d with
  | zero =>
    intro k h i h0 h1 hd hk
    obtain ⟨k, rfl⟩ : ∃ m, k = m + 1 := ⟨k - 1, by omega⟩
    exact ⟨h, by simp only [spec_l1New.l0]; rw [if_neg (by omega)]⟩
  | succ d ih =>
    intro k h i h0 h1 hd hk
    obtain ⟨k, rfl⟩ : ∃ m, k = m + 1 := ⟨k - 1, by omega⟩
    simp only [spec_l1New.l0]
    rw [if_pos (by omega), if_pos h0]
    have hw : wrap64 (i + 1) = i + 1 := by unfold wrap64; omega
    rw [hw]
    exact ih k _ (i + 1) (by omega) (by omega) (by omega) (by omega)

theorem new_ok (l : List Int) (hl : l.length ≤ 4096) (k : Nat) (hk : 4097 ≤ k) : ∃ h, spec_l1New.f k l = some (l, 0, h) := by
  unfold spec_l1New.f
  exact new_loop l hl l.length k _ 0 (by omega) (by omega) (by omega) (by omega)

/-- The quotient rounded down. -/
theorem down_floor (a b : Int) (h0 : -1000000000000000 ≤ a) (h1 : a ≤ 1000000000000000) (hb : 0 < b) : impl_down.f a b = some (a / b) := by
  unfold impl_down.f
  rw [if_neg (by omega)]
  have e := Int.mul_tdiv_add_tmod a b
  have r1 := Int.tmod_lt_of_pos a hb
  have r0 := Int.lt_tmod_of_pos a hb
  have q0 : -1000000000000000 ≤ Int.tdiv a b ∧ Int.tdiv a b ≤ 1000000000000000 := by
    have hn := Int.natAbs_tdiv_le_natAbs a b
    omega
  have w1 : wrap64 (Int.tdiv a b) = Int.tdiv a b := by unfold wrap64; omega
  have w2 : wrap64 (Int.tdiv a b - 1) = Int.tdiv a b - 1 := by unfold wrap64; omega
  rw [w1, w2]
  by_cases c : Int.tmod a b < 0
  · rw [if_pos c]
    have := (Int.ediv_emod_unique (a := a) (b := b) (r := Int.tmod a b + b) (q := Int.tdiv a b - 1) hb).mpr ⟨by rw [Int.mul_sub]; omega, by omega, by omega⟩
    rw [this.1]
  · rw [if_neg c]
    have := (Int.ediv_emod_unique (a := a) (b := b) (r := Int.tmod a b) (q := Int.tdiv a b) hb).mpr ⟨by omega, by omega, by omega⟩
    rw [this.1]

/-- Where the keys are in order, so are those that are not neighbours. -/
theorem rising (l : List S38) (hg : ∀ j : Int, 0 ≤ j → j < (l.length : Int) → Good l j) : ∀ (d : Nat) (i j : Int), 0 ≤ i → j < (l.length : Int) → j - i = d + 1 → (rd_T38 l i).f0 < (rd_T38 l j).f0 := by
  intro d
  induction d with
  | zero =>
    intro i j h0 h1 hd
    have := (hg j (by omega) h1).up (by omega)
    rw [show j - 1 = i by omega] at this
    exact this
  | succ d ih =>
    intro i j h0 h1 hd
    have h := ih i (j - 1) h0 (by omega) (by omega)
    have := (hg j (by omega) h1).up (by omega)
    omega

theorem rises (l : List S38) (hg : ∀ j : Int, 0 ≤ j → j < (l.length : Int) → Good l j) (i j : Int) (h0 : 0 ≤ i) (h1 : i < j) (h2 : j < (l.length : Int)) : (rd_T38 l i).f0 < (rd_T38 l j).f0 :=
  rising l hg (j - i - 1).toNat i j h0 h2 (by omega)

/-- What is known of what is seen at t. -/
def Seen (l : List S38) (t : Int) (v : Int × Int × Int) : Prop :=
  (∀ m : Int, 0 ≤ m → m < (l.length : Int) → (rd_T38 l m).f0 = t → (rd_T38 l m).f1 = v.1) ∧
  (∃ i j : Int, 0 ≤ i ∧ i < (l.length : Int) ∧ 0 ≤ j ∧ j < (l.length : Int) ∧ (rd_T38 l i).f1 ≤ v.1 ∧ v.1 ≤ (rd_T38 l j).f1) ∧
  (v.2.2 = 0 ∨ 0 < v.2.2 ∧ v.2.2 ≤ 10000000 ∧ 0 ≤ v.2.1 ∧ v.2.1 < v.2.2)

theorem mul_bds {s D b : Int} (hs : 0 < s) (hb : s < b) (hb2 : b ≤ 10000000) (hD : -10000000 ≤ D) (hD2 : D ≤ 10000000) :
    -100000000000000 ≤ s * D ∧ s * D ≤ 100000000000000 ∧ (0 ≤ D → 0 ≤ s * D / b ∧ s * D / b ≤ D) ∧ (D ≤ 0 → D ≤ s * D / b ∧ s * D / b ≤ 0) := by
  have k1 : s * D ≤ s * 10000000 := Int.mul_le_mul_of_nonneg_left hD2 (by omega)
  have k2 : s * (-10000000) ≤ s * D := Int.mul_le_mul_of_nonneg_left hD (by omega)
  refine ⟨by omega, by omega, fun h => ⟨Int.ediv_nonneg (Int.mul_nonneg (by omega) h) (by omega), ?_⟩, fun h => ⟨?_, ?_⟩⟩
  · have : s * D ≤ b * D := Int.mul_le_mul_of_nonneg_right (by omega) h
    have h2 := Int.ediv_le_ediv (show 0 < b by omega) this
    rwa [Int.mul_ediv_cancel_left D (by omega)] at h2
  · have : b * D ≤ s * D := Int.mul_le_mul_of_nonpos_right (by omega) h
    have h2 := Int.ediv_le_ediv (show 0 < b by omega) this
    rwa [Int.mul_ediv_cancel_left D (by omega)] at h2
  · have : s * D ≤ 0 := Int.mul_nonpos_of_nonneg_of_nonpos (by omega) h
    have h2 := Int.ediv_le_ediv (show 0 < b by omega) this
    rwa [Int.zero_ediv] at h2

theorem search2 (l : List S38) (t : Int) (h1 : 1 ≤ l.length) (h2 : l.length ≤ 100) (hg : ∀ j : Int, 0 ≤ j → j < (l.length : Int) → Good l j) : ∀ (d k : Nat) (i : Int), 1 ≤ i → i ≤ l.length → (l.length : Int) - i = d → d < k → (rd_T38 l (i - 1)).f0 < t →
    ∃ n v, impl_Key.l0 k l (impl_between_1.g t) (l.length : Int) i = some n ∧ rest l t n = some v ∧ Seen l t v := by
  have wl : wrap64 ((l.length : Int) - 1) = (l.length : Int) - 1 := by unfold wrap64; omega
  intro d
  induction d with
  | zero =>
    intro k i h0 h1 hd hk ht
    obtain ⟨k, rfl⟩ : ∃ m, k = m + 1 := ⟨k - 1, by omega⟩
    obtain rfl : i = (l.length : Int) := by omega
    refine ⟨-1, ((rd_T38 l ((l.length : Int) - 1)).f1, 0, 0), ?_, ?_, ?_⟩
    · simp only [impl_Key.l0]
      rw [if_neg (by omega)]
    · unfold rest
      rw [if_pos (by omega), wl, if_pos (by omega), if_pos (by omega)]
    · refine ⟨fun m m0 m1 hm => ?_, ⟨(l.length : Int) - 1, (l.length : Int) - 1, by omega, by omega, by omega, by omega, by simp, by simp⟩, .inl rfl⟩
      by_cases e : m = (l.length : Int) - 1
      · subst e; omega
      · have := rises l hg m ((l.length : Int) - 1) m0 (by omega) (by omega)
        omega
  | succ d ih =>
    intro k i h0 h1 hd hk ht
    obtain ⟨k, rfl⟩ : ∃ m, k = m + 1 := ⟨k - 1, by omega⟩
    have wi : wrap64 (i + 1) = i + 1 := by unfold wrap64; omega
    have wj : wrap64 (i - 1) = i - 1 := by unfold wrap64; omega
    have hlt : i < (l.length : Int) := by omega
    have g := hg i (by omega) hlt
    have g1 := hg (i - 1) (by omega) (by omega)
    have hup := g.up (by omega)
    simp only [impl_Key.l0]
    rw [if_pos hlt, if_pos (by omega : 0 ≤ i), if_pos hlt, wi]
    have hG : GK.f (impl_between_1.g t) (rd_T38 l i).f0 (rd_T38 l i).f1 = some (decide (t ≤ (rd_T38 l i).f0)) := rfl
    rw [hG]
    simp only [Option.bind_some, decide_eq_true_eq]
    by_cases c : t ≤ (rd_T38 l i).f0
    · rw [if_pos c]
      by_cases ce : (rd_T38 l i).f0 = t
      · refine ⟨i, ((rd_T38 l i).f1, 0, 0), rfl, ?_, ?_⟩
        · unfold rest
          rw [if_neg (by omega), if_neg (by omega), if_pos (by omega), if_pos hlt, if_pos ce]
        · refine ⟨fun m m0 m1 hm => ?_, ⟨i, i, by omega, by omega, by omega, by omega, by simp, by simp⟩, .inl rfl⟩
          by_cases e : m = i
          · rw [e]
          · by_cases lt : m < i
            · have := rises l hg m i m0 lt hlt
              omega
            · have := rises l hg i m (by omega) (by omega) m1
              omega
      · have a0 := g.at0; have a1 := g.at1; have a2 := g.to0; have a3 := g.to1
        have b0 := g1.at0; have b1 := g1.at1; have b2 := g1.to0; have b3 := g1.to1
        have hno : ∀ m : Int, 0 ≤ m → m < (l.length : Int) → (rd_T38 l m).f0 = t → False := by
          intro m m0 m1 hm
          by_cases lt : m < i
          · by_cases e : m = i - 1
            · rw [e] at hm; omega
            · have := rises l hg m (i - 1) m0 (by omega) (by omega)
              omega
          · by_cases e : m = i
            · rw [e] at hm; omega
            · have := rises l hg i m (by omega) (by omega) m1
              omega
        have key : ∃ v, rest l t i = some v ∧ Seen l t v := by
          unfold rest
          rw [if_neg (by omega), if_neg (by omega), if_pos (by omega), if_pos hlt, if_neg ce, wj, if_pos (by omega), if_pos (by omega)]
          unfold Seen
          have rb : ∃ i' j' : Int, (i' = i ∨ i' = i - 1) ∧ (j' = i ∨ j' = i - 1) ∧ (rd_T38 l i').f1 ≤ (rd_T38 l (i - 1)).f1 + (t - (rd_T38 l (i - 1)).f0) * ((rd_T38 l i).f1 - (rd_T38 l (i - 1)).f1) / ((rd_T38 l i).f0 - (rd_T38 l (i - 1)).f0) ∧
              (rd_T38 l (i - 1)).f1 + (t - (rd_T38 l (i - 1)).f0) * ((rd_T38 l i).f1 - (rd_T38 l (i - 1)).f1) / ((rd_T38 l i).f0 - (rd_T38 l (i - 1)).f0) ≤ (rd_T38 l j').f1 := by
            obtain ⟨p1, p2, p3, p4⟩ := mul_bds (s := t - (rd_T38 l (i - 1)).f0) (D := (rd_T38 l i).f1 - (rd_T38 l (i - 1)).f1) (b := (rd_T38 l i).f0 - (rd_T38 l (i - 1)).f0) (by omega) (by omega) (by omega) (by omega) (by omega)
            by_cases hD : 0 ≤ (rd_T38 l i).f1 - (rd_T38 l (i - 1)).f1
            · obtain ⟨p5, p6⟩ := p3 hD
              exact ⟨i - 1, i, .inr rfl, .inl rfl, by omega, by omega⟩
            · obtain ⟨p5, p6⟩ := p4 (by omega)
              exact ⟨i, i - 1, .inl rfl, .inr rfl, by omega, by omega⟩
          obtain ⟨p1, p2, p3, p4⟩ := mul_bds (s := t - (rd_T38 l (i - 1)).f0) (D := (rd_T38 l i).f1 - (rd_T38 l (i - 1)).f1) (b := (rd_T38 l i).f0 - (rd_T38 l (i - 1)).f0) (by omega) (by omega) (by omega) (by omega) (by omega)
          obtain ⟨i', j', hi', hj', r1, r2⟩ := rb
          have e1 : wrap64 (t - (rd_T38 l (i - 1)).f0) = t - (rd_T38 l (i - 1)).f0 := by unfold wrap64; omega
          have e2 : wrap64 ((rd_T38 l i).f1 - (rd_T38 l (i - 1)).f1) = (rd_T38 l i).f1 - (rd_T38 l (i - 1)).f1 := by unfold wrap64; omega
          have e3 : wrap64 ((rd_T38 l i).f0 - (rd_T38 l (i - 1)).f0) = (rd_T38 l i).f0 - (rd_T38 l (i - 1)).f0 := by unfold wrap64; omega
          rw [e1, e2, e3]
          generalize hB : (rd_T38 l i).f0 - (rd_T38 l (i - 1)).f0 = b at *
          generalize hM : (t - (rd_T38 l (i - 1)).f0) * ((rd_T38 l i).f1 - (rd_T38 l (i - 1)).f1) = m at *
          have e4 : wrap64 m = m := by unfold wrap64; omega
          rw [e4, down_floor m b (by omega) (by omega) (by omega)]
          have q1 := Int.mul_ediv_self_le (x := m) (k := b) (by omega)
          have q2 := Int.lt_mul_ediv_self_add (x := m) (k := b) (by omega)
          have bd : -10000000 ≤ m / b ∧ m / b ≤ 10000000 := by
            by_cases hD : 0 ≤ (rd_T38 l i).f1 - (rd_T38 l (i - 1)).f1
            · obtain ⟨p5, p6⟩ := p3 hD; omega
            · obtain ⟨p5, p6⟩ := p4 (by omega); omega
          rw [Int.mul_comm] at q1 q2
          generalize m / b = q at *
          have e5 : wrap64 (q * b) = q * b := by unfold wrap64; omega
          have e6 : wrap64 (m - q * b) = m - q * b := by unfold wrap64; omega
          have e7 : wrap64 ((rd_T38 l (i - 1)).f1 + q) = (rd_T38 l (i - 1)).f1 + q := by unfold wrap64; omega
          refine ⟨((rd_T38 l (i - 1)).f1 + q, m - q * b, b), by rw [Option.bind_some, e5, e6, e7], fun m' m0 m1 hm => absurd hm (fun z => hno m' m0 m1 z), ⟨i', j', by omega, by omega, by omega, by omega, r1, r2⟩, .inr ⟨by show 0 < b; omega, by show b ≤ 10000000; omega, by show 0 ≤ m - q * b; omega, by show m - q * b < b; omega⟩⟩
        obtain ⟨v, hv, hs⟩ := key
        exact ⟨i, v, rfl, hv, hs⟩
    · rw [if_neg c]
      exact ih k (i + 1) (by omega) (by omega) (by omega) (by omega) (by rw [show i + 1 - 1 = i by omega]; omega)

/-- What is seen, where the keys are in order. -/
theorem at_seen (l : List S38) (t : Int) (h1 : 1 ≤ l.length) (h2 : l.length ≤ 100) (hg : ∀ j : Int, 0 ≤ j → j < (l.length : Int) → Good l j) (k : Nat) (hk : 102 ≤ k) : ∃ v, impl_between.f k l t = some v ∧ Seen l t v := by
  obtain ⟨k, rfl⟩ : ∃ m, k = m + 1 := ⟨k - 1, by omega⟩
  rw [between_rest]
  unfold impl_Key.f
  simp only [impl_Key.l0]
  have hG : GK.f (impl_between_1.g t) (rd_T38 l 0).f0 (rd_T38 l 0).f1 = some (decide (t ≤ (rd_T38 l 0).f0)) := rfl
  rw [if_pos (by omega : (0 : Int) < (l.length : Int)), if_pos (by omega : (0 : Int) ≤ 0), if_pos (by omega : (0 : Int) < (l.length : Int)), hG]
  simp only [Option.bind_some, decide_eq_true_eq]
  by_cases c : t ≤ (rd_T38 l 0).f0
  · refine ⟨((rd_T38 l 0).f1, 0, 0), ?_, ?_⟩
    · rw [if_pos c]
      show rest l t 0 = _
      unfold rest
      rw [if_neg (by omega), if_pos rfl, if_pos (by omega), if_pos (by omega)]
    · refine ⟨fun m m0 m1 hm => ?_, ⟨0, 0, by omega, by omega, by omega, by omega, by simp, by simp⟩, .inl rfl⟩
      by_cases e : m = 0
      · rw [e]
      · have := rises l hg 0 m (by omega) (by omega) m1
        omega
  · rw [if_neg c]
    have w0 : wrap64 (0 + 1) = 1 := by unfold wrap64; omega
    rw [w0]
    obtain ⟨n, v, hn, hr, hs⟩ := search2 l t h1 h2 hg (l.length - 1) k 1 (by omega) (by omega) (by omega) (by omega) (by show (rd_T38 l 0).f0 < t; omega)
    exact ⟨v, by rw [hn]; exact hr, hs⟩

theorem rd_at (l : List Int) (i : Int) : True := trivial

/-- Keys are drawn. -/
theorem drawkeys_l1 (b : List Int) (hb : b.length ≤ 4096) : ∀ (d k : Nat) (x : List S38) (j i h : Int), 0 ≤ j → j ≤ 102 → 102 - j = d → d < k → (x.length : Int) = j → 0 ≤ i →
    ∃ y i' h', spec_l8DrawKeys.l1 k x j b i h = some (y, i', h') ∧ 0 ≤ i' ∧ y.length ≤ 200 := by
  intro d
  induction d with
  | zero =>
    intro k x j i h h0 h1 hd hk hx hi
    obtain ⟨k, rfl⟩ : ∃ m, k = m + 1 := ⟨k - 1, by omega⟩
    simp only [spec_l8DrawKeys.l1]
    obtain ⟨c, i1, h1', e, hi1, c0, c1⟩ := below_ok b i h 2 hb hi
    have c1 := c1 (by omega)
    have w : wrap64 (100 + c) = 100 + c := by unfold wrap64; omega
    rw [e]; simp only [Option.bind_some, w]
    rw [if_neg (by omega)]
    exact ⟨_, _, _, rfl, hi1, by omega⟩
  | succ d ih =>
    intro k x j i h h0 h1 hd hk hx hi
    obtain ⟨k, rfl⟩ : ∃ m, k = m + 1 := ⟨k - 1, by omega⟩
    simp only [spec_l8DrawKeys.l1]
    obtain ⟨c, i1, h1', e, hi1, c0, c1⟩ := below_ok b i h 2 hb hi
    have c1 := c1 (by omega)
    have w : wrap64 (100 + c) = 100 + c := by unfold wrap64; omega
    rw [e]; simp only [Option.bind_some, w]
    by_cases q : j < 100 + c
    · have wj : wrap64 (j + 1) = j + 1 := by unfold wrap64; omega
      rw [if_pos q, if_pos (by omega), wj]
      exact ih k _ (j + 1) i1 h1' (by omega) (by omega) (by omega) (by omega) (by simp; omega) hi1
    · rw [if_neg q]
      exact ⟨_, _, _, rfl, hi1, by omega⟩

theorem drawkeys_j1 (b : List Int) (hb : b.length ≤ 4096) (k : Nat) (hk : 104 ≤ k) (x : List S38) (i h : Int) (hx : x.length ≤ 200) (hi : 0 ≤ i) :
    ∃ y i' h', spec_l8DrawKeys.j1 k x b i h = some (y, i', h') ∧ 0 ≤ i' ∧ y.length ≤ 200 := by
  obtain ⟨k, rfl⟩ : ∃ m, k = m + 1 := ⟨k - 1, by omega⟩
  simp only [spec_l8DrawKeys.j1]
  obtain ⟨c, i1, h1, e, hi1⟩ := once_ok b i h 60 hb hi
  rw [e]; simp only [Option.bind_some]
  split
  · exact drawkeys_l1 b hb 102 k [] 0 i1 h1 (by omega) (by omega) (by omega) (by omega) (by simp) hi1
  · exact ⟨_, _, _, rfl, hi1, hx⟩

theorem drawkeys_l0 (b : List Int) (hb : b.length ≤ 4096) : ∀ (d k : Nat) (x : List S38) (a n i h : Int), 0 ≤ n → n = d → d + 105 ≤ k → 1 ≤ x.length + d → x.length + d ≤ 100 → 0 ≤ i →
    ∃ y i' h', spec_l8DrawKeys.l0 k x a n b i h = some (y, i', h') ∧ 0 ≤ i' ∧ y.length ≤ 200 := by
  intro d
  induction d with
  | zero =>
    intro k x a n i h h0 hn hk hx hx2 hi
    obtain ⟨k, rfl⟩ : ∃ m, k = m + 1 := ⟨k - 1, by omega⟩
    simp only [spec_l8DrawKeys.l0]
    rw [if_neg (by omega)]
    obtain ⟨c, i1, h1, e, hi1⟩ := once_ok b i h 14 hb hi
    rw [e]; simp only [Option.bind_some]
    split
    · obtain ⟨p, i2, h2, e, hi2, p0, p1⟩ := below_ok b i1 h1 (x.length : Int) hb hi1
      have p1 := p1 (by omega)
      rw [e]; simp only [Option.bind_some]
      rw [if_pos p0, if_pos p1]
      obtain ⟨q, i3, h3, e, hi3, q0, q1⟩ := below_ok b i2 h2 3 hb hi2
      rw [e]; simp only [Option.bind_some]
      split
      · obtain ⟨u, i4, h4, e, hi4, u0, u1⟩ := below_ok b i3 h3 4 hb hi3
        have u1 := u1 (by omega)
        rw [e]; simp only [Option.bind_some]
        rw [if_pos u0, if_pos (by simpa using u1)]
        exact drawkeys_j1 b hb k (by omega) _ i4 h4 (by simp; omega) hi4
      · split
        · obtain ⟨u, i4, h4, e, hi4, u0, u1⟩ := below_ok b i3 h3 3 hb hi3
          have u1 := u1 (by omega)
          rw [e]; simp only [Option.bind_some]
          rw [if_pos u0, if_pos (by simpa using u1)]
          exact drawkeys_j1 b hb k (by omega) _ i4 h4 (by simp; omega) hi4
        · split
          · exact drawkeys_j1 b hb k (by omega) _ i3 h3 (by simp) hi3
          · exact drawkeys_j1 b hb k (by omega) _ i3 h3 (by omega) hi3
    · exact drawkeys_j1 b hb k (by omega) _ i1 h1 (by omega) hi1
  | succ d ih =>
    intro k x a n i h h0 hn hk hx hx2 hi
    obtain ⟨k, rfl⟩ : ∃ m, k = m + 1 := ⟨k - 1, by omega⟩
    simp only [spec_l8DrawKeys.l0]
    rw [if_pos (by omega)]
    obtain ⟨c, i1, h1, e, hi1, _⟩ := below_ok b i h 80 hb hi
    rw [e]; simp only [Option.bind_some]
    rw [if_pos (by omega)]
    obtain ⟨c2, i2, h2, e, hi2, _⟩ := below_ok b i1 h1 20 hb hi1
    rw [e]; simp only [Option.bind_some]
    have w : wrap64 (n - 1) = n - 1 := by unfold wrap64; omega
    rw [w]
    exact ih k _ _ (n - 1) i2 h2 (by omega) (by omega) (by omega) (by simp; omega) (by simp; omega) hi2

theorem drawkeys_ok (b : List Int) (hb : b.length ≤ 4096) (k : Nat) (hk : 200 ≤ k) (i h : Int) (hi : 0 ≤ i) :
    ∃ y i' h', spec_l8DrawKeys.f k b i h = some (y, i', h') ∧ 0 ≤ i' ∧ y.length ≤ 200 := by
  unfold spec_l8DrawKeys.f
  obtain ⟨c, i1, h1, e, hi1, _⟩ := below_ok b i h 5 hb hi
  rw [e]; simp only [Option.bind_some]
  obtain ⟨c2, i2, h2, e, hi2, p0, p1⟩ := below_ok b i1 h1 5 hb hi1
  have p1 := p1 (by omega)
  rw [e]; simp only [Option.bind_some]
  have w : wrap64 (1 + c2) = 1 + c2 := by unfold wrap64; omega
  rw [w]
  exact drawkeys_l0 b hb (1 + c2).toNat k [] c (1 + c2) i2 h2 (by omega) (by omega) (by omega) (by simp; omega) (by simp; omega) hi2

theorem drawspeed_j1 (b : List Int) (hb : b.length ≤ 4096) (k : Nat) (hk : 1 ≤ k) (x : List S38) (t i h : Int) (hi : 0 ≤ i) : ∃ t', spec_DrawSpeedAt.j1 k x t b i h = some (x, t') := by
  obtain ⟨k, rfl⟩ : ∃ m, k = m + 1 := ⟨k - 1, by omega⟩
  simp only [spec_DrawSpeedAt.j1]
  obtain ⟨c, i1, h1, e, hi1⟩ := once_ok b i h 16 hb hi
  rw [e]; simp only [Option.bind_some]
  split
  · obtain ⟨u, i4, h4, e, hi4, u0, u1⟩ := below_ok b i1 h1 3 hb hi1
    have u1 := u1 (by omega)
    rw [e]; simp only [Option.bind_some]
    rw [if_pos u0, if_pos (by simpa using u1)]
    exact ⟨_, rfl⟩
  · exact ⟨_, rfl⟩

theorem drawspeed_ok (l0 : List Int) (hb : l0.length ≤ 4096) (k : Nat) (hk : 4097 ≤ k) : ∃ x t, spec_DrawSpeedAt.f k l0 = some (x, t) ∧ x.length ≤ 200 := by
  obtain ⟨k, rfl⟩ : ∃ m, k = m + 1 := ⟨k - 1, by omega⟩
  unfold spec_DrawSpeedAt.f
  obtain ⟨hh, hnew⟩ := new_ok l0 hb (k + 1) (by omega)
  rw [hnew]; simp only [Option.bind_some]
  obtain ⟨x, i1, h1, e, hi1, hx⟩ := drawkeys_ok l0 hb (k + 1) (by omega) 0 hh (by omega)
  rw [e]; simp only [Option.bind_some]
  obtain ⟨t, i2, h2, e, hi2, _⟩ := below_ok l0 i1 h1 90 hb hi1
  rw [e]; simp only [Option.bind_some]
  obtain ⟨c, i3, h3, e, hi3⟩ := once_ok l0 i2 h2 4 hb hi2
  rw [e]; simp only [Option.bind_some]
  have key : ∀ z : Bool, (z = true → 0 < x.length) → ∃ x' t', spec_DrawSpeedAt.j0 (k + 1) x t z l0 i3 h3 = some (x', t') ∧ x'.length ≤ 200 := by
    intro z hz
    simp only [spec_DrawSpeedAt.j0]
    cases z
    · rw [if_neg (by decide)]
      obtain ⟨t', e⟩ := drawspeed_j1 l0 hb k (by omega) x t i3 h3 hi3
      exact ⟨x, t', e, hx⟩
    · rw [if_pos rfl]
      obtain ⟨u, i4, h4, e, hi4, u0, u1⟩ := below_ok l0 i3 h3 (x.length : Int) hb hi3
      have u1 := u1 (by have := hz rfl; omega)
      rw [e]; simp only [Option.bind_some]
      rw [if_pos u0, if_pos u1]
      obtain ⟨t', e⟩ := drawspeed_j1 l0 hb k (by omega) x (rd_T38 x u).f0 i4 h4 hi4
      exact ⟨x, t', e, hx⟩
  split
  · exact key _ (fun z => by have := of_decide_eq_true z; omega)
  · exact key false (fun z => by cases z)

/-- The law's own loop, where what is seen is as it should be. -/
theorem law_loop (l : List S38) (hl : l.length ≤ 1048576) (t n g w : Int) (hn0 : 0 ≤ n) (hat : ∀ m : Int, 0 ≤ m → m < (l.length : Int) → (rd_T38 l m).f0 = t → (rd_T38 l m).f1 = n)
    (hex : ∃ i j : Int, 0 ≤ i ∧ i < (l.length : Int) ∧ 0 ≤ j ∧ j < (l.length : Int) ∧ (rd_T38 l i).f1 ≤ n ∧ n ≤ (rd_T38 l j).f1) (hw0 : 0 ≤ w) (hw1 : w < 256) (hn1 : n ≤ 10000000)
    (hgw : g = n ∧ w = 0 ∨ g = n + 1 ∨ g = 10000000) : ∀ (d k : Nat) (least most i : Int), 0 ≤ i → i ≤ l.length → (l.length : Int) - i = d → 2 * d < k →
      (least ≤ n ∨ ∃ j : Int, i ≤ j ∧ j < (l.length : Int) ∧ (rd_T38 l j).f1 ≤ n) → (n ≤ most ∨ ∃ j : Int, i ≤ j ∧ j < (l.length : Int) ∧ n ≤ (rd_T38 l j).f1) → laws_FnSpeed.l0 k l t n g w least most i = some true := by
  intro d
  induction d with
  | zero =>
    intro k least most i h0 h1 hd hk hL hM
    obtain ⟨k, rfl⟩ : ∃ m, k = m + 1 := ⟨k - 1, by omega⟩
    simp only [laws_FnSpeed.l0]
    have hL' : n ≥ least := by
      rcases hL with h | ⟨j, h, h2, _⟩ <;> omega
    have hM' : n ≤ most := by
      rcases hM with h | ⟨j, h, h2, _⟩ <;> omega
    have w1 : wrap64 (n + 1) = n + 1 := by unfold wrap64; omega
    rw [if_neg (by omega), if_pos hL', if_pos hM', if_pos (by omega), if_pos hw1, w1]
    rcases hgw with ⟨a, b⟩ | a | a
    · rw [if_pos a, if_pos b]
    · rw [if_neg (by omega), if_pos a]
    · by_cases c : g = n
      · rw [if_pos c]
        by_cases c2 : w = 0
        · rw [if_pos c2]
        · rw [if_neg c2, if_neg (by omega)]
          simp [a]
      · rw [if_neg c]
        by_cases c2 : g = n + 1
        · rw [if_pos c2]
        · rw [if_neg c2]
          simp [a]
  | succ d ih =>
    intro k least most i h0 h1 hd hk hL hM
    obtain ⟨k, rfl⟩ : ∃ m, k = m + 1 := ⟨k - 1, by omega⟩
    obtain ⟨k, rfl⟩ : ∃ m, k = m + 1 := ⟨k - 1, by omega⟩
    have hlt : i < (l.length : Int) := by omega
    have hw : wrap64 (i + 1) = i + 1 := by unfold wrap64; omega
    have key : laws_FnSpeed.j2 (k + 1) l t n g w least most i false = some true := by
      simp only [laws_FnSpeed.j2]
      rw [if_neg (by decide), if_pos h0, if_pos hlt, hw]
      have step : ∀ a b : Int, (a ≤ n ∨ ∃ j : Int, i + 1 ≤ j ∧ j < (l.length : Int) ∧ (rd_T38 l j).f1 ≤ n) → (n ≤ b ∨ ∃ j : Int, i + 1 ≤ j ∧ j < (l.length : Int) ∧ n ≤ (rd_T38 l j).f1) → laws_FnSpeed.l0 k l t n g w a b (i + 1) = some true :=
        fun a b hA hB => ih k a b (i + 1) (by omega) (by omega) (by omega) (by omega) hA hB
      have lo : ∀ a : Int, a ≤ (rd_T38 l i).f1 → (a ≤ least) → (a ≤ n ∨ ∃ j : Int, i + 1 ≤ j ∧ j < (l.length : Int) ∧ (rd_T38 l j).f1 ≤ n) := by
        intro a a1 a2
        rcases hL with h | ⟨j, h, h2, h3⟩
        · exact .inl (by omega)
        · by_cases e : j = i
          · subst e; exact .inl (by omega)
          · exact .inr ⟨j, by omega, h2, h3⟩
      have hi : ∀ a : Int, (rd_T38 l i).f1 ≤ a → (most ≤ a) → (n ≤ a ∨ ∃ j : Int, i + 1 ≤ j ∧ j < (l.length : Int) ∧ n ≤ (rd_T38 l j).f1) := by
        intro a a1 a2
        rcases hM with h | ⟨j, h, h2, h3⟩
        · exact .inl (by omega)
        · by_cases e : j = i
          · subst e; exact .inl (by omega)
          · exact .inr ⟨j, by omega, h2, h3⟩
      by_cases c1 : (rd_T38 l i).f1 < least
      · rw [if_pos c1]
        by_cases c2 : (rd_T38 l i).f1 > most
        · rw [if_pos c2]; exact step _ _ (lo _ (by omega) (by omega)) (hi _ (by omega) (by omega))
        · rw [if_neg c2]; exact step _ _ (lo _ (by omega) (by omega)) (hi _ (by omega) (by omega))
      · rw [if_neg c1]
        by_cases c2 : (rd_T38 l i).f1 > most
        · rw [if_pos c2]; exact step _ _ (lo _ (by omega) (by omega)) (hi _ (by omega) (by omega))
        · rw [if_neg c2]; exact step _ _ (lo _ (by omega) (by omega)) (hi _ (by omega) (by omega))
    rw [laws_FnSpeed.l0, if_pos hlt, if_pos h0]
    by_cases c : (rd_T38 l i).f0 = t
    · have e := hat i h0 hlt c
      rw [if_pos c, e]
      have : (n != n) = false := by simp
      rw [this]
      exact key
    · rw [if_neg c]
      exact key

theorem FnSpeed : laws_FnSpeed.Pure := by
  intro l0 _ _ _
  unfold laws_FnSpeed.f laws_big.f
  simp only [Option.bind_some, decide_eq_true_eq]
  by_cases hbig : (l0.length : Int) > 4096
  · exact ⟨1, by rw [if_pos hbig]⟩
  obtain ⟨k, hk⟩ : ∃ k, k = 1048600 := ⟨_, rfl⟩
  refine ⟨k + 1, ?_⟩
  rw [if_neg hbig]
  obtain ⟨x, t, e, hx⟩ := drawspeed_ok l0 (by omega) (k + 1) (by omega)
  rw [e]; simp only [Option.bind_some]
  obtain ⟨r, h1, h2⟩ := keys_eq x (by omega) (k + 1) (by omega)
  have hs : spec_SpeedAt.f (k + 1) x t = impl_SpeedAt.f (k + 1) x t := by
    obtain ⟨r, a, b⟩ := speedat_eq x t (by omega) (k + 1) (by omega)
    rw [a, b]
  rw [hs]
  unfold impl_SpeedAt.f impl_Blend.f
  rw [h2, frame_eq, frame_some]
  simp only [Option.bind_some]
  by_cases c : r = true
  · subst c
    simp only [if_true, decide_eq_true_eq]
    by_cases d : 0 ≤ t ∧ t ≤ 10000000
    · obtain ⟨a, b, g⟩ := ok_true x (by omega) (k + 1) h1
      obtain ⟨v, hv, hS⟩ := at_seen x t a b g k (by omega)
      have hv2 : impl_between.f (k + 1) x t = some v := at_rounds (g := fun k => impl_between.f k x t) (fun k => impl_between.mono x t k) (by omega) hv
      obtain ⟨v1, v2, v3⟩ := v
      rw [if_pos d]
      have hd : (!decide (0 ≤ t ∧ t ≤ 10000000)) = false := by simp [d]
      rw [hd, hv2]
      simp only [Option.bind_some, impl_Blend.j0, Bool.false_eq_true, if_false]
      rw [hv]
      simp only [Option.bind_some]
      obtain ⟨s1, ⟨i, j, i0, i1, j0, j1, s2, s3⟩, s4⟩ := hS
      have gi := g i i0 i1
      have gj := g j j0 j1
      have n0 : 0 ≤ v1 := by have := gi.to0; omega
      have n1 : v1 ≤ 10000000 := by have := gj.to1; omega
      have fin : ∀ G W : Int, 0 ≤ W → W < 256 → (G = v1 ∧ W = 0 ∨ G = v1 + 1 ∨ G = 10000000) → laws_FnSpeed.j0 (k + 1) x t v1 G W (v1 != v1) = some true := by
        intro G W w0 w1 hG
        have : (v1 != v1) = false := by simp
        rw [this]
        simp only [laws_FnSpeed.j0]
        rw [if_neg (by decide), if_neg (by omega), if_pos (by omega)]
        exact law_loop x (by omega) t v1 G W n0 s1 ⟨i, j, i0, i1, j0, j1, s2, s3⟩ w0 w1 n1 hG x.length k _ _ 0 (by omega) (by omega) (by omega) (by omega)
          (.inr ⟨i, i0, i1, s2⟩) (.inr ⟨j, j0, j1, s3⟩)
      by_cases z : v3 = 0
      · rw [if_pos z]
        simp only [Option.bind_some, if_true]
        exact fin v1 0 (by omega) (by omega) (.inl ⟨rfl, rfl⟩)
      · rw [if_neg z]
        simp only [Option.bind_some, if_true]
        rcases s4 with s4 | ⟨p0, p1, p2, p3⟩
        · exact absurd s4 z
        · simp only at p0 p1 p2 p3
          have w1 : wrap64 (v2 * 256) = v2 * 256 := by unfold wrap64; omega
          rw [w1, Int.tdiv_eq_ediv_of_nonneg (by omega)]
          have q0 : 0 ≤ v2 * 256 / v3 := Int.ediv_nonneg (by omega) (by omega)
          have q1 : v2 * 256 / v3 < 256 := Int.ediv_lt_of_lt_mul (by omega) (by omega)
          have w2 : wrap64 (v2 * 256 / v3) = v2 * 256 / v3 := by unfold wrap64; omega
          rw [w2]
          refine fin _ _ q0 q1 ?_
          have w3 : wrap64 (v1 + 1) = v1 + 1 := by unfold wrap64; omega
          rw [w3]
          unfold mn
          split
          · exact .inr (.inr rfl)
          · exact .inr (.inl rfl)
    · rw [if_neg d]
      have hd : (!decide (0 ≤ t ∧ t ≤ 10000000)) = true := by simp [d]
      rw [hd]
      simp [impl_Blend.j0, laws_FnSpeed.j0]
  · have c' : r = false := by simpa using c
    subst c'
    simp [impl_Blend.j0, laws_FnSpeed.j0]

end Go.Proofs.Ytdfhhnepodnioaa.Pure
