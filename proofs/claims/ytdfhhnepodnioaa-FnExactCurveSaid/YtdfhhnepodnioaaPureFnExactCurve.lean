/- Proved: the plain law behind FnExactCurve: whatever the draw, it answers true. No condition. -/
import Derived.Test.YtdfhhnepodnioaaPFnExactCurvex2
namespace Go.Proofs.Ytdfhhnepodnioaa.Pure
open Go.RowKit Go.Proofs.Ytdfhhnepodnioaa.PFnExactCurve Go.Proofs.YtdfhhnepodnioaaW.PrintWords Go.Proofs.YtdfhhnepodnioaaW.PrintLast

set_option linter.unusedVariables false
set_option linter.unusedSimpArgs false

theorem run_to {α : Type} (F : Nat → Int → Option α) (n : Int) (r : α) (step : ∀ k i, 0 ≤ i → i < n → F (k + 1) i = F k (i + 1)) (stop : ∀ k, F (k + 1) n = some r) :
    ∀ (d k : Nat) (i : Int), 0 ≤ i → i ≤ n → n - i = d → d < k → F k i = some r := by
  intro d
  induction d with
  | zero =>
    intro k i h0 h1 hd hk
    obtain ⟨k, rfl⟩ : ∃ m, k = m + 1 := ⟨k - 1, by omega⟩
    obtain rfl : i = n := by omega
    exact stop k
  | succ d ih =>
    intro k i h0 h1 hd hk
    obtain ⟨k, rfl⟩ : ∃ m, k = m + 1 := ⟨k - 1, by omega⟩
    rw [step k i h0 (by omega)]
    exact ih k (i + 1) (by omega) (by omega) (by omega) (by omega)

theorem set_to {α β : Type} (F : Nat → List β → Int → Option (List β)) (l : List α) (conv : α → β)
    (step : ∀ k acc i x, 0 ≤ i → l[i.toNat]? = some x → acc.length = l.length → F (k + 1) acc i = F k (acc.set i.toNat (conv x)) (i + 1)) (stop : ∀ k acc, F (k + 1) acc (l.length : Int) = some acc) :
    ∀ (d k : Nat) (acc : List β) (i : Int), 0 ≤ i → i ≤ l.length → (l.length : Int) - i = d → d < k → acc.length = l.length → F k acc i = some (acc.take i.toNat ++ (l.drop i.toNat).map conv) := by
  intro d
  induction d with
  | zero =>
    intro k acc i h0 h1 hd hk ha
    obtain ⟨k, rfl⟩ : ∃ m, k = m + 1 := ⟨k - 1, by omega⟩
    obtain rfl : i = (l.length : Int) := by omega
    rw [stop k]
    simp [← ha]
  | succ d ih =>
    intro k acc i h0 h1 hd hk ha
    obtain ⟨k, rfl⟩ : ∃ m, k = m + 1 := ⟨k - 1, by omega⟩
    have hlt : i.toNat < l.length := by omega
    have hx : l[i.toNat]? = some l[i.toNat] := List.getElem?_eq_getElem hlt
    rw [step k acc i _ h0 hx ha, ih k _ (i + 1) (by omega) (by omega) (by omega) (by omega) (by simpa using ha)]
    have e : (i + 1).toNat = i.toNat + 1 := by omega
    rw [e]
    congr 1
    rw [List.take_succ_eq_append_getElem (by simp; omega)]
    rw [List.drop_eq_getElem_cons hlt, List.map_cons, List.getElem_set_self, List.take_set_of_le (Nat.le_refl _), List.append_assoc]
    rfl

theorem in_eq (a b c : Int) : spec_l1In.f a b c = impl_in.f a b c := rfl

theorem in_some (a b c : Int) : impl_in.f a b c = some (decide (b ≤ a ∧ a ≤ c)) := by
  unfold impl_in.f
  by_cases h : b ≤ a
  · simp [h]
  · simp [h]

theorem to_ints (l : List Int) (hl : l.length ≤ 1048576) (k : Nat) (hk : 1048577 ≤ k) : laws_toInt64S.f k l = some l := by
  unfold laws_toInt64S.f
  rw [if_pos (by omega), if_pos (by omega)]
  have h := set_to (fun k acc i => laws_toInt64S.l0 k l acc i) l id (by
    intro k acc i x h0 hx ha
    have hlt : i.toNat < l.length := (List.getElem?_eq_some_iff.1 hx).1
    simp only [laws_toInt64S.l0]
    have hr : rd l i = x := by
      unfold rd
      rw [List.getD_eq_getElem?_getD, hx]
      rfl
    rw [if_pos (by omega), if_pos h0, if_pos (by omega), hr]
    have hw : wrap64 (i + 1) = i + 1 := by unfold wrap64; omega
    rw [hw]
    rfl) (by
    intro k acc
    simp only [laws_toInt64S.l0]
    rw [if_neg (by omega)]) l.length k (List.replicate ((l.length : Int)).toNat 0) 0 (by omega) (by omega) (by omega) (by omega) (by simp)
  rw [h]
  simp

theorem eq_ints (l : List Int) (hl : l.length ≤ 1048576) (k : Nat) (hk : 1048577 ≤ k) : laws_eqInt64S.f k l l = some true := by
  unfold laws_eqInt64S.f
  rw [if_pos rfl]
  exact run_to (fun k i => laws_eqInt64S.l0 k l l i) (l.length : Int) true (by
    intro k i h0 h1
    simp only [laws_eqInt64S.l0]
    rw [if_pos h1, if_pos h0, if_pos h1]
    have hw : wrap64 (i + 1) = i + 1 := by unfold wrap64; omega
    simp [hw]) (by
    intro k
    simp only [laws_eqInt64S.l0]
    rw [if_neg (by omega)]) l.length k 0 (by omega) (by omega) (by omega) (by omega)

/-- What comes of the values themselves, when all is as told. -/
def val (l : List Int) (v : Int) : Option Int :=
  (impl_cut.f v (wrap64 ((l.length : Int) - 1))).bind fun bt127 => (if 0 ≤ bt127.1 then (if bt127.1 < (l.length : Int) then (if 0 ≤ (wrap64 (bt127.1 + 1)) then (if (wrap64 (bt127.1 + 1)) < (l.length : Int) then ((impl_near.f (wrap64 ((wrap64 ((rd l (wrap64 (bt127.1 + 1))) - (rd l bt127.1))) * bt127.2)) 65535).bind fun t132 => (some (wrap64 ((rd l bt127.1) + t132)))) else (none)) else (none)) else (none)) else (none))

theorem near_ex (a b : Int) (hb : wrap64 (2 * b) ≠ 0) : ∃ v, impl_near.f a b = some v := by
  unfold impl_near.f impl_down.f
  rw [if_neg hb]
  split
  · exact ⟨_, rfl⟩
  · exact ⟨_, rfl⟩

theorem min_eq (a b : Int) : spec_l1Min.f a b = some (mn b a) := by
  unfold spec_l1Min.f mn
  by_cases h : a < b
  · rw [if_pos h, if_pos h]
  · rw [if_neg h, if_neg h]

theorem place_eq (v n : Int) : spec_l9Place.f v n = impl_cut.f v n := by
  unfold spec_l9Place.f impl_cut.f
  rw [min_eq]
  rfl

theorem round_eq (a b : Int) : spec_l9Round.f a b = impl_near.f a b := rfl

theorem val_some (l : List Int) (v : Int) (h1 : 2 ≤ l.length) (h2 : l.length ≤ 257) (v0 : 0 ≤ v) (v1 : v ≤ 65535) : ∃ r, val l v = some r := by
  unfold val impl_cut.f
  have hn : wrap64 ((l.length : Int) - 1) = (l.length : Int) - 1 := by unfold wrap64; omega
  rw [hn]
  obtain ⟨n, hn2⟩ : ∃ n : Int, n = (l.length : Int) - 1 := ⟨_, rfl⟩
  rw [← hn2]
  have m0 : 0 ≤ v * n := Int.mul_nonneg v0 (by omega)
  have m1 : v * n ≤ 65535 * n := Int.mul_le_mul_of_nonneg_right v1 (by omega)
  have w1 : wrap64 (v * n) = v * n := by unfold wrap64; omega
  have w2 : wrap64 (n - 1) = n - 1 := by unfold wrap64; omega
  rw [w1, w2, Int.tdiv_eq_ediv_of_nonneg m0]
  have d0 : 0 ≤ v * n / 65535 := by omega
  have w3 : wrap64 (v * n / 65535) = v * n / 65535 := by unfold wrap64; omega
  rw [w3]
  have hm : 0 ≤ mn (v * n / 65535) (n - 1) ∧ mn (v * n / 65535) (n - 1) ≤ n - 1 := by
    unfold mn
    split <;> omega
  generalize mn (v * n / 65535) (n - 1) = i at *
  simp only [Option.bind_some]
  have w4 : wrap64 (i + 1) = i + 1 := by unfold wrap64; omega
  rw [w4, if_pos (by omega), if_pos (by omega), if_pos (by omega), if_pos (by omega)]
  obtain ⟨t, ht⟩ := near_ex (wrap64 (wrap64 (rd l (i + 1) - rd l i) * wrap64 (v * n - wrap64 (i * 65535)))) 65535 (by unfold wrap64; omega)
  rw [ht]
  exact ⟨_, rfl⟩

/-- The two searches through the table: from place i on, both go through or neither does. -/
theorem table (l : List Int) (v : Int) (hl : l.length ≤ 1048576) : ∀ (d k : Nat) (i : Int), 0 ≤ i → i ≤ l.length → (l.length : Int) - i = d → d < k →
    ∃ b : Bool, (∃ r, slices_IndexFunc_int64_int64.l0 k l fv46 (l.length : Int) i = some r ∧ decide (r ≥ 0) = b) ∧ spec_Curve.l0 k l v i = if b = true then some (-1) else val l v := by
  intro d
  induction d with
  | zero =>
    intro k i h0 h1 hd hk
    obtain ⟨k, rfl⟩ : ∃ m, k = m + 1 := ⟨k - 1, by omega⟩
    refine ⟨false, ⟨-1, by simp only [slices_IndexFunc_int64_int64.l0]; rw [if_neg (by omega)], by simp⟩, ?_⟩
    simp only [spec_Curve.l0]
    rw [if_neg (by omega), place_eq]
    simp [round_eq, val]
  | succ d ih =>
    intro k i h0 h1 hd hk
    obtain ⟨k, rfl⟩ : ∃ m, k = m + 1 := ⟨k - 1, by omega⟩
    have hw : wrap64 (i + 1) = i + 1 := by unfold wrap64; omega
    have hlt : i < (l.length : Int) := by omega
    simp only [slices_IndexFunc_int64_int64.l0, spec_Curve.l0]
    rw [if_pos hlt, if_pos h0, if_pos hlt, if_pos hlt, if_pos h0, hw]
    have hG : GI.f fv46 (rd l i) = some (!decide (0 ≤ rd l i ∧ rd l i ≤ 65535)) := by
      unfold GI.f fv46 impl_Curve_1.f impl_isValue.f
      simp only [in_some, Option.bind_some]
    have hS : spec_l9In.f (rd l i) = some (decide (0 ≤ rd l i ∧ rd l i ≤ 65535)) := by
      unfold spec_l9In.f
      simp only [in_eq, in_some, Option.bind_some]
    rw [hG, hS]
    simp only [Option.bind_some]
    by_cases c : 0 ≤ rd l i ∧ rd l i ≤ 65535
    · obtain ⟨b, hb1, hb2⟩ := ih k (i + 1) (by omega) (by omega) (by omega) (by omega)
      refine ⟨b, ?_, ?_⟩
      · simpa [c] using hb1
      · simpa [c] using hb2
    · exact ⟨true, ⟨i, by simp [c], by simpa using h0⟩, by simp [c]⟩

theorem curve_eq (l : List Int) (v : Int) (hl : l.length ≤ 1048576) (k : Nat) (hk : 1048578 ≤ k) : ∃ r, spec_Curve.f k l v = some r ∧ impl_Curve.f k l v = some r := by
  obtain ⟨k, rfl⟩ : ∃ m, k = m + 1 := ⟨k - 1, by omega⟩
  unfold spec_Curve.f impl_Curve.f slices_ContainsFunc_int64_int64.f slices_IndexFunc_int64_int64.f impl_isValue.f spec_l9In.f
  have hw : wrap64 ((l.length : Int) - 1) = (l.length : Int) - 1 := by unfold wrap64; omega
  simp only [in_eq, in_some, Option.bind_some, spec_Curve.j0, impl_Curve.j0]
  rw [hw]
  by_cases c1 : (l.length : Int) < 2
  · have : ¬ (1 ≤ (l.length : Int) - 1 ∧ (l.length : Int) - 1 ≤ 256) := by omega
    exact ⟨-1, by simp [c1], by simp [this]⟩
  · by_cases c2 : (l.length : Int) > 257
    · have : ¬ (1 ≤ (l.length : Int) - 1 ∧ (l.length : Int) - 1 ≤ 256) := by omega
      exact ⟨-1, by simp [c1, c2], by simp [this]⟩
    · have c : 1 ≤ (l.length : Int) - 1 ∧ (l.length : Int) - 1 ≤ 256 := by omega
      by_cases cv : 0 ≤ v ∧ v ≤ 65535
      · obtain ⟨b, ⟨r, hr, hrb⟩, hs⟩ := table l v hl l.length k 0 (by omega) (by omega) (by omega) (by omega)
        obtain ⟨b2, ⟨r2, hr2, hrb2⟩, hs2⟩ := table l v hl l.length (k + 1) 0 (by omega) (by omega) (by omega) (by omega)
        have e : r2 = r := by
          have := slices_IndexFunc_int64_int64.mono_l k l fv46 (l.length : Int) 0 r hr
          rw [hr2] at this
          exact Option.some.inj this
        subst e
        have hv := val_some l v (by omega) (by omega) cv.1 cv.2
        obtain ⟨z, hz⟩ := hv
        have hz2 := hz
        unfold val at hz2
        rw [hw] at hz2
        cases b with
        | true => exact ⟨-1, by simp [c1, c2, cv, hs], by simp [c, cv, hr2, hrb]⟩
        | false => exact ⟨z, by simp [c1, c2, cv, hs, hz], by simp [c, cv, hr2, hrb]; exact hz2⟩
      · exact ⟨-1, by simp [c1, c2, cv], by simp [c, cv]⟩

theorem FnExactCurve : laws_FnExactCurve.Pure := by
  intro l0 a1 hm _ _ _
  unfold maxLen at hm
  unfold laws_FnExactCurve.f
  by_cases c : (l0.length : Int) > 1048576
  · exact ⟨1, by rw [if_pos c]⟩
  · refine ⟨1048578, ?_⟩
    rw [if_neg c, to_ints l0 (by omega) _ (by omega)]
    simp only [Option.bind_some]
    obtain ⟨r, h1, h2⟩ := curve_eq l0 a1 (by omega) 1048578 (by omega)
    rw [h1, h2]
    simp only [Option.bind_some, if_true]
    rw [eq_ints l0 (by omega) _ (by omega)]
    rfl

end Go.Proofs.Ytdfhhnepodnioaa.Pure
