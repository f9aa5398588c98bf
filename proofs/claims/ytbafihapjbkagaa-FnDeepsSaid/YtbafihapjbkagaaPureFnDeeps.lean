/- Proved: the plain law behind FnDeeps: whatever the draw, it answers true. No condition. -/
import Derived.Test.YtbafihapjbkagaaPFnDeepsx13
namespace Go.Proofs.Ytbafihapjbkagaa.Pure
open Go.RowKit Go.Proofs.Ytbafihapjbkagaa.PFnDeeps Go.Proofs.YtbafihapjbkagaaW.PrintWords Go.Proofs.YtbafihapjbkagaaW.PrintLast

set_option linter.unusedVariables false
set_option linter.unusedSimpArgs false

theorem run_to {α : Type} (F : Nat → Int → Option α) (n : Int) (r : α) (step : ∀ k i, 0 ≤ i → i < n → F (k + 1) i = F k (i + 1)) (stop : ∀ k, F (k + 1) n = some r) :
    ∀ (d k : Nat) (i : Int), 0 ≤ i → i ≤ n → n - i = d → d < k → F k i = some r := by
  intro d
  induction d with
  | zero =>
    intro k i h0 h1 hd hk
    obtain ⟨k, rfl⟩ : ∃ m, k = m + 1 := ⟨k - 1, by omega⟩
    obtain rfl : i = n := by omega
    exact stop k
  | succ d ih =>
    intro k i h0 h1 hd hk
    obtain ⟨k, rfl⟩ : ∃ m, k = m + 1 := ⟨k - 1, by omega⟩
    rw [step k i h0 (by omega)]
    exact ih k (i + 1) (by omega) (by omega) (by omega) (by omega)

theorem set_to {α β : Type} (F : Nat → List β → Int → Option (List β)) (l : List α) (conv : α → β)
    (step : ∀ k acc i x, 0 ≤ i → l[i.toNat]? = some x → acc.length = l.length → F (k + 1) acc i = F k (acc.set i.toNat (conv x)) (i + 1)) (stop : ∀ k acc, F (k + 1) acc (l.length : Int) = some acc) :
    ∀ (d k : Nat) (acc : List β) (i : Int), 0 ≤ i → i ≤ l.length → (l.length : Int) - i = d → d < k → acc.length = l.length → F k acc i = some (acc.take i.toNat ++ (l.drop i.toNat).map conv) := by
  intro d
  induction d with
  | zero =>
    intro k acc i h0 h1 hd hk ha
    obtain ⟨k, rfl⟩ : ∃ m, k = m + 1 := ⟨k - 1, by omega⟩
    obtain rfl : i = (l.length : Int) := by omega
    rw [stop k]
    simp [← ha]
  | succ d ih =>
    intro k acc i h0 h1 hd hk ha
    obtain ⟨k, rfl⟩ : ∃ m, k = m + 1 := ⟨k - 1, by omega⟩
    have hlt : i.toNat < l.length := by omega
    have hx : l[i.toNat]? = some l[i.toNat] := List.getElem?_eq_getElem hlt
    rw [step k acc i _ h0 hx ha, ih k _ (i + 1) (by omega) (by omega) (by omega) (by omega) (by simpa using ha)]
    have e : (i + 1).toNat = i.toNat + 1 := by omega
    rw [e]
    congr 1
    rw [List.take_succ_eq_append_getElem (by simp; omega)]
    rw [List.drop_eq_getElem_cons hlt, List.map_cons, List.getElem_set_self, List.take_set_of_le (Nat.le_refl _), List.append_assoc]
    rfl

/-- The element at a place. -/
abbrev el (xs : List S50) (i : Nat) : S50 := rd_T50 xs (i : Int)
theorem el_get (xs : List S50) (i : Nat) (h : i < xs.length) : el xs i = xs[i] := by
  unfold el rd_T50
  rw [List.getD_eq_getElem?_getD, Int.toNat_natCast, List.getElem?_eq_getElem h]
  rfl
theorem el_of (xs : List S50) (i : Nat) (x : S50) (h : xs[i]? = some x) : el xs i = x := by
  unfold el rd_T50
  rw [List.getD_eq_getElem?_getD, Int.toNat_natCast, h]
  rfl
theorem get_el (xs : List S50) (i : Nat) (h : i < xs.length) : xs[i]? = some (el xs i) := by rw [el_get xs i h, List.getElem?_eq_getElem h]
theorem el_set (xs : List S50) (i j : Nat) (x : S50) (h : i < xs.length) : el (xs.set i x) j = if j = i then x else el xs j := by
  by_cases c : j = i
  · subst c
    rw [if_pos rfl]
    exact el_of _ _ _ (List.getElem?_set_self h)
  · rw [if_neg c]
    unfold el rd_T50
    rw [List.getD_eq_getElem?_getD, List.getD_eq_getElem?_getD, Int.toNat_natCast, List.getElem?_set_ne (by omega)]
theorem ext_el (xs ys : List S50) (hl : xs.length = ys.length) (h : ∀ i, i < xs.length → el xs i = el ys i) : xs = ys := by
  apply List.ext_getElem? 
  intro i
  by_cases c : i < xs.length
  · rw [get_el xs i c, get_el ys i (by omega), h i c]
  · rw [List.getElem?_eq_none (by omega), List.getElem?_eq_none (by omega)]

/-- Alike ones stand as they stood: the two lists are of one length, and each depth's samples are the same, in the same order. -/
def Alike (xs ys : List S50) : Prop := xs.length = ys.length ∧ ∀ k : Int, xs.filter (fun x => decide (x.f0 = k)) = ys.filter (fun x => decide (x.f0 = k))
theorem Alike.refl (xs : List S50) : Alike xs xs := ⟨rfl, fun _ => rfl⟩
theorem Alike.trans {xs ys zs : List S50} (h : Alike xs ys) (h2 : Alike ys zs) : Alike xs zs := ⟨h.1.trans h2.1, fun k => (h.2 k).trans (h2.2 k)⟩
theorem Alike.symm {xs ys : List S50} (h : Alike xs ys) : Alike ys xs := ⟨h.1.symm, fun k => (h.2 k).symm⟩
/-- Between two places, in order. -/
def Srt (xs : List S50) (a b : Nat) : Prop := ∀ p q, a ≤ p → p < q → q < b → (el xs p).f0 ≤ (el xs q).f0
/-- Outside of these places nothing has changed. -/
def Outs (xs ys : List S50) (a b : Nat) : Prop := ∀ i, i < a ∨ b ≤ i → el ys i = el xs i
theorem Outs.refl (xs : List S50) (a b : Nat) : Outs xs xs a b := fun _ _ => rfl
theorem Outs.trans {xs ys zs : List S50} {a b : Nat} (h : Outs xs ys a b) (h2 : Outs ys zs a b) : Outs xs zs a b := fun i hi => (h2 i hi).trans (h i hi)
theorem Outs.wide {xs ys : List S50} {a b a' b' : Nat} (h : Outs xs ys a b) (ha : a' ≤ a) (hb : b ≤ b') : Outs xs ys a' b' := fun i hi => h i (by omega)

/-- Two blocks change their places. -/
theorem alike_blocks (P U V S : List S50) (h : ∀ u ∈ U, ∀ v ∈ V, u.f0 ≠ v.f0) : Alike (P ++ U ++ V ++ S) (P ++ V ++ U ++ S) := by
  refine ⟨by simp only [List.length_append]; omega, fun k => ?_⟩
  simp only [List.filter_append]
  have key : U.filter (fun x => decide (x.f0 = k)) = [] ∨ V.filter (fun x => decide (x.f0 = k)) = [] := by
    by_cases c : ∃ u ∈ U, u.f0 = k
    · right
      obtain ⟨u, hu, hk⟩ := c
      rw [List.filter_eq_nil_iff]
      intro v hv
      have := h u hu v hv
      simp only [decide_eq_true_eq]
      omega
    · left
      rw [List.filter_eq_nil_iff]
      intro u hu
      simp only [decide_eq_true_eq]
      exact fun e => c ⟨u, hu, e⟩
  rcases key with e | e <;> rw [e] <;> simp
theorem cut_two (xs : List S50) (i : Nat) (h : i + 1 < xs.length) : xs = xs.take i ++ [el xs i] ++ [el xs (i + 1)] ++ xs.drop (i + 2) := by
  rw [el_get xs i (by omega), el_get xs (i + 1) h]
  conv => lhs; rw [← List.take_append_drop i xs, List.drop_eq_getElem_cons (show i < xs.length by omega), List.drop_eq_getElem_cons h]
  simp
/-- Two neighbours of two depths change their places. -/
theorem swap_alike (xs : List S50) (i : Nat) (h : i + 1 < xs.length) (hk : (el xs i).f0 ≠ (el xs (i + 1)).f0) : Alike xs ((xs.set i (el xs (i + 1))).set (i + 1) (el xs i)) := by
  have e : (xs.set i (el xs (i + 1))).set (i + 1) (el xs i) = xs.take i ++ [el xs (i + 1)] ++ [el xs i] ++ xs.drop (i + 2) := by
    apply ext_el
    · simp only [List.length_set, List.length_append, List.length_take, List.length_drop, List.length_singleton]; omega
    · intro j hj
      rw [List.length_set, List.length_set] at hj
      rw [el_set _ _ _ _ (by rw [List.length_set]; omega), el_set _ _ _ _ (by omega)]
      have hc := cut_two xs i h
      have g : ∀ (a b : S50) (j : Nat), (xs.take i ++ [a] ++ [b] ++ xs.drop (i + 2))[j]? = if j = i then some a else if j = i + 1 then some b else xs[j]? := by
        intro a b j
        have ht : (xs.take i).length = i := by rw [List.length_take]; omega
        by_cases c1 : j < i
        · rw [List.append_assoc, List.append_assoc, List.getElem?_append_left (by omega), List.getElem?_take_of_lt c1, if_neg (by omega), if_neg (by omega)]
        · by_cases c2 : j = i
          · subst c2
            rw [List.append_assoc, List.append_assoc, List.getElem?_append_right (by omega), ht, Nat.sub_self, if_pos rfl]; rfl
          · by_cases c3 : j = i + 1
            · subst c3
              rw [List.append_assoc, List.append_assoc, List.getElem?_append_right (by omega), ht, if_neg (by omega), if_pos rfl, show i + 1 - i = 1 by omega]; rfl
            · rw [List.getElem?_append_right (by simp only [List.length_append, List.length_singleton, ht]; omega), if_neg c2, if_neg c3]
              simp only [List.length_append, List.length_singleton, ht]
              rw [List.getElem?_drop]
              congr 1
              omega
      by_cases c3 : j = i + 1
      · rw [if_pos c3]
        exact (el_of _ _ _ (by rw [g, if_neg (by omega), if_pos c3])).symm
      · rw [if_neg c3]
        by_cases c2 : j = i
        · rw [if_pos c2]
          exact (el_of _ _ _ (by rw [g, if_pos c2])).symm
        · rw [if_neg c2]
          exact (el_of _ _ _ (by rw [g, if_neg c2, if_neg c3]; exact get_el xs j hj)).symm
  rw [e]
  conv => lhs; rw [cut_two xs i h]
  exact alike_blocks _ _ _ _ (fun u hu v hv => by
    obtain rfl := List.mem_singleton.1 hu
    obtain rfl := List.mem_singleton.1 hv
    exact hk)
theorem swap_el (xs : List S50) (i j : Nat) (h : i + 1 < xs.length) : el ((xs.set i (el xs (i + 1))).set (i + 1) (el xs i)) j = if j = i + 1 then el xs i else if j = i then el xs (i + 1) else el xs j := by
  rw [el_set _ _ _ _ (by rw [List.length_set]; omega), el_set _ _ _ _ (by omega)]

/-- The one stable order. -/
theorem alike_one : ∀ (xs ys : List S50), Alike xs ys → xs.Pairwise (fun a b => a.f0 ≤ b.f0) → ys.Pairwise (fun a b => a.f0 ≤ b.f0) → xs = ys
  | [], ys, h, _, _ => (List.eq_nil_of_length_eq_zero h.1.symm).symm
  | x :: xs, [], h, _, _ => absurd h.1 (by simp)
  | x :: xs, y :: ys, h, hx, hy => by
    rw [List.pairwise_cons] at hx hy
    have mem : ∀ (a : S50) (l1 l2 : List S50), Alike (a :: l1) l2 → a ∈ l2 := fun a l1 l2 hh => by
      have h1 := hh.2 a.f0
      have h2 : a ∈ (a :: l1).filter (fun x => decide (x.f0 = a.f0)) := List.mem_filter.2 ⟨List.mem_cons_self .., by simp⟩
      rw [h1] at h2
      exact (List.mem_filter.1 h2).1
    have k1 : y.f0 ≤ x.f0 := by
      rcases List.mem_cons.1 (mem x xs (y :: ys) h) with e | e
      · rw [e]; exact Int.le_refl _
      · exact hy.1 x e
    have k2 : x.f0 ≤ y.f0 := by
      rcases List.mem_cons.1 (mem y ys (x :: xs) h.symm) with e | e
      · rw [e]; exact Int.le_refl _
      · exact hx.1 y e
    have hk : x.f0 = y.f0 := by omega
    have he := h.2 x.f0
    rw [List.filter_cons_of_pos (by simp), List.filter_cons_of_pos (by simp [hk])] at he
    injection he with e1 e2
    subst e1
    congr 1
    refine alike_one xs ys ⟨by simpa using h.1, fun k => ?_⟩ hx.2 hy.2
    have := h.2 k
    by_cases c : x.f0 = k
    · rw [List.filter_cons_of_pos (by simp [c]), List.filter_cons_of_pos (by simp [c])] at this
      injection this
    · rw [List.filter_cons_of_neg (by simp [c]), List.filter_cons_of_neg (by simp [c])] at this
      exact this
theorem srt_pair (xs : List S50) (h : Srt xs 0 xs.length) : xs.Pairwise (fun a b => a.f0 ≤ b.f0) := by
  rw [List.pairwise_iff_getElem]
  intro i j hi hj hij
  have := h i j (Nat.zero_le _) hij hj
  rwa [el_get xs i hi, el_get xs j hj] at this
/-- Two lists in order, each alike to the same: one. -/
theorem srt_one (xs ys zs : List S50) (h1 : Alike xs ys) (h2 : Alike xs zs) (s1 : Srt ys 0 ys.length) (s2 : Srt zs 0 zs.length) : ys = zs := alike_one ys zs (h1.symm.trans h2) (srt_pair ys s1) (srt_pair zs s2)

/-- Two neighbours changed. -/
def swp (xs : List S50) (i : Nat) : List S50 := (xs.set i (el xs (i + 1))).set (i + 1) (el xs i)
theorem swp_length (xs : List S50) (i : Nat) : (swp xs i).length = xs.length := by unfold swp; rw [List.length_set, List.length_set]
theorem swp_comm (xs : List S50) (i : Nat) : (xs.set (i + 1) (el xs i)).set i (el xs (i + 1)) = swp xs i := by unfold swp; rw [List.set_comm _ _ (by omega)]
theorem swp_el (xs : List S50) (i j : Nat) (h : i + 1 < xs.length) : el (swp xs i) j = if j = i + 1 then el xs i else if j = i then el xs (i + 1) else el xs j := swap_el xs i j h
theorem swp_alike (xs : List S50) (i : Nat) (h : i + 1 < xs.length) (hk : (el xs (i + 1)).f0 < (el xs i).f0) : Alike xs (swp xs i) := swap_alike xs i h (by omega)
theorem swp_outs (xs : List S50) (i a b : Nat) (h : i + 1 < xs.length) (ha : a ≤ i) (hb : i + 1 < b) : Outs xs (swp xs i) a b := fun j hj => by rw [swp_el xs i j h, if_neg (by omega), if_neg (by omega)]

/-- How two samples are compared. -/
theorem cmp63 (a b : S50) : ∃ t, GC.f fv63 a.f0 a.f1.f0 a.f1.f1 a.f1.f2 a.f1.f3 b.f0 b.f1.f0 b.f1.f1 b.f1.f2 b.f1.f3 = some t ∧ (t < 0 ↔ a.f0 < b.f0) := by
  unfold GC.f fv63 impl_byDepth_1.f cmp_Compare_int64.f cmp_isNaN_int64.f
  have e : ∀ x : Int, (x != x) = false := fun x => by simp
  rw [e, e]
  simp only [Option.bind_some, Bool.false_eq_true, if_false]
  by_cases c : a.f0 < b.f0
  · rw [if_pos c]
    exact ⟨-1, rfl, by omega⟩
  · rw [if_neg c]
    by_cases c2 : a.f0 > b.f0
    · rw [if_pos c2]
      exact ⟨1, rfl, by omega⟩
    · rw [if_neg c2]
      exact ⟨0, rfl, by omega⟩

theorem ins_l1 (a b : Nat) (xs0 : List S50) (i : Nat) (hi : i < b) (hb : b ≤ xs0.length) (hl : xs0.length ≤ 1000) (Q : List S50 → Prop)
    (next : ∀ ys, Alike xs0 ys → Outs xs0 ys a b → Srt ys a (i + 1) → ∃ r, Ev (fun k => impl_Deep_77.l0 k ys (a : Int) (b : Int) fv63 ((i + 1 : Nat) : Int)) r ∧ Q r) :
    ∀ (j : Nat) (xs : List S50), j ≤ i → a ≤ j → Alike xs0 xs → Outs xs0 xs a b → (∀ p q, a ≤ p → p < q → q < i + 1 → q ≠ j → (el xs p).f0 ≤ (el xs q).f0) →
      ∃ r, Ev (fun k => impl_Deep_77.l1 k xs (a : Int) (b : Int) fv63 (i : Int) (j : Int)) r ∧ Q r := by
  have hwi : wrap64 ((i : Int) + 1) = ((i + 1 : Nat) : Int) := by unfold wrap64; omega
  intro j
  induction j with
  | zero =>
    intro xs hj ha hA hO hI
    obtain ⟨r, hr, hq⟩ := next xs hA hO (fun p q h1 h2 h3 => hI p q h1 h2 h3 (by omega))
    refine ⟨r, Ev.step (fun k => ?_) hr, hq⟩
    rw [impl_Deep_77.l1, if_neg (by omega), hwi]
  | succ j ih =>
    intro xs hj ha hA hO hI
    have hxl := hA.1
    have hw : wrap64 (((j + 1 : Nat) : Int) - 1) = (j : Int) := by unfold wrap64; omega
    by_cases c : a < j + 1
    case neg =>
      obtain ⟨r, hr, hq⟩ := next xs hA hO (fun p q h1 h2 h3 => hI p q h1 h2 h3 (by omega))
      refine ⟨r, Ev.step (fun k => ?_) hr, hq⟩
      rw [impl_Deep_77.l1, if_neg (by omega), hwi]
    obtain ⟨t, ht, hlt⟩ := cmp63 (el xs (j + 1)) (el xs j)
    by_cases c2 : t < 0
    · have hk := hlt.1 c2
      obtain ⟨r, hr, hq⟩ := ih (swp xs j) (by omega) (by omega) (hA.trans (swp_alike xs j (by omega) hk)) (hO.trans (swp_outs xs j a b (by omega) (by omega) (by omega))) (fun p q h1 h2 h3 h4 => by
        rw [swp_el xs j p (by omega), swp_el xs j q (by omega)]
        by_cases p1 : p = j + 1
        · subst p1
          rw [if_pos rfl, if_neg (by omega), if_neg (by omega)]
          exact hI j q (by omega) (by omega) h3 (by omega)
        · rw [if_neg p1]
          by_cases p2 : p = j
          · subst p2
            rw [if_pos rfl]
            by_cases q1 : q = p + 1
            · rw [if_pos q1]; omega
            · rw [if_neg q1, if_neg (by omega)]
              exact hI (p + 1) q (by omega) (by omega) h3 (by omega)
          · rw [if_neg p2]
            by_cases q1 : q = j + 1
            · rw [if_pos q1]
              exact hI p j h1 (by omega) (by omega) (by omega)
            · rw [if_neg q1, if_neg h4]
              exact hI p q h1 h2 h3 (by omega))
      refine ⟨r, Ev.step (fun k => ?_) hr, hq⟩
      rw [impl_Deep_77.l1, if_pos (by omega), if_pos (by omega), if_pos (by omega), hw, if_pos (by omega), if_pos (by omega), ht, Option.bind_some, if_pos c2, Int.toNat_natCast, Int.toNat_natCast]
      exact congrArg (fun z => impl_Deep_77.l1 k z (a : Int) (b : Int) fv63 (i : Int) (j : Int)) (swp_comm xs j)
    · have hk : ¬ (el xs (j + 1)).f0 < (el xs j).f0 := fun h => c2 (hlt.2 h)
      obtain ⟨r, hr, hq⟩ := next xs hA hO (fun p q h1 h2 h3 => by
        by_cases q1 : q = j + 1
        · subst q1
          by_cases p1 : p = j
          · subst p1; omega
          · have := hI p j h1 (by omega) (by omega) (by omega)
            omega
        · exact hI p q h1 h2 h3 q1)
      refine ⟨r, Ev.step (fun k => ?_) hr, hq⟩
      rw [impl_Deep_77.l1, if_pos (by omega), if_pos (by omega), if_pos (by omega), hw, if_pos (by omega), if_pos (by omega), ht, Option.bind_some, if_neg c2, hwi]

/-- The insertion sort. -/
theorem ins_ok (a b : Nat) (xs : List S50) (hab : a < b) (hb : b ≤ xs.length) (hl : xs.length ≤ 1000) : ∃ ys, Ev (fun k => impl_Deep_77.f k xs (a : Int) (b : Int) fv63) ys ∧ Alike xs ys ∧ Outs xs ys a b ∧ Srt ys a b := by
  have run : ∀ (d i : Nat) (ys : List S50), b - i = d → a < i → i ≤ b → Alike xs ys → Outs xs ys a b → Srt ys a i → ∃ r, Ev (fun k => impl_Deep_77.l0 k ys (a : Int) (b : Int) fv63 (i : Int)) r ∧ (Alike xs r ∧ Outs xs r a b ∧ Srt r a b) := by
    intro d
    induction d with
    | zero =>
      intro i ys hd ha hi h1 h2 h3
      obtain rfl : i = b := by omega
      refine ⟨ys, Ev.step (f := fun _ => some ys) (fun k => ?_) (Ev.now _), h1, h2, h3⟩
      rw [impl_Deep_77.l0, if_neg (by omega)]
    | succ d ih =>
      intro i ys hd ha hi h1 h2 h3
      obtain ⟨r, hr, hq⟩ := ins_l1 a b xs i (by omega) hb hl (fun r => Alike xs r ∧ Outs xs r a b ∧ Srt r a b) (fun zs z1 z2 z3 => ih (i + 1) zs (by omega) (by omega) (by omega) z1 z2 z3) i ys (Nat.le_refl _) (by omega) h1 h2 (fun p q p1 p2 p3 p4 => h3 p q p1 p2 (by omega))
      refine ⟨r, Ev.step (fun k => ?_) hr, hq⟩
      rw [impl_Deep_77.l0, if_pos (by omega)]
  have hw : wrap64 ((a : Int) + 1) = ((a + 1 : Nat) : Int) := by unfold wrap64; omega
  obtain ⟨r, hr, h1, h2, h3⟩ := run (b - (a + 1)) (a + 1) xs rfl (by omega) (by omega) (Alike.refl _) (Outs.refl _ _ _) (fun p q h1 h2 h3 => by omega)
  refine ⟨r, Ev.congr (fun k => ?_) hr, h1, h2, h3⟩
  unfold impl_Deep_77.f
  rw [hw]

theorem wadd (x y : Nat) (h : x + y ≤ 100000) : wrap64 ((x : Int) + (y : Int)) = ((x + y : Nat) : Int) := by unfold wrap64; omega
theorem wadd1 (x : Nat) (h : x ≤ 100000) : wrap64 ((x : Int) + 1) = ((x + 1 : Nat) : Int) := by unfold wrap64; omega
theorem wsub (x y : Nat) (h : y ≤ x) (hx : x ≤ 100000) : wrap64 ((x : Int) - (y : Int)) = ((x - y : Nat) : Int) := by unfold wrap64; omega
theorem wnat (x : Nat) (h : x ≤ 100000) : wrap64 (x : Int) = (x : Int) := by unfold wrap64; omega
theorem wsub1 (x : Nat) (h : 1 ≤ x) (hx : x ≤ 100000) : wrap64 ((x : Int) - 1) = ((x - 1 : Nat) : Int) := by unfold wrap64; omega
set_option maxHeartbeats 1600000 in
theorem sr_ok (a b n : Nat) (xs : List S50) (fv : GtC) (h1 : a + n ≤ b) (h2 : b + n ≤ xs.length) (hl : xs.length ≤ 1000) :
    ∃ ys, Ev (fun k => impl_Deep_82.f k xs (a : Int) (b : Int) (n : Int) fv) ys ∧ ys.length = xs.length ∧ ∀ p, el ys p = if a ≤ p ∧ p < a + n then el xs (p + (b - a)) else if b ≤ p ∧ p < b + n then el xs (p - (b - a)) else el xs p := by
  have run : ∀ (d i : Nat) (ys : List S50), n - i = d → i ≤ n → ys.length = xs.length → (∀ p, el ys p = if a ≤ p ∧ p < a + i then el xs (p + (b - a)) else if b ≤ p ∧ p < b + i then el xs (p - (b - a)) else el xs p) →
      ∃ r, Ev (fun k => impl_Deep_82.l0 k ys (a : Int) (b : Int) (n : Int) (i : Int)) r ∧ (r.length = xs.length ∧ ∀ p, el r p = if a ≤ p ∧ p < a + n then el xs (p + (b - a)) else if b ≤ p ∧ p < b + n then el xs (p - (b - a)) else el xs p) := by
    intro d
    induction d with
    | zero =>
      intro i ys hd hi hy hp
      obtain rfl : i = n := by omega
      refine ⟨ys, Ev.step (f := fun _ => some ys) (fun k => ?_) (Ev.now _), hy, hp⟩
      rw [impl_Deep_82.l0, if_neg (by omega)]
    | succ d ih =>
      intro i ys hd hi hy hp
      obtain ⟨r, hr, hq⟩ := ih (i + 1) ((ys.set (a + i) (el ys (b + i))).set (b + i) (el ys (a + i))) (by omega) (by omega) (by rw [List.length_set, List.length_set]; exact hy) (fun p => by
        rw [el_set _ _ _ _ (by rw [List.length_set]; omega), el_set _ _ _ _ (by omega)]
        by_cases c1 : p = b + i
        · subst c1
          rw [if_pos rfl, if_neg (by omega), if_pos (by omega), hp, if_neg (by omega), if_neg (by omega)]
          congr 1
          omega
        · rw [if_neg c1]
          by_cases c2 : p = a + i
          · subst c2
            rw [if_pos rfl, if_pos (by omega), hp, if_neg (by omega), if_neg (by omega)]
            congr 1
            omega
          · rw [if_neg c2, hp p]
            by_cases c3 : a ≤ p ∧ p < a + i
            · rw [if_pos c3, if_pos (by omega)]
            · rw [if_neg c3]
              by_cases c4 : b ≤ p ∧ p < b + i
              · rw [if_pos c4, if_neg (show ¬ (a ≤ p ∧ p < a + (i + 1)) by omega), if_pos (by omega)]
              · rw [if_neg c4, if_neg (show ¬ (a ≤ p ∧ p < a + (i + 1)) by omega), if_neg (by omega)])
      refine ⟨r, Ev.step (fun k => ?_) hr, hq⟩
      rw [impl_Deep_82.l0, if_pos (by omega), wadd b i (by omega), wadd a i (by omega), if_pos (by omega), if_pos (by omega), if_pos (by omega), if_pos (by omega), wadd1 i (by omega), Int.toNat_natCast, Int.toNat_natCast]
  obtain ⟨r, hr, h3, h4⟩ := run n 0 xs (by omega) (by omega) rfl (fun p => by rw [if_neg (by omega), if_neg (by omega)])
  exact ⟨r, Ev.congr (fun k => rfl) hr, h3, h4⟩

/-- Where a rotated element comes from. -/
def rix (a m b p : Nat) : Nat := if a ≤ p ∧ p < a + (b - m) then p + (m - a) else if a + (b - m) ≤ p ∧ p < b then p - (b - m) else p
theorem rix_more (m i j p : Nat) (hj : 0 < j) (h : j < i) (hm : i ≤ m) : (if m - i ≤ rix (m - (i - j)) m (m + j) p ∧ rix (m - (i - j)) m (m + j) p < m - i + j then rix (m - (i - j)) m (m + j) p + (m - (m - i)) else if m ≤ rix (m - (i - j)) m (m + j) p ∧ rix (m - (i - j)) m (m + j) p < m + j then rix (m - (i - j)) m (m + j) p - (m - (m - i)) else rix (m - (i - j)) m (m + j) p) = rix (m - i) m (m + j) p := by
  have k1 : m - (i - j) ≤ p ∧ p < m - (i - j) + j → rix (m - (i - j)) m (m + j) p = p + (i - j) := fun c => by unfold rix; rw [if_pos (by omega)]; omega
  have k2 : m - (i - j) + j ≤ p ∧ p < m + j → rix (m - (i - j)) m (m + j) p = p - j := fun c => by unfold rix; rw [if_neg (by omega), if_pos (by omega)]; omega
  have k3 : p < m - (i - j) ∨ m + j ≤ p → rix (m - (i - j)) m (m + j) p = p := fun c => by unfold rix; rw [if_neg (by omega), if_neg (by omega)]
  have n1 : m - i ≤ p ∧ p < m - i + j → rix (m - i) m (m + j) p = p + i := fun c => by unfold rix; rw [if_pos (by omega)]; omega
  have n2 : m - i + j ≤ p ∧ p < m + j → rix (m - i) m (m + j) p = p - j := fun c => by unfold rix; rw [if_neg (by omega), if_pos (by omega)]; omega
  have n3 : p < m - i ∨ m + j ≤ p → rix (m - i) m (m + j) p = p := fun c => by unfold rix; rw [if_neg (by omega), if_neg (by omega)]
  by_cases c1 : p < m - i ∨ m + j ≤ p
  · rw [k3 (by omega), n3 c1, if_neg (by omega), if_neg (by omega)]
  · by_cases c2 : p < m - i + j
    · rw [k3 (by omega), n1 (by omega), if_pos (by omega)]; omega
    · by_cases c3 : p < m - (i - j) + j
      · rw [k1 (by omega), n2 (by omega), if_neg (by omega), if_pos (by omega)]; omega
      · rw [k2 (by omega), n2 (by omega), if_neg (by omega), if_neg (by omega)]
theorem rix_less (m i j p : Nat) (hi : 0 < i) (h : i < j) (hm : i ≤ m) : (if m - i ≤ rix (m - i) m (m + (j - i)) p ∧ rix (m - i) m (m + (j - i)) p < m - i + i then rix (m - i) m (m + (j - i)) p + (m + j - i - (m - i)) else if m + j - i ≤ rix (m - i) m (m + (j - i)) p ∧ rix (m - i) m (m + (j - i)) p < m + j - i + i then rix (m - i) m (m + (j - i)) p - (m + j - i - (m - i)) else rix (m - i) m (m + (j - i)) p) = rix (m - i) m (m + j) p := by
  have k1 : m - i ≤ p ∧ p < m - i + (j - i) → rix (m - i) m (m + (j - i)) p = p + i := fun c => by unfold rix; rw [if_pos (by omega)]; omega
  have k2 : m - i + (j - i) ≤ p ∧ p < m + (j - i) → rix (m - i) m (m + (j - i)) p = p - (j - i) := fun c => by unfold rix; rw [if_neg (by omega), if_pos (by omega)]; omega
  have k3 : p < m - i ∨ m + (j - i) ≤ p → rix (m - i) m (m + (j - i)) p = p := fun c => by unfold rix; rw [if_neg (by omega), if_neg (by omega)]
  have n1 : m - i ≤ p ∧ p < m - i + j → rix (m - i) m (m + j) p = p + i := fun c => by unfold rix; rw [if_pos (by omega)]; omega
  have n2 : m - i + j ≤ p ∧ p < m + j → rix (m - i) m (m + j) p = p - j := fun c => by unfold rix; rw [if_neg (by omega), if_pos (by omega)]; omega
  have n3 : p < m - i ∨ m + j ≤ p → rix (m - i) m (m + j) p = p := fun c => by unfold rix; rw [if_neg (by omega), if_neg (by omega)]
  by_cases c1 : p < m - i ∨ m + j ≤ p
  · rw [k3 (by omega), n3 c1, if_neg (by omega), if_neg (by omega)]
  · by_cases c2 : p < m - i + (j - i)
    · rw [k1 (by omega), n1 (by omega), if_neg (by omega), if_neg (by omega)]
    · by_cases c3 : p < m + (j - i)
      · rw [k2 (by omega)]
        by_cases c4 : p < m - i + j
        · rw [n1 (by omega), if_pos (by omega)]; omega
        · rw [n2 (by omega)]
          by_cases c5 : m - i ≤ p - (j - i) ∧ p - (j - i) < m - i + i
          · omega
          · omega
      · rw [k3 (by omega), n2 (by omega), if_neg (by omega), if_pos (by omega)]; omega
set_option maxHeartbeats 1600000 in
theorem rot_ok (a m b : Nat) (xs : List S50) (fv : GtC) (h1 : a < m) (h2 : m < b) (h3 : b ≤ xs.length) (hl : xs.length ≤ 1000) :
    ∃ ys, Ev (fun k => impl_Deep_81.f k xs (a : Int) (m : Int) (b : Int) fv) ys ∧ ys.length = xs.length ∧ ∀ p, el ys p = el xs (rix a m b p) := by
  have run : ∀ (d i j : Nat) (zs : List S50), i + j ≤ d → 0 < i → 0 < j → a + i ≤ m → m + j ≤ b → zs.length = xs.length → (∀ p, el zs (rix (m - i) m (m + j) p) = el xs (rix a m b p)) →
      ∃ r, Ev (fun k => impl_Deep_81.l0 k zs (m : Int) fv (i : Int) (j : Int)) r ∧ (r.length = xs.length ∧ ∀ p, el r p = el xs (rix a m b p)) := by
    intro d
    induction d with
    | zero => intro i j zs h; omega
    | succ d ih =>
      intro i j zs hd hi hj hm hb hz hp
      by_cases c1 : i = j
      · subst c1
        obtain ⟨ys, e1, e2, e3⟩ := sr_ok (m - i) m i zs fv (by omega) (by omega) (by omega)
        refine ⟨ys, Ev.step (fun k => ?_) (Ev.bind e1 (Ev.now ys)), by omega, fun p => ?_⟩
        · rw [impl_Deep_81.l0, if_pos rfl, wsub m i (by omega) (by omega)]
        · rw [e3, ← hp]
          by_cases c2 : m - i ≤ p ∧ p < m - i + i
          · rw [if_pos c2]
            exact congrArg (el zs) (by unfold rix; rw [if_pos (by omega)])
          · rw [if_neg c2]
            by_cases c3 : m ≤ p ∧ p < m + i
            · rw [if_pos c3]
              exact congrArg (el zs) (by unfold rix; rw [if_neg (by omega), if_pos (by omega)]; omega)
            · rw [if_neg c3]
              exact congrArg (el zs) (by unfold rix; rw [if_neg (by omega), if_neg (by omega)])
      · by_cases c2 : j < i
        · obtain ⟨ys, e1, e2, e3⟩ := sr_ok (m - i) m j zs fv (by omega) (by omega) (by omega)
          obtain ⟨r, hr, hq⟩ := ih (i - j) j ys (by omega) (by omega) hj (by omega) hb (by omega) (fun p => by
            rw [e3, ← hp p, ← rix_more m i j p hj c2 (by omega)]
            by_cases q1 : m - i ≤ rix (m - (i - j)) m (m + j) p ∧ rix (m - (i - j)) m (m + j) p < m - i + j
            · rw [if_pos q1, if_pos q1]
            · rw [if_neg q1, if_neg q1]
              by_cases q2 : m ≤ rix (m - (i - j)) m (m + j) p ∧ rix (m - (i - j)) m (m + j) p < m + j
              · rw [if_pos q2, if_pos q2]
              · rw [if_neg q2, if_neg q2])
          refine ⟨r, Ev.step (fun k => ?_) (Ev.bind (f := fun n z => impl_Deep_81.l0 n z (m : Int) fv ((i - j : Nat) : Int) (j : Int)) e1 hr), hq⟩
          rw [impl_Deep_81.l0, if_neg (by omega), if_pos (by omega), wsub m i (by omega) (by omega), wsub i j (by omega) (by omega)]
        · have c3 : i < j := by omega
          obtain ⟨ys, e1, e2, e3⟩ := sr_ok (m - i) (m + j - i) i zs fv (by omega) (by omega) (by omega)
          obtain ⟨r, hr, hq⟩ := ih i (j - i) ys (by omega) hi (by omega) hm (by omega) (by omega) (fun p => by
            rw [e3, ← hp p, ← rix_less m i j p hi (by omega) (by omega)]
            by_cases q1 : m - i ≤ rix (m - i) m (m + (j - i)) p ∧ rix (m - i) m (m + (j - i)) p < m - i + i
            · rw [if_pos q1, if_pos q1]
            · rw [if_neg q1, if_neg q1]
              by_cases q2 : m + j - i ≤ rix (m - i) m (m + (j - i)) p ∧ rix (m - i) m (m + (j - i)) p < m + j - i + i
              · rw [if_pos q2, if_pos q2]
              · rw [if_neg q2, if_neg q2])
          refine ⟨r, Ev.step (fun k => ?_) (Ev.bind (f := fun n z => impl_Deep_81.l0 n z (m : Int) fv (i : Int) ((j - i : Nat) : Int)) e1 hr), hq⟩
          rw [impl_Deep_81.l0, if_neg (by omega), if_neg (by omega), wsub m i (by omega) (by omega), wadd m j (by omega), wsub (m + j) i (by omega) (by omega), wsub j i (by omega) (by omega)]
  obtain ⟨r, hr, e1, e2⟩ := run (b - a) (m - a) (b - m) xs (by omega) (by omega) (by omega) (by omega) (by omega) rfl (fun p => by rw [show m - (m - a) = a by omega, show m + (b - m) = b by omega])
  refine ⟨r, Ev.congr (fun k => ?_) hr, e1, e2⟩
  unfold impl_Deep_81.f
  rw [wsub m a (by omega) (by omega), wsub b m (by omega) (by omega)]

theorem four_get (P U V S : List S50) (p : Nat) : (P ++ U ++ V ++ S)[p]? = if p < P.length then P[p]? else if p < P.length + U.length then U[p - P.length]? else if p < P.length + U.length + V.length then V[p - P.length - U.length]? else S[p - P.length - U.length - V.length]? := by
  rw [List.append_assoc, List.append_assoc]
  by_cases c1 : p < P.length
  · rw [if_pos c1, List.getElem?_append_left c1]
  · rw [if_neg c1, List.getElem?_append_right (by omega)]
    by_cases c2 : p < P.length + U.length
    · rw [if_pos c2, List.getElem?_append_left (by omega)]
    · rw [if_neg c2, List.getElem?_append_right (by omega)]
      by_cases c3 : p < P.length + U.length + V.length
      · rw [if_pos c3, List.getElem?_append_left (by omega)]
      · rw [if_neg c3, List.getElem?_append_right (by omega)]
/-- A rotation of two blocks, the latter all of lesser depths: alike ones stand as they stood. -/
theorem rot_alike (a m b : Nat) (xs ys : List S50) (h1 : a ≤ m) (h2 : m ≤ b) (h3 : b ≤ xs.length) (hl : ys.length = xs.length) (hp : ∀ p, el ys p = el xs (rix a m b p)) (hk : ∀ p q, a ≤ p → p < m → m ≤ q → q < b → (el xs q).f0 < (el xs p).f0) : Alike xs ys := by
  have l1 : (xs.take a).length = a := by rw [List.length_take]; omega
  have l2 : ((xs.take m).drop a).length = m - a := by rw [List.length_drop, List.length_take]; omega
  have l3 : ((xs.take b).drop m).length = b - m := by rw [List.length_drop, List.length_take]; omega
  have e1 : xs = xs.take a ++ (xs.take m).drop a ++ (xs.take b).drop m ++ xs.drop b := by
    apply List.ext_getElem?
    intro p
    rw [four_get, l1, l2, l3]
    by_cases c1 : p < a
    · rw [if_pos c1, List.getElem?_take_of_lt c1]
    · rw [if_neg c1]
      by_cases c2 : p < a + (m - a)
      · rw [if_pos c2, List.getElem?_drop, List.getElem?_take_of_lt (by omega)]; congr 1; omega
      · rw [if_neg c2]
        by_cases c3 : p < a + (m - a) + (b - m)
        · rw [if_pos c3, List.getElem?_drop, List.getElem?_take_of_lt (by omega)]; congr 1; omega
        · rw [if_neg c3, List.getElem?_drop]; congr 1; omega
  have e2 : ys = xs.take a ++ (xs.take b).drop m ++ (xs.take m).drop a ++ xs.drop b := by
    apply ext_el
    · have h5 := congrArg List.length e1
      simp only [List.length_append] at h5 ⊢
      omega
    · intro p hpl
      rw [hp p]
      symm
      apply el_of
      rw [four_get, l1, l2, l3]
      unfold rix
      by_cases c1 : p < a
      · rw [if_pos c1, List.getElem?_take_of_lt c1, if_neg (by omega), if_neg (by omega)]; exact get_el xs p (by omega)
      · rw [if_neg c1]
        by_cases c2 : p < a + (b - m)
        · rw [if_pos c2, if_pos (by omega), List.getElem?_drop, List.getElem?_take_of_lt (by omega), show m + (p - a) = p + (m - a) by omega]; exact get_el xs _ (by omega)
        · rw [if_neg c2, if_neg (show ¬ (a ≤ p ∧ p < a + (b - m)) by omega)]
          by_cases c3 : p < a + (b - m) + (m - a)
          · rw [if_pos c3, if_pos (by omega), List.getElem?_drop, List.getElem?_take_of_lt (by omega), show a + (p - a - (b - m)) = p - (b - m) by omega]; exact get_el xs _ (by omega)
          · rw [if_neg c3, if_neg (by omega), List.getElem?_drop, show b + (p - a - (b - m) - (m - a)) = p by omega]; exact get_el xs p (by omega)
  rw [e2]
  conv => lhs; rw [e1]
  refine alike_blocks _ _ _ _ (fun u hu v hv => ?_)
  obtain ⟨i, hi⟩ := List.getElem?_of_mem hu
  obtain ⟨j, hj⟩ := List.getElem?_of_mem hv
  have hil : i < m - a := by rw [← l2]; exact (List.getElem?_eq_some_iff.1 hi).1
  have hjl : j < b - m := by rw [← l3]; exact (List.getElem?_eq_some_iff.1 hj).1
  rw [List.getElem?_drop, List.getElem?_take_of_lt (by omega)] at hi hj
  have := hk (a + i) (m + j) (by omega) (by omega) (by omega) (by omega)
  rw [el_of _ _ _ hi, el_of _ _ _ hj] at this
  omega

theorem hf (x y : Nat) (h : x + y ≤ 100000) : wrap64 ((IntKind.u64.wrap (wrap64 ((x : Int) + (y : Int)))) / 2) = (((x + y) / 2 : Nat) : Int) := by
  have e1 : wrap64 ((x : Int) + (y : Int)) = ((x + y : Nat) : Int) := by unfold wrap64; omega
  have e2 : IntKind.u64.wrap ((x + y : Nat) : Int) = ((x + y : Nat) : Int) := by
    show ((x + y : Nat) : Int) % 18446744073709551616 = _
    omega
  rw [e1, e2]
  unfold wrap64
  omega

/-- What stands between two places keeps its depths. -/
theorem range_key (xs ys : List S50) (a b : Nat) (hab : a ≤ b) (hb : b ≤ xs.length) (hA : Alike xs ys) (hO : Outs xs ys a b) (p : Nat) (h1 : a ≤ p) (h2 : p < b) : ∃ q, a ≤ q ∧ q < b ∧ (el ys p).f0 = (el xs q).f0 := by
  have cut : ∀ zs : List S50, zs = zs.take a ++ (zs.take b).drop a ++ zs.drop b := fun zs => by
    have e : zs.take a = (zs.take b).take a := by rw [List.take_take, Nat.min_eq_left hab]
    rw [e, List.take_append_drop, List.take_append_drop]
  have hl := hA.1
  have eA : ys.take a = xs.take a := by
    apply List.ext_getElem?
    intro i
    by_cases c : i < a
    · rw [List.getElem?_take_of_lt c, List.getElem?_take_of_lt c, get_el ys i (by omega), get_el xs i (by omega), hO i (by omega)]
    · rw [List.getElem?_eq_none (by rw [List.length_take]; omega), List.getElem?_eq_none (by rw [List.length_take]; omega)]
  have eB : ys.drop b = xs.drop b := by
    apply List.ext_getElem?
    intro i
    rw [List.getElem?_drop, List.getElem?_drop]
    by_cases c : b + i < xs.length
    · rw [get_el ys _ (by omega), get_el xs _ c, hO _ (by omega)]
    · rw [List.getElem?_eq_none (by omega), List.getElem?_eq_none (by omega)]
  have hk := hA.2 (el ys p).f0
  rw [cut ys, cut xs, eA, eB] at hk
  have hk2 : ((xs.take b).drop a).filter (fun x => decide (x.f0 = (el ys p).f0)) = ((ys.take b).drop a).filter (fun x => decide (x.f0 = (el ys p).f0)) := by
    have e0 : el ys p = el (xs.take a ++ (ys.take b).drop a ++ xs.drop b) p := by rw [← eA, ← eB, ← cut ys]
    rw [← e0] at hk
    simp only [List.filter_append, List.append_assoc] at hk
    exact List.append_cancel_right (List.append_cancel_left hk)
  have hm : el ys p ∈ ((ys.take b).drop a).filter (fun x => decide (x.f0 = (el ys p).f0)) := by
    refine List.mem_filter.2 ⟨?_, by simp⟩
    refine List.mem_of_getElem? (i := p - a) ?_
    rw [List.getElem?_drop, List.getElem?_take_of_lt (by omega), show a + (p - a) = p by omega]
    exact get_el ys p (by omega)
  rw [← hk2] at hm
  obtain ⟨hm1, _⟩ := List.mem_filter.1 hm
  obtain ⟨i, hi⟩ := List.getElem?_of_mem hm1
  have hil : i < b - a := by
    have := (List.getElem?_eq_some_iff.1 hi).1
    rw [List.length_drop, List.length_take] at this
    omega
  rw [List.getElem?_drop, List.getElem?_take_of_lt (by omega)] at hi
  exact ⟨a + i, by omega, by omega, by rw [el_of _ _ _ hi]⟩

/-- What a sort between two places gives. -/
def Good3 (xs ys : List S50) (a b : Nat) : Prop := Alike xs ys ∧ Outs xs ys a b ∧ Srt ys a b

theorem sm_l1 (xs : List S50) (a b i : Nat) (ha : a + 1 ≤ i) (hi : i ≤ b) (hb : b ≤ xs.length) (hl : xs.length ≤ 1000) (hs : Srt xs (a + 1) b) (h1 : ∀ p, a + 1 ≤ p → p < i → (el xs p).f0 < (el xs a).f0) (h2 : ∀ p, i ≤ p → p < b → (el xs a).f0 ≤ (el xs p).f0) :
    ∃ r, Ev (fun k => impl_Deep_78.l1 k xs (i : Int) (a : Int)) r ∧ Good3 xs r a b := by
  have run : ∀ (d k0 : Nat) (ys : List S50), i - 1 - k0 = d → a ≤ k0 → k0 ≤ i - 1 → Alike xs ys → Outs xs ys a b → (∀ p, el ys p = if a ≤ p ∧ p < k0 then el xs (p + 1) else if p = k0 then el xs a else el xs p) → ∃ r, Ev (fun k => impl_Deep_78.l1 k ys (i : Int) (k0 : Int)) r ∧ Good3 xs r a b := by
    intro d
    induction d with
    | zero =>
      intro k0 ys hd h3 h4 hA hO hp
      obtain rfl : k0 = i - 1 := by omega
      refine ⟨ys, Ev.step (f := fun _ => some ys) (fun k => ?_) (Ev.now _), hA, hO, fun p q p1 p2 p3 => ?_⟩
      · rw [impl_Deep_78.l1, wsub1 i (by omega) (by omega), if_neg (by omega)]
      · rw [hp p, hp q]
        by_cases c1 : p < i - 1
        · rw [if_pos ⟨p1, c1⟩]
          by_cases c2 : q < i - 1
          · rw [if_pos (by omega)]; exact hs _ _ (by omega) (by omega) (by omega)
          · rw [if_neg (by omega)]
            by_cases c3 : q = i - 1
            · rw [if_pos c3]; have := h1 (p + 1) (by omega) (by omega); omega
            · rw [if_neg c3]; exact hs _ _ (by omega) (by omega) (by omega)
        · rw [if_neg (by omega), if_neg (show ¬ (a ≤ q ∧ q < i - 1) by omega), if_neg (show ¬ q = i - 1 by omega)]
          by_cases c3 : p = i - 1
          · rw [if_pos c3]; exact h2 q (by omega) p3
          · rw [if_neg c3]; exact hs _ _ (by omega) p2 p3
    | succ d ih =>
      intro k0 ys hd h3 h4 hA hO hp
      have hyl := hA.1
      have e1 : el ys k0 = el xs a := by rw [hp, if_neg (by omega), if_pos rfl]
      have e2 : el ys (k0 + 1) = el xs (k0 + 1) := by rw [hp, if_neg (by omega), if_neg (by omega)]
      obtain ⟨r, hr, hq⟩ := ih (k0 + 1) (swp ys k0) (by omega) (by omega) (by omega) (hA.trans (swp_alike ys k0 (by omega) (by rw [e1, e2]; exact h1 _ (by omega) (by omega)))) (hO.trans (swp_outs ys k0 a b (by omega) h3 (by omega))) (fun p => by
        rw [swp_el ys k0 p (by omega), e1, e2]
        by_cases c1 : p = k0 + 1
        · rw [if_pos c1, if_neg (by omega), if_pos c1]
        · rw [if_neg c1]
          by_cases c2 : p = k0
          · subst c2; rw [if_pos rfl, if_pos (by omega)]
          · rw [if_neg c2, hp p, if_neg c2, if_neg c1]
            by_cases c3 : a ≤ p ∧ p < k0
            · rw [if_pos c3, if_pos (by omega)]
            · rw [if_neg c3, if_neg (by omega)])
      refine ⟨r, Ev.step (fun k => ?_) hr, hq⟩
      rw [impl_Deep_78.l1, wsub1 i (by omega) (by omega), if_pos (by omega), wadd1 k0 (by omega), if_pos (by omega), if_pos (by omega), if_pos (by omega), if_pos (by omega), Int.toNat_natCast, Int.toNat_natCast]
      rfl
  exact run (i - 1 - a) a xs rfl (Nat.le_refl _) (by omega) (Alike.refl _) (Outs.refl _ _ _) (fun p => by
    rw [if_neg (by omega)]
    by_cases c : p = a
    · rw [if_pos c, c]
    · rw [if_neg c])

theorem sm_l3 (xs : List S50) (a m i : Nat) (ha : a ≤ i) (hi : i ≤ m) (hb : m + 1 ≤ xs.length) (hl : xs.length ≤ 1000) (hs : Srt xs a m) (h1 : ∀ p, a ≤ p → p < i → (el xs p).f0 ≤ (el xs m).f0) (h2 : ∀ p, i ≤ p → p < m → (el xs m).f0 < (el xs p).f0) :
    ∃ r, Ev (fun k => impl_Deep_78.l3 k xs (i : Int) (m : Int)) r ∧ Good3 xs r a (m + 1) := by
  have run : ∀ (d k0 : Nat) (ys : List S50), k0 - i = d → i ≤ k0 → k0 ≤ m → Alike xs ys → Outs xs ys a (m + 1) → (∀ p, el ys p = if k0 < p ∧ p ≤ m then el xs (p - 1) else if p = k0 then el xs m else el xs p) → ∃ r, Ev (fun k => impl_Deep_78.l3 k ys (i : Int) (k0 : Int)) r ∧ Good3 xs r a (m + 1) := by
    intro d
    induction d with
    | zero =>
      intro k0 ys hd h3 h4 hA hO hp
      obtain rfl : k0 = i := by omega
      refine ⟨ys, Ev.step (f := fun _ => some ys) (fun k => ?_) (Ev.now _), hA, hO, fun p q p1 p2 p3 => ?_⟩
      · rw [impl_Deep_78.l3, if_neg (by omega)]
      · rw [hp p, hp q]
        by_cases c1 : p < k0
        · rw [if_neg (show ¬ (k0 < p ∧ p ≤ m) by omega), if_neg (show ¬ p = k0 by omega)]
          by_cases c2 : q < k0
          · rw [if_neg (by omega), if_neg (by omega)]; exact hs _ _ (by omega) (by omega) (by omega)
          · by_cases c3 : q = k0
            · rw [if_neg (by omega), if_pos c3]; exact h1 p p1 c1
            · rw [if_pos (by omega)]; exact hs _ _ (by omega) (by omega) (by omega)
        · rw [if_pos (show k0 < q ∧ q ≤ m by omega)]
          by_cases c3 : p = k0
          · rw [if_neg (by omega), if_pos c3]; have := h2 (q - 1) (by omega) (by omega); omega
          · rw [if_pos (by omega)]; exact hs _ _ (by omega) (by omega) (by omega)
    | succ d ih =>
      intro k0 ys hd h3 h4 hA hO hp
      have hyl := hA.1
      obtain ⟨k0, rfl⟩ : ∃ n, k0 = n + 1 := ⟨k0 - 1, by omega⟩
      have e1 : el ys (k0 + 1) = el xs m := by rw [hp, if_neg (by omega), if_pos rfl]
      have e2 : el ys k0 = el xs k0 := by rw [hp, if_neg (by omega), if_neg (by omega)]
      obtain ⟨r, hr, hq⟩ := ih k0 (swp ys k0) (by omega) (by omega) (by omega) (hA.trans (swp_alike ys k0 (by omega) (by rw [e1, e2]; exact h2 _ (by omega) (by omega)))) (hO.trans (swp_outs ys k0 a (m + 1) (by omega) (by omega) (by omega))) (fun p => by
        rw [swp_el ys k0 p (by omega), e1, e2]
        by_cases c1 : p = k0 + 1
        · subst c1; rw [if_pos rfl, if_pos (by omega), Nat.add_sub_cancel]
        · rw [if_neg c1]
          by_cases c2 : p = k0
          · rw [if_pos c2, if_neg (by omega), if_pos c2]
          · rw [if_neg c2, hp p, if_neg c2, if_neg c1]
            by_cases c3 : k0 + 1 < p ∧ p ≤ m
            · rw [if_pos c3, if_pos (by omega)]
            · rw [if_neg c3, if_neg (by omega)])
      refine ⟨r, Ev.step (fun k => ?_) hr, hq⟩
      rw [impl_Deep_78.l3, if_pos (by omega), wsub1 (k0 + 1) (by omega) (by omega), Nat.add_sub_cancel, if_pos (by omega), if_pos (by omega), if_pos (by omega), if_pos (by omega), Int.toNat_natCast, Int.toNat_natCast]
      exact congrArg (fun z => impl_Deep_78.l3 k z (i : Int) (k0 : Int)) (swp_comm ys k0)
  exact run (m - i) m xs rfl hi (Nat.le_refl _) (Alike.refl _) (Outs.refl _ _ _) (fun p => by
    rw [if_neg (by omega)]
    by_cases c : p = m
    · rw [if_pos c, c]
    · rw [if_neg c])

theorem sm_l0 (xs : List S50) (a b : Nat) (hb : b ≤ xs.length) (hl : xs.length ≤ 1000) (hs : Srt xs (a + 1) b) : ∀ (d i j : Nat), j - i ≤ d → a + 1 ≤ i → i ≤ j → j ≤ b → (∀ p, a + 1 ≤ p → p < i → (el xs p).f0 < (el xs a).f0) → (∀ p, j ≤ p → p < b → (el xs a).f0 ≤ (el xs p).f0) →
    ∃ r, Ev (fun k => impl_Deep_78.l0 k xs (a : Int) fv63 (i : Int) (j : Int)) r ∧ Good3 xs r a b := by
  intro d
  induction d with
  | zero =>
    intro i j hd h1 h2 h3 hi hj
    obtain rfl : i = j := by omega
    obtain ⟨r, hr, hq⟩ := sm_l1 xs a b i h1 h3 hb hl hs hi hj
    refine ⟨r, Ev.step (fun k => ?_) hr, hq⟩
    rw [impl_Deep_78.l0, if_neg (by omega)]
  | succ d ih =>
    intro i j hd h1 h2 h3 hi hj
    by_cases c : i < j
    case neg =>
      obtain rfl : i = j := by omega
      obtain ⟨r, hr, hq⟩ := sm_l1 xs a b i h1 h3 hb hl hs hi hj
      refine ⟨r, Ev.step (fun k => ?_) hr, hq⟩
      rw [impl_Deep_78.l0, if_neg (by omega)]
    obtain ⟨h, hdef⟩ : ∃ h, h = (i + j) / 2 := ⟨_, rfl⟩
    obtain ⟨t, ht, hlt⟩ := cmp63 (el xs h) (el xs a)
    by_cases c2 : t < 0
    · have hk := hlt.1 c2
      obtain ⟨r, hr, hq⟩ := ih (h + 1) j (by omega) (by omega) (by omega) h3 (fun p p1 p2 => by
        by_cases e : p = h
        · rw [e]; exact hk
        · have := hs p h p1 (by omega) (by omega); omega) hj
      refine ⟨r, Ev.step (fun k => ?_) hr, hq⟩
      rw [impl_Deep_78.l0, if_pos (by omega), hf i j (by omega), ← hdef, if_pos (by omega), if_pos (by omega), if_pos (by omega), if_pos (by omega), ht, Option.bind_some, if_pos c2, wadd1 h (by omega)]
    · have hk : ¬ (el xs h).f0 < (el xs a).f0 := fun e => c2 (hlt.2 e)
      obtain ⟨r, hr, hq⟩ := ih i h (by omega) h1 (by omega) (by omega) hi (fun p p1 p2 => by
        by_cases e : p = h
        · rw [e]; omega
        · have := hs h p (by omega) (by omega) p2; omega)
      refine ⟨r, Ev.step (fun k => ?_) hr, hq⟩
      rw [impl_Deep_78.l0, if_pos (by omega), hf i j (by omega), ← hdef, if_pos (by omega), if_pos (by omega), if_pos (by omega), if_pos (by omega), ht, Option.bind_some, if_neg c2]

theorem sm_l2 (xs : List S50) (a m : Nat) (hb : m + 1 ≤ xs.length) (hl : xs.length ≤ 1000) (hs : Srt xs a m) : ∀ (d i j : Nat), j - i ≤ d → a ≤ i → i ≤ j → j ≤ m → (∀ p, a ≤ p → p < i → (el xs p).f0 ≤ (el xs m).f0) → (∀ p, j ≤ p → p < m → (el xs m).f0 < (el xs p).f0) →
    ∃ r, Ev (fun k => impl_Deep_78.l2 k xs (m : Int) fv63 (i : Int) (j : Int)) r ∧ Good3 xs r a (m + 1) := by
  intro d
  induction d with
  | zero =>
    intro i j hd h1 h2 h3 hi hj
    obtain rfl : i = j := by omega
    obtain ⟨r, hr, hq⟩ := sm_l3 xs a m i h1 h3 hb hl hs hi hj
    refine ⟨r, Ev.step (fun k => ?_) hr, hq⟩
    rw [impl_Deep_78.l2, if_neg (by omega)]
  | succ d ih =>
    intro i j hd h1 h2 h3 hi hj
    by_cases c : i < j
    case neg =>
      obtain rfl : i = j := by omega
      obtain ⟨r, hr, hq⟩ := sm_l3 xs a m i h1 h3 hb hl hs hi hj
      refine ⟨r, Ev.step (fun k => ?_) hr, hq⟩
      rw [impl_Deep_78.l2, if_neg (by omega)]
    obtain ⟨h, hdef⟩ : ∃ h, h = (i + j) / 2 := ⟨_, rfl⟩
    obtain ⟨t, ht, hlt⟩ := cmp63 (el xs m) (el xs h)
    by_cases c2 : t < 0
    · have hk := hlt.1 c2
      obtain ⟨r, hr, hq⟩ := ih i h (by omega) h1 (by omega) (by omega) hi (fun p p1 p2 => by
        by_cases e : p = h
        · rw [e]; exact hk
        · have := hs h p (by omega) (by omega) p2; omega)
      refine ⟨r, Ev.step (fun k => ?_) hr, hq⟩
      rw [impl_Deep_78.l2, if_pos (by omega), hf i j (by omega), ← hdef, if_pos (by omega), if_pos (by omega), if_pos (by omega), if_pos (by omega), ht, Option.bind_some, if_pos c2]
    · have hk : ¬ (el xs m).f0 < (el xs h).f0 := fun e => c2 (hlt.2 e)
      obtain ⟨r, hr, hq⟩ := ih (h + 1) j (by omega) (by omega) (by omega) h3 (fun p p1 p2 => by
        by_cases e : p = h
        · rw [e]; omega
        · have := hs p h p1 (by omega) (by omega); omega) hj
      refine ⟨r, Ev.step (fun k => ?_) hr, hq⟩
      rw [impl_Deep_78.l2, if_pos (by omega), hf i j (by omega), ← hdef, if_pos (by omega), if_pos (by omega), if_pos (by omega), if_pos (by omega), ht, Option.bind_some, if_neg c2, wadd1 h (by omega)]

theorem Srt.shrink {xs : List S50} {a b a' b' : Nat} (h : Srt xs a b) (ha : a ≤ a') (hb : b' ≤ b) : Srt xs a' b' := fun p q h1 h2 h3 => h p q (by omega) h2 (by omega)
theorem Srt.outs {xs ys : List S50} {a b c d : Nat} (h : Srt xs c d) (hO : Outs xs ys a b) (hd : d ≤ a ∨ b ≤ c) : Srt ys c d := fun p q h1 h2 h3 => by
  rw [hO p (by omega), hO q (by omega)]
  exact h p q h1 h2 h3

/-- The two halves, each merged of its own. -/
theorem sm_fin (a mid b start en : Nat) (xs : List S50) (hl : xs.length ≤ 1000) (hb : b ≤ xs.length) (h1 : a ≤ start) (h2 : start ≤ mid) (h3 : mid ≤ en) (h4 : en ≤ b) (ham : a < mid) (hmb : mid < b)
    (s1 : Srt xs a start) (s2 : Srt xs start mid) (s3 : Srt xs mid en) (s4 : Srt xs en b) (hx : ∀ p q, a ≤ p → p < mid → mid ≤ q → q < b → (el xs p).f0 ≤ (el xs q).f0)
    (ih : ∀ (a' m' b' : Nat) (zs : List S50), b' - a' < b - a → a' < m' → m' < b' → b' ≤ zs.length → zs.length ≤ 1000 → Srt zs a' m' → Srt zs m' b' → ∃ r, Ev (fun k => impl_Deep_78.f k zs (a' : Int) (m' : Int) (b' : Int) fv63) r ∧ Good3 zs r a' b') :
    ∃ r, Ev (fun k => impl_Deep_78.j7 k xs (a : Int) (b : Int) fv63 (mid : Int) (start : Int) (en : Int)) r ∧ Good3 xs r a b := by
  -- the left half
  have left : ∃ ys, Good3 xs ys a mid ∧ ((a < start ∧ start < mid → Ev (fun k => impl_Deep_78.f k xs (a : Int) (start : Int) (mid : Int) fv63) ys) ∧ (¬ (a < start ∧ start < mid) → ys = xs)) := by
    by_cases c : a < start ∧ start < mid
    · obtain ⟨r, hr, hq⟩ := ih a start mid xs (by omega) c.1 c.2 (by omega) hl s1 s2
      exact ⟨r, hq, fun _ => hr, fun h => absurd c h⟩
    · refine ⟨xs, ⟨Alike.refl _, Outs.refl _ _ _, ?_⟩, fun h => absurd h c, fun _ => rfl⟩
      by_cases c2 : a < start
      · obtain rfl : start = mid := by omega
        exact s1
      · obtain rfl : start = a := by omega
        exact s2
  obtain ⟨ys, ⟨yA, yO, yS⟩, y1, y2⟩ := left
  have hyl := yA.1
  have right : ∃ zs, Good3 ys zs mid b ∧ ((mid < en ∧ en < b → Ev (fun k => impl_Deep_78.f k ys (mid : Int) (en : Int) (b : Int) fv63) zs) ∧ (¬ (mid < en ∧ en < b) → zs = ys)) := by
    by_cases c : mid < en ∧ en < b
    · obtain ⟨r, hr, hq⟩ := ih mid en b ys (by omega) c.1 c.2 (by omega) (by omega) (s3.outs yO (.inr (Nat.le_refl _))) (s4.outs yO (.inr (by omega)))
      exact ⟨r, hq, fun _ => hr, fun h => absurd c h⟩
    · refine ⟨ys, ⟨Alike.refl _, Outs.refl _ _ _, ?_⟩, fun h => absurd h c, fun _ => rfl⟩
      by_cases c2 : mid < en
      · obtain rfl : en = b := by omega
        exact s3.outs yO (.inr (Nat.le_refl _))
      · obtain rfl : en = mid := by omega
        exact s4.outs yO (.inr (Nat.le_refl _))
  obtain ⟨zs, ⟨zA, zO, zS⟩, z1, z2⟩ := right
  refine ⟨zs, ?_, yA.trans zA, (yO.wide (Nat.le_refl _) (by omega)).trans (zO.wide (by omega) (Nat.le_refl _)), fun p q p1 p2 p3 => ?_⟩
  · by_cases c1 : a < start ∧ start < mid
    · have e1 := y1 c1
      by_cases c2 : mid < en ∧ en < b
      · have e2 := z1 c2
        refine Ev.step (f := fun k => impl_Deep_78.j8 k xs (a : Int) (b : Int) fv63 (mid : Int) (start : Int) (en : Int) true) (fun k => ?_) (Ev.step (fun k => ?_) (Ev.bind (f := fun n z => (impl_Deep_78.f n z (mid : Int) (en : Int) (b : Int) fv63).bind fun t => some t) e1 (Ev.bind e2 (Ev.now zs))))
        · rw [impl_Deep_78.j7, if_pos (by omega), decide_eq_true (by omega)]
        · rw [impl_Deep_78.j8, if_pos rfl]
          congr 1
          funext t
          rw [if_pos (by omega), if_pos (by omega)]
      · obtain rfl := z2 c2
        refine Ev.step (f := fun k => impl_Deep_78.j8 k xs (a : Int) (b : Int) fv63 (mid : Int) (start : Int) (en : Int) true) (fun k => ?_) (Ev.step (fun k => ?_) (Ev.bind (f := fun n z => some z) e1 (Ev.now zs)))
        · rw [impl_Deep_78.j7, if_pos (by omega), decide_eq_true (by omega)]
        · rw [impl_Deep_78.j8, if_pos rfl]
          congr 1
          funext t
          by_cases c3 : mid < en
          · rw [if_pos (by omega), if_neg (by omega)]
          · rw [if_neg (by omega)]
    · obtain rfl := y2 c1
      have hj7 : ∀ k, impl_Deep_78.j7 (k + 1) ys (a : Int) (b : Int) fv63 (mid : Int) (start : Int) (en : Int) = impl_Deep_78.j8 k ys (a : Int) (b : Int) fv63 (mid : Int) (start : Int) (en : Int) false := fun k => by
        rw [impl_Deep_78.j7]
        by_cases c3 : a < start
        · rw [if_pos (by omega), decide_eq_false (by omega)]
        · rw [if_neg (by omega)]
      by_cases c2 : mid < en ∧ en < b
      · have e2 := z1 c2
        refine Ev.step hj7 (Ev.step (fun k => ?_) (Ev.bind e2 (Ev.now zs)))
        rw [impl_Deep_78.j8, if_neg (by simp), if_pos (by omega), if_pos (by omega)]
      · obtain rfl := z2 c2
        refine Ev.step hj7 (Ev.step (f := fun _ => some zs) (fun k => ?_) (Ev.now zs))
        rw [impl_Deep_78.j8, if_neg (by simp)]
        by_cases c3 : mid < en
        · rw [if_pos (by omega), if_neg (by omega)]
        · rw [if_neg (by omega)]
  · by_cases c1 : q < mid
    · rw [zO p (by omega), zO q (by omega)]
      exact yS p q p1 p2 c1
    · by_cases c2 : mid ≤ p
      · exact zS p q c2 p2 p3
      · rw [zO p (by omega)]
        obtain ⟨p', u1, u2, u3⟩ := range_key xs ys a mid (by omega) (by omega) yA yO p p1 (by omega)
        obtain ⟨q', v1, v2, v3⟩ := range_key ys zs mid b (by omega) (by omega) zA zO q (by omega) p3
        rw [u3, v3, yO q' (by omega)]
        exact hx p' q' u1 u2 v1 v2

/-- The place where the halves part, and what is done with it. -/
theorem sm_l4 (a m b mid : Nat) (xs : List S50) (hl : xs.length ≤ 1000) (hb : b ≤ xs.length) (ham : a < m) (hmb : m < b) (hmid : mid = (a + b) / 2) (lo0 hi0 : Nat)
    (hlo : (mid < m ∧ lo0 = mid + m - b ∧ hi0 = mid) ∨ (m ≤ mid ∧ lo0 = a ∧ hi0 = m)) (sU : Srt xs a m) (sV : Srt xs m b)
    (ih : ∀ (a' m' b' : Nat) (zs : List S50), b' - a' < b - a → a' < m' → m' < b' → b' ≤ zs.length → zs.length ≤ 1000 → Srt zs a' m' → Srt zs m' b' → ∃ r, Ev (fun k => impl_Deep_78.f k zs (a' : Int) (m' : Int) (b' : Int) fv63) r ∧ Good3 zs r a' b') :
    ∀ (d i j : Nat), j - i ≤ d → lo0 ≤ i → i ≤ j → j ≤ hi0 → (∀ c, lo0 ≤ c → c < i → (el xs c).f0 ≤ (el xs (mid + m - 1 - c)).f0) → (∀ c, j ≤ c → c < hi0 → (el xs (mid + m - 1 - c)).f0 < (el xs c).f0) →
      ∃ r, Ev (fun k => impl_Deep_78.l4 k xs (a : Int) (m : Int) (b : Int) fv63 (mid : Int) ((mid + m : Nat) : Int) (i : Int) (j : Int) ((mid + m - 1 : Nat) : Int)) r ∧ Good3 xs r a b := by
  have stop : ∀ i : Nat, lo0 ≤ i → i ≤ hi0 → (∀ c, lo0 ≤ c → c < i → (el xs c).f0 ≤ (el xs (mid + m - 1 - c)).f0) → (∀ c, i ≤ c → c < hi0 → (el xs (mid + m - 1 - c)).f0 < (el xs c).f0) →
      ∃ r, Ev (fun k => impl_Deep_78.l4 k xs (a : Int) (m : Int) (b : Int) fv63 (mid : Int) ((mid + m : Nat) : Int) (i : Int) (i : Int) ((mid + m - 1 : Nat) : Int)) r ∧ Good3 xs r a b := by
    intro i i1 i2 q1 q2
    obtain ⟨en, hen⟩ : ∃ en, en = mid + m - i := ⟨_, rfl⟩
    have b1 : a ≤ i := by omega
    have b2 : i ≤ mid := by omega
    have b3 : i ≤ m := by omega
    have b4 : m ≤ en := by omega
    have b5 : en ≤ b := by omega
    have b6 : mid ≤ en := by omega
    -- what stands there behind the rotation, if there is one
    have turned : ∃ ys, Alike xs ys ∧ ys.length = xs.length ∧ (∀ p, el ys p = el xs (rix i m en p)) ∧ ((i < m ∧ m < en → Ev (fun k => impl_Deep_81.f k xs (i : Int) (m : Int) (en : Int) fv63) ys) ∧ (¬ (i < m ∧ m < en) → ys = xs)) := by
      by_cases c : i < m ∧ m < en
      · obtain ⟨ys, e1, e2, e3⟩ := rot_ok i m en xs fv63 c.1 c.2 (by omega) hl
        refine ⟨ys, rot_alike i m en xs ys b3 b4 (by omega) e2 e3 (fun p q p1 p2 p3 p4 => ?_), e2, e3, fun _ => e1, fun h => absurd c h⟩
        have hc := q2 i (Nat.le_refl _) (by omega)
        rw [show mid + m - 1 - i = en - 1 by omega] at hc
        have h5 : (el xs i).f0 ≤ (el xs p).f0 := by
          by_cases e : p = i
          · rw [e]; exact Int.le_refl _
          · exact sU i p b1 (by omega) p2
        have h6 : (el xs q).f0 ≤ (el xs (en - 1)).f0 := by
          by_cases e : q = en - 1
          · rw [e]; exact Int.le_refl _
          · exact sV q (en - 1) p3 (by omega) (by omega)
        omega
      · refine ⟨xs, Alike.refl _, rfl, fun p => ?_, fun h => absurd h c, fun _ => rfl⟩
        have : rix i m en p = p := by
          unfold rix
          by_cases c1 : i ≤ p ∧ p < i + (en - m)
          · rw [if_pos c1]; omega
          · rw [if_neg c1]
            by_cases c2 : i + (en - m) ≤ p ∧ p < en
            · rw [if_pos c2]; omega
            · rw [if_neg c2]
        rw [this]
    obtain ⟨ys, tA, tl, tp, t1, t2⟩ := turned
    have r1 : ∀ p, p < i → rix i m en p = p := fun p h => by unfold rix; rw [if_neg (by omega), if_neg (by omega)]
    have r2 : ∀ p, i ≤ p → p < mid → rix i m en p = p + (m - i) := fun p h h2 => by unfold rix; rw [if_pos (by omega)]
    have r3 : ∀ p, mid ≤ p → p < en → rix i m en p = p - (en - m) := fun p h h2 => by unfold rix; rw [if_neg (by omega), if_pos (by omega)]
    have r4 : ∀ p, en ≤ p → rix i m en p = p := fun p h => by unfold rix; rw [if_neg (by omega), if_neg (by omega)]
    have tO : Outs xs ys a b := fun p hp => by
      rw [tp]
      by_cases c : p < i
      · rw [r1 p c]
      · rw [r4 p (by omega)]
    -- the first of v2 is no less than the last of u1
    have g1 : a < i → en < b → (el xs (i - 1)).f0 ≤ (el xs en).f0 := fun c1 c2 => by
      have h5 := q1 (i - 1) (by omega) (by omega)
      rw [show mid + m - 1 - (i - 1) = en by omega] at h5
      exact h5
    have g2 : i < m → m < en → (el xs (en - 1)).f0 < (el xs i).f0 := fun c1 c2 => by
      have h5 := q2 i (Nat.le_refl _) (by omega)
      rw [show mid + m - 1 - i = en - 1 by omega] at h5
      exact h5
    have leU : ∀ p q, a ≤ p → p ≤ q → q < m → (el xs p).f0 ≤ (el xs q).f0 := fun p q h1 h2 h3 => by
      by_cases e : p = q
      · rw [e]; exact Int.le_refl _
      · exact sU p q h1 (by omega) h3
    have leV : ∀ p q, m ≤ p → p ≤ q → q < b → (el xs p).f0 ≤ (el xs q).f0 := fun p q h1 h2 h3 => by
      by_cases e : p = q
      · rw [e]; exact Int.le_refl _
      · exact sV p q h1 (by omega) h3
    obtain ⟨r, hr, hA, hO, hS⟩ := sm_fin a mid b i en ys (by omega) (by omega) b1 b2 b6 b5 (by omega) (by omega)
      (fun p q h1 h2 h3 => by rw [tp, tp, r1 p (by omega), r1 q h3]; exact sU p q h1 h2 (by omega))
      (fun p q h1 h2 h3 => by rw [tp, tp, r2 p h1 (by omega), r2 q (by omega) h3]; exact sV _ _ (by omega) (by omega) (by omega))
      (fun p q h1 h2 h3 => by rw [tp, tp, r3 p h1 (by omega), r3 q (by omega) h3]; exact sU _ _ (by omega) (by omega) (by omega))
      (fun p q h1 h2 h3 => by rw [tp, tp, r4 p h1, r4 q (by omega)]; exact sV p q (by omega) h2 h3)
      (fun p q h1 h2 h3 h4 => by
        rw [tp, tp]
        by_cases c1 : p < i
        · rw [r1 p c1]
          by_cases c2 : q < en
          · rw [r3 q h3 c2]; exact leU _ _ h1 (by omega) (by omega)
          · rw [r4 q (by omega)]
            have h5 := leU p (i - 1) h1 (by omega) (by omega)
            have h6 := g1 (by omega) (by omega)
            have h7 := leV en q b4 (by omega) h4
            omega
        · rw [r2 p (by omega) h2]
          by_cases c2 : q < en
          · rw [r3 q h3 c2]
            have h5 := leV (p + (m - i)) (en - 1) (by omega) (by omega) (by omega)
            have h6 := g2 (by omega) (by omega)
            have h7 := leU i (q - (en - m)) b1 (by omega) (by omega)
            omega
          · rw [r4 q (by omega)]; exact leV _ _ (by omega) (by omega) h4) ih
    refine ⟨r, ?_, tA.trans hA, tO.trans hO, hS⟩
    by_cases c : i < m ∧ m < en
    · refine Ev.step (f := fun k => impl_Deep_78.j6 k xs (a : Int) (m : Int) (b : Int) fv63 (mid : Int) (i : Int) (en : Int) true) (fun k => ?_) (Ev.step (fun k => ?_) (Ev.bind (f := fun n z => impl_Deep_78.j7 n z (a : Int) (b : Int) fv63 (mid : Int) (i : Int) (en : Int)) (t1 c) hr))
      · rw [impl_Deep_78.l4, if_neg (by omega), if_pos (by omega), wsub (mid + m) i (by omega) (by omega), ← hen, decide_eq_true (by omega)]
      · rw [impl_Deep_78.j6, if_pos rfl]
    · have hxy := t2 c
      rw [hxy] at hr
      refine Ev.step (f := fun k => impl_Deep_78.j6 k xs (a : Int) (m : Int) (b : Int) fv63 (mid : Int) (i : Int) (en : Int) false) (fun k => ?_) (Ev.step (fun k => ?_) hr)
      · rw [impl_Deep_78.l4, if_neg (by omega), wsub (mid + m) i (by omega) (by omega), ← hen]
        by_cases c3 : i < m
        · rw [if_pos (by omega), decide_eq_false (by omega)]
        · rw [if_neg (by omega)]
      · rw [impl_Deep_78.j6, if_neg (by simp)]
  intro d
  induction d with
  | zero =>
    intro i j hd h1 h2 h3 q1 q2
    obtain rfl : i = j := by omega
    exact stop i h1 h3 q1 q2
  | succ d ihd =>
    intro i j hd h1 h2 h3 q1 q2
    by_cases c : i < j
    case neg =>
      obtain rfl : i = j := by omega
      exact stop i h1 h3 q1 q2
    obtain ⟨h, hdef⟩ : ∃ h, h = (i + j) / 2 := ⟨_, rfl⟩
    obtain ⟨e, hed⟩ : ∃ e, e = mid + m - 1 - h := ⟨_, rfl⟩
    have ha : a ≤ h := by omega
    have hm : h < m := by omega
    have he1 : m ≤ e := by omega
    have he2 : e < b := by omega
    obtain ⟨t, ht, hlt⟩ := cmp63 (el xs e) (el xs h)
    by_cases c2 : t < 0
    · have hk := hlt.1 c2
      obtain ⟨r, hr, hq⟩ := ihd i h (by omega) h1 (by omega) (by omega) q1 (fun c c1 c2 => by
        have h5 : (el xs h).f0 ≤ (el xs c).f0 := by
          by_cases e0 : c = h
          · rw [e0]; exact Int.le_refl _
          · exact sU h c ha (by omega) (by omega)
        have h6 : (el xs (mid + m - 1 - c)).f0 ≤ (el xs e).f0 := by
          by_cases e0 : c = h
          · rw [e0, ← hed]; exact Int.le_refl _
          · exact sV _ e (by omega) (by omega) he2
        omega)
      refine ⟨r, Ev.step (fun k => ?_) hr, hq⟩
      rw [impl_Deep_78.l4, if_pos (by omega), hf i j (by omega), ← hdef, wsub (mid + m - 1) h (by omega) (by omega), ← hed, if_pos (by omega), if_pos (by omega), if_pos (by omega), if_pos (by omega), ht, Option.bind_some, if_pos c2]
    · have hk : ¬ (el xs e).f0 < (el xs h).f0 := fun h => c2 (hlt.2 h)
      obtain ⟨r, hr, hq⟩ := ihd (h + 1) j (by omega) (by omega) (by omega) h3 (fun c c1 c2 => by
        have h5 : (el xs c).f0 ≤ (el xs h).f0 := by
          by_cases e0 : c = h
          · rw [e0]; exact Int.le_refl _
          · exact sU c h (by omega) (by omega) hm
        have h6 : (el xs e).f0 ≤ (el xs (mid + m - 1 - c)).f0 := by
          by_cases e0 : c = h
          · rw [e0, ← hed]; exact Int.le_refl _
          · exact sV e _ he1 (by omega) (by omega)
        omega) q2
      refine ⟨r, Ev.step (fun k => ?_) hr, hq⟩
      rw [impl_Deep_78.l4, if_pos (by omega), hf i j (by omega), ← hdef, wsub (mid + m - 1) h (by omega) (by omega), ← hed, if_pos (by omega), if_pos (by omega), if_pos (by omega), if_pos (by omega), ht, Option.bind_some, if_neg c2, wadd1 h (by omega)]

/-- The merge of two neighbouring blocks. -/
theorem sm_ok : ∀ (d a m b : Nat) (xs : List S50), b - a ≤ d → a < m → m < b → b ≤ xs.length → xs.length ≤ 1000 → Srt xs a m → Srt xs m b → ∃ r, Ev (fun k => impl_Deep_78.f k xs (a : Int) (m : Int) (b : Int) fv63) r ∧ Good3 xs r a b := by
  intro d
  induction d with
  | zero => intro a m b xs h; omega
  | succ d ih =>
    intro a m b xs hd h1 h2 h3 hl sU sV
    by_cases c1 : m - a = 1
    · obtain rfl : m = a + 1 := by omega
      obtain ⟨r, hr, hq⟩ := sm_l0 xs a b h3 hl sV (b - (a + 1)) (a + 1) b (Nat.le_refl _) (Nat.le_refl _) (by omega) (Nat.le_refl _) (fun p p1 p2 => by omega) (fun p p1 p2 => by omega)
      refine ⟨r, Ev.step (fun k => ?_) hr, hq⟩
      rw [impl_Deep_78.f, wsub (a + 1) a (by omega) (by omega), if_pos (by omega)]
    by_cases c2 : b - m = 1
    · obtain rfl : b = m + 1 := by omega
      obtain ⟨r, hr, hq⟩ := sm_l2 xs a m h3 hl sU (m - a) a m (Nat.le_refl _) (Nat.le_refl _) (by omega) (Nat.le_refl _) (fun p p1 p2 => by omega) (fun p p1 p2 => by omega)
      refine ⟨r, Ev.step (fun k => ?_) hr, hq⟩
      rw [impl_Deep_78.f, wsub m a (by omega) (by omega), if_neg (by omega), wsub (m + 1) m (by omega) (by omega), if_pos (by omega)]
    obtain ⟨mid, hmid⟩ : ∃ mid, mid = (a + b) / 2 := ⟨_, rfl⟩
    have ih' : ∀ (a' m' b' : Nat) (zs : List S50), b' - a' < b - a → a' < m' → m' < b' → b' ≤ zs.length → zs.length ≤ 1000 → Srt zs a' m' → Srt zs m' b' → ∃ r, Ev (fun k => impl_Deep_78.f k zs (a' : Int) (m' : Int) (b' : Int) fv63) r ∧ Good3 zs r a' b' := fun a' m' b' zs g0 g1 g2 g3 g4 g5 g6 => ih a' m' b' zs (by omega) g1 g2 g3 g4 g5 g6
    by_cases c3 : mid < m
    · obtain ⟨r, hr, hq⟩ := sm_l4 a m b mid xs hl h3 h1 h2 hmid (mid + m - b) mid (.inl ⟨c3, rfl, rfl⟩) sU sV ih' (mid - (mid + m - b)) (mid + m - b) mid (Nat.le_refl _) (Nat.le_refl _) (by omega) (Nat.le_refl _) (fun p p1 p2 => by omega) (fun p p1 p2 => by omega)
      refine ⟨r, Ev.step (f := fun k => impl_Deep_78.j4 k xs (a : Int) (m : Int) (b : Int) fv63 (mid : Int) ((mid + m : Nat) : Int) ((mid + m - b : Nat) : Int) (mid : Int)) (fun k => ?_) (Ev.step (fun k => ?_) hr), hq⟩
      · rw [impl_Deep_78.f, wsub m a (by omega) (by omega), if_neg (by omega), wsub b m (by omega) (by omega), if_neg (by omega), hf a b (by omega), ← hmid, if_pos (by omega), wadd mid m (by omega), wsub (mid + m) b (by omega) (by omega)]
      · rw [impl_Deep_78.j4, wsub1 (mid + m) (by omega) (by omega)]
    · obtain ⟨r, hr, hq⟩ := sm_l4 a m b mid xs hl h3 h1 h2 hmid a m (.inr ⟨by omega, rfl, rfl⟩) sU sV ih' (m - a) a m (Nat.le_refl _) (Nat.le_refl _) (by omega) (Nat.le_refl _) (fun p p1 p2 => by omega) (fun p p1 p2 => by omega)
      refine ⟨r, Ev.step (f := fun k => impl_Deep_78.j4 k xs (a : Int) (m : Int) (b : Int) fv63 (mid : Int) ((mid + m : Nat) : Int) (a : Int) (m : Int)) (fun k => ?_) (Ev.step (fun k => ?_) hr), hq⟩
      · rw [impl_Deep_78.f, wsub m a (by omega) (by omega), if_neg (by omega), wsub b m (by omega) (by omega), if_neg (by omega), hf a b (by omega), ← hmid, if_neg (by omega), wadd mid m (by omega)]
      · rw [impl_Deep_78.j4, wsub1 (mid + m) (by omega) (by omega)]

/-- Each block of so many samples is in order, from a place on. -/
def Blk (xs : List S50) (s lo n : Nat) : Prop := ∀ p q, lo ≤ p → p < q → q < n → p / s = q / s → (el xs p).f0 ≤ (el xs q).f0

/-- One round of merges: the blocks by twos. -/
theorem st_l2 (n : Nat) (xs0 : List S50) (hn : n ≤ xs0.length) (hl : xs0.length ≤ 1000) (s : Nat) (hs : s = 20 ∨ s = 40 ∨ s = 80 ∨ s = 160 ∨ s = 320 ∨ s = 640 ∨ s = 1280) (Q : List S50 → Prop)
    (next : ∀ ys, Alike xs0 ys → Blk ys (2 * s) 0 n → ∃ r, Ev (fun k => impl_Deep_72.l1 k ys (n : Int) fv63 ((2 * s : Nat) : Int)) r ∧ Q r) :
    ∀ (d a : Nat) (xs : List S50), n - a ≤ d → a % (2 * s) = 0 → a ≤ n → Alike xs0 xs → Blk xs (2 * s) 0 a → Blk xs s a n → ∃ r, Ev (fun k => impl_Deep_72.l2 k xs (n : Int) fv63 (s : Int) (a : Int) ((a + 2 * s : Nat) : Int)) r ∧ Q r := by
  intro d
  induction d with
  | zero =>
    intro a xs hd h0 ha hA hB1 hB2
    obtain rfl : a = n := by omega
    obtain ⟨r, hr, hq⟩ := next xs hA hB1
    refine ⟨r, Ev.step (fun k => ?_) hr, hq⟩
    rw [impl_Deep_72.l2, if_neg (by omega), wadd a s (by omega), if_neg (by omega), show (s : Int) * 2 = ((s * 2 : Nat) : Int) by omega, wnat (s * 2) (by omega), Nat.mul_comm]
  | succ d ih =>
    intro a xs hd h0 ha hA hB1 hB2
    have hxl := hA.1
    have s1 : Srt xs a (min (a + s) n) := fun p q h1 h2 h3 => hB2 p q h1 h2 (by omega) (by rcases hs with rfl | rfl | rfl | rfl | rfl | rfl | rfl <;> omega)
    have s2 : Srt xs (a + s) (min (a + 2 * s) n) := fun p q h1 h2 h3 => hB2 p q (by omega) h2 (by omega) (by rcases hs with rfl | rfl | rfl | rfl | rfl | rfl | rfl <;> omega)
    by_cases c : a + 2 * s ≤ n
    · rw [Nat.min_eq_left (by omega)] at s1
      rw [Nat.min_eq_left c] at s2
      obtain ⟨ys, hy, yA, yO, yS⟩ := sm_ok (2 * s) a (a + s) (a + 2 * s) xs (by omega) (by omega) (by omega) (by omega) (by omega) s1 s2
      obtain ⟨r, hr, hq⟩ := ih (a + 2 * s) ys (by omega) (by rcases hs with rfl | rfl | rfl | rfl | rfl | rfl | rfl <;> omega) c (hA.trans yA) (fun p q h1 h2 h3 h4 => by
        by_cases c1 : a ≤ p
        · exact yS p q c1 h2 h3
        · have hqa : q < a := by rcases hs with rfl | rfl | rfl | rfl | rfl | rfl | rfl <;> omega
          rw [yO p (by omega), yO q (by omega)]
          exact hB1 p q h1 h2 hqa h4) (fun p q h1 h2 h3 h4 => by
        rw [yO p (by omega), yO q (by omega)]
        exact hB2 p q (by omega) h2 h3 h4)
      refine ⟨r, Ev.step (fun k => ?_) (Ev.bind (f := fun k z => impl_Deep_72.l2 k z (n : Int) fv63 (s : Int) ((a + 2 * s : Nat) : Int) ((a + 2 * s + 2 * s : Nat) : Int)) hy hr), hq⟩
      rw [impl_Deep_72.l2, if_pos (by omega), wadd a s (by omega), show (2 : Int) * (s : Int) = ((2 * s : Nat) : Int) by omega, wnat (2 * s) (by omega), wadd (a + 2 * s) (2 * s) (by omega)]
    · by_cases c2 : a + s < n
      · rw [Nat.min_eq_left (by omega)] at s1
        rw [Nat.min_eq_right (by omega)] at s2
        obtain ⟨ys, hy, yA, yO, yS⟩ := sm_ok (2 * s) a (a + s) n xs (by omega) (by omega) (by omega) (by omega) (by omega) s1 s2
        obtain ⟨r, hr, hq⟩ := next ys (hA.trans yA) (fun p q h1 h2 h3 h4 => by
          by_cases c1 : a ≤ p
          · exact yS p q c1 h2 h3
          · have hqa : q < a := by rcases hs with rfl | rfl | rfl | rfl | rfl | rfl | rfl <;> omega
            rw [yO p (by omega), yO q (by omega)]
            exact hB1 p q h1 h2 hqa h4)
        refine ⟨r, Ev.step (fun k => ?_) (Ev.bind (f := fun k z => impl_Deep_72.l1 k z (n : Int) fv63 ((2 * s : Nat) : Int)) hy hr), hq⟩
        rw [impl_Deep_72.l2, if_neg (by omega), wadd a s (by omega), if_pos (by omega), show (s : Int) * 2 = ((2 * s : Nat) : Int) by omega, wnat (2 * s) (by omega)]
      · rw [Nat.min_eq_right (by omega)] at s1
        obtain ⟨r, hr, hq⟩ := next xs hA (fun p q h1 h2 h3 h4 => by
          by_cases c1 : a ≤ p
          · exact s1 p q c1 h2 h3
          · have hqa : q < a := by rcases hs with rfl | rfl | rfl | rfl | rfl | rfl | rfl <;> omega
            exact hB1 p q h1 h2 hqa h4)
        refine ⟨r, Ev.step (fun k => ?_) hr, hq⟩
        rw [impl_Deep_72.l2, if_neg (by omega), wadd a s (by omega), if_neg (by omega), show (s : Int) * 2 = ((2 * s : Nat) : Int) by omega, wnat (2 * s) (by omega)]

/-- All rounds of merges. -/
theorem st_l1 (n : Nat) (xs0 : List S50) (hn : n ≤ xs0.length) (hl : xs0.length ≤ 1000) : ∀ (d s : Nat) (xs : List S50), s * 2 ^ d = 1280 → (s = 20 ∨ s = 40 ∨ s = 80 ∨ s = 160 ∨ s = 320 ∨ s = 640 ∨ s = 1280) → Alike xs0 xs → Blk xs s 0 n →
    ∃ r, Ev (fun k => impl_Deep_72.l1 k xs (n : Int) fv63 (s : Int)) r ∧ Alike xs0 r ∧ Srt r 0 n := by
  intro d
  induction d with
  | zero =>
    intro s xs hd hs hA hB
    have h1280 : s = 1280 := by simpa using hd
    subst h1280
    refine ⟨xs, Ev.step (f := fun _ => some xs) (fun k => ?_) (Ev.now _), hA, fun p q h1 h2 h3 => hB p q h1 h2 h3 (by omega)⟩
    rw [impl_Deep_72.l1, if_neg (by omega)]
  | succ d ih =>
    intro s xs hd hs hA hB
    by_cases c : s < n
    · have hs2 : (2 * s = 20 ∨ 2 * s = 40 ∨ 2 * s = 80 ∨ 2 * s = 160 ∨ 2 * s = 320 ∨ 2 * s = 640 ∨ 2 * s = 1280) := by omega
      have hd2 : 2 * s * 2 ^ d = 1280 := by rw [Nat.pow_succ] at hd; rw [← hd]; rw [Nat.mul_comm 2 s, Nat.mul_assoc, Nat.mul_comm 2 (2 ^ d)]
      obtain ⟨r, hr, hq⟩ := st_l2 n xs0 hn hl s hs (fun r => Alike xs0 r ∧ Srt r 0 n) (fun ys yA yB => ih (2 * s) ys hd2 hs2 yA yB) n 0 xs (by omega) (Nat.zero_mod _) (Nat.zero_le _) hA (fun p q h1 h2 h3 => by omega) hB
      rw [Nat.zero_add] at hr
      refine ⟨r, Ev.step (fun k => ?_) hr, hq⟩
      rw [impl_Deep_72.l1, if_pos (by omega), show (2 : Int) * (s : Int) = ((2 * s : Nat) : Int) by omega, wnat (2 * s) (by omega)]
      rfl
    · refine ⟨xs, Ev.step (f := fun _ => some xs) (fun k => ?_) (Ev.now _), hA, fun p q h1 h2 h3 => hB p q h1 h2 h3 ?_⟩
      · rw [impl_Deep_72.l1, if_neg (by omega)]
      · rcases hs with rfl | rfl | rfl | rfl | rfl | rfl | rfl <;> omega

/-- The stable sort. -/
theorem st_ok (xs : List S50) (hl : xs.length ≤ 1000) : ∃ r, Ev (fun k => impl_Deep_72.f k xs (xs.length : Int) fv63) r ∧ Alike xs r ∧ Srt r 0 r.length := by
  obtain ⟨n, hn⟩ : ∃ n, n = xs.length := ⟨_, rfl⟩
  have run : ∀ (d a : Nat) (ys : List S50), n - a ≤ d → a % 20 = 0 → a ≤ n → Alike xs ys → Blk ys 20 0 a → ∃ r, Ev (fun k => impl_Deep_72.l0 k ys (n : Int) fv63 20 (a : Int) ((a + 20 : Nat) : Int)) r ∧ (Alike xs r ∧ Srt r 0 n) := by
    intro d
    induction d with
    | zero =>
      intro a ys hd h0 ha hA hB
      have hyl := hA.1
      obtain rfl : a = n := by omega
      obtain ⟨r, hr, hq⟩ := st_l1 a xs (by omega) hl 6 20 ys (by decide) (.inl rfl) hA hB
      have e77 : Ev (fun k => impl_Deep_77.f k ys (a : Int) (a : Int) fv63) ys := Ev.congr (fun k => by
        unfold impl_Deep_77.f
        rw [wadd1 a (by omega)]) (Ev.step (f := fun _ => some ys) (fun k => by rw [impl_Deep_77.l0, if_neg (by omega)]) (Ev.now ys))
      refine ⟨r, Ev.step (fun k => ?_) (Ev.bind (f := fun k z => impl_Deep_72.l1 k z (a : Int) fv63 20) e77 hr), hq⟩
      rw [impl_Deep_72.l0, if_neg (by omega)]
    | succ d ih =>
      intro a ys hd h0 ha hA hB
      have hyl := hA.1
      by_cases c : a + 20 ≤ n
      · obtain ⟨zs, hz, zA, zO, zS⟩ := ins_ok a (a + 20) ys (by omega) (by omega) (by omega)
        obtain ⟨r, hr, hq⟩ := ih (a + 20) zs (by omega) (by omega) c (hA.trans zA) (fun p q h1 h2 h3 h4 => by
          by_cases c1 : a ≤ p
          · exact zS p q c1 h2 h3
          · rw [zO p (by omega), zO q (by omega)]
            exact hB p q h1 h2 (by omega) h4)
        refine ⟨r, Ev.step (fun k => ?_) (Ev.bind (f := fun k z => impl_Deep_72.l0 k z (n : Int) fv63 20 ((a + 20 : Nat) : Int) ((a + 20 + 20 : Nat) : Int)) hz hr), hq⟩
        rw [impl_Deep_72.l0, if_pos (by omega), show ((a + 20 : Nat) : Int) + 20 = ((a + 20 + 20 : Nat) : Int) by omega, wnat (a + 20 + 20) (by omega)]
      · by_cases c2 : a < n
        · obtain ⟨zs, hz, zA, zO, zS⟩ := ins_ok a n ys c2 (by omega) (by omega)
          obtain ⟨r, hr, hq⟩ := st_l1 n xs (by omega) hl 6 20 zs (by decide) (.inl rfl) (hA.trans zA) (fun p q h1 h2 h3 h4 => by
            by_cases c1 : a ≤ p
            · exact zS p q c1 h2 h3
            · rw [zO p (by omega), zO q (by omega)]
              exact hB p q h1 h2 (by omega) h4)
          refine ⟨r, Ev.step (fun k => ?_) (Ev.bind (f := fun k z => impl_Deep_72.l1 k z (n : Int) fv63 20) hz hr), hq⟩
          rw [impl_Deep_72.l0, if_neg (by omega)]
        · obtain rfl : a = n := by omega
          obtain ⟨r, hr, hq⟩ := st_l1 a xs (by omega) hl 6 20 ys (by decide) (.inl rfl) hA hB
          have e77 : Ev (fun k => impl_Deep_77.f k ys (a : Int) (a : Int) fv63) ys := Ev.congr (fun k => by
            unfold impl_Deep_77.f
            rw [wadd1 a (by omega)]) (Ev.step (f := fun _ => some ys) (fun k => by rw [impl_Deep_77.l0, if_neg (by omega)]) (Ev.now ys))
          refine ⟨r, Ev.step (fun k => ?_) (Ev.bind (f := fun k z => impl_Deep_72.l1 k z (a : Int) fv63 20) e77 hr), hq⟩
          rw [impl_Deep_72.l0, if_neg (by omega)]
  obtain ⟨r, hr, h1, h2⟩ := run n 0 xs (by omega) rfl (Nat.zero_le _) (Alike.refl _) (fun p q h1 h2 h3 => by omega)
  refine ⟨r, Ev.congr (fun k => ?_) hr, h1, by rw [← h1.1, ← hn]; exact h2⟩
  unfold impl_Deep_72.f
  rw [← hn]
  rfl

/-- byDepth: the stable order. -/
theorem by_ok (xs : List S50) (hl : xs.length ≤ 1000) : ∃ r, Ev (fun k => impl_byDepth.f k xs) r ∧ Alike xs r ∧ Srt r 0 r.length := by
  obtain ⟨r, hr, h1, h2⟩ := st_ok xs hl
  refine ⟨r, ?_, h1, h2⟩
  unfold impl_byDepth.f impl_Deep_61.f impl_Deep_62.f
  rw [if_pos (by omega)]
  exact Ev.bind (f := fun k z => ((impl_Deep_72.f k z (z.length : Int) fv63).bind fun t => some t).bind fun t => some t) (Ev.now xs) (Ev.bind (Ev.bind hr (Ev.now _)) (Ev.now _))

theorem alike_app {xs ys : List S50} (h : Alike xs ys) (zs : List S50) : Alike (xs ++ zs) (ys ++ zs) := ⟨by rw [List.length_append, List.length_append, h.1], fun k => by rw [List.filter_append, List.filter_append, h.2 k]⟩
theorem el_appL (xs ys : List S50) (i : Nat) (h : i < xs.length) : el (xs ++ ys) i = el xs i := by
  refine el_of _ _ _ ?_
  rw [List.getElem?_append_left h]
  exact get_el xs i h
theorem el_last (xs : List S50) (x : S50) : el (xs ++ [x]) xs.length = x := el_of _ _ _ (by rw [List.getElem?_append_right (Nat.le_refl _), Nat.sub_self]; rfl)

/-- The reference's sort: an element finds its place. -/
theorem sp_l1 (l : List S50) (hl : l.length ≤ 1000) (i : Nat) (hi : i < l.length) (Q : List S50 → Prop)
    (next : ∀ ys, ys.length = i + 1 → Alike (l.take (i + 1)) ys → Srt ys 0 (i + 1) → ∃ r, Ev (fun k => spec_l11Sort.l0 k l ys ((i + 1 : Nat) : Int)) r ∧ Q r) :
    ∀ (j : Nat) (xs : List S50), j ≤ i → xs.length = i + 1 → Alike (l.take (i + 1)) (xs.set j (el l i)) → (∀ p q, p < q → q < i + 1 → q ≠ j → (el (xs.set j (el l i)) p).f0 ≤ (el (xs.set j (el l i)) q).f0) →
      ∃ r, Ev (fun k => spec_l11Sort.l1 k l xs (i : Int) (j : Int)) r ∧ Q r := by
  intro j
  induction j with
  | zero =>
    intro xs hj hx hA hI
    obtain ⟨r, hr, hq⟩ := next (xs.set 0 (el l i)) (by rw [List.length_set]; exact hx) hA (fun p q h1 h2 h3 => hI p q h2 h3 (by omega))
    refine ⟨r, Ev.step (fun k => ?_) hr, hq⟩
    rw [spec_l11Sort.l1, if_neg (by omega), if_pos (by omega), if_pos (by omega), if_pos (by omega), if_pos (by omega), wadd1 i (by omega), Int.toNat_natCast]
  | succ j ih =>
    intro xs hj hx hA hI
    by_cases c : (el xs j).f0 > (el l i).f0
    · have e : (xs.set (j + 1) (el xs j)).set j (el l i) = swp (xs.set (j + 1) (el l i)) j := by
        apply ext_el
        · rw [swp_length, List.length_set, List.length_set, List.length_set]
        · intro p hp
          rw [List.length_set, List.length_set] at hp
          rw [el_set _ _ _ _ (by rw [List.length_set]; omega), el_set _ _ _ _ (by omega), swp_el _ _ _ (by rw [List.length_set]; omega), el_set _ _ _ _ (by omega), el_set _ _ _ _ (by omega), el_set _ _ _ _ (by omega)]
          by_cases c1 : p = j
          · rw [if_pos c1, if_neg (by omega), if_pos c1, if_pos rfl]
          · rw [if_neg c1]
            by_cases c2 : p = j + 1
            · rw [if_pos c2, if_pos c2, if_neg (by omega)]
            · rw [if_neg c2, if_neg c2, if_neg c1, if_neg c2]
      have v1 : el (xs.set (j + 1) (el l i)) (j + 1) = el l i := by rw [el_set _ _ _ _ (by omega), if_pos rfl]
      have v2 : el (xs.set (j + 1) (el l i)) j = el xs j := by rw [el_set _ _ _ _ (by omega), if_neg (by omega)]
      have hvl : (xs.set (j + 1) (el l i)).length = i + 1 := by rw [List.length_set]; exact hx
      obtain ⟨V, hV⟩ : ∃ V, V = xs.set (j + 1) (el l i) := ⟨_, rfl⟩
      rw [← hV] at e v1 v2 hvl hA hI
      obtain ⟨r, hr, hq⟩ := ih (xs.set (j + 1) (el xs j)) (by omega) (by rw [List.length_set]; exact hx) (by
        rw [e]
        exact hA.trans (swp_alike V j (by omega) (by rw [v1, v2]; omega))) (fun p q h1 h2 h3 => by
        rw [e, swp_el V j p (by omega), swp_el V j q (by omega), v1, v2]
        by_cases p1 : p = j + 1
        · rw [if_pos p1, if_neg (by omega), if_neg (by omega), ← v2]
          exact hI j q (by omega) h2 (by omega)
        · rw [if_neg p1]
          by_cases p2 : p = j
          · rw [if_pos p2]
            by_cases q1 : q = j + 1
            · rw [if_pos q1]; omega
            · rw [if_neg q1, if_neg h3, ← v1]
              exact hI (j + 1) q (by omega) h2 (by omega)
          · rw [if_neg p2]
            by_cases q1 : q = j + 1
            · rw [if_pos q1, ← v2]
              exact hI p j (by omega) (by omega) (by omega)
            · rw [if_neg q1, if_neg h3]
              exact hI p q h1 h2 (by omega))
      refine ⟨r, Ev.step (fun k => ?_) hr, hq⟩
      rw [spec_l11Sort.l1, if_pos (by omega), wsub1 (j + 1) (by omega) (by omega), Nat.add_sub_cancel, if_pos (by omega), if_pos (by omega), if_pos (by omega), if_pos (by omega), if_pos c, if_pos (by omega), if_pos (by omega), Int.toNat_natCast]
    · obtain ⟨r, hr, hq⟩ := next (xs.set (j + 1) (el l i)) (by rw [List.length_set]; exact hx) hA (fun p q h1 h2 h3 => by
        by_cases q1 : q = j + 1
        · subst q1
          rw [el_set _ _ _ _ (by omega), if_neg (by omega), el_set _ _ _ _ (by omega), if_pos rfl]
          by_cases p1 : p = j
          · rw [p1]; omega
          · have := hI p j (by omega) (by omega) (by omega)
            rw [el_set _ _ _ _ (by omega), if_neg (by omega), el_set _ _ _ _ (by omega), if_neg (by omega)] at this
            omega
        · exact hI p q h2 h3 q1)
      refine ⟨r, Ev.step (fun k => ?_) hr, hq⟩
      rw [spec_l11Sort.l1, if_pos (by omega), wsub1 (j + 1) (by omega) (by omega), Nat.add_sub_cancel, if_pos (by omega), if_pos (by omega), if_pos (by omega), if_pos (by omega), if_neg c, if_pos (by omega), if_pos (by omega), wadd1 i (by omega), Int.toNat_natCast]

theorem sp_ok (l : List S50) (hl : l.length ≤ 1000) : ∃ r, Ev (fun k => spec_l11Sort.f k l) r ∧ Alike l r ∧ Srt r 0 r.length := by
  have run : ∀ (d i : Nat) (xs : List S50), l.length - i = d → i ≤ l.length → xs.length = i → Alike (l.take i) xs → Srt xs 0 i → ∃ r, Ev (fun k => spec_l11Sort.l0 k l xs (i : Int)) r ∧ (Alike l r ∧ Srt r 0 r.length) := by
    intro d
    induction d with
    | zero =>
      intro i xs hd hi hx hA hS
      obtain rfl : i = l.length := by omega
      refine ⟨xs, Ev.step (f := fun _ => some xs) (fun k => ?_) (Ev.now _), ?_, by rw [hx]; exact hS⟩
      · rw [spec_l11Sort.l0, if_neg (by omega)]
      · rw [List.take_length] at hA
        exact hA
    | succ d ih =>
      intro i xs hd hi hx hA hS
      have ht : l.take (i + 1) = l.take i ++ [el l i] := by rw [el_get l i (by omega), List.take_succ_eq_append_getElem (by omega)]
      have hv : (xs ++ [el l i]).set i (el l i) = xs ++ [el l i] := by
        apply ext_el
        · rw [List.length_set]
        · intro p hp
          rw [List.length_set] at hp
          rw [el_set _ _ _ _ (by rw [List.length_append, List.length_singleton]; omega)]
          by_cases c : p = i
          · rw [if_pos c, c, ← hx, el_last]
          · rw [if_neg c]
      obtain ⟨r, hr, hq⟩ := sp_l1 l hl i (by omega) (fun r => Alike l r ∧ Srt r 0 r.length) (fun ys yl yA yS => ih (i + 1) ys (by omega) (by omega) yl yA yS) i (xs ++ [el l i]) (Nat.le_refl _) (by rw [List.length_append, List.length_singleton, hx]) (by
        rw [hv, ht]
        exact alike_app hA _) (fun p q h1 h2 h3 => by
        rw [hv, el_appL _ _ _ (by omega), el_appL _ _ _ (by omega)]
        exact hS p q (Nat.zero_le _) h1 (by omega))
      refine ⟨r, Ev.step (fun k => ?_) hr, hq⟩
      rw [spec_l11Sort.l0, if_pos (by omega), if_pos (by omega), if_pos (by omega), hx]
  obtain ⟨r, hr, hq⟩ := run l.length 0 [] (by omega) (Nat.zero_le _) rfl ⟨by simp, fun k => by simp⟩ (fun p q h1 h2 h3 => by omega)
  exact ⟨r, Ev.congr (fun k => rfl) hr, hq⟩

/-- The program's sort and the reference's: the one stable order. -/
theorem sort_eq (l : List S50) (hl : l.length ≤ 1000) : ∃ r, Ev (fun k => impl_byDepth.f k l) r ∧ Ev (fun k => spec_l11Sort.f k l) r ∧ Alike l r ∧ Srt r 0 r.length := by
  obtain ⟨r, hr, h1, h2⟩ := by_ok l hl
  obtain ⟨s, hs, g1, g2⟩ := sp_ok l hl
  have e := srt_one l r s h1 g1 h2 g2
  subst e
  exact ⟨r, hr, hs, h1, h2⟩

theorem in_some (a b c : Int) : impl_in.f a b c = some (decide (b ≤ a ∧ a ≤ c)) := by
  unfold impl_in.f
  by_cases h : b ≤ a
  · simp [h]
  · simp [h]
theorem in_spec (a b c : Int) : spec_l1In.f a b c = some (decide (b ≤ a ∧ a ≤ c)) := in_some a b c
theorem px_eq (a b c d : Int) : impl_PxOk.f a b c d = spec_PxOk.f a b c d := rfl
theorem px_some (a b c d : Int) : ∃ r, spec_PxOk.f a b c d = some r := by
  unfold spec_PxOk.f spec_l11Byte.f
  simp only [in_spec, Option.bind_some]
  repeat' split
  all_goals exact ⟨_, rfl⟩
/-- Whether a sample is right. -/
def okS (x : S50) : Bool := decide (0 ≤ x.f0 ∧ x.f0 ≤ 10000000) && (spec_PxOk.f x.f1.f0 x.f1.f1 x.f1.f2 x.f1.f3).getD false
theorem okS_i (x : S50) : GD.f fv58 x.f0 x.f1.f0 x.f1.f1 x.f1.f2 x.f1.f3 = some (!okS x) := by
  unfold GD.f fv58 impl_deepOk_1.f impl_isFrame.f okS
  obtain ⟨r, hr⟩ := px_some x.f1.f0 x.f1.f1 x.f1.f2 x.f1.f3
  rw [px_eq, hr, in_some]
  simp only [Option.bind_some, Option.getD_some]
  by_cases c : 0 ≤ x.f0 ∧ x.f0 ≤ 10000000
  · simp [c]
  · simp [c]
theorem okS_s (x : S50) (n : Option Bool) : ((spec_l1Frame.f x.f0).bind fun t152 => (if t152 = true then ((spec_PxOk.f x.f1.f0 x.f1.f1 x.f1.f2 x.f1.f3).bind fun t154 => (if t154 = true then n else (some false))) else (some false))) = if okS x = true then n else some false := by
  unfold spec_l1Frame.f okS
  obtain ⟨r, hr⟩ := px_some x.f1.f0 x.f1.f1 x.f1.f2 x.f1.f3
  rw [hr, in_spec]
  simp only [Option.bind_some, Option.getD_some]
  by_cases c : 0 ≤ x.f0 ∧ x.f0 ≤ 10000000
  · cases r <;> simp [c]
  · simp [c]
/-- Whether samples are right: both say so alike. -/
def okL (l : List S50) : Bool := decide (l.length ≤ 200) && l.all okS
theorem deep_eq (l : List S50) : Ev (fun k => impl_deepOk.f k l) (okL l) ∧ Ev (fun k => spec_l11Deep.f k l) (okL l) := by
  unfold impl_deepOk.f spec_l11Deep.f impl_Deep_57.f impl_Deep_71.f okL
  by_cases c : l.length ≤ 200
  case neg =>
    refine ⟨Ev.congr (f := fun _ => some _) (fun k => ?_) (Ev.now _), Ev.congr (f := fun _ => some _) (fun k => ?_) (Ev.now _)⟩
    · rw [if_neg (by omega)]; simp [c]
    · rw [if_pos (by omega)]; simp [c]
  have hc : (decide (l.length ≤ 200) && l.all okS) = l.all okS := by simp [c]
  rw [hc]
  have r1 : ∀ (d i : Nat), l.length - i = d → i ≤ l.length → ∃ r : Int, Ev (fun k => impl_Deep_71.l0 k l fv58 (l.length : Int) (i : Int)) r ∧ (decide (r ≥ 0) = !((l.drop i).all okS)) := by
    intro d
    induction d with
    | zero =>
      intro i hd hi
      refine ⟨-1, Ev.step (f := fun _ => some (-1)) (fun k => ?_) (Ev.now _), ?_⟩
      · rw [impl_Deep_71.l0, if_neg (by omega)]
      · rw [List.drop_of_length_le (by omega)]; rfl
    | succ d ih =>
      intro i hd hi
      have e : l.drop i = el l i :: l.drop (i + 1) := by rw [el_get l i (by omega), List.drop_eq_getElem_cons (by omega)]
      by_cases o : okS (el l i) = true
      · obtain ⟨r, hr, hq⟩ := ih (i + 1) (by omega) (by omega)
        refine ⟨r, Ev.step (fun k => ?_) hr, by rw [hq, e, List.all_cons, o, Bool.true_and]⟩
        rw [impl_Deep_71.l0, if_pos (by omega), if_pos (by omega), if_pos (by omega), okS_i (el l i), o, Option.bind_some, if_neg (by simp), wadd1 i (by omega)]
      · have o := Bool.eq_false_iff.2 o
        refine ⟨(i : Int), Ev.step (f := fun _ => some (i : Int)) (fun k => ?_) (Ev.now _), ?_⟩
        · rw [impl_Deep_71.l0, if_pos (by omega), if_pos (by omega), if_pos (by omega), okS_i (el l i), o, Option.bind_some, if_pos (by simp)]
        · rw [e, List.all_cons, o]
          simp
  have r2 : ∀ (d i : Nat), l.length - i = d → i ≤ l.length → Ev (fun k => spec_l11Deep.l0 k l (i : Int)) ((l.drop i).all okS) := by
    intro d
    induction d with
    | zero =>
      intro i hd hi
      rw [List.drop_of_length_le (by omega)]
      refine Ev.step (f := fun _ => some true) (fun k => ?_) (Ev.now _)
      rw [spec_l11Deep.l0, if_neg (by omega)]
    | succ d ih =>
      intro i hd hi
      have e : l.drop i = el l i :: l.drop (i + 1) := by rw [el_get l i (by omega), List.drop_eq_getElem_cons (by omega)]
      rw [e, List.all_cons]
      by_cases o : okS (el l i) = true
      · rw [o, Bool.true_and]
        refine Ev.step (fun k => ?_) (ih (i + 1) (by omega) (by omega))
        rw [spec_l11Deep.l0, if_pos (by omega), if_pos (by omega), okS_s (el l i), if_pos o, wadd1 i (by omega)]
      · have o' := Bool.eq_false_iff.2 o
        rw [o', Bool.false_and]
        refine Ev.step (f := fun _ => some false) (fun k => ?_) (Ev.now _)
        rw [spec_l11Deep.l0, if_pos (by omega), if_pos (by omega), okS_s (el l i), if_neg o]
  obtain ⟨r, hr, hq⟩ := r1 l.length 0 (by omega) (Nat.zero_le _)
  have h2 := r2 l.length 0 (by omega) (Nat.zero_le _)
  rw [List.drop_zero] at hq h2
  refine ⟨Ev.congr (fun k => if_pos (by omega)) (Ev.bind (Ev.bind hr (Ev.now _)) (Ev.congr (f := fun _ => some _) (fun k => ?_) (Ev.now _))), Ev.congr (fun k => if_neg (by omega)) h2⟩
  show some (!(decide (r ≥ 0))) = _
  rw [hq, Bool.not_not]

/-- A pixel that is right. -/
def Px (r g b a : Int) : Prop := 0 ≤ a ∧ a ≤ 255 ∧ 0 ≤ r ∧ r ≤ a ∧ 0 ≤ g ∧ g ≤ a ∧ 0 ≤ b ∧ b ≤ a
instance (r g b a : Int) : Decidable (Px r g b a) := by unfold Px; exact inferInstance

theorem pxi_some (r g b a : Int) : impl_PxOk.f r g b a = some (decide (Px r g b a)) := by
  unfold impl_PxOk.f impl_isByte.f Px
  simp only [in_some, Option.bind_some, decide_eq_true_eq]
  by_cases h1 : 0 ≤ a ∧ a ≤ 255 <;> by_cases h2 : 0 ≤ r ∧ r ≤ a <;> by_cases h3 : 0 ≤ g ∧ g ≤ a <;> by_cases h4 : 0 ≤ b ∧ b ≤ a <;> simp [h1, h2, h3, h4] <;> omega

theorem pxs_some (r g b a : Int) : spec_PxOk.f r g b a = some (decide (Px r g b a)) := by
  have h : spec_PxOk.f r g b a = impl_PxOk.f r g b a := rfl
  rw [h, pxi_some]

theorem down_some (a b : Int) (hb : b ≠ 0) : ∃ v, impl_down.f a b = some v := by
  unfold impl_down.f
  rw [if_neg hb]
  split
  · exact ⟨_, rfl⟩
  · exact ⟨_, rfl⟩

theorem near_ex (a b : Int) (hb : wrap64 (2 * b) ≠ 0) : ∃ v, impl_near.f a b = some v := by
  unfold impl_near.f
  obtain ⟨v, hv⟩ := down_some (wrap64 (wrap64 (2 * a) + b)) (wrap64 (2 * b)) hb
  exact ⟨v, by rw [hv]; rfl⟩

theorem share_ex (a b : Int) : ∃ v, impl_share.f a b = some v := by
  unfold impl_share.f
  obtain ⟨v, hv⟩ := near_ex (wrap64 (a * b)) 255 (by unfold wrap64; omega)
  exact ⟨v, by rw [hv]; rfl⟩

theorem part_eq (a b : Int) : spec_l11Part.f a b = impl_share.f a b := rfl

theorem down_val (a b : Int) (ha : 0 ≤ a) (ha2 : a ≤ 9223372036854775807) (hb : 1 ≤ b) : impl_down.f a b = some (a / b) := by
  unfold impl_down.f
  rw [if_neg (by omega)]
  have h1 := Int.tmod_nonneg b ha
  rw [if_neg (by omega), Int.tdiv_eq_ediv_of_nonneg ha]
  have h2 : 0 ≤ a / b := Int.ediv_nonneg ha (by omega)
  have h3 : a / b ≤ a := Int.ediv_le_self b ha
  have : wrap64 (a / b) = a / b := by unfold wrap64; omega
  rw [this]

theorem near_val (a b : Int) (ha : 0 ≤ a) (ha2 : a ≤ 1000000000000) (hb : 1 ≤ b) (hb2 : b ≤ 1000000000000) : impl_near.f a b = some ((2 * a + b) / (2 * b)) := by
  unfold impl_near.f
  have e1 : wrap64 (2 * a) = 2 * a := by unfold wrap64; omega
  have e2 : wrap64 (2 * b) = 2 * b := by unfold wrap64; omega
  rw [e1, e2]
  have e3 : wrap64 (2 * a + b) = 2 * a + b := by unfold wrap64; omega
  rw [e3, down_val _ _ (by omega) (by omega) (by omega)]
  rfl

theorem mul_bd {a b : Int} (h0 : 0 ≤ a) (h1 : a ≤ 255) (h2 : 0 ≤ b) (h3 : b ≤ 255) : 0 ≤ a * b ∧ a * b ≤ 65025 :=
  ⟨Int.mul_nonneg h0 h2, by have := Int.mul_le_mul h1 h3 h2 (by omega : (0 : Int) ≤ 255); omega⟩

theorem share_val {a b : Int} (h0 : 0 ≤ a) (h1 : a ≤ 255) (h2 : 0 ≤ b) (h3 : b ≤ 255) : impl_share.f a b = some ((2 * (a * b) + 255) / 510) := by
  unfold impl_share.f
  obtain ⟨m0, m1⟩ := mul_bd h0 h1 h2 h3
  have e : wrap64 (a * b) = a * b := by unfold wrap64; omega
  rw [e, near_val _ _ m0 (by omega) (by omega) (by omega)]
  rfl

theorem share_bd {a b : Int} (h0 : 0 ≤ a) (h1 : a ≤ 255) (h2 : 0 ≤ b) (h3 : b ≤ 255) : 0 ≤ (2 * (a * b) + 255) / 510 ∧ (2 * (a * b) + 255) / 510 ≤ b := by
  have m1 : a * b ≤ 255 * b := Int.mul_le_mul_of_nonneg_right h1 h2
  have m0 := (mul_bd h0 h1 h2 h3).1
  omega

/-- A part of two numbers. -/
def sh (a b : Int) : Int := (2 * (a * b) + 255) / 510

theorem sh_mono {a b c : Int} (h : a ≤ b) (hc : 0 ≤ c) : sh a c ≤ sh b c := by
  unfold sh
  have := Int.mul_le_mul_of_nonneg_right h hc
  omega

theorem sh_bd {a b : Int} (h0 : 0 ≤ a) (h1 : a ≤ 255) (h2 : 0 ≤ b) (h3 : b ≤ 255) : 0 ≤ sh a b ∧ sh a b ≤ b := share_bd h0 h1 h2 h3

theorem sh_full {a : Int} : sh a 255 = a := by unfold sh; omega
theorem sh_none {a : Int} : sh a 0 = 0 := by unfold sh; omega
theorem none_sh {a : Int} : sh 0 a = 0 := by unfold sh; omega

theorem sh_both {a b : Int} (h0 : 0 ≤ a) (h1 : a ≤ 255) (h2 : 0 ≤ b) (h3 : b ≤ 255) : -1 ≤ sh a b + sh a (255 - b) - a ∧ sh a b + sh a (255 - b) - a ≤ 1 := by
  unfold sh
  have e : a * (255 - b) = 255 * a - a * b := by rw [Int.mul_sub, Int.mul_comm a 255]
  rw [e]
  generalize a * b = m
  omega


theorem over_val {a0 a1 a2 a3 b0 b1 b2 b3 : Int} (ha : Px a0 a1 a2 a3) (hb : Px b0 b1 b2 b3) : impl_Over.f a0 a1 a2 a3 b0 b1 b2 b3 = some (a0 + sh b0 (255 - a3), a1 + sh b1 (255 - a3), a2 + sh b2 (255 - a3), a3 + sh b3 (255 - a3)) := by
  unfold impl_Over.f impl_ofRight.f
  simp only [pxi_some, Option.bind_some, decide_eq_true_eq]
  rw [if_pos ha, if_pos hb]
  obtain ⟨p0, p1, p2, p3, p4, p5, p6, p7⟩ := ha
  obtain ⟨q0, q1, q2, q3, q4, q5, q6, q7⟩ := hb
  have w : wrap64 (255 - a3) = 255 - a3 := by unfold wrap64; omega
  have s0 := share_val (a := b0) (b := 255 - a3) (by omega) (by omega) (by omega) (by omega)
  have s1 := share_val (a := b1) (b := 255 - a3) (by omega) (by omega) (by omega) (by omega)
  have s2 := share_val (a := b2) (b := 255 - a3) (by omega) (by omega) (by omega) (by omega)
  have s3 := share_val (a := b3) (b := 255 - a3) (by omega) (by omega) (by omega) (by omega)
  have t0 := share_bd (a := b0) (b := 255 - a3) (by omega) (by omega) (by omega) (by omega)
  have t1 := share_bd (a := b1) (b := 255 - a3) (by omega) (by omega) (by omega) (by omega)
  have t2 := share_bd (a := b2) (b := 255 - a3) (by omega) (by omega) (by omega) (by omega)
  have t3 := share_bd (a := b3) (b := 255 - a3) (by omega) (by omega) (by omega) (by omega)
  simp only [impl_ofEach.f, GA.f, impl_Over_1.g, w, s0, s1, s2, s3, Option.bind_some]
  unfold sh
  generalize (2 * (b0 * (255 - a3)) + 255) / 510 = x0 at *
  generalize (2 * (b1 * (255 - a3)) + 255) / 510 = x1 at *
  generalize (2 * (b2 * (255 - a3)) + 255) / 510 = x2 at *
  generalize (2 * (b3 * (255 - a3)) + 255) / 510 = x3 at *
  have w0 : wrap64 (a0 + x0) = a0 + x0 := by unfold wrap64; omega
  have w1 : wrap64 (a1 + x1) = a1 + x1 := by unfold wrap64; omega
  have w2 : wrap64 (a2 + x2) = a2 + x2 := by unfold wrap64; omega
  have w3 : wrap64 (a3 + x3) = a3 + x3 := by unfold wrap64; omega
  rw [w0, w1, w2, w3]


theorem over_same {a0 a1 a2 a3 b0 b1 b2 b3 : Int} (ha : Px a0 a1 a2 a3) (hb : Px b0 b1 b2 b3) : spec_l11Over.f a0 a1 a2 a3 b0 b1 b2 b3 = some (a0 + sh b0 (255 - a3), a1 + sh b1 (255 - a3), a2 + sh b2 (255 - a3), a3 + sh b3 (255 - a3)) := by
  obtain ⟨p0, p1, p2, p3, p4, p5, p6, p7⟩ := ha
  obtain ⟨q0, q1, q2, q3, q4, q5, q6, q7⟩ := hb
  have w : wrap64 (255 - a3) = 255 - a3 := by unfold wrap64; omega
  have s0 := share_val (a := b0) (b := 255 - a3) (by omega) (by omega) (by omega) (by omega)
  have s1 := share_val (a := b1) (b := 255 - a3) (by omega) (by omega) (by omega) (by omega)
  have s2 := share_val (a := b2) (b := 255 - a3) (by omega) (by omega) (by omega) (by omega)
  have s3 := share_val (a := b3) (b := 255 - a3) (by omega) (by omega) (by omega) (by omega)
  have t0 := share_bd (a := b0) (b := 255 - a3) (by omega) (by omega) (by omega) (by omega)
  have t1 := share_bd (a := b1) (b := 255 - a3) (by omega) (by omega) (by omega) (by omega)
  have t2 := share_bd (a := b2) (b := 255 - a3) (by omega) (by omega) (by omega) (by omega)
  have t3 := share_bd (a := b3) (b := 255 - a3) (by omega) (by omega) (by omega) (by omega)
  simp only [spec_l11Over.f, spec_l11Scale.f, part_eq, w, s0, s1, s2, s3, Option.bind_some]
  unfold sh
  generalize (2 * (b0 * (255 - a3)) + 255) / 510 = x0 at *
  generalize (2 * (b1 * (255 - a3)) + 255) / 510 = x1 at *
  generalize (2 * (b2 * (255 - a3)) + 255) / 510 = x2 at *
  generalize (2 * (b3 * (255 - a3)) + 255) / 510 = x3 at *
  have w0 : wrap64 (a0 + x0) = a0 + x0 := by unfold wrap64; omega
  have w1 : wrap64 (a1 + x1) = a1 + x1 := by unfold wrap64; omega
  have w2 : wrap64 (a2 + x2) = a2 + x2 := by unfold wrap64; omega
  have w3 : wrap64 (a3 + x3) = a3 + x3 := by unfold wrap64; omega
  rw [w0, w1, w2, w3]
theorem over_px {a0 a1 a2 a3 b0 b1 b2 b3 : Int} (ha : Px a0 a1 a2 a3) (hb : Px b0 b1 b2 b3) : Px (a0 + sh b0 (255 - a3)) (a1 + sh b1 (255 - a3)) (a2 + sh b2 (255 - a3)) (a3 + sh b3 (255 - a3)) := by
  obtain ⟨p0, p1, p2, p3, p4, p5, p6, p7⟩ := ha
  obtain ⟨q0, q1, q2, q3, q4, q5, q6, q7⟩ := hb
  have c : (0 : Int) ≤ 255 - a3 := by omega
  have t0 := sh_bd (a := b0) (b := 255 - a3) (by omega) (by omega) (by omega) (by omega)
  have t1 := sh_bd (a := b1) (b := 255 - a3) (by omega) (by omega) (by omega) (by omega)
  have t2 := sh_bd (a := b2) (b := 255 - a3) (by omega) (by omega) (by omega) (by omega)
  have t3 := sh_bd (a := b3) (b := 255 - a3) (by omega) (by omega) (by omega) (by omega)
  have m0 := sh_mono q3 c
  have m1 := sh_mono q5 c
  have m2 := sh_mono q7 c
  unfold Px
  omega
/-- A sample that is right holds a right pixel. -/
theorem okS_px (x : S50) (h : okS x = true) : Px x.f1.f0 x.f1.f1 x.f1.f2 x.f1.f3 := by
  unfold okS at h
  rw [pxs_some] at h
  simp only [Option.getD_some, Bool.and_eq_true, decide_eq_true_eq] at h
  exact h.2
theorem alike_mem {l r : List S50} (h : Alike l r) (x : S50) (hx : x ∈ r) : x ∈ l := by
  have h2 : x ∈ r.filter (fun y => decide (y.f0 = x.f0)) := List.mem_filter.2 ⟨hx, by simp⟩
  rw [← h.2 x.f0] at h2
  exact (List.mem_filter.1 h2).1
/-- From the end to the front. -/
theorem fold_eq (t : List S50) (hl : t.length ≤ 1000) (ht : ∀ x ∈ t, Px x.f1.f0 x.f1.f1 x.f1.f2 x.f1.f3) : ∀ (d : Nat) (a b c e : Int), d ≤ t.length → Px a b c e →
    ∃ q : Int × Int × Int × Int, Px q.1 q.2.1 q.2.2.1 q.2.2.2 ∧ Ev (fun k => spec_Flat.l0 k t ((d : Int) - 1) a b c e) q ∧ (t.take d).reverse.foldl impl_Flat.step (some (a, b, c, e)) = some q := by
  intro d
  induction d with
  | zero =>
    intro a b c e _ hp
    refine ⟨(a, b, c, e), hp, Ev.step (f := fun _ => some (a, b, c, e)) (fun k => ?_) (Ev.now _), by simp⟩
    rw [spec_Flat.l0, if_neg (by omega)]
  | succ d ih =>
    intro a b c e hd hp
    have hx : Px (el t d).f1.f0 (el t d).f1.f1 (el t d).f1.f2 (el t d).f1.f3 := ht _ (by rw [el_get t d (by omega)]; exact List.getElem_mem _)
    obtain ⟨q, hq, h1, h2⟩ := ih _ _ _ _ (by omega) (over_px hx hp)
    refine ⟨q, hq, Ev.step (fun k => ?_) h1, ?_⟩
    · have e1 : ((d + 1 : Nat) : Int) - 1 = (d : Int) := by omega
      rw [e1, spec_Flat.l0, if_pos (by omega), if_pos (by omega), if_pos (by omega), over_same hx hp, Option.bind_some]
      have e2 : wrap64 ((d : Int) - 1) = (d : Int) - 1 := by unfold wrap64; omega
      rw [e2]
    · rw [List.take_succ_eq_append_getElem (by omega), List.reverse_append, List.reverse_singleton, List.singleton_append, List.foldl_cons, ← el_get t d (by omega)]
      have e3 : impl_Flat.step (some (a, b, c, e)) (el t d) = some _ := over_val hx hp
      rw [e3]
      exact h2
/-- Flat of the program and of the reference. -/
theorem flat_eq (l : List S50) : ∃ r : Int × Int × Int × Int, Ev (fun k => impl_Flat.f k l) r ∧ Ev (fun k => spec_Flat.f k l) r := by
  obtain ⟨i1, s1⟩ := deep_eq l
  unfold impl_Flat.f spec_Flat.f
  cases c1 : okL l with
  | false =>
    rw [c1] at i1 s1
    exact ⟨(0, 0, 0, 0), Ev.bind i1 (Ev.congr (f := fun _ => some (0, 0, 0, 0)) (fun k => if_neg (by simp)) (Ev.now _)), Ev.bind s1 (Ev.congr (f := fun _ => some (0, 0, 0, 0)) (fun k => if_neg (by simp)) (Ev.now _))⟩
  | true =>
    rw [c1] at i1 s1
    unfold okL at c1
    simp only [Bool.and_eq_true, decide_eq_true_eq, List.all_eq_true] at c1
    obtain ⟨r, h1, h2, h3, h4⟩ := sort_eq l (by omega)
    have hrl := h3.1
    have hp : ∀ x ∈ r, Px x.f1.f0 x.f1.f1 x.f1.f2 x.f1.f3 := fun x hx => okS_px x (c1.2 x (alike_mem h3 x hx))
    obtain ⟨q, _, g1, g2⟩ := fold_eq r (by omega) hp r.length 0 0 0 0 (Nat.le_refl _) ⟨by omega, by omega, by omega, by omega, by omega, by omega, by omega, by omega⟩
    rw [List.take_length] at g2
    have hw : wrap64 ((r.length : Int) - 1) = (r.length : Int) - 1 := by unfold wrap64; omega
    refine ⟨q, Ev.bind i1 (Ev.congr (fun k => if_pos rfl) (Ev.bind h1 (Ev.congr (f := fun _ => some q) (fun k => ?_) (Ev.now _)))), Ev.bind s1 (Ev.congr (fun k => if_pos rfl) (Ev.bind h2 (Ev.congr (fun k => ?_) g1)))⟩
    · rw [if_pos (by omega)]
      exact g2
    · rw [hw]

/-- Merge of the program and of the reference. -/
theorem merge_eq (l m : List S50) : ∃ r, r.length ≤ 200 ∧ Ev (fun k => impl_Merge.f k l m) r ∧ Ev (fun k => spec_Merge.f k l m) r ∧ (r = [] ∨ (okL l = true ∧ okL m = true ∧ l.length + m.length ≤ 200 ∧ Alike (l ++ m) r ∧ Srt r 0 r.length)) ∧ (okL l = true → okL m = true → l.length + m.length ≤ 200 → Alike (l ++ m) r ∧ Srt r 0 r.length) := by
  obtain ⟨i1, s1⟩ := deep_eq l
  obtain ⟨i2, s2⟩ := deep_eq m
  have no : ∀ (k : Nat), impl_Merge.j0 (k + 1) l m true = some [] := fun k => by rw [impl_Merge.j0, if_pos rfl]
  have noE : Ev (fun k => impl_Merge.j0 k l m true) ([] : List S50) := Ev.step (f := fun _ => some []) no (Ev.now _)
  unfold impl_Merge.f spec_Merge.f
  cases c1 : okL l with
  | false =>
    rw [c1] at i1 s1
    exact ⟨[], by simp, Ev.bind i1 (Ev.congr (fun k => if_neg (by simp)) noE), Ev.bind s1 (Ev.congr (f := fun _ => some []) (fun k => if_neg (by simp)) (Ev.now _)), .inl rfl, fun h => absurd h (by simp)⟩
  | true =>
    rw [c1] at i1 s1
    cases c2 : okL m with
    | false =>
      rw [c2] at i2 s2
      exact ⟨[], by simp, Ev.bind i1 (Ev.congr (fun k => if_pos rfl) (Ev.bind i2 (Ev.congr (fun k => if_neg (by simp)) noE))), Ev.bind s1 (Ev.congr (fun k => if_pos rfl) (Ev.bind s2 (Ev.congr (f := fun _ => some []) (fun k => if_neg (by simp)) (Ev.now _)))), .inl rfl, fun _ h => absurd h (by simp)⟩
    | true =>
      rw [c2] at i2 s2
      have l1 : l.length ≤ 200 := by unfold okL at c1; simp at c1; exact c1.1
      have l2 : m.length ≤ 200 := by unfold okL at c2; simp at c2; exact c2.1
      have hw : wrap64 ((l.length : Int) + (m.length : Int)) = ((l.length + m.length : Nat) : Int) := wadd _ _ (by omega)
      rw [hw]
      by_cases c3 : l.length + m.length ≤ 200
      · obtain ⟨r, h1, h2, h3, h4⟩ := sort_eq (l ++ m) (by rw [List.length_append]; omega)
        have hrl := h3.1
        rw [List.length_append] at hrl
        refine ⟨r, by omega, Ev.bind i1 (Ev.congr (fun k => if_pos rfl) (Ev.bind i2 (Ev.congr (f := fun k => impl_Merge.j0 k l m false) (fun k => ?_) (Ev.step (fun k => ?_) (Ev.bind h1 (Ev.now r)))))), Ev.bind s1 (Ev.congr (fun k => if_pos rfl) (Ev.bind s2 (Ev.congr (fun k => if_pos rfl) (Ev.congr (fun k => ?_) (Ev.bind h2 (Ev.now r)))))), .inr ⟨rfl, rfl, c3, h3, h4⟩, fun _ _ _ => ⟨h3, h4⟩⟩
        · show (if true = true then _ else _) = _
          rw [if_pos rfl, decide_eq_false (by omega)]
        · rw [impl_Merge.j0, if_neg (by simp)]
          unfold impl_Deep_49.f
          have e : ([l, m] : List (List S50)).flatten = l ++ m := by simp
          rw [e, if_pos ⟨by simp, by rw [List.length_append]; omega⟩, Option.bind_some]
        · rw [if_neg (by omega), Option.bind_some, if_pos (by simp; omega), Option.bind_some, if_pos (by simp; omega), List.nil_append]
      · refine ⟨[], by simp, Ev.bind i1 (Ev.congr (fun k => if_pos rfl) (Ev.bind i2 (Ev.congr (fun k => ?_) noE))), Ev.bind s1 (Ev.congr (fun k => if_pos rfl) (Ev.bind s2 (Ev.congr (fun k => if_pos rfl) (Ev.congr (f := fun _ => some []) (fun k => ?_) (Ev.now _))))), .inl rfl, fun _ _ h => absurd h c3⟩
        · show (if true = true then _ else _) = _
          rw [if_pos rfl, decide_eq_true (by omega)]
        · rw [if_pos (by omega)]

theorem and255 (n : Int) : Go.bits .and .i64 n 255 = n % 256 := by
  have h127 : (BitVec.ofInt 64 255).toNat = 2 ^ 8 - 1 := by decide
  have key : (BitVec.ofInt 64 n &&& BitVec.ofInt 64 255).toNat = (n % ((2 ^ 64 : Nat) : Int)).toNat % 2 ^ 8 := by
    rw [BitVec.toNat_and, BitVec.toNat_ofInt, h127, Nat.and_two_pow_sub_one_eq_mod]
  show IntKind.i64.wrap ((BitVec.ofInt 64 n &&& BitVec.ofInt 64 255).toNat : Nat) = n % 256
  rw [key, IntKind.wrap_i64]
  omega

theorem byte_ok (b : List Int) (i h : Int) (hb : b.length ≤ 4096) (hi : 0 ≤ i) :
    ∃ x i' h', spec_l1Byte.f b i h = some (x, i', h') ∧ 0 ≤ x ∧ x ≤ 255 ∧ 0 ≤ i' := by
  unfold spec_l1Byte.f
  simp only [and255]
  by_cases c : i < (b.length : Int)
  · rw [if_pos c, if_pos hi]
    have hw : wrap64 (i + 1) = i + 1 := by unfold wrap64; omega
    rw [hw]
    exact ⟨_, _, _, rfl, by omega, by omega, by omega⟩
  · rw [if_neg c]
    exact ⟨_, _, _, rfl, by omega, by omega, hi⟩

theorem below_ok (b : List Int) (i h n : Int) (hb : b.length ≤ 4096) (hi : 0 ≤ i) :
    ∃ x i' h', spec_l1Below.f b i h n = some (x, i', h') ∧ 0 ≤ i' ∧ 0 ≤ x ∧ (1 ≤ n → x < n) := by
  unfold spec_l1Below.f
  by_cases c0 : n ≤ 0
  · rw [if_pos c0]
    exact ⟨_, _, _, rfl, hi, by omega, by omega⟩
  · rw [if_neg c0]
    by_cases c : n ≤ 256
    · rw [if_pos c]
      obtain ⟨x, i1, h1, e, x0, x1, hi1⟩ := byte_ok b i h hb hi
      rw [e]
      simp only [Option.bind_some]
      rw [if_neg (by omega)]
      exact ⟨_, _, _, rfl, hi1, Int.tmod_nonneg _ x0, fun _ => Int.tmod_lt_of_pos _ (by omega)⟩
    · rw [if_neg c]
      obtain ⟨x, i1, h1, e, x0, x1, hi1⟩ := byte_ok b i h hb hi
      rw [e]
      simp only [Option.bind_some]
      obtain ⟨y, i2, h2, e, y0, y1, hi2⟩ := byte_ok b i1 h1 hb hi1
      rw [e]
      simp only [Option.bind_some]
      obtain ⟨z, i3, h3, e, z0, z1, hi3⟩ := byte_ok b i2 h2 hb hi2
      rw [e]
      simp only [Option.bind_some]
      obtain ⟨u, i4, h4, e, u0, u1, hi4⟩ := byte_ok b i3 h3 hb hi3
      rw [e]
      simp only [Option.bind_some]
      rw [if_neg (by omega)]
      have hw : wrap64 (wrap64 (wrap64 (wrap64 (x * 16777216) + wrap64 (y * 65536)) + wrap64 (z * 256)) + u) = x * 16777216 + y * 65536 + z * 256 + u := by
        have e1 : wrap64 (x * 16777216) = x * 16777216 := by unfold wrap64; omega
        have e2 : wrap64 (y * 65536) = y * 65536 := by unfold wrap64; omega
        have e3 : wrap64 (z * 256) = z * 256 := by unfold wrap64; omega
        rw [e1, e2, e3]
        have e4 : wrap64 (x * 16777216 + y * 65536) = x * 16777216 + y * 65536 := by unfold wrap64; omega
        rw [e4]
        have e5 : wrap64 (x * 16777216 + y * 65536 + z * 256) = x * 16777216 + y * 65536 + z * 256 := by unfold wrap64; omega
        rw [e5]
        unfold wrap64
        omega
      rw [hw]
      exact ⟨_, _, _, rfl, hi4, Int.tmod_nonneg _ (by omega), fun _ => Int.tmod_lt_of_pos _ (by omega)⟩

theorem once_ok (b : List Int) (i h n : Int) (hb : b.length ≤ 4096) (hi : 0 ≤ i) :
    ∃ x i' h', spec_l1Once.f b i h n = some (x, i', h') ∧ 0 ≤ i' := by
  unfold spec_l1Once.f
  obtain ⟨x, i1, h1, e, hi1, _⟩ := below_ok b i h n hb hi
  rw [e]
  exact ⟨_, _, _, rfl, hi1⟩

theorem new_loop (l : List Int) (hl : l.length ≤ 4096) (d : Nat) : ∀ (k : Nat) (h i : Int), 0 ≤ i → i ≤ l.length → (l.length : Int) - i = d → d < k → ∃ h', spec_l1New.l0 k l h i = some (l, 0, h') := by
  induction d with
  | zero =>
    intro k h i h0 h1 hd hk
    obtain ⟨k, rfl⟩ : ∃ m, k = m + 1 := ⟨k - 1, by omega⟩
    exact ⟨h, by simp only [spec_l1New.l0]; rw [if_neg (by omega)]⟩
  | succ d ih =>
    intro k h i h0 h1 hd hk
    obtain ⟨k, rfl⟩ : ∃ m, k = m + 1 := ⟨k - 1, by omega⟩
    simp only [spec_l1New.l0]
    rw [if_pos (by omega), if_pos h0]
    have hw : wrap64 (i + 1) = i + 1 := by unfold wrap64; omega
    rw [hw]
    exact ih k _ (i + 1) (by omega) (by omega) (by omega) (by omega)

theorem new_ok (l : List Int) (hl : l.length ≤ 4096) (k : Nat) (hk : 4097 ≤ k) : ∃ h, spec_l1New.f k l = some (l, 0, h) := by
  unfold spec_l1New.f
  exact new_loop l hl l.length k _ 0 (by omega) (by omega) (by omega) (by omega)

theorem drawpx_ok (b : List Int) (i h : Int) (hb : b.length ≤ 4096) (hi : 0 ≤ i) :
    ∃ x0 x1 x2 x3 i' h', spec_l11DrawPx.f b i h = some (x0, x1, x2, x3, i', h') ∧ 0 ≤ i' := by
  unfold spec_l11DrawPx.f
  obtain ⟨a, i1, h1, e, hi1, _, _⟩ := below_ok b i h 256 hb hi
  rw [e]; simp only [Option.bind_some]; clear e
  obtain ⟨a2, i2, h2, e, hi2, _, _⟩ := below_ok b i1 h1 256 hb hi1
  rw [e]; simp only [Option.bind_some]; clear e
  obtain ⟨c, i3, h3, e, hi3, c0, c1⟩ := below_ok b i2 h2 8 hb hi2
  rw [e]; simp only [Option.bind_some]; clear e
  have c1 := c1 (by omega)
  rw [if_pos c0, if_pos (by simpa using c1)]
  generalize rd [0, 255, 255, 128, 1, 254, a, a2] c = A
  obtain ⟨x, i4, h4, e, hi4, _, _⟩ := below_ok b i3 h3 (wrap64 (A + 1)) hb hi3
  rw [e]; simp only [Option.bind_some]; clear e
  obtain ⟨y, i5, h5, e, hi5, _, _⟩ := below_ok b i4 h4 (wrap64 (A + 1)) hb hi4
  rw [e]; simp only [Option.bind_some]; clear e
  obtain ⟨z, i6, h6, e, hi6, _, _⟩ := below_ok b i5 h5 (wrap64 (A + 1)) hb hi5
  rw [e]; simp only [Option.bind_some]; clear e
  obtain ⟨o, i7, h7, e, hi7⟩ := once_ok b i6 h6 40 hb hi6
  rw [e]; simp only [Option.bind_some]; clear e
  split
  · obtain ⟨k, i8, h8, e, hi8, _, _⟩ := below_ok b i7 h7 3 hb hi7
    rw [e]; simp only [Option.bind_some]; clear e
    obtain ⟨u, i9, h9, e, hi9, u0, u1⟩ := below_ok b i8 h8 3 hb hi8
    have u1 := u1 (by omega)
    simp only [e, Option.bind_some]
    split
    · first | rw [if_pos u0, if_pos (by simpa using u1)] | rw [if_pos (by simpa using u1)]
      exact ⟨_, _, _, _, _, _, rfl, hi9⟩
    · split
      · first | rw [if_pos u0, if_pos (by simpa using u1)] | rw [if_pos (by simpa using u1)]
        exact ⟨_, _, _, _, _, _, rfl, hi9⟩
      · split
        · first | rw [if_pos u0, if_pos (by simpa using u1)] | rw [if_pos (by simpa using u1)]
          exact ⟨_, _, _, _, _, _, rfl, hi9⟩
        · exact ⟨_, _, _, _, _, _, rfl, hi8⟩
  · exact ⟨_, _, _, _, _, _, rfl, hi7⟩

/-- The last loop of a draw. -/
theorem dd_l1 (b : List Int) (hb : b.length ≤ 4096) : ∀ (d : Nat) (xs : List S50) (i h : Int), xs.length ≤ 201 → 201 - xs.length = d → 0 ≤ i →
    ∃ r : List S50 × Int × Int, Ev (fun k => spec_l11DrawDeep.l1 k xs b i h) r ∧ 0 ≤ r.2.1 ∧ r.1.length ≤ 201 := by
  intro d
  induction d with
  | zero =>
    intro xs i h hl hd hi
    obtain ⟨x, i1, h1, e, hi1, x0, x1⟩ := below_ok b i h 2 hb hi
    have x1 := x1 (by omega)
    have hw : wrap64 (200 + x) = 200 + x := by unfold wrap64; omega
    refine ⟨(xs, i1, h1), Ev.step (f := fun _ => some (xs, i1, h1)) (fun k => ?_) (Ev.now _), hi1, hl⟩
    rw [spec_l11DrawDeep.l1, e, Option.bind_some, hw, if_neg (by omega)]
  | succ d ih =>
    intro xs i h hl hd hi
    obtain ⟨x, i1, h1, e, hi1, x0, x1⟩ := below_ok b i h 2 hb hi
    have x1 := x1 (by omega)
    have hw : wrap64 (200 + x) = 200 + x := by unfold wrap64; omega
    by_cases c : (xs.length : Int) < 200 + x
    · obtain ⟨y, i2, h2, e2, hi2, y0, y1⟩ := below_ok b i1 h1 9 hb hi1
      obtain ⟨r, hr, q1, q2⟩ := ih (xs ++ [(⟨y, (⟨1, 0, 0, 3⟩ : S35)⟩ : S50)]) i2 h2 (by simp; omega) (by simp; omega) hi2
      refine ⟨r, Ev.step (fun k => ?_) hr, q1, q2⟩
      rw [spec_l11DrawDeep.l1, e, Option.bind_some, hw, if_pos c, e2, Option.bind_some, if_pos (by omega)]
    · refine ⟨(xs, i1, h1), Ev.step (f := fun _ => some (xs, i1, h1)) (fun k => ?_) (Ev.now _), hi1, hl⟩
      rw [spec_l11DrawDeep.l1, e, Option.bind_some, hw, if_neg c]
theorem dd_j2 (b : List Int) (hb : b.length ≤ 4096) (xs : List S50) (i h : Int) (hl : xs.length ≤ 201) (hi : 0 ≤ i) :
    ∃ r : List S50 × Int × Int, Ev (fun k => spec_l11DrawDeep.j2 k xs b i h) r ∧ 0 ≤ r.2.1 ∧ r.1.length ≤ 201 := by
  obtain ⟨x, i1, h1, e, hi1⟩ := once_ok b i h 40 hb hi
  cases x with
  | true =>
    obtain ⟨r, hr, q1, q2⟩ := dd_l1 b hb _ xs i1 h1 hl rfl hi1
    refine ⟨r, Ev.step (fun k => ?_) hr, q1, q2⟩
    rw [spec_l11DrawDeep.j2, e, Option.bind_some, if_pos rfl]
  | false =>
    refine ⟨(xs, i1, h1), Ev.step (f := fun _ => some (xs, i1, h1)) (fun k => ?_) (Ev.now _), hi1, hl⟩
    rw [spec_l11DrawDeep.j2, e, Option.bind_some, if_neg (by simp)]
theorem dd_j1 (b : List Int) (hb : b.length ≤ 4096) (xs : List S50) (i h : Int) (x : Bool) (hx : x = true → 0 < xs.length) (hl : xs.length ≤ 201) (hi : 0 ≤ i) :
    ∃ r : List S50 × Int × Int, Ev (fun k => spec_l11DrawDeep.j1 k xs x b i h) r ∧ 0 ≤ r.2.1 ∧ r.1.length ≤ 201 := by
  cases x with
  | true =>
    have hx := hx rfl
    obtain ⟨y, i1, h1, e, hi1, y0, y1⟩ := below_ok b i h 3 hb hi
    have y1 := y1 (by omega)
    obtain ⟨r, hr, q1, q2⟩ := dd_j2 b hb (xs.set (0 : Int).toNat (⟨rd [(-1), 10000000, 10000001] y, (⟨(rd_T50 xs 0).f1.f0, (rd_T50 xs 0).f1.f1, (rd_T50 xs 0).f1.f2, (rd_T50 xs 0).f1.f3⟩ : S35)⟩ : S50)) i1 h1 (by rw [List.length_set]; exact hl) hi1
    refine ⟨r, Ev.step (fun k => ?_) hr, q1, q2⟩
    rw [spec_l11DrawDeep.j1, if_pos rfl, Option.bind_some, e, Option.bind_some, if_pos y0, if_pos (by simpa using y1), if_pos (by omega)]
  | false =>
    obtain ⟨r, hr, q1, q2⟩ := dd_j2 b hb xs i h hl hi
    refine ⟨r, Ev.step (fun k => ?_) hr, q1, q2⟩
    rw [spec_l11DrawDeep.j1, if_neg (by simp)]
theorem dd_l0 (b : List Int) (hb : b.length ≤ 4096) : ∀ (d : Nat) (xs : List S50) (i h : Int), xs.length + d ≤ 100 → 0 ≤ i →
    ∃ r : List S50 × Int × Int, Ev (fun k => spec_l11DrawDeep.l0 k xs (d : Int) b i h) r ∧ 0 ≤ r.2.1 ∧ r.1.length ≤ 201 := by
  intro d
  induction d with
  | zero =>
    intro xs i h hl hi
    obtain ⟨x, i1, h1, e, hi1⟩ := once_ok b i h 24 hb hi
    cases x with
    | true =>
      obtain ⟨r, hr, q1, q2⟩ := dd_j1 b hb xs i1 h1 (decide ((xs.length : Int) > 0)) (fun hx => by have := of_decide_eq_true hx; omega) (by omega) hi1
      refine ⟨r, Ev.step (fun k => ?_) hr, q1, q2⟩
      rw [spec_l11DrawDeep.l0, if_neg (by omega), e, Option.bind_some, if_pos rfl]
    | false =>
      obtain ⟨r, hr, q1, q2⟩ := dd_j1 b hb xs i1 h1 false (fun hx => by simp at hx) (by omega) hi1
      refine ⟨r, Ev.step (fun k => ?_) hr, q1, q2⟩
      rw [spec_l11DrawDeep.l0, if_neg (by omega), e, Option.bind_some, if_neg (by simp)]
  | succ d ih =>
    intro xs i h hl hi
    obtain ⟨x, i1, h1, e, hi1, _, _⟩ := below_ok b i h 6 hb hi
    obtain ⟨a0, a1, a2, a3, i2, h2, e2, hi2⟩ := drawpx_ok b i1 h1 hb hi1
    obtain ⟨r, hr, q1, q2⟩ := ih (xs ++ [(⟨x, (⟨a0, a1, a2, a3⟩ : S35)⟩ : S50)]) i2 h2 (by simp; omega) hi2
    refine ⟨r, Ev.step (fun k => ?_) hr, q1, q2⟩
    have hw : wrap64 (((d + 1 : Nat) : Int) - 1) = (d : Int) := by unfold wrap64; omega
    rw [spec_l11DrawDeep.l0, if_pos (by omega), e, Option.bind_some, e2, Option.bind_some, if_pos (by omega), hw]
theorem dd_ok (b : List Int) (hb : b.length ≤ 4096) (i h : Int) (hi : 0 ≤ i) :
    ∃ r : List S50 × Int × Int, Ev (fun k => spec_l11DrawDeep.f k b i h) r ∧ 0 ≤ r.2.1 ∧ r.1.length ≤ 201 := by
  obtain ⟨x, i1, h1, e, hi1, x0, x1⟩ := below_ok b i h 8 hb hi
  have x1 := x1 (by omega)
  obtain ⟨d, rfl⟩ : ∃ d : Nat, x = (d : Int) := ⟨x.toNat, by omega⟩
  obtain ⟨r, hr, q1, q2⟩ := dd_l0 b hb d [] i1 h1 (by simp; omega) hi1
  refine ⟨r, Ev.congr (fun k => ?_) hr, q1, q2⟩
  unfold spec_l11DrawDeep.f
  rw [e, Option.bind_some]
theorem draw_merge (l : List Int) (hb : l.length ≤ 4096) : ∃ x y : List S50, Ev (fun k => spec_DrawMerge.f k l) (x, y) ∧ x.length ≤ 201 ∧ y.length ≤ 201 := by
  obtain ⟨hh, hn⟩ : ∃ hh, Ev (fun k => spec_l1New.f k l) (l, 0, hh) := by
    obtain ⟨hh, h1⟩ := new_ok l hb 4097 (by omega)
    refine ⟨hh, 4097, fun k hk => ?_⟩
    obtain ⟨h2, e2⟩ := new_ok l hb k hk
    have : ∀ d, spec_l1New.f (4097 + d) l = some (l, 0, hh) := by
      intro d
      induction d with
      | zero => exact h1
      | succ d ih => exact spec_l1New.mono l (4097 + d) _ ih
    have e := this (k - 4097)
    rw [show 4097 + (k - 4097) = k by omega] at e
    exact e
  obtain ⟨⟨x, i1, h1⟩, e1, q1, q2⟩ := dd_ok l hb 0 hh (by omega)
  obtain ⟨⟨y, i2, h2⟩, e2, q3, q4⟩ := dd_ok l hb i1 h1 q1
  refine ⟨x, y, ?_, q2, q4⟩
  unfold spec_DrawMerge.f
  exact Ev.bind hn (Ev.bind e1 (Ev.bind e2 (Ev.now _)))

/-- A full pixel. -/
def fullD : S50 := ⟨0, ⟨9, 8, 7, 255⟩⟩
/-- A sample, a hundred behind. -/
def shD (x : S50) : S50 := ⟨wrap64 (x.f0 + 100), ⟨x.f1.f0, x.f1.f1, x.f1.f2, x.f1.f3⟩⟩
theorem okL_all {l : List S50} (h : okL l = true) : l.length ≤ 200 ∧ ∀ x ∈ l, okS x = true := by
  unfold okL at h
  simp only [Bool.and_eq_true, decide_eq_true_eq, List.all_eq_true] at h
  exact h
theorem okL_mk {l : List S50} (h : l.length ≤ 200) (h2 : ∀ x ∈ l, okS x = true) : okL l = true := by
  unfold okL
  simp only [Bool.and_eq_true, decide_eq_true_eq, List.all_eq_true]
  exact ⟨h, h2⟩
theorem okS_at (x : S50) (h : okS x = true) : 0 ≤ x.f0 ∧ x.f0 ≤ 10000000 := by
  unfold okS at h
  simp only [Bool.and_eq_true, decide_eq_true_eq] at h
  exact h.1
theorem okS_mk (x : S50) (h : 0 ≤ x.f0 ∧ x.f0 ≤ 10000000) (h2 : Px x.f1.f0 x.f1.f1 x.f1.f2 x.f1.f3) : okS x = true := by
  unfold okS
  rw [pxs_some]
  simp only [Option.getD_some, Bool.and_eq_true, decide_eq_true_eq]
  exact ⟨h, h2⟩
theorem okS_full : okS fullD = true := okS_mk _ (by decide) (by decide)
theorem okS_sh (x : S50) (h : okS x = true) (h2 : x.f0 ≤ 9999900) : okS (shD x) = true := by
  have h3 := okS_at x h
  have hw : wrap64 (x.f0 + 100) = x.f0 + 100 := by unfold wrap64; omega
  refine okS_mk _ ?_ (okS_px x h)
  show 0 ≤ wrap64 (x.f0 + 100) ∧ wrap64 (x.f0 + 100) ≤ 10000000
  rw [hw]
  omega
/-- What stands first of all, and first of its kind, stands first when all is in order. -/
theorem head_full (l r : List S50) (h : Alike (fullD :: l) r) (hs : Srt r 0 r.length) (h0 : ∀ x ∈ l, 0 ≤ x.f0) : ∃ r', r = fullD :: r' := by
  cases r with
  | nil => exact absurd h.1 (by simp)
  | cons y r' =>
    have hf := h.2 0
    have e1 : (fullD :: l).filter (fun x => decide (x.f0 = 0)) = fullD :: l.filter (fun x => decide (x.f0 = 0)) := List.filter_cons_of_pos (by decide)
    rw [e1] at hf
    have hm : fullD ∈ (y :: r') := (List.mem_filter.1 (by rw [← hf]; exact List.mem_cons_self)).1
    have hy : y ∈ fullD :: l := alike_mem h y List.mem_cons_self
    have hy0 : 0 ≤ y.f0 := by
      rcases List.mem_cons.1 hy with e | e
      · rw [e]; decide
      · exact h0 y e
    have hz : y.f0 = 0 := by
      obtain ⟨j, hj, he⟩ := List.getElem_of_mem hm
      by_cases c : j = 0
      · subst c
        have e2 : y = fullD := he
        rw [e2]; rfl
      · have h3 := hs 0 j (Nat.le_refl _) (by omega) hj
        rw [el_get _ 0 (by simp), el_get _ j hj, he] at h3
        have h4 : y.f0 ≤ fullD.f0 := h3
        have h5 : fullD.f0 = 0 := rfl
        omega
    rw [List.filter_cons_of_pos (by simpa using hz)] at hf
    exact ⟨r', by rw [(List.cons.inj hf).1]⟩
/-- Flat where a full pixel is in front. -/
theorem flat_full (l : List S50) (hl : l.length ≤ 199) (h : ∀ x ∈ l, okS x = true) : Ev (fun k => impl_Flat.f k (fullD :: l)) (9, 8, 7, 255) := by
  have hok : okL (fullD :: l) = true := okL_mk (by simp; omega) (fun x hx => by
    rcases List.mem_cons.1 hx with e | e
    · rw [e]; exact okS_full
    · exact h x e)
  obtain ⟨i1, _⟩ := deep_eq (fullD :: l)
  rw [hok] at i1
  obtain ⟨r, h1, _, h3, h4⟩ := sort_eq (fullD :: l) (by simp; omega)
  have hrl := h3.1
  have hp : ∀ x ∈ r, Px x.f1.f0 x.f1.f1 x.f1.f2 x.f1.f3 := fun x hx => okS_px x ((okL_all hok).2 x (alike_mem h3 x hx))
  obtain ⟨r', rfl⟩ := head_full l r h3 h4 (fun x hx => (okS_at x (h x hx)).1)
  rw [List.length_cons] at hrl
  obtain ⟨q, hq, _, g2⟩ := fold_eq r' (by simp at hrl; omega) (fun x hx => hp x (List.mem_cons_of_mem _ hx)) r'.length 0 0 0 0 (Nat.le_refl _) ⟨by omega, by omega, by omega, by omega, by omega, by omega, by omega, by omega⟩
  rw [List.take_length] at g2
  have e : (fullD :: r').reverse.foldl impl_Flat.step (some (0, 0, 0, 0)) = some (9, 8, 7, 255) := by
    rw [List.reverse_cons, List.foldl_append, g2]
    have e3 : impl_Flat.step (some q) fullD = some _ := over_val (hp fullD List.mem_cons_self) hq
    rw [List.foldl_cons, List.foldl_nil, e3]
    simp [fullD, sh_none]
  unfold impl_Flat.f
  refine Ev.bind i1 (Ev.congr (fun k => if_pos rfl) (Ev.bind h1 (Ev.congr (f := fun _ => some (9, 8, 7, 255)) (fun k => ?_) (Ev.now _))))
  rw [if_pos (by simp at hrl ⊢; omega)]
  exact e
theorem few (n : Nat) (h : n ≤ 200) : 1 + n < 3518437208883 := by omega
theorem deeps_fin (k : Nat) (a b r far m n : List S50) (q p : Int × Int × Int × Int) (hl : r.length ≤ 30) (hrl : r.length = a.length + b.length)
    (m1 : impl_Merge.f k a far = some m) (m2 : spec_Merge.f k a far = some m) (f1 : impl_Flat.f k m = some q) (f2 : spec_Flat.f k m = some q) (g1 : impl_Flat.f k r = some p) (g2 : spec_Flat.f k r = some p)
    (n1 : impl_Merge.f k (fullD :: a) far = some n) (u1 : impl_Flat.f k n = some (9, 8, 7, 255)) (u2 : impl_Flat.f k (fullD :: a) = some (9, 8, 7, 255)) : laws_FnDeeps.l2 (k + 1) a b r far (a.length : Int) = some true := by
  have hw : (r.length : Int) = wrap64 ((a.length : Int) + (b.length : Int)) := by rw [wadd a.length b.length (by omega), ← hrl]
  have e1 : 1 + a.length < 3518437208883 := few a.length (by omega)
  rw [laws_FnDeeps.l2, if_neg (by omega), Option.bind_some]
  rw [if_pos (show ([(⟨0, (⟨9, 8, 7, 255⟩ : S35)⟩ : S50)] : List S50).length + a.length < 3518437208883 from e1), Option.bind_some, if_pos hw]
  rw [m1, Option.bind_some, f1, Option.bind_some, m2, Option.bind_some, f2, Option.bind_some, if_pos (by simp), g1, Option.bind_some, g2, Option.bind_some, if_pos (by simp)]
  show ((impl_Merge.f k (fullD :: a) far).bind _) = _
  rw [n1, Option.bind_some, u1, Option.bind_some]
  show ((impl_Flat.f k (fullD :: a)).bind _) = _
  rw [u2, Option.bind_some]
  simp
set_option maxHeartbeats 1600000 in
/-- The last words of the law. -/
theorem deeps_end (a b r : List S50) (ha : okL a = true) (hb : ∀ x ∈ b, okS x = true ∧ x.f0 ≤ 9999900) (hr : Alike (a ++ b) r) (hn : r.length ≤ 30) : Ev (fun k => laws_FnDeeps.l2 k a b r (b.map shD) (a.length : Int)) true := by
  have hrl := hr.1
  rw [List.length_append] at hrl
  obtain ⟨m, _, m1, m2, _, m4⟩ := merge_eq a (b.map shD)
  obtain ⟨q, f1, f2⟩ := flat_eq m
  obtain ⟨p, g1, g2⟩ := flat_eq r
  obtain ⟨n, _, n1, _, _, n4⟩ := merge_eq (fullD :: a) (b.map shD)
  have hfar : ∀ x ∈ b.map shD, okS x = true := fun x hx => by
    obtain ⟨y, hy, rfl⟩ := List.mem_map.1 hx
    exact okS_sh y (hb y hy).1 (hb y hy).2
  have hfr : ∀ x ∈ fullD :: a, okS x = true := fun x hx => by
    rcases List.mem_cons.1 hx with e | e
    · rw [e]; exact okS_full
    · exact (okL_all ha).2 x e
  obtain ⟨A, S⟩ := n4 (okL_mk (by simp; omega) hfr) (okL_mk (by simp; omega) hfar) (by simp; omega)
  have hall : ∀ x ∈ a ++ b.map shD, okS x = true := fun x hx => by
    rcases List.mem_append.1 hx with e | e
    · exact (okL_all ha).2 x e
    · exact hfar x e
  have hnl := A.1
  obtain ⟨n', rfl⟩ := head_full (a ++ b.map shD) n A S (fun x hx => (okS_at x (hall x hx)).1)
  have hn' : ∀ x ∈ n', okS x = true := fun x hx => by
    rcases List.mem_cons.1 (alike_mem A x (List.mem_cons_of_mem _ hx)) with e | e
    · rw [e]; exact okS_full
    · exact hall x e
  have u1 := flat_full n' (by simp at hnl; omega) hn'
  have u2 := flat_full a (by omega) (okL_all ha).2
  obtain ⟨K1, m1⟩ := m1
  obtain ⟨K2, m2⟩ := m2
  obtain ⟨K3, f1⟩ := f1
  obtain ⟨K4, f2⟩ := f2
  obtain ⟨K5, g1⟩ := g1
  obtain ⟨K6, g2⟩ := g2
  obtain ⟨K7, n1⟩ := n1
  obtain ⟨K8, u1⟩ := u1
  obtain ⟨K9, u2⟩ := u2
  refine ⟨K1 + K2 + K3 + K4 + K5 + K6 + K7 + K8 + K9 + 1, fun k hk => ?_⟩
  obtain ⟨k, rfl⟩ : ∃ j, k = j + 1 := ⟨k - 1, by omega⟩
  have m1 := m1 k (by omega)
  have m2 := m2 k (by omega)
  have f1 := f1 k (by omega)
  have f2 := f2 k (by omega)
  have g1 := g1 k (by omega)
  have g2 := g2 k (by omega)
  have n1 := n1 k (by omega)
  have u1 := u1 k (by omega)
  have u2 := u2 k (by omega)
  dsimp only at m1 m2 f1 f2 g1 g2 n1 u1 u2
  exact deeps_fin k a b r (b.map shD) m (fullD :: n') q p (by omega) hrl.symm m1 m2 f1 f2 g1 g2 n1 u1 u2
theorem deeps_l2 (a b r : List S50) (ha : okL a = true) (hb : ∀ x ∈ b, okS x = true ∧ x.f0 ≤ 9999900) (hr : Alike (a ++ b) r) (hn : r.length ≤ 30) : ∀ (d i : Nat), a.length - i = d → i ≤ a.length → Ev (fun k => laws_FnDeeps.l2 k a b r (b.map shD) (i : Int)) true := by
  have hal := (okL_all ha).1
  intro d
  induction d with
  | zero =>
    intro i hd hi
    obtain rfl : i = a.length := by omega
    exact deeps_end a b r ha hb hr hn
  | succ d ih =>
    intro i hd hi
    by_cases c : (rd_T50 a (i : Int)).f0 ≥ 100
    · refine Ev.step (f := fun _ => some true) (fun k => ?_) (Ev.now _)
      rw [laws_FnDeeps.l2, if_pos (by omega), if_pos (by omega), if_pos c]
    · refine Ev.step (fun k => ?_) (ih (i + 1) (by omega) (by omega))
      rw [laws_FnDeeps.l2, if_pos (by omega), if_pos (by omega), if_neg c, wadd1 i (by omega)]
theorem deeps_l1 (a b r : List S50) (ha : okL a = true) (hb : okL b = true) (hr : Alike (a ++ b) r) (hn : r.length ≤ 30) : ∀ (d i : Nat), b.length - i = d → i ≤ b.length → (∀ x ∈ b.take i, x.f0 ≤ 9999900) → Ev (fun k => laws_FnDeeps.l1 k a b r ((b.take i).map shD) (i : Int)) true := by
  have hbl := (okL_all hb).1
  intro d
  induction d with
  | zero =>
    intro i hd hi h
    obtain rfl : i = b.length := by omega
    rw [List.take_length] at h ⊢
    refine Ev.step (fun k => ?_) (deeps_l2 a b r ha (fun x hx => ⟨(okL_all hb).2 x hx, h x hx⟩) hr hn a.length 0 (by omega) (by omega))
    rw [laws_FnDeeps.l1, if_neg (by omega)]
    rfl
  | succ d ih =>
    intro i hd hi h
    by_cases c : (rd_T50 b (i : Int)).f0 > 9999900
    · refine Ev.step (f := fun _ => some true) (fun k => ?_) (Ev.now _)
      rw [laws_FnDeeps.l1, if_pos (by omega), if_pos (by omega), if_pos c]
    · have e : b.take (i + 1) = b.take i ++ [el b i] := by rw [List.take_succ_eq_append_getElem (by omega), el_get b i (by omega)]
      have h2 := ih (i + 1) (by omega) (by omega) (fun x hx => by
        rw [e] at hx
        rcases List.mem_append.1 hx with q | q
        · exact h x q
        · rw [List.mem_singleton.1 q]; show (rd_T50 b (i : Int)).f0 ≤ _; omega)
      rw [e, List.map_append] at h2
      refine Ev.step (fun k => ?_) h2
      rw [laws_FnDeeps.l1, if_pos (by omega), if_pos (by omega), if_neg c, if_pos (by rw [List.length_map, List.length_take]; omega), wadd1 i (by omega)]
      rfl
theorem deeps_l0 (a b r : List S50) (hab : r = [] ∨ (okL a = true ∧ okL b = true ∧ a.length + b.length ≤ 200 ∧ Alike (a ++ b) r ∧ Srt r 0 r.length)) (hn : r.length ≤ 200) : ∀ (d i : Nat), r.length - i = d → 1 ≤ i → (i ≤ r.length ∨ i = 1) → Ev (fun k => laws_FnDeeps.l0 k a b r (i : Int)) true := by
  intro d
  induction d with
  | zero =>
    intro i hd h1 hi
    by_cases c : r = []
    · subst c
      refine Ev.step (f := fun k => laws_FnDeeps.j2 k a b [] true) (fun k => ?_) (Ev.step (f := fun _ => some true) (fun k => ?_) (Ev.now _))
      · rw [laws_FnDeeps.l0, if_neg (by rw [List.length_nil]; omega), if_pos (by simp)]
      · rw [laws_FnDeeps.j2, if_pos rfl, if_pos (by simp)]
    · obtain ⟨h2, h3, h4, h5, h6⟩ := hab.resolve_left c
      have hl : r.length ≠ 0 := fun e => c (List.eq_nil_of_length_eq_zero e)
      have hrl := h5.1
      rw [List.length_append] at hrl
      refine Ev.step (f := fun k => laws_FnDeeps.j2 k a b r (decide ((r.length : Int) > 30))) (fun k => ?_) ?_
      · rw [laws_FnDeeps.l0, if_neg (by omega), if_neg (by omega)]
      · by_cases c2 : (r.length : Int) > 30
        · refine Ev.step (f := fun _ => some true) (fun k => ?_) (Ev.now _)
          rw [laws_FnDeeps.j2, decide_eq_true c2, if_pos rfl, if_neg (by omega), wadd a.length b.length (by omega), hrl, beq_self_eq_true]
        · refine Ev.step (fun k => ?_) (deeps_l1 a b r h2 h3 h5 (by omega) b.length 0 (by omega) (by omega) (by simp))
          rw [laws_FnDeeps.j2, decide_eq_false c2, if_neg (by simp)]
          rfl
  | succ d ih =>
    intro i hd h1 hi
    have hir : i < r.length := by omega
    have c : r ≠ [] := fun e => by rw [e] at hir; simp at hir
    obtain ⟨h2, h3, h4, h5, h6⟩ := hab.resolve_left c
    refine Ev.step (fun k => ?_) (ih (i + 1) (by omega) (by omega) (by omega))
    have hs := h6 (i - 1) i (by omega) (by omega) hir
    have hw := wsub1 i h1 (by omega)
    rw [laws_FnDeeps.l0, if_pos (by omega), if_pos (by omega), hw, if_pos (by omega), if_pos (by omega), if_neg (by show ¬ (el r i).f0 < (el r (i - 1)).f0; omega), wadd1 i (by omega)]

theorem FnDeeps : laws_FnDeeps.Pure := by
  intro l0 hm0 hr0 hwf0
  unfold laws_FnDeeps.f laws_big.f
  by_cases c : (l0.length : Int) > 4096
  · exact ⟨1, by simp [c]⟩
  obtain ⟨a, b, hd, la, lb⟩ := draw_merge l0 (by omega)
  obtain ⟨r, hr, m1, m2, h3, _⟩ := merge_eq a b
  obtain ⟨q, f1, f2⟩ := flat_eq a
  have h := deeps_l0 a b r h3 hr (r.length - 1) 1 rfl (by omega) (.inr rfl)
  have h' : Ev (fun k => laws_FnDeeps.j0 k a b r false) true := Ev.step (fun k => by rw [laws_FnDeeps.j0, if_neg (by simp)]; rfl) h
  obtain ⟨K0, hd⟩ := hd
  obtain ⟨K1, m1⟩ := m1
  obtain ⟨K2, m2⟩ := m2
  obtain ⟨K3, f1⟩ := f1
  obtain ⟨K4, f2⟩ := f2
  obtain ⟨K5, h'⟩ := h'
  obtain ⟨m, hm⟩ : ∃ m, m = K0 + K1 + K2 + K3 + K4 + K5 := ⟨_, rfl⟩
  have hd := hd m (by omega)
  have m1 := m1 m (by omega)
  have m2 := m2 m (by omega)
  have f1 := f1 m (by omega)
  have f2 := f2 m (by omega)
  have h' := h' m (by omega)
  dsimp only at hd m1 m2 f1 f2 h'
  refine ⟨m, ?_⟩
  have c' : decide ((l0.length : Int) > 4096) = false := decide_eq_false c
  simp only [hd, m1, m2, f1, f2, Option.bind_some, beq_self_eq_true, Bool.not_true, Bool.or_self, if_true, c', Bool.false_eq_true, if_false]
  exact h'

end Go.Proofs.Ytbafihapjbkagaa.Pure
