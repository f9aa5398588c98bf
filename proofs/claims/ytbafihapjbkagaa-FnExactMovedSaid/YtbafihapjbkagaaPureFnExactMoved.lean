/- Proved: the plain law behind FnExactMoved. No condition. -/
import Derived.Test.YtbafihapjbkagaaPFnExactMovedx4
namespace Go.Proofs.Ytbafihapjbkagaa.Pure
open Go.RowKit Go.Proofs.Ytbafihapjbkagaa.PFnExactMoved Go.Proofs.YtbafihapjbkagaaW.PrintWords Go.Proofs.YtbafihapjbkagaaW.PrintLast

set_option linter.unusedVariables false
set_option linter.unusedSimpArgs false

theorem run_to {α : Type} (F : Nat → Int → Option α) (n : Int) (r : α) (step : ∀ k i, 0 ≤ i → i < n → F (k + 1) i = F k (i + 1)) (stop : ∀ k, F (k + 1) n = some r) :
    ∀ (d k : Nat) (i : Int), 0 ≤ i → i ≤ n → n - i = d → d < k → F k i = some r := by
  intro d
  induction d with
  | zero =>
    intro k i h0 h1 hd hk
    obtain ⟨k, rfl⟩ : ∃ m, k = m + 1 := ⟨k - 1, by omega⟩
    obtain rfl : i = n := by omega
    exact stop k
  | succ d ih =>
    intro k i h0 h1 hd hk
    obtain ⟨k, rfl⟩ : ∃ m, k = m + 1 := ⟨k - 1, by omega⟩
    rw [step k i h0 (by omega)]
    exact ih k (i + 1) (by omega) (by omega) (by omega) (by omega)

theorem set_to {α β : Type} (F : Nat → List β → Int → Option (List β)) (l : List α) (conv : α → β)
    (step : ∀ k acc i x, 0 ≤ i → l[i.toNat]? = some x → acc.length = l.length → F (k + 1) acc i = F k (acc.set i.toNat (conv x)) (i + 1)) (stop : ∀ k acc, F (k + 1) acc (l.length : Int) = some acc) :
    ∀ (d k : Nat) (acc : List β) (i : Int), 0 ≤ i → i ≤ l.length → (l.length : Int) - i = d → d < k → acc.length = l.length → F k acc i = some (acc.take i.toNat ++ (l.drop i.toNat).map conv) := by
  intro d
  induction d with
  | zero =>
    intro k acc i h0 h1 hd hk ha
    obtain ⟨k, rfl⟩ : ∃ m, k = m + 1 := ⟨k - 1, by omega⟩
    obtain rfl : i = (l.length : Int) := by omega
    rw [stop k]
    simp [← ha]
  | succ d ih =>
    intro k acc i h0 h1 hd hk ha
    obtain ⟨k, rfl⟩ : ∃ m, k = m + 1 := ⟨k - 1, by omega⟩
    have hlt : i.toNat < l.length := by omega
    have hx : l[i.toNat]? = some l[i.toNat] := List.getElem?_eq_getElem hlt
    rw [step k acc i _ h0 hx ha, ih k _ (i + 1) (by omega) (by omega) (by omega) (by omega) (by simpa using ha)]
    have e : (i + 1).toNat = i.toNat + 1 := by omega
    rw [e]
    congr 1
    rw [List.take_succ_eq_append_getElem (by simp; omega)]
    rw [List.drop_eq_getElem_cons hlt, List.map_cons, List.getElem_set_self, List.take_set_of_le (Nat.le_refl _), List.append_assoc]
    rfl

theorem in_some (a b c : Int) : impl_in.f a b c = some (decide (b ≤ a ∧ a ≤ c)) := by
  unfold impl_in.f
  by_cases h : b ≤ a
  · simp [h]
  · simp [h]

theorem in_spec (a b c : Int) : spec_l1In.f a b c = some (decide (b ≤ a ∧ a ≤ c)) := in_some a b c

theorem px_eq (a b c d : Int) : impl_PxOk.f a b c d = spec_PxOk.f a b c d := rfl

theorem px_some (a b c d : Int) : ∃ r, spec_PxOk.f a b c d = some r := by
  unfold spec_PxOk.f spec_l11Byte.f
  simp only [in_spec, Option.bind_some]
  repeat' split
  all_goals exact ⟨_, rfl⟩

theorem rd35 (l : List S35) (i : Int) (x : S35) (h : l[i.toNat]? = some x) : rd_T35 l i = x := by
  unfold rd_T35
  rw [List.getD_eq_getElem?_getD, h]
  rfl

/-- The pixel at (x, y) of the moved picture. -/
def cell (l : List S35) (w h dx dy x y : Int) : S35 := if 0 ≤ x - dx ∧ x - dx ≤ w - 1 then (if 0 ≤ y - dy ∧ y - dy ≤ h - 1 then rd_T35 l ((y - dy) * w + (x - dx)) else z35) else z35

def goal (l : List S35) (w h dx dy : Int) : List S35 := (List.range (w * h).toNat).map fun n : Nat => cell l w h dx dy ((n : Int) % w) ((n : Int) / w)

structure Fit (l : List S35) (w h dx dy : Int) : Prop where
  w1 : 1 ≤ w
  w2 : w ≤ 64
  h1 : 1 ≤ h
  h2 : h ≤ 64
  len : (l.length : Int) = w * h
  x1 : -10000000 ≤ dx
  x2 : dx ≤ 10000000
  y1 : -10000000 ≤ dy
  y2 : dy ≤ 10000000

theorem wr {a : Int} (h1 : -9223372036854775808 ≤ a) (h2 : a ≤ 9223372036854775807) : wrap64 a = a := by unfold wrap64; omega

theorem area {w h : Int} (w1 : 1 ≤ w) (w2 : w ≤ 64) (h1 : 1 ≤ h) (h2 : h ≤ 64) : 1 ≤ w * h ∧ w * h ≤ 4096 := by
  constructor
  · have := Int.mul_le_mul w1 h1 (by omega) (by omega)
    omega
  · have := Int.mul_le_mul w2 h2 (by omega) (by omega)
    omega

theorem place {w h x y : Int} (w1 : 1 ≤ w) (x1 : 0 ≤ x) (x2 : x ≤ w - 1) (y1 : 0 ≤ y) (y2 : y ≤ h - 1) : 0 ≤ y * w ∧ y * w + x < w * h := by
  have a := Int.mul_nonneg y1 (by omega : 0 ≤ w)
  have b := Int.mul_le_mul_of_nonneg_right y2 (by omega : 0 ≤ w)
  rw [Int.sub_mul, Int.one_mul, Int.mul_comm h w] at b
  constructor <;> omega

theorem small {w y dy : Int} (w1 : 1 ≤ w) (w2 : w ≤ 64) (a : -10000064 ≤ y - dy) (b : y - dy ≤ 10000064) : -640004096 ≤ (y - dy) * w ∧ (y - dy) * w ≤ 640004096 := by
  have p : (y - dy) * w ≤ 10000064 * w := Int.mul_le_mul_of_nonneg_right b (by omega)
  have q : -10000064 * w ≤ (y - dy) * w := Int.mul_le_mul_of_nonneg_right a (by omega)
  constructor <;> omega

theorem goal_len (l : List S35) (w h dx dy : Int) : (goal l w h dx dy).length = (w * h).toNat := by simp [goal]

theorem goal_at (l : List S35) (w h dx dy : Int) (n : Nat) (hn : n < (goal l w h dx dy).length) : (goal l w h dx dy)[n] = cell l w h dx dy ((n : Int) % w) ((n : Int) / w) := by
  simp [goal]

theorem split_place {w x y : Int} (w1 : 1 ≤ w) (x1 : 0 ≤ x) (x2 : x ≤ w - 1) : (y * w + x) / w = y ∧ (y * w + x) % w = x := by
  have e : y * w + x = x + y * w := by omega
  have d : (y * w + x) / w = y := by
    rw [e, Int.add_mul_ediv_right _ _ (by omega : w ≠ 0), Int.ediv_eq_zero_of_lt x1 (by omega)]
    omega
  refine ⟨d, ?_⟩
  rw [Int.emod_def, d, Int.mul_comm w y]
  omega

theorem take_next (l : List S35) (w h dx dy : Int) (F : Fit l w h dx dy) (x y : Int) (x1 : 0 ≤ x) (x2 : x ≤ w - 1) (y1 : 0 ≤ y) (y2 : y ≤ h - 1) :
    (goal l w h dx dy).take (y * w + x).toNat ++ [cell l w h dx dy x y] = (goal l w h dx dy).take (y * w + (x + 1)).toNat := by
  obtain ⟨p, q⟩ := place F.w1 x1 x2 y1 y2
  have e : (y * w + (x + 1)).toNat = (y * w + x).toNat + 1 := by omega
  have hlt : (y * w + x).toNat < (goal l w h dx dy).length := by rw [goal_len]; omega
  rw [e, List.take_succ_eq_append_getElem hlt, goal_at]
  have c : (((y * w + x).toNat : Nat) : Int) = y * w + x := by omega
  rw [c, (split_place F.w1 x1 x2).1, (split_place F.w1 x1 x2).2]

theorem l2_step (l : List S35) (w h dx dy : Int) (F : Fit l w h dx dy) (k : Nat) (acc : List S35) (ha : acc.length ≤ 4096) (x y : Int) (x1 : 0 ≤ x) (x2 : x ≤ w - 1) (y1 : 0 ≤ y) (y2 : y ≤ h - 1) :
    spec_Moved.l2 (k + 1) w h l dx dy acc y x = spec_Moved.l2 k w h l dx dy (acc ++ [cell l w h dx dy x y]) y (x + 1) := by
  obtain ⟨w1, w2, h1, h2, len, a1, a2, b1, b2⟩ := F
  simp only [spec_Moved.l2]
  obtain ⟨s1, s2⟩ := small (dy := dy) (y := y) w1 w2 (by omega) (by omega)
  rw [wr (a := x - dx) (by omega) (by omega), wr (a := w - 1) (by omega) (by omega), wr (a := y - dy) (by omega) (by omega), wr (a := h - 1) (by omega) (by omega), wr (a := (y - dy) * w) (by omega) (by omega), wr (a := (y - dy) * w + x) (by omega) (by omega), wr (a := (y - dy) * w + x - dx) (by omega) (by omega), wr (a := x + 1) (by omega) (by omega)]
  rw [if_pos (by omega), in_spec, in_spec]
  simp only [Option.bind_some, decide_eq_true_eq]
  unfold cell
  by_cases c1 : 0 ≤ x - dx ∧ x - dx ≤ w - 1
  · rw [if_pos c1, if_pos c1]
    by_cases c2 : 0 ≤ y - dy ∧ y - dy ≤ h - 1
    · obtain ⟨p, q⟩ := place w1 c1.1 c1.2 c2.1 c2.2
      have e : (y - dy) * w + x - dx = (y - dy) * w + (x - dx) := by omega
      rw [if_pos c2, if_pos c2, e, if_pos (by omega), if_pos (by omega), if_pos (by omega)]
    · rw [if_neg c2, if_neg c2, if_pos (by omega)]
      rfl
  · rw [if_neg c1, if_neg c1, if_pos (by omega)]
    rfl

theorem l2_run (l : List S35) (w h dx dy : Int) (F : Fit l w h dx dy) (y : Int) (y1 : 0 ≤ y) (y2 : y ≤ h - 1) : ∀ (d k : Nat) (x : Int), 0 ≤ x → x ≤ w → w - x = d →
    spec_Moved.l2 (k + d + 1) w h l dx dy ((goal l w h dx dy).take (y * w + x).toNat) y x = spec_Moved.l1 k w h l dx dy ((goal l w h dx dy).take ((y + 1) * w).toNat) (y + 1) := by
  intro d
  induction d with
  | zero =>
    intro k x x1 x2 hd
    have e : (y + 1) * w = y * w + x := by rw [Int.add_mul, Int.one_mul]; omega
    have := F.h2
    simp only [Nat.add_zero, spec_Moved.l2]
    rw [if_neg (by omega), e, wr (a := y + 1) (by omega) (by omega)]
  | succ d ih =>
    intro k x x1 x2 hd
    have ar := area F.w1 F.w2 F.h1 F.h2
    rw [show k + (d + 1) + 1 = (k + d + 1) + 1 by omega, l2_step l w h dx dy F _ _ (by rw [List.length_take, goal_len]; omega) x y x1 (by omega) y1 y2, take_next l w h dx dy F x y x1 (by omega) y1 y2]
    exact ih k (x + 1) (by omega) (by omega) (by omega)

theorem l1_run (l : List S35) (w h dx dy : Int) (F : Fit l w h dx dy) : ∀ (e k : Nat) (y : Int), 0 ≤ y → y ≤ h → h - y = e →
    spec_Moved.l1 (k + e * (w.toNat + 2) + 1) w h l dx dy ((goal l w h dx dy).take (y * w).toNat) y = some (goal l w h dx dy) := by
  intro e
  induction e with
  | zero =>
    intro k y y1 y2 hd
    obtain rfl : y = h := by omega
    simp only [spec_Moved.l1]
    rw [if_neg (by omega), List.take_of_length_le (by rw [goal_len, Int.mul_comm]; omega)]
  | succ e ih =>
    intro k y y1 y2 hd
    have := F.w1
    have ef : k + (e + 1) * (w.toNat + 2) + 1 = ((k + e * (w.toNat + 2) + 1) + w.toNat + 1) + 1 := by rw [Nat.succ_mul]; omega
    rw [ef]
    have hstep : spec_Moved.l1 (((k + e * (w.toNat + 2) + 1) + w.toNat + 1) + 1) w h l dx dy ((goal l w h dx dy).take (y * w).toNat) y = spec_Moved.l2 ((k + e * (w.toNat + 2) + 1) + w.toNat + 1) w h l dx dy ((goal l w h dx dy).take (y * w + 0).toNat) y 0 := by
      rw [Int.add_zero]
      generalize (k + e * (w.toNat + 2) + 1) + w.toNat + 1 = q
      simp only [spec_Moved.l1]
      rw [if_pos (by omega)]
    rw [hstep, l2_run l w h dx dy F y y1 (by omega) w.toNat (k + e * (w.toNat + 2) + 1) 0 (by omega) (by omega) (by omega)]
    exact ih k (y + 1) (by omega) (by omega) (by omega)

/-- Every pixel from place i on is one. -/
def OkFrom (l : List S35) (i : Int) : Prop := ∀ j : Int, i ≤ j → j < (l.length : Int) → spec_PxOk.f (rd_T35 l j).f0 (rd_T35 l j).f1 (rd_T35 l j).f2 (rd_T35 l j).f3 = some true

/-- Both look through the picture for a pixel that is none. -/
theorem look (w h : Int) (l : List S35) (hl : l.length ≤ 4096) (dx dy : Int) : ∀ (d k : Nat) (i : Int), 0 ≤ i → i ≤ (l.length : Int) → (l.length : Int) - i = d →
    ∃ b : Bool, (∃ r, impl_Px_52.l0 (k + d + 1) l fv34 (l.length : Int) i = some r ∧ decide (r ≥ 0) = b) ∧ spec_Moved.l0 (k + d + 1) w h l dx dy [] i = (if b = true then some [] else spec_Moved.l1 k w h l dx dy [] 0) ∧ (b = false ↔ OkFrom l i) := by
  intro d
  induction d with
  | zero =>
    intro k i h0 h1 hd
    refine ⟨false, ⟨-1, ?_, rfl⟩, ?_, ⟨fun _ j _ _ => by omega, fun _ => rfl⟩⟩
    · simp only [Nat.add_zero, impl_Px_52.l0]; rw [if_neg (by omega)]
    · simp only [Nat.add_zero, spec_Moved.l0]; rw [if_neg (by omega)]; rfl
  | succ d ih =>
    intro k i h0 h1 hd
    obtain ⟨b, ⟨r, hr, hb⟩, hs, hok⟩ := ih k (i + 1) (by omega) (by omega) (by omega)
    rw [show k + (d + 1) + 1 = (k + d + 1) + 1 by omega]
    generalize k + d + 1 = q at *
    have wi : wrap64 (i + 1) = i + 1 := wr (by omega) (by omega)
    obtain ⟨p, hp⟩ := px_some (rd_T35 l i).f0 (rd_T35 l i).f1 (rd_T35 l i).f2 (rd_T35 l i).f3
    have hG : GP.f fv34 (rd_T35 l i).f0 (rd_T35 l i).f1 (rd_T35 l i).f2 (rd_T35 l i).f3 = some (!p) := by
      unfold GP.f fv34 impl_Moved_1.f
      rw [px_eq, hp]
      rfl
    simp only [impl_Px_52.l0, spec_Moved.l0]
    rw [if_pos (by omega : i < (l.length : Int)), if_pos (by omega : i < (l.length : Int)), if_pos h0, if_pos h0, if_pos (by omega : i < (l.length : Int)), hG, hp, wi]
    simp only [Option.bind_some]
    cases p with
    | true =>
      refine ⟨b, ⟨r, ?_, hb⟩, ?_, ?_⟩
      · rw [if_neg (by simp)]; exact hr
      · rw [if_pos rfl]; exact hs
      · refine hok.trans ⟨fun H j hj hl => ?_, fun H j hj hl => H j (by omega) hl⟩
        by_cases e : j = i
        · subst e; exact hp
        · exact H j (by omega) hl
    | false =>
      refine ⟨true, ⟨i, by rw [if_pos (by rfl)], decide_eq_true h0⟩, ?_, ⟨fun h => by simp at h, fun H => ?_⟩⟩
      · rw [if_neg (by simp), if_pos rfl]
      · have := H i (by omega) (by omega)
        rw [hp] at this
        simp at this

theorem set_next (G : List S35) (n i : Nat) (hG : G.length = n) (hi : i < n) (h : i < G.length) : (G.take i ++ List.replicate (n - i) z35).set i G[i] = G.take (i + 1) ++ List.replicate (n - (i + 1)) z35 := by
  have hl : (G.take i).length = i := by rw [List.length_take]; omega
  have e : n - i = (n - (i + 1)) + 1 := by omega
  rw [List.set_append_right _ _ (by omega), hl, Nat.sub_self, e, List.replicate_succ, List.set_cons_zero, List.take_succ_eq_append_getElem h, List.append_assoc]
  rfl

theorem keep_next (G : List S35) (n i : Nat) (hG : G.length = n) (hi : i < n) (h : i < G.length) (hz : G[i] = z35) : G.take i ++ List.replicate (n - i) z35 = G.take (i + 1) ++ List.replicate (n - (i + 1)) z35 := by
  have e : n - i = (n - (i + 1)) + 1 := by omega
  rw [e, List.replicate_succ, List.take_succ_eq_append_getElem h, List.append_assoc, hz]
  rfl

theorem impl_run (l : List S35) (w h dx dy : Int) (F : Fit l w h dx dy) : ∀ (d k : Nat) (i : Int), 0 ≤ i → i ≤ w * h → w * h - i = d →
    impl_Moved.l0 (k + d + 1) w h l dx dy ((goal l w h dx dy).take i.toNat ++ List.replicate ((w * h).toNat - i.toNat) z35) (w * h) i = some (goal l w h dx dy) := by
  have ar := area F.w1 F.w2 F.h1 F.h2
  intro d
  induction d with
  | zero =>
    intro k i h0 h1 hd
    obtain rfl : i = w * h := by omega
    simp only [Nat.add_zero, impl_Moved.l0]
    rw [if_neg (by omega), List.take_of_length_le (by rw [goal_len]; omega), Nat.sub_self]
    simp
  | succ d ih =>
    intro k i h0 h1 hd
    have IH := ih k (i + 1) (by omega) (by omega) (by omega)
    rw [show k + (d + 1) + 1 = (k + d + 1) + 1 by omega]
    generalize k + d + 1 = q at *
    have hlt : i.toNat < (goal l w h dx dy).length := by rw [goal_len]; omega
    have hat := goal_at l w h dx dy i.toNat hlt
    rw [show ((i.toNat : Nat) : Int) = i by omega] at hat
    have e1 : (i + 1).toNat = i.toNat + 1 := by omega
    rw [e1] at IH
    obtain ⟨w1, w2, hh1, hh2, len, a1, a2, b1, b2⟩ := F
    have m0 : 0 ≤ i % w := Int.emod_nonneg _ (by omega)
    have m1 : i % w < w := Int.emod_lt_of_pos _ (by omega)
    have d0 : 0 ≤ i / w := Int.ediv_nonneg h0 (by omega)
    have d1 : i / w < h := Int.ediv_lt_of_lt_mul (by omega) (by rw [Int.mul_comm]; omega)
    obtain ⟨s1, s2⟩ := small (dy := dy) (y := i / w) w1 w2 (by omega) (by omega)
    have hlen : (((goal l w h dx dy).take i.toNat ++ List.replicate ((w * h).toNat - i.toNat) z35).length : Int) = w * h := by
      rw [List.length_append, List.length_take, List.length_replicate, goal_len]; omega
    simp only [impl_Moved.l0]
    rw [if_pos (by omega), if_neg (by omega), Int.tmod_eq_emod_of_nonneg h0, Int.tdiv_eq_ediv_of_nonneg h0, wr (a := i / w) (by omega) (by omega), wr (a := i % w - dx) (by omega) (by omega), wr (a := w - 1) (by omega) (by omega), wr (a := i / w - dy) (by omega) (by omega), wr (a := h - 1) (by omega) (by omega), wr (a := (i / w - dy) * w) (by omega) (by omega), wr (a := (i / w - dy) * w + (i % w - dx)) (by omega) (by omega), wr (a := i + 1) (by omega) (by omega), in_some, in_some]
    simp only [Option.bind_some, decide_eq_true_eq]
    by_cases c1 : 0 ≤ i % w - dx ∧ i % w - dx ≤ w - 1
    · rw [if_pos c1]
      by_cases c2 : 0 ≤ i / w - dy ∧ i / w - dy ≤ h - 1
      · obtain ⟨p, q2⟩ := place w1 c1.1 c1.2 c2.1 c2.2
        rw [if_pos c2, if_pos (by omega), if_pos (by omega), if_pos h0, if_pos (by omega)]
        have hc : cell l w h dx dy (i % w) (i / w) = rd_T35 l ((i / w - dy) * w + (i % w - dx)) := by unfold cell; rw [if_pos c1, if_pos c2]
        have hs := set_next (goal l w h dx dy) (w * h).toNat i.toNat (goal_len _ _ _ _ _) (by omega) hlt
        rw [hat, hc] at hs
        show impl_Moved.l0 q w h l dx dy (((goal l w h dx dy).take i.toNat ++ List.replicate ((w * h).toNat - i.toNat) z35).set i.toNat (rd_T35 l ((i / w - dy) * w + (i % w - dx)))) (w * h) (i + 1) = _
        rw [hs]
        exact IH
      · rw [if_neg c2]
        have hc : cell l w h dx dy (i % w) (i / w) = z35 := by unfold cell; rw [if_pos c1, if_neg c2]
        rw [keep_next (goal l w h dx dy) (w * h).toNat i.toNat (goal_len _ _ _ _ _) (by omega) hlt (hat.trans hc)]
        exact IH
    · rw [if_neg c1]
      have hc : cell l w h dx dy (i % w) (i / w) = z35 := by unfold cell; rw [if_neg c1]
      rw [keep_next (goal l w h dx dy) (w * h).toNat i.toNat (goal_len _ _ _ _ _) (by omega) hlt (hat.trans hc)]
      exact IH

/-- The program's Moved and the reference's answer alike, and what they answer. -/
theorem moved_full (w h : Int) (l : List S35) (dx dy : Int) (k : Nat) (hk : 10000 ≤ k) : ∃ r, spec_Moved.f k w h l dx dy = some r ∧ impl_Moved.f k w h l dx dy = some r ∧ ((Fit l w h dx dy ∧ OkFrom l 0 ∧ r = goal l w h dx dy) ∨ (¬ (Fit l w h dx dy ∧ OkFrom l 0) ∧ r = [])) := by
  obtain ⟨k, rfl⟩ : ∃ m, k = m + 1 := ⟨k - 1, by omega⟩
  unfold spec_Moved.f impl_Moved.f spec_l4By.f
  simp only [in_spec, in_some, Option.bind_some, spec_Moved.j0, impl_Moved.j0, decide_eq_true_eq]
  by_cases c1 : 1 ≤ w ∧ w ≤ 64
  · by_cases c2 : 1 ≤ h ∧ h ≤ 64
    · have ar := area c1.1 c1.2 c2.1 c2.2
      rw [if_pos c1, if_pos c1, if_pos c2, if_pos c2, wr (a := w * h) (by omega) (by omega)]
      by_cases c3 : (l.length : Int) = w * h
      · rw [if_pos c3, if_pos c3]
        by_cases c4 : -10000000 ≤ dx ∧ dx ≤ 10000000
        · rw [if_pos c4, if_pos c4]
          by_cases c5 : -10000000 ≤ dy ∧ dy ≤ 10000000
          · have F : Fit l w h dx dy := ⟨c1.1, c1.2, c2.1, c2.2, c3, c4.1, c4.2, c5.1, c5.2⟩
            simp only [c5, and_self, decide_true, Bool.not_true, Bool.false_eq_true, if_false]
            have hp : h.toNat * (w.toNat + 2) ≤ 64 * 66 := Nat.mul_le_mul (by omega) (by omega)
            generalize hP : h.toNat * (w.toNat + 2) = P at *
            obtain ⟨q, hq⟩ : ∃ q, k = (q + P + 1) + l.length + 1 := ⟨k - P - 2 - l.length, by omega⟩
            obtain ⟨b, ⟨r, hr, hb⟩, hs, hok⟩ := look w h l (by omega) dx dy l.length (q + P + 1) 0 (by omega) (by omega) (by omega)
            rw [← hq] at hr hs
            have hpx : impl_Px_33.f k l fv34 = some b := by
              unfold impl_Px_33.f impl_Px_52.f
              rw [hr]
              exact congrArg some hb
            rw [hs, hpx]
            cases b with
            | true => exact ⟨[], rfl, rfl, .inr ⟨fun H => by simpa using hok.2 H.2, rfl⟩⟩
            | false =>
              have h1 := l1_run l w h dx dy F h.toNat q 0 (by omega) (by omega) (by omega)
              rw [hP, Int.zero_mul] at h1
              have h2 := impl_run l w h dx dy F (w * h).toNat (k - (w * h).toNat - 1) 0 (by omega) (by omega) (by omega)
              rw [show k - (w * h).toNat - 1 + (w * h).toNat + 1 = k by omega] at h2
              refine ⟨goal l w h dx dy, ?_, ?_, .inl ⟨F, hok.1 rfl, rfl⟩⟩
              · simpa using h1
              · have e : (l.length : Int).toNat = (w * h).toNat := by omega
                simp only [Option.bind_some, Bool.false_eq_true, if_false]
                rw [if_pos (by omega), if_pos (by omega), e]
                simpa using h2
          · refine ⟨[], ?_, ?_, .inr ⟨fun H => c5 ⟨H.1.y1, H.1.y2⟩, rfl⟩⟩
            · simp [c5]
            · simp [c5]
        · rw [if_neg c4, if_neg c4]; exact ⟨[], by simp, by simp, .inr ⟨fun H => c4 ⟨H.1.x1, H.1.x2⟩, rfl⟩⟩
      · rw [if_neg c3, if_neg c3]; exact ⟨[], by simp, by simp, .inr ⟨fun H => c3 H.1.len, rfl⟩⟩
    · rw [if_pos c1, if_pos c1, if_neg c2, if_neg c2]; exact ⟨[], by simp, by simp, .inr ⟨fun H => c2 ⟨H.1.h1, H.1.h2⟩, rfl⟩⟩
  · rw [if_neg c1, if_neg c1]; exact ⟨[], by simp, by simp, .inr ⟨fun H => c1 ⟨H.1.w1, H.1.w2⟩, rfl⟩⟩

theorem moved_eq (w h : Int) (l : List S35) (dx dy : Int) (k : Nat) (hk : 10000 ≤ k) : ∃ r, spec_Moved.f k w h l dx dy = some r ∧ impl_Moved.f k w h l dx dy = some r ∧ r.length ≤ 4096 := by
  obtain ⟨r, a, b, c⟩ := moved_full w h l dx dy k hk
  refine ⟨r, a, b, ?_⟩
  rcases c with ⟨F, _, rfl⟩ | ⟨_, rfl⟩
  · have := area F.w1 F.w2 F.h1 F.h2
    rw [goal_len]
    omega
  · simp

def conv (x : S55) : S35 := ⟨x.f0, x.f1, x.f2, x.f3⟩

theorem rd55 (l : List S55) (i : Int) (x : S55) (h : l[i.toNat]? = some x) : rd_T55 l i = x := by
  unfold rd_T55
  rw [List.getD_eq_getElem?_getD, h]
  rfl

theorem to_pxs (l : List S55) (hl : l.length ≤ 1048576) (k : Nat) (hk : 1048577 ≤ k) : laws_toPxS.f k l = some (l.map conv) := by
  unfold laws_toPxS.f
  rw [if_pos (by omega), if_pos (by omega)]
  have h := set_to (fun k acc i => laws_toPxS.l0 k l acc i) l conv (by
    intro k acc i x h0 hx ha
    have hlt : i.toNat < l.length := (List.getElem?_eq_some_iff.1 hx).1
    simp only [laws_toPxS.l0]
    rw [if_pos (by omega), if_pos h0, rd55 l i x hx]
    unfold laws_toPx.f
    simp only [Option.bind_some]
    rw [if_pos (by omega)]
    have hw : wrap64 (i + 1) = i + 1 := by unfold wrap64; omega
    rw [hw]
    rfl) (by
    intro k acc
    simp only [laws_toPxS.l0]
    rw [if_neg (by omega)]) l.length k (List.replicate ((l.length : Int)).toNat z35) 0 (by omega) (by omega) (by omega) (by omega) (by simp)
  rw [h]
  simp

theorem eq_pxs (l : List S35) (hl : l.length ≤ 1048576) (k : Nat) (hk : 1048577 ≤ k) : laws_eqPxS.f k l l = some true := by
  unfold laws_eqPxS.f
  rw [if_pos rfl]
  exact run_to (fun k i => laws_eqPxS.l0 k l l i) (l.length : Int) true (by
    intro k i h0 h1
    simp only [laws_eqPxS.l0]
    rw [if_pos h1, if_pos h0, if_pos h1]
    unfold laws_eqPx.f
    have hw : wrap64 (i + 1) = i + 1 := by unfold wrap64; omega
    simp [hw]) (by
    intro k
    simp only [laws_eqPxS.l0]
    rw [if_neg (by omega)]) l.length k 0 (by omega) (by omega) (by omega) (by omega)

/-- The mark at a place. -/
def mk (j : Nat) : S35 := ⟨1 + 4 * (j : Int), 2 + 4 * (j : Int), 3 + 4 * (j : Int), 4 + 4 * (j : Int)⟩

theorem rd_set (l : List S35) (i : Int) (v : S35) (h : i.toNat < l.length) : rd_T35 (l.set i.toNat v) i = v := rd35 _ _ _ (List.getElem?_set_self h)

theorem mark_run (n : Nat) (hn : n ≤ 1048576) : ∀ (d k i : Nat) (l : List S35), l.length = n → n - i = d → i ≤ n → d < k → (∀ j, j < i → l[j]? = some (mk j)) →
    ∃ out, laws_markPxS.l0 k l (1 + 4 * (i : Int)) (i : Int) = some (1 + 4 * (n : Int), out) ∧ out.length = n ∧ ∀ j, j < n → out[j]? = some (mk j) := by
  intro d
  induction d with
  | zero =>
    intro k i l hl hd hi hk hm
    obtain ⟨k, rfl⟩ : ∃ m, k = m + 1 := ⟨k - 1, by omega⟩
    obtain rfl : i = n := by omega
    refine ⟨l, ?_, hl, hm⟩
    simp only [laws_markPxS.l0]
    rw [if_neg (by omega)]
  | succ d ih =>
    intro k i l hl hd hi hk hm
    obtain ⟨k, rfl⟩ : ∃ m, k = m + 1 := ⟨k - 1, by omega⟩
    have wr : ∀ a : Int, -9223372036854775808 ≤ a → a ≤ 9223372036854775807 → wrap64 a = a := fun a _ _ => by unfold wrap64; omega
    have hin : ((i : Int)).toNat = i := by omega
    simp only [laws_markPxS.l0]
    rw [if_pos (by omega), if_pos (by omega)]
    simp only [Option.bind_some]
    rw [wr (1 + 4 * (i : Int) + 1) (by omega) (by omega), wr (1 + 4 * (i : Int) + 1 + 1) (by omega) (by omega), wr (1 + 4 * (i : Int) + 1 + 1 + 1) (by omega) (by omega), wr (1 + 4 * (i : Int) + 1 + 1 + 1 + 1) (by omega) (by omega), wr ((i : Int) + 1) (by omega) (by omega)]
    have L1 : (i : Int).toNat < l.length := by omega
    simp only [rd_set l (i : Int) _ L1, List.set_set]
    have e : (⟨1 + 4 * (i : Int), 1 + 4 * (i : Int) + 1, 1 + 4 * (i : Int) + 1 + 1, 1 + 4 * (i : Int) + 1 + 1 + 1⟩ : S35) = mk i := by
      unfold mk
      congr 1 <;> omega
    rw [e, hin]
    have := ih k (i + 1) (l.set i (mk i)) (by simpa using hl) (by omega) (by omega) (by omega) (fun j hj => by
      by_cases q : j = i
      · subst q
        exact List.getElem?_set_self (by omega)
      · rw [List.getElem?_set_ne (fun h => q h.symm)]
        exact hm j (by omega))
    rw [show (1 + 4 * ((i + 1 : Nat) : Int)) = 1 + 4 * (i : Int) + 1 + 1 + 1 + 1 by omega, show ((i + 1 : Nat) : Int) = (i : Int) + 1 by omega] at this
    exact this

theorem held_run (n : Nat) (hn : n ≤ 1048576) (l : List S35) (hl : l.length = n) (hm : ∀ j, j < n → l[j]? = some (mk j)) : ∀ (d k i : Nat), n - i = d → i ≤ n → d < k →
    laws_heldPxS.l0 k l (1 + 4 * (i : Int)) (i : Int) = some (1 + 4 * (n : Int)) := by
  intro d
  induction d with
  | zero =>
    intro k i hd hi hk
    obtain ⟨k, rfl⟩ : ∃ m, k = m + 1 := ⟨k - 1, by omega⟩
    obtain rfl : i = n := by omega
    simp only [laws_heldPxS.l0]
    rw [if_neg (by omega)]
  | succ d ih =>
    intro k i hd hi hk
    obtain ⟨k, rfl⟩ : ∃ m, k = m + 1 := ⟨k - 1, by omega⟩
    have wr : ∀ a : Int, -9223372036854775808 ≤ a → a ≤ 9223372036854775807 → wrap64 a = a := fun a _ _ => by unfold wrap64; omega
    have hr : rd_T35 l (i : Int) = mk i := rd35 l _ _ (by rw [show ((i : Int)).toNat = i by omega]; exact hm i (by omega))
    simp only [laws_heldPxS.l0]
    rw [if_pos (by omega), if_pos (by omega), hr, wr (1 + 4 * (i : Int) + 1) (by omega) (by omega), wr (1 + 4 * (i : Int) + 1 + 1) (by omega) (by omega), wr (1 + 4 * (i : Int) + 1 + 1 + 1) (by omega) (by omega), wr (1 + 4 * (i : Int) + 1 + 1 + 1 + 1) (by omega) (by omega), wr ((i : Int) + 1) (by omega) (by omega)]
    unfold mk
    rw [if_pos (by show (1 + 4 * (i : Int)) = _; omega), if_pos (by show (2 + 4 * (i : Int)) = _; omega), if_pos (by show (3 + 4 * (i : Int)) = _; omega), if_pos (by show (4 + 4 * (i : Int)) = _; omega)]
    have := ih k (i + 1) (by omega) (by omega) (by omega)
    rw [show (1 + 4 * ((i + 1 : Nat) : Int)) = 1 + 4 * (i : Int) + 1 + 1 + 1 + 1 by omega, show ((i + 1 : Nat) : Int) = (i : Int) + 1 by omega] at this
    exact this

theorem mark_held (l : List S35) (hn : l.length ≤ 1048576) (k : Nat) (hk : 1048577 ≤ k) : ∃ out, laws_markPxS.f k l 1 = some (1 + 4 * (l.length : Int), out) ∧ ∀ k', 1048577 ≤ k' → laws_heldPxS.f k' out 1 = some (1 + 4 * (l.length : Int)) := by
  obtain ⟨out, a, b, c⟩ := mark_run l.length hn l.length k 0 l rfl (by omega) (by omega) (by omega) (fun j hj => by omega)
  refine ⟨out, a, fun k' hk' => ?_⟩
  exact held_run l.length hn out b c l.length k' 0 (by omega) (by omega) (by omega)

theorem FnExactMoved (a0 : Int) (a1 : Int) (l2 : List PFnExactMoved.S55) (a3 : Int) (a4 : Int) (w0 : (Lit.int .i64 a0).wf = true) (w1 : (Lit.int .i64 a1).wf = true) (w2 : (l2.length ≤ maxLen ∧ ∀ y2 ∈ l2, ((Lit.int .i64 y2.f0).wf = true) ∧ (((Lit.int .i64 y2.f1).wf = true) ∧ (((Lit.int .i64 y2.f2).wf = true) ∧ ((Lit.int .i64 y2.f3).wf = true))))) (w3 : (Lit.int .i64 a3).wf = true) (w4 : (Lit.int .i64 a4).wf = true) : ∃ k, PFnExactMoved.laws_FnExactMoved.f k a0 a1 l2 a3 a4 = some true := by
  have hm := w2.1
  unfold maxLen at hm
  unfold laws_FnExactMoved.f laws_szPxS.f
  have hw : wrap64 (1048576 - (l2.length : Int)) = 1048576 - (l2.length : Int) := by unfold wrap64; omega
  rw [hw]
  by_cases c : 1048576 - (l2.length : Int) < 0
  · exact ⟨1, by simp [c]⟩
  · obtain ⟨k, hk⟩ : ∃ k, k = 1048577 := ⟨_, rfl⟩
    refine ⟨k + 1, ?_⟩
    rw [if_neg c]
    simp only [Option.bind_some]
    rw [if_neg c, to_pxs l2 (by omega) _ (by omega)]
    simp only [Option.bind_some]
    obtain ⟨r, h1, h2, h3⟩ := moved_eq a0 a1 (l2.map conv) a3 a4 (k + 1) (by omega)
    obtain ⟨r', h1', h2', h3'⟩ := moved_eq a0 a1 (l2.map conv) a3 a4 k (by omega)
    have er : r' = r := by
      have := impl_Moved.mono a0 a1 (l2.map conv) a3 a4 k r' h2'
      rw [h2] at this
      exact (Option.some.inj this).symm
    subst er
    rw [h1, h2]
    simp only [Option.bind_some]
    rw [eq_pxs r' (by omega) _ (by omega)]
    simp only [Option.bind_some, if_true]
    rw [eq_pxs (l2.map conv) (by simp; omega) _ (by omega)]
    simp only [Option.bind_some, if_true]
    obtain ⟨o1, m1, _⟩ := mark_held (l2.map conv) (by simp; omega) (k + 1) (by omega)
    rw [m1]
    simp only [Option.bind_some]
    rw [if_neg (by omega)]
    simp only [Bool.not_true, laws_FnExactMoved.j0, Bool.false_eq_true, if_false]
    obtain ⟨o2, m2, q2⟩ := mark_held r' (by omega) k (by omega)
    rw [m2]
    simp only [Option.bind_some]
    rw [q2 k (by omega), to_pxs l2 (by omega) _ (by omega)]
    simp only [Option.bind_some]
    rw [if_neg (by omega)]
    simp only [if_true]
    rw [h2']
    simp only [Option.bind_some]
    rw [eq_pxs r' (by omega) _ (by omega)]
    simp only [Option.bind_some, if_true]
    rw [if_neg (by omega)]

end Go.Proofs.Ytbafihapjbkagaa.Pure
