/- Proved: the plain law behind FnMoved: whatever the draw, it answers true. No condition. -/
import Derived.Test.YtbafihapjbkagaaPFnMovedx4
namespace Go.Proofs.Ytbafihapjbkagaa.Pure
open Go.RowKit Go.Proofs.Ytbafihapjbkagaa.PFnMoved Go.Proofs.YtbafihapjbkagaaW.PrintWords Go.Proofs.YtbafihapjbkagaaW.PrintLast

set_option linter.unusedVariables false
set_option linter.unusedSimpArgs false

theorem and255 (n : Int) : Go.bits .and .i64 n 255 = n % 256 := by
  have h127 : (BitVec.ofInt 64 255).toNat = 2 ^ 8 - 1 := by decide
  have key : (BitVec.ofInt 64 n &&& BitVec.ofInt 64 255).toNat = (n % ((2 ^ 64 : Nat) : Int)).toNat % 2 ^ 8 := by
    rw [BitVec.toNat_and, BitVec.toNat_ofInt, h127, Nat.and_two_pow_sub_one_eq_mod]
  show IntKind.i64.wrap ((BitVec.ofInt 64 n &&& BitVec.ofInt 64 255).toNat : Nat) = n % 256
  rw [key, IntKind.wrap_i64]
  omega

theorem byte_ok (b : List Int) (i h : Int) (hb : b.length ≤ 4096) (hi : 0 ≤ i) :
    ∃ x i' h', spec_l1Byte.f b i h = some (x, i', h') ∧ 0 ≤ x ∧ x ≤ 255 ∧ 0 ≤ i' := by
  unfold spec_l1Byte.f
  simp only [and255]
  by_cases c : i < (b.length : Int)
  · rw [if_pos c, if_pos hi]
    have hw : wrap64 (i + 1) = i + 1 := by unfold wrap64; omega
    rw [hw]
    exact ⟨_, _, _, rfl, by omega, by omega, by omega⟩
  · rw [if_neg c]
    exact ⟨_, _, _, rfl, by omega, by omega, hi⟩

theorem below_ok (b : List Int) (i h n : Int) (hb : b.length ≤ 4096) (hi : 0 ≤ i) :
    ∃ x i' h', spec_l1Below.f b i h n = some (x, i', h') ∧ 0 ≤ i' ∧ 0 ≤ x ∧ (1 ≤ n → x < n) := by
  unfold spec_l1Below.f
  by_cases c0 : n ≤ 0
  · rw [if_pos c0]
    exact ⟨_, _, _, rfl, hi, by omega, by omega⟩
  · rw [if_neg c0]
    by_cases c : n ≤ 256
    · rw [if_pos c]
      obtain ⟨x, i1, h1, e, x0, x1, hi1⟩ := byte_ok b i h hb hi
      rw [e]
      simp only [Option.bind_some]
      rw [if_neg (by omega)]
      exact ⟨_, _, _, rfl, hi1, Int.tmod_nonneg _ x0, fun _ => Int.tmod_lt_of_pos _ (by omega)⟩
    · rw [if_neg c]
      obtain ⟨x, i1, h1, e, x0, x1, hi1⟩ := byte_ok b i h hb hi
      rw [e]
      simp only [Option.bind_some]
      obtain ⟨y, i2, h2, e, y0, y1, hi2⟩ := byte_ok b i1 h1 hb hi1
      rw [e]
      simp only [Option.bind_some]
      obtain ⟨z, i3, h3, e, z0, z1, hi3⟩ := byte_ok b i2 h2 hb hi2
      rw [e]
      simp only [Option.bind_some]
      obtain ⟨u, i4, h4, e, u0, u1, hi4⟩ := byte_ok b i3 h3 hb hi3
      rw [e]
      simp only [Option.bind_some]
      rw [if_neg (by omega)]
      have hw : wrap64 (wrap64 (wrap64 (wrap64 (x * 16777216) + wrap64 (y * 65536)) + wrap64 (z * 256)) + u) = x * 16777216 + y * 65536 + z * 256 + u := by
        have e1 : wrap64 (x * 16777216) = x * 16777216 := by unfold wrap64; omega
        have e2 : wrap64 (y * 65536) = y * 65536 := by unfold wrap64; omega
        have e3 : wrap64 (z * 256) = z * 256 := by unfold wrap64; omega
        rw [e1, e2, e3]
        have e4 : wrap64 (x * 16777216 + y * 65536) = x * 16777216 + y * 65536 := by unfold wrap64; omega
        rw [e4]
        have e5 : wrap64 (x * 16777216 + y * 65536 + z * 256) = x * 16777216 + y * 65536 + z * 256 := by unfold wrap64; omega
        rw [e5]
        unfold wrap64
        omega
      rw [hw]
      exact ⟨_, _, _, rfl, hi4, Int.tmod_nonneg _ (by omega), fun _ => Int.tmod_lt_of_pos _ (by omega)⟩

theorem once_ok (b : List Int) (i h n : Int) (hb : b.length ≤ 4096) (hi : 0 ≤ i) :
    ∃ x i' h', spec_l1Once.f b i h n = some (x, i', h') ∧ 0 ≤ i' := by
  unfold spec_l1Once.f
  obtain ⟨x, i1, h1, e, hi1, _⟩ := below_ok b i h n hb hi
  rw [e]
  exact ⟨_, _, _, rfl, hi1⟩

theorem new_loop (l : List Int) (hl : l.length ≤ 4096) (d : Nat) : ∀ (k : Nat) (h i : Int), 0 ≤ i → i ≤ l.length → (l.length : Int) - i = d → d < k → ∃ h', spec_l1New.l0 k l h i = some (l, 0, h') := by
  induction d with
  | zero =>
    intro k h i h0 h1 hd hk
    obtain ⟨k, rfl⟩ : ∃ m, k = m + 1 := ⟨k - 1, by omega⟩
    exact ⟨h, by simp only [spec_l1New.l0]; rw [if_neg (by omega)]⟩
  | succ d ih =>
    intro k h i h0 h1 hd hk
    obtain ⟨k, rfl⟩ : ∃ m, k = m + 1 := ⟨k - 1, by omega⟩
    simp only [spec_l1New.l0]
    rw [if_pos (by omega), if_pos h0]
    have hw : wrap64 (i + 1) = i + 1 := by unfold wrap64; omega
    rw [hw]
    exact ih k _ (i + 1) (by omega) (by omega) (by omega) (by omega)

theorem new_ok (l : List Int) (hl : l.length ≤ 4096) (k : Nat) (hk : 4097 ≤ k) : ∃ h, spec_l1New.f k l = some (l, 0, h) := by
  unfold spec_l1New.f
  exact new_loop l hl l.length k _ 0 (by omega) (by omega) (by omega) (by omega)

theorem in_some (a b c : Int) : impl_in.f a b c = some (decide (b ≤ a ∧ a ≤ c)) := by
  unfold impl_in.f
  by_cases h : b ≤ a
  · simp [h]
  · simp [h]

theorem in_spec (a b c : Int) : spec_l1In.f a b c = some (decide (b ≤ a ∧ a ≤ c)) := in_some a b c

theorem px_eq (a b c d : Int) : impl_PxOk.f a b c d = spec_PxOk.f a b c d := rfl

theorem px_some (a b c d : Int) : ∃ r, spec_PxOk.f a b c d = some r := by
  unfold spec_PxOk.f spec_l11Byte.f
  simp only [in_spec, Option.bind_some]
  repeat' split
  all_goals exact ⟨_, rfl⟩

theorem rd35 (l : List S35) (i : Int) (x : S35) (h : l[i.toNat]? = some x) : rd_T35 l i = x := by
  unfold rd_T35
  rw [List.getD_eq_getElem?_getD, h]
  rfl

/-- The pixel at (x, y) of the moved picture. -/
def cell (l : List S35) (w h dx dy x y : Int) : S35 := if 0 ≤ x - dx ∧ x - dx ≤ w - 1 then (if 0 ≤ y - dy ∧ y - dy ≤ h - 1 then rd_T35 l ((y - dy) * w + (x - dx)) else z35) else z35

def goal (l : List S35) (w h dx dy : Int) : List S35 := (List.range (w * h).toNat).map fun n : Nat => cell l w h dx dy ((n : Int) % w) ((n : Int) / w)

structure Fit (l : List S35) (w h dx dy : Int) : Prop where
  w1 : 1 ≤ w
  w2 : w ≤ 64
  h1 : 1 ≤ h
  h2 : h ≤ 64
  len : (l.length : Int) = w * h
  x1 : -10000000 ≤ dx
  x2 : dx ≤ 10000000
  y1 : -10000000 ≤ dy
  y2 : dy ≤ 10000000

theorem wr {a : Int} (h1 : -9223372036854775808 ≤ a) (h2 : a ≤ 9223372036854775807) : wrap64 a = a := by unfold wrap64; omega

theorem area {w h : Int} (w1 : 1 ≤ w) (w2 : w ≤ 64) (h1 : 1 ≤ h) (h2 : h ≤ 64) : 1 ≤ w * h ∧ w * h ≤ 4096 := by
  constructor
  · have := Int.mul_le_mul w1 h1 (by omega) (by omega)
    omega
  · have := Int.mul_le_mul w2 h2 (by omega) (by omega)
    omega

theorem place {w h x y : Int} (w1 : 1 ≤ w) (x1 : 0 ≤ x) (x2 : x ≤ w - 1) (y1 : 0 ≤ y) (y2 : y ≤ h - 1) : 0 ≤ y * w ∧ y * w + x < w * h := by
  have a := Int.mul_nonneg y1 (by omega : 0 ≤ w)
  have b := Int.mul_le_mul_of_nonneg_right y2 (by omega : 0 ≤ w)
  rw [Int.sub_mul, Int.one_mul, Int.mul_comm h w] at b
  constructor <;> omega

theorem small {w y dy : Int} (w1 : 1 ≤ w) (w2 : w ≤ 64) (a : -10000064 ≤ y - dy) (b : y - dy ≤ 10000064) : -640004096 ≤ (y - dy) * w ∧ (y - dy) * w ≤ 640004096 := by
  have p : (y - dy) * w ≤ 10000064 * w := Int.mul_le_mul_of_nonneg_right b (by omega)
  have q : -10000064 * w ≤ (y - dy) * w := Int.mul_le_mul_of_nonneg_right a (by omega)
  constructor <;> omega

theorem goal_len (l : List S35) (w h dx dy : Int) : (goal l w h dx dy).length = (w * h).toNat := by simp [goal]

theorem goal_at (l : List S35) (w h dx dy : Int) (n : Nat) (hn : n < (goal l w h dx dy).length) : (goal l w h dx dy)[n] = cell l w h dx dy ((n : Int) % w) ((n : Int) / w) := by
  simp [goal]

theorem split_place {w x y : Int} (w1 : 1 ≤ w) (x1 : 0 ≤ x) (x2 : x ≤ w - 1) : (y * w + x) / w = y ∧ (y * w + x) % w = x := by
  have e : y * w + x = x + y * w := by omega
  have d : (y * w + x) / w = y := by
    rw [e, Int.add_mul_ediv_right _ _ (by omega : w ≠ 0), Int.ediv_eq_zero_of_lt x1 (by omega)]
    omega
  refine ⟨d, ?_⟩
  rw [Int.emod_def, d, Int.mul_comm w y]
  omega

theorem take_next (l : List S35) (w h dx dy : Int) (F : Fit l w h dx dy) (x y : Int) (x1 : 0 ≤ x) (x2 : x ≤ w - 1) (y1 : 0 ≤ y) (y2 : y ≤ h - 1) :
    (goal l w h dx dy).take (y * w + x).toNat ++ [cell l w h dx dy x y] = (goal l w h dx dy).take (y * w + (x + 1)).toNat := by
  obtain ⟨p, q⟩ := place F.w1 x1 x2 y1 y2
  have e : (y * w + (x + 1)).toNat = (y * w + x).toNat + 1 := by omega
  have hlt : (y * w + x).toNat < (goal l w h dx dy).length := by rw [goal_len]; omega
  rw [e, List.take_succ_eq_append_getElem hlt, goal_at]
  have c : (((y * w + x).toNat : Nat) : Int) = y * w + x := by omega
  rw [c, (split_place F.w1 x1 x2).1, (split_place F.w1 x1 x2).2]

theorem l2_step (l : List S35) (w h dx dy : Int) (F : Fit l w h dx dy) (k : Nat) (acc : List S35) (ha : acc.length ≤ 4096) (x y : Int) (x1 : 0 ≤ x) (x2 : x ≤ w - 1) (y1 : 0 ≤ y) (y2 : y ≤ h - 1) :
    spec_Moved.l2 (k + 1) w h l dx dy acc y x = spec_Moved.l2 k w h l dx dy (acc ++ [cell l w h dx dy x y]) y (x + 1) := by
  obtain ⟨w1, w2, h1, h2, len, a1, a2, b1, b2⟩ := F
  simp only [spec_Moved.l2]
  obtain ⟨s1, s2⟩ := small (dy := dy) (y := y) w1 w2 (by omega) (by omega)
  rw [wr (a := x - dx) (by omega) (by omega), wr (a := w - 1) (by omega) (by omega), wr (a := y - dy) (by omega) (by omega), wr (a := h - 1) (by omega) (by omega), wr (a := (y - dy) * w) (by omega) (by omega), wr (a := (y - dy) * w + x) (by omega) (by omega), wr (a := (y - dy) * w + x - dx) (by omega) (by omega), wr (a := x + 1) (by omega) (by omega)]
  rw [if_pos (by omega), in_spec, in_spec]
  simp only [Option.bind_some, decide_eq_true_eq]
  unfold cell
  by_cases c1 : 0 ≤ x - dx ∧ x - dx ≤ w - 1
  · rw [if_pos c1, if_pos c1]
    by_cases c2 : 0 ≤ y - dy ∧ y - dy ≤ h - 1
    · obtain ⟨p, q⟩ := place w1 c1.1 c1.2 c2.1 c2.2
      have e : (y - dy) * w + x - dx = (y - dy) * w + (x - dx) := by omega
      rw [if_pos c2, if_pos c2, e, if_pos (by omega), if_pos (by omega), if_pos (by omega)]
    · rw [if_neg c2, if_neg c2, if_pos (by omega)]
      rfl
  · rw [if_neg c1, if_neg c1, if_pos (by omega)]
    rfl

theorem l2_run (l : List S35) (w h dx dy : Int) (F : Fit l w h dx dy) (y : Int) (y1 : 0 ≤ y) (y2 : y ≤ h - 1) : ∀ (d k : Nat) (x : Int), 0 ≤ x → x ≤ w → w - x = d →
    spec_Moved.l2 (k + d + 1) w h l dx dy ((goal l w h dx dy).take (y * w + x).toNat) y x = spec_Moved.l1 k w h l dx dy ((goal l w h dx dy).take ((y + 1) * w).toNat) (y + 1) := by
  intro d
  induction d with
  | zero =>
    intro k x x1 x2 hd
    have e : (y + 1) * w = y * w + x := by rw [Int.add_mul, Int.one_mul]; omega
    have := F.h2
    simp only [Nat.add_zero, spec_Moved.l2]
    rw [if_neg (by omega), e, wr (a := y + 1) (by omega) (by omega)]
  | succ d ih =>
    intro k x x1 x2 hd
    have ar := area F.w1 F.w2 F.h1 F.h2
    rw [show k + (d + 1) + 1 = (k + d + 1) + 1 by omega, l2_step l w h dx dy F _ _ (by rw [List.length_take, goal_len]; omega) x y x1 (by omega) y1 y2, take_next l w h dx dy F x y x1 (by omega) y1 y2]
    exact ih k (x + 1) (by omega) (by omega) (by omega)

theorem l1_run (l : List S35) (w h dx dy : Int) (F : Fit l w h dx dy) : ∀ (e k : Nat) (y : Int), 0 ≤ y → y ≤ h → h - y = e →
    spec_Moved.l1 (k + e * (w.toNat + 2) + 1) w h l dx dy ((goal l w h dx dy).take (y * w).toNat) y = some (goal l w h dx dy) := by
  intro e
  induction e with
  | zero =>
    intro k y y1 y2 hd
    obtain rfl : y = h := by omega
    simp only [spec_Moved.l1]
    rw [if_neg (by omega), List.take_of_length_le (by rw [goal_len, Int.mul_comm]; omega)]
  | succ e ih =>
    intro k y y1 y2 hd
    have := F.w1
    have ef : k + (e + 1) * (w.toNat + 2) + 1 = ((k + e * (w.toNat + 2) + 1) + w.toNat + 1) + 1 := by rw [Nat.succ_mul]; omega
    rw [ef]
    have hstep : spec_Moved.l1 (((k + e * (w.toNat + 2) + 1) + w.toNat + 1) + 1) w h l dx dy ((goal l w h dx dy).take (y * w).toNat) y = spec_Moved.l2 ((k + e * (w.toNat + 2) + 1) + w.toNat + 1) w h l dx dy ((goal l w h dx dy).take (y * w + 0).toNat) y 0 := by
      rw [Int.add_zero]
      generalize (k + e * (w.toNat + 2) + 1) + w.toNat + 1 = q
      simp only [spec_Moved.l1]
      rw [if_pos (by omega)]
    rw [hstep, l2_run l w h dx dy F y y1 (by omega) w.toNat (k + e * (w.toNat + 2) + 1) 0 (by omega) (by omega) (by omega)]
    exact ih k (y + 1) (by omega) (by omega) (by omega)

/-- Every pixel from place i on is one. -/
def OkFrom (l : List S35) (i : Int) : Prop := ∀ j : Int, i ≤ j → j < (l.length : Int) → spec_PxOk.f (rd_T35 l j).f0 (rd_T35 l j).f1 (rd_T35 l j).f2 (rd_T35 l j).f3 = some true

/-- Both look through the picture for a pixel that is none. -/
theorem look (w h : Int) (l : List S35) (hl : l.length ≤ 4096) (dx dy : Int) : ∀ (d k : Nat) (i : Int), 0 ≤ i → i ≤ (l.length : Int) → (l.length : Int) - i = d →
    ∃ b : Bool, (∃ r, impl_Px_52.l0 (k + d + 1) l fv34 (l.length : Int) i = some r ∧ decide (r ≥ 0) = b) ∧ spec_Moved.l0 (k + d + 1) w h l dx dy [] i = (if b = true then some [] else spec_Moved.l1 k w h l dx dy [] 0) ∧ (b = false ↔ OkFrom l i) := by
  intro d
  induction d with
  | zero =>
    intro k i h0 h1 hd
    refine ⟨false, ⟨-1, ?_, rfl⟩, ?_, ⟨fun _ j _ _ => by omega, fun _ => rfl⟩⟩
    · simp only [Nat.add_zero, impl_Px_52.l0]; rw [if_neg (by omega)]
    · simp only [Nat.add_zero, spec_Moved.l0]; rw [if_neg (by omega)]; rfl
  | succ d ih =>
    intro k i h0 h1 hd
    obtain ⟨b, ⟨r, hr, hb⟩, hs, hok⟩ := ih k (i + 1) (by omega) (by omega) (by omega)
    rw [show k + (d + 1) + 1 = (k + d + 1) + 1 by omega]
    generalize k + d + 1 = q at *
    have wi : wrap64 (i + 1) = i + 1 := wr (by omega) (by omega)
    obtain ⟨p, hp⟩ := px_some (rd_T35 l i).f0 (rd_T35 l i).f1 (rd_T35 l i).f2 (rd_T35 l i).f3
    have hG : GP.f fv34 (rd_T35 l i).f0 (rd_T35 l i).f1 (rd_T35 l i).f2 (rd_T35 l i).f3 = some (!p) := by
      unfold GP.f fv34 impl_Moved_1.f
      rw [px_eq, hp]
      rfl
    simp only [impl_Px_52.l0, spec_Moved.l0]
    rw [if_pos (by omega : i < (l.length : Int)), if_pos (by omega : i < (l.length : Int)), if_pos h0, if_pos h0, if_pos (by omega : i < (l.length : Int)), hG, hp, wi]
    simp only [Option.bind_some]
    cases p with
    | true =>
      refine ⟨b, ⟨r, ?_, hb⟩, ?_, ?_⟩
      · rw [if_neg (by simp)]; exact hr
      · rw [if_pos rfl]; exact hs
      · refine hok.trans ⟨fun H j hj hl => ?_, fun H j hj hl => H j (by omega) hl⟩
        by_cases e : j = i
        · subst e; exact hp
        · exact H j (by omega) hl
    | false =>
      refine ⟨true, ⟨i, by rw [if_pos (by rfl)], decide_eq_true h0⟩, ?_, ⟨fun h => by simp at h, fun H => ?_⟩⟩
      · rw [if_neg (by simp), if_pos rfl]
      · have := H i (by omega) (by omega)
        rw [hp] at this
        simp at this

theorem set_next (G : List S35) (n i : Nat) (hG : G.length = n) (hi : i < n) (h : i < G.length) : (G.take i ++ List.replicate (n - i) z35).set i G[i] = G.take (i + 1) ++ List.replicate (n - (i + 1)) z35 := by
  have hl : (G.take i).length = i := by rw [List.length_take]; omega
  have e : n - i = (n - (i + 1)) + 1 := by omega
  rw [List.set_append_right _ _ (by omega), hl, Nat.sub_self, e, List.replicate_succ, List.set_cons_zero, List.take_succ_eq_append_getElem h, List.append_assoc]
  rfl

theorem keep_next (G : List S35) (n i : Nat) (hG : G.length = n) (hi : i < n) (h : i < G.length) (hz : G[i] = z35) : G.take i ++ List.replicate (n - i) z35 = G.take (i + 1) ++ List.replicate (n - (i + 1)) z35 := by
  have e : n - i = (n - (i + 1)) + 1 := by omega
  rw [e, List.replicate_succ, List.take_succ_eq_append_getElem h, List.append_assoc, hz]
  rfl

theorem impl_run (l : List S35) (w h dx dy : Int) (F : Fit l w h dx dy) : ∀ (d k : Nat) (i : Int), 0 ≤ i → i ≤ w * h → w * h - i = d →
    impl_Moved.l0 (k + d + 1) w h l dx dy ((goal l w h dx dy).take i.toNat ++ List.replicate ((w * h).toNat - i.toNat) z35) (w * h) i = some (goal l w h dx dy) := by
  have ar := area F.w1 F.w2 F.h1 F.h2
  intro d
  induction d with
  | zero =>
    intro k i h0 h1 hd
    obtain rfl : i = w * h := by omega
    simp only [Nat.add_zero, impl_Moved.l0]
    rw [if_neg (by omega), List.take_of_length_le (by rw [goal_len]; omega), Nat.sub_self]
    simp
  | succ d ih =>
    intro k i h0 h1 hd
    have IH := ih k (i + 1) (by omega) (by omega) (by omega)
    rw [show k + (d + 1) + 1 = (k + d + 1) + 1 by omega]
    generalize k + d + 1 = q at *
    have hlt : i.toNat < (goal l w h dx dy).length := by rw [goal_len]; omega
    have hat := goal_at l w h dx dy i.toNat hlt
    rw [show ((i.toNat : Nat) : Int) = i by omega] at hat
    have e1 : (i + 1).toNat = i.toNat + 1 := by omega
    rw [e1] at IH
    obtain ⟨w1, w2, hh1, hh2, len, a1, a2, b1, b2⟩ := F
    have m0 : 0 ≤ i % w := Int.emod_nonneg _ (by omega)
    have m1 : i % w < w := Int.emod_lt_of_pos _ (by omega)
    have d0 : 0 ≤ i / w := Int.ediv_nonneg h0 (by omega)
    have d1 : i / w < h := Int.ediv_lt_of_lt_mul (by omega) (by rw [Int.mul_comm]; omega)
    obtain ⟨s1, s2⟩ := small (dy := dy) (y := i / w) w1 w2 (by omega) (by omega)
    have hlen : (((goal l w h dx dy).take i.toNat ++ List.replicate ((w * h).toNat - i.toNat) z35).length : Int) = w * h := by
      rw [List.length_append, List.length_take, List.length_replicate, goal_len]; omega
    simp only [impl_Moved.l0]
    rw [if_pos (by omega), if_neg (by omega), Int.tmod_eq_emod_of_nonneg h0, Int.tdiv_eq_ediv_of_nonneg h0, wr (a := i / w) (by omega) (by omega), wr (a := i % w - dx) (by omega) (by omega), wr (a := w - 1) (by omega) (by omega), wr (a := i / w - dy) (by omega) (by omega), wr (a := h - 1) (by omega) (by omega), wr (a := (i / w - dy) * w) (by omega) (by omega), wr (a := (i / w - dy) * w + (i % w - dx)) (by omega) (by omega), wr (a := i + 1) (by omega) (by omega), in_some, in_some]
    simp only [Option.bind_some, decide_eq_true_eq]
    by_cases c1 : 0 ≤ i % w - dx ∧ i % w - dx ≤ w - 1
    · rw [if_pos c1]
      by_cases c2 : 0 ≤ i / w - dy ∧ i / w - dy ≤ h - 1
      · obtain ⟨p, q2⟩ := place w1 c1.1 c1.2 c2.1 c2.2
        rw [if_pos c2, if_pos (by omega), if_pos (by omega), if_pos h0, if_pos (by omega)]
        have hc : cell l w h dx dy (i % w) (i / w) = rd_T35 l ((i / w - dy) * w + (i % w - dx)) := by unfold cell; rw [if_pos c1, if_pos c2]
        have hs := set_next (goal l w h dx dy) (w * h).toNat i.toNat (goal_len _ _ _ _ _) (by omega) hlt
        rw [hat, hc] at hs
        show impl_Moved.l0 q w h l dx dy (((goal l w h dx dy).take i.toNat ++ List.replicate ((w * h).toNat - i.toNat) z35).set i.toNat (rd_T35 l ((i / w - dy) * w + (i % w - dx)))) (w * h) (i + 1) = _
        rw [hs]
        exact IH
      · rw [if_neg c2]
        have hc : cell l w h dx dy (i % w) (i / w) = z35 := by unfold cell; rw [if_pos c1, if_neg c2]
        rw [keep_next (goal l w h dx dy) (w * h).toNat i.toNat (goal_len _ _ _ _ _) (by omega) hlt (hat.trans hc)]
        exact IH
    · rw [if_neg c1]
      have hc : cell l w h dx dy (i % w) (i / w) = z35 := by unfold cell; rw [if_neg c1]
      rw [keep_next (goal l w h dx dy) (w * h).toNat i.toNat (goal_len _ _ _ _ _) (by omega) hlt (hat.trans hc)]
      exact IH

/-- The program's Moved and the reference's answer alike, and what they answer. -/
theorem moved_full (w h : Int) (l : List S35) (dx dy : Int) (k : Nat) (hk : 10000 ≤ k) : ∃ r, spec_Moved.f k w h l dx dy = some r ∧ impl_Moved.f k w h l dx dy = some r ∧ ((Fit l w h dx dy ∧ OkFrom l 0 ∧ r = goal l w h dx dy) ∨ (¬ (Fit l w h dx dy ∧ OkFrom l 0) ∧ r = [])) := by
  obtain ⟨k, rfl⟩ : ∃ m, k = m + 1 := ⟨k - 1, by omega⟩
  unfold spec_Moved.f impl_Moved.f spec_l4By.f
  simp only [in_spec, in_some, Option.bind_some, spec_Moved.j0, impl_Moved.j0, decide_eq_true_eq]
  by_cases c1 : 1 ≤ w ∧ w ≤ 64
  · by_cases c2 : 1 ≤ h ∧ h ≤ 64
    · have ar := area c1.1 c1.2 c2.1 c2.2
      rw [if_pos c1, if_pos c1, if_pos c2, if_pos c2, wr (a := w * h) (by omega) (by omega)]
      by_cases c3 : (l.length : Int) = w * h
      · rw [if_pos c3, if_pos c3]
        by_cases c4 : -10000000 ≤ dx ∧ dx ≤ 10000000
        · rw [if_pos c4, if_pos c4]
          by_cases c5 : -10000000 ≤ dy ∧ dy ≤ 10000000
          · have F : Fit l w h dx dy := ⟨c1.1, c1.2, c2.1, c2.2, c3, c4.1, c4.2, c5.1, c5.2⟩
            simp only [c5, and_self, decide_true, Bool.not_true, Bool.false_eq_true, if_false]
            have hp : h.toNat * (w.toNat + 2) ≤ 64 * 66 := Nat.mul_le_mul (by omega) (by omega)
            generalize hP : h.toNat * (w.toNat + 2) = P at *
            obtain ⟨q, hq⟩ : ∃ q, k = (q + P + 1) + l.length + 1 := ⟨k - P - 2 - l.length, by omega⟩
            obtain ⟨b, ⟨r, hr, hb⟩, hs, hok⟩ := look w h l (by omega) dx dy l.length (q + P + 1) 0 (by omega) (by omega) (by omega)
            rw [← hq] at hr hs
            have hpx : impl_Px_33.f k l fv34 = some b := by
              unfold impl_Px_33.f impl_Px_52.f
              rw [hr]
              exact congrArg some hb
            rw [hs, hpx]
            cases b with
            | true => exact ⟨[], rfl, rfl, .inr ⟨fun H => by simpa using hok.2 H.2, rfl⟩⟩
            | false =>
              have h1 := l1_run l w h dx dy F h.toNat q 0 (by omega) (by omega) (by omega)
              rw [hP, Int.zero_mul] at h1
              have h2 := impl_run l w h dx dy F (w * h).toNat (k - (w * h).toNat - 1) 0 (by omega) (by omega) (by omega)
              rw [show k - (w * h).toNat - 1 + (w * h).toNat + 1 = k by omega] at h2
              refine ⟨goal l w h dx dy, ?_, ?_, .inl ⟨F, hok.1 rfl, rfl⟩⟩
              · simpa using h1
              · have e : (l.length : Int).toNat = (w * h).toNat := by omega
                simp only [Option.bind_some, Bool.false_eq_true, if_false]
                rw [if_pos (by omega), if_pos (by omega), e]
                simpa using h2
          · refine ⟨[], ?_, ?_, .inr ⟨fun H => c5 ⟨H.1.y1, H.1.y2⟩, rfl⟩⟩
            · simp [c5]
            · simp [c5]
        · rw [if_neg c4, if_neg c4]; exact ⟨[], by simp, by simp, .inr ⟨fun H => c4 ⟨H.1.x1, H.1.x2⟩, rfl⟩⟩
      · rw [if_neg c3, if_neg c3]; exact ⟨[], by simp, by simp, .inr ⟨fun H => c3 H.1.len, rfl⟩⟩
    · rw [if_pos c1, if_pos c1, if_neg c2, if_neg c2]; exact ⟨[], by simp, by simp, .inr ⟨fun H => c2 ⟨H.1.h1, H.1.h2⟩, rfl⟩⟩
  · rw [if_neg c1, if_neg c1]; exact ⟨[], by simp, by simp, .inr ⟨fun H => c1 ⟨H.1.w1, H.1.w2⟩, rfl⟩⟩

theorem moved_eq (w h : Int) (l : List S35) (dx dy : Int) (k : Nat) (hk : 10000 ≤ k) : ∃ r, spec_Moved.f k w h l dx dy = some r ∧ impl_Moved.f k w h l dx dy = some r ∧ r.length ≤ 4096 := by
  obtain ⟨r, a, b, c⟩ := moved_full w h l dx dy k hk
  refine ⟨r, a, b, ?_⟩
  rcases c with ⟨F, _, rfl⟩ | ⟨_, rfl⟩
  · have := area F.w1 F.w2 F.h1 F.h2
    rw [goal_len]
    omega
  · simp

theorem from_ok (b : List Int) (i h x y : Int) (hb : b.length ≤ 4096) (hi : 0 ≤ i) : ∃ r i' h', spec_l1From.f b i h x y = some (r, i', h') ∧ 0 ≤ i' := by
  unfold spec_l1From.f
  obtain ⟨u, i1, h1, e, hi1, _, _⟩ := below_ok b i h (wrap64 (wrap64 (y - x) + 1)) hb hi
  rw [e]
  exact ⟨_, _, _, rfl, hi1⟩

theorem draw_loop (b : List Int) (hb : b.length ≤ 4096) (w h : Int) (hp : 1 ≤ w * h) (hq : w * h ≤ 4096) : ∀ (d k : Nat) (out : List S35) (i p q : Int), 0 ≤ i → i ≤ w * h → w * h - i = d → d < k → (out.length : Int) = i → 0 ≤ p →
    ∃ W H L X Y, spec_DrawMoved.l0 k w h out i b p q = some (W, H, L, X, Y) := by
  have ww : wrap64 (w * h) = w * h := by unfold wrap64; omega
  intro d
  induction d with
  | zero =>
    intro k out i p q h0 h1 hd hk hl hi
    obtain ⟨k, rfl⟩ : ∃ m, k = m + 1 := ⟨k - 1, by omega⟩
    simp only [spec_DrawMoved.l0]
    rw [ww, if_neg (by omega)]
    obtain ⟨x, i1, h1, e, hi1⟩ := from_ok b p q (-3) 3 hb hi
    rw [e]; simp only [Option.bind_some]; clear e
    obtain ⟨y, i2, h2, e, hi2⟩ := from_ok b i1 h1 (-3) 3 hb hi1
    rw [e]; simp only [Option.bind_some]; clear e
    obtain ⟨o, i3, h3, e, hi3⟩ := once_ok b i2 h2 14 hb hi2
    rw [e]; simp only [Option.bind_some]; clear e
    split
    · obtain ⟨c, i4, h4, e, hi4, c0, c1⟩ := below_ok b i3 h3 5 hb hi3
      rw [e]; simp only [Option.bind_some]; clear e
      obtain ⟨u, i5, h5, e5, hi5, u0, u1⟩ := below_ok b i4 h4 4 hb hi4
      obtain ⟨v, i6, h6, e6, hi6, v0, v1⟩ := below_ok b i4 h4 3 hb hi4
      have u1 := u1 (by omega)
      have v1 := v1 (by omega)
      simp only [e5, e6, Option.bind_some]
      split
      · first | rw [if_pos u0, if_pos (by simpa using u1)] | rw [if_pos (by simpa using u1)]
        exact ⟨_, _, _, _, _, rfl⟩
      · split
        · rw [if_pos (by omega)]
          exact ⟨_, _, _, _, _, rfl⟩
        · split
          · rw [if_pos (by omega)]
            exact ⟨_, _, _, _, _, rfl⟩
          · split
            · first | rw [if_pos v0, if_pos (by simpa using v1)] | rw [if_pos (by simpa using v1)]
              exact ⟨_, _, _, _, _, rfl⟩
            · split
              · first | rw [if_pos v0, if_pos (by simpa using v1)] | rw [if_pos (by simpa using v1)]
                exact ⟨_, _, _, _, _, rfl⟩
              · exact ⟨_, _, _, _, _, rfl⟩
    · exact ⟨_, _, _, _, _, rfl⟩
  | succ d ih =>
    intro k out i p q h0 h1 hd hk hl hi
    obtain ⟨k, rfl⟩ : ∃ m, k = m + 1 := ⟨k - 1, by omega⟩
    have wi : wrap64 (i + 1) = i + 1 := by unfold wrap64; omega
    simp only [spec_DrawMoved.l0]
    rw [ww, if_pos (by omega)]
    obtain ⟨x, i1, h1, e, hi1, _, _⟩ := below_ok b p q 256 hb hi
    rw [e]; simp only [Option.bind_some]; clear e
    obtain ⟨y, i2, h2, e, hi2, _, _⟩ := below_ok b i1 h1 (wrap64 (x + 1)) hb hi1
    rw [e]; simp only [Option.bind_some]; clear e
    rw [if_pos (by omega), wi]
    exact ih k _ (i + 1) i2 h2 (by omega) (by omega) (by omega) (by omega) (by simp; omega) hi2

theorem draw_ok (b : List Int) (hb : b.length ≤ 4096) (k : Nat) (hk : 4097 ≤ k) : ∃ W H L X Y, spec_DrawMoved.f k b = some (W, H, L, X, Y) := by
  unfold spec_DrawMoved.f
  obtain ⟨hh, hnew⟩ := new_ok b hb k hk
  rw [hnew]
  simp only [Option.bind_some]
  obtain ⟨w, i1, h1, e, hi1, w0, w1⟩ := below_ok b 0 hh 4 hb (by omega)
  rw [e]; simp only [Option.bind_some]; clear e
  obtain ⟨h, i2, h2, e, hi2, z0, z1⟩ := below_ok b i1 h1 4 hb hi1
  rw [e]; simp only [Option.bind_some]; clear e
  have w1 := w1 (by omega)
  have z1 := z1 (by omega)
  have a : wrap64 (1 + w) = 1 + w := by unfold wrap64; omega
  have c : wrap64 (1 + h) = 1 + h := by unfold wrap64; omega
  rw [a, c]
  have ar := area (w := 1 + w) (h := 1 + h) (by omega) (by omega) (by omega) (by omega)
  exact draw_loop b hb (1 + w) (1 + h) ar.1 ar.2 ((1 + w) * (1 + h)).toNat k [] 0 i2 h2 (by omega) (by omega) (by omega) (by omega) (by simp) hi2

theorem rd_goal (l : List S35) (w h dx dy : Int) (w1 : 1 ≤ w) (x y : Int) (x1 : 0 ≤ x) (x2 : x ≤ w - 1) (y1 : 0 ≤ y) (y2 : y ≤ h - 1) : rd_T35 (goal l w h dx dy) (y * w + x) = cell l w h dx dy x y := by
  obtain ⟨p, q⟩ := place w1 x1 x2 y1 y2
  have hlt : (y * w + x).toNat < (goal l w h dx dy).length := by rw [goal_len]; omega
  rw [rd35 _ _ _ (List.getElem?_eq_getElem hlt), goal_at]
  have c : (((y * w + x).toNat : Nat) : Int) = y * w + x := by omega
  rw [c, (split_place w1 x1 x2).1, (split_place w1 x1 x2).2]

theorem split_back {w i : Int} : i = i / w * w + i % w := by
  have := Int.emod_def i w
  rw [Int.mul_comm w (i / w)] at this
  omega

theorem goal_ok (l : List S35) (w h dx dy : Int) (F : Fit l w h dx dy) (O : OkFrom l 0) : OkFrom (goal l w h dx dy) 0 := by
  intro j h0 h1
  rw [goal_len] at h1
  have w1 := F.w1
  have m0 : 0 ≤ j % w := Int.emod_nonneg _ (by omega)
  have m1 : j % w < w := Int.emod_lt_of_pos _ (by omega)
  have d0 : 0 ≤ j / w := Int.ediv_nonneg h0 (by omega)
  have d1 : j / w < h := Int.ediv_lt_of_lt_mul (by omega) (by rw [Int.mul_comm]; omega)
  rw [split_back (i := j) (w := w), rd_goal l w h dx dy w1 _ _ m0 (by omega) d0 (by omega)]
  unfold cell
  split
  · next c1 =>
    split
    · next c2 =>
      obtain ⟨p, q⟩ := place w1 c1.1 c1.2 c2.1 c2.2
      exact O _ (by omega) (by rw [F.len]; exact q)
    · rfl
  · rfl

/-- What is moved back is the picture, where it stayed inside. -/
theorem back_at (l : List S35) (w h dx dy : Int) (F : Fit l w h dx dy) (i : Int) (h0 : 0 ≤ i) (h1 : i < w * h) :
    rd_T35 (goal (goal l w h dx dy) w h (-dx) (-dy)) i = if (0 ≤ i % w + dx ∧ i % w + dx < w) ∧ (0 ≤ i / w + dy ∧ i / w + dy < h) then rd_T35 l i else z35 := by
  have w1 := F.w1
  have m0 : 0 ≤ i % w := Int.emod_nonneg _ (by omega)
  have m1 : i % w < w := Int.emod_lt_of_pos _ (by omega)
  have d0 : 0 ≤ i / w := Int.ediv_nonneg h0 (by omega)
  have d1 : i / w < h := Int.ediv_lt_of_lt_mul (by omega) (by rw [Int.mul_comm]; omega)
  have e := rd_goal (goal l w h dx dy) w h (-dx) (-dy) w1 _ _ m0 (by omega) d0 (by omega)
  rw [← split_back] at e
  rw [e]
  have ex : i % w - -dx = i % w + dx := by omega
  have ey : i / w - -dy = i / w + dy := by omega
  unfold cell
  rw [ex, ey]
  by_cases c1 : 0 ≤ i % w + dx ∧ i % w + dx ≤ w - 1
  · rw [if_pos c1]
    by_cases c2 : 0 ≤ i / w + dy ∧ i / w + dy ≤ h - 1
    · rw [if_pos c2, rd_goal l w h dx dy w1 _ _ c1.1 c1.2 c2.1 c2.2, if_pos (by omega)]
      unfold cell
      rw [show i % w + dx - dx = i % w by omega, show i / w + dy - dy = i / w by omega, if_pos (by omega), if_pos (by omega), ← split_back]
    · rw [if_neg c2, if_neg (by omega)]
  · rw [if_neg c1, if_neg (by omega)]

theorem check_run (l : List S35) (w h dx dy : Int) (F : Fit l w h dx dy) : ∀ (d k : Nat) (i : Int), 0 ≤ i → i ≤ w * h → w * h - i = d → 2 * d < k →
    laws_FnMoved.l0 k w h l dx dy (goal (goal l w h dx dy) w h (-dx) (-dy)) i = some true := by
  have ar := area F.w1 F.w2 F.h1 F.h2
  have ww : wrap64 (w * h) = w * h := wr (by omega) (by omega)
  intro d
  induction d with
  | zero =>
    intro k i h0 h1 hd hk
    obtain ⟨k, rfl⟩ : ∃ m, k = m + 1 := ⟨k - 1, by omega⟩
    simp only [laws_FnMoved.l0]
    rw [ww, if_neg (by omega)]
  | succ d ih =>
    intro k i h0 h1 hd hk
    obtain ⟨k, rfl⟩ : ∃ m, k = m + 2 := ⟨k - 2, by omega⟩
    have IH := ih k (i + 1) (by omega) (by omega) (by omega) (by omega)
    have hb := back_at l w h dx dy F i h0 (by omega)
    have hlen : ((goal (goal l w h dx dy) w h (-dx) (-dy)).length : Int) = w * h := by rw [goal_len]; omega
    generalize goal (goal l w h dx dy) w h (-dx) (-dy) = b at *
    obtain ⟨w1, w2, hh1, hh2, len, a1, a2, b1, b2⟩ := F
    have m0 : 0 ≤ i % w := Int.emod_nonneg _ (by omega)
    have m1 : i % w < w := Int.emod_lt_of_pos _ (by omega)
    have d0 : 0 ≤ i / w := Int.ediv_nonneg h0 (by omega)
    have d1 : i / w < h := Int.ediv_lt_of_lt_mul (by omega) (by rw [Int.mul_comm]; omega)
    have hj : ∀ q : Bool, (q = true ↔ (0 ≤ i % w + dx ∧ i % w + dx < w) ∧ (0 ≤ i / w + dy ∧ i / w + dy < h)) → laws_FnMoved.j1 (k + 1) w h l dx dy b i q 0 0 0 0 = some true := by
      intro q hq
      simp only [laws_FnMoved.j1]
      cases q with
      | true =>
        rw [if_pos (hq.1 rfl)] at hb
        rw [if_pos rfl, if_pos h0, if_pos (by omega), if_pos (by omega), hb, wr (a := i + 1) (by omega) (by omega)]
        simp only [beq_self_eq_true, Bool.not_true, Bool.or_self, Bool.false_eq_true, if_false]
        exact IH
      | false =>
        rw [if_neg (fun H => by simpa using hq.2 H)] at hb
        rw [if_neg (by simp), if_pos h0, if_pos (by omega), hb, wr (a := i + 1) (by omega) (by omega)]
        simp only [z35, beq_self_eq_true, Bool.not_true, Bool.or_self, Bool.false_eq_true, if_false]
        exact IH
    simp only [laws_FnMoved.l0]
    rw [ww, if_pos (by omega), if_neg (by omega), Int.tmod_eq_emod_of_nonneg h0, Int.tdiv_eq_ediv_of_nonneg h0, wr (a := i / w) (by omega) (by omega), wr (a := i % w + dx) (by omega) (by omega), wr (a := i / w + dy) (by omega) (by omega)]
    split
    · split
      · split
        · exact hj _ (by rw [decide_eq_true_eq]; omega)
        · exact hj _ (by simp; omega)
      · exact hj _ (by simp; omega)
    · exact hj _ (by simp; omega)

theorem FnMoved : laws_FnMoved.Pure := by
  intro l0 _ _ _
  unfold laws_FnMoved.f laws_big.f
  simp only [Option.bind_some, decide_eq_true_eq]
  by_cases hbig : (l0.length : Int) > 4096
  · exact ⟨1, by rw [if_pos hbig]⟩
  refine ⟨10000, ?_⟩
  rw [if_neg hbig]
  obtain ⟨w, h, l, dx, dy, hdraw⟩ := draw_ok l0 (by omega) 10000 (by omega)
  rw [hdraw]
  simp only [Option.bind_some]
  obtain ⟨r, a, b, c⟩ := moved_full w h l dx dy 10000 (by omega)
  rw [a, b]
  simp only [Option.bind_some, if_true]
  rcases c with ⟨F, O, rfl⟩ | ⟨_, rfl⟩
  · have ar := area F.w1 F.w2 F.h1 F.h2
    rw [if_neg (by rw [goal_len]; omega)]
    have e1 : wrap64 (-dx) = -dx := wr (by have := F.x2; omega) (by have := F.x1; omega)
    have e2 : wrap64 (-dy) = -dy := wr (by have := F.y2; omega) (by have := F.y1; omega)
    rw [e1, e2]
    obtain ⟨r2, _, b2, c2⟩ := moved_full w h (goal l w h dx dy) (-dx) (-dy) 10000 (by omega)
    have F2 : Fit (goal l w h dx dy) w h (-dx) (-dy) := ⟨F.w1, F.w2, F.h1, F.h2, by rw [goal_len]; omega, by have := F.x2; omega, by have := F.x1; omega, by have := F.y2; omega, by have := F.y1; omega⟩
    have O2 := goal_ok l w h dx dy F O
    rw [b2]
    simp only [Option.bind_some]
    rcases c2 with ⟨_, _, rfl⟩ | ⟨n, _⟩
    · exact check_run l w h dx dy F (w * h).toNat 10000 0 (by omega) (by omega) (by omega) (by omega)
    · exact absurd ⟨F2, O2⟩ n
  · simp

end Go.Proofs.Ytbafihapjbkagaa.Pure
