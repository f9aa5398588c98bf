/- Proved: the plain law behind FnBoxesBack: whatever the draw, it answers true. No condition. -/
-- squeezed
import Derived.Test.YtpennfkjfeipcaaPFnBoxesBackx10
namespace Go.Proofs.Ytpennfkjfeipcaa.Pure
open Go.RowKit Go.Proofs.Ytpennfkjfeipcaa.PFnBoxesBack Go.Proofs.YtpennfkjfeipcaaW.PrintWords Go.Proofs.YtpennfkjfeipcaaW.PrintLast

set_option linter.unusedVariables false
set_option linter.unusedSimpArgs false

theorem run_to {α : Type} (F : Nat → Int → Option α) (n : Int) (r : α) (step : ∀ k i, 0 ≤ i → i < n → F (k + 1) i = F k (i + 1)) (stop : ∀ k, F (k + 1) n = some r) :
  ∀ (d k : Nat) (i : Int), 0 ≤ i → i ≤ n → n - i = d → d < k → F k i = some r := by
 intro d
 induction d with
 | zero =>
  intro k i h0 h1 hd hk
  obtain ⟨k, rfl⟩ : ∃ m, k = m + 1 := ⟨k - 1, by omega⟩
  obtain rfl : i = n := by omega
  exact stop k
 | succ d ih =>
  intro k i h0 h1 hd hk
  obtain ⟨k, rfl⟩ : ∃ m, k = m + 1 := ⟨k - 1, by omega⟩
  rw [step k i h0 (by omega)]
  exact ih k (i + 1) (by omega) (by omega) (by omega) (by omega)

theorem set_to {α β : Type} (F : Nat → List β → Int → Option (List β)) (l : List α) (conv : α → β)
  (step : ∀ k acc i x, 0 ≤ i → l[i.toNat]? = some x → acc.length = l.length → F (k + 1) acc i = F k (acc.set i.toNat (conv x)) (i + 1)) (stop : ∀ k acc, F (k + 1) acc (l.length : Int) = some acc) :
  ∀ (d k : Nat) (acc : List β) (i : Int), 0 ≤ i → i ≤ l.length → (l.length : Int) - i = d → d < k → acc.length = l.length → F k acc i = some (acc.take i.toNat ++ (l.drop i.toNat).map conv) := by
 intro d
 induction d with
 | zero =>
  intro k acc i h0 h1 hd hk ha
  obtain ⟨k, rfl⟩ : ∃ m, k = m + 1 := ⟨k - 1, by omega⟩
  obtain rfl : i = (l.length : Int) := by omega
  rw [stop k]
  simp [← ha]
 | succ d ih =>
  intro k acc i h0 h1 hd hk ha
  obtain ⟨k, rfl⟩ : ∃ m, k = m + 1 := ⟨k - 1, by omega⟩
  have hlt : i.toNat < l.length := by omega
  have hx : l[i.toNat]? = some l[i.toNat] := List.getElem?_eq_getElem hlt
  rw [step k acc i _ h0 hx ha, ih k _ (i + 1) (by omega) (by omega) (by omega) (by omega) (by simpa using ha)]
  have e : (i + 1).toNat = i.toNat + 1 := by omega
  rw [e]
  congr 1
  rw [List.take_succ_eq_append_getElem (by simp; omega)]
  rw [List.drop_eq_getElem_cons hlt, List.map_cons, List.getElem_set_self, List.take_set_of_le (Nat.le_refl _), List.append_assoc]
  rfl

theorem in_some (a b c : Int) : impl_in.f a b c = some (decide (b ≤ a ∧ a ≤ c)) := by
 unfold impl_in.f
 by_cases h : b ≤ a
 ·simp [h]
 ·simp [h]

theorem in_spec (a b c : Int) : spec_l1In.f a b c = some (decide (b ≤ a ∧ a ≤ c)) := in_some a b c

/-- A letter or a digit. -/
def Good (c : Int) : Prop := (48 ≤ c ∧ c ≤ 57) ∨ (65 ≤ c ∧ c ≤ 90) ∨ (97 ≤ c ∧ c ≤ 122)

instance (c : Int) : Decidable (Good c) := by unfold Good; infer_instance

theorem spec_char (c : Int) (n : Option Bool) : (if c < 48 then (if c < 97 then (if c < 65 then (some false) else (if c > 90 then (some false) else n)) else (if c > 122 then (if c < 65 then (some false) else (if c > 90 then (some false) else n)) else n)) else (if c > 57 then (if c < 97 then (if c < 65 then (some false) else (if c > 90 then (some false) else n)) else (if c > 122 then (if c < 65 then (some false) else (if c > 90 then (some false) else n)) else n)) else n)) = if Good c then n else some false := by
 by_cases g : Good c
 ·rw [if_pos g]
  unfold Good at g
  repeat' split
  all_goals first | rfl | omega
 ·rw [if_neg g]
  unfold Good at g
  repeat' split
  all_goals first | rfl | omega

theorem impl_char (c : Int) (n : Option Bool) : ((impl_isLetter.f c).bind fun t135 => (if t135 = true then n else ((impl_isDigit.f c).bind fun t136 => (if t136 = true then n else (some false))))) = if Good c then n else some false := by
 have h1 : impl_isLetter.f c = some (decide ((97 ≤ c ∧ c ≤ 122) ∨ (65 ≤ c ∧ c ≤ 90))) := by
  unfold impl_isLetter.f
  repeat' split
  all_goals (congr 1; first | (symm; apply decide_eq_true; omega) | (symm; apply decide_eq_false; omega) | (apply decide_eq_decide.2; omega))
 have h2 : impl_isDigit.f c = some (decide (48 ≤ c ∧ c ≤ 57)) := by
  unfold impl_isDigit.f
  repeat' split
  all_goals (congr 1; first | (symm; apply decide_eq_true; omega) | (symm; apply decide_eq_false; omega) | (apply decide_eq_decide.2; omega))
 rw [h1, h2]
 simp only [Option.bind_some, decide_eq_true_eq]
 by_cases g1 : (97 ≤ c ∧ c ≤ 122) ∨ (65 ≤ c ∧ c ≤ 90)
 ·rw [if_pos g1, if_pos (by unfold Good; omega)]
 ·rw [if_neg g1]
  by_cases g2 : 48 ≤ c ∧ c ≤ 57
  ·rw [if_pos g2, if_pos (by unfold Good; omega)]
  ·rw [if_neg g2, if_neg (by unfold Good; omega)]

theorem kind_l (s : ByteArray) (hs : (s.size : Int) = 4) : ∀ (d k k' : Nat) (i : Int), 0 ≤ i → i ≤ 4 → 4 - i = d → d < k → d < k' → ∃ r, spec_l2Kind.l0 k s i = some r ∧ impl_kindOk.l0 k' s 4 i = some r ∧ (r = true → ∀ j : Int, i ≤ j → j < 4 → Good (bt s j)) := by
 intro d
 induction d with
 | zero =>
  intro k k' i h0 h1 hd hk hk'
  obtain ⟨k, rfl⟩ : ∃ m, k = m + 1 := ⟨k - 1, by omega⟩
  obtain ⟨k', rfl⟩ : ∃ m, k' = m + 1 := ⟨k' - 1, by omega⟩
  refine ⟨true, ?_, ?_, fun _ j h2 h3 => by omega⟩
  ·simp only [spec_l2Kind.l0]; rw [if_neg (by omega)]
  ·simp only [impl_kindOk.l0]; rw [if_neg (by omega)]
 | succ d ih =>
  intro k k' i h0 h1 hd hk hk'
  obtain ⟨k, rfl⟩ : ∃ m, k = m + 1 := ⟨k - 1, by omega⟩
  obtain ⟨k', rfl⟩ : ∃ m, k' = m + 1 := ⟨k' - 1, by omega⟩
  have wi : wrap64 (i + 1) = i + 1 := by unfold wrap64; omega
  obtain ⟨r, a, b, hg⟩ := ih k k' (i + 1) (by omega) (by omega) (by omega) (by omega) (by omega)
  have hS : spec_l2Kind.l0 (k + 1) s i = if Good (bt s i) then spec_l2Kind.l0 k s (i + 1) else some false := by
   simp only [spec_l2Kind.l0]
   rw [if_pos (by omega), if_pos h0, if_pos (by omega), spec_char, wi]
  have hI : impl_kindOk.l0 (k' + 1) s 4 i = if Good (bt s i) then impl_kindOk.l0 k' s 4 (i + 1) else some false := by
   simp only [impl_kindOk.l0]
   rw [if_pos (by omega), if_pos h0, if_pos (by omega), impl_char, wi]
  rw [hS, hI, a, b]
  by_cases g : Good (bt s i)
  ·rw [if_pos g]
   refine ⟨r, rfl, rfl, fun h j h2 h3 => ?_⟩
   by_cases e : j = i
   ·rw [e]; exact g
   ·exact hg h j (by omega) h3
  ·rw [if_neg g]; exact ⟨false, rfl, rfl, fun h => by simp at h⟩

theorem kind_eq (s : ByteArray) : ∃ r, (r = true → s.size = 4 ∧ ∀ j : Int, 0 ≤ j → j < 4 → Good (bt s j)) ∧ ∀ k, 6 ≤ k → spec_l2Kind.f k s = some r ∧ impl_kindOk.f k s = some r := by
 by_cases c : (s.size : Int) = 4
 ·obtain ⟨r, a, b, hg⟩ := kind_l s c 4 5 5 0 (by omega) (by omega) (by omega) (by omega) (by omega)
  refine ⟨r, fun h => ⟨by omega, fun j h2 h3 => hg h j h2 h3⟩, fun k hk => ?_⟩
  obtain ⟨r1, a1, b1, _⟩ := kind_l s c 4 k 5 0 (by omega) (by omega) (by omega) (by omega) (by omega)
  obtain ⟨r2, a2, b2, _⟩ := kind_l s c 4 5 k 0 (by omega) (by omega) (by omega) (by omega) (by omega)
  unfold spec_l2Kind.f impl_kindOk.f
  rw [if_pos c, if_pos c, c]
  obtain rfl := Option.some.inj (b1.symm.trans b)
  obtain rfl := Option.some.inj (a2.symm.trans a)
  exact ⟨a1, b2⟩
 ·refine ⟨false, fun h => by simp at h, fun k hk => ?_⟩
  unfold spec_l2Kind.f impl_kindOk.f
  rw [if_neg c, if_neg c]
  exact ⟨rfl, rfl⟩

def hold (s : ByteArray) : Bool := decide (65 ≤ bt s 0 ∧ bt s 0 ≤ 90)

theorem hold_i (s : ByteArray) (d : Int) (l : List Int) (h : s.size = 4) : impl_Box_holds.f s d l = some (hold s) := by
 unfold impl_Box_holds.f hold
 rw [if_pos (by omega)]
 by_cases c : 65 ≤ bt s 0
 ·rw [if_pos c]; simp [c]
 ·rw [if_neg c]; simp [c]

theorem hold_s (s : ByteArray) (h : s.size = 4) : spec_l2Holds.f s = some (hold s) := hold_i s 0 [] h

/-- Whether the box b may stand at place i, behind a. -/
def fitB (b a : S46) (i : Int) : Bool := !(hold b.f0 && decide ((b.f2.length : Int) > 0)) && decide (0 ≤ b.f1 ∧ b.f1 ≤ (if i = 0 then 0 else mn (if hold a.f0 = true then a.f1 + 1 else a.f1) 8))

theorem spec_step (l : List S46) (hl : l.length ≤ 200) (x i : Int) (h0 : 0 ≤ i) (hlt : i < (l.length : Int)) (k : Nat) (hk : 8 ≤ k) (hkind : spec_l2Kind.f (k + 1) (rd_T46 l i).f0 = some true) (hs : (rd_T46 l i).f0.size = 4)
  (hp : 0 < i → (rd_T46 l (i - 1)).f0.size = 4 ∧ 0 ≤ (rd_T46 l (i - 1)).f1 ∧ (rd_T46 l (i - 1)).f1 ≤ 8) :
  spec_BoxesOk.l0 (k + 2) l x i = if fitB (rd_T46 l i) (rd_T46 l (i - 1)) i = true then spec_BoxesOk.l0 k l (wrap64 (x + ((rd_T46 l i).f2.length : Int))) (i + 1) else some false := by
 have wi : wrap64 (i + 1) = i + 1 := by unfold wrap64; omega
 have wj : wrap64 (i - 1) = i - 1 := by unfold wrap64; omega
 simp only [spec_BoxesOk.l0]
 rw [if_pos hlt, if_pos h0, hkind]
 simp only [Option.bind_some, if_true, spec_BoxesOk.j1, in_spec]
 rw [hold_s _ hs, wi, wj]
 simp only [Option.bind_some]
 generalize hn : spec_BoxesOk.l0 k l (wrap64 (x + ((rd_T46 l i).f2.length : Int))) (i + 1) = nx
 generalize hb : rd_T46 l i = b at *
 generalize ha : rd_T46 l (i - 1) = a at *
 unfold fitB
 clear hn
 generalize (b.f2.length : Int) = m
 by_cases hi : i = 0
 ·subst hi
  have e0 : ¬ (0 : Int) > 0 := by omega
  by_cases d : 0 ≤ b.f1 ∧ b.f1 ≤ 8
  ·by_cases h1 : hold b.f0 = true
   ·by_cases h2 : m > 0
    ·simp [d, h1, h2]
    ·by_cases z : b.f1 = 0
     ·simp [d, h1, h2, z]
     ·have : ¬ b.f1 ≤ 0 := by omega
      simp [d, h1, h2, z, this]
   ·by_cases z : b.f1 = 0
    ·simp [d, h1, z]
    ·have : ¬ b.f1 ≤ 0 := by omega
     simp [d, h1, z, this]
  ·have : ¬ (0 ≤ b.f1 ∧ b.f1 ≤ 0) := by omega
   simp [d, this]
 ·have hip : i > 0 := by omega
  obtain ⟨p1, p2, p3⟩ := hp hip
  have e1 : (0 : Int) ≤ i - 1 := by omega
  have e2 : i - 1 < (l.length : Int) := by omega
  have wa : wrap64 (a.f1 + 1) = a.f1 + 1 := by unfold wrap64; omega
  rw [hold_s _ p1, wa]
  unfold mn
  simp only [Option.bind_some, if_pos hip, if_pos e1, if_pos e2, if_neg hi]
  have key : ∀ m : Bool, m = decide (0 ≤ b.f1 ∧ b.f1 ≤ (if 8 < (if hold a.f0 = true then a.f1 + 1 else a.f1) then 8 else (if hold a.f0 = true then a.f1 + 1 else a.f1))) → (0 ≤ b.f1 ∧ b.f1 ≤ 8) →
    (if b.f1 > a.f1 then if b.f1 = a.f1 + 1 then if hold a.f0 = true then nx else some false else some false else nx) = if m = true then nx else some false := by
   intro m hm d
   subst hm
   by_cases h : hold a.f0 = true
   ·simp only [h, if_true]
    by_cases c1 : b.f1 > a.f1
    ·by_cases c2 : b.f1 = a.f1 + 1
     ·rw [if_pos c1, if_pos c2, if_pos]
      apply decide_eq_true
      split <;> omega
     ·rw [if_pos c1, if_neg c2, if_neg]
      intro q
      have q := of_decide_eq_true q
      split at q <;> omega
    ·rw [if_neg c1, if_pos]
     apply decide_eq_true
     split <;> omega
   ·simp only [h, if_false, Bool.false_eq_true]
    by_cases c1 : b.f1 > a.f1
    ·have hq : ¬ decide (0 ≤ b.f1 ∧ b.f1 ≤ (if 8 < a.f1 then 8 else a.f1)) = true := by
      intro q
      have q := of_decide_eq_true q
      split at q <;> omega
     rw [if_pos c1, if_neg hq]
     split <;> rfl
    ·rw [if_neg c1, if_pos]
     apply decide_eq_true
     split <;> omega
  by_cases d : 0 ≤ b.f1 ∧ b.f1 ≤ 8
  ·have hkey := key _ rfl d
   by_cases h1 : hold b.f0 = true
   ·by_cases h2 : m > 0
    ·simp [d, h1, h2]
    ·rw [hkey] at *
     simp [d, h1, h2]
   ·rw [hkey] at *
    simp [d, h1]
  ·have : ¬ decide (0 ≤ b.f1 ∧ b.f1 ≤ (if 8 < (if hold a.f0 = true then a.f1 + 1 else a.f1) then 8 else (if hold a.f0 = true then a.f1 + 1 else a.f1))) = true := by
    intro q
    have q := of_decide_eq_true q
    split at q <;> omega
   simp only [Bool.and_eq_true, this, and_false, if_false]
   simp [d]

theorem rd_take (l : List S46) (i : Int) (h0 : 0 < i) (h1 : i ≤ (l.length : Int)) : rd_T46 (l.take i.toNat) (i - 1) = rd_T46 l (i - 1) := by
 unfold rd_T46
 rw [List.getD_eq_getElem?_getD, List.getD_eq_getElem?_getD, List.getElem?_take_of_lt (by omega)]

theorem fits_step (l : List S46) (hl : l.length ≤ 200) (i : Int) (h0 : 0 ≤ i) (hlt : i < (l.length : Int)) (k : Nat) (hkind : impl_kindOk.f (k + 1) (rd_T46 l i).f0 = some true) (hs : (rd_T46 l i).f0.size = 4)
  (hp : 0 < i → (rd_T46 l (i - 1)).f0.size = 4 ∧ 0 ≤ (rd_T46 l (i - 1)).f1 ∧ (rd_T46 l (i - 1)).f1 ≤ 8) :
  impl_Box_fits.f (k + 1) (rd_T46 l i).f0 (rd_T46 l i).f1 (rd_T46 l i).f2 (l.take i.toNat) = some (fitB (rd_T46 l i) (rd_T46 l (i - 1)) i) := by
 have hlen : ((l.take i.toNat).length : Int) = i := by rw [List.length_take]; omega
 have wj : wrap64 (i - 1) = i - 1 := by unfold wrap64; omega
 unfold impl_Box_fits.f
 rw [hkind, hold_i _ _ _ hs]
 simp only [Option.bind_some, if_true, impl_Box_fits.j0, hlen, wj]
 have hJ : ∀ q : Bool, (if q = true then some false else (if i > 0 then (if 0 ≤ i - 1 then (if i - 1 < i then ((impl_Box_holds.f ((rd_T46 (l.take i.toNat) (i - 1)).f0) ((rd_T46 (l.take i.toNat) (i - 1)).f1) ((rd_T46 (l.take i.toNat) (i - 1)).f2)).bind fun t143 => (if t143 = true then ((impl_in.f (rd_T46 l i).f1 0 (mn (wrap64 (((rd_T46 (l.take i.toNat) (i - 1)).f1) + 1)) 8)).bind fun t144 => (some t144)) else ((impl_in.f (rd_T46 l i).f1 0 (mn ((rd_T46 (l.take i.toNat) (i - 1)).f1) 8)).bind fun t145 => (some t145)))) else (none)) else (none)) else ((impl_in.f (rd_T46 l i).f1 0 (mn 0 8)).bind fun t146 => (some t146))))
   = some (!q && decide (0 ≤ (rd_T46 l i).f1 ∧ (rd_T46 l i).f1 ≤ (if i = 0 then 0 else mn (if hold (rd_T46 l (i - 1)).f0 = true then (rd_T46 l (i - 1)).f1 + 1 else (rd_T46 l (i - 1)).f1) 8))) := by
  intro q
  cases q with
  | true => simp
  | false =>
   by_cases hi : i = 0
   ·subst hi
    rw [if_neg (by simp), if_neg (by omega : ¬ (0 : Int) > 0), in_some]
    simp [mn]
   ·have hip : 0 < i := by omega
    obtain ⟨p1, p2, p3⟩ := hp hip
    have wa : wrap64 ((rd_T46 l (i - 1)).f1 + 1) = (rd_T46 l (i - 1)).f1 + 1 := by unfold wrap64; omega
    rw [if_neg (by simp), if_pos (by omega), if_pos (by omega), if_pos (by omega), rd_take l i hip (by omega), hold_i _ _ _ p1, wa, in_some, in_some, if_neg hi]
    simp only [Option.bind_some]
    by_cases h : hold (rd_T46 l (i - 1)).f0 = true
    ·simp [h]
    ·simp [h]
 unfold fitB
 by_cases h1 : hold (rd_T46 l i).f0 = true
 ·rw [h1]
  simp only [if_true, Bool.true_and]
  exact hJ _
 ·have h1' : hold (rd_T46 l i).f0 = false := by simpa using h1
  rw [h1']
  simp only [Bool.false_eq_true, if_false, Bool.false_and]
  exact hJ false

theorem fit_depth (b a : S46) (i : Int) (h : fitB b a i = true) : 0 ≤ b.f1 ∧ b.f1 ≤ 8 := by
 unfold fitB at h
 simp only [Bool.and_eq_true, decide_eq_true_eq] at h
 obtain ⟨_, h1, h2⟩ := h
 refine ⟨h1, ?_⟩
 unfold mn at h2
 split at h2
 ·omega
 ·split at h2 <;> omega

theorem impl_step (l : List S46) (hl : l.length ≤ 200) (k : Nat) (x i : Int) (h0 : 0 ≤ i) (hlt : i < (l.length : Int)) : impl_BoxesOk.l0 (k + 1) l x l (l.length : Int) i =
  (impl_Box_fits.f k (rd_T46 l i).f0 (rd_T46 l i).f1 (rd_T46 l i).f2 (l.take i.toNat)).bind fun t => if t = true then impl_BoxesOk.l0 k l (wrap64 (x + ((rd_T46 l i).f2.length : Int))) l (l.length : Int) (i + 1) else some false := by
 have wi : wrap64 (i + 1) = i + 1 := by unfold wrap64; omega
 simp only [impl_BoxesOk.l0]
 rw [if_pos hlt, if_pos h0, if_pos hlt, if_pos (by omega), wi]

/-- What is known of a box of a right list. -/
def OkAt (l : List S46) (j : Int) : Prop := (rd_T46 l j).f0.size = 4 ∧ (∀ i : Int, 0 ≤ i → i < 4 → Good (bt (rd_T46 l j).f0 i)) ∧ fitB (rd_T46 l j) (rd_T46 l (j - 1)) j = true

theorem boxes_l (l : List S46) (hl : l.length ≤ 200) : ∀ (d k k' : Nat) (i x : Int), 0 ≤ i → i ≤ (l.length : Int) → (l.length : Int) - i = d → 2 * d + 10 < k → 2 * d + 10 < k' →
  (0 < i → (rd_T46 l (i - 1)).f0.size = 4 ∧ 0 ≤ (rd_T46 l (i - 1)).f1 ∧ (rd_T46 l (i - 1)).f1 ≤ 8) →
  ∃ r, spec_BoxesOk.l0 k l x i = some r ∧ impl_BoxesOk.l0 k' l x l (l.length : Int) i = some r ∧ (r = true → ∀ j : Int, i ≤ j → j < (l.length : Int) → OkAt l j) := by
 intro d
 induction d with
 | zero =>
  intro k k' i x h0 h1 hd hk hk' hp
  obtain ⟨k, rfl⟩ : ∃ m, k = m + 1 := ⟨k - 1, by omega⟩
  obtain ⟨k', rfl⟩ : ∃ m, k' = m + 1 := ⟨k' - 1, by omega⟩
  refine ⟨decide (x ≤ 20000), ?_, ?_, fun _ j h2 h3 => by omega⟩
  ·simp only [spec_BoxesOk.l0]; rw [if_neg (by omega)]
  ·simp only [impl_BoxesOk.l0]; rw [if_neg (by omega)]
 | succ d ih =>
  intro k k' i x h0 h1 hd hk hk' hp
  obtain ⟨k, rfl⟩ : ∃ m, k = m + 2 := ⟨k - 2, by omega⟩
  obtain ⟨k', rfl⟩ : ∃ m, k' = m + 2 := ⟨k' - 2, by omega⟩
  have hlt : i < (l.length : Int) := by omega
  have wi : wrap64 (i + 1) = i + 1 := by unfold wrap64; omega
  obtain ⟨r, hr, hK⟩ := kind_eq (rd_T46 l i).f0
  cases r with
  | false =>
   refine ⟨false, ?_, ?_, fun h => by simp at h⟩
   ·simp only [spec_BoxesOk.l0]
    rw [if_pos hlt, if_pos h0, (hK (k + 1) (by omega)).1]
    simp [spec_BoxesOk.j1]
   ·rw [show k' + 2 = (k' + 1) + 1 from rfl, impl_step l hl (k' + 1) x i h0 hlt]
    unfold impl_Box_fits.f
    rw [(hK (k' + 1) (by omega)).2]
    simp [impl_Box_fits.j0]
  | true =>
   obtain ⟨hs, hgood⟩ := hr rfl
   rw [spec_step l hl x i h0 hlt k (by omega) (hK (k + 1) (by omega)).1 hs hp]
   rw [show k' + 2 = (k' + 1) + 1 from rfl, impl_step l hl (k' + 1) x i h0 hlt, fits_step l hl i h0 hlt k' (hK (k' + 1) (by omega)).2 hs hp]
   simp only [Option.bind_some]
   by_cases f : fitB (rd_T46 l i) (rd_T46 l (i - 1)) i = true
   ·rw [if_pos f]
    obtain ⟨r, a, b, hg⟩ := ih k (k' + 1) (i + 1) (wrap64 (x + ((rd_T46 l i).f2.length : Int))) (by omega) (by omega) (by omega) (by omega) (by omega) (fun _ => by
     rw [show i + 1 - 1 = i by omega]
     exact ⟨hs, fit_depth _ _ _ f⟩)
    refine ⟨r, a, by rw [if_pos f]; exact b, fun h j h2 h3 => ?_⟩
    by_cases e : j = i
    ·rw [e]; exact ⟨hs, hgood, f⟩
    ·exact hg h j (by omega) h3
   ·rw [if_neg f]
    exact ⟨false, rfl, by rw [if_neg f], fun h => by simp at h⟩

/-- The program's BoxesOk and the reference's answer alike. -/
theorem boxes_eq (l : List S46) (k : Nat) (hk : 500 ≤ k) : ∃ r, spec_BoxesOk.f k l = some r ∧ impl_BoxesOk.f k l = some r ∧ (r = true → l.length ≤ 200 ∧ ∀ j : Int, 0 ≤ j → j < (l.length : Int) → OkAt l j) := by
 unfold spec_BoxesOk.f impl_BoxesOk.f
 by_cases c : (l.length : Int) > 200
 ·rw [if_pos c, if_pos c]; exact ⟨false, rfl, rfl, fun h => by simp at h⟩
 ·rw [if_neg c, if_neg c]
  obtain ⟨r, a, b, hg⟩ := boxes_l l (by omega) l.length k k 0 0 (by omega) (by omega) (by omega) (by omega) (by omega) (fun h => by omega)
  exact ⟨r, a, b, fun h => ⟨by omega, hg h⟩⟩

theorem endp_some (l : List S46) (a : Int) (ha : 0 ≤ a) (hl : a < (l.length : Int)) (hm : l.length ≤ 1000000) : ∀ (d k : Nat) (x : Int), 0 ≤ x → x ≤ (l.length : Int) → (l.length : Int) - x = d → d < k → ∃ e : Int, endp k l a x = some e ∧ x ≤ e ∧ e ≤ (l.length : Int) := by
 intro d
 induction d with
 | zero =>
  intro k x h0 h1 hd hk
  obtain ⟨k, rfl⟩ : ∃ m, k = m + 1 := ⟨k - 1, by omega⟩
  refine ⟨x, ?_, by omega, by omega⟩
  simp only [endp]
  rw [if_neg (by omega)]
 | succ d ih =>
  intro k x h0 h1 hd hk
  obtain ⟨k, rfl⟩ : ∃ m, k = m + 1 := ⟨k - 1, by omega⟩
  simp only [endp]
  rw [if_pos (by omega), if_pos h0, if_pos ha, if_pos hl]
  by_cases c : (rd_T46 l x).f1 > (rd_T46 l a).f1
  ·rw [if_pos c]
   have hw : wrap64 (x + 1) = x + 1 := by unfold wrap64; omega
   rw [hw]
   obtain ⟨e, h2, h3, h4⟩ := ih k (x + 1) (by omega) (by omega) (by omega) (by omega)
   exact ⟨e, h2, by omega, h4⟩
  ·rw [if_neg c]
   exact ⟨x, rfl, by omega, by omega⟩
def bcost (b : S46) : Nat := 4 + b.f0.size + b.f2.length
def cost (l : List S46) : Nat := (l.map bcost).sum
theorem cost_split (l : List S46) (p e : Nat) (hp : p + 1 ≤ e) (he : e ≤ l.length) : cost (l.drop p) = bcost (rd_T46 l (p : Int)) + cost ((l.take e).drop (p + 1)) + cost (l.drop e) := by
 have hlt : p < l.length := by omega
 have hr : rd_T46 l (p : Int) = l[p] := by
  unfold rd_T46
  rw [List.getD_eq_getElem?_getD, show ((p : Int)).toNat = p by omega, List.getElem?_eq_getElem hlt]
  rfl
 have h2 : l.drop (p + 1) = (l.take e).drop (p + 1) ++ l.drop e := by
  rw [List.drop_take]
  have h3 : (l.drop (p + 1)).drop (e - (p + 1)) = l.drop e := by rw [List.drop_drop]; congr 1; omega
  rw [← h3, List.take_append_drop]
 unfold cost
 rw [List.drop_eq_getElem_cons hlt, h2, List.map_cons, List.map_append, List.sum_cons, List.sum_append, hr]
 omega
theorem shw_some : ∀ (n : Nat) (l : List S46) (out : List Int) (p k : Nat), l.length - p ≤ n → p ≤ l.length → n + 1 ≤ k → out.length + cost (l.drop p) + 8 ≤ 1000000 → l.length ≤ 1000000 → ∃ r, shw k l out p = some r ∧ r.length = out.length + cost (l.drop p) := by
 intro n
 induction n with
 | zero =>
  intro l out p k h1 h2 h3 h4 h5
  obtain ⟨k, rfl⟩ : ∃ m, k = m + 1 := ⟨k - 1, by omega⟩
  refine ⟨out, ?_, ?_⟩
  ·simp only [shw]
   rw [if_neg (by omega)]
  ·rw [List.drop_of_length_le (by omega)]
   rfl
 | succ n ih =>
  intro l out p k h1 h2 h3 h4 h5
  obtain ⟨k, rfl⟩ : ∃ m, k = m + 1 := ⟨k - 1, by omega⟩
  by_cases c : p < l.length
  ·have hw : wrap64 ((p : Int) + 1) = (p : Int) + 1 := by unfold wrap64; omega
   obtain ⟨e, e1, e2, e3⟩ := endp_some l (p : Int) (by omega) (by omega) h5 (l.length - (p + 1)) k ((p : Int) + 1) (by omega) (by omega) (by omega) (by omega)
   obtain ⟨en, rfl⟩ : ∃ en : Nat, e = (en : Int) := ⟨e.toNat, by omega⟩
   have hc := cost_split l p en (by omega) (by omega)
   have hb : bcost (rd_T46 l (p : Int)) = 4 + (rd_T46 l (p : Int)).f0.size + (rd_T46 l (p : Int)).f2.length := rfl
   have hsl : ((l.take en).drop (p + 1)).length = en - (p + 1) := by rw [List.length_drop, List.length_take]; omega
   obtain ⟨sub, s1, s2⟩ := ih ((l.take en).drop (p + 1)) [] 0 k (by omega) (Nat.zero_le _) (by omega) (by rw [List.drop_zero]; simp only [List.length_nil]; omega) (by omega)
   rw [List.drop_zero] at s2
   simp only [List.length_nil, Nat.zero_add] at s2
   have hf : (four (8 + ((((rd_T46 l (p : Int)).f2 ++ sub).length : Nat) : Int))).length = 4 := rfl
   have hout : (out ++ (four (8 + ((((rd_T46 l (p : Int)).f2 ++ sub).length : Nat) : Int)) ++ (bytesOf (rd_T46 l (p : Int)).f0 ++ ((rd_T46 l (p : Int)).f2 ++ sub)))).length = out.length + (bcost (rd_T46 l (p : Int)) + cost ((l.take en).drop (p + 1))) := by
    have hb2 : ((rd_T46 l (p : Int)).f2 ++ sub).length = (rd_T46 l (p : Int)).f2.length + cost ((l.take en).drop (p + 1)) := by rw [List.length_append, s2]
    generalize hB : (rd_T46 l (p : Int)).f2 ++ sub = B at hb2 hf ⊢
    rw [List.length_append, List.length_append, hf, List.length_append, bytesOf_length, hb2, hb]
    omega
   obtain ⟨r, r1, r2⟩ := ih l (out ++ (four (8 + ((((rd_T46 l (p : Int)).f2 ++ sub).length : Nat) : Int)) ++ (bytesOf (rd_T46 l (p : Int)).f0 ++ ((rd_T46 l (p : Int)).f2 ++ sub)))) en k (by omega) (by omega) (by omega) (by rw [hout]; omega) h5
   refine ⟨r, ?_, by rw [r2, hout]; omega⟩
   simp only [shw]
   rw [if_pos c, hw, e1]
   simp only [Option.bind_some]
   rw [if_pos (by omega), Int.toNat_natCast, s1]
   simp only [Option.bind_some]
   rw [if_pos (by rw [List.length_append, s2]; omega)]
   exact r1
  ·refine ⟨out, ?_, ?_⟩
   ·simp only [shw]
    rw [if_neg c]
   ·rw [List.drop_of_length_le (by omega)]
    rfl

theorem rd46 (l : List S46) (i : Int) (x : S46) (h : l[i.toNat]? = some x) : rd_T46 l i = x := by
 unfold rd_T46
 rw [List.getD_eq_getElem?_getD, h]
 rfl

def dsum (l : List S46) : Nat := (l.map fun x => x.f2.length).sum
theorem dsum_cons (x : S46) (l : List S46) : dsum (x :: l) = x.f2.length + dsum l := by unfold dsum; rw [List.map_cons, List.sum_cons]
theorem dsum_drop (l : List S46) (i : Nat) (h : i < l.length) : dsum (l.drop i) = (rd_T46 l (i : Int)).f2.length + dsum (l.drop (i + 1)) := by
 rw [List.drop_eq_getElem_cons h, dsum_cons, rd46 l (i : Int) l[i] (by rw [Int.toNat_natCast]; exact List.getElem?_eq_getElem h)]

/-- A right list's bytes are not too many. -/
theorem ok_sum (l : List S46) (hl : l.length ≤ 200) (hd : ∀ x ∈ l, x.f2.length ≤ 1048576) : ∀ (d k : Nat) (i : Nat) (x : Int), i ≤ l.length → l.length - i = d → 0 ≤ x → x ≤ 1048576 * (i : Int) → impl_BoxesOk.l0 k l x l (l.length : Int) (i : Int) = some true → x + (dsum (l.drop i) : Int) ≤ 20000 := by
 intro d
 induction d with
 | zero =>
  intro k i x hi hd' h0 h1 h
  cases k with
  | zero => simp [impl_BoxesOk.l0] at h
  | succ k =>
   simp only [impl_BoxesOk.l0] at h
   rw [if_neg (by omega)] at h
   have := of_decide_eq_true (Option.some.inj h)
   rw [List.drop_of_length_le (by omega)]
   simpa [dsum] using this
 | succ d ih =>
  intro k i x hi hd' h0 h1 h
  cases k with
  | zero => simp [impl_BoxesOk.l0] at h
  | succ k =>
   rw [impl_step l hl k x (i : Int) (by omega) (by omega)] at h
   obtain ⟨t, _, h⟩ := Option.bind_eq_some_iff.1 h
   cases t with
   | false => simp at h
   | true =>
    rw [if_pos rfl] at h
    have hb := hd _ (List.mem_of_getElem? (List.getElem?_eq_getElem (show i < l.length by omega)))
    rw [← rd46 l (i : Int) l[i] (by rw [Int.toNat_natCast]; exact List.getElem?_eq_getElem (by omega))] at hb
    have hw : wrap64 (x + ((rd_T46 l (i : Int)).f2.length : Int)) = x + ((rd_T46 l (i : Int)).f2.length : Int) := by unfold wrap64; omega
    rw [hw] at h
    have := ih k (i + 1) _ (by omega) (by omega) (by omega) (by omega) h
    rw [dsum_drop l i (by omega)]
    omega

theorem cost_eq (l : List S46) (h : ∀ x ∈ l, x.f0.size = 4) : cost l = 8 * l.length + dsum l := by
 induction l with
 | nil => rfl
 | cons x xs ih =>
  have h1 := h x (List.mem_cons_self ..)
  have h2 := ih (fun y hy => h y (List.mem_cons_of_mem _ hy))
  have h3 : cost (x :: xs) = bcost x + cost xs := by unfold cost; rw [List.map_cons, List.sum_cons]
  have h4 : bcost x = 4 + x.f0.size + x.f2.length := rfl
  rw [h3, dsum_cons, List.length_cons, h2, h4, h1]
  omega

/-- ShowBoxes of the program and of the reference answer alike. -/
theorem show_eq (l : List S46) (hd : ∀ x ∈ l, x.f2.length ≤ 1048576) (k : Nat) (hk : 500 ≤ k) : ∃ r, r.length ≤ 1000000 ∧ spec_ShowBoxes.f k l = some r ∧ impl_ShowBoxes.f k l = some r := by
 obtain ⟨r, h1, h2, h3⟩ := boxes_eq l k hk
 unfold spec_ShowBoxes.f impl_ShowBoxes.f
 rw [h1, h2]
 simp only [Option.bind_some]
 cases r with
 | false => exact ⟨[], by simp, rfl, rfl⟩
 | true =>
  obtain ⟨hl, hok⟩ := h3 rfl
  have hs : ∀ x ∈ l, x.f0.size = 4 := fun x hx => by
   obtain ⟨n, hn⟩ := List.getElem?_of_mem hx
   have hlt : n < l.length := (List.getElem?_eq_some_iff.1 hn).1
   have := (hok (n : Int) (by omega) (by omega)).1
   rw [rd46 l (n : Int) x (by rw [Int.toNat_natCast]; exact hn)] at this
   exact this
  have hsum : (0 : Int) + (dsum (l.drop 0) : Int) ≤ 20000 := ok_sum l hl hd l.length k 0 0 (by omega) (by omega) (by omega) (by omega) (by
   unfold impl_BoxesOk.f at h2
   rw [if_neg (by omega)] at h2
   exact h2)
  rw [List.drop_zero] at hsum
  have hc := cost_eq l hs
  obtain ⟨out, e1, e2⟩ := shw_some l.length l [] 0 k (by omega) (by omega) (by omega) (by rw [List.drop_zero, hc]; simp only [List.length_nil]; omega) (by omega)
  refine ⟨out, ?_, ?_, ?_⟩
  ·rw [e2, List.drop_zero, hc]
   simp only [List.length_nil]
   omega
  ·rw [if_pos rfl]
   unfold spec_l2Show.f
   rw [if_pos (by omega), e1]
   rfl
  ·rw [if_pos rfl]
   unfold impl_showBoxes.f
   rw [if_pos (by omega), e1]
   rfl

theorem rdr_some : ∀ (d k : Nat) (bs : List Int) (boxes : List S46) (data : Int) (p en : Nat) (depth : Int), en - p ≤ d → d < k → ∃ r, rdr k bs boxes data p en depth = some r := by
 intro d
 induction d using Nat.strongRecOn with
 | ind d ih =>
 intro k bs boxes data p en depth hd hk
 obtain ⟨k, rfl⟩ : ∃ m, k = m + 1 := ⟨k - 1, by omega⟩
 simp only [rdr]
 by_cases c1 : p < en
 ·rw [if_pos c1]
  by_cases c2 : en < p + 8
  ·rw [if_pos c2]; exact ⟨_, rfl⟩
  rw [if_neg c2]
  by_cases c3 : sz4 bs p < 8
  ·rw [if_pos c3]; exact ⟨_, rfl⟩
  rw [if_neg c3]
  by_cases c4 : ((en - p : Nat) : Int) < sz4 bs p
  ·rw [if_pos c4]; exact ⟨_, rfl⟩
  rw [if_neg c4]
  obtain ⟨n, hn⟩ : ∃ n : Nat, sz4 bs p = (n : Int) := ⟨(sz4 bs p).toNat, by omega⟩
  rw [hn] at c3 c4 ⊢
  rw [Int.toNat_natCast]
  by_cases c5 : kindB (kd4 bs p) = true
  ·rw [if_pos c5]
   by_cases c6 : 8 < depth
   ·rw [if_pos c6]; exact ⟨_, rfl⟩
   rw [if_neg c6]
   by_cases c7 : boxes.length = 200
   ·rw [if_pos c7]; exact ⟨_, rfl⟩
   rw [if_neg c7]
   by_cases c8 : r_hold (kd4 bs p) = true
   ·rw [if_pos c8]
    obtain ⟨s, hs⟩ := ih (d - 8) (by omega) k bs (boxes ++ [⟨kd4 bs p, depth, []⟩]) data (p + 8) (p + n) (depth + 1) (by omega) (by omega)
    rw [hs, Option.bind_some]
    by_cases c9 : s.2.2.1 = 0
    ·rw [if_pos c9]
     exact ih (d - 8) (by omega) k bs _ _ _ _ _ (by omega) (by omega)
    ·rw [if_neg c9]; exact ⟨_, rfl⟩
   ·rw [if_neg c8]
    by_cases c9 : 20000 < data + ((n : Int) - 8)
    ·rw [if_pos c9]; exact ⟨_, rfl⟩
    rw [if_neg c9]
    exact ih (d - 8) (by omega) k bs _ _ _ _ _ (by omega) (by omega)
  ·rw [if_neg c5]; exact ⟨_, rfl⟩
 ·rw [if_neg c1]; exact ⟨_, rfl⟩

theorem dsum_snoc (l : List S46) (x : S46) : dsum (l ++ [x]) = dsum l + x.f2.length := by
 unfold dsum
 rw [List.map_append, List.sum_append]
 rfl

/-- The number that the reader keeps is that of the data that it has read. -/
theorem rdr_dsum : ∀ (k : Nat) (bs : List Int) (boxes : List S46) (data : Int) (p en : Nat) (depth : Int) (r : List S46 × Int × Int × Int), rdr k bs boxes data p en depth = some r → en ≤ bs.length → (dsum boxes : Int) = data → (dsum r.1 : Int) = r.2.1 := by
 intro k
 induction k with
 | zero => intro bs boxes data p en depth r h; simp [rdr] at h
 | succ k ih =>
  intro bs boxes data p en depth r h he h1
  simp only [rdr] at h
  have now : ∀ {c f : Int}, some (boxes, data, c, f) = some r → (dsum r.1 : Int) = r.2.1 := fun e => by
   obtain rfl := Option.some.inj e
   exact h1
  by_cases c1 : p < en
  ·rw [if_pos c1] at h
   by_cases c2 : en < p + 8
   ·rw [if_pos c2] at h; exact now h
   rw [if_neg c2] at h
   by_cases c3 : sz4 bs p < 8
   ·rw [if_pos c3] at h; exact now h
   rw [if_neg c3] at h
   by_cases c4 : ((en - p : Nat) : Int) < sz4 bs p
   ·rw [if_pos c4] at h; exact now h
   rw [if_neg c4] at h
   obtain ⟨n, hn⟩ : ∃ n : Nat, sz4 bs p = (n : Int) := ⟨(sz4 bs p).toNat, by omega⟩
   rw [hn] at c3 c4 h
   rw [Int.toNat_natCast] at h
   by_cases c5 : kindB (kd4 bs p) = true
   ·rw [if_pos c5] at h
    by_cases c6 : 8 < depth
    ·rw [if_pos c6] at h; exact now h
    rw [if_neg c6] at h
    by_cases c7 : boxes.length = 200
    ·rw [if_pos c7] at h; exact now h
    rw [if_neg c7] at h
    by_cases c8 : r_hold (kd4 bs p) = true
    ·rw [if_pos c8] at h
     obtain ⟨s, hs, h⟩ := Option.bind_eq_some_iff.1 h
     have hb := ih _ _ _ _ _ _ s hs (by omega) (by rw [dsum_snoc]; simpa using h1)
     by_cases c9 : s.2.2.1 = 0
     ·rw [if_pos c9] at h
      exact ih _ _ _ _ _ _ r h he hb
     ·rw [if_neg c9] at h
      obtain rfl := Option.some.inj h
      exact hb
    ·rw [if_neg c8] at h
     by_cases c9 : 20000 < data + ((n : Int) - 8)
     ·rw [if_pos c9] at h; exact now h
     rw [if_neg c9] at h
     have hl : ((bs.take (p + n)).drop (p + 8)).length = n - 8 := by rw [List.length_drop, List.length_take]; omega
     exact ih _ _ _ _ _ _ r h he (by rw [dsum_snoc]; show ((dsum boxes + ((bs.take (p + n)).drop (p + 8)).length : Nat) : Int) = _; rw [hl]; omega)
   ·rw [if_neg c5] at h; exact now h
  ·rw [if_neg c1] at h; exact now h

theorem top_some (l : List Int) (hl : l.length ≤ 40000) (hb : ∀ x ∈ l, 0 ≤ x ∧ x ≤ 255) (k : Nat) (hk : 50000 ≤ k) : ∃ r, rdTop k l = some r ∧ r.1.length ≤ 200 ∧ (dsum r.1 : Int) = r.2.1 ∧ r.2.1 ≤ 20000 := by
 have h1 : bytesOk l = true := List.all_eq_true.2 (fun x hx => decide_eq_true (hb x hx))
 unfold rdTop
 rw [if_pos (by omega), if_pos h1]
 obtain ⟨r, hr⟩ := rdr_some l.length k l [] 0 0 l.length 0 (by omega) (by omega)
 have h2 := rdr_bounds k l [] 0 0 l.length 0 r hr (by simp) (by omega) (by omega)
 exact ⟨r, hr, h2.1, rdr_dsum k l [] 0 0 l.length 0 r hr (Nat.le_refl _) rfl, h2.2.2⟩

/-- A list whose boxes all lie at depth d or deeper, as a film's do. -/
structure Chain (d : Int) (l : List S46) : Prop where
 low : ∀ i, i < l.length → d ≤ (rd_T46 l (i : Int)).f1
 first : 0 < l.length → (rd_T46 l 0).f1 = d
 next : ∀ i, i + 1 < l.length → (rd_T46 l ((i + 1 : Nat) : Int)).f1 ≤ (rd_T46 l (i : Int)).f1 + (if r_hold (rd_T46 l (i : Int)).f0 = true then 1 else 0)
 ok : ∀ i, i < l.length → kindB (rd_T46 l (i : Int)).f0 = true ∧ (rd_T46 l (i : Int)).f1 ≤ 8 ∧ (r_hold (rd_T46 l (i : Int)).f0 = true → (rd_T46 l (i : Int)).f2 = [])
 data : ∀ i, i < l.length → ∀ x ∈ (rd_T46 l (i : Int)).f2, 0 ≤ x ∧ x ≤ 255

theorem rd_sub (l : List S46) (p e i : Nat) (he : e ≤ l.length) (hi : p + i < e) : rd_T46 ((l.take e).drop p) (i : Int) = rd_T46 l ((p + i : Nat) : Int) := by
 unfold rd_T46
 rw [List.getD_eq_getElem?_getD, List.getD_eq_getElem?_getD, Int.toNat_natCast, Int.toNat_natCast, List.getElem?_drop, List.getElem?_take_of_lt hi]

theorem len_sub (l : List S46) (p e : Nat) (he : e ≤ l.length) : ((l.take e).drop p).length = e - p := by rw [List.length_drop, List.length_take]; omega

/-- What lies in a box is such a list, too, one deeper. -/
theorem Chain.sub {d : Int} {l : List S46} (h : Chain d l) {p e : Nat} (hp : p < l.length) (he : e ≤ l.length) (hpd : (rd_T46 l (p : Int)).f1 = d) (hin : ∀ i, p < i → i < e → d < (rd_T46 l (i : Int)).f1) : Chain (d + 1) ((l.take e).drop (p + 1)) := by
 have hlen := len_sub l (p + 1) e he
 refine ⟨fun i hi => ?_, fun hi => ?_, fun i hi => ?_, fun i hi => ?_, fun i hi => ?_⟩
 ·rw [rd_sub l (p + 1) e i he (by omega)]
  have := hin (p + 1 + i) (by omega) (by omega)
  omega
 ·have h0 := rd_sub l (p + 1) e 0 he (by omega)
  rw [show ((0 : Nat) : Int) = 0 from rfl] at h0
  rw [h0]
  have h1 := hin (p + 1) (by omega) (by omega)
  have h2 := h.next p (by omega)
  rw [hpd] at h2
  have h3 : (rd_T46 l ((p + 1 + 0 : Nat) : Int)).f1 = (rd_T46 l ((p + 1 : Nat) : Int)).f1 := rfl
  rw [h3]
  split at h2 <;> omega
 ·rw [rd_sub l (p + 1) e i he (by omega), rd_sub l (p + 1) e (i + 1) he (by omega)]
  exact h.next (p + 1 + i) (by omega)
 ·rw [rd_sub l (p + 1) e i he (by omega)]
  exact h.ok _ (by omega)
 ·rw [rd_sub l (p + 1) e i he (by omega)]
  exact h.data _ (by omega)

/-- The place behind a box: all between lies deeper, and what stands there does not. -/
theorem endp_spec (l : List S46) (p : Nat) (hl : l.length ≤ 1000000) : ∀ (k x : Nat) (e : Int), p < l.length → p < x → x ≤ l.length → endp k l (p : Int) (x : Int) = some e → (∀ i, p < i → i < x → (rd_T46 l (p : Int)).f1 < (rd_T46 l (i : Int)).f1) →
  ∃ n : Nat, e = (n : Int) ∧ x ≤ n ∧ n ≤ l.length ∧ (∀ i, p < i → i < n → (rd_T46 l (p : Int)).f1 < (rd_T46 l (i : Int)).f1) ∧ (n < l.length → (rd_T46 l (n : Int)).f1 ≤ (rd_T46 l (p : Int)).f1) := by
 intro k
 induction k with
 | zero => intro x e _ _ _ h; simp [endp] at h
 | succ k ih =>
  intro x e hp hx hxl h hin
  simp only [endp] at h
  by_cases c : x < l.length
  ·rw [if_pos (by omega), if_pos (by omega), if_pos (by omega), if_pos (by omega)] at h
   by_cases c2 : (rd_T46 l (x : Int)).f1 > (rd_T46 l (p : Int)).f1
   ·rw [if_pos c2] at h
    have hw : wrap64 ((x : Int) + 1) = ((x + 1 : Nat) : Int) := by unfold wrap64; omega
    rw [hw] at h
    obtain ⟨n, h1, h2, h3⟩ := ih (x + 1) e hp (by omega) (by omega) h (fun i h4 h5 => by
     by_cases q : i = x
     ·rw [q]; exact c2
     ·exact hin i h4 (by omega))
    exact ⟨n, h1, by omega, h3⟩
   ·rw [if_neg c2] at h
    exact ⟨x, (Option.some.inj h).symm, Nat.le_refl _, hxl, hin, fun _ => by omega⟩
  ·rw [if_neg (by omega)] at h
   exact ⟨x, (Option.some.inj h).symm, Nat.le_refl _, hxl, hin, fun hn => absurd hn c⟩

/-- The bytes xs stand in bs from P on. -/
def Seg (bs : List Int) (P : Nat) (xs : List Int) : Prop := ∀ i, i < xs.length → bs[P + i]? = xs[i]?
theorem Seg.left {bs : List Int} {P : Nat} {xs ys : List Int} (h : Seg bs P (xs ++ ys)) : Seg bs P xs := fun i hi => by
 rw [h i (by rw [List.length_append]; omega), List.getElem?_append_left hi]
theorem Seg.right {bs : List Int} {P : Nat} {xs ys : List Int} (h : Seg bs P (xs ++ ys)) : Seg bs (P + xs.length) ys := fun i hi => by
 rw [Nat.add_assoc, h (xs.length + i) (by rw [List.length_append]; omega), List.getElem?_append_right (by omega)]
 congr 1
 omega
theorem Seg.at_ {bs : List Int} {P : Nat} {xs : List Int} (h : Seg bs P xs) (i : Nat) (hi : i < xs.length) : rd bs ((P + i : Nat) : Int) = xs[i] := by
 show bs.getD _ _ = _
 rw [List.getD_eq_getElem?_getD, Int.toNat_natCast, h i hi, List.getElem?_eq_getElem hi]
 rfl
theorem sz4_four {bs : List Int} {P : Nat} {n : Int} (h : Seg bs P (four n)) (h0 : 0 ≤ n) (h1 : n < 4294967296) : sz4 bs P = n := by
 have e0 := h.at_ 0 (show 0 < 4 by decide)
 have e1 := h.at_ 1 (show 1 < 4 by decide)
 have e2 := h.at_ 2 (show 2 < 4 by decide)
 have e3 := h.at_ 3 (show 3 < 4 by decide)
 unfold sz4
 rw [show ((P : Nat) : Int) = ((P + 0 : Nat) : Int) from rfl, e0, e1, e2, e3]
 show (n / 16777216) % 256 * 16777216 + (n / 65536) % 256 * 65536 + (n / 256) % 256 * 256 + n % 256 = n
 omega
theorem strOf_bytesOf (s : ByteArray) : strOfNums (bytesOf s) = s := by
 unfold strOfNums bytesOf
 rw [List.map_map]
 have e : (s.data.toList.map ((fun n : Int => UInt8.ofNat n.toNat) ∘ fun b : UInt8 => (b.toNat : Int))) = s.data.toList := by
  conv => rhs; rw [← List.map_id s.data.toList]
  apply List.map_congr_left
  intro b _
  simp
 rw [e]
theorem kd4_seg {bs : List Int} {P : Nat} {s : ByteArray} (hs : s.size = 4) (h : Seg bs (P + 4) (bytesOf s)) : kd4 bs P = s := by
 unfold kd4
 have hl : (bytesOf s).length = 4 := by rw [bytesOf_length, hs]
 have e : (bs.take (P + 8)).drop (P + 4) = bytesOf s := by
  apply List.ext_getElem?
  intro i
  rw [List.getElem?_drop]
  by_cases c : i < 4
  ·rw [List.getElem?_take_of_lt (by omega), h i (by omega)]
  ·rw [List.getElem?_eq_none (l := bs.take (P + 8)) (by rw [List.length_take]; omega), List.getElem?_eq_none (by omega)]
 rw [e, strOf_bytesOf]

/-- A list from a place on is the box there, what is in it, and the rest. -/
theorem drop_split (l : List S46) (p e : Nat) (hp : p + 1 ≤ e) (he : e ≤ l.length) : l.drop p = rd_T46 l (p : Int) :: ((l.take e).drop (p + 1) ++ l.drop e) := by
 have hlt : p < l.length := by omega
 have hr : rd_T46 l (p : Int) = l[p] := rd46 l (p : Int) l[p] (by rw [Int.toNat_natCast]; exact List.getElem?_eq_getElem hlt)
 have h2 : l.drop (p + 1) = (l.take e).drop (p + 1) ++ l.drop e := by
  rw [List.drop_take]
  have h3 : (l.drop (p + 1)).drop (e - (p + 1)) = l.drop e := by rw [List.drop_drop]; congr 1; omega
  rw [← h3, List.take_append_drop]
 rw [List.drop_eq_getElem_cons hlt, h2, hr]
theorem dsum_append (l1 l2 : List S46) : dsum (l1 ++ l2) = dsum l1 + dsum l2 := by
 unfold dsum
 rw [List.map_append, List.sum_append]
theorem Seg.len {bs : List Int} {P : Nat} {xs : List Int} (h : Seg bs P xs) (h0 : 0 < xs.length) : P + xs.length ≤ bs.length := by
 have h1 := h (xs.length - 1) (by omega)
 rw [List.getElem?_eq_getElem (l := xs) (by omega)] at h1
 have h2 := (List.getElem?_eq_some_iff.1 h1).1
 omega
theorem seg_slice {bs : List Int} {P : Nat} {xs : List Int} (h : Seg bs P xs) : (bs.take (P + xs.length)).drop P = xs := by
 apply List.ext_getElem?
 intro i
 rw [List.getElem?_drop]
 by_cases c : i < xs.length
 ·rw [List.getElem?_take_of_lt (by omega), h i c]
 ·rw [List.getElem?_eq_none (l := bs.take (P + xs.length)) (by rw [List.length_take]; omega), List.getElem?_eq_none (by omega)]
theorem Seg.nil (bs : List Int) (P : Nat) : Seg bs P [] := fun i hi => absurd hi (by simp)
/-- The first t bytes of a row that stands there up to t. -/
def Cut (bs : List Int) (P : Nat) (xs : List Int) (t : Nat) : Prop := ∀ i, i < xs.length → P + i < t → bs[P + i]? = xs[i]?
theorem Cut.seg {bs : List Int} {P t : Nat} {xs ys : List Int} (h : Cut bs P (xs ++ ys) t) (ht : P + xs.length ≤ t) : Seg bs P xs := fun i hi => by
 rw [h i (by rw [List.length_append]; omega) (by omega), List.getElem?_append_left hi]
theorem Cut.right {bs : List Int} {P t : Nat} {xs ys : List Int} (h : Cut bs P (xs ++ ys) t) : Cut bs (P + xs.length) ys t := fun i hi ht => by
 rw [Nat.add_assoc, h (xs.length + i) (by rw [List.length_append]; omega) (by omega), List.getElem?_append_right (by omega)]
 congr 1
 omega
theorem Seg.cut {bs : List Int} {P t : Nat} {xs : List Int} (h : Seg bs P xs) : Cut bs P xs t := fun i hi _ => h i hi
theorem four_length (n : Int) : (four n).length = 4 := rfl

/-- What showBoxes writes, the reader reads: all of it, or of a beginning a beginning. -/
theorem back : ∀ (m : Nat) (l : List S46) (d : Int) (p K : Nat) (out r : List Int), l.length - p ≤ m → p ≤ l.length → l.length ≤ 200 → Chain d l → (p < l.length → (rd_T46 l (p : Int)).f1 = d) → shw K l out p = some r →
  ∃ R, r = out ++ R ∧ R.length = cost (l.drop p) ∧ ∀ (bs : List Int) (boxes : List S46) (data : Int) (P t k : Nat), Cut bs P R t → P ≤ t → t ≤ P + R.length → t ≤ bs.length → t - P < k → boxes.length + (l.length - p) ≤ 200 → 0 ≤ data → data + (dsum (l.drop p) : Int) ≤ 20000 →
   ∃ (j : Nat) (dd c f : Int), rdr k bs boxes data P t d = some (boxes ++ (l.drop p).take j, dd, c, f) ∧ (t = P + R.length → j = (l.drop p).length ∧ dd = data + (dsum (l.drop p) : Int) ∧ c = 0 ∧ f = 0) := by
 intro m
 induction m with
 | zero =>
  intro l d p K out r hm hp hl hC hd h
  cases K with
  | zero => simp [shw] at h
  | succ K =>
   simp only [shw] at h
   rw [if_neg (by omega)] at h
   have e := List.drop_of_length_le (l := l) (i := p) (by omega)
   refine ⟨[], by rw [List.append_nil]; exact (Option.some.inj h).symm, by rw [e]; rfl, fun bs boxes data P t k hc hPt ht hb hk hB h0 hD => ?_⟩
   obtain ⟨k, rfl⟩ : ∃ n, k = n + 1 := ⟨k - 1, by omega⟩
   have ht' : t ≤ P := ht
   refine ⟨0, data, 0, 0, ?_, fun _ => ?_⟩
   ·simp only [rdr]
    rw [if_neg (by omega), List.take_zero, List.append_nil]
   ·rw [e]
    exact ⟨rfl, by simp [dsum], rfl, rfl⟩
 | succ m ih =>
  intro l d p K out r hm hp hl hC hd h
  cases K with
  | zero => simp [shw] at h
  | succ K =>
   by_cases c : p < l.length
   case neg =>
    simp only [shw] at h
    rw [if_neg c] at h
    have e := List.drop_of_length_le (l := l) (i := p) (by omega)
    refine ⟨[], by rw [List.append_nil]; exact (Option.some.inj h).symm, by rw [e]; rfl, fun bs boxes data P t k hc hPt ht hb hk hB h0 hD => ?_⟩
    obtain ⟨k, rfl⟩ : ∃ n, k = n + 1 := ⟨k - 1, by omega⟩
    have ht' : t ≤ P := ht
    refine ⟨0, data, 0, 0, ?_, fun _ => ?_⟩
    ·simp only [rdr]
     rw [if_neg (by omega), List.take_zero, List.append_nil]
    ·rw [e]
     exact ⟨rfl, by simp [dsum], rfl, rfl⟩
   case pos =>
    have hw : wrap64 ((p : Int) + 1) = ((p + 1 : Nat) : Int) := by unfold wrap64; omega
    have hpd := hd c
    simp only [shw] at h
    rw [if_pos c, hw] at h
    obtain ⟨e, he, h⟩ := Option.bind_eq_some_iff.1 h
    obtain ⟨n, rfl, n1, n2, n3, n4⟩ := endp_spec l p (by omega) K (p + 1) e c (by omega) (by omega) he (fun i h1 h2 => by omega)
    rw [if_pos (by omega), Int.toNat_natCast] at h
    obtain ⟨sb, hsb, h⟩ := Option.bind_eq_some_iff.1 h
    by_cases c2 : out.length + (rd_T46 l (p : Int)).f0.size + ((rd_T46 l (p : Int)).f2 ++ sb).length + 8 ≤ 1000000
    case neg => rw [if_neg c2] at h; exact absurd h (by simp)
    rw [if_pos c2] at h
    have hsplit := drop_split l p n n1 n2
    have hcs := cost_split l p n n1 n2
    have hsub : Chain (d + 1) ((l.take n).drop (p + 1)) := hC.sub c n2 hpd (fun i h1 h2 => by have := n3 i h1 h2; omega)
    have hsl := len_sub l (p + 1) n n2
    obtain ⟨RS, hRS, hRSl, hRSr⟩ := ih ((l.take n).drop (p + 1)) (d + 1) 0 K [] sb (by omega) (Nat.zero_le _) (by omega) hsub (fun h0 => hsub.first h0) hsb
    rw [List.nil_append] at hRS
    subst hRS
    rw [List.drop_zero] at hRSl
    simp only [List.drop_zero, Nat.sub_zero] at hRSr
    obtain ⟨R2, hR2, hR2l, hR2r⟩ := ih l d n K _ r (by omega) n2 hl hC (fun hn => by have h1 := n4 hn; have h2 := hC.low n hn; omega) h
    obtain ⟨hk1, hk2, hk3⟩ := hC.ok p c
    have hs4 := (kindB_good _ hk1).1
    have hb4 : (bytesOf (rd_T46 l (p : Int)).f0).length = 4 := by rw [bytesOf_length, hs4]
    have hbc : bcost (rd_T46 l (p : Int)) = 4 + (rd_T46 l (p : Int)).f0.size + (rd_T46 l (p : Int)).f2.length := rfl
    have hds : dsum (l.drop p) = (rd_T46 l (p : Int)).f2.length + (dsum ((l.take n).drop (p + 1)) + dsum (l.drop n)) := by rw [hsplit, dsum_cons, dsum_append]
    have hN : (l.drop p).length = 1 + ((l.take n).drop (p + 1)).length + (l.drop n).length := by rw [hsplit, List.length_cons, List.length_append]; omega
    have hln : (l.drop n).length = l.length - n := List.length_drop ..
    have hlp : (l.drop p).length = l.length - p := List.length_drop ..
    generalize hbox : rd_T46 l (p : Int) = b at *
    generalize hS : (l.take n).drop (p + 1) = S at *
    have hBl : (b.f2 ++ sb).length = b.f2.length + sb.length := List.length_append ..
    generalize hBd : b.f2 ++ sb = B at *
    have hfour : (four (8 + (B.length : Int))).length = 4 := rfl
    refine ⟨four (8 + (B.length : Int)) ++ (bytesOf b.f0 ++ B) ++ R2, ?_, ?_, ?_⟩
    ·rw [hR2]
     simp only [List.append_assoc]
    ·rw [hcs, List.length_append, List.length_append, List.length_append, hfour, hb4, hR2l, hBl, hRSl]
     omega
    ·intro bs boxes data P t k hcut hPt ht hb hk hBx h0 hD
     obtain ⟨k, rfl⟩ : ∃ n, k = n + 1 := ⟨k - 1, by omega⟩
     have hRl : (four (8 + (B.length : Int)) ++ (bytesOf b.f0 ++ B) ++ R2).length = 8 + B.length + R2.length := by
      rw [List.length_append, List.length_append, List.length_append, hfour, hb4]; omega
     have hXl : (four (8 + (B.length : Int)) ++ (bytesOf b.f0 ++ B)).length = 8 + B.length := by
      rw [List.length_append, List.length_append, hfour, hb4]; omega
     rw [hRl] at ht ⊢
     simp only [rdr]
     by_cases e1 : P < t
     case neg =>
      rw [if_neg e1]
      exact ⟨0, data, 0, 0, by rw [List.take_zero, List.append_nil], fun h9 => by omega⟩
     rw [if_pos e1]
     by_cases e2 : t < P + 8
     ·rw [if_pos e2]
      exact ⟨0, data, 2, (P : Int), by rw [List.take_zero, List.append_nil], fun h9 => by omega⟩
     rw [if_neg e2]
     have hcut1 : Cut bs P (four (8 + (B.length : Int)) ++ (bytesOf b.f0 ++ (B ++ R2))) t := by simpa only [List.append_assoc] using hcut
     have hsz : sz4 bs P = 8 + (B.length : Int) := sz4_four (hcut1.seg (by rw [hfour]; omega)) (by omega) (by omega)
     have hcut2 := hcut1.right
     rw [hfour] at hcut2
     have hkd : kd4 bs P = b.f0 := kd4_seg hs4 (hcut2.seg (by rw [hb4]; omega))
     rw [hsz, hkd, if_neg (by omega)]
     by_cases e3 : ((t - P : Nat) : Int) < 8 + (B.length : Int)
     ·rw [if_pos e3]
      exact ⟨0, data, 3, (P : Int), by rw [List.take_zero, List.append_nil], fun h9 => by omega⟩
     rw [if_neg e3, if_pos hk1, if_neg (by omega), if_neg (by omega)]
     have hN8 : (8 + (B.length : Int)).toNat = 8 + B.length := by omega
     rw [hN8]
     have hcut3 := hcut2.right
     rw [hb4] at hcut3
     have hsegB : Seg bs (P + 8) B := hcut3.seg (by omega)
     have hcutR : Cut bs (P + (8 + B.length)) R2 t := by
      have h5 := hcut3.right
      rw [show P + 4 + 4 + B.length = P + (8 + B.length) by omega] at h5
      exact h5
     have hbeta : b = ⟨b.f0, d, b.f2⟩ := by rw [← hpd]
     have fin : ∀ (boxes' : List S46) (data' : Int), boxes' = boxes ++ (b :: S) → data' = data + ((b.f2.length + dsum S : Nat) : Int) → ∃ (j : Nat) (dd c f : Int), rdr k bs boxes' data' (P + (8 + B.length)) t d = some (boxes ++ (l.drop p).take j, dd, c, f) ∧ (t = P + (8 + B.length + R2.length) → j = (l.drop p).length ∧ dd = data + (dsum (l.drop p) : Int) ∧ c = 0 ∧ f = 0) := by
      intro boxes' data' hb' hd'
      obtain ⟨j, dd, c, f, q1, q2⟩ := hR2r bs boxes' data' (P + (8 + B.length)) t k hcutR (by omega) (by omega) hb (by omega) (by rw [hb', List.length_append, List.length_cons]; omega) (by omega) (by omega)
      refine ⟨1 + S.length + j, dd, c, f, ?_, fun h9 => ?_⟩
      ·have hE : (b :: (S ++ l.drop n)).take (1 + S.length + j) = b :: (S ++ (l.drop n).take j) := by
        rw [show 1 + S.length + j = (S.length + j) + 1 by omega, List.take_succ_cons, List.take_append, List.take_of_length_le (l := S) (i := S.length + j) (by omega), show S.length + j - S.length = j by omega]
       rw [q1, hb', hsplit, hE]
       simp only [List.append_assoc, List.cons_append]
      ·obtain ⟨q3, q4, q5, q6⟩ := q2 (by omega)
       refine ⟨by omega, by rw [q4, hd', hds]; omega, q5, q6⟩
     by_cases e4 : r_hold b.f0 = true
     ·rw [if_pos e4]
      have hb2 := hk3 e4
      rw [hb2, List.nil_append] at hBd
      subst hBd
      rw [hb2] at hds hbeta
      simp only [List.length_nil, Nat.zero_add] at hds
      have hb5 : (boxes ++ [(⟨b.f0, d, []⟩ : S46)]).length = boxes.length + 1 := by rw [List.length_append]; rfl
      obtain ⟨j, dd, c, f, q1, q2⟩ := hRSr bs (boxes ++ [⟨b.f0, d, []⟩]) data (P + 8) (P + (8 + sb.length)) k hsegB.cut (by omega) (by omega) (by omega) (by omega) (by omega) h0 (by omega)
      obtain ⟨q3, q4, q5, q6⟩ := q2 (by omega)
      rw [q1, Option.bind_some]
      dsimp only
      rw [if_pos q5]
      refine fin _ _ ?_ ?_
      ·rw [q3, List.take_length, ← hbeta, List.append_assoc]
       rfl
      ·rw [q4, hb2]
       simp
     ·rw [if_neg e4]
      have hSn : S = [] := by
       apply List.eq_nil_of_length_eq_zero
       have h7 := hC.next p
       rw [hbox, if_neg e4, hpd] at h7
       by_cases q : n = p + 1
       ·omega
       ·have h8 := h7 (by omega)
        have h9 := n3 (p + 1) (by omega) (by omega)
        omega
      have hRn : sb.length = 0 := by rw [hRSl, hSn]; rfl
      have hRn' : sb = [] := List.eq_nil_of_length_eq_zero hRn
      rw [hRn', List.append_nil] at hBd
      subst hBd
      rw [if_neg (by omega)]
      have hdat : (bs.take (P + (8 + b.f2.length))).drop (P + 8) = b.f2 := by
       have h7 := seg_slice hsegB
       rw [show P + 8 + b.f2.length = P + (8 + b.f2.length) by omega] at h7
       exact h7
      rw [hdat, ← hbeta]
      refine fin _ _ ?_ ?_
      ·rw [hSn]
      ·rw [hSn]
       show data + (8 + (b.f2.length : Int) - 8) = _
       simp only [dsum, List.map_nil, List.sum_nil]
       omega

theorem kind_all (s : ByteArray) (hs : (s.size : Int) = 4) (hg : ∀ j : Int, 0 ≤ j → j < 4 → Good (bt s j)) : ∀ (d k : Nat) (i : Int), 0 ≤ i → i ≤ 4 → 4 - i = d → d < k → spec_l2Kind.l0 k s i = some true := by
 intro d
 induction d with
 | zero =>
  intro k i h0 h1 hd hk
  obtain ⟨k, rfl⟩ : ∃ m, k = m + 1 := ⟨k - 1, by omega⟩
  simp only [spec_l2Kind.l0]; rw [if_neg (by omega)]
 | succ d ih =>
  intro k i h0 h1 hd hk
  obtain ⟨k, rfl⟩ : ∃ m, k = m + 1 := ⟨k - 1, by omega⟩
  have wi : wrap64 (i + 1) = i + 1 := by unfold wrap64; omega
  simp only [spec_l2Kind.l0]
  rw [if_pos (by omega), if_pos h0, if_pos (by omega), spec_char, wi, if_pos (hg i h0 (by omega))]
  exact ih k (i + 1) (by omega) (by omega) (by omega) (by omega)

theorem kindB_of (s : ByteArray) (hs : s.size = 4) (hg : ∀ j : Int, 0 ≤ j → j < 4 → Good (bt s j)) : kindB s = true := by
 unfold kindB spec_l2Kind.f
 rw [if_pos (by omega), kind_all s (by omega) hg 4 6 0 (by omega) (by omega) (by omega) (by omega)]
 rfl

/-- A right list is a chain. -/
theorem ok_chain (l : List S46) (h : ∀ j : Int, 0 ≤ j → j < (l.length : Int) → OkAt l j) (hd : ∀ i, i < l.length → ∀ x ∈ (rd_T46 l (i : Int)).f2, 0 ≤ x ∧ x ≤ 255) : Chain 0 l := by
 have hf : ∀ i : Nat, i < l.length → fitB (rd_T46 l (i : Int)) (rd_T46 l ((i : Int) - 1)) (i : Int) = true := fun i hi => (h (i : Int) (by omega) (by omega)).2.2
 refine ⟨fun i hi => (fit_depth _ _ _ (hf i hi)).1, fun hi => ?_, fun i hi => ?_, fun i hi => ?_, hd⟩
 ·have h1 := hf 0 hi
  unfold fitB at h1
  simp only [Bool.and_eq_true, decide_eq_true_eq] at h1
  obtain ⟨_, h2, h3⟩ := h1
  rw [if_pos (show ((0 : Nat) : Int) = 0 from rfl)] at h3
  have h4 : (rd_T46 l ((0 : Nat) : Int)).f1 = (rd_T46 l 0).f1 := rfl
  omega
 ·have h1 := hf (i + 1) hi
  unfold fitB at h1
  simp only [Bool.and_eq_true, decide_eq_true_eq] at h1
  obtain ⟨_, h2, h3⟩ := h1
  rw [if_neg (by omega), show (((i + 1 : Nat) : Int) - 1) = (i : Int) by omega] at h3
  unfold mn at h3
  show (rd_T46 l ((i + 1 : Nat) : Int)).f1 ≤ (rd_T46 l (i : Int)).f1 + (if hold (rd_T46 l (i : Int)).f0 = true then 1 else 0)
  by_cases c : hold (rd_T46 l (i : Int)).f0 = true
  ·rw [if_pos c]
   rw [if_pos c] at h3
   split at h3 <;> omega
  ·rw [if_neg c]
   rw [if_neg c] at h3
   split at h3 <;> omega
 ·obtain ⟨h1, h2, h3⟩ := h (i : Int) (by omega) (by omega)
  refine ⟨kindB_of _ h1 h2, (fit_depth _ _ _ h3).2, fun h4 => ?_⟩
  have h4 : hold (rd_T46 l (i : Int)).f0 = true := h4
  unfold fitB at h3
  rw [h4] at h3
  simp only [Bool.true_and, Bool.and_eq_true, Bool.not_eq_true', decide_eq_false_iff_not] at h3
  exact List.eq_nil_of_length_eq_zero (by have := h3.1; omega)

theorem rd_len_le (l : List S46) : ∀ (i : Nat), i < l.length → (rd_T46 l (i : Int)).f2.length ≤ dsum (l.drop i) := fun i hi => by
 rw [dsum_drop l i hi]; omega
/-- A chain that is not too long is a right list. -/
theorem chain_run (l : List S46) (hC : Chain 0 l) (hl : l.length ≤ 200) : ∀ (d k : Nat) (i : Nat) (x : Int), i ≤ l.length → l.length - i = d → d + 20 < k → 0 ≤ x → x + (dsum (l.drop i) : Int) ≤ 20000 → impl_BoxesOk.l0 k l x l (l.length : Int) (i : Int) = some true := by
 intro d
 induction d with
 | zero =>
  intro k i x hi hd hk h0 h1
  obtain ⟨k, rfl⟩ : ∃ m, k = m + 1 := ⟨k - 1, by omega⟩
  simp only [impl_BoxesOk.l0]
  rw [if_neg (by omega)]
  have : x ≤ 20000 := by omega
  simp [this]
 | succ d ih =>
  intro k i x hi hd hk h0 h1
  obtain ⟨k, rfl⟩ : ∃ m, k = m + 2 := ⟨k - 2, by omega⟩
  have hlt : i < l.length := by omega
  obtain ⟨hk1, hk2, hk3⟩ := hC.ok i hlt
  have hlow := hC.low i hlt
  rw [show k + 2 = (k + 1) + 1 from rfl, impl_step l hl (k + 1) x (i : Int) (by omega) (by omega)]
  rw [fits_step l hl (i : Int) (by omega) (by omega) k (kindB_eq _ (k + 1) (by omega) |>.2.trans (by rw [hk1])) (kindB_good _ hk1).1 (fun h2 => by
   obtain ⟨q1, q2, q3⟩ := hC.ok (i - 1) (by omega)
   have q4 := hC.low (i - 1) (by omega)
   rw [show ((i - 1 : Nat) : Int) = (i : Int) - 1 by omega] at q1 q2 q3 q4
   exact ⟨(kindB_good _ q1).1, q4, q2⟩)]
  have hfit : fitB (rd_T46 l (i : Int)) (rd_T46 l ((i : Int) - 1)) (i : Int) = true := by
   unfold fitB
   have g1 : (!(hold (rd_T46 l (i : Int)).f0 && decide (((rd_T46 l (i : Int)).f2.length : Int) > 0))) = true := by
    by_cases c : hold (rd_T46 l (i : Int)).f0 = true
    ·rw [hk3 c]; simp
    ·simp [c]
   rw [g1, Bool.true_and]
   refine decide_eq_true ⟨hlow, ?_⟩
   by_cases c0 : i = 0
   ·subst c0
    rw [if_pos (show ((0 : Nat) : Int) = 0 from rfl)]
    have h4 : (rd_T46 l ((0 : Nat) : Int)).f1 = (rd_T46 l 0).f1 := rfl
    have := hC.first hlt
    omega
   ·rw [if_neg (by omega)]
    obtain ⟨n, rfl⟩ : ∃ n, i = n + 1 := ⟨i - 1, by omega⟩
    have h5 := hC.next n hlt
    rw [show (((n + 1 : Nat) : Int) - 1) = (n : Int) by omega]
    have h6 : (rd_T46 l ((n + 1 : Nat) : Int)).f1 ≤ (rd_T46 l (n : Int)).f1 + (if hold (rd_T46 l (n : Int)).f0 = true then 1 else 0) := h5
    unfold mn
    by_cases c : hold (rd_T46 l (n : Int)).f0 = true
    ·rw [if_pos c] at h6 ⊢
     split <;> omega
    ·rw [if_neg c] at h6 ⊢
     split <;> omega
  rw [hfit, Option.bind_some, if_pos rfl]
  have hdd := dsum_drop l i hlt
  have hw : wrap64 (x + ((rd_T46 l (i : Int)).f2.length : Int)) = x + ((rd_T46 l (i : Int)).f2.length : Int) := by unfold wrap64; omega
  rw [hw]
  exact ih (k + 1) (i + 1) _ (by omega) (by omega) (by omega) (by omega) (by omega)

theorem chain_ok (l : List S46) (hC : Chain 0 l) (hl : l.length ≤ 200) (hd : dsum l ≤ 20000) (k : Nat) (hk : 500 ≤ k) : impl_BoxesOk.f k l = some true := by
 unfold impl_BoxesOk.f
 rw [if_neg (by omega)]
 exact chain_run l hC hl l.length k 0 0 (by omega) (by omega) (by omega) (by omega) (by rw [List.drop_zero]; omega)

/-- A list's boxes are the same as its own. -/
theorem same_self (l : List S46) (hl : l.length ≤ 1000000) (k : Nat) (hk : l.length < k) : laws_sameBoxes.f k l l = some true := by
 unfold laws_sameBoxes.f
 rw [if_pos rfl]
 exact run_to (fun k i => laws_sameBoxes.l0 k l l i) (l.length : Int) true (by
  intro k i h0 h1
  simp only [laws_sameBoxes.l0]
  have hw : wrap64 (i + 1) = i + 1 := by unfold wrap64; omega
  rw [if_pos h1, if_pos h0, if_pos h1]
  simp [hw]) (by
  intro k
  simp only [laws_sameBoxes.l0]
  rw [if_neg (by omega)]) l.length k 0 (by omega) (by omega) (by omega) (by omega)

theorem and255 (n : Int) : Go.bits .and .i64 n 255 = n % 256 := by
 have h127 : (BitVec.ofInt 64 255).toNat = 2 ^ 8 - 1 := by decide
 have key : (BitVec.ofInt 64 n &&& BitVec.ofInt 64 255).toNat = (n % ((2 ^ 64 : Nat) : Int)).toNat % 2 ^ 8 := by
  rw [BitVec.toNat_and, BitVec.toNat_ofInt, h127, Nat.and_two_pow_sub_one_eq_mod]
 show IntKind.i64.wrap ((BitVec.ofInt 64 n &&& BitVec.ofInt 64 255).toNat : Nat) = n % 256
 rw [key, IntKind.wrap_i64]
 omega

theorem byte_ok (b : List Int) (i h : Int) (hb : b.length ≤ 4096) (hi : 0 ≤ i) :
  ∃ x i' h', spec_l1Byte.f b i h = some (x, i', h') ∧ 0 ≤ x ∧ x ≤ 255 ∧ 0 ≤ i' := by
 unfold spec_l1Byte.f
 simp only [and255]
 by_cases c : i < (b.length : Int)
 ·rw [if_pos c, if_pos hi]
  have hw : wrap64 (i + 1) = i + 1 := by unfold wrap64; omega
  rw [hw]
  exact ⟨_, _, _, rfl, by omega, by omega, by omega⟩
 ·rw [if_neg c]
  exact ⟨_, _, _, rfl, by omega, by omega, hi⟩

theorem below_ok (b : List Int) (i h n : Int) (hb : b.length ≤ 4096) (hi : 0 ≤ i) :
  ∃ x i' h', spec_l1Below.f b i h n = some (x, i', h') ∧ 0 ≤ i' ∧ 0 ≤ x ∧ (1 ≤ n → x < n) := by
 unfold spec_l1Below.f
 by_cases c0 : n ≤ 0
 ·rw [if_pos c0]
  exact ⟨_, _, _, rfl, hi, by omega, by omega⟩
 ·rw [if_neg c0]
  by_cases c : n ≤ 256
  ·rw [if_pos c]
   obtain ⟨x, i1, h1, e, x0, x1, hi1⟩ := byte_ok b i h hb hi
   rw [e]
   simp only [Option.bind_some]
   rw [if_neg (by omega)]
   exact ⟨_, _, _, rfl, hi1, Int.tmod_nonneg _ x0, fun _ => Int.tmod_lt_of_pos _ (by omega)⟩
  ·rw [if_neg c]
   obtain ⟨x, i1, h1, e, x0, x1, hi1⟩ := byte_ok b i h hb hi
   rw [e]
   simp only [Option.bind_some]
   obtain ⟨y, i2, h2, e, y0, y1, hi2⟩ := byte_ok b i1 h1 hb hi1
   rw [e]
   simp only [Option.bind_some]
   obtain ⟨z, i3, h3, e, z0, z1, hi3⟩ := byte_ok b i2 h2 hb hi2
   rw [e]
   simp only [Option.bind_some]
   obtain ⟨u, i4, h4, e, u0, u1, hi4⟩ := byte_ok b i3 h3 hb hi3
   rw [e]
   simp only [Option.bind_some]
   rw [if_neg (by omega)]
   have hw : wrap64 (wrap64 (wrap64 (wrap64 (x * 16777216) + wrap64 (y * 65536)) + wrap64 (z * 256)) + u) = x * 16777216 + y * 65536 + z * 256 + u := by
    have e1 : wrap64 (x * 16777216) = x * 16777216 := by unfold wrap64; omega
    have e2 : wrap64 (y * 65536) = y * 65536 := by unfold wrap64; omega
    have e3 : wrap64 (z * 256) = z * 256 := by unfold wrap64; omega
    rw [e1, e2, e3]
    have e4 : wrap64 (x * 16777216 + y * 65536) = x * 16777216 + y * 65536 := by unfold wrap64; omega
    rw [e4]
    have e5 : wrap64 (x * 16777216 + y * 65536 + z * 256) = x * 16777216 + y * 65536 + z * 256 := by unfold wrap64; omega
    rw [e5]
    unfold wrap64
    omega
   rw [hw]
   exact ⟨_, _, _, rfl, hi4, Int.tmod_nonneg _ (by omega), fun _ => Int.tmod_lt_of_pos _ (by omega)⟩

theorem once_ok (b : List Int) (i h n : Int) (hb : b.length ≤ 4096) (hi : 0 ≤ i) :
  ∃ x i' h', spec_l1Once.f b i h n = some (x, i', h') ∧ 0 ≤ i' := by
 unfold spec_l1Once.f
 obtain ⟨x, i1, h1, e, hi1, _⟩ := below_ok b i h n hb hi
 rw [e]
 exact ⟨_, _, _, rfl, hi1⟩

theorem new_loop (l : List Int) (hl : l.length ≤ 4096) (d : Nat) : ∀ (k : Nat) (h i : Int), 0 ≤ i → i ≤ l.length → (l.length : Int) - i = d → d < k → ∃ h', spec_l1New.l0 k l h i = some (l, 0, h') := by
 induction d with
 | zero =>
  intro k h i h0 h1 hd hk
  obtain ⟨k, rfl⟩ : ∃ m, k = m + 1 := ⟨k - 1, by omega⟩
  exact ⟨h, by simp only [spec_l1New.l0]; rw [if_neg (by omega)]⟩
 | succ d ih =>
  intro k h i h0 h1 hd hk
  obtain ⟨k, rfl⟩ : ∃ m, k = m + 1 := ⟨k - 1, by omega⟩
  simp only [spec_l1New.l0]
  rw [if_pos (by omega), if_pos h0]
  have hw : wrap64 (i + 1) = i + 1 := by unfold wrap64; omega
  rw [hw]
  exact ih k _ (i + 1) (by omega) (by omega) (by omega) (by omega)

theorem new_ok (l : List Int) (hl : l.length ≤ 4096) (k : Nat) (hk : 4097 ≤ k) : ∃ h, spec_l1New.f k l = some (l, 0, h) := by
 unfold spec_l1New.f
 exact new_loop l hl l.length k _ 0 (by omega) (by omega) (by omega) (by omega)

/-- Bytes, as numbers. -/
def Byt (l : List Int) : Prop := ∀ v ∈ l, 0 ≤ v ∧ v ≤ 255
theorem Byt.nil : Byt [] := fun v hv => by cases hv
theorem Byt.snoc {l : List Int} (h : Byt l) (x : Int) (h0 : 0 ≤ x) (h1 : x ≤ 255) : Byt (l ++ [x]) := fun v hv => by
 rcases List.mem_append.1 hv with hv | hv
 ·exact h v hv
 ·obtain rfl := List.mem_singleton.1 hv
  exact ⟨h0, h1⟩
/-- How great drawn boxes are. -/
def Okb (m : Nat) (l : List S46) : Prop := l.length ≤ 201 ∧ dsum l ≤ m ∧ ∀ x ∈ l, x.f0.size ≤ 5 ∧ Byt x.f2
/-- Boxes while they are drawn. -/
def Okd (l : List S46) : Prop := ∀ x ∈ l, x.f0.size = 4 ∧ x.f2.length ≤ 6 ∧ Byt x.f2
theorem Okb.up {m m' : Nat} {l : List S46} (h : Okb m l) (hm : m ≤ m') : Okb m' l := ⟨h.1, Nat.le_trans h.2.1 hm, h.2.2⟩
theorem okb_add {m : Nat} {l : List S46} (h : Okb m l) (hl : l.length < 201) (s : ByteArray) (d : Int) (hs : s.size ≤ 5) : Okb m (l ++ [(⟨s, d, ([] : List Int)⟩ : S46)]) := ⟨by rw [List.length_append, List.length_singleton]; omega, by rw [dsum_snoc]; exact h.2.1, fun y hy => by
 rcases List.mem_append.1 hy with hy | hy
 ·exact h.2.2 y hy
 ·obtain rfl := List.mem_singleton.1 hy
  exact ⟨hs, Byt.nil⟩⟩
theorem okb_nil (m : Nat) : Okb m [] := ⟨by simp, by simp [dsum], fun x hx => by cases hx⟩
theorem okd_sum : ∀ (l : List S46), Okd l → dsum l ≤ 6 * l.length
 | [], _ => by simp [dsum]
 | x :: xs, h => by
  have h1 := okd_sum xs (fun y hy => h y (List.mem_cons_of_mem _ hy))
  have h2 := (h x (List.mem_cons_self ..)).2.1
  rw [dsum_cons, List.length_cons]
  omega
theorem dsum_mem : ∀ (l : List S46) (x : S46), x ∈ l → x.f2.length ≤ dsum l
 | y :: ys, x, h => by
  rw [dsum_cons]
  rcases List.mem_cons.1 h with rfl | h
  ·omega
  ·have := dsum_mem ys x h
   omega
theorem dsum_set : ∀ (l : List S46) (j : Nat) (x : S46), dsum (l.set j x) ≤ dsum l + x.f2.length
 | [], _, _ => by simp [dsum]
 | y :: ys, 0, x => by rw [List.set_cons_zero, dsum_cons, dsum_cons]; omega
 | y :: ys, j + 1, x => by
  rw [List.set_cons_succ, dsum_cons, dsum_cons]
  have := dsum_set ys j x
  omega

theorem l3_ok (b : List Int) (hb : b.length ≤ 4096) : ∀ (n : Nat) (x : Int) (l : List S46) (i h : Int), x + n = 10 → 0 ≤ x → l.length + n ≤ 201 → Okb 0 l → 0 ≤ i →
  ∃ r, Ev (fun k => spec_l2DrawBoxes.l3 k l x b i h) r ∧ Okb 0 r.1 ∧ 0 ≤ r.2.1 := by
 intro n
 induction n with
 | zero =>
  intro x l i h hx h0 hl hk hi
  obtain ⟨v, i2, h2, e, hi2, v0, v1⟩ := below_ok b i h 2 hb hi
  have w9 : wrap64 (9 + v) = 9 + v := by have := v1 (by omega); unfold wrap64; omega
  refine ⟨(l, i2, h2), Ev.step (f := fun _ => some (l, i2, h2)) (fun k => ?_) (Ev.now _), hk, hi2⟩
  rw [spec_l2DrawBoxes.l3, e, Option.bind_some, w9, if_neg (by have := v1 (by omega); omega)]
 | succ n ih =>
  intro x l i h hx h0 hl hk hi
  obtain ⟨v, i2, h2, e, hi2, v0, v1⟩ := below_ok b i h 2 hb hi
  have v1 := v1 (by omega)
  have w9 : wrap64 (9 + v) = 9 + v := by unfold wrap64; omega
  have wx : wrap64 (x + 1) = x + 1 := by unfold wrap64; omega
  by_cases c : x < 9 + v
  ·obtain ⟨r, hr, h3⟩ := ih (x + 1) (l ++ [(⟨(⟨#[68, 69, 69, 80]⟩ : ByteArray), x, ([] : List Int)⟩ : S46)]) i2 h2 (by omega) (by omega) (by rw [List.length_append, List.length_singleton]; omega) (okb_add hk (by omega) _ _ (by decide)) hi2
   refine ⟨r, Ev.step (fun k => ?_) hr, h3⟩
   rw [spec_l2DrawBoxes.l3, e, Option.bind_some, w9, wx, if_pos c, if_pos (by omega)]
  ·refine ⟨(l, i2, h2), Ev.step (f := fun _ => some (l, i2, h2)) (fun k => ?_) (Ev.now _), hk, hi2⟩
   rw [spec_l2DrawBoxes.l3, e, Option.bind_some, w9, if_neg c]

theorem j6_ok (b : List Int) (hb : b.length ≤ 4096) (m : Nat) (l : List S46) (i h : Int) (hl : Okb m l) (hi : 0 ≤ i) : ∃ r, Ev (fun k => spec_l2DrawBoxes.j6 k l b i h) r ∧ Okb m r.1 ∧ 0 ≤ r.2.1 := by
 obtain ⟨v, i2, h2, e, hi2⟩ := once_ok b i h 40 hb hi
 cases v with
 | false =>
  refine ⟨(l, i2, h2), Ev.step (f := fun _ => some (l, i2, h2)) (fun k => ?_) (Ev.now _), hl, hi2⟩
  rw [spec_l2DrawBoxes.j6, e, Option.bind_some, if_neg (by simp)]
 | true =>
  obtain ⟨r, hr, h3, h4⟩ := l3_ok b hb 10 0 [] i2 h2 (by omega) (by omega) (by simp) (okb_nil _) hi2
  refine ⟨r, Ev.step (fun k => ?_) hr, h3.up (by omega), h4⟩
  rw [spec_l2DrawBoxes.j6, e, Option.bind_some, if_pos rfl]

theorem l2_ok (b : List Int) (hb : b.length ≤ 4096) (m : Nat) : ∀ (n : Nat) (x : Int) (l : List S46) (i h : Int), x + n = 201 → 0 ≤ x → l.length + n ≤ 201 → Okb m l → 0 ≤ i →
  ∃ r, Ev (fun k => spec_l2DrawBoxes.l2 k l x b i h) r ∧ Okb m r.1 ∧ 0 ≤ r.2.1 := by
 intro n
 induction n with
 | zero =>
  intro x l i h hx h0 hl hk hi
  obtain ⟨v, i2, h2, e, hi2, v0, v1⟩ := below_ok b i h 2 hb hi
  have w9 : wrap64 (200 + v) = 200 + v := by have := v1 (by omega); unfold wrap64; omega
  obtain ⟨r, hr, h3⟩ := j6_ok b hb m l i2 h2 hk hi2
  refine ⟨r, Ev.step (fun k => ?_) hr, h3⟩
  rw [spec_l2DrawBoxes.l2, e, Option.bind_some, w9, if_neg (by have := v1 (by omega); omega)]
 | succ n ih =>
  intro x l i h hx h0 hl hk hi
  obtain ⟨v, i2, h2, e, hi2, v0, v1⟩ := below_ok b i h 2 hb hi
  have v1 := v1 (by omega)
  have w9 : wrap64 (200 + v) = 200 + v := by unfold wrap64; omega
  have wx : wrap64 (x + 1) = x + 1 := by unfold wrap64; omega
  by_cases c : x < 200 + v
  ·obtain ⟨r, hr, h3⟩ := ih (x + 1) (l ++ [(⟨(⟨#[115, 107, 105, 112]⟩ : ByteArray), 0, ([] : List Int)⟩ : S46)]) i2 h2 (by omega) (by omega) (by rw [List.length_append, List.length_singleton]; omega) (okb_add hk (by omega) _ _ (by decide)) hi2
   refine ⟨r, Ev.step (fun k => ?_) hr, h3⟩
   rw [spec_l2DrawBoxes.l2, e, Option.bind_some, w9, wx, if_pos c, if_pos (by omega)]
  ·obtain ⟨r, hr, h3⟩ := j6_ok b hb m l i2 h2 hk hi2
   refine ⟨r, Ev.step (fun k => ?_) hr, h3⟩
   rw [spec_l2DrawBoxes.l2, e, Option.bind_some, w9, if_neg c]

theorem j4_ok (b : List Int) (hb : b.length ≤ 4096) (m : Nat) (l : List S46) (i h : Int) (hl : Okb m l) (hi : 0 ≤ i) : ∃ r, Ev (fun k => spec_l2DrawBoxes.j4 k l b i h) r ∧ Okb m r.1 ∧ 0 ≤ r.2.1 := by
 obtain ⟨v, i2, h2, e, hi2⟩ := once_ok b i h 40 hb hi
 cases v with
 | false =>
  obtain ⟨r, hr, h3⟩ := j6_ok b hb m l i2 h2 hl hi2
  refine ⟨r, Ev.step (fun k => ?_) hr, h3⟩
  rw [spec_l2DrawBoxes.j4, e, Option.bind_some, if_neg (by simp)]
 | true =>
  obtain ⟨r, hr, h3⟩ := l2_ok b hb m 201 0 [] i2 h2 (by omega) (by omega) (by simp) (okb_nil _) hi2
  refine ⟨r, Ev.step (fun k => ?_) hr, h3⟩
  rw [spec_l2DrawBoxes.j4, e, Option.bind_some, if_pos rfl]

theorem okb_set {m m' : Nat} {l : List S46} (h : Okb m l) (j : Nat) (x : S46) (h1 : x.f0.size ≤ 5) (h2 : Byt x.f2) (hm : m + x.f2.length ≤ m') : Okb m' (l.set j x) := by
 refine ⟨by rw [List.length_set]; exact h.1, ?_, fun y hy => ?_⟩
 ·have := dsum_set l j x
  have := h.2.1
  omega
 ·rcases List.mem_or_eq_of_mem_set hy with hy | rfl
  ·exact h.2.2 y hy
  ·exact ⟨h1, h2⟩
theorem okb_rd {m : Nat} {l : List S46} (h : Okb m l) (j : Int) (h0 : 0 ≤ j) (h1 : j < (l.length : Int)) : (rd_T46 l j).f0.size ≤ 5 ∧ (rd_T46 l j).f2.length ≤ m ∧ Byt (rd_T46 l j).f2 := by
 have hj : j.toNat < l.length := by omega
 unfold rd_T46
 rw [List.getD_eq_getElem?_getD, List.getElem?_eq_getElem hj]
 have h2 := h.2.2 _ (List.getElem_mem hj)
 exact ⟨h2.1, Nat.le_trans (dsum_mem l _ (List.getElem_mem hj)) h.2.1, h2.2⟩

theorem kinds5 : ∀ q : Fin 5, (rdOf ByteArray.empty ([(⟨#[]⟩ : ByteArray), (⟨#[97, 98, 99]⟩ : ByteArray), (⟨#[97, 98, 45, 100]⟩ : ByteArray), (⟨#[97, 98, 99, 100, 101]⟩ : ByteArray), (⟨#[77, 79, 79, 86]⟩ : ByteArray)] : List ByteArray) ((q.val : Nat) : Int)).size ≤ 5 := by decide
theorem kinds7 : ∀ q : Fin 7, (rdOf ByteArray.empty ([(⟨#[77, 79, 79, 86]⟩ : ByteArray), (⟨#[84, 82, 65, 75]⟩ : ByteArray), (⟨#[109, 100, 97, 116]⟩ : ByteArray), (⟨#[101, 108, 115, 116]⟩ : ByteArray), (⟨#[102, 48, 117, 114]⟩ : ByteArray), (⟨#[69, 100, 105, 116]⟩ : ByteArray), (⟨#[48, 97, 98, 99]⟩ : ByteArray)] : List ByteArray) ((q.val : Nat) : Int)).size = 4 := by decide

theorem j3_ok (b : List Int) (hb : b.length ≤ 4096) (l : List S46) (f : Bool) (i h : Int) (hl : Okb 72 l) (hf : f = true → 0 < l.length) (hi : 0 ≤ i) : ∃ r, Ev (fun k => spec_l2DrawBoxes.j3 k l f b i h) r ∧ Okb 20100 r.1 ∧ 0 ≤ r.2.1 := by
 cases f with
 | false =>
  obtain ⟨r, hr, h3⟩ := j4_ok b hb 20100 l i h (hl.up (by omega)) hi
  refine ⟨r, Ev.step (fun k => ?_) hr, h3⟩
  rw [spec_l2DrawBoxes.j3, if_neg (by simp)]
 | true =>
  have hf := hf rfl
  obtain ⟨v, i2, h2, e, hi2, v0, v1⟩ := below_ok b i h (l.length : Int) hb hi
  have v1 := v1 (by omega)
  have hrd := okb_rd hl v v0 v1
  obtain ⟨u, i3, h3, e2, hi3, u0, u1⟩ := below_ok b i2 h2 4 hb hi2
  have u1 := u1 (by omega)
  by_cases c0 : u = 0
  ·obtain ⟨q, i4, h4, e3, hi4, q0, q1⟩ := below_ok b i3 h3 5 hb hi3
   have q1 := q1 (by omega)
   have hk := kinds5 ⟨q.toNat, by omega⟩
   rw [show (((⟨q.toNat, by omega⟩ : Fin 5).val : Nat) : Int) = q by show ((q.toNat : Nat) : Int) = q; omega] at hk
   obtain ⟨r, hr, h5⟩ := j4_ok b hb 20100 _ i4 h4 (okb_set hl v.toNat (⟨rdOf ByteArray.empty ([(⟨#[]⟩ : ByteArray), (⟨#[97, 98, 99]⟩ : ByteArray), (⟨#[97, 98, 45, 100]⟩ : ByteArray), (⟨#[97, 98, 99, 100, 101]⟩ : ByteArray), (⟨#[77, 79, 79, 86]⟩ : ByteArray)] : List ByteArray) q, (rd_T46 l v).f1, (rd_T46 l v).f2⟩ : S46) hk hrd.2.2 (by have := hrd.2.1; dsimp only; omega)) hi4
   refine ⟨r, Ev.step (fun k => ?_) hr, h5⟩
   rw [spec_l2DrawBoxes.j3, if_pos rfl, e, Option.bind_some, if_pos v0, if_pos v1, e2, Option.bind_some, if_pos c0, Option.bind_some, e3, Option.bind_some, if_pos q0, if_pos (by simpa using q1)]
  ·by_cases c1 : u = 1
   ·obtain ⟨q, i4, h4, e3, hi4, q0, q1⟩ := below_ok b i3 h3 4 hb hi3
    have q1 := q1 (by omega)
    obtain ⟨r, hr, h5⟩ := j4_ok b hb 20100 _ i4 h4 (okb_set hl v.toNat (⟨(rd_T46 l v).f0, rd ([(-1), 0, 9, wrap64 (((rd_T46 l v).f1) + 1)] : List Int) q, (rd_T46 l v).f2⟩ : S46) hrd.1 hrd.2.2 (by have := hrd.2.1; dsimp only; omega)) hi4
    refine ⟨r, Ev.step (fun k => ?_) hr, h5⟩
    rw [spec_l2DrawBoxes.j3, if_pos rfl, e, Option.bind_some, if_pos v0, if_pos v1, e2, Option.bind_some, if_neg c0, if_pos c1, Option.bind_some, e3, Option.bind_some, if_pos q0, if_pos (by simpa using q1)]
   ·by_cases c2 : u = 2
    ·obtain ⟨r, hr, h5⟩ := j4_ok b hb 20100 _ i3 h3 (okb_set hl v.toNat (⟨(rd_T46 l v).f0, (rd_T46 l v).f1, (((rd_T46 l v).f2) ++ [7])⟩ : S46) hrd.1 (hrd.2.2.snoc 7 (by decide) (by decide)) (by show 72 + ((rd_T46 l v).f2 ++ [7]).length ≤ 20100; have := hrd.2.1; rw [List.length_append, List.length_singleton]; omega)) hi3
     refine ⟨r, Ev.step (fun k => ?_) hr, h5⟩
     rw [spec_l2DrawBoxes.j3, if_pos rfl, e, Option.bind_some, if_pos v0, if_pos v1, e2, Option.bind_some, if_neg c0, if_neg c1, if_pos c2, if_pos (by have := hrd.2.1; dsimp only; omega)]
    ·by_cases c3 : u = 3
     ·obtain ⟨q, i4, h4, e3, hi4, q0, q1⟩ := below_ok b i3 h3 2 hb hi3
      have q1 := q1 (by omega)
      have wq : wrap64 (20000 + q) = 20000 + q := by unfold wrap64; omega
      obtain ⟨r, hr, h5⟩ := j4_ok b hb 20100 _ i4 h4 (okb_set hl v.toNat (⟨(rd_T46 l v).f0, (rd_T46 l v).f1, (List.replicate (wrap64 (20000 + q) : Int).toNat 0)⟩ : S46) hrd.1 (fun y hy => by obtain rfl := List.eq_of_mem_replicate hy; exact ⟨by decide, by decide⟩) (by show 72 + (List.replicate (wrap64 (20000 + q) : Int).toNat (0 : Int)).length ≤ 20100; rw [List.length_replicate, wq]; omega)) hi4
      refine ⟨r, Ev.step (fun k => ?_) hr, h5⟩
      rw [spec_l2DrawBoxes.j3, if_pos rfl, e, Option.bind_some, if_pos v0, if_pos v1, e2, Option.bind_some, if_neg c0, if_neg c1, if_neg c2, if_pos c3, e3, Option.bind_some, if_pos (by rw [wq]; omega), if_pos (by rw [wq]; omega)]
     ·omega

theorem holds_some (s : ByteArray) (h : s.size = 4) : ∃ t, spec_l2Holds.f s = some t := ⟨_, hold_s s h⟩

theorem okd_add {l : List S46} (h : Okd l) (x : S46) (h1 : x.f0.size = 4) (h2 : x.f2.length ≤ 6) (h3 : Byt x.f2) : Okd (l ++ [x]) := fun y hy => by
 rcases List.mem_append.1 hy with hy | hy
 ·exact h y hy
 ·obtain rfl := List.mem_singleton.1 hy
  exact ⟨h1, h2, h3⟩

/-- The data of a drawn box, and what follows. -/
theorem l1_ok (b : List Int) (hb : b.length ≤ 4096) (l : List S46) (hl : l.length ≤ 100) (x4 : Int) (kd : ByteArray) (dp : Int) (Q : List S46 × Int × Int → Prop)
  (next : ∀ (d : List Int) (i h : Int), d.length ≤ 6 → Byt d → 0 ≤ i → ∃ r, Ev (fun k => spec_l2DrawBoxes.l0 k (l ++ [(⟨kd, dp, d⟩ : S46)]) (wrap64 (x4 - 1)) b i h) r ∧ Q r) :
  ∀ (n : Nat) (x : Int) (d : List Int) (i h : Int), x = n → d.length + n ≤ 6 → Byt d → 0 ≤ i → ∃ r, Ev (fun k => spec_l2DrawBoxes.l1 k l x4 x b i h kd dp d) r ∧ Q r := by
 intro n
 induction n with
 | zero =>
  intro x d i h hx hd hby hi
  obtain ⟨r, hr, hq⟩ := next d i h (by omega) hby hi
  refine ⟨r, Ev.step (fun k => ?_) hr, hq⟩
  rw [spec_l2DrawBoxes.l1, if_neg (by omega), if_pos (by omega)]
 | succ n ih =>
  intro x d i h hx hd hby hi
  obtain ⟨v, i2, h2, e, v0, v1, hi2⟩ := byte_ok b i h hb hi
  have wx : wrap64 (x - 1) = x - 1 := by unfold wrap64; omega
  obtain ⟨r, hr, hq⟩ := ih (x - 1) (d ++ [v % 256]) i2 h2 (by omega) (by rw [List.length_append, List.length_singleton]; omega) (hby.snoc _ (by omega) (by omega)) hi2
  refine ⟨r, Ev.step (fun k => ?_) hr, hq⟩
  rw [spec_l2DrawBoxes.l1, if_pos (by omega), e, Option.bind_some, if_pos (by omega), wx]

theorem l0_ok (b : List Int) (hb : b.length ≤ 4096) : ∀ (n : Nat) (x : Int) (l : List S46) (i h : Int), x = n → l.length + n ≤ 12 → Okd l → 0 ≤ i → ∃ r, Ev (fun k => spec_l2DrawBoxes.l0 k l x b i h) r ∧ Okb 20100 r.1 ∧ 0 ≤ r.2.1 := by
 intro n
 induction n with
 | zero =>
  intro x l i h hx hl hk hi
  obtain ⟨v, i2, h2, e, hi2⟩ := once_ok b i h 16 hb hi
  have hkb : Okb 72 l := ⟨by omega, by have := okd_sum l hk; omega, fun y hy => ⟨by have := (hk y hy).1; omega, (hk y hy).2.2⟩⟩
  cases v with
  | true =>
   obtain ⟨r, hr, h3⟩ := j3_ok b hb l (decide ((l.length : Int) > 0)) i2 h2 hkb (fun h => by have := of_decide_eq_true h; omega) hi2
   refine ⟨r, Ev.step (fun k => ?_) hr, h3⟩
   rw [spec_l2DrawBoxes.l0, if_neg (by omega), e, Option.bind_some, if_pos rfl]
  | false =>
   obtain ⟨r, hr, h3⟩ := j3_ok b hb l false i2 h2 hkb (fun h => by simp at h) hi2
   refine ⟨r, Ev.step (fun k => ?_) hr, h3⟩
   rw [spec_l2DrawBoxes.l0, if_neg (by omega), e, Option.bind_some, if_neg (by simp)]
 | succ n ih =>
  intro x l i h hx hl hk hi
  have wx : wrap64 (x - 1) = x - 1 := by unfold wrap64; omega
  have j1 : ∀ (kd : ByteArray) (dp i h : Int), kd.size = 4 → 0 ≤ i → ∃ r, Ev (fun k => spec_l2DrawBoxes.j1 k l x b i h kd dp) r ∧ Okb 20100 r.1 ∧ 0 ≤ r.2.1 := by
   intro kd dp i h hkd hi
   obtain ⟨t, ht⟩ := holds_some kd hkd
   cases t with
   | true =>
    obtain ⟨r, hr, h3⟩ := ih (x - 1) (l ++ [(⟨kd, dp, ([] : List Int)⟩ : S46)]) i h (by omega) (by rw [List.length_append, List.length_singleton]; omega) (okd_add hk _ hkd (by simp) Byt.nil) hi
    refine ⟨r, Ev.step (fun k => ?_) hr, h3⟩
    rw [spec_l2DrawBoxes.j1, ht, Option.bind_some, if_pos rfl, if_pos (by omega), wx]
   | false =>
    obtain ⟨v, i2, h2, e, hi2, v0, v1⟩ := below_ok b i h 6 hb hi
    have v1 := v1 (by omega)
    obtain ⟨r, hr, h3⟩ := l1_ok b hb l (by omega) x kd dp (fun r => Okb 20100 r.1 ∧ 0 ≤ r.2.1) (fun d i h hd hby hi => by
     rw [wx]
     exact ih (x - 1) (l ++ [(⟨kd, dp, d⟩ : S46)]) i h (by omega) (by rw [List.length_append, List.length_singleton]; omega) (okd_add hk _ hkd hd hby) hi) v.toNat v [] i2 h2 (by omega) (by simp; omega) Byt.nil hi2
    refine ⟨r, Ev.step (fun k => ?_) hr, h3⟩
    rw [spec_l2DrawBoxes.j1, ht, Option.bind_some, if_neg (by simp), e, Option.bind_some]
  obtain ⟨q, i2, h2, e, hi2, q0, q1⟩ := below_ok b i h 7 hb hi
  have q1 := q1 (by omega)
  have hq := kinds7 ⟨q.toNat, by omega⟩
  rw [show (((⟨q.toNat, by omega⟩ : Fin 7).val : Nat) : Int) = q by show ((q.toNat : Nat) : Int) = q; omega] at hq
  by_cases c : (l.length : Int) > 0
  ·have wl : wrap64 ((l.length : Int) - 1) = (l.length : Int) - 1 := by unfold wrap64; omega
   have hlast : (rd_T46 l ((l.length : Int) - 1)).f0.size = 4 := by
    have hj : ((l.length : Int) - 1).toNat < l.length := by omega
    unfold rd_T46
    rw [List.getD_eq_getElem?_getD, List.getElem?_eq_getElem hj]
    exact (hk _ (List.getElem_mem hj)).1
   obtain ⟨t, ht⟩ := holds_some _ hlast
   obtain ⟨v, i3, h3, e3, hi3, v0, v1⟩ := below_ok b i2 h2 (wrap64 ((rd_T46 l ((l.length : Int) - 1)).f1 + 1)) hb hi2
   by_cases c2 : t = true ∧ (rd_T46 l ((l.length : Int) - 1)).f1 < 8
   ·obtain ⟨o, i4, h4, e4, hi4⟩ := once_ok b i3 h3 3 hb hi3
    cases o with
    | true =>
     obtain ⟨r, hr, h5⟩ := j1 _ v i4 h4 hq hi4
     refine ⟨r, Ev.step (fun k => ?_) hr, h5⟩
     rw [spec_l2DrawBoxes.l0, if_pos (by omega), Option.bind_some, e, Option.bind_some, if_pos q0, if_pos (by simpa using q1), if_pos c, wl, if_pos (by omega), if_pos (by omega), e3, Option.bind_some, ht, Option.bind_some, if_pos c2.1, if_pos c2.2, e4, Option.bind_some, if_pos rfl]
    | false =>
     obtain ⟨r, hr, h5⟩ := j1 _ (wrap64 (((rd_T46 l ((l.length : Int) - 1)).f1) + 1)) i4 h4 hq hi4
     refine ⟨r, Ev.step (fun k => ?_) hr, h5⟩
     rw [spec_l2DrawBoxes.l0, if_pos (by omega), Option.bind_some, e, Option.bind_some, if_pos q0, if_pos (by simpa using q1), if_pos c, wl, if_pos (by omega), if_pos (by omega), e3, Option.bind_some, ht, Option.bind_some, if_pos c2.1, if_pos c2.2, e4, Option.bind_some, if_neg (by simp)]
   ·obtain ⟨r, hr, h5⟩ := j1 _ v i3 h3 hq hi3
    refine ⟨r, Ev.step (fun k => ?_) hr, h5⟩
    rw [spec_l2DrawBoxes.l0, if_pos (by omega), Option.bind_some, e, Option.bind_some, if_pos q0, if_pos (by simpa using q1), if_pos c, wl, if_pos (by omega), if_pos (by omega), e3, Option.bind_some, ht, Option.bind_some]
    by_cases c3 : t = true
    ·rw [if_pos c3, if_neg (fun h => c2 ⟨c3, h⟩)]
    ·rw [if_neg c3]
  ·obtain ⟨r, hr, h5⟩ := j1 _ 0 i2 h2 hq hi2
   refine ⟨r, Ev.step (fun k => ?_) hr, h5⟩
   rw [spec_l2DrawBoxes.l0, if_pos (by omega), Option.bind_some, e, Option.bind_some, if_pos q0, if_pos (by simpa using q1), if_neg c]

/-- Boxes are drawn. -/
theorem boxes_drawn (b : List Int) (hb : b.length ≤ 4096) (i h : Int) (hi : 0 ≤ i) : ∃ r, Ev (fun k => spec_l2DrawBoxes.f k b i h) r ∧ Okb 20100 r.1 ∧ 0 ≤ r.2.1 := by
 obtain ⟨v, i2, h2, e, hi2, v0, v1⟩ := below_ok b i h 12 hb hi
 have v1 := v1 (by omega)
 obtain ⟨r, hr, h3⟩ := l0_ok b hb v.toNat v [] i2 h2 (by omega) (by simp; omega) (fun x hx => by cases hx) hi2
 refine ⟨r, Ev.congr (fun k => ?_) hr, h3⟩
 unfold spec_l2DrawBoxes.f
 rw [e, Option.bind_some]

theorem bytesOf_byt (s : ByteArray) : Byt (bytesOf s) := fun v hv => by
 unfold bytesOf at hv
 obtain ⟨b, _, rfl⟩ := List.mem_map.1 hv
 have := b.toNat_lt
 omega
theorem four_byt (n : Int) : Byt (four n) := fun v hv => by
 unfold four at hv
 simp only [List.mem_cons, List.not_mem_nil, or_false] at hv
 rcases hv with rfl | rfl | rfl | rfl <;> omega
theorem Byt.append {a b : List Int} (ha : Byt a) (hb : Byt b) : Byt (a ++ b) := fun v hv => (List.mem_append.1 hv).elim (ha v) (hb v)
theorem rd_mem (l : List S46) (p : Nat) (hp : p < l.length) : rd_T46 l (p : Int) ∈ l := by
 rw [rd46 l (p : Int) l[p] (by rw [Int.toNat_natCast]; exact List.getElem?_eq_getElem hp)]
 exact List.getElem_mem hp
/-- What is shown are bytes. -/
theorem shw_byt : ∀ (k : Nat) (l : List S46) (out : List Int) (p : Nat) (r : List Int), shw k l out p = some r → Byt out → (∀ x ∈ l, Byt x.f2) → Byt r := by
 intro k
 induction k with
 | zero => intro l out p r h; simp [shw] at h
 | succ k ih =>
  intro l out p r h ho hl
  simp only [shw] at h
  by_cases c : p < l.length
  ·rw [if_pos c] at h
   obtain ⟨e, he, h⟩ := Option.bind_eq_some_iff.1 h
   by_cases c1 : (p : Int) + 1 ≤ e ∧ e ≤ (l.length : Int)
   ·rw [if_pos c1] at h
    obtain ⟨sb, hsb, h⟩ := Option.bind_eq_some_iff.1 h
    by_cases c2 : out.length + (rd_T46 l (p : Int)).f0.size + ((rd_T46 l (p : Int)).f2 ++ sb).length + 8 ≤ 1000000
    ·rw [if_pos c2] at h
     have h1 := ih _ _ _ _ hsb Byt.nil (fun x hx => hl x (List.mem_of_mem_take (List.mem_of_mem_drop hx)))
     exact ih _ _ _ _ h (ho.append ((four_byt _).append ((bytesOf_byt _).append ((hl _ (rd_mem l p c)).append h1)))) hl
    ·rw [if_neg c2] at h; simp at h
   ·rw [if_neg c1] at h; simp at h
  ·rw [if_neg c] at h
   obtain rfl := Option.some.inj h
   exact ho
theorem byt_ok {l : List Int} (h : Byt l) : bytesOk l = true := List.all_eq_true.2 (fun x hx => decide_eq_true (h x hx))
theorem top_of {l : List Int} (h : Byt l) (hl : l.length ≤ 40000) (k : Nat) : rdTop k l = rdr k l [] 0 0 l.length 0 := by
 unfold rdTop
 rw [if_pos (by omega), if_pos (byt_ok h)]

theorem take_len {α : Type} (l : List α) (j : Nat) : l.take (l.take j).length = l.take j := by
 rw [List.length_take]
 by_cases c : j ≤ l.length
 ·rw [Nat.min_eq_left c]
 ·rw [Nat.min_eq_right (by omega), List.take_of_length_le (Nat.le_refl _), List.take_of_length_le (by omega)]

theorem pick_run (b : List Int) (hb : Byt b) (hl : b.length ≤ 4096) (n : Int) (hn : 0 < n) : ∀ (d k : Nat) (x i : Int), 0 ≤ i → i ≤ (b.length : Int) → (b.length : Int) - i = d → d < k → 0 ≤ x → x ≤ 1000003 → ∃ r, laws_pick.l0 k b n x i = some r ∧ 0 ≤ r ∧ r < n := by
 intro d
 induction d with
 | zero =>
  intro k x i h0 h1 hd hk x0 x1
  obtain ⟨k, rfl⟩ : ∃ m, k = m + 1 := ⟨k - 1, by omega⟩
  simp only [laws_pick.l0]
  rw [if_neg (by omega), if_neg (by omega)]
  exact ⟨_, rfl, Int.tmod_nonneg _ x0, Int.tmod_lt_of_pos _ hn⟩
 | succ d ih =>
  intro k x i h0 h1 hd hk x0 x1
  obtain ⟨k, rfl⟩ : ∃ m, k = m + 1 := ⟨k - 1, by omega⟩
  have hi : i.toNat < b.length := by omega
  have hr : 0 ≤ rd b i ∧ rd b i ≤ 255 := by
   have h2 : rd b i = b[i.toNat] := by
    show b.getD _ _ = _
    rw [List.getD_eq_getElem?_getD, List.getElem?_eq_getElem hi]
    rfl
   rw [h2]
   exact hb _ (List.getElem_mem hi)
  simp only [laws_pick.l0]
  rw [if_pos (by omega), if_pos h0]
  have hw : wrap64 (i + 1) = i + 1 := by unfold wrap64; omega
  have hw1 : wrap64 (x * 43) = x * 43 := by unfold wrap64; omega
  have hw2 : wrap64 (rd b i) = rd b i := by unfold wrap64; omega
  have hw3 : wrap64 (x * 43 + rd b i) = x * 43 + rd b i := by unfold wrap64; omega
  rw [hw, hw1, hw2, hw3]
  have h3 := Int.tmod_nonneg (a := x * 43 + rd b i) 1000003 (by omega)
  have h4 := Int.tmod_lt_of_pos (x * 43 + rd b i) (b := 1000003) (by omega)
  exact ih k _ (i + 1) (by omega) (by omega) (by omega) (by omega) h3 (by omega)
theorem pick_ok (b : List Int) (hb : Byt b) (hl : b.length ≤ 4096) (n : Int) (hn : 0 < n) : ∃ r, Ev (fun k => laws_pick.f k b n) r ∧ 0 ≤ r ∧ r < n := by
 obtain ⟨r, h1, h2, h3⟩ := pick_run b hb hl n hn b.length 5000 (b.length : Int) 0 (by omega) (by omega) (by omega) (by omega) (by omega) (by omega)
 exact ⟨r, Ev.of (fun k => laws_pick.mono b n k) h1, h2, h3⟩

theorem drawn_ok (l0 : List Int) (hb : l0.length ≤ 4096) : ∃ l, Ev (fun k => spec_DrawShowBoxes.f k l0) l ∧ Okb 20100 l := by
 obtain ⟨h, e⟩ := new_ok l0 hb 4097 (by omega)
 have hn : Ev (fun k => spec_l1New.f k l0) (l0, 0, h) := Ev.of (fun k => spec_l1New.mono l0 k) e
 obtain ⟨⟨l, i2, h2⟩, hr, hl, hi2⟩ := boxes_drawn l0 hb 0 h (by omega)
 refine ⟨l, ?_, hl⟩
 unfold spec_DrawShowBoxes.f spec_DrawBoxesOk.f
 exact Ev.bind (Ev.bind hn (Ev.bind hr (Ev.now _))) (Ev.now _)

/-- What is saved of a beginning. -/
theorem save_of (l : List S46) (out : List Int) (hl : l.length ≤ 200) (hd : dsum l ≤ 20000) (hC : Chain 0 l) (hby : ∀ x ∈ l, Byt x.f2) (hlen : out.length ≤ 40000) (K : Nat) (hs : shw K l [] 0 = some out) (t : Nat) (ht : t ≤ out.length) :
  ∃ j dd c f, (∀ k, 40001 ≤ k → rdTop k (out.take t) = some (l.take j, dd, c, f)) ∧ (t = out.length → j = l.length ∧ c = 0 ∧ f = 0) := by
 have hB := shw_byt K l [] 0 out hs Byt.nil hby
 obtain ⟨R, h1, h2, h3⟩ := back l.length l 0 0 K [] out (by omega) (Nat.zero_le _) hl hC (fun h => hC.first h) hs
 rw [List.nil_append] at h1
 subst h1
 have hBt : Byt (out.take t) := fun v hv => hB v (List.mem_of_mem_take hv)
 have htl : (out.take t).length = t := by rw [List.length_take]; omega
 have hcut : Cut (out.take t) 0 out t := fun i h4 h5 => by
  rw [Nat.zero_add] at h5 ⊢
  rw [List.getElem?_take_of_lt h5]
 obtain ⟨j, dd, c, f, q1, q2⟩ := h3 (out.take t) [] 0 0 t 40001 hcut (Nat.zero_le _) (by omega) (by omega) (by omega) (by simp only [List.length_nil]; omega) (by omega) (by rw [List.drop_zero]; omega)
 rw [List.nil_append, List.drop_zero] at q1
 refine ⟨j, dd, c, f, fun k hk => ?_, fun h9 => ?_⟩
 ·rw [top_of hBt (by omega), htl]
  obtain ⟨j', dd', c', f', q1', _⟩ := h3 (out.take t) [] 0 0 t k hcut (Nat.zero_le _) (by omega) (by omega) (by omega) (by simp only [List.length_nil]; omega) (by omega) (by rw [List.drop_zero]; omega)
  obtain ⟨n, rfl⟩ : ∃ n, k = 40001 + n := ⟨k - 40001, by omega⟩
  exact at_rounds (fun k => rdr.mono k _ _ _ _ _ _) (by omega) q1
 ·have := q2 (by omega)
  rw [List.drop_zero] at this
  exact ⟨this.1, this.2.2⟩

theorem FnBoxesBack : laws_FnBoxesBack.Pure := by
 intro l0 _ _ hw
 have hb : Byt l0 := fun x hx => by
  have := hw x hx
  simp [Lit.wf, IntKind.min, IntKind.max, IntKind.signed, IntKind.bits] at this
  omega
 unfold laws_FnBoxesBack.f laws_big.f
 simp only [Option.bind_some, decide_eq_true_eq]
 by_cases hbig : (l0.length : Int) > 4096
 ·exact ⟨1, by rw [if_pos hbig]⟩
 obtain ⟨l, hd, hok⟩ := drawn_ok l0 (by omega)
 obtain ⟨r, b1, b2, b3⟩ := boxes_eq l 500 (Nat.le_refl _)
 have B1 : Ev (fun k => spec_BoxesOk.f k l) r := Ev.of (fun k => spec_BoxesOk.mono l k) b1
 have B2 : Ev (fun k => impl_BoxesOk.f k l) r := Ev.of (fun k => impl_BoxesOk.mono l k) b2
 refine Ev.rounds ?_
 refine Ev.congr (fun k => by rw [if_neg hbig]) ?_
 refine Ev.bind hd ?_
 cases r with
 | false =>
  have S1 : Ev (fun k => spec_ShowBoxes.f k l) ([] : List Int) := by
   unfold spec_ShowBoxes.f
   exact Ev.bind B1 (Ev.congr (f := fun _ => some []) (fun k => if_neg (by simp)) (Ev.now _))
  have S2 : Ev (fun k => impl_ShowBoxes.f k l) ([] : List Int) := by
   unfold impl_ShowBoxes.f
   exact Ev.bind B2 (Ev.congr (f := fun _ => some []) (fun k => if_neg (by simp)) (Ev.now _))
  refine Ev.bind S2 (Ev.bind S1 (Ev.congr (fun k => if_pos rfl) (Ev.bind B1 (Ev.congr (f := fun _ => some true) (fun k => if_neg (by simp)) (Ev.now _)))))
 | true =>
  obtain ⟨hl, hat⟩ := b3 rfl
  have hby : ∀ x ∈ l, Byt x.f2 := fun x hx => (hok.2.2 x hx).2
  have hC : Chain 0 l := ok_chain l hat (fun i hi => hby _ (rd_mem l i hi))
  have hsum : dsum l ≤ 20000 := by
   have h1 := ok_sum l hl (fun x hx => by have := dsum_mem l x hx; have := hok.2.1; omega) l.length 500 0 0 (by omega) (by omega) (by omega) (by omega) (by
    unfold impl_BoxesOk.f at b2
    rw [if_neg (by omega)] at b2
    exact b2)
   rw [List.drop_zero] at h1
   omega
  have hs4 : ∀ x ∈ l, x.f0.size = 4 := fun x hx => by
   obtain ⟨n, hn⟩ := List.getElem?_of_mem hx
   have hlt : n < l.length := (List.getElem?_eq_some_iff.1 hn).1
   have := (hat (n : Int) (by omega) (by omega)).1
   rw [rd46 l (n : Int) x (by rw [Int.toNat_natCast]; exact hn)] at this
   exact this
  have hc := cost_eq l hs4
  obtain ⟨out, e1, e2⟩ := shw_some l.length l [] 0 1000 (by omega) (by omega) (by omega) (by rw [List.drop_zero, hc]; simp only [List.length_nil]; omega) (by omega)
  rw [List.drop_zero, hc] at e2
  simp only [List.length_nil, Nat.zero_add] at e2
  have E1 : Ev (fun k => shw k l [] 0) out := Ev.of (fun k => shw.mono k l [] 0) e1
  have S1 : Ev (fun k => spec_ShowBoxes.f k l) out := by
   unfold spec_ShowBoxes.f spec_l2Show.f
   exact Ev.bind B1 (Ev.congr (fun k => if_pos rfl) (Ev.bind (Ev.congr (fun k => if_pos (by omega)) E1) (Ev.now _)))
  have S2 : Ev (fun k => impl_ShowBoxes.f k l) out := by
   unfold impl_ShowBoxes.f impl_showBoxes.f
   exact Ev.bind B2 (Ev.congr (fun k => if_pos rfl) (Ev.bind (Ev.congr (fun k => if_pos (by omega)) E1) (Ev.now _)))
  have sv := save_of l out hl hsum hC hby (by omega) 1000 e1
  obtain ⟨j, dd, c, f, q1, q2⟩ := sv out.length (Nat.le_refl _)
  obtain ⟨q3, q4, q5⟩ := q2 rfl
  rw [List.take_length, q3, List.take_length, q4, q5] at q1
  have T1 : Ev (fun k => impl_ReadBoxes.f k out) (l, 0, 0) := ⟨40001, fun k hk => by
   show impl_ReadBoxes.f k out = _
   unfold impl_ReadBoxes.f
   rw [if_neg (by omega), q1 k hk]
   rfl⟩
  have T2 : Ev (fun k => impl_SaveBoxes.f k out) l := ⟨40001, fun k hk => by
   show impl_SaveBoxes.f k out = _
   unfold impl_SaveBoxes.f
   rw [if_neg (by omega), q1 k hk]
   rfl⟩
  have same : ∀ x : List S46, x.length ≤ 200 → Ev (fun k => laws_sameBoxes.f k x x) true := fun x hx => ⟨201, fun k hk => same_self x (by omega) k (by omega)⟩
  refine Ev.bind S2 (Ev.bind S1 (Ev.congr (fun k => if_pos rfl) (Ev.bind B1 (Ev.congr (fun k => if_pos rfl) (Ev.bind T1 (Ev.congr (fun k => if_pos rfl) (Ev.bind (same l hl) (Ev.congr (fun k => if_pos rfl) (Ev.bind T2 (Ev.bind (same l hl) ?_))))))))))
  show Ev (fun n => laws_FnBoxesBack.j0 n l0 l out false) true
  have wl : wrap64 ((out.length : Int) + 1) = (out.length : Int) + 1 := by unfold wrap64; omega
  obtain ⟨p, p1, p2, p3⟩ := pick_ok l0 hb (by omega) ((out.length : Int) + 1) (by omega)
  obtain ⟨j2, dd2, c2, f2, u1, _⟩ := sv p.toNat (by omega)
  have T3 : Ev (fun k => impl_SaveBoxes.f k (out.take p.toNat)) (l.take j2) := ⟨40001, fun k hk => by
   show impl_SaveBoxes.f k (out.take p.toNat) = _
   unfold impl_SaveBoxes.f
   rw [if_neg (by rw [List.length_take]; omega), u1 k hk]
   rfl⟩
  have hlt : (l.take j2).length ≤ l.length := by rw [List.length_take]; omega
  obtain ⟨K1, g1⟩ := p1
  obtain ⟨K3, g3⟩ := T3
  obtain ⟨K4, g4⟩ := same (l.take j2) (by omega)
  refine ⟨K1 + K3 + K4 + 1, fun k hk => ?_⟩
  obtain ⟨m, rfl⟩ : ∃ m, k = m + 1 := ⟨k - 1, by omega⟩
  show laws_FnBoxesBack.j0 (m + 1) l0 l out false = some true
  have g1 := g1 m (by omega)
  have g3 := g3 m (by omega)
  have g4 := g4 m (by omega)
  dsimp only at g1 g3 g4
  rw [laws_FnBoxesBack.j0, if_neg (by simp), wl, g1, Option.bind_some, if_pos p2, if_pos (by omega), g3, Option.bind_some, if_pos (by omega), if_pos (by omega), Int.toNat_natCast, take_len, g4, Option.bind_some]

end Go.Proofs.Ytpennfkjfeipcaa.Pure
