/- Proved: the plain law behind FnExactFindBox. No condition. -/
import Derived.Test.YtpennfkjfeipcaaDoorPFnExactFindBoxx7
namespace Go.Proofs.YtpennfkjfeipcaaDoor.Pure
open Go.RowKit Go.Proofs.YtpennfkjfeipcaaDoor.PFnExactFindBox Go.Proofs.YtpennfkjfeipcaaDoorW.PrintWords Go.Proofs.YtpennfkjfeipcaaDoorW.PrintLast

set_option linter.unusedVariables false
set_option linter.unusedSimpArgs false

theorem run_to {α : Type} (F : Nat → Int → Option α) (n : Int) (r : α) (step : ∀ k i, 0 ≤ i → i < n → F (k + 1) i = F k (i + 1)) (stop : ∀ k, F (k + 1) n = some r) :
    ∀ (d k : Nat) (i : Int), 0 ≤ i → i ≤ n → n - i = d → d < k → F k i = some r := by
  intro d
  induction d with
  | zero =>
    intro k i h0 h1 hd hk
    obtain ⟨k, rfl⟩ : ∃ m, k = m + 1 := ⟨k - 1, by omega⟩
    obtain rfl : i = n := by omega
    exact stop k
  | succ d ih =>
    intro k i h0 h1 hd hk
    obtain ⟨k, rfl⟩ : ∃ m, k = m + 1 := ⟨k - 1, by omega⟩
    rw [step k i h0 (by omega)]
    exact ih k (i + 1) (by omega) (by omega) (by omega) (by omega)

theorem set_to {α β : Type} (F : Nat → List β → Int → Option (List β)) (l : List α) (conv : α → β)
    (step : ∀ k acc i x, 0 ≤ i → l[i.toNat]? = some x → acc.length = l.length → F (k + 1) acc i = F k (acc.set i.toNat (conv x)) (i + 1)) (stop : ∀ k acc, F (k + 1) acc (l.length : Int) = some acc) :
    ∀ (d k : Nat) (acc : List β) (i : Int), 0 ≤ i → i ≤ l.length → (l.length : Int) - i = d → d < k → acc.length = l.length → F k acc i = some (acc.take i.toNat ++ (l.drop i.toNat).map conv) := by
  intro d
  induction d with
  | zero =>
    intro k acc i h0 h1 hd hk ha
    obtain ⟨k, rfl⟩ : ∃ m, k = m + 1 := ⟨k - 1, by omega⟩
    obtain rfl : i = (l.length : Int) := by omega
    rw [stop k]
    simp [← ha]
  | succ d ih =>
    intro k acc i h0 h1 hd hk ha
    obtain ⟨k, rfl⟩ : ∃ m, k = m + 1 := ⟨k - 1, by omega⟩
    have hlt : i.toNat < l.length := by omega
    have hx : l[i.toNat]? = some l[i.toNat] := List.getElem?_eq_getElem hlt
    rw [step k acc i _ h0 hx ha, ih k _ (i + 1) (by omega) (by omega) (by omega) (by omega) (by simpa using ha)]
    have e : (i + 1).toNat = i.toNat + 1 := by omega
    rw [e]
    congr 1
    rw [List.take_succ_eq_append_getElem (by simp; omega)]
    rw [List.drop_eq_getElem_cons hlt, List.map_cons, List.getElem_set_self, List.take_set_of_le (Nat.le_refl _), List.append_assoc]
    rfl

theorem in_some (a b c : Int) : impl_in.f a b c = some (decide (b ≤ a ∧ a ≤ c)) := by
  unfold impl_in.f
  by_cases h : b ≤ a
  · simp [h]
  · simp [h]

theorem in_spec (a b c : Int) : spec_l1In.f a b c = some (decide (b ≤ a ∧ a ≤ c)) := in_some a b c

/-- A letter or a digit. -/
def Good (c : Int) : Prop := (48 ≤ c ∧ c ≤ 57) ∨ (65 ≤ c ∧ c ≤ 90) ∨ (97 ≤ c ∧ c ≤ 122)

instance (c : Int) : Decidable (Good c) := by unfold Good; infer_instance

theorem spec_char (c : Int) (n : Option Bool) : (if c < 48 then (if c < 97 then (if c < 65 then (some false) else (if c > 90 then (some false) else n)) else (if c > 122 then (if c < 65 then (some false) else (if c > 90 then (some false) else n)) else n)) else (if c > 57 then (if c < 97 then (if c < 65 then (some false) else (if c > 90 then (some false) else n)) else (if c > 122 then (if c < 65 then (some false) else (if c > 90 then (some false) else n)) else n)) else n)) = if Good c then n else some false := by
  by_cases g : Good c
  · rw [if_pos g]
    unfold Good at g
    repeat' split
    all_goals first | rfl | omega
  · rw [if_neg g]
    unfold Good at g
    repeat' split
    all_goals first | rfl | omega

theorem impl_char (c : Int) (n : Option Bool) : ((impl_isLetter.f c).bind fun t135 => (if t135 = true then n else ((impl_isDigit.f c).bind fun t136 => (if t136 = true then n else (some false))))) = if Good c then n else some false := by
  have h1 : impl_isLetter.f c = some (decide ((97 ≤ c ∧ c ≤ 122) ∨ (65 ≤ c ∧ c ≤ 90))) := by
    unfold impl_isLetter.f
    repeat' split
    all_goals (congr 1; first | (symm; apply decide_eq_true; omega) | (symm; apply decide_eq_false; omega) | (apply decide_eq_decide.2; omega))
  have h2 : impl_isDigit.f c = some (decide (48 ≤ c ∧ c ≤ 57)) := by
    unfold impl_isDigit.f
    repeat' split
    all_goals (congr 1; first | (symm; apply decide_eq_true; omega) | (symm; apply decide_eq_false; omega) | (apply decide_eq_decide.2; omega))
  rw [h1, h2]
  simp only [Option.bind_some, decide_eq_true_eq]
  by_cases g1 : (97 ≤ c ∧ c ≤ 122) ∨ (65 ≤ c ∧ c ≤ 90)
  · rw [if_pos g1, if_pos (by unfold Good; omega)]
  · rw [if_neg g1]
    by_cases g2 : 48 ≤ c ∧ c ≤ 57
    · rw [if_pos g2, if_pos (by unfold Good; omega)]
    · rw [if_neg g2, if_neg (by unfold Good; omega)]

theorem kind_l (s : ByteArray) (hs : (s.size : Int) = 4) : ∀ (d k k' : Nat) (i : Int), 0 ≤ i → i ≤ 4 → 4 - i = d → d < k → d < k' → ∃ r, spec_l2Kind.l0 k s i = some r ∧ impl_kindOk.l0 k' s 4 i = some r ∧ (r = true → ∀ j : Int, i ≤ j → j < 4 → Good (bt s j)) := by
  intro d
  induction d with
  | zero =>
    intro k k' i h0 h1 hd hk hk'
    obtain ⟨k, rfl⟩ : ∃ m, k = m + 1 := ⟨k - 1, by omega⟩
    obtain ⟨k', rfl⟩ : ∃ m, k' = m + 1 := ⟨k' - 1, by omega⟩
    refine ⟨true, ?_, ?_, fun _ j h2 h3 => by omega⟩
    · simp only [spec_l2Kind.l0]; rw [if_neg (by omega)]
    · simp only [impl_kindOk.l0]; rw [if_neg (by omega)]
  | succ d ih =>
    intro k k' i h0 h1 hd hk hk'
    obtain ⟨k, rfl⟩ : ∃ m, k = m + 1 := ⟨k - 1, by omega⟩
    obtain ⟨k', rfl⟩ : ∃ m, k' = m + 1 := ⟨k' - 1, by omega⟩
    have wi : wrap64 (i + 1) = i + 1 := by unfold wrap64; omega
    obtain ⟨r, a, b, hg⟩ := ih k k' (i + 1) (by omega) (by omega) (by omega) (by omega) (by omega)
    have hS : spec_l2Kind.l0 (k + 1) s i = if Good (bt s i) then spec_l2Kind.l0 k s (i + 1) else some false := by
      simp only [spec_l2Kind.l0]
      rw [if_pos (by omega), if_pos h0, if_pos (by omega), spec_char, wi]
    have hI : impl_kindOk.l0 (k' + 1) s 4 i = if Good (bt s i) then impl_kindOk.l0 k' s 4 (i + 1) else some false := by
      simp only [impl_kindOk.l0]
      rw [if_pos (by omega), if_pos h0, if_pos (by omega), impl_char, wi]
    rw [hS, hI, a, b]
    by_cases g : Good (bt s i)
    · rw [if_pos g]
      refine ⟨r, rfl, rfl, fun h j h2 h3 => ?_⟩
      by_cases e : j = i
      · rw [e]; exact g
      · exact hg h j (by omega) h3
    · rw [if_neg g]; exact ⟨false, rfl, rfl, fun h => by simp at h⟩

theorem kind_eq (s : ByteArray) : ∃ r, (r = true → s.size = 4 ∧ ∀ j : Int, 0 ≤ j → j < 4 → Good (bt s j)) ∧ ∀ k, 6 ≤ k → spec_l2Kind.f k s = some r ∧ impl_kindOk.f k s = some r := by
  by_cases c : (s.size : Int) = 4
  · obtain ⟨r, a, b, hg⟩ := kind_l s c 4 5 5 0 (by omega) (by omega) (by omega) (by omega) (by omega)
    refine ⟨r, fun h => ⟨by omega, fun j h2 h3 => hg h j h2 h3⟩, fun k hk => ?_⟩
    obtain ⟨r1, a1, b1, _⟩ := kind_l s c 4 k 5 0 (by omega) (by omega) (by omega) (by omega) (by omega)
    obtain ⟨r2, a2, b2, _⟩ := kind_l s c 4 5 k 0 (by omega) (by omega) (by omega) (by omega) (by omega)
    unfold spec_l2Kind.f impl_kindOk.f
    rw [if_pos c, if_pos c, c]
    obtain rfl := Option.some.inj (b1.symm.trans b)
    obtain rfl := Option.some.inj (a2.symm.trans a)
    exact ⟨a1, b2⟩
  · refine ⟨false, fun h => by simp at h, fun k hk => ?_⟩
    unfold spec_l2Kind.f impl_kindOk.f
    rw [if_neg c, if_neg c]
    exact ⟨rfl, rfl⟩

def hold (s : ByteArray) : Bool := decide (65 ≤ bt s 0 ∧ bt s 0 ≤ 90)

theorem hold_i (s : ByteArray) (d : Int) (l : List Int) (h : s.size = 4) : impl_Box_holds.f s d l = some (hold s) := by
  unfold impl_Box_holds.f hold
  rw [if_pos (by omega)]
  by_cases c : 65 ≤ bt s 0
  · rw [if_pos c]; simp [c]
  · rw [if_neg c]; simp [c]

theorem hold_s (s : ByteArray) (h : s.size = 4) : spec_l2Holds.f s = some (hold s) := hold_i s 0 [] h

/-- Whether the box b may stand at place i, behind a. -/
def fitB (b a : S34) (i : Int) : Bool := !(hold b.f0 && decide ((b.f2.length : Int) > 0)) && decide (0 ≤ b.f1 ∧ b.f1 ≤ (if i = 0 then 0 else mn (if hold a.f0 = true then a.f1 + 1 else a.f1) 8))

theorem spec_step (l : List S34) (hl : l.length ≤ 200) (x i : Int) (h0 : 0 ≤ i) (hlt : i < (l.length : Int)) (k : Nat) (hk : 8 ≤ k) (hkind : spec_l2Kind.f (k + 1) (rd_T34 l i).f0 = some true) (hs : (rd_T34 l i).f0.size = 4)
    (hp : 0 < i → (rd_T34 l (i - 1)).f0.size = 4 ∧ 0 ≤ (rd_T34 l (i - 1)).f1 ∧ (rd_T34 l (i - 1)).f1 ≤ 8) :
    spec_BoxesOk.l0 (k + 2) l x i = if fitB (rd_T34 l i) (rd_T34 l (i - 1)) i = true then spec_BoxesOk.l0 k l (wrap64 (x + ((rd_T34 l i).f2.length : Int))) (i + 1) else some false := by
  have wi : wrap64 (i + 1) = i + 1 := by unfold wrap64; omega
  have wj : wrap64 (i - 1) = i - 1 := by unfold wrap64; omega
  simp only [spec_BoxesOk.l0]
  rw [if_pos hlt, if_pos h0, hkind]
  simp only [Option.bind_some, if_true, spec_BoxesOk.j1, in_spec]
  rw [hold_s _ hs, wi, wj]
  simp only [Option.bind_some]
  generalize hn : spec_BoxesOk.l0 k l (wrap64 (x + ((rd_T34 l i).f2.length : Int))) (i + 1) = nx
  generalize hb : rd_T34 l i = b at *
  generalize ha : rd_T34 l (i - 1) = a at *
  unfold fitB
  clear hn
  generalize (b.f2.length : Int) = m
  by_cases hi : i = 0
  · subst hi
    have e0 : ¬ (0 : Int) > 0 := by omega
    by_cases d : 0 ≤ b.f1 ∧ b.f1 ≤ 8
    · by_cases h1 : hold b.f0 = true
      · by_cases h2 : m > 0
        · simp [d, h1, h2]
        · by_cases z : b.f1 = 0
          · simp [d, h1, h2, z]
          · have : ¬ b.f1 ≤ 0 := by omega
            simp [d, h1, h2, z, this]
      · by_cases z : b.f1 = 0
        · simp [d, h1, z]
        · have : ¬ b.f1 ≤ 0 := by omega
          simp [d, h1, z, this]
    · have : ¬ (0 ≤ b.f1 ∧ b.f1 ≤ 0) := by omega
      simp [d, this]
  · have hip : i > 0 := by omega
    obtain ⟨p1, p2, p3⟩ := hp hip
    have e1 : (0 : Int) ≤ i - 1 := by omega
    have e2 : i - 1 < (l.length : Int) := by omega
    have wa : wrap64 (a.f1 + 1) = a.f1 + 1 := by unfold wrap64; omega
    rw [hold_s _ p1, wa]
    unfold mn
    simp only [Option.bind_some, if_pos hip, if_pos e1, if_pos e2, if_neg hi]
    have key : ∀ m : Bool, m = decide (0 ≤ b.f1 ∧ b.f1 ≤ (if 8 < (if hold a.f0 = true then a.f1 + 1 else a.f1) then 8 else (if hold a.f0 = true then a.f1 + 1 else a.f1))) → (0 ≤ b.f1 ∧ b.f1 ≤ 8) →
        (if b.f1 > a.f1 then if b.f1 = a.f1 + 1 then if hold a.f0 = true then nx else some false else some false else nx) = if m = true then nx else some false := by
      intro m hm d
      subst hm
      by_cases h : hold a.f0 = true
      · simp only [h, if_true]
        by_cases c1 : b.f1 > a.f1
        · by_cases c2 : b.f1 = a.f1 + 1
          · rw [if_pos c1, if_pos c2, if_pos]
            apply decide_eq_true
            split <;> omega
          · rw [if_pos c1, if_neg c2, if_neg]
            intro q
            have q := of_decide_eq_true q
            split at q <;> omega
        · rw [if_neg c1, if_pos]
          apply decide_eq_true
          split <;> omega
      · simp only [h, if_false, Bool.false_eq_true]
        by_cases c1 : b.f1 > a.f1
        · have hq : ¬ decide (0 ≤ b.f1 ∧ b.f1 ≤ (if 8 < a.f1 then 8 else a.f1)) = true := by
            intro q
            have q := of_decide_eq_true q
            split at q <;> omega
          rw [if_pos c1, if_neg hq]
          split <;> rfl
        · rw [if_neg c1, if_pos]
          apply decide_eq_true
          split <;> omega
    by_cases d : 0 ≤ b.f1 ∧ b.f1 ≤ 8
    · have hkey := key _ rfl d
      by_cases h1 : hold b.f0 = true
      · by_cases h2 : m > 0
        · simp [d, h1, h2]
        · rw [hkey] at *
          simp [d, h1, h2]
      · rw [hkey] at *
        simp [d, h1]
    · have : ¬ decide (0 ≤ b.f1 ∧ b.f1 ≤ (if 8 < (if hold a.f0 = true then a.f1 + 1 else a.f1) then 8 else (if hold a.f0 = true then a.f1 + 1 else a.f1))) = true := by
        intro q
        have q := of_decide_eq_true q
        split at q <;> omega
      simp only [Bool.and_eq_true, this, and_false, if_false]
      simp [d]

theorem rd_take (l : List S34) (i : Int) (h0 : 0 < i) (h1 : i ≤ (l.length : Int)) : rd_T34 (l.take i.toNat) (i - 1) = rd_T34 l (i - 1) := by
  unfold rd_T34
  rw [List.getD_eq_getElem?_getD, List.getD_eq_getElem?_getD, List.getElem?_take_of_lt (by omega)]

theorem fits_step (l : List S34) (hl : l.length ≤ 200) (i : Int) (h0 : 0 ≤ i) (hlt : i < (l.length : Int)) (k : Nat) (hkind : impl_kindOk.f (k + 1) (rd_T34 l i).f0 = some true) (hs : (rd_T34 l i).f0.size = 4)
    (hp : 0 < i → (rd_T34 l (i - 1)).f0.size = 4 ∧ 0 ≤ (rd_T34 l (i - 1)).f1 ∧ (rd_T34 l (i - 1)).f1 ≤ 8) :
    impl_Box_fits.f (k + 1) (rd_T34 l i).f0 (rd_T34 l i).f1 (rd_T34 l i).f2 (l.take i.toNat) = some (fitB (rd_T34 l i) (rd_T34 l (i - 1)) i) := by
  have hlen : ((l.take i.toNat).length : Int) = i := by rw [List.length_take]; omega
  have wj : wrap64 (i - 1) = i - 1 := by unfold wrap64; omega
  unfold impl_Box_fits.f
  rw [hkind, hold_i _ _ _ hs]
  simp only [Option.bind_some, if_true, impl_Box_fits.j0, hlen, wj]
  have hJ : ∀ q : Bool, (if q = true then some false else (if i > 0 then (if 0 ≤ i - 1 then (if i - 1 < i then ((impl_Box_holds.f ((rd_T34 (l.take i.toNat) (i - 1)).f0) ((rd_T34 (l.take i.toNat) (i - 1)).f1) ((rd_T34 (l.take i.toNat) (i - 1)).f2)).bind fun t143 => (if t143 = true then ((impl_in.f (rd_T34 l i).f1 0 (mn (wrap64 (((rd_T34 (l.take i.toNat) (i - 1)).f1) + 1)) 8)).bind fun t144 => (some t144)) else ((impl_in.f (rd_T34 l i).f1 0 (mn ((rd_T34 (l.take i.toNat) (i - 1)).f1) 8)).bind fun t145 => (some t145)))) else (none)) else (none)) else ((impl_in.f (rd_T34 l i).f1 0 (mn 0 8)).bind fun t146 => (some t146))))
      = some (!q && decide (0 ≤ (rd_T34 l i).f1 ∧ (rd_T34 l i).f1 ≤ (if i = 0 then 0 else mn (if hold (rd_T34 l (i - 1)).f0 = true then (rd_T34 l (i - 1)).f1 + 1 else (rd_T34 l (i - 1)).f1) 8))) := by
    intro q
    cases q with
    | true => simp
    | false =>
      by_cases hi : i = 0
      · subst hi
        rw [if_neg (by simp), if_neg (by omega : ¬ (0 : Int) > 0), in_some]
        simp [mn]
      · have hip : 0 < i := by omega
        obtain ⟨p1, p2, p3⟩ := hp hip
        have wa : wrap64 ((rd_T34 l (i - 1)).f1 + 1) = (rd_T34 l (i - 1)).f1 + 1 := by unfold wrap64; omega
        rw [if_neg (by simp), if_pos (by omega), if_pos (by omega), if_pos (by omega), rd_take l i hip (by omega), hold_i _ _ _ p1, wa, in_some, in_some, if_neg hi]
        simp only [Option.bind_some]
        by_cases h : hold (rd_T34 l (i - 1)).f0 = true
        · simp [h]
        · simp [h]
  unfold fitB
  by_cases h1 : hold (rd_T34 l i).f0 = true
  · rw [h1]
    simp only [if_true, Bool.true_and]
    exact hJ _
  · have h1' : hold (rd_T34 l i).f0 = false := by simpa using h1
    rw [h1']
    simp only [Bool.false_eq_true, if_false, Bool.false_and]
    exact hJ false

theorem fit_depth (b a : S34) (i : Int) (h : fitB b a i = true) : 0 ≤ b.f1 ∧ b.f1 ≤ 8 := by
  unfold fitB at h
  simp only [Bool.and_eq_true, decide_eq_true_eq] at h
  obtain ⟨_, h1, h2⟩ := h
  refine ⟨h1, ?_⟩
  unfold mn at h2
  split at h2
  · omega
  · split at h2 <;> omega

theorem impl_step (l : List S34) (hl : l.length ≤ 200) (k : Nat) (x i : Int) (h0 : 0 ≤ i) (hlt : i < (l.length : Int)) : impl_BoxesOk.l0 (k + 1) l x l (l.length : Int) i =
    (impl_Box_fits.f k (rd_T34 l i).f0 (rd_T34 l i).f1 (rd_T34 l i).f2 (l.take i.toNat)).bind fun t => if t = true then impl_BoxesOk.l0 k l (wrap64 (x + ((rd_T34 l i).f2.length : Int))) l (l.length : Int) (i + 1) else some false := by
  have wi : wrap64 (i + 1) = i + 1 := by unfold wrap64; omega
  simp only [impl_BoxesOk.l0]
  rw [if_pos hlt, if_pos h0, if_pos hlt, if_pos (by omega), wi]

/-- What is known of a box of a right list. -/
def OkAt (l : List S34) (j : Int) : Prop := (rd_T34 l j).f0.size = 4 ∧ (∀ i : Int, 0 ≤ i → i < 4 → Good (bt (rd_T34 l j).f0 i)) ∧ fitB (rd_T34 l j) (rd_T34 l (j - 1)) j = true

theorem boxes_l (l : List S34) (hl : l.length ≤ 200) : ∀ (d k k' : Nat) (i x : Int), 0 ≤ i → i ≤ (l.length : Int) → (l.length : Int) - i = d → 2 * d + 10 < k → 2 * d + 10 < k' →
    (0 < i → (rd_T34 l (i - 1)).f0.size = 4 ∧ 0 ≤ (rd_T34 l (i - 1)).f1 ∧ (rd_T34 l (i - 1)).f1 ≤ 8) →
    ∃ r, spec_BoxesOk.l0 k l x i = some r ∧ impl_BoxesOk.l0 k' l x l (l.length : Int) i = some r ∧ (r = true → ∀ j : Int, i ≤ j → j < (l.length : Int) → OkAt l j) := by
  intro d
  induction d with
  | zero =>
    intro k k' i x h0 h1 hd hk hk' hp
    obtain ⟨k, rfl⟩ : ∃ m, k = m + 1 := ⟨k - 1, by omega⟩
    obtain ⟨k', rfl⟩ : ∃ m, k' = m + 1 := ⟨k' - 1, by omega⟩
    refine ⟨decide (x ≤ 20000), ?_, ?_, fun _ j h2 h3 => by omega⟩
    · simp only [spec_BoxesOk.l0]; rw [if_neg (by omega)]
    · simp only [impl_BoxesOk.l0]; rw [if_neg (by omega)]
  | succ d ih =>
    intro k k' i x h0 h1 hd hk hk' hp
    obtain ⟨k, rfl⟩ : ∃ m, k = m + 2 := ⟨k - 2, by omega⟩
    obtain ⟨k', rfl⟩ : ∃ m, k' = m + 2 := ⟨k' - 2, by omega⟩
    have hlt : i < (l.length : Int) := by omega
    have wi : wrap64 (i + 1) = i + 1 := by unfold wrap64; omega
    obtain ⟨r, hr, hK⟩ := kind_eq (rd_T34 l i).f0
    cases r with
    | false =>
      refine ⟨false, ?_, ?_, fun h => by simp at h⟩
      · simp only [spec_BoxesOk.l0]
        rw [if_pos hlt, if_pos h0, (hK (k + 1) (by omega)).1]
        simp [spec_BoxesOk.j1]
      · rw [show k' + 2 = (k' + 1) + 1 from rfl, impl_step l hl (k' + 1) x i h0 hlt]
        unfold impl_Box_fits.f
        rw [(hK (k' + 1) (by omega)).2]
        simp [impl_Box_fits.j0]
    | true =>
      obtain ⟨hs, hgood⟩ := hr rfl
      rw [spec_step l hl x i h0 hlt k (by omega) (hK (k + 1) (by omega)).1 hs hp]
      rw [show k' + 2 = (k' + 1) + 1 from rfl, impl_step l hl (k' + 1) x i h0 hlt, fits_step l hl i h0 hlt k' (hK (k' + 1) (by omega)).2 hs hp]
      simp only [Option.bind_some]
      by_cases f : fitB (rd_T34 l i) (rd_T34 l (i - 1)) i = true
      · rw [if_pos f]
        obtain ⟨r, a, b, hg⟩ := ih k (k' + 1) (i + 1) (wrap64 (x + ((rd_T34 l i).f2.length : Int))) (by omega) (by omega) (by omega) (by omega) (by omega) (fun _ => by
          rw [show i + 1 - 1 = i by omega]
          exact ⟨hs, fit_depth _ _ _ f⟩)
        refine ⟨r, a, by rw [if_pos f]; exact b, fun h j h2 h3 => ?_⟩
        by_cases e : j = i
        · rw [e]; exact ⟨hs, hgood, f⟩
        · exact hg h j (by omega) h3
      · rw [if_neg f]
        exact ⟨false, rfl, by rw [if_neg f], fun h => by simp at h⟩

/-- The program's BoxesOk and the reference's answer alike. -/
theorem boxes_eq (l : List S34) (k : Nat) (hk : 500 ≤ k) : ∃ r, spec_BoxesOk.f k l = some r ∧ impl_BoxesOk.f k l = some r ∧ (r = true → l.length ≤ 200 ∧ ∀ j : Int, 0 ≤ j → j < (l.length : Int) → OkAt l j) := by
  unfold spec_BoxesOk.f impl_BoxesOk.f
  by_cases c : (l.length : Int) > 200
  · rw [if_pos c, if_pos c]; exact ⟨false, rfl, rfl, fun h => by simp at h⟩
  · rw [if_neg c, if_neg c]
    obtain ⟨r, a, b, hg⟩ := boxes_l l (by omega) l.length k k 0 0 (by omega) (by omega) (by omega) (by omega) (by omega) (fun h => by omega)
    exact ⟨r, a, b, fun h => ⟨by omega, hg h⟩⟩

theorem set_from {α β : Type} (F : Nat → List β → Int → Option (List β)) (l : List α) (conv : α → β) (K : Nat)
    (step : ∀ k acc i x, K ≤ k → 0 ≤ i → l[i.toNat]? = some x → acc.length = l.length → F (k + 1) acc i = F k (acc.set i.toNat (conv x)) (i + 1)) (stop : ∀ k acc, F (k + 1) acc (l.length : Int) = some acc) :
    ∀ (d k : Nat) (acc : List β) (i : Int), 0 ≤ i → i ≤ l.length → (l.length : Int) - i = d → d + K < k → acc.length = l.length → F k acc i = some (acc.take i.toNat ++ (l.drop i.toNat).map conv) := by
  intro d
  induction d with
  | zero =>
    intro k acc i h0 h1 hd hk ha
    obtain ⟨k, rfl⟩ : ∃ m, k = m + 1 := ⟨k - 1, by omega⟩
    obtain rfl : i = (l.length : Int) := by omega
    rw [stop k]
    simp [← ha]
  | succ d ih =>
    intro k acc i h0 h1 hd hk ha
    obtain ⟨k, rfl⟩ : ∃ m, k = m + 1 := ⟨k - 1, by omega⟩
    have hlt : i.toNat < l.length := by omega
    have hx : l[i.toNat]? = some l[i.toNat] := List.getElem?_eq_getElem hlt
    rw [step k acc i _ (by omega) h0 hx ha, ih k _ (i + 1) (by omega) (by omega) (by omega) (by omega) (by simpa using ha)]
    have e : (i + 1).toNat = i.toNat + 1 := by omega
    rw [e]
    congr 1
    rw [List.take_succ_eq_append_getElem (by simp; omega)]
    rw [List.drop_eq_getElem_cons hlt, List.map_cons, List.getElem_set_self, List.take_set_of_le (Nat.le_refl _), List.append_assoc]
    rfl

theorem run_from {α : Type} (F : Nat → Int → Option α) (n : Int) (r : α) (K : Nat) (step : ∀ k i, K ≤ k → 0 ≤ i → i < n → F (k + 1) i = F k (i + 1)) (stop : ∀ k, F (k + 1) n = some r) :
    ∀ (d k : Nat) (i : Int), 0 ≤ i → i ≤ n → n - i = d → d + K < k → F k i = some r := by
  intro d
  induction d with
  | zero =>
    intro k i h0 h1 hd hk
    obtain ⟨k, rfl⟩ : ∃ m, k = m + 1 := ⟨k - 1, by omega⟩
    obtain rfl : i = n := by omega
    exact stop k
  | succ d ih =>
    intro k i h0 h1 hd hk
    obtain ⟨k, rfl⟩ : ∃ m, k = m + 1 := ⟨k - 1, by omega⟩
    rw [step k i (by omega) h0 (by omega)]
    exact ih k (i + 1) (by omega) (by omega) (by omega) (by omega)

theorem to_bytes (l : List Int) (hl : l.length ≤ 1048576) (k : Nat) (hk : 1048577 ≤ k) : laws_toByteS.f k l = some l := by
  unfold laws_toByteS.f
  rw [if_pos (by omega), if_pos (by omega)]
  have h := set_to (fun k acc i => laws_toByteS.l0 k l acc i) l id (by
    intro k acc i x h0 hx ha
    have hlt : i.toNat < l.length := (List.getElem?_eq_some_iff.1 hx).1
    simp only [laws_toByteS.l0]
    have hr : rd l i = x := by
      unfold rd
      rw [List.getD_eq_getElem?_getD, hx]
      rfl
    rw [if_pos (by omega), if_pos h0, if_pos (by omega), hr]
    have hw : wrap64 (i + 1) = i + 1 := by unfold wrap64; omega
    rw [hw]
    rfl) (by
    intro k acc
    simp only [laws_toByteS.l0]
    rw [if_neg (by omega)]) l.length k (List.replicate ((l.length : Int)).toNat 0) 0 (by omega) (by omega) (by omega) (by omega) (by simp)
  rw [h]
  simp

theorem eq_bytes (l : List Int) (hl : l.length ≤ 1048576) (k : Nat) (hk : 1048577 ≤ k) : laws_eqByteS.f k l l = some true := by
  unfold laws_eqByteS.f
  rw [if_pos rfl]
  exact run_to (fun k i => laws_eqByteS.l0 k l l i) (l.length : Int) true (by
    intro k i h0 h1
    simp only [laws_eqByteS.l0]
    rw [if_pos h1, if_pos h0, if_pos h1]
    have hw : wrap64 (i + 1) = i + 1 := by unfold wrap64; omega
    simp [hw]) (by
    intro k
    simp only [laws_eqByteS.l0]
    rw [if_neg (by omega)]) l.length k 0 (by omega) (by omega) (by omega) (by omega)

def conv (x : S36) : S34 := ⟨x.f0, x.f1, x.f2⟩

theorem rd45 (l : List S36) (i : Int) (x : S36) (h : l[i.toNat]? = some x) : rd_T36 l i = x := by
  unfold rd_T36
  rw [List.getD_eq_getElem?_getD, h]
  rfl

theorem rd46 (l : List S34) (i : Int) (x : S34) (h : l[i.toNat]? = some x) : rd_T34 l i = x := by
  unfold rd_T34
  rw [List.getD_eq_getElem?_getD, h]
  rfl

theorem to_boxes (l : List S36) (hl : l.length ≤ 1048576) (hd : ∀ x ∈ l, x.f2.length ≤ 1048576) (k : Nat) (hk : 2097155 ≤ k) : laws_toBoxS.f k l = some (l.map conv) := by
  unfold laws_toBoxS.f
  rw [if_pos (by omega), if_pos (by omega)]
  have h := set_from (fun k acc i => laws_toBoxS.l0 k l acc i) l conv 1048577 (by
    intro k acc i x hK h0 hx ha
    have hlt : i.toNat < l.length := (List.getElem?_eq_some_iff.1 hx).1
    simp only [laws_toBoxS.l0]
    rw [if_pos (by omega), if_pos h0, rd45 l i x hx]
    unfold laws_toBox.f
    rw [to_bytes x.f2 (hd x (List.mem_of_getElem? hx)) k hK]
    simp only [Option.bind_some]
    rw [if_pos (by omega)]
    have hw : wrap64 (i + 1) = i + 1 := by unfold wrap64; omega
    rw [hw]
    rfl) (by
    intro k acc
    simp only [laws_toBoxS.l0]
    rw [if_neg (by omega)]) l.length k (List.replicate ((l.length : Int)).toNat z34) 0 (by omega) (by omega) (by omega) (by omega) (by simp)
  rw [h]
  simp

theorem eq_boxes (l : List S34) (hl : l.length ≤ 1048576) (hd : ∀ x ∈ l, x.f2.length ≤ 1048576) (k : Nat) (hk : 2097155 ≤ k) : laws_eqBoxS.f k l l = some true := by
  unfold laws_eqBoxS.f
  rw [if_pos rfl]
  exact run_from (fun k i => laws_eqBoxS.l0 k l l i) (l.length : Int) true 1048577 (by
    intro k i hK h0 h1
    simp only [laws_eqBoxS.l0]
    have hx : l[i.toNat]? = some l[i.toNat] := List.getElem?_eq_getElem (by omega)
    rw [if_pos h1, if_pos h0, if_pos h1, rd46 l i _ hx]
    unfold laws_eqBox.f
    rw [if_pos rfl, if_pos rfl, eq_bytes _ (hd _ (List.mem_of_getElem? hx)) k hK]
    have hw : wrap64 (i + 1) = i + 1 := by unfold wrap64; omega
    simp [hw]) (by
    intro k
    simp only [laws_eqBoxS.l0]
    rw [if_neg (by omega)]) l.length k 0 (by omega) (by omega) (by omega) (by omega)

theorem sz_boxes (l : List S36) (hl : l.length ≤ 1048576) (hd : ∀ x ∈ l, x.f0.size ≤ 2 ^ 63 - 1 ∧ x.f2.length ≤ 2 ^ 63 - 1) : ∀ (d k : Nat) (i a : Int), 0 ≤ i → i ≤ (l.length : Int) → (l.length : Int) - i = d → d < k → 0 ≤ a → a ≤ 1048576 →
    ∃ t, laws_szBoxS.l0 k l a i = some t ∧ (0 ≤ t → ∀ j : Int, i ≤ j → j < (l.length : Int) → (rd_T36 l j).f2.length ≤ 1048576 ∧ (rd_T36 l j).f0.size ≤ 1048576) := by
  intro d
  induction d with
  | zero =>
    intro k i a h0 h1 hd' hk ha hb
    obtain ⟨k, rfl⟩ : ∃ m, k = m + 1 := ⟨k - 1, by omega⟩
    exact ⟨a, by simp only [laws_szBoxS.l0]; rw [if_neg (by omega)], fun _ j _ _ => by omega⟩
  | succ d ih =>
    intro k i a h0 h1 hd' hk ha hb
    obtain ⟨k, rfl⟩ : ∃ m, k = m + 1 := ⟨k - 1, by omega⟩
    have hx : l[i.toNat]? = some l[i.toNat] := List.getElem?_eq_getElem (by omega)
    obtain ⟨x, hx2⟩ : ∃ x, l[i.toNat]? = some x := ⟨_, hx⟩
    have hm := hd x (List.mem_of_getElem? hx2)
    have hr := rd45 l i x hx2
    have wi : wrap64 (i + 1) = i + 1 := by unfold wrap64; omega
    have w1 : wrap64 (a - (x.f0.size : Int)) = a - (x.f0.size : Int) := by unfold wrap64; omega
    simp only [laws_szBoxS.l0]
    rw [if_pos (by omega), if_pos h0, hr]
    unfold laws_szBox.f laws_szByteS.f
    rw [w1, wi]
    by_cases c1 : a - (x.f0.size : Int) < 0
    · rw [if_pos c1]
      exact ⟨-1, by simp, fun h => by omega⟩
    · rw [if_neg c1]
      have w2 : wrap64 (a - (x.f0.size : Int) - (x.f2.length : Int)) = a - (x.f0.size : Int) - (x.f2.length : Int) := by unfold wrap64; omega
      rw [w2]
      by_cases c2 : a - (x.f0.size : Int) - (x.f2.length : Int) < 0
      · rw [if_pos c2]
        exact ⟨-1, by simp, fun h => by omega⟩
      · rw [if_neg c2]
        obtain ⟨t, ht, hj⟩ := ih k (i + 1) (a - (x.f0.size : Int) - (x.f2.length : Int)) (by omega) (by omega) (by omega) (by omega) (by omega) (by omega)
        refine ⟨t, by simp only [Option.bind_some, if_neg c2]; exact ht, fun h0t j hij hjl => ?_⟩
        by_cases e : j = i
        · subst e
          rw [hr]
          constructor <;> omega
        · exact hj h0t j (by omega) hjl

theorem sz_all (l : List S36) (hm : l.length ≤ 2 ^ 63 - 1) (hd : ∀ x ∈ l, x.f0.size ≤ 2 ^ 63 - 1 ∧ x.f2.length ≤ 2 ^ 63 - 1) (k : Nat) (hk : 1048577 ≤ k) :
    ∃ t, laws_szBoxS.f k l 1048576 = some t ∧ (0 ≤ t → l.length ≤ 1048576 ∧ ∀ x ∈ l, x.f2.length ≤ 1048576 ∧ x.f0.size ≤ 1048576) := by
  unfold laws_szBoxS.f
  have hw : wrap64 (1048576 - (l.length : Int)) = 1048576 - (l.length : Int) := by unfold wrap64; omega
  rw [hw]
  by_cases c : 1048576 - (l.length : Int) < 0
  · rw [if_pos c]
    exact ⟨-1, rfl, fun h => by omega⟩
  · rw [if_neg c]
    obtain ⟨t, ht, hj⟩ := sz_boxes l (by omega) hd l.length k 0 (1048576 - (l.length : Int)) (by omega) (by omega) (by omega) (by omega) (by omega) (by omega)
    refine ⟨t, ht, fun h => ⟨by omega, fun x hx => ?_⟩⟩
    obtain ⟨n, hn⟩ := List.getElem?_of_mem hx
    have hlt : n < l.length := (List.getElem?_eq_some_iff.1 hn).1
    have := hj h (n : Int) (by omega) (by omega)
    rw [rd45 l n x (by simpa using hn)] at this
    exact this

/-- The first of n boxes from i on of a depth and a kind; -1: none. -/
def scan (l : List S34) (d : Int) (q : List UInt8) : Nat → Int → Int
  | 0, _ => -1
  | n + 1, i => if (rd_T34 l i).f1 = d ∧ (rd_T34 l i).f0.toList = q then i else scan l d q n (i + 1)
/-- The first of n boxes from i on that is no deeper; else the end. -/
def stop (l : List S34) (d : Int) : Nat → Int → Int
  | 0, i => i
  | n + 1, i => if (rd_T34 l i).f1 ≤ d then i else stop l d n (i + 1)
/-- A search by parts of a path. -/
def fb (l : List S34) : List (List UInt8) → Int → Int → Int → Int
  | [], _, a, _ => a
  | q :: qs, d, a, b =>
    if scan l d q (b - (a + 1)).toNat (a + 1) < 0 then -1
    else fb l qs (d + 1) (scan l d q (b - (a + 1)).toNat (a + 1)) (stop l d ((l.length : Int) - (scan l d q (b - (a + 1)).toNat (a + 1) + 1)).toNat (scan l d q (b - (a + 1)).toNat (a + 1) + 1))

theorem scan_range (l : List S34) (d : Int) (q : List UInt8) : ∀ (n : Nat) (i : Int), 0 ≤ i → scan l d q n i = -1 ∨ (i ≤ scan l d q n i ∧ scan l d q n i < i + n ∧ (rd_T34 l (scan l d q n i)).f1 = d ∧ (rd_T34 l (scan l d q n i)).f0.toList = q) := by
  intro n
  induction n with
  | zero => intro i h; exact Or.inl rfl
  | succ n ih =>
    intro i h
    rw [scan]
    by_cases c : (rd_T34 l i).f1 = d ∧ (rd_T34 l i).f0.toList = q
    · rw [if_pos c]; exact Or.inr ⟨by omega, by omega, c.1, c.2⟩
    · rw [if_neg c]
      rcases ih (i + 1) (by omega) with h1 | h1
      · exact Or.inl h1
      · exact Or.inr ⟨by omega, by omega, h1.2.2⟩
theorem stop_range (l : List S34) (d : Int) : ∀ (n : Nat) (i : Int), i ≤ stop l d n i ∧ stop l d n i ≤ i + n ∧ (stop l d n i = i + n ∨ (rd_T34 l (stop l d n i)).f1 ≤ d) := by
  intro n
  induction n with
  | zero => intro i; simp [stop]
  | succ n ih =>
    intro i
    rw [stop]
    by_cases c : (rd_T34 l i).f1 ≤ d
    · rw [if_pos c]; exact ⟨by omega, by omega, Or.inr c⟩
    · rw [if_neg c]
      obtain ⟨h1, h2, h3⟩ := ih (i + 1)
      exact ⟨by omega, by omega, by rcases h3 with h3 | h3; exact Or.inl (by omega); exact Or.inr h3⟩
/-- Where a box no deeper stands at the end of a stretch, what is behind doesn't count. -/
theorem stop_cut (l : List S34) (d : Int) (m : Nat) : ∀ (n : Nat) (i : Int), (m = 0 ∨ (rd_T34 l (i + n)).f1 ≤ d) → stop l d (n + m) i = stop l d n i := by
  intro n
  induction n with
  | zero =>
    intro i h
    rcases h with rfl | h
    · rfl
    · cases m with
      | zero => rfl
      | succ m =>
        rw [show 0 + (m + 1) = m + 1 by omega]
        simp only [stop]
        rw [if_pos (by simpa using h)]
  | succ n ih =>
    intro i h
    rw [show n + 1 + m = (n + m) + 1 by omega, stop, stop]
    by_cases c : (rd_T34 l i).f1 ≤ d
    · rw [if_pos c, if_pos c]
    · rw [if_neg c, if_neg c]
      exact ih (i + 1) (by rcases h with h | h; exact Or.inl h; exact Or.inr (by rw [show i + 1 + (n : Int) = i + ((n + 1 : Nat) : Int) by omega]; exact h))

theorem w1 {i : Int} (h0 : -1 ≤ i) (h : i ≤ 4294967296) : wrap64 (i + 1) = i + 1 := by unfold wrap64; omega

/-- The program's search in a cut of the list. -/
theorem impl_scan (l : List S34) (hl : l.length ≤ 200) (d : Int) (q : ByteArray) (a b : Int) (ha : 0 ≤ a) (hab : a ≤ b) (hb : b ≤ (l.length : Int)) : ∀ (n : Nat) (i : Int), 0 ≤ i → i + n = b - a →
    Ev (fun k => impl_Box.l0 k ((l.take b.toNat).drop a.toNat) (impl_FindBox_1.g d q) (b - a) i) (if scan l d q.toList n (a + i) < 0 then -1 else scan l d q.toList n (a + i) - a) := by
  intro n
  have hlen : (((l.take b.toNat).drop a.toNat).length : Int) = b - a := by
    rw [List.length_drop, List.length_take]
    omega
  induction n with
  | zero =>
    intro i h0 h
    refine Ev.step (f := fun _ => some (-1)) (fun k => ?_) (Ev.now _)
    rw [impl_Box.l0, if_neg (by omega)]
  | succ n ih =>
    intro i h0 h
    have hrd : rd_T34 ((l.take b.toNat).drop a.toNat) i = rd_T34 l (a + i) := by
      unfold rd_T34
      rw [List.getD_eq_getElem?_getD, List.getD_eq_getElem?_getD, List.getElem?_drop, List.getElem?_take, if_pos (by omega), show a.toNat + i.toNat = (a + i).toNat by omega]
    have hs : ∀ k, impl_Box.l0 (k + 1) ((l.take b.toNat).drop a.toNat) (impl_FindBox_1.g d q) (b - a) i =
        if (rd_T34 l (a + i)).f1 = d ∧ (rd_T34 l (a + i)).f0.toList = q.toList then some i else impl_Box.l0 k ((l.take b.toNat).drop a.toNat) (impl_FindBox_1.g d q) (b - a) (i + 1) := by
      intro k
      rw [impl_Box.l0, if_pos (by omega), if_pos h0, if_pos (by omega), hrd]
      unfold GB.f impl_FindBox_1.g
      simp only [Option.bind_some]
      rw [w1 (by omega) (by omega)]
      by_cases c1 : (rd_T34 l (a + i)).f1 = d
      · rw [if_pos c1]
        by_cases c2 : (rd_T34 l (a + i)).f0.toList = q.toList
        · rw [if_pos (by simpa using c2), if_pos ⟨c1, c2⟩]
        · rw [if_neg (by simpa using c2), if_neg (fun h => c2 h.2)]
      · rw [if_neg c1, if_neg (by simp), if_neg (fun h => c1 h.1)]
    rw [scan]
    by_cases c : (rd_T34 l (a + i)).f1 = d ∧ (rd_T34 l (a + i)).f0.toList = q.toList
    · rw [if_pos c, if_neg (by omega)]
      refine Ev.step (f := fun _ => some i) (fun k => ?_) ?_
      · rw [hs, if_pos c]
      · rw [show a + i - a = i by omega]
        exact Ev.now _
    · rw [if_neg c]
      refine Ev.step (fun k => ?_) (by rw [show a + i + 1 = a + (i + 1) by omega]; exact ih (i + 1) (by omega) (by omega))
      rw [hs, if_neg c]

theorem impl_stop (l : List S34) (hl : l.length ≤ 200) (a : Int) (ha : 0 ≤ a) (hb : a < (l.length : Int)) : ∀ (n : Nat) (i : Int), 0 ≤ i → i + n = (l.length : Int) → Ev (fun k => impl_endOf.l0 k l a i) (stop l (rd_T34 l a).f1 n i) := by
  intro n
  induction n with
  | zero =>
    intro i h0 h
    refine Ev.step (f := fun _ => some i) (fun k => ?_) (Ev.now _)
    rw [impl_endOf.l0, if_neg (by omega)]
  | succ n ih =>
    intro i h0 h
    have hs : ∀ k, impl_endOf.l0 (k + 1) l a i = if (rd_T34 l i).f1 ≤ (rd_T34 l a).f1 then some i else impl_endOf.l0 k l a (i + 1) := by
      intro k
      rw [impl_endOf.l0, if_pos (by omega), if_pos h0, if_pos ha, if_pos hb, w1 (by omega) (by omega)]
      by_cases c : (rd_T34 l i).f1 ≤ (rd_T34 l a).f1
      · rw [if_pos c, if_neg (by omega)]
      · rw [if_neg c, if_pos (by omega)]
    rw [stop]
    by_cases c : (rd_T34 l i).f1 ≤ (rd_T34 l a).f1
    · rw [if_pos c]
      refine Ev.step (f := fun _ => some i) (fun k => ?_) (Ev.now _)
      rw [hs, if_pos c]
    · rw [if_neg c]
      refine Ev.step (fun k => ?_) (ih (i + 1) (by omega) (by omega))
      rw [hs, if_neg c]

/-- The program's loop over the parts. -/
theorem impl_all (l : List S34) (hl : l.length ≤ 200) (ps : List ByteArray) (hp : ps.length ≤ 4294967295) : ∀ (n : Nat) (j a b : Int), 0 ≤ j → j + n = (ps.length : Int) → -1 ≤ a → a + 1 ≤ b → b ≤ (l.length : Int) →
    Ev (fun k => impl_FindBox.l0 k l a b ps (ps.length : Int) j) (fb l ((ps.drop j.toNat).map (·.toList)) j a b) := by
  intro n
  induction n with
  | zero =>
    intro j a b h0 h ha hab hb
    rw [List.drop_of_length_le (by omega), show fb l (([] : List ByteArray).map (·.toList)) j a b = a from rfl]
    refine Ev.step (f := fun _ => some a) (fun k => ?_) (Ev.now _)
    rw [impl_FindBox.l0, if_neg (by omega)]
  | succ n ih =>
    intro j a b h0 h ha hab hb
    have hj : j.toNat < ps.length := by omega
    have hd : rdOf ByteArray.empty ps j = ps[j.toNat] := by
      unfold rdOf
      rw [List.getD_eq_getElem?_getD, List.getElem?_eq_getElem hj]
      rfl
    rw [List.drop_eq_getElem_cons hj, List.map_cons, ← hd]
    generalize rdOf ByteArray.empty ps j = q at hd
    rw [fb]
    have hsc := impl_scan l hl j q (a + 1) b (by omega) hab hb (b - (a + 1)).toNat 0 (by omega) (by omega)
    have hr := scan_range l j q.toList (b - (a + 1)).toNat (a + 1) (by omega)
    rw [show a + 1 + 0 = a + 1 by omega] at hsc
    generalize scan l j q.toList (b - (a + 1)).toNat (a + 1) = i at hsc hr ⊢
    have hlen : (((l.take b.toNat).drop (a + 1).toNat).length : Int) = b - (a + 1) := by
      rw [List.length_drop, List.length_take]
      omega
    have hst : ∀ k, impl_FindBox.l0 (k + 1) l a b ps (ps.length : Int) j =
        (impl_Box.l0 k ((l.take b.toNat).drop (a + 1).toNat) (impl_FindBox_1.g j q) (b - (a + 1)) 0).bind fun t => if t < 0 then some (-1) else
          (impl_endOf.f k l (wrap64 (a + wrap64 (1 + t)))).bind fun e => impl_FindBox.l0 k l (wrap64 (a + wrap64 (1 + t))) e ps (ps.length : Int) (j + 1) := by
      intro k
      have hq : rdOf ByteArray.empty ps j = q := by rw [hd]; unfold rdOf; rw [List.getD_eq_getElem?_getD, List.getElem?_eq_getElem hj]; rfl
      rw [impl_FindBox.l0, if_pos (by omega), if_pos h0, if_pos (by omega), w1 ha (by omega), if_pos (by omega), if_pos hab, if_pos hb, w1 (by omega) (by omega)]
      unfold impl_Box.f
      rw [hlen, hq]
    rcases hr with hr | ⟨r1, r2, r3, r4⟩
    · rw [if_pos (by omega)] at hsc ⊢
      refine Ev.step hst (Ev.bind hsc ?_)
      exact Ev.congr (fun k => by rw [if_pos (by omega)]) (Ev.now _)
    · rw [if_neg (by omega)] at hsc ⊢
      refine Ev.step hst (Ev.bind hsc ?_)
      have e1 : wrap64 (a + wrap64 (1 + (i - (a + 1)))) = i := by unfold wrap64; omega
      refine Ev.congr (f := fun k => (impl_endOf.f k l i).bind fun e => impl_FindBox.l0 k l i e ps (ps.length : Int) (j + 1)) (fun k => by rw [if_neg (by omega), e1]) ?_
      have hsp := impl_stop l hl i (by omega) (by omega) ((l.length : Int) - (i + 1)).toNat (i + 1) (by omega) (by omega)
      rw [r3] at hsp
      have hsr := stop_range l j ((l.length : Int) - (i + 1)).toNat (i + 1)
      have hj2 : ps.drop (j.toNat + 1) = ps.drop (j + 1).toNat := by rw [show (j + 1).toNat = j.toNat + 1 by omega]
      rw [hj2]
      refine Ev.bind (Ev.congr (fun k => ?_) hsp) (ih (j + 1) i _ (by omega) (by omega) (by omega) hsr.1 (by omega))
      unfold impl_endOf.f
      rw [w1 (by omega) (by omega)]

/-- The reference's search. -/
theorem spec_scan (l : List S34) (hl : l.length ≤ 200) (p : ByteArray) (k0 : Int) (hk0 : 0 ≤ k0) (hk1 : k0 + 4 ≤ (p.size : Int)) (hp : p.size ≤ 1048576) (d b : Int) (hb : b ≤ (l.length : Int)) (q : List UInt8) (hq : (p.extract k0.toNat (k0 + 4).toNat).toList = q) (r : Int) : ∀ (n : Nat) (i : Int), 0 ≤ i → i + n = b →
    Ev (fun k => spec_FindBox.j4 k l p b (scan l d q n i) k0 d) r → Ev (fun k => spec_FindBox.l1 k l p b (-1) k0 d i) r := by
  intro n
  have w4 : wrap64 (k0 + 4) = k0 + 4 := by unfold wrap64; omega
  induction n with
  | zero =>
    intro i h0 h hr
    refine Ev.step (fun k => ?_) hr
    rw [spec_FindBox.l1, if_neg (by omega)]
    rfl
  | succ n ih =>
    intro i h0 h hr
    have hs : ∀ k, spec_FindBox.l1 (k + 1) l p b (-1) k0 d i = if (rd_T34 l i).f1 = d ∧ (rd_T34 l i).f0.toList = q then spec_FindBox.j4 k l p b i k0 d else spec_FindBox.l1 k l p b (-1) k0 d (i + 1) := by
      intro k
      rw [spec_FindBox.l1, if_pos (by omega), if_pos h0, if_pos (by omega), w4, w1 (by omega) (by omega), hq]
      by_cases c1 : (rd_T34 l i).f1 = d
      · rw [if_pos c1, if_pos hk0, if_pos (by omega), if_pos hk1]
        by_cases c2 : (rd_T34 l i).f0.toList = q
        · rw [if_pos c2, if_pos ⟨c1, c2⟩]
        · rw [if_neg c2, if_neg (fun h => c2 h.2)]
      · rw [if_neg c1, if_neg (fun h => c1 h.1)]
    rw [scan] at hr
    by_cases c : (rd_T34 l i).f1 = d ∧ (rd_T34 l i).f0.toList = q
    · rw [if_pos c] at hr
      refine Ev.step (fun k => ?_) hr
      rw [hs, if_pos c]
    · rw [if_neg c] at hr
      refine Ev.step (fun k => ?_) (ih (i + 1) (by omega) (by omega) hr)
      rw [hs, if_neg c]

theorem spec_stop (l : List S34) (hl : l.length ≤ 200) (p : ByteArray) (k0 a d f : Int) (b : Int) (hb : b ≤ (l.length : Int)) (r : Int) : ∀ (n : Nat) (i : Int), 0 ≤ i → i + n = b →
    Ev (fun k => spec_FindBox.l0 k l p f (stop l d n i) a (wrap64 (k0 + 5))) r → Ev (fun k => spec_FindBox.l2 k l p f b a k0 d i) r := by
  intro n
  induction n with
  | zero =>
    intro i h0 h hr
    refine Ev.step (fun k => ?_) hr
    rw [spec_FindBox.l2, if_neg (by omega), show b = i by omega]
    rfl
  | succ n ih =>
    intro i h0 h hr
    rw [stop] at hr
    by_cases c : (rd_T34 l i).f1 ≤ d
    · rw [if_pos c] at hr
      refine Ev.step (f := fun k => spec_FindBox.l2 k l p f i a k0 d (i + 1)) (fun k => ?_) (Ev.step (fun k => ?_) hr)
      · rw [spec_FindBox.l2, if_pos (by omega), if_pos h0, if_pos (by omega), if_pos c, w1 (by omega) (by omega)]
      · rw [spec_FindBox.l2, if_neg (by omega)]
    · rw [if_neg c] at hr
      refine Ev.step (fun k => ?_) (ih (i + 1) (by omega) (by omega) hr)
      rw [spec_FindBox.l2, if_pos (by omega), if_pos h0, if_pos (by omega), if_neg c, w1 (by omega) (by omega)]

/-- A text's parts between its strokes. -/
def splitL : List UInt8 → List (List UInt8)
  | [] => [[]]
  | b :: s => if b = 47 then [] :: splitL s else match splitL s with | [] => [[b]] | q :: qs => (b :: q) :: qs
theorem splitL_ne : ∀ s, splitL s ≠ []
  | [] => by simp [splitL]
  | b :: s => by
    rw [splitL]
    by_cases c : b = 47
    · rw [if_pos c]; simp
    · rw [if_neg c]
      split <;> simp
theorem splitL_first (a s : List UInt8) (ha : ∀ b ∈ a, b ≠ 47) : splitL (a ++ 47 :: s) = a :: splitL s := by
  induction a with
  | nil => rw [List.nil_append, splitL, if_pos rfl]
  | cons b a ih =>
    rw [List.cons_append, splitL, if_neg (ha b (List.mem_cons_self ..)), ih (fun c hc => ha c (List.mem_cons_of_mem _ hc))]
theorem splitL_none (a : List UInt8) (ha : ∀ b ∈ a, b ≠ 47) : splitL a = [a] := by
  induction a with
  | nil => rfl
  | cons b a ih =>
    rw [splitL, if_neg (ha b (List.mem_cons_self ..)), ih (fun c hc => ha c (List.mem_cons_of_mem _ hc))]
/-- A text is its first part alone, or its first part, a stroke, and the rest. -/
theorem splitL_cases (s : List UInt8) : (∀ b ∈ s, b ≠ 47) ∨ ∃ a t, s = a ++ 47 :: t ∧ ∀ b ∈ a, b ≠ 47 := by
  induction s with
  | nil => exact Or.inl (by simp)
  | cons b s ih =>
    by_cases c : b = 47
    · exact Or.inr ⟨[], s, by rw [c]; rfl, by simp⟩
    · rcases ih with h | ⟨a, t, h, ha⟩
      · exact Or.inl (fun x hx => by rcases List.mem_cons.1 hx with rfl | hx; exact c; exact h x hx)
      · exact Or.inr ⟨b :: a, t, by rw [h]; rfl, fun x hx => by rcases List.mem_cons.1 hx with rfl | hx; exact c; exact ha x hx⟩

/-- All kinds are of four bytes, none of them a stroke. -/
def Kinds (l : List S34) : Prop := ∀ i : Int, 0 ≤ i → i < (l.length : Int) → (rd_T34 l i).f0.size = 4 ∧ ∀ b ∈ (rd_T34 l i).f0.toList, b ≠ 47

theorem scan_no (l : List S34) (d : Int) (q : List UInt8) (n : Nat) (i : Int) (h0 : 0 ≤ i) (h : i + n ≤ (l.length : Int)) (hq : ∀ j : Int, 0 ≤ j → j < (l.length : Int) → (rd_T34 l j).f0.toList ≠ q) : scan l d q n i = -1 := by
  rcases scan_range l d q n i h0 with h1 | ⟨r1, r2, r3, r4⟩
  · exact h1
  · exact absurd r4 (hq _ (by omega) (by omega))
theorem kind_len (l : List S34) (hk : Kinds l) (q : List UInt8) (hq : q.length ≠ 4) (j : Int) (h0 : 0 ≤ j) (h1 : j < (l.length : Int)) : (rd_T34 l j).f0.toList ≠ q := by
  intro h
  have := (hk j h0 h1).1
  rw [ByteArray.toList_eq] at h
  apply hq
  rw [← h, Array.length_toList]
  exact this
theorem kind_free (l : List S34) (hk : Kinds l) (q : List UInt8) (hq : (47 : UInt8) ∈ q) (j : Int) (h0 : 0 ≤ j) (h1 : j < (l.length : Int)) : (rd_T34 l j).f0.toList ≠ q := by
  intro h
  exact (hk j h0 h1).2 47 (by rw [h]; exact hq) rfl

/-- A path whose length is wrong leads nowhere. -/
theorem fb_wrong (l : List S34) (hk : Kinds l) : ∀ (n : Nat) (s : List UInt8), s.length ≤ n → s.length % 5 ≠ 4 → ∀ (d a b : Int), -1 ≤ a → a + 1 ≤ b → b ≤ (l.length : Int) → fb l (splitL s) d a b = -1 := by
  intro n
  induction n with
  | zero =>
    intro s hs h5 d a b ha hab hb
    have : s = [] := List.eq_nil_of_length_eq_zero (by omega)
    subst this
    rw [splitL, fb, scan_no l d [] _ _ (by omega) (by omega) (kind_len l hk [] (by simp)), if_pos (by omega)]
  | succ n ih =>
    intro s hs h5 d a b ha hab hb
    rcases splitL_cases s with h | ⟨q, t, rfl, hq⟩
    · rw [splitL_none s h, fb, scan_no l d s _ _ (by omega) (by omega) (kind_len l hk s (by omega)), if_pos (by omega)]
    · rw [splitL_first q t hq, fb]
      by_cases c : q.length = 4
      · have hr := scan_range l d q (b - (a + 1)).toNat (a + 1) (by omega)
        generalize scan l d q (b - (a + 1)).toNat (a + 1) = i at hr ⊢
        rcases hr with rfl | ⟨r1, r2, r3, r4⟩
        · rw [if_pos (by omega)]
        · rw [if_neg (by omega)]
          have hsr := stop_range l d ((l.length : Int) - (i + 1)).toNat (i + 1)
          simp only [List.length_append, List.length_cons] at hs h5
          exact ih t (by omega) (by omega) (d + 1) i _ (by omega) hsr.1 (by omega)
      · rw [scan_no l d q _ _ (by omega) (by omega) (kind_len l hk q c), if_pos (by omega)]

theorem ext_list (p : ByteArray) (a b : Nat) : (p.extract a b).toList = (p.data.toList.drop a).take (b - a) := by
  rw [ByteArray.toList_eq, ByteArray.data_extract, Array.toList_extract, List.extract_eq_take_drop]

theorem bt_drop (p : ByteArray) (a j : Nat) (h : a + j < p.size) : ∃ x, (p.data.toList.drop a)[j]? = some x ∧ bt p ((a + j : Nat) : Int) = (x.toNat : Int) := by
  have h2 : a + j < p.data.toList.length := by rw [Array.length_toList]; exact h
  refine ⟨p.data.toList[a + j], by rw [List.getElem?_drop, List.getElem?_eq_getElem h2], ?_⟩
  unfold bt
  rw [dif_pos (by rw [Int.toNat_natCast]; exact h)]
  simp only [Int.toNat_natCast]
  rfl

theorem byte_ne (x : UInt8) (h : x ≠ 47) : ((x.toNat : Int) != 47) = true := by
  simp only [bne_iff_ne]
  intro e
  apply h
  apply UInt8.toNat_inj.1
  show x.toNat = 47
  omega

/-- Behind a box that was found, the reference goes on behind it. -/
theorem spec_after (l : List S34) (hl : l.length ≤ 200) (p : ByteArray) (j : Nat) (hj : j ≤ 1048576) (d i b : Int) (hi : 0 ≤ i) (hib : i < b) (hb : b ≤ (l.length : Int)) (r : Int)
    (h : Ev (fun k => spec_FindBox.l0 k l p (i + 1) (stop l d (b - (i + 1)).toNat (i + 1)) i ((j + 5 : Nat) : Int)) r) : Ev (fun k => spec_FindBox.j4 k l p b i (j : Int) d) r := by
  have w5 : wrap64 ((j : Int) + 5) = ((j + 5 : Nat) : Int) := by unfold wrap64; omega
  refine Ev.step (f := fun k => spec_FindBox.l2 k l p (i + 1) b i (j : Int) d (i + 1)) (fun k => ?_) (spec_stop l hl p j i d (i + 1) b hb r (b - (i + 1)).toNat (i + 1) (by omega) (by omega) (by rw [w5]; exact h))
  rw [spec_FindBox.j4, if_neg (by omega), w1 (by omega) (by omega)]

/-- A part that is not followed by a stroke ends the reference's search. -/
theorem spec_bad (l : List S34) (p : ByteArray) (hp : p.size ≤ 1048576) (j : Nat) (f a b : Int) (hj : j + 5 < p.size) (hne : (bt p ((j + 4 : Nat) : Int) != 47) = true) : Ev (fun k => spec_FindBox.l0 k l p f b a ((j + 5 : Nat) : Int)) (-1) := by
  have wj : wrap64 (((j + 5 : Nat) : Int) - 1) = ((j + 4 : Nat) : Int) := by unfold wrap64; omega
  refine Ev.step (f := fun k => spec_FindBox.j2 k l p f b ((j + 5 : Nat) : Int) true) (fun k => ?_) (Ev.step (f := fun _ => some (-1)) (fun k => ?_) (Ev.now _))
  · rw [spec_FindBox.l0, if_pos (by omega), if_pos (by omega), wj, if_pos (by omega), if_pos (by omega), hne]
  · rw [spec_FindBox.j2, if_pos rfl]

theorem j4_no (l : List S34) (p : ByteArray) (j d b : Int) : Ev (fun k => spec_FindBox.j4 k l p b (-1) j d) (-1) := by
  refine Ev.step (f := fun _ => some (-1)) (fun k => ?_) (Ev.now _)
  rw [spec_FindBox.j4, if_pos (by omega)]

/-- One round of the reference. -/
theorem spec_round (l : List S34) (hl : l.length ≤ 200) (hk : Kinds l) (p : ByteArray) (hp : p.size ≤ 1048576) (hp5 : p.size % 5 = 4) (j : Nat) (f a b : Int) (hj : j + 4 ≤ p.size) (h5 : j % 5 = 0) (hb47 : 0 < j → bt p ((j - 1 : Nat) : Int) = 47) (hf : f = a + 1)
    (ha : -1 ≤ a) (hab : a + 1 ≤ b) (hb : b ≤ (l.length : Int)) (hdeep : b = (l.length : Int) ∨ (rd_T34 l b).f1 < ((j / 5 : Nat) : Int))
    (next : ∀ (i e : Int) (q t : List UInt8), -1 ≤ i → i + 1 ≤ e → e ≤ (l.length : Int) → (e = (l.length : Int) ∨ (rd_T34 l e).f1 ≤ ((j / 5 : Nat) : Int)) → q.length = 4 → p.data.toList.drop j = q ++ 47 :: t →
      Ev (fun k => spec_FindBox.l0 k l p (i + 1) e i ((j + 5 : Nat) : Int)) (fb l (splitL t) (((j / 5 : Nat) : Int) + 1) i e)) :
    Ev (fun k => spec_FindBox.l0 k l p f b a (j : Int)) (fb l (splitL (p.data.toList.drop j)) ((j / 5 : Nat) : Int) a b) := by
  subst hf
  have hS : (p.data.toList.drop j).length = p.size - j := by rw [List.length_drop, Array.length_toList]; rfl
  have hd : wrap64 (Int.tdiv (j : Int) 5) = ((j / 5 : Nat) : Int) := by
    rw [Int.tdiv_eq_ediv_of_nonneg (by omega)]
    unfold wrap64
    omega
  have hex : (p.extract ((j : Int)).toNat ((j : Int) + 4).toNat).toList = (p.data.toList.drop j).take 4 := by
    rw [ext_list, Int.toNat_natCast, show ((j : Int) + 4).toNat - j = 4 by omega]
  have go : Ev (fun k => spec_FindBox.j4 k l p b (scan l ((j / 5 : Nat) : Int) ((p.data.toList.drop j).take 4) (b - (a + 1)).toNat (a + 1)) (j : Int) ((j / 5 : Nat) : Int)) (fb l (splitL (p.data.toList.drop j)) ((j / 5 : Nat) : Int) a b) →
      Ev (fun k => spec_FindBox.l0 k l p (a + 1) b a (j : Int)) (fb l (splitL (p.data.toList.drop j)) ((j / 5 : Nat) : Int) a b) := by
    intro h
    refine Ev.step (f := fun k => spec_FindBox.j2 k l p (a + 1) b (j : Int) false) (fun k => ?_) (Ev.step (fun k => ?_) (spec_scan l hl p j (by omega) (by omega) hp _ b hb _ hex _ (b - (a + 1)).toNat (a + 1) (by omega) (by omega) h))
    · rw [spec_FindBox.l0, if_pos (by omega)]
      by_cases c : 0 < j
      · have wj : wrap64 ((j : Int) - 1) = ((j - 1 : Nat) : Int) := by unfold wrap64; omega
        rw [if_pos (by omega), wj, if_pos (by omega), if_pos (by omega), hb47 c]
        rfl
      · rw [if_neg (by omega)]
    · rw [spec_FindBox.j2, if_neg (by simp), hd]
  apply go
  clear go
  have hbt : j + 5 ≤ p.size → ∀ x, (p.data.toList.drop j)[4]? = some x → x ≠ 47 → (bt p ((j + 4 : Nat) : Int) != 47) = true := by
    intro h x hx hne
    obtain ⟨y, hy, e⟩ := bt_drop p j 4 (by omega)
    rw [hy] at hx
    obtain rfl := Option.some.inj hx
    rw [e]
    exact byte_ne y hne
  generalize hSd : p.data.toList.drop j = S at *
  have h4 : (S.take 4).length = 4 := by rw [List.length_take]; omega
  have hr := scan_range l ((j / 5 : Nat) : Int) (S.take 4) (b - (a + 1)).toNat (a + 1) (by omega)
  rcases splitL_cases S with hno | ⟨q, t, hqt, hq⟩
  · rw [splitL_none S hno, fb]
    by_cases c4 : S.length = 4
    · rw [List.take_of_length_le (by omega)] at hr ⊢
      generalize scan l ((j / 5 : Nat) : Int) S (b - (a + 1)).toNat (a + 1) = i at hr ⊢
      rcases hr with rfl | ⟨r1, r2, r3, r4⟩
      · rw [if_pos (by omega)]
        exact j4_no ..
      · rw [if_neg (by omega), fb]
        refine spec_after l hl p j (by omega) _ i b (by omega) (by omega) hb i ?_
        refine Ev.step (f := fun _ => some i) (fun k => ?_) (Ev.now _)
        rw [spec_FindBox.l0, if_neg (by omega)]
    · rw [scan_no l _ S _ _ (by omega) (by omega) (kind_len l hk S c4), if_pos (by omega)]
      generalize scan l ((j / 5 : Nat) : Int) (S.take 4) (b - (a + 1)).toNat (a + 1) = i at hr ⊢
      rcases hr with rfl | ⟨r1, r2, r3, r4⟩
      · exact j4_no ..
      · refine spec_after l hl p j (by omega) _ i b (by omega) (by omega) hb (-1) (spec_bad l p hp j _ _ _ (by omega) ?_)
        have h5l : 4 < S.length := by omega
        exact hbt (by omega) S[4] (List.getElem?_eq_getElem h5l) (hno _ (List.getElem_mem h5l))
  · have hql : S.length = q.length + (t.length + 1) := by rw [hqt, List.length_append, List.length_cons]
    rw [hqt, splitL_first q t hq, fb, ← hqt]
    by_cases c4 : q.length = 4
    · have hq4 : S.take 4 = q := by rw [hqt, ← c4, List.take_left]
      rw [hq4] at hr ⊢
      generalize scan l ((j / 5 : Nat) : Int) q (b - (a + 1)).toNat (a + 1) = i at hr ⊢
      rcases hr with rfl | ⟨r1, r2, r3, r4⟩
      · rw [if_pos (by omega)]
        exact j4_no ..
      · rw [if_neg (by omega)]
        refine spec_after l hl p j (by omega) _ i b (by omega) (by omega) hb _ ?_
        have hcut := stop_cut l ((j / 5 : Nat) : Int) ((l.length : Int) - b).toNat (b - (i + 1)).toNat (i + 1) (by
          rcases hdeep with h | h
          · left; omega
          · right
            rw [show i + 1 + ((b - (i + 1)).toNat : Int) = b by omega]
            omega)
        rw [show (b - (i + 1)).toNat + ((l.length : Int) - b).toNat = ((l.length : Int) - (i + 1)).toNat by omega] at hcut
        rw [← hcut]
        have hsr := stop_range l ((j / 5 : Nat) : Int) ((l.length : Int) - (i + 1)).toNat (i + 1)
        exact next i _ q t (by omega) hsr.1 (by omega) (by rcases hsr.2.2 with h | h; exact Or.inl (by omega); exact Or.inr h) c4 hqt
    · rw [scan_no l _ q _ _ (by omega) (by omega) (kind_len l hk q c4), if_pos (by omega)]
      by_cases c5 : q.length < 4
      · have hin : (47 : UInt8) ∈ S.take 4 := by
          rw [hqt, List.take_append, List.take_of_length_le (by omega)]
          refine List.mem_append_right _ ?_
          rw [show 4 - q.length = (3 - q.length) + 1 by omega, List.take_succ_cons]
          exact List.mem_cons_self ..
        rw [scan_no l _ (S.take 4) _ _ (by omega) (by omega) (kind_free l hk _ hin)]
        exact j4_no ..
      · generalize scan l ((j / 5 : Nat) : Int) (S.take 4) (b - (a + 1)).toNat (a + 1) = i at hr ⊢
        rcases hr with rfl | ⟨r1, r2, r3, r4⟩
        · exact j4_no ..
        · refine spec_after l hl p j (by omega) _ i b (by omega) (by omega) hb (-1) (spec_bad l p hp j _ _ _ (by omega) ?_)
          have h5l : 4 < q.length := by omega
          refine hbt (by omega) q[4] ?_ (hq _ (List.getElem_mem h5l))
          rw [hqt, List.getElem?_append_left h5l, List.getElem?_eq_getElem h5l]

/-- The reference's loop over the path. -/
theorem spec_all (l : List S34) (hl : l.length ≤ 200) (hk : Kinds l) (p : ByteArray) (hp : p.size ≤ 1048576) (hp5 : p.size % 5 = 4) : ∀ (n : Nat) (j : Nat) (f a b : Int), j + 5 * n + 4 = p.size → j % 5 = 0 → (0 < j → bt p ((j - 1 : Nat) : Int) = 47) → f = a + 1 →
    -1 ≤ a → a + 1 ≤ b → b ≤ (l.length : Int) → (b = (l.length : Int) ∨ (rd_T34 l b).f1 < ((j / 5 : Nat) : Int)) →
    Ev (fun k => spec_FindBox.l0 k l p f b a (j : Int)) (fb l (splitL (p.data.toList.drop j)) ((j / 5 : Nat) : Int) a b) := by
  intro n
  induction n with
  | zero =>
    intro j f a b hj h5 hb47 hf ha hab hb hdeep
    refine spec_round l hl hk p hp hp5 j f a b (by omega) h5 hb47 hf ha hab hb hdeep (fun i e q t hi hie he hd hq hs => ?_)
    exfalso
    have h := congrArg List.length hs
    rw [List.length_drop, Array.length_toList, List.length_append, List.length_cons] at h
    have hz : p.data.size = p.size := rfl
    omega
  | succ n ih =>
    intro j f a b hj h5 hb47 hf ha hab hb hdeep
    refine spec_round l hl hk p hp hp5 j f a b (by omega) h5 hb47 hf ha hab hb hdeep (fun i e q t hi hie he hd hq hs => ?_)
    have ht : t = p.data.toList.drop (j + 5) := by
      have h := congrArg (List.drop 5) hs
      rw [List.drop_drop] at h
      rw [h, show 5 = q.length + 1 by omega, ← List.drop_drop, List.drop_left]
      rfl
    rw [ht]
    have h47 : bt p ((j + 5 - 1 : Nat) : Int) = 47 := by
      obtain ⟨y, hy, e2⟩ := bt_drop p j 4 (by omega)
      rw [show j + 5 - 1 = j + 4 by omega, e2]
      rw [hs, List.getElem?_append_right (by omega), show 4 - q.length = 0 by omega] at hy
      obtain rfl := Option.some.inj hy
      rfl
    have := ih (j + 5) (i + 1) i e (by omega) (by omega) (fun _ => h47) rfl hi hie he (by rcases hd with h | h; exact Or.inl h; exact Or.inr (by omega))
    rw [show ((j + 5) / 5 : Nat) = j / 5 + 1 by omega] at this
    rw [show ((j / 5 : Nat) : Int) + 1 = ((j / 5 + 1 : Nat) : Int) by omega]
    exact this

theorem index_stroke (a t : List UInt8) (ha : ∀ b ∈ a, b ≠ 47) : Lib.index (a ++ 47 :: t) [47] = (a.length : Int) := by
  rw [Lib.index_one]
  induction a with
  | nil => rfl
  | cons b a ih =>
    have hb : (b == 47) = false := by simpa using ha b (List.mem_cons_self ..)
    rw [List.cons_append, Lib.indexByte, hb, ih (fun c hc => ha c (List.mem_cons_of_mem _ hc)), if_neg (by simp), if_neg (by simp), List.length_cons]
    omega

theorem splitK_eq : ∀ (n : Nat) (s : List UInt8), s.length ≤ n → Lib.splitK [47] 0 (s.count 47) s = splitL s := by
  intro n
  induction n with
  | zero =>
    intro s hs
    have : s = [] := List.eq_nil_of_length_eq_zero (by omega)
    subst this
    rfl
  | succ n ih =>
    intro s hs
    rcases splitL_cases s with h | ⟨a, t, rfl, ha⟩
    · rw [splitL_none s h, List.count_eq_zero_of_not_mem (fun hm => h 47 hm rfl)]
      rfl
    · have hc : (a ++ 47 :: t).count 47 = t.count 47 + 1 := by
        rw [List.count_append, List.count_eq_zero_of_not_mem (fun hm => ha 47 hm rfl), List.count_cons_self]
        omega
      rw [hc, splitL_first a t ha, Lib.splitK, index_stroke a t ha, if_neg (by simp), Int.toNat_natCast, Nat.add_zero, List.take_left, show ([47] : List UInt8).length = 1 from rfl, ← List.drop_drop, List.drop_left]
      simp only [List.length_append, List.length_cons] at hs
      rw [List.drop_succ_cons, List.drop_zero, ih t (by omega)]

theorem split_some (p : ByteArray) (hp : p.size ≤ 1048576) : ∃ ps, strings_Split.f p (⟨#[47]⟩ : ByteArray) = some ps ∧ ps.map (·.toList) = splitL p.data.toList ∧ ps.length ≤ 1048577 := by
  have h1 : (⟨#[47]⟩ : ByteArray).size = 1 := rfl
  refine ⟨_, by unfold strings_Split.f; rw [if_pos ⟨by omega, by rw [h1]; omega⟩], ?_, ?_⟩
  · have hm : (fun s : ByteArray => s.toList) = fun s => s.data.toList := by funext s; exact ByteArray.toList_eq s
    rw [hm, Lib.splitB_data]
    have hc : Lib.countB p (⟨#[47]⟩ : ByteArray) = p.data.toList.count 47 := Lib.count_one 47 p.data.toList
    rw [hc]
    exact splitK_eq _ _ (Nat.le_refl _)
  · have h := Lib.splitB_length_le (⟨#[47]⟩ : ByteArray) 0 (Lib.countB p (⟨#[47]⟩ : ByteArray)) p
    have h2 := Lib.countB_le (⟨#[47]⟩ : ByteArray) (by rw [h1]; omega) p.size p (Nat.le_refl _)
    omega

theorem kinds_of (l : List S34) (h : ∀ j : Int, 0 ≤ j → j < (l.length : Int) → OkAt l j) : Kinds l := by
  intro i h0 h1
  obtain ⟨hs, hg, _⟩ := h i h0 h1
  refine ⟨hs, fun b hb => ?_⟩
  rw [ByteArray.toList_eq] at hb
  obtain ⟨j, hj, rfl⟩ := List.getElem_of_mem hb
  have hj4 : j < (rd_T34 l i).f0.size := by rw [Array.length_toList] at hj; exact hj
  have := hg (j : Int) (by omega) (by omega)
  unfold bt at this
  rw [dif_pos (by rw [Int.toNat_natCast]; exact hj4)] at this
  simp only [Int.toNat_natCast] at this
  intro e
  have e2 : ((rd_T34 l i).f0[j]'hj4).toNat = 47 := by
    have : (rd_T34 l i).f0[j]'hj4 = 47 := e
    rw [this]; rfl
  unfold Good at this
  rw [e2] at this
  omega

/-- Both find the same. -/
theorem find_eq (l : List S34) (p : ByteArray) (hp : p.size ≤ 1048576) : ∃ r, Ev (fun k => spec_FindBox.f k l p) r ∧ Ev (fun k => impl_FindBox.f k l p) r ∧
    (0 ≤ r → l.length ≤ 200 ∧ Kinds l ∧ p.size % 5 = 4 ∧ r = fb l (splitL p.data.toList) 0 (-1) (l.length : Int)) := by
  have hok : ∃ t, (∀ k, 500 ≤ k → spec_BoxesOk.f k l = some t ∧ impl_BoxesOk.f k l = some t) ∧ (t = true → l.length ≤ 200 ∧ ∀ j : Int, 0 ≤ j → j < (l.length : Int) → OkAt l j) := by
    obtain ⟨t, a, b, hg⟩ := boxes_eq l 500 (by omega)
    refine ⟨t, fun k hk => ⟨at_rounds (fun k => spec_BoxesOk.mono l k) hk a, at_rounds (fun k => impl_BoxesOk.mono l k) hk b⟩, hg⟩
  obtain ⟨t, hok, hg⟩ := hok
  have hs : Ev (fun k => spec_BoxesOk.f k l) t := ⟨500, fun k hk => (hok k hk).1⟩
  have hi : Ev (fun k => impl_BoxesOk.f k l) t := ⟨500, fun k hk => (hok k hk).2⟩
  cases t with
  | false =>
    refine ⟨-1, ?_, ?_, fun h => by omega⟩
    · unfold spec_FindBox.f
      refine Ev.bind hs (Ev.congr (fun k => by rw [if_neg (by simp)]) (Ev.step (f := fun _ => some (-1)) (fun k => ?_) (Ev.now _)))
      rw [spec_FindBox.j0, if_pos rfl]
    · unfold impl_FindBox.f
      refine Ev.bind hi (Ev.congr (fun k => by rw [if_neg (by simp)]) (Ev.now _))
  | true =>
    obtain ⟨hl, hall⟩ := hg rfl
    have hk := kinds_of l hall
    obtain ⟨ps, hps, hmap, hlen⟩ := split_some p hp
    refine ⟨fb l (splitL p.data.toList) 0 (-1) (l.length : Int), ?_, ?_, ?_⟩
    · unfold spec_FindBox.f
      refine Ev.bind hs (Ev.congr (fun k => by rw [if_pos rfl]) ?_)
      by_cases c : p.size % 5 = 4
      · have hb : (((p.size : Int) % 5) != 4) = false := by simp; omega
        rw [hb]
        have := spec_all l hl hk p hp c ((p.size - 4) / 5) 0 0 (-1) (l.length : Int) (by omega) (by omega) (fun h => by omega) (by omega) (by omega) (by omega) (by omega) (Or.inl rfl)
        rw [List.drop_zero] at this
        refine Ev.step (fun k => ?_) this
        rw [spec_FindBox.j0, if_neg (by simp)]
        rfl
      · have hb : (((p.size : Int) % 5) != 4) = true := by simp; omega
        rw [hb, fb_wrong l hk _ p.data.toList (Nat.le_refl _) (by rw [Array.length_toList]; exact c) 0 (-1) _ (by omega) (by omega) (by omega)]
        refine Ev.step (f := fun _ => some (-1)) (fun k => ?_) (Ev.now _)
        rw [spec_FindBox.j0, if_pos rfl]
    · unfold impl_FindBox.f
      refine Ev.bind hi (Ev.congr (fun k => by rw [if_pos rfl, hps, Option.bind_some]) ?_)
      have := impl_all l hl ps (by omega) ps.length 0 (-1) (l.length : Int) (by omega) (by omega) (by omega) (by omega) (by omega)
      rw [Int.toNat_zero, List.drop_zero, hmap] at this
      exact this
    · intro h
      refine ⟨hl, hk, ?_, rfl⟩
      by_cases c : p.size % 5 = 4
      · exact c
      · rw [fb_wrong l hk _ p.data.toList (Nat.le_refl _) (by rw [Array.length_toList]; exact c) 0 (-1) _ (by omega) (by omega) (by omega)] at h
        omega

theorem FnExactFindBox (l0 : List PFnExactFindBox.S36) (a1 : ByteArray) (w0 : (l0.length ≤ maxLen ∧ ∀ y2 ∈ l0, (y2.f0.size ≤ maxLen) ∧ (((Lit.int .i64 y2.f1).wf = true) ∧ ((y2.f2.length ≤ maxLen ∧ ∀ y5 ∈ y2.f2, (Lit.int .u8 y5).wf = true))))) (w1 : a1.size ≤ 140737488351232) : ∃ k, PFnExactFindBox.laws_FnExactFindBox.f k l0 a1 = some true := by
  have hm := w0.1
  have hd : ∀ x ∈ l0, x.f0.size ≤ 2 ^ 63 - 1 ∧ x.f2.length ≤ 2 ^ 63 - 1 := fun x hx => ⟨(w0.2 x hx).1, (w0.2 x hx).2.2.1⟩
  unfold maxLen at hm
  unfold laws_FnExactFindBox.f
  by_cases hbig : (a1.size : Int) > 1048576
  · exact ⟨0, by rw [if_pos hbig]⟩
  obtain ⟨r, ⟨K1, h1⟩, ⟨K2, h2⟩, _⟩ := find_eq (l0.map conv) a1 (by omega)
  refine ⟨max 2097155 (max K1 K2), ?_⟩
  have hA : spec_FindBox.f (max 2097155 (max K1 K2)) (l0.map conv) a1 = some r := h1 (max 2097155 (max K1 K2)) (by omega)
  have hB : impl_FindBox.f (max 2097155 (max K1 K2)) (l0.map conv) a1 = some r := h2 (max 2097155 (max K1 K2)) (by omega)
  have hK : 2097155 ≤ max 2097155 (max K1 K2) := by omega
  generalize max 2097155 (max K1 K2) = K at *
  rw [if_neg hbig]
  obtain ⟨t, ht, hs⟩ := sz_all l0 hm hd K (by omega)
  rw [ht]
  simp only [Option.bind_some]
  by_cases c : t < 0
  · rw [if_pos c]
  · rw [if_neg c]
    obtain ⟨h1, h2⟩ := hs (by omega)
    rw [to_boxes l0 h1 (fun x hx => (h2 x hx).1) _ (by omega)]
    simp only [Option.bind_some]
    rw [hA, hB]
    simp only [Option.bind_some, if_true]
    rw [eq_boxes (l0.map conv) (by simpa using h1) (fun x hx => by
      obtain ⟨y, hy, rfl⟩ := List.mem_map.1 hx
      exact (h2 y hy).1) _ (by omega)]
    rfl

end Go.Proofs.YtpennfkjfeipcaaDoor.Pure
