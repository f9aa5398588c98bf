/- Proved: the plain law behind FnExactShowBoxes. No condition. -/
import Derived.Test.YtpennfkjfeipcaaPFnExactShowBoxesx9
namespace Go.Proofs.Ytpennfkjfeipcaa.Pure
open Go.RowKit Go.Proofs.Ytpennfkjfeipcaa.PFnExactShowBoxes Go.Proofs.YtpennfkjfeipcaaW.PrintWords Go.Proofs.YtpennfkjfeipcaaW.PrintLast

set_option linter.unusedVariables false
set_option linter.unusedSimpArgs false

theorem run_to {α : Type} (F : Nat → Int → Option α) (n : Int) (r : α) (step : ∀ k i, 0 ≤ i → i < n → F (k + 1) i = F k (i + 1)) (stop : ∀ k, F (k + 1) n = some r) :
    ∀ (d k : Nat) (i : Int), 0 ≤ i → i ≤ n → n - i = d → d < k → F k i = some r := by
  intro d
  induction d with
  | zero =>
    intro k i h0 h1 hd hk
    obtain ⟨k, rfl⟩ : ∃ m, k = m + 1 := ⟨k - 1, by omega⟩
    obtain rfl : i = n := by omega
    exact stop k
  | succ d ih =>
    intro k i h0 h1 hd hk
    obtain ⟨k, rfl⟩ : ∃ m, k = m + 1 := ⟨k - 1, by omega⟩
    rw [step k i h0 (by omega)]
    exact ih k (i + 1) (by omega) (by omega) (by omega) (by omega)

theorem set_to {α β : Type} (F : Nat → List β → Int → Option (List β)) (l : List α) (conv : α → β)
    (step : ∀ k acc i x, 0 ≤ i → l[i.toNat]? = some x → acc.length = l.length → F (k + 1) acc i = F k (acc.set i.toNat (conv x)) (i + 1)) (stop : ∀ k acc, F (k + 1) acc (l.length : Int) = some acc) :
    ∀ (d k : Nat) (acc : List β) (i : Int), 0 ≤ i → i ≤ l.length → (l.length : Int) - i = d → d < k → acc.length = l.length → F k acc i = some (acc.take i.toNat ++ (l.drop i.toNat).map conv) := by
  intro d
  induction d with
  | zero =>
    intro k acc i h0 h1 hd hk ha
    obtain ⟨k, rfl⟩ : ∃ m, k = m + 1 := ⟨k - 1, by omega⟩
    obtain rfl : i = (l.length : Int) := by omega
    rw [stop k]
    simp [← ha]
  | succ d ih =>
    intro k acc i h0 h1 hd hk ha
    obtain ⟨k, rfl⟩ : ∃ m, k = m + 1 := ⟨k - 1, by omega⟩
    have hlt : i.toNat < l.length := by omega
    have hx : l[i.toNat]? = some l[i.toNat] := List.getElem?_eq_getElem hlt
    rw [step k acc i _ h0 hx ha, ih k _ (i + 1) (by omega) (by omega) (by omega) (by omega) (by simpa using ha)]
    have e : (i + 1).toNat = i.toNat + 1 := by omega
    rw [e]
    congr 1
    rw [List.take_succ_eq_append_getElem (by simp; omega)]
    rw [List.drop_eq_getElem_cons hlt, List.map_cons, List.getElem_set_self, List.take_set_of_le (Nat.le_refl _), List.append_assoc]
    rfl

theorem in_some (a b c : Int) : impl_in.f a b c = some (decide (b ≤ a ∧ a ≤ c)) := by
  unfold impl_in.f
  by_cases h : b ≤ a
  · simp [h]
  · simp [h]

theorem in_spec (a b c : Int) : spec_l1In.f a b c = some (decide (b ≤ a ∧ a ≤ c)) := in_some a b c

/-- A letter or a digit. -/
def Good (c : Int) : Prop := (48 ≤ c ∧ c ≤ 57) ∨ (65 ≤ c ∧ c ≤ 90) ∨ (97 ≤ c ∧ c ≤ 122)

instance (c : Int) : Decidable (Good c) := by unfold Good; infer_instance

theorem spec_char (c : Int) (n : Option Bool) : (if c < 48 then (if c < 97 then (if c < 65 then (some false) else (if c > 90 then (some false) else n)) else (if c > 122 then (if c < 65 then (some false) else (if c > 90 then (some false) else n)) else n)) else (if c > 57 then (if c < 97 then (if c < 65 then (some false) else (if c > 90 then (some false) else n)) else (if c > 122 then (if c < 65 then (some false) else (if c > 90 then (some false) else n)) else n)) else n)) = if Good c then n else some false := by
  by_cases g : Good c
  · rw [if_pos g]
    unfold Good at g
    repeat' split
    all_goals first | rfl | omega
  · rw [if_neg g]
    unfold Good at g
    repeat' split
    all_goals first | rfl | omega

theorem impl_char (c : Int) (n : Option Bool) : ((impl_isLetter.f c).bind fun t135 => (if t135 = true then n else ((impl_isDigit.f c).bind fun t136 => (if t136 = true then n else (some false))))) = if Good c then n else some false := by
  have h1 : impl_isLetter.f c = some (decide ((97 ≤ c ∧ c ≤ 122) ∨ (65 ≤ c ∧ c ≤ 90))) := by
    unfold impl_isLetter.f
    repeat' split
    all_goals (congr 1; first | (symm; apply decide_eq_true; omega) | (symm; apply decide_eq_false; omega) | (apply decide_eq_decide.2; omega))
  have h2 : impl_isDigit.f c = some (decide (48 ≤ c ∧ c ≤ 57)) := by
    unfold impl_isDigit.f
    repeat' split
    all_goals (congr 1; first | (symm; apply decide_eq_true; omega) | (symm; apply decide_eq_false; omega) | (apply decide_eq_decide.2; omega))
  rw [h1, h2]
  simp only [Option.bind_some, decide_eq_true_eq]
  by_cases g1 : (97 ≤ c ∧ c ≤ 122) ∨ (65 ≤ c ∧ c ≤ 90)
  · rw [if_pos g1, if_pos (by unfold Good; omega)]
  · rw [if_neg g1]
    by_cases g2 : 48 ≤ c ∧ c ≤ 57
    · rw [if_pos g2, if_pos (by unfold Good; omega)]
    · rw [if_neg g2, if_neg (by unfold Good; omega)]

theorem kind_l (s : ByteArray) (hs : (s.size : Int) = 4) : ∀ (d k k' : Nat) (i : Int), 0 ≤ i → i ≤ 4 → 4 - i = d → d < k → d < k' → ∃ r, spec_l2Kind.l0 k s i = some r ∧ impl_kindOk.l0 k' s 4 i = some r ∧ (r = true → ∀ j : Int, i ≤ j → j < 4 → Good (bt s j)) := by
  intro d
  induction d with
  | zero =>
    intro k k' i h0 h1 hd hk hk'
    obtain ⟨k, rfl⟩ : ∃ m, k = m + 1 := ⟨k - 1, by omega⟩
    obtain ⟨k', rfl⟩ : ∃ m, k' = m + 1 := ⟨k' - 1, by omega⟩
    refine ⟨true, ?_, ?_, fun _ j h2 h3 => by omega⟩
    · simp only [spec_l2Kind.l0]; rw [if_neg (by omega)]
    · simp only [impl_kindOk.l0]; rw [if_neg (by omega)]
  | succ d ih =>
    intro k k' i h0 h1 hd hk hk'
    obtain ⟨k, rfl⟩ : ∃ m, k = m + 1 := ⟨k - 1, by omega⟩
    obtain ⟨k', rfl⟩ : ∃ m, k' = m + 1 := ⟨k' - 1, by omega⟩
    have wi : wrap64 (i + 1) = i + 1 := by unfold wrap64; omega
    obtain ⟨r, a, b, hg⟩ := ih k k' (i + 1) (by omega) (by omega) (by omega) (by omega) (by omega)
    have hS : spec_l2Kind.l0 (k + 1) s i = if Good (bt s i) then spec_l2Kind.l0 k s (i + 1) else some false := by
      simp only [spec_l2Kind.l0]
      rw [if_pos (by omega), if_pos h0, if_pos (by omega), spec_char, wi]
    have hI : impl_kindOk.l0 (k' + 1) s 4 i = if Good (bt s i) then impl_kindOk.l0 k' s 4 (i + 1) else some false := by
      simp only [impl_kindOk.l0]
      rw [if_pos (by omega), if_pos h0, if_pos (by omega), impl_char, wi]
    rw [hS, hI, a, b]
    by_cases g : Good (bt s i)
    · rw [if_pos g]
      refine ⟨r, rfl, rfl, fun h j h2 h3 => ?_⟩
      by_cases e : j = i
      · rw [e]; exact g
      · exact hg h j (by omega) h3
    · rw [if_neg g]; exact ⟨false, rfl, rfl, fun h => by simp at h⟩

theorem kind_eq (s : ByteArray) : ∃ r, (r = true → s.size = 4 ∧ ∀ j : Int, 0 ≤ j → j < 4 → Good (bt s j)) ∧ ∀ k, 6 ≤ k → spec_l2Kind.f k s = some r ∧ impl_kindOk.f k s = some r := by
  by_cases c : (s.size : Int) = 4
  · obtain ⟨r, a, b, hg⟩ := kind_l s c 4 5 5 0 (by omega) (by omega) (by omega) (by omega) (by omega)
    refine ⟨r, fun h => ⟨by omega, fun j h2 h3 => hg h j h2 h3⟩, fun k hk => ?_⟩
    obtain ⟨r1, a1, b1, _⟩ := kind_l s c 4 k 5 0 (by omega) (by omega) (by omega) (by omega) (by omega)
    obtain ⟨r2, a2, b2, _⟩ := kind_l s c 4 5 k 0 (by omega) (by omega) (by omega) (by omega) (by omega)
    unfold spec_l2Kind.f impl_kindOk.f
    rw [if_pos c, if_pos c, c]
    obtain rfl := Option.some.inj (b1.symm.trans b)
    obtain rfl := Option.some.inj (a2.symm.trans a)
    exact ⟨a1, b2⟩
  · refine ⟨false, fun h => by simp at h, fun k hk => ?_⟩
    unfold spec_l2Kind.f impl_kindOk.f
    rw [if_neg c, if_neg c]
    exact ⟨rfl, rfl⟩

def hold (s : ByteArray) : Bool := decide (65 ≤ bt s 0 ∧ bt s 0 ≤ 90)

theorem hold_i (s : ByteArray) (d : Int) (l : List Int) (h : s.size = 4) : impl_Box_holds.f s d l = some (hold s) := by
  unfold impl_Box_holds.f hold
  rw [if_pos (by omega)]
  by_cases c : 65 ≤ bt s 0
  · rw [if_pos c]; simp [c]
  · rw [if_neg c]; simp [c]

theorem hold_s (s : ByteArray) (h : s.size = 4) : spec_l2Holds.f s = some (hold s) := hold_i s 0 [] h

/-- Whether the box b may stand at place i, behind a. -/
def fitB (b a : S46) (i : Int) : Bool := !(hold b.f0 && decide ((b.f2.length : Int) > 0)) && decide (0 ≤ b.f1 ∧ b.f1 ≤ (if i = 0 then 0 else mn (if hold a.f0 = true then a.f1 + 1 else a.f1) 8))

theorem spec_step (l : List S46) (hl : l.length ≤ 200) (x i : Int) (h0 : 0 ≤ i) (hlt : i < (l.length : Int)) (k : Nat) (hk : 8 ≤ k) (hkind : spec_l2Kind.f (k + 1) (rd_T46 l i).f0 = some true) (hs : (rd_T46 l i).f0.size = 4)
    (hp : 0 < i → (rd_T46 l (i - 1)).f0.size = 4 ∧ 0 ≤ (rd_T46 l (i - 1)).f1 ∧ (rd_T46 l (i - 1)).f1 ≤ 8) :
    spec_BoxesOk.l0 (k + 2) l x i = if fitB (rd_T46 l i) (rd_T46 l (i - 1)) i = true then spec_BoxesOk.l0 k l (wrap64 (x + ((rd_T46 l i).f2.length : Int))) (i + 1) else some false := by
  have wi : wrap64 (i + 1) = i + 1 := by unfold wrap64; omega
  have wj : wrap64 (i - 1) = i - 1 := by unfold wrap64; omega
  simp only [spec_BoxesOk.l0]
  rw [if_pos hlt, if_pos h0, hkind]
  simp only [Option.bind_some, if_true, spec_BoxesOk.j1, in_spec]
  rw [hold_s _ hs, wi, wj]
  simp only [Option.bind_some]
  generalize hn : spec_BoxesOk.l0 k l (wrap64 (x + ((rd_T46 l i).f2.length : Int))) (i + 1) = nx
  generalize hb : rd_T46 l i = b at *
  generalize ha : rd_T46 l (i - 1) = a at *
  unfold fitB
  clear hn
  generalize (b.f2.length : Int) = m
  by_cases hi : i = 0
  · subst hi
    have e0 : ¬ (0 : Int) > 0 := by omega
    by_cases d : 0 ≤ b.f1 ∧ b.f1 ≤ 8
    · by_cases h1 : hold b.f0 = true
      · by_cases h2 : m > 0
        · simp [d, h1, h2]
        · by_cases z : b.f1 = 0
          · simp [d, h1, h2, z]
          · have : ¬ b.f1 ≤ 0 := by omega
            simp [d, h1, h2, z, this]
      · by_cases z : b.f1 = 0
        · simp [d, h1, z]
        · have : ¬ b.f1 ≤ 0 := by omega
          simp [d, h1, z, this]
    · have : ¬ (0 ≤ b.f1 ∧ b.f1 ≤ 0) := by omega
      simp [d, this]
  · have hip : i > 0 := by omega
    obtain ⟨p1, p2, p3⟩ := hp hip
    have e1 : (0 : Int) ≤ i - 1 := by omega
    have e2 : i - 1 < (l.length : Int) := by omega
    have wa : wrap64 (a.f1 + 1) = a.f1 + 1 := by unfold wrap64; omega
    rw [hold_s _ p1, wa]
    unfold mn
    simp only [Option.bind_some, if_pos hip, if_pos e1, if_pos e2, if_neg hi]
    have key : ∀ m : Bool, m = decide (0 ≤ b.f1 ∧ b.f1 ≤ (if 8 < (if hold a.f0 = true then a.f1 + 1 else a.f1) then 8 else (if hold a.f0 = true then a.f1 + 1 else a.f1))) → (0 ≤ b.f1 ∧ b.f1 ≤ 8) →
        (if b.f1 > a.f1 then if b.f1 = a.f1 + 1 then if hold a.f0 = true then nx else some false else some false else nx) = if m = true then nx else some false := by
      intro m hm d
      subst hm
      by_cases h : hold a.f0 = true
      · simp only [h, if_true]
        by_cases c1 : b.f1 > a.f1
        · by_cases c2 : b.f1 = a.f1 + 1
          · rw [if_pos c1, if_pos c2, if_pos]
            apply decide_eq_true
            split <;> omega
          · rw [if_pos c1, if_neg c2, if_neg]
            intro q
            have q := of_decide_eq_true q
            split at q <;> omega
        · rw [if_neg c1, if_pos]
          apply decide_eq_true
          split <;> omega
      · simp only [h, if_false, Bool.false_eq_true]
        by_cases c1 : b.f1 > a.f1
        · have hq : ¬ decide (0 ≤ b.f1 ∧ b.f1 ≤ (if 8 < a.f1 then 8 else a.f1)) = true := by
            intro q
            have q := of_decide_eq_true q
            split at q <;> omega
          rw [if_pos c1, if_neg hq]
          split <;> rfl
        · rw [if_neg c1, if_pos]
          apply decide_eq_true
          split <;> omega
    by_cases d : 0 ≤ b.f1 ∧ b.f1 ≤ 8
    · have hkey := key _ rfl d
      by_cases h1 : hold b.f0 = true
      · by_cases h2 : m > 0
        · simp [d, h1, h2]
        · rw [hkey] at *
          simp [d, h1, h2]
      · rw [hkey] at *
        simp [d, h1]
    · have : ¬ decide (0 ≤ b.f1 ∧ b.f1 ≤ (if 8 < (if hold a.f0 = true then a.f1 + 1 else a.f1) then 8 else (if hold a.f0 = true then a.f1 + 1 else a.f1))) = true := by
        intro q
        have q := of_decide_eq_true q
        split at q <;> omega
      simp only [Bool.and_eq_true, this, and_false, if_false]
      simp [d]

theorem rd_take (l : List S46) (i : Int) (h0 : 0 < i) (h1 : i ≤ (l.length : Int)) : rd_T46 (l.take i.toNat) (i - 1) = rd_T46 l (i - 1) := by
  unfold rd_T46
  rw [List.getD_eq_getElem?_getD, List.getD_eq_getElem?_getD, List.getElem?_take_of_lt (by omega)]

theorem fits_step (l : List S46) (hl : l.length ≤ 200) (i : Int) (h0 : 0 ≤ i) (hlt : i < (l.length : Int)) (k : Nat) (hkind : impl_kindOk.f (k + 1) (rd_T46 l i).f0 = some true) (hs : (rd_T46 l i).f0.size = 4)
    (hp : 0 < i → (rd_T46 l (i - 1)).f0.size = 4 ∧ 0 ≤ (rd_T46 l (i - 1)).f1 ∧ (rd_T46 l (i - 1)).f1 ≤ 8) :
    impl_Box_fits.f (k + 1) (rd_T46 l i).f0 (rd_T46 l i).f1 (rd_T46 l i).f2 (l.take i.toNat) = some (fitB (rd_T46 l i) (rd_T46 l (i - 1)) i) := by
  have hlen : ((l.take i.toNat).length : Int) = i := by rw [List.length_take]; omega
  have wj : wrap64 (i - 1) = i - 1 := by unfold wrap64; omega
  unfold impl_Box_fits.f
  rw [hkind, hold_i _ _ _ hs]
  simp only [Option.bind_some, if_true, impl_Box_fits.j0, hlen, wj]
  have hJ : ∀ q : Bool, (if q = true then some false else (if i > 0 then (if 0 ≤ i - 1 then (if i - 1 < i then ((impl_Box_holds.f ((rd_T46 (l.take i.toNat) (i - 1)).f0) ((rd_T46 (l.take i.toNat) (i - 1)).f1) ((rd_T46 (l.take i.toNat) (i - 1)).f2)).bind fun t143 => (if t143 = true then ((impl_in.f (rd_T46 l i).f1 0 (mn (wrap64 (((rd_T46 (l.take i.toNat) (i - 1)).f1) + 1)) 8)).bind fun t144 => (some t144)) else ((impl_in.f (rd_T46 l i).f1 0 (mn ((rd_T46 (l.take i.toNat) (i - 1)).f1) 8)).bind fun t145 => (some t145)))) else (none)) else (none)) else ((impl_in.f (rd_T46 l i).f1 0 (mn 0 8)).bind fun t146 => (some t146))))
      = some (!q && decide (0 ≤ (rd_T46 l i).f1 ∧ (rd_T46 l i).f1 ≤ (if i = 0 then 0 else mn (if hold (rd_T46 l (i - 1)).f0 = true then (rd_T46 l (i - 1)).f1 + 1 else (rd_T46 l (i - 1)).f1) 8))) := by
    intro q
    cases q with
    | true => simp
    | false =>
      by_cases hi : i = 0
      · subst hi
        rw [if_neg (by simp), if_neg (by omega : ¬ (0 : Int) > 0), in_some]
        simp [mn]
      · have hip : 0 < i := by omega
        obtain ⟨p1, p2, p3⟩ := hp hip
        have wa : wrap64 ((rd_T46 l (i - 1)).f1 + 1) = (rd_T46 l (i - 1)).f1 + 1 := by unfold wrap64; omega
        rw [if_neg (by simp), if_pos (by omega), if_pos (by omega), if_pos (by omega), rd_take l i hip (by omega), hold_i _ _ _ p1, wa, in_some, in_some, if_neg hi]
        simp only [Option.bind_some]
        by_cases h : hold (rd_T46 l (i - 1)).f0 = true
        · simp [h]
        · simp [h]
  unfold fitB
  by_cases h1 : hold (rd_T46 l i).f0 = true
  · rw [h1]
    simp only [if_true, Bool.true_and]
    exact hJ _
  · have h1' : hold (rd_T46 l i).f0 = false := by simpa using h1
    rw [h1']
    simp only [Bool.false_eq_true, if_false, Bool.false_and]
    exact hJ false

theorem fit_depth (b a : S46) (i : Int) (h : fitB b a i = true) : 0 ≤ b.f1 ∧ b.f1 ≤ 8 := by
  unfold fitB at h
  simp only [Bool.and_eq_true, decide_eq_true_eq] at h
  obtain ⟨_, h1, h2⟩ := h
  refine ⟨h1, ?_⟩
  unfold mn at h2
  split at h2
  · omega
  · split at h2 <;> omega

theorem impl_step (l : List S46) (hl : l.length ≤ 200) (k : Nat) (x i : Int) (h0 : 0 ≤ i) (hlt : i < (l.length : Int)) : impl_BoxesOk.l0 (k + 1) l x l (l.length : Int) i =
    (impl_Box_fits.f k (rd_T46 l i).f0 (rd_T46 l i).f1 (rd_T46 l i).f2 (l.take i.toNat)).bind fun t => if t = true then impl_BoxesOk.l0 k l (wrap64 (x + ((rd_T46 l i).f2.length : Int))) l (l.length : Int) (i + 1) else some false := by
  have wi : wrap64 (i + 1) = i + 1 := by unfold wrap64; omega
  simp only [impl_BoxesOk.l0]
  rw [if_pos hlt, if_pos h0, if_pos hlt, if_pos (by omega), wi]

/-- What is known of a box of a right list. -/
def OkAt (l : List S46) (j : Int) : Prop := (rd_T46 l j).f0.size = 4 ∧ (∀ i : Int, 0 ≤ i → i < 4 → Good (bt (rd_T46 l j).f0 i)) ∧ fitB (rd_T46 l j) (rd_T46 l (j - 1)) j = true

theorem boxes_l (l : List S46) (hl : l.length ≤ 200) : ∀ (d k k' : Nat) (i x : Int), 0 ≤ i → i ≤ (l.length : Int) → (l.length : Int) - i = d → 2 * d + 10 < k → 2 * d + 10 < k' →
    (0 < i → (rd_T46 l (i - 1)).f0.size = 4 ∧ 0 ≤ (rd_T46 l (i - 1)).f1 ∧ (rd_T46 l (i - 1)).f1 ≤ 8) →
    ∃ r, spec_BoxesOk.l0 k l x i = some r ∧ impl_BoxesOk.l0 k' l x l (l.length : Int) i = some r ∧ (r = true → ∀ j : Int, i ≤ j → j < (l.length : Int) → OkAt l j) := by
  intro d
  induction d with
  | zero =>
    intro k k' i x h0 h1 hd hk hk' hp
    obtain ⟨k, rfl⟩ : ∃ m, k = m + 1 := ⟨k - 1, by omega⟩
    obtain ⟨k', rfl⟩ : ∃ m, k' = m + 1 := ⟨k' - 1, by omega⟩
    refine ⟨decide (x ≤ 20000), ?_, ?_, fun _ j h2 h3 => by omega⟩
    · simp only [spec_BoxesOk.l0]; rw [if_neg (by omega)]
    · simp only [impl_BoxesOk.l0]; rw [if_neg (by omega)]
  | succ d ih =>
    intro k k' i x h0 h1 hd hk hk' hp
    obtain ⟨k, rfl⟩ : ∃ m, k = m + 2 := ⟨k - 2, by omega⟩
    obtain ⟨k', rfl⟩ : ∃ m, k' = m + 2 := ⟨k' - 2, by omega⟩
    have hlt : i < (l.length : Int) := by omega
    have wi : wrap64 (i + 1) = i + 1 := by unfold wrap64; omega
    obtain ⟨r, hr, hK⟩ := kind_eq (rd_T46 l i).f0
    cases r with
    | false =>
      refine ⟨false, ?_, ?_, fun h => by simp at h⟩
      · simp only [spec_BoxesOk.l0]
        rw [if_pos hlt, if_pos h0, (hK (k + 1) (by omega)).1]
        simp [spec_BoxesOk.j1]
      · rw [show k' + 2 = (k' + 1) + 1 from rfl, impl_step l hl (k' + 1) x i h0 hlt]
        unfold impl_Box_fits.f
        rw [(hK (k' + 1) (by omega)).2]
        simp [impl_Box_fits.j0]
    | true =>
      obtain ⟨hs, hgood⟩ := hr rfl
      rw [spec_step l hl x i h0 hlt k (by omega) (hK (k + 1) (by omega)).1 hs hp]
      rw [show k' + 2 = (k' + 1) + 1 from rfl, impl_step l hl (k' + 1) x i h0 hlt, fits_step l hl i h0 hlt k' (hK (k' + 1) (by omega)).2 hs hp]
      simp only [Option.bind_some]
      by_cases f : fitB (rd_T46 l i) (rd_T46 l (i - 1)) i = true
      · rw [if_pos f]
        obtain ⟨r, a, b, hg⟩ := ih k (k' + 1) (i + 1) (wrap64 (x + ((rd_T46 l i).f2.length : Int))) (by omega) (by omega) (by omega) (by omega) (by omega) (fun _ => by
          rw [show i + 1 - 1 = i by omega]
          exact ⟨hs, fit_depth _ _ _ f⟩)
        refine ⟨r, a, by rw [if_pos f]; exact b, fun h j h2 h3 => ?_⟩
        by_cases e : j = i
        · rw [e]; exact ⟨hs, hgood, f⟩
        · exact hg h j (by omega) h3
      · rw [if_neg f]
        exact ⟨false, rfl, by rw [if_neg f], fun h => by simp at h⟩

/-- The program's BoxesOk and the reference's answer alike. -/
theorem boxes_eq (l : List S46) (k : Nat) (hk : 500 ≤ k) : ∃ r, spec_BoxesOk.f k l = some r ∧ impl_BoxesOk.f k l = some r ∧ (r = true → l.length ≤ 200 ∧ ∀ j : Int, 0 ≤ j → j < (l.length : Int) → OkAt l j) := by
  unfold spec_BoxesOk.f impl_BoxesOk.f
  by_cases c : (l.length : Int) > 200
  · rw [if_pos c, if_pos c]; exact ⟨false, rfl, rfl, fun h => by simp at h⟩
  · rw [if_neg c, if_neg c]
    obtain ⟨r, a, b, hg⟩ := boxes_l l (by omega) l.length k k 0 0 (by omega) (by omega) (by omega) (by omega) (by omega) (fun h => by omega)
    exact ⟨r, a, b, fun h => ⟨by omega, hg h⟩⟩

theorem set_from {α β : Type} (F : Nat → List β → Int → Option (List β)) (l : List α) (conv : α → β) (K : Nat)
    (step : ∀ k acc i x, K ≤ k → 0 ≤ i → l[i.toNat]? = some x → acc.length = l.length → F (k + 1) acc i = F k (acc.set i.toNat (conv x)) (i + 1)) (stop : ∀ k acc, F (k + 1) acc (l.length : Int) = some acc) :
    ∀ (d k : Nat) (acc : List β) (i : Int), 0 ≤ i → i ≤ l.length → (l.length : Int) - i = d → d + K < k → acc.length = l.length → F k acc i = some (acc.take i.toNat ++ (l.drop i.toNat).map conv) := by
  intro d
  induction d with
  | zero =>
    intro k acc i h0 h1 hd hk ha
    obtain ⟨k, rfl⟩ : ∃ m, k = m + 1 := ⟨k - 1, by omega⟩
    obtain rfl : i = (l.length : Int) := by omega
    rw [stop k]
    simp [← ha]
  | succ d ih =>
    intro k acc i h0 h1 hd hk ha
    obtain ⟨k, rfl⟩ : ∃ m, k = m + 1 := ⟨k - 1, by omega⟩
    have hlt : i.toNat < l.length := by omega
    have hx : l[i.toNat]? = some l[i.toNat] := List.getElem?_eq_getElem hlt
    rw [step k acc i _ (by omega) h0 hx ha, ih k _ (i + 1) (by omega) (by omega) (by omega) (by omega) (by simpa using ha)]
    have e : (i + 1).toNat = i.toNat + 1 := by omega
    rw [e]
    congr 1
    rw [List.take_succ_eq_append_getElem (by simp; omega)]
    rw [List.drop_eq_getElem_cons hlt, List.map_cons, List.getElem_set_self, List.take_set_of_le (Nat.le_refl _), List.append_assoc]
    rfl

theorem run_from {α : Type} (F : Nat → Int → Option α) (n : Int) (r : α) (K : Nat) (step : ∀ k i, K ≤ k → 0 ≤ i → i < n → F (k + 1) i = F k (i + 1)) (stop : ∀ k, F (k + 1) n = some r) :
    ∀ (d k : Nat) (i : Int), 0 ≤ i → i ≤ n → n - i = d → d + K < k → F k i = some r := by
  intro d
  induction d with
  | zero =>
    intro k i h0 h1 hd hk
    obtain ⟨k, rfl⟩ : ∃ m, k = m + 1 := ⟨k - 1, by omega⟩
    obtain rfl : i = n := by omega
    exact stop k
  | succ d ih =>
    intro k i h0 h1 hd hk
    obtain ⟨k, rfl⟩ : ∃ m, k = m + 1 := ⟨k - 1, by omega⟩
    rw [step k i (by omega) h0 (by omega)]
    exact ih k (i + 1) (by omega) (by omega) (by omega) (by omega)

theorem to_bytes (l : List Int) (hl : l.length ≤ 1048576) (k : Nat) (hk : 1048577 ≤ k) : laws_toByteS.f k l = some l := by
  unfold laws_toByteS.f
  rw [if_pos (by omega), if_pos (by omega)]
  have h := set_to (fun k acc i => laws_toByteS.l0 k l acc i) l id (by
    intro k acc i x h0 hx ha
    have hlt : i.toNat < l.length := (List.getElem?_eq_some_iff.1 hx).1
    simp only [laws_toByteS.l0]
    have hr : rd l i = x := by
      unfold rd
      rw [List.getD_eq_getElem?_getD, hx]
      rfl
    rw [if_pos (by omega), if_pos h0, if_pos (by omega), hr]
    have hw : wrap64 (i + 1) = i + 1 := by unfold wrap64; omega
    rw [hw]
    rfl) (by
    intro k acc
    simp only [laws_toByteS.l0]
    rw [if_neg (by omega)]) l.length k (List.replicate ((l.length : Int)).toNat 0) 0 (by omega) (by omega) (by omega) (by omega) (by simp)
  rw [h]
  simp

theorem eq_bytes (l : List Int) (hl : l.length ≤ 1048576) (k : Nat) (hk : 1048577 ≤ k) : laws_eqByteS.f k l l = some true := by
  unfold laws_eqByteS.f
  rw [if_pos rfl]
  exact run_to (fun k i => laws_eqByteS.l0 k l l i) (l.length : Int) true (by
    intro k i h0 h1
    simp only [laws_eqByteS.l0]
    rw [if_pos h1, if_pos h0, if_pos h1]
    have hw : wrap64 (i + 1) = i + 1 := by unfold wrap64; omega
    simp [hw]) (by
    intro k
    simp only [laws_eqByteS.l0]
    rw [if_neg (by omega)]) l.length k 0 (by omega) (by omega) (by omega) (by omega)

def conv (x : S45) : S46 := ⟨x.f0, x.f1, x.f2⟩

theorem rd45 (l : List S45) (i : Int) (x : S45) (h : l[i.toNat]? = some x) : rd_T45 l i = x := by
  unfold rd_T45
  rw [List.getD_eq_getElem?_getD, h]
  rfl

theorem rd46 (l : List S46) (i : Int) (x : S46) (h : l[i.toNat]? = some x) : rd_T46 l i = x := by
  unfold rd_T46
  rw [List.getD_eq_getElem?_getD, h]
  rfl

theorem to_boxes (l : List S45) (hl : l.length ≤ 1048576) (hd : ∀ x ∈ l, x.f2.length ≤ 1048576) (k : Nat) (hk : 2097155 ≤ k) : laws_toBoxS.f k l = some (l.map conv) := by
  unfold laws_toBoxS.f
  rw [if_pos (by omega), if_pos (by omega)]
  have h := set_from (fun k acc i => laws_toBoxS.l0 k l acc i) l conv 1048577 (by
    intro k acc i x hK h0 hx ha
    have hlt : i.toNat < l.length := (List.getElem?_eq_some_iff.1 hx).1
    simp only [laws_toBoxS.l0]
    rw [if_pos (by omega), if_pos h0, rd45 l i x hx]
    unfold laws_toBox.f
    rw [to_bytes x.f2 (hd x (List.mem_of_getElem? hx)) k hK]
    simp only [Option.bind_some]
    rw [if_pos (by omega)]
    have hw : wrap64 (i + 1) = i + 1 := by unfold wrap64; omega
    rw [hw]
    rfl) (by
    intro k acc
    simp only [laws_toBoxS.l0]
    rw [if_neg (by omega)]) l.length k (List.replicate ((l.length : Int)).toNat z46) 0 (by omega) (by omega) (by omega) (by omega) (by simp)
  rw [h]
  simp

theorem eq_boxes (l : List S46) (hl : l.length ≤ 1048576) (hd : ∀ x ∈ l, x.f2.length ≤ 1048576) (k : Nat) (hk : 2097155 ≤ k) : laws_eqBoxS.f k l l = some true := by
  unfold laws_eqBoxS.f
  rw [if_pos rfl]
  exact run_from (fun k i => laws_eqBoxS.l0 k l l i) (l.length : Int) true 1048577 (by
    intro k i hK h0 h1
    simp only [laws_eqBoxS.l0]
    have hx : l[i.toNat]? = some l[i.toNat] := List.getElem?_eq_getElem (by omega)
    rw [if_pos h1, if_pos h0, if_pos h1, rd46 l i _ hx]
    unfold laws_eqBox.f
    rw [if_pos rfl, if_pos rfl, eq_bytes _ (hd _ (List.mem_of_getElem? hx)) k hK]
    have hw : wrap64 (i + 1) = i + 1 := by unfold wrap64; omega
    simp [hw]) (by
    intro k
    simp only [laws_eqBoxS.l0]
    rw [if_neg (by omega)]) l.length k 0 (by omega) (by omega) (by omega) (by omega)

theorem sz_boxes (l : List S45) (hl : l.length ≤ 1048576) (hd : ∀ x ∈ l, x.f0.size ≤ 2 ^ 63 - 1 ∧ x.f2.length ≤ 2 ^ 63 - 1) : ∀ (d k : Nat) (i a : Int), 0 ≤ i → i ≤ (l.length : Int) → (l.length : Int) - i = d → d < k → 0 ≤ a → a ≤ 1048576 →
    ∃ t, laws_szBoxS.l0 k l a i = some t ∧ (0 ≤ t → ∀ j : Int, i ≤ j → j < (l.length : Int) → (rd_T45 l j).f2.length ≤ 1048576 ∧ (rd_T45 l j).f0.size ≤ 1048576) := by
  intro d
  induction d with
  | zero =>
    intro k i a h0 h1 hd' hk ha hb
    obtain ⟨k, rfl⟩ : ∃ m, k = m + 1 := ⟨k - 1, by omega⟩
    exact ⟨a, by simp only [laws_szBoxS.l0]; rw [if_neg (by omega)], fun _ j _ _ => by omega⟩
  | succ d ih =>
    intro k i a h0 h1 hd' hk ha hb
    obtain ⟨k, rfl⟩ : ∃ m, k = m + 1 := ⟨k - 1, by omega⟩
    have hx : l[i.toNat]? = some l[i.toNat] := List.getElem?_eq_getElem (by omega)
    obtain ⟨x, hx2⟩ : ∃ x, l[i.toNat]? = some x := ⟨_, hx⟩
    have hm := hd x (List.mem_of_getElem? hx2)
    have hr := rd45 l i x hx2
    have wi : wrap64 (i + 1) = i + 1 := by unfold wrap64; omega
    have w1 : wrap64 (a - (x.f0.size : Int)) = a - (x.f0.size : Int) := by unfold wrap64; omega
    simp only [laws_szBoxS.l0]
    rw [if_pos (by omega), if_pos h0, hr]
    unfold laws_szBox.f laws_szByteS.f
    rw [w1, wi]
    by_cases c1 : a - (x.f0.size : Int) < 0
    · rw [if_pos c1]
      exact ⟨-1, by simp, fun h => by omega⟩
    · rw [if_neg c1]
      have w2 : wrap64 (a - (x.f0.size : Int) - (x.f2.length : Int)) = a - (x.f0.size : Int) - (x.f2.length : Int) := by unfold wrap64; omega
      rw [w2]
      by_cases c2 : a - (x.f0.size : Int) - (x.f2.length : Int) < 0
      · rw [if_pos c2]
        exact ⟨-1, by simp, fun h => by omega⟩
      · rw [if_neg c2]
        obtain ⟨t, ht, hj⟩ := ih k (i + 1) (a - (x.f0.size : Int) - (x.f2.length : Int)) (by omega) (by omega) (by omega) (by omega) (by omega) (by omega)
        refine ⟨t, by simp only [Option.bind_some, if_neg c2]; exact ht, fun h0t j hij hjl => ?_⟩
        by_cases e : j = i
        · subst e
          rw [hr]
          constructor <;> omega
        · exact hj h0t j (by omega) hjl

theorem sz_all (l : List S45) (hm : l.length ≤ 2 ^ 63 - 1) (hd : ∀ x ∈ l, x.f0.size ≤ 2 ^ 63 - 1 ∧ x.f2.length ≤ 2 ^ 63 - 1) (k : Nat) (hk : 1048577 ≤ k) :
    ∃ t, laws_szBoxS.f k l 1048576 = some t ∧ (0 ≤ t → l.length ≤ 1048576 ∧ ∀ x ∈ l, x.f2.length ≤ 1048576 ∧ x.f0.size ≤ 1048576) := by
  unfold laws_szBoxS.f
  have hw : wrap64 (1048576 - (l.length : Int)) = 1048576 - (l.length : Int) := by unfold wrap64; omega
  rw [hw]
  by_cases c : 1048576 - (l.length : Int) < 0
  · rw [if_pos c]
    exact ⟨-1, rfl, fun h => by omega⟩
  · rw [if_neg c]
    obtain ⟨t, ht, hj⟩ := sz_boxes l (by omega) hd l.length k 0 (1048576 - (l.length : Int)) (by omega) (by omega) (by omega) (by omega) (by omega) (by omega)
    refine ⟨t, ht, fun h => ⟨by omega, fun x hx => ?_⟩⟩
    obtain ⟨n, hn⟩ := List.getElem?_of_mem hx
    have hlt : n < l.length := (List.getElem?_eq_some_iff.1 hn).1
    have := hj h (n : Int) (by omega) (by omega)
    rw [rd45 l n x (by simpa using hn)] at this
    exact this

theorem endp_some (l : List S46) (a : Int) (ha : 0 ≤ a) (hl : a < (l.length : Int)) (hm : l.length ≤ 1000000) : ∀ (d k : Nat) (x : Int), 0 ≤ x → x ≤ (l.length : Int) → (l.length : Int) - x = d → d < k → ∃ e : Int, endp k l a x = some e ∧ x ≤ e ∧ e ≤ (l.length : Int) := by
  intro d
  induction d with
  | zero =>
    intro k x h0 h1 hd hk
    obtain ⟨k, rfl⟩ : ∃ m, k = m + 1 := ⟨k - 1, by omega⟩
    refine ⟨x, ?_, by omega, by omega⟩
    simp only [endp]
    rw [if_neg (by omega)]
  | succ d ih =>
    intro k x h0 h1 hd hk
    obtain ⟨k, rfl⟩ : ∃ m, k = m + 1 := ⟨k - 1, by omega⟩
    simp only [endp]
    rw [if_pos (by omega), if_pos h0, if_pos ha, if_pos hl]
    by_cases c : (rd_T46 l x).f1 > (rd_T46 l a).f1
    · rw [if_pos c]
      have hw : wrap64 (x + 1) = x + 1 := by unfold wrap64; omega
      rw [hw]
      obtain ⟨e, h2, h3, h4⟩ := ih k (x + 1) (by omega) (by omega) (by omega) (by omega)
      exact ⟨e, h2, by omega, h4⟩
    · rw [if_neg c]
      exact ⟨x, rfl, by omega, by omega⟩
def bcost (b : S46) : Nat := 4 + b.f0.size + b.f2.length
def cost (l : List S46) : Nat := (l.map bcost).sum
theorem cost_split (l : List S46) (p e : Nat) (hp : p + 1 ≤ e) (he : e ≤ l.length) : cost (l.drop p) = bcost (rd_T46 l (p : Int)) + cost ((l.take e).drop (p + 1)) + cost (l.drop e) := by
  have hlt : p < l.length := by omega
  have hr : rd_T46 l (p : Int) = l[p] := by
    unfold rd_T46
    rw [List.getD_eq_getElem?_getD, show ((p : Int)).toNat = p by omega, List.getElem?_eq_getElem hlt]
    rfl
  have h2 : l.drop (p + 1) = (l.take e).drop (p + 1) ++ l.drop e := by
    rw [List.drop_take]
    have h3 : (l.drop (p + 1)).drop (e - (p + 1)) = l.drop e := by rw [List.drop_drop]; congr 1; omega
    rw [← h3, List.take_append_drop]
  unfold cost
  rw [List.drop_eq_getElem_cons hlt, h2, List.map_cons, List.map_append, List.sum_cons, List.sum_append, hr]
  omega
theorem shw_some : ∀ (n : Nat) (l : List S46) (out : List Int) (p k : Nat), l.length - p ≤ n → p ≤ l.length → n + 1 ≤ k → out.length + cost (l.drop p) + 8 ≤ 1000000 → l.length ≤ 1000000 → ∃ r, shw k l out p = some r ∧ r.length = out.length + cost (l.drop p) := by
  intro n
  induction n with
  | zero =>
    intro l out p k h1 h2 h3 h4 h5
    obtain ⟨k, rfl⟩ : ∃ m, k = m + 1 := ⟨k - 1, by omega⟩
    refine ⟨out, ?_, ?_⟩
    · simp only [shw]
      rw [if_neg (by omega)]
    · rw [List.drop_of_length_le (by omega)]
      rfl
  | succ n ih =>
    intro l out p k h1 h2 h3 h4 h5
    obtain ⟨k, rfl⟩ : ∃ m, k = m + 1 := ⟨k - 1, by omega⟩
    by_cases c : p < l.length
    · have hw : wrap64 ((p : Int) + 1) = (p : Int) + 1 := by unfold wrap64; omega
      obtain ⟨e, e1, e2, e3⟩ := endp_some l (p : Int) (by omega) (by omega) h5 (l.length - (p + 1)) k ((p : Int) + 1) (by omega) (by omega) (by omega) (by omega)
      obtain ⟨en, rfl⟩ : ∃ en : Nat, e = (en : Int) := ⟨e.toNat, by omega⟩
      have hc := cost_split l p en (by omega) (by omega)
      have hb : bcost (rd_T46 l (p : Int)) = 4 + (rd_T46 l (p : Int)).f0.size + (rd_T46 l (p : Int)).f2.length := rfl
      have hsl : ((l.take en).drop (p + 1)).length = en - (p + 1) := by rw [List.length_drop, List.length_take]; omega
      obtain ⟨sub, s1, s2⟩ := ih ((l.take en).drop (p + 1)) [] 0 k (by omega) (Nat.zero_le _) (by omega) (by rw [List.drop_zero]; simp only [List.length_nil]; omega) (by omega)
      rw [List.drop_zero] at s2
      simp only [List.length_nil, Nat.zero_add] at s2
      have hf : (four (8 + ((((rd_T46 l (p : Int)).f2 ++ sub).length : Nat) : Int))).length = 4 := rfl
      have hout : (out ++ (four (8 + ((((rd_T46 l (p : Int)).f2 ++ sub).length : Nat) : Int)) ++ (bytesOf (rd_T46 l (p : Int)).f0 ++ ((rd_T46 l (p : Int)).f2 ++ sub)))).length = out.length + (bcost (rd_T46 l (p : Int)) + cost ((l.take en).drop (p + 1))) := by
        have hb2 : ((rd_T46 l (p : Int)).f2 ++ sub).length = (rd_T46 l (p : Int)).f2.length + cost ((l.take en).drop (p + 1)) := by rw [List.length_append, s2]
        generalize hB : (rd_T46 l (p : Int)).f2 ++ sub = B at hb2 hf ⊢
        rw [List.length_append, List.length_append, hf, List.length_append, bytesOf_length, hb2, hb]
        omega
      obtain ⟨r, r1, r2⟩ := ih l (out ++ (four (8 + ((((rd_T46 l (p : Int)).f2 ++ sub).length : Nat) : Int)) ++ (bytesOf (rd_T46 l (p : Int)).f0 ++ ((rd_T46 l (p : Int)).f2 ++ sub)))) en k (by omega) (by omega) (by omega) (by rw [hout]; omega) h5
      refine ⟨r, ?_, by rw [r2, hout]; omega⟩
      simp only [shw]
      rw [if_pos c, hw, e1]
      simp only [Option.bind_some]
      rw [if_pos (by omega), Int.toNat_natCast, s1]
      simp only [Option.bind_some]
      rw [if_pos (by rw [List.length_append, s2]; omega)]
      exact r1
    · refine ⟨out, ?_, ?_⟩
      · simp only [shw]
        rw [if_neg c]
      · rw [List.drop_of_length_le (by omega)]
        rfl

/-- A mark's text is told in as many rounds as the number has digits. -/
theorem text_some (d : Nat) : ∀ (n : Int) (s : ByteArray), 0 ≤ n → n < 10 ^ d → n ≤ 1000000000 → s.size + d ≤ 1000 → ∃ r, laws_markText.l0 (d + 1) n s = some r := by
  induction d with
  | zero =>
    intro n s h0 h1 hb hs
    simp only [laws_markText.l0]
    have : (10 : Int) ^ 0 = 1 := rfl
    rw [if_neg (by omega), if_pos (by omega)]
    exact ⟨_, rfl⟩
  | succ d ih =>
    intro n s h0 h1 hb hs
    rw [laws_markText.l0]
    by_cases c : n > 0
    · rw [if_pos c]
      simp only [Option.bind_some]
      have hz : (strOfNums [wrap64 (48 + Int.tmod n 10) % 256]).size = 1 := by rw [strOfNums_size]; rfl
      rw [hz, if_pos (by omega), Int.tdiv_eq_ediv_of_nonneg h0]
      have hq : 0 ≤ n / 10 := Int.ediv_nonneg h0 (by omega)
      have e : (10 : Int) ^ (d + 1) = 10 ^ d * 10 := Int.pow_succ ..
      rw [e] at h1
      have hq2 : n / 10 < 10 ^ d := Int.ediv_lt_of_lt_mul (by omega) h1
      have hle : n / 10 ≤ n := Int.ediv_le_self _ h0
      have w : wrap64 (n / 10) = n / 10 := by unfold wrap64; omega
      rw [w]
      refine ih _ _ hq hq2 (by omega) ?_
      rw [ByteArray.size_append, hz]
      omega
    · rw [if_neg c, if_pos (by omega)]
      exact ⟨_, rfl⟩

theorem text_f (n : Int) (h0 : 0 ≤ n) (h1 : n ≤ 10000000) : ∃ r, laws_markText.f 20 n = some r := by
  unfold laws_markText.f
  by_cases c : n ≤ 0
  · rw [if_pos c]; exact ⟨_, rfl⟩
  · rw [if_neg c]
    exact text_some 19 n _ h0 (by omega) (by omega) (by decide)

/-- The texts of the marks. -/
def Texts (mt : Int → ByteArray) : Prop := ∀ n : Int, 0 ≤ n → n ≤ 10000000 → ∀ k, 20 ≤ k → laws_markText.f k n = some (mt n)
theorem texts : ∃ mt, Texts mt := by
  refine ⟨fun n => (laws_markText.f 20 n).getD ByteArray.empty, fun n h0 h1 k hk => ?_⟩
  obtain ⟨r, hr⟩ := text_f n h0 h1
  show laws_markText.f k n = some ((laws_markText.f 20 n).getD ByteArray.empty)
  rw [hr, Option.getD_some]
  exact at_rounds (g := fun k => laws_markText.f k n) (fun k => laws_markText.mono n k) hk hr


def dsum (l : List S46) : Nat := (l.map fun x => x.f2.length).sum
theorem dsum_cons (x : S46) (l : List S46) : dsum (x :: l) = x.f2.length + dsum l := by unfold dsum; rw [List.map_cons, List.sum_cons]

def mb (n : Nat) (a : Int) : List Int := (List.range n).map fun j : Nat => (a + (j : Int)) % 256
theorem mb_length (n : Nat) (a : Int) : (mb n a).length = n := by unfold mb; simp

theorem mark_bytes_run (n : Nat) (a : Int) (h0 : 0 ≤ a) (h1 : a + n ≤ 1000000000) : ∀ (d k i : Nat) (l : List Int), l.length = n → n - i = d → i ≤ n → d < k → (∀ j, j < i → l[j]? = some ((a + (j : Int)) % 256)) →
    ∃ out, laws_markByteS.l0 k l (a + (i : Int)) (i : Int) = some (a + (n : Int), out) ∧ out.length = n ∧ ∀ j, j < n → out[j]? = some ((a + (j : Int)) % 256) := by
  intro d
  induction d with
  | zero =>
    intro k i l hl hd hi hk hm
    obtain ⟨k, rfl⟩ : ∃ m, k = m + 1 := ⟨k - 1, by omega⟩
    obtain rfl : i = n := by omega
    refine ⟨l, ?_, hl, hm⟩
    simp only [laws_markByteS.l0]
    rw [if_neg (by omega)]
  | succ d ih =>
    intro k i l hl hd hi hk hm
    obtain ⟨k, rfl⟩ : ∃ m, k = m + 1 := ⟨k - 1, by omega⟩
    have w1 : wrap64 (a + (i : Int) + 1) = a + ((i + 1 : Nat) : Int) := by unfold wrap64; omega
    have w2 : wrap64 ((i : Int) + 1) = ((i + 1 : Nat) : Int) := by unfold wrap64; omega
    simp only [laws_markByteS.l0]
    rw [if_pos (by omega), if_pos (by omega), w1, w2, Int.toNat_natCast]
    refine ih k (i + 1) _ (by simpa using hl) (by omega) (by omega) (by omega) (fun j hj => ?_)
    by_cases e : j = i
    · subst e
      exact List.getElem?_set_self (by omega)
    · rw [List.getElem?_set_ne (fun h => e h.symm)]
      exact hm j (by omega)

theorem mb_get (n : Nat) (a : Int) (j : Nat) (hj : j < n) : (mb n a)[j]? = some ((a + (j : Int)) % 256) := by
  unfold mb
  rw [List.getElem?_map, List.getElem?_range hj]
  rfl

theorem mark_bytes (l : List Int) (a : Int) (k : Nat) (h0 : 0 ≤ a) (h1 : a + l.length ≤ 1000000000) (hk : l.length < k) : laws_markByteS.f k l a = some (a + (l.length : Int), mb l.length a) := by
  obtain ⟨out, e1, e2, e3⟩ := mark_bytes_run l.length a h0 h1 l.length k 0 l rfl (by omega) (by omega) hk (fun j hj => by omega)
  unfold laws_markByteS.f
  have e : out = mb l.length a := by
    apply List.ext_getElem?
    intro j
    by_cases hj : j < l.length
    · rw [e3 j hj, mb_get _ _ _ hj]
    · rw [List.getElem?_eq_none (by omega), List.getElem?_eq_none (by rw [mb_length]; omega)]
  rw [show a + ((0 : Nat) : Int) = a by omega] at e1
  rw [← e]
  exact e1

theorem held_bytes (n : Nat) (a : Int) (h0 : 0 ≤ a) (h1 : a + n ≤ 1000000000) (k : Nat) (hk : n < k) : laws_heldByteS.f k (mb n a) a = some (a + (n : Int)) := by
  have run : ∀ (d k i : Nat), n - i = d → i ≤ n → d < k → laws_heldByteS.l0 k (mb n a) (a + (i : Int)) (i : Int) = some (a + (n : Int)) := by
    intro d
    induction d with
    | zero =>
      intro k i hd hi hk
      obtain ⟨k, rfl⟩ : ∃ m, k = m + 1 := ⟨k - 1, by omega⟩
      obtain rfl : i = n := by omega
      simp only [laws_heldByteS.l0]
      rw [if_neg (by rw [mb_length]; omega)]
    | succ d ih =>
      intro k i hd hi hk
      obtain ⟨k, rfl⟩ : ∃ m, k = m + 1 := ⟨k - 1, by omega⟩
      have w1 : wrap64 (a + (i : Int) + 1) = a + ((i + 1 : Nat) : Int) := by unfold wrap64; omega
      have w2 : wrap64 ((i : Int) + 1) = ((i + 1 : Nat) : Int) := by unfold wrap64; omega
      have hr : rd (mb n a) (i : Int) = (a + (i : Int)) % 256 := by
        unfold rd
        rw [List.getD_eq_getElem?_getD, Int.toNat_natCast, mb_get _ _ _ (by omega)]
        rfl
      simp only [laws_heldByteS.l0]
      rw [if_pos (by rw [mb_length]; omega), if_pos (by omega), if_pos hr, w1, w2]
      exact ih k (i + 1) (by omega) (by omega) (by omega)
  have := run n k 0 (by omega) (by omega) hk
  unfold laws_heldByteS.f
  rw [show a + ((0 : Nat) : Int) = a by omega] at this
  exact this

/-- Boxes, marked from a number on. -/
def mboxes (mt : Int → ByteArray) : List S46 → Int → List S46
  | [], _ => []
  | x :: xs, a => ⟨mt a, a + 1, mb x.f2.length (a + 2)⟩ :: mboxes mt xs (a + 2 + (x.f2.length : Int))
theorem mboxes_length (mt : Int → ByteArray) : ∀ (xs : List S46) (a : Int), (mboxes mt xs a).length = xs.length
  | [], _ => rfl
  | x :: xs, a => by rw [mboxes, List.length_cons, List.length_cons, mboxes_length mt xs]

theorem mark_boxes_run (mt : Int → ByteArray) (ht : Texts mt) : ∀ (xs done : List S46) (a : Int) (k : Nat), 0 ≤ a → a + 2 * (xs.length : Int) + (dsum xs : Int) ≤ 10000000 → xs.length + dsum xs + 21 < k →
    markBoxS0.l0 k (done ++ xs) a done.length = some (a + 2 * (xs.length : Int) + (dsum xs : Int), done ++ mboxes mt xs a) := by
  intro xs
  induction xs with
  | nil =>
    intro done a k h0 h1 hk
    obtain ⟨k, rfl⟩ : ∃ m, k = m + 1 := ⟨k - 1, by omega⟩
    simp only [markBoxS0.l0]
    rw [if_neg (by simp)]
    simp [dsum, mboxes]
  | cons x xs ih =>
    intro done a k h0 h1 hk
    rw [dsum_cons, List.length_cons] at h1 hk
    obtain ⟨k, rfl⟩ : ∃ m, k = m + 1 := ⟨k - 1, by omega⟩
    have hr : rd_T46 (done ++ x :: xs) (done.length : Int) = x := by
      unfold rd_T46
      rw [List.getD_eq_getElem?_getD, Int.toNat_natCast, List.getElem?_append_right (Nat.le_refl _), Nat.sub_self]
      rfl
    have w1 : wrap64 (a + 1) = a + 1 := by unfold wrap64; omega
    have w2 : wrap64 (a + 1 + 1) = a + 2 := by unfold wrap64; omega
    rw [markBoxS0.l0]
    rw [if_pos (by rw [List.length_append, List.length_cons]; omega), ht a h0 (by omega) k (by omega), Option.bind_some, hr, w1, w2, mark_bytes x.f2 (a + 2) k (by omega) (by omega) (by omega), Option.bind_some]
    have hs : (done ++ x :: xs).set done.length ⟨mt a, a + 1, mb x.f2.length (a + 2)⟩ = (done ++ [⟨mt a, a + 1, mb x.f2.length (a + 2)⟩]) ++ xs := by
      rw [List.set_append_right _ _ (Nat.le_refl _), Nat.sub_self, List.set_cons_zero, List.append_assoc]
      rfl
    have := ih (done ++ [⟨mt a, a + 1, mb x.f2.length (a + 2)⟩]) (a + 2 + (x.f2.length : Int)) k (by omega) (by omega) (by omega)
    rw [List.length_append, List.length_cons, List.length_nil] at this
    show markBoxS0.l0 k ((done ++ x :: xs).set done.length _) _ _ = _
    rw [hs, this, mboxes, dsum_cons, List.length_cons, List.append_assoc]
    congr 2
    omega

theorem mark_boxes (mt : Int → ByteArray) (ht : Texts mt) (xs : List S46) (hs : xs.length + dsum xs ≤ 1048576) (k : Nat) (hk : 1048600 ≤ k) : markBoxS0.f k xs 1 = some (1 + 2 * (xs.length : Int) + (dsum xs : Int), mboxes mt xs 1) := by
  unfold markBoxS0.f
  rw [if_pos (by omega)]
  exact mark_boxes_run mt ht xs [] 1 k (by omega) (by omega) (by omega)



theorem sz_sum (l : List S45) (hd : ∀ x ∈ l, x.f0.size ≤ 2 ^ 63 - 1 ∧ x.f2.length ≤ 2 ^ 63 - 1) (hl : l.length ≤ 1048576) : ∀ (k i : Nat) (a t : Int), i ≤ l.length → 0 ≤ a → a ≤ 1048576 → laws_szBoxS.l0 k l a (i : Int) = some t → 0 ≤ t → (dsum ((l.drop i).map conv) : Int) ≤ a := by
  intro k
  induction k with
  | zero => intro i a t _ _ _ h; simp [laws_szBoxS.l0] at h
  | succ k ih =>
    intro i a t hi ha hb h ht
    by_cases c : i < l.length
    · have hx : l[i]? = some l[i] := List.getElem?_eq_getElem c
      have hm := hd l[i] (List.mem_of_getElem? hx)
      have hr := rd45 l (i : Int) l[i] (by rw [Int.toNat_natCast]; exact hx)
      have wi : wrap64 ((i : Int) + 1) = ((i + 1 : Nat) : Int) := by unfold wrap64; omega
      rw [List.drop_eq_getElem_cons c, List.map_cons, dsum_cons]
      show (((l[i].f2.length + dsum ((l.drop (i + 1)).map conv) : Nat)) : Int) ≤ a
      generalize l[i] = x at hm hr ⊢
      have w1 : wrap64 (a - (x.f0.size : Int)) = a - (x.f0.size : Int) := by unfold wrap64; omega
      simp only [laws_szBoxS.l0] at h
      rw [if_pos (by omega), if_pos (by omega), hr] at h
      unfold laws_szBox.f laws_szByteS.f at h
      rw [w1, wi] at h
      by_cases c1 : a - (x.f0.size : Int) < 0
      · rw [if_pos c1] at h
        simp at h
        omega
      · rw [if_neg c1] at h
        have w2 : wrap64 (a - (x.f0.size : Int) - (x.f2.length : Int)) = a - (x.f0.size : Int) - (x.f2.length : Int) := by unfold wrap64; omega
        rw [w2] at h
        by_cases c2 : a - (x.f0.size : Int) - (x.f2.length : Int) < 0
        · rw [if_pos c2] at h
          simp at h
          omega
        · rw [if_neg c2] at h
          simp only [Option.bind_some, if_neg c2] at h
          have := ih (i + 1) _ t (by omega) (by omega) (by omega) h ht
          omega
    · rw [List.drop_of_length_le (by omega)]
      simpa [dsum] using ha

theorem sz_total (l : List S45) (hm : l.length ≤ 2 ^ 63 - 1) (hd : ∀ x ∈ l, x.f0.size ≤ 2 ^ 63 - 1 ∧ x.f2.length ≤ 2 ^ 63 - 1) (k : Nat) (t : Int) (h : laws_szBoxS.f k l 1048576 = some t) (ht : 0 ≤ t) : l.length + dsum (l.map conv) ≤ 1048576 := by
  unfold laws_szBoxS.f at h
  have hw : wrap64 (1048576 - (l.length : Int)) = 1048576 - (l.length : Int) := by unfold wrap64; omega
  rw [hw] at h
  by_cases c : 1048576 - (l.length : Int) < 0
  · rw [if_pos c] at h
    simp at h
    omega
  · rw [if_neg c] at h
    have := sz_sum l hd (by omega) k 0 _ t (by omega) (by omega) (by omega) h ht
    rw [List.drop_zero] at this
    omega

theorem dsum_drop (l : List S46) (i : Nat) (h : i < l.length) : dsum (l.drop i) = (rd_T46 l (i : Int)).f2.length + dsum (l.drop (i + 1)) := by
  rw [List.drop_eq_getElem_cons h, dsum_cons, rd46 l (i : Int) l[i] (by rw [Int.toNat_natCast]; exact List.getElem?_eq_getElem h)]

/-- A right list's bytes are not too many. -/
theorem ok_sum (l : List S46) (hl : l.length ≤ 200) (hd : ∀ x ∈ l, x.f2.length ≤ 1048576) : ∀ (d k : Nat) (i : Nat) (x : Int), i ≤ l.length → l.length - i = d → 0 ≤ x → x ≤ 1048576 * (i : Int) → impl_BoxesOk.l0 k l x l (l.length : Int) (i : Int) = some true → x + (dsum (l.drop i) : Int) ≤ 20000 := by
  intro d
  induction d with
  | zero =>
    intro k i x hi hd' h0 h1 h
    cases k with
    | zero => simp [impl_BoxesOk.l0] at h
    | succ k =>
      simp only [impl_BoxesOk.l0] at h
      rw [if_neg (by omega)] at h
      have := of_decide_eq_true (Option.some.inj h)
      rw [List.drop_of_length_le (by omega)]
      simpa [dsum] using this
  | succ d ih =>
    intro k i x hi hd' h0 h1 h
    cases k with
    | zero => simp [impl_BoxesOk.l0] at h
    | succ k =>
      rw [impl_step l hl k x (i : Int) (by omega) (by omega)] at h
      obtain ⟨t, _, h⟩ := Option.bind_eq_some_iff.1 h
      cases t with
      | false => simp at h
      | true =>
        rw [if_pos rfl] at h
        have hb := hd _ (List.mem_of_getElem? (List.getElem?_eq_getElem (show i < l.length by omega)))
        rw [← rd46 l (i : Int) l[i] (by rw [Int.toNat_natCast]; exact List.getElem?_eq_getElem (by omega))] at hb
        have hw : wrap64 (x + ((rd_T46 l (i : Int)).f2.length : Int)) = x + ((rd_T46 l (i : Int)).f2.length : Int) := by unfold wrap64; omega
        rw [hw] at h
        have := ih k (i + 1) _ (by omega) (by omega) (by omega) (by omega) h
        rw [dsum_drop l i (by omega)]
        omega

theorem cost_eq (l : List S46) (h : ∀ x ∈ l, x.f0.size = 4) : cost l = 8 * l.length + dsum l := by
  induction l with
  | nil => rfl
  | cons x xs ih =>
    have h1 := h x (List.mem_cons_self ..)
    have h2 := ih (fun y hy => h y (List.mem_cons_of_mem _ hy))
    have h3 : cost (x :: xs) = bcost x + cost xs := by unfold cost; rw [List.map_cons, List.sum_cons]
    have h4 : bcost x = 4 + x.f0.size + x.f2.length := rfl
    rw [h3, dsum_cons, List.length_cons, h2, h4, h1]
    omega

/-- ShowBoxes of the program and of the reference answer alike. -/
theorem show_eq (l : List S46) (hd : ∀ x ∈ l, x.f2.length ≤ 1048576) (k : Nat) (hk : 500 ≤ k) : ∃ r, r.length ≤ 1000000 ∧ spec_ShowBoxes.f k l = some r ∧ impl_ShowBoxes.f k l = some r := by
  obtain ⟨r, h1, h2, h3⟩ := boxes_eq l k hk
  unfold spec_ShowBoxes.f impl_ShowBoxes.f
  rw [h1, h2]
  simp only [Option.bind_some]
  cases r with
  | false => exact ⟨[], by simp, rfl, rfl⟩
  | true =>
    obtain ⟨hl, hok⟩ := h3 rfl
    have hs : ∀ x ∈ l, x.f0.size = 4 := fun x hx => by
      obtain ⟨n, hn⟩ := List.getElem?_of_mem hx
      have hlt : n < l.length := (List.getElem?_eq_some_iff.1 hn).1
      have := (hok (n : Int) (by omega) (by omega)).1
      rw [rd46 l (n : Int) x (by rw [Int.toNat_natCast]; exact hn)] at this
      exact this
    have hsum : (0 : Int) + (dsum (l.drop 0) : Int) ≤ 20000 := ok_sum l hl hd l.length k 0 0 (by omega) (by omega) (by omega) (by omega) (by
      unfold impl_BoxesOk.f at h2
      rw [if_neg (by omega)] at h2
      exact h2)
    rw [List.drop_zero] at hsum
    have hc := cost_eq l hs
    obtain ⟨out, e1, e2⟩ := shw_some l.length l [] 0 k (by omega) (by omega) (by omega) (by rw [List.drop_zero, hc]; simp only [List.length_nil]; omega) (by omega)
    refine ⟨out, ?_, ?_, ?_⟩
    · rw [e2, List.drop_zero, hc]
      simp only [List.length_nil]
      omega
    · rw [if_pos rfl]
      unfold spec_l2Show.f
      rw [if_pos (by omega), e1]
      rfl
    · rw [if_pos rfl]
      unfold impl_showBoxes.f
      rw [if_pos (by omega), e1]
      rfl

theorem FnExactShowBoxes (l0 : List PFnExactShowBoxes.S45) (w0 : (l0.length ≤ maxLen ∧ ∀ y2 ∈ l0, (y2.f0.size ≤ maxLen) ∧ (((Lit.int .i64 y2.f1).wf = true) ∧ ((y2.f2.length ≤ maxLen ∧ ∀ y5 ∈ y2.f2, (Lit.int .u8 y5).wf = true))))) : ∃ k, PFnExactShowBoxes.laws_FnExactShowBoxes.f k l0 = some true := by
  have hm := w0.1
  have hd : ∀ x ∈ l0, x.f0.size ≤ 2 ^ 63 - 1 ∧ x.f2.length ≤ 2 ^ 63 - 1 := fun x hx => ⟨(w0.2 x hx).1, (w0.2 x hx).2.2.1⟩
  unfold maxLen at hm
  obtain ⟨k, hk⟩ : ∃ k, k = 2200000 := ⟨_, rfl⟩
  refine ⟨k + 3, ?_⟩
  unfold laws_FnExactShowBoxes.f
  obtain ⟨t, ht, hs⟩ := sz_all l0 hm hd (k + 3) (by omega)
  have hT := sz_total l0 hm hd (k + 3) t ht
  rw [ht]
  simp only [Option.bind_some]
  by_cases c : t < 0
  · rw [if_pos c]
  · rw [if_neg c]
    obtain ⟨h1, h2⟩ := hs (by omega)
    have hsum := hT (by omega)
    have hb : ∀ x ∈ l0.map conv, x.f2.length ≤ 1048576 := fun x hx => by
      obtain ⟨y, hy, rfl⟩ := List.mem_map.1 hx
      exact (h2 y hy).1
    have hl2 : (l0.map conv).length ≤ 1048576 := by simpa using h1
    have hto : ∀ k, 2097155 ≤ k → laws_toBoxS.f k l0 = some (l0.map conv) := fun k hk => to_boxes l0 h1 (fun x hx => (h2 x hx).1) k hk
    have hsum2 : (l0.map conv).length + dsum (l0.map conv) ≤ 1048576 := by rw [List.length_map]; exact hsum
    generalize l0.map conv = l at hb hl2 hto hsum2
    rw [hto _ (by omega)]
    simp only [Option.bind_some]
    obtain ⟨r, hr, s1, i1⟩ := show_eq l hb (k + 3) (by omega)
    obtain ⟨r', _, _, i2⟩ := show_eq l hb (k + 2) (by omega)
    have e : r' = r := by
      have a := at_rounds (g := fun k => impl_ShowBoxes.f k l) (fun k => impl_ShowBoxes.mono _ k) (show k + 2 ≤ k + 3 by omega) i2
      exact Option.some.inj (a.symm.trans i1)
    subst e
    obtain ⟨mt, htx⟩ := texts
    rw [s1, i1]
    simp only [Option.bind_some]
    rw [eq_bytes r' (by omega) (k + 3) (by omega)]
    simp only [Option.bind_some, if_true]
    rw [eq_boxes l hl2 hb (k + 3) (by omega)]
    simp only [Option.bind_some, if_true]
    unfold laws_markBoxS.f
    rw [mark_boxes mt htx l hsum2 (k + 3) (by omega)]
    simp only [Option.bind_some]
    rw [if_neg (by omega)]
    simp only [Bool.not_true]
    rw [laws_FnExactShowBoxes.j0, if_neg (by decide), mark_bytes r' 1 (k + 2) (by omega) (by omega) (by omega)]
    simp only [Option.bind_some]
    rw [held_bytes r'.length 1 (by omega) (by omega) (k + 2) (by omega)]
    simp only [Option.bind_some]
    rw [if_neg (by omega), if_pos trivial, hto _ (by omega)]
    simp only [Option.bind_some]
    rw [i2]
    simp only [Option.bind_some]
    rw [eq_bytes r' (by omega) (k + 2) (by omega)]
    simp only [Option.bind_some, if_true]
    rw [if_neg (by omega)]

end Go.Proofs.Ytpennfkjfeipcaa.Pure
