/- Proved: the plain law behind FnFound. No condition. -/
import Derived.Test.YtpennfkjfeipcaaDoorPFnFoundx9
namespace Go.Proofs.YtpennfkjfeipcaaDoor.Pure
open Go.RowKit Go.Proofs.YtpennfkjfeipcaaDoor.PFnFound Go.Proofs.YtpennfkjfeipcaaDoorW.PrintWords Go.Proofs.YtpennfkjfeipcaaDoorW.PrintLast

set_option linter.unusedVariables false
set_option linter.unusedSimpArgs false

theorem run_to {α : Type} (F : Nat → Int → Option α) (n : Int) (r : α) (step : ∀ k i, 0 ≤ i → i < n → F (k + 1) i = F k (i + 1)) (stop : ∀ k, F (k + 1) n = some r) :
    ∀ (d k : Nat) (i : Int), 0 ≤ i → i ≤ n → n - i = d → d < k → F k i = some r := by
  intro d
  induction d with
  | zero =>
    intro k i h0 h1 hd hk
    obtain ⟨k, rfl⟩ : ∃ m, k = m + 1 := ⟨k - 1, by omega⟩
    obtain rfl : i = n := by omega
    exact stop k
  | succ d ih =>
    intro k i h0 h1 hd hk
    obtain ⟨k, rfl⟩ : ∃ m, k = m + 1 := ⟨k - 1, by omega⟩
    rw [step k i h0 (by omega)]
    exact ih k (i + 1) (by omega) (by omega) (by omega) (by omega)

theorem set_to {α β : Type} (F : Nat → List β → Int → Option (List β)) (l : List α) (conv : α → β)
    (step : ∀ k acc i x, 0 ≤ i → l[i.toNat]? = some x → acc.length = l.length → F (k + 1) acc i = F k (acc.set i.toNat (conv x)) (i + 1)) (stop : ∀ k acc, F (k + 1) acc (l.length : Int) = some acc) :
    ∀ (d k : Nat) (acc : List β) (i : Int), 0 ≤ i → i ≤ l.length → (l.length : Int) - i = d → d < k → acc.length = l.length → F k acc i = some (acc.take i.toNat ++ (l.drop i.toNat).map conv) := by
  intro d
  induction d with
  | zero =>
    intro k acc i h0 h1 hd hk ha
    obtain ⟨k, rfl⟩ : ∃ m, k = m + 1 := ⟨k - 1, by omega⟩
    obtain rfl : i = (l.length : Int) := by omega
    rw [stop k]
    simp [← ha]
  | succ d ih =>
    intro k acc i h0 h1 hd hk ha
    obtain ⟨k, rfl⟩ : ∃ m, k = m + 1 := ⟨k - 1, by omega⟩
    have hlt : i.toNat < l.length := by omega
    have hx : l[i.toNat]? = some l[i.toNat] := List.getElem?_eq_getElem hlt
    rw [step k acc i _ h0 hx ha, ih k _ (i + 1) (by omega) (by omega) (by omega) (by omega) (by simpa using ha)]
    have e : (i + 1).toNat = i.toNat + 1 := by omega
    rw [e]
    congr 1
    rw [List.take_succ_eq_append_getElem (by simp; omega)]
    rw [List.drop_eq_getElem_cons hlt, List.map_cons, List.getElem_set_self, List.take_set_of_le (Nat.le_refl _), List.append_assoc]
    rfl

theorem in_some (a b c : Int) : impl_in.f a b c = some (decide (b ≤ a ∧ a ≤ c)) := by
  unfold impl_in.f
  by_cases h : b ≤ a
  · simp [h]
  · simp [h]

theorem in_spec (a b c : Int) : spec_l1In.f a b c = some (decide (b ≤ a ∧ a ≤ c)) := in_some a b c

/-- A letter or a digit. -/
def Good (c : Int) : Prop := (48 ≤ c ∧ c ≤ 57) ∨ (65 ≤ c ∧ c ≤ 90) ∨ (97 ≤ c ∧ c ≤ 122)

instance (c : Int) : Decidable (Good c) := by unfold Good; infer_instance

theorem spec_char (c : Int) (n : Option Bool) : (if c < 48 then (if c < 97 then (if c < 65 then (some false) else (if c > 90 then (some false) else n)) else (if c > 122 then (if c < 65 then (some false) else (if c > 90 then (some false) else n)) else n)) else (if c > 57 then (if c < 97 then (if c < 65 then (some false) else (if c > 90 then (some false) else n)) else (if c > 122 then (if c < 65 then (some false) else (if c > 90 then (some false) else n)) else n)) else n)) = if Good c then n else some false := by
  by_cases g : Good c
  · rw [if_pos g]
    unfold Good at g
    repeat' split
    all_goals first | rfl | omega
  · rw [if_neg g]
    unfold Good at g
    repeat' split
    all_goals first | rfl | omega

theorem impl_char (c : Int) (n : Option Bool) : ((impl_isLetter.f c).bind fun t135 => (if t135 = true then n else ((impl_isDigit.f c).bind fun t136 => (if t136 = true then n else (some false))))) = if Good c then n else some false := by
  have h1 : impl_isLetter.f c = some (decide ((97 ≤ c ∧ c ≤ 122) ∨ (65 ≤ c ∧ c ≤ 90))) := by
    unfold impl_isLetter.f
    repeat' split
    all_goals (congr 1; first | (symm; apply decide_eq_true; omega) | (symm; apply decide_eq_false; omega) | (apply decide_eq_decide.2; omega))
  have h2 : impl_isDigit.f c = some (decide (48 ≤ c ∧ c ≤ 57)) := by
    unfold impl_isDigit.f
    repeat' split
    all_goals (congr 1; first | (symm; apply decide_eq_true; omega) | (symm; apply decide_eq_false; omega) | (apply decide_eq_decide.2; omega))
  rw [h1, h2]
  simp only [Option.bind_some, decide_eq_true_eq]
  by_cases g1 : (97 ≤ c ∧ c ≤ 122) ∨ (65 ≤ c ∧ c ≤ 90)
  · rw [if_pos g1, if_pos (by unfold Good; omega)]
  · rw [if_neg g1]
    by_cases g2 : 48 ≤ c ∧ c ≤ 57
    · rw [if_pos g2, if_pos (by unfold Good; omega)]
    · rw [if_neg g2, if_neg (by unfold Good; omega)]

theorem kind_l (s : ByteArray) (hs : (s.size : Int) = 4) : ∀ (d k k' : Nat) (i : Int), 0 ≤ i → i ≤ 4 → 4 - i = d → d < k → d < k' → ∃ r, spec_l2Kind.l0 k s i = some r ∧ impl_kindOk.l0 k' s 4 i = some r ∧ (r = true → ∀ j : Int, i ≤ j → j < 4 → Good (bt s j)) := by
  intro d
  induction d with
  | zero =>
    intro k k' i h0 h1 hd hk hk'
    obtain ⟨k, rfl⟩ : ∃ m, k = m + 1 := ⟨k - 1, by omega⟩
    obtain ⟨k', rfl⟩ : ∃ m, k' = m + 1 := ⟨k' - 1, by omega⟩
    refine ⟨true, ?_, ?_, fun _ j h2 h3 => by omega⟩
    · simp only [spec_l2Kind.l0]; rw [if_neg (by omega)]
    · simp only [impl_kindOk.l0]; rw [if_neg (by omega)]
  | succ d ih =>
    intro k k' i h0 h1 hd hk hk'
    obtain ⟨k, rfl⟩ : ∃ m, k = m + 1 := ⟨k - 1, by omega⟩
    obtain ⟨k', rfl⟩ : ∃ m, k' = m + 1 := ⟨k' - 1, by omega⟩
    have wi : wrap64 (i + 1) = i + 1 := by unfold wrap64; omega
    obtain ⟨r, a, b, hg⟩ := ih k k' (i + 1) (by omega) (by omega) (by omega) (by omega) (by omega)
    have hS : spec_l2Kind.l0 (k + 1) s i = if Good (bt s i) then spec_l2Kind.l0 k s (i + 1) else some false := by
      simp only [spec_l2Kind.l0]
      rw [if_pos (by omega), if_pos h0, if_pos (by omega), spec_char, wi]
    have hI : impl_kindOk.l0 (k' + 1) s 4 i = if Good (bt s i) then impl_kindOk.l0 k' s 4 (i + 1) else some false := by
      simp only [impl_kindOk.l0]
      rw [if_pos (by omega), if_pos h0, if_pos (by omega), impl_char, wi]
    rw [hS, hI, a, b]
    by_cases g : Good (bt s i)
    · rw [if_pos g]
      refine ⟨r, rfl, rfl, fun h j h2 h3 => ?_⟩
      by_cases e : j = i
      · rw [e]; exact g
      · exact hg h j (by omega) h3
    · rw [if_neg g]; exact ⟨false, rfl, rfl, fun h => by simp at h⟩

theorem kind_eq (s : ByteArray) : ∃ r, (r = true → s.size = 4 ∧ ∀ j : Int, 0 ≤ j → j < 4 → Good (bt s j)) ∧ ∀ k, 6 ≤ k → spec_l2Kind.f k s = some r ∧ impl_kindOk.f k s = some r := by
  by_cases c : (s.size : Int) = 4
  · obtain ⟨r, a, b, hg⟩ := kind_l s c 4 5 5 0 (by omega) (by omega) (by omega) (by omega) (by omega)
    refine ⟨r, fun h => ⟨by omega, fun j h2 h3 => hg h j h2 h3⟩, fun k hk => ?_⟩
    obtain ⟨r1, a1, b1, _⟩ := kind_l s c 4 k 5 0 (by omega) (by omega) (by omega) (by omega) (by omega)
    obtain ⟨r2, a2, b2, _⟩ := kind_l s c 4 5 k 0 (by omega) (by omega) (by omega) (by omega) (by omega)
    unfold spec_l2Kind.f impl_kindOk.f
    rw [if_pos c, if_pos c, c]
    obtain rfl := Option.some.inj (b1.symm.trans b)
    obtain rfl := Option.some.inj (a2.symm.trans a)
    exact ⟨a1, b2⟩
  · refine ⟨false, fun h => by simp at h, fun k hk => ?_⟩
    unfold spec_l2Kind.f impl_kindOk.f
    rw [if_neg c, if_neg c]
    exact ⟨rfl, rfl⟩

def hold (s : ByteArray) : Bool := decide (65 ≤ bt s 0 ∧ bt s 0 ≤ 90)

theorem hold_i (s : ByteArray) (d : Int) (l : List Int) (h : s.size = 4) : impl_Box_holds.f s d l = some (hold s) := by
  unfold impl_Box_holds.f hold
  rw [if_pos (by omega)]
  by_cases c : 65 ≤ bt s 0
  · rw [if_pos c]; simp [c]
  · rw [if_neg c]; simp [c]

theorem hold_s (s : ByteArray) (h : s.size = 4) : spec_l2Holds.f s = some (hold s) := hold_i s 0 [] h

/-- Whether the box b may stand at place i, behind a. -/
def fitB (b a : S34) (i : Int) : Bool := !(hold b.f0 && decide ((b.f2.length : Int) > 0)) && decide (0 ≤ b.f1 ∧ b.f1 ≤ (if i = 0 then 0 else mn (if hold a.f0 = true then a.f1 + 1 else a.f1) 8))

theorem spec_step (l : List S34) (hl : l.length ≤ 200) (x i : Int) (h0 : 0 ≤ i) (hlt : i < (l.length : Int)) (k : Nat) (hk : 8 ≤ k) (hkind : spec_l2Kind.f (k + 1) (rd_T34 l i).f0 = some true) (hs : (rd_T34 l i).f0.size = 4)
    (hp : 0 < i → (rd_T34 l (i - 1)).f0.size = 4 ∧ 0 ≤ (rd_T34 l (i - 1)).f1 ∧ (rd_T34 l (i - 1)).f1 ≤ 8) :
    spec_BoxesOk.l0 (k + 2) l x i = if fitB (rd_T34 l i) (rd_T34 l (i - 1)) i = true then spec_BoxesOk.l0 k l (wrap64 (x + ((rd_T34 l i).f2.length : Int))) (i + 1) else some false := by
  have wi : wrap64 (i + 1) = i + 1 := by unfold wrap64; omega
  have wj : wrap64 (i - 1) = i - 1 := by unfold wrap64; omega
  simp only [spec_BoxesOk.l0]
  rw [if_pos hlt, if_pos h0, hkind]
  simp only [Option.bind_some, if_true, spec_BoxesOk.j1, in_spec]
  rw [hold_s _ hs, wi, wj]
  simp only [Option.bind_some]
  generalize hn : spec_BoxesOk.l0 k l (wrap64 (x + ((rd_T34 l i).f2.length : Int))) (i + 1) = nx
  generalize hb : rd_T34 l i = b at *
  generalize ha : rd_T34 l (i - 1) = a at *
  unfold fitB
  clear hn
  generalize (b.f2.length : Int) = m
  by_cases hi : i = 0
  · subst hi
    have e0 : ¬ (0 : Int) > 0 := by omega
    by_cases d : 0 ≤ b.f1 ∧ b.f1 ≤ 8
    · by_cases h1 : hold b.f0 = true
      · by_cases h2 : m > 0
        · simp [d, h1, h2]
        · by_cases z : b.f1 = 0
          · simp [d, h1, h2, z]
          · have : ¬ b.f1 ≤ 0 := by omega
            simp [d, h1, h2, z, this]
      · by_cases z : b.f1 = 0
        · simp [d, h1, z]
        · have : ¬ b.f1 ≤ 0 := by omega
          simp [d, h1, z, this]
    · have : ¬ (0 ≤ b.f1 ∧ b.f1 ≤ 0) := by omega
      simp [d, this]
  · have hip : i > 0 := by omega
    obtain ⟨p1, p2, p3⟩ := hp hip
    have e1 : (0 : Int) ≤ i - 1 := by omega
    have e2 : i - 1 < (l.length : Int) := by omega
    have wa : wrap64 (a.f1 + 1) = a.f1 + 1 := by unfold wrap64; omega
    rw [hold_s _ p1, wa]
    unfold mn
    simp only [Option.bind_some, if_pos hip, if_pos e1, if_pos e2, if_neg hi]
    have key : ∀ m : Bool, m = decide (0 ≤ b.f1 ∧ b.f1 ≤ (if 8 < (if hold a.f0 = true then a.f1 + 1 else a.f1) then 8 else (if hold a.f0 = true then a.f1 + 1 else a.f1))) → (0 ≤ b.f1 ∧ b.f1 ≤ 8) →
        (if b.f1 > a.f1 then if b.f1 = a.f1 + 1 then if hold a.f0 = true then nx else some false else some false else nx) = if m = true then nx else some false := by
      intro m hm d
      subst hm
      by_cases h : hold a.f0 = true
      · simp only [h, if_true]
        by_cases c1 : b.f1 > a.f1
        · by_cases c2 : b.f1 = a.f1 + 1
          · rw [if_pos c1, if_pos c2, if_pos]
            apply decide_eq_true
            split <;> omega
          · rw [if_pos c1, if_neg c2, if_neg]
            intro q
            have q := of_decide_eq_true q
            split at q <;> omega
        · rw [if_neg c1, if_pos]
          apply decide_eq_true
          split <;> omega
      · simp only [h, if_false, Bool.false_eq_true]
        by_cases c1 : b.f1 > a.f1
        · have hq : ¬ decide (0 ≤ b.f1 ∧ b.f1 ≤ (if 8 < a.f1 then 8 else a.f1)) = true := by
            intro q
            have q := of_decide_eq_true q
            split at q <;> omega
          rw [if_pos c1, if_neg hq]
          split <;> rfl
        · rw [if_neg c1, if_pos]
          apply decide_eq_true
          split <;> omega
    by_cases d : 0 ≤ b.f1 ∧ b.f1 ≤ 8
    · have hkey := key _ rfl d
      by_cases h1 : hold b.f0 = true
      · by_cases h2 : m > 0
        · simp [d, h1, h2]
        · rw [hkey] at *
          simp [d, h1, h2]
      · rw [hkey] at *
        simp [d, h1]
    · have : ¬ decide (0 ≤ b.f1 ∧ b.f1 ≤ (if 8 < (if hold a.f0 = true then a.f1 + 1 else a.f1) then 8 else (if hold a.f0 = true then a.f1 + 1 else a.f1))) = true := by
        intro q
        have q := of_decide_eq_true q
        split at q <;> omega
      simp only [Bool.and_eq_true, this, and_false, if_false]
      simp [d]

theorem rd_take (l : List S34) (i : Int) (h0 : 0 < i) (h1 : i ≤ (l.length : Int)) : rd_T34 (l.take i.toNat) (i - 1) = rd_T34 l (i - 1) := by
  unfold rd_T34
  rw [List.getD_eq_getElem?_getD, List.getD_eq_getElem?_getD, List.getElem?_take_of_lt (by omega)]

theorem fits_step (l : List S34) (hl : l.length ≤ 200) (i : Int) (h0 : 0 ≤ i) (hlt : i < (l.length : Int)) (k : Nat) (hkind : impl_kindOk.f (k + 1) (rd_T34 l i).f0 = some true) (hs : (rd_T34 l i).f0.size = 4)
    (hp : 0 < i → (rd_T34 l (i - 1)).f0.size = 4 ∧ 0 ≤ (rd_T34 l (i - 1)).f1 ∧ (rd_T34 l (i - 1)).f1 ≤ 8) :
    impl_Box_fits.f (k + 1) (rd_T34 l i).f0 (rd_T34 l i).f1 (rd_T34 l i).f2 (l.take i.toNat) = some (fitB (rd_T34 l i) (rd_T34 l (i - 1)) i) := by
  have hlen : ((l.take i.toNat).length : Int) = i := by rw [List.length_take]; omega
  have wj : wrap64 (i - 1) = i - 1 := by unfold wrap64; omega
  unfold impl_Box_fits.f
  rw [hkind, hold_i _ _ _ hs]
  simp only [Option.bind_some, if_true, impl_Box_fits.j0, hlen, wj]
  have hJ : ∀ q : Bool, (if q = true then some false else (if i > 0 then (if 0 ≤ i - 1 then (if i - 1 < i then ((impl_Box_holds.f ((rd_T34 (l.take i.toNat) (i - 1)).f0) ((rd_T34 (l.take i.toNat) (i - 1)).f1) ((rd_T34 (l.take i.toNat) (i - 1)).f2)).bind fun t143 => (if t143 = true then ((impl_in.f (rd_T34 l i).f1 0 (mn (wrap64 (((rd_T34 (l.take i.toNat) (i - 1)).f1) + 1)) 8)).bind fun t144 => (some t144)) else ((impl_in.f (rd_T34 l i).f1 0 (mn ((rd_T34 (l.take i.toNat) (i - 1)).f1) 8)).bind fun t145 => (some t145)))) else (none)) else (none)) else ((impl_in.f (rd_T34 l i).f1 0 (mn 0 8)).bind fun t146 => (some t146))))
      = some (!q && decide (0 ≤ (rd_T34 l i).f1 ∧ (rd_T34 l i).f1 ≤ (if i = 0 then 0 else mn (if hold (rd_T34 l (i - 1)).f0 = true then (rd_T34 l (i - 1)).f1 + 1 else (rd_T34 l (i - 1)).f1) 8))) := by
    intro q
    cases q with
    | true => simp
    | false =>
      by_cases hi : i = 0
      · subst hi
        rw [if_neg (by simp), if_neg (by omega : ¬ (0 : Int) > 0), in_some]
        simp [mn]
      · have hip : 0 < i := by omega
        obtain ⟨p1, p2, p3⟩ := hp hip
        have wa : wrap64 ((rd_T34 l (i - 1)).f1 + 1) = (rd_T34 l (i - 1)).f1 + 1 := by unfold wrap64; omega
        rw [if_neg (by simp), if_pos (by omega), if_pos (by omega), if_pos (by omega), rd_take l i hip (by omega), hold_i _ _ _ p1, wa, in_some, in_some, if_neg hi]
        simp only [Option.bind_some]
        by_cases h : hold (rd_T34 l (i - 1)).f0 = true
        · simp [h]
        · simp [h]
  unfold fitB
  by_cases h1 : hold (rd_T34 l i).f0 = true
  · rw [h1]
    simp only [if_true, Bool.true_and]
    exact hJ _
  · have h1' : hold (rd_T34 l i).f0 = false := by simpa using h1
    rw [h1']
    simp only [Bool.false_eq_true, if_false, Bool.false_and]
    exact hJ false

theorem fit_depth (b a : S34) (i : Int) (h : fitB b a i = true) : 0 ≤ b.f1 ∧ b.f1 ≤ 8 := by
  unfold fitB at h
  simp only [Bool.and_eq_true, decide_eq_true_eq] at h
  obtain ⟨_, h1, h2⟩ := h
  refine ⟨h1, ?_⟩
  unfold mn at h2
  split at h2
  · omega
  · split at h2 <;> omega

theorem impl_step (l : List S34) (hl : l.length ≤ 200) (k : Nat) (x i : Int) (h0 : 0 ≤ i) (hlt : i < (l.length : Int)) : impl_BoxesOk.l0 (k + 1) l x l (l.length : Int) i =
    (impl_Box_fits.f k (rd_T34 l i).f0 (rd_T34 l i).f1 (rd_T34 l i).f2 (l.take i.toNat)).bind fun t => if t = true then impl_BoxesOk.l0 k l (wrap64 (x + ((rd_T34 l i).f2.length : Int))) l (l.length : Int) (i + 1) else some false := by
  have wi : wrap64 (i + 1) = i + 1 := by unfold wrap64; omega
  simp only [impl_BoxesOk.l0]
  rw [if_pos hlt, if_pos h0, if_pos hlt, if_pos (by omega), wi]

/-- What is known of a box of a right list. -/
def OkAt (l : List S34) (j : Int) : Prop := (rd_T34 l j).f0.size = 4 ∧ (∀ i : Int, 0 ≤ i → i < 4 → Good (bt (rd_T34 l j).f0 i)) ∧ fitB (rd_T34 l j) (rd_T34 l (j - 1)) j = true

theorem boxes_l (l : List S34) (hl : l.length ≤ 200) : ∀ (d k k' : Nat) (i x : Int), 0 ≤ i → i ≤ (l.length : Int) → (l.length : Int) - i = d → 2 * d + 10 < k → 2 * d + 10 < k' →
    (0 < i → (rd_T34 l (i - 1)).f0.size = 4 ∧ 0 ≤ (rd_T34 l (i - 1)).f1 ∧ (rd_T34 l (i - 1)).f1 ≤ 8) →
    ∃ r, spec_BoxesOk.l0 k l x i = some r ∧ impl_BoxesOk.l0 k' l x l (l.length : Int) i = some r ∧ (r = true → ∀ j : Int, i ≤ j → j < (l.length : Int) → OkAt l j) := by
  intro d
  induction d with
  | zero =>
    intro k k' i x h0 h1 hd hk hk' hp
    obtain ⟨k, rfl⟩ : ∃ m, k = m + 1 := ⟨k - 1, by omega⟩
    obtain ⟨k', rfl⟩ : ∃ m, k' = m + 1 := ⟨k' - 1, by omega⟩
    refine ⟨decide (x ≤ 20000), ?_, ?_, fun _ j h2 h3 => by omega⟩
    · simp only [spec_BoxesOk.l0]; rw [if_neg (by omega)]
    · simp only [impl_BoxesOk.l0]; rw [if_neg (by omega)]
  | succ d ih =>
    intro k k' i x h0 h1 hd hk hk' hp
    obtain ⟨k, rfl⟩ : ∃ m, k = m + 2 := ⟨k - 2, by omega⟩
    obtain ⟨k', rfl⟩ : ∃ m, k' = m + 2 := ⟨k' - 2, by omega⟩
    have hlt : i < (l.length : Int) := by omega
    have wi : wrap64 (i + 1) = i + 1 := by unfold wrap64; omega
    obtain ⟨r, hr, hK⟩ := kind_eq (rd_T34 l i).f0
    cases r with
    | false =>
      refine ⟨false, ?_, ?_, fun h => by simp at h⟩
      · simp only [spec_BoxesOk.l0]
        rw [if_pos hlt, if_pos h0, (hK (k + 1) (by omega)).1]
        simp [spec_BoxesOk.j1]
      · rw [show k' + 2 = (k' + 1) + 1 from rfl, impl_step l hl (k' + 1) x i h0 hlt]
        unfold impl_Box_fits.f
        rw [(hK (k' + 1) (by omega)).2]
        simp [impl_Box_fits.j0]
    | true =>
      obtain ⟨hs, hgood⟩ := hr rfl
      rw [spec_step l hl x i h0 hlt k (by omega) (hK (k + 1) (by omega)).1 hs hp]
      rw [show k' + 2 = (k' + 1) + 1 from rfl, impl_step l hl (k' + 1) x i h0 hlt, fits_step l hl i h0 hlt k' (hK (k' + 1) (by omega)).2 hs hp]
      simp only [Option.bind_some]
      by_cases f : fitB (rd_T34 l i) (rd_T34 l (i - 1)) i = true
      · rw [if_pos f]
        obtain ⟨r, a, b, hg⟩ := ih k (k' + 1) (i + 1) (wrap64 (x + ((rd_T34 l i).f2.length : Int))) (by omega) (by omega) (by omega) (by omega) (by omega) (fun _ => by
          rw [show i + 1 - 1 = i by omega]
          exact ⟨hs, fit_depth _ _ _ f⟩)
        refine ⟨r, a, by rw [if_pos f]; exact b, fun h j h2 h3 => ?_⟩
        by_cases e : j = i
        · rw [e]; exact ⟨hs, hgood, f⟩
        · exact hg h j (by omega) h3
      · rw [if_neg f]
        exact ⟨false, rfl, by rw [if_neg f], fun h => by simp at h⟩

/-- The program's BoxesOk and the reference's answer alike. -/
theorem boxes_eq (l : List S34) (k : Nat) (hk : 500 ≤ k) : ∃ r, spec_BoxesOk.f k l = some r ∧ impl_BoxesOk.f k l = some r ∧ (r = true → l.length ≤ 200 ∧ ∀ j : Int, 0 ≤ j → j < (l.length : Int) → OkAt l j) := by
  unfold spec_BoxesOk.f impl_BoxesOk.f
  by_cases c : (l.length : Int) > 200
  · rw [if_pos c, if_pos c]; exact ⟨false, rfl, rfl, fun h => by simp at h⟩
  · rw [if_neg c, if_neg c]
    obtain ⟨r, a, b, hg⟩ := boxes_l l (by omega) l.length k k 0 0 (by omega) (by omega) (by omega) (by omega) (by omega) (fun h => by omega)
    exact ⟨r, a, b, fun h => ⟨by omega, hg h⟩⟩

theorem and255 (n : Int) : Go.bits .and .i64 n 255 = n % 256 := by
  have h127 : (BitVec.ofInt 64 255).toNat = 2 ^ 8 - 1 := by decide
  have key : (BitVec.ofInt 64 n &&& BitVec.ofInt 64 255).toNat = (n % ((2 ^ 64 : Nat) : Int)).toNat % 2 ^ 8 := by
    rw [BitVec.toNat_and, BitVec.toNat_ofInt, h127, Nat.and_two_pow_sub_one_eq_mod]
  show IntKind.i64.wrap ((BitVec.ofInt 64 n &&& BitVec.ofInt 64 255).toNat : Nat) = n % 256
  rw [key, IntKind.wrap_i64]
  omega

theorem byte_ok (b : List Int) (i h : Int) (hb : b.length ≤ 4096) (hi : 0 ≤ i) :
    ∃ x i' h', spec_l1Byte.f b i h = some (x, i', h') ∧ 0 ≤ x ∧ x ≤ 255 ∧ 0 ≤ i' := by
  unfold spec_l1Byte.f
  simp only [and255]
  by_cases c : i < (b.length : Int)
  · rw [if_pos c, if_pos hi]
    have hw : wrap64 (i + 1) = i + 1 := by unfold wrap64; omega
    rw [hw]
    exact ⟨_, _, _, rfl, by omega, by omega, by omega⟩
  · rw [if_neg c]
    exact ⟨_, _, _, rfl, by omega, by omega, hi⟩

theorem below_ok (b : List Int) (i h n : Int) (hb : b.length ≤ 4096) (hi : 0 ≤ i) :
    ∃ x i' h', spec_l1Below.f b i h n = some (x, i', h') ∧ 0 ≤ i' ∧ 0 ≤ x ∧ (1 ≤ n → x < n) := by
  unfold spec_l1Below.f
  by_cases c0 : n ≤ 0
  · rw [if_pos c0]
    exact ⟨_, _, _, rfl, hi, by omega, by omega⟩
  · rw [if_neg c0]
    by_cases c : n ≤ 256
    · rw [if_pos c]
      obtain ⟨x, i1, h1, e, x0, x1, hi1⟩ := byte_ok b i h hb hi
      rw [e]
      simp only [Option.bind_some]
      rw [if_neg (by omega)]
      exact ⟨_, _, _, rfl, hi1, Int.tmod_nonneg _ x0, fun _ => Int.tmod_lt_of_pos _ (by omega)⟩
    · rw [if_neg c]
      obtain ⟨x, i1, h1, e, x0, x1, hi1⟩ := byte_ok b i h hb hi
      rw [e]
      simp only [Option.bind_some]
      obtain ⟨y, i2, h2, e, y0, y1, hi2⟩ := byte_ok b i1 h1 hb hi1
      rw [e]
      simp only [Option.bind_some]
      obtain ⟨z, i3, h3, e, z0, z1, hi3⟩ := byte_ok b i2 h2 hb hi2
      rw [e]
      simp only [Option.bind_some]
      obtain ⟨u, i4, h4, e, u0, u1, hi4⟩ := byte_ok b i3 h3 hb hi3
      rw [e]
      simp only [Option.bind_some]
      rw [if_neg (by omega)]
      have hw : wrap64 (wrap64 (wrap64 (wrap64 (x * 16777216) + wrap64 (y * 65536)) + wrap64 (z * 256)) + u) = x * 16777216 + y * 65536 + z * 256 + u := by
        have e1 : wrap64 (x * 16777216) = x * 16777216 := by unfold wrap64; omega
        have e2 : wrap64 (y * 65536) = y * 65536 := by unfold wrap64; omega
        have e3 : wrap64 (z * 256) = z * 256 := by unfold wrap64; omega
        rw [e1, e2, e3]
        have e4 : wrap64 (x * 16777216 + y * 65536) = x * 16777216 + y * 65536 := by unfold wrap64; omega
        rw [e4]
        have e5 : wrap64 (x * 16777216 + y * 65536 + z * 256) = x * 16777216 + y * 65536 + z * 256 := by unfold wrap64; omega
        rw [e5]
        unfold wrap64
        omega
      rw [hw]
      exact ⟨_, _, _, rfl, hi4, Int.tmod_nonneg _ (by omega), fun _ => Int.tmod_lt_of_pos _ (by omega)⟩

theorem once_ok (b : List Int) (i h n : Int) (hb : b.length ≤ 4096) (hi : 0 ≤ i) :
    ∃ x i' h', spec_l1Once.f b i h n = some (x, i', h') ∧ 0 ≤ i' := by
  unfold spec_l1Once.f
  obtain ⟨x, i1, h1, e, hi1, _⟩ := below_ok b i h n hb hi
  rw [e]
  exact ⟨_, _, _, rfl, hi1⟩

theorem new_loop (l : List Int) (hl : l.length ≤ 4096) (d : Nat) : ∀ (k : Nat) (h i : Int), 0 ≤ i → i ≤ l.length → (l.length : Int) - i = d → d < k → ∃ h', spec_l1New.l0 k l h i = some (l, 0, h') := by
  induction d with
  | zero =>
    intro k h i h0 h1 hd hk
    obtain ⟨k, rfl⟩ : ∃ m, k = m + 1 := ⟨k - 1, by omega⟩
    exact ⟨h, by simp only [spec_l1New.l0]; rw [if_neg (by omega)]⟩
  | succ d ih =>
    intro k h i h0 h1 hd hk
    obtain ⟨k, rfl⟩ : ∃ m, k = m + 1 := ⟨k - 1, by omega⟩
    simp only [spec_l1New.l0]
    rw [if_pos (by omega), if_pos h0]
    have hw : wrap64 (i + 1) = i + 1 := by unfold wrap64; omega
    rw [hw]
    exact ih k _ (i + 1) (by omega) (by omega) (by omega) (by omega)

theorem new_ok (l : List Int) (hl : l.length ≤ 4096) (k : Nat) (hk : 4097 ≤ k) : ∃ h, spec_l1New.f k l = some (l, 0, h) := by
  unfold spec_l1New.f
  exact new_loop l hl l.length k _ 0 (by omega) (by omega) (by omega) (by omega)

/-- The first of n boxes from i on of a depth and a kind; -1: none. -/
def scan (l : List S34) (d : Int) (q : List UInt8) : Nat → Int → Int
  | 0, _ => -1
  | n + 1, i => if (rd_T34 l i).f1 = d ∧ (rd_T34 l i).f0.toList = q then i else scan l d q n (i + 1)
/-- The first of n boxes from i on that is no deeper; else the end. -/
def stop (l : List S34) (d : Int) : Nat → Int → Int
  | 0, i => i
  | n + 1, i => if (rd_T34 l i).f1 ≤ d then i else stop l d n (i + 1)
/-- A search by parts of a path. -/
def fb (l : List S34) : List (List UInt8) → Int → Int → Int → Int
  | [], _, a, _ => a
  | q :: qs, d, a, b =>
    if scan l d q (b - (a + 1)).toNat (a + 1) < 0 then -1
    else fb l qs (d + 1) (scan l d q (b - (a + 1)).toNat (a + 1)) (stop l d ((l.length : Int) - (scan l d q (b - (a + 1)).toNat (a + 1) + 1)).toNat (scan l d q (b - (a + 1)).toNat (a + 1) + 1))

theorem scan_range (l : List S34) (d : Int) (q : List UInt8) : ∀ (n : Nat) (i : Int), 0 ≤ i → scan l d q n i = -1 ∨ (i ≤ scan l d q n i ∧ scan l d q n i < i + n ∧ (rd_T34 l (scan l d q n i)).f1 = d ∧ (rd_T34 l (scan l d q n i)).f0.toList = q) := by
  intro n
  induction n with
  | zero => intro i h; exact Or.inl rfl
  | succ n ih =>
    intro i h
    rw [scan]
    by_cases c : (rd_T34 l i).f1 = d ∧ (rd_T34 l i).f0.toList = q
    · rw [if_pos c]; exact Or.inr ⟨by omega, by omega, c.1, c.2⟩
    · rw [if_neg c]
      rcases ih (i + 1) (by omega) with h1 | h1
      · exact Or.inl h1
      · exact Or.inr ⟨by omega, by omega, h1.2.2⟩
theorem stop_range (l : List S34) (d : Int) : ∀ (n : Nat) (i : Int), i ≤ stop l d n i ∧ stop l d n i ≤ i + n ∧ (stop l d n i = i + n ∨ (rd_T34 l (stop l d n i)).f1 ≤ d) := by
  intro n
  induction n with
  | zero => intro i; simp [stop]
  | succ n ih =>
    intro i
    rw [stop]
    by_cases c : (rd_T34 l i).f1 ≤ d
    · rw [if_pos c]; exact ⟨by omega, by omega, Or.inr c⟩
    · rw [if_neg c]
      obtain ⟨h1, h2, h3⟩ := ih (i + 1)
      exact ⟨by omega, by omega, by rcases h3 with h3 | h3; exact Or.inl (by omega); exact Or.inr h3⟩
/-- Where a box no deeper stands at the end of a stretch, what is behind doesn't count. -/
theorem stop_cut (l : List S34) (d : Int) (m : Nat) : ∀ (n : Nat) (i : Int), (m = 0 ∨ (rd_T34 l (i + n)).f1 ≤ d) → stop l d (n + m) i = stop l d n i := by
  intro n
  induction n with
  | zero =>
    intro i h
    rcases h with rfl | h
    · rfl
    · cases m with
      | zero => rfl
      | succ m =>
        rw [show 0 + (m + 1) = m + 1 by omega]
        simp only [stop]
        rw [if_pos (by simpa using h)]
  | succ n ih =>
    intro i h
    rw [show n + 1 + m = (n + m) + 1 by omega, stop, stop]
    by_cases c : (rd_T34 l i).f1 ≤ d
    · rw [if_pos c, if_pos c]
    · rw [if_neg c, if_neg c]
      exact ih (i + 1) (by rcases h with h | h; exact Or.inl h; exact Or.inr (by rw [show i + 1 + (n : Int) = i + ((n + 1 : Nat) : Int) by omega]; exact h))

theorem w1 {i : Int} (h0 : -1 ≤ i) (h : i ≤ 4294967296) : wrap64 (i + 1) = i + 1 := by unfold wrap64; omega

/-- The program's search in a cut of the list. -/
theorem impl_scan (l : List S34) (hl : l.length ≤ 200) (d : Int) (q : ByteArray) (a b : Int) (ha : 0 ≤ a) (hab : a ≤ b) (hb : b ≤ (l.length : Int)) : ∀ (n : Nat) (i : Int), 0 ≤ i → i + n = b - a →
    Ev (fun k => impl_Box.l0 k ((l.take b.toNat).drop a.toNat) (impl_FindBox_1.g d q) (b - a) i) (if scan l d q.toList n (a + i) < 0 then -1 else scan l d q.toList n (a + i) - a) := by
  intro n
  have hlen : (((l.take b.toNat).drop a.toNat).length : Int) = b - a := by
    rw [List.length_drop, List.length_take]
    omega
  induction n with
  | zero =>
    intro i h0 h
    refine Ev.step (f := fun _ => some (-1)) (fun k => ?_) (Ev.now _)
    rw [impl_Box.l0, if_neg (by omega)]
  | succ n ih =>
    intro i h0 h
    have hrd : rd_T34 ((l.take b.toNat).drop a.toNat) i = rd_T34 l (a + i) := by
      unfold rd_T34
      rw [List.getD_eq_getElem?_getD, List.getD_eq_getElem?_getD, List.getElem?_drop, List.getElem?_take, if_pos (by omega), show a.toNat + i.toNat = (a + i).toNat by omega]
    have hs : ∀ k, impl_Box.l0 (k + 1) ((l.take b.toNat).drop a.toNat) (impl_FindBox_1.g d q) (b - a) i =
        if (rd_T34 l (a + i)).f1 = d ∧ (rd_T34 l (a + i)).f0.toList = q.toList then some i else impl_Box.l0 k ((l.take b.toNat).drop a.toNat) (impl_FindBox_1.g d q) (b - a) (i + 1) := by
      intro k
      rw [impl_Box.l0, if_pos (by omega), if_pos h0, if_pos (by omega), hrd]
      unfold GB.f impl_FindBox_1.g
      simp only [Option.bind_some]
      rw [w1 (by omega) (by omega)]
      by_cases c1 : (rd_T34 l (a + i)).f1 = d
      · rw [if_pos c1]
        by_cases c2 : (rd_T34 l (a + i)).f0.toList = q.toList
        · rw [if_pos (by simpa using c2), if_pos ⟨c1, c2⟩]
        · rw [if_neg (by simpa using c2), if_neg (fun h => c2 h.2)]
      · rw [if_neg c1, if_neg (by simp), if_neg (fun h => c1 h.1)]
    rw [scan]
    by_cases c : (rd_T34 l (a + i)).f1 = d ∧ (rd_T34 l (a + i)).f0.toList = q.toList
    · rw [if_pos c, if_neg (by omega)]
      refine Ev.step (f := fun _ => some i) (fun k => ?_) ?_
      · rw [hs, if_pos c]
      · rw [show a + i - a = i by omega]
        exact Ev.now _
    · rw [if_neg c]
      refine Ev.step (fun k => ?_) (by rw [show a + i + 1 = a + (i + 1) by omega]; exact ih (i + 1) (by omega) (by omega))
      rw [hs, if_neg c]

theorem impl_stop (l : List S34) (hl : l.length ≤ 200) (a : Int) (ha : 0 ≤ a) (hb : a < (l.length : Int)) : ∀ (n : Nat) (i : Int), 0 ≤ i → i + n = (l.length : Int) → Ev (fun k => impl_endOf.l0 k l a i) (stop l (rd_T34 l a).f1 n i) := by
  intro n
  induction n with
  | zero =>
    intro i h0 h
    refine Ev.step (f := fun _ => some i) (fun k => ?_) (Ev.now _)
    rw [impl_endOf.l0, if_neg (by omega)]
  | succ n ih =>
    intro i h0 h
    have hs : ∀ k, impl_endOf.l0 (k + 1) l a i = if (rd_T34 l i).f1 ≤ (rd_T34 l a).f1 then some i else impl_endOf.l0 k l a (i + 1) := by
      intro k
      rw [impl_endOf.l0, if_pos (by omega), if_pos h0, if_pos ha, if_pos hb, w1 (by omega) (by omega)]
      by_cases c : (rd_T34 l i).f1 ≤ (rd_T34 l a).f1
      · rw [if_pos c, if_neg (by omega)]
      · rw [if_neg c, if_pos (by omega)]
    rw [stop]
    by_cases c : (rd_T34 l i).f1 ≤ (rd_T34 l a).f1
    · rw [if_pos c]
      refine Ev.step (f := fun _ => some i) (fun k => ?_) (Ev.now _)
      rw [hs, if_pos c]
    · rw [if_neg c]
      refine Ev.step (fun k => ?_) (ih (i + 1) (by omega) (by omega))
      rw [hs, if_neg c]

/-- The program's loop over the parts. -/
theorem impl_all (l : List S34) (hl : l.length ≤ 200) (ps : List ByteArray) (hp : ps.length ≤ 4294967295) : ∀ (n : Nat) (j a b : Int), 0 ≤ j → j + n = (ps.length : Int) → -1 ≤ a → a + 1 ≤ b → b ≤ (l.length : Int) →
    Ev (fun k => impl_FindBox.l0 k l a b ps (ps.length : Int) j) (fb l ((ps.drop j.toNat).map (·.toList)) j a b) := by
  intro n
  induction n with
  | zero =>
    intro j a b h0 h ha hab hb
    rw [List.drop_of_length_le (by omega), show fb l (([] : List ByteArray).map (·.toList)) j a b = a from rfl]
    refine Ev.step (f := fun _ => some a) (fun k => ?_) (Ev.now _)
    rw [impl_FindBox.l0, if_neg (by omega)]
  | succ n ih =>
    intro j a b h0 h ha hab hb
    have hj : j.toNat < ps.length := by omega
    have hd : rdOf ByteArray.empty ps j = ps[j.toNat] := by
      unfold rdOf
      rw [List.getD_eq_getElem?_getD, List.getElem?_eq_getElem hj]
      rfl
    rw [List.drop_eq_getElem_cons hj, List.map_cons, ← hd]
    generalize rdOf ByteArray.empty ps j = q at hd
    rw [fb]
    have hsc := impl_scan l hl j q (a + 1) b (by omega) hab hb (b - (a + 1)).toNat 0 (by omega) (by omega)
    have hr := scan_range l j q.toList (b - (a + 1)).toNat (a + 1) (by omega)
    rw [show a + 1 + 0 = a + 1 by omega] at hsc
    generalize scan l j q.toList (b - (a + 1)).toNat (a + 1) = i at hsc hr ⊢
    have hlen : (((l.take b.toNat).drop (a + 1).toNat).length : Int) = b - (a + 1) := by
      rw [List.length_drop, List.length_take]
      omega
    have hst : ∀ k, impl_FindBox.l0 (k + 1) l a b ps (ps.length : Int) j =
        (impl_Box.l0 k ((l.take b.toNat).drop (a + 1).toNat) (impl_FindBox_1.g j q) (b - (a + 1)) 0).bind fun t => if t < 0 then some (-1) else
          (impl_endOf.f k l (wrap64 (a + wrap64 (1 + t)))).bind fun e => impl_FindBox.l0 k l (wrap64 (a + wrap64 (1 + t))) e ps (ps.length : Int) (j + 1) := by
      intro k
      have hq : rdOf ByteArray.empty ps j = q := by rw [hd]; unfold rdOf; rw [List.getD_eq_getElem?_getD, List.getElem?_eq_getElem hj]; rfl
      rw [impl_FindBox.l0, if_pos (by omega), if_pos h0, if_pos (by omega), w1 ha (by omega), if_pos (by omega), if_pos hab, if_pos hb, w1 (by omega) (by omega)]
      unfold impl_Box.f
      rw [hlen, hq]
    rcases hr with hr | ⟨r1, r2, r3, r4⟩
    · rw [if_pos (by omega)] at hsc ⊢
      refine Ev.step hst (Ev.bind hsc ?_)
      exact Ev.congr (fun k => by rw [if_pos (by omega)]) (Ev.now _)
    · rw [if_neg (by omega)] at hsc ⊢
      refine Ev.step hst (Ev.bind hsc ?_)
      have e1 : wrap64 (a + wrap64 (1 + (i - (a + 1)))) = i := by unfold wrap64; omega
      refine Ev.congr (f := fun k => (impl_endOf.f k l i).bind fun e => impl_FindBox.l0 k l i e ps (ps.length : Int) (j + 1)) (fun k => by rw [if_neg (by omega), e1]) ?_
      have hsp := impl_stop l hl i (by omega) (by omega) ((l.length : Int) - (i + 1)).toNat (i + 1) (by omega) (by omega)
      rw [r3] at hsp
      have hsr := stop_range l j ((l.length : Int) - (i + 1)).toNat (i + 1)
      have hj2 : ps.drop (j.toNat + 1) = ps.drop (j + 1).toNat := by rw [show (j + 1).toNat = j.toNat + 1 by omega]
      rw [hj2]
      refine Ev.bind (Ev.congr (fun k => ?_) hsp) (ih (j + 1) i _ (by omega) (by omega) (by omega) hsr.1 (by omega))
      unfold impl_endOf.f
      rw [w1 (by omega) (by omega)]

/-- The reference's search. -/
theorem spec_scan (l : List S34) (hl : l.length ≤ 200) (p : ByteArray) (k0 : Int) (hk0 : 0 ≤ k0) (hk1 : k0 + 4 ≤ (p.size : Int)) (hp : p.size ≤ 1048576) (d b : Int) (hb : b ≤ (l.length : Int)) (q : List UInt8) (hq : (p.extract k0.toNat (k0 + 4).toNat).toList = q) (r : Int) : ∀ (n : Nat) (i : Int), 0 ≤ i → i + n = b →
    Ev (fun k => spec_FindBox.j4 k l p b (scan l d q n i) k0 d) r → Ev (fun k => spec_FindBox.l1 k l p b (-1) k0 d i) r := by
  intro n
  have w4 : wrap64 (k0 + 4) = k0 + 4 := by unfold wrap64; omega
  induction n with
  | zero =>
    intro i h0 h hr
    refine Ev.step (fun k => ?_) hr
    rw [spec_FindBox.l1, if_neg (by omega)]
    rfl
  | succ n ih =>
    intro i h0 h hr
    have hs : ∀ k, spec_FindBox.l1 (k + 1) l p b (-1) k0 d i = if (rd_T34 l i).f1 = d ∧ (rd_T34 l i).f0.toList = q then spec_FindBox.j4 k l p b i k0 d else spec_FindBox.l1 k l p b (-1) k0 d (i + 1) := by
      intro k
      rw [spec_FindBox.l1, if_pos (by omega), if_pos h0, if_pos (by omega), w4, w1 (by omega) (by omega), hq]
      by_cases c1 : (rd_T34 l i).f1 = d
      · rw [if_pos c1, if_pos hk0, if_pos (by omega), if_pos hk1]
        by_cases c2 : (rd_T34 l i).f0.toList = q
        · rw [if_pos c2, if_pos ⟨c1, c2⟩]
        · rw [if_neg c2, if_neg (fun h => c2 h.2)]
      · rw [if_neg c1, if_neg (fun h => c1 h.1)]
    rw [scan] at hr
    by_cases c : (rd_T34 l i).f1 = d ∧ (rd_T34 l i).f0.toList = q
    · rw [if_pos c] at hr
      refine Ev.step (fun k => ?_) hr
      rw [hs, if_pos c]
    · rw [if_neg c] at hr
      refine Ev.step (fun k => ?_) (ih (i + 1) (by omega) (by omega) hr)
      rw [hs, if_neg c]

theorem spec_stop (l : List S34) (hl : l.length ≤ 200) (p : ByteArray) (k0 a d f : Int) (b : Int) (hb : b ≤ (l.length : Int)) (r : Int) : ∀ (n : Nat) (i : Int), 0 ≤ i → i + n = b →
    Ev (fun k => spec_FindBox.l0 k l p f (stop l d n i) a (wrap64 (k0 + 5))) r → Ev (fun k => spec_FindBox.l2 k l p f b a k0 d i) r := by
  intro n
  induction n with
  | zero =>
    intro i h0 h hr
    refine Ev.step (fun k => ?_) hr
    rw [spec_FindBox.l2, if_neg (by omega), show b = i by omega]
    rfl
  | succ n ih =>
    intro i h0 h hr
    rw [stop] at hr
    by_cases c : (rd_T34 l i).f1 ≤ d
    · rw [if_pos c] at hr
      refine Ev.step (f := fun k => spec_FindBox.l2 k l p f i a k0 d (i + 1)) (fun k => ?_) (Ev.step (fun k => ?_) hr)
      · rw [spec_FindBox.l2, if_pos (by omega), if_pos h0, if_pos (by omega), if_pos c, w1 (by omega) (by omega)]
      · rw [spec_FindBox.l2, if_neg (by omega)]
    · rw [if_neg c] at hr
      refine Ev.step (fun k => ?_) (ih (i + 1) (by omega) (by omega) hr)
      rw [spec_FindBox.l2, if_pos (by omega), if_pos h0, if_pos (by omega), if_neg c, w1 (by omega) (by omega)]

/-- A text's parts between its strokes. -/
def splitL : List UInt8 → List (List UInt8)
  | [] => [[]]
  | b :: s => if b = 47 then [] :: splitL s else match splitL s with | [] => [[b]] | q :: qs => (b :: q) :: qs
theorem splitL_ne : ∀ s, splitL s ≠ []
  | [] => by simp [splitL]
  | b :: s => by
    rw [splitL]
    by_cases c : b = 47
    · rw [if_pos c]; simp
    · rw [if_neg c]
      split <;> simp
theorem splitL_first (a s : List UInt8) (ha : ∀ b ∈ a, b ≠ 47) : splitL (a ++ 47 :: s) = a :: splitL s := by
  induction a with
  | nil => rw [List.nil_append, splitL, if_pos rfl]
  | cons b a ih =>
    rw [List.cons_append, splitL, if_neg (ha b (List.mem_cons_self ..)), ih (fun c hc => ha c (List.mem_cons_of_mem _ hc))]
theorem splitL_none (a : List UInt8) (ha : ∀ b ∈ a, b ≠ 47) : splitL a = [a] := by
  induction a with
  | nil => rfl
  | cons b a ih =>
    rw [splitL, if_neg (ha b (List.mem_cons_self ..)), ih (fun c hc => ha c (List.mem_cons_of_mem _ hc))]
/-- A text is its first part alone, or its first part, a stroke, and the rest. -/
theorem splitL_cases (s : List UInt8) : (∀ b ∈ s, b ≠ 47) ∨ ∃ a t, s = a ++ 47 :: t ∧ ∀ b ∈ a, b ≠ 47 := by
  induction s with
  | nil => exact Or.inl (by simp)
  | cons b s ih =>
    by_cases c : b = 47
    · exact Or.inr ⟨[], s, by rw [c]; rfl, by simp⟩
    · rcases ih with h | ⟨a, t, h, ha⟩
      · exact Or.inl (fun x hx => by rcases List.mem_cons.1 hx with rfl | hx; exact c; exact h x hx)
      · exact Or.inr ⟨b :: a, t, by rw [h]; rfl, fun x hx => by rcases List.mem_cons.1 hx with rfl | hx; exact c; exact ha x hx⟩

/-- All kinds are of four bytes, none of them a stroke. -/
def Kinds (l : List S34) : Prop := ∀ i : Int, 0 ≤ i → i < (l.length : Int) → (rd_T34 l i).f0.size = 4 ∧ ∀ b ∈ (rd_T34 l i).f0.toList, b ≠ 47

theorem scan_no (l : List S34) (d : Int) (q : List UInt8) (n : Nat) (i : Int) (h0 : 0 ≤ i) (h : i + n ≤ (l.length : Int)) (hq : ∀ j : Int, 0 ≤ j → j < (l.length : Int) → (rd_T34 l j).f0.toList ≠ q) : scan l d q n i = -1 := by
  rcases scan_range l d q n i h0 with h1 | ⟨r1, r2, r3, r4⟩
  · exact h1
  · exact absurd r4 (hq _ (by omega) (by omega))
theorem kind_len (l : List S34) (hk : Kinds l) (q : List UInt8) (hq : q.length ≠ 4) (j : Int) (h0 : 0 ≤ j) (h1 : j < (l.length : Int)) : (rd_T34 l j).f0.toList ≠ q := by
  intro h
  have := (hk j h0 h1).1
  rw [ByteArray.toList_eq] at h
  apply hq
  rw [← h, Array.length_toList]
  exact this
theorem kind_free (l : List S34) (hk : Kinds l) (q : List UInt8) (hq : (47 : UInt8) ∈ q) (j : Int) (h0 : 0 ≤ j) (h1 : j < (l.length : Int)) : (rd_T34 l j).f0.toList ≠ q := by
  intro h
  exact (hk j h0 h1).2 47 (by rw [h]; exact hq) rfl

/-- A path whose length is wrong leads nowhere. -/
theorem fb_wrong (l : List S34) (hk : Kinds l) : ∀ (n : Nat) (s : List UInt8), s.length ≤ n → s.length % 5 ≠ 4 → ∀ (d a b : Int), -1 ≤ a → a + 1 ≤ b → b ≤ (l.length : Int) → fb l (splitL s) d a b = -1 := by
  intro n
  induction n with
  | zero =>
    intro s hs h5 d a b ha hab hb
    have : s = [] := List.eq_nil_of_length_eq_zero (by omega)
    subst this
    rw [splitL, fb, scan_no l d [] _ _ (by omega) (by omega) (kind_len l hk [] (by simp)), if_pos (by omega)]
  | succ n ih =>
    intro s hs h5 d a b ha hab hb
    rcases splitL_cases s with h | ⟨q, t, rfl, hq⟩
    · rw [splitL_none s h, fb, scan_no l d s _ _ (by omega) (by omega) (kind_len l hk s (by omega)), if_pos (by omega)]
    · rw [splitL_first q t hq, fb]
      by_cases c : q.length = 4
      · have hr := scan_range l d q (b - (a + 1)).toNat (a + 1) (by omega)
        generalize scan l d q (b - (a + 1)).toNat (a + 1) = i at hr ⊢
        rcases hr with rfl | ⟨r1, r2, r3, r4⟩
        · rw [if_pos (by omega)]
        · rw [if_neg (by omega)]
          have hsr := stop_range l d ((l.length : Int) - (i + 1)).toNat (i + 1)
          simp only [List.length_append, List.length_cons] at hs h5
          exact ih t (by omega) (by omega) (d + 1) i _ (by omega) hsr.1 (by omega)
      · rw [scan_no l d q _ _ (by omega) (by omega) (kind_len l hk q c), if_pos (by omega)]

theorem ext_list (p : ByteArray) (a b : Nat) : (p.extract a b).toList = (p.data.toList.drop a).take (b - a) := by
  rw [ByteArray.toList_eq, ByteArray.data_extract, Array.toList_extract, List.extract_eq_take_drop]

theorem bt_drop (p : ByteArray) (a j : Nat) (h : a + j < p.size) : ∃ x, (p.data.toList.drop a)[j]? = some x ∧ bt p ((a + j : Nat) : Int) = (x.toNat : Int) := by
  have h2 : a + j < p.data.toList.length := by rw [Array.length_toList]; exact h
  refine ⟨p.data.toList[a + j], by rw [List.getElem?_drop, List.getElem?_eq_getElem h2], ?_⟩
  unfold bt
  rw [dif_pos (by rw [Int.toNat_natCast]; exact h)]
  simp only [Int.toNat_natCast]
  rfl

theorem byte_ne (x : UInt8) (h : x ≠ 47) : ((x.toNat : Int) != 47) = true := by
  simp only [bne_iff_ne]
  intro e
  apply h
  apply UInt8.toNat_inj.1
  show x.toNat = 47
  omega

/-- Behind a box that was found, the reference goes on behind it. -/
theorem spec_after (l : List S34) (hl : l.length ≤ 200) (p : ByteArray) (j : Nat) (hj : j ≤ 1048576) (d i b : Int) (hi : 0 ≤ i) (hib : i < b) (hb : b ≤ (l.length : Int)) (r : Int)
    (h : Ev (fun k => spec_FindBox.l0 k l p (i + 1) (stop l d (b - (i + 1)).toNat (i + 1)) i ((j + 5 : Nat) : Int)) r) : Ev (fun k => spec_FindBox.j4 k l p b i (j : Int) d) r := by
  have w5 : wrap64 ((j : Int) + 5) = ((j + 5 : Nat) : Int) := by unfold wrap64; omega
  refine Ev.step (f := fun k => spec_FindBox.l2 k l p (i + 1) b i (j : Int) d (i + 1)) (fun k => ?_) (spec_stop l hl p j i d (i + 1) b hb r (b - (i + 1)).toNat (i + 1) (by omega) (by omega) (by rw [w5]; exact h))
  rw [spec_FindBox.j4, if_neg (by omega), w1 (by omega) (by omega)]

/-- A part that is not followed by a stroke ends the reference's search. -/
theorem spec_bad (l : List S34) (p : ByteArray) (hp : p.size ≤ 1048576) (j : Nat) (f a b : Int) (hj : j + 5 < p.size) (hne : (bt p ((j + 4 : Nat) : Int) != 47) = true) : Ev (fun k => spec_FindBox.l0 k l p f b a ((j + 5 : Nat) : Int)) (-1) := by
  have wj : wrap64 (((j + 5 : Nat) : Int) - 1) = ((j + 4 : Nat) : Int) := by unfold wrap64; omega
  refine Ev.step (f := fun k => spec_FindBox.j2 k l p f b ((j + 5 : Nat) : Int) true) (fun k => ?_) (Ev.step (f := fun _ => some (-1)) (fun k => ?_) (Ev.now _))
  · rw [spec_FindBox.l0, if_pos (by omega), if_pos (by omega), wj, if_pos (by omega), if_pos (by omega), hne]
  · rw [spec_FindBox.j2, if_pos rfl]

theorem j4_no (l : List S34) (p : ByteArray) (j d b : Int) : Ev (fun k => spec_FindBox.j4 k l p b (-1) j d) (-1) := by
  refine Ev.step (f := fun _ => some (-1)) (fun k => ?_) (Ev.now _)
  rw [spec_FindBox.j4, if_pos (by omega)]

/-- One round of the reference. -/
theorem spec_round (l : List S34) (hl : l.length ≤ 200) (hk : Kinds l) (p : ByteArray) (hp : p.size ≤ 1048576) (hp5 : p.size % 5 = 4) (j : Nat) (f a b : Int) (hj : j + 4 ≤ p.size) (h5 : j % 5 = 0) (hb47 : 0 < j → bt p ((j - 1 : Nat) : Int) = 47) (hf : f = a + 1)
    (ha : -1 ≤ a) (hab : a + 1 ≤ b) (hb : b ≤ (l.length : Int)) (hdeep : b = (l.length : Int) ∨ (rd_T34 l b).f1 < ((j / 5 : Nat) : Int))
    (next : ∀ (i e : Int) (q t : List UInt8), -1 ≤ i → i + 1 ≤ e → e ≤ (l.length : Int) → (e = (l.length : Int) ∨ (rd_T34 l e).f1 ≤ ((j / 5 : Nat) : Int)) → q.length = 4 → p.data.toList.drop j = q ++ 47 :: t →
      Ev (fun k => spec_FindBox.l0 k l p (i + 1) e i ((j + 5 : Nat) : Int)) (fb l (splitL t) (((j / 5 : Nat) : Int) + 1) i e)) :
    Ev (fun k => spec_FindBox.l0 k l p f b a (j : Int)) (fb l (splitL (p.data.toList.drop j)) ((j / 5 : Nat) : Int) a b) := by
  subst hf
  have hS : (p.data.toList.drop j).length = p.size - j := by rw [List.length_drop, Array.length_toList]; rfl
  have hd : wrap64 (Int.tdiv (j : Int) 5) = ((j / 5 : Nat) : Int) := by
    rw [Int.tdiv_eq_ediv_of_nonneg (by omega)]
    unfold wrap64
    omega
  have hex : (p.extract ((j : Int)).toNat ((j : Int) + 4).toNat).toList = (p.data.toList.drop j).take 4 := by
    rw [ext_list, Int.toNat_natCast, show ((j : Int) + 4).toNat - j = 4 by omega]
  have go : Ev (fun k => spec_FindBox.j4 k l p b (scan l ((j / 5 : Nat) : Int) ((p.data.toList.drop j).take 4) (b - (a + 1)).toNat (a + 1)) (j : Int) ((j / 5 : Nat) : Int)) (fb l (splitL (p.data.toList.drop j)) ((j / 5 : Nat) : Int) a b) →
      Ev (fun k => spec_FindBox.l0 k l p (a + 1) b a (j : Int)) (fb l (splitL (p.data.toList.drop j)) ((j / 5 : Nat) : Int) a b) := by
    intro h
    refine Ev.step (f := fun k => spec_FindBox.j2 k l p (a + 1) b (j : Int) false) (fun k => ?_) (Ev.step (fun k => ?_) (spec_scan l hl p j (by omega) (by omega) hp _ b hb _ hex _ (b - (a + 1)).toNat (a + 1) (by omega) (by omega) h))
    · rw [spec_FindBox.l0, if_pos (by omega)]
      by_cases c : 0 < j
      · have wj : wrap64 ((j : Int) - 1) = ((j - 1 : Nat) : Int) := by unfold wrap64; omega
        rw [if_pos (by omega), wj, if_pos (by omega), if_pos (by omega), hb47 c]
        rfl
      · rw [if_neg (by omega)]
    · rw [spec_FindBox.j2, if_neg (by simp), hd]
  apply go
  clear go
  have hbt : j + 5 ≤ p.size → ∀ x, (p.data.toList.drop j)[4]? = some x → x ≠ 47 → (bt p ((j + 4 : Nat) : Int) != 47) = true := by
    intro h x hx hne
    obtain ⟨y, hy, e⟩ := bt_drop p j 4 (by omega)
    rw [hy] at hx
    obtain rfl := Option.some.inj hx
    rw [e]
    exact byte_ne y hne
  generalize hSd : p.data.toList.drop j = S at *
  have h4 : (S.take 4).length = 4 := by rw [List.length_take]; omega
  have hr := scan_range l ((j / 5 : Nat) : Int) (S.take 4) (b - (a + 1)).toNat (a + 1) (by omega)
  rcases splitL_cases S with hno | ⟨q, t, hqt, hq⟩
  · rw [splitL_none S hno, fb]
    by_cases c4 : S.length = 4
    · rw [List.take_of_length_le (by omega)] at hr ⊢
      generalize scan l ((j / 5 : Nat) : Int) S (b - (a + 1)).toNat (a + 1) = i at hr ⊢
      rcases hr with rfl | ⟨r1, r2, r3, r4⟩
      · rw [if_pos (by omega)]
        exact j4_no ..
      · rw [if_neg (by omega), fb]
        refine spec_after l hl p j (by omega) _ i b (by omega) (by omega) hb i ?_
        refine Ev.step (f := fun _ => some i) (fun k => ?_) (Ev.now _)
        rw [spec_FindBox.l0, if_neg (by omega)]
    · rw [scan_no l _ S _ _ (by omega) (by omega) (kind_len l hk S c4), if_pos (by omega)]
      generalize scan l ((j / 5 : Nat) : Int) (S.take 4) (b - (a + 1)).toNat (a + 1) = i at hr ⊢
      rcases hr with rfl | ⟨r1, r2, r3, r4⟩
      · exact j4_no ..
      · refine spec_after l hl p j (by omega) _ i b (by omega) (by omega) hb (-1) (spec_bad l p hp j _ _ _ (by omega) ?_)
        have h5l : 4 < S.length := by omega
        exact hbt (by omega) S[4] (List.getElem?_eq_getElem h5l) (hno _ (List.getElem_mem h5l))
  · have hql : S.length = q.length + (t.length + 1) := by rw [hqt, List.length_append, List.length_cons]
    rw [hqt, splitL_first q t hq, fb, ← hqt]
    by_cases c4 : q.length = 4
    · have hq4 : S.take 4 = q := by rw [hqt, ← c4, List.take_left]
      rw [hq4] at hr ⊢
      generalize scan l ((j / 5 : Nat) : Int) q (b - (a + 1)).toNat (a + 1) = i at hr ⊢
      rcases hr with rfl | ⟨r1, r2, r3, r4⟩
      · rw [if_pos (by omega)]
        exact j4_no ..
      · rw [if_neg (by omega)]
        refine spec_after l hl p j (by omega) _ i b (by omega) (by omega) hb _ ?_
        have hcut := stop_cut l ((j / 5 : Nat) : Int) ((l.length : Int) - b).toNat (b - (i + 1)).toNat (i + 1) (by
          rcases hdeep with h | h
          · left; omega
          · right
            rw [show i + 1 + ((b - (i + 1)).toNat : Int) = b by omega]
            omega)
        rw [show (b - (i + 1)).toNat + ((l.length : Int) - b).toNat = ((l.length : Int) - (i + 1)).toNat by omega] at hcut
        rw [← hcut]
        have hsr := stop_range l ((j / 5 : Nat) : Int) ((l.length : Int) - (i + 1)).toNat (i + 1)
        exact next i _ q t (by omega) hsr.1 (by omega) (by rcases hsr.2.2 with h | h; exact Or.inl (by omega); exact Or.inr h) c4 hqt
    · rw [scan_no l _ q _ _ (by omega) (by omega) (kind_len l hk q c4), if_pos (by omega)]
      by_cases c5 : q.length < 4
      · have hin : (47 : UInt8) ∈ S.take 4 := by
          rw [hqt, List.take_append, List.take_of_length_le (by omega)]
          refine List.mem_append_right _ ?_
          rw [show 4 - q.length = (3 - q.length) + 1 by omega, List.take_succ_cons]
          exact List.mem_cons_self ..
        rw [scan_no l _ (S.take 4) _ _ (by omega) (by omega) (kind_free l hk _ hin)]
        exact j4_no ..
      · generalize scan l ((j / 5 : Nat) : Int) (S.take 4) (b - (a + 1)).toNat (a + 1) = i at hr ⊢
        rcases hr with rfl | ⟨r1, r2, r3, r4⟩
        · exact j4_no ..
        · refine spec_after l hl p j (by omega) _ i b (by omega) (by omega) hb (-1) (spec_bad l p hp j _ _ _ (by omega) ?_)
          have h5l : 4 < q.length := by omega
          refine hbt (by omega) q[4] ?_ (hq _ (List.getElem_mem h5l))
          rw [hqt, List.getElem?_append_left h5l, List.getElem?_eq_getElem h5l]

/-- The reference's loop over the path. -/
theorem spec_all (l : List S34) (hl : l.length ≤ 200) (hk : Kinds l) (p : ByteArray) (hp : p.size ≤ 1048576) (hp5 : p.size % 5 = 4) : ∀ (n : Nat) (j : Nat) (f a b : Int), j + 5 * n + 4 = p.size → j % 5 = 0 → (0 < j → bt p ((j - 1 : Nat) : Int) = 47) → f = a + 1 →
    -1 ≤ a → a + 1 ≤ b → b ≤ (l.length : Int) → (b = (l.length : Int) ∨ (rd_T34 l b).f1 < ((j / 5 : Nat) : Int)) →
    Ev (fun k => spec_FindBox.l0 k l p f b a (j : Int)) (fb l (splitL (p.data.toList.drop j)) ((j / 5 : Nat) : Int) a b) := by
  intro n
  induction n with
  | zero =>
    intro j f a b hj h5 hb47 hf ha hab hb hdeep
    refine spec_round l hl hk p hp hp5 j f a b (by omega) h5 hb47 hf ha hab hb hdeep (fun i e q t hi hie he hd hq hs => ?_)
    exfalso
    have h := congrArg List.length hs
    rw [List.length_drop, Array.length_toList, List.length_append, List.length_cons] at h
    have hz : p.data.size = p.size := rfl
    omega
  | succ n ih =>
    intro j f a b hj h5 hb47 hf ha hab hb hdeep
    refine spec_round l hl hk p hp hp5 j f a b (by omega) h5 hb47 hf ha hab hb hdeep (fun i e q t hi hie he hd hq hs => ?_)
    have ht : t = p.data.toList.drop (j + 5) := by
      have h := congrArg (List.drop 5) hs
      rw [List.drop_drop] at h
      rw [h, show 5 = q.length + 1 by omega, ← List.drop_drop, List.drop_left]
      rfl
    rw [ht]
    have h47 : bt p ((j + 5 - 1 : Nat) : Int) = 47 := by
      obtain ⟨y, hy, e2⟩ := bt_drop p j 4 (by omega)
      rw [show j + 5 - 1 = j + 4 by omega, e2]
      rw [hs, List.getElem?_append_right (by omega), show 4 - q.length = 0 by omega] at hy
      obtain rfl := Option.some.inj hy
      rfl
    have := ih (j + 5) (i + 1) i e (by omega) (by omega) (fun _ => h47) rfl hi hie he (by rcases hd with h | h; exact Or.inl h; exact Or.inr (by omega))
    rw [show ((j + 5) / 5 : Nat) = j / 5 + 1 by omega] at this
    rw [show ((j / 5 : Nat) : Int) + 1 = ((j / 5 + 1 : Nat) : Int) by omega]
    exact this

theorem index_stroke (a t : List UInt8) (ha : ∀ b ∈ a, b ≠ 47) : Lib.index (a ++ 47 :: t) [47] = (a.length : Int) := by
  rw [Lib.index_one]
  induction a with
  | nil => rfl
  | cons b a ih =>
    have hb : (b == 47) = false := by simpa using ha b (List.mem_cons_self ..)
    rw [List.cons_append, Lib.indexByte, hb, ih (fun c hc => ha c (List.mem_cons_of_mem _ hc)), if_neg (by simp), if_neg (by simp), List.length_cons]
    omega

theorem splitK_eq : ∀ (n : Nat) (s : List UInt8), s.length ≤ n → Lib.splitK [47] 0 (s.count 47) s = splitL s := by
  intro n
  induction n with
  | zero =>
    intro s hs
    have : s = [] := List.eq_nil_of_length_eq_zero (by omega)
    subst this
    rfl
  | succ n ih =>
    intro s hs
    rcases splitL_cases s with h | ⟨a, t, rfl, ha⟩
    · rw [splitL_none s h, List.count_eq_zero_of_not_mem (fun hm => h 47 hm rfl)]
      rfl
    · have hc : (a ++ 47 :: t).count 47 = t.count 47 + 1 := by
        rw [List.count_append, List.count_eq_zero_of_not_mem (fun hm => ha 47 hm rfl), List.count_cons_self]
        omega
      rw [hc, splitL_first a t ha, Lib.splitK, index_stroke a t ha, if_neg (by simp), Int.toNat_natCast, Nat.add_zero, List.take_left, show ([47] : List UInt8).length = 1 from rfl, ← List.drop_drop, List.drop_left]
      simp only [List.length_append, List.length_cons] at hs
      rw [List.drop_succ_cons, List.drop_zero, ih t (by omega)]

theorem split_some (p : ByteArray) (hp : p.size ≤ 1048576) : ∃ ps, strings_Split.f p (⟨#[47]⟩ : ByteArray) = some ps ∧ ps.map (·.toList) = splitL p.data.toList ∧ ps.length ≤ 1048577 := by
  have h1 : (⟨#[47]⟩ : ByteArray).size = 1 := rfl
  refine ⟨_, by unfold strings_Split.f; rw [if_pos ⟨by omega, by rw [h1]; omega⟩], ?_, ?_⟩
  · have hm : (fun s : ByteArray => s.toList) = fun s => s.data.toList := by funext s; exact ByteArray.toList_eq s
    rw [hm, Lib.splitB_data]
    have hc : Lib.countB p (⟨#[47]⟩ : ByteArray) = p.data.toList.count 47 := Lib.count_one 47 p.data.toList
    rw [hc]
    exact splitK_eq _ _ (Nat.le_refl _)
  · have h := Lib.splitB_length_le (⟨#[47]⟩ : ByteArray) 0 (Lib.countB p (⟨#[47]⟩ : ByteArray)) p
    have h2 := Lib.countB_le (⟨#[47]⟩ : ByteArray) (by rw [h1]; omega) p.size p (Nat.le_refl _)
    omega

theorem kinds_of (l : List S34) (h : ∀ j : Int, 0 ≤ j → j < (l.length : Int) → OkAt l j) : Kinds l := by
  intro i h0 h1
  obtain ⟨hs, hg, _⟩ := h i h0 h1
  refine ⟨hs, fun b hb => ?_⟩
  rw [ByteArray.toList_eq] at hb
  obtain ⟨j, hj, rfl⟩ := List.getElem_of_mem hb
  have hj4 : j < (rd_T34 l i).f0.size := by rw [Array.length_toList] at hj; exact hj
  have := hg (j : Int) (by omega) (by omega)
  unfold bt at this
  rw [dif_pos (by rw [Int.toNat_natCast]; exact hj4)] at this
  simp only [Int.toNat_natCast] at this
  intro e
  have e2 : ((rd_T34 l i).f0[j]'hj4).toNat = 47 := by
    have : (rd_T34 l i).f0[j]'hj4 = 47 := e
    rw [this]; rfl
  unfold Good at this
  rw [e2] at this
  omega

/-- Both find the same. -/
theorem find_eq (l : List S34) (p : ByteArray) (hp : p.size ≤ 1048576) : ∃ r, Ev (fun k => spec_FindBox.f k l p) r ∧ Ev (fun k => impl_FindBox.f k l p) r ∧
    (0 ≤ r → l.length ≤ 200 ∧ Kinds l ∧ p.size % 5 = 4 ∧ r = fb l (splitL p.data.toList) 0 (-1) (l.length : Int)) := by
  have hok : ∃ t, (∀ k, 500 ≤ k → spec_BoxesOk.f k l = some t ∧ impl_BoxesOk.f k l = some t) ∧ (t = true → l.length ≤ 200 ∧ ∀ j : Int, 0 ≤ j → j < (l.length : Int) → OkAt l j) := by
    obtain ⟨t, a, b, hg⟩ := boxes_eq l 500 (by omega)
    refine ⟨t, fun k hk => ⟨at_rounds (fun k => spec_BoxesOk.mono l k) hk a, at_rounds (fun k => impl_BoxesOk.mono l k) hk b⟩, hg⟩
  obtain ⟨t, hok, hg⟩ := hok
  have hs : Ev (fun k => spec_BoxesOk.f k l) t := ⟨500, fun k hk => (hok k hk).1⟩
  have hi : Ev (fun k => impl_BoxesOk.f k l) t := ⟨500, fun k hk => (hok k hk).2⟩
  cases t with
  | false =>
    refine ⟨-1, ?_, ?_, fun h => by omega⟩
    · unfold spec_FindBox.f
      refine Ev.bind hs (Ev.congr (fun k => by rw [if_neg (by simp)]) (Ev.step (f := fun _ => some (-1)) (fun k => ?_) (Ev.now _)))
      rw [spec_FindBox.j0, if_pos rfl]
    · unfold impl_FindBox.f
      refine Ev.bind hi (Ev.congr (fun k => by rw [if_neg (by simp)]) (Ev.now _))
  | true =>
    obtain ⟨hl, hall⟩ := hg rfl
    have hk := kinds_of l hall
    obtain ⟨ps, hps, hmap, hlen⟩ := split_some p hp
    refine ⟨fb l (splitL p.data.toList) 0 (-1) (l.length : Int), ?_, ?_, ?_⟩
    · unfold spec_FindBox.f
      refine Ev.bind hs (Ev.congr (fun k => by rw [if_pos rfl]) ?_)
      by_cases c : p.size % 5 = 4
      · have hb : (((p.size : Int) % 5) != 4) = false := by simp; omega
        rw [hb]
        have := spec_all l hl hk p hp c ((p.size - 4) / 5) 0 0 (-1) (l.length : Int) (by omega) (by omega) (fun h => by omega) (by omega) (by omega) (by omega) (by omega) (Or.inl rfl)
        rw [List.drop_zero] at this
        refine Ev.step (fun k => ?_) this
        rw [spec_FindBox.j0, if_neg (by simp)]
        rfl
      · have hb : (((p.size : Int) % 5) != 4) = true := by simp; omega
        rw [hb, fb_wrong l hk _ p.data.toList (Nat.le_refl _) (by rw [Array.length_toList]; exact c) 0 (-1) _ (by omega) (by omega) (by omega)]
        refine Ev.step (f := fun _ => some (-1)) (fun k => ?_) (Ev.now _)
        rw [spec_FindBox.j0, if_pos rfl]
    · unfold impl_FindBox.f
      refine Ev.bind hi (Ev.congr (fun k => by rw [if_pos rfl, hps, Option.bind_some]) ?_)
      have := impl_all l hl ps (by omega) ps.length 0 (-1) (l.length : Int) (by omega) (by omega) (by omega) (by omega) (by omega)
      rw [Int.toNat_zero, List.drop_zero, hmap] at this
      exact this
    · intro h
      refine ⟨hl, hk, ?_, rfl⟩
      by_cases c : p.size % 5 = 4
      · exact c
      · rw [fb_wrong l hk _ p.data.toList (Nat.le_refl _) (by rw [Array.length_toList]; exact c) 0 (-1) _ (by omega) (by omega) (by omega)] at h
        omega

/-- How great drawn boxes are. -/
def Okb (m : Nat) (l : List S34) : Prop := l.length ≤ 201 ∧ ∀ x ∈ l, x.f0.size ≤ 5 ∧ x.f2.length ≤ m
/-- Boxes while they are drawn. -/
def Okd (l : List S34) : Prop := ∀ x ∈ l, x.f0.size = 4 ∧ x.f2.length ≤ 6
theorem Okb.up {m m' : Nat} {l : List S34} (h : Okb m l) (hm : m ≤ m') : Okb m' l := ⟨h.1, fun x hx => ⟨(h.2 x hx).1, Nat.le_trans (h.2 x hx).2 hm⟩⟩

theorem l3_ok (b : List Int) (hb : b.length ≤ 4096) : ∀ (n : Nat) (x : Int) (l : List S34) (i h : Int), x + n = 10 → 0 ≤ x → l.length + n ≤ 201 → Okb 0 l → 0 ≤ i →
    ∃ r, Ev (fun k => spec_l2DrawBoxes.l3 k l x b i h) r ∧ Okb 0 r.1 ∧ 0 ≤ r.2.1 := by
  intro n
  induction n with
  | zero =>
    intro x l i h hx h0 hl hk hi
    obtain ⟨v, i2, h2, e, hi2, v0, v1⟩ := below_ok b i h 2 hb hi
    have w9 : wrap64 (9 + v) = 9 + v := by have := v1 (by omega); unfold wrap64; omega
    refine ⟨(l, i2, h2), Ev.step (f := fun _ => some (l, i2, h2)) (fun k => ?_) (Ev.now _), hk, hi2⟩
    rw [spec_l2DrawBoxes.l3, e, Option.bind_some, w9, if_neg (by have := v1 (by omega); omega)]
  | succ n ih =>
    intro x l i h hx h0 hl hk hi
    obtain ⟨v, i2, h2, e, hi2, v0, v1⟩ := below_ok b i h 2 hb hi
    have v1 := v1 (by omega)
    have w9 : wrap64 (9 + v) = 9 + v := by unfold wrap64; omega
    have wx : wrap64 (x + 1) = x + 1 := by unfold wrap64; omega
    by_cases c : x < 9 + v
    · obtain ⟨r, hr, h3⟩ := ih (x + 1) (l ++ [(⟨(⟨#[68, 69, 69, 80]⟩ : ByteArray), x, ([] : List Int)⟩ : S34)]) i2 h2 (by omega) (by omega) (by rw [List.length_append, List.length_singleton]; omega) ⟨by rw [List.length_append, List.length_singleton]; omega, fun y hy => by
        rcases List.mem_append.1 hy with hy | hy
        · exact hk.2 y hy
        · obtain rfl := List.mem_singleton.1 hy
          exact ⟨by show (⟨#[68, 69, 69, 80]⟩ : ByteArray).size ≤ 5; decide, by simp⟩⟩ hi2
      refine ⟨r, Ev.step (fun k => ?_) hr, h3⟩
      rw [spec_l2DrawBoxes.l3, e, Option.bind_some, w9, wx, if_pos c, if_pos (by omega)]
    · refine ⟨(l, i2, h2), Ev.step (f := fun _ => some (l, i2, h2)) (fun k => ?_) (Ev.now _), hk, hi2⟩
      rw [spec_l2DrawBoxes.l3, e, Option.bind_some, w9, if_neg c]

theorem j6_ok (b : List Int) (hb : b.length ≤ 4096) (m : Nat) (l : List S34) (i h : Int) (hl : Okb m l) (hi : 0 ≤ i) : ∃ r, Ev (fun k => spec_l2DrawBoxes.j6 k l b i h) r ∧ Okb m r.1 ∧ 0 ≤ r.2.1 := by
  obtain ⟨v, i2, h2, e, hi2⟩ := once_ok b i h 40 hb hi
  cases v with
  | false =>
    refine ⟨(l, i2, h2), Ev.step (f := fun _ => some (l, i2, h2)) (fun k => ?_) (Ev.now _), hl, hi2⟩
    rw [spec_l2DrawBoxes.j6, e, Option.bind_some, if_neg (by simp)]
  | true =>
    obtain ⟨r, hr, h3, h4⟩ := l3_ok b hb 10 0 [] i2 h2 (by omega) (by omega) (by simp) ⟨by simp, by simp⟩ hi2
    refine ⟨r, Ev.step (fun k => ?_) hr, h3.up (by omega), h4⟩
    rw [spec_l2DrawBoxes.j6, e, Option.bind_some, if_pos rfl]

theorem l2_ok (b : List Int) (hb : b.length ≤ 4096) (m : Nat) : ∀ (n : Nat) (x : Int) (l : List S34) (i h : Int), x + n = 201 → 0 ≤ x → l.length + n ≤ 201 → Okb m l → 0 ≤ i →
    ∃ r, Ev (fun k => spec_l2DrawBoxes.l2 k l x b i h) r ∧ Okb m r.1 ∧ 0 ≤ r.2.1 := by
  intro n
  induction n with
  | zero =>
    intro x l i h hx h0 hl hk hi
    obtain ⟨v, i2, h2, e, hi2, v0, v1⟩ := below_ok b i h 2 hb hi
    have w9 : wrap64 (200 + v) = 200 + v := by have := v1 (by omega); unfold wrap64; omega
    obtain ⟨r, hr, h3⟩ := j6_ok b hb m l i2 h2 hk hi2
    refine ⟨r, Ev.step (fun k => ?_) hr, h3⟩
    rw [spec_l2DrawBoxes.l2, e, Option.bind_some, w9, if_neg (by have := v1 (by omega); omega)]
  | succ n ih =>
    intro x l i h hx h0 hl hk hi
    obtain ⟨v, i2, h2, e, hi2, v0, v1⟩ := below_ok b i h 2 hb hi
    have v1 := v1 (by omega)
    have w9 : wrap64 (200 + v) = 200 + v := by unfold wrap64; omega
    have wx : wrap64 (x + 1) = x + 1 := by unfold wrap64; omega
    by_cases c : x < 200 + v
    · obtain ⟨r, hr, h3⟩ := ih (x + 1) (l ++ [(⟨(⟨#[115, 107, 105, 112]⟩ : ByteArray), 0, ([] : List Int)⟩ : S34)]) i2 h2 (by omega) (by omega) (by rw [List.length_append, List.length_singleton]; omega) ⟨by rw [List.length_append, List.length_singleton]; omega, fun y hy => by
        rcases List.mem_append.1 hy with hy | hy
        · exact hk.2 y hy
        · obtain rfl := List.mem_singleton.1 hy
          exact ⟨by show (⟨#[115, 107, 105, 112]⟩ : ByteArray).size ≤ 5; decide, by simp⟩⟩ hi2
      refine ⟨r, Ev.step (fun k => ?_) hr, h3⟩
      rw [spec_l2DrawBoxes.l2, e, Option.bind_some, w9, wx, if_pos c, if_pos (by omega)]
    · obtain ⟨r, hr, h3⟩ := j6_ok b hb m l i2 h2 hk hi2
      refine ⟨r, Ev.step (fun k => ?_) hr, h3⟩
      rw [spec_l2DrawBoxes.l2, e, Option.bind_some, w9, if_neg c]

theorem j4_ok (b : List Int) (hb : b.length ≤ 4096) (m : Nat) (l : List S34) (i h : Int) (hl : Okb m l) (hi : 0 ≤ i) : ∃ r, Ev (fun k => spec_l2DrawBoxes.j4 k l b i h) r ∧ Okb m r.1 ∧ 0 ≤ r.2.1 := by
  obtain ⟨v, i2, h2, e, hi2⟩ := once_ok b i h 40 hb hi
  cases v with
  | false =>
    obtain ⟨r, hr, h3⟩ := j6_ok b hb m l i2 h2 hl hi2
    refine ⟨r, Ev.step (fun k => ?_) hr, h3⟩
    rw [spec_l2DrawBoxes.j4, e, Option.bind_some, if_neg (by simp)]
  | true =>
    obtain ⟨r, hr, h3⟩ := l2_ok b hb m 201 0 [] i2 h2 (by omega) (by omega) (by simp) ⟨by simp, by simp⟩ hi2
    refine ⟨r, Ev.step (fun k => ?_) hr, h3⟩
    rw [spec_l2DrawBoxes.j4, e, Option.bind_some, if_pos rfl]

theorem okb_set {m m' : Nat} {l : List S34} (h : Okb m l) (hm : m ≤ m') (j : Nat) (x : S34) (h1 : x.f0.size ≤ 5) (h2 : x.f2.length ≤ m') : Okb m' (l.set j x) := by
  refine ⟨by rw [List.length_set]; exact h.1, fun y hy => ?_⟩
  rcases List.mem_or_eq_of_mem_set hy with hy | rfl
  · exact ⟨(h.2 y hy).1, Nat.le_trans (h.2 y hy).2 hm⟩
  · exact ⟨h1, h2⟩
theorem okb_rd {m : Nat} {l : List S34} (h : Okb m l) (j : Int) (h0 : 0 ≤ j) (h1 : j < (l.length : Int)) : (rd_T34 l j).f0.size ≤ 5 ∧ (rd_T34 l j).f2.length ≤ m := by
  have hj : j.toNat < l.length := by omega
  unfold rd_T34
  rw [List.getD_eq_getElem?_getD, List.getElem?_eq_getElem hj]
  exact h.2 _ (List.getElem_mem hj)

theorem kinds5 : ∀ q : Fin 5, (rdOf ByteArray.empty ([(⟨#[]⟩ : ByteArray), (⟨#[97, 98, 99]⟩ : ByteArray), (⟨#[97, 98, 45, 100]⟩ : ByteArray), (⟨#[97, 98, 99, 100, 101]⟩ : ByteArray), (⟨#[77, 79, 79, 86]⟩ : ByteArray)] : List ByteArray) ((q.val : Nat) : Int)).size ≤ 5 := by decide
theorem kinds7 : ∀ q : Fin 7, (rdOf ByteArray.empty ([(⟨#[77, 79, 79, 86]⟩ : ByteArray), (⟨#[84, 82, 65, 75]⟩ : ByteArray), (⟨#[109, 100, 97, 116]⟩ : ByteArray), (⟨#[101, 108, 115, 116]⟩ : ByteArray), (⟨#[102, 48, 117, 114]⟩ : ByteArray), (⟨#[69, 100, 105, 116]⟩ : ByteArray), (⟨#[48, 97, 98, 99]⟩ : ByteArray)] : List ByteArray) ((q.val : Nat) : Int)).size = 4 := by decide

theorem j3_ok (b : List Int) (hb : b.length ≤ 4096) (l : List S34) (f : Bool) (i h : Int) (hl : Okb 10 l) (hf : f = true → 0 < l.length) (hi : 0 ≤ i) : ∃ r, Ev (fun k => spec_l2DrawBoxes.j3 k l f b i h) r ∧ Okb 20001 r.1 ∧ 0 ≤ r.2.1 := by
  cases f with
  | false =>
    obtain ⟨r, hr, h3⟩ := j4_ok b hb 20001 l i h (hl.up (by omega)) hi
    refine ⟨r, Ev.step (fun k => ?_) hr, h3⟩
    rw [spec_l2DrawBoxes.j3, if_neg (by simp)]
  | true =>
    have hf := hf rfl
    obtain ⟨v, i2, h2, e, hi2, v0, v1⟩ := below_ok b i h (l.length : Int) hb hi
    have v1 := v1 (by omega)
    have hrd := okb_rd hl v v0 v1
    obtain ⟨u, i3, h3, e2, hi3, u0, u1⟩ := below_ok b i2 h2 4 hb hi2
    have u1 := u1 (by omega)
    by_cases c0 : u = 0
    · obtain ⟨q, i4, h4, e3, hi4, q0, q1⟩ := below_ok b i3 h3 5 hb hi3
      have q1 := q1 (by omega)
      have hk := kinds5 ⟨q.toNat, by omega⟩
      rw [show (((⟨q.toNat, by omega⟩ : Fin 5).val : Nat) : Int) = q by show ((q.toNat : Nat) : Int) = q; omega] at hk
      obtain ⟨r, hr, h5⟩ := j4_ok b hb 20001 _ i4 h4 (okb_set hl (by omega) v.toNat (⟨rdOf ByteArray.empty ([(⟨#[]⟩ : ByteArray), (⟨#[97, 98, 99]⟩ : ByteArray), (⟨#[97, 98, 45, 100]⟩ : ByteArray), (⟨#[97, 98, 99, 100, 101]⟩ : ByteArray), (⟨#[77, 79, 79, 86]⟩ : ByteArray)] : List ByteArray) q, (rd_T34 l v).f1, (rd_T34 l v).f2⟩ : S34) hk (Nat.le_trans hrd.2 (by omega))) hi4
      refine ⟨r, Ev.step (fun k => ?_) hr, h5⟩
      rw [spec_l2DrawBoxes.j3, if_pos rfl, e, Option.bind_some, if_pos v0, if_pos v1, e2, Option.bind_some, if_pos c0, Option.bind_some, e3, Option.bind_some, if_pos q0, if_pos (by simpa using q1)]
    · by_cases c1 : u = 1
      · obtain ⟨q, i4, h4, e3, hi4, q0, q1⟩ := below_ok b i3 h3 4 hb hi3
        have q1 := q1 (by omega)
        obtain ⟨r, hr, h5⟩ := j4_ok b hb 20001 _ i4 h4 (okb_set hl (by omega) v.toNat (⟨(rd_T34 l v).f0, rd ([(-1), 0, 9, wrap64 (((rd_T34 l v).f1) + 1)] : List Int) q, (rd_T34 l v).f2⟩ : S34) hrd.1 (Nat.le_trans hrd.2 (by omega))) hi4
        refine ⟨r, Ev.step (fun k => ?_) hr, h5⟩
        rw [spec_l2DrawBoxes.j3, if_pos rfl, e, Option.bind_some, if_pos v0, if_pos v1, e2, Option.bind_some, if_neg c0, if_pos c1, Option.bind_some, e3, Option.bind_some, if_pos q0, if_pos (by simpa using q1)]
      · by_cases c2 : u = 2
        · obtain ⟨r, hr, h5⟩ := j4_ok b hb 20001 _ i3 h3 (okb_set hl (by omega) v.toNat (⟨(rd_T34 l v).f0, (rd_T34 l v).f1, (((rd_T34 l v).f2) ++ [7])⟩ : S34) hrd.1 (by show ((rd_T34 l v).f2 ++ [7]).length ≤ 20001; rw [List.length_append, List.length_singleton]; omega)) hi3
          refine ⟨r, Ev.step (fun k => ?_) hr, h5⟩
          rw [spec_l2DrawBoxes.j3, if_pos rfl, e, Option.bind_some, if_pos v0, if_pos v1, e2, Option.bind_some, if_neg c0, if_neg c1, if_pos c2, if_pos (by dsimp only; omega)]
        · by_cases c3 : u = 3
          · obtain ⟨q, i4, h4, e3, hi4, q0, q1⟩ := below_ok b i3 h3 2 hb hi3
            have q1 := q1 (by omega)
            have wq : wrap64 (20000 + q) = 20000 + q := by unfold wrap64; omega
            obtain ⟨r, hr, h5⟩ := j4_ok b hb 20001 _ i4 h4 (okb_set hl (by omega) v.toNat (⟨(rd_T34 l v).f0, (rd_T34 l v).f1, (List.replicate (wrap64 (20000 + q) : Int).toNat 0)⟩ : S34) hrd.1 (by show (List.replicate (wrap64 (20000 + q) : Int).toNat (0 : Int)).length ≤ 20001; rw [List.length_replicate, wq]; omega)) hi4
            refine ⟨r, Ev.step (fun k => ?_) hr, h5⟩
            rw [spec_l2DrawBoxes.j3, if_pos rfl, e, Option.bind_some, if_pos v0, if_pos v1, e2, Option.bind_some, if_neg c0, if_neg c1, if_neg c2, if_pos c3, e3, Option.bind_some, if_pos (by rw [wq]; omega), if_pos (by rw [wq]; omega)]
          · omega

theorem holds_some (s : ByteArray) (h : s.size = 4) : ∃ t, spec_l2Holds.f s = some t := ⟨_, hold_s s h⟩

theorem okd_add {l : List S34} (h : Okd l) (x : S34) (h1 : x.f0.size = 4) (h2 : x.f2.length ≤ 6) : Okd (l ++ [x]) := fun y hy => by
  rcases List.mem_append.1 hy with hy | hy
  · exact h y hy
  · obtain rfl := List.mem_singleton.1 hy
    exact ⟨h1, h2⟩

/-- The data of a drawn box, and what follows. -/
theorem l1_ok (b : List Int) (hb : b.length ≤ 4096) (l : List S34) (hl : l.length ≤ 100) (x4 : Int) (kd : ByteArray) (dp : Int) (Q : List S34 × Int × Int → Prop)
    (next : ∀ (d : List Int) (i h : Int), d.length ≤ 6 → 0 ≤ i → ∃ r, Ev (fun k => spec_l2DrawBoxes.l0 k (l ++ [(⟨kd, dp, d⟩ : S34)]) (wrap64 (x4 - 1)) b i h) r ∧ Q r) :
    ∀ (n : Nat) (x : Int) (d : List Int) (i h : Int), x = n → d.length + n ≤ 6 → 0 ≤ i → ∃ r, Ev (fun k => spec_l2DrawBoxes.l1 k l x4 x b i h kd dp d) r ∧ Q r := by
  intro n
  induction n with
  | zero =>
    intro x d i h hx hd hi
    obtain ⟨r, hr, hq⟩ := next d i h (by omega) hi
    refine ⟨r, Ev.step (fun k => ?_) hr, hq⟩
    rw [spec_l2DrawBoxes.l1, if_neg (by omega), if_pos (by omega)]
  | succ n ih =>
    intro x d i h hx hd hi
    obtain ⟨v, i2, h2, e, v0, v1, hi2⟩ := byte_ok b i h hb hi
    have wx : wrap64 (x - 1) = x - 1 := by unfold wrap64; omega
    obtain ⟨r, hr, hq⟩ := ih (x - 1) (d ++ [v % 256]) i2 h2 (by omega) (by rw [List.length_append, List.length_singleton]; omega) hi2
    refine ⟨r, Ev.step (fun k => ?_) hr, hq⟩
    rw [spec_l2DrawBoxes.l1, if_pos (by omega), e, Option.bind_some, if_pos (by omega), wx]

theorem l0_ok (b : List Int) (hb : b.length ≤ 4096) : ∀ (n : Nat) (x : Int) (l : List S34) (i h : Int), x = n → l.length + n ≤ 12 → Okd l → 0 ≤ i → ∃ r, Ev (fun k => spec_l2DrawBoxes.l0 k l x b i h) r ∧ Okb 20001 r.1 ∧ 0 ≤ r.2.1 := by
  intro n
  induction n with
  | zero =>
    intro x l i h hx hl hk hi
    obtain ⟨v, i2, h2, e, hi2⟩ := once_ok b i h 16 hb hi
    have hkb : Okb 10 l := ⟨by omega, fun y hy => ⟨by have := (hk y hy).1; omega, Nat.le_trans (hk y hy).2 (by omega)⟩⟩
    cases v with
    | true =>
      obtain ⟨r, hr, h3⟩ := j3_ok b hb l (decide ((l.length : Int) > 0)) i2 h2 hkb (fun h => by have := of_decide_eq_true h; omega) hi2
      refine ⟨r, Ev.step (fun k => ?_) hr, h3⟩
      rw [spec_l2DrawBoxes.l0, if_neg (by omega), e, Option.bind_some, if_pos rfl]
    | false =>
      obtain ⟨r, hr, h3⟩ := j3_ok b hb l false i2 h2 hkb (fun h => by simp at h) hi2
      refine ⟨r, Ev.step (fun k => ?_) hr, h3⟩
      rw [spec_l2DrawBoxes.l0, if_neg (by omega), e, Option.bind_some, if_neg (by simp)]
  | succ n ih =>
    intro x l i h hx hl hk hi
    have wx : wrap64 (x - 1) = x - 1 := by unfold wrap64; omega
    have j1 : ∀ (kd : ByteArray) (dp i h : Int), kd.size = 4 → 0 ≤ i → ∃ r, Ev (fun k => spec_l2DrawBoxes.j1 k l x b i h kd dp) r ∧ Okb 20001 r.1 ∧ 0 ≤ r.2.1 := by
      intro kd dp i h hkd hi
      obtain ⟨t, ht⟩ := holds_some kd hkd
      cases t with
      | true =>
        obtain ⟨r, hr, h3⟩ := ih (x - 1) (l ++ [(⟨kd, dp, ([] : List Int)⟩ : S34)]) i h (by omega) (by rw [List.length_append, List.length_singleton]; omega) (okd_add hk _ hkd (by simp)) hi
        refine ⟨r, Ev.step (fun k => ?_) hr, h3⟩
        rw [spec_l2DrawBoxes.j1, ht, Option.bind_some, if_pos rfl, if_pos (by omega), wx]
      | false =>
        obtain ⟨v, i2, h2, e, hi2, v0, v1⟩ := below_ok b i h 6 hb hi
        have v1 := v1 (by omega)
        obtain ⟨r, hr, h3⟩ := l1_ok b hb l (by omega) x kd dp (fun r => Okb 20001 r.1 ∧ 0 ≤ r.2.1) (fun d i h hd hi => by
          rw [wx]
          exact ih (x - 1) (l ++ [(⟨kd, dp, d⟩ : S34)]) i h (by omega) (by rw [List.length_append, List.length_singleton]; omega) (okd_add hk _ hkd hd) hi) v.toNat v [] i2 h2 (by omega) (by simp; omega) hi2
        refine ⟨r, Ev.step (fun k => ?_) hr, h3⟩
        rw [spec_l2DrawBoxes.j1, ht, Option.bind_some, if_neg (by simp), e, Option.bind_some]
    obtain ⟨q, i2, h2, e, hi2, q0, q1⟩ := below_ok b i h 7 hb hi
    have q1 := q1 (by omega)
    have hq := kinds7 ⟨q.toNat, by omega⟩
    rw [show (((⟨q.toNat, by omega⟩ : Fin 7).val : Nat) : Int) = q by show ((q.toNat : Nat) : Int) = q; omega] at hq
    by_cases c : (l.length : Int) > 0
    · have wl : wrap64 ((l.length : Int) - 1) = (l.length : Int) - 1 := by unfold wrap64; omega
      have hlast : (rd_T34 l ((l.length : Int) - 1)).f0.size = 4 := by
        have hj : ((l.length : Int) - 1).toNat < l.length := by omega
        unfold rd_T34
        rw [List.getD_eq_getElem?_getD, List.getElem?_eq_getElem hj]
        exact (hk _ (List.getElem_mem hj)).1
      obtain ⟨t, ht⟩ := holds_some _ hlast
      obtain ⟨v, i3, h3, e3, hi3, v0, v1⟩ := below_ok b i2 h2 (wrap64 ((rd_T34 l ((l.length : Int) - 1)).f1 + 1)) hb hi2
      by_cases c2 : t = true ∧ (rd_T34 l ((l.length : Int) - 1)).f1 < 8
      · obtain ⟨o, i4, h4, e4, hi4⟩ := once_ok b i3 h3 3 hb hi3
        cases o with
        | true =>
          obtain ⟨r, hr, h5⟩ := j1 _ v i4 h4 hq hi4
          refine ⟨r, Ev.step (fun k => ?_) hr, h5⟩
          rw [spec_l2DrawBoxes.l0, if_pos (by omega), Option.bind_some, e, Option.bind_some, if_pos q0, if_pos (by simpa using q1), if_pos c, wl, if_pos (by omega), if_pos (by omega), e3, Option.bind_some, ht, Option.bind_some, if_pos c2.1, if_pos c2.2, e4, Option.bind_some, if_pos rfl]
        | false =>
          obtain ⟨r, hr, h5⟩ := j1 _ (wrap64 (((rd_T34 l ((l.length : Int) - 1)).f1) + 1)) i4 h4 hq hi4
          refine ⟨r, Ev.step (fun k => ?_) hr, h5⟩
          rw [spec_l2DrawBoxes.l0, if_pos (by omega), Option.bind_some, e, Option.bind_some, if_pos q0, if_pos (by simpa using q1), if_pos c, wl, if_pos (by omega), if_pos (by omega), e3, Option.bind_some, ht, Option.bind_some, if_pos c2.1, if_pos c2.2, e4, Option.bind_some, if_neg (by simp)]
      · obtain ⟨r, hr, h5⟩ := j1 _ v i3 h3 hq hi3
        refine ⟨r, Ev.step (fun k => ?_) hr, h5⟩
        rw [spec_l2DrawBoxes.l0, if_pos (by omega), Option.bind_some, e, Option.bind_some, if_pos q0, if_pos (by simpa using q1), if_pos c, wl, if_pos (by omega), if_pos (by omega), e3, Option.bind_some, ht, Option.bind_some]
        by_cases c3 : t = true
        · rw [if_pos c3, if_neg (fun h => c2 ⟨c3, h⟩)]
        · rw [if_neg c3]
    · obtain ⟨r, hr, h5⟩ := j1 _ 0 i2 h2 hq hi2
      refine ⟨r, Ev.step (fun k => ?_) hr, h5⟩
      rw [spec_l2DrawBoxes.l0, if_pos (by omega), Option.bind_some, e, Option.bind_some, if_pos q0, if_pos (by simpa using q1), if_neg c]

/-- Boxes are drawn. -/
theorem boxes_drawn (b : List Int) (hb : b.length ≤ 4096) (i h : Int) (hi : 0 ≤ i) : ∃ r, Ev (fun k => spec_l2DrawBoxes.f k b i h) r ∧ Okb 20001 r.1 ∧ 0 ≤ r.2.1 := by
  obtain ⟨v, i2, h2, e, hi2, v0, v1⟩ := below_ok b i h 12 hb hi
  have v1 := v1 (by omega)
  obtain ⟨r, hr, h3⟩ := l0_ok b hb v.toNat v [] i2 h2 (by omega) (by simp; omega) (fun x hx => by cases hx) hi2
  refine ⟨r, Ev.congr (fun k => ?_) hr, h3⟩
  unfold spec_l2DrawBoxes.f
  rw [e, Option.bind_some]

theorem kinds6 : ∀ q : Fin 6, (rdOf ByteArray.empty ([(⟨#[77, 79, 79, 86]⟩ : ByteArray), (⟨#[84, 82, 65, 75]⟩ : ByteArray), (⟨#[109, 100, 97, 116]⟩ : ByteArray), (⟨#[101, 108, 115, 116]⟩ : ByteArray), (⟨#[102, 48, 117, 114]⟩ : ByteArray), (⟨#[69, 100, 105, 116]⟩ : ByteArray)] : List ByteArray) ((q.val : Nat) : Int)).size = 4 := by decide

theorem last6 (s : ByteArray) (q : Int) (h0 : 0 ≤ q) (h1 : q < 6) : (rdOf ByteArray.empty ([(⟨#[]⟩ : ByteArray), (⟨#[77, 79, 79, 86, 47]⟩ : ByteArray), (⟨#[47, 77, 79, 79, 86]⟩ : ByteArray), (⟨#[77, 79, 79]⟩ : ByteArray), s, (⟨#[77, 79, 79, 86, 45, 84, 82, 65, 75]⟩ : ByteArray)] : List ByteArray) q).size ≤ s.size + 9 := by
  have : q = 0 ∨ q = 1 ∨ q = 2 ∨ q = 3 ∨ q = 4 ∨ q = 5 := by omega
  have e0 : (⟨#[]⟩ : ByteArray).size = 0 := rfl
  have e1 : (⟨#[77, 79, 79, 86, 47]⟩ : ByteArray).size = 5 := rfl
  have e2 : (⟨#[47, 77, 79, 79, 86]⟩ : ByteArray).size = 5 := rfl
  have e3 : (⟨#[77, 79, 79]⟩ : ByteArray).size = 3 := rfl
  have e5 : (⟨#[77, 79, 79, 86, 45, 84, 82, 65, 75]⟩ : ByteArray).size = 9 := rfl
  rcases this with rfl | rfl | rfl | rfl | rfl | rfl
  · show (⟨#[]⟩ : ByteArray).size ≤ _; omega
  · show (⟨#[77, 79, 79, 86, 47]⟩ : ByteArray).size ≤ _; omega
  · show (⟨#[47, 77, 79, 79, 86]⟩ : ByteArray).size ≤ _; omega
  · show (⟨#[77, 79, 79]⟩ : ByteArray).size ≤ _; omega
  · show s.size ≤ _; omega
  · show (⟨#[77, 79, 79, 86, 45, 84, 82, 65, 75]⟩ : ByteArray).size ≤ _; omega

theorem df_j3 (b : List Int) (hb : b.length ≤ 4096) (l : List S34) (p : ByteArray) (hp : p.size ≤ 4000) (i h : Int) (hi : 0 ≤ i) : ∃ q, Ev (fun k => spec_DrawFindBox.j3 k l p b i h) (l, q) ∧ q.size ≤ 5000 := by
  obtain ⟨v, i2, h2, e, hi2⟩ := once_ok b i h 14 hb hi
  cases v with
  | false =>
    refine ⟨p, Ev.step (f := fun _ => some (l, p)) (fun k => ?_) (Ev.now _), by omega⟩
    rw [spec_DrawFindBox.j3, e, Option.bind_some, if_neg (by simp)]
  | true =>
    obtain ⟨q, i3, h3, e3, hi3, q0, q1⟩ := below_ok b i2 h2 6 hb hi2
    have q1 := q1 (by omega)
    have hs : (p ++ (⟨#[120]⟩ : ByteArray)).size = p.size + 1 := by rw [ByteArray.size_append]; rfl
    refine ⟨_, Ev.step (f := fun _ => some (l, _)) (fun k => ?_) (Ev.now _), Nat.le_trans (last6 (p ++ (⟨#[120]⟩ : ByteArray)) q q0 q1) (by omega)⟩
    rw [spec_DrawFindBox.j3, e, Option.bind_some, if_pos rfl, if_pos (by omega), Option.bind_some, e3, Option.bind_some, if_pos q0, if_pos (by simpa using q1)]

theorem df_l1 (b : List Int) (hb : b.length ≤ 4096) (l : List S34) (hl : Okb 20001 l) (i h : Int) (hi : 0 ≤ i) : ∀ (n : Nat) (x d : Int) (p : ByteArray), x + 1 = n → n ≤ l.length → p.size + 6 * n ≤ 4000 → ∃ q, Ev (fun k => spec_DrawFindBox.l1 k l p d x b i h) (l, q) ∧ q.size ≤ 5000 := by
  intro n
  have h201 := hl.1
  induction n with
  | zero =>
    intro x d p hx hn hp
    obtain ⟨q, hq, h2⟩ := df_j3 b hb l p (by omega) i h hi
    refine ⟨q, Ev.step (fun k => ?_) hq, h2⟩
    rw [spec_DrawFindBox.l1, if_neg (by omega)]
  | succ n ih =>
    intro x d p hx hn hp
    have wx : wrap64 (x - 1) = x - 1 := by unfold wrap64; omega
    have hrd := (okb_rd hl x (by omega) (by omega)).1
    have hs : ((rd_T34 l x).f0 ++ (⟨#[47]⟩ : ByteArray)).size = (rd_T34 l x).f0.size + 1 := by rw [ByteArray.size_append]; rfl
    by_cases c : (rd_T34 l x).f1 = wrap64 (d - 1)
    · obtain ⟨q, hq, h2⟩ := ih (x - 1) (wrap64 (d - 1)) (((rd_T34 l x).f0 ++ (⟨#[47]⟩ : ByteArray)) ++ p) (by omega) (by omega) (by rw [ByteArray.size_append, hs]; omega)
      refine ⟨q, Ev.step (fun k => ?_) hq, h2⟩
      rw [spec_DrawFindBox.l1, if_pos (by omega), if_pos (by omega), if_pos (by omega), if_pos c, if_pos (by omega), if_pos (by omega), wx]
    · obtain ⟨q, hq, h2⟩ := ih (x - 1) d p (by omega) (by omega) (by omega)
      refine ⟨q, Ev.step (fun k => ?_) hq, h2⟩
      rw [spec_DrawFindBox.l1, if_pos (by omega), if_pos (by omega), if_pos (by omega), if_neg c, wx]

theorem df_j1 (b : List Int) (hb : b.length ≤ 4096) (l : List S34) (hl : Okb 20001 l) (p : ByteArray) (hp : p.size ≤ 100) (f : Bool) (hf : f = true → 0 < l.length) (i h : Int) (hi : 0 ≤ i) : ∃ q, Ev (fun k => spec_DrawFindBox.j1 k l p f b i h) (l, q) ∧ q.size ≤ 5000 := by
  have h201 := hl.1
  cases f with
  | false =>
    obtain ⟨q, hq, h2⟩ := df_j3 b hb l p (by omega) i h hi
    refine ⟨q, Ev.step (fun k => ?_) hq, h2⟩
    rw [spec_DrawFindBox.j1, if_neg (by simp)]
  | true =>
    have hf := hf rfl
    obtain ⟨v, i2, h2, e, hi2, v0, v1⟩ := below_ok b i h (l.length : Int) hb hi
    have v1 := v1 (by omega)
    have hrd := (okb_rd hl v v0 v1).1
    obtain ⟨q, hq, h3⟩ := df_l1 b hb l hl i2 h2 hi2 (v + 1).toNat v ((rd_T34 l v).f1) ((rd_T34 l v).f0) (by omega) (by omega) (by omega)
    refine ⟨q, Ev.step (fun k => ?_) hq, h3⟩
    rw [spec_DrawFindBox.j1, if_pos rfl, e, Option.bind_some, if_pos v0, if_pos v1]

theorem df_l0 (b : List Int) (hb : b.length ≤ 4096) (l : List S34) (hl : Okb 20001 l) : ∀ (n : Nat) (x : Int) (p : ByteArray) (i h : Int), x = n → p.size + 5 * n ≤ 100 → 0 ≤ i → ∃ q, Ev (fun k => spec_DrawFindBox.l0 k l p x b i h) (l, q) ∧ q.size ≤ 5000 := by
  intro n
  induction n with
  | zero =>
    intro x p i h hx hp hi
    obtain ⟨v, i2, h2, e, hi2⟩ := once_ok b i h 2 hb hi
    cases v with
    | true =>
      obtain ⟨q, hq, h3⟩ := df_j1 b hb l hl p (by omega) (decide ((l.length : Int) > 0)) (fun h => by have := of_decide_eq_true h; omega) i2 h2 hi2
      refine ⟨q, Ev.step (fun k => ?_) hq, h3⟩
      rw [spec_DrawFindBox.l0, if_neg (by omega), e, Option.bind_some, if_pos rfl]
    | false =>
      obtain ⟨q, hq, h3⟩ := df_j1 b hb l hl p (by omega) false (fun h => by simp at h) i2 h2 hi2
      refine ⟨q, Ev.step (fun k => ?_) hq, h3⟩
      rw [spec_DrawFindBox.l0, if_neg (by omega), e, Option.bind_some, if_neg (by simp)]
  | succ n ih =>
    intro x p i h hx hp hi
    have wx : wrap64 (x - 1) = x - 1 := by unfold wrap64; omega
    obtain ⟨q, i2, h2, e, hi2, q0, q1⟩ := below_ok b i h 6 hb hi
    have q1 := q1 (by omega)
    have hq := kinds6 ⟨q.toNat, by omega⟩
    rw [show (((⟨q.toNat, by omega⟩ : Fin 6).val : Nat) : Int) = q by show ((q.toNat : Nat) : Int) = q; omega] at hq
    have hs : (p ++ (⟨#[47]⟩ : ByteArray)).size = p.size + 1 := by rw [ByteArray.size_append]; rfl
    by_cases c : p.toList = ([] : List UInt8)
    · obtain ⟨z, hz, h3⟩ := ih (x - 1) (p ++ (rdOf ByteArray.empty ([(⟨#[77, 79, 79, 86]⟩ : ByteArray), (⟨#[84, 82, 65, 75]⟩ : ByteArray), (⟨#[109, 100, 97, 116]⟩ : ByteArray), (⟨#[101, 108, 115, 116]⟩ : ByteArray), (⟨#[102, 48, 117, 114]⟩ : ByteArray), (⟨#[69, 100, 105, 116]⟩ : ByteArray)] : List ByteArray) q)) i2 h2 (by omega) (by rw [ByteArray.size_append, hq]; omega) hi2
      refine ⟨z, Ev.step (fun k => ?_) hz, h3⟩
      rw [spec_DrawFindBox.l0, if_pos (by omega), if_pos c, Option.bind_some, e, Option.bind_some]
      dsimp only
      rw [if_pos q0, if_pos (by simpa using q1), if_pos (by rw [hq]; omega), wx]
    · obtain ⟨z, hz, h3⟩ := ih (x - 1) ((p ++ (⟨#[47]⟩ : ByteArray)) ++ (rdOf ByteArray.empty ([(⟨#[77, 79, 79, 86]⟩ : ByteArray), (⟨#[84, 82, 65, 75]⟩ : ByteArray), (⟨#[109, 100, 97, 116]⟩ : ByteArray), (⟨#[101, 108, 115, 116]⟩ : ByteArray), (⟨#[102, 48, 117, 114]⟩ : ByteArray), (⟨#[69, 100, 105, 116]⟩ : ByteArray)] : List ByteArray) q)) i2 h2 (by omega) (by rw [ByteArray.size_append, hs, hq]; omega) hi2
      refine ⟨z, Ev.step (fun k => ?_) hz, h3⟩
      rw [spec_DrawFindBox.l0, if_pos (by omega), if_neg c, if_pos (by omega), Option.bind_some, e, Option.bind_some]
      dsimp only
      rw [if_pos q0, if_pos (by simpa using q1), if_pos (by rw [hq]; omega), wx]

theorem find_drawn (l0 : List Int) (hb : l0.length ≤ 4096) : ∃ l p, Ev (fun k => spec_DrawFindBox.f k l0) (l, p) ∧ p.size ≤ 5000 := by
  obtain ⟨h, e⟩ := new_ok l0 hb 4097 (by omega)
  have hn : Ev (fun k => spec_l1New.f k l0) (l0, 0, h) := Ev.of (fun k => spec_l1New.mono l0 k) e
  obtain ⟨⟨l, i2, h2⟩, hr, hl, hi2⟩ := boxes_drawn l0 hb 0 h (by omega)
  obtain ⟨v, i3, h3, e3, hi3, v0, v1⟩ := below_ok l0 i2 h2 3 hb hi2
  have v1 := v1 (by omega)
  have wv : wrap64 (1 + v) = 1 + v := by unfold wrap64; omega
  have z0 : (⟨#[]⟩ : ByteArray).size = 0 := rfl
  obtain ⟨q, hq, hs⟩ := df_l0 l0 hb l hl (1 + v).toNat (1 + v) (⟨#[]⟩ : ByteArray) i3 h3 (by omega) (by omega) hi3
  refine ⟨l, q, ?_, hs⟩
  unfold spec_DrawFindBox.f
  refine Ev.bind hn (Ev.bind hr (Ev.congr (fun k => ?_) hq))
  show ((spec_l1Below.f l0 i2 h2 3).bind _) = _
  rw [e3, Option.bind_some, wv]

/-- What is found has the path's last kind, and is as deep as the path has parts. -/
theorem fb_last (l : List S34) (hk : Kinds l) : ∀ (n : Nat) (s : List UInt8), s.length ≤ n → ∀ (d a b r : Int), -1 ≤ a → a + 1 ≤ b → b ≤ (l.length : Int) → fb l (splitL s) d a b = r → 0 ≤ r →
    ∃ m : Nat, s.length = 5 * m + 4 ∧ r < (l.length : Int) ∧ (rd_T34 l r).f1 = d + m ∧ (rd_T34 l r).f0.toList = s.drop (5 * m) := by
  intro n
  induction n with
  | zero =>
    intro s hs d a b r ha hab hb h hr
    have : s = [] := List.eq_nil_of_length_eq_zero (by omega)
    subst this
    rw [splitL, fb, scan_no l d [] _ _ (by omega) (by omega) (kind_len l hk [] (by simp)), if_pos (by omega)] at h
    omega
  | succ n ih =>
    intro s hs d a b r ha hab hb h hr
    rcases splitL_cases s with hn | ⟨q, t, rfl, hq⟩
    · rw [splitL_none s hn, fb] at h
      have hsr := scan_range l d s (b - (a + 1)).toNat (a + 1) (by omega)
      generalize scan l d s (b - (a + 1)).toNat (a + 1) = i at h hsr
      rcases hsr with rfl | ⟨r1, r2, r3, r4⟩
      · rw [if_pos (by omega)] at h
        omega
      · rw [if_neg (by omega), fb] at h
        subst h
        refine ⟨0, ?_, by omega, by omega, by rw [r4]; rfl⟩
        by_cases c : s.length = 4
        · omega
        · exact absurd r4 (kind_len l hk s c i (by omega) (by omega))
    · rw [splitL_first q t hq, fb] at h
      have hsr := scan_range l d q (b - (a + 1)).toNat (a + 1) (by omega)
      generalize scan l d q (b - (a + 1)).toNat (a + 1) = i at h hsr
      rcases hsr with rfl | ⟨r1, r2, r3, r4⟩
      · rw [if_pos (by omega)] at h
        omega
      · rw [if_neg (by omega)] at h
        have hst := stop_range l d ((l.length : Int) - (i + 1)).toNat (i + 1)
        simp only [List.length_append, List.length_cons] at hs
        have hq4 : q.length = 4 := by
          by_cases c : q.length = 4
          · exact c
          · exact absurd r4 (kind_len l hk q c i (by omega) (by omega))
        obtain ⟨m, h1, h2, h3, h4⟩ := ih t (by omega) (d + 1) i _ r (by omega) hst.1 (by omega) h hr
        refine ⟨m + 1, by simp only [List.length_append, List.length_cons]; omega, h2, by omega, ?_⟩
        rw [h4, show 5 * (m + 1) = q.length + (5 * m + 1) by omega, ← List.drop_drop, List.drop_left, List.drop_succ_cons]
theorem w_four (n m : Nat) (h : n = 5 * m + 4) (hn : n ≤ 5000) : wrap64 ((n : Int) - 4) = ((5 * m : Nat) : Int) := by unfold wrap64; omega
theorem w_five (n m : Nat) (h : n = 5 * m + 4) (hn : n ≤ 5000) : wrap64 ((n : Int) / 5) = (m : Int) := by unfold wrap64; omega
theorem found_end (l : List S34) (p : ByteArray) (r : Int) (m : Nat) (hp : p.size ≤ 5000) (h1 : p.size = 5 * m + 4) (c : ¬ r < 0) (h2 : r < (l.length : Int)) (h3 : (rd_T34 l r).f1 = (m : Int)) (h4 : (rd_T34 l r).f0.toList = p.data.toList.drop (5 * m)) :
    (if r < 0 then (some true) else (if 0 ≤ r then (if r < (l.length : Int) then (if 0 ≤ (wrap64 ((p.size : Int) - 4)) then (if (wrap64 ((p.size : Int) - 4)) ≤ (p.size : Int) then (if ((rd_T34 l r).f0).toList = (p.extract ((wrap64 ((p.size : Int) - 4)) : Int).toNat p.size).toList then (some (((rd_T34 l r).f1) == (wrap64 ((p.size : Int) / 5)))) else (some false)) else (none)) else (none)) else (none)) else (none))) = some true := by
  have hz : p.data.toList.length = p.size := by rw [Array.length_toList]; rfl
  rw [w_four p.size m h1 hp, w_five p.size m h1 hp, h3]
  have e : (p.extract (((5 * m : Nat) : Int)).toNat p.size).toList = p.data.toList.drop (5 * m) := by
    rw [ext_list, Int.toNat_natCast, List.take_of_length_le (by rw [List.length_drop]; omega)]
  rw [e, if_neg c, if_pos (Int.not_lt.1 c), if_pos h2, if_pos (Int.natCast_nonneg _), if_pos (by omega), if_pos h4]
  simp

theorem FnFound (l0 : List Int) (w0 : (l0.length ≤ maxLen ∧ ∀ y2 ∈ l0, (Lit.int .u8 y2).wf = true)) : ∃ k, PFnFound.laws_FnFound.f k l0 = some true := by
  unfold laws_FnFound.f laws_big.f
  simp only [Option.bind_some, decide_eq_true_eq]
  by_cases hbig : (l0.length : Int) > 4096
  · exact ⟨1, by rw [if_pos hbig]⟩
  obtain ⟨l, p, hd, hp⟩ := find_drawn l0 (by omega)
  obtain ⟨r, hs, hi, hall⟩ := find_eq l p (by omega)
  refine Ev.rounds ?_
  refine Ev.congr (fun k => by rw [if_neg hbig]) ?_
  refine Ev.bind hd (Ev.bind hi (Ev.bind hs ?_))
  refine Ev.congr (f := fun _ => some true) (fun k => ?_) (Ev.now _)
  refine (if_pos rfl).trans ?_
  by_cases c : r < 0
  · exact if_pos c
  · obtain ⟨hl, hk, h5, hr⟩ := hall (by omega)
    obtain ⟨m, h1, h2, h3, h4⟩ := fb_last l hk _ p.data.toList (Nat.le_refl _) 0 (-1) (l.length : Int) r (by omega) (by omega) (by omega) hr.symm (by omega)
    have hz : p.data.toList.length = p.size := by rw [Array.length_toList]; rfl
    exact found_end l p r m hp (by omega) c h2 (by rw [h3]; omega) h4

end Go.Proofs.YtpennfkjfeipcaaDoor.Pure
