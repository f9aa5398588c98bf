/- Proved: the plain law behind FnExactBoxesOk. No condition. -/
import Derived.Test.YtpennfkjfeipcaaPFnExactBoxesOkx5
namespace Go.Proofs.Ytpennfkjfeipcaa.Pure
open Go.RowKit Go.Proofs.Ytpennfkjfeipcaa.PFnExactBoxesOk Go.Proofs.YtpennfkjfeipcaaW.PrintWords Go.Proofs.YtpennfkjfeipcaaW.PrintLast

set_option linter.unusedVariables false
set_option linter.unusedSimpArgs false

theorem run_to {α : Type} (F : Nat → Int → Option α) (n : Int) (r : α) (step : ∀ k i, 0 ≤ i → i < n → F (k + 1) i = F k (i + 1)) (stop : ∀ k, F (k + 1) n = some r) :
    ∀ (d k : Nat) (i : Int), 0 ≤ i → i ≤ n → n - i = d → d < k → F k i = some r := by
  intro d
  induction d with
  | zero =>
    intro k i h0 h1 hd hk
    obtain ⟨k, rfl⟩ : ∃ m, k = m + 1 := ⟨k - 1, by omega⟩
    obtain rfl : i = n := by omega
    exact stop k
  | succ d ih =>
    intro k i h0 h1 hd hk
    obtain ⟨k, rfl⟩ : ∃ m, k = m + 1 := ⟨k - 1, by omega⟩
    rw [step k i h0 (by omega)]
    exact ih k (i + 1) (by omega) (by omega) (by omega) (by omega)

theorem set_to {α β : Type} (F : Nat → List β → Int → Option (List β)) (l : List α) (conv : α → β)
    (step : ∀ k acc i x, 0 ≤ i → l[i.toNat]? = some x → acc.length = l.length → F (k + 1) acc i = F k (acc.set i.toNat (conv x)) (i + 1)) (stop : ∀ k acc, F (k + 1) acc (l.length : Int) = some acc) :
    ∀ (d k : Nat) (acc : List β) (i : Int), 0 ≤ i → i ≤ l.length → (l.length : Int) - i = d → d < k → acc.length = l.length → F k acc i = some (acc.take i.toNat ++ (l.drop i.toNat).map conv) := by
  intro d
  induction d with
  | zero =>
    intro k acc i h0 h1 hd hk ha
    obtain ⟨k, rfl⟩ : ∃ m, k = m + 1 := ⟨k - 1, by omega⟩
    obtain rfl : i = (l.length : Int) := by omega
    rw [stop k]
    simp [← ha]
  | succ d ih =>
    intro k acc i h0 h1 hd hk ha
    obtain ⟨k, rfl⟩ : ∃ m, k = m + 1 := ⟨k - 1, by omega⟩
    have hlt : i.toNat < l.length := by omega
    have hx : l[i.toNat]? = some l[i.toNat] := List.getElem?_eq_getElem hlt
    rw [step k acc i _ h0 hx ha, ih k _ (i + 1) (by omega) (by omega) (by omega) (by omega) (by simpa using ha)]
    have e : (i + 1).toNat = i.toNat + 1 := by omega
    rw [e]
    congr 1
    rw [List.take_succ_eq_append_getElem (by simp; omega)]
    rw [List.drop_eq_getElem_cons hlt, List.map_cons, List.getElem_set_self, List.take_set_of_le (Nat.le_refl _), List.append_assoc]
    rfl

theorem in_some (a b c : Int) : impl_in.f a b c = some (decide (b ≤ a ∧ a ≤ c)) := by
  unfold impl_in.f
  by_cases h : b ≤ a
  · simp [h]
  · simp [h]

theorem in_spec (a b c : Int) : spec_l1In.f a b c = some (decide (b ≤ a ∧ a ≤ c)) := in_some a b c

/-- A letter or a digit. -/
def Good (c : Int) : Prop := (48 ≤ c ∧ c ≤ 57) ∨ (65 ≤ c ∧ c ≤ 90) ∨ (97 ≤ c ∧ c ≤ 122)

instance (c : Int) : Decidable (Good c) := by unfold Good; infer_instance

theorem spec_char (c : Int) (n : Option Bool) : (if c < 48 then (if c < 97 then (if c < 65 then (some false) else (if c > 90 then (some false) else n)) else (if c > 122 then (if c < 65 then (some false) else (if c > 90 then (some false) else n)) else n)) else (if c > 57 then (if c < 97 then (if c < 65 then (some false) else (if c > 90 then (some false) else n)) else (if c > 122 then (if c < 65 then (some false) else (if c > 90 then (some false) else n)) else n)) else n)) = if Good c then n else some false := by
  by_cases g : Good c
  · rw [if_pos g]
    unfold Good at g
    repeat' split
    all_goals first | rfl | omega
  · rw [if_neg g]
    unfold Good at g
    repeat' split
    all_goals first | rfl | omega

theorem impl_char (c : Int) (n : Option Bool) : ((impl_isLetter.f c).bind fun t135 => (if t135 = true then n else ((impl_isDigit.f c).bind fun t136 => (if t136 = true then n else (some false))))) = if Good c then n else some false := by
  have h1 : impl_isLetter.f c = some (decide ((97 ≤ c ∧ c ≤ 122) ∨ (65 ≤ c ∧ c ≤ 90))) := by
    unfold impl_isLetter.f
    repeat' split
    all_goals (congr 1; first | (symm; apply decide_eq_true; omega) | (symm; apply decide_eq_false; omega) | (apply decide_eq_decide.2; omega))
  have h2 : impl_isDigit.f c = some (decide (48 ≤ c ∧ c ≤ 57)) := by
    unfold impl_isDigit.f
    repeat' split
    all_goals (congr 1; first | (symm; apply decide_eq_true; omega) | (symm; apply decide_eq_false; omega) | (apply decide_eq_decide.2; omega))
  rw [h1, h2]
  simp only [Option.bind_some, decide_eq_true_eq]
  by_cases g1 : (97 ≤ c ∧ c ≤ 122) ∨ (65 ≤ c ∧ c ≤ 90)
  · rw [if_pos g1, if_pos (by unfold Good; omega)]
  · rw [if_neg g1]
    by_cases g2 : 48 ≤ c ∧ c ≤ 57
    · rw [if_pos g2, if_pos (by unfold Good; omega)]
    · rw [if_neg g2, if_neg (by unfold Good; omega)]

theorem kind_l (s : ByteArray) (hs : (s.size : Int) = 4) : ∀ (d k k' : Nat) (i : Int), 0 ≤ i → i ≤ 4 → 4 - i = d → d < k → d < k' → ∃ r, spec_l2Kind.l0 k s i = some r ∧ impl_kindOk.l0 k' s 4 i = some r := by
  intro d
  induction d with
  | zero =>
    intro k k' i h0 h1 hd hk hk'
    obtain ⟨k, rfl⟩ : ∃ m, k = m + 1 := ⟨k - 1, by omega⟩
    obtain ⟨k', rfl⟩ : ∃ m, k' = m + 1 := ⟨k' - 1, by omega⟩
    refine ⟨true, ?_, ?_⟩
    · simp only [spec_l2Kind.l0]; rw [if_neg (by omega)]
    · simp only [impl_kindOk.l0]; rw [if_neg (by omega)]
  | succ d ih =>
    intro k k' i h0 h1 hd hk hk'
    obtain ⟨k, rfl⟩ : ∃ m, k = m + 1 := ⟨k - 1, by omega⟩
    obtain ⟨k', rfl⟩ : ∃ m, k' = m + 1 := ⟨k' - 1, by omega⟩
    have wi : wrap64 (i + 1) = i + 1 := by unfold wrap64; omega
    obtain ⟨r, a, b⟩ := ih k k' (i + 1) (by omega) (by omega) (by omega) (by omega) (by omega)
    have hS : spec_l2Kind.l0 (k + 1) s i = if Good (bt s i) then spec_l2Kind.l0 k s (i + 1) else some false := by
      simp only [spec_l2Kind.l0]
      rw [if_pos (by omega), if_pos h0, if_pos (by omega), spec_char, wi]
    have hI : impl_kindOk.l0 (k' + 1) s 4 i = if Good (bt s i) then impl_kindOk.l0 k' s 4 (i + 1) else some false := by
      simp only [impl_kindOk.l0]
      rw [if_pos (by omega), if_pos h0, if_pos (by omega), impl_char, wi]
    rw [hS, hI, a, b]
    by_cases g : Good (bt s i)
    · rw [if_pos g]; exact ⟨r, rfl, rfl⟩
    · rw [if_neg g]; exact ⟨false, rfl, rfl⟩

theorem kind_eq (s : ByteArray) : ∃ r, (r = true → s.size = 4) ∧ ∀ k, 6 ≤ k → spec_l2Kind.f k s = some r ∧ impl_kindOk.f k s = some r := by
  by_cases c : (s.size : Int) = 4
  · obtain ⟨r, a, b⟩ := kind_l s c 4 5 5 0 (by omega) (by omega) (by omega) (by omega) (by omega)
    refine ⟨r, fun _ => by omega, fun k hk => ?_⟩
    obtain ⟨r1, a1, b1⟩ := kind_l s c 4 k 5 0 (by omega) (by omega) (by omega) (by omega) (by omega)
    obtain ⟨r2, a2, b2⟩ := kind_l s c 4 5 k 0 (by omega) (by omega) (by omega) (by omega) (by omega)
    unfold spec_l2Kind.f impl_kindOk.f
    rw [if_pos c, if_pos c, c]
    obtain rfl := Option.some.inj (b1.symm.trans b)
    obtain rfl := Option.some.inj (a2.symm.trans a)
    exact ⟨a1, b2⟩
  · refine ⟨false, fun h => by simp at h, fun k hk => ?_⟩
    unfold spec_l2Kind.f impl_kindOk.f
    rw [if_neg c, if_neg c]
    exact ⟨rfl, rfl⟩

def hold (s : ByteArray) : Bool := decide (65 ≤ bt s 0 ∧ bt s 0 ≤ 90)

theorem hold_i (s : ByteArray) (d : Int) (l : List Int) (h : s.size = 4) : impl_Box_holds.f s d l = some (hold s) := by
  unfold impl_Box_holds.f hold
  rw [if_pos (by omega)]
  by_cases c : 65 ≤ bt s 0
  · rw [if_pos c]; simp [c]
  · rw [if_neg c]; simp [c]

theorem hold_s (s : ByteArray) (h : s.size = 4) : spec_l2Holds.f s = some (hold s) := hold_i s 0 [] h

/-- Whether the box b may stand at place i, behind a. -/
def fitB (b a : S46) (i : Int) : Bool := !(hold b.f0 && decide ((b.f2.length : Int) > 0)) && decide (0 ≤ b.f1 ∧ b.f1 ≤ (if i = 0 then 0 else mn (if hold a.f0 = true then a.f1 + 1 else a.f1) 8))

theorem spec_step (l : List S46) (hl : l.length ≤ 200) (x i : Int) (h0 : 0 ≤ i) (hlt : i < (l.length : Int)) (k : Nat) (hk : 8 ≤ k) (hkind : spec_l2Kind.f (k + 1) (rd_T46 l i).f0 = some true) (hs : (rd_T46 l i).f0.size = 4)
    (hp : 0 < i → (rd_T46 l (i - 1)).f0.size = 4 ∧ 0 ≤ (rd_T46 l (i - 1)).f1 ∧ (rd_T46 l (i - 1)).f1 ≤ 8) :
    spec_BoxesOk.l0 (k + 2) l x i = if fitB (rd_T46 l i) (rd_T46 l (i - 1)) i = true then spec_BoxesOk.l0 k l (wrap64 (x + ((rd_T46 l i).f2.length : Int))) (i + 1) else some false := by
  have wi : wrap64 (i + 1) = i + 1 := by unfold wrap64; omega
  have wj : wrap64 (i - 1) = i - 1 := by unfold wrap64; omega
  simp only [spec_BoxesOk.l0]
  rw [if_pos hlt, if_pos h0, hkind]
  simp only [Option.bind_some, if_true, spec_BoxesOk.j1, in_spec]
  rw [hold_s _ hs, wi, wj]
  simp only [Option.bind_some]
  generalize hn : spec_BoxesOk.l0 k l (wrap64 (x + ((rd_T46 l i).f2.length : Int))) (i + 1) = nx
  generalize hb : rd_T46 l i = b at *
  generalize ha : rd_T46 l (i - 1) = a at *
  unfold fitB
  clear hn
  generalize (b.f2.length : Int) = m
  by_cases hi : i = 0
  · subst hi
    have e0 : ¬ (0 : Int) > 0 := by omega
    by_cases d : 0 ≤ b.f1 ∧ b.f1 ≤ 8
    · by_cases h1 : hold b.f0 = true
      · by_cases h2 : m > 0
        · simp [d, h1, h2]
        · by_cases z : b.f1 = 0
          · simp [d, h1, h2, z]
          · have : ¬ b.f1 ≤ 0 := by omega
            simp [d, h1, h2, z, this]
      · by_cases z : b.f1 = 0
        · simp [d, h1, z]
        · have : ¬ b.f1 ≤ 0 := by omega
          simp [d, h1, z, this]
    · have : ¬ (0 ≤ b.f1 ∧ b.f1 ≤ 0) := by omega
      simp [d, this]
  · have hip : i > 0 := by omega
    obtain ⟨p1, p2, p3⟩ := hp hip
    have e1 : (0 : Int) ≤ i - 1 := by omega
    have e2 : i - 1 < (l.length : Int) := by omega
    have wa : wrap64 (a.f1 + 1) = a.f1 + 1 := by unfold wrap64; omega
    rw [hold_s _ p1, wa]
    unfold mn
    simp only [Option.bind_some, if_pos hip, if_pos e1, if_pos e2, if_neg hi]
    have key : ∀ m : Bool, m = decide (0 ≤ b.f1 ∧ b.f1 ≤ (if 8 < (if hold a.f0 = true then a.f1 + 1 else a.f1) then 8 else (if hold a.f0 = true then a.f1 + 1 else a.f1))) → (0 ≤ b.f1 ∧ b.f1 ≤ 8) →
        (if b.f1 > a.f1 then if b.f1 = a.f1 + 1 then if hold a.f0 = true then nx else some false else some false else nx) = if m = true then nx else some false := by
      intro m hm d
      subst hm
      by_cases h : hold a.f0 = true
      · simp only [h, if_true]
        by_cases c1 : b.f1 > a.f1
        · by_cases c2 : b.f1 = a.f1 + 1
          · rw [if_pos c1, if_pos c2, if_pos]
            apply decide_eq_true
            split <;> omega
          · rw [if_pos c1, if_neg c2, if_neg]
            intro q
            have q := of_decide_eq_true q
            split at q <;> omega
        · rw [if_neg c1, if_pos]
          apply decide_eq_true
          split <;> omega
      · simp only [h, if_false, Bool.false_eq_true]
        by_cases c1 : b.f1 > a.f1
        · have hq : ¬ decide (0 ≤ b.f1 ∧ b.f1 ≤ (if 8 < a.f1 then 8 else a.f1)) = true := by
            intro q
            have q := of_decide_eq_true q
            split at q <;> omega
          rw [if_pos c1, if_neg hq]
          split <;> rfl
        · rw [if_neg c1, if_pos]
          apply decide_eq_true
          split <;> omega
    by_cases d : 0 ≤ b.f1 ∧ b.f1 ≤ 8
    · have hkey := key _ rfl d
      by_cases h1 : hold b.f0 = true
      · by_cases h2 : m > 0
        · simp [d, h1, h2]
        · rw [hkey] at *
          simp [d, h1, h2]
      · rw [hkey] at *
        simp [d, h1]
    · have : ¬ decide (0 ≤ b.f1 ∧ b.f1 ≤ (if 8 < (if hold a.f0 = true then a.f1 + 1 else a.f1) then 8 else (if hold a.f0 = true then a.f1 + 1 else a.f1))) = true := by
        intro q
        have q := of_decide_eq_true q
        split at q <;> omega
      simp only [Bool.and_eq_true, this, and_false, if_false]
      simp [d]

theorem rd_take (l : List S46) (i : Int) (h0 : 0 < i) (h1 : i ≤ (l.length : Int)) : rd_T46 (l.take i.toNat) (i - 1) = rd_T46 l (i - 1) := by
  unfold rd_T46
  rw [List.getD_eq_getElem?_getD, List.getD_eq_getElem?_getD, List.getElem?_take_of_lt (by omega)]

theorem fits_step (l : List S46) (hl : l.length ≤ 200) (i : Int) (h0 : 0 ≤ i) (hlt : i < (l.length : Int)) (k : Nat) (hkind : impl_kindOk.f (k + 1) (rd_T46 l i).f0 = some true) (hs : (rd_T46 l i).f0.size = 4)
    (hp : 0 < i → (rd_T46 l (i - 1)).f0.size = 4 ∧ 0 ≤ (rd_T46 l (i - 1)).f1 ∧ (rd_T46 l (i - 1)).f1 ≤ 8) :
    impl_Box_fits.f (k + 1) (rd_T46 l i).f0 (rd_T46 l i).f1 (rd_T46 l i).f2 (l.take i.toNat) = some (fitB (rd_T46 l i) (rd_T46 l (i - 1)) i) := by
  have hlen : ((l.take i.toNat).length : Int) = i := by rw [List.length_take]; omega
  have wj : wrap64 (i - 1) = i - 1 := by unfold wrap64; omega
  unfold impl_Box_fits.f
  rw [hkind, hold_i _ _ _ hs]
  simp only [Option.bind_some, if_true, impl_Box_fits.j0, hlen, wj]
  have hJ : ∀ q : Bool, (if q = true then some false else (if i > 0 then (if 0 ≤ i - 1 then (if i - 1 < i then ((impl_Box_holds.f ((rd_T46 (l.take i.toNat) (i - 1)).f0) ((rd_T46 (l.take i.toNat) (i - 1)).f1) ((rd_T46 (l.take i.toNat) (i - 1)).f2)).bind fun t143 => (if t143 = true then ((impl_in.f (rd_T46 l i).f1 0 (mn (wrap64 (((rd_T46 (l.take i.toNat) (i - 1)).f1) + 1)) 8)).bind fun t144 => (some t144)) else ((impl_in.f (rd_T46 l i).f1 0 (mn ((rd_T46 (l.take i.toNat) (i - 1)).f1) 8)).bind fun t145 => (some t145)))) else (none)) else (none)) else ((impl_in.f (rd_T46 l i).f1 0 (mn 0 8)).bind fun t146 => (some t146))))
      = some (!q && decide (0 ≤ (rd_T46 l i).f1 ∧ (rd_T46 l i).f1 ≤ (if i = 0 then 0 else mn (if hold (rd_T46 l (i - 1)).f0 = true then (rd_T46 l (i - 1)).f1 + 1 else (rd_T46 l (i - 1)).f1) 8))) := by
    intro q
    cases q with
    | true => simp
    | false =>
      by_cases hi : i = 0
      · subst hi
        rw [if_neg (by simp), if_neg (by omega : ¬ (0 : Int) > 0), in_some]
        simp [mn]
      · have hip : 0 < i := by omega
        obtain ⟨p1, p2, p3⟩ := hp hip
        have wa : wrap64 ((rd_T46 l (i - 1)).f1 + 1) = (rd_T46 l (i - 1)).f1 + 1 := by unfold wrap64; omega
        rw [if_neg (by simp), if_pos (by omega), if_pos (by omega), if_pos (by omega), rd_take l i hip (by omega), hold_i _ _ _ p1, wa, in_some, in_some, if_neg hi]
        simp only [Option.bind_some]
        by_cases h : hold (rd_T46 l (i - 1)).f0 = true
        · simp [h]
        · simp [h]
  unfold fitB
  by_cases h1 : hold (rd_T46 l i).f0 = true
  · rw [h1]
    simp only [if_true, Bool.true_and]
    exact hJ _
  · have h1' : hold (rd_T46 l i).f0 = false := by simpa using h1
    rw [h1']
    simp only [Bool.false_eq_true, if_false, Bool.false_and]
    exact hJ false

theorem fit_depth (b a : S46) (i : Int) (h : fitB b a i = true) : 0 ≤ b.f1 ∧ b.f1 ≤ 8 := by
  unfold fitB at h
  simp only [Bool.and_eq_true, decide_eq_true_eq] at h
  obtain ⟨_, h1, h2⟩ := h
  refine ⟨h1, ?_⟩
  unfold mn at h2
  split at h2
  · omega
  · split at h2 <;> omega

theorem impl_step (l : List S46) (hl : l.length ≤ 200) (k : Nat) (x i : Int) (h0 : 0 ≤ i) (hlt : i < (l.length : Int)) : impl_BoxesOk.l0 (k + 1) l x l (l.length : Int) i =
    (impl_Box_fits.f k (rd_T46 l i).f0 (rd_T46 l i).f1 (rd_T46 l i).f2 (l.take i.toNat)).bind fun t => if t = true then impl_BoxesOk.l0 k l (wrap64 (x + ((rd_T46 l i).f2.length : Int))) l (l.length : Int) (i + 1) else some false := by
  have wi : wrap64 (i + 1) = i + 1 := by unfold wrap64; omega
  simp only [impl_BoxesOk.l0]
  rw [if_pos hlt, if_pos h0, if_pos hlt, if_pos (by omega), wi]

theorem boxes_l (l : List S46) (hl : l.length ≤ 200) : ∀ (d k k' : Nat) (i x : Int), 0 ≤ i → i ≤ (l.length : Int) → (l.length : Int) - i = d → 2 * d + 10 < k → 2 * d + 10 < k' →
    (0 < i → (rd_T46 l (i - 1)).f0.size = 4 ∧ 0 ≤ (rd_T46 l (i - 1)).f1 ∧ (rd_T46 l (i - 1)).f1 ≤ 8) →
    ∃ r, spec_BoxesOk.l0 k l x i = some r ∧ impl_BoxesOk.l0 k' l x l (l.length : Int) i = some r := by
  intro d
  induction d with
  | zero =>
    intro k k' i x h0 h1 hd hk hk' hp
    obtain ⟨k, rfl⟩ : ∃ m, k = m + 1 := ⟨k - 1, by omega⟩
    obtain ⟨k', rfl⟩ : ∃ m, k' = m + 1 := ⟨k' - 1, by omega⟩
    refine ⟨decide (x ≤ 20000), ?_, ?_⟩
    · simp only [spec_BoxesOk.l0]; rw [if_neg (by omega)]
    · simp only [impl_BoxesOk.l0]; rw [if_neg (by omega)]
  | succ d ih =>
    intro k k' i x h0 h1 hd hk hk' hp
    obtain ⟨k, rfl⟩ : ∃ m, k = m + 2 := ⟨k - 2, by omega⟩
    obtain ⟨k', rfl⟩ : ∃ m, k' = m + 2 := ⟨k' - 2, by omega⟩
    have hlt : i < (l.length : Int) := by omega
    have wi : wrap64 (i + 1) = i + 1 := by unfold wrap64; omega
    obtain ⟨r, hr, hK⟩ := kind_eq (rd_T46 l i).f0
    cases r with
    | false =>
      refine ⟨false, ?_, ?_⟩
      · simp only [spec_BoxesOk.l0]
        rw [if_pos hlt, if_pos h0, (hK (k + 1) (by omega)).1]
        simp [spec_BoxesOk.j1]
      · rw [show k' + 2 = (k' + 1) + 1 from rfl, impl_step l hl (k' + 1) x i h0 hlt]
        unfold impl_Box_fits.f
        rw [(hK (k' + 1) (by omega)).2]
        simp [impl_Box_fits.j0]
    | true =>
      have hs := hr rfl
      rw [spec_step l hl x i h0 hlt k (by omega) (hK (k + 1) (by omega)).1 hs hp]
      rw [show k' + 2 = (k' + 1) + 1 from rfl, impl_step l hl (k' + 1) x i h0 hlt, fits_step l hl i h0 hlt k' (hK (k' + 1) (by omega)).2 hs hp]
      simp only [Option.bind_some]
      by_cases f : fitB (rd_T46 l i) (rd_T46 l (i - 1)) i = true
      · rw [if_pos f]
        obtain ⟨r, a, b⟩ := ih k (k' + 1) (i + 1) (wrap64 (x + ((rd_T46 l i).f2.length : Int))) (by omega) (by omega) (by omega) (by omega) (by omega) (fun _ => by
          rw [show i + 1 - 1 = i by omega]
          exact ⟨hs, fit_depth _ _ _ f⟩)
        exact ⟨r, a, by rw [if_pos f]; exact b⟩
      · rw [if_neg f]
        exact ⟨false, rfl, by rw [if_neg f]⟩

/-- The program's BoxesOk and the reference's answer alike. -/
theorem boxes_eq (l : List S46) (k : Nat) (hk : 500 ≤ k) : ∃ r, spec_BoxesOk.f k l = some r ∧ impl_BoxesOk.f k l = some r := by
  unfold spec_BoxesOk.f impl_BoxesOk.f
  by_cases c : (l.length : Int) > 200
  · rw [if_pos c, if_pos c]; exact ⟨false, rfl, rfl⟩
  · rw [if_neg c, if_neg c]
    exact boxes_l l (by omega) l.length k k 0 0 (by omega) (by omega) (by omega) (by omega) (by omega) (fun h => by omega)

theorem set_from {α β : Type} (F : Nat → List β → Int → Option (List β)) (l : List α) (conv : α → β) (K : Nat)
    (step : ∀ k acc i x, K ≤ k → 0 ≤ i → l[i.toNat]? = some x → acc.length = l.length → F (k + 1) acc i = F k (acc.set i.toNat (conv x)) (i + 1)) (stop : ∀ k acc, F (k + 1) acc (l.length : Int) = some acc) :
    ∀ (d k : Nat) (acc : List β) (i : Int), 0 ≤ i → i ≤ l.length → (l.length : Int) - i = d → d + K < k → acc.length = l.length → F k acc i = some (acc.take i.toNat ++ (l.drop i.toNat).map conv) := by
  intro d
  induction d with
  | zero =>
    intro k acc i h0 h1 hd hk ha
    obtain ⟨k, rfl⟩ : ∃ m, k = m + 1 := ⟨k - 1, by omega⟩
    obtain rfl : i = (l.length : Int) := by omega
    rw [stop k]
    simp [← ha]
  | succ d ih =>
    intro k acc i h0 h1 hd hk ha
    obtain ⟨k, rfl⟩ : ∃ m, k = m + 1 := ⟨k - 1, by omega⟩
    have hlt : i.toNat < l.length := by omega
    have hx : l[i.toNat]? = some l[i.toNat] := List.getElem?_eq_getElem hlt
    rw [step k acc i _ (by omega) h0 hx ha, ih k _ (i + 1) (by omega) (by omega) (by omega) (by omega) (by simpa using ha)]
    have e : (i + 1).toNat = i.toNat + 1 := by omega
    rw [e]
    congr 1
    rw [List.take_succ_eq_append_getElem (by simp; omega)]
    rw [List.drop_eq_getElem_cons hlt, List.map_cons, List.getElem_set_self, List.take_set_of_le (Nat.le_refl _), List.append_assoc]
    rfl

theorem run_from {α : Type} (F : Nat → Int → Option α) (n : Int) (r : α) (K : Nat) (step : ∀ k i, K ≤ k → 0 ≤ i → i < n → F (k + 1) i = F k (i + 1)) (stop : ∀ k, F (k + 1) n = some r) :
    ∀ (d k : Nat) (i : Int), 0 ≤ i → i ≤ n → n - i = d → d + K < k → F k i = some r := by
  intro d
  induction d with
  | zero =>
    intro k i h0 h1 hd hk
    obtain ⟨k, rfl⟩ : ∃ m, k = m + 1 := ⟨k - 1, by omega⟩
    obtain rfl : i = n := by omega
    exact stop k
  | succ d ih =>
    intro k i h0 h1 hd hk
    obtain ⟨k, rfl⟩ : ∃ m, k = m + 1 := ⟨k - 1, by omega⟩
    rw [step k i (by omega) h0 (by omega)]
    exact ih k (i + 1) (by omega) (by omega) (by omega) (by omega)

theorem to_bytes (l : List Int) (hl : l.length ≤ 1048576) (k : Nat) (hk : 1048577 ≤ k) : laws_toByteS.f k l = some l := by
  unfold laws_toByteS.f
  rw [if_pos (by omega), if_pos (by omega)]
  have h := set_to (fun k acc i => laws_toByteS.l0 k l acc i) l id (by
    intro k acc i x h0 hx ha
    have hlt : i.toNat < l.length := (List.getElem?_eq_some_iff.1 hx).1
    simp only [laws_toByteS.l0]
    have hr : rd l i = x := by
      unfold rd
      rw [List.getD_eq_getElem?_getD, hx]
      rfl
    rw [if_pos (by omega), if_pos h0, if_pos (by omega), hr]
    have hw : wrap64 (i + 1) = i + 1 := by unfold wrap64; omega
    rw [hw]
    rfl) (by
    intro k acc
    simp only [laws_toByteS.l0]
    rw [if_neg (by omega)]) l.length k (List.replicate ((l.length : Int)).toNat 0) 0 (by omega) (by omega) (by omega) (by omega) (by simp)
  rw [h]
  simp

theorem eq_bytes (l : List Int) (hl : l.length ≤ 1048576) (k : Nat) (hk : 1048577 ≤ k) : laws_eqByteS.f k l l = some true := by
  unfold laws_eqByteS.f
  rw [if_pos rfl]
  exact run_to (fun k i => laws_eqByteS.l0 k l l i) (l.length : Int) true (by
    intro k i h0 h1
    simp only [laws_eqByteS.l0]
    rw [if_pos h1, if_pos h0, if_pos h1]
    have hw : wrap64 (i + 1) = i + 1 := by unfold wrap64; omega
    simp [hw]) (by
    intro k
    simp only [laws_eqByteS.l0]
    rw [if_neg (by omega)]) l.length k 0 (by omega) (by omega) (by omega) (by omega)

def conv (x : S45) : S46 := ⟨x.f0, x.f1, x.f2⟩

theorem rd45 (l : List S45) (i : Int) (x : S45) (h : l[i.toNat]? = some x) : rd_T45 l i = x := by
  unfold rd_T45
  rw [List.getD_eq_getElem?_getD, h]
  rfl

theorem rd46 (l : List S46) (i : Int) (x : S46) (h : l[i.toNat]? = some x) : rd_T46 l i = x := by
  unfold rd_T46
  rw [List.getD_eq_getElem?_getD, h]
  rfl

theorem to_boxes (l : List S45) (hl : l.length ≤ 1048576) (hd : ∀ x ∈ l, x.f2.length ≤ 1048576) (k : Nat) (hk : 2097155 ≤ k) : laws_toBoxS.f k l = some (l.map conv) := by
  unfold laws_toBoxS.f
  rw [if_pos (by omega), if_pos (by omega)]
  have h := set_from (fun k acc i => laws_toBoxS.l0 k l acc i) l conv 1048577 (by
    intro k acc i x hK h0 hx ha
    have hlt : i.toNat < l.length := (List.getElem?_eq_some_iff.1 hx).1
    simp only [laws_toBoxS.l0]
    rw [if_pos (by omega), if_pos h0, rd45 l i x hx]
    unfold laws_toBox.f
    rw [to_bytes x.f2 (hd x (List.mem_of_getElem? hx)) k hK]
    simp only [Option.bind_some]
    rw [if_pos (by omega)]
    have hw : wrap64 (i + 1) = i + 1 := by unfold wrap64; omega
    rw [hw]
    rfl) (by
    intro k acc
    simp only [laws_toBoxS.l0]
    rw [if_neg (by omega)]) l.length k (List.replicate ((l.length : Int)).toNat z46) 0 (by omega) (by omega) (by omega) (by omega) (by simp)
  rw [h]
  simp

theorem eq_boxes (l : List S46) (hl : l.length ≤ 1048576) (hd : ∀ x ∈ l, x.f2.length ≤ 1048576) (k : Nat) (hk : 2097155 ≤ k) : laws_eqBoxS.f k l l = some true := by
  unfold laws_eqBoxS.f
  rw [if_pos rfl]
  exact run_from (fun k i => laws_eqBoxS.l0 k l l i) (l.length : Int) true 1048577 (by
    intro k i hK h0 h1
    simp only [laws_eqBoxS.l0]
    have hx : l[i.toNat]? = some l[i.toNat] := List.getElem?_eq_getElem (by omega)
    rw [if_pos h1, if_pos h0, if_pos h1, rd46 l i _ hx]
    unfold laws_eqBox.f
    rw [if_pos rfl, if_pos rfl, eq_bytes _ (hd _ (List.mem_of_getElem? hx)) k hK]
    have hw : wrap64 (i + 1) = i + 1 := by unfold wrap64; omega
    simp [hw]) (by
    intro k
    simp only [laws_eqBoxS.l0]
    rw [if_neg (by omega)]) l.length k 0 (by omega) (by omega) (by omega) (by omega)

theorem sz_boxes (l : List S45) (hl : l.length ≤ 1048576) (hd : ∀ x ∈ l, x.f0.size ≤ 2 ^ 63 - 1 ∧ x.f2.length ≤ 2 ^ 63 - 1) : ∀ (d k : Nat) (i a : Int), 0 ≤ i → i ≤ (l.length : Int) → (l.length : Int) - i = d → d < k → 0 ≤ a → a ≤ 1048576 →
    ∃ t, laws_szBoxS.l0 k l a i = some t ∧ (0 ≤ t → ∀ j : Int, i ≤ j → j < (l.length : Int) → (rd_T45 l j).f2.length ≤ 1048576 ∧ (rd_T45 l j).f0.size ≤ 1048576) := by
  intro d
  induction d with
  | zero =>
    intro k i a h0 h1 hd' hk ha hb
    obtain ⟨k, rfl⟩ : ∃ m, k = m + 1 := ⟨k - 1, by omega⟩
    exact ⟨a, by simp only [laws_szBoxS.l0]; rw [if_neg (by omega)], fun _ j _ _ => by omega⟩
  | succ d ih =>
    intro k i a h0 h1 hd' hk ha hb
    obtain ⟨k, rfl⟩ : ∃ m, k = m + 1 := ⟨k - 1, by omega⟩
    have hx : l[i.toNat]? = some l[i.toNat] := List.getElem?_eq_getElem (by omega)
    obtain ⟨x, hx2⟩ : ∃ x, l[i.toNat]? = some x := ⟨_, hx⟩
    have hm := hd x (List.mem_of_getElem? hx2)
    have hr := rd45 l i x hx2
    have wi : wrap64 (i + 1) = i + 1 := by unfold wrap64; omega
    have w1 : wrap64 (a - (x.f0.size : Int)) = a - (x.f0.size : Int) := by unfold wrap64; omega
    simp only [laws_szBoxS.l0]
    rw [if_pos (by omega), if_pos h0, hr]
    unfold laws_szBox.f laws_szByteS.f
    rw [w1, wi]
    by_cases c1 : a - (x.f0.size : Int) < 0
    · rw [if_pos c1]
      exact ⟨-1, by simp, fun h => by omega⟩
    · rw [if_neg c1]
      have w2 : wrap64 (a - (x.f0.size : Int) - (x.f2.length : Int)) = a - (x.f0.size : Int) - (x.f2.length : Int) := by unfold wrap64; omega
      rw [w2]
      by_cases c2 : a - (x.f0.size : Int) - (x.f2.length : Int) < 0
      · rw [if_pos c2]
        exact ⟨-1, by simp, fun h => by omega⟩
      · rw [if_neg c2]
        obtain ⟨t, ht, hj⟩ := ih k (i + 1) (a - (x.f0.size : Int) - (x.f2.length : Int)) (by omega) (by omega) (by omega) (by omega) (by omega) (by omega)
        refine ⟨t, by simp only [Option.bind_some, if_neg c2]; exact ht, fun h0t j hij hjl => ?_⟩
        by_cases e : j = i
        · subst e
          rw [hr]
          constructor <;> omega
        · exact hj h0t j (by omega) hjl

theorem sz_all (l : List S45) (hm : l.length ≤ 2 ^ 63 - 1) (hd : ∀ x ∈ l, x.f0.size ≤ 2 ^ 63 - 1 ∧ x.f2.length ≤ 2 ^ 63 - 1) (k : Nat) (hk : 1048577 ≤ k) :
    ∃ t, laws_szBoxS.f k l 1048576 = some t ∧ (0 ≤ t → l.length ≤ 1048576 ∧ ∀ x ∈ l, x.f2.length ≤ 1048576 ∧ x.f0.size ≤ 1048576) := by
  unfold laws_szBoxS.f
  have hw : wrap64 (1048576 - (l.length : Int)) = 1048576 - (l.length : Int) := by unfold wrap64; omega
  rw [hw]
  by_cases c : 1048576 - (l.length : Int) < 0
  · rw [if_pos c]
    exact ⟨-1, rfl, fun h => by omega⟩
  · rw [if_neg c]
    obtain ⟨t, ht, hj⟩ := sz_boxes l (by omega) hd l.length k 0 (1048576 - (l.length : Int)) (by omega) (by omega) (by omega) (by omega) (by omega) (by omega)
    refine ⟨t, ht, fun h => ⟨by omega, fun x hx => ?_⟩⟩
    obtain ⟨n, hn⟩ := List.getElem?_of_mem hx
    have hlt : n < l.length := (List.getElem?_eq_some_iff.1 hn).1
    have := hj h (n : Int) (by omega) (by omega)
    rw [rd45 l n x (by simpa using hn)] at this
    exact this

theorem FnExactBoxesOk (l0 : List PFnExactBoxesOk.S45) (w0 : (l0.length ≤ maxLen ∧ ∀ y2 ∈ l0, (y2.f0.size ≤ maxLen) ∧ (((Lit.int .i64 y2.f1).wf = true) ∧ ((y2.f2.length ≤ maxLen ∧ ∀ y5 ∈ y2.f2, (Lit.int .u8 y5).wf = true))))) : ∃ k, PFnExactBoxesOk.laws_FnExactBoxesOk.f k l0 = some true := by
  have hm := w0.1
  have hd : ∀ x ∈ l0, x.f0.size ≤ 2 ^ 63 - 1 ∧ x.f2.length ≤ 2 ^ 63 - 1 := fun x hx => ⟨(w0.2 x hx).1, (w0.2 x hx).2.2.1⟩
  unfold maxLen at hm
  refine ⟨2097155, ?_⟩
  unfold laws_FnExactBoxesOk.f
  obtain ⟨t, ht, hs⟩ := sz_all l0 hm hd 2097155 (by omega)
  rw [ht]
  simp only [Option.bind_some]
  by_cases c : t < 0
  · rw [if_pos c]
  · rw [if_neg c]
    obtain ⟨h1, h2⟩ := hs (by omega)
    rw [to_boxes l0 h1 (fun x hx => (h2 x hx).1) _ (by omega)]
    simp only [Option.bind_some]
    obtain ⟨r, a, b⟩ := boxes_eq (l0.map conv) 2097155 (by omega)
    rw [a, b]
    simp only [Option.bind_some, bne_self_eq_false, Bool.false_eq_true, if_false]
    rw [eq_boxes (l0.map conv) (by simpa using h1) (fun x hx => by
      obtain ⟨y, hy, rfl⟩ := List.mem_map.1 hx
      exact (h2 y hy).1) _ (by omega)]
    rfl

end Go.Proofs.Ytpennfkjfeipcaa.Pure
