/- Proved: the plain law behind FnBoxesOne: whatever the draw, it answers true. No condition. -/
-- squeezed
import Derived.Test.YtpennfkjfeipcaaPFnBoxesOnex14
namespace Go.Proofs.Ytpennfkjfeipcaa.Pure
open Go.RowKit Go.Proofs.Ytpennfkjfeipcaa.PFnBoxesOne Go.Proofs.YtpennfkjfeipcaaW.PrintWords Go.Proofs.YtpennfkjfeipcaaW.PrintLast

set_option linter.unusedVariables false
set_option linter.unusedSimpArgs false

theorem run_to {α : Type} (F : Nat → Int → Option α) (n : Int) (r : α) (step : ∀ k i, 0 ≤ i → i < n → F (k + 1) i = F k (i + 1)) (stop : ∀ k, F (k + 1) n = some r) :
  ∀ (d k : Nat) (i : Int), 0 ≤ i → i ≤ n → n - i = d → d < k → F k i = some r := by
 intro d
 induction d with
 | zero =>
  intro k i h0 h1 hd hk
  obtain ⟨k, rfl⟩ : ∃ m, k = m + 1 := ⟨k - 1, by omega⟩
  obtain rfl : i = n := by omega
  exact stop k
 | succ d ih =>
  intro k i h0 h1 hd hk
  obtain ⟨k, rfl⟩ : ∃ m, k = m + 1 := ⟨k - 1, by omega⟩
  rw [step k i h0 (by omega)]
  exact ih k (i + 1) (by omega) (by omega) (by omega) (by omega)

theorem set_to {α β : Type} (F : Nat → List β → Int → Option (List β)) (l : List α) (conv : α → β)
  (step : ∀ k acc i x, 0 ≤ i → l[i.toNat]? = some x → acc.length = l.length → F (k + 1) acc i = F k (acc.set i.toNat (conv x)) (i + 1)) (stop : ∀ k acc, F (k + 1) acc (l.length : Int) = some acc) :
  ∀ (d k : Nat) (acc : List β) (i : Int), 0 ≤ i → i ≤ l.length → (l.length : Int) - i = d → d < k → acc.length = l.length → F k acc i = some (acc.take i.toNat ++ (l.drop i.toNat).map conv) := by
 intro d
 induction d with
 | zero =>
  intro k acc i h0 h1 hd hk ha
  obtain ⟨k, rfl⟩ : ∃ m, k = m + 1 := ⟨k - 1, by omega⟩
  obtain rfl : i = (l.length : Int) := by omega
  rw [stop k]
  simp [← ha]
 | succ d ih =>
  intro k acc i h0 h1 hd hk ha
  obtain ⟨k, rfl⟩ : ∃ m, k = m + 1 := ⟨k - 1, by omega⟩
  have hlt : i.toNat < l.length := by omega
  have hx : l[i.toNat]? = some l[i.toNat] := List.getElem?_eq_getElem hlt
  rw [step k acc i _ h0 hx ha, ih k _ (i + 1) (by omega) (by omega) (by omega) (by omega) (by simpa using ha)]
  have e : (i + 1).toNat = i.toNat + 1 := by omega
  rw [e]
  congr 1
  rw [List.take_succ_eq_append_getElem (by simp; omega)]
  rw [List.drop_eq_getElem_cons hlt, List.map_cons, List.getElem_set_self, List.take_set_of_le (Nat.le_refl _), List.append_assoc]
  rfl

theorem in_some (a b c : Int) : impl_in.f a b c = some (decide (b ≤ a ∧ a ≤ c)) := by
 unfold impl_in.f
 by_cases h : b ≤ a
 ·simp [h]
 ·simp [h]

/-- A letter or a digit. -/
def Good (c : Int) : Prop := (48 ≤ c ∧ c ≤ 57) ∨ (65 ≤ c ∧ c ≤ 90) ∨ (97 ≤ c ∧ c ≤ 122)

instance (c : Int) : Decidable (Good c) := by unfold Good; infer_instance

theorem spec_char (c : Int) (n : Option Bool) : (if c < 48 then (if c < 97 then (if c < 65 then (some false) else (if c > 90 then (some false) else n)) else (if c > 122 then (if c < 65 then (some false) else (if c > 90 then (some false) else n)) else n)) else (if c > 57 then (if c < 97 then (if c < 65 then (some false) else (if c > 90 then (some false) else n)) else (if c > 122 then (if c < 65 then (some false) else (if c > 90 then (some false) else n)) else n)) else n)) = if Good c then n else some false := by
 by_cases g : Good c
 ·rw [if_pos g]
  unfold Good at g
  repeat' split
  all_goals first | rfl | omega
 ·rw [if_neg g]
  unfold Good at g
  repeat' split
  all_goals first | rfl | omega

def hold (s : ByteArray) : Bool := decide (65 ≤ bt s 0 ∧ bt s 0 ≤ 90)

theorem hold_i (s : ByteArray) (d : Int) (l : List Int) (h : s.size = 4) : impl_Box_holds.f s d l = some (hold s) := by
 unfold impl_Box_holds.f hold
 rw [if_pos (by omega)]
 by_cases c : 65 ≤ bt s 0
 ·rw [if_pos c]; simp [c]
 ·rw [if_neg c]; simp [c]

theorem hold_s (s : ByteArray) (h : s.size = 4) : spec_l2Holds.f s = some (hold s) := hold_i s 0 [] h

/-- Whether the box b may stand at place i, behind a. -/
def fitB (b a : S46) (i : Int) : Bool := !(hold b.f0 && decide ((b.f2.length : Int) > 0)) && decide (0 ≤ b.f1 ∧ b.f1 ≤ (if i = 0 then 0 else mn (if hold a.f0 = true then a.f1 + 1 else a.f1) 8))

theorem rd_take (l : List S46) (i : Int) (h0 : 0 < i) (h1 : i ≤ (l.length : Int)) : rd_T46 (l.take i.toNat) (i - 1) = rd_T46 l (i - 1) := by
 unfold rd_T46
 rw [List.getD_eq_getElem?_getD, List.getD_eq_getElem?_getD, List.getElem?_take_of_lt (by omega)]

theorem fits_step (l : List S46) (hl : l.length ≤ 200) (i : Int) (h0 : 0 ≤ i) (hlt : i < (l.length : Int)) (k : Nat) (hkind : impl_kindOk.f (k + 1) (rd_T46 l i).f0 = some true) (hs : (rd_T46 l i).f0.size = 4)
  (hp : 0 < i → (rd_T46 l (i - 1)).f0.size = 4 ∧ 0 ≤ (rd_T46 l (i - 1)).f1 ∧ (rd_T46 l (i - 1)).f1 ≤ 8) :
  impl_Box_fits.f (k + 1) (rd_T46 l i).f0 (rd_T46 l i).f1 (rd_T46 l i).f2 (l.take i.toNat) = some (fitB (rd_T46 l i) (rd_T46 l (i - 1)) i) := by
 have hlen : ((l.take i.toNat).length : Int) = i := by rw [List.length_take]; omega
 have wj : wrap64 (i - 1) = i - 1 := by unfold wrap64; omega
 unfold impl_Box_fits.f
 rw [hkind, hold_i _ _ _ hs]
 simp only [Option.bind_some, if_true, impl_Box_fits.j0, hlen, wj]
 have hJ : ∀ q : Bool, (if q = true then some false else (if i > 0 then (if 0 ≤ i - 1 then (if i - 1 < i then ((impl_Box_holds.f ((rd_T46 (l.take i.toNat) (i - 1)).f0) ((rd_T46 (l.take i.toNat) (i - 1)).f1) ((rd_T46 (l.take i.toNat) (i - 1)).f2)).bind fun t143 => (if t143 = true then ((impl_in.f (rd_T46 l i).f1 0 (mn (wrap64 (((rd_T46 (l.take i.toNat) (i - 1)).f1) + 1)) 8)).bind fun t144 => (some t144)) else ((impl_in.f (rd_T46 l i).f1 0 (mn ((rd_T46 (l.take i.toNat) (i - 1)).f1) 8)).bind fun t145 => (some t145)))) else (none)) else (none)) else ((impl_in.f (rd_T46 l i).f1 0 (mn 0 8)).bind fun t146 => (some t146))))
   = some (!q && decide (0 ≤ (rd_T46 l i).f1 ∧ (rd_T46 l i).f1 ≤ (if i = 0 then 0 else mn (if hold (rd_T46 l (i - 1)).f0 = true then (rd_T46 l (i - 1)).f1 + 1 else (rd_T46 l (i - 1)).f1) 8))) := by
  intro q
  cases q with
  | true => simp
  | false =>
   by_cases hi : i = 0
   ·subst hi
    rw [if_neg (by simp), if_neg (by omega : ¬ (0 : Int) > 0), in_some]
    simp [mn]
   ·have hip : 0 < i := by omega
    obtain ⟨p1, p2, p3⟩ := hp hip
    have wa : wrap64 ((rd_T46 l (i - 1)).f1 + 1) = (rd_T46 l (i - 1)).f1 + 1 := by unfold wrap64; omega
    rw [if_neg (by simp), if_pos (by omega), if_pos (by omega), if_pos (by omega), rd_take l i hip (by omega), hold_i _ _ _ p1, wa, in_some, in_some, if_neg hi]
    simp only [Option.bind_some]
    by_cases h : hold (rd_T46 l (i - 1)).f0 = true
    ·simp [h]
    ·simp [h]
 unfold fitB
 by_cases h1 : hold (rd_T46 l i).f0 = true
 ·rw [h1]
  simp only [if_true, Bool.true_and]
  exact hJ _
 ·have h1' : hold (rd_T46 l i).f0 = false := by simpa using h1
  rw [h1']
  simp only [Bool.false_eq_true, if_false, Bool.false_and]
  exact hJ false

theorem fit_depth (b a : S46) (i : Int) (h : fitB b a i = true) : 0 ≤ b.f1 ∧ b.f1 ≤ 8 := by
 unfold fitB at h
 simp only [Bool.and_eq_true, decide_eq_true_eq] at h
 obtain ⟨_, h1, h2⟩ := h
 refine ⟨h1, ?_⟩
 unfold mn at h2
 split at h2
 ·omega
 ·split at h2 <;> omega

theorem impl_step (l : List S46) (hl : l.length ≤ 200) (k : Nat) (x i : Int) (h0 : 0 ≤ i) (hlt : i < (l.length : Int)) : impl_BoxesOk.l0 (k + 1) l x l (l.length : Int) i =
  (impl_Box_fits.f k (rd_T46 l i).f0 (rd_T46 l i).f1 (rd_T46 l i).f2 (l.take i.toNat)).bind fun t => if t = true then impl_BoxesOk.l0 k l (wrap64 (x + ((rd_T46 l i).f2.length : Int))) l (l.length : Int) (i + 1) else some false := by
 have wi : wrap64 (i + 1) = i + 1 := by unfold wrap64; omega
 simp only [impl_BoxesOk.l0]
 rw [if_pos hlt, if_pos h0, if_pos hlt, if_pos (by omega), wi]

theorem endp_some (l : List S46) (a : Int) (ha : 0 ≤ a) (hl : a < (l.length : Int)) (hm : l.length ≤ 1000000) : ∀ (d k : Nat) (x : Int), 0 ≤ x → x ≤ (l.length : Int) → (l.length : Int) - x = d → d < k → ∃ e : Int, endp k l a x = some e ∧ x ≤ e ∧ e ≤ (l.length : Int) := by
 intro d
 induction d with
 | zero =>
  intro k x h0 h1 hd hk
  obtain ⟨k, rfl⟩ : ∃ m, k = m + 1 := ⟨k - 1, by omega⟩
  refine ⟨x, ?_, by omega, by omega⟩
  simp only [endp]
  rw [if_neg (by omega)]
 | succ d ih =>
  intro k x h0 h1 hd hk
  obtain ⟨k, rfl⟩ : ∃ m, k = m + 1 := ⟨k - 1, by omega⟩
  simp only [endp]
  rw [if_pos (by omega), if_pos h0, if_pos ha, if_pos hl]
  by_cases c : (rd_T46 l x).f1 > (rd_T46 l a).f1
  ·rw [if_pos c]
   have hw : wrap64 (x + 1) = x + 1 := by unfold wrap64; omega
   rw [hw]
   obtain ⟨e, h2, h3, h4⟩ := ih k (x + 1) (by omega) (by omega) (by omega) (by omega)
   exact ⟨e, h2, by omega, h4⟩
  ·rw [if_neg c]
   exact ⟨x, rfl, by omega, by omega⟩
def bcost (b : S46) : Nat := 4 + b.f0.size + b.f2.length
def cost (l : List S46) : Nat := (l.map bcost).sum
theorem cost_split (l : List S46) (p e : Nat) (hp : p + 1 ≤ e) (he : e ≤ l.length) : cost (l.drop p) = bcost (rd_T46 l (p : Int)) + cost ((l.take e).drop (p + 1)) + cost (l.drop e) := by
 have hlt : p < l.length := by omega
 have hr : rd_T46 l (p : Int) = l[p] := by
  unfold rd_T46
  rw [List.getD_eq_getElem?_getD, show ((p : Int)).toNat = p by omega, List.getElem?_eq_getElem hlt]
  rfl
 have h2 : l.drop (p + 1) = (l.take e).drop (p + 1) ++ l.drop e := by
  rw [List.drop_take]
  have h3 : (l.drop (p + 1)).drop (e - (p + 1)) = l.drop e := by rw [List.drop_drop]; congr 1; omega
  rw [← h3, List.take_append_drop]
 unfold cost
 rw [List.drop_eq_getElem_cons hlt, h2, List.map_cons, List.map_append, List.sum_cons, List.sum_append, hr]
 omega
theorem shw_some : ∀ (n : Nat) (l : List S46) (out : List Int) (p k : Nat), l.length - p ≤ n → p ≤ l.length → n + 1 ≤ k → out.length + cost (l.drop p) + 8 ≤ 1000000 → l.length ≤ 1000000 → ∃ r, shw k l out p = some r ∧ r.length = out.length + cost (l.drop p) := by
 intro n
 induction n with
 | zero =>
  intro l out p k h1 h2 h3 h4 h5
  obtain ⟨k, rfl⟩ : ∃ m, k = m + 1 := ⟨k - 1, by omega⟩
  refine ⟨out, ?_, ?_⟩
  ·simp only [shw]
   rw [if_neg (by omega)]
  ·rw [List.drop_of_length_le (by omega)]
   rfl
 | succ n ih =>
  intro l out p k h1 h2 h3 h4 h5
  obtain ⟨k, rfl⟩ : ∃ m, k = m + 1 := ⟨k - 1, by omega⟩
  by_cases c : p < l.length
  ·have hw : wrap64 ((p : Int) + 1) = (p : Int) + 1 := by unfold wrap64; omega
   obtain ⟨e, e1, e2, e3⟩ := endp_some l (p : Int) (by omega) (by omega) h5 (l.length - (p + 1)) k ((p : Int) + 1) (by omega) (by omega) (by omega) (by omega)
   obtain ⟨en, rfl⟩ : ∃ en : Nat, e = (en : Int) := ⟨e.toNat, by omega⟩
   have hc := cost_split l p en (by omega) (by omega)
   have hb : bcost (rd_T46 l (p : Int)) = 4 + (rd_T46 l (p : Int)).f0.size + (rd_T46 l (p : Int)).f2.length := rfl
   have hsl : ((l.take en).drop (p + 1)).length = en - (p + 1) := by rw [List.length_drop, List.length_take]; omega
   obtain ⟨sub, s1, s2⟩ := ih ((l.take en).drop (p + 1)) [] 0 k (by omega) (Nat.zero_le _) (by omega) (by rw [List.drop_zero]; simp only [List.length_nil]; omega) (by omega)
   rw [List.drop_zero] at s2
   simp only [List.length_nil, Nat.zero_add] at s2
   have hf : (four (8 + ((((rd_T46 l (p : Int)).f2 ++ sub).length : Nat) : Int))).length = 4 := rfl
   have hout : (out ++ (four (8 + ((((rd_T46 l (p : Int)).f2 ++ sub).length : Nat) : Int)) ++ (bytesOf (rd_T46 l (p : Int)).f0 ++ ((rd_T46 l (p : Int)).f2 ++ sub)))).length = out.length + (bcost (rd_T46 l (p : Int)) + cost ((l.take en).drop (p + 1))) := by
    have hb2 : ((rd_T46 l (p : Int)).f2 ++ sub).length = (rd_T46 l (p : Int)).f2.length + cost ((l.take en).drop (p + 1)) := by rw [List.length_append, s2]
    generalize hB : (rd_T46 l (p : Int)).f2 ++ sub = B at hb2 hf ⊢
    rw [List.length_append, List.length_append, hf, List.length_append, bytesOf_length, hb2, hb]
    omega
   obtain ⟨r, r1, r2⟩ := ih l (out ++ (four (8 + ((((rd_T46 l (p : Int)).f2 ++ sub).length : Nat) : Int)) ++ (bytesOf (rd_T46 l (p : Int)).f0 ++ ((rd_T46 l (p : Int)).f2 ++ sub)))) en k (by omega) (by omega) (by omega) (by rw [hout]; omega) h5
   refine ⟨r, ?_, by rw [r2, hout]; omega⟩
   simp only [shw]
   rw [if_pos c, hw, e1]
   simp only [Option.bind_some]
   rw [if_pos (by omega), Int.toNat_natCast, s1]
   simp only [Option.bind_some]
   rw [if_pos (by rw [List.length_append, s2]; omega)]
   exact r1
  ·refine ⟨out, ?_, ?_⟩
   ·simp only [shw]
    rw [if_neg c]
   ·rw [List.drop_of_length_le (by omega)]
    rfl

theorem rd46 (l : List S46) (i : Int) (x : S46) (h : l[i.toNat]? = some x) : rd_T46 l i = x := by
 unfold rd_T46
 rw [List.getD_eq_getElem?_getD, h]
 rfl

def dsum (l : List S46) : Nat := (l.map fun x => x.f2.length).sum
theorem dsum_cons (x : S46) (l : List S46) : dsum (x :: l) = x.f2.length + dsum l := by unfold dsum; rw [List.map_cons, List.sum_cons]
theorem dsum_drop (l : List S46) (i : Nat) (h : i < l.length) : dsum (l.drop i) = (rd_T46 l (i : Int)).f2.length + dsum (l.drop (i + 1)) := by
 rw [List.drop_eq_getElem_cons h, dsum_cons, rd46 l (i : Int) l[i] (by rw [Int.toNat_natCast]; exact List.getElem?_eq_getElem h)]

theorem rdr_some : ∀ (d k : Nat) (bs : List Int) (boxes : List S46) (data : Int) (p en : Nat) (depth : Int), en - p ≤ d → d < k → ∃ r, rdr k bs boxes data p en depth = some r := by
 intro d
 induction d using Nat.strongRecOn with
 | ind d ih =>
 intro k bs boxes data p en depth hd hk
 obtain ⟨k, rfl⟩ : ∃ m, k = m + 1 := ⟨k - 1, by omega⟩
 simp only [rdr]
 by_cases c1 : p < en
 ·rw [if_pos c1]
  by_cases c2 : en < p + 8
  ·rw [if_pos c2]; exact ⟨_, rfl⟩
  rw [if_neg c2]
  by_cases c3 : sz4 bs p < 8
  ·rw [if_pos c3]; exact ⟨_, rfl⟩
  rw [if_neg c3]
  by_cases c4 : ((en - p : Nat) : Int) < sz4 bs p
  ·rw [if_pos c4]; exact ⟨_, rfl⟩
  rw [if_neg c4]
  obtain ⟨n, hn⟩ : ∃ n : Nat, sz4 bs p = (n : Int) := ⟨(sz4 bs p).toNat, by omega⟩
  rw [hn] at c3 c4 ⊢
  rw [Int.toNat_natCast]
  by_cases c5 : kindB (kd4 bs p) = true
  ·rw [if_pos c5]
   by_cases c6 : 8 < depth
   ·rw [if_pos c6]; exact ⟨_, rfl⟩
   rw [if_neg c6]
   by_cases c7 : boxes.length = 200
   ·rw [if_pos c7]; exact ⟨_, rfl⟩
   rw [if_neg c7]
   by_cases c8 : r_hold (kd4 bs p) = true
   ·rw [if_pos c8]
    obtain ⟨s, hs⟩ := ih (d - 8) (by omega) k bs (boxes ++ [⟨kd4 bs p, depth, []⟩]) data (p + 8) (p + n) (depth + 1) (by omega) (by omega)
    rw [hs, Option.bind_some]
    by_cases c9 : s.2.2.1 = 0
    ·rw [if_pos c9]
     exact ih (d - 8) (by omega) k bs _ _ _ _ _ (by omega) (by omega)
    ·rw [if_neg c9]; exact ⟨_, rfl⟩
   ·rw [if_neg c8]
    by_cases c9 : 20000 < data + ((n : Int) - 8)
    ·rw [if_pos c9]; exact ⟨_, rfl⟩
    rw [if_neg c9]
    exact ih (d - 8) (by omega) k bs _ _ _ _ _ (by omega) (by omega)
  ·rw [if_neg c5]; exact ⟨_, rfl⟩
 ·rw [if_neg c1]; exact ⟨_, rfl⟩

theorem dsum_snoc (l : List S46) (x : S46) : dsum (l ++ [x]) = dsum l + x.f2.length := by
 unfold dsum
 rw [List.map_append, List.sum_append]
 rfl

/-- The number that the reader keeps is that of the data that it has read. -/
theorem rdr_dsum : ∀ (k : Nat) (bs : List Int) (boxes : List S46) (data : Int) (p en : Nat) (depth : Int) (r : List S46 × Int × Int × Int), rdr k bs boxes data p en depth = some r → en ≤ bs.length → (dsum boxes : Int) = data → (dsum r.1 : Int) = r.2.1 := by
 intro k
 induction k with
 | zero => intro bs boxes data p en depth r h; simp [rdr] at h
 | succ k ih =>
  intro bs boxes data p en depth r h he h1
  simp only [rdr] at h
  have now : ∀ {c f : Int}, some (boxes, data, c, f) = some r → (dsum r.1 : Int) = r.2.1 := fun e => by
   obtain rfl := Option.some.inj e
   exact h1
  by_cases c1 : p < en
  ·rw [if_pos c1] at h
   by_cases c2 : en < p + 8
   ·rw [if_pos c2] at h; exact now h
   rw [if_neg c2] at h
   by_cases c3 : sz4 bs p < 8
   ·rw [if_pos c3] at h; exact now h
   rw [if_neg c3] at h
   by_cases c4 : ((en - p : Nat) : Int) < sz4 bs p
   ·rw [if_pos c4] at h; exact now h
   rw [if_neg c4] at h
   obtain ⟨n, hn⟩ : ∃ n : Nat, sz4 bs p = (n : Int) := ⟨(sz4 bs p).toNat, by omega⟩
   rw [hn] at c3 c4 h
   rw [Int.toNat_natCast] at h
   by_cases c5 : kindB (kd4 bs p) = true
   ·rw [if_pos c5] at h
    by_cases c6 : 8 < depth
    ·rw [if_pos c6] at h; exact now h
    rw [if_neg c6] at h
    by_cases c7 : boxes.length = 200
    ·rw [if_pos c7] at h; exact now h
    rw [if_neg c7] at h
    by_cases c8 : r_hold (kd4 bs p) = true
    ·rw [if_pos c8] at h
     obtain ⟨s, hs, h⟩ := Option.bind_eq_some_iff.1 h
     have hb := ih _ _ _ _ _ _ s hs (by omega) (by rw [dsum_snoc]; simpa using h1)
     by_cases c9 : s.2.2.1 = 0
     ·rw [if_pos c9] at h
      exact ih _ _ _ _ _ _ r h he hb
     ·rw [if_neg c9] at h
      obtain rfl := Option.some.inj h
      exact hb
    ·rw [if_neg c8] at h
     by_cases c9 : 20000 < data + ((n : Int) - 8)
     ·rw [if_pos c9] at h; exact now h
     rw [if_neg c9] at h
     have hl : ((bs.take (p + n)).drop (p + 8)).length = n - 8 := by rw [List.length_drop, List.length_take]; omega
     exact ih _ _ _ _ _ _ r h he (by rw [dsum_snoc]; show ((dsum boxes + ((bs.take (p + n)).drop (p + 8)).length : Nat) : Int) = _; rw [hl]; omega)
   ·rw [if_neg c5] at h; exact now h
  ·rw [if_neg c1] at h; exact now h

theorem top_some (l : List Int) (hl : l.length ≤ 40000) (hb : ∀ x ∈ l, 0 ≤ x ∧ x ≤ 255) (k : Nat) (hk : 50000 ≤ k) : ∃ r, rdTop k l = some r ∧ r.1.length ≤ 200 ∧ (dsum r.1 : Int) = r.2.1 ∧ r.2.1 ≤ 20000 := by
 have h1 : bytesOk l = true := List.all_eq_true.2 (fun x hx => decide_eq_true (hb x hx))
 unfold rdTop
 rw [if_pos (by omega), if_pos h1]
 obtain ⟨r, hr⟩ := rdr_some l.length k l [] 0 0 l.length 0 (by omega) (by omega)
 have h2 := rdr_bounds k l [] 0 0 l.length 0 r hr (by simp) (by omega) (by omega)
 exact ⟨r, hr, h2.1, rdr_dsum k l [] 0 0 l.length 0 r hr (Nat.le_refl _) rfl, h2.2.2⟩

/-- A list whose boxes all lie at depth d or deeper, as a film's do. -/
structure Chain (d : Int) (l : List S46) : Prop where
 low : ∀ i, i < l.length → d ≤ (rd_T46 l (i : Int)).f1
 first : 0 < l.length → (rd_T46 l 0).f1 = d
 next : ∀ i, i + 1 < l.length → (rd_T46 l ((i + 1 : Nat) : Int)).f1 ≤ (rd_T46 l (i : Int)).f1 + (if r_hold (rd_T46 l (i : Int)).f0 = true then 1 else 0)
 ok : ∀ i, i < l.length → kindB (rd_T46 l (i : Int)).f0 = true ∧ (rd_T46 l (i : Int)).f1 ≤ 8 ∧ (r_hold (rd_T46 l (i : Int)).f0 = true → (rd_T46 l (i : Int)).f2 = [])
 data : ∀ i, i < l.length → ∀ x ∈ (rd_T46 l (i : Int)).f2, 0 ≤ x ∧ x ≤ 255

theorem rd_sub (l : List S46) (p e i : Nat) (he : e ≤ l.length) (hi : p + i < e) : rd_T46 ((l.take e).drop p) (i : Int) = rd_T46 l ((p + i : Nat) : Int) := by
 unfold rd_T46
 rw [List.getD_eq_getElem?_getD, List.getD_eq_getElem?_getD, Int.toNat_natCast, Int.toNat_natCast, List.getElem?_drop, List.getElem?_take_of_lt hi]

theorem len_sub (l : List S46) (p e : Nat) (he : e ≤ l.length) : ((l.take e).drop p).length = e - p := by rw [List.length_drop, List.length_take]; omega

/-- The bytes xs stand in bs from P on. -/
def Seg (bs : List Int) (P : Nat) (xs : List Int) : Prop := ∀ i, i < xs.length → bs[P + i]? = xs[i]?
theorem Seg.left {bs : List Int} {P : Nat} {xs ys : List Int} (h : Seg bs P (xs ++ ys)) : Seg bs P xs := fun i hi => by
 rw [h i (by rw [List.length_append]; omega), List.getElem?_append_left hi]
theorem Seg.right {bs : List Int} {P : Nat} {xs ys : List Int} (h : Seg bs P (xs ++ ys)) : Seg bs (P + xs.length) ys := fun i hi => by
 rw [Nat.add_assoc, h (xs.length + i) (by rw [List.length_append]; omega), List.getElem?_append_right (by omega)]
 congr 1
 omega
theorem Seg.at_ {bs : List Int} {P : Nat} {xs : List Int} (h : Seg bs P xs) (i : Nat) (hi : i < xs.length) : rd bs ((P + i : Nat) : Int) = xs[i] := by
 show bs.getD _ _ = _
 rw [List.getD_eq_getElem?_getD, Int.toNat_natCast, h i hi, List.getElem?_eq_getElem hi]
 rfl
theorem sz4_four {bs : List Int} {P : Nat} {n : Int} (h : Seg bs P (four n)) (h0 : 0 ≤ n) (h1 : n < 4294967296) : sz4 bs P = n := by
 have e0 := h.at_ 0 (show 0 < 4 by decide)
 have e1 := h.at_ 1 (show 1 < 4 by decide)
 have e2 := h.at_ 2 (show 2 < 4 by decide)
 have e3 := h.at_ 3 (show 3 < 4 by decide)
 unfold sz4
 rw [show ((P : Nat) : Int) = ((P + 0 : Nat) : Int) from rfl, e0, e1, e2, e3]
 show (n / 16777216) % 256 * 16777216 + (n / 65536) % 256 * 65536 + (n / 256) % 256 * 256 + n % 256 = n
 omega
theorem strOf_bytesOf (s : ByteArray) : strOfNums (bytesOf s) = s := by
 unfold strOfNums bytesOf
 rw [List.map_map]
 have e : (s.data.toList.map ((fun n : Int => UInt8.ofNat n.toNat) ∘ fun b : UInt8 => (b.toNat : Int))) = s.data.toList := by
  conv => rhs; rw [← List.map_id s.data.toList]
  apply List.map_congr_left
  intro b _
  simp
 rw [e]
theorem kd4_seg {bs : List Int} {P : Nat} {s : ByteArray} (hs : s.size = 4) (h : Seg bs (P + 4) (bytesOf s)) : kd4 bs P = s := by
 unfold kd4
 have hl : (bytesOf s).length = 4 := by rw [bytesOf_length, hs]
 have e : (bs.take (P + 8)).drop (P + 4) = bytesOf s := by
  apply List.ext_getElem?
  intro i
  rw [List.getElem?_drop]
  by_cases c : i < 4
  ·rw [List.getElem?_take_of_lt (by omega), h i (by omega)]
  ·rw [List.getElem?_eq_none (l := bs.take (P + 8)) (by rw [List.length_take]; omega), List.getElem?_eq_none (by omega)]
 rw [e, strOf_bytesOf]

/-- A chain that is not too long is a right list. -/
theorem chain_run (l : List S46) (hC : Chain 0 l) (hl : l.length ≤ 200) : ∀ (d k : Nat) (i : Nat) (x : Int), i ≤ l.length → l.length - i = d → d + 20 < k → 0 ≤ x → x + (dsum (l.drop i) : Int) ≤ 20000 → impl_BoxesOk.l0 k l x l (l.length : Int) (i : Int) = some true := by
 intro d
 induction d with
 | zero =>
  intro k i x hi hd hk h0 h1
  obtain ⟨k, rfl⟩ : ∃ m, k = m + 1 := ⟨k - 1, by omega⟩
  simp only [impl_BoxesOk.l0]
  rw [if_neg (by omega)]
  have : x ≤ 20000 := by omega
  simp [this]
 | succ d ih =>
  intro k i x hi hd hk h0 h1
  obtain ⟨k, rfl⟩ : ∃ m, k = m + 2 := ⟨k - 2, by omega⟩
  have hlt : i < l.length := by omega
  obtain ⟨hk1, hk2, hk3⟩ := hC.ok i hlt
  have hlow := hC.low i hlt
  rw [show k + 2 = (k + 1) + 1 from rfl, impl_step l hl (k + 1) x (i : Int) (by omega) (by omega)]
  rw [fits_step l hl (i : Int) (by omega) (by omega) k (kindB_eq _ (k + 1) (by omega) |>.2.trans (by rw [hk1])) (kindB_good _ hk1).1 (fun h2 => by
   obtain ⟨q1, q2, q3⟩ := hC.ok (i - 1) (by omega)
   have q4 := hC.low (i - 1) (by omega)
   rw [show ((i - 1 : Nat) : Int) = (i : Int) - 1 by omega] at q1 q2 q3 q4
   exact ⟨(kindB_good _ q1).1, q4, q2⟩)]
  have hfit : fitB (rd_T46 l (i : Int)) (rd_T46 l ((i : Int) - 1)) (i : Int) = true := by
   unfold fitB
   have g1 : (!(hold (rd_T46 l (i : Int)).f0 && decide (((rd_T46 l (i : Int)).f2.length : Int) > 0))) = true := by
    by_cases c : hold (rd_T46 l (i : Int)).f0 = true
    ·rw [hk3 c]; simp
    ·simp [c]
   rw [g1, Bool.true_and]
   refine decide_eq_true ⟨hlow, ?_⟩
   by_cases c0 : i = 0
   ·subst c0
    rw [if_pos (show ((0 : Nat) : Int) = 0 from rfl)]
    have h4 : (rd_T46 l ((0 : Nat) : Int)).f1 = (rd_T46 l 0).f1 := rfl
    have := hC.first hlt
    omega
   ·rw [if_neg (by omega)]
    obtain ⟨n, rfl⟩ : ∃ n, i = n + 1 := ⟨i - 1, by omega⟩
    have h5 := hC.next n hlt
    rw [show (((n + 1 : Nat) : Int) - 1) = (n : Int) by omega]
    have h6 : (rd_T46 l ((n + 1 : Nat) : Int)).f1 ≤ (rd_T46 l (n : Int)).f1 + (if hold (rd_T46 l (n : Int)).f0 = true then 1 else 0) := h5
    unfold mn
    by_cases c : hold (rd_T46 l (n : Int)).f0 = true
    ·rw [if_pos c] at h6 ⊢
     split <;> omega
    ·rw [if_neg c] at h6 ⊢
     split <;> omega
  rw [hfit, Option.bind_some, if_pos rfl]
  have hdd := dsum_drop l i hlt
  have hw : wrap64 (x + ((rd_T46 l (i : Int)).f2.length : Int)) = x + ((rd_T46 l (i : Int)).f2.length : Int) := by unfold wrap64; omega
  rw [hw]
  exact ih (k + 1) (i + 1) _ (by omega) (by omega) (by omega) (by omega) (by omega)

theorem chain_ok (l : List S46) (hC : Chain 0 l) (hl : l.length ≤ 200) (hd : dsum l ≤ 20000) (k : Nat) (hk : 500 ≤ k) : impl_BoxesOk.f k l = some true := by
 unfold impl_BoxesOk.f
 rw [if_neg (by omega)]
 exact chain_run l hC hl l.length k 0 0 (by omega) (by omega) (by omega) (by omega) (by rw [List.drop_zero]; omega)

/-- A list's boxes are the same as its own. -/
theorem same_self (l : List S46) (hl : l.length ≤ 1000000) (k : Nat) (hk : l.length < k) : laws_sameBoxes.f k l l = some true := by
 unfold laws_sameBoxes.f
 rw [if_pos rfl]
 exact run_to (fun k i => laws_sameBoxes.l0 k l l i) (l.length : Int) true (by
  intro k i h0 h1
  simp only [laws_sameBoxes.l0]
  have hw : wrap64 (i + 1) = i + 1 := by unfold wrap64; omega
  rw [if_pos h1, if_pos h0, if_pos h1]
  simp [hw]) (by
  intro k
  simp only [laws_sameBoxes.l0]
  rw [if_neg (by omega)]) l.length k 0 (by omega) (by omega) (by omega) (by omega)


theorem and255 (n : Int) : Go.bits .and .i64 n 255 = n % 256 := by
 have h127 : (BitVec.ofInt 64 255).toNat = 2 ^ 8 - 1 := by decide
 have key : (BitVec.ofInt 64 n &&& BitVec.ofInt 64 255).toNat = (n % ((2 ^ 64 : Nat) : Int)).toNat % 2 ^ 8 := by
  rw [BitVec.toNat_and, BitVec.toNat_ofInt, h127, Nat.and_two_pow_sub_one_eq_mod]
 show IntKind.i64.wrap ((BitVec.ofInt 64 n &&& BitVec.ofInt 64 255).toNat : Nat) = n % 256
 rw [key, IntKind.wrap_i64]
 omega

theorem byte_ok (b : List Int) (i h : Int) (hb : b.length ≤ 4096) (hi : 0 ≤ i) :
  ∃ x i' h', spec_l1Byte.f b i h = some (x, i', h') ∧ 0 ≤ x ∧ x ≤ 255 ∧ 0 ≤ i' := by
 unfold spec_l1Byte.f
 simp only [and255]
 by_cases c : i < (b.length : Int)
 ·rw [if_pos c, if_pos hi]
  have hw : wrap64 (i + 1) = i + 1 := by unfold wrap64; omega
  rw [hw]
  exact ⟨_, _, _, rfl, by omega, by omega, by omega⟩
 ·rw [if_neg c]
  exact ⟨_, _, _, rfl, by omega, by omega, hi⟩

theorem below_ok (b : List Int) (i h n : Int) (hb : b.length ≤ 4096) (hi : 0 ≤ i) :
  ∃ x i' h', spec_l1Below.f b i h n = some (x, i', h') ∧ 0 ≤ i' ∧ 0 ≤ x ∧ (1 ≤ n → x < n) := by
 unfold spec_l1Below.f
 by_cases c0 : n ≤ 0
 ·rw [if_pos c0]
  exact ⟨_, _, _, rfl, hi, by omega, by omega⟩
 ·rw [if_neg c0]
  by_cases c : n ≤ 256
  ·rw [if_pos c]
   obtain ⟨x, i1, h1, e, x0, x1, hi1⟩ := byte_ok b i h hb hi
   rw [e]
   simp only [Option.bind_some]
   rw [if_neg (by omega)]
   exact ⟨_, _, _, rfl, hi1, Int.tmod_nonneg _ x0, fun _ => Int.tmod_lt_of_pos _ (by omega)⟩
  ·rw [if_neg c]
   obtain ⟨x, i1, h1, e, x0, x1, hi1⟩ := byte_ok b i h hb hi
   rw [e]
   simp only [Option.bind_some]
   obtain ⟨y, i2, h2, e, y0, y1, hi2⟩ := byte_ok b i1 h1 hb hi1
   rw [e]
   simp only [Option.bind_some]
   obtain ⟨z, i3, h3, e, z0, z1, hi3⟩ := byte_ok b i2 h2 hb hi2
   rw [e]
   simp only [Option.bind_some]
   obtain ⟨u, i4, h4, e, u0, u1, hi4⟩ := byte_ok b i3 h3 hb hi3
   rw [e]
   simp only [Option.bind_some]
   rw [if_neg (by omega)]
   have hw : wrap64 (wrap64 (wrap64 (wrap64 (x * 16777216) + wrap64 (y * 65536)) + wrap64 (z * 256)) + u) = x * 16777216 + y * 65536 + z * 256 + u := by
    have e1 : wrap64 (x * 16777216) = x * 16777216 := by unfold wrap64; omega
    have e2 : wrap64 (y * 65536) = y * 65536 := by unfold wrap64; omega
    have e3 : wrap64 (z * 256) = z * 256 := by unfold wrap64; omega
    rw [e1, e2, e3]
    have e4 : wrap64 (x * 16777216 + y * 65536) = x * 16777216 + y * 65536 := by unfold wrap64; omega
    rw [e4]
    have e5 : wrap64 (x * 16777216 + y * 65536 + z * 256) = x * 16777216 + y * 65536 + z * 256 := by unfold wrap64; omega
    rw [e5]
    unfold wrap64
    omega
   rw [hw]
   exact ⟨_, _, _, rfl, hi4, Int.tmod_nonneg _ (by omega), fun _ => Int.tmod_lt_of_pos _ (by omega)⟩

theorem once_ok (b : List Int) (i h n : Int) (hb : b.length ≤ 4096) (hi : 0 ≤ i) :
  ∃ x i' h', spec_l1Once.f b i h n = some (x, i', h') ∧ 0 ≤ i' := by
 unfold spec_l1Once.f
 obtain ⟨x, i1, h1, e, hi1, _⟩ := below_ok b i h n hb hi
 rw [e]
 exact ⟨_, _, _, rfl, hi1⟩

theorem new_loop (l : List Int) (hl : l.length ≤ 4096) (d : Nat) : ∀ (k : Nat) (h i : Int), 0 ≤ i → i ≤ l.length → (l.length : Int) - i = d → d < k → ∃ h', spec_l1New.l0 k l h i = some (l, 0, h') := by
 induction d with
 | zero =>
  intro k h i h0 h1 hd hk
  obtain ⟨k, rfl⟩ : ∃ m, k = m + 1 := ⟨k - 1, by omega⟩
  exact ⟨h, by simp only [spec_l1New.l0]; rw [if_neg (by omega)]⟩
 | succ d ih =>
  intro k h i h0 h1 hd hk
  obtain ⟨k, rfl⟩ : ∃ m, k = m + 1 := ⟨k - 1, by omega⟩
  simp only [spec_l1New.l0]
  rw [if_pos (by omega), if_pos h0]
  have hw : wrap64 (i + 1) = i + 1 := by unfold wrap64; omega
  rw [hw]
  exact ih k _ (i + 1) (by omega) (by omega) (by omega) (by omega)

theorem new_ok (l : List Int) (hl : l.length ≤ 4096) (k : Nat) (hk : 4097 ≤ k) : ∃ h, spec_l1New.f k l = some (l, 0, h) := by
 unfold spec_l1New.f
 exact new_loop l hl l.length k _ 0 (by omega) (by omega) (by omega) (by omega)

/-- Bytes, as numbers. -/
def Byt (l : List Int) : Prop := ∀ v ∈ l, 0 ≤ v ∧ v ≤ 255
theorem Byt.nil : Byt [] := fun v hv => by cases hv
theorem Byt.snoc {l : List Int} (h : Byt l) (x : Int) (h0 : 0 ≤ x) (h1 : x ≤ 255) : Byt (l ++ [x]) := fun v hv => by
 rcases List.mem_append.1 hv with hv | hv
 ·exact h v hv
 ·obtain rfl := List.mem_singleton.1 hv
  exact ⟨h0, h1⟩
/-- How great drawn boxes are. -/
def Okb (m : Nat) (l : List S46) : Prop := l.length ≤ 201 ∧ dsum l ≤ m ∧ ∀ x ∈ l, x.f0.size ≤ 5 ∧ Byt x.f2
/-- Boxes while they are drawn. -/
def Okd (l : List S46) : Prop := ∀ x ∈ l, x.f0.size = 4 ∧ x.f2.length ≤ 6 ∧ Byt x.f2
theorem Okb.up {m m' : Nat} {l : List S46} (h : Okb m l) (hm : m ≤ m') : Okb m' l := ⟨h.1, Nat.le_trans h.2.1 hm, h.2.2⟩
theorem okb_add {m : Nat} {l : List S46} (h : Okb m l) (hl : l.length < 201) (s : ByteArray) (d : Int) (hs : s.size ≤ 5) : Okb m (l ++ [(⟨s, d, ([] : List Int)⟩ : S46)]) := ⟨by rw [List.length_append, List.length_singleton]; omega, by rw [dsum_snoc]; exact h.2.1, fun y hy => by
 rcases List.mem_append.1 hy with hy | hy
 ·exact h.2.2 y hy
 ·obtain rfl := List.mem_singleton.1 hy
  exact ⟨hs, Byt.nil⟩⟩
theorem okb_nil (m : Nat) : Okb m [] := ⟨by simp, by simp [dsum], fun x hx => by cases hx⟩
theorem okd_sum : ∀ (l : List S46), Okd l → dsum l ≤ 6 * l.length
 | [], _ => by simp [dsum]
 | x :: xs, h => by
  have h1 := okd_sum xs (fun y hy => h y (List.mem_cons_of_mem _ hy))
  have h2 := (h x (List.mem_cons_self ..)).2.1
  rw [dsum_cons, List.length_cons]
  omega
theorem dsum_mem : ∀ (l : List S46) (x : S46), x ∈ l → x.f2.length ≤ dsum l
 | y :: ys, x, h => by
  rw [dsum_cons]
  rcases List.mem_cons.1 h with rfl | h
  ·omega
  ·have := dsum_mem ys x h
   omega
theorem dsum_set : ∀ (l : List S46) (j : Nat) (x : S46), dsum (l.set j x) ≤ dsum l + x.f2.length
 | [], _, _ => by simp [dsum]
 | y :: ys, 0, x => by rw [List.set_cons_zero, dsum_cons, dsum_cons]; omega
 | y :: ys, j + 1, x => by
  rw [List.set_cons_succ, dsum_cons, dsum_cons]
  have := dsum_set ys j x
  omega

theorem l3_ok (b : List Int) (hb : b.length ≤ 4096) : ∀ (n : Nat) (x : Int) (l : List S46) (i h : Int), x + n = 10 → 0 ≤ x → l.length + n ≤ 201 → Okb 0 l → 0 ≤ i →
  ∃ r, Ev (fun k => spec_l2DrawBoxes.l3 k l x b i h) r ∧ Okb 0 r.1 ∧ 0 ≤ r.2.1 := by
 intro n
 induction n with
 | zero =>
  intro x l i h hx h0 hl hk hi
  obtain ⟨v, i2, h2, e, hi2, v0, v1⟩ := below_ok b i h 2 hb hi
  have w9 : wrap64 (9 + v) = 9 + v := by have := v1 (by omega); unfold wrap64; omega
  refine ⟨(l, i2, h2), Ev.step (f := fun _ => some (l, i2, h2)) (fun k => ?_) (Ev.now _), hk, hi2⟩
  rw [spec_l2DrawBoxes.l3, e, Option.bind_some, w9, if_neg (by have := v1 (by omega); omega)]
 | succ n ih =>
  intro x l i h hx h0 hl hk hi
  obtain ⟨v, i2, h2, e, hi2, v0, v1⟩ := below_ok b i h 2 hb hi
  have v1 := v1 (by omega)
  have w9 : wrap64 (9 + v) = 9 + v := by unfold wrap64; omega
  have wx : wrap64 (x + 1) = x + 1 := by unfold wrap64; omega
  by_cases c : x < 9 + v
  ·obtain ⟨r, hr, h3⟩ := ih (x + 1) (l ++ [(⟨(⟨#[68, 69, 69, 80]⟩ : ByteArray), x, ([] : List Int)⟩ : S46)]) i2 h2 (by omega) (by omega) (by rw [List.length_append, List.length_singleton]; omega) (okb_add hk (by omega) _ _ (by decide)) hi2
   refine ⟨r, Ev.step (fun k => ?_) hr, h3⟩
   rw [spec_l2DrawBoxes.l3, e, Option.bind_some, w9, wx, if_pos c, if_pos (by omega)]
  ·refine ⟨(l, i2, h2), Ev.step (f := fun _ => some (l, i2, h2)) (fun k => ?_) (Ev.now _), hk, hi2⟩
   rw [spec_l2DrawBoxes.l3, e, Option.bind_some, w9, if_neg c]

theorem j6_ok (b : List Int) (hb : b.length ≤ 4096) (m : Nat) (l : List S46) (i h : Int) (hl : Okb m l) (hi : 0 ≤ i) : ∃ r, Ev (fun k => spec_l2DrawBoxes.j6 k l b i h) r ∧ Okb m r.1 ∧ 0 ≤ r.2.1 := by
 obtain ⟨v, i2, h2, e, hi2⟩ := once_ok b i h 40 hb hi
 cases v with
 | false =>
  refine ⟨(l, i2, h2), Ev.step (f := fun _ => some (l, i2, h2)) (fun k => ?_) (Ev.now _), hl, hi2⟩
  rw [spec_l2DrawBoxes.j6, e, Option.bind_some, if_neg (by simp)]
 | true =>
  obtain ⟨r, hr, h3, h4⟩ := l3_ok b hb 10 0 [] i2 h2 (by omega) (by omega) (by simp) (okb_nil _) hi2
  refine ⟨r, Ev.step (fun k => ?_) hr, h3.up (by omega), h4⟩
  rw [spec_l2DrawBoxes.j6, e, Option.bind_some, if_pos rfl]

theorem l2_ok (b : List Int) (hb : b.length ≤ 4096) (m : Nat) : ∀ (n : Nat) (x : Int) (l : List S46) (i h : Int), x + n = 201 → 0 ≤ x → l.length + n ≤ 201 → Okb m l → 0 ≤ i →
  ∃ r, Ev (fun k => spec_l2DrawBoxes.l2 k l x b i h) r ∧ Okb m r.1 ∧ 0 ≤ r.2.1 := by
 intro n
 induction n with
 | zero =>
  intro x l i h hx h0 hl hk hi
  obtain ⟨v, i2, h2, e, hi2, v0, v1⟩ := below_ok b i h 2 hb hi
  have w9 : wrap64 (200 + v) = 200 + v := by have := v1 (by omega); unfold wrap64; omega
  obtain ⟨r, hr, h3⟩ := j6_ok b hb m l i2 h2 hk hi2
  refine ⟨r, Ev.step (fun k => ?_) hr, h3⟩
  rw [spec_l2DrawBoxes.l2, e, Option.bind_some, w9, if_neg (by have := v1 (by omega); omega)]
 | succ n ih =>
  intro x l i h hx h0 hl hk hi
  obtain ⟨v, i2, h2, e, hi2, v0, v1⟩ := below_ok b i h 2 hb hi
  have v1 := v1 (by omega)
  have w9 : wrap64 (200 + v) = 200 + v := by unfold wrap64; omega
  have wx : wrap64 (x + 1) = x + 1 := by unfold wrap64; omega
  by_cases c : x < 200 + v
  ·obtain ⟨r, hr, h3⟩ := ih (x + 1) (l ++ [(⟨(⟨#[115, 107, 105, 112]⟩ : ByteArray), 0, ([] : List Int)⟩ : S46)]) i2 h2 (by omega) (by omega) (by rw [List.length_append, List.length_singleton]; omega) (okb_add hk (by omega) _ _ (by decide)) hi2
   refine ⟨r, Ev.step (fun k => ?_) hr, h3⟩
   rw [spec_l2DrawBoxes.l2, e, Option.bind_some, w9, wx, if_pos c, if_pos (by omega)]
  ·obtain ⟨r, hr, h3⟩ := j6_ok b hb m l i2 h2 hk hi2
   refine ⟨r, Ev.step (fun k => ?_) hr, h3⟩
   rw [spec_l2DrawBoxes.l2, e, Option.bind_some, w9, if_neg c]

theorem j4_ok (b : List Int) (hb : b.length ≤ 4096) (m : Nat) (l : List S46) (i h : Int) (hl : Okb m l) (hi : 0 ≤ i) : ∃ r, Ev (fun k => spec_l2DrawBoxes.j4 k l b i h) r ∧ Okb m r.1 ∧ 0 ≤ r.2.1 := by
 obtain ⟨v, i2, h2, e, hi2⟩ := once_ok b i h 40 hb hi
 cases v with
 | false =>
  obtain ⟨r, hr, h3⟩ := j6_ok b hb m l i2 h2 hl hi2
  refine ⟨r, Ev.step (fun k => ?_) hr, h3⟩
  rw [spec_l2DrawBoxes.j4, e, Option.bind_some, if_neg (by simp)]
 | true =>
  obtain ⟨r, hr, h3⟩ := l2_ok b hb m 201 0 [] i2 h2 (by omega) (by omega) (by simp) (okb_nil _) hi2
  refine ⟨r, Ev.step (fun k => ?_) hr, h3⟩
  rw [spec_l2DrawBoxes.j4, e, Option.bind_some, if_pos rfl]

theorem okb_set {m m' : Nat} {l : List S46} (h : Okb m l) (j : Nat) (x : S46) (h1 : x.f0.size ≤ 5) (h2 : Byt x.f2) (hm : m + x.f2.length ≤ m') : Okb m' (l.set j x) := by
 refine ⟨by rw [List.length_set]; exact h.1, ?_, fun y hy => ?_⟩
 ·have := dsum_set l j x
  have := h.2.1
  omega
 ·rcases List.mem_or_eq_of_mem_set hy with hy | rfl
  ·exact h.2.2 y hy
  ·exact ⟨h1, h2⟩
theorem okb_rd {m : Nat} {l : List S46} (h : Okb m l) (j : Int) (h0 : 0 ≤ j) (h1 : j < (l.length : Int)) : (rd_T46 l j).f0.size ≤ 5 ∧ (rd_T46 l j).f2.length ≤ m ∧ Byt (rd_T46 l j).f2 := by
 have hj : j.toNat < l.length := by omega
 unfold rd_T46
 rw [List.getD_eq_getElem?_getD, List.getElem?_eq_getElem hj]
 have h2 := h.2.2 _ (List.getElem_mem hj)
 exact ⟨h2.1, Nat.le_trans (dsum_mem l _ (List.getElem_mem hj)) h.2.1, h2.2⟩

theorem kinds5 : ∀ q : Fin 5, (rdOf ByteArray.empty ([(⟨#[]⟩ : ByteArray), (⟨#[97, 98, 99]⟩ : ByteArray), (⟨#[97, 98, 45, 100]⟩ : ByteArray), (⟨#[97, 98, 99, 100, 101]⟩ : ByteArray), (⟨#[77, 79, 79, 86]⟩ : ByteArray)] : List ByteArray) ((q.val : Nat) : Int)).size ≤ 5 := by decide
theorem kinds7 : ∀ q : Fin 7, (rdOf ByteArray.empty ([(⟨#[77, 79, 79, 86]⟩ : ByteArray), (⟨#[84, 82, 65, 75]⟩ : ByteArray), (⟨#[109, 100, 97, 116]⟩ : ByteArray), (⟨#[101, 108, 115, 116]⟩ : ByteArray), (⟨#[102, 48, 117, 114]⟩ : ByteArray), (⟨#[69, 100, 105, 116]⟩ : ByteArray), (⟨#[48, 97, 98, 99]⟩ : ByteArray)] : List ByteArray) ((q.val : Nat) : Int)).size = 4 := by decide

theorem j3_ok (b : List Int) (hb : b.length ≤ 4096) (l : List S46) (f : Bool) (i h : Int) (hl : Okb 72 l) (hf : f = true → 0 < l.length) (hi : 0 ≤ i) : ∃ r, Ev (fun k => spec_l2DrawBoxes.j3 k l f b i h) r ∧ Okb 20100 r.1 ∧ 0 ≤ r.2.1 := by
 cases f with
 | false =>
  obtain ⟨r, hr, h3⟩ := j4_ok b hb 20100 l i h (hl.up (by omega)) hi
  refine ⟨r, Ev.step (fun k => ?_) hr, h3⟩
  rw [spec_l2DrawBoxes.j3, if_neg (by simp)]
 | true =>
  have hf := hf rfl
  obtain ⟨v, i2, h2, e, hi2, v0, v1⟩ := below_ok b i h (l.length : Int) hb hi
  have v1 := v1 (by omega)
  have hrd := okb_rd hl v v0 v1
  obtain ⟨u, i3, h3, e2, hi3, u0, u1⟩ := below_ok b i2 h2 4 hb hi2
  have u1 := u1 (by omega)
  by_cases c0 : u = 0
  ·obtain ⟨q, i4, h4, e3, hi4, q0, q1⟩ := below_ok b i3 h3 5 hb hi3
   have q1 := q1 (by omega)
   have hk := kinds5 ⟨q.toNat, by omega⟩
   rw [show (((⟨q.toNat, by omega⟩ : Fin 5).val : Nat) : Int) = q by show ((q.toNat : Nat) : Int) = q; omega] at hk
   obtain ⟨r, hr, h5⟩ := j4_ok b hb 20100 _ i4 h4 (okb_set hl v.toNat (⟨rdOf ByteArray.empty ([(⟨#[]⟩ : ByteArray), (⟨#[97, 98, 99]⟩ : ByteArray), (⟨#[97, 98, 45, 100]⟩ : ByteArray), (⟨#[97, 98, 99, 100, 101]⟩ : ByteArray), (⟨#[77, 79, 79, 86]⟩ : ByteArray)] : List ByteArray) q, (rd_T46 l v).f1, (rd_T46 l v).f2⟩ : S46) hk hrd.2.2 (by have := hrd.2.1; dsimp only; omega)) hi4
   refine ⟨r, Ev.step (fun k => ?_) hr, h5⟩
   rw [spec_l2DrawBoxes.j3, if_pos rfl, e, Option.bind_some, if_pos v0, if_pos v1, e2, Option.bind_some, if_pos c0, Option.bind_some, e3, Option.bind_some, if_pos q0, if_pos (by simpa using q1)]
  ·by_cases c1 : u = 1
   ·obtain ⟨q, i4, h4, e3, hi4, q0, q1⟩ := below_ok b i3 h3 4 hb hi3
    have q1 := q1 (by omega)
    obtain ⟨r, hr, h5⟩ := j4_ok b hb 20100 _ i4 h4 (okb_set hl v.toNat (⟨(rd_T46 l v).f0, rd ([(-1), 0, 9, wrap64 (((rd_T46 l v).f1) + 1)] : List Int) q, (rd_T46 l v).f2⟩ : S46) hrd.1 hrd.2.2 (by have := hrd.2.1; dsimp only; omega)) hi4
    refine ⟨r, Ev.step (fun k => ?_) hr, h5⟩
    rw [spec_l2DrawBoxes.j3, if_pos rfl, e, Option.bind_some, if_pos v0, if_pos v1, e2, Option.bind_some, if_neg c0, if_pos c1, Option.bind_some, e3, Option.bind_some, if_pos q0, if_pos (by simpa using q1)]
   ·by_cases c2 : u = 2
    ·obtain ⟨r, hr, h5⟩ := j4_ok b hb 20100 _ i3 h3 (okb_set hl v.toNat (⟨(rd_T46 l v).f0, (rd_T46 l v).f1, (((rd_T46 l v).f2) ++ [7])⟩ : S46) hrd.1 (hrd.2.2.snoc 7 (by decide) (by decide)) (by show 72 + ((rd_T46 l v).f2 ++ [7]).length ≤ 20100; have := hrd.2.1; rw [List.length_append, List.length_singleton]; omega)) hi3
     refine ⟨r, Ev.step (fun k => ?_) hr, h5⟩
     rw [spec_l2DrawBoxes.j3, if_pos rfl, e, Option.bind_some, if_pos v0, if_pos v1, e2, Option.bind_some, if_neg c0, if_neg c1, if_pos c2, if_pos (by have := hrd.2.1; dsimp only; omega)]
    ·by_cases c3 : u = 3
     ·obtain ⟨q, i4, h4, e3, hi4, q0, q1⟩ := below_ok b i3 h3 2 hb hi3
      have q1 := q1 (by omega)
      have wq : wrap64 (20000 + q) = 20000 + q := by unfold wrap64; omega
      obtain ⟨r, hr, h5⟩ := j4_ok b hb 20100 _ i4 h4 (okb_set hl v.toNat (⟨(rd_T46 l v).f0, (rd_T46 l v).f1, (List.replicate (wrap64 (20000 + q) : Int).toNat 0)⟩ : S46) hrd.1 (fun y hy => by obtain rfl := List.eq_of_mem_replicate hy; exact ⟨by decide, by decide⟩) (by show 72 + (List.replicate (wrap64 (20000 + q) : Int).toNat (0 : Int)).length ≤ 20100; rw [List.length_replicate, wq]; omega)) hi4
      refine ⟨r, Ev.step (fun k => ?_) hr, h5⟩
      rw [spec_l2DrawBoxes.j3, if_pos rfl, e, Option.bind_some, if_pos v0, if_pos v1, e2, Option.bind_some, if_neg c0, if_neg c1, if_neg c2, if_pos c3, e3, Option.bind_some, if_pos (by rw [wq]; omega), if_pos (by rw [wq]; omega)]
     ·omega

theorem holds_some (s : ByteArray) (h : s.size = 4) : ∃ t, spec_l2Holds.f s = some t := ⟨_, hold_s s h⟩

theorem okd_add {l : List S46} (h : Okd l) (x : S46) (h1 : x.f0.size = 4) (h2 : x.f2.length ≤ 6) (h3 : Byt x.f2) : Okd (l ++ [x]) := fun y hy => by
 rcases List.mem_append.1 hy with hy | hy
 ·exact h y hy
 ·obtain rfl := List.mem_singleton.1 hy
  exact ⟨h1, h2, h3⟩

/-- The data of a drawn box, and what follows. -/
theorem l1_ok (b : List Int) (hb : b.length ≤ 4096) (l : List S46) (hl : l.length ≤ 100) (x4 : Int) (kd : ByteArray) (dp : Int) (Q : List S46 × Int × Int → Prop)
  (next : ∀ (d : List Int) (i h : Int), d.length ≤ 6 → Byt d → 0 ≤ i → ∃ r, Ev (fun k => spec_l2DrawBoxes.l0 k (l ++ [(⟨kd, dp, d⟩ : S46)]) (wrap64 (x4 - 1)) b i h) r ∧ Q r) :
  ∀ (n : Nat) (x : Int) (d : List Int) (i h : Int), x = n → d.length + n ≤ 6 → Byt d → 0 ≤ i → ∃ r, Ev (fun k => spec_l2DrawBoxes.l1 k l x4 x b i h kd dp d) r ∧ Q r := by
 intro n
 induction n with
 | zero =>
  intro x d i h hx hd hby hi
  obtain ⟨r, hr, hq⟩ := next d i h (by omega) hby hi
  refine ⟨r, Ev.step (fun k => ?_) hr, hq⟩
  rw [spec_l2DrawBoxes.l1, if_neg (by omega), if_pos (by omega)]
 | succ n ih =>
  intro x d i h hx hd hby hi
  obtain ⟨v, i2, h2, e, v0, v1, hi2⟩ := byte_ok b i h hb hi
  have wx : wrap64 (x - 1) = x - 1 := by unfold wrap64; omega
  obtain ⟨r, hr, hq⟩ := ih (x - 1) (d ++ [v % 256]) i2 h2 (by omega) (by rw [List.length_append, List.length_singleton]; omega) (hby.snoc _ (by omega) (by omega)) hi2
  refine ⟨r, Ev.step (fun k => ?_) hr, hq⟩
  rw [spec_l2DrawBoxes.l1, if_pos (by omega), e, Option.bind_some, if_pos (by omega), wx]

theorem l0_ok (b : List Int) (hb : b.length ≤ 4096) : ∀ (n : Nat) (x : Int) (l : List S46) (i h : Int), x = n → l.length + n ≤ 12 → Okd l → 0 ≤ i → ∃ r, Ev (fun k => spec_l2DrawBoxes.l0 k l x b i h) r ∧ Okb 20100 r.1 ∧ 0 ≤ r.2.1 := by
 intro n
 induction n with
 | zero =>
  intro x l i h hx hl hk hi
  obtain ⟨v, i2, h2, e, hi2⟩ := once_ok b i h 16 hb hi
  have hkb : Okb 72 l := ⟨by omega, by have := okd_sum l hk; omega, fun y hy => ⟨by have := (hk y hy).1; omega, (hk y hy).2.2⟩⟩
  cases v with
  | true =>
   obtain ⟨r, hr, h3⟩ := j3_ok b hb l (decide ((l.length : Int) > 0)) i2 h2 hkb (fun h => by have := of_decide_eq_true h; omega) hi2
   refine ⟨r, Ev.step (fun k => ?_) hr, h3⟩
   rw [spec_l2DrawBoxes.l0, if_neg (by omega), e, Option.bind_some, if_pos rfl]
  | false =>
   obtain ⟨r, hr, h3⟩ := j3_ok b hb l false i2 h2 hkb (fun h => by simp at h) hi2
   refine ⟨r, Ev.step (fun k => ?_) hr, h3⟩
   rw [spec_l2DrawBoxes.l0, if_neg (by omega), e, Option.bind_some, if_neg (by simp)]
 | succ n ih =>
  intro x l i h hx hl hk hi
  have wx : wrap64 (x - 1) = x - 1 := by unfold wrap64; omega
  have j1 : ∀ (kd : ByteArray) (dp i h : Int), kd.size = 4 → 0 ≤ i → ∃ r, Ev (fun k => spec_l2DrawBoxes.j1 k l x b i h kd dp) r ∧ Okb 20100 r.1 ∧ 0 ≤ r.2.1 := by
   intro kd dp i h hkd hi
   obtain ⟨t, ht⟩ := holds_some kd hkd
   cases t with
   | true =>
    obtain ⟨r, hr, h3⟩ := ih (x - 1) (l ++ [(⟨kd, dp, ([] : List Int)⟩ : S46)]) i h (by omega) (by rw [List.length_append, List.length_singleton]; omega) (okd_add hk _ hkd (by simp) Byt.nil) hi
    refine ⟨r, Ev.step (fun k => ?_) hr, h3⟩
    rw [spec_l2DrawBoxes.j1, ht, Option.bind_some, if_pos rfl, if_pos (by omega), wx]
   | false =>
    obtain ⟨v, i2, h2, e, hi2, v0, v1⟩ := below_ok b i h 6 hb hi
    have v1 := v1 (by omega)
    obtain ⟨r, hr, h3⟩ := l1_ok b hb l (by omega) x kd dp (fun r => Okb 20100 r.1 ∧ 0 ≤ r.2.1) (fun d i h hd hby hi => by
     rw [wx]
     exact ih (x - 1) (l ++ [(⟨kd, dp, d⟩ : S46)]) i h (by omega) (by rw [List.length_append, List.length_singleton]; omega) (okd_add hk _ hkd hd hby) hi) v.toNat v [] i2 h2 (by omega) (by simp; omega) Byt.nil hi2
    refine ⟨r, Ev.step (fun k => ?_) hr, h3⟩
    rw [spec_l2DrawBoxes.j1, ht, Option.bind_some, if_neg (by simp), e, Option.bind_some]
  obtain ⟨q, i2, h2, e, hi2, q0, q1⟩ := below_ok b i h 7 hb hi
  have q1 := q1 (by omega)
  have hq := kinds7 ⟨q.toNat, by omega⟩
  rw [show (((⟨q.toNat, by omega⟩ : Fin 7).val : Nat) : Int) = q by show ((q.toNat : Nat) : Int) = q; omega] at hq
  by_cases c : (l.length : Int) > 0
  ·have wl : wrap64 ((l.length : Int) - 1) = (l.length : Int) - 1 := by unfold wrap64; omega
   have hlast : (rd_T46 l ((l.length : Int) - 1)).f0.size = 4 := by
    have hj : ((l.length : Int) - 1).toNat < l.length := by omega
    unfold rd_T46
    rw [List.getD_eq_getElem?_getD, List.getElem?_eq_getElem hj]
    exact (hk _ (List.getElem_mem hj)).1
   obtain ⟨t, ht⟩ := holds_some _ hlast
   obtain ⟨v, i3, h3, e3, hi3, v0, v1⟩ := below_ok b i2 h2 (wrap64 ((rd_T46 l ((l.length : Int) - 1)).f1 + 1)) hb hi2
   by_cases c2 : t = true ∧ (rd_T46 l ((l.length : Int) - 1)).f1 < 8
   ·obtain ⟨o, i4, h4, e4, hi4⟩ := once_ok b i3 h3 3 hb hi3
    cases o with
    | true =>
     obtain ⟨r, hr, h5⟩ := j1 _ v i4 h4 hq hi4
     refine ⟨r, Ev.step (fun k => ?_) hr, h5⟩
     rw [spec_l2DrawBoxes.l0, if_pos (by omega), Option.bind_some, e, Option.bind_some, if_pos q0, if_pos (by simpa using q1), if_pos c, wl, if_pos (by omega), if_pos (by omega), e3, Option.bind_some, ht, Option.bind_some, if_pos c2.1, if_pos c2.2, e4, Option.bind_some, if_pos rfl]
    | false =>
     obtain ⟨r, hr, h5⟩ := j1 _ (wrap64 (((rd_T46 l ((l.length : Int) - 1)).f1) + 1)) i4 h4 hq hi4
     refine ⟨r, Ev.step (fun k => ?_) hr, h5⟩
     rw [spec_l2DrawBoxes.l0, if_pos (by omega), Option.bind_some, e, Option.bind_some, if_pos q0, if_pos (by simpa using q1), if_pos c, wl, if_pos (by omega), if_pos (by omega), e3, Option.bind_some, ht, Option.bind_some, if_pos c2.1, if_pos c2.2, e4, Option.bind_some, if_neg (by simp)]
   ·obtain ⟨r, hr, h5⟩ := j1 _ v i3 h3 hq hi3
    refine ⟨r, Ev.step (fun k => ?_) hr, h5⟩
    rw [spec_l2DrawBoxes.l0, if_pos (by omega), Option.bind_some, e, Option.bind_some, if_pos q0, if_pos (by simpa using q1), if_pos c, wl, if_pos (by omega), if_pos (by omega), e3, Option.bind_some, ht, Option.bind_some]
    by_cases c3 : t = true
    ·rw [if_pos c3, if_neg (fun h => c2 ⟨c3, h⟩)]
    ·rw [if_neg c3]
  ·obtain ⟨r, hr, h5⟩ := j1 _ 0 i2 h2 hq hi2
   refine ⟨r, Ev.step (fun k => ?_) hr, h5⟩
   rw [spec_l2DrawBoxes.l0, if_pos (by omega), Option.bind_some, e, Option.bind_some, if_pos q0, if_pos (by simpa using q1), if_neg c]

/-- Boxes are drawn. -/
theorem boxes_drawn (b : List Int) (hb : b.length ≤ 4096) (i h : Int) (hi : 0 ≤ i) : ∃ r, Ev (fun k => spec_l2DrawBoxes.f k b i h) r ∧ Okb 20100 r.1 ∧ 0 ≤ r.2.1 := by
 obtain ⟨v, i2, h2, e, hi2, v0, v1⟩ := below_ok b i h 12 hb hi
 have v1 := v1 (by omega)
 obtain ⟨r, hr, h3⟩ := l0_ok b hb v.toNat v [] i2 h2 (by omega) (by simp; omega) (fun x hx => by cases hx) hi2
 refine ⟨r, Ev.congr (fun k => ?_) hr, h3⟩
 unfold spec_l2DrawBoxes.f
 rw [e, Option.bind_some]

theorem bytesOf_byt (s : ByteArray) : Byt (bytesOf s) := fun v hv => by
 unfold bytesOf at hv
 obtain ⟨b, _, rfl⟩ := List.mem_map.1 hv
 have := b.toNat_lt
 omega
theorem four_byt (n : Int) : Byt (four n) := fun v hv => by
 unfold four at hv
 simp only [List.mem_cons, List.not_mem_nil, or_false] at hv
 rcases hv with rfl | rfl | rfl | rfl <;> omega
theorem Byt.append {a b : List Int} (ha : Byt a) (hb : Byt b) : Byt (a ++ b) := fun v hv => (List.mem_append.1 hv).elim (ha v) (hb v)
theorem rd_mem (l : List S46) (p : Nat) (hp : p < l.length) : rd_T46 l (p : Int) ∈ l := by
 rw [rd46 l (p : Int) l[p] (by rw [Int.toNat_natCast]; exact List.getElem?_eq_getElem hp)]
 exact List.getElem_mem hp
/-- What is shown are bytes. -/
theorem shw_byt : ∀ (k : Nat) (l : List S46) (out : List Int) (p : Nat) (r : List Int), shw k l out p = some r → Byt out → (∀ x ∈ l, Byt x.f2) → Byt r := by
 intro k
 induction k with
 | zero => intro l out p r h; simp [shw] at h
 | succ k ih =>
  intro l out p r h ho hl
  simp only [shw] at h
  by_cases c : p < l.length
  ·rw [if_pos c] at h
   obtain ⟨e, he, h⟩ := Option.bind_eq_some_iff.1 h
   by_cases c1 : (p : Int) + 1 ≤ e ∧ e ≤ (l.length : Int)
   ·rw [if_pos c1] at h
    obtain ⟨sb, hsb, h⟩ := Option.bind_eq_some_iff.1 h
    by_cases c2 : out.length + (rd_T46 l (p : Int)).f0.size + ((rd_T46 l (p : Int)).f2 ++ sb).length + 8 ≤ 1000000
    ·rw [if_pos c2] at h
     have h1 := ih _ _ _ _ hsb Byt.nil (fun x hx => hl x (List.mem_of_mem_take (List.mem_of_mem_drop hx)))
     exact ih _ _ _ _ h (ho.append ((four_byt _).append ((bytesOf_byt _).append ((hl _ (rd_mem l p c)).append h1)))) hl
    ·rw [if_neg c2] at h; simp at h
   ·rw [if_neg c1] at h; simp at h
  ·rw [if_neg c] at h
   obtain rfl := Option.some.inj h
   exact ho
theorem byt_ok {l : List Int} (h : Byt l) : bytesOk l = true := List.all_eq_true.2 (fun x hx => decide_eq_true (h x hx))
theorem top_of {l : List Int} (h : Byt l) (hl : l.length ≤ 40000) (k : Nat) : rdTop k l = rdr k l [] 0 0 l.length 0 := by
 unfold rdTop
 rw [if_pos (by omega), if_pos (byt_ok h)]


theorem rd_cons0 (b : S46) (l : List S46) : rd_T46 (b :: l) 0 = b := rfl
theorem rd_consS (b : S46) (l : List S46) (i : Nat) : rd_T46 (b :: l) ((i + 1 : Nat) : Int) = rd_T46 l (i : Int) := by
 unfold rd_T46
 rw [Int.toNat_natCast, Int.toNat_natCast, List.getD_cons_succ]
theorem rd_appL (l1 l2 : List S46) (i : Nat) (h : i < l1.length) : rd_T46 (l1 ++ l2) (i : Int) = rd_T46 l1 (i : Int) := by
 unfold rd_T46
 rw [Int.toNat_natCast, List.getD_eq_getElem?_getD, List.getD_eq_getElem?_getD, List.getElem?_append_left h]
theorem rd_appR (l1 l2 : List S46) (i : Nat) (h : l1.length ≤ i) : rd_T46 (l1 ++ l2) (i : Int) = rd_T46 l2 ((i - l1.length : Nat) : Int) := by
 unfold rd_T46
 rw [Int.toNat_natCast, Int.toNat_natCast, List.getD_eq_getElem?_getD, List.getD_eq_getElem?_getD, List.getElem?_append_right h]

theorem chain_nil (d : Int) : Chain d [] := ⟨fun i h => absurd h (by simp), fun h => absurd h (by simp), fun i h => absurd h (by simp), fun i h => absurd h (by simp), fun i h => absurd h (by simp)⟩

/-- A box, what is in it and what follows. -/
theorem chain_cons {d : Int} {b : S46} {l1 l2 : List S46} (hb : b.f1 = d) (hd : d ≤ 8) (hk : kindB b.f0 = true) (hh : r_hold b.f0 = true → b.f2 = []) (hby : Byt b.f2) (h1 : Chain (d + 1) l1) (hc : 0 < l1.length → r_hold b.f0 = true) (h2 : Chain d l2) : Chain d (b :: (l1 ++ l2)) := by
 have look : ∀ i : Nat, i < (b :: (l1 ++ l2)).length → (i = 0 ∧ rd_T46 (b :: (l1 ++ l2)) (i : Int) = b) ∨ (∃ j : Nat, i = j + 1 ∧ j < l1.length ∧ rd_T46 (b :: (l1 ++ l2)) (i : Int) = rd_T46 l1 (j : Int)) ∨ (∃ j : Nat, i = l1.length + j + 1 ∧ j < l2.length ∧ rd_T46 (b :: (l1 ++ l2)) (i : Int) = rd_T46 l2 (j : Int)) := by
  intro i hi
  rw [List.length_cons, List.length_append] at hi
  match i, hi with
  | 0, _ => exact .inl ⟨rfl, rfl⟩
  | i + 1, hi =>
   by_cases c : i < l1.length
   ·exact .inr (.inl ⟨i, rfl, c, by rw [rd_consS, rd_appL l1 l2 i c]⟩)
   ·exact .inr (.inr ⟨i - l1.length, by omega, by omega, by rw [rd_consS, rd_appR l1 l2 i (by omega)]⟩)
 have each : ∀ (Q : S46 → Prop), Q b → (∀ j : Nat, j < l1.length → Q (rd_T46 l1 (j : Int))) → (∀ j : Nat, j < l2.length → Q (rd_T46 l2 (j : Int))) → ∀ i : Nat, i < (b :: (l1 ++ l2)).length → Q (rd_T46 (b :: (l1 ++ l2)) (i : Int)) := by
  intro Q q0 q1 q2 i hi
  rcases look i hi with ⟨_, e⟩ | ⟨j, _, hj, e⟩ | ⟨j, _, hj, e⟩
  ·rw [e]; exact q0
  ·rw [e]; exact q1 j hj
  ·rw [e]; exact q2 j hj
 refine ⟨each (fun x => d ≤ x.f1) (by rw [hb]; omega) (fun j hj => by have := h1.low j hj; omega) h2.low, fun _ => hb, fun i hi => ?_, each (fun x => kindB x.f0 = true ∧ x.f1 ≤ 8 ∧ (r_hold x.f0 = true → x.f2 = [])) ⟨hk, by rw [hb]; exact hd, hh⟩ h1.ok h2.ok, each (fun x => Byt x.f2) hby h1.data h2.data⟩
 have hone : ∀ t : Bool, (0 : Int) ≤ (if t = true then 1 else 0) := fun t => by cases t <;> simp
 rcases look i (by omega) with ⟨i0, e⟩ | ⟨j, ij, hj, e⟩ | ⟨j, ij, hj, e⟩
 ·subst i0
  rcases look 1 hi with ⟨q, _⟩ | ⟨j, ij, hj, e'⟩ | ⟨j, ij, hj, e'⟩
  ·omega
  ·obtain rfl : j = 0 := by omega
   rw [show ((0 + 1 : Nat) : Int) = ((1 : Nat) : Int) from rfl, e, e', if_pos (hc hj), hb]
   have := h1.first hj
   have h3 : (rd_T46 l1 ((0 : Nat) : Int)).f1 = (rd_T46 l1 0).f1 := rfl
   omega
  ·obtain rfl : j = 0 := by omega
   rw [show ((0 + 1 : Nat) : Int) = ((1 : Nat) : Int) from rfl, e, e', hb]
   have := h2.first hj
   have h3 : (rd_T46 l2 ((0 : Nat) : Int)).f1 = (rd_T46 l2 0).f1 := rfl
   have := hone (r_hold b.f0)
   omega
 ·rcases look (i + 1) hi with ⟨q, _⟩ | ⟨j', ij', hj', e'⟩ | ⟨j', ij', hj', e'⟩
  ·omega
  ·obtain rfl : j' = j + 1 := by omega
   rw [e, e']
   exact h1.next j hj'
  ·obtain rfl : j' = 0 := by omega
   rw [e, e']
   have := h2.first hj'
   have h3 : (rd_T46 l2 ((0 : Nat) : Int)).f1 = (rd_T46 l2 0).f1 := rfl
   have := h1.low j hj
   have := hone (r_hold (rd_T46 l1 (j : Int)).f0)
   omega
 ·rcases look (i + 1) hi with ⟨q, _⟩ | ⟨j', ij', hj', e'⟩ | ⟨j', ij', hj', e'⟩
  ·omega
  ·omega
  ·obtain rfl : j' = j + 1 := by omega
   rw [e, e']
   exact h2.next j hj'

theorem endp_run (L : List S46) (p n : Nat) (hL : L.length ≤ 1000000) (hp : p < L.length) (hn : n ≤ L.length) (hend : n < L.length → (rd_T46 L (n : Int)).f1 ≤ (rd_T46 L (p : Int)).f1) : ∀ (d K x : Nat), n - x = d → x ≤ n → d < K → (∀ i, x ≤ i → i < n → (rd_T46 L (p : Int)).f1 < (rd_T46 L (i : Int)).f1) → endp K L (p : Int) (x : Int) = some (n : Int) := by
 intro d
 induction d with
 | zero =>
  intro K x hd hx hK hin
  obtain ⟨K, rfl⟩ : ∃ m, K = m + 1 := ⟨K - 1, by omega⟩
  obtain rfl : x = n := by omega
  simp only [endp]
  by_cases c : x < L.length
  ·have := hend c
   rw [if_pos (by omega), if_pos (by omega), if_pos (by omega), if_pos (by omega), if_neg (by omega)]
  ·rw [if_neg (by omega)]
 | succ d ih =>
  intro K x hd hx hK hin
  obtain ⟨K, rfl⟩ : ∃ m, K = m + 1 := ⟨K - 1, by omega⟩
  have := hin x (Nat.le_refl _) (by omega)
  have hw : wrap64 ((x : Int) + 1) = ((x + 1 : Nat) : Int) := by unfold wrap64; omega
  simp only [endp]
  rw [if_pos (by omega), if_pos (by omega), if_pos (by omega), if_pos (by omega), if_pos (by omega), hw]
  exact ih K (x + 1) (by omega) (by omega) (by omega) (fun i h1 h2 => hin i (by omega) h2)

theorem cut3 {α : Type} (bs : List α) (a m e : Nat) (h1 : a ≤ m) (h2 : m ≤ e) (h3 : e ≤ bs.length) : (bs.take e).drop a = (bs.take m).drop a ++ (bs.take e).drop m := by
 apply List.ext_getElem?
 intro i
 have hl : ((bs.take m).drop a).length = m - a := by rw [List.length_drop, List.length_take]; omega
 by_cases c : i < m - a
 ·rw [List.getElem?_append_left (by omega), List.getElem?_drop, List.getElem?_drop, List.getElem?_take_of_lt (by omega), List.getElem?_take_of_lt (by omega)]
 ·rw [List.getElem?_append_right (by omega), List.getElem?_drop, List.getElem?_drop, hl]
  congr 1
  omega
theorem cut_len {α : Type} (bs : List α) (a m : Nat) (h2 : m ≤ bs.length) : ((bs.take m).drop a).length = m - a := by rw [List.length_drop, List.length_take]; omega
theorem Byt.cut {bs : List Int} (h : Byt bs) (a m : Nat) : Byt ((bs.take m).drop a) := fun v hv => h v (List.mem_of_mem_take (List.mem_of_mem_drop hv))
theorem Byt.rd {bs : List Int} (h : Byt bs) (i : Nat) (hi : i < bs.length) : 0 ≤ rd bs (i : Int) ∧ rd bs (i : Int) ≤ 255 := by
 have h2 : Go.Proofs.YtpennfkjfeipcaaW.PrintWords.rd bs (i : Int) = bs[i] := by
  show bs.getD _ _ = _
  rw [List.getD_eq_getElem?_getD, Int.toNat_natCast, List.getElem?_eq_getElem hi]
  rfl
 rw [h2]
 exact h _ (List.getElem_mem hi)
theorem four_sz4 (bs : List Int) (hb : Byt bs) (p : Nat) (h : p + 4 ≤ bs.length) : four (sz4 bs p) = (bs.take (p + 4)).drop p := by
 have get : ∀ i : Nat, i < bs.length → bs[i]? = some (rd bs (i : Int)) := fun i hi => by
  have h2 : rd bs (i : Int) = bs[i] := by
   show bs.getD _ _ = _
   rw [List.getD_eq_getElem?_getD, Int.toNat_natCast, List.getElem?_eq_getElem hi]
   rfl
  rw [List.getElem?_eq_getElem hi, h2]
 have r0 := hb.rd p (by omega)
 have r1 := hb.rd (p + 1) (by omega)
 have r2 := hb.rd (p + 2) (by omega)
 have r3 := hb.rd (p + 3) (by omega)
 have g0 := get p (by omega)
 have g1 := get (p + 1) (by omega)
 have g2 := get (p + 2) (by omega)
 have g3 := get (p + 3) (by omega)
 unfold four sz4
 generalize rd bs (p : Int) = b0 at *
 generalize rd bs ((p + 1 : Nat) : Int) = b1 at *
 generalize rd bs ((p + 2 : Nat) : Int) = b2 at *
 generalize rd bs ((p + 3 : Nat) : Int) = b3 at *
 have e0 : (b0 * 16777216 + b1 * 65536 + b2 * 256 + b3) / 16777216 % 256 = b0 := by omega
 have e1 : (b0 * 16777216 + b1 * 65536 + b2 * 256 + b3) / 65536 % 256 = b1 := by omega
 have e2 : (b0 * 16777216 + b1 * 65536 + b2 * 256 + b3) / 256 % 256 = b2 := by omega
 have e3 : (b0 * 16777216 + b1 * 65536 + b2 * 256 + b3) % 256 = b3 := by omega
 rw [e0, e1, e2, e3]
 apply List.ext_getElem?
 intro i
 rw [List.getElem?_drop]
 match i with
 | 0 => rw [List.getElem?_take_of_lt (by omega)]; exact g0.symm
 | 1 => rw [List.getElem?_take_of_lt (by omega)]; exact g1.symm
 | 2 => rw [List.getElem?_take_of_lt (by omega)]; exact g2.symm
 | 3 => rw [List.getElem?_take_of_lt (by omega)]; exact g3.symm
 | i + 4 => rw [List.getElem?_eq_none (l := bs.take (p + 4)) (by rw [List.length_take]; omega)]; rfl
theorem bytesOf_strOf (l : List Int) (h : Byt l) : bytesOf (strOfNums l) = l := by
 unfold strOfNums bytesOf
 rw [List.map_map]
 conv => rhs; rw [← List.map_id l]
 apply List.map_congr_left
 intro x hx
 have := h x hx
 simp only [Function.comp, id]
 have h2 : (UInt8.ofNat x.toNat).toNat = x.toNat := by rw [UInt8.toNat_ofNat']; omega
 rw [h2]
 omega

theorem shw_box (K : Nat) (L : List S46) (q : Nat) (out : List Int) (b : S46) (l1 l2 : List S46) (sub last : List Int) (hq : L.drop q = b :: (l1 ++ l2)) (hL : L.length ≤ 1000000) (hK : l1.length + 2 < K)
  (hin : ∀ i : Nat, i < l1.length → b.f1 < (rd_T46 l1 (i : Int)).f1) (hend : 0 < l2.length → (rd_T46 l2 0).f1 ≤ b.f1)
  (hsub : shw (K - 1) l1 [] 0 = some sub) (hlen : out.length + b.f0.size + (b.f2 ++ sub).length + 8 ≤ 1000000)
  (hlast : shw (K - 1) L (out ++ (four (8 + ((b.f2 ++ sub).length : Int)) ++ (bytesOf b.f0 ++ (b.f2 ++ sub)))) (q + 1 + l1.length) = some last) : shw K L out q = some last := by
 obtain ⟨K, rfl⟩ : ∃ m, K = m + 1 := ⟨K - 1, by omega⟩
 rw [Nat.add_sub_cancel] at hsub hlast
 have hdl : (L.drop q).length = 1 + l1.length + l2.length := by rw [hq, List.length_cons, List.length_append]; omega
 rw [List.length_drop] at hdl
 have hqL : q < L.length := by omega
 have at_ : ∀ i : Nat, q + i < L.length → rd_T46 L ((q + i : Nat) : Int) = rd_T46 (L.drop q) (i : Int) := fun i hi => by
  unfold rd_T46
  rw [List.getD_eq_getElem?_getD, List.getD_eq_getElem?_getD, Int.toNat_natCast, Int.toNat_natCast, List.getElem?_drop]
 have hb : rd_T46 L (q : Int) = b := by
  have := at_ 0 (by omega)
  rw [hq] at this
  exact this
 have hw : wrap64 ((q : Int) + 1) = ((q + 1 : Nat) : Int) := by unfold wrap64; omega
 have he := endp_run L q (q + 1 + l1.length) hL hqL (by omega) (fun hn => by
  have h1 := at_ (1 + l1.length) (by omega)
  rw [hq, show 1 + l1.length = l1.length + 1 by omega, rd_consS, rd_appR l1 l2 _ (Nat.le_refl _), Nat.sub_self] at h1
  rw [show q + 1 + l1.length = q + (l1.length + 1) by omega, h1, hb]
  exact hend (by omega)) l1.length K (q + 1) (by omega) (by omega) (by omega) (fun i h1 h2 => by
  have h3 := at_ (i - q) (by omega)
  rw [show q + (i - q) = i by omega, hq, show i - q = (i - q - 1) + 1 by omega, rd_consS, rd_appL l1 l2 _ (by omega)] at h3
  rw [h3, hb]
  exact hin _ (by omega))
 have hcut : (L.take (q + 1 + l1.length)).drop (q + 1) = l1 := by
  rw [List.drop_take, show L.drop (q + 1) = l1 ++ l2 by rw [← List.tail_drop, hq]; rfl, show q + 1 + l1.length - (q + 1) = l1.length by omega, List.take_left' rfl]
 simp only [shw]
 rw [if_pos hqL, hw, he, Option.bind_some, if_pos (by omega), Int.toNat_natCast, hcut, hsub, Option.bind_some, hb, if_pos hlen]
 exact hlast

/-- What is read stands in the bytes: without a fault they are just its, with one the fault stands in them. -/
theorem one : ∀ (k : Nat) (bs : List Int) (boxes : List S46) (data : Int) (P en : Nat) (d : Int) (r : List S46 × Int × Int × Int), rdr k bs boxes data P en d = some r → Byt bs → en ≤ bs.length → P ≤ en → bs.length ≤ 40000 →
  ∃ l : List S46, r.1 = boxes ++ l ∧ Chain d l ∧ l.length ≤ en - P ∧
   (r.2.2.1 = 0 → ∀ (L : List S46) (q K : Nat) (out : List Int), L.drop q = l → L.length ≤ 1000000 → q ≤ L.length → l.length + 2 < K → out.length + (en - P) ≤ 900000 → shw K L out q = some (out ++ (bs.take en).drop P)) ∧
   (r.2.2.1 ≠ 0 → (P : Int) ≤ r.2.2.2 ∧ r.2.2.2 < (en : Int)) := by
 intro k
 induction k with
 | zero => intro bs boxes data P en d r h; simp [rdr] at h
 | succ k ih =>
  intro bs boxes data P en d r h hby he hP hbl
  simp only [rdr] at h
  have now : ∀ {c : Int}, c ≠ 0 → P < en → some (boxes, data, c, (P : Int)) = some r → ∃ l : List S46, r.1 = boxes ++ l ∧ Chain d l ∧ l.length ≤ en - P ∧
   (r.2.2.1 = 0 → ∀ (L : List S46) (q K : Nat) (out : List Int), L.drop q = l → L.length ≤ 1000000 → q ≤ L.length → l.length + 2 < K → out.length + (en - P) ≤ 900000 → shw K L out q = some (out ++ (bs.take en).drop P)) ∧
   (r.2.2.1 ≠ 0 → (P : Int) ≤ r.2.2.2 ∧ r.2.2.2 < (en : Int)) := fun hc hlt e => by
   obtain rfl := Option.some.inj e
   exact ⟨[], by simp, chain_nil d, by simp, fun h0 => absurd h0 hc, fun _ => ⟨Int.le_refl _, by show (P : Int) < en; omega⟩⟩
  by_cases c1 : P < en
  case neg =>
   rw [if_neg c1] at h
   obtain rfl := Option.some.inj h
   obtain rfl : P = en := by omega
   refine ⟨[], by simp, chain_nil d, by simp, fun _ L q K out hq hL hqL hK ho => ?_, fun h0 => absurd rfl h0⟩
   obtain ⟨K, rfl⟩ : ∃ m, K = m + 1 := ⟨K - 1, by omega⟩
   have : (L.drop q).length = 0 := by rw [hq]; rfl
   rw [List.length_drop] at this
   simp only [shw]
   rw [if_neg (by omega), List.drop_of_length_le (by rw [List.length_take]; omega), List.append_nil]
  rw [if_pos c1] at h
  by_cases c2 : en < P + 8
  ·rw [if_pos c2] at h; exact now (by decide) c1 h
  rw [if_neg c2] at h
  by_cases c3 : sz4 bs P < 8
  ·rw [if_pos c3] at h; exact now (by decide) c1 h
  rw [if_neg c3] at h
  by_cases c4 : ((en - P : Nat) : Int) < sz4 bs P
  ·rw [if_pos c4] at h; exact now (by decide) c1 h
  rw [if_neg c4] at h
  have hf4 := four_sz4 bs hby P (by omega)
  obtain ⟨n, hn⟩ : ∃ n : Nat, sz4 bs P = (n : Int) := ⟨(sz4 bs P).toNat, by omega⟩
  rw [hn] at c3 c4 h hf4
  rw [Int.toNat_natCast] at h
  by_cases c5 : kindB (kd4 bs P) = true
  case neg => rw [if_neg c5] at h; exact now (by decide) c1 h
  rw [if_pos c5] at h
  by_cases c6 : 8 < d
  ·rw [if_pos c6] at h; exact now (by decide) c1 h
  rw [if_neg c6] at h
  by_cases c7 : boxes.length = 200
  ·rw [if_pos c7] at h; exact now (by decide) c1 h
  rw [if_neg c7] at h
  have hkb : bytesOf (kd4 bs P) = (bs.take (P + 8)).drop (P + 4) := bytesOf_strOf _ (hby.cut _ _)
  have hks : (kd4 bs P).size = 4 := (kindB_good _ c5).1
  have hdl : ((bs.take (P + n)).drop (P + 8)).length = n - 8 := by rw [cut_len _ _ _ (by omega)]; omega
  -- the box's bytes
  have hbox : four (8 + (((bs.take (P + n)).drop (P + 8)).length : Int)) ++ (bytesOf (kd4 bs P) ++ (bs.take (P + n)).drop (P + 8)) = (bs.take (P + n)).drop P := by
   rw [hdl, show (8 + ((n - 8 : Nat) : Int)) = (n : Int) by omega, hf4, hkb, cut3 bs P (P + 4) (P + n) (by omega) (by omega) (by omega), cut3 bs (P + 4) (P + 8) (P + n) (by omega) (by omega) (by omega)]
  have hall : (bs.take en).drop P = (bs.take (P + n)).drop P ++ (bs.take en).drop (P + n) := cut3 bs P (P + n) en (by omega) (by omega) he
  by_cases c8 : r_hold (kd4 bs P) = true
  ·rw [if_pos c8] at h
   obtain ⟨s, hs, h⟩ := Option.bind_eq_some_iff.1 h
   obtain ⟨l1, a1, a2, a3, a4, a5⟩ := ih _ _ _ _ _ _ s hs hby (by omega) (by omega) hbl
   by_cases c9 : s.2.2.1 = 0
   ·rw [if_pos c9] at h
    obtain ⟨l2, b1, b2, b3, b4, b5⟩ := ih _ _ _ _ _ _ r h hby he (by omega) hbl
    refine ⟨(⟨kd4 bs P, d, []⟩ : S46) :: (l1 ++ l2), ?_, chain_cons rfl (by omega) c5 (fun _ => rfl) Byt.nil a2 (fun _ => c8) b2, ?_, fun h0 L q K out hq hL hqL hK ho => ?_, fun h0 => ?_⟩
    ·rw [b1, a1]; simp only [List.append_assoc, List.cons_append, List.nil_append]
    ·rw [List.length_cons, List.length_append]; omega
    ·rw [List.length_cons, List.length_append] at hK
     have hsub := a4 c9 l1 0 (K - 1) [] (List.drop_zero ..) (by omega) (Nat.zero_le _) (by omega) (by simp only [List.length_nil]; omega)
     rw [List.nil_append] at hsub
     have hqd : (L.drop q).length = 1 + l1.length + l2.length := by rw [hq, List.length_cons, List.length_append]; omega
     rw [List.length_drop] at hqd
     have hl2 : L.drop (q + 1 + l1.length) = l2 := by
      rw [show q + 1 + l1.length = q + (1 + l1.length) by omega, ← List.drop_drop, hq, show 1 + l1.length = l1.length + 1 by omega, List.drop_succ_cons, List.drop_left' rfl]
     refine shw_box K L q out _ l1 l2 _ _ hq hL (by omega) (fun i hi => by have := a2.low i hi; show d < _; omega) (fun h9 => by have := b2.first h9; show _ ≤ d; omega) hsub ?_ ?_
     ·show out.length + (kd4 bs P).size + ([] ++ (bs.take (P + n)).drop (P + 8)).length + 8 ≤ 1000000
      rw [List.nil_append, hdl, hks]
      omega
     ·show shw (K - 1) L (out ++ (four (8 + (([] ++ (bs.take (P + n)).drop (P + 8)).length : Int)) ++ (bytesOf (kd4 bs P) ++ ([] ++ (bs.take (P + n)).drop (P + 8))))) (q + 1 + l1.length) = _
      rw [List.nil_append, hbox, hall, ← List.append_assoc]
      exact b4 h0 L (q + 1 + l1.length) (K - 1) _ hl2 hL (by omega) (by omega) (by rw [List.length_append, cut_len _ _ _ (by omega)]; omega)
    ·have := b5 h0
     omega
   ·rw [if_neg c9] at h
    obtain rfl := Option.some.inj h
    refine ⟨(⟨kd4 bs P, d, []⟩ : S46) :: (l1 ++ []), ?_, chain_cons rfl (by omega) c5 (fun _ => rfl) Byt.nil a2 (fun _ => c8) (chain_nil d), ?_, fun h0 => absurd h0 c9, fun h0 => ?_⟩
    ·rw [a1]; simp only [List.append_assoc, List.cons_append, List.nil_append, List.append_nil]
    ·rw [List.length_cons, List.append_nil]; omega
    ·have := a5 h0
     omega
  ·rw [if_neg c8] at h
   by_cases c9 : 20000 < data + ((n : Int) - 8)
   ·rw [if_pos c9] at h; exact now (by decide) c1 h
   rw [if_neg c9] at h
   obtain ⟨l2, b1, b2, b3, b4, b5⟩ := ih _ _ _ _ _ _ r h hby he (by omega) hbl
   refine ⟨(⟨kd4 bs P, d, (bs.take (P + n)).drop (P + 8)⟩ : S46) :: ([] ++ l2), ?_, chain_cons rfl (by omega) c5 (fun h0 => absurd h0 c8) (hby.cut _ _) (chain_nil _) (fun h0 => absurd h0 (by simp)) b2, ?_, fun h0 L q K out hq hL hqL hK ho => ?_, fun h0 => ?_⟩
   ·rw [b1]; simp only [List.append_assoc, List.cons_append, List.nil_append]
   ·rw [List.length_cons, List.nil_append]; omega
   ·rw [List.length_cons, List.nil_append] at hK
    have hqd : (L.drop q).length = 1 + l2.length := by rw [hq, List.length_cons, List.nil_append]; omega
    rw [List.length_drop] at hqd
    have hl2 : L.drop (q + 1) = l2 := by
     rw [← List.drop_drop, hq]; rfl
    have hsub : shw (K - 1) ([] : List S46) [] 0 = some [] := by
     obtain ⟨m, hm⟩ : ∃ m, K - 1 = m + 1 := ⟨K - 2, by omega⟩
     rw [hm]
     simp only [shw]
     rw [if_neg (by simp)]
    refine shw_box K L q out _ [] l2 _ _ hq hL (by simp only [List.length_nil]; omega) (fun i hi => absurd hi (by simp)) (fun h9 => by have := b2.first h9; show _ ≤ d; omega) hsub ?_ ?_
    ·show out.length + (kd4 bs P).size + ((bs.take (P + n)).drop (P + 8) ++ []).length + 8 ≤ 1000000
     rw [List.append_nil, hdl, hks]
     omega
    ·show shw (K - 1) L (out ++ (four (8 + (((bs.take (P + n)).drop (P + 8) ++ []).length : Int)) ++ (bytesOf (kd4 bs P) ++ ((bs.take (P + n)).drop (P + 8) ++ [])))) (q + 1 + 0) = _
     rw [List.append_nil, hbox, hall, ← List.append_assoc]
     exact b4 h0 L (q + 1) (K - 1) _ hl2 hL (by omega) (by omega) (by rw [List.length_append, cut_len _ _ _ (by omega)]; omega)
   ·have := b5 h0
    omega

/-- The bytes while they are drawn. -/
theorem byt_set {l : List Int} (h : Byt l) (i : Nat) (x : Int) (h0 : 0 ≤ x) (h1 : x ≤ 255) : Byt (l.set i x) := fun v hv => by
 rcases List.mem_or_eq_of_mem_set hv with hv | rfl
 ·exact h v hv
 ·exact ⟨h0, h1⟩
theorem byt_rep (n : Nat) : Byt (List.replicate n 0) := fun v hv => by
 obtain rfl := List.eq_of_mem_replicate hv
 exact ⟨by decide, by decide⟩

theorem db_end (b : List Int) (hb : b.length ≤ 4096) (x4 : Int) (l : List Int) (hl : Byt l) (hn : l.length ≤ 40001) (i h : Int) (hi : 0 ≤ i) : ∃ r, Ev (fun k => spec_l2DrawBytes.j1 k l x4 false b i h) r ∧ Byt r.1 ∧ r.1.length ≤ 40001 := by
 obtain ⟨v, i2, h2, e, hi2⟩ := once_ok b i h 60 hb hi
 cases v with
 | false =>
  refine ⟨(l, i2, h2), Ev.step (f := fun _ => some (l, i2, h2)) (fun k => ?_) (Ev.now _), hl, hn⟩
  rw [spec_l2DrawBytes.j1, if_neg (by simp), e, Option.bind_some, if_neg (by simp)]
 | true =>
  obtain ⟨q, i3, h3, e2, hi3, q0, q1⟩ := below_ok b i2 h2 2 hb hi2
  have q1 := q1 (by omega)
  have wq : wrap64 (40000 + q) = 40000 + q := by unfold wrap64; omega
  refine ⟨(List.replicate (wrap64 (40000 + q)).toNat 0, i3, h3), Ev.step (f := fun _ => some (List.replicate (wrap64 (40000 + q)).toNat 0, i3, h3)) (fun k => ?_) (Ev.now _), byt_rep _, ?_⟩
  ·rw [spec_l2DrawBytes.j1, if_neg (by simp), e, Option.bind_some, if_pos rfl, e2, Option.bind_some, if_pos (by rw [wq]; omega), if_pos (by rw [wq]; omega)]
  ·show (List.replicate (wrap64 (40000 + q)).toNat (0 : Int)).length ≤ 40001
   rw [List.length_replicate, wq]
   omega

theorem db_l0 (b : List Int) (hb : b.length ≤ 4096) : ∀ (n : Nat) (x4 : Int) (l : List Int) (i h : Int), x4 = n → Byt l → l.length + n ≤ 40001 → 0 ≤ i → ∃ r, Ev (fun k => spec_l2DrawBytes.l0 k l x4 b i h) r ∧ Byt r.1 ∧ r.1.length ≤ 40001 := by
 intro n
 induction n with
 | zero =>
  intro x4 l i h hx hl hn hi
  obtain ⟨r, hr, h3⟩ := db_end b hb x4 l hl hn i h hi
  refine ⟨r, Ev.step (fun k => ?_) hr, h3⟩
  rw [spec_l2DrawBytes.l0, if_neg (by omega)]
 | succ n ih =>
  intro x4 l i h hx hl hn hi
  have wx : wrap64 (x4 - 1) = x4 - 1 := by unfold wrap64; omega
  by_cases c : (l.length : Int) > 0
  case neg =>
   obtain ⟨r, hr, h3⟩ := db_end b hb x4 l hl (by omega) i h hi
   refine ⟨r, Ev.step (fun k => ?_) hr, h3⟩
   rw [spec_l2DrawBytes.l0, if_pos (by omega), decide_eq_false c]
  obtain ⟨p, i2, h2, e, hi2, p0, p1⟩ := below_ok b i h (l.length : Int) hb hi
  have p1 := p1 (by omega)
  obtain ⟨u, i3, h3, e2, hi3, u0, u1⟩ := below_ok b i2 h2 4 hb hi2
  have u1 := u1 (by omega)
  have go : ∀ (l' : List Int) (i' h' : Int), Byt l' → l'.length ≤ l.length + 1 → 0 ≤ i' → (∀ k, spec_l2DrawBytes.j1 (k + 1) l x4 true b i h = spec_l2DrawBytes.l0 k l' (x4 - 1) b i' h') → ∃ r, Ev (fun k => spec_l2DrawBytes.l0 k l x4 b i h) r ∧ Byt r.1 ∧ r.1.length ≤ 40001 := by
   intro l' i' h' hl' hn' hi' hstep
   obtain ⟨r, hr, h3⟩ := ih (x4 - 1) l' i' h' (by omega) hl' (by omega) hi'
   refine ⟨r, Ev.step (fun k => ?_) (Ev.step (g := fun k => spec_l2DrawBytes.j1 k l x4 true b i h) hstep hr), h3⟩
   rw [spec_l2DrawBytes.l0, if_pos (by omega), decide_eq_true c]
  by_cases c0 : u = 0
  ·obtain ⟨v, i4, h4, e3, v0, v1, hi4⟩ := byte_ok b i3 h3 hb hi3
   refine go (l.set p.toNat (v % 256)) i4 h4 (byt_set hl _ _ (by omega) (by omega)) (by rw [List.length_set]; omega) hi4 (fun k => ?_)
   rw [spec_l2DrawBytes.j1, if_pos rfl, e, Option.bind_some, e2, Option.bind_some, if_pos c0, e3, Option.bind_some, if_pos p0, if_pos p1, wx]
  ·by_cases c1 : u = 1
   ·obtain ⟨v, i4, h4, e3, hi4, v0, v1⟩ := below_ok b i3 h3 3 hb hi3
    refine go (l.set p.toNat ((((rd l p + v % 256) % 256) - 1) % 256)) i4 h4 (byt_set hl _ _ (by omega) (by omega)) (by rw [List.length_set]; omega) hi4 (fun k => ?_)
    rw [spec_l2DrawBytes.j1, if_pos rfl, e, Option.bind_some, e2, Option.bind_some, if_neg c0, if_pos c1, if_pos p0, if_pos p1, e3, Option.bind_some, wx]
   ·by_cases c2 : u = 2
    ·refine go (l.take p.toNat) i3 h3 (fun v hv => hl v (List.mem_of_mem_take hv)) (by rw [List.length_take]; omega) hi3 (fun k => ?_)
     rw [spec_l2DrawBytes.j1, if_pos rfl, e, Option.bind_some, e2, Option.bind_some, if_neg c0, if_neg c1, if_pos c2, if_pos p0, if_pos (by omega), wx]
    ·obtain ⟨v, i4, h4, e3, v0, v1, hi4⟩ := byte_ok b i3 h3 hb hi3
     refine go (l ++ [v % 256]) i4 h4 (hl.snoc _ (by omega) (by omega)) (by rw [List.length_append, List.length_singleton]; omega) hi4 (fun k => ?_)
     rw [spec_l2DrawBytes.j1, if_pos rfl, e, Option.bind_some, e2, Option.bind_some, if_neg c0, if_neg c1, if_neg c2, if_pos (by omega), e3, Option.bind_some, if_pos (by omega), wx]

theorem cost_le : ∀ (l : List S46), (∀ x ∈ l, x.f0.size ≤ 5) → cost l ≤ 9 * l.length + dsum l
 | [], _ => by simp [cost, dsum]
 | x :: xs, h => by
  have h1 := cost_le xs (fun y hy => h y (List.mem_cons_of_mem _ hy))
  have h2 := h x (List.mem_cons_self ..)
  have h3 : cost (x :: xs) = bcost x + cost xs := by unfold cost; rw [List.map_cons, List.sum_cons]
  have h4 : bcost x = 4 + x.f0.size + x.f2.length := rfl
  rw [h3, dsum_cons, List.length_cons, h4]
  omega

/-- What the law reads: bytes, 40001 at most. -/
theorem bytes_drawn (l0 : List Int) (hb : l0.length ≤ 4096) : ∃ bs, Ev (fun k => spec_DrawReadBoxes.f k l0) bs ∧ Byt bs ∧ bs.length ≤ 40001 := by
 obtain ⟨h, e⟩ := new_ok l0 hb 4097 (by omega)
 have hn : Ev (fun k => spec_l1New.f k l0) (l0, 0, h) := Ev.of (fun k => spec_l1New.mono l0 k) e
 obtain ⟨⟨l, i2, h2⟩, hr, hl, hi2⟩ := boxes_drawn l0 hb 0 h (by omega)
 have hc := cost_le l (fun x hx => (hl.2.2 x hx).1)
 have hl1 := hl.1
 have hl2 := hl.2.1
 dsimp only at hl1 hl2 hi2
 obtain ⟨out, e1, e2⟩ := shw_some l.length l [] 0 1000 (by omega) (by omega) (by omega) (by rw [List.drop_zero]; simp only [List.length_nil]; omega) (by omega)
 rw [List.drop_zero] at e2
 simp only [List.length_nil, Nat.zero_add] at e2
 have hby := shw_byt 1000 l [] 0 out e1 Byt.nil (fun x hx => (hl.2.2 x hx).2)
 have E1 : Ev (fun k => shw k l [] 0) out := Ev.of (fun k => shw.mono k l [] 0) e1
 have E2 : Ev (fun k => spec_l2Show.f k l) out := Ev.congr (fun k => by unfold spec_l2Show.f; exact if_pos (by omega)) E1
 obtain ⟨v, i3, h3, e3, hi3, v0, v1⟩ := below_ok l0 i2 h2 3 hb hi2
 have v1 := v1 (by omega)
 obtain ⟨⟨bs, i4, h4⟩, hs, q1, q2⟩ := db_l0 l0 hb v.toNat v out i3 h3 (by omega) hby (by omega) hi3
 refine ⟨bs, ?_, q1, q2⟩
 unfold spec_DrawReadBoxes.f spec_l2DrawBytes.f
 refine Ev.bind hn (Ev.bind (Ev.bind hr (Ev.bind E2 (Ev.congr (fun k => ?_) hs))) (Ev.now _))
 show ((spec_l1Below.f l0 i2 h2 3).bind _) = _
 rw [e3, Option.bind_some]

theorem FnBoxesOne : laws_FnBoxesOne.Pure := by
 intro l0 _ _ hw
 unfold laws_FnBoxesOne.f laws_big.f
 simp only [Option.bind_some, decide_eq_true_eq]
 by_cases hbig : (l0.length : Int) > 4096
 ·exact ⟨1, by rw [if_pos hbig]⟩
 obtain ⟨bs, hd, hby, hlen⟩ := bytes_drawn l0 (by omega)
 refine Ev.rounds ?_
 refine Ev.congr (fun k => by rw [if_neg hbig]) ?_
 refine Ev.bind hd ?_
 have same : ∀ x : List S46, x.length ≤ 200 → Ev (fun k => laws_sameBoxes.f k x x) true := fun x hx => ⟨201, fun k hk => same_self x (by omega) k (by omega)⟩
 have okE : ∀ x : List S46, x.length ≤ 200 → dsum x ≤ 20000 → Chain 0 x → Ev (fun k => impl_BoxesOk.f k x) true := fun x h1 h2 h3 => ⟨500, fun k hk => chain_ok x h3 h1 h2 k hk⟩
 by_cases big : (bs.length : Int) > 40000
 ·have T1 : Ev (fun k => impl_ReadBoxes.f k bs) (([] : List S46), (1 : Int), (0 : Int)) := ⟨0, fun k _ => by
   show impl_ReadBoxes.f k bs = _
   unfold impl_ReadBoxes.f
   rw [if_pos big]⟩
  have T2 : Ev (fun k => spec_ReadBoxes.f k bs) (([] : List S46), (1 : Int), (0 : Int)) := ⟨0, fun k _ => by
   show spec_ReadBoxes.f k bs = _
   unfold spec_ReadBoxes.f
   rw [if_pos big]⟩
  have T3 : Ev (fun k => impl_SaveBoxes.f k bs) ([] : List S46) := ⟨0, fun k _ => by
   show impl_SaveBoxes.f k bs = _
   unfold impl_SaveBoxes.f
   rw [if_pos big]⟩
  have T4 : Ev (fun k => spec_SaveBoxes.f k bs) ([] : List S46) := ⟨0, fun k _ => by
   show spec_SaveBoxes.f k bs = _
   unfold spec_SaveBoxes.f
   rw [if_pos big]⟩
  refine Ev.bind T1 (Ev.bind T2 (Ev.congr (fun k => if_neg (by decide)) (Ev.bind T3 (Ev.congr (fun k => if_neg (by decide)) (Ev.congr (fun k => if_pos (by decide)) (Ev.congr (fun k => if_pos (by decide)) (Ev.congr (fun k => if_pos (show (0 : Int) < (bs.length : Int) by omega)) (Ev.bind (okE [] (by simp) (by simp [dsum]) (chain_nil 0)) (Ev.congr (fun k => if_pos rfl) (Ev.bind T4 (Ev.bind (same [] (by simp)) (Ev.now true))))))))))))
 obtain ⟨s, hs⟩ := rdr_some bs.length 40001 bs [] 0 0 bs.length 0 (by omega) (by omega)
 have hb := rdr_bounds 40001 bs [] 0 0 bs.length 0 s hs (by simp) (by omega) (by omega)
 have hds := rdr_dsum 40001 bs [] 0 0 bs.length 0 s hs (Nat.le_refl _) rfl
 obtain ⟨l, a1, a2, _, a4, a5⟩ := one 40001 bs [] 0 0 bs.length 0 s hs hby (Nat.le_refl _) (Nat.zero_le _) (by omega)
 rw [List.nil_append] at a1
 have top : ∀ k, 40001 ≤ k → rdTop k bs = some s := fun k hk => by
  rw [top_of hby (by omega)]
  exact at_rounds (fun k => rdr.mono k _ _ _ _ _ _) hk hs
 have T3 : Ev (fun k => impl_SaveBoxes.f k bs) l := ⟨40001, fun k hk => by
  show impl_SaveBoxes.f k bs = _
  unfold impl_SaveBoxes.f
  rw [if_neg big, top k hk, Option.bind_some, a1]⟩
 have T4 : Ev (fun k => spec_SaveBoxes.f k bs) l := ⟨40001, fun k hk => by
  show spec_SaveBoxes.f k bs = _
  unfold spec_SaveBoxes.f
  rw [if_neg big, top k hk, Option.bind_some, a1]⟩
 have hl : l.length ≤ 200 := by rw [← a1]; exact hb.1
 have hsum : dsum l ≤ 20000 := by rw [← a1]; omega
 by_cases c : s.2.2.1 = 0
 ·have T1 : Ev (fun k => impl_ReadBoxes.f k bs) (l, (0 : Int), (0 : Int)) := ⟨40001, fun k hk => by
   show impl_ReadBoxes.f k bs = _
   unfold impl_ReadBoxes.f
   rw [if_neg big, top k hk, Option.bind_some, if_pos c, a1]⟩
  have T2 : Ev (fun k => spec_ReadBoxes.f k bs) (l, (0 : Int), (0 : Int)) := ⟨40001, fun k hk => by
   show spec_ReadBoxes.f k bs = _
   unfold spec_ReadBoxes.f
   rw [if_neg big, top k hk, Option.bind_some, if_pos c, a1]⟩
  have hsh := a4 c l 0 1000 [] (List.drop_zero ..) (by omega) (Nat.zero_le _) (by omega) (by simp only [List.length_nil]; omega)
  rw [List.nil_append, List.take_length, List.drop_zero] at hsh
  have E1 : Ev (fun k => shw k l [] 0) bs := Ev.of (fun k => shw.mono k l [] 0) hsh
  have S2 : Ev (fun k => impl_ShowBoxes.f k l) bs := by
   unfold impl_ShowBoxes.f impl_showBoxes.f
   exact Ev.bind (okE l hl hsum a2) (Ev.congr (fun k => if_pos rfl) (Ev.bind (Ev.congr (fun k => if_pos (by omega)) E1) (Ev.now _)))
  refine Ev.bind T1 (Ev.bind T2 (Ev.congr (fun k => if_neg (by simp)) (Ev.bind T3 (Ev.congr (fun k => if_pos rfl) (Ev.bind (same l hl) (Ev.congr (fun k => if_pos rfl) (Ev.bind S2 (Ev.congr (f := fun _ => some true) (fun k => ?_) (Ev.now true)))))))))
  simp
 ·have h5 := a5 c
  have T1 : Ev (fun k => impl_ReadBoxes.f k bs) (([] : List S46), s.2.2.1, s.2.2.2) := ⟨40001, fun k hk => by
   show impl_ReadBoxes.f k bs = _
   unfold impl_ReadBoxes.f
   rw [if_neg big, top k hk, Option.bind_some, if_neg c]⟩
  have T2 : Ev (fun k => spec_ReadBoxes.f k bs) (([] : List S46), s.2.2.1, s.2.2.2) := ⟨40001, fun k hk => by
   show spec_ReadBoxes.f k bs = _
   unfold spec_ReadBoxes.f
   rw [if_neg big, top k hk, Option.bind_some, if_neg c]⟩
  refine Ev.bind T1 (Ev.bind T2 (Ev.congr (fun k => if_neg (by simp)) (Ev.bind T3 (Ev.congr (fun k => if_neg c) (Ev.congr (fun k => if_pos rfl) (Ev.congr (fun k => if_pos (by dsimp only; omega)) (Ev.congr (fun k => if_pos (by dsimp only; omega)) (Ev.bind (okE l hl hsum a2) (Ev.congr (fun k => if_pos rfl) (Ev.bind T4 (Ev.bind (same l hl) (Ev.now true))))))))))))

end Go.Proofs.Ytpennfkjfeipcaa.Pure
