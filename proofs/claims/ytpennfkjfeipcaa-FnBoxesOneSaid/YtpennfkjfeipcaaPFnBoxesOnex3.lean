/- The functions that the law reaches, as Lean functions, each with the proof that the Go code comes to just these answers. Written by a program of this session (wip/tools/handprint.py over the kit's print); by hand where the print takes no such text. -/
-- squeezed
import Derived.Test.YtpennfkjfeipcaaPFnBoxesOnex0
import Derived.Test.YtpennfkjfeipcaaPFnBoxesOnex2
namespace Go.Proofs.Ytpennfkjfeipcaa.PFnBoxesOne
open Go.RowKit Go.Proofs.YtpennfkjfeipcaaW.PrintWords Go.Proofs.YtpennfkjfeipcaaW.PrintLast Go.Proofs.YtpennfkjfeipcaaW.PrintMore
attribute [local go_sem] max2_int min2_int max_two min_two max_three min_three max_four min_four   -- for this text's walks alone
set_option linter.unusedVariables false
set_option linter.unusedSimpArgs false

/-! ### slices_Clone_byte_byte: function 62 -/
/-- A letter or a digit. -/
def R_Good (c : Int) : Prop := (48 ≤ c ∧ c ≤ 57) ∨ (65 ≤ c ∧ c ≤ 90) ∨ (97 ≤ c ∧ c ≤ 122)

instance instR_Good (c : Int) : Decidable (R_Good c) := by unfold R_Good; infer_instance

theorem r_spec_char (c : Int) (n : Option Bool) : (if c < 48 then (if c < 97 then (if c < 65 then (some false) else (if c > 90 then (some false) else n)) else (if c > 122 then (if c < 65 then (some false) else (if c > 90 then (some false) else n)) else n)) else (if c > 57 then (if c < 97 then (if c < 65 then (some false) else (if c > 90 then (some false) else n)) else (if c > 122 then (if c < 65 then (some false) else (if c > 90 then (some false) else n)) else n)) else n)) = if R_Good c then n else some false := by
 by_cases g : R_Good c
 ·rw [if_pos g]
  unfold R_Good at g
  repeat' split
  all_goals first | rfl | omega
 ·rw [if_neg g]
  unfold R_Good at g
  repeat' split
  all_goals first | rfl | omega

theorem r_impl_char (c : Int) (n : Option Bool) : ((impl_isLetter.f c).bind fun t135 => (if t135 = true then n else ((impl_isDigit.f c).bind fun t136 => (if t136 = true then n else (some false))))) = if R_Good c then n else some false := by
 have h1 : impl_isLetter.f c = some (decide ((97 ≤ c ∧ c ≤ 122) ∨ (65 ≤ c ∧ c ≤ 90))) := by
  unfold impl_isLetter.f
  repeat' split
  all_goals (congr 1; first | (symm; apply decide_eq_true; omega) | (symm; apply decide_eq_false; omega) | (apply decide_eq_decide.2; omega))
 have h2 : impl_isDigit.f c = some (decide (48 ≤ c ∧ c ≤ 57)) := by
  unfold impl_isDigit.f
  repeat' split
  all_goals (congr 1; first | (symm; apply decide_eq_true; omega) | (symm; apply decide_eq_false; omega) | (apply decide_eq_decide.2; omega))
 rw [h1, h2]
 simp only [Option.bind_some, decide_eq_true_eq]
 by_cases g1 : (97 ≤ c ∧ c ≤ 122) ∨ (65 ≤ c ∧ c ≤ 90)
 ·rw [if_pos g1, if_pos (by unfold R_Good; omega)]
 ·rw [if_neg g1]
  by_cases g2 : 48 ≤ c ∧ c ≤ 57
  ·rw [if_pos g2, if_pos (by unfold R_Good; omega)]
  ·rw [if_neg g2, if_neg (by unfold R_Good; omega)]

theorem r_kind_l (s : ByteArray) (hs : (s.size : Int) = 4) : ∀ (d k k' : Nat) (i : Int), 0 ≤ i → i ≤ 4 → 4 - i = d → d < k → d < k' → ∃ r, spec_l2Kind.l0 k s i = some r ∧ impl_kindOk.l0 k' s 4 i = some r ∧ (r = true → ∀ j : Int, i ≤ j → j < 4 → R_Good (bt s j)) := by
 intro d
 induction d with
 | zero =>
  intro k k' i h0 h1 hd hk hk'
  obtain ⟨k, rfl⟩ : ∃ m, k = m + 1 := ⟨k - 1, by omega⟩
  obtain ⟨k', rfl⟩ : ∃ m, k' = m + 1 := ⟨k' - 1, by omega⟩
  refine ⟨true, ?_, ?_, fun _ j h2 h3 => by omega⟩
  ·simp only [spec_l2Kind.l0]; rw [if_neg (by omega)]
  ·simp only [impl_kindOk.l0]; rw [if_neg (by omega)]
 | succ d ih =>
  intro k k' i h0 h1 hd hk hk'
  obtain ⟨k, rfl⟩ : ∃ m, k = m + 1 := ⟨k - 1, by omega⟩
  obtain ⟨k', rfl⟩ : ∃ m, k' = m + 1 := ⟨k' - 1, by omega⟩
  have wi : wrap64 (i + 1) = i + 1 := by unfold wrap64; omega
  obtain ⟨r, a, b, hg⟩ := ih k k' (i + 1) (by omega) (by omega) (by omega) (by omega) (by omega)
  have hS : spec_l2Kind.l0 (k + 1) s i = if R_Good (bt s i) then spec_l2Kind.l0 k s (i + 1) else some false := by
   simp only [spec_l2Kind.l0]
   rw [if_pos (by omega), if_pos h0, if_pos (by omega), r_spec_char, wi]
  have hI : impl_kindOk.l0 (k' + 1) s 4 i = if R_Good (bt s i) then impl_kindOk.l0 k' s 4 (i + 1) else some false := by
   simp only [impl_kindOk.l0]
   rw [if_pos (by omega), if_pos h0, if_pos (by omega), r_impl_char, wi]
  rw [hS, hI, a, b]
  by_cases g : R_Good (bt s i)
  ·rw [if_pos g]
   refine ⟨r, rfl, rfl, fun h j h2 h3 => ?_⟩
   by_cases e : j = i
   ·rw [e]; exact g
   ·exact hg h j (by omega) h3
  ·rw [if_neg g]; exact ⟨false, rfl, rfl, fun h => by simp at h⟩

theorem r_kind_eq (s : ByteArray) : ∃ r, (r = true → s.size = 4 ∧ ∀ j : Int, 0 ≤ j → j < 4 → R_Good (bt s j)) ∧ ∀ k, 6 ≤ k → spec_l2Kind.f k s = some r ∧ impl_kindOk.f k s = some r := by
 by_cases c : (s.size : Int) = 4
 ·obtain ⟨r, a, b, hg⟩ := r_kind_l s c 4 5 5 0 (by omega) (by omega) (by omega) (by omega) (by omega)
  refine ⟨r, fun h => ⟨by omega, fun j h2 h3 => hg h j h2 h3⟩, fun k hk => ?_⟩
  obtain ⟨r1, a1, b1, _⟩ := r_kind_l s c 4 k 5 0 (by omega) (by omega) (by omega) (by omega) (by omega)
  obtain ⟨r2, a2, b2, _⟩ := r_kind_l s c 4 5 k 0 (by omega) (by omega) (by omega) (by omega) (by omega)
  unfold spec_l2Kind.f impl_kindOk.f
  rw [if_pos c, if_pos c, c]
  obtain rfl := Option.some.inj (b1.symm.trans b)
  obtain rfl := Option.some.inj (a2.symm.trans a)
  exact ⟨a1, b2⟩
 ·refine ⟨false, fun h => by simp at h, fun k hk => ?_⟩
  unfold spec_l2Kind.f impl_kindOk.f
  rw [if_neg c, if_neg c]
  exact ⟨rfl, rfl⟩

def r_hold (s : ByteArray) : Bool := decide (65 ≤ bt s 0 ∧ bt s 0 ≤ 90)

theorem r_hold_i (s : ByteArray) (d : Int) (l : List Int) (h : s.size = 4) : impl_Box_holds.f s d l = some (r_hold s) := by
 unfold impl_Box_holds.f r_hold
 rw [if_pos (by omega)]
 by_cases c : 65 ≤ bt s 0
 ·rw [if_pos c]; simp [c]
 ·rw [if_neg c]; simp [c]

theorem r_hold_s (s : ByteArray) (h : s.size = 4) : spec_l2Holds.f s = some (r_hold s) := r_hold_i s 0 [] h


/-- Whether these bytes are a kind. -/
def kindB (s : ByteArray) : Bool := (spec_l2Kind.f 6 s).getD false
theorem kindB_eq (s : ByteArray) (k : Nat) (hk : 6 ≤ k) : spec_l2Kind.f k s = some (kindB s) ∧ impl_kindOk.f k s = some (kindB s) := by
 obtain ⟨r, _, h⟩ := r_kind_eq s
 have e : kindB s = r := by unfold kindB; rw [(h 6 (Nat.le_refl _)).1]; rfl
 rw [e]
 exact h k hk
theorem kindB_good (s : ByteArray) (h : kindB s = true) : s.size = 4 ∧ ∀ j : Int, 0 ≤ j → j < 4 → R_Good (bt s j) := by
 obtain ⟨r, h1, h2⟩ := r_kind_eq s
 have e : kindB s = r := by unfold kindB; rw [(h2 6 (Nat.le_refl _)).1]; rfl
 exact h1 (by rw [← e]; exact h)
/-- The kind that lies at a place of the bytes, and the size. -/
def kd4 (bs : List Int) (p : Nat) : ByteArray := strOfNums ((bs.take (p + 8)).drop (p + 4))
def sz4 (bs : List Int) (p : Nat) : Int := rd bs (p : Int) * 16777216 + rd bs ((p + 1 : Nat) : Int) * 65536 + rd bs ((p + 2 : Nat) : Int) * 256 + rd bs ((p + 3 : Nat) : Int)
/-- What is read: boxes, their bytes' number, the fault's code and place. -/
def rdr : Nat → List Int → List S46 → Int → Nat → Nat → Int → Option (List S46 × Int × Int × Int)
 | 0, _, _, _, _, _, _ => none
 | k + 1, bs, boxes, data, p, en, depth =>
  if p < en then
   if en < p + 8 then some (boxes, data, 2, (p : Int))
   else if sz4 bs p < 8 then some (boxes, data, 3, (p : Int))
   else if ((en - p : Nat) : Int) < sz4 bs p then some (boxes, data, 3, (p : Int))
   else if kindB (kd4 bs p) = true then
    if 8 < depth then some (boxes, data, 5, (p : Int))
    else if boxes.length = 200 then some (boxes, data, 6, (p : Int))
    else if r_hold (kd4 bs p) = true then
     (rdr k bs (boxes ++ [⟨kd4 bs p, depth, []⟩]) data (p + 8) (p + (sz4 bs p).toNat) (depth + 1)).bind fun s =>
      if s.2.2.1 = 0 then rdr k bs s.1 s.2.1 (p + (sz4 bs p).toNat) en depth else some s
    else if 20000 < data + (sz4 bs p - 8) then some (boxes, data, 6, (p : Int))
    else rdr k bs (boxes ++ [⟨kd4 bs p, depth, (bs.take (p + (sz4 bs p).toNat)).drop (p + 8)⟩]) (data + (sz4 bs p - 8)) (p + (sz4 bs p).toNat) en depth
   else some (boxes, data, 4, (p : Int))
  else some (boxes, data, 0, 0)
/-- What is read is never too much. -/
theorem rdr_bounds : ∀ (k : Nat) (bs : List Int) (boxes : List S46) (data : Int) (p en : Nat) (depth : Int) (r : List S46 × Int × Int × Int), rdr k bs boxes data p en depth = some r → boxes.length ≤ 200 → 0 ≤ data → data ≤ 20000 → r.1.length ≤ 200 ∧ 0 ≤ r.2.1 ∧ r.2.1 ≤ 20000 := by
 intro k
 induction k with
 | zero => intro bs boxes data p en depth r h; simp [rdr] at h
 | succ k ih =>
  intro bs boxes data p en depth r h h1 h2 h3
  simp only [rdr] at h
  have now : ∀ {c f : Int}, some (boxes, data, c, f) = some r → r.1.length ≤ 200 ∧ 0 ≤ r.2.1 ∧ r.2.1 ≤ 20000 := fun e => by
   obtain rfl := Option.some.inj e
   exact ⟨h1, h2, h3⟩
  by_cases c1 : p < en
  ·rw [if_pos c1] at h
   by_cases c2 : en < p + 8
   ·rw [if_pos c2] at h; exact now h
   rw [if_neg c2] at h
   by_cases c3 : sz4 bs p < 8
   ·rw [if_pos c3] at h; exact now h
   rw [if_neg c3] at h
   by_cases c4 : ((en - p : Nat) : Int) < sz4 bs p
   ·rw [if_pos c4] at h; exact now h
   rw [if_neg c4] at h
   by_cases c5 : kindB (kd4 bs p) = true
   ·rw [if_pos c5] at h
    by_cases c6 : 8 < depth
    ·rw [if_pos c6] at h; exact now h
    rw [if_neg c6] at h
    by_cases c7 : boxes.length = 200
    ·rw [if_pos c7] at h; exact now h
    rw [if_neg c7] at h
    by_cases c8 : r_hold (kd4 bs p) = true
    ·rw [if_pos c8] at h
     obtain ⟨s, hs, h⟩ := Option.bind_eq_some_iff.1 h
     have hb := ih _ _ _ _ _ _ s hs (by rw [List.length_append]; simp only [List.length_cons, List.length_nil]; omega) h2 h3
     by_cases c9 : s.2.2.1 = 0
     ·rw [if_pos c9] at h
      exact ih _ _ _ _ _ _ r h hb.1 hb.2.1 hb.2.2
     ·rw [if_neg c9] at h
      obtain rfl := Option.some.inj h
      exact hb
    ·rw [if_neg c8] at h
     by_cases c9 : 20000 < data + (sz4 bs p - 8)
     ·rw [if_pos c9] at h; exact now h
     rw [if_neg c9] at h
     exact ih _ _ _ _ _ _ r h (by rw [List.length_append]; simp only [List.length_cons, List.length_nil]; omega) (by omega) (by omega)
   ·rw [if_neg c5] at h; exact now h
  ·rw [if_neg c1] at h; exact now h
/-- Without a fault there is no place of one. -/
theorem rdr_code : ∀ (k : Nat) (bs : List Int) (boxes : List S46) (data : Int) (p en : Nat) (depth : Int) (r : List S46 × Int × Int × Int), rdr k bs boxes data p en depth = some r → r.2.2.1 = 0 → r.2.2.2 = 0 := by
 intro k
 induction k with
 | zero => intro bs boxes data p en depth r h; simp [rdr] at h
 | succ k ih =>
  intro bs boxes data p en depth r h h1
  simp only [rdr] at h
  have now : ∀ {c f : Int}, some (boxes, data, c, f) = some r → (c = 0 → f = 0) → r.2.2.2 = 0 := fun e hf => by
   obtain rfl := Option.some.inj e
   exact hf h1
  by_cases c1 : p < en
  ·rw [if_pos c1] at h
   by_cases c2 : en < p + 8
   ·rw [if_pos c2] at h; exact now h (by first | (intro hf; exact absurd hf (by decide)) | (intro _; rfl))
   rw [if_neg c2] at h
   by_cases c3 : sz4 bs p < 8
   ·rw [if_pos c3] at h; exact now h (by first | (intro hf; exact absurd hf (by decide)) | (intro _; rfl))
   rw [if_neg c3] at h
   by_cases c4 : ((en - p : Nat) : Int) < sz4 bs p
   ·rw [if_pos c4] at h; exact now h (by first | (intro hf; exact absurd hf (by decide)) | (intro _; rfl))
   rw [if_neg c4] at h
   by_cases c5 : kindB (kd4 bs p) = true
   ·rw [if_pos c5] at h
    by_cases c6 : 8 < depth
    ·rw [if_pos c6] at h; exact now h (by first | (intro hf; exact absurd hf (by decide)) | (intro _; rfl))
    rw [if_neg c6] at h
    by_cases c7 : boxes.length = 200
    ·rw [if_pos c7] at h; exact now h (by first | (intro hf; exact absurd hf (by decide)) | (intro _; rfl))
    rw [if_neg c7] at h
    by_cases c8 : r_hold (kd4 bs p) = true
    ·rw [if_pos c8] at h
     obtain ⟨s, hs, h⟩ := Option.bind_eq_some_iff.1 h
     by_cases c9 : s.2.2.1 = 0
     ·rw [if_pos c9] at h
      exact ih _ _ _ _ _ _ r h h1
     ·rw [if_neg c9] at h
      obtain rfl := Option.some.inj h
      exact absurd h1 c9
    ·rw [if_neg c8] at h
     by_cases c9 : 20000 < data + (sz4 bs p - 8)
     ·rw [if_pos c9] at h; exact now h (by first | (intro hf; exact absurd hf (by decide)) | (intro _; rfl))
     rw [if_neg c9] at h
     exact ih _ _ _ _ _ _ r h h1
   ·rw [if_neg c5] at h; exact now h (by first | (intro hf; exact absurd hf (by decide)) | (intro _; rfl))
  ·rw [if_neg c1] at h; exact now h (by first | (intro hf; exact absurd hf (by decide)) | (intro _; rfl))
theorem rdr.mono : ∀ (k : Nat) bs boxes data p en depth, LeO (rdr k bs boxes data p en depth) (rdr (k + 1) bs boxes data p en depth)
 | 0 => fun _ _ _ _ _ _ r h => by simp [rdr] at h
 | k + 1 => by
  have ih := rdr.mono k
  intro bs boxes data p en depth
  unfold rdr
  repeat' first
   | (with_reducible exact ih _ _ _ _ _ _)
   | (with_reducible exact LeO.refl _)
   | (with_reducible exact LeO.none _)
   | (with_reducible refine LeO.ite ?_ ?_)
   | (with_reducible refine LeO.bind ?_ (fun _ => ?_))
/-- A row of bytes as a string. -/
theorem conv_C {P : Program} {w : World} {src dst e : TypeId} (hs : P.underlying src = some (.slice e)) (he : P.underlying e = some (.int .u8)) (hd : P.underlying dst = some .string) {A : Option Addr} {n c : Nat} {xs : List Int} (h : Kd.C (Kd.int .u8) w A n xs) :
  (convert src dst (.slice A n c)).run P w = .ok (.string (strOfNums xs)) w := by
 obtain ⟨h1, h2, h3⟩ := h
 by_cases h0 : 0 < n
 ·obtain ⟨ad, rfl, hc⟩ := h3 h0
  have hl : (loadCells ad n).run P w = .ok (xs.map (Value.int .u8)).toArray w := by
   have := run_loadCells_list (P := P) w ad (xs.map (Value.int .u8)) (fun j v hj => by
    rw [List.getElem?_map] at hj
    obtain ⟨x, hx, rfl⟩ := Option.map_eq_some_iff.1 hj
    obtain ⟨cs, _, hcs, h5⟩ := hc j x hx
    have h6 := h5 0 (.int .u8 x) (by rw [show cs = [Value.int .u8 x] from hcs]; rfl)
    have e : j * (Kd.int IntKind.u8).sz + 0 = j := by show j * 1 + 0 = j; omega
    rw [e] at h6
    exact h6)
   rw [List.length_map, h1] at this
   exact this
  rw [run_convert_bytes_string w src dst e (some ad) n c hs he hd, run_bytesToString w ad n c xs hl, foldl_push_bytes]
  simp [strOfNums, ByteArray.empty, ByteArray.emptyWithCapacity]
  rfl
 ·obtain rfl : n = 0 := by omega
  obtain rfl : xs = [] := List.eq_nil_of_length_eq_zero h1
  cases A with
  | none => exact run_convert_bytes_nil w src e hs he 0 c dst hd
  | some ad =>
   rw [run_convert_bytes_string w src dst e (some ad) 0 c hs he hd]
   rw [run_bytesToString w ad 0 c [] (by
    have := run_loadCells_list (P := P) w ad [] (fun j v hj => by simp at hj)
    exact this)]
   rfl
theorem rinfo46 : (Try.prog.info? 46).map (fun i => (i.zero, i.size, i.bytes)) = some (some (.agg #[(.string ⟨#[]⟩), (.int .i64 0), (.slice none 0 0)]), 3, 48) := by kernel_rfl
section
variable {P : Program} {Q : Exit → Act → World → Prop} {ops : Array Oper} {o : Oper} {a : Act} {Kc : Act → World → Prop}
/-- A store into a box of the call's own, in a region that draws. -/
theorem put_blk_step {W : World} (hw : Region.wanted o (yielded ops a.tmps) = true) {t : TypeId} {p : Tmp} {v : Operand} (ho : o.op = .store t (.tmp p) v) (hN : o.dst = none) {g off e : Nat} {cur cur' : Array Value} {u : Value} {seg : List Value}
  (haddr : a.eval (.tmp p) = .pointer (some ⟨g, off, none⟩)) (hx : a.eval v = u) (hh : W.heap[g]? = some (.cells cur e (0, 0))) (hu : u.cells.toList = seg) (ht : (P.info? t).map (·.size) = some seg.length)
  (hfit : off + seg.length ≤ cur.size) (h1 : ∀ q ∈ seg, q.oneCell' = true)
  (hcur : (cur.toList.take off ++ seg ++ cur.toList.drop (off + seg.length)).toArray = cur')
  (h : ∀ w1, w1.heap[g]? = some (.cells cur' e (0, 0)) → (∀ i, i ≠ g → w1.heap[i]? = W.heap[i]?) → (∀ (B : Nat) (W0 : World), B ≤ g → Below B W0 W → Below B W0 w1) → Kc a w1) : if Region.wanted o (yielded ops a.tmps) = true then Oper.wp P o a W Kc Q else Kc (a.put none undef) W := by
 have hrun0 := run_store_run (P := P) t u seg hh hu ht hfit h1
 have hrun : (execOp a.eval o).run P W = .ok .skip (W.setCells g off seg) := by
  unfold execOp
  simp [ho, haddr, hx, hrun0]
 obtain ⟨cur2, hc2, _, hl2⟩ := setCells_row seg off W cur hh hfit
 refine skip_ hw hN hrun ?_
 refine h _ ?_ (fun i hi => setCells_far seg off i hi) (fun B W0 hB hb => ?_)
 ·rw [hc2, ← hcur, ← hl2]
 ·obtain ⟨s1, s2, s3, s4⟩ := setCells_same g seg off W
  exact hb.trans ⟨s1, s2, s3, by rw [s4]; exact Nat.le_refl _, fun k hk => setCells_far seg off k (by omega)⟩
end
set_option maxHeartbeats 8000000 in
set_option maxRecDepth 100000 in
/-- slices.Clone of bytes that came in. -/
theorem slices_Clone.calls (ad : Addr) (c : Nat) (xs : List Int) (w : World) (hr : Kd.C (Kd.int .u8) w (some ad) xs.length xs) (hx : xs.length ≤ 1000000) :
  Calls Try.prog 62 #[.slice (some ad) xs.length c] w fun e w' => ∃ v : Value, e = .returned v ∧ Kd.R (Kd.int .u8) 5 w' w.heap.size (fun _ => True) v xs ∧ Below w.heap.size w w' := by
 have hu29 := Try.underlying29
 have HB := Aside0.mk (Below.refl w.heap.size w)
 have HR0 := Aside0.mk hr
 have HX := Aside0.mk hx
 clear hr hx
 have q29 : ∀ (w : World), (binOp .eql 29 (.slice (some ad) xs.length c) (.slice none 0 0)).run Try.prog w = .ok (.bool false) w := fun w => Lib.run_eql_slice_nil w 29 5 (some ad) xs.length c 0 0 Try.underlying29
 go_enter Try.func62, Try.ntmps62
 go_wp2_with (first | ((with_reducible refine gate_dst (N := 5) rfl ?_); refine Kd.R_lit (Kd.int .u8) w.heap.size 5 ?hg (N := 5) ?hd (xs := ([] : List Int)) (inner := []) (ok := fun _ => True) (okp := fun _ => True) ?hr ?hp (fun _ hk => hk) trivial HB.out HB.out.size (by simp) ?_; (case hd => rfl); (case hg => rfl); (case hr => first | (go_simp; done) | (go_simp; rfl)); (case hp => exact (Reps.none _ _)); intro v5 w4 ho5 hb hg_ hnew_; replace HB := Aside0.mk hb; have HO := Aside0.mk ho5; clear hg_ hnew_ ho5 hb) | ((with_reducible refine gate_dst (N := 7) rfl ?_); at_builtin; (refine Kd.R_append_row (Value.int .u8) (0 : Int) (h1 := fun _ => rfl) (w0 := w) w.heap.size rfl (.tmp 5) (.tmp 6) 29 5 (.int .u8 0) 1 (by rfl) Try.underlying29 info5 rfl (by decide) v5 [] xs (some ad) xs.length c (fun _ => True) (by rfl) (by rfl) (fun _ _ => trivial) HO.out (Kd.C_below HR0.out HB.out) HB.out HB.out.size (by have := HX.out; simp only [List.length_nil]; omega) ?_; intro v7 w7 ho hb hg_ hat_; have HO7 := Aside0.mk ho; have HB7 := Aside0.mk hb; clear ho hb hg_ hat_)))
 go_ret
 exact ⟨_, rfl, HO7.out, HB7.out⟩
set_option maxHeartbeats 8000000 in
set_option maxRecDepth 100000 in
/-- (*boxReader).fail. -/
theorem impl_fail.calls (g : Nat) (c0 c1 c2 c3 c4 : Value) (code fat : Int) (w : World) (hg : w.heap[g]? = some (.cells #[c0, c1, c2, c3, c4] 56 (0, 0))) :
  Calls Try.prog 61 #[.pointer (some ⟨g, 0, none⟩), .int .i64 code, .int .i64 fat] w fun e w' => e = .returned (.bool false) ∧ w'.heap[g]? = some (.cells #[c0, c1, c2, .int .i64 code, .int .i64 fat] 56 (0, 0)) ∧ (∀ i, i ≠ g → w'.heap[i]? = w.heap[i]?) ∧ (∀ (B : Nat) (W0 : World), B ≤ g → Below B W0 w → Below B W0 w') := by
 have HG := Aside0.mk hg
 clear hg
 go_enter Try.func61, Try.ntmps61
 go_wp2_with (first | ((with_reducible refine gate_ (.store 37 (.tmp 12) (.tmp 10)) rfl ?_); (refine put_blk_event rfl rfl rfl (g := g) (off := 3) (cur := #[c0, c1, c2, c3, c4]) (cur' := #[c0, c1, c2, .int .i64 code, .int .i64 fat]) (u := .agg #[.int .i64 code, .int .i64 fat]) (seg := [.int .i64 code, .int .i64 fat]) (by rfl) (by rfl) HG.out rfl (by kernel_rfl) (Nat.le_of_ble_eq_true rfl) (by intro q_ hq_; simp only [List.mem_cons, List.not_mem_nil, or_false] at hq_; rcases hq_ with rfl | rfl <;> rfl) (by rfl) ?_); intro w1 h1 h2 h3; have H1 := Aside0.mk h1; have H2 := Aside0.mk h2; have H3 := Aside0.mk h3; clear h1 h2 h3))
 go_ret
 exact ⟨rfl, H1.out, H2.out, H3.out⟩
theorem bytes_at {w0 w : World} {A : Option Addr} {bs : List Int} (h : Kd.C (Kd.int .u8) w0 A bs.length bs) (hb : Below w0.heap.size w0 w) (h0 : 0 < bs.length) : ∃ ad, A = some ad ∧ ∀ j : Nat, j < bs.length → w.cell? (ad.add j) = some (.int .u8 (rd bs (j : Int))) := by
 obtain ⟨ad, e, _⟩ := Kd.at_int h 0 (by omega) (by omega)
 refine ⟨ad, e, fun j hj => ?_⟩
 obtain ⟨ad2, e2, hc⟩ := Kd.at_int h (j : Int) (by omega) (by omega)
 rw [e] at e2
 obtain rfl := Option.some.inj e2
 rw [Int.toNat_natCast] at hc
 exact pw_cell_below hb hc
theorem rd_byte {bs : List Int} (h : ∀ x ∈ bs, 0 ≤ x ∧ x ≤ 255) (j : Nat) (hj : j < bs.length) : 0 ≤ rd bs (j : Int) ∧ rd bs (j : Int) ≤ 255 := by
 have e : rd bs (j : Int) = bs[j] := by
  unfold rd
  rw [List.getD_eq_getElem?_getD, Int.toNat_natCast, List.getElem?_eq_getElem hj]
  rfl
 rw [e]
 exact h _ (List.getElem_mem hj)
/-- What a reader's state holds (type t) behind a reading. -/
def RdSt (t : Nat) (w0 : World) (g : Nat) (Ab : Option Addr) (n cb : Nat) (r : List S46 × Int × Int × Int) (w' : World) : Prop :=
 ∃ vo' : Value, w'.heap[g]? = some (.cells #[.slice Ab n cb, vo', .int .i64 r.2.1, .int .i64 r.2.2.1, .int .i64 r.2.2.2] t (0, 0)) ∧ Kd.S k46 46 w' w0.heap.size (fun k_ => k_ ≠ g) vo' r.1 ∧ Below w0.heap.size w0 w'
def RdEnd (w0 : World) (g : Nat) (Ab : Option Addr) (n cb : Nat) (r : List S46 × Int × Int × Int) (e : Ending) (w' : World) : Prop := (∃ v : Value, e = .returned v) ∧ RdSt 53 w0 g Ab n cb r w'
def RdEndB (w0 : World) (g : Nat) (Ab : Option Addr) (n cb : Nat) (r : List S46 × Int × Int × Int) (e : Ending) (w' : World) : Prop := e = .returned (.bool (decide (r.2.2.1 = 0))) ∧ RdSt 56 w0 g Ab n cb r w'
theorem add_zero_ (a : Addr) : a.add 0 = a := by
 unfold Addr.add
 simp
theorem add_pos_ (a : Addr) (j : Nat) (hj : j ≠ 0) : a.add j = ⟨a.block, a.off + j, none⟩ := by
 unfold Addr.add
 simp [hj]
theorem add_add_ (a : Addr) (i j : Nat) : (a.add i).add j = a.add (i + j) := by
 obtain ⟨b, o, p⟩ := a
 unfold Addr.add
 by_cases hi : i = 0
 ·subst hi
  simp
 ·by_cases hj : j = 0
  ·subst hj
   simp [hi]
  ·simp [hi, hj, Nat.add_assoc]
theorem i64_or_small (a b : Nat) (ha : a < 4611686018427387904) (hb : b < 4611686018427387904) : Go.bits .or .i64 (a : Int) (b : Int) = ((a ||| b : Nat) : Int) := by
 have hx : a ||| b < 2 ^ 62 := Nat.or_lt_two_pow (by omega) (by omega)
 show IntKind.i64.wrap ((BitVec.ofInt 64 (a : Int) ||| BitVec.ofInt 64 (b : Int)).toNat : Int) = _
 rw [BitVec.toNat_or, ofInt_u64 a (by omega), ofInt_u64 b (by omega), i64_w]
 unfold wrap64
 omega
/-- A number whose low bits are free takes these by 'or'. -/
theorem or_low (a b : Int) (k : Nat) (h0 : 0 ≤ a) (h1 : a * 2 ^ k < 4611686018427387904) (h2 : 0 ≤ b) (h3 : b < 2 ^ k) (h4 : b < 4611686018427387904) : Go.bits .or .i64 (a * 2 ^ k) b = a * 2 ^ k + b := by
 obtain ⟨A, rfl⟩ := Int.eq_ofNat_of_zero_le h0
 obtain ⟨B, rfl⟩ := Int.eq_ofNat_of_zero_le h2
 have e : ((A : Int) * 2 ^ k) = ((A <<< k : Nat) : Int) := by rw [Nat.shiftLeft_eq, Int.natCast_mul, Int.natCast_pow]; rfl
 rw [e] at h1 ⊢
 have hB : B < 2 ^ k := by
  have h5 : ((B : Nat) : Int) < ((2 ^ k : Nat) : Int) := by rw [Int.natCast_pow]; exact h3
  exact Int.ofNat_lt.1 h5
 rw [i64_or_small _ _ (by omega) (by omega), ← Nat.shiftLeft_add_eq_or_of_lt hB]
 rfl
theorem sizes_le_ {W w1 : World} {g : Nat} {o o1 : Obj} (h2 : ∀ i, i ≠ g → w1.heap[i]? = W.heap[i]?) (h : W.heap[g]? = some o) (h1 : w1.heap[g]? = some o1) : W.heap.size ≤ w1.heap.size := by
 by_cases c : W.heap.size ≤ w1.heap.size
 ·exact c
 ·have hg := blk_lt h1
  have h3 := h2 w1.heap.size (by omega)
  rw [Array.getElem?_eq_none (Nat.le_refl _)] at h3
  rw [Array.getElem?_eq_getElem (by omega)] at h3
  simp at h3
theorem rd_carry {P : Program} {c : Code} {Q : Exit → Act → World → Prop} {a : Act} {W : World} {S : World → Prop} (h : S W) (k : ∀ W', S W' → Code.wp P c Q a W') : Code.wp P c Q a W := k W h
section
open Go.Proofs.YtpennfkjfeipcaaW.PrintLast
variable {P : Program} {ops : Array Oper} {Q : Exit → Act → World → Prop} {md : Region.Mode} {S : World → Prop} {ds : List Nat}
/-- Two may come up, the second of those behind which nothing is shown. -/
theorem two_l {i j : Nat} {Ni Nj : Option Tmp} {oi oj : Oper} {fuel : Nat} {l : Array Bool} {a : Act} {w : World} (li lj : Array Bool) (hi : ops[i]? = some oi) (hj : ops[j]? = some oj) (hNi : oi.dst = Ni) (hNj : oj.dst = Nj)
  (hc : (Region.ready md ops l == [i, j] && l.setIfInBounds i true == li && l.setIfInBounds j true == lj) = true) (hdi : i ∉ ds) (hdj : j ∈ ds)
  (h1 : ∀ K : Act → World → Prop, Shut (∀ a' w', S w' → (S w' → wpAnyLast P md ops Q S ds fuel li a' w') → K a' w') → if Region.wanted oi (yielded ops a.tmps) = true then Oper.wp P oi a w K Q else K (a.put Ni undef) w)
  (h2 : ∀ K : Act → World → Prop, Shut (∀ a' w', wpAnyLast P md ops Q S ds fuel lj a' w' → K a' w') → if Region.wanted oj (yielded ops a.tmps) = true then Oper.wp P oj a w K Q else K (a.put Nj undef) w) :
  wpAnyLast P md ops Q S ds (fuel + 1) l a w := by
 subst hNi
 subst hNj
 simp only [Bool.and_eq_true, beq_iff_eq] at hc
 obtain ⟨⟨h3, h4⟩, h5⟩ := hc
 subst h4
 subst h5
 exact wpAnyLast_ready h3 (by simp) (AllReadyL.cons hi hdi (fun K hK => h1 K hK) (AllReadyL.cons_last hj hdj (fun K hK => h2 K hK) AllReadyL.nil))
/-- One alone may come up, and what is told ahead of it no longer holds: nothing is shown behind it. -/
theorem one_n {i : Nat} {N : Option Tmp} {oi : Oper} {fuel : Nat} {l : Array Bool} {a : Act} {w : World} (l' : Array Bool) (hi : ops[i]? = some oi) (hN : oi.dst = N) (hc : readyB md ops l l' i = true) (hn : ¬ S w)
  (h : ∀ K : Act → World → Prop, Shut (∀ a' w', wpAnyLast P md ops Q S ds fuel l' a' w' → K a' w') → if Region.wanted oi (yielded ops a.tmps) = true then Oper.wp P oi a w K Q else K (a.put N undef) w) :
  wpAnyLast P md ops Q S ds (fuel + 1) l a w := by
 subst hN
 simp only [readyB, Bool.and_eq_true, beq_iff_eq] at hc
 obtain ⟨h1, h2⟩ := hc
 subst h2
 refine wpAnyLast_ready h1 (by simp) (fun j hj => ?_)
 rcases List.mem_cons.1 hj with rfl | hj
 ·exact wpOp_step hi (fun K' hK => h K' (fun a w hW => hK a w ⟨fun _ hs => absurd hs hn, hW⟩))
 ·cases hj
end
def bytesOk (l : List Int) : Bool := l.all fun x => decide (0 ≤ x ∧ x ≤ 255)
theorem bytesOk_all {l : List Int} (h : bytesOk l = true) : ∀ x ∈ l, 0 ≤ x ∧ x ≤ 255 := fun x hx => by
 have := List.all_eq_true.1 h x hx
 exact of_decide_eq_true this
/-- A whole film, read from its bytes. -/
def rdTop (k : Nat) (l0 : List Int) : Option (List S46 × Int × Int × Int) := if l0.length ≤ 1000000 then (if bytesOk l0 = true then rdr k l0 [] 0 0 l0.length 0 else none) else none
theorem rdTop.mono (l0 : List Int) (k : Nat) : LeO (rdTop k l0) (rdTop (k + 1) l0) := by
 unfold rdTop
 exact LeO.ite (LeO.ite (rdr.mono k l0 [] 0 0 l0.length 0) (LeO.none _)) (LeO.none _)
theorem rdTop_open {k : Nat} {l0 : List Int} {r : List S46 × Int × Int × Int} (h : rdTop k l0 = some r) : l0.length ≤ 1000000 ∧ (∀ x ∈ l0, 0 ≤ x ∧ x ≤ 255) ∧ rdr k l0 [] 0 0 l0.length 0 = some r := by
 unfold rdTop at h
 by_cases c1 : l0.length ≤ 1000000
 ·rw [if_pos c1] at h
  by_cases c2 : bytesOk l0 = true
  ·rw [if_pos c2] at h
   exact ⟨c1, bytesOk_all c2, h⟩
  ·rw [if_neg c2] at h
   exact absurd h (by simp)
 ·rw [if_neg c1] at h
  exact absurd h (by simp)
theorem rows_C {W : World} {g : Nat} {vs : List Value} {ls : List (List Int)} (hb : W.heap[g]? = some (.cells vs.toArray 29 (0, 0))) (hm : ls.length ≤ 9223372036854775807)
  (h : ∀ (j : Nat) (l : List Int), ls[j]? = some l → ∃ A c, vs[j]? = some (Value.slice A l.length c) ∧ l.length ≤ c ∧ Kd.C (Kd.int .u8) W A l.length l) : Kd.C (Kd.slice 5 (Kd.int .u8)) W (some ⟨g, 0, none⟩) ls.length ls := by
 refine ⟨rfl, hm, fun _ => ⟨⟨g, 0, none⟩, rfl, fun j l hl => ?_⟩⟩
 obtain ⟨A, c, h1, h2, h3⟩ := h j l hl
 refine ⟨[.slice A l.length c], rfl, ⟨A, c, rfl, h2, h3⟩, fun i u hu => ?_⟩
 cases i with
 | zero =>
  obtain rfl : Value.slice A l.length c = u := by simpa using hu
  have e : (Addr.add ⟨g, 0, none⟩ (j * (Kd.slice 5 (Kd.int .u8)).sz + 0)) = ⟨g, j, none⟩ := by
   show Addr.add ⟨g, 0, none⟩ (j * 1 + 0) = _
   rw [Nat.mul_one, Nat.add_zero]
   exact add_plain g j
  rw [e]
  have h4 := blk_cell hb j
  rw [h4]
  simpa using h1
 | succ i => simp at hu
theorem bytes_C (W : World) (e : TypeId) (s : ByteArray) (hs : s.size ≤ 9223372036854775807) : Kd.C (Kd.int .u8) (Lib.bytesWorld W e s) (some ⟨W.heap.size, 0, none⟩) s.size (bytesOf s) := by
 obtain ⟨h1, h2, h3⟩ := bytes_reads W e s hs
 refine ⟨h1, h2, fun h0 => ?_⟩
 obtain ⟨ad, h4, h5⟩ := h3 h0
 refine ⟨ad, h4, fun j p hp => ⟨[.int .u8 p], rfl, rfl, fun i u hu => ?_⟩⟩
 cases i with
 | zero =>
  obtain rfl : Value.int .u8 p = u := by simpa using hu
  have hj : j < s.size := by rw [← h1]; exact (List.getElem?_eq_some_iff.1 hp).1
  have h6 := h5 j hj
  rw [List.getD_eq_getElem?_getD, hp] at h6
  have e : j * (Kd.int IntKind.u8).sz + 0 = j := by show j * 1 + 0 = j; omega
  rw [e]
  exact h6
 | succ i => simp at hu
section
variable {P : Program} {Q : Exit → Act → World → Prop} {ops : Array Oper} {o : Oper} {a : Act} {Kc : Act → World → Prop}
/-- A literal of values, in a region. -/
theorem lit_step {W : World} (hw : Region.wanted o (yielded ops a.tmps) = true) {N : Tmp} (_hd : o.dst = some N) {vs : List Value} {n : Nat} {e : TypeId}
  (hrun : (execOp a.eval o).run P W = .ok (.value (.slice (some ⟨W.heap.size, 0, none⟩) n n)) (W.alloc (.cells vs.toArray e)))
  (h : ∀ g w1, w1.heap[g]? = some (.cells vs.toArray e (0, 0)) → Below W.heap.size W w1 → Kc (a.put o.dst (.slice (some ⟨g, 0, none⟩) n n)) w1) : if Region.wanted o (yielded ops a.tmps) = true then Oper.wp P o a W Kc Q else Kc (a.put o.dst undef) W :=
 event_step hw hrun (h _ _ (blk_new W _) (below_alloc (Below.refl _ _) _))
end
theorem append_str_at {P : Program} {w : World} (base : Nat) (t u ty e : TypeId) (i : TypeInfo) (ht : P.underlying t = some (.slice e)) (hu : P.underlying u = some .string) (hi : P.info? e = some i) (hz : i.zero = some (.int .u8 0))
  (hsize : i.size = 1) (hby : i.bytes = 1)
  (v : Value) (n : Nat) (xs : List Value) (hown : w.ownsRow base e 1 v n xs) (s : ByteArray)
  (hbytes : n + s.size ≤ 140737488355328) (v' : Value) (w' : World) (hr : (Builtin.append_ #[t, u] ty #[v, .string s]).run P w = .ok v' w') :
  v'.ownBlock = v.ownBlock ∨ ∃ b, v'.ownBlock = some b ∧ w.heap.size ≤ b := by
 have hxl : xs.length = n := by simpa using hown.1
 rcases hown.2 with ⟨rfl, rfl⟩ | ⟨g, cap, cur, rfl, hbg, hg, hnc, hcm, hcs, htake⟩
 ·by_cases hm : s.size = 0
  ·have hf := Lib.run_firstCells_string (P := P) (w := w) 1 s
   rw [hm] at hf
   have h2 : (Builtin.append_ #[t, u] ty #[.slice none 0 0, .string s]).run P w = .ok (.slice none 0 0) w := by
    simp [Builtin.append_, run_underlying ht, run_underlying hu, sizeOf, typeInfo, hi, hsize, Builtin.lenOf, hm, hf]
   rw [h2] at hr
   injection hr with h3 h4
   subst h3
   exact .inl rfl
  ·have h2 := run_append_nil_string (P := P) w t u ty e i (.int .u8 0) ht hu hi hz s (by omega) (by omega) (by rw [hby]; omega)
   rw [h2] at hr
   injection hr with h3 h4
   subst h3
   exact .inr ⟨w.heap.size, rfl, Nat.le_refl _⟩
 ·by_cases hroom : n + s.size ≤ cap
  ·have hcs' : cur.size = cap := by simpa using hcs
   have h2 := Lib.run_append_room_string (P := P) (w := w) t u ty e i ht hu hi hsize g n cap cur hg s hroom (by omega)
   rw [h2] at hr
   injection hr with h3 h4
   subst h3
   exact .inl rfl
  ·have holds : ∀ j u, xs[j]? = some u → w.cell? ((⟨g, 0, none⟩ : Addr).add j) = some u := hown.cells (g := g) rfl
   have h2 := Lib.run_append_grow_string (P := P) (w := w) t u ty e i (.int .u8 0) ht hu hi hz ⟨g, 0, none⟩ n cap xs (by rw [hsize]; simpa using hxl) holds s (by omega) (by omega) (by rw [hby]; exact growslice_fits (by omega) (by omega))
   rw [h2] at hr
   injection hr with h3 h4
   subst h3
   exact .inr ⟨w.heap.size, rfl, Nat.le_refl _⟩
section
variable {P : Program} {ops : Array Oper} {rest : List Oper} {o : Oper} {a : Act} {Q : Exit → Act → World → Prop}
/-- append([]byte, s...), s a string, and where the new row lies. -/
theorem R_append_str {w0 W : World} (base : Nat) (hgd : o.guard = none) (s x : Operand) (t u e : TypeId)
  (ho : o.op = .call { callee := .builtin .append, args := #[s, x], argTypes := #[t, u] })
  (ht : P.underlying t = some (.slice e)) (hu : P.underlying u = some .string) (hinfo : (P.info? e).map (fun i => (i.zero, i.size, i.bytes)) = some (some (.int .u8 0), 1, 1))
  (v : Value) (xs : List Int) (y : ByteArray) (hs : a.eval s = v) (hx : a.eval x = .string y) (ok : Nat → Prop) (hfresh : ∀ k, W.heap.size ≤ k → ok k)
  (HO : (Kd.int .u8).R e W base ok v xs) (HB : Below base w0 W) (hbase : base ≤ W.heap.size) (hl : xs.length + y.size ≤ 140737488355328)
  (h : ∀ v1 w1, (Kd.int .u8).R e w1 base ok v1 (xs ++ bytesOf y) → Below base w0 w1 → W.grownBy w1 v.ownBlock → (v1.ownBlock = v.ownBlock ∨ ∃ b, v1.ownBlock = some b ∧ W.heap.size ≤ b) → wpList P ops Q rest (a.put o.dst v1) w1) :
  wpList P ops Q (o :: rest) a W := by
 obtain ⟨i0, hi, hzz⟩ := Option.map_eq_some_iff.1 hinfo
 simp only [Prod.mk.injEq] at hzz
 obtain ⟨hz0, hz1, hz2⟩ := hzz
 have hown := Kd.own_of_R HO
 refine wpList_plain hgd fun K hK => ?_
 obtain ⟨v1, w1, hr, h2, h3, _⟩ := Lib.run_append_own_string (P := P) (w := W) base t u o.type e i0 ht hu hi hz0 hz1 hz2 v _ _ hown y (by simp only [maxLen]; omega) hl hbase
 have hat := append_str_at (P := P) (w := W) base t u o.type e i0 ht hu hi hz0 hz1 hz2 v _ _ hown y hl v1 w1 hr
 unfold Oper.wp execOp
 simp only [ho, resolve, invoke, builtin, Sem.run_bind, Sem.run_pure, Result.andThen_ok, List.map_toArray, List.map_cons, List.map_nil, hs, hx, hr]
 refine hK _ _ (h v1 w1 (Kd.R_of_own ?_ (fun k hk => ?_)) (HB.grown h3 hbase (own_base hown)) h3 hat)
 ·have hl2 : (xs ++ bytesOf y).length = xs.length + y.size := by rw [List.length_append, bytesOf_length]
  rw [hl2]
  have hc : nums .u8 (xs ++ bytesOf y) = nums .u8 xs ++ Lib.strCells y := by
   rw [nums_append]
   congr 1
   simp [nums, bytesOf, Lib.strCells]
  have hc2 : encs (Value.int .u8) (xs ++ bytesOf y) = encs (Value.int .u8) xs ++ Lib.strCells y := hc
  first | (rw [hc2]; exact h2) | (rw [hc]; exact h2)
 ·rcases hat with e1 | ⟨b, e1, hbb⟩
  ·exact HO.1 k (by rw [← e1]; exact hk)
  ·rw [e1] at hk
   injection hk with hk
   subst hk
   exact hfresh _ hbb
end
/-- Another row is written: what lies apart from it stays, and lies apart from the new one. -/
theorem apart_next {α : Type} {d : Kd α} {e : Nat} {W w1 : World} {base : Nat} {v1 vo vb : Value} {xs : List α} (hB : d.R e W base (fun k => some k ≠ vo.ownBlock) vb xs) (hg : W.grownBy w1 vo.ownBlock)
  (hat : v1.ownBlock = vo.ownBlock ∨ ∃ b, v1.ownBlock = some b ∧ W.heap.size ≤ b) : d.R e w1 base (fun k => some k ≠ v1.ownBlock) vb xs := by
 have h1 : d.R e W base (fun k => some k ≠ vo.ownBlock ∧ some k ≠ v1.ownBlock) vb xs := Kd.R_mono (Kd.R_bound hB) (fun k hk => ⟨hk.1, fun he => by
  rcases hat with h2 | ⟨b, h2, h3⟩
  ·exact hk.1 (he.trans h2)
  ·rw [h2] at he
   injection he with he
   have := hk.2.2.1
   omega⟩)
 exact Kd.R_mono (Kd.R_grown h1 hg (fun k hk => hk.1)) (fun k hk => hk.2)
theorem apart_swap {e : Nat} {W : World} {base : Nat} {ok : Nat → Prop} {vo vb : Value} {xs ys : List Int} (ho : (Kd.int .u8).R e W base (fun k => some k ≠ vb.ownBlock) vo xs) (hb : (Kd.int .u8).R e W base ok vb ys) :
  (Kd.int .u8).R e W base (fun k => some k ≠ vo.ownBlock) vb ys := Kd.R_of_own (Kd.own_of_R hb) (fun k hk he => ho.1 k he.symm hk.symm)
def four (a0 : Int) : List Int := [(a0 / 16777216) % 256, (a0 / 65536) % 256, (a0 / 256) % 256, a0 % 256]
/-- The place behind a box and all that is in it. -/
def endp : Nat → List (S46) → Int → Int → Option (Int)
 | 0, _, _, _ => none
 | k + 1, x0, x1, x5 => if x5 < (x0.length : Int) then (if 0 ≤ x5 then (if 0 ≤ x1 then (if x1 < (x0.length : Int) then (if ((rd_T46 x0 x5).f1) > ((rd_T46 x0 x1).f1) then (endp k x0 x1 (wrap64 (x5 + 1))) else (some x5)) else (none)) else (none)) else (none)) else (some x5)
/-- What showBoxes puts together: the bytes from a place on. -/
def shw : Nat → List S46 → List Int → Nat → Option (List Int)
 | 0, _, _, _ => none
 | k + 1, x0, out, at_ => if at_ < x0.length then ((endp k x0 (at_ : Int) (wrap64 ((at_ : Int) + 1))).bind fun e => (if (at_ : Int) + 1 ≤ e ∧ e ≤ (x0.length : Int) then ((shw k ((x0.take e.toNat).drop (at_ + 1)) [] 0).bind fun sub => (if out.length + (rd_T46 x0 (at_ : Int)).f0.size + ((rd_T46 x0 (at_ : Int)).f2 ++ sub).length + 8 ≤ 1000000 then (shw k x0 (out ++ (four (8 + ((((rd_T46 x0 (at_ : Int)).f2 ++ sub).length : Nat) : Int)) ++ (bytesOf (rd_T46 x0 (at_ : Int)).f0 ++ ((rd_T46 x0 (at_ : Int)).f2 ++ sub)))) e.toNat) else none)) else none)) else some out
theorem endp.mono : ∀ k l a x, LeO (endp k l a x) (endp (k + 1) l a x)
 | 0 => fun _ _ _ r h => by simp [endp] at h
 | k + 1 => by
  have ih := endp.mono k
  intro l a x
  unfold endp
  repeat' first
   | (with_reducible exact ih _ _ _)
   | (with_reducible exact LeO.refl _)
   | (with_reducible exact LeO.none _)
   | (with_reducible refine LeO.ite ?_ ?_)
theorem shw.mono : ∀ k l out p, LeO (shw k l out p) (shw (k + 1) l out p)
 | 0 => fun _ _ _ r h => by simp [shw] at h
 | k + 1 => by
  have ih := shw.mono k
  intro l out p
  unfold shw
  repeat' first
   | (with_reducible exact ih _ _ _)
   | (with_reducible exact endp.mono _ _ _ _)
   | (with_reducible exact LeO.refl _)
   | (with_reducible exact LeO.none _)
   | (with_reducible refine LeO.ite ?_ ?_)
   | (with_reducible refine LeO.bind ?_ (fun _ => ?_))
theorem wp_carry {P : Program} {c : Code} {Q : Exit → Act → World → Prop} {a : Act} {W : World} {S : World → Prop} (h : S W) (k : ∀ W', S W' → Code.wp P c Q a W') : Code.wp P c Q a W := k W h


/-! ### impl_in: function 50 -/
def impl_in.f (a0 : Int) (a1 : Int) (a2 : Int) : Option (Bool) := if a1 ≤ a0 then (some (decide (a0 ≤ a2))) else (some false)
set_option maxHeartbeats 8000000 in
set_option maxRecDepth 100000 in
theorem impl_in.calls (a0 : Int) (a1 : Int) (a2 : Int) (r : Bool) (w : World) (h : impl_in.f a0 a1 a2 = some r) :
  Calls Try.prog 50 #[.int .i64 a0, .int .i64 a1, .int .i64 a2] w fun e w' => e = .returned (.bool r) ∧ Drawn0 w w' := by
 have H : (if a1 ≤ a0 then (some (decide (a0 ≤ a2))) else (some false)) = some r := h
 clear h
 by_cases c4 : a1 ≤ a0
 ·rw [if_pos c4] at H
  have c4b0 : decide (a1 ≤ a0) = true := decide_eq_true c4
  clear c4
  obtain rfl := Option.some.inj H
  go_enter Try.func50, Try.ntmps50
  go_wp2
  go_ret
  exact ⟨by first | rfl | (simp; done) | (simp [*]; done), by repeat (first | exact Drawn0.refl _ | apply Drawn0.step)⟩
 ·rw [if_neg c4] at H
  have c4b0 : decide (a1 ≤ a0) = false := decide_eq_false c4
  clear c4
  obtain rfl := Option.some.inj H
  go_enter Try.func50, Try.ntmps50
  go_wp2
  go_ret
  exact ⟨by first | rfl | (simp; done) | (simp [*]; done), by repeat (first | exact Drawn0.refl _ | apply Drawn0.step)⟩

end Go.Proofs.Ytpennfkjfeipcaa.PFnBoxesOne
