/- The functions that the law reaches, as Lean functions, each with the proof that the Go code comes to just these answers. Written by a program of this session (wip/tools/handprint.py over the kit's print); by hand where the print takes no such text. -/
import Derived.Test.YtpennfkjfeipcaaPFnExactReadBoxesx0
import Derived.Test.YtpennfkjfeipcaaPFnExactReadBoxesx1
namespace Go.Proofs.Ytpennfkjfeipcaa.PFnExactReadBoxes
open Go.RowKit Go.Proofs.YtpennfkjfeipcaaW.PrintWords Go.Proofs.YtpennfkjfeipcaaW.PrintLast Go.Proofs.YtpennfkjfeipcaaW.PrintMore
attribute [local go_sem] max2_int min2_int max_two min_two max_three min_three max_four min_four   -- for this text's walks alone
set_option linter.unusedVariables false
set_option linter.unusedSimpArgs false

/-! ### spec_l2Read: function 39 -/
-- roots loop.example/g00066/spec.l2Kind loop.example/g00066/spec.l2Holds loop.example/g00066/impl.kindOk loop.example/g00066/impl.isLetter loop.example/g00066/impl.isDigit (loop.example/g00066/impl.Box).holds
/-- A letter or a digit. -/
def R_Good (c : Int) : Prop := (48 ≤ c ∧ c ≤ 57) ∨ (65 ≤ c ∧ c ≤ 90) ∨ (97 ≤ c ∧ c ≤ 122)

instance instR_Good (c : Int) : Decidable (R_Good c) := by unfold R_Good; infer_instance

theorem r_spec_char (c : Int) (n : Option Bool) : (if c < 48 then (if c < 97 then (if c < 65 then (some false) else (if c > 90 then (some false) else n)) else (if c > 122 then (if c < 65 then (some false) else (if c > 90 then (some false) else n)) else n)) else (if c > 57 then (if c < 97 then (if c < 65 then (some false) else (if c > 90 then (some false) else n)) else (if c > 122 then (if c < 65 then (some false) else (if c > 90 then (some false) else n)) else n)) else n)) = if R_Good c then n else some false := by
  by_cases g : R_Good c
  · rw [if_pos g]
    unfold R_Good at g
    repeat' split
    all_goals first | rfl | omega
  · rw [if_neg g]
    unfold R_Good at g
    repeat' split
    all_goals first | rfl | omega

theorem r_impl_char (c : Int) (n : Option Bool) : ((impl_isLetter.f c).bind fun t135 => (if t135 = true then n else ((impl_isDigit.f c).bind fun t136 => (if t136 = true then n else (some false))))) = if R_Good c then n else some false := by
  have h1 : impl_isLetter.f c = some (decide ((97 ≤ c ∧ c ≤ 122) ∨ (65 ≤ c ∧ c ≤ 90))) := by
    unfold impl_isLetter.f
    repeat' split
    all_goals (congr 1; first | (symm; apply decide_eq_true; omega) | (symm; apply decide_eq_false; omega) | (apply decide_eq_decide.2; omega))
  have h2 : impl_isDigit.f c = some (decide (48 ≤ c ∧ c ≤ 57)) := by
    unfold impl_isDigit.f
    repeat' split
    all_goals (congr 1; first | (symm; apply decide_eq_true; omega) | (symm; apply decide_eq_false; omega) | (apply decide_eq_decide.2; omega))
  rw [h1, h2]
  simp only [Option.bind_some, decide_eq_true_eq]
  by_cases g1 : (97 ≤ c ∧ c ≤ 122) ∨ (65 ≤ c ∧ c ≤ 90)
  · rw [if_pos g1, if_pos (by unfold R_Good; omega)]
  · rw [if_neg g1]
    by_cases g2 : 48 ≤ c ∧ c ≤ 57
    · rw [if_pos g2, if_pos (by unfold R_Good; omega)]
    · rw [if_neg g2, if_neg (by unfold R_Good; omega)]

theorem r_kind_l (s : ByteArray) (hs : (s.size : Int) = 4) : ∀ (d k k' : Nat) (i : Int), 0 ≤ i → i ≤ 4 → 4 - i = d → d < k → d < k' → ∃ r, spec_l2Kind.l0 k s i = some r ∧ impl_kindOk.l0 k' s 4 i = some r ∧ (r = true → ∀ j : Int, i ≤ j → j < 4 → R_Good (bt s j)) := by
  intro d
  induction d with
  | zero =>
    intro k k' i h0 h1 hd hk hk'
    obtain ⟨k, rfl⟩ : ∃ m, k = m + 1 := ⟨k - 1, by omega⟩
    obtain ⟨k', rfl⟩ : ∃ m, k' = m + 1 := ⟨k' - 1, by omega⟩
    refine ⟨true, ?_, ?_, fun _ j h2 h3 => by omega⟩
    · simp only [spec_l2Kind.l0]; rw [if_neg (by omega)]
    · simp only [impl_kindOk.l0]; rw [if_neg (by omega)]
  | succ d ih =>
    intro k k' i h0 h1 hd hk hk'
    obtain ⟨k, rfl⟩ : ∃ m, k = m + 1 := ⟨k - 1, by omega⟩
    obtain ⟨k', rfl⟩ : ∃ m, k' = m + 1 := ⟨k' - 1, by omega⟩
    have wi : wrap64 (i + 1) = i + 1 := by unfold wrap64; omega
    obtain ⟨r, a, b, hg⟩ := ih k k' (i + 1) (by omega) (by omega) (by omega) (by omega) (by omega)
    have hS : spec_l2Kind.l0 (k + 1) s i = if R_Good (bt s i) then spec_l2Kind.l0 k s (i + 1) else some false := by
      simp only [spec_l2Kind.l0]
      rw [if_pos (by omega), if_pos h0, if_pos (by omega), r_spec_char, wi]
    have hI : impl_kindOk.l0 (k' + 1) s 4 i = if R_Good (bt s i) then impl_kindOk.l0 k' s 4 (i + 1) else some false := by
      simp only [impl_kindOk.l0]
      rw [if_pos (by omega), if_pos h0, if_pos (by omega), r_impl_char, wi]
    rw [hS, hI, a, b]
    by_cases g : R_Good (bt s i)
    · rw [if_pos g]
      refine ⟨r, rfl, rfl, fun h j h2 h3 => ?_⟩
      by_cases e : j = i
      · rw [e]; exact g
      · exact hg h j (by omega) h3
    · rw [if_neg g]; exact ⟨false, rfl, rfl, fun h => by simp at h⟩

theorem r_kind_eq (s : ByteArray) : ∃ r, (r = true → s.size = 4 ∧ ∀ j : Int, 0 ≤ j → j < 4 → R_Good (bt s j)) ∧ ∀ k, 6 ≤ k → spec_l2Kind.f k s = some r ∧ impl_kindOk.f k s = some r := by
  by_cases c : (s.size : Int) = 4
  · obtain ⟨r, a, b, hg⟩ := r_kind_l s c 4 5 5 0 (by omega) (by omega) (by omega) (by omega) (by omega)
    refine ⟨r, fun h => ⟨by omega, fun j h2 h3 => hg h j h2 h3⟩, fun k hk => ?_⟩
    obtain ⟨r1, a1, b1, _⟩ := r_kind_l s c 4 k 5 0 (by omega) (by omega) (by omega) (by omega) (by omega)
    obtain ⟨r2, a2, b2, _⟩ := r_kind_l s c 4 5 k 0 (by omega) (by omega) (by omega) (by omega) (by omega)
    unfold spec_l2Kind.f impl_kindOk.f
    rw [if_pos c, if_pos c, c]
    obtain rfl := Option.some.inj (b1.symm.trans b)
    obtain rfl := Option.some.inj (a2.symm.trans a)
    exact ⟨a1, b2⟩
  · refine ⟨false, fun h => by simp at h, fun k hk => ?_⟩
    unfold spec_l2Kind.f impl_kindOk.f
    rw [if_neg c, if_neg c]
    exact ⟨rfl, rfl⟩

def r_hold (s : ByteArray) : Bool := decide (65 ≤ bt s 0 ∧ bt s 0 ≤ 90)

theorem r_hold_i (s : ByteArray) (d : Int) (l : List Int) (h : s.size = 4) : impl_Box_holds.f s d l = some (r_hold s) := by
  unfold impl_Box_holds.f r_hold
  rw [if_pos (by omega)]
  by_cases c : 65 ≤ bt s 0
  · rw [if_pos c]; simp [c]
  · rw [if_neg c]; simp [c]

theorem r_hold_s (s : ByteArray) (h : s.size = 4) : spec_l2Holds.f s = some (r_hold s) := r_hold_i s 0 [] h


/-- Whether four bytes are a kind. -/
def kindB (s : ByteArray) : Bool := (spec_l2Kind.f 6 s).getD false
theorem kindB_eq (s : ByteArray) (k : Nat) (hk : 6 ≤ k) : spec_l2Kind.f k s = some (kindB s) ∧ impl_kindOk.f k s = some (kindB s) := by
  obtain ⟨r, _, h⟩ := r_kind_eq s
  have e : kindB s = r := by unfold kindB; rw [(h 6 (Nat.le_refl _)).1]; rfl
  rw [e]
  exact h k hk
theorem kindB_good (s : ByteArray) (h : kindB s = true) : s.size = 4 ∧ ∀ j : Int, 0 ≤ j → j < 4 → R_Good (bt s j) := by
  obtain ⟨r, h1, h2⟩ := r_kind_eq s
  have e : kindB s = r := by unfold kindB; rw [(h2 6 (Nat.le_refl _)).1]; rfl
  exact h1 (by rw [← e]; exact h)
/-- The kind that lies at a place of the bytes, and the size. -/
def kd4 (bs : List Int) (p : Nat) : ByteArray := strOfNums ((bs.take (p + 8)).drop (p + 4))
def sz4 (bs : List Int) (p : Nat) : Int := rd bs (p : Int) * 16777216 + rd bs ((p + 1 : Nat) : Int) * 65536 + rd bs ((p + 2 : Nat) : Int) * 256 + rd bs ((p + 3 : Nat) : Int)
/-- What is read: boxes, their bytes' number, the fault's code and place. -/
def rdr : Nat → List Int → List S46 → Int → Nat → Nat → Int → Option (List S46 × Int × Int × Int)
  | 0, _, _, _, _, _, _ => none
  | k + 1, bs, boxes, data, p, en, depth =>
    if p < en then
      if en < p + 8 then some (boxes, data, 2, (p : Int))
      else if sz4 bs p < 8 then some (boxes, data, 3, (p : Int))
      else if ((en - p : Nat) : Int) < sz4 bs p then some (boxes, data, 3, (p : Int))
      else if kindB (kd4 bs p) = true then
        if 8 < depth then some (boxes, data, 5, (p : Int))
        else if boxes.length = 200 then some (boxes, data, 6, (p : Int))
        else if r_hold (kd4 bs p) = true then
          (rdr k bs (boxes ++ [⟨kd4 bs p, depth, []⟩]) data (p + 8) (p + (sz4 bs p).toNat) (depth + 1)).bind fun s =>
            if s.2.2.1 = 0 then rdr k bs s.1 s.2.1 (p + (sz4 bs p).toNat) en depth else some s
        else if 20000 < data + (sz4 bs p - 8) then some (boxes, data, 6, (p : Int))
        else rdr k bs (boxes ++ [⟨kd4 bs p, depth, (bs.take (p + (sz4 bs p).toNat)).drop (p + 8)⟩]) (data + (sz4 bs p - 8)) (p + (sz4 bs p).toNat) en depth
      else some (boxes, data, 4, (p : Int))
    else some (boxes, data, 0, 0)
/-- What is read is never too much. -/
theorem rdr_bounds : ∀ (k : Nat) (bs : List Int) (boxes : List S46) (data : Int) (p en : Nat) (depth : Int) (r : List S46 × Int × Int × Int), rdr k bs boxes data p en depth = some r → boxes.length ≤ 200 → 0 ≤ data → data ≤ 20000 → r.1.length ≤ 200 ∧ 0 ≤ r.2.1 ∧ r.2.1 ≤ 20000 := by
  intro k
  induction k with
  | zero => intro bs boxes data p en depth r h; simp [rdr] at h
  | succ k ih =>
    intro bs boxes data p en depth r h h1 h2 h3
    simp only [rdr] at h
    have now : ∀ {c f : Int}, some (boxes, data, c, f) = some r → r.1.length ≤ 200 ∧ 0 ≤ r.2.1 ∧ r.2.1 ≤ 20000 := fun e => by
      obtain rfl := Option.some.inj e
      exact ⟨h1, h2, h3⟩
    by_cases c1 : p < en
    · rw [if_pos c1] at h
      by_cases c2 : en < p + 8
      · rw [if_pos c2] at h; exact now h
      rw [if_neg c2] at h
      by_cases c3 : sz4 bs p < 8
      · rw [if_pos c3] at h; exact now h
      rw [if_neg c3] at h
      by_cases c4 : ((en - p : Nat) : Int) < sz4 bs p
      · rw [if_pos c4] at h; exact now h
      rw [if_neg c4] at h
      by_cases c5 : kindB (kd4 bs p) = true
      · rw [if_pos c5] at h
        by_cases c6 : 8 < depth
        · rw [if_pos c6] at h; exact now h
        rw [if_neg c6] at h
        by_cases c7 : boxes.length = 200
        · rw [if_pos c7] at h; exact now h
        rw [if_neg c7] at h
        by_cases c8 : r_hold (kd4 bs p) = true
        · rw [if_pos c8] at h
          obtain ⟨s, hs, h⟩ := Option.bind_eq_some_iff.1 h
          have hb := ih _ _ _ _ _ _ s hs (by rw [List.length_append]; simp only [List.length_cons, List.length_nil]; omega) h2 h3
          by_cases c9 : s.2.2.1 = 0
          · rw [if_pos c9] at h
            exact ih _ _ _ _ _ _ r h hb.1 hb.2.1 hb.2.2
          · rw [if_neg c9] at h
            obtain rfl := Option.some.inj h
            exact hb
        · rw [if_neg c8] at h
          by_cases c9 : 20000 < data + (sz4 bs p - 8)
          · rw [if_pos c9] at h; exact now h
          rw [if_neg c9] at h
          exact ih _ _ _ _ _ _ r h (by rw [List.length_append]; simp only [List.length_cons, List.length_nil]; omega) (by omega) (by omega)
      · rw [if_neg c5] at h; exact now h
    · rw [if_neg c1] at h; exact now h
/-- Without a fault there is no place of one. -/
theorem rdr_code : ∀ (k : Nat) (bs : List Int) (boxes : List S46) (data : Int) (p en : Nat) (depth : Int) (r : List S46 × Int × Int × Int), rdr k bs boxes data p en depth = some r → r.2.2.1 = 0 → r.2.2.2 = 0 := by
  intro k
  induction k with
  | zero => intro bs boxes data p en depth r h; simp [rdr] at h
  | succ k ih =>
    intro bs boxes data p en depth r h h1
    simp only [rdr] at h
    have now : ∀ {c f : Int}, some (boxes, data, c, f) = some r → (c = 0 → f = 0) → r.2.2.2 = 0 := fun e hf => by
      obtain rfl := Option.some.inj e
      exact hf h1
    by_cases c1 : p < en
    · rw [if_pos c1] at h
      by_cases c2 : en < p + 8
      · rw [if_pos c2] at h; exact now h (by first | (intro hf; exact absurd hf (by decide)) | (intro _; rfl))
      rw [if_neg c2] at h
      by_cases c3 : sz4 bs p < 8
      · rw [if_pos c3] at h; exact now h (by first | (intro hf; exact absurd hf (by decide)) | (intro _; rfl))
      rw [if_neg c3] at h
      by_cases c4 : ((en - p : Nat) : Int) < sz4 bs p
      · rw [if_pos c4] at h; exact now h (by first | (intro hf; exact absurd hf (by decide)) | (intro _; rfl))
      rw [if_neg c4] at h
      by_cases c5 : kindB (kd4 bs p) = true
      · rw [if_pos c5] at h
        by_cases c6 : 8 < depth
        · rw [if_pos c6] at h; exact now h (by first | (intro hf; exact absurd hf (by decide)) | (intro _; rfl))
        rw [if_neg c6] at h
        by_cases c7 : boxes.length = 200
        · rw [if_pos c7] at h; exact now h (by first | (intro hf; exact absurd hf (by decide)) | (intro _; rfl))
        rw [if_neg c7] at h
        by_cases c8 : r_hold (kd4 bs p) = true
        · rw [if_pos c8] at h
          obtain ⟨s, hs, h⟩ := Option.bind_eq_some_iff.1 h
          by_cases c9 : s.2.2.1 = 0
          · rw [if_pos c9] at h
            exact ih _ _ _ _ _ _ r h h1
          · rw [if_neg c9] at h
            obtain rfl := Option.some.inj h
            exact absurd h1 c9
        · rw [if_neg c8] at h
          by_cases c9 : 20000 < data + (sz4 bs p - 8)
          · rw [if_pos c9] at h; exact now h (by first | (intro hf; exact absurd hf (by decide)) | (intro _; rfl))
          rw [if_neg c9] at h
          exact ih _ _ _ _ _ _ r h h1
      · rw [if_neg c5] at h; exact now h (by first | (intro hf; exact absurd hf (by decide)) | (intro _; rfl))
    · rw [if_neg c1] at h; exact now h (by first | (intro hf; exact absurd hf (by decide)) | (intro _; rfl))
theorem rdr.mono : ∀ (k : Nat) bs boxes data p en depth, LeO (rdr k bs boxes data p en depth) (rdr (k + 1) bs boxes data p en depth)
  | 0 => fun _ _ _ _ _ _ r h => by simp [rdr] at h
  | k + 1 => by
    have ih := rdr.mono k
    intro bs boxes data p en depth
    unfold rdr
    repeat' first
      | (with_reducible exact ih _ _ _ _ _ _)
      | (with_reducible exact LeO.refl _)
      | (with_reducible exact LeO.none _)
      | (with_reducible refine LeO.ite ?_ ?_)
      | (with_reducible refine LeO.bind ?_ (fun _ => ?_))
/-- A row of bytes as a string. -/
theorem conv_C {P : Program} {w : World} {src dst e : TypeId} (hs : P.underlying src = some (.slice e)) (he : P.underlying e = some (.int .u8)) (hd : P.underlying dst = some .string) {A : Option Addr} {n c : Nat} {xs : List Int} (h : Kd.C (Kd.int .u8) w A n xs) :
    (convert src dst (.slice A n c)).run P w = .ok (.string (strOfNums xs)) w := by
  obtain ⟨h1, h2, h3⟩ := h
  by_cases h0 : 0 < n
  · obtain ⟨ad, rfl, hc⟩ := h3 h0
    have hl : (loadCells ad n).run P w = .ok (xs.map (Value.int .u8)).toArray w := by
      have := run_loadCells_list (P := P) w ad (xs.map (Value.int .u8)) (fun j v hj => by
        rw [List.getElem?_map] at hj
        obtain ⟨x, hx, rfl⟩ := Option.map_eq_some_iff.1 hj
        obtain ⟨cs, _, hcs, h5⟩ := hc j x hx
        have h6 := h5 0 (.int .u8 x) (by rw [show cs = [Value.int .u8 x] from hcs]; rfl)
        have e : j * (Kd.int IntKind.u8).sz + 0 = j := by show j * 1 + 0 = j; omega
        rw [e] at h6
        exact h6)
      rw [List.length_map, h1] at this
      exact this
    rw [run_convert_bytes_string w src dst e (some ad) n c hs he hd, run_bytesToString w ad n c xs hl, foldl_push_bytes]
    simp [strOfNums, ByteArray.empty, ByteArray.emptyWithCapacity]
    rfl
  · obtain rfl : n = 0 := by omega
    obtain rfl : xs = [] := List.eq_nil_of_length_eq_zero h1
    cases A with
    | none => exact run_convert_bytes_nil w src e hs he 0 c dst hd
    | some ad =>
      rw [run_convert_bytes_string w src dst e (some ad) 0 c hs he hd]
      rw [run_bytesToString w ad 0 c [] (by
        have := run_loadCells_list (P := P) w ad [] (fun j v hj => by simp at hj)
        exact this)]
      rfl
theorem rinfo46 : (Try.prog.info? 46).map (fun i => (i.zero, i.size, i.bytes)) = some (some (.agg #[(.string ⟨#[]⟩), (.int .i64 0), (.slice none 0 0)]), 3, 48) := by kernel_rfl
section
variable {P : Program} {Q : Exit → Act → World → Prop} {ops : Array Oper} {o : Oper} {a : Act} {Kc : Act → World → Prop}
/-- A store into a box of the call's own, in a region that draws. -/
theorem put_blk_step {W : World} (hw : Region.wanted o (yielded ops a.tmps) = true) {t : TypeId} {p : Tmp} {v : Operand} (ho : o.op = .store t (.tmp p) v) (hN : o.dst = none) {g off e : Nat} {cur cur' : Array Value} {u : Value} {seg : List Value}
    (haddr : a.eval (.tmp p) = .pointer (some ⟨g, off, none⟩)) (hx : a.eval v = u) (hh : W.heap[g]? = some (.cells cur e (0, 0))) (hu : u.cells.toList = seg) (ht : (P.info? t).map (·.size) = some seg.length)
    (hfit : off + seg.length ≤ cur.size) (h1 : ∀ q ∈ seg, q.oneCell' = true)
    (hcur : (cur.toList.take off ++ seg ++ cur.toList.drop (off + seg.length)).toArray = cur')
    (h : ∀ w1, w1.heap[g]? = some (.cells cur' e (0, 0)) → (∀ i, i ≠ g → w1.heap[i]? = W.heap[i]?) → (∀ (B : Nat) (W0 : World), B ≤ g → Below B W0 W → Below B W0 w1) → Kc a w1) : if Region.wanted o (yielded ops a.tmps) = true then Oper.wp P o a W Kc Q else Kc (a.put none undef) W := by
  have hrun0 := run_store_run (P := P) t u seg hh hu ht hfit h1
  have hrun : (execOp a.eval o).run P W = .ok .skip (W.setCells g off seg) := by
    unfold execOp
    simp [ho, haddr, hx, hrun0]
  obtain ⟨cur2, hc2, _, hl2⟩ := setCells_row seg off W cur hh hfit
  refine skip_ hw hN hrun ?_
  refine h _ ?_ (fun i hi => setCells_far seg off i hi) (fun B W0 hB hb => ?_)
  · rw [hc2, ← hcur, ← hl2]
  · obtain ⟨s1, s2, s3, s4⟩ := setCells_same g seg off W
    exact hb.trans ⟨s1, s2, s3, by rw [s4]; exact Nat.le_refl _, fun k hk => setCells_far seg off k (by omega)⟩
end
set_option maxHeartbeats 8000000 in
set_option maxRecDepth 100000 in
/-- slices.Clone of bytes that came in. -/
theorem slices_Clone.calls (ad : Addr) (c : Nat) (xs : List Int) (w : World) (hr : Kd.C (Kd.int .u8) w (some ad) xs.length xs) (hx : xs.length ≤ 1000000) :
    Calls Try.prog 62 #[.slice (some ad) xs.length c] w fun e w' => ∃ v : Value, e = .returned v ∧ Kd.R (Kd.int .u8) 5 w' w.heap.size (fun _ => True) v xs ∧ Below w.heap.size w w' := by
  have hu29 := Try.underlying29
  have HB := Aside0.mk (Below.refl w.heap.size w)
  have HR0 := Aside0.mk hr
  have HX := Aside0.mk hx
  clear hr hx
  have q29 : ∀ (w : World), (binOp .eql 29 (.slice (some ad) xs.length c) (.slice none 0 0)).run Try.prog w = .ok (.bool false) w := fun w => Lib.run_eql_slice_nil w 29 5 (some ad) xs.length c 0 0 Try.underlying29
  go_enter Try.func62, Try.ntmps62
  go_wp2_with (first | ((with_reducible refine gate_dst (N := 5) rfl ?_); refine Kd.R_lit (Kd.int .u8) w.heap.size 5 ?hg (N := 5) ?hd (xs := ([] : List Int)) (inner := []) (ok := fun _ => True) (okp := fun _ => True) ?hr ?hp (fun _ hk => hk) trivial HB.out HB.out.size (by simp) ?_; (case hd => rfl); (case hg => rfl); (case hr => first | (go_simp; done) | (go_simp; rfl)); (case hp => exact (Reps.none _ _)); intro v5 w4 ho5 hb hg_ hnew_; replace HB := Aside0.mk hb; have HO := Aside0.mk ho5; clear hg_ hnew_ ho5 hb) | ((with_reducible refine gate_dst (N := 7) rfl ?_); at_builtin; (refine Kd.R_append_row (Value.int .u8) (0 : Int) (h1 := fun _ => rfl) (w0 := w) w.heap.size rfl (.tmp 5) (.tmp 6) 29 5 (.int .u8 0) 1 (by rfl) Try.underlying29 info5 rfl (by decide) v5 [] xs (some ad) xs.length c (fun _ => True) (by rfl) (by rfl) (fun _ _ => trivial) HO.out (Kd.C_below HR0.out HB.out) HB.out HB.out.size (by have := HX.out; simp only [List.length_nil]; omega) ?_; intro v7 w7 ho hb hg_ hat_; have HO7 := Aside0.mk ho; have HB7 := Aside0.mk hb; clear ho hb hg_ hat_)))
  go_ret
  exact ⟨_, rfl, HO7.out, HB7.out⟩
set_option maxHeartbeats 8000000 in
set_option maxRecDepth 100000 in
/-- (*boxReader).fail. -/
theorem impl_fail.calls (g : Nat) (c0 c1 c2 c3 c4 : Value) (code fat : Int) (w : World) (hg : w.heap[g]? = some (.cells #[c0, c1, c2, c3, c4] 56 (0, 0))) :
    Calls Try.prog 61 #[.pointer (some ⟨g, 0, none⟩), .int .i64 code, .int .i64 fat] w fun e w' => e = .returned (.bool false) ∧ w'.heap[g]? = some (.cells #[c0, c1, c2, .int .i64 code, .int .i64 fat] 56 (0, 0)) ∧ (∀ i, i ≠ g → w'.heap[i]? = w.heap[i]?) ∧ (∀ (B : Nat) (W0 : World), B ≤ g → Below B W0 w → Below B W0 w') := by
  have HG := Aside0.mk hg
  clear hg
  go_enter Try.func61, Try.ntmps61
  go_wp2_with (first | ((with_reducible refine gate_ (.store 37 (.tmp 12) (.tmp 10)) rfl ?_); (refine put_blk_event rfl rfl rfl (g := g) (off := 3) (cur := #[c0, c1, c2, c3, c4]) (cur' := #[c0, c1, c2, .int .i64 code, .int .i64 fat]) (u := .agg #[.int .i64 code, .int .i64 fat]) (seg := [.int .i64 code, .int .i64 fat]) (by rfl) (by rfl) HG.out rfl (by kernel_rfl) (Nat.le_of_ble_eq_true rfl) (by intro q_ hq_; simp only [List.mem_cons, List.not_mem_nil, or_false] at hq_; rcases hq_ with rfl | rfl <;> rfl) (by rfl) ?_); intro w1 h1 h2 h3; have H1 := Aside0.mk h1; have H2 := Aside0.mk h2; have H3 := Aside0.mk h3; clear h1 h2 h3))
  go_ret
  exact ⟨rfl, H1.out, H2.out, H3.out⟩
theorem bytes_at {w0 w : World} {A : Option Addr} {bs : List Int} (h : Kd.C (Kd.int .u8) w0 A bs.length bs) (hb : Below w0.heap.size w0 w) (h0 : 0 < bs.length) : ∃ ad, A = some ad ∧ ∀ j : Nat, j < bs.length → w.cell? (ad.add j) = some (.int .u8 (rd bs (j : Int))) := by
  obtain ⟨ad, e, _⟩ := Kd.at_int h 0 (by omega) (by omega)
  refine ⟨ad, e, fun j hj => ?_⟩
  obtain ⟨ad2, e2, hc⟩ := Kd.at_int h (j : Int) (by omega) (by omega)
  rw [e] at e2
  obtain rfl := Option.some.inj e2
  rw [Int.toNat_natCast] at hc
  exact pw_cell_below hb hc
theorem rd_byte {bs : List Int} (h : ∀ x ∈ bs, 0 ≤ x ∧ x ≤ 255) (j : Nat) (hj : j < bs.length) : 0 ≤ rd bs (j : Int) ∧ rd bs (j : Int) ≤ 255 := by
  have e : rd bs (j : Int) = bs[j] := by
    unfold rd
    rw [List.getD_eq_getElem?_getD, Int.toNat_natCast, List.getElem?_eq_getElem hj]
    rfl
  rw [e]
  exact h _ (List.getElem_mem hj)
/-- What a reader's state holds (type t) behind a reading. -/
def RdSt (t : Nat) (w0 : World) (g : Nat) (Ab : Option Addr) (n cb : Nat) (r : List S46 × Int × Int × Int) (w' : World) : Prop :=
  ∃ vo' : Value, w'.heap[g]? = some (.cells #[.slice Ab n cb, vo', .int .i64 r.2.1, .int .i64 r.2.2.1, .int .i64 r.2.2.2] t (0, 0)) ∧ Kd.S k46 46 w' w0.heap.size (fun k_ => k_ ≠ g) vo' r.1 ∧ Below w0.heap.size w0 w'
def RdEnd (w0 : World) (g : Nat) (Ab : Option Addr) (n cb : Nat) (r : List S46 × Int × Int × Int) (e : Ending) (w' : World) : Prop := (∃ v : Value, e = .returned v) ∧ RdSt 53 w0 g Ab n cb r w'
def RdEndB (w0 : World) (g : Nat) (Ab : Option Addr) (n cb : Nat) (r : List S46 × Int × Int × Int) (e : Ending) (w' : World) : Prop := e = .returned (.bool (decide (r.2.2.1 = 0))) ∧ RdSt 56 w0 g Ab n cb r w'
theorem add_zero_ (a : Addr) : a.add 0 = a := by
  unfold Addr.add
  simp
theorem add_pos_ (a : Addr) (j : Nat) (hj : j ≠ 0) : a.add j = ⟨a.block, a.off + j, none⟩ := by
  unfold Addr.add
  simp [hj]
theorem add_add_ (a : Addr) (i j : Nat) : (a.add i).add j = a.add (i + j) := by
  obtain ⟨b, o, p⟩ := a
  unfold Addr.add
  by_cases hi : i = 0
  · subst hi
    simp
  · by_cases hj : j = 0
    · subst hj
      simp [hi]
    · simp [hi, hj, Nat.add_assoc]
theorem i64_or_small (a b : Nat) (ha : a < 4611686018427387904) (hb : b < 4611686018427387904) : Go.bits .or .i64 (a : Int) (b : Int) = ((a ||| b : Nat) : Int) := by
  have hx : a ||| b < 2 ^ 62 := Nat.or_lt_two_pow (by omega) (by omega)
  show IntKind.i64.wrap ((BitVec.ofInt 64 (a : Int) ||| BitVec.ofInt 64 (b : Int)).toNat : Int) = _
  rw [BitVec.toNat_or, ofInt_u64 a (by omega), ofInt_u64 b (by omega), i64_w]
  unfold wrap64
  omega
/-- A number whose low bits are free takes these by 'or'. -/
theorem or_low (a b : Int) (k : Nat) (h0 : 0 ≤ a) (h1 : a * 2 ^ k < 4611686018427387904) (h2 : 0 ≤ b) (h3 : b < 2 ^ k) (h4 : b < 4611686018427387904) : Go.bits .or .i64 (a * 2 ^ k) b = a * 2 ^ k + b := by
  obtain ⟨A, rfl⟩ := Int.eq_ofNat_of_zero_le h0
  obtain ⟨B, rfl⟩ := Int.eq_ofNat_of_zero_le h2
  have e : ((A : Int) * 2 ^ k) = ((A <<< k : Nat) : Int) := by rw [Nat.shiftLeft_eq, Int.natCast_mul, Int.natCast_pow]; rfl
  rw [e] at h1 ⊢
  have hB : B < 2 ^ k := by have h5 : ((B : Nat) : Int) < ((2 ^ k : Nat) : Int) := by rw [Int.natCast_pow]; exact h3
                            exact Int.ofNat_lt.1 h5
  rw [i64_or_small _ _ (by omega) (by omega), ← Nat.shiftLeft_add_eq_or_of_lt hB]
  rfl
theorem sizes_le_ {W w1 : World} {g : Nat} {o o1 : Obj} (h2 : ∀ i, i ≠ g → w1.heap[i]? = W.heap[i]?) (h : W.heap[g]? = some o) (h1 : w1.heap[g]? = some o1) : W.heap.size ≤ w1.heap.size := by
  by_cases c : W.heap.size ≤ w1.heap.size
  · exact c
  · have hg := blk_lt h1
    have h3 := h2 w1.heap.size (by omega)
    rw [Array.getElem?_eq_none (Nat.le_refl _)] at h3
    rw [Array.getElem?_eq_getElem (by omega)] at h3
    simp at h3
theorem rd_carry {P : Program} {c : Code} {Q : Exit → Act → World → Prop} {a : Act} {W : World} {S : World → Prop} (h : S W) (k : ∀ W', S W' → Code.wp P c Q a W') : Code.wp P c Q a W := k W h
section
open Go.Proofs.YtpennfkjfeipcaaW.PrintLast
variable {P : Program} {ops : Array Oper} {Q : Exit → Act → World → Prop} {md : Region.Mode} {S : World → Prop} {ds : List Nat}
/-- Two may come up, the second of those behind which nothing is shown. -/
theorem two_l {i j : Nat} {Ni Nj : Option Tmp} {oi oj : Oper} {fuel : Nat} {l : Array Bool} {a : Act} {w : World} (li lj : Array Bool) (hi : ops[i]? = some oi) (hj : ops[j]? = some oj) (hNi : oi.dst = Ni) (hNj : oj.dst = Nj)
    (hc : (Region.ready md ops l == [i, j] && l.setIfInBounds i true == li && l.setIfInBounds j true == lj) = true) (hdi : i ∉ ds) (hdj : j ∈ ds)
    (h1 : ∀ K : Act → World → Prop, Shut (∀ a' w', S w' → (S w' → wpAnyLast P md ops Q S ds fuel li a' w') → K a' w') → if Region.wanted oi (yielded ops a.tmps) = true then Oper.wp P oi a w K Q else K (a.put Ni undef) w)
    (h2 : ∀ K : Act → World → Prop, Shut (∀ a' w', wpAnyLast P md ops Q S ds fuel lj a' w' → K a' w') → if Region.wanted oj (yielded ops a.tmps) = true then Oper.wp P oj a w K Q else K (a.put Nj undef) w) :
    wpAnyLast P md ops Q S ds (fuel + 1) l a w := by
  subst hNi
  subst hNj
  simp only [Bool.and_eq_true, beq_iff_eq] at hc
  obtain ⟨⟨h3, h4⟩, h5⟩ := hc
  subst h4
  subst h5
  exact wpAnyLast_ready h3 (by simp) (AllReadyL.cons hi hdi (fun K hK => h1 K hK) (AllReadyL.cons_last hj hdj (fun K hK => h2 K hK) AllReadyL.nil))
/-- One alone may come up, and what is told ahead of it no longer holds: nothing is shown behind it. -/
theorem one_n {i : Nat} {N : Option Tmp} {oi : Oper} {fuel : Nat} {l : Array Bool} {a : Act} {w : World} (l' : Array Bool) (hi : ops[i]? = some oi) (hN : oi.dst = N) (hc : readyB md ops l l' i = true) (hn : ¬ S w)
    (h : ∀ K : Act → World → Prop, Shut (∀ a' w', wpAnyLast P md ops Q S ds fuel l' a' w' → K a' w') → if Region.wanted oi (yielded ops a.tmps) = true then Oper.wp P oi a w K Q else K (a.put N undef) w) :
    wpAnyLast P md ops Q S ds (fuel + 1) l a w := by
  subst hN
  simp only [readyB, Bool.and_eq_true, beq_iff_eq] at hc
  obtain ⟨h1, h2⟩ := hc
  subst h2
  refine wpAnyLast_ready h1 (by simp) (fun j hj => ?_)
  rcases List.mem_cons.1 hj with rfl | hj
  · exact wpOp_step hi (fun K' hK => h K' (fun a w hW => hK a w ⟨fun _ hs => absurd hs hn, hW⟩))
  · cases hj
end
set_option maxHeartbeats 8000000 in
set_option maxRecDepth 100000 in
theorem l2Read_rdr (w0 : World) (Ab : Option Addr) (cb : Nat) (bs : List Int) (hC0 : Kd.C (Kd.int .u8) w0 Ab bs.length bs) (hcb : bs.length ≤ cb) (hbl : bs.length ≤ 1000000) (hbs : ∀ x ∈ bs, 0 ≤ x ∧ x ≤ 255) :
    ∀ (k : Nat) (g : Nat) (vo : Value) (boxes : List S46) (data : Int) (p en : Nat) (depth : Int) (r : List S46 × Int × Int × Int) (w : World) (hg0 : w0.heap.size ≤ g) (hB : Below w0.heap.size w0 w) (hg : w.heap[g]? = some (.cells #[.slice Ab bs.length cb, vo, .int .i64 data, .int .i64 0, .int .i64 0] 53 (0, 0))) (hO : Kd.S k46 46 w w0.heap.size (fun k_ => k_ ≠ g) vo boxes) (hp : p ≤ bs.length) (hen : en ≤ bs.length) (hd0 : 0 ≤ depth) (hd1 : depth ≤ 9) (hx0 : 0 ≤ data) (hx1 : data ≤ 20000) (hl : boxes.length ≤ 200) (h : rdr k bs boxes data p en depth = some r),
    Calls Try.prog 39 #[.pointer (some ⟨g, 0, none⟩), .int .i64 (p : Int), .int .i64 (en : Int), .int .i64 depth] w (RdEnd w0 g Ab bs.length cb r) := by
  have HC0 := Aside0.mk hC0
  have HCB := Aside0.mk hcb
  have HBL := Aside0.mk hbl
  have HBS := Aside0.mk hbs
  clear hC0 hcb hbl hbs
  intro k
  induction k using Nat.strongRecOn with
  | ind k ih =>
  intro g vo boxes data p en depth r w hg0 hB hg hO hp hen hd0 hd1 hx0 hx1 hl h
  have hu29 := Try.underlying29
  have hu46 := Try.underlying46
  have HG0 := Aside0.mk hg0
  have HB := Aside0.mk hB
  have HG := Aside0.mk hg
  have HO := Aside0.mk hO
  have HEN := Aside0.mk hen
  have HD := Aside0.mk (And.intro hd0 hd1)
  have HX := Aside0.mk (And.intro hp (And.intro hx0 (And.intro hx1 hl)))
  have H' := Aside0.mk h
  clear hg0 hB hg hO hp hen hd0 hd1 hx0 hx1 hl h
  go_enter Try.func39, Try.ntmps39
  go_wp2
  go_loopg [8] k (fun kq v8 w' => ∃ (boxes : List S46) (data code fat : Int) (vo : Value) (p : Nat), v8 = .int .i64 (p : Int) ∧ Aside0 ((code = 0 ∧ fat = 0 ∧ rdr kq bs boxes data p en depth = some r) ∨ (code ≠ 0 ∧ r = (boxes, data, code, fat))) ∧ Aside0 (kq ≤ k) ∧ Aside0 (w'.heap[g]? = some (.cells #[.slice Ab bs.length cb, vo, .int .i64 data, .int .i64 code, .int .i64 fat] 53 (0, 0))) ∧ Aside0 (Kd.S k46 46 w' w0.heap.size (fun k_ => k_ ≠ g) vo boxes) ∧ Aside0 (Below w0.heap.size w0 w') ∧ Aside0 (p ≤ bs.length ∧ 0 ≤ data ∧ data ≤ 20000 ∧ boxes.length ≤ 200))
  case atStart => exact ⟨boxes, data, 0, 0, vo, p, rfl, ⟨.inl ⟨rfl, rfl, H'.out⟩⟩, ⟨Nat.le_refl _⟩, HG, HO, HB, HX⟩
  case round =>
    clear HB HG HO HX H'
    obtain ⟨boxes, data, code, fat, vo, p, rfl, HA, HK, HG, HO, HB, HX⟩ := hrel
    obtain ⟨Ao, co, eo⟩ := Kd.S_slice HO.out
    subst eo
    have hc0 : wr.cell? ⟨g, 0, none⟩ = some (.slice Ab bs.length cb) := (blk_cell HG.out 0).trans rfl
    have hc1 : wr.cell? ⟨g, 1, none⟩ = some (.slice Ao boxes.length co) := (blk_cell HG.out 1).trans rfl
    have hc2 : wr.cell? ⟨g, 2, none⟩ = some (.int .i64 data) := (blk_cell HG.out 2).trans rfl
    have hc3 : wr.cell? ⟨g, 3, none⟩ = some (.int .i64 code) := (blk_cell HG.out 3).trans rfl
    rcases HA.out with ⟨rfl, rfl, HR⟩ | ⟨hne, hr⟩
    case inr =>
      clear HA
      have hq : (code == 0) = false := by simpa using hne
      have hq2 : decide (code = 0) = false := by simpa using hne
      subst hr
      clear hne
      by_cases c1 : p < en
      · have c1b : decide (p < en) = true := decide_eq_true c1
        clear c1
        go_wp2
        refine bodyPost_end (results_none rfl _ _ _) rfl ?_
        exact ⟨⟨_, rfl⟩, _, HG.out, (Kd.S_step HO.out (fun _ _ _ => rfl)), (Below.mk HB.out.os HB.out.tape HB.out.output HB.out.size HB.out.block)⟩
      · have c1b : decide (p < en) = false := decide_eq_false c1
        clear c1
        go_wp2
        refine bodyPost_end (results_none rfl _ _ _) rfl ?_
        exact ⟨⟨_, rfl⟩, _, HG.out, (Kd.S_step HO.out (fun _ _ _ => rfl)), (Below.mk HB.out.os HB.out.tape HB.out.output HB.out.size HB.out.block)⟩
    clear HA
    cases gk with
    | zero => exact absurd HR (by simp [rdr])
    | succ k1 =>
      simp only [rdr] at HR
      by_cases c1 : p < en
      case neg =>
        rw [if_neg c1] at HR
        obtain rfl := Option.some.inj HR
        have c1b : decide (p < en) = false := decide_eq_false c1
        clear c1 HR
        go_wp2
        refine bodyPost_end (results_none rfl _ _ _) rfl ?_
        exact ⟨⟨_, rfl⟩, _, HG.out, (Kd.S_step HO.out (fun _ _ _ => rfl)), (Below.mk HB.out.os HB.out.tape HB.out.output HB.out.size HB.out.block)⟩
      rw [if_pos c1] at HR
      have c1b : decide (p < en) = true := decide_eq_true c1
      have C1 := Aside0.mk c1
      obtain ⟨m, hm⟩ : ∃ m : Nat, m = en - p := ⟨_, rfl⟩
      have HM := Aside0.mk hm
      have Hwm_ : Aside0 (wrap64 ((en : Int) - (p : Int)) = (m : Int) ∧ IntKind.i64.wrap ((en : Int) - (p : Int)) = (m : Int)) := by
        have h_ : wrap64 ((en : Int) - (p : Int)) = (m : Int) := by have := HBL.out; have := HEN.out; unfold wrap64; omega
        exact ⟨⟨h_, (i64_w _).trans h_⟩⟩
      clear c1 hm
      by_cases c2 : en < p + 8
      case pos =>
        rw [if_pos c2] at HR
        obtain rfl := Option.some.inj HR
        have C2b0_ : Aside0 (decide ((m : Int) < 8) = true) := ⟨decide_eq_true (by have := HM.out; omega)⟩
        have C2b1_ : Aside0 (decide (m < 8) = true) := ⟨decide_eq_true (by have := HM.out; omega)⟩
        clear c2 HR
        have hwm := Hwm_.out.1
        have hwm' := Hwm_.out.2
        have c2b0 := C2b0_.out
        have c2b1 := C2b1_.out
        go_wp2_with (first | ((with_reducible refine gate_ (.store 37 (.tmp 126) (.tmp 124)) rfl ?_); (refine put_blk_event rfl rfl rfl (g := g) (off := 3) (cur := #[Value.slice Ab bs.length cb, Value.slice Ao boxes.length co, Value.int .i64 data, Value.int .i64 0, Value.int .i64 0]) (cur' := #[Value.slice Ab bs.length cb, Value.slice Ao boxes.length co, Value.int .i64 data, Value.int .i64 2, Value.int .i64 (p : Int)]) (u := .agg #[.int .i64 2, .int .i64 (p : Int)]) (seg := [Value.int .i64 2, Value.int .i64 (p : Int)]) (by rfl) (by rfl) HG.out rfl (by kernel_rfl) (Nat.le_of_ble_eq_true rfl) (by intro q_ hq_; simp only [List.mem_cons, List.not_mem_nil, or_false] at hq_; rcases hq_ with rfl | rfl <;> rfl) (by rfl) ?_); intro w1_ h1_ h2_ h3_; have H1 := Aside0.mk h1_; have H2 := Aside0.mk (Kd.S_step (Kd.S_step HO.out (fun _ _ _ => rfl)) (fun k_ hk_ _ => h2_ k_ hk_)); have H3 := Aside0.mk (h3_ _ _ HG0.out (Below.mk HB.out.os HB.out.tape HB.out.output HB.out.size HB.out.block)); clear h1_ h2_ h3_))
        refine bodyPost_ret (results_none rfl _ _ _) rfl ?_
        exact ⟨⟨_, rfl⟩, _, H1.out, (Kd.S_step H2.out (fun _ _ _ => rfl)), (Below.mk H3.out.os H3.out.tape H3.out.output H3.out.size H3.out.block)⟩
      rw [if_neg c2] at HR
      have C2b0_ : Aside0 (decide ((m : Int) < 8) = false) := ⟨decide_eq_false (by have := HM.out; have := C1.out; omega)⟩
      have C2b1_ : Aside0 (decide (m < 8) = false) := ⟨decide_eq_false (by have := HM.out; have := C1.out; omega)⟩
      have C2 := Aside0.mk c2
      clear c2
      obtain ⟨ad, rfl, hcell⟩ := bytes_at HC0.out HB.out (by have := C1.out; have := HEN.out; omega)
      obtain ⟨a1, ha1⟩ : ∃ a : Nat, a = p + 1 := ⟨_, rfl⟩
      obtain ⟨a2, ha2⟩ : ∃ a : Nat, a = p + 2 := ⟨_, rfl⟩
      obtain ⟨a3, ha3⟩ : ∃ a : Nat, a = p + 3 := ⟨_, rfl⟩
      obtain ⟨a4, ha4⟩ : ∃ a : Nat, a = p + 4 := ⟨_, rfl⟩
      obtain ⟨a8, ha8⟩ : ∃ a : Nat, a = p + 8 := ⟨_, rfl⟩
      have hb0 := hcell p (by have := C2.out; have := HEN.out; omega)
      have hb1 := hcell a1 (by have := C2.out; have := HEN.out; omega)
      have hb2 := hcell a2 (by have := C2.out; have := HEN.out; omega)
      have hb3 := hcell a3 (by have := C2.out; have := HEN.out; omega)
      have HY0 := Aside0.mk (rd_byte HBS.out p (by have := C2.out; have := HEN.out; omega))
      have P0_ : Aside0 ((0 ≤ (p : Int)) = True) := ⟨eq_true (by skip; omega)⟩
      have Q0_ : Aside0 (((p : Int) < (bs.length : Int)) = True) := ⟨eq_true (by have := C2.out; have := HEN.out; omega)⟩
      have HY1 := Aside0.mk (rd_byte HBS.out a1 (by have := C2.out; have := HEN.out; omega))
      have P1_ : Aside0 ((0 ≤ (a1 : Int)) = True) := ⟨eq_true (by skip; omega)⟩
      have Q1_ : Aside0 (((a1 : Int) < (bs.length : Int)) = True) := ⟨eq_true (by have := C2.out; have := HEN.out; omega)⟩
      have HY2 := Aside0.mk (rd_byte HBS.out a2 (by have := C2.out; have := HEN.out; omega))
      have P2_ : Aside0 ((0 ≤ (a2 : Int)) = True) := ⟨eq_true (by skip; omega)⟩
      have Q2_ : Aside0 (((a2 : Int) < (bs.length : Int)) = True) := ⟨eq_true (by have := C2.out; have := HEN.out; omega)⟩
      have HY3 := Aside0.mk (rd_byte HBS.out a3 (by have := C2.out; have := HEN.out; omega))
      have P3_ : Aside0 ((0 ≤ (a3 : Int)) = True) := ⟨eq_true (by skip; omega)⟩
      have Q3_ : Aside0 (((a3 : Int) < (bs.length : Int)) = True) := ⟨eq_true (by have := C2.out; have := HEN.out; omega)⟩
      have Hw1_ : Aside0 (wrap64 ((p : Int) + 1) = (a1 : Int) ∧ IntKind.i64.wrap ((p : Int) + 1) = (a1 : Int)) := by
        have h_ : wrap64 ((p : Int) + 1) = (a1 : Int) := by have := HBL.out; have := HEN.out; have := C1.out; unfold wrap64; omega
        exact ⟨⟨h_, (i64_w _).trans h_⟩⟩
      have Hw2_ : Aside0 (wrap64 ((p : Int) + 2) = (a2 : Int) ∧ IntKind.i64.wrap ((p : Int) + 2) = (a2 : Int)) := by
        have h_ : wrap64 ((p : Int) + 2) = (a2 : Int) := by have := HBL.out; have := HEN.out; have := C1.out; unfold wrap64; omega
        exact ⟨⟨h_, (i64_w _).trans h_⟩⟩
      have Hw3_ : Aside0 (wrap64 ((p : Int) + 3) = (a3 : Int) ∧ IntKind.i64.wrap ((p : Int) + 3) = (a3 : Int)) := by
        have h_ : wrap64 ((p : Int) + 3) = (a3 : Int) := by have := HBL.out; have := HEN.out; have := C1.out; unfold wrap64; omega
        exact ⟨⟨h_, (i64_w _).trans h_⟩⟩
      have Hw4_ : Aside0 (wrap64 ((p : Int) + 4) = (a4 : Int) ∧ IntKind.i64.wrap ((p : Int) + 4) = (a4 : Int)) := by
        have h_ : wrap64 ((p : Int) + 4) = (a4 : Int) := by have := HBL.out; have := HEN.out; have := C1.out; unfold wrap64; omega
        exact ⟨⟨h_, (i64_w _).trans h_⟩⟩
      have Hw8_ : Aside0 (wrap64 ((p : Int) + 8) = (a8 : Int) ∧ IntKind.i64.wrap ((p : Int) + 8) = (a8 : Int)) := by
        have h_ : wrap64 ((p : Int) + 8) = (a8 : Int) := by have := HBL.out; have := HEN.out; have := C1.out; unfold wrap64; omega
        exact ⟨⟨h_, (i64_w _).trans h_⟩⟩
      have HN0 := Aside0.mk (show sz4 bs p = rd bs (p : Int) * 16777216 + rd bs (a1 : Int) * 65536 + rd bs (a2 : Int) * 256 + rd bs (a3 : Int) by rw [ha1, ha2, ha3]; rfl)
      have HA1 := Aside0.mk ha1
      have HA4 := Aside0.mk ha4
      have HA8 := Aside0.mk ha8
      have S1_ : Aside0 ((a8 ≤ cb) = True) := ⟨eq_true (by have := C2.out; have := HEN.out; have := HCB.out; omega)⟩
      have S2_ : Aside0 ((a4 ≤ a8) = True) := ⟨eq_true (by skip; omega)⟩
      have S3_ : Aside0 ((cb = a4) = False) := ⟨eq_false (by have := C2.out; have := HEN.out; have := HCB.out; omega)⟩
      have hbc := Kd.C_mid (c := cb) (lo := a4) (hi := a8) (Kd.C_below HC0.out HB.out) (by omega) (by have := C2.out; have := HEN.out; omega) HCB.out
      rw [show ((bs.take a8).drop a4).length = a8 - a4 by rw [List.length_drop, List.length_take]; have := C2.out; have := HEN.out; omega] at hbc
      obtain ⟨s, hs⟩ : ∃ s : ByteArray, s = kd4 bs p := ⟨_, rfl⟩
      have HCONV : Aside0 (∀ n_ : Nat, (convert 29 9 (.slice (some (ad.add a4)) (a8 - a4) (cb - a4))).run Try.prog (wr.drewN n_) = .ok (.string s) (wr.drewN n_)) := ⟨fun n_ => by rw [hs]; unfold kd4; rw [← ha4, ← ha8]; rw [if_neg (by rw [S3_.out]; exact fun h => h)] at hbc; exact conv_C Try.underlying29 Try.underlying5 Try.underlying9 (Kd.C_drewN (by simpa [Kd.int, Kd.scalar] using hbc) n_)⟩
      obtain ⟨n, hn⟩ : ∃ n : Nat, sz4 bs p = (n : Int) := ⟨(sz4 bs p).toNat, by have := HN0.out; have := HY0.out; have := HY1.out; have := HY2.out; have := HY3.out; omega⟩
      rw [hn, Int.toNat_natCast, ← hs, ← ha8] at HR
      rw [hn] at HN0
      generalize rd bs (p : Int) = y0 at hb0 HY0 HN0
      generalize rd bs (a1 : Int) = y1 at hb1 HY1 HN0
      generalize rd bs (a2 : Int) = y2 at hb2 HY2 HN0
      generalize rd bs (a3 : Int) = y3 at hb3 HY3 HN0
      have Hy0_ : Aside0 (wrap64 (y0) = y0 ∧ IntKind.i64.wrap (y0) = y0) := by
        have h_ : wrap64 (y0) = y0 := by have := HY0.out; have := HY1.out; have := HY2.out; have := HY3.out; unfold wrap64; omega
        exact ⟨⟨h_, (i64_w _).trans h_⟩⟩
      have Hy1_ : Aside0 (wrap64 (y1) = y1 ∧ IntKind.i64.wrap (y1) = y1) := by
        have h_ : wrap64 (y1) = y1 := by have := HY0.out; have := HY1.out; have := HY2.out; have := HY3.out; unfold wrap64; omega
        exact ⟨⟨h_, (i64_w _).trans h_⟩⟩
      have Hy2_ : Aside0 (wrap64 (y2) = y2 ∧ IntKind.i64.wrap (y2) = y2) := by
        have h_ : wrap64 (y2) = y2 := by have := HY0.out; have := HY1.out; have := HY2.out; have := HY3.out; unfold wrap64; omega
        exact ⟨⟨h_, (i64_w _).trans h_⟩⟩
      have Hy3_ : Aside0 (wrap64 (y3) = y3 ∧ IntKind.i64.wrap (y3) = y3) := by
        have h_ : wrap64 (y3) = y3 := by have := HY0.out; have := HY1.out; have := HY2.out; have := HY3.out; unfold wrap64; omega
        exact ⟨⟨h_, (i64_w _).trans h_⟩⟩
      obtain ⟨z0, hz0⟩ : ∃ z : Int, z = y0 * 16777216 := ⟨_, rfl⟩
      obtain ⟨z1, hz1⟩ : ∃ z : Int, z = y1 * 65536 := ⟨_, rfl⟩
      obtain ⟨z2, hz2⟩ : ∃ z : Int, z = y2 * 256 := ⟨_, rfl⟩
      obtain ⟨u1, hu1⟩ : ∃ z : Int, z = z0 + z1 := ⟨_, rfl⟩
      obtain ⟨u2, hu2⟩ : ∃ z : Int, z = u1 + z2 := ⟨_, rfl⟩
      have Hm0_ : Aside0 (wrap64 (y0 * 16777216) = z0 ∧ IntKind.i64.wrap (y0 * 16777216) = z0) := by
        have h_ : wrap64 (y0 * 16777216) = z0 := by have := HY0.out; have := HY1.out; have := HY2.out; have := HY3.out; unfold wrap64; omega
        exact ⟨⟨h_, (i64_w _).trans h_⟩⟩
      have Hm1_ : Aside0 (wrap64 (y1 * 65536) = z1 ∧ IntKind.i64.wrap (y1 * 65536) = z1) := by
        have h_ : wrap64 (y1 * 65536) = z1 := by have := HY0.out; have := HY1.out; have := HY2.out; have := HY3.out; unfold wrap64; omega
        exact ⟨⟨h_, (i64_w _).trans h_⟩⟩
      have Hm2_ : Aside0 (wrap64 (y2 * 256) = z2 ∧ IntKind.i64.wrap (y2 * 256) = z2) := by
        have h_ : wrap64 (y2 * 256) = z2 := by have := HY0.out; have := HY1.out; have := HY2.out; have := HY3.out; unfold wrap64; omega
        exact ⟨⟨h_, (i64_w _).trans h_⟩⟩
      have Hs1_ : Aside0 (wrap64 (z0 + z1) = u1 ∧ IntKind.i64.wrap (z0 + z1) = u1) := by
        have h_ : wrap64 (z0 + z1) = u1 := by have := HY0.out; have := HY1.out; have := HY2.out; have := HY3.out; unfold wrap64; omega
        exact ⟨⟨h_, (i64_w _).trans h_⟩⟩
      have Hs2_ : Aside0 (wrap64 (u1 + z2) = u2 ∧ IntKind.i64.wrap (u1 + z2) = u2) := by
        have h_ : wrap64 (u1 + z2) = u2 := by have := HY0.out; have := HY1.out; have := HY2.out; have := HY3.out; unfold wrap64; omega
        exact ⟨⟨h_, (i64_w _).trans h_⟩⟩
      have Hs3_ : Aside0 (wrap64 (u2 + y3) = (n : Int) ∧ IntKind.i64.wrap (u2 + y3) = (n : Int)) := by
        have h_ : wrap64 (u2 + y3) = (n : Int) := by have := HY0.out; have := HY1.out; have := HY2.out; have := HY3.out; have := HN0.out; unfold wrap64; omega
        exact ⟨⟨h_, (i64_w _).trans h_⟩⟩
      have HNB : Aside0 (n ≤ 4294967296) := ⟨by have := HN0.out; have := HY0.out; have := HY1.out; have := HY2.out; have := HY3.out; omega⟩
      have HS := Aside0.mk hs
      clear hz0 hz1 hz2 hu1 hu2 ha1 ha2 ha3 ha4 ha8 hn hs hbc hcell HY0 HY1 HY2 HY3 HN0
      by_cases c3 : (n : Int) < 8
      case pos =>
        rw [if_pos c3] at HR
        obtain rfl := Option.some.inj HR
        have C3b0_ : Aside0 (decide ((n : Int) < 8) = true) := ⟨decide_eq_true (by skip; omega)⟩
        have C3b1_ : Aside0 (decide (n < 8) = true) := ⟨decide_eq_true (by skip; omega)⟩
        clear c3 HR
        have hwm := Hwm_.out.1
        have hwm' := Hwm_.out.2
        have c2b0 := C2b0_.out
        have c2b1 := C2b1_.out
        have p0 := P0_.out
        have q0 := Q0_.out
        have p1 := P1_.out
        have q1 := Q1_.out
        have p2 := P2_.out
        have q2 := Q2_.out
        have p3 := P3_.out
        have q3 := Q3_.out
        have hw1 := Hw1_.out.1
        have hw1' := Hw1_.out.2
        have hw2 := Hw2_.out.1
        have hw2' := Hw2_.out.2
        have hw3 := Hw3_.out.1
        have hw3' := Hw3_.out.2
        have hw4 := Hw4_.out.1
        have hw4' := Hw4_.out.2
        have hw8 := Hw8_.out.1
        have hw8' := Hw8_.out.2
        have s1 := S1_.out
        have s2 := S2_.out
        have s3 := S3_.out
        have hconv := HCONV.out
        have hy0 := Hy0_.out.1
        have hy0' := Hy0_.out.2
        have hy1 := Hy1_.out.1
        have hy1' := Hy1_.out.2
        have hy2 := Hy2_.out.1
        have hy2' := Hy2_.out.2
        have hy3 := Hy3_.out.1
        have hy3' := Hy3_.out.2
        have hm0 := Hm0_.out.1
        have hm0' := Hm0_.out.2
        have hm1 := Hm1_.out.1
        have hm1' := Hm1_.out.2
        have hm2 := Hm2_.out.1
        have hm2' := Hm2_.out.2
        have hs1 := Hs1_.out.1
        have hs1' := Hs1_.out.2
        have hs2 := Hs2_.out.1
        have hs2' := Hs2_.out.2
        have hs3 := Hs3_.out.1
        have hs3' := Hs3_.out.2
        have c3b0 := C3b0_.out
        have c3b1 := C3b1_.out
        go_wp2_with (first | ((with_reducible refine gate_ (.store 37 (.tmp 126) (.tmp 124)) rfl ?_); (refine put_blk_event rfl rfl rfl (g := g) (off := 3) (cur := #[Value.slice (some ad) bs.length cb, Value.slice Ao boxes.length co, Value.int .i64 data, Value.int .i64 0, Value.int .i64 0]) (cur' := #[Value.slice (some ad) bs.length cb, Value.slice Ao boxes.length co, Value.int .i64 data, Value.int .i64 3, Value.int .i64 (p : Int)]) (u := .agg #[.int .i64 3, .int .i64 (p : Int)]) (seg := [Value.int .i64 3, Value.int .i64 (p : Int)]) (by rfl) (by rfl) HG.out rfl (by kernel_rfl) (Nat.le_of_ble_eq_true rfl) (by intro q_ hq_; simp only [List.mem_cons, List.not_mem_nil, or_false] at hq_; rcases hq_ with rfl | rfl <;> rfl) (by rfl) ?_); intro w1_ h1_ h2_ h3_; have H1 := Aside0.mk h1_; have H2 := Aside0.mk (Kd.S_step (Kd.S_step HO.out (fun _ _ _ => rfl)) (fun k_ hk_ _ => h2_ k_ hk_)); have H3 := Aside0.mk (h3_ _ _ HG0.out (Below.mk HB.out.os HB.out.tape HB.out.output HB.out.size HB.out.block)); clear h1_ h2_ h3_))
        go_quiet (fail)
        go_wp2_with (first | ((with_reducible refine gate_ (.store 37 (.tmp 126) (.tmp 124)) rfl ?_); (refine put_blk_event rfl rfl rfl (g := g) (off := 3) (cur := #[Value.slice (some ad) bs.length cb, Value.slice Ao boxes.length co, Value.int .i64 data, Value.int .i64 0, Value.int .i64 0]) (cur' := #[Value.slice (some ad) bs.length cb, Value.slice Ao boxes.length co, Value.int .i64 data, Value.int .i64 3, Value.int .i64 (p : Int)]) (u := .agg #[.int .i64 3, .int .i64 (p : Int)]) (seg := [Value.int .i64 3, Value.int .i64 (p : Int)]) (by rfl) (by rfl) HG.out rfl (by kernel_rfl) (Nat.le_of_ble_eq_true rfl) (by intro q_ hq_; simp only [List.mem_cons, List.not_mem_nil, or_false] at hq_; rcases hq_ with rfl | rfl <;> rfl) (by rfl) ?_); intro w1_ h1_ h2_ h3_; have H1 := Aside0.mk h1_; have H2 := Aside0.mk (Kd.S_step (Kd.S_step HO.out (fun _ _ _ => rfl)) (fun k_ hk_ _ => h2_ k_ hk_)); have H3 := Aside0.mk (h3_ _ _ HG0.out (Below.mk HB.out.os HB.out.tape HB.out.output HB.out.size HB.out.block)); clear h1_ h2_ h3_))
        refine bodyPost_ret (results_none rfl _ _ _) rfl ?_
        exact ⟨⟨_, rfl⟩, _, H1.out, (Kd.S_step H2.out (fun _ _ _ => rfl)), (Below.mk H3.out.os H3.out.tape H3.out.output H3.out.size H3.out.block)⟩
      rw [if_neg c3] at HR
      have C3b0_ : Aside0 (decide ((n : Int) < 8) = false) := ⟨decide_eq_false (by skip; omega)⟩
      have C3b1_ : Aside0 (decide (n < 8) = false) := ⟨decide_eq_false (by skip; omega)⟩
      have C3 := Aside0.mk c3
      clear c3
      rw [← HM.out] at HR
      by_cases c4 : (m : Int) < (n : Int)
      case pos =>
        rw [if_pos c4] at HR
        obtain rfl := Option.some.inj HR
        have C4b0_ : Aside0 (decide ((m : Int) < (n : Int)) = true) := ⟨decide_eq_true (by skip; omega)⟩
        have C4b1_ : Aside0 (decide (m < n) = true) := ⟨decide_eq_true (by skip; omega)⟩
        clear c4 HR
        have hwm := Hwm_.out.1
        have hwm' := Hwm_.out.2
        have c2b0 := C2b0_.out
        have c2b1 := C2b1_.out
        have p0 := P0_.out
        have q0 := Q0_.out
        have p1 := P1_.out
        have q1 := Q1_.out
        have p2 := P2_.out
        have q2 := Q2_.out
        have p3 := P3_.out
        have q3 := Q3_.out
        have hw1 := Hw1_.out.1
        have hw1' := Hw1_.out.2
        have hw2 := Hw2_.out.1
        have hw2' := Hw2_.out.2
        have hw3 := Hw3_.out.1
        have hw3' := Hw3_.out.2
        have hw4 := Hw4_.out.1
        have hw4' := Hw4_.out.2
        have hw8 := Hw8_.out.1
        have hw8' := Hw8_.out.2
        have s1 := S1_.out
        have s2 := S2_.out
        have s3 := S3_.out
        have hconv := HCONV.out
        have hy0 := Hy0_.out.1
        have hy0' := Hy0_.out.2
        have hy1 := Hy1_.out.1
        have hy1' := Hy1_.out.2
        have hy2 := Hy2_.out.1
        have hy2' := Hy2_.out.2
        have hy3 := Hy3_.out.1
        have hy3' := Hy3_.out.2
        have hm0 := Hm0_.out.1
        have hm0' := Hm0_.out.2
        have hm1 := Hm1_.out.1
        have hm1' := Hm1_.out.2
        have hm2 := Hm2_.out.1
        have hm2' := Hm2_.out.2
        have hs1 := Hs1_.out.1
        have hs1' := Hs1_.out.2
        have hs2 := Hs2_.out.1
        have hs2' := Hs2_.out.2
        have hs3 := Hs3_.out.1
        have hs3' := Hs3_.out.2
        have c3b0 := C3b0_.out
        have c3b1 := C3b1_.out
        have c4b0 := C4b0_.out
        have c4b1 := C4b1_.out
        go_wp2_with (first | ((with_reducible refine gate_ (.store 37 (.tmp 126) (.tmp 124)) rfl ?_); (refine put_blk_event rfl rfl rfl (g := g) (off := 3) (cur := #[Value.slice (some ad) bs.length cb, Value.slice Ao boxes.length co, Value.int .i64 data, Value.int .i64 0, Value.int .i64 0]) (cur' := #[Value.slice (some ad) bs.length cb, Value.slice Ao boxes.length co, Value.int .i64 data, Value.int .i64 3, Value.int .i64 (p : Int)]) (u := .agg #[.int .i64 3, .int .i64 (p : Int)]) (seg := [Value.int .i64 3, Value.int .i64 (p : Int)]) (by rfl) (by rfl) HG.out rfl (by kernel_rfl) (Nat.le_of_ble_eq_true rfl) (by intro q_ hq_; simp only [List.mem_cons, List.not_mem_nil, or_false] at hq_; rcases hq_ with rfl | rfl <;> rfl) (by rfl) ?_); intro w1_ h1_ h2_ h3_; have H1 := Aside0.mk h1_; have H2 := Aside0.mk (Kd.S_step (Kd.S_step HO.out (fun _ _ _ => rfl)) (fun k_ hk_ _ => h2_ k_ hk_)); have H3 := Aside0.mk (h3_ _ _ HG0.out (Below.mk HB.out.os HB.out.tape HB.out.output HB.out.size HB.out.block)); clear h1_ h2_ h3_))
        go_quiet (fail)
        go_wp2_with (first | ((with_reducible refine gate_ (.store 37 (.tmp 126) (.tmp 124)) rfl ?_); (refine put_blk_event rfl rfl rfl (g := g) (off := 3) (cur := #[Value.slice (some ad) bs.length cb, Value.slice Ao boxes.length co, Value.int .i64 data, Value.int .i64 0, Value.int .i64 0]) (cur' := #[Value.slice (some ad) bs.length cb, Value.slice Ao boxes.length co, Value.int .i64 data, Value.int .i64 3, Value.int .i64 (p : Int)]) (u := .agg #[.int .i64 3, .int .i64 (p : Int)]) (seg := [Value.int .i64 3, Value.int .i64 (p : Int)]) (by rfl) (by rfl) HG.out rfl (by kernel_rfl) (Nat.le_of_ble_eq_true rfl) (by intro q_ hq_; simp only [List.mem_cons, List.not_mem_nil, or_false] at hq_; rcases hq_ with rfl | rfl <;> rfl) (by rfl) ?_); intro w1_ h1_ h2_ h3_; have H1 := Aside0.mk h1_; have H2 := Aside0.mk (Kd.S_step (Kd.S_step HO.out (fun _ _ _ => rfl)) (fun k_ hk_ _ => h2_ k_ hk_)); have H3 := Aside0.mk (h3_ _ _ HG0.out (Below.mk HB.out.os HB.out.tape HB.out.output HB.out.size HB.out.block)); clear h1_ h2_ h3_))
        refine bodyPost_ret (results_none rfl _ _ _) rfl ?_
        exact ⟨⟨_, rfl⟩, _, H1.out, (Kd.S_step H2.out (fun _ _ _ => rfl)), (Below.mk H3.out.os H3.out.tape H3.out.output H3.out.size H3.out.block)⟩
      rw [if_neg c4] at HR
      have C4b0_ : Aside0 (decide ((m : Int) < (n : Int)) = false) := ⟨decide_eq_false (by skip; omega)⟩
      have C4b1_ : Aside0 (decide (m < n) = false) := ⟨decide_eq_false (by skip; omega)⟩
      have C4 := Aside0.mk c4
      clear c4
      by_cases c5 : kindB s = true
      case neg =>
        rw [if_neg c5] at HR
        obtain rfl := Option.some.inj HR
        have HKS : Aside0 (spec_l2Kind.f 6 s = some false) := ⟨by rw [(kindB_eq s 6 (Nat.le_refl _)).1]; simpa using c5⟩
        clear c5 HR
        have hwm := Hwm_.out.1
        have hwm' := Hwm_.out.2
        have c2b0 := C2b0_.out
        have c2b1 := C2b1_.out
        have p0 := P0_.out
        have q0 := Q0_.out
        have p1 := P1_.out
        have q1 := Q1_.out
        have p2 := P2_.out
        have q2 := Q2_.out
        have p3 := P3_.out
        have q3 := Q3_.out
        have hw1 := Hw1_.out.1
        have hw1' := Hw1_.out.2
        have hw2 := Hw2_.out.1
        have hw2' := Hw2_.out.2
        have hw3 := Hw3_.out.1
        have hw3' := Hw3_.out.2
        have hw4 := Hw4_.out.1
        have hw4' := Hw4_.out.2
        have hw8 := Hw8_.out.1
        have hw8' := Hw8_.out.2
        have s1 := S1_.out
        have s2 := S2_.out
        have s3 := S3_.out
        have hconv := HCONV.out
        have hy0 := Hy0_.out.1
        have hy0' := Hy0_.out.2
        have hy1 := Hy1_.out.1
        have hy1' := Hy1_.out.2
        have hy2 := Hy2_.out.1
        have hy2' := Hy2_.out.2
        have hy3 := Hy3_.out.1
        have hy3' := Hy3_.out.2
        have hm0 := Hm0_.out.1
        have hm0' := Hm0_.out.2
        have hm1 := Hm1_.out.1
        have hm1' := Hm1_.out.2
        have hm2 := Hm2_.out.1
        have hm2' := Hm2_.out.2
        have hs1 := Hs1_.out.1
        have hs1' := Hs1_.out.2
        have hs2 := Hs2_.out.1
        have hs2' := Hs2_.out.2
        have hs3 := Hs3_.out.1
        have hs3' := Hs3_.out.2
        have c3b0 := C3b0_.out
        have c3b1 := C3b1_.out
        have c4b0 := C4b0_.out
        have c4b1 := C4b1_.out
        go_wp2_with (first | ((with_reducible refine gate_callee (f := 33) rfl ?_); refine goesL_ (some 87) rfl rfl Try.func33 (by kernel_rfl) rfl #[.string s] rfl (by (try simp only [List.map_toArray, List.map_cons, List.map_nil]); first | done | rfl) ?_; (with_reducible refine (spec_l2Kind.calls 6 s false _ HKS.out).mono ?_); rintro e_ W1_ ⟨rfl, ⟨nd_, rfl⟩⟩; refine ⟨_, rfl, ?_⟩) | ((with_reducible refine gate_ (.store 37 (.tmp 126) (.tmp 124)) rfl ?_); (refine put_blk_event rfl rfl rfl (g := g) (off := 3) (cur := #[Value.slice (some ad) bs.length cb, Value.slice Ao boxes.length co, Value.int .i64 data, Value.int .i64 0, Value.int .i64 0]) (cur' := #[Value.slice (some ad) bs.length cb, Value.slice Ao boxes.length co, Value.int .i64 data, Value.int .i64 4, Value.int .i64 (p : Int)]) (u := .agg #[.int .i64 4, .int .i64 (p : Int)]) (seg := [Value.int .i64 4, Value.int .i64 (p : Int)]) (by rfl) (by rfl) HG.out rfl (by kernel_rfl) (Nat.le_of_ble_eq_true rfl) (by intro q_ hq_; simp only [List.mem_cons, List.not_mem_nil, or_false] at hq_; rcases hq_ with rfl | rfl <;> rfl) (by rfl) ?_); intro w1_ h1_ h2_ h3_; have H1 := Aside0.mk h1_; have H2 := Aside0.mk (Kd.S_step (Kd.S_step HO.out (fun _ _ _ => rfl)) (fun k_ hk_ _ => h2_ k_ hk_)); have H3 := Aside0.mk (h3_ _ _ HG0.out (Below.mk HB.out.os HB.out.tape HB.out.output HB.out.size HB.out.block)); clear h1_ h2_ h3_))
        go_quiet (fail)
        go_wp2_with (first | ((with_reducible refine gate_callee (f := 33) rfl ?_); refine goesL_ (some 87) rfl rfl Try.func33 (by kernel_rfl) rfl #[.string s] rfl (by (try simp only [List.map_toArray, List.map_cons, List.map_nil]); first | done | rfl) ?_; (with_reducible refine (spec_l2Kind.calls 6 s false _ HKS.out).mono ?_); rintro e_ W1_ ⟨rfl, ⟨nd_, rfl⟩⟩; refine ⟨_, rfl, ?_⟩) | ((with_reducible refine gate_ (.store 37 (.tmp 126) (.tmp 124)) rfl ?_); (refine put_blk_event rfl rfl rfl (g := g) (off := 3) (cur := #[Value.slice (some ad) bs.length cb, Value.slice Ao boxes.length co, Value.int .i64 data, Value.int .i64 0, Value.int .i64 0]) (cur' := #[Value.slice (some ad) bs.length cb, Value.slice Ao boxes.length co, Value.int .i64 data, Value.int .i64 4, Value.int .i64 (p : Int)]) (u := .agg #[.int .i64 4, .int .i64 (p : Int)]) (seg := [Value.int .i64 4, Value.int .i64 (p : Int)]) (by rfl) (by rfl) HG.out rfl (by kernel_rfl) (Nat.le_of_ble_eq_true rfl) (by intro q_ hq_; simp only [List.mem_cons, List.not_mem_nil, or_false] at hq_; rcases hq_ with rfl | rfl <;> rfl) (by rfl) ?_); intro w1_ h1_ h2_ h3_; have H1 := Aside0.mk h1_; have H2 := Aside0.mk (Kd.S_step (Kd.S_step HO.out (fun _ _ _ => rfl)) (fun k_ hk_ _ => h2_ k_ hk_)); have H3 := Aside0.mk (h3_ _ _ HG0.out (Below.mk HB.out.os HB.out.tape HB.out.output HB.out.size HB.out.block)); clear h1_ h2_ h3_))
        refine bodyPost_ret (results_none rfl _ _ _) rfl ?_
        exact ⟨⟨_, rfl⟩, _, H1.out, (Kd.S_step H2.out (fun _ _ _ => rfl)), (Below.mk H3.out.os H3.out.tape H3.out.output H3.out.size H3.out.block)⟩
      rw [if_pos c5] at HR
      have HKS : Aside0 (spec_l2Kind.f 6 s = some true) := ⟨by rw [(kindB_eq s 6 (Nat.le_refl _)).1, c5]⟩
      have HSZ := Aside0.mk (kindB_good s c5).1
      clear c5
      by_cases c6 : 8 < depth
      case pos =>
        rw [if_pos c6] at HR
        obtain rfl := Option.some.inj HR
        have C6b0_ : Aside0 (decide (8 < depth) = true) := ⟨decide_eq_true (by skip; omega)⟩
        clear c6 HR
        have hwm := Hwm_.out.1
        have hwm' := Hwm_.out.2
        have c2b0 := C2b0_.out
        have c2b1 := C2b1_.out
        have p0 := P0_.out
        have q0 := Q0_.out
        have p1 := P1_.out
        have q1 := Q1_.out
        have p2 := P2_.out
        have q2 := Q2_.out
        have p3 := P3_.out
        have q3 := Q3_.out
        have hw1 := Hw1_.out.1
        have hw1' := Hw1_.out.2
        have hw2 := Hw2_.out.1
        have hw2' := Hw2_.out.2
        have hw3 := Hw3_.out.1
        have hw3' := Hw3_.out.2
        have hw4 := Hw4_.out.1
        have hw4' := Hw4_.out.2
        have hw8 := Hw8_.out.1
        have hw8' := Hw8_.out.2
        have s1 := S1_.out
        have s2 := S2_.out
        have s3 := S3_.out
        have hconv := HCONV.out
        have hy0 := Hy0_.out.1
        have hy0' := Hy0_.out.2
        have hy1 := Hy1_.out.1
        have hy1' := Hy1_.out.2
        have hy2 := Hy2_.out.1
        have hy2' := Hy2_.out.2
        have hy3 := Hy3_.out.1
        have hy3' := Hy3_.out.2
        have hm0 := Hm0_.out.1
        have hm0' := Hm0_.out.2
        have hm1 := Hm1_.out.1
        have hm1' := Hm1_.out.2
        have hm2 := Hm2_.out.1
        have hm2' := Hm2_.out.2
        have hs1 := Hs1_.out.1
        have hs1' := Hs1_.out.2
        have hs2 := Hs2_.out.1
        have hs2' := Hs2_.out.2
        have hs3 := Hs3_.out.1
        have hs3' := Hs3_.out.2
        have c3b0 := C3b0_.out
        have c3b1 := C3b1_.out
        have c4b0 := C4b0_.out
        have c4b1 := C4b1_.out
        have c6b0 := C6b0_.out
        go_wp2_with (first | ((with_reducible refine gate_callee (f := 33) rfl ?_); refine goesL_ (some 87) rfl rfl Try.func33 (by kernel_rfl) rfl #[.string s] rfl (by (try simp only [List.map_toArray, List.map_cons, List.map_nil]); first | done | rfl) ?_; (with_reducible refine (spec_l2Kind.calls 6 s true _ HKS.out).mono ?_); rintro e_ W1_ ⟨rfl, ⟨nd_, rfl⟩⟩; refine ⟨_, rfl, ?_⟩) | ((with_reducible refine gate_ (.store 37 (.tmp 126) (.tmp 124)) rfl ?_); (refine put_blk_event rfl rfl rfl (g := g) (off := 3) (cur := #[Value.slice (some ad) bs.length cb, Value.slice Ao boxes.length co, Value.int .i64 data, Value.int .i64 0, Value.int .i64 0]) (cur' := #[Value.slice (some ad) bs.length cb, Value.slice Ao boxes.length co, Value.int .i64 data, Value.int .i64 5, Value.int .i64 (p : Int)]) (u := .agg #[.int .i64 5, .int .i64 (p : Int)]) (seg := [Value.int .i64 5, Value.int .i64 (p : Int)]) (by rfl) (by rfl) HG.out rfl (by kernel_rfl) (Nat.le_of_ble_eq_true rfl) (by intro q_ hq_; simp only [List.mem_cons, List.not_mem_nil, or_false] at hq_; rcases hq_ with rfl | rfl <;> rfl) (by rfl) ?_); intro w1_ h1_ h2_ h3_; have H1 := Aside0.mk h1_; have H2 := Aside0.mk (Kd.S_step (Kd.S_step HO.out (fun _ _ _ => rfl)) (fun k_ hk_ _ => h2_ k_ hk_)); have H3 := Aside0.mk (h3_ _ _ HG0.out (Below.mk HB.out.os HB.out.tape HB.out.output HB.out.size HB.out.block)); clear h1_ h2_ h3_))
        go_quiet (fail)
        go_wp2_with (first | ((with_reducible refine gate_callee (f := 33) rfl ?_); refine goesL_ (some 87) rfl rfl Try.func33 (by kernel_rfl) rfl #[.string s] rfl (by (try simp only [List.map_toArray, List.map_cons, List.map_nil]); first | done | rfl) ?_; (with_reducible refine (spec_l2Kind.calls 6 s true _ HKS.out).mono ?_); rintro e_ W1_ ⟨rfl, ⟨nd_, rfl⟩⟩; refine ⟨_, rfl, ?_⟩) | ((with_reducible refine gate_ (.store 37 (.tmp 126) (.tmp 124)) rfl ?_); (refine put_blk_event rfl rfl rfl (g := g) (off := 3) (cur := #[Value.slice (some ad) bs.length cb, Value.slice Ao boxes.length co, Value.int .i64 data, Value.int .i64 0, Value.int .i64 0]) (cur' := #[Value.slice (some ad) bs.length cb, Value.slice Ao boxes.length co, Value.int .i64 data, Value.int .i64 5, Value.int .i64 (p : Int)]) (u := .agg #[.int .i64 5, .int .i64 (p : Int)]) (seg := [Value.int .i64 5, Value.int .i64 (p : Int)]) (by rfl) (by rfl) HG.out rfl (by kernel_rfl) (Nat.le_of_ble_eq_true rfl) (by intro q_ hq_; simp only [List.mem_cons, List.not_mem_nil, or_false] at hq_; rcases hq_ with rfl | rfl <;> rfl) (by rfl) ?_); intro w1_ h1_ h2_ h3_; have H1 := Aside0.mk h1_; have H2 := Aside0.mk (Kd.S_step (Kd.S_step HO.out (fun _ _ _ => rfl)) (fun k_ hk_ _ => h2_ k_ hk_)); have H3 := Aside0.mk (h3_ _ _ HG0.out (Below.mk HB.out.os HB.out.tape HB.out.output HB.out.size HB.out.block)); clear h1_ h2_ h3_))
        refine bodyPost_ret (results_none rfl _ _ _) rfl ?_
        exact ⟨⟨_, rfl⟩, _, H1.out, (Kd.S_step H2.out (fun _ _ _ => rfl)), (Below.mk H3.out.os H3.out.tape H3.out.output H3.out.size H3.out.block)⟩
      rw [if_neg c6] at HR
      have C6b0_ : Aside0 (decide (8 < depth) = false) := ⟨decide_eq_false (by skip; omega)⟩
      have C6 := Aside0.mk c6
      clear c6
      by_cases c7 : boxes.length = 200
      case pos =>
        rw [if_pos c7] at HR
        obtain rfl := Option.some.inj HR
        have C7b0_ : Aside0 ((((boxes.length : Nat) : Int) == 200) = true) := ⟨by skip; simp; omega⟩
        have C7b1_ : Aside0 ((boxes.length == 200) = true) := ⟨by skip; simp; omega⟩
        have C7b2_ : Aside0 (decide (((boxes.length : Nat) : Int) = 200) = true) := ⟨by skip; simp; omega⟩
        have C7b3_ : Aside0 (decide (boxes.length = 200) = true) := ⟨by skip; simp; omega⟩
        clear c7 HR
        have hwm := Hwm_.out.1
        have hwm' := Hwm_.out.2
        have c2b0 := C2b0_.out
        have c2b1 := C2b1_.out
        have p0 := P0_.out
        have q0 := Q0_.out
        have p1 := P1_.out
        have q1 := Q1_.out
        have p2 := P2_.out
        have q2 := Q2_.out
        have p3 := P3_.out
        have q3 := Q3_.out
        have hw1 := Hw1_.out.1
        have hw1' := Hw1_.out.2
        have hw2 := Hw2_.out.1
        have hw2' := Hw2_.out.2
        have hw3 := Hw3_.out.1
        have hw3' := Hw3_.out.2
        have hw4 := Hw4_.out.1
        have hw4' := Hw4_.out.2
        have hw8 := Hw8_.out.1
        have hw8' := Hw8_.out.2
        have s1 := S1_.out
        have s2 := S2_.out
        have s3 := S3_.out
        have hconv := HCONV.out
        have hy0 := Hy0_.out.1
        have hy0' := Hy0_.out.2
        have hy1 := Hy1_.out.1
        have hy1' := Hy1_.out.2
        have hy2 := Hy2_.out.1
        have hy2' := Hy2_.out.2
        have hy3 := Hy3_.out.1
        have hy3' := Hy3_.out.2
        have hm0 := Hm0_.out.1
        have hm0' := Hm0_.out.2
        have hm1 := Hm1_.out.1
        have hm1' := Hm1_.out.2
        have hm2 := Hm2_.out.1
        have hm2' := Hm2_.out.2
        have hs1 := Hs1_.out.1
        have hs1' := Hs1_.out.2
        have hs2 := Hs2_.out.1
        have hs2' := Hs2_.out.2
        have hs3 := Hs3_.out.1
        have hs3' := Hs3_.out.2
        have c3b0 := C3b0_.out
        have c3b1 := C3b1_.out
        have c4b0 := C4b0_.out
        have c4b1 := C4b1_.out
        have c6b0 := C6b0_.out
        have c7b0 := C7b0_.out
        have c7b1 := C7b1_.out
        have c7b2 := C7b2_.out
        have c7b3 := C7b3_.out
        go_wp2_with (first | ((with_reducible refine gate_callee (f := 33) rfl ?_); refine goesL_ (some 87) rfl rfl Try.func33 (by kernel_rfl) rfl #[.string s] rfl (by (try simp only [List.map_toArray, List.map_cons, List.map_nil]); first | done | rfl) ?_; (with_reducible refine (spec_l2Kind.calls 6 s true _ HKS.out).mono ?_); rintro e_ W1_ ⟨rfl, ⟨nd_, rfl⟩⟩; refine ⟨_, rfl, ?_⟩) | ((with_reducible refine gate_ (.store 37 (.tmp 126) (.tmp 124)) rfl ?_); (refine put_blk_event rfl rfl rfl (g := g) (off := 3) (cur := #[Value.slice (some ad) bs.length cb, Value.slice Ao boxes.length co, Value.int .i64 data, Value.int .i64 0, Value.int .i64 0]) (cur' := #[Value.slice (some ad) bs.length cb, Value.slice Ao boxes.length co, Value.int .i64 data, Value.int .i64 6, Value.int .i64 (p : Int)]) (u := .agg #[.int .i64 6, .int .i64 (p : Int)]) (seg := [Value.int .i64 6, Value.int .i64 (p : Int)]) (by rfl) (by rfl) HG.out rfl (by kernel_rfl) (Nat.le_of_ble_eq_true rfl) (by intro q_ hq_; simp only [List.mem_cons, List.not_mem_nil, or_false] at hq_; rcases hq_ with rfl | rfl <;> rfl) (by rfl) ?_); intro w1_ h1_ h2_ h3_; have H1 := Aside0.mk h1_; have H2 := Aside0.mk (Kd.S_step (Kd.S_step HO.out (fun _ _ _ => rfl)) (fun k_ hk_ _ => h2_ k_ hk_)); have H3 := Aside0.mk (h3_ _ _ HG0.out (Below.mk HB.out.os HB.out.tape HB.out.output HB.out.size HB.out.block)); clear h1_ h2_ h3_))
        go_quiet (fail)
        go_wp2_with (first | ((with_reducible refine gate_callee (f := 33) rfl ?_); refine goesL_ (some 87) rfl rfl Try.func33 (by kernel_rfl) rfl #[.string s] rfl (by (try simp only [List.map_toArray, List.map_cons, List.map_nil]); first | done | rfl) ?_; (with_reducible refine (spec_l2Kind.calls 6 s true _ HKS.out).mono ?_); rintro e_ W1_ ⟨rfl, ⟨nd_, rfl⟩⟩; refine ⟨_, rfl, ?_⟩) | ((with_reducible refine gate_ (.store 37 (.tmp 126) (.tmp 124)) rfl ?_); (refine put_blk_event rfl rfl rfl (g := g) (off := 3) (cur := #[Value.slice (some ad) bs.length cb, Value.slice Ao boxes.length co, Value.int .i64 data, Value.int .i64 0, Value.int .i64 0]) (cur' := #[Value.slice (some ad) bs.length cb, Value.slice Ao boxes.length co, Value.int .i64 data, Value.int .i64 6, Value.int .i64 (p : Int)]) (u := .agg #[.int .i64 6, .int .i64 (p : Int)]) (seg := [Value.int .i64 6, Value.int .i64 (p : Int)]) (by rfl) (by rfl) HG.out rfl (by kernel_rfl) (Nat.le_of_ble_eq_true rfl) (by intro q_ hq_; simp only [List.mem_cons, List.not_mem_nil, or_false] at hq_; rcases hq_ with rfl | rfl <;> rfl) (by rfl) ?_); intro w1_ h1_ h2_ h3_; have H1 := Aside0.mk h1_; have H2 := Aside0.mk (Kd.S_step (Kd.S_step HO.out (fun _ _ _ => rfl)) (fun k_ hk_ _ => h2_ k_ hk_)); have H3 := Aside0.mk (h3_ _ _ HG0.out (Below.mk HB.out.os HB.out.tape HB.out.output HB.out.size HB.out.block)); clear h1_ h2_ h3_))
        refine bodyPost_ret (results_none rfl _ _ _) rfl ?_
        exact ⟨⟨_, rfl⟩, _, H1.out, (Kd.S_step H2.out (fun _ _ _ => rfl)), (Below.mk H3.out.os H3.out.tape H3.out.output H3.out.size H3.out.block)⟩
      rw [if_neg c7] at HR
      have C7b0_ : Aside0 ((((boxes.length : Nat) : Int) == 200) = false) := ⟨by skip; simp; omega⟩
      have C7b1_ : Aside0 ((boxes.length == 200) = false) := ⟨by skip; simp; omega⟩
      have C7b2_ : Aside0 (decide (((boxes.length : Nat) : Int) = 200) = false) := ⟨by skip; simp; omega⟩
      have C7b3_ : Aside0 (decide (boxes.length = 200) = false) := ⟨by skip; simp; omega⟩
      have C7 := Aside0.mk c7
      clear c7
      obtain ⟨pn, hpn⟩ : ∃ q : Nat, q = p + n := ⟨_, rfl⟩
      have HPN := Aside0.mk hpn
      rw [← hpn] at HR
      have HPL : Aside0 (pn ≤ en ∧ a8 ≤ pn) := ⟨by have := C4.out; have := HM.out; have := C1.out; have := C3.out; have := HA8.out; omega⟩
      have Hpn_ : Aside0 (wrap64 ((p : Int) + (n : Int)) = (pn : Int) ∧ IntKind.i64.wrap ((p : Int) + (n : Int)) = (pn : Int)) := by
        have h_ : wrap64 ((p : Int) + (n : Int)) = (pn : Int) := by have := HBL.out; have := HEN.out; have := HPL.out; unfold wrap64; omega
        exact ⟨⟨h_, (i64_w _).trans h_⟩⟩
      clear hpn
      by_cases c8 : r_hold s = true
      case pos =>
        rw [if_pos c8] at HR
        have HH : Aside0 (spec_l2Holds.f s = some true) := ⟨by rw [r_hold_s s HSZ.out, c8]⟩
        clear c8
        obtain ⟨⟨b2, d2, cd2, f2⟩, hsub, HR⟩ := Option.bind_eq_some_iff.1 HR
        dsimp only at HR
        obtain ⟨bx, hbx⟩ : ∃ b : List S46, b = boxes ++ [⟨s, depth, []⟩] := ⟨_, rfl⟩
        rw [← hbx] at hsub
        obtain ⟨dp, hdp⟩ : ∃ d : Int, d = depth + 1 := ⟨_, rfl⟩
        rw [← hdp] at hsub
        have Hdp_ : Aside0 (wrap64 (depth + 1) = dp ∧ IntKind.i64.wrap (depth + 1) = dp) := by
          have h_ : wrap64 (depth + 1) = dp := by have := HD.out; unfold wrap64; omega
          exact ⟨⟨h_, (i64_w _).trans h_⟩⟩
        have HSUB := Aside0.mk hsub
        have HBX := Aside0.mk hbx
        have HDP := Aside0.mk hdp
        have HBD : Aside0 (bx.length ≤ 200) := ⟨by rw [hbx, List.length_append]; simp only [List.length_cons, List.length_nil]; have := HX.out; have := C7.out; omega⟩
        have HBB := Aside0.mk (rdr_bounds k1 bs bx data a8 pn dp _ hsub HBD.out HX.out.2.1 HX.out.2.2.1)
        have HDIS : Aside0 ((cd2 = 0 ∧ f2 = 0 ∧ rdr k1 bs b2 d2 pn en depth = some r) ∨ (cd2 ≠ 0 ∧ r = (b2, d2, cd2, f2))) := ⟨by
          by_cases c9 : cd2 = 0
          · exact .inl ⟨c9, rdr_code k1 bs bx data a8 pn dp _ hsub c9, by rw [if_pos c9] at HR; exact HR⟩
          · exact .inr ⟨c9, by rw [if_neg c9] at HR; exact (Option.some.inj HR).symm⟩⟩
        have HQ1 : Aside0 (a8 ≤ bs.length) := ⟨by have := HPL.out; have := HEN.out; omega⟩
        have HQ2 : Aside0 (pn ≤ bs.length) := ⟨by have := HPL.out; have := HEN.out; omega⟩
        have HQ3 : Aside0 (0 ≤ dp) := ⟨by have := HD.out; omega⟩
        have HQ4 : Aside0 (dp ≤ 9) := ⟨by have := C6.out; omega⟩
        have HQ5 := Aside0.mk HX.out.2.1
        have HQ6 := Aside0.mk HX.out.2.2.1
        have HKL : Aside0 (k1 < k) := ⟨by have := HK.out; omega⟩
        have HREC : Aside0 (∀ (vo_ : Value) (W_ : World), Below w0.heap.size w0 W_ → W_.heap[g]? = some (.cells #[.slice (some ad) bs.length cb, vo_, .int .i64 data, .int .i64 0, .int .i64 0] 53 (0, 0)) → Kd.S k46 46 W_ w0.heap.size (fun k_ => k_ ≠ g) vo_ bx → Calls Try.prog 39 #[.pointer (some ⟨g, 0, none⟩), .int .i64 (a8 : Int), .int .i64 (pn : Int), .int .i64 dp] W_ (RdEnd w0 g (some ad) bs.length cb (b2, d2, cd2, f2))) := ⟨fun vo_ W_ h1_ h2_ h3_ => ih k1 HKL.out g vo_ bx data a8 pn dp (b2, d2, cd2, f2) W_ HG0.out h1_ h2_ h3_ HQ1.out HQ2.out HQ3.out HQ4.out HQ5.out HQ6.out HBD.out hsub⟩
        clear hsub HR hbx hdp ih
        have hwm := Hwm_.out.1
        have hwm' := Hwm_.out.2
        have c2b0 := C2b0_.out
        have c2b1 := C2b1_.out
        have p0 := P0_.out
        have q0 := Q0_.out
        have p1 := P1_.out
        have q1 := Q1_.out
        have p2 := P2_.out
        have q2 := Q2_.out
        have p3 := P3_.out
        have q3 := Q3_.out
        have hw1 := Hw1_.out.1
        have hw1' := Hw1_.out.2
        have hw2 := Hw2_.out.1
        have hw2' := Hw2_.out.2
        have hw3 := Hw3_.out.1
        have hw3' := Hw3_.out.2
        have hw4 := Hw4_.out.1
        have hw4' := Hw4_.out.2
        have hw8 := Hw8_.out.1
        have hw8' := Hw8_.out.2
        have s1 := S1_.out
        have s2 := S2_.out
        have s3 := S3_.out
        have hconv := HCONV.out
        have hy0 := Hy0_.out.1
        have hy0' := Hy0_.out.2
        have hy1 := Hy1_.out.1
        have hy1' := Hy1_.out.2
        have hy2 := Hy2_.out.1
        have hy2' := Hy2_.out.2
        have hy3 := Hy3_.out.1
        have hy3' := Hy3_.out.2
        have hm0 := Hm0_.out.1
        have hm0' := Hm0_.out.2
        have hm1 := Hm1_.out.1
        have hm1' := Hm1_.out.2
        have hm2 := Hm2_.out.1
        have hm2' := Hm2_.out.2
        have hs1 := Hs1_.out.1
        have hs1' := Hs1_.out.2
        have hs2 := Hs2_.out.1
        have hs2' := Hs2_.out.2
        have hs3 := Hs3_.out.1
        have hs3' := Hs3_.out.2
        have c3b0 := C3b0_.out
        have c3b1 := C3b1_.out
        have c4b0 := C4b0_.out
        have c4b1 := C4b1_.out
        have c6b0 := C6b0_.out
        have c7b0 := C7b0_.out
        have c7b1 := C7b1_.out
        have c7b2 := C7b2_.out
        have c7b3 := C7b3_.out
        have hpn := Hpn_.out.1
        have hpn' := Hpn_.out.2
        have hdp := Hdp_.out.1
        have hdp' := Hdp_.out.2
        go_wp2_with (first | ((with_reducible refine gate_callee (f := 33) rfl ?_); refine goesL_ (some 87) rfl rfl Try.func33 (by kernel_rfl) rfl #[.string s] rfl (by (try simp only [List.map_toArray, List.map_cons, List.map_nil]); first | done | rfl) ?_; (with_reducible refine (spec_l2Kind.calls 6 s true _ HKS.out).mono ?_); rintro e_ W1_ ⟨rfl, ⟨nd_, rfl⟩⟩; refine ⟨_, rfl, ?_⟩) | ((with_reducible refine gate_dst (N := 101) rfl ?_); (refine gate_guard (by kernel_rfl) ?_; dsimp only); refine goesL_ (some 101) rfl rfl Try.func35 (by kernel_rfl) rfl #[.string s] rfl (by (try simp only [List.map_toArray, List.map_cons, List.map_nil]); first | done | rfl) ?_; (with_reducible refine (spec_l2Holds.calls s true _ HH.out).mono ?_); rintro e_ W1_ ⟨rfl, ⟨nd_, rfl⟩⟩; refine ⟨_, rfl, ?_⟩) | ((with_reducible refine gate_dst (N := 128) rfl ?_); refine goesL_ (some 128) rfl rfl Try.func35 (by kernel_rfl) rfl #[.string s] rfl (by (try simp only [List.map_toArray, List.map_cons, List.map_nil]); first | done | rfl) ?_; (with_reducible refine (spec_l2Holds.calls s true _ HH.out).mono ?_); rintro e_ W1_ ⟨rfl, ⟨nd_, rfl⟩⟩; refine ⟨_, rfl, ?_⟩) | ((with_reducible refine gate_dst (N := 138) rfl ?_); at_builtin; refine Kd.S_append k46 (w0 := w0) w0.heap.size rfl (.tmp 133) (.tmp 137) 25 46 (.agg #[.string ⟨#[]⟩, .int .i64 0, .slice none 0 0]) 48 rfl Try.underlying25 rinfo46 rfl (by decide) (by decide) (.slice Ao boxes.length co) boxes (⟨s, depth, []⟩ : S46) [.string s, .int .i64 depth, .slice none 0 0] (fun k_ => k_ ≠ g) (fun _ => False) rfl rfl ?aP (fun k_ hk_ => hk_.elim) ?aF ?aO ?aB ?aS ?aL ?_; (case aP => exact k46_mkM _ _ _ (⟨s, depth, ([] : List Int)⟩ : S46) (Kd.R_nil _ _ _ _ _)); (case aF => intro k_ hk_ he_; rw [he_] at hk_; exact absurd (blk_lt HG.out) (Nat.not_lt.mpr hk_)); (case aO => exact Kd.S_mono (Kd.S_step HO.out (fun _ _ _ => rfl)) (fun _ hk_ => ⟨hk_, fun f_ => f_⟩)); (case aB => exact (Below.mk HB.out.os HB.out.tape HB.out.output HB.out.size HB.out.block)); (case aS => exact HB.out.size); (case aL => have := HX.out; omega); intro v1_ W2_ ho_ hb_ hg_ hat_; rw [← HBX.out] at ho_; have HO2 := Aside0.mk ho_; have HB2 := Aside0.mk hb_; have HG2 := Aside0.mk ((hg_.block g (blk_lt HG.out) (Kd.S_away HO.out (fun _ hk_ => hk_))).trans HG.out); obtain ⟨A1, c1_, e1_⟩ := Kd.S_slice ho_; subst e1_; clear ho_ hb_ hg_ hat_) | ((with_reducible refine gate_ (.store 25 (.tmp 140) (.tmp 138)) rfl ?_); (refine put_blk_event rfl rfl rfl (g := g) (off := 1) (cur := #[Value.slice (some ad) bs.length cb, Value.slice Ao boxes.length co, Value.int .i64 data, Value.int .i64 0, Value.int .i64 0]) (cur' := #[Value.slice (some ad) bs.length cb, Value.slice A1 bx.length c1_, Value.int .i64 data, Value.int .i64 0, Value.int .i64 0]) (u := .slice A1 bx.length c1_) (seg := [Value.slice A1 bx.length c1_]) (by rfl) (by rfl) HG2.out rfl (by kernel_rfl) (Nat.le_of_ble_eq_true rfl) (by intro q_ hq_; simp only [List.mem_cons, List.not_mem_nil, or_false] at hq_; rcases hq_ with rfl <;> rfl) (by rfl) ?_); intro W3_ h1_ h2_ h3_; have HG3 := Aside0.mk h1_; have HO3 := Aside0.mk (Kd.S_step (Kd.S_step HO2.out (fun _ _ _ => rfl)) (fun k_ hk_ _ => h2_ k_ hk_)); have HB3 := Aside0.mk (h3_ _ _ HG0.out (Below.mk HB2.out.os HB2.out.tape HB2.out.output HB2.out.size HB2.out.block)); clear h1_ h2_ h3_) | ((with_reducible refine gate_callee (f := 39) rfl ?_); refine goesL_ (some 149) rfl rfl Try.func39 (by kernel_rfl) rfl #[.pointer (some ⟨g, 0, none⟩), .int .i64 (a8 : Int), .int .i64 (pn : Int), .int .i64 dp] rfl (by (try simp only [List.map_toArray, List.map_cons, List.map_nil]); first | done | rfl) ?_; (with_reducible refine (HREC.out (.slice A1 bx.length c1_) W3_ HB3.out HG3.out HO3.out).mono ?_); rintro e_ W4_ ⟨⟨v_, rfl⟩, vo4, h1_, h2_, h3_⟩; refine ⟨_, rfl, ?_⟩; have HG4 := Aside0.mk h1_; have HO4 := Aside0.mk h2_; have HB4 := Aside0.mk h3_; clear h1_ h2_ h3_))
        go_quiet (fail)
        go_wp2_with (first | ((with_reducible refine gate_callee (f := 33) rfl ?_); refine goesL_ (some 87) rfl rfl Try.func33 (by kernel_rfl) rfl #[.string s] rfl (by (try simp only [List.map_toArray, List.map_cons, List.map_nil]); first | done | rfl) ?_; (with_reducible refine (spec_l2Kind.calls 6 s true _ HKS.out).mono ?_); rintro e_ W1_ ⟨rfl, ⟨nd_, rfl⟩⟩; refine ⟨_, rfl, ?_⟩) | ((with_reducible refine gate_dst (N := 101) rfl ?_); (refine gate_guard (by kernel_rfl) ?_; dsimp only); refine goesL_ (some 101) rfl rfl Try.func35 (by kernel_rfl) rfl #[.string s] rfl (by (try simp only [List.map_toArray, List.map_cons, List.map_nil]); first | done | rfl) ?_; (with_reducible refine (spec_l2Holds.calls s true _ HH.out).mono ?_); rintro e_ W1_ ⟨rfl, ⟨nd_, rfl⟩⟩; refine ⟨_, rfl, ?_⟩) | ((with_reducible refine gate_dst (N := 128) rfl ?_); refine goesL_ (some 128) rfl rfl Try.func35 (by kernel_rfl) rfl #[.string s] rfl (by (try simp only [List.map_toArray, List.map_cons, List.map_nil]); first | done | rfl) ?_; (with_reducible refine (spec_l2Holds.calls s true _ HH.out).mono ?_); rintro e_ W1_ ⟨rfl, ⟨nd_, rfl⟩⟩; refine ⟨_, rfl, ?_⟩) | ((with_reducible refine gate_dst (N := 138) rfl ?_); at_builtin; refine Kd.S_append k46 (w0 := w0) w0.heap.size rfl (.tmp 133) (.tmp 137) 25 46 (.agg #[.string ⟨#[]⟩, .int .i64 0, .slice none 0 0]) 48 rfl Try.underlying25 rinfo46 rfl (by decide) (by decide) (.slice Ao boxes.length co) boxes (⟨s, depth, []⟩ : S46) [.string s, .int .i64 depth, .slice none 0 0] (fun k_ => k_ ≠ g) (fun _ => False) rfl rfl ?aP (fun k_ hk_ => hk_.elim) ?aF ?aO ?aB ?aS ?aL ?_; (case aP => exact k46_mkM _ _ _ (⟨s, depth, ([] : List Int)⟩ : S46) (Kd.R_nil _ _ _ _ _)); (case aF => intro k_ hk_ he_; rw [he_] at hk_; exact absurd (blk_lt HG.out) (Nat.not_lt.mpr hk_)); (case aO => exact Kd.S_mono (Kd.S_step HO.out (fun _ _ _ => rfl)) (fun _ hk_ => ⟨hk_, fun f_ => f_⟩)); (case aB => exact (Below.mk HB.out.os HB.out.tape HB.out.output HB.out.size HB.out.block)); (case aS => exact HB.out.size); (case aL => have := HX.out; omega); intro v1_ W2_ ho_ hb_ hg_ hat_; rw [← HBX.out] at ho_; have HO2 := Aside0.mk ho_; have HB2 := Aside0.mk hb_; have HG2 := Aside0.mk ((hg_.block g (blk_lt HG.out) (Kd.S_away HO.out (fun _ hk_ => hk_))).trans HG.out); obtain ⟨A1, c1_, e1_⟩ := Kd.S_slice ho_; subst e1_; clear ho_ hb_ hg_ hat_) | ((with_reducible refine gate_ (.store 25 (.tmp 140) (.tmp 138)) rfl ?_); (refine put_blk_event rfl rfl rfl (g := g) (off := 1) (cur := #[Value.slice (some ad) bs.length cb, Value.slice Ao boxes.length co, Value.int .i64 data, Value.int .i64 0, Value.int .i64 0]) (cur' := #[Value.slice (some ad) bs.length cb, Value.slice A1 bx.length c1_, Value.int .i64 data, Value.int .i64 0, Value.int .i64 0]) (u := .slice A1 bx.length c1_) (seg := [Value.slice A1 bx.length c1_]) (by rfl) (by rfl) HG2.out rfl (by kernel_rfl) (Nat.le_of_ble_eq_true rfl) (by intro q_ hq_; simp only [List.mem_cons, List.not_mem_nil, or_false] at hq_; rcases hq_ with rfl <;> rfl) (by rfl) ?_); intro W3_ h1_ h2_ h3_; have HG3 := Aside0.mk h1_; have HO3 := Aside0.mk (Kd.S_step (Kd.S_step HO2.out (fun _ _ _ => rfl)) (fun k_ hk_ _ => h2_ k_ hk_)); have HB3 := Aside0.mk (h3_ _ _ HG0.out (Below.mk HB2.out.os HB2.out.tape HB2.out.output HB2.out.size HB2.out.block)); clear h1_ h2_ h3_) | ((with_reducible refine gate_callee (f := 39) rfl ?_); refine goesL_ (some 149) rfl rfl Try.func39 (by kernel_rfl) rfl #[.pointer (some ⟨g, 0, none⟩), .int .i64 (a8 : Int), .int .i64 (pn : Int), .int .i64 dp] rfl (by (try simp only [List.map_toArray, List.map_cons, List.map_nil]); first | done | rfl) ?_; (with_reducible refine (HREC.out (.slice A1 bx.length c1_) W3_ HB3.out HG3.out HO3.out).mono ?_); rintro e_ W4_ ⟨⟨v_, rfl⟩, vo4, h1_, h2_, h3_⟩; refine ⟨_, rfl, ?_⟩; have HG4 := Aside0.mk h1_; have HO4 := Aside0.mk h2_; have HB4 := Aside0.mk h3_; clear h1_ h2_ h3_))
        go_roundg k1
        case measure => omega
        case rel => exact ⟨b2, d2, cd2, f2, vo4, pn, (by first | rfl | (simp; done) | (simp [*]; done)), HDIS, ⟨by have := HKL.out; omega⟩, HG4, HO4, HB4, ⟨by have := HPL.out; have := HEN.out; omega, HBB.out.2.1, HBB.out.2.2, HBB.out.1⟩⟩
      rw [if_neg c8] at HR
      have HH : Aside0 (spec_l2Holds.f s = some false) := ⟨by rw [r_hold_s s HSZ.out]; simpa using c8⟩
      clear c8
      obtain ⟨dn, hdn⟩ : ∃ d : Int, d = data + (n : Int) := ⟨_, rfl⟩
      obtain ⟨dd, hdd⟩ : ∃ d : Int, d = data + ((n : Int) - 8) := ⟨_, rfl⟩
      have Hdn_ : Aside0 (wrap64 (data + (n : Int)) = dn ∧ IntKind.i64.wrap (data + (n : Int)) = dn) := by
        have h_ : wrap64 (data + (n : Int)) = dn := by have := HX.out; have := HNB.out; unfold wrap64; omega
        exact ⟨⟨h_, (i64_w _).trans h_⟩⟩
      have Hdd_ : Aside0 (wrap64 (dn - 8) = dd ∧ IntKind.i64.wrap (dn - 8) = dd) := by
        have h_ : wrap64 (dn - 8) = dd := by have := HX.out; have := HNB.out; unfold wrap64; omega
        exact ⟨⟨h_, (i64_w _).trans h_⟩⟩
      rw [← hdd] at HR
      have HDD := Aside0.mk hdd
      clear hdn hdd
      by_cases c9 : 20000 < dd
      case pos =>
        rw [if_pos c9] at HR
        obtain rfl := Option.some.inj HR
        have C9b0_ : Aside0 (decide (20000 < dd) = true) := ⟨decide_eq_true (by skip; omega)⟩
        clear c9 HR
        have hwm := Hwm_.out.1
        have hwm' := Hwm_.out.2
        have c2b0 := C2b0_.out
        have c2b1 := C2b1_.out
        have p0 := P0_.out
        have q0 := Q0_.out
        have p1 := P1_.out
        have q1 := Q1_.out
        have p2 := P2_.out
        have q2 := Q2_.out
        have p3 := P3_.out
        have q3 := Q3_.out
        have hw1 := Hw1_.out.1
        have hw1' := Hw1_.out.2
        have hw2 := Hw2_.out.1
        have hw2' := Hw2_.out.2
        have hw3 := Hw3_.out.1
        have hw3' := Hw3_.out.2
        have hw4 := Hw4_.out.1
        have hw4' := Hw4_.out.2
        have hw8 := Hw8_.out.1
        have hw8' := Hw8_.out.2
        have s1 := S1_.out
        have s2 := S2_.out
        have s3 := S3_.out
        have hconv := HCONV.out
        have hy0 := Hy0_.out.1
        have hy0' := Hy0_.out.2
        have hy1 := Hy1_.out.1
        have hy1' := Hy1_.out.2
        have hy2 := Hy2_.out.1
        have hy2' := Hy2_.out.2
        have hy3 := Hy3_.out.1
        have hy3' := Hy3_.out.2
        have hm0 := Hm0_.out.1
        have hm0' := Hm0_.out.2
        have hm1 := Hm1_.out.1
        have hm1' := Hm1_.out.2
        have hm2 := Hm2_.out.1
        have hm2' := Hm2_.out.2
        have hs1 := Hs1_.out.1
        have hs1' := Hs1_.out.2
        have hs2 := Hs2_.out.1
        have hs2' := Hs2_.out.2
        have hs3 := Hs3_.out.1
        have hs3' := Hs3_.out.2
        have c3b0 := C3b0_.out
        have c3b1 := C3b1_.out
        have c4b0 := C4b0_.out
        have c4b1 := C4b1_.out
        have c6b0 := C6b0_.out
        have c7b0 := C7b0_.out
        have c7b1 := C7b1_.out
        have c7b2 := C7b2_.out
        have c7b3 := C7b3_.out
        have hpn := Hpn_.out.1
        have hpn' := Hpn_.out.2
        have hdn := Hdn_.out.1
        have hdn' := Hdn_.out.2
        have hdd := Hdd_.out.1
        have hdd' := Hdd_.out.2
        have c9b0 := C9b0_.out
        go_wp2_with (first | ((with_reducible refine gate_callee (f := 33) rfl ?_); refine goesL_ (some 87) rfl rfl Try.func33 (by kernel_rfl) rfl #[.string s] rfl (by (try simp only [List.map_toArray, List.map_cons, List.map_nil]); first | done | rfl) ?_; (with_reducible refine (spec_l2Kind.calls 6 s true _ HKS.out).mono ?_); rintro e_ W1_ ⟨rfl, ⟨nd_, rfl⟩⟩; refine ⟨_, rfl, ?_⟩) | ((with_reducible refine gate_dst (N := 101) rfl ?_); (refine gate_guard (by kernel_rfl) ?_; dsimp only); refine goesL_ (some 101) rfl rfl Try.func35 (by kernel_rfl) rfl #[.string s] rfl (by (try simp only [List.map_toArray, List.map_cons, List.map_nil]); first | done | rfl) ?_; (with_reducible refine (spec_l2Holds.calls s false _ HH.out).mono ?_); rintro e_ W1_ ⟨rfl, ⟨nd_, rfl⟩⟩; refine ⟨_, rfl, ?_⟩) | ((with_reducible refine gate_ (.store 37 (.tmp 126) (.tmp 124)) rfl ?_); (refine put_blk_event rfl rfl rfl (g := g) (off := 3) (cur := #[Value.slice (some ad) bs.length cb, Value.slice Ao boxes.length co, Value.int .i64 data, Value.int .i64 0, Value.int .i64 0]) (cur' := #[Value.slice (some ad) bs.length cb, Value.slice Ao boxes.length co, Value.int .i64 data, Value.int .i64 6, Value.int .i64 (p : Int)]) (u := .agg #[.int .i64 6, .int .i64 (p : Int)]) (seg := [Value.int .i64 6, Value.int .i64 (p : Int)]) (by rfl) (by rfl) HG.out rfl (by kernel_rfl) (Nat.le_of_ble_eq_true rfl) (by intro q_ hq_; simp only [List.mem_cons, List.not_mem_nil, or_false] at hq_; rcases hq_ with rfl | rfl <;> rfl) (by rfl) ?_); intro w1_ h1_ h2_ h3_; have H1 := Aside0.mk h1_; have H2 := Aside0.mk (Kd.S_step (Kd.S_step HO.out (fun _ _ _ => rfl)) (fun k_ hk_ _ => h2_ k_ hk_)); have H3 := Aside0.mk (h3_ _ _ HG0.out (Below.mk HB.out.os HB.out.tape HB.out.output HB.out.size HB.out.block)); clear h1_ h2_ h3_))
        go_quiet (fail)
        go_wp2_with (first | ((with_reducible refine gate_callee (f := 33) rfl ?_); refine goesL_ (some 87) rfl rfl Try.func33 (by kernel_rfl) rfl #[.string s] rfl (by (try simp only [List.map_toArray, List.map_cons, List.map_nil]); first | done | rfl) ?_; (with_reducible refine (spec_l2Kind.calls 6 s true _ HKS.out).mono ?_); rintro e_ W1_ ⟨rfl, ⟨nd_, rfl⟩⟩; refine ⟨_, rfl, ?_⟩) | ((with_reducible refine gate_dst (N := 101) rfl ?_); (refine gate_guard (by kernel_rfl) ?_; dsimp only); refine goesL_ (some 101) rfl rfl Try.func35 (by kernel_rfl) rfl #[.string s] rfl (by (try simp only [List.map_toArray, List.map_cons, List.map_nil]); first | done | rfl) ?_; (with_reducible refine (spec_l2Holds.calls s false _ HH.out).mono ?_); rintro e_ W1_ ⟨rfl, ⟨nd_, rfl⟩⟩; refine ⟨_, rfl, ?_⟩) | ((with_reducible refine gate_ (.store 37 (.tmp 126) (.tmp 124)) rfl ?_); (refine put_blk_event rfl rfl rfl (g := g) (off := 3) (cur := #[Value.slice (some ad) bs.length cb, Value.slice Ao boxes.length co, Value.int .i64 data, Value.int .i64 0, Value.int .i64 0]) (cur' := #[Value.slice (some ad) bs.length cb, Value.slice Ao boxes.length co, Value.int .i64 data, Value.int .i64 6, Value.int .i64 (p : Int)]) (u := .agg #[.int .i64 6, .int .i64 (p : Int)]) (seg := [Value.int .i64 6, Value.int .i64 (p : Int)]) (by rfl) (by rfl) HG.out rfl (by kernel_rfl) (Nat.le_of_ble_eq_true rfl) (by intro q_ hq_; simp only [List.mem_cons, List.not_mem_nil, or_false] at hq_; rcases hq_ with rfl | rfl <;> rfl) (by rfl) ?_); intro w1_ h1_ h2_ h3_; have H1 := Aside0.mk h1_; have H2 := Aside0.mk (Kd.S_step (Kd.S_step HO.out (fun _ _ _ => rfl)) (fun k_ hk_ _ => h2_ k_ hk_)); have H3 := Aside0.mk (h3_ _ _ HG0.out (Below.mk HB.out.os HB.out.tape HB.out.output HB.out.size HB.out.block)); clear h1_ h2_ h3_))
        refine bodyPost_ret (results_none rfl _ _ _) rfl ?_
        exact ⟨⟨_, rfl⟩, _, H1.out, (Kd.S_step H2.out (fun _ _ _ => rfl)), (Below.mk H3.out.os H3.out.tape H3.out.output H3.out.size H3.out.block)⟩
      rw [if_neg c9] at HR
      have C9b0_ : Aside0 (decide (20000 < dd) = false) := ⟨decide_eq_false (by skip; omega)⟩
      have C9 := Aside0.mk c9
      clear c9
      obtain ⟨ys, hys⟩ : ∃ l : List Int, l = (bs.take pn).drop a8 := ⟨_, rfl⟩
      rw [← hys] at HR
      obtain ⟨bx, hbx⟩ : ∃ b : List S46, b = boxes ++ [⟨s, depth, ys⟩] := ⟨_, rfl⟩
      rw [← hbx] at HR
      have HR2 := Aside0.mk HR
      have HBX := Aside0.mk hbx
      have HBD : Aside0 (bx.length ≤ 200) := ⟨by rw [hbx, List.length_append]; simp only [List.length_cons, List.length_nil]; have := HX.out; have := C7.out; omega⟩
      have HYL : Aside0 (ys.length = pn - a8) := ⟨by rw [hys, List.length_drop, List.length_take]; have := HPL.out; have := HEN.out; omega⟩
      have HYC : Aside0 (∀ W_ : World, Below w0.heap.size w0 W_ → Kd.C (Kd.int .u8) W_ (if cb = a8 then some ad else some (ad.add a8)) ys.length ys) := ⟨fun W_ hb_ => by
        have h_ := Kd.C_mid (c := cb) (lo := a8) (hi := pn) (Kd.C_below HC0.out hb_) HPL.out.2 (by have := HPL.out; have := HEN.out; omega) HCB.out
        rw [hys]
        simpa [Kd.int, Kd.scalar] using h_⟩
      have HKL : Aside0 (k1 < k) := ⟨by have := HK.out; omega⟩
      have S4_ : Aside0 ((pn ≤ cb) = True) := ⟨eq_true (by have := HPL.out; have := HEN.out; have := HCB.out; omega)⟩
      have S5_ : Aside0 ((a8 ≤ pn) = True) := ⟨eq_true HPL.out.2⟩
      clear HR hbx hys ih
      have hwm := Hwm_.out.1
      have hwm' := Hwm_.out.2
      have c2b0 := C2b0_.out
      have c2b1 := C2b1_.out
      have p0 := P0_.out
      have q0 := Q0_.out
      have p1 := P1_.out
      have q1 := Q1_.out
      have p2 := P2_.out
      have q2 := Q2_.out
      have p3 := P3_.out
      have q3 := Q3_.out
      have hw1 := Hw1_.out.1
      have hw1' := Hw1_.out.2
      have hw2 := Hw2_.out.1
      have hw2' := Hw2_.out.2
      have hw3 := Hw3_.out.1
      have hw3' := Hw3_.out.2
      have hw4 := Hw4_.out.1
      have hw4' := Hw4_.out.2
      have hw8 := Hw8_.out.1
      have hw8' := Hw8_.out.2
      have s1 := S1_.out
      have s2 := S2_.out
      have s3 := S3_.out
      have hconv := HCONV.out
      have hy0 := Hy0_.out.1
      have hy0' := Hy0_.out.2
      have hy1 := Hy1_.out.1
      have hy1' := Hy1_.out.2
      have hy2 := Hy2_.out.1
      have hy2' := Hy2_.out.2
      have hy3 := Hy3_.out.1
      have hy3' := Hy3_.out.2
      have hm0 := Hm0_.out.1
      have hm0' := Hm0_.out.2
      have hm1 := Hm1_.out.1
      have hm1' := Hm1_.out.2
      have hm2 := Hm2_.out.1
      have hm2' := Hm2_.out.2
      have hs1 := Hs1_.out.1
      have hs1' := Hs1_.out.2
      have hs2 := Hs2_.out.1
      have hs2' := Hs2_.out.2
      have hs3 := Hs3_.out.1
      have hs3' := Hs3_.out.2
      have c3b0 := C3b0_.out
      have c3b1 := C3b1_.out
      have c4b0 := C4b0_.out
      have c4b1 := C4b1_.out
      have c6b0 := C6b0_.out
      have c7b0 := C7b0_.out
      have c7b1 := C7b1_.out
      have c7b2 := C7b2_.out
      have c7b3 := C7b3_.out
      have hpn := Hpn_.out.1
      have hpn' := Hpn_.out.2
      have hdn := Hdn_.out.1
      have hdn' := Hdn_.out.2
      have hdd := Hdd_.out.1
      have hdd' := Hdd_.out.2
      have c9b0 := C9b0_.out
      have s4 := S4_.out
      have s5 := S5_.out
      go_wp2_with (first | ((with_reducible refine gate_callee (f := 33) rfl ?_); refine goesL_ (some 87) rfl rfl Try.func33 (by kernel_rfl) rfl #[.string s] rfl (by (try simp only [List.map_toArray, List.map_cons, List.map_nil]); first | done | rfl) ?_; (with_reducible refine (spec_l2Kind.calls 6 s true _ HKS.out).mono ?_); rintro e_ W1_ ⟨rfl, ⟨nd_, rfl⟩⟩; refine ⟨_, rfl, ?_⟩) | ((with_reducible refine gate_dst (N := 101) rfl ?_); (refine gate_guard (by kernel_rfl) ?_; dsimp only); refine goesL_ (some 101) rfl rfl Try.func35 (by kernel_rfl) rfl #[.string s] rfl (by (try simp only [List.map_toArray, List.map_cons, List.map_nil]); first | done | rfl) ?_; (with_reducible refine (spec_l2Holds.calls s false _ HH.out).mono ?_); rintro e_ W1_ ⟨rfl, ⟨nd_, rfl⟩⟩; refine ⟨_, rfl, ?_⟩) | ((with_reducible refine gate_dst (N := 128) rfl ?_); refine goesL_ (some 128) rfl rfl Try.func35 (by kernel_rfl) rfl #[.string s] rfl (by (try simp only [List.map_toArray, List.map_cons, List.map_nil]); first | done | rfl) ?_; (with_reducible refine (spec_l2Holds.calls s false _ HH.out).mono ?_); rintro e_ W1_ ⟨rfl, ⟨nd_, rfl⟩⟩; refine ⟨_, rfl, ?_⟩) | ((with_reducible refine gate_ (.store 3 (.tmp 159) (.tmp 157)) rfl ?_); (refine put_blk_event rfl rfl rfl (g := g) (off := 2) (cur := #[Value.slice (some ad) bs.length cb, Value.slice Ao boxes.length co, Value.int .i64 data, Value.int .i64 0, Value.int .i64 0]) (cur' := #[Value.slice (some ad) bs.length cb, Value.slice Ao boxes.length co, Value.int .i64 dd, Value.int .i64 0, Value.int .i64 0]) (u := .int .i64 dd) (seg := [Value.int .i64 dd]) (by rfl) (by rfl) HG.out rfl (by kernel_rfl) (Nat.le_of_ble_eq_true rfl) (by intro q_ hq_; simp only [List.mem_cons, List.not_mem_nil, or_false] at hq_; rcases hq_ with rfl <;> rfl) (by rfl) ?_); intro W3_ h1_ h2_ h3_; have HG3 := Aside0.mk h1_; have HO3 := Aside0.mk (Kd.S_step (Kd.S_step HO.out (fun _ _ _ => rfl)) (fun k_ hk_ _ => h2_ k_ hk_)); have HB3 := Aside0.mk (h3_ _ _ HG0.out (Below.mk HB.out.os HB.out.tape HB.out.output HB.out.size HB.out.block)); clear h1_ h2_ h3_))
      go_quiet (fail)
      go_wp2_with (first | ((with_reducible refine gate_callee (f := 33) rfl ?_); refine goesL_ (some 87) rfl rfl Try.func33 (by kernel_rfl) rfl #[.string s] rfl (by (try simp only [List.map_toArray, List.map_cons, List.map_nil]); first | done | rfl) ?_; (with_reducible refine (spec_l2Kind.calls 6 s true _ HKS.out).mono ?_); rintro e_ W1_ ⟨rfl, ⟨nd_, rfl⟩⟩; refine ⟨_, rfl, ?_⟩) | ((with_reducible refine gate_dst (N := 101) rfl ?_); (refine gate_guard (by kernel_rfl) ?_; dsimp only); refine goesL_ (some 101) rfl rfl Try.func35 (by kernel_rfl) rfl #[.string s] rfl (by (try simp only [List.map_toArray, List.map_cons, List.map_nil]); first | done | rfl) ?_; (with_reducible refine (spec_l2Holds.calls s false _ HH.out).mono ?_); rintro e_ W1_ ⟨rfl, ⟨nd_, rfl⟩⟩; refine ⟨_, rfl, ?_⟩) | ((with_reducible refine gate_dst (N := 128) rfl ?_); refine goesL_ (some 128) rfl rfl Try.func35 (by kernel_rfl) rfl #[.string s] rfl (by (try simp only [List.map_toArray, List.map_cons, List.map_nil]); first | done | rfl) ?_; (with_reducible refine (spec_l2Holds.calls s false _ HH.out).mono ?_); rintro e_ W1_ ⟨rfl, ⟨nd_, rfl⟩⟩; refine ⟨_, rfl, ?_⟩) | ((with_reducible refine gate_ (.store 3 (.tmp 159) (.tmp 157)) rfl ?_); (refine put_blk_event rfl rfl rfl (g := g) (off := 2) (cur := #[Value.slice (some ad) bs.length cb, Value.slice Ao boxes.length co, Value.int .i64 data, Value.int .i64 0, Value.int .i64 0]) (cur' := #[Value.slice (some ad) bs.length cb, Value.slice Ao boxes.length co, Value.int .i64 dd, Value.int .i64 0, Value.int .i64 0]) (u := .int .i64 dd) (seg := [Value.int .i64 dd]) (by rfl) (by rfl) HG.out rfl (by kernel_rfl) (Nat.le_of_ble_eq_true rfl) (by intro q_ hq_; simp only [List.mem_cons, List.not_mem_nil, or_false] at hq_; rcases hq_ with rfl <;> rfl) (by rfl) ?_); intro W3_ h1_ h2_ h3_; have HG3 := Aside0.mk h1_; have HO3 := Aside0.mk (Kd.S_step (Kd.S_step HO.out (fun _ _ _ => rfl)) (fun k_ hk_ _ => h2_ k_ hk_)); have HB3 := Aside0.mk (h3_ _ _ HG0.out (Below.mk HB.out.os HB.out.tape HB.out.output HB.out.size HB.out.block)); clear h1_ h2_ h3_))
      refine start_ (n := 25) (S := fun w' => w'.heap[g]? = some (.cells #[Value.slice (some ad) bs.length cb, Value.slice Ao boxes.length co, Value.int .i64 dd, Value.int .i64 0, Value.int .i64 0] 53 (0, 0))) (ds := [24]) #[false, false, false, false, false, false, false, false, false, false, false, false, false, false, false, false, false, false, false, false, false, false, false, false, false] (by kernel_rfl) rfl rfl HG3.out (fun hHeld => ?_)
      clear hconv
      have HO4 : Aside0 (Kd.S k46 46 (World.drew W3_) w0.heap.size (fun k_ => k_ ≠ g ∧ k_ < W3_.heap.size) (.slice Ao boxes.length co) boxes) := ⟨Kd.S_mono (Kd.S_bound (Kd.S_drew HO3.out)) (fun k_ hk_ => ⟨hk_.1, hk_.2.2.1⟩)⟩
      have HB4 : Aside0 (Below w0.heap.size w0 (World.drew W3_)) := ⟨(Below.mk HB3.out.os HB3.out.tape HB3.out.output HB3.out.size HB3.out.block)⟩
      have HGL : Aside0 (g < W3_.heap.size) := ⟨blk_lt HG3.out⟩
      have HVS : Aside0 (W3_.heap.size ≤ (World.drew W3_).heap.size) := ⟨Nat.le_refl _⟩
      generalize World.drew W3_ = V at hHeld HO4 HB4 HVS ⊢
      generalize W3_.heap.size = hv at HO4 HGL HVS
      clear HG3 HO3 HB3 HO HB HG
      refine pure_ (i := 0) (N := some 160) (v := ?_) (a' := ?_) #[true, false, false, false, false, false, false, false, false, false, false, false, false, false, false, false, false, false, false, false, false, false, false, false, false] rfl rfl (by kernel_rfl) (fun _ _ _ h => h) (Or.inl ⟨by rfl, ?_⟩) ?_ ?_
      rotate_left
      · intro w'
        go_simp
        with_reducible rfl
      rotate_left
      · simp only [Act.put, List.setIfInBounds_toArray, List.set_cons_zero, List.set_cons_succ, i64_w, i32_w]
        rfl
      refine pure_ (i := 1) (N := some 161) (v := ?_) (a' := ?_) #[true, true, false, false, false, false, false, false, false, false, false, false, false, false, false, false, false, false, false, false, false, false, false, false, false] rfl rfl (by kernel_rfl) (fun _ _ _ h => h) (Or.inl ⟨by rfl, ?_⟩) ?_ ?_
      rotate_left
      · intro w'
        go_simp
        with_reducible rfl
      rotate_left
      · simp only [Act.put, List.setIfInBounds_toArray, List.set_cons_zero, List.set_cons_succ, i64_w, i32_w]
        rfl
      refine pure_ (i := 2) (N := some 162) (v := ?_) (a' := ?_) #[true, true, true, false, false, false, false, false, false, false, false, false, false, false, false, false, false, false, false, false, false, false, false, false, false] rfl rfl (by kernel_rfl) (fun _ _ _ h => h) (Or.inl ⟨by rfl, ?_⟩) ?_ ?_
      rotate_left
      · intro w'
        go_simp
        with_reducible rfl
      rotate_left
      · simp only [Act.put, List.setIfInBounds_toArray, List.set_cons_zero, List.set_cons_succ, i64_w, i32_w]
        rfl
      refine pure_ (i := 3) (N := some 163) (v := ?_) (a' := ?_) #[true, true, true, true, false, false, false, false, false, false, false, false, false, false, false, false, false, false, false, false, false, false, false, false, false] rfl rfl (by kernel_rfl) (fun _ _ _ h => h) (Or.inl ⟨by rfl, ?_⟩) ?_ ?_
      rotate_left
      · intro w'
        go_simp
        with_reducible rfl
      rotate_left
      · simp only [Act.put, List.setIfInBounds_toArray, List.set_cons_zero, List.set_cons_succ, i64_w, i32_w]
        rfl
      refine take_ (i := 4) (N := some 164) (v := ?_) (a' := ?_) #[true, true, true, true, true, false, false, false, false, false, false, false, false, false, false, false, false, false, false, false, false, false, false, false, false] rfl rfl (by kernel_rfl) (fun _ _ _ h => h) (Or.inl ⟨by rfl, ?_⟩) hHeld ?_ ?_
      rotate_left
      · intro w' hS
        have hcl_ : w'.cell? ⟨g, 1, none⟩ = some (.slice Ao boxes.length co) := (blk_cell hS 1).trans rfl
        go_simp
        with_reducible rfl
      rotate_left
      · simp only [Act.put, List.setIfInBounds_toArray, List.set_cons_zero, List.set_cons_succ, i64_w, i32_w]
        rfl
      refine pure_ (i := 5) (N := some 165) (v := ?_) (a' := ?_) #[true, true, true, true, true, true, false, false, false, false, false, false, false, false, false, false, false, false, false, false, false, false, false, false, false] rfl rfl (by kernel_rfl) (fun _ _ _ h => h) (Or.inl ⟨by rfl, ?_⟩) ?_ ?_
      rotate_left
      · intro w'
        go_simp
        with_reducible rfl
      rotate_left
      · simp only [Act.put, List.setIfInBounds_toArray, List.set_cons_zero, List.set_cons_succ, i64_w, i32_w]
        rfl
      refine pure_ (i := 6) (N := some 166) (v := ?_) (a' := ?_) #[true, true, true, true, true, true, true, false, false, false, false, false, false, false, false, false, false, false, false, false, false, false, false, false, false] rfl rfl (by kernel_rfl) (fun _ _ _ h => h) (Or.inl ⟨by rfl, ?_⟩) ?_ ?_
      rotate_left
      · intro w'
        go_simp
        with_reducible rfl
      rotate_left
      · simp only [Act.put, List.setIfInBounds_toArray, List.set_cons_zero, List.set_cons_succ, i64_w, i32_w]
        rfl
      refine pure_ (i := 8) (N := some 168) (v := ?_) (a' := ?_) #[true, true, true, true, true, true, true, false, true, false, false, false, false, false, false, false, false, false, false, false, false, false, false, false, false] rfl rfl (by kernel_rfl) (fun _ _ _ h => h) (Or.inl ⟨by rfl, ?_⟩) ?_ ?_
      rotate_left
      · intro w'
        go_simp
        with_reducible rfl
      rotate_left
      · simp only [Act.put, List.setIfInBounds_toArray, List.set_cons_zero, List.set_cons_succ, i64_w, i32_w]
        rfl
      refine pure_ (i := 9) (N := some 169) (v := ?_) (a' := ?_) #[true, true, true, true, true, true, true, false, true, true, false, false, false, false, false, false, false, false, false, false, false, false, false, false, false] rfl rfl (by kernel_rfl) (fun _ _ _ h => h) (Or.inl ⟨by rfl, ?_⟩) ?_ ?_
      rotate_left
      · intro w'
        go_simp
        with_reducible rfl
      rotate_left
      · simp only [Act.put, List.setIfInBounds_toArray, List.set_cons_zero, List.set_cons_succ, i64_w, i32_w]
        rfl
      refine pure_ (i := 10) (N := some 170) (v := ?_) (a' := ?_) #[true, true, true, true, true, true, true, false, true, true, true, false, false, false, false, false, false, false, false, false, false, false, false, false, false] rfl rfl (by kernel_rfl) (fun _ _ _ h => h) (Or.inl ⟨by rfl, ?_⟩) ?_ ?_
      rotate_left
      · intro w'
        go_simp
        with_reducible rfl
      rotate_left
      · simp only [Act.put, List.setIfInBounds_toArray, List.set_cons_zero, List.set_cons_succ, i64_w, i32_w]
        rfl
      refine take_ (i := 11) (N := some 171) (v := ?_) (a' := ?_) #[true, true, true, true, true, true, true, false, true, true, true, true, false, false, false, false, false, false, false, false, false, false, false, false, false] rfl rfl (by kernel_rfl) (fun _ _ _ h => h) (Or.inl ⟨by rfl, ?_⟩) hHeld ?_ ?_
      rotate_left
      · intro w' hS
        have hcl_ : w'.cell? ⟨g, 0, none⟩ = some (.slice (some ad) bs.length cb) := (blk_cell hS 0).trans rfl
        go_simp
        with_reducible rfl
      rotate_left
      · simp only [Act.put, List.setIfInBounds_toArray, List.set_cons_zero, List.set_cons_succ, i64_w, i32_w]
        rfl
      refine pure_ (i := 12) (N := some 172) (v := ?_) (a' := ?_) #[true, true, true, true, true, true, true, false, true, true, true, true, true, false, false, false, false, false, false, false, false, false, false, false, false] rfl rfl (by kernel_rfl) (fun _ _ _ h => h) (Or.inl ⟨by rfl, ?_⟩) ?_ ?_
      rotate_left
      · intro w'
        go_simp
        with_reducible rfl
      rotate_left
      · simp only [Act.put, List.setIfInBounds_toArray, List.set_cons_zero, List.set_cons_succ, i64_w, i32_w]
        rfl
      refine pure_ (i := 13) (N := some 173) (v := ?_) (a' := ?_) #[true, true, true, true, true, true, true, false, true, true, true, true, true, true, false, false, false, false, false, false, false, false, false, false, false] rfl rfl (by kernel_rfl) (fun _ _ _ h => h) (Or.inl ⟨by rfl, ?_⟩) ?_ ?_
      rotate_left
      · intro w'
        go_simp
        with_reducible rfl
      rotate_left
      · simp only [Act.put, List.setIfInBounds_toArray, List.set_cons_zero, List.set_cons_succ, i64_w, i32_w]
        rfl
      refine pure_ (i := 14) (N := some 174) (v := ?_) (a' := ?_) #[true, true, true, true, true, true, true, false, true, true, true, true, true, true, true, false, false, false, false, false, false, false, false, false, false] rfl rfl (by kernel_rfl) (fun _ _ _ h => h) (Or.inl ⟨by rfl, ?_⟩) ?_ ?_
      rotate_left
      · intro w'
        go_simp
        with_reducible rfl
      rotate_left
      · simp only [Act.put, List.setIfInBounds_toArray, List.set_cons_zero, List.set_cons_succ, i64_w, i32_w]
        rfl
      refine pure_ (i := 15) (N := some 175) (v := ?_) (a' := ?_) #[true, true, true, true, true, true, true, false, true, true, true, true, true, true, true, true, false, false, false, false, false, false, false, false, false] rfl rfl (by kernel_rfl) (fun _ _ _ h => h) (Or.inl ⟨by rfl, ?_⟩) ?_ ?_
      rotate_left
      · intro w'
        go_simp
        with_reducible rfl
      rotate_left
      · simp only [Act.put, List.setIfInBounds_toArray, List.set_cons_zero, List.set_cons_succ, i64_w, i32_w]
        rfl
      refine pure_ (i := 16) (N := some 176) (v := ?_) (a' := ?_) #[true, true, true, true, true, true, true, false, true, true, true, true, true, true, true, true, true, false, false, false, false, false, false, false, false] rfl rfl (by kernel_rfl) (fun _ _ _ h => h) (Or.inl ⟨by rfl, ?_⟩) ?_ ?_
      rotate_left
      · intro w'
        go_simp
        with_reducible rfl
      rotate_left
      · simp only [Act.put, List.setIfInBounds_toArray, List.set_cons_zero, List.set_cons_succ, i64_w, i32_w]
        rfl
      refine pure_ (i := 17) (N := some 177) (v := ?_) (a' := ?_) #[true, true, true, true, true, true, true, false, true, true, true, true, true, true, true, true, true, true, false, false, false, false, false, false, false] rfl rfl (by kernel_rfl) (fun _ _ _ h => h) (Or.inl ⟨by rfl, ?_⟩) ?_ ?_
      rotate_left
      · intro w'
        go_simp
        with_reducible rfl
      rotate_left
      · simp only [Act.put, List.setIfInBounds_toArray, List.set_cons_zero, List.set_cons_succ, i64_w, i32_w]
        rfl
      obtain ⟨AA, hAA⟩ : ∃ AA : Option Addr, AA = (if cb = a8 then some ad else some (ad.add a8)) := ⟨_, rfl⟩
      rw [← hAA]
      have HAA := Aside0.mk hAA
      clear hAA
      have HYC2 : Aside0 (∀ W_ : World, Below w0.heap.size w0 W_ → Kd.C (Kd.int .u8) W_ AA ys.length ys) := ⟨fun W_ hb_ => by rw [HAA.out]; exact HYC.out W_ hb_⟩
      clear HYC
      refine one_ (i := 7) (N := some 167) #[true, true, true, true, true, true, true, true, true, true, true, true, true, true, true, true, true, true, false, false, false, false, false, false, false] rfl rfl (by kernel_rfl) (by decide) (fun K hK => ?_)
      refine Kd.R_lit_step (w0 := w0) (Kd.int .u8) w0.heap.size 5 (by rfl) rfl (xs := ([] : List Int)) (inner := []) (ok := fun k_ => hv ≤ k_) (okp := fun _ => False) (by first | (go_simp; done) | (go_simp; rfl)) (Reps.none _ _) (fun _ hk => hk.elim) HVS.out HB4.out HB4.out.size (by simp) ?_
      intro v34 W5_ ho hb hg_ hnew
      have HIN := Aside0.mk ho
      replace hHeld := (hg_.block g (blk_lt hHeld) (by simp)).trans hHeld
      have HO5 := Aside0.mk (Kd.S_grown HO4.out hg_ (fun _ _ he => by simp at he))
      have HB5 := Aside0.mk hb
      have HV5 : Aside0 (hv ≤ W5_.heap.size) := ⟨Nat.le_trans HVS.out hg_.size⟩
      clear ho hb hg_ hnew HO4 HB4 HVS
      refine hK.out _ _ hHeld (fun _ => ?_)
      clear hK K
      refine norm_ (a' := ?_) ?_ ?_
      rotate_left
      · show Act.put _ (some 167) _ = _
        simp only [Act.put, List.setIfInBounds_toArray, List.set_cons_zero, List.set_cons_succ, i64_w, i32_w]
        rfl
      refine one_ (i := 18) (N := some 178) #[true, true, true, true, true, true, true, true, true, true, true, true, true, true, true, true, true, true, true, false, false, false, false, false, false] rfl rfl (by kernel_rfl) (by decide) (fun K hK => ?_)
      refine Kd.R_append_rows_step (w0 := w0) (Kd.int .u8) (Rr := fun x cs => cs = [Value.int .u8 x]) w0.heap.size (by rfl) (.tmp 167) (.tmp 177) 29 5 (.int .u8 0) 1 rfl Try.underlying29 info5 rfl (by decide) (by decide) v34 [] ys AA ys.length (cb - a8) (fun k_ => hv ≤ k_) (fun _ => False) (by rfl) (by first | rfl | (rw [HYL.out]; rfl)) HIN.out ?hR (fun x cs h => h) (fun _ hk => hk.elim) (fun _ hk => Nat.le_trans HV5.out hk) HB5.out HB5.out.size ?hl ?_
      case hR => exact HYC2.out _ HB5.out
      case hl => (have := HYL.out; have := HPL.out; have := HEN.out; have := HBL.out; simp only [List.length_nil]; omega)
      intro v40 W6_ ho hb hg_ hat
      have HIN2 := Aside0.mk ho
      replace hHeld := (hg_.block g (blk_lt hHeld) (fun he => Nat.not_lt.mpr (HIN.out.1 g he.symm) HGL.out)).trans hHeld
      have HO6 := Aside0.mk (Kd.S_grown HO5.out hg_ (fun k_ hk_ he => Nat.not_lt.mpr (HIN.out.1 k_ he.symm) hk_.2))
      have HB6 := Aside0.mk hb
      have HV6 : Aside0 (hv ≤ W6_.heap.size) := ⟨Nat.le_trans HV5.out hg_.size⟩
      clear ho hb hg_ hat HO5 HB5 HV5 HIN
      refine hK.out _ _ hHeld (fun _ => ?_)
      clear hK K
      refine norm_ (a' := ?_) ?_ ?_
      rotate_left
      · show Act.put _ (some 178) _ = _
        simp only [Act.put, List.setIfInBounds_toArray, List.set_cons_zero, List.set_cons_succ, i64_w, i32_w]
        rfl
      rw [List.nil_append] at HIN2
      obtain ⟨A40, c40, e40⟩ := Kd.R_slice HIN2.out
      subst e40
      refine pure_ (i := 19) (N := some 179) (v := ?_) (a' := ?_) #[true, true, true, true, true, true, true, true, true, true, true, true, true, true, true, true, true, true, true, true, false, false, false, false, false] rfl rfl (by kernel_rfl) (fun _ _ _ h => h) (Or.inl ⟨by rfl, ?_⟩) ?_ ?_
      rotate_left
      · intro w'
        go_simp
        with_reducible rfl
      rotate_left
      · simp only [Act.put, List.setIfInBounds_toArray, List.set_cons_zero, List.set_cons_succ, i64_w, i32_w]
        rfl
      refine one_ (i := 20) (N := some 180) #[true, true, true, true, true, true, true, true, true, true, true, true, true, true, true, true, true, true, true, true, true, false, false, false, false] rfl rfl (by kernel_rfl) (by decide) (fun K hK => ?_)
      refine event_step (W := W6_) (v := .slice (some ⟨W6_.heap.size, 0, none⟩) 1 1) (w1 := W6_.alloc (.cells [Value.string s, Value.int .i64 depth, Value.slice A40 ys.length c40].toArray 46)) (by rfl) (by first | (go_simp; done) | (go_simp; rfl)) ?_
      refine hK.out _ _ (blk_alloc hHeld _) (fun _ => ?_)
      clear hK K
      refine norm_ (a' := ?_) ?_ ?_
      rotate_left
      · show Act.put _ (some 180) _ = _
        simp only [Act.put, List.setIfInBounds_toArray, List.set_cons_zero, List.set_cons_succ, i64_w, i32_w]
        rfl
      refine one_ (i := 21) (N := some 181) #[true, true, true, true, true, true, true, true, true, true, true, true, true, true, true, true, true, true, true, true, true, true, false, false, false] rfl rfl (by kernel_rfl) (by decide) (fun K hK => ?_)
      refine Kd.S_append_step k46 (w0 := w0) w0.heap.size (by rfl) (.tmp 164) (.tmp 180) 25 46 (.agg #[.string ⟨#[]⟩, .int .i64 0, .slice none 0 0]) 48 rfl Try.underlying25 rinfo46 rfl (by decide) (by decide) (.slice Ao boxes.length co) boxes (⟨s, depth, ys⟩ : S46) [Value.string s, Value.int .i64 depth, Value.slice A40 ys.length c40] (fun k_ => k_ ≠ g) (fun k_ => hv ≤ k_) (by rfl) (by rfl) ?aP ?aK ?aF ?aO HB6.out HB6.out.size ?aL ?_
      case aP => exact k46_mkM _ _ _ (⟨s, depth, ys⟩ : S46) HIN2.out
      case aK => exact fun k_ hk_ => ⟨fun he_ => Nat.not_lt.mpr hk_ (by rw [he_]; exact HGL.out), fun he_ => Nat.not_lt.mpr hk_ ((Kd.S_R HO6.out).1 k_ he_.symm).2⟩
      case aF => exact fun k_ hk_ he_ => Nat.not_lt.mpr (Nat.le_trans HV6.out hk_) (by rw [he_]; exact HGL.out)
      case aO => exact Kd.S_mono HO6.out (fun k_ hk_ => ⟨hk_.1, fun h_ => Nat.not_lt.mpr h_ hk_.2⟩)
      case aL => (have := HX.out; omega)
      intro v41 W7_ ho hb hg_ hat
      rw [← HBX.out] at ho
      replace hHeld := (hg_.block g (blk_lt hHeld) (fun he => ((Kd.S_R HO6.out).1 g he.symm).1 rfl)).trans hHeld
      have HO7 := Aside0.mk ho
      have HB7 := Aside0.mk hb
      obtain ⟨A41, c41, e41⟩ := Kd.S_slice ho
      subst e41
      clear ho hb hg_ hat HO6 HB6 HV6 HIN2
      refine hK.out _ _ hHeld (fun _ => ?_)
      clear hK K
      refine norm_ (a' := ?_) ?_ ?_
      rotate_left
      · show Act.put _ (some 181) _ = _
        simp only [Act.put, List.setIfInBounds_toArray, List.set_cons_zero, List.set_cons_succ, i64_w, i32_w]
        rfl
      refine pure_ (i := 22) (N := some 182) (v := ?_) (a' := ?_) #[true, true, true, true, true, true, true, true, true, true, true, true, true, true, true, true, true, true, true, true, true, true, true, false, false] rfl rfl (by kernel_rfl) (fun _ _ _ h => h) (Or.inl ⟨by rfl, ?_⟩) ?_ ?_
      rotate_left
      · intro w'
        go_simp
        with_reducible rfl
      rotate_left
      · simp only [Act.put, List.setIfInBounds_toArray, List.set_cons_zero, List.set_cons_succ, i64_w, i32_w]
        rfl
      refine pure_ (i := 23) (N := some 183) (v := ?_) (a' := ?_) #[true, true, true, true, true, true, true, true, true, true, true, true, true, true, true, true, true, true, true, true, true, true, true, true, false] rfl rfl (by kernel_rfl) (fun _ _ _ h => h) (Or.inl ⟨by rfl, ?_⟩) ?_ ?_
      rotate_left
      · intro w'
        go_simp
        with_reducible rfl
      rotate_left
      · simp only [Act.put, List.setIfInBounds_toArray, List.set_cons_zero, List.set_cons_succ, i64_w, i32_w]
        rfl
      refine last_ (i := 24) (N := none) #[true, true, true, true, true, true, true, true, true, true, true, true, true, true, true, true, true, true, true, true, true, true, true, true, true] rfl rfl (by kernel_rfl) (by decide) (fun K hK => ?_)
      refine put_blk_step (by rfl) rfl rfl (g := g) (off := 1) (cur := #[Value.slice (some ad) bs.length cb, Value.slice Ao boxes.length co, Value.int .i64 dd, Value.int .i64 0, Value.int .i64 0]) (cur' := #[Value.slice (some ad) bs.length cb, Value.slice A41 bx.length c41, Value.int .i64 dd, Value.int .i64 0, Value.int .i64 0]) (u := .slice A41 bx.length c41) (seg := [Value.slice A41 bx.length c41]) (by rfl) (by rfl) hHeld rfl (by kernel_rfl) (Nat.le_of_ble_eq_true rfl) (by intro q_ hq_; simp only [List.mem_cons, List.not_mem_nil, or_false] at hq_; rcases hq_ with rfl <;> rfl) (by rfl) ?_
      intro W8_ h1_ h2_ h3_
      have HG8 := Aside0.mk h1_
      have HO8 := Aside0.mk (Kd.S_step HO7.out (fun k_ hk_ _ => h2_ k_ hk_))
      have HB8 := Aside0.mk (h3_ _ _ HG0.out HB7.out)
      clear h1_ h2_ h3_
      refine hK.out _ _ ?_
      clear hK K
      refine done_ (by kernel_rfl) ?_
      clear hHeld HO7 HB7
      go_wp2
      go_roundg k1
      case measure => omega
      case rel => exact ⟨bx, dd, 0, 0, _, pn, (by first | rfl | (simp; done) | (simp [*]; done)), ⟨.inl ⟨rfl, rfl, HR2.out⟩⟩, ⟨by have := HKL.out; omega⟩, HG8, HO8, HB8, ⟨by have := HPL.out; have := HEN.out; omega, by have := HDD.out; have := HX.out; have := C3.out; omega, by have := C9.out; omega, HBD.out⟩⟩


end Go.Proofs.Ytpennfkjfeipcaa.PFnExactReadBoxes
