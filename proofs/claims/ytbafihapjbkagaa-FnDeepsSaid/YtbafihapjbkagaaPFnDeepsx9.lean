/- The functions that the law reaches, as Lean functions, each with the proof that the Go code comes to just these answers. Written by a program of this session (wip/tools/handprint.py over the kit's print); by hand where the print takes no such text. -/
-- squeezed
import Derived.Test.YtbafihapjbkagaaPFnDeepsx0
import Derived.Test.YtbafihapjbkagaaPFnDeepsx2
import Derived.Test.YtbafihapjbkagaaPFnDeepsx3
import Derived.Test.YtbafihapjbkagaaPFnDeepsx4
import Derived.Test.YtbafihapjbkagaaPFnDeepsx8
namespace Go.Proofs.Ytbafihapjbkagaa.PFnDeeps
open Go.RowKit Go.Proofs.YtbafihapjbkagaaW.PrintWords Go.Proofs.YtbafihapjbkagaaW.PrintLast Go.Proofs.YtbafihapjbkagaaW.PrintMore
attribute [local go_sem] max2_int min2_int max_two min_two max_three min_three max_four min_four   -- for this text's walks alone
set_option linter.unusedVariables false
set_option linter.unusedSimpArgs false

/-! ### impl_Flat: function 20 -/
-- rounds 1 making 1
section
open Go.Shelf
attribute [local go_sem] Oper.semAt_some

/-- What comes: the element's place and the element. -/
abbrev impl_Flat.al := Int × S50
def impl_Flat.enc (x : impl_Flat.al) : Array Value := #[.int .i64 x.1, .agg #[.int .i64 x.2.f0, .int .i64 x.2.f1.f0, .int .i64 x.2.f1.f1, .int .i64 x.2.f1.f2, .int .i64 x.2.f1.f3]]
def impl_Flat.upto (f : Nat → impl_Flat.al) (k : Nat) : List impl_Flat.al := (List.range k).map f
theorem impl_Flat.upto_succ (f : Nat → impl_Flat.al) (k : Nat) : impl_Flat.upto f (k + 1) = impl_Flat.upto f k ++ [f k] := by simp [impl_Flat.upto, List.range_succ]
theorem impl_Flat.upto_length (f : Nat → impl_Flat.al) (k : Nat) : (impl_Flat.upto f k).length = k := by simp [impl_Flat.upto]
def impl_Flat.at_ (zs : List S50) (j : Nat) : impl_Flat.al := ((zs.length : Int) - 1 - j, zs[zs.length - 1 - j]?.getD z50)

/-- What lay below n, but the block g, lies as it lay. -/
structure impl_Flat.Kp (n g : Nat) (W W' : World) : Prop where
 size : W.heap.size ≤ W'.heap.size
 same : ∀ k, k < n → k ≠ g → W'.heap[k]? = W.heap[k]?
theorem impl_Flat.Kp.refl (n g : Nat) (W : World) : impl_Flat.Kp n g W W := ⟨Nat.le_refl _, fun _ _ _ => rfl⟩
theorem impl_Flat.Kp.trans {n g : Nat} {A B C : World} (h : impl_Flat.Kp n g A B) (k : impl_Flat.Kp n g B C) : impl_Flat.Kp n g A C := ⟨Nat.le_trans h.size k.size, fun i hi hg => (k.same i hi hg).trans (h.same i hi hg)⟩
theorem impl_Flat.Kp.of_below {n g : Nat} {A B : World} (h : Below n A B) : impl_Flat.Kp n g A B := ⟨h.size, fun k hk _ => h.block k hk⟩
theorem impl_Flat.Kp.putObj {n g : Nat} (W : World) (l : Nat) (o : Obj) (hl : n ≤ l) : impl_Flat.Kp n g W (W.putObj l o) := by
 have hg := grownBy_putObj' W l o
 refine ⟨hg.size, fun k hk _ => ?_⟩
 by_cases c : k < W.heap.size
 ·exact hg.block k c (by simp; omega)
 ·have e0 : (W.putObj l o).heap.size = W.heap.size := by simp [World.putObj]
  have e1 : W.heap[k]? = none := Array.getElem?_eq_none (by omega)
  have e2 : (W.putObj l o).heap[k]? = none := Array.getElem?_eq_none (by omega)
  rw [e1, e2]

set_option maxRecDepth 100000 in
set_option maxHeartbeats 4000000 in
/-- slices.Backward's closure. -/
theorem impl_Flat.back1_in (F : Fence) (n : Nat) (h8 : F.fn 60) (hro : F.round = none) (hn : 1 ≤ n) (l Bs n₀ g : Nat) (A : Option Addr) (cap : Nat) (zs : List S50) (hreach : zs.length ≤ 200) (J Jx : List impl_Flat.al → World → Prop)
  (hY : ∀ pre x W, J pre W → pre.length < zs.length → YieldAt F (n - 1) Try.prog l (impl_Flat.enc x) W fun e W' =>
   (e = .returned (.bool true) ∧ J (pre ++ [x]) W' ∧ impl_Flat.Kp n₀ g W W') ∨ (e = .returned (.bool false) ∧ Jx (pre ++ [x]) W'))
  (W : World) (hBs : W.cell? ⟨Bs, 0, none⟩ = some (.slice A zs.length cap)) (hbn : Bs < n₀) (hbg : Bs ≠ g) (hc : ∀ W', impl_Flat.Kp n₀ g W W' → Kd.C k50 W' A zs.length zs) (h0 : J [] W) :
  CallsIn F n Try.prog 60 #[.func (.yield l) #[] #[], .pointer (some ⟨Bs, 0, none⟩)] W fun e W' => (∃ v, e = .returned v) ∧
   ((∃ ys, ys = impl_Flat.upto (impl_Flat.at_ zs) zs.length ∧ J ys W') ∨ (∃ pre, (∃ k, k ≤ zs.length ∧ pre = impl_Flat.upto (impl_Flat.at_ zs) k) ∧ Jx pre W')) := by
 refine callsIn_of_wp Try.func60 rfl h8 ?_ hro
 simp only [Try.ntmps60, List.size_toArray, List.length_cons, List.length_nil, Nat.reduceAdd, Nat.reduceSub, Array.replicate_succ, Array.replicate_zero, List.push_toArray, List.append_toArray, List.nil_append, List.cons_append]
 gi_wp2
 gi_loopw [3] (fun i wr => ∃ k : Nat, k ≤ zs.length ∧ i = .int .i64 ((zs.length : Int) - 1 - k) ∧ J (impl_Flat.upto (impl_Flat.at_ zs) k) wr ∧ impl_Flat.Kp n₀ g W wr)
  (fun i _ => (intOf i + 1).toNat)
 case atStart => exact ⟨0, Nat.zero_le _, by simp, h0, impl_Flat.Kp.refl _ _ _⟩
 case round =>
  obtain ⟨k, hk, rfl, hJs, hnx⟩ := hrel
  by_cases hlt : k < zs.length
  ·obtain ⟨fn, tmps, assign, body, hy, hR⟩ := hY _ (impl_Flat.at_ zs k) wr hJs (by rw [impl_Flat.upto_length]; exact hlt)
   have hC := hc wr hnx
   have hbs := (World.cell?_of_block (a := ⟨Bs, 0, none⟩) (hnx.same Bs hbn hbg)).trans hBs
   obtain ⟨ad, rfl, hcx⟩ := at_T50 hC ((zs.length : Int) - 1 - k) (by omega) (by omega)
   simp only [rd_T50, List.getD_eq_getElem?_getD] at hcx
   rw [show ((zs.length : Int) - 1 - k).toNat = zs.length - 1 - k by omega] at hcx
   simp only [impl_Flat.enc, impl_Flat.at_] at hy
   obtain ⟨hx0, hx1, hx2, hx3, hx4⟩ := hcx
   gi_wp2
   refine hR.mono ?_
   rintro e W3 (⟨rfl, hJ3, hk3⟩ | ⟨rfl, hJx3⟩)
   ·gi_wp2
    go_roundw
    case rel => exact ⟨k + 1, by omega, by simp; omega, by rw [impl_Flat.upto_succ]; exact hJ3, hnx.trans hk3⟩
    case measure => simp [intOf]; omega
   ·gi_wp2
    refine bodyPost_ret (results_none rfl _ _ _) rfl ?_
    exact ⟨⟨_, rfl⟩, .inr ⟨_, ⟨k + 1, by omega, (impl_Flat.upto_succ _ _).symm⟩, hJx3⟩⟩
  ·obtain rfl : k = zs.length := by omega
   gi_wp2
   go_end0
   exact ⟨⟨_, rfl⟩, .inl ⟨_, rfl, hJs⟩⟩

set_option maxHeartbeats 1000000 in
/-- slices.Backward. -/
theorem impl_Flat.back_in (F : Fence) (n : Nat) (h6 : F.fn 45) (hro : F.round = none) (a : Option Addr) (len cap : Nat) (w : World) :
  CallsIn F n Try.prog 45 #[.slice a len cap] w fun e w' => e = .returned (.func (.func 60) #[] #[.pointer (some ⟨w.heap.size, 0, none⟩)]) ∧ w' = w.alloc (.cells #[.slice a len cap] 39) := by
 refine callsIn_of_wp Try.func45 rfl h6 ?_ hro
 simp only [Try.ntmps45, List.size_toArray, List.length_cons, List.length_nil, Nat.reduceAdd, Nat.reduceSub, Array.replicate_succ, Array.replicate_zero, List.push_toArray, List.append_toArray, List.nil_append, List.cons_append]
 gi_wp2
 go_ret
 exact ⟨rfl, rfl⟩

theorem impl_Flat.back_stops (F : Fence) (n : Nat) (h8 : F.fn 60) (hro : F.round = none) (hn : 1 ≤ n) (Bs n₀ g : Nat) (A : Option Addr) (cap : Nat) (zs : List S50) (hreach : zs.length ≤ 200) (w : World) (hBs : Bs < n₀) (hbg : Bs ≠ g) (hw : w.heap.size = n₀)
  (hc : w.cell? ⟨Bs, 0, none⟩ = some (.slice A zs.length cap)) (hC : ∀ W', impl_Flat.Kp n₀ g w W' → Kd.C k50 W' A zs.length zs) :
  SeqStopsK F n Try.prog 60 #[.pointer (some ⟨Bs, 0, none⟩)] impl_Flat.enc (impl_Flat.Kp n₀ g) (fun ys => ys = impl_Flat.upto (impl_Flat.at_ zs) zs.length)
   (fun pre => ∃ k, k ≤ zs.length ∧ pre = impl_Flat.upto (impl_Flat.at_ zs) k) zs.length w := fun l J Jx W hW _ _ hY h0 => by
 subst hw
 exact impl_Flat.back1_in F n h8 hro hn l Bs _ g A cap zs hreach J Jx hY W ((hW.cell (p := ⟨Bs, 0, none⟩) hBs).trans hc) hBs hbg (fun W' hk => hC W' ((impl_Flat.Kp.of_below hW).trans hk)) h0
theorem impl_Flat.share_ok (a b : Int) : ∃ r, impl_share.f a b = some r := by
 unfold impl_share.f impl_near.f impl_down.f
 rw [if_neg (by simp [wrap64])]
 split <;> exact ⟨_, rfl⟩
theorem impl_Flat.px_ok (a b c d : Int) : ∃ r, impl_PxOk.f a b c d = some r := by
 unfold impl_PxOk.f impl_isByte.f impl_in.f
 by_cases h1 : (0 : Int) ≤ d <;> by_cases h2 : d ≤ 255 <;> by_cases h3 : (0 : Int) ≤ a <;> by_cases h4 : a ≤ d <;> by_cases h5 : (0 : Int) ≤ b <;> by_cases h6 : b ≤ d <;> by_cases h7 : (0 : Int) ≤ c <;> by_cases h8 : c ≤ d <;> simp [h1, h2, h3, h4, h5, h6, h7, h8]
theorem impl_Flat.total (a0 a1 a2 a3 b0 b1 b2 b3 : Int) : ∃ r1 r2 r3 r4, impl_Over.f a0 a1 a2 a3 b0 b1 b2 b3 = some (r1, r2, r3, r4) := by
 obtain ⟨p, hp⟩ := impl_Flat.px_ok a0 a1 a2 a3
 obtain ⟨q, hq⟩ := impl_Flat.px_ok b0 b1 b2 b3
 unfold impl_Over.f impl_ofRight.f impl_ofEach.f GA.f impl_Over_1.g
 obtain ⟨s0, h0⟩ := impl_Flat.share_ok b0 (wrap64 (255 - a3))
 obtain ⟨s1, h1⟩ := impl_Flat.share_ok b1 (wrap64 (255 - a3))
 obtain ⟨s2, h2⟩ := impl_Flat.share_ok b2 (wrap64 (255 - a3))
 obtain ⟨s3, h3⟩ := impl_Flat.share_ok b3 (wrap64 (255 - a3))
 cases p <;> cases q <;> simp [hp, hq, h0, h1, h2, h3]

def impl_Flat.step (o : Option (Int × Int × Int × Int)) (x : S50) : Option (Int × Int × Int × Int) := o.bind fun p => impl_Over.f x.f1.f0 x.f1.f1 x.f1.f2 x.f1.f3 p.1 p.2.1 p.2.2.1 p.2.2.2
def impl_Flat.f (k : Nat) (l0 : List (S50)) : Option (Int × Int × Int × Int) := (impl_deepOk.f k l0).bind fun t1 => (if t1 = true then ((impl_byDepth.f k l0).bind fun t2 => (if t2.length ≤ 200 then (t2.reverse.foldl impl_Flat.step (some (0, 0, 0, 0))) else none)) else (some (0, 0, 0, 0)))
theorem impl_Flat.mono : ∀ a0 k, LeO (impl_Flat.f k a0) (impl_Flat.f (k + 1) a0) := by
 intro a0 k
 unfold impl_Flat.f
 repeat' first
   | (with_reducible exact impl_deepOk.mono _ _)
   | (with_reducible exact impl_byDepth.mono _ _)
   | (with_reducible exact LeO.refl _)
   | (with_reducible exact LeO.none _)
   | (with_reducible refine LeO.ite ?_ ?_)
   | (with_reducible refine LeO.bind ?_ (fun _ => ?_))
   | exact impl_deepOk.mono _ _
   | exact impl_byDepth.mono _ _
   | exact LeO.none _
   | refine LeO.ite ?_ ?_
   | refine LeO.bind ?_ (fun _ => ?_)
theorem impl_Flat.upto_snd (zs : List S50) : (impl_Flat.upto (impl_Flat.at_ zs) zs.length).map (·.2) = zs.reverse := by
 apply List.ext_getElem
 ·simp [impl_Flat.upto]
 ·intro i h1 h2
  have h3 : i < zs.length := by simpa using h2
  have h4 : zs.length - 1 - i < zs.length := by omega
  simp [impl_Flat.upto, impl_Flat.at_, List.getElem_reverse, h4]

/-- A block of four ints. -/
def impl_Flat.Four (W : World) (B : Nat) (p : Int × Int × Int × Int) : Prop := W.heap[B]? = some (.cells #[.int .i64 p.1, .int .i64 p.2.1, .int .i64 p.2.2.1, .int .i64 p.2.2.2] 35 (0, 0))

theorem impl_Flat.Four.cells {W : World} {B : Nat} {p : Int × Int × Int × Int} (h : impl_Flat.Four W B p) : (W.cell? ⟨B, 0, none⟩ = some (.int .i64 p.1) ∧ W.cell? ⟨B, 1, none⟩ = some (.int .i64 p.2.1) ∧ W.cell? ⟨B, 2, none⟩ = some (.int .i64 p.2.2.1) ∧ W.cell? ⟨B, 3, none⟩ = some (.int .i64 p.2.2.2)) ∧ W.frozen? ⟨B, 0, none⟩ = false ∧ W.frozen? ⟨B, 1, none⟩ = false ∧ W.frozen? ⟨B, 2, none⟩ = false ∧ W.frozen? ⟨B, 3, none⟩ = false := by
 unfold impl_Flat.Four at h
 simp [World.cell?, World.frozen?, h]
theorem impl_Flat.Four.move {W W' : World} {B : Nat} {p : Int × Int × Int × Int} (h : impl_Flat.Four W B p) (hb : Below W.heap.size W W') : impl_Flat.Four W' B p :=
 (hb.block B (Array.getElem?_eq_some_iff.1 h).1).trans h
theorem impl_Flat.Four.new (W : World) : impl_Flat.Four (W.alloc (.cells #[.int .i64 0, .int .i64 0, .int .i64 0, .int .i64 0] 35)) W.heap.size (0, 0, 0, 0) := World.alloc_heap_new W _

theorem impl_Flat.set_block {W : World} {B i : Nat} {cs : Array Value} {t : TypeId} {r : Nat × Nat} (h : W.heap[B]? = some (.cells cs t r)) (v : Value) : (W.setCell ⟨B, i, none⟩ v).heap[B]? = some (.cells (cs.setIfInBounds i v) t r) := by
 obtain ⟨hlt, hk⟩ := Array.getElem?_eq_some_iff.1 h
 show (W.heap.modify B _)[B]? = _
 rw [Array.getElem?_eq_getElem (by rw [Array.size_modify]; exact hlt), Array.getElem_modify_self, hk]
 rfl
theorem impl_Flat.Four.set {W : World} {B : Nat} {p : Int × Int × Int × Int} (h : impl_Flat.Four W B p) (a b c d : Int) :
  impl_Flat.Four ((((W.setCell ⟨B, 0, none⟩ (.int .i64 a)).setCell ⟨B, 1, none⟩ (.int .i64 b)).setCell ⟨B, 2, none⟩ (.int .i64 c)).setCell ⟨B, 3, none⟩ (.int .i64 d)) B (a, b, c, d) :=
 impl_Flat.set_block (impl_Flat.set_block (impl_Flat.set_block (impl_Flat.set_block h _) _) _) _
theorem impl_Flat.Four.far {W : World} {B G : Nat} {p : Int × Int × Int × Int} (h : impl_Flat.Four W B p) (hne : B ≠ G) (i : Nat) (v : Value) : impl_Flat.Four (W.setCell ⟨G, i, none⟩ v) B p :=
 (Below.heap_setCell W ⟨G, i, none⟩ v B hne).trans h
theorem impl_Flat.Four.alloc {W : World} {B : Nat} {p : Int × Int × Int × Int} (h : impl_Flat.Four W B p) (o : Obj) : impl_Flat.Four (W.alloc o) B p := h.move ((Below.refl _ W).alloc (Nat.le_refl _) o)
theorem impl_Flat.Four.put {W : World} {B l : Nat} {p : Int × Int × Int × Int} (h : impl_Flat.Four W B p) {o : Obj} (o' : Obj) (hl : W.heap[l]? = some o) (ho : o.isCells = false) : impl_Flat.Four (W.putObj l o') B p :=
 ((grownBy_putObj' W l o').block B (Array.getElem?_eq_some_iff.1 h).1 (fun e => by cases e; rw [show W.heap[B]? = _ from h] at hl; cases hl; cases ho)).trans h
theorem impl_Flat.Four.own {β : Type} (B G : Nat) (P : β → Int × Int × Int × Int → Prop) : OwnFrom B (fun s W => ∃ p, P s p ∧ impl_Flat.Four W G p) := fun s X Y row ⟨p, hp, h⟩ hg hr =>
 ⟨p, hp, (hg.block G (Array.getElem?_eq_some_iff.1 h).1 (fun e => by
  obtain ⟨_, o, ho, hc⟩ := hr G e.symm
  rw [show X.heap[G]? = _ from h] at ho; cases ho; cases hc)).trans h⟩
theorem impl_Flat.ownFrom_size {β : Type} (B n : Nat) : OwnFrom B (fun (_ : β) W => n ≤ W.heap.size) := fun _ _ _ _ h hg _ => Nat.le_trans h hg.size
theorem impl_Flat.keeps_of_below {W W' : World} (h : Below W.heap.size W W') : KeepsOthers W W' := ⟨h.size, fun k o hk _ => (h.block k (Array.getElem?_eq_some_iff.1 hk).1).trans hk⟩
theorem impl_Flat.Kp.set {n g : Nat} (W : World) (i : Nat) (v : Value) : impl_Flat.Kp n g W (W.setCell ⟨g, i, none⟩ v) := ⟨(KeepsWalks.setCell W _ v).size, fun k _ hk => Below.heap_setCell W ⟨g, i, none⟩ v k hk⟩
/-- A block of an element. -/
def impl_Flat.Five (W : World) (B : Nat) (x : S50) : Prop := W.heap[B]? = some (.cells #[.int .i64 x.f0, .int .i64 x.f1.f0, .int .i64 x.f1.f1, .int .i64 x.f1.f2, .int .i64 x.f1.f3] 50 (0, 0))
theorem impl_Flat.Five.cells {W : World} {B : Nat} {x : S50} (h : impl_Flat.Five W B x) : W.cell? ⟨B, 1, none⟩ = some (.int .i64 x.f1.f0) ∧ W.cell? ⟨B, 2, none⟩ = some (.int .i64 x.f1.f1) ∧ W.cell? ⟨B, 3, none⟩ = some (.int .i64 x.f1.f2) ∧ W.cell? ⟨B, 4, none⟩ = some (.int .i64 x.f1.f3) := by
 unfold impl_Flat.Five at h
 simp [World.cell?, h]
theorem impl_Flat.Five.own {β : Type} (B G : Nat) (x : S50) : OwnFrom B (fun (_ : β) W => impl_Flat.Five W G x) := fun s X Y row h hg hr =>
 (hg.block G (Array.getElem?_eq_some_iff.1 h).1 (fun e => by
  obtain ⟨_, o, ho, hc⟩ := hr G e.symm
  rw [show X.heap[G]? = _ from h] at ho; cases ho; cases hc)).trans h

set_option maxRecDepth 100000 in
set_option maxHeartbeats 4000000 in
theorem impl_Flat.calls (k : Nat) (A0 : Option Addr) (c0 : Nat) (l0 : List (S50)) (r1 : Int) (r2 : Int) (r3 : Int) (r4 : Int) (w : World) (hr0 : Kd.C k50 w A0 l0.length l0) (hc0 : l0.length ≤ c0) (h : impl_Flat.f k l0 = some (r1, r2, r3, r4)) :
  Calls Try.prog 20 #[.slice A0 l0.length c0] w fun e w' => e = .returned (.agg #[.int .i64 r1, .int .i64 r2, .int .i64 r3, .int .i64 r4]) ∧ Below w.heap.size w w' := by
 unfold impl_Flat.f at h
 obtain ⟨t1, h1, h⟩ := Option.bind_eq_some_iff.mp h
 refine (callsIn_wide (n := 9)).1 ?_
 refine callsIn_of_wp_marks Try.func20 rfl trivial ?_ rfl
 simp only [Try.ntmps20, List.size_toArray, List.length_cons, List.length_nil, Nat.reduceAdd, Nat.reduceSub, Array.replicate_succ, Array.replicate_zero, List.push_toArray, List.append_toArray, List.nil_append, List.cons_append]
 cases t1 with
 | false =>
  simp only [Bool.false_eq_true, if_false, Option.some.injEq, Prod.mk.injEq] at h
  obtain ⟨rfl, rfl, rfl, rfl⟩ := h
  gi_wp2_with (refine ⟨trivial, ?_⟩; gi_at_call 44; refine (callsIn_wide.2 (impl_deepOk.calls k A0 c0 l0 false _ (Kd.C_below hr0 ((Below.refl _ w).alloc (Nat.le_refl _) _)) hc0 h1)).mono ?_; rintro e w' ⟨rfl, hB1⟩; have F2 := (impl_Flat.Four.new w).move hB1; obtain ⟨⟨c0_, c1_, c2_, c3_⟩, f0_, f1_, f2_, f3_⟩ := F2.cells)
  have F2' := F2.set 0 0 0 0
  obtain ⟨⟨c0', c1', c2', c3'⟩, _⟩ := F2'.cells
  have HB1 : Below w.heap.size w w' := below_step ((Below.refl _ w).alloc (Nat.le_refl _) _) hB1
  refine ⟨_, ?_, rfl, (((HB1.setCell (p := ⟨w.heap.size, 0, none⟩) (Nat.le_refl _) _).setCell (p := ⟨w.heap.size, 1, none⟩) (Nat.le_refl _) _).setCell (p := ⟨w.heap.size, 2, none⟩) (Nat.le_refl _) _).setCell (p := ⟨w.heap.size, 3, none⟩) (Nat.le_refl _) _⟩
  simp [results, Try.f20, go_sem, c0', c1', c2', c3']
 | true =>
  simp only [if_true] at h
  obtain ⟨t2, h2, h⟩ := Option.bind_eq_some_iff.mp h
  by_cases h200 : t2.length ≤ 200
  case neg =>
   rw [if_neg h200] at h
   exact absurd h (by simp)
  rw [if_pos h200] at h
  gi_wp2_with (first
   | (refine ⟨trivial, ?_⟩; gi_at_call 44; refine (callsIn_wide.2 (impl_deepOk.calls k A0 c0 l0 true _ (Kd.C_below hr0 ((Below.refl _ w).alloc (Nat.le_refl _) _)) hc0 h1)).mono ?_; rintro e w' ⟨rfl, hB1⟩; have HB1 : Below w.heap.size w w' := below_step ((Below.refl _ w).alloc (Nat.le_refl _) _) hB1)
   | (refine ⟨trivial, ?_⟩; gi_at_call 46; refine (callsIn_wide.2 (impl_byDepth.calls k A0 c0 l0 t2 _ (Kd.C_below hr0 (HB1.alloc HB1.size _)) hc0 h2)).mono ?_; rintro e w'' ⟨v0_, rfl, hR, hB2⟩; obtain ⟨A, cA, rfl⟩ := Kd.R_slice hR)
   | (refine ⟨trivial, ?_⟩; gi_at_call 45; refine (impl_Flat.back_in Fence.wide _ trivial rfl _ _ _ _).mono ?_; rintro e w3 ⟨rfl, rfl⟩))
  have hsW : w.heap.size < w'.heap.size := by have := hB1.size; simp at this; omega
  have hB2' : Below w'.heap.size w' w'' := below_step ((Below.refl _ w').alloc (Nat.le_refl _) _) hB2
  have hs2 : w'.heap.size < w''.heap.size := by have := hB2.size; simp at this; omega
  have F2a : impl_Flat.Four (w''.alloc (.cells #[.slice A t2.length cA] 39)) w.heap.size (0, 0, 0, 0) := (((impl_Flat.Four.new w).move hB1).move hB2').alloc _
  have F3a : impl_Flat.Four (w''.alloc (.cells #[.slice A t2.length cA] 39)) w'.heap.size (0, 0, 0, 0) := ((impl_Flat.Four.new w').move hB2).alloc _
  have bN := Boxed.new w'' 39 (.slice A t2.length cA)
  have HB2 : Below w.heap.size w (w''.alloc (.cells #[.slice A t2.length cA] 39)) := (below_step HB1 hB2').alloc (by omega) _
  have hR2 : Kd.R k50 50 (w''.alloc (.cells #[.slice A t2.length cA] 39)) _ (fun _ => True) (.slice A t2.length cA) t2 := Kd.R_below hR ((Below.refl _ w'').alloc (Nat.le_refl _) _)
  have hsz : (w''.alloc (.cells #[.slice A t2.length cA] 39)).heap.size = w''.heap.size + 1 := by simp
  obtain ⟨W0, hW0⟩ : ∃ W0, w''.alloc (.cells #[.slice A t2.length cA] 39) = W0 := ⟨_, rfl⟩
  rw [hW0] at F2a F3a bN HB2 hR2 hsz ⊢
  clear hW0
  have hC : ∀ W', impl_Flat.Kp W0.heap.size w'.heap.size W0 W' → Kd.C k50 W' A t2.length t2 := fun W' hk => by
   have h3 := Kd.R_step (w1 := W') (Kd.R_bound hR2) (fun j hj hlt => hk.same j hlt (by have h4 := hj.2.1; simp at h4; omega))
   exact (Kd.R_reads' h3).2.2
  refine wpIn_rangeFunc_ownH rfl (by omega) (gf := 60) (lb := #[.pointer (some ⟨w''.heap.size, 0, none⟩)]) rfl trivial (enters_of Try.func60 (by kernel_rfl) rfl)
   (impl_Flat.back_stops Fence.wide 8 trivial rfl (by omega) w''.heap.size W0.heap.size w'.heap.size A cA t2 h200 W0 (by omega) (by omega) rfl bN.cell hC) impl_Flat.Kp.trans (fun W l o o' hl _ _ _ => impl_Flat.Kp.putObj W l o' hl) (Below.refl _ _) (fun _ => rfl)
   (fun pre W => ((∃ p, (pre.map (·.2)).foldl impl_Flat.step (some (0, 0, 0, 0)) = some p ∧ impl_Flat.Four W w'.heap.size p) ∧ (∃ p, p = (0, 0, 0, 0) ∧ impl_Flat.Four W w.heap.size p)) ∧ (Below w.heap.size w W ∧ W0.heap.size ≤ W.heap.size))
   (fun _ _ _ => False)
   (OwnFrom.and (OwnFrom.and (impl_Flat.Four.own _ _ _) (impl_Flat.Four.own _ _ _)) (OwnFrom.and (ownFrom_below (Nat.le_refl _) (by omega)) (impl_Flat.ownFrom_size _ _)))
   (fun _ _ _ _ _ hs _ _ => hs)
   ⟨⟨⟨_, rfl, F3a⟩, ⟨_, rfl, F2a⟩⟩, HB2, Nat.le_refl _⟩
   (fun x a' W => ∃ Bx, w'.heap.size < Bx ∧ impl_Flat.Five W Bx x.2 ∧ a' = { tmps := #[.slice A0 l0.length c0, undef, .pointer (some ⟨w.heap.size, 0, none⟩), .pointer (some ⟨w'.heap.size, 0, none⟩), undef, .pointer (some ⟨Bx, 0, none⟩), .slice A0 l0.length c0, .bool true, .bool false, undef, .agg #[.int .i64 0, .int .i64 0, .int .i64 0, .int .i64 0], .slice A0 l0.length c0, .slice A t2.length cA, .func (.func 60) #[] #[.pointer (some ⟨w''.heap.size, 0, none⟩)], .int .i64 x.1, .agg #[.int .i64 x.2.f0, .int .i64 x.2.f1.f0, .int .i64 x.2.f1.f1, .int .i64 x.2.f1.f2, .int .i64 x.2.f1.f3], undef, undef, undef, undef, undef], defers := [] })
   (fun x a' _ X Y row hs hg hr => by obtain ⟨Bx, h1, h2, h3⟩ := hs; exact ⟨Bx, h1, impl_Flat.Five.own _ Bx x.2 () X Y row h2 hg hr, h3⟩)
   ?assign ?body ?done ?stop
  case assign =>
   rintro l pre x W K ⟨⟨⟨p, hp, F3⟩, ⟨q, rfl, F2⟩⟩, hB, hWs⟩ hK
   dsimp only [impl_Flat.enc]
   gi_wp2
   exact hK _ _ ((KeepsOthers.alloc _ _).from _) (impl_Flat.Kp.of_below ((Below.refl _ W).alloc hWs _)) ⟨⟨⟨p, hp, F3.alloc _⟩, ⟨_, rfl, F2.alloc _⟩⟩, hB.alloc hB.size _, by simp; omega⟩
    ⟨W.heap.size, (Array.getElem?_eq_some_iff.1 F3).1, World.alloc_heap_new W _, rfl⟩
  case body =>
   rintro l pre x a' W hl ⟨r, hr⟩ ⟨⟨⟨p, hp, F3⟩, ⟨q, rfl, F2⟩⟩, hB, hWs⟩ ⟨Bx, hBx, F5, rfl⟩ hlt
   have h1' : 1 ≤ 9 - 1 - 1 := by omega
   obtain ⟨s1, s2, s3, s4, ho⟩ := impl_Flat.total x.2.f1.f0 x.2.f1.f1 x.2.f1.f2 x.2.f1.f3 p.1 p.2.1 p.2.2.1 p.2.2.2
   obtain ⟨e1_, e2_, e3_, e4_⟩ := F5.cells
   obtain ⟨⟨c0_, c1_, c2_, c3_⟩, f0_, f1_, f2_, f3_⟩ := F3.cells
   gi_wp2_with (refine ⟨trivial, ?_⟩; gi_at_call 47; refine (CallsIn.inRound l (callsIn_wide.2 (impl_Over.calls _ _ _ _ _ _ _ _ _ _ _ _ _ ho))).mono ?_; rintro e w5 ⟨rfl, hB5⟩; obtain ⟨⟨c0', c1', c2', c3'⟩, f0', f1', f2', f3'⟩ := (F3.move hB5).cells)
   have F3' := (F3.move hB5).set s1 s2 s3 s4
   have F2' := ((((F2.move hB5).far (G := w'.heap.size) (by omega) 0 (.int .i64 s1)).far (G := w'.heap.size) (by omega) 1 (.int .i64 s2)).far (G := w'.heap.size) (by omega) 2 (.int .i64 s3)).far (G := w'.heap.size) (by omega) 3 (.int .i64 s4)
   have hk5 : impl_Flat.Kp W0.heap.size w'.heap.size W w5 := impl_Flat.Kp.of_below (hB5.mono hWs)
   have hk6 := (((hk5.trans (impl_Flat.Kp.set w5 0 (.int .i64 s1))).trans (impl_Flat.Kp.set _ 1 (.int .i64 s2))).trans (impl_Flat.Kp.set _ 2 (.int .i64 s3))).trans (impl_Flat.Kp.set _ 3 (.int .i64 s4))
   have hle : w.heap.size ≤ w'.heap.size := by omega
   refine ⟨((((((impl_Flat.keeps_of_below hB5).trans (KeepsOthers.setCell _ _ _)).trans (KeepsOthers.setCell _ _ _)).trans (KeepsOthers.setCell _ _ _)).trans (KeepsOthers.setCell _ _ _))).from _, hk6, ⟨⟨(s1, s2, s3, s4), ?_, F3'⟩, ⟨_, rfl, F2'⟩⟩,
    ((((below_step hB hB5).setCell (p := ⟨w'.heap.size, 0, none⟩) hle _).setCell (p := ⟨w'.heap.size, 1, none⟩) hle _).setCell (p := ⟨w'.heap.size, 2, none⟩) hle _).setCell (p := ⟨w'.heap.size, 3, none⟩) hle _, Nat.le_trans hWs hk6.size⟩
   rw [List.map_append, List.foldl_append, hp]
   simp [impl_Flat.step, ho]
  case done =>
   rintro D ys W hD rfl ⟨⟨⟨p, hp, F3⟩, ⟨q, rfl, F2⟩⟩, hB, hWs⟩ hK
   rw [impl_Flat.upto_snd, h] at hp
   obtain rfl := Option.some.inj hp
   obtain ⟨⟨c0_, c1_, c2_, c3_⟩, f0_, f1_, f2_, f3_⟩ := F3.cells
   obtain ⟨⟨c0', c1', c2', c3'⟩, f0', f1', f2', f3'⟩ := F2.cells
   gi_wp2
   have hK' := (((((KeepsOthers.setCell W ⟨w.heap.size, 0, none⟩ (.int .i64 r1)).trans (KeepsOthers.setCell _ ⟨w.heap.size, 1, none⟩ (.int .i64 r2))).trans (KeepsOthers.setCell _ ⟨w.heap.size, 2, none⟩ (.int .i64 r3))).trans (KeepsOthers.setCell _ ⟨w.heap.size, 3, none⟩ (.int .i64 r4)))).same D _ hK rfl
   obtain ⟨⟨c0'', c1'', c2'', c3''⟩, _⟩ := ((F2.set r1 r2 r3 r4).put (.deferred none) hK' rfl).cells
   refine ⟨by simp, .inl ⟨_, _, rfl, run_takeDeferred hK', ?_⟩⟩
   refine ⟨_, ?_, rfl, ((((hB.setCell (p := ⟨w.heap.size, 0, none⟩) (Nat.le_refl _) _).setCell (p := ⟨w.heap.size, 1, none⟩) (Nat.le_refl _) _).setCell (p := ⟨w.heap.size, 2, none⟩) (Nat.le_refl _) _).setCell (p := ⟨w.heap.size, 3, none⟩) (Nat.le_refl _) _).trans (belowK_b (w := w) (Nat.le_refl _) _ D _ _ (by omega) hK' rfl rfl)⟩
   simp [results, Try.f20, go_sem, c0'', c1'', c2'', c3'']
  case stop =>
   rintro D c pre W _ _ h _
   exact h.elim

end


/-! ### spec_Merge: function 23 -/
def spec_Merge.f (k : Nat) (l0 : List (S50)) (l1 : List (S50)) : Option ((List (S50))) := (spec_l11Deep.f k l0).bind fun t242 => (if t242 = true then ((spec_l11Deep.f k l1).bind fun t243 => (if t243 = true then (if (wrap64 ((l0.length : Int) + (l1.length : Int))) > 200 then (some (([] : List (S50)))) else ((some (([] : List (S50)) : List (S50))).bind fun y247 => (if y247.length + l0.length < 3518437208883 then ((some (y247 ++ l0 : List (S50))).bind fun y250 => (if y250.length + l1.length < 3518437208883 then ((spec_l11Sort.f k (y250 ++ l1)).bind fun t256 => (some t256)) else (none))) else (none)))) else (some (([] : List (S50)))))) else (some (([] : List (S50)))))
theorem spec_Merge.mono : ∀ a0 a1 k, LeO (spec_Merge.f k a0 a1) (spec_Merge.f (k + 1) a0 a1) := by
 intro a0 a1 k
 unfold spec_Merge.f
 repeat' first
   | (with_reducible exact spec_l11Deep.mono _ _)
   | (with_reducible exact spec_l11Sort.mono _ _)
   | (with_reducible exact LeO.refl _)
   | (with_reducible exact LeO.none _)
   | (with_reducible refine LeO.ite ?_ ?_)
   | (with_reducible refine LeO.bind ?_ (fun _ => ?_))
   | exact spec_l11Deep.mono _ _
   | exact spec_l11Sort.mono _ _
   | exact LeO.none _
   | refine LeO.ite ?_ ?_
   | refine LeO.bind ?_ (fun _ => ?_)
set_option maxHeartbeats 8000000 in
set_option maxRecDepth 100000 in
theorem spec_Merge.calls (k : Nat) (A0 : Option Addr) (c0 : Nat) (l0 : List (S50)) (A1 : Option Addr) (c1 : Nat) (l1 : List (S50)) (r : List (S50)) (w : World) (hr0 : Kd.C k50 w A0 l0.length l0) (hc0 : l0.length ≤ c0) (hr1 : Kd.C k50 w A1 l1.length l1) (hc1 : l1.length ≤ c1) (h : spec_Merge.f k l0 l1 = some r) :
  Calls Try.prog 23 #[.slice A0 l0.length c0, .slice A1 l1.length c1] w fun e w' => ∃ v0_ : Value, e = .returned (v0_) ∧ Kd.R k50 50 w' w.heap.size (fun _ => True) v0_ r ∧ Below w.heap.size w w' := by
 have HR0 := Aside0.mk hr0
 have HC0 := Aside0.mk hc0
 clear hr0 hc0
 have HR1 := Aside0.mk hr1
 have HC1 := Aside0.mk hc1
 clear hr1 hc1
 have HB := Aside0.mk (Below.refl w.heap.size w)
 have H : ((spec_l11Deep.f k l0).bind fun t242 => (if t242 = true then ((spec_l11Deep.f k l1).bind fun t243 => (if t243 = true then (if (wrap64 ((l0.length : Int) + (l1.length : Int))) > 200 then (some (([] : List (S50)))) else ((some (([] : List (S50)) : List (S50))).bind fun y247 => (if y247.length + l0.length < 3518437208883 then ((some (y247 ++ l0 : List (S50))).bind fun y250 => (if y250.length + l1.length < 3518437208883 then ((spec_l11Sort.f k (y250 ++ l1)).bind fun t256 => (some t256)) else (none))) else (none)))) else (some (([] : List (S50)))))) else (some (([] : List (S50)))))) = some r := h
 clear h
 replace H := Option.bind_eq_some_iff.mp H
 obtain ⟨t242, A30, H⟩ := H
 have A3 := Aside0.mk A30
 clear A30
 by_cases c4 : t242 = true
 ·subst c4
  have H1 := H; rw [if_pos rfl] at H1
  clear H
  have H := H1
  clear H1
  replace H := Option.bind_eq_some_iff.mp H
  obtain ⟨t243, A50, H⟩ := H
  have A5 := Aside0.mk A50
  clear A50
  by_cases c6 : t243 = true
  ·subst c6
   have H1 := H; rw [if_pos rfl] at H1
   clear H
   have H := H1
   clear H1
   by_cases c7 : (wrap64 ((l0.length : Int) + (l1.length : Int))) > 200
   ·rw [if_pos c7] at H
    have c7b0 : decide (200 < (wrap64 ((l0.length : Int) + (l1.length : Int)))) = true := decide_eq_true c7
    clear c7
    obtain ⟨y244, hy244⟩ : ∃ y_ : List (S50), y_ = (([] : List (S50))) := ⟨_, rfl⟩
    replace H : (some y244) = some r := by first | (rw [hy244]; with_reducible exact H) | (have H2_ := (Option.bind_some _ _).symm.trans H; rw [hy244]; with_reducible exact H2_) | (have H2_ := (Option.bind_some _ _).symm.trans H; with_reducible exact H2_) | with_reducible exact H | (rw [hy244]; exact H) | exact H
    have Ny244 := Aside0.mk hy244
    clear hy244
    obtain rfl := Option.some.inj H
    go_enter Try.func23, Try.ntmps23
    go_wp2_with (first | ((with_reducible refine gate_callee (f := 40) rfl ?_); refine goesL_ (some 6) rfl rfl Try.func40 (by kernel_rfl) rfl #[.slice A0 l0.length c0] rfl mT ?_; (with_reducible refine (spec_l11Deep.calls k _ _ l0 true _ ?side1 ?side2 A3.out).mono ?_); (case side1 => repeat (first | exact HR0.out | (with_reducible refine Kd.C_alloc ?_ _) | (with_reducible refine Kd.C_drewN ?_ _) | (with_reducible refine Kd.C_drew ?_))); (case side2 => exact HC0.out); rintro e w8 ⟨rfl, hb⟩; refine ⟨_, rfl, ?_⟩; have n0_ := Aside0.mk (below_step (mB HB.out) hb); clear HB; have HB := n0_; clear n0_; (try clear hb)) | (go_at_call 40; (with_reducible refine (spec_l11Deep.calls k _ _ l1 true _ ?side1 ?side2 A5.out).mono ?_); (case side1 => repeat (first | exact (Kd.C_below HR1.out HB.out) | (with_reducible refine Kd.C_alloc ?_ _) | (with_reducible refine Kd.C_drewN ?_ _) | (with_reducible refine Kd.C_drew ?_))); (case side2 => exact HC1.out); rintro e w9 ⟨rfl, hb⟩; have n0_ := Aside0.mk (below_step (mB HB.out) hb); clear HB; have HB := n0_; clear n0_; (try clear hb)) | ((with_reducible refine gate_dst (N := 21) rfl ?_); (try (refine gate_guard (by rfl) ?_; dsimp only)); refine Kd.R_lit k50 _ 50 ?hg (N := 21) ?hd (xs := ([] : List (S50))) (inner := []) (ok := fun _ => True) (okp := fun _ => True) ?hr ?hp (fun _ hk => hk) trivial (Below.refl _ _) (Nat.le_refl _) (by simp) ?_; (case hd => rfl); (case hg => rfl); (case hr => first | (go_simp; done) | (go_simp; rfl)); (case hp => exact (Reps.none _ _)); intro v245 w10 ho11 hb hg_ hnew_; clear hg_ hnew_; (first | rw [← Ny244.out] at ho11 | (simp only [Int.reduceToNat] at ho11; rw [← Ny244.out] at ho11)); have n0_ := Aside0.mk (Kd.R_lower ho11 (below_size (mB HB.out))); have n1_ := Aside0.mk (below_step (mB HB.out) hb); clear HB; have HO246 := n0_; have HB := n1_; clear n0_ n1_; clear hb ho11))
    go_ret
    exact ⟨_, mE, mR HO246.out, mB HB.out⟩
   ·rw [if_neg c7] at H
    have c7b0 : decide (200 < (wrap64 ((l0.length : Int) + (l1.length : Int)))) = false := decide_eq_false c7
    clear c7
    obtain ⟨y247, hy247⟩ : ∃ y_ : List (S50), y_ = (([] : List (S50))) := ⟨_, rfl⟩
    replace H : (if y247.length + l0.length < 3518437208883 then ((some (y247 ++ l0 : List (S50))).bind fun y250 => (if y250.length + l1.length < 3518437208883 then ((spec_l11Sort.f k (y250 ++ l1)).bind fun t256 => (some t256)) else (none))) else (none)) = some r := by first | (rw [hy247]; with_reducible exact H) | (have H2_ := (Option.bind_some _ _).symm.trans H; rw [hy247]; with_reducible exact H2_) | (have H2_ := (Option.bind_some _ _).symm.trans H; with_reducible exact H2_) | with_reducible exact H | (rw [hy247]; exact H) | exact H
    have Ny247 := Aside0.mk hy247
    clear hy247
    by_cases c12 : y247.length + l0.length < 3518437208883
    ·rw [if_pos c12] at H
     have LMc12 := Aside0.mk c12
     clear c12
     obtain ⟨y250, hy250⟩ : ∃ y_ : List (S50), y_ = (y247 ++ l0) := ⟨_, rfl⟩
     replace H : (if y250.length + l1.length < 3518437208883 then ((spec_l11Sort.f k (y250 ++ l1)).bind fun t256 => (some t256)) else (none)) = some r := by first | (rw [hy250]; with_reducible exact H) | (have H2_ := (Option.bind_some _ _).symm.trans H; rw [hy250]; with_reducible exact H2_) | (have H2_ := (Option.bind_some _ _).symm.trans H; with_reducible exact H2_) | with_reducible exact H | (rw [hy250]; exact H) | exact H
     have Ny250 := Aside0.mk hy250
     clear hy250
     by_cases c13 : y250.length + l1.length < 3518437208883
     ·rw [if_pos c13] at H
      have LMc13 := Aside0.mk c13
      clear c13
      obtain ⟨y253, hy253⟩ : ∃ y_ : List (S50), y_ = (y250 ++ l1) := ⟨_, rfl⟩
      replace H : ((spec_l11Sort.f k y253).bind fun t256 => (some t256)) = some r := by first | (rw [hy253]; with_reducible exact H) | (have H2_ := (Option.bind_some _ _).symm.trans H; rw [hy253]; with_reducible exact H2_) | (have H2_ := (Option.bind_some _ _).symm.trans H; with_reducible exact H2_) | with_reducible exact H | (rw [hy253]; exact H) | exact H
      have Ny253 := Aside0.mk hy253
      clear hy253
      replace H := Option.bind_eq_some_iff.mp H
      obtain ⟨t256, A140, H⟩ := H
      have A14 := Aside0.mk A140
      clear A140
      obtain rfl := Option.some.inj H
      go_enter Try.func23, Try.ntmps23
      go_wp2_with (first | ((with_reducible refine gate_callee (f := 40) rfl ?_); refine goesL_ (some 6) rfl rfl Try.func40 (by kernel_rfl) rfl #[.slice A0 l0.length c0] rfl mT ?_; (with_reducible refine (spec_l11Deep.calls k _ _ l0 true _ ?side1 ?side2 A3.out).mono ?_); (case side1 => repeat (first | exact HR0.out | (with_reducible refine Kd.C_alloc ?_ _) | (with_reducible refine Kd.C_drewN ?_ _) | (with_reducible refine Kd.C_drew ?_))); (case side2 => exact HC0.out); rintro e w15 ⟨rfl, hb⟩; refine ⟨_, rfl, ?_⟩; have n0_ := Aside0.mk (below_step (mB HB.out) hb); clear HB; have HB := n0_; clear n0_; (try clear hb)) | (go_at_call 40; (with_reducible refine (spec_l11Deep.calls k _ _ l1 true _ ?side1 ?side2 A5.out).mono ?_); (case side1 => repeat (first | exact (Kd.C_below HR1.out HB.out) | (with_reducible refine Kd.C_alloc ?_ _) | (with_reducible refine Kd.C_drewN ?_ _) | (with_reducible refine Kd.C_drew ?_))); (case side2 => exact HC1.out); rintro e w16 ⟨rfl, hb⟩; have n0_ := Aside0.mk (below_step (mB HB.out) hb); clear HB; have HB := n0_; clear n0_; (try clear hb)) | ((with_reducible refine gate_dst (N := 22) rfl ?_); (try (refine gate_guard (by rfl) ?_; dsimp only)); refine Kd.R_lit k50 _ 50 ?hg (N := 22) ?hd (xs := ([] : List (S50))) (inner := []) (ok := fun _ => True) (okp := fun _ => True) ?hr ?hp (fun _ hk => hk) trivial (Below.refl _ _) (Nat.le_refl _) (by simp) ?_; (case hd => rfl); (case hg => rfl); (case hr => first | (go_simp; done) | (go_simp; rfl)); (case hp => exact (Reps.none _ _)); intro v248 w17 ho18 hb hg_ hnew_; clear hg_ hnew_; (first | rw [← Ny247.out] at ho18 | (simp only [Int.reduceToNat] at ho18; rw [← Ny247.out] at ho18)); have n0_ := Aside0.mk (Kd.R_lower ho18 (below_size (mB HB.out))); have n1_ := Aside0.mk (below_step (mB HB.out) hb); clear HB; have HO249 := n0_; have HB := n1_; clear n0_ n1_; clear hb ho18) | ((with_reducible refine gate_builtin (b := .append) (xs := #[.tmp 22, .tmp 23]) rfl ?_); (try (refine gate_guard (by rfl) ?_; dsimp only)); at_builtin; refine Kd.R_append_rows k50 (w0 := w) w.heap.size rfl (.tmp 22) (.tmp 23) 39 50 (.agg #[(.int .i64 0), (.int .i64 0), (.int .i64 0), (.int .i64 0), (.int .i64 0)]) 40 rfl Try.underlying39 info50 rfl (by decide) (by omega) v248 y247 l0 _ _ _ (fun _ => True) (fun _ => False) rfl rfl ?aO ?aR (fun _ _ h => h) (fun _ h => h.elim) ?aF ?aB ?aS ?aL ?_; (case aR => repeat (first | exact (Kd.C_below HR0.out HB.out) | (with_reducible refine Kd.C_alloc ?_ _) | (with_reducible refine Kd.C_drewN ?_ _) | (with_reducible refine Kd.C_drew ?_))); (case aB => exact (mB HB.out)); (case aF => exact (fun _ _ => trivial)); (case aO => exact (mR HO249.out)); (case aS => exact (below_size (mB HB.out))); (case aL => have := LMc12.out; omega); intro v251 w19 ho hb hg hat; rw [← Ny250.out] at ho; have n0_ := Aside0.mk (hb); have n1_ := Aside0.mk (ho); clear HB; clear HO249; have HB := n0_; have HO252 := n1_; clear n0_ n1_; clear ho hb hg hat) | ((with_reducible refine gate_builtin (b := .append) (xs := #[.tmp 24, .tmp 25]) rfl ?_); (try (refine gate_guard (by rfl) ?_; dsimp only)); at_builtin; refine Kd.R_append_rows k50 (w0 := w) w.heap.size rfl (.tmp 24) (.tmp 25) 39 50 (.agg #[(.int .i64 0), (.int .i64 0), (.int .i64 0), (.int .i64 0), (.int .i64 0)]) 40 rfl Try.underlying39 info50 rfl (by decide) (by omega) v251 y250 l1 _ _ _ (fun _ => True) (fun _ => False) rfl rfl ?aO ?aR (fun _ _ h => h) (fun _ h => h.elim) ?aF ?aB ?aS ?aL ?_; (case aR => repeat (first | exact (Kd.C_below HR1.out HB.out) | (with_reducible refine Kd.C_alloc ?_ _) | (with_reducible refine Kd.C_drewN ?_ _) | (with_reducible refine Kd.C_drew ?_))); (case aB => exact (mB HB.out)); (case aF => exact (fun _ _ => trivial)); (case aO => exact (mR HO252.out)); (case aS => exact (below_size (mB HB.out))); (case aL => have := LMc13.out; omega); intro v254 w20 ho hb hg hat; rw [← Ny253.out] at ho; have n0_ := Aside0.mk (hb); have n1_ := Aside0.mk (ho); clear HB; clear HO252; have HB := n0_; have HO255 := n1_; clear n0_ n1_; clear ho hb hg hat; obtain ⟨Ao21, co21, eo21⟩ := Kd.R_slice HO255.out; subst eo21) | ((with_reducible refine gate_callee (f := 41) rfl ?_); refine goesL_ (some 27) rfl rfl Try.func41 (by kernel_rfl) rfl #[.slice Ao21 y253.length co21] rfl mT ?_; (with_reducible refine (spec_l11Sort.calls k _ _ y253 t256 _ ?side1 ?side2 A14.out).mono ?_); (case side1 => repeat (first | exact (Kd.R_reads' HO255.out).2.2 | (with_reducible refine Kd.C_alloc ?_ _) | (with_reducible refine Kd.C_drewN ?_ _) | (with_reducible refine Kd.C_drew ?_))); (case side2 => exact (Kd.R_reads' HO255.out).2.1); rintro e w22 ⟨v257, rfl, ho0, hb⟩; refine ⟨_, rfl, ?_⟩; have n0_ := Aside0.mk (Kd.R_elder' (mR HO255.out) (Kd.R_base ho0) hb); have n1_ := Aside0.mk (Kd.R_lower (Kd.R_new' ho0 (Kd.R_lt (mR HO255.out))) (below_size (mB HB.out))); have n2_ := Aside0.mk (below_step (mB HB.out) hb); clear HO255; clear HB; have HO255 := n0_; have HO258 := n1_; have HB := n2_; clear n0_ n1_ n2_; (try clear hb); (try clear ho0)))
      go_ret
      exact ⟨_, mE, mR (Kd.R_mono HO258.out (fun _ hk => trivial)), mB HB.out⟩
     ·rw [if_neg c13] at H
      exact absurd H (by simp)
    ·rw [if_neg c12] at H
     exact absurd H (by simp)
  ·replace c6 := Bool.eq_false_iff.mpr c6
   subst c6
   have H1 := H; rw [if_neg (show ¬ (false = true) by decide)] at H1
   clear H
   have H := H1
   clear H1
   obtain ⟨y259, hy259⟩ : ∃ y_ : List (S50), y_ = (([] : List (S50))) := ⟨_, rfl⟩
   replace H : (some y259) = some r := by first | (rw [hy259]; with_reducible exact H) | (have H2_ := (Option.bind_some _ _).symm.trans H; rw [hy259]; with_reducible exact H2_) | (have H2_ := (Option.bind_some _ _).symm.trans H; with_reducible exact H2_) | with_reducible exact H | (rw [hy259]; exact H) | exact H
   have Ny259 := Aside0.mk hy259
   clear hy259
   obtain rfl := Option.some.inj H
   go_enter Try.func23, Try.ntmps23
   go_wp2_with (first | ((with_reducible refine gate_callee (f := 40) rfl ?_); refine goesL_ (some 6) rfl rfl Try.func40 (by kernel_rfl) rfl #[.slice A0 l0.length c0] rfl mT ?_; (with_reducible refine (spec_l11Deep.calls k _ _ l0 true _ ?side1 ?side2 A3.out).mono ?_); (case side1 => repeat (first | exact HR0.out | (with_reducible refine Kd.C_alloc ?_ _) | (with_reducible refine Kd.C_drewN ?_ _) | (with_reducible refine Kd.C_drew ?_))); (case side2 => exact HC0.out); rintro e w23 ⟨rfl, hb⟩; refine ⟨_, rfl, ?_⟩; have n0_ := Aside0.mk (below_step (mB HB.out) hb); clear HB; have HB := n0_; clear n0_; (try clear hb)) | (go_at_call 40; (with_reducible refine (spec_l11Deep.calls k _ _ l1 false _ ?side1 ?side2 A5.out).mono ?_); (case side1 => repeat (first | exact (Kd.C_below HR1.out HB.out) | (with_reducible refine Kd.C_alloc ?_ _) | (with_reducible refine Kd.C_drewN ?_ _) | (with_reducible refine Kd.C_drew ?_))); (case side2 => exact HC1.out); rintro e w24 ⟨rfl, hb⟩; have n0_ := Aside0.mk (below_step (mB HB.out) hb); clear HB; have HB := n0_; clear n0_; (try clear hb)) | ((with_reducible refine gate_dst (N := 21) rfl ?_); (try (refine gate_guard (by rfl) ?_; dsimp only)); refine Kd.R_lit k50 _ 50 ?hg (N := 21) ?hd (xs := ([] : List (S50))) (inner := []) (ok := fun _ => True) (okp := fun _ => True) ?hr ?hp (fun _ hk => hk) trivial (Below.refl _ _) (Nat.le_refl _) (by simp) ?_; (case hd => rfl); (case hg => rfl); (case hr => first | (go_simp; done) | (go_simp; rfl)); (case hp => exact (Reps.none _ _)); intro v260 w25 ho26 hb hg_ hnew_; clear hg_ hnew_; (first | rw [← Ny259.out] at ho26 | (simp only [Int.reduceToNat] at ho26; rw [← Ny259.out] at ho26)); have n0_ := Aside0.mk (Kd.R_lower ho26 (below_size (mB HB.out))); have n1_ := Aside0.mk (below_step (mB HB.out) hb); clear HB; have HO261 := n0_; have HB := n1_; clear n0_ n1_; clear hb ho26))
   go_ret
   exact ⟨_, mE, mR HO261.out, mB HB.out⟩
 ·replace c4 := Bool.eq_false_iff.mpr c4
  subst c4
  have H1 := H; rw [if_neg (show ¬ (false = true) by decide)] at H1
  clear H
  have H := H1
  clear H1
  obtain ⟨y262, hy262⟩ : ∃ y_ : List (S50), y_ = (([] : List (S50))) := ⟨_, rfl⟩
  replace H : (some y262) = some r := by first | (rw [hy262]; with_reducible exact H) | (have H2_ := (Option.bind_some _ _).symm.trans H; rw [hy262]; with_reducible exact H2_) | (have H2_ := (Option.bind_some _ _).symm.trans H; with_reducible exact H2_) | with_reducible exact H | (rw [hy262]; exact H) | exact H
  have Ny262 := Aside0.mk hy262
  clear hy262
  obtain rfl := Option.some.inj H
  go_enter Try.func23, Try.ntmps23
  go_wp2_with (first | ((with_reducible refine gate_callee (f := 40) rfl ?_); refine goesL_ (some 6) rfl rfl Try.func40 (by kernel_rfl) rfl #[.slice A0 l0.length c0] rfl mT ?_; (with_reducible refine (spec_l11Deep.calls k _ _ l0 false _ ?side1 ?side2 A3.out).mono ?_); (case side1 => repeat (first | exact HR0.out | (with_reducible refine Kd.C_alloc ?_ _) | (with_reducible refine Kd.C_drewN ?_ _) | (with_reducible refine Kd.C_drew ?_))); (case side2 => exact HC0.out); rintro e w27 ⟨rfl, hb⟩; refine ⟨_, rfl, ?_⟩; have n0_ := Aside0.mk (below_step (mB HB.out) hb); clear HB; have HB := n0_; clear n0_; (try clear hb)) | ((with_reducible refine gate_dst (N := 21) rfl ?_); (try (refine gate_guard (by rfl) ?_; dsimp only)); refine Kd.R_lit k50 _ 50 ?hg (N := 21) ?hd (xs := ([] : List (S50))) (inner := []) (ok := fun _ => True) (okp := fun _ => True) ?hr ?hp (fun _ hk => hk) trivial (Below.refl _ _) (Nat.le_refl _) (by simp) ?_; (case hd => rfl); (case hg => rfl); (case hr => first | (go_simp; done) | (go_simp; rfl)); (case hp => exact (Reps.none _ _)); intro v263 w28 ho29 hb hg_ hnew_; clear hg_ hnew_; (first | rw [← Ny262.out] at ho29 | (simp only [Int.reduceToNat] at ho29; rw [← Ny262.out] at ho29)); have n0_ := Aside0.mk (Kd.R_lower ho29 (below_size (mB HB.out))); have n1_ := Aside0.mk (below_step (mB HB.out) hb); clear HB; have HO264 := n0_; have HB := n1_; clear n0_ n1_; clear hb ho29))
  go_ret
  exact ⟨_, mE, mR HO264.out, mB HB.out⟩

-- NOT PRINTED: function 68 (impl_Deep_68)

/-! ### impl_Deep_49: function 49 -/
-- rounds 0 making 1
set_option maxHeartbeats 8000000 in
set_option maxRecDepth 100000 in
/-- slices.Grow of a nil row. -/
theorem grow_Deep (A : Option Addr) (hA : A = none) (n : Int) (w : World) (h0 : 0 ≤ n) (hb : n ≤ 1000000000) : Calls Try.prog 68 #[.slice A 0 0, .int .i64 n] w fun e w' => ∃ v : Value, e = .returned v ∧ Kd.R k50 50 w' w.heap.size (fun _ => True) v [] ∧ Below w.heap.size w w' := by
 have HB := Aside0.mk (Below.refl w.heap.size w)
 have hu39 := Try.underlying39
 have c1 : decide (n < 0) = false := decide_eq_false (by omega)
 have hw : wrap64 n = n := by unfold wrap64; omega
 have HW := Aside0.mk hw
 have H0 := Aside0.mk h0
 have H1 := Aside0.mk hb
 have HA := Aside0.mk hA
 clear hb hA
 by_cases hp : 0 < n
 ·have c2 : decide (0 < n) = true := decide_eq_true hp
  have h64 : ((n.toNat : Nat) : Int) = n := by omega
  clear h0 hp
  go_enter Try.func68, Try.ntmps68
  go_wp2_with (first | ((with_reducible refine gate_dst (N := 22) rfl ?_); go_loud (refine Kd.R_append_zeros k50 (w0 := w) w.heap.size rfl (.tmp 20) (.tmp 21) 39 3 50 (.agg #[(.int .i64 0), (.int .i64 0), (.int .i64 0), (.int .i64 0), (.int .i64 0)]) 40 (by rfl) Try.underlying39 (k := .i64) Try.underlying3 info50 rfl (by decide) (by omega) (.slice A 0 0) ([] : List S50) z50 (kx := .i64) (wrap64 n) (fun _ => True) (by rfl) (by rfl) (k50_mkM _ _ _ z50) (fun _ _ => trivial) (by rw [HA.out]; exact Kd.R_nil _ _ _ _ _) (by rw [HW.out]; exact H0.out) HB.out (Nat.le_refl _) (by have h1 := H1.out; have h2 := H0.out; rw [HW.out]; simp; omega) ?_; intro v1 w1 ho hb hg_ hat_; have HO := Aside0.mk ho; have HB2 := Aside0.mk hb; obtain ⟨A1, c1, e1⟩ := Kd.R_slice ho; subst e1; rw [HW.out] at HO)))
  go_ret
  exact ⟨_, rfl, Kd.R_take (m := 0) HO.out (Nat.zero_le _), HB2.out⟩
 ·have c2 : decide (0 < n) = false := decide_eq_false hp
  obtain rfl : n = 0 := by omega
  clear h0 hp
  go_enter Try.func68, Try.ntmps68
  go_wp2
  go_ret
  exact ⟨_, rfl, (by rw [HA.out]; exact Kd.R_nil _ _ _ _ _), HB.out⟩
theorem flat_take5 (xs : List (List S50)) (i : Nat) (hi : i < xs.length) : (xs.take (i + 1)).flatten = (xs.take i).flatten ++ rd_L4 xs (i : Int) := by
 have h : rd_L4 xs (i : Int) = xs[i] := by
  unfold rd_L4
  rw [List.getD_eq_getElem?_getD, show ((i : Int)).toNat = i by omega, List.getElem?_eq_getElem hi]
  rfl
 rw [List.take_succ_eq_append_getElem hi, List.flatten_append, h]
 simp
theorem flat_le5 (xs : List (List S50)) (i : Nat) : (xs.take i).flatten.length ≤ xs.flatten.length := by
 have h : xs.flatten = (xs.take i).flatten ++ (xs.drop i).flatten := by rw [← List.flatten_append, List.take_append_drop]
 rw [h, List.length_append]
 omega
set_option maxHeartbeats 8000000 in
set_option maxRecDepth 100000 in
/-- slices.Concat of rows of samples. -/
theorem concat_Deep (A : Option Addr) (c : Nat) (xs : List (List S50)) (w : World) (hr : Kd.C (Kd.slice 50 k50) w A xs.length xs) (hx : xs.length ≤ 1000) (hs : xs.flatten.length ≤ 1000000000) :
  Calls Try.prog 49 #[.slice A xs.length c] w fun e w' => ∃ v : Value, e = .returned v ∧ Kd.R k50 50 w' w.heap.size (fun _ => True) v xs.flatten ∧ Below w.heap.size w w' := by
 have hu39 := Try.underlying39
 have hu88 := Try.underlying88
 have HB := Aside0.mk (Below.refl w.heap.size w)
 have HR0 := Aside0.mk hr
 have HX := Aside0.mk hx
 have HS := Aside0.mk hs
 clear hr hx hs
 go_enter Try.func49, Try.ntmps49
 go_wp2
 go_loopg [3, 11] xs.length (fun kq v3 v11 w' => ∃ (i s : Nat), v3 = .int .i64 (s : Int) ∧ v11 = .int .i64 (i : Int) ∧ Aside0 (s = (xs.take i).flatten.length) ∧ Aside0 (i + kq = xs.length) ∧ Aside0 (Below w.heap.size w w'))
 case atStart => exact ⟨0, 0, rfl, rfl, ⟨rfl⟩, ⟨by omega⟩, HB⟩
 case round =>
  clear HB
  obtain ⟨i, s, rfl, rfl, HSI, HK, HB⟩ := hrel
  by_cases hi : i < xs.length
  ·have hlt : decide (i < xs.length) = true := decide_eq_true hi
   obtain ⟨ad, A0, c0, e0, hcell, hl0, hi0⟩ := at_L4 HR0.out (i : Int) (by omega) (by omega)
   cases e0
   have p0 : (0 ≤ (i : Int)) = True := eq_true (by omega)
   have q0 : ((i : Int) < (xs.length : Int)) = True := eq_true (by omega)
   have HF := Aside0.mk (flat_take5 xs i hi)
   obtain ⟨s2, hs2⟩ : ∃ s2 : Nat, s2 = s + (rd_L4 xs (i : Int)).length := ⟨_, rfl⟩
   have HS2 : Aside0 (s2 = (xs.take (i + 1)).flatten.length) := ⟨by rw [HF.out, List.length_append, ← HSI.out]; exact hs2⟩
   have hq : wrap64 ((s : Int) + (((rd_L4 xs (i : Int)).length : Nat) : Int)) = (s2 : Int) := by
    have h1 := flat_le5 xs (i + 1)
    have h2 := HS.out
    rw [← HS2.out] at h1
    unfold wrap64
    omega
   have hneg : decide ((s2 : Int) < 0) = false := decide_eq_false (by omega)
   have hcell2 : wr.cell? (ad.add i) = some (.slice A0 (rd_L4 xs (i : Int)).length c0) := (HB.out.cell (World.block_lt_of_cell? w _ hcell)).trans hcell
   have HI := Aside0.mk hi
   have hw1 : wrap64 ((i : Int) + 1) = ((i + 1 : Nat) : Int) := by have := HX.out; unfold wrap64; omega
   clear hi hs2 hcell hi0
   go_wp2
   go_roundg (gk - 1)
   case measure => have := HK.out; have := HI.out; omega
   case rel => exact ⟨i + 1, s2, by first | rfl | simp [hq], by first | rfl | simp [hw1], HS2, ⟨by have := HK.out; have := HI.out; omega⟩, HB⟩
  ·have hlt : decide (i < xs.length) = false := decide_eq_false hi
   have HT : Aside0 (s = xs.flatten.length) := ⟨by have h := HSI.out; rwa [List.take_of_length_le (by omega)] at h⟩
   clear HK hi HSI
   go_wp2_with (first | ((with_reducible refine gate_dst (N := 24) rfl ?_); go_loud (refine goesL_ (some 24) rfl rfl Try.func68 (by kernel_rfl) rfl #[.slice none 0 0, .int .i64 (s : Int)] rfl (by (try simp only [List.map_toArray, List.map_cons, List.map_nil]); first | done | rfl) ?_; (with_reducible refine (grow_Deep none rfl (s : Int) _ (by omega) (by have := HS.out; have := HT.out; omega)).mono ?_); rintro e W1 ⟨v6, rfl, ho, hb⟩; refine ⟨_, rfl, ?_⟩; have HO := Aside0.mk (Kd.R_lower ho HB.out.size); have HB2 := Aside0.mk (below_step HB.out hb); clear ho hb)))
   clear HB
   go_loopg [6, 27] xs.length (fun kq v6 v27 w' => ∃ (j : Nat), v27 = .int .i64 (j : Int) ∧ Aside0 (j + kq = xs.length) ∧ Aside0 (Kd.R k50 50 w' w.heap.size (fun _ => True) v6 (xs.take j).flatten) ∧ Aside0 (Below w.heap.size w w'))
   case atStart => exact ⟨0, rfl, ⟨by omega⟩, ⟨HO.out⟩, HB2⟩
   case round =>
    clear HO HB2
    obtain ⟨j, rfl, HK, HO, HB⟩ := hrel
    by_cases hj : j < xs.length
    ·have hlt : decide (j < xs.length) = true := decide_eq_true hj
     obtain ⟨ad, A0, c0, e0, hcell, hl0, hi0⟩ := at_L4 HR0.out (j : Int) (by omega) (by omega)
     cases e0
     have p0 : (0 ≤ (j : Int)) = True := eq_true (by omega)
     have q0 : ((j : Int) < (xs.length : Int)) = True := eq_true (by omega)
     have HF := Aside0.mk (flat_take5 xs j hj)
     have HL := Aside0.mk (flat_le5 xs (j + 1))
     have HI := Aside0.mk (Kd.C_below hi0 HB.out)
     have hcell2 : wr.cell? (ad.add j) = some (.slice A0 (rd_L4 xs (j : Int)).length c0) := (HB.out.cell (World.block_lt_of_cell? w _ hcell)).trans hcell
     have HJ := Aside0.mk hj
     have hw1 : wrap64 ((j : Int) + 1) = ((j + 1 : Nat) : Int) := by have := HX.out; unfold wrap64; omega
     clear hj hi0 hcell
     go_wp2_with (first | ((with_reducible refine gate_dst (N := 33) rfl ?_); at_builtin; go_loud (refine Kd.R_append_rows k50 (w0 := w) w.heap.size rfl (.tmp 31) (.tmp 32) 39 50 (.agg #[(.int .i64 0), (.int .i64 0), (.int .i64 0), (.int .i64 0), (.int .i64 0)]) 40 (by rfl) Try.underlying39 info50 rfl (by decide) (by omega) u6 (xs.take j).flatten (rd_L4 xs (j : Int)) _ _ _ (fun _ => True) (fun _ => False) (by rfl) (by rfl) ?aO ?aR (fun _ _ h => h) (fun _ h => h.elim) (fun _ _ => trivial) HB.out HB.out.size ?aL ?_; (case aO => exact HO.out); (case aR => exact HI.out); (case aL => (have h1 := HL.out; have h2 := HS.out; rw [HF.out, List.length_append] at h1; omega)); intro v1 w2 ho hb hg_ hat_; have HO2 := Aside0.mk ho; have HB2 := Aside0.mk hb; clear ho hb hg_ hat_)))
     go_roundg (gk - 1)
     case measure => have := HK.out; have := HJ.out; omega
     case rel => exact ⟨j + 1, by first | rfl | simp [hw1], ⟨by have := HK.out; have := HJ.out; omega⟩, ⟨by rw [HF.out]; exact HO2.out⟩, HB2⟩
    ·have hlt : decide (j < xs.length) = false := decide_eq_false hj
     have HF : Aside0 (Kd.R k50 50 wr w.heap.size (fun _ => True) u6 xs.flatten) := ⟨by
      have h := HO.out
      rwa [List.take_of_length_le (by omega)] at h⟩
     clear HK HO hj
     go_wp2
     go_ret
     exact ⟨_, rfl, HF.out, HB.out⟩
def impl_Deep_49.f (l0 : List (List (S50))) : Option (List (S50)) := if l0.length ≤ 1000 ∧ l0.flatten.length ≤ 1000000 then some l0.flatten else none
theorem impl_Deep_49.calls (A0 : Option Addr) (c0 : Nat) (l0 : List (List (S50))) (r : List (S50)) (w : World) (hr0 : Kd.C (Kd.slice 50 k50) w A0 l0.length l0) (hc0 : l0.length ≤ c0) (h : impl_Deep_49.f l0 = some r) :
  Calls Try.prog 49 #[.slice A0 l0.length c0] w fun e w' => ∃ v0_ : Value, e = .returned (v0_) ∧ Kd.R k50 50 w' w.heap.size (fun _ => True) v0_ r ∧ Below w.heap.size w w' := by
 unfold impl_Deep_49.f at h
 by_cases hl : l0.length ≤ 1000 ∧ l0.flatten.length ≤ 1000000
 case neg =>
  rw [if_neg hl] at h
  exact absurd h (by simp)
 rw [if_pos hl] at h
 obtain rfl := Option.some.inj h
 exact concat_Deep A0 c0 l0 w hr0 hl.1 (by omega)


/-! ### impl_Merge: function 24 -/
def impl_Merge.j0 : Nat → List (S50) → List (S50) → Bool → Option ((List (S50)))
 | 0, _, _, _ => none
 | k + 1, x0, x1, x20 => if x20 = true then (some ([] : List (S50))) else ((impl_Deep_49.f (([x0, x1] : List (List (S50))))).bind fun t270 => ((impl_byDepth.f k t270).bind fun t273 => (some t273)))
def impl_Merge.f (k : Nat) (l0 : List (S50)) (l1 : List (S50)) : Option ((List (S50))) := (impl_deepOk.f k l0).bind fun t265 => (if t265 = true then ((impl_deepOk.f k l1).bind fun t266 => (if t266 = true then (impl_Merge.j0 k l0 l1 (decide ((wrap64 ((l0.length : Int) + (l1.length : Int))) > 200))) else (impl_Merge.j0 k l0 l1 true))) else (impl_Merge.j0 k l0 l1 true))
theorem impl_Merge.mono_l : ∀ k, (∀ y0 y1 y2, LeO (impl_Merge.j0 k y0 y1 y2) (impl_Merge.j0 (k + 1) y0 y1 y2))
 | 0 => fun _ _ _ r h => by simp [impl_Merge.j0] at h
 | k + 1 => by
  have ih0 := impl_Merge.mono_l k
  ·intro y0 y1 y2
   unfold impl_Merge.j0
   repeat' first
   | (with_reducible exact ih0 _ _ _)
   | (with_reducible exact impl_byDepth.mono _ _)
   | (with_reducible exact impl_deepOk.mono _ _)
   | (with_reducible exact LeO.refl _)
   | (with_reducible exact LeO.none _)
   | (with_reducible refine LeO.ite ?_ ?_)
   | (with_reducible refine LeO.bind ?_ (fun _ => ?_))
   | exact ih0 _ _ _
   | exact impl_byDepth.mono _ _
   | exact impl_deepOk.mono _ _
   | exact LeO.none _
   | refine LeO.ite ?_ ?_
   | refine LeO.bind ?_ (fun _ => ?_)
theorem impl_Merge.mono : ∀ a0 a1 k, LeO (impl_Merge.f k a0 a1) (impl_Merge.f (k + 1) a0 a1) := by
 intro a0 a1 k
 have ih0 := impl_Merge.mono_l k
 unfold impl_Merge.f
 repeat' first
   | (with_reducible exact ih0 _ _ _)
   | (with_reducible exact impl_byDepth.mono _ _)
   | (with_reducible exact impl_deepOk.mono _ _)
   | (with_reducible exact LeO.refl _)
   | (with_reducible exact LeO.none _)
   | (with_reducible refine LeO.ite ?_ ?_)
   | (with_reducible refine LeO.bind ?_ (fun _ => ?_))
   | exact ih0 _ _ _
   | exact impl_byDepth.mono _ _
   | exact impl_deepOk.mono _ _
   | exact LeO.none _
   | refine LeO.ite ?_ ?_
   | refine LeO.bind ?_ (fun _ => ?_)
set_option maxHeartbeats 8000000 in
set_option maxRecDepth 100000 in
theorem impl_Merge.calls (k : Nat) (P0_ : Nat → Prop) (A0 : Option Addr) (c0 : Nat) (l0 : List (S50)) (P1_ : Nat → Prop) (A1 : Option Addr) (c1 : Nat) (l1 : List (S50)) (r : List (S50)) (w : World) (hs0 : Kd.V k50 50 w w.heap.size (fun k_ => P0_ k_) (.slice A0 l0.length c0) l0) (hs1 : Kd.V k50 50 w w.heap.size (fun k_ => P1_ k_) (.slice A1 l1.length c1) l1) (h : impl_Merge.f k l0 l1 = some r) :
  Calls Try.prog 24 #[.slice A0 l0.length c0, .slice A1 l1.length c1] w fun e w' => ∃ v0_ : Value, e = .returned (v0_) ∧ Kd.R k50 50 w' w.heap.size (fun k_ => (w.heap.size ≤ k_)) v0_ r ∧ Below w.heap.size w w' := by
 have HO0 := Aside0.mk (show Kd.V k50 50 w w.heap.size (fun k_ => ((P0_ k_ ∨ P1_ k_) ∨ w.heap.size ≤ k_)) (.slice A0 l0.length c0) l0 from Kd.V_mono hs0 (fun k_ hk => .inl (.inl hk)))
 have HO1 := Aside0.mk (show Kd.V k50 50 w w.heap.size (fun k_ => ((P0_ k_ ∨ P1_ k_) ∨ w.heap.size ≤ k_)) (.slice A1 l1.length c1) l1 from Kd.V_mono hs1 (fun k_ hk => .inl (.inr hk)))
 have HB := Aside0.mk (Below.refl w.heap.size w)
 have H : ((impl_deepOk.f k l0).bind fun t265 => (if t265 = true then ((impl_deepOk.f k l1).bind fun t266 => (if t266 = true then (impl_Merge.j0 k l0 l1 (decide ((wrap64 ((l0.length : Int) + (l1.length : Int))) > 200))) else (impl_Merge.j0 k l0 l1 true))) else (impl_Merge.j0 k l0 l1 true))) = some r := h
 clear h
 have HC3 := Aside0.mk H
 clear H
 go_enter Try.func24, Try.ntmps24
 go_upto_region 1 with (fail)
 go_cut [20] (fun v20 wc => ∃ (kq : Nat) (x20_2 : Bool), v20 = .bool x20_2 ∧ Aside0 (impl_Merge.j0 kq l0 l1 x20_2 = some r) ∧ Aside0 (kq ≤ k) ∧ Aside0 (Kd.V k50 50 wc w.heap.size (fun k_ => ((P0_ k_ ∨ P1_ k_) ∨ w.heap.size ≤ k_)) (.slice A0 l0.length c0) l0) ∧ Aside0 (Kd.V k50 50 wc w.heap.size (fun k_ => ((P0_ k_ ∨ P1_ k_) ∨ w.heap.size ≤ k_)) (.slice A1 l1.length c1) l1) ∧ Aside0 (Below w.heap.size w wc))
 case first =>
  have H := HC3.out
  clear HC3
  replace H := Option.bind_eq_some_iff.mp H
  obtain ⟨t265, A40, H⟩ := H
  have A4 := Aside0.mk A40
  clear A40
  by_cases c5 : t265 = true
  ·subst c5
   have H1 := H; rw [if_pos rfl] at H1
   clear H
   have H := H1
   clear H1
   replace H := Option.bind_eq_some_iff.mp H
   obtain ⟨t266, A60, H⟩ := H
   have A6 := Aside0.mk A60
   clear A60
   by_cases c7 : t266 = true
   ·subst c7
    have H1 := H; rw [if_pos rfl] at H1
    clear H
    have H := H1
    clear H1
    have H' := Aside0.mk H
    clear H
    go_wp2_with (first | ((with_reducible refine gate_callee (f := 44) rfl ?_); refine goesL_ (some 6) rfl rfl Try.func44 (by kernel_rfl) rfl #[.slice A0 l0.length c0] rfl mT ?_; (with_reducible refine (impl_deepOk.calls k _ _ l0 true _ ?side1 ?side2 A4.out).mono ?_); (case side1 => repeat (first | exact (Kd.V_reads' HO0.out).2.2 | (with_reducible refine Kd.C_alloc ?_ _) | (with_reducible refine Kd.C_drewN ?_ _) | (with_reducible refine Kd.C_drew ?_))); (case side2 => exact (Kd.V_reads' HO0.out).2.1); rintro e w8 ⟨rfl, hb⟩; refine ⟨_, rfl, ?_⟩; have n0_ := Aside0.mk (Kd.V_below (by (with_reducible repeat (first | apply Kd.V_alloc | apply Kd.V_drewN | apply Kd.V_drew)); exact HO0.out) hb); have n1_ := Aside0.mk (Kd.V_below (by (with_reducible repeat (first | apply Kd.V_alloc | apply Kd.V_drewN | apply Kd.V_drew)); exact HO1.out) hb); have n2_ := Aside0.mk (below_step (mB HB.out) hb); clear HO0; clear HO1; clear HB; have HO0 := n0_; have HO1 := n1_; have HB := n2_; clear n0_ n1_ n2_; (try clear hb)) | (go_at_call 44; (with_reducible refine (impl_deepOk.calls k _ _ l1 true _ ?side1 ?side2 A6.out).mono ?_); (case side1 => repeat (first | exact (Kd.V_reads' HO1.out).2.2 | (with_reducible refine Kd.C_alloc ?_ _) | (with_reducible refine Kd.C_drewN ?_ _) | (with_reducible refine Kd.C_drew ?_))); (case side2 => exact (Kd.V_reads' HO1.out).2.1); rintro e w9 ⟨rfl, hb⟩; have n0_ := Aside0.mk (Kd.V_below (by (with_reducible repeat (first | apply Kd.V_alloc | apply Kd.V_drewN | apply Kd.V_drew)); exact HO0.out) hb); have n1_ := Aside0.mk (Kd.V_below (by (with_reducible repeat (first | apply Kd.V_alloc | apply Kd.V_drewN | apply Kd.V_drew)); exact HO1.out) hb); have n2_ := Aside0.mk (below_step (mB HB.out) hb); clear HO0; clear HO1; clear HB; have HO0 := n0_; have HO1 := n1_; have HB := n2_; clear n0_ n1_ n2_; (try clear hb)))
    go_meet
    case rel => exact ⟨_, (decide ((wrap64 ((l0.length : Int) + (l1.length : Int))) > 200)), (by first | rfl | (simp; done) | (simp [*]; done)), H', ⟨by first | omega | exact Nat.le_refl _⟩, ⟨by (with_reducible repeat (first | apply Kd.V_alloc | apply Kd.V_drewN | apply Kd.V_drew)); exact HO0.out⟩, ⟨by (with_reducible repeat (first | apply Kd.V_alloc | apply Kd.V_drewN | apply Kd.V_drew)); exact HO1.out⟩, ⟨mB HB.out⟩⟩
   ·replace c7 := Bool.eq_false_iff.mpr c7
    subst c7
    have H1 := H; rw [if_neg (show ¬ (false = true) by decide)] at H1
    clear H
    have H := H1
    clear H1
    have H' := Aside0.mk H
    clear H
    go_wp2_with (first | ((with_reducible refine gate_callee (f := 44) rfl ?_); refine goesL_ (some 6) rfl rfl Try.func44 (by kernel_rfl) rfl #[.slice A0 l0.length c0] rfl mT ?_; (with_reducible refine (impl_deepOk.calls k _ _ l0 true _ ?side1 ?side2 A4.out).mono ?_); (case side1 => repeat (first | exact (Kd.V_reads' HO0.out).2.2 | (with_reducible refine Kd.C_alloc ?_ _) | (with_reducible refine Kd.C_drewN ?_ _) | (with_reducible refine Kd.C_drew ?_))); (case side2 => exact (Kd.V_reads' HO0.out).2.1); rintro e w10 ⟨rfl, hb⟩; refine ⟨_, rfl, ?_⟩; have n0_ := Aside0.mk (Kd.V_below (by (with_reducible repeat (first | apply Kd.V_alloc | apply Kd.V_drewN | apply Kd.V_drew)); exact HO0.out) hb); have n1_ := Aside0.mk (Kd.V_below (by (with_reducible repeat (first | apply Kd.V_alloc | apply Kd.V_drewN | apply Kd.V_drew)); exact HO1.out) hb); have n2_ := Aside0.mk (below_step (mB HB.out) hb); clear HO0; clear HO1; clear HB; have HO0 := n0_; have HO1 := n1_; have HB := n2_; clear n0_ n1_ n2_; (try clear hb)) | (go_at_call 44; (with_reducible refine (impl_deepOk.calls k _ _ l1 false _ ?side1 ?side2 A6.out).mono ?_); (case side1 => repeat (first | exact (Kd.V_reads' HO1.out).2.2 | (with_reducible refine Kd.C_alloc ?_ _) | (with_reducible refine Kd.C_drewN ?_ _) | (with_reducible refine Kd.C_drew ?_))); (case side2 => exact (Kd.V_reads' HO1.out).2.1); rintro e w11 ⟨rfl, hb⟩; have n0_ := Aside0.mk (Kd.V_below (by (with_reducible repeat (first | apply Kd.V_alloc | apply Kd.V_drewN | apply Kd.V_drew)); exact HO0.out) hb); have n1_ := Aside0.mk (Kd.V_below (by (with_reducible repeat (first | apply Kd.V_alloc | apply Kd.V_drewN | apply Kd.V_drew)); exact HO1.out) hb); have n2_ := Aside0.mk (below_step (mB HB.out) hb); clear HO0; clear HO1; clear HB; have HO0 := n0_; have HO1 := n1_; have HB := n2_; clear n0_ n1_ n2_; (try clear hb)))
    go_meet
    case rel => exact ⟨_, (true), (by first | rfl | (simp; done) | (simp [*]; done)), H', ⟨by first | omega | exact Nat.le_refl _⟩, ⟨by (with_reducible repeat (first | apply Kd.V_alloc | apply Kd.V_drewN | apply Kd.V_drew)); exact HO0.out⟩, ⟨by (with_reducible repeat (first | apply Kd.V_alloc | apply Kd.V_drewN | apply Kd.V_drew)); exact HO1.out⟩, ⟨mB HB.out⟩⟩
  ·replace c5 := Bool.eq_false_iff.mpr c5
   subst c5
   have H1 := H; rw [if_neg (show ¬ (false = true) by decide)] at H1
   clear H
   have H := H1
   clear H1
   have H' := Aside0.mk H
   clear H
   go_wp2_with (first | ((with_reducible refine gate_callee (f := 44) rfl ?_); refine goesL_ (some 6) rfl rfl Try.func44 (by kernel_rfl) rfl #[.slice A0 l0.length c0] rfl mT ?_; (with_reducible refine (impl_deepOk.calls k _ _ l0 false _ ?side1 ?side2 A4.out).mono ?_); (case side1 => repeat (first | exact (Kd.V_reads' HO0.out).2.2 | (with_reducible refine Kd.C_alloc ?_ _) | (with_reducible refine Kd.C_drewN ?_ _) | (with_reducible refine Kd.C_drew ?_))); (case side2 => exact (Kd.V_reads' HO0.out).2.1); rintro e w12 ⟨rfl, hb⟩; refine ⟨_, rfl, ?_⟩; have n0_ := Aside0.mk (Kd.V_below (by (with_reducible repeat (first | apply Kd.V_alloc | apply Kd.V_drewN | apply Kd.V_drew)); exact HO0.out) hb); have n1_ := Aside0.mk (Kd.V_below (by (with_reducible repeat (first | apply Kd.V_alloc | apply Kd.V_drewN | apply Kd.V_drew)); exact HO1.out) hb); have n2_ := Aside0.mk (below_step (mB HB.out) hb); clear HO0; clear HO1; clear HB; have HO0 := n0_; have HO1 := n1_; have HB := n2_; clear n0_ n1_ n2_; (try clear hb)))
   go_meet
   case rel => exact ⟨_, (true), (by first | rfl | (simp; done) | (simp [*]; done)), H', ⟨by first | omega | exact Nat.le_refl _⟩, ⟨by (with_reducible repeat (first | apply Kd.V_alloc | apply Kd.V_drewN | apply Kd.V_drew)); exact HO0.out⟩, ⟨by (with_reducible repeat (first | apply Kd.V_alloc | apply Kd.V_drewN | apply Kd.V_drew)); exact HO1.out⟩, ⟨mB HB.out⟩⟩
 case rest =>
  clear HC3
  obtain ⟨kq, x20_2, rfl, HA, HJ2, HO_0, HO_1, HB⟩ := hcut
  cases kq with
  | zero => exact absurd HA.out (by simp [impl_Merge.j0])
  | succ kj2 =>
   have H := HA.out
   clear HA
   simp only [impl_Merge.j0] at H
   by_cases c13 : x20_2 = true
   ·subst c13
    have H1 := H; rw [if_pos rfl] at H1
    clear H
    have H := H1
    clear H1
    obtain rfl := Option.some.inj H
    go_wp2
    go_ret
    exact ⟨_, mE, by first | exact Kd.R_nil _ _ _ _ _ | exact Kd.N_nil _ _ _ _ _ | exact Kd.V_nil _ _ _ _ _ | exact Kd.Q_nil _ _ _ _ _ | exact Kd.S_nil _ _ _ _ _, mB HB.out⟩
   ·replace c13 := Bool.eq_false_iff.mpr c13
    subst c13
    have H1 := H; rw [if_neg (show ¬ (false = true) by decide)] at H1
    clear H
    have H := H1
    clear H1
    obtain ⟨y267, hy267⟩ : ∃ y_ : List (List (S50)), y_ = (([l0, l1] : List (List (S50)))) := ⟨_, rfl⟩
    replace H : ((impl_Deep_49.f y267).bind fun t270 => ((impl_byDepth.f kj2 t270).bind fun t273 => (some t273))) = some r := by first | (rw [hy267]; with_reducible exact H) | (have H2_ := (Option.bind_some _ _).symm.trans H; rw [hy267]; with_reducible exact H2_) | (have H2_ := (Option.bind_some _ _).symm.trans H; with_reducible exact H2_) | with_reducible exact H | (rw [hy267]; exact H) | exact H
    have Ny267 := Aside0.mk hy267
    clear hy267
    replace H := Option.bind_eq_some_iff.mp H
    obtain ⟨t270, A140, H⟩ := H
    have A14 := Aside0.mk A140
    clear A140
    replace H := Option.bind_eq_some_iff.mp H
    obtain ⟨t273, A150, H⟩ := H
    have A15 := Aside0.mk A150
    clear A150
    obtain rfl := Option.some.inj H
    go_wp2_with (first | ((with_reducible refine gate_dst (N := 23) rfl ?_); (try (refine gate_guard (by rfl) ?_; dsimp only)); refine Kd.N_lit (Kd.slice 50 k50) _ 39 ?hg (N' := 23) ?hd (xs := ([l0, l1] : List (List (S50)))) (inner := [.slice A0 l0.length c0, .slice A1 l1.length c1]) (ok := (fun k_ => ((P0_ k_ ∨ P1_ k_) ∨ w.heap.size ≤ k_))) (okp := (fun k_ => ((P0_ k_ ∨ P1_ k_) ∨ w.heap.size ≤ k_))) ?hr ?hp (fun _ hk => hk) ((show ∀ k_, wc.heap.size ≤ k_ → (fun k_ => ((P0_ k_ ∨ P1_ k_) ∨ w.heap.size ≤ k_)) k_ from fun k_ hk => (.inr (Nat.le_trans (below_size (mB HB.out)) hk))) _ (Nat.le_refl _)) (Below.refl _ _) (Nat.le_refl _) (by simp) ?_; (case hd => rfl); (case hg => rfl); (case hr => first | (go_simp; done) | (go_simp; rfl)); (case hp => exact (Reps.one (show Kd.FK (Kd.slice 50 k50) _ _ l0 [.slice A0 l0.length c0] from (Kd.FK_slice_mk (Kd.V_reads' (Kd.V_mono (ok' := (fun k_ => ((P0_ k_ ∨ P1_ k_) ∨ w.heap.size ≤ k_))) (HO_0.out) (fun k_ hk => hk))).2.1 (Kd.V_F (Kd.V_mono (ok' := (fun k_ => ((P0_ k_ ∨ P1_ k_) ∨ w.heap.size ≤ k_))) (HO_0.out) (fun k_ hk => hk))))) (Reps.one (show Kd.FK (Kd.slice 50 k50) _ _ l1 [.slice A1 l1.length c1] from (Kd.FK_slice_mk (Kd.V_reads' (Kd.V_mono (ok' := (fun k_ => ((P0_ k_ ∨ P1_ k_) ∨ w.heap.size ≤ k_))) (HO_1.out) (fun k_ hk => hk))).2.1 (Kd.V_F (Kd.V_mono (ok' := (fun k_ => ((P0_ k_ ∨ P1_ k_) ∨ w.heap.size ≤ k_))) (HO_1.out) (fun k_ hk => hk))))) (Reps.none _ _)))); intro v268 w16 ho17 hb hg_ hnew_; clear hg_ hnew_; (first | rw [← Ny267.out] at ho17 | (simp only [Int.reduceToNat] at ho17; rw [← Ny267.out] at ho17)); have n0_ := Aside0.mk (Kd.V_elder' (by (with_reducible repeat (first | apply Kd.V_alloc | apply Kd.V_drewN | apply Kd.V_drew)); exact HO_0.out) (Kd.N_base ho17) hb); have n1_ := Aside0.mk (Kd.V_elder' (by (with_reducible repeat (first | apply Kd.V_alloc | apply Kd.V_drewN | apply Kd.V_drew)); exact HO_1.out) (Kd.N_base ho17) hb); have n2_ := Aside0.mk (Kd.N_lower ho17 (below_size (mB HB.out))); have n3_ := Aside0.mk (below_step (mB HB.out) hb); clear HO_0; clear HO_1; clear HB; have HO_0 := n0_; have HO_1 := n1_; have HO269 := n2_; have HB := n3_; clear n0_ n1_ n2_ n3_; clear hb ho17; obtain ⟨Ao18, co18, eo18⟩ := Kd.N_slice HO269.out; subst eo18) | ((with_reducible refine gate_callee (f := 49) rfl ?_); refine goesL_ (some 24) rfl rfl Try.func49 (by kernel_rfl) rfl #[.slice Ao18 y267.length co18] rfl mT ?_; (with_reducible refine (impl_Deep_49.calls _ _ y267 t270 _ ?side1 ?side2 A14.out).mono ?_); (case side1 => repeat (first | exact (Kd.N_reads' HO269.out).2.2 | (with_reducible refine Kd.C_alloc ?_ _) | (with_reducible refine Kd.C_drewN ?_ _) | (with_reducible refine Kd.C_drew ?_))); (case side2 => exact (Kd.N_reads' HO269.out).2.1); rintro e w19 ⟨v271, rfl, ho0, hb⟩; refine ⟨_, rfl, ?_⟩; have n0_ := Aside0.mk (Kd.V_elder' (by (with_reducible repeat (first | apply Kd.V_alloc | apply Kd.V_drewN | apply Kd.V_drew)); exact HO_0.out) (Kd.R_base ho0) hb); have n1_ := Aside0.mk (Kd.V_elder' (by (with_reducible repeat (first | apply Kd.V_alloc | apply Kd.V_drewN | apply Kd.V_drew)); exact HO_1.out) (Kd.R_base ho0) hb); have n2_ := Aside0.mk (Kd.N_elder' (by (with_reducible repeat (first | apply Kd.N_alloc | apply Kd.N_drewN | apply Kd.N_drew)); exact HO269.out) (Kd.R_base ho0) hb); have n3_ := Aside0.mk (Kd.R_lower (Kd.R_newM (M := fun k_ => (w.heap.size ≤ k_)) ho0 (below_size (mB HB.out)) (fun k_ h_ => h_)) (below_size (mB HB.out))); have n4_ := Aside0.mk (below_step (mB HB.out) hb); clear HO_0; clear HO_1; clear HO269; clear HB; have HO_0 := n0_; have HO_1 := n1_; have HO269 := n2_; have HO272 := n3_; have HB := n4_; clear n0_ n1_ n2_ n3_ n4_; (try clear hb); (try clear ho0); obtain ⟨Ao20, co20, eo20⟩ := Kd.R_slice HO272.out; subst eo20) | ((with_reducible refine gate_callee (f := 46) rfl ?_); refine goesL_ (some 25) rfl rfl Try.func46 (by kernel_rfl) rfl #[.slice Ao20 t270.length co20] rfl mT ?_; (with_reducible refine (impl_byDepth.calls kj2 _ _ t270 t273 _ ?side1 ?side2 A15.out).mono ?_); (case side1 => repeat (first | exact (Kd.R_reads' HO272.out).2.2 | (with_reducible refine Kd.C_alloc ?_ _) | (with_reducible refine Kd.C_drewN ?_ _) | (with_reducible refine Kd.C_drew ?_))); (case side2 => exact (Kd.R_reads' HO272.out).2.1); rintro e w21 ⟨v274, rfl, ho0, hb⟩; refine ⟨_, rfl, ?_⟩; have n0_ := Aside0.mk (Kd.V_elder' (by (with_reducible repeat (first | apply Kd.V_alloc | apply Kd.V_drewN | apply Kd.V_drew)); exact HO_0.out) (Kd.R_base ho0) hb); have n1_ := Aside0.mk (Kd.V_elder' (by (with_reducible repeat (first | apply Kd.V_alloc | apply Kd.V_drewN | apply Kd.V_drew)); exact HO_1.out) (Kd.R_base ho0) hb); have n2_ := Aside0.mk (Kd.N_elder' (by (with_reducible repeat (first | apply Kd.N_alloc | apply Kd.N_drewN | apply Kd.N_drew)); exact HO269.out) (Kd.R_base ho0) hb); have n3_ := Aside0.mk (Kd.R_elder' (mR HO272.out) (Kd.R_base ho0) hb); have n4_ := Aside0.mk (Kd.R_lower (Kd.R_new' (Kd.R_newM (M := fun k_ => (w.heap.size ≤ k_)) ho0 (below_size (mB HB.out)) (fun k_ h_ => h_)) (Kd.R_lt (mR HO272.out))) (below_size (mB HB.out))); have n5_ := Aside0.mk (below_step (mB HB.out) hb); clear HO_0; clear HO_1; clear HO269; clear HO272; clear HB; have HO_0 := n0_; have HO_1 := n1_; have HO269 := n2_; have HO272 := n3_; have HO275 := n4_; have HB := n5_; clear n0_ n1_ n2_ n3_ n4_ n5_; (try clear hb); (try clear ho0)))
    go_ret
    exact ⟨_, mE, mR (Kd.R_mono HO275.out (fun _ hk => hk.1.1)), mB HB.out⟩

/-- A state of type 77 at block g of W; what its slices lead to came in by w0. -/
def IsS77 (w0 W : World) (g : Nat) (f0 : List Int) (f1 : Int) (f2 : Int) : Prop := ∃ A0 c0, W.heap[g]? = some (.cells #[.slice A0 f0.length c0, .int .i64 f1, .int .i64 f2] 77 (0, 0)) ∧ w0.heap.size ≤ g ∧ Kd.C (Kd.int .u8) w0 A0 f0.length f0
theorem IsS77.grown {w0 W : World} {g : Nat} {f0 : List Int} {f1 : Int} {f2 : Int} {W1 : World} {row : Option Nat} (h : IsS77 w0 W g f0 f1 f2) (hw : W.grownBy W1 row) (hne : some g ≠ row) : IsS77 w0 W1 g f0 f1 f2 := by
 obtain ⟨A0, c0, hb, hg, hr0⟩ := h
 exact ⟨A0, c0, blk_grown hb hw hne, hg, hr0⟩
theorem IsS77.own_neN {w0 W : World} {g : Nat} {f0 : List Int} {f1 : Int} {f2 : Int} {α : Type} {d : Kd α} {e : Nat} {base : Nat} {ok : Nat → Prop} {v : Value} {xs : List α} (h : IsS77 w0 W g f0 f1 f2) (ho : Kd.N d e W base ok v xs) (ht : e ≠ 77) : some g ≠ v.ownBlock := by
 obtain ⟨A0, c0, hb, hg, hr0⟩ := h
 exact Kd.N_ne ho hb ht
theorem IsS77.fresh {w0 W : World} {g : Nat} {f0 : List Int} {f1 : Int} {f2 : Int} (h : IsS77 w0 W g f0 f1 f2) : ∀ k, W.heap.size ≤ k → k ≠ g := by
 obtain ⟨A0, c0, hb, hg, hr0⟩ := h
 exact Kd.freshB hb
theorem IsS77.kept {w0 W : World} {g : Nat} {f0 : List Int} {f1 : Int} {f2 : Int} {W1 : World} {S : Nat → Prop} (h : IsS77 w0 W g f0 f1 f2) (hk : Kept W W1 S) (hne : ¬ S g) : IsS77 w0 W1 g f0 f1 f2 := by
 obtain ⟨A0, c0, hb, hg, hr0⟩ := h
 exact ⟨A0, c0, blk_kept hb hk hne, hg, hr0⟩
theorem IsS77.below {w0 W : World} {g : Nat} {f0 : List Int} {f1 : Int} {f2 : Int} {W1 : World} (h : IsS77 w0 W g f0 f1 f2) (hw : Below W.heap.size W W1) : IsS77 w0 W1 g f0 f1 f2 := h.grown (grown_of_below hw none) (by simp)
theorem IsS77.alloc {w0 W : World} {g : Nat} {f0 : List Int} {f1 : Int} {f2 : Int} (h : IsS77 w0 W g f0 f1 f2) (o : Obj) : IsS77 w0 (W.alloc o) g f0 f1 f2 := h.below (below_alloc (Below.refl _ _) o)
theorem IsS77.drewN {w0 W : World} {g : Nat} {f0 : List Int} {f1 : Int} {f2 : Int} (h : IsS77 w0 W g f0 f1 f2) (m : Nat) : IsS77 w0 (W.drewN m) g f0 f1 f2 := h
theorem IsS77.drew {w0 W : World} {g : Nat} {f0 : List Int} {f1 : Int} {f2 : Int} (h : IsS77 w0 W g f0 f1 f2) : IsS77 w0 W.drew g f0 f1 f2 := h
theorem IsS77.at_ {w0 W : World} {g : Nat} {f0 : List Int} {f1 : Int} {f2 : Int} {w' : World} {m : Nat} (hq : W.drewN m = w') (h : IsS77 w0 W g f0 f1 f2) : IsS77 w0 w' g f0 f1 f2 := by subst hq; exact IsS77.drewN h m
theorem IsS77.apart {w0 W : World} {g : Nat} {f0 : List Int} {f1 : Int} {f2 : Int} {α : Type} {d : Kd α} {e : Nat} {base : Nat} {ok : Nat → Prop} {v : Value} {xs : List α} (h : IsS77 w0 W g f0 f1 f2) (ho : d.R e W base ok v xs) (ht : ∀ q, q ∈ e :: d.E → q ≠ 77) : d.R e W base (fun k => ok k ∧ k ≠ g) v xs := by
 obtain ⟨A0, c0, hb, hg, hr0⟩ := h
 exact Kd.R_types ho hb ht
theorem IsS77.own_ne {w0 W : World} {g : Nat} {f0 : List Int} {f1 : Int} {f2 : Int} {α : Type} {d : Kd α} {e : Nat} {base : Nat} {ok : Nat → Prop} {v : Value} {xs : List α} (h : IsS77 w0 W g f0 f1 f2) (ho : d.R e W base ok v xs) (ht : e ≠ 77) : some g ≠ v.ownBlock := by
 obtain ⟨A0, c0, hb, hg, hr0⟩ := h
 exact Kd.R_ne ho hb ht
theorem IsS77.apartQ {w0 W : World} {g : Nat} {f0 : List Int} {f1 : Int} {f2 : Int} {α : Type} {d : Kd α} {e : Nat} {base : Nat} {ok : Nat → Prop} {v : Value} {xs : List α} (h : IsS77 w0 W g f0 f1 f2) (ho : d.Q e W base ok v xs) (ht : ∀ q, q ∈ e :: d.E → q ≠ 77) : d.Q e W base (fun k => ok k ∧ k ≠ g) v xs := by
 obtain ⟨A0, c0, hb, hg, hr0⟩ := h
 exact Kd.Q_types ho hb ht
theorem IsS77.own_neQ {w0 W : World} {g : Nat} {f0 : List Int} {f1 : Int} {f2 : Int} {α : Type} {d : Kd α} {e : Nat} {base : Nat} {ok : Nat → Prop} {v : Value} {xs : List α} (h : IsS77 w0 W g f0 f1 f2) (ho : d.Q e W base ok v xs) (ht : e ≠ 77) : some g ≠ v.ownBlock := by
 obtain ⟨A0, c0, hb, hg, hr0⟩ := h
 exact Kd.Q_ne ho hb ht
theorem IsS77.apartS {w0 W : World} {g : Nat} {f0 : List Int} {f1 : Int} {f2 : Int} {α : Type} {d : Kd α} {e : Nat} {base : Nat} {ok : Nat → Prop} {v : Value} {xs : List α} (h : IsS77 w0 W g f0 f1 f2) (ho : d.S e W base ok v xs) (ht : ∀ q, q ∈ e :: d.E → q ≠ 77) : d.S e W base (fun k => ok k ∧ k ≠ g) v xs := by
 obtain ⟨A0, c0, hb, hg, hr0⟩ := h
 exact Kd.S_types ho hb ht
theorem IsS77.own_neS {w0 W : World} {g : Nat} {f0 : List Int} {f1 : Int} {f2 : Int} {α : Type} {d : Kd α} {e : Nat} {base : Nat} {ok : Nat → Prop} {v : Value} {xs : List α} (h : IsS77 w0 W g f0 f1 f2) (ho : d.S e W base ok v xs) (ht : e ≠ 77) : some g ≠ v.ownBlock := by
 obtain ⟨A0, c0, hb, hg, hr0⟩ := h
 exact Kd.S_ne ho hb ht
theorem IsS77.lt {w0 W : World} {g : Nat} {f0 : List Int} {f1 : Int} {f2 : Int} (h : IsS77 w0 W g f0 f1 f2) : g < W.heap.size := by
 obtain ⟨A0, c0, hb, hg, hr0⟩ := h
 exact blk_lt hb
theorem IsS77.ge {w0 W : World} {g : Nat} {f0 : List Int} {f1 : Int} {f2 : Int} (h : IsS77 w0 W g f0 f1 f2) : w0.heap.size ≤ g := by
 obtain ⟨A0, c0, hb, hg, hr0⟩ := h
 exact hg
theorem IsS77.ne_blk {w0 W : World} {g : Nat} {f0 : List Int} {f1 : Int} {f2 : Int} {a : Nat} {cs : Array Value} {t : TypeId} {fr : Nat × Nat} (h : IsS77 w0 W g f0 f1 f2) (hb2 : W.heap[a]? = some (.cells cs t fr)) (ht : t ≠ 77) : g ≠ a := by
 obtain ⟨A0, c0, hb, hg, hr0⟩ := h
 rintro rfl
 rw [hb] at hb2
 injection hb2 with hb2
 injection hb2 with _ ht2
 exact ht ht2.symm
theorem IsS77.far {w0 W : World} {g : Nat} {f0 : List Int} {f1 : Int} {f2 : Int} {p : Addr} (h : IsS77 w0 W g f0 f1 f2) (hne : g ≠ p.block) (u : Value) : IsS77 w0 (W.setCell p u) g f0 f1 f2 := by
 obtain ⟨A0, c0, hb, hg, hr0⟩ := h
 exact ⟨A0, c0, blk_far hb hne u, hg, hr0⟩
theorem cellS77_0 {W : World} {g : Nat} {A0 : Option Addr} {c0 : Nat} {f0 : List Int} {f1 : Int} {f2 : Int} (h : W.heap[g]? = some (.cells #[.slice A0 f0.length c0, .int .i64 f1, .int .i64 f2] 77 (0, 0))) : W.cell? ⟨g, 0, none⟩ = some (.slice A0 f0.length c0) := (blk_cell h 0).trans rfl
theorem cellS77_1 {W : World} {g : Nat} {A0 : Option Addr} {c0 : Nat} {f0 : List Int} {f1 : Int} {f2 : Int} (h : W.heap[g]? = some (.cells #[.slice A0 f0.length c0, .int .i64 f1, .int .i64 f2] 77 (0, 0))) : W.cell? ⟨g, 1, none⟩ = some (.int .i64 f1) := (blk_cell h 1).trans rfl
theorem IsS77.set_1 {w0 W : World} {g : Nat} {f0 : List Int} {f1 : Int} {f2 : Int} (h : IsS77 w0 W g f0 f1 f2) (x : Int) : IsS77 w0 (W.setCell ⟨g, 1, none⟩ (.int .i64 x)) g f0 x f2 := by
 obtain ⟨A0, c0, hb, hg, hr0⟩ := h
 exact ⟨A0, c0, by simpa using blk_set hb 1 (.int .i64 x), hg, hr0⟩
theorem cellS77_2 {W : World} {g : Nat} {A0 : Option Addr} {c0 : Nat} {f0 : List Int} {f1 : Int} {f2 : Int} (h : W.heap[g]? = some (.cells #[.slice A0 f0.length c0, .int .i64 f1, .int .i64 f2] 77 (0, 0))) : W.cell? ⟨g, 2, none⟩ = some (.int .i64 f2) := (blk_cell h 2).trans rfl
theorem IsS77.set_2 {w0 W : World} {g : Nat} {f0 : List Int} {f1 : Int} {f2 : Int} (h : IsS77 w0 W g f0 f1 f2) (x : Int) : IsS77 w0 (W.setCell ⟨g, 2, none⟩ (.int .i64 x)) g f0 f1 x := by
 obtain ⟨A0, c0, hb, hg, hr0⟩ := h
 exact ⟨A0, c0, by simpa using blk_set hb 2 (.int .i64 x), hg, hr0⟩
theorem IsS77.new (w0 W : World) (A0 : Option Addr) (c0 : Nat) (f0 : List Int) (f1 : Int) (f2 : Int) (hB : Below w0.heap.size w0 W) (hr0 : Kd.C (Kd.int .u8) w0 A0 f0.length f0) : IsS77 w0 (W.alloc (.cells #[.slice A0 f0.length c0, .int .i64 f1, .int .i64 f2] 77)) W.heap.size f0 f1 f2 := ⟨A0, c0, by simpa using heap_alloc_new W _, hB.size, hr0⟩

theorem mI77 {p q : Prop} (x : p) (h : p → q := by intro  h_; repeat (first | (with_reducible first | exact h_ | apply IsS77.alloc | apply IsS77.drewN | apply IsS77.drew | apply IsS77.set_1 | apply IsS77.set_2) | exact h_)) : q := h  x
theorem mI771 {a0 : Prop} {p q : Prop} (y0 : a0) (x : p) (h : a0 → p → q := by intro q0_ h_; repeat (first | (with_reducible first | exact h_ | apply IsS77.alloc | apply IsS77.drewN | apply IsS77.drew | apply IsS77.set_1 | apply IsS77.set_2 | refine IsS77.far ?_ q0_ _) | exact h_)) : q := h y0 x
theorem mI772 {a0 : Prop} {a1 : Prop} {p q : Prop} (y0 : a0) (y1 : a1) (x : p) (h : a0 → a1 → p → q := by intro q0_ q1_ h_; repeat (first | (with_reducible first | exact h_ | apply IsS77.alloc | apply IsS77.drewN | apply IsS77.drew | apply IsS77.set_1 | apply IsS77.set_2 | refine IsS77.far ?_ q0_ _ | refine IsS77.far ?_ q1_ _) | exact h_)) : q := h y0 y1 x
/-! ### spec_l1New: function 36 -/
def spec_l1New.l0 : Nat → List Int → Int → Int → Option (List Int × Int × Int)
 | 0, _, _, _ => none
 | k + 1, x0, x3, x4 => if x4 < (x0.length : Int) then (if 0 ≤ x4 then (spec_l1New.l0 k x0 (Go.bits .and .i64 (wrap64 ((wrap64 ((wrap64 (x3 * 137)) + (wrap64 (rd x0 x4)))) + 11)) 1073741823) (wrap64 (x4 + 1))) else (none)) else (some (x0, 0, x3))
def spec_l1New.f (k : Nat) (l0 : List Int) : Option (List Int × Int × Int) := spec_l1New.l0 k l0 (wrap64 (60293 + (l0.length : Int))) 0
theorem spec_l1New.mono_l : ∀ k, (∀ y0 y1 y2, LeO (spec_l1New.l0 k y0 y1 y2) (spec_l1New.l0 (k + 1) y0 y1 y2))
 | 0 => fun _ _ _ r h => by simp [spec_l1New.l0] at h
 | k + 1 => by
  have ih0 := spec_l1New.mono_l k
  ·intro y0 y1 y2
   unfold spec_l1New.l0
   repeat' first
   | (with_reducible exact ih0 _ _ _)
   | (with_reducible exact LeO.refl _)
   | (with_reducible exact LeO.none _)
   | (with_reducible refine LeO.ite ?_ ?_)
   | (with_reducible refine LeO.bind ?_ (fun _ => ?_))
   | exact ih0 _ _ _
   | exact LeO.none _
   | refine LeO.ite ?_ ?_
   | refine LeO.bind ?_ (fun _ => ?_)
theorem spec_l1New.mono : ∀ a0 k, LeO (spec_l1New.f k a0) (spec_l1New.f (k + 1) a0) := by
 intro a0 k
 have ih0 := spec_l1New.mono_l k
 unfold spec_l1New.f
 repeat' first
   | (with_reducible exact ih0 _ _ _)
   | (with_reducible exact LeO.refl _)
   | (with_reducible exact LeO.none _)
   | (with_reducible refine LeO.ite ?_ ?_)
   | (with_reducible refine LeO.bind ?_ (fun _ => ?_))
   | exact ih0 _ _ _
   | exact LeO.none _
   | refine LeO.ite ?_ ?_
   | refine LeO.bind ?_ (fun _ => ?_)
set_option maxHeartbeats 8000000 in
set_option maxRecDepth 100000 in
theorem spec_l1New.calls (k : Nat) (A0 : Option Addr) (c0 : Nat) (l0 : List Int) (r1 : List Int) (r2 : Int) (r3 : Int) (w0 w : World) (hB : Below w0.heap.size w0 w) (hr0 : Kd.C (Kd.int .u8) w0 A0 l0.length l0) (hc0 : l0.length ≤ c0) (h : spec_l1New.f k l0 = some (r1, r2, r3)) :
  Calls Try.prog 36 #[.slice A0 l0.length c0] w fun e w' => ∃ g_ : Nat, e = .returned (.pointer (some ⟨g_, 0, none⟩)) ∧ IsS77 w0 w' g_ r1 r2 r3 ∧ Below w0.heap.size w0 w' ∧ Below w.heap.size w w' := by
 have hu77 := Try.underlying77
 have HR0 := Aside0.mk hr0
 have HC0 := Aside0.mk hc0
 clear hr0 hc0
 have HBW := Aside0.mk (Below.refl w.heap.size w)
 have HW0 := Aside0.mk hB.size
 have HB := Aside0.mk hB
 clear hB
 have H : (spec_l1New.l0 k l0 (wrap64 (60293 + (l0.length : Int))) 0) = some (r1, r2, r3) := h
 clear h
 have H' := Aside0.mk H
 clear H
 go_enter Try.func36, Try.ntmps36
 go_wp2
 go_loopg [3, 4] k (fun kq v3 v4 w' => ∃ (x3_1 : Int) (x4_1 : Int), v3 = .int .i64 x3_1 ∧ v4 = .int .i64 x4_1 ∧ Aside0 (spec_l1New.l0 kq l0 x3_1 x4_1 = some (r1, r2, r3)) ∧ Aside0 (kq ≤ k) ∧ Aside0 (Below w0.heap.size w0 w') ∧ Aside0 (Below w.heap.size w w'))
 case atStart => exact ⟨(wrap64 (60293 + (l0.length : Int))), (0), (by first | rfl | (simp; done) | (simp [*]; done)), (by first | rfl | (simp; done) | (simp [*]; done)), H', ⟨Nat.le_refl _⟩, ⟨mB HB.out⟩, ⟨mB HBW.out⟩⟩
 case round =>
  clear H'
  obtain ⟨x3_1, x4_1, rfl, rfl, HA, HK1, HB, HBW⟩ := hrel
  cases gk with
  | zero => exact absurd HA.out (by simp [spec_l1New.l0])
  | succ k1 =>
   have H := HA.out
   clear HA
   simp only [spec_l1New.l0] at H
   by_cases c2 : x4_1 < (l0.length : Int)
   ·rw [if_pos c2] at H
    have c2b0 : decide (x4_1 < (l0.length : Int)) = true := decide_eq_true c2
    clear c2
    by_cases c3 : 0 ≤ x4_1
    ·rw [if_pos c3] at H
     have c3b0 : decide (0 ≤ x4_1) = true := decide_eq_true c3
     clear c3
     have H' := Aside0.mk H
     clear H
     have p276 : 0 ≤ (x4_1 : Int) := of_decide_eq_true (by first | (with_reducible assumption) | assumption)
     have q276 : x4_1 < (l0.length : Int) := of_decide_eq_true (by first | (with_reducible assumption) | assumption)
     obtain ⟨ad276, e276, hx276_0⟩ := Kd.at_int HR0.out x4_1 p276 q276
     cases e276
     replace hx276_0 := pw_cell_below HB.out hx276_0
     replace p276 := eq_true p276
     replace q276 := eq_true q276
     go_wp2
     go_roundg k1
     case measure => have := HK1.out; omega
     case rel => exact ⟨(Go.bits .and .i64 (wrap64 ((wrap64 ((wrap64 (x3_1 * 137)) + (wrap64 (rd l0 x4_1)))) + 11)) 1073741823), (wrap64 (x4_1 + 1)), (by first | rfl | (simp; done) | (simp [*]; done)), (by first | rfl | (simp; done) | (simp [*]; done)), H', ⟨by have := HK1.out; omega⟩, ⟨mB HB.out⟩, ⟨mB HBW.out⟩⟩
    ·rw [if_neg c3] at H
     exact absurd H (by simp)
   ·rw [if_neg c2] at H
    have c2b0 : decide (x4_1 < (l0.length : Int)) = false := decide_eq_false c2
    clear c2
    simp only [Option.some.injEq, Prod.mk.injEq] at H
    obtain ⟨rfl, rfl, rfl⟩ := H
    go_wp2_with (first | ((with_reducible refine gate_dst (N := 27) rfl ?_); refine box_event ?hg (N := 27) ?hd (cs := #[.slice A0 l0.length c0, .int .i64 0, .int .i64 x3_1]) (t := 77) ?hr ?_; (case hd => rfl); (case hg => rfl); (case hr => first | (go_simp; done) | (go_simp; rfl)); intro gb277 hg w4 hbox hb; have n0_ := Aside0.mk (below_step HBW.out hb); have n1_ := Aside0.mk (below_step (mB HB.out) hb); have n2_ := Aside0.mk (hbox); have n3_ := Aside0.mk ((by rw [hg]; exact (below_size (mB HBW.out)) : w.heap.size ≤ gb277)); have n4_ := Aside0.mk ((Nat.le_trans HW0.out (by rw [hg]; exact (below_size (mB HBW.out)) : w.heap.size ≤ gb277) : w0.heap.size ≤ gb277)); clear HBW; clear HB; have HBW := n0_; have HB := n1_; have BK277 := n2_; have GW277 := n3_; have GE277 := n4_; clear n0_ n1_ n2_ n3_ n4_; clear hb hbox hg))
    go_ret
    exact ⟨_, rfl, (show IsS77 w0 _ gb277 l0 0 x3_1 from ⟨_, _, mK BK277.out, GE277.out, HR0.out⟩), mB1 GE277.out HB.out, mB1 GW277.out HBW.out⟩

end Go.Proofs.Ytbafihapjbkagaa.PFnDeeps
