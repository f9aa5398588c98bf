/- The functions that the law reaches, as Lean functions, each with the proof that the Go code comes to just these answers. Written by a program of this session (wip/tools/handprint.py over the kit's print); by hand where the print takes no such text. -/
-- squeezed
import Derived.Test.YtpennfkjfeipcaaPFnBoxesOnex0
import Derived.Test.YtpennfkjfeipcaaPFnBoxesOnex2
import Derived.Test.YtpennfkjfeipcaaPFnBoxesOnex3
namespace Go.Proofs.Ytpennfkjfeipcaa.PFnBoxesOne
open Go.RowKit Go.Proofs.YtpennfkjfeipcaaW.PrintWords Go.Proofs.YtpennfkjfeipcaaW.PrintLast Go.Proofs.YtpennfkjfeipcaaW.PrintMore
attribute [local go_sem] max2_int min2_int max_two min_two max_three min_three max_four min_four   -- for this text's walks alone
set_option linter.unusedVariables false
set_option linter.unusedSimpArgs false

theorem u5e {p : Prop} (h : p) : Aside0 p := Aside0.mk h
-- short names
theorem u5a : type_of% @List.setIfInBounds_toArray := @List.setIfInBounds_toArray
theorem u5b : type_of% @List.set_cons_zero := @List.set_cons_zero
theorem u5c : type_of% @List.set_cons_succ := @List.set_cons_succ
/-! ### spec_l2Read: function 39 -/
-- roots loop.example/g00066/spec.l2Kind loop.example/g00066/spec.l2Holds loop.example/g00066/impl.kindOk loop.example/g00066/impl.isLetter loop.example/g00066/impl.isDigit (loop.example/g00066/impl.Box).holds slices.Clone[[]byte,byte]
set_option maxHeartbeats 8000000 in
set_option maxRecDepth 100000 in
theorem l2Read_rdr (w0 : World) (Ab : Option Addr) (cb : Nat) (bs : List Int) (hC0 : Kd.C (Kd.int .u8) w0 Ab bs.length bs) (hcb : bs.length ≤ cb) (hbl : bs.length ≤ 1000000) (hbs : ∀ x ∈ bs, 0 ≤ x ∧ x ≤ 255) :
  ∀ (k : Nat) (g : Nat) (vo : Value) (boxes : List S46) (data : Int) (p en : Nat) (depth : Int) (r : List S46 × Int × Int × Int) (w : World) (hg0 : w0.heap.size ≤ g) (hB : Below w0.heap.size w0 w) (hg : w.heap[g]? = some (.cells #[.slice Ab bs.length cb, vo, .int .i64 data, .int .i64 0, .int .i64 0] 53 (0, 0))) (hO : Kd.S k46 46 w w0.heap.size (fun k_ => k_ ≠ g) vo boxes) (hp : p ≤ bs.length) (hen : en ≤ bs.length) (hd0 : 0 ≤ depth) (hd1 : depth ≤ 9) (hx0 : 0 ≤ data) (hx1 : data ≤ 20000) (hl : boxes.length ≤ 200) (h : rdr k bs boxes data p en depth = some r),
  Calls Try.prog 39 #[.pointer (some ⟨g, 0, none⟩), .int .i64 (p : Int), .int .i64 (en : Int), .int .i64 depth] w (RdEnd w0 g Ab bs.length cb r) := by
 have HC0 := u5e hC0
 have HCB := u5e hcb
 have HBL := u5e hbl
 have HBS := u5e hbs
 clear hC0 hcb hbl hbs
 intro k
 induction k using Nat.strongRecOn with
 | ind k ih =>
 intro g vo boxes data p en depth r w hg0 hB hg hO hp hen hd0 hd1 hx0 hx1 hl h
 have hu29 := Try.underlying29
 have hu46 := Try.underlying46
 have HG0 := u5e hg0
 have HB := u5e hB
 have HG := u5e hg
 have HO := u5e hO
 have HEN := u5e hen
 have HD := u5e (And.intro hd0 hd1)
 have HX := u5e (And.intro hp (And.intro hx0 (And.intro hx1 hl)))
 have H' := u5e h
 clear hg0 hB hg hO hp hen hd0 hd1 hx0 hx1 hl h
 go_enter Try.func39, Try.ntmps39
 go_wp2
 go_loopg [8] k (fun kq v8 w' => ∃ (boxes : List S46) (data code fat : Int) (vo : Value) (p : Nat), v8 = .int .i64 (p : Int) ∧ Aside0 ((code = 0 ∧ fat = 0 ∧ rdr kq bs boxes data p en depth = some r) ∨ (code ≠ 0 ∧ r = (boxes, data, code, fat))) ∧ Aside0 (kq ≤ k) ∧ Aside0 (w'.heap[g]? = some (.cells #[.slice Ab bs.length cb, vo, .int .i64 data, .int .i64 code, .int .i64 fat] 53 (0, 0))) ∧ Aside0 (Kd.S k46 46 w' w0.heap.size (fun k_ => k_ ≠ g) vo boxes) ∧ Aside0 (Below w0.heap.size w0 w') ∧ Aside0 (p ≤ bs.length ∧ 0 ≤ data ∧ data ≤ 20000 ∧ boxes.length ≤ 200))
 case atStart => exact ⟨boxes, data, 0, 0, vo, p, rfl, ⟨.inl ⟨rfl, rfl, H'.out⟩⟩, ⟨Nat.le_refl _⟩, HG, HO, HB, HX⟩
 case round =>
  clear HB HG HO HX H'
  obtain ⟨boxes, data, code, fat, vo, p, rfl, HA, HK, HG, HO, HB, HX⟩ := hrel
  obtain ⟨Ao, co, eo⟩ := Kd.S_slice HO.out
  subst eo
  have hc0 : wr.cell? ⟨g, 0, none⟩ = some (.slice Ab bs.length cb) := (blk_cell HG.out 0).trans rfl
  have hc1 : wr.cell? ⟨g, 1, none⟩ = some (.slice Ao boxes.length co) := (blk_cell HG.out 1).trans rfl
  have hc2 : wr.cell? ⟨g, 2, none⟩ = some (.int .i64 data) := (blk_cell HG.out 2).trans rfl
  have hc3 : wr.cell? ⟨g, 3, none⟩ = some (.int .i64 code) := (blk_cell HG.out 3).trans rfl
  rcases HA.out with ⟨rfl, rfl, HR⟩ | ⟨hne, hr⟩
  case inr =>
   clear HA
   have hq : (code == 0) = false := by simpa using hne
   have hq2 : decide (code = 0) = false := by simpa using hne
   subst hr
   clear hne
   by_cases c1 : p < en
   ·have c1b : decide (p < en) = true := decide_eq_true c1
    clear c1
    go_wp2
    refine bodyPost_end (results_none rfl _ _ _) rfl ?_
    exact ⟨⟨_, rfl⟩, _, HG.out, (Kd.S_step HO.out (fun _ _ _ => rfl)), (Below.mk HB.out.os HB.out.tape HB.out.output HB.out.size HB.out.block)⟩
   ·have c1b : decide (p < en) = false := decide_eq_false c1
    clear c1
    go_wp2
    refine bodyPost_end (results_none rfl _ _ _) rfl ?_
    exact ⟨⟨_, rfl⟩, _, HG.out, (Kd.S_step HO.out (fun _ _ _ => rfl)), (Below.mk HB.out.os HB.out.tape HB.out.output HB.out.size HB.out.block)⟩
  clear HA
  cases gk with
  | zero => exact absurd HR (by simp [rdr])
  | succ k1 =>
   simp only [rdr] at HR
   by_cases c1 : p < en
   case neg =>
    rw [if_neg c1] at HR
    obtain rfl := Option.some.inj HR
    have c1b : decide (p < en) = false := decide_eq_false c1
    clear c1 HR
    go_wp2
    refine bodyPost_end (results_none rfl _ _ _) rfl ?_
    exact ⟨⟨_, rfl⟩, _, HG.out, (Kd.S_step HO.out (fun _ _ _ => rfl)), (Below.mk HB.out.os HB.out.tape HB.out.output HB.out.size HB.out.block)⟩
   rw [if_pos c1] at HR
   have c1b : decide (p < en) = true := decide_eq_true c1
   have C1 := u5e c1
   obtain ⟨m, hm⟩ : ∃ m : Nat, m = en - p := ⟨_, rfl⟩
   have HM := u5e hm
   have Hwm_ : Aside0 (wrap64 ((en : Int) - (p : Int)) = (m : Int) ∧ IntKind.i64.wrap ((en : Int) - (p : Int)) = (m : Int)) := by
    have h_ : wrap64 ((en : Int) - (p : Int)) = (m : Int) := by have := HBL.out; have := HEN.out; unfold wrap64; omega
    exact ⟨⟨h_, (i64_w _).trans h_⟩⟩
   clear c1 hm
   by_cases c2 : en < p + 8
   case pos =>
    rw [if_pos c2] at HR
    obtain rfl := Option.some.inj HR
    have C2b0_ : Aside0 (decide ((m : Int) < 8) = true) := ⟨decide_eq_true (by have := HM.out; omega)⟩
    have C2b1_ : Aside0 (decide (m < 8) = true) := ⟨decide_eq_true (by have := HM.out; omega)⟩
    clear c2 HR
    have hwm := Hwm_.out.1
    have hwm' := Hwm_.out.2
    have c2b0 := C2b0_.out
    have c2b1 := C2b1_.out
    go_wp2_with (first | ((with_reducible refine gate_ (.store 37 (.tmp 126) (.tmp 124)) rfl ?_); (refine put_blk_event rfl rfl rfl (g := g) (off := 3) (cur := #[Value.slice Ab bs.length cb, Value.slice Ao boxes.length co, Value.int .i64 data, Value.int .i64 0, Value.int .i64 0]) (cur' := #[Value.slice Ab bs.length cb, Value.slice Ao boxes.length co, Value.int .i64 data, Value.int .i64 2, Value.int .i64 (p : Int)]) (u := .agg #[.int .i64 2, .int .i64 (p : Int)]) (seg := [Value.int .i64 2, Value.int .i64 (p : Int)]) (by rfl) (by rfl) HG.out rfl (by kernel_rfl) (Nat.le_of_ble_eq_true rfl) (by intro q_ hq_; simp only [List.mem_cons, List.not_mem_nil, or_false] at hq_; rcases hq_ with rfl | rfl <;> rfl) (by rfl) ?_); intro w1_ h1_ h2_ h3_; have H1 := u5e h1_; have H2 := u5e (Kd.S_step (Kd.S_step HO.out (fun _ _ _ => rfl)) (fun k_ hk_ _ => h2_ k_ hk_)); have H3 := u5e (h3_ _ _ HG0.out (Below.mk HB.out.os HB.out.tape HB.out.output HB.out.size HB.out.block)); clear h1_ h2_ h3_))
    refine bodyPost_ret (results_none rfl _ _ _) rfl ?_
    exact ⟨⟨_, rfl⟩, _, H1.out, (Kd.S_step H2.out (fun _ _ _ => rfl)), (Below.mk H3.out.os H3.out.tape H3.out.output H3.out.size H3.out.block)⟩
   rw [if_neg c2] at HR
   have C2b0_ : Aside0 (decide ((m : Int) < 8) = false) := ⟨decide_eq_false (by have := HM.out; have := C1.out; omega)⟩
   have C2b1_ : Aside0 (decide (m < 8) = false) := ⟨decide_eq_false (by have := HM.out; have := C1.out; omega)⟩
   have C2 := u5e c2
   clear c2
   obtain ⟨ad, rfl, hcell⟩ := bytes_at HC0.out HB.out (by have := C1.out; have := HEN.out; omega)
   obtain ⟨a1, ha1⟩ : ∃ a : Nat, a = p + 1 := ⟨_, rfl⟩
   obtain ⟨a2, ha2⟩ : ∃ a : Nat, a = p + 2 := ⟨_, rfl⟩
   obtain ⟨a3, ha3⟩ : ∃ a : Nat, a = p + 3 := ⟨_, rfl⟩
   obtain ⟨a4, ha4⟩ : ∃ a : Nat, a = p + 4 := ⟨_, rfl⟩
   obtain ⟨a8, ha8⟩ : ∃ a : Nat, a = p + 8 := ⟨_, rfl⟩
   have hb0 := hcell p (by have := C2.out; have := HEN.out; omega)
   have hb1 := hcell a1 (by have := C2.out; have := HEN.out; omega)
   have hb2 := hcell a2 (by have := C2.out; have := HEN.out; omega)
   have hb3 := hcell a3 (by have := C2.out; have := HEN.out; omega)
   have HY0 := u5e (rd_byte HBS.out p (by have := C2.out; have := HEN.out; omega))
   have P0_ : Aside0 ((0 ≤ (p : Int)) = True) := ⟨eq_true (by skip; omega)⟩
   have Q0_ : Aside0 (((p : Int) < (bs.length : Int)) = True) := ⟨eq_true (by have := C2.out; have := HEN.out; omega)⟩
   have HY1 := u5e (rd_byte HBS.out a1 (by have := C2.out; have := HEN.out; omega))
   have P1_ : Aside0 ((0 ≤ (a1 : Int)) = True) := ⟨eq_true (by skip; omega)⟩
   have Q1_ : Aside0 (((a1 : Int) < (bs.length : Int)) = True) := ⟨eq_true (by have := C2.out; have := HEN.out; omega)⟩
   have HY2 := u5e (rd_byte HBS.out a2 (by have := C2.out; have := HEN.out; omega))
   have P2_ : Aside0 ((0 ≤ (a2 : Int)) = True) := ⟨eq_true (by skip; omega)⟩
   have Q2_ : Aside0 (((a2 : Int) < (bs.length : Int)) = True) := ⟨eq_true (by have := C2.out; have := HEN.out; omega)⟩
   have HY3 := u5e (rd_byte HBS.out a3 (by have := C2.out; have := HEN.out; omega))
   have P3_ : Aside0 ((0 ≤ (a3 : Int)) = True) := ⟨eq_true (by skip; omega)⟩
   have Q3_ : Aside0 (((a3 : Int) < (bs.length : Int)) = True) := ⟨eq_true (by have := C2.out; have := HEN.out; omega)⟩
   have Hw1_ : Aside0 (wrap64 ((p : Int) + 1) = (a1 : Int) ∧ IntKind.i64.wrap ((p : Int) + 1) = (a1 : Int)) := by
    have h_ : wrap64 ((p : Int) + 1) = (a1 : Int) := by have := HBL.out; have := HEN.out; have := C1.out; unfold wrap64; omega
    exact ⟨⟨h_, (i64_w _).trans h_⟩⟩
   have Hw2_ : Aside0 (wrap64 ((p : Int) + 2) = (a2 : Int) ∧ IntKind.i64.wrap ((p : Int) + 2) = (a2 : Int)) := by
    have h_ : wrap64 ((p : Int) + 2) = (a2 : Int) := by have := HBL.out; have := HEN.out; have := C1.out; unfold wrap64; omega
    exact ⟨⟨h_, (i64_w _).trans h_⟩⟩
   have Hw3_ : Aside0 (wrap64 ((p : Int) + 3) = (a3 : Int) ∧ IntKind.i64.wrap ((p : Int) + 3) = (a3 : Int)) := by
    have h_ : wrap64 ((p : Int) + 3) = (a3 : Int) := by have := HBL.out; have := HEN.out; have := C1.out; unfold wrap64; omega
    exact ⟨⟨h_, (i64_w _).trans h_⟩⟩
   have Hw4_ : Aside0 (wrap64 ((p : Int) + 4) = (a4 : Int) ∧ IntKind.i64.wrap ((p : Int) + 4) = (a4 : Int)) := by
    have h_ : wrap64 ((p : Int) + 4) = (a4 : Int) := by have := HBL.out; have := HEN.out; have := C1.out; unfold wrap64; omega
    exact ⟨⟨h_, (i64_w _).trans h_⟩⟩
   have Hw8_ : Aside0 (wrap64 ((p : Int) + 8) = (a8 : Int) ∧ IntKind.i64.wrap ((p : Int) + 8) = (a8 : Int)) := by
    have h_ : wrap64 ((p : Int) + 8) = (a8 : Int) := by have := HBL.out; have := HEN.out; have := C1.out; unfold wrap64; omega
    exact ⟨⟨h_, (i64_w _).trans h_⟩⟩
   have HN0 := u5e (show sz4 bs p = rd bs (p : Int) * 16777216 + rd bs (a1 : Int) * 65536 + rd bs (a2 : Int) * 256 + rd bs (a3 : Int) by rw [ha1, ha2, ha3]; rfl)
   have HA1 := u5e ha1
   have HA4 := u5e ha4
   have HA8 := u5e ha8
   have S1_ : Aside0 ((a8 ≤ cb) = True) := ⟨eq_true (by have := C2.out; have := HEN.out; have := HCB.out; omega)⟩
   have S2_ : Aside0 ((a4 ≤ a8) = True) := ⟨eq_true (by skip; omega)⟩
   have S3_ : Aside0 ((cb = a4) = False) := ⟨eq_false (by have := C2.out; have := HEN.out; have := HCB.out; omega)⟩
   have hbc := Kd.C_mid (c := cb) (lo := a4) (hi := a8) (Kd.C_below HC0.out HB.out) (by omega) (by have := C2.out; have := HEN.out; omega) HCB.out
   rw [show ((bs.take a8).drop a4).length = a8 - a4 by rw [List.length_drop, List.length_take]; have := C2.out; have := HEN.out; omega] at hbc
   obtain ⟨s, hs⟩ : ∃ s : ByteArray, s = kd4 bs p := ⟨_, rfl⟩
   have HCONV : Aside0 (∀ n_ : Nat, (convert 29 9 (.slice (some (ad.add a4)) (a8 - a4) (cb - a4))).run Try.prog (wr.drewN n_) = .ok (.string s) (wr.drewN n_)) := ⟨fun n_ => by rw [hs]; unfold kd4; rw [← ha4, ← ha8]; rw [if_neg (by rw [S3_.out]; exact fun h => h)] at hbc; exact conv_C Try.underlying29 Try.underlying5 Try.underlying9 (Kd.C_drewN (by simpa [Kd.int, Kd.scalar] using hbc) n_)⟩
   obtain ⟨n, hn⟩ : ∃ n : Nat, sz4 bs p = (n : Int) := ⟨(sz4 bs p).toNat, by have := HN0.out; have := HY0.out; have := HY1.out; have := HY2.out; have := HY3.out; omega⟩
   rw [hn, Int.toNat_natCast, ← hs, ← ha8] at HR
   rw [hn] at HN0
   generalize rd bs (p : Int) = y0 at hb0 HY0 HN0
   generalize rd bs (a1 : Int) = y1 at hb1 HY1 HN0
   generalize rd bs (a2 : Int) = y2 at hb2 HY2 HN0
   generalize rd bs (a3 : Int) = y3 at hb3 HY3 HN0
   have Hy0_ : Aside0 (wrap64 (y0) = y0 ∧ IntKind.i64.wrap (y0) = y0) := by
    have h_ : wrap64 (y0) = y0 := by have := HY0.out; have := HY1.out; have := HY2.out; have := HY3.out; unfold wrap64; omega
    exact ⟨⟨h_, (i64_w _).trans h_⟩⟩
   have Hy1_ : Aside0 (wrap64 (y1) = y1 ∧ IntKind.i64.wrap (y1) = y1) := by
    have h_ : wrap64 (y1) = y1 := by have := HY0.out; have := HY1.out; have := HY2.out; have := HY3.out; unfold wrap64; omega
    exact ⟨⟨h_, (i64_w _).trans h_⟩⟩
   have Hy2_ : Aside0 (wrap64 (y2) = y2 ∧ IntKind.i64.wrap (y2) = y2) := by
    have h_ : wrap64 (y2) = y2 := by have := HY0.out; have := HY1.out; have := HY2.out; have := HY3.out; unfold wrap64; omega
    exact ⟨⟨h_, (i64_w _).trans h_⟩⟩
   have Hy3_ : Aside0 (wrap64 (y3) = y3 ∧ IntKind.i64.wrap (y3) = y3) := by
    have h_ : wrap64 (y3) = y3 := by have := HY0.out; have := HY1.out; have := HY2.out; have := HY3.out; unfold wrap64; omega
    exact ⟨⟨h_, (i64_w _).trans h_⟩⟩
   obtain ⟨z0, hz0⟩ : ∃ z : Int, z = y0 * 16777216 := ⟨_, rfl⟩
   obtain ⟨z1, hz1⟩ : ∃ z : Int, z = y1 * 65536 := ⟨_, rfl⟩
   obtain ⟨z2, hz2⟩ : ∃ z : Int, z = y2 * 256 := ⟨_, rfl⟩
   obtain ⟨u1, hu1⟩ : ∃ z : Int, z = z0 + z1 := ⟨_, rfl⟩
   obtain ⟨u2, hu2⟩ : ∃ z : Int, z = u1 + z2 := ⟨_, rfl⟩
   have Hm0_ : Aside0 (wrap64 (y0 * 16777216) = z0 ∧ IntKind.i64.wrap (y0 * 16777216) = z0) := by
    have h_ : wrap64 (y0 * 16777216) = z0 := by have := HY0.out; have := HY1.out; have := HY2.out; have := HY3.out; unfold wrap64; omega
    exact ⟨⟨h_, (i64_w _).trans h_⟩⟩
   have Hm1_ : Aside0 (wrap64 (y1 * 65536) = z1 ∧ IntKind.i64.wrap (y1 * 65536) = z1) := by
    have h_ : wrap64 (y1 * 65536) = z1 := by have := HY0.out; have := HY1.out; have := HY2.out; have := HY3.out; unfold wrap64; omega
    exact ⟨⟨h_, (i64_w _).trans h_⟩⟩
   have Hm2_ : Aside0 (wrap64 (y2 * 256) = z2 ∧ IntKind.i64.wrap (y2 * 256) = z2) := by
    have h_ : wrap64 (y2 * 256) = z2 := by have := HY0.out; have := HY1.out; have := HY2.out; have := HY3.out; unfold wrap64; omega
    exact ⟨⟨h_, (i64_w _).trans h_⟩⟩
   have Hs1_ : Aside0 (wrap64 (z0 + z1) = u1 ∧ IntKind.i64.wrap (z0 + z1) = u1) := by
    have h_ : wrap64 (z0 + z1) = u1 := by have := HY0.out; have := HY1.out; have := HY2.out; have := HY3.out; unfold wrap64; omega
    exact ⟨⟨h_, (i64_w _).trans h_⟩⟩
   have Hs2_ : Aside0 (wrap64 (u1 + z2) = u2 ∧ IntKind.i64.wrap (u1 + z2) = u2) := by
    have h_ : wrap64 (u1 + z2) = u2 := by have := HY0.out; have := HY1.out; have := HY2.out; have := HY3.out; unfold wrap64; omega
    exact ⟨⟨h_, (i64_w _).trans h_⟩⟩
   have Hs3_ : Aside0 (wrap64 (u2 + y3) = (n : Int) ∧ IntKind.i64.wrap (u2 + y3) = (n : Int)) := by
    have h_ : wrap64 (u2 + y3) = (n : Int) := by have := HY0.out; have := HY1.out; have := HY2.out; have := HY3.out; have := HN0.out; unfold wrap64; omega
    exact ⟨⟨h_, (i64_w _).trans h_⟩⟩
   have HNB : Aside0 (n ≤ 4294967296) := ⟨by have := HN0.out; have := HY0.out; have := HY1.out; have := HY2.out; have := HY3.out; omega⟩
   have HS := u5e hs
   clear hz0 hz1 hz2 hu1 hu2 ha1 ha2 ha3 ha4 ha8 hn hs hbc hcell HY0 HY1 HY2 HY3 HN0
   by_cases c3 : (n : Int) < 8
   case pos =>
    rw [if_pos c3] at HR
    obtain rfl := Option.some.inj HR
    have C3b0_ : Aside0 (decide ((n : Int) < 8) = true) := ⟨decide_eq_true (by skip; omega)⟩
    have C3b1_ : Aside0 (decide (n < 8) = true) := ⟨decide_eq_true (by skip; omega)⟩
    clear c3 HR
    have hwm := Hwm_.out.1
    have hwm' := Hwm_.out.2
    have c2b0 := C2b0_.out
    have c2b1 := C2b1_.out
    have p0 := P0_.out
    have q0 := Q0_.out
    have p1 := P1_.out
    have q1 := Q1_.out
    have p2 := P2_.out
    have q2 := Q2_.out
    have p3 := P3_.out
    have q3 := Q3_.out
    have hw1 := Hw1_.out.1
    have hw1' := Hw1_.out.2
    have hw2 := Hw2_.out.1
    have hw2' := Hw2_.out.2
    have hw3 := Hw3_.out.1
    have hw3' := Hw3_.out.2
    have hw4 := Hw4_.out.1
    have hw4' := Hw4_.out.2
    have hw8 := Hw8_.out.1
    have hw8' := Hw8_.out.2
    have s1 := S1_.out
    have s2 := S2_.out
    have s3 := S3_.out
    have hconv := HCONV.out
    have hy0 := Hy0_.out.1
    have hy0' := Hy0_.out.2
    have hy1 := Hy1_.out.1
    have hy1' := Hy1_.out.2
    have hy2 := Hy2_.out.1
    have hy2' := Hy2_.out.2
    have hy3 := Hy3_.out.1
    have hy3' := Hy3_.out.2
    have hm0 := Hm0_.out.1
    have hm0' := Hm0_.out.2
    have hm1 := Hm1_.out.1
    have hm1' := Hm1_.out.2
    have hm2 := Hm2_.out.1
    have hm2' := Hm2_.out.2
    have hs1 := Hs1_.out.1
    have hs1' := Hs1_.out.2
    have hs2 := Hs2_.out.1
    have hs2' := Hs2_.out.2
    have hs3 := Hs3_.out.1
    have hs3' := Hs3_.out.2
    have c3b0 := C3b0_.out
    have c3b1 := C3b1_.out
    go_wp2_with (first | ((with_reducible refine gate_ (.store 37 (.tmp 126) (.tmp 124)) rfl ?_); (refine put_blk_event rfl rfl rfl (g := g) (off := 3) (cur := #[Value.slice (some ad) bs.length cb, Value.slice Ao boxes.length co, Value.int .i64 data, Value.int .i64 0, Value.int .i64 0]) (cur' := #[Value.slice (some ad) bs.length cb, Value.slice Ao boxes.length co, Value.int .i64 data, Value.int .i64 3, Value.int .i64 (p : Int)]) (u := .agg #[.int .i64 3, .int .i64 (p : Int)]) (seg := [Value.int .i64 3, Value.int .i64 (p : Int)]) (by rfl) (by rfl) HG.out rfl (by kernel_rfl) (Nat.le_of_ble_eq_true rfl) (by intro q_ hq_; simp only [List.mem_cons, List.not_mem_nil, or_false] at hq_; rcases hq_ with rfl | rfl <;> rfl) (by rfl) ?_); intro w1_ h1_ h2_ h3_; have H1 := u5e h1_; have H2 := u5e (Kd.S_step (Kd.S_step HO.out (fun _ _ _ => rfl)) (fun k_ hk_ _ => h2_ k_ hk_)); have H3 := u5e (h3_ _ _ HG0.out (Below.mk HB.out.os HB.out.tape HB.out.output HB.out.size HB.out.block)); clear h1_ h2_ h3_))
    go_quiet (fail)
    go_wp2_with (first | ((with_reducible refine gate_ (.store 37 (.tmp 126) (.tmp 124)) rfl ?_); (refine put_blk_event rfl rfl rfl (g := g) (off := 3) (cur := #[Value.slice (some ad) bs.length cb, Value.slice Ao boxes.length co, Value.int .i64 data, Value.int .i64 0, Value.int .i64 0]) (cur' := #[Value.slice (some ad) bs.length cb, Value.slice Ao boxes.length co, Value.int .i64 data, Value.int .i64 3, Value.int .i64 (p : Int)]) (u := .agg #[.int .i64 3, .int .i64 (p : Int)]) (seg := [Value.int .i64 3, Value.int .i64 (p : Int)]) (by rfl) (by rfl) HG.out rfl (by kernel_rfl) (Nat.le_of_ble_eq_true rfl) (by intro q_ hq_; simp only [List.mem_cons, List.not_mem_nil, or_false] at hq_; rcases hq_ with rfl | rfl <;> rfl) (by rfl) ?_); intro w1_ h1_ h2_ h3_; have H1 := u5e h1_; have H2 := u5e (Kd.S_step (Kd.S_step HO.out (fun _ _ _ => rfl)) (fun k_ hk_ _ => h2_ k_ hk_)); have H3 := u5e (h3_ _ _ HG0.out (Below.mk HB.out.os HB.out.tape HB.out.output HB.out.size HB.out.block)); clear h1_ h2_ h3_))
    refine bodyPost_ret (results_none rfl _ _ _) rfl ?_
    exact ⟨⟨_, rfl⟩, _, H1.out, (Kd.S_step H2.out (fun _ _ _ => rfl)), (Below.mk H3.out.os H3.out.tape H3.out.output H3.out.size H3.out.block)⟩
   rw [if_neg c3] at HR
   have C3b0_ : Aside0 (decide ((n : Int) < 8) = false) := ⟨decide_eq_false (by skip; omega)⟩
   have C3b1_ : Aside0 (decide (n < 8) = false) := ⟨decide_eq_false (by skip; omega)⟩
   have C3 := u5e c3
   clear c3
   rw [← HM.out] at HR
   by_cases c4 : (m : Int) < (n : Int)
   case pos =>
    rw [if_pos c4] at HR
    obtain rfl := Option.some.inj HR
    have C4b0_ : Aside0 (decide ((m : Int) < (n : Int)) = true) := ⟨decide_eq_true (by skip; omega)⟩
    have C4b1_ : Aside0 (decide (m < n) = true) := ⟨decide_eq_true (by skip; omega)⟩
    clear c4 HR
    have hwm := Hwm_.out.1
    have hwm' := Hwm_.out.2
    have c2b0 := C2b0_.out
    have c2b1 := C2b1_.out
    have p0 := P0_.out
    have q0 := Q0_.out
    have p1 := P1_.out
    have q1 := Q1_.out
    have p2 := P2_.out
    have q2 := Q2_.out
    have p3 := P3_.out
    have q3 := Q3_.out
    have hw1 := Hw1_.out.1
    have hw1' := Hw1_.out.2
    have hw2 := Hw2_.out.1
    have hw2' := Hw2_.out.2
    have hw3 := Hw3_.out.1
    have hw3' := Hw3_.out.2
    have hw4 := Hw4_.out.1
    have hw4' := Hw4_.out.2
    have hw8 := Hw8_.out.1
    have hw8' := Hw8_.out.2
    have s1 := S1_.out
    have s2 := S2_.out
    have s3 := S3_.out
    have hconv := HCONV.out
    have hy0 := Hy0_.out.1
    have hy0' := Hy0_.out.2
    have hy1 := Hy1_.out.1
    have hy1' := Hy1_.out.2
    have hy2 := Hy2_.out.1
    have hy2' := Hy2_.out.2
    have hy3 := Hy3_.out.1
    have hy3' := Hy3_.out.2
    have hm0 := Hm0_.out.1
    have hm0' := Hm0_.out.2
    have hm1 := Hm1_.out.1
    have hm1' := Hm1_.out.2
    have hm2 := Hm2_.out.1
    have hm2' := Hm2_.out.2
    have hs1 := Hs1_.out.1
    have hs1' := Hs1_.out.2
    have hs2 := Hs2_.out.1
    have hs2' := Hs2_.out.2
    have hs3 := Hs3_.out.1
    have hs3' := Hs3_.out.2
    have c3b0 := C3b0_.out
    have c3b1 := C3b1_.out
    have c4b0 := C4b0_.out
    have c4b1 := C4b1_.out
    go_wp2_with (first | ((with_reducible refine gate_ (.store 37 (.tmp 126) (.tmp 124)) rfl ?_); (refine put_blk_event rfl rfl rfl (g := g) (off := 3) (cur := #[Value.slice (some ad) bs.length cb, Value.slice Ao boxes.length co, Value.int .i64 data, Value.int .i64 0, Value.int .i64 0]) (cur' := #[Value.slice (some ad) bs.length cb, Value.slice Ao boxes.length co, Value.int .i64 data, Value.int .i64 3, Value.int .i64 (p : Int)]) (u := .agg #[.int .i64 3, .int .i64 (p : Int)]) (seg := [Value.int .i64 3, Value.int .i64 (p : Int)]) (by rfl) (by rfl) HG.out rfl (by kernel_rfl) (Nat.le_of_ble_eq_true rfl) (by intro q_ hq_; simp only [List.mem_cons, List.not_mem_nil, or_false] at hq_; rcases hq_ with rfl | rfl <;> rfl) (by rfl) ?_); intro w1_ h1_ h2_ h3_; have H1 := u5e h1_; have H2 := u5e (Kd.S_step (Kd.S_step HO.out (fun _ _ _ => rfl)) (fun k_ hk_ _ => h2_ k_ hk_)); have H3 := u5e (h3_ _ _ HG0.out (Below.mk HB.out.os HB.out.tape HB.out.output HB.out.size HB.out.block)); clear h1_ h2_ h3_))
    go_quiet (fail)
    go_wp2_with (first | ((with_reducible refine gate_ (.store 37 (.tmp 126) (.tmp 124)) rfl ?_); (refine put_blk_event rfl rfl rfl (g := g) (off := 3) (cur := #[Value.slice (some ad) bs.length cb, Value.slice Ao boxes.length co, Value.int .i64 data, Value.int .i64 0, Value.int .i64 0]) (cur' := #[Value.slice (some ad) bs.length cb, Value.slice Ao boxes.length co, Value.int .i64 data, Value.int .i64 3, Value.int .i64 (p : Int)]) (u := .agg #[.int .i64 3, .int .i64 (p : Int)]) (seg := [Value.int .i64 3, Value.int .i64 (p : Int)]) (by rfl) (by rfl) HG.out rfl (by kernel_rfl) (Nat.le_of_ble_eq_true rfl) (by intro q_ hq_; simp only [List.mem_cons, List.not_mem_nil, or_false] at hq_; rcases hq_ with rfl | rfl <;> rfl) (by rfl) ?_); intro w1_ h1_ h2_ h3_; have H1 := u5e h1_; have H2 := u5e (Kd.S_step (Kd.S_step HO.out (fun _ _ _ => rfl)) (fun k_ hk_ _ => h2_ k_ hk_)); have H3 := u5e (h3_ _ _ HG0.out (Below.mk HB.out.os HB.out.tape HB.out.output HB.out.size HB.out.block)); clear h1_ h2_ h3_))
    refine bodyPost_ret (results_none rfl _ _ _) rfl ?_
    exact ⟨⟨_, rfl⟩, _, H1.out, (Kd.S_step H2.out (fun _ _ _ => rfl)), (Below.mk H3.out.os H3.out.tape H3.out.output H3.out.size H3.out.block)⟩
   rw [if_neg c4] at HR
   have C4b0_ : Aside0 (decide ((m : Int) < (n : Int)) = false) := ⟨decide_eq_false (by skip; omega)⟩
   have C4b1_ : Aside0 (decide (m < n) = false) := ⟨decide_eq_false (by skip; omega)⟩
   have C4 := u5e c4
   clear c4
   by_cases c5 : kindB s = true
   case neg =>
    rw [if_neg c5] at HR
    obtain rfl := Option.some.inj HR
    have HKS : Aside0 (spec_l2Kind.f 6 s = some false) := ⟨by rw [(kindB_eq s 6 (Nat.le_refl _)).1]; simpa using c5⟩
    clear c5 HR
    have hwm := Hwm_.out.1
    have hwm' := Hwm_.out.2
    have c2b0 := C2b0_.out
    have c2b1 := C2b1_.out
    have p0 := P0_.out
    have q0 := Q0_.out
    have p1 := P1_.out
    have q1 := Q1_.out
    have p2 := P2_.out
    have q2 := Q2_.out
    have p3 := P3_.out
    have q3 := Q3_.out
    have hw1 := Hw1_.out.1
    have hw1' := Hw1_.out.2
    have hw2 := Hw2_.out.1
    have hw2' := Hw2_.out.2
    have hw3 := Hw3_.out.1
    have hw3' := Hw3_.out.2
    have hw4 := Hw4_.out.1
    have hw4' := Hw4_.out.2
    have hw8 := Hw8_.out.1
    have hw8' := Hw8_.out.2
    have s1 := S1_.out
    have s2 := S2_.out
    have s3 := S3_.out
    have hconv := HCONV.out
    have hy0 := Hy0_.out.1
    have hy0' := Hy0_.out.2
    have hy1 := Hy1_.out.1
    have hy1' := Hy1_.out.2
    have hy2 := Hy2_.out.1
    have hy2' := Hy2_.out.2
    have hy3 := Hy3_.out.1
    have hy3' := Hy3_.out.2
    have hm0 := Hm0_.out.1
    have hm0' := Hm0_.out.2
    have hm1 := Hm1_.out.1
    have hm1' := Hm1_.out.2
    have hm2 := Hm2_.out.1
    have hm2' := Hm2_.out.2
    have hs1 := Hs1_.out.1
    have hs1' := Hs1_.out.2
    have hs2 := Hs2_.out.1
    have hs2' := Hs2_.out.2
    have hs3 := Hs3_.out.1
    have hs3' := Hs3_.out.2
    have c3b0 := C3b0_.out
    have c3b1 := C3b1_.out
    have c4b0 := C4b0_.out
    have c4b1 := C4b1_.out
    go_wp2_with (first | ((with_reducible refine gate_callee (f := 33) rfl ?_); refine goesL_ (some 87) rfl rfl Try.func33 (by kernel_rfl) rfl #[.string s] rfl (by (try simp only [List.map_toArray, List.map_cons, List.map_nil]); first | done | rfl) ?_; (with_reducible refine (spec_l2Kind.calls 6 s false _ HKS.out).mono ?_); rintro e_ W1_ ⟨rfl, ⟨nd_, rfl⟩⟩; refine ⟨_, rfl, ?_⟩) | ((with_reducible refine gate_ (.store 37 (.tmp 126) (.tmp 124)) rfl ?_); (refine put_blk_event rfl rfl rfl (g := g) (off := 3) (cur := #[Value.slice (some ad) bs.length cb, Value.slice Ao boxes.length co, Value.int .i64 data, Value.int .i64 0, Value.int .i64 0]) (cur' := #[Value.slice (some ad) bs.length cb, Value.slice Ao boxes.length co, Value.int .i64 data, Value.int .i64 4, Value.int .i64 (p : Int)]) (u := .agg #[.int .i64 4, .int .i64 (p : Int)]) (seg := [Value.int .i64 4, Value.int .i64 (p : Int)]) (by rfl) (by rfl) HG.out rfl (by kernel_rfl) (Nat.le_of_ble_eq_true rfl) (by intro q_ hq_; simp only [List.mem_cons, List.not_mem_nil, or_false] at hq_; rcases hq_ with rfl | rfl <;> rfl) (by rfl) ?_); intro w1_ h1_ h2_ h3_; have H1 := u5e h1_; have H2 := u5e (Kd.S_step (Kd.S_step HO.out (fun _ _ _ => rfl)) (fun k_ hk_ _ => h2_ k_ hk_)); have H3 := u5e (h3_ _ _ HG0.out (Below.mk HB.out.os HB.out.tape HB.out.output HB.out.size HB.out.block)); clear h1_ h2_ h3_))
    go_quiet (fail)
    go_wp2_with (first | ((with_reducible refine gate_callee (f := 33) rfl ?_); refine goesL_ (some 87) rfl rfl Try.func33 (by kernel_rfl) rfl #[.string s] rfl (by (try simp only [List.map_toArray, List.map_cons, List.map_nil]); first | done | rfl) ?_; (with_reducible refine (spec_l2Kind.calls 6 s false _ HKS.out).mono ?_); rintro e_ W1_ ⟨rfl, ⟨nd_, rfl⟩⟩; refine ⟨_, rfl, ?_⟩) | ((with_reducible refine gate_ (.store 37 (.tmp 126) (.tmp 124)) rfl ?_); (refine put_blk_event rfl rfl rfl (g := g) (off := 3) (cur := #[Value.slice (some ad) bs.length cb, Value.slice Ao boxes.length co, Value.int .i64 data, Value.int .i64 0, Value.int .i64 0]) (cur' := #[Value.slice (some ad) bs.length cb, Value.slice Ao boxes.length co, Value.int .i64 data, Value.int .i64 4, Value.int .i64 (p : Int)]) (u := .agg #[.int .i64 4, .int .i64 (p : Int)]) (seg := [Value.int .i64 4, Value.int .i64 (p : Int)]) (by rfl) (by rfl) HG.out rfl (by kernel_rfl) (Nat.le_of_ble_eq_true rfl) (by intro q_ hq_; simp only [List.mem_cons, List.not_mem_nil, or_false] at hq_; rcases hq_ with rfl | rfl <;> rfl) (by rfl) ?_); intro w1_ h1_ h2_ h3_; have H1 := u5e h1_; have H2 := u5e (Kd.S_step (Kd.S_step HO.out (fun _ _ _ => rfl)) (fun k_ hk_ _ => h2_ k_ hk_)); have H3 := u5e (h3_ _ _ HG0.out (Below.mk HB.out.os HB.out.tape HB.out.output HB.out.size HB.out.block)); clear h1_ h2_ h3_))
    refine bodyPost_ret (results_none rfl _ _ _) rfl ?_
    exact ⟨⟨_, rfl⟩, _, H1.out, (Kd.S_step H2.out (fun _ _ _ => rfl)), (Below.mk H3.out.os H3.out.tape H3.out.output H3.out.size H3.out.block)⟩
   rw [if_pos c5] at HR
   have HKS : Aside0 (spec_l2Kind.f 6 s = some true) := ⟨by rw [(kindB_eq s 6 (Nat.le_refl _)).1, c5]⟩
   have HSZ := u5e (kindB_good s c5).1
   clear c5
   by_cases c6 : 8 < depth
   case pos =>
    rw [if_pos c6] at HR
    obtain rfl := Option.some.inj HR
    have C6b0_ : Aside0 (decide (8 < depth) = true) := ⟨decide_eq_true (by skip; omega)⟩
    clear c6 HR
    have hwm := Hwm_.out.1
    have hwm' := Hwm_.out.2
    have c2b0 := C2b0_.out
    have c2b1 := C2b1_.out
    have p0 := P0_.out
    have q0 := Q0_.out
    have p1 := P1_.out
    have q1 := Q1_.out
    have p2 := P2_.out
    have q2 := Q2_.out
    have p3 := P3_.out
    have q3 := Q3_.out
    have hw1 := Hw1_.out.1
    have hw1' := Hw1_.out.2
    have hw2 := Hw2_.out.1
    have hw2' := Hw2_.out.2
    have hw3 := Hw3_.out.1
    have hw3' := Hw3_.out.2
    have hw4 := Hw4_.out.1
    have hw4' := Hw4_.out.2
    have hw8 := Hw8_.out.1
    have hw8' := Hw8_.out.2
    have s1 := S1_.out
    have s2 := S2_.out
    have s3 := S3_.out
    have hconv := HCONV.out
    have hy0 := Hy0_.out.1
    have hy0' := Hy0_.out.2
    have hy1 := Hy1_.out.1
    have hy1' := Hy1_.out.2
    have hy2 := Hy2_.out.1
    have hy2' := Hy2_.out.2
    have hy3 := Hy3_.out.1
    have hy3' := Hy3_.out.2
    have hm0 := Hm0_.out.1
    have hm0' := Hm0_.out.2
    have hm1 := Hm1_.out.1
    have hm1' := Hm1_.out.2
    have hm2 := Hm2_.out.1
    have hm2' := Hm2_.out.2
    have hs1 := Hs1_.out.1
    have hs1' := Hs1_.out.2
    have hs2 := Hs2_.out.1
    have hs2' := Hs2_.out.2
    have hs3 := Hs3_.out.1
    have hs3' := Hs3_.out.2
    have c3b0 := C3b0_.out
    have c3b1 := C3b1_.out
    have c4b0 := C4b0_.out
    have c4b1 := C4b1_.out
    have c6b0 := C6b0_.out
    go_wp2_with (first | ((with_reducible refine gate_callee (f := 33) rfl ?_); refine goesL_ (some 87) rfl rfl Try.func33 (by kernel_rfl) rfl #[.string s] rfl (by (try simp only [List.map_toArray, List.map_cons, List.map_nil]); first | done | rfl) ?_; (with_reducible refine (spec_l2Kind.calls 6 s true _ HKS.out).mono ?_); rintro e_ W1_ ⟨rfl, ⟨nd_, rfl⟩⟩; refine ⟨_, rfl, ?_⟩) | ((with_reducible refine gate_ (.store 37 (.tmp 126) (.tmp 124)) rfl ?_); (refine put_blk_event rfl rfl rfl (g := g) (off := 3) (cur := #[Value.slice (some ad) bs.length cb, Value.slice Ao boxes.length co, Value.int .i64 data, Value.int .i64 0, Value.int .i64 0]) (cur' := #[Value.slice (some ad) bs.length cb, Value.slice Ao boxes.length co, Value.int .i64 data, Value.int .i64 5, Value.int .i64 (p : Int)]) (u := .agg #[.int .i64 5, .int .i64 (p : Int)]) (seg := [Value.int .i64 5, Value.int .i64 (p : Int)]) (by rfl) (by rfl) HG.out rfl (by kernel_rfl) (Nat.le_of_ble_eq_true rfl) (by intro q_ hq_; simp only [List.mem_cons, List.not_mem_nil, or_false] at hq_; rcases hq_ with rfl | rfl <;> rfl) (by rfl) ?_); intro w1_ h1_ h2_ h3_; have H1 := u5e h1_; have H2 := u5e (Kd.S_step (Kd.S_step HO.out (fun _ _ _ => rfl)) (fun k_ hk_ _ => h2_ k_ hk_)); have H3 := u5e (h3_ _ _ HG0.out (Below.mk HB.out.os HB.out.tape HB.out.output HB.out.size HB.out.block)); clear h1_ h2_ h3_))
    go_quiet (fail)
    go_wp2_with (first | ((with_reducible refine gate_callee (f := 33) rfl ?_); refine goesL_ (some 87) rfl rfl Try.func33 (by kernel_rfl) rfl #[.string s] rfl (by (try simp only [List.map_toArray, List.map_cons, List.map_nil]); first | done | rfl) ?_; (with_reducible refine (spec_l2Kind.calls 6 s true _ HKS.out).mono ?_); rintro e_ W1_ ⟨rfl, ⟨nd_, rfl⟩⟩; refine ⟨_, rfl, ?_⟩) | ((with_reducible refine gate_ (.store 37 (.tmp 126) (.tmp 124)) rfl ?_); (refine put_blk_event rfl rfl rfl (g := g) (off := 3) (cur := #[Value.slice (some ad) bs.length cb, Value.slice Ao boxes.length co, Value.int .i64 data, Value.int .i64 0, Value.int .i64 0]) (cur' := #[Value.slice (some ad) bs.length cb, Value.slice Ao boxes.length co, Value.int .i64 data, Value.int .i64 5, Value.int .i64 (p : Int)]) (u := .agg #[.int .i64 5, .int .i64 (p : Int)]) (seg := [Value.int .i64 5, Value.int .i64 (p : Int)]) (by rfl) (by rfl) HG.out rfl (by kernel_rfl) (Nat.le_of_ble_eq_true rfl) (by intro q_ hq_; simp only [List.mem_cons, List.not_mem_nil, or_false] at hq_; rcases hq_ with rfl | rfl <;> rfl) (by rfl) ?_); intro w1_ h1_ h2_ h3_; have H1 := u5e h1_; have H2 := u5e (Kd.S_step (Kd.S_step HO.out (fun _ _ _ => rfl)) (fun k_ hk_ _ => h2_ k_ hk_)); have H3 := u5e (h3_ _ _ HG0.out (Below.mk HB.out.os HB.out.tape HB.out.output HB.out.size HB.out.block)); clear h1_ h2_ h3_))
    refine bodyPost_ret (results_none rfl _ _ _) rfl ?_
    exact ⟨⟨_, rfl⟩, _, H1.out, (Kd.S_step H2.out (fun _ _ _ => rfl)), (Below.mk H3.out.os H3.out.tape H3.out.output H3.out.size H3.out.block)⟩
   rw [if_neg c6] at HR
   have C6b0_ : Aside0 (decide (8 < depth) = false) := ⟨decide_eq_false (by skip; omega)⟩
   have C6 := u5e c6
   clear c6
   by_cases c7 : boxes.length = 200
   case pos =>
    rw [if_pos c7] at HR
    obtain rfl := Option.some.inj HR
    have C7b0_ : Aside0 ((((boxes.length : Nat) : Int) == 200) = true) := ⟨by skip; simp; omega⟩
    have C7b1_ : Aside0 ((boxes.length == 200) = true) := ⟨by skip; simp; omega⟩
    have C7b2_ : Aside0 (decide (((boxes.length : Nat) : Int) = 200) = true) := ⟨by skip; simp; omega⟩
    have C7b3_ : Aside0 (decide (boxes.length = 200) = true) := ⟨by skip; simp; omega⟩
    clear c7 HR
    have hwm := Hwm_.out.1
    have hwm' := Hwm_.out.2
    have c2b0 := C2b0_.out
    have c2b1 := C2b1_.out
    have p0 := P0_.out
    have q0 := Q0_.out
    have p1 := P1_.out
    have q1 := Q1_.out
    have p2 := P2_.out
    have q2 := Q2_.out
    have p3 := P3_.out
    have q3 := Q3_.out
    have hw1 := Hw1_.out.1
    have hw1' := Hw1_.out.2
    have hw2 := Hw2_.out.1
    have hw2' := Hw2_.out.2
    have hw3 := Hw3_.out.1
    have hw3' := Hw3_.out.2
    have hw4 := Hw4_.out.1
    have hw4' := Hw4_.out.2
    have hw8 := Hw8_.out.1
    have hw8' := Hw8_.out.2
    have s1 := S1_.out
    have s2 := S2_.out
    have s3 := S3_.out
    have hconv := HCONV.out
    have hy0 := Hy0_.out.1
    have hy0' := Hy0_.out.2
    have hy1 := Hy1_.out.1
    have hy1' := Hy1_.out.2
    have hy2 := Hy2_.out.1
    have hy2' := Hy2_.out.2
    have hy3 := Hy3_.out.1
    have hy3' := Hy3_.out.2
    have hm0 := Hm0_.out.1
    have hm0' := Hm0_.out.2
    have hm1 := Hm1_.out.1
    have hm1' := Hm1_.out.2
    have hm2 := Hm2_.out.1
    have hm2' := Hm2_.out.2
    have hs1 := Hs1_.out.1
    have hs1' := Hs1_.out.2
    have hs2 := Hs2_.out.1
    have hs2' := Hs2_.out.2
    have hs3 := Hs3_.out.1
    have hs3' := Hs3_.out.2
    have c3b0 := C3b0_.out
    have c3b1 := C3b1_.out
    have c4b0 := C4b0_.out
    have c4b1 := C4b1_.out
    have c6b0 := C6b0_.out
    have c7b0 := C7b0_.out
    have c7b1 := C7b1_.out
    have c7b2 := C7b2_.out
    have c7b3 := C7b3_.out
    go_wp2_with (first | ((with_reducible refine gate_callee (f := 33) rfl ?_); refine goesL_ (some 87) rfl rfl Try.func33 (by kernel_rfl) rfl #[.string s] rfl (by (try simp only [List.map_toArray, List.map_cons, List.map_nil]); first | done | rfl) ?_; (with_reducible refine (spec_l2Kind.calls 6 s true _ HKS.out).mono ?_); rintro e_ W1_ ⟨rfl, ⟨nd_, rfl⟩⟩; refine ⟨_, rfl, ?_⟩) | ((with_reducible refine gate_ (.store 37 (.tmp 126) (.tmp 124)) rfl ?_); (refine put_blk_event rfl rfl rfl (g := g) (off := 3) (cur := #[Value.slice (some ad) bs.length cb, Value.slice Ao boxes.length co, Value.int .i64 data, Value.int .i64 0, Value.int .i64 0]) (cur' := #[Value.slice (some ad) bs.length cb, Value.slice Ao boxes.length co, Value.int .i64 data, Value.int .i64 6, Value.int .i64 (p : Int)]) (u := .agg #[.int .i64 6, .int .i64 (p : Int)]) (seg := [Value.int .i64 6, Value.int .i64 (p : Int)]) (by rfl) (by rfl) HG.out rfl (by kernel_rfl) (Nat.le_of_ble_eq_true rfl) (by intro q_ hq_; simp only [List.mem_cons, List.not_mem_nil, or_false] at hq_; rcases hq_ with rfl | rfl <;> rfl) (by rfl) ?_); intro w1_ h1_ h2_ h3_; have H1 := u5e h1_; have H2 := u5e (Kd.S_step (Kd.S_step HO.out (fun _ _ _ => rfl)) (fun k_ hk_ _ => h2_ k_ hk_)); have H3 := u5e (h3_ _ _ HG0.out (Below.mk HB.out.os HB.out.tape HB.out.output HB.out.size HB.out.block)); clear h1_ h2_ h3_))
    go_quiet (fail)
    go_wp2_with (first | ((with_reducible refine gate_callee (f := 33) rfl ?_); refine goesL_ (some 87) rfl rfl Try.func33 (by kernel_rfl) rfl #[.string s] rfl (by (try simp only [List.map_toArray, List.map_cons, List.map_nil]); first | done | rfl) ?_; (with_reducible refine (spec_l2Kind.calls 6 s true _ HKS.out).mono ?_); rintro e_ W1_ ⟨rfl, ⟨nd_, rfl⟩⟩; refine ⟨_, rfl, ?_⟩) | ((with_reducible refine gate_ (.store 37 (.tmp 126) (.tmp 124)) rfl ?_); (refine put_blk_event rfl rfl rfl (g := g) (off := 3) (cur := #[Value.slice (some ad) bs.length cb, Value.slice Ao boxes.length co, Value.int .i64 data, Value.int .i64 0, Value.int .i64 0]) (cur' := #[Value.slice (some ad) bs.length cb, Value.slice Ao boxes.length co, Value.int .i64 data, Value.int .i64 6, Value.int .i64 (p : Int)]) (u := .agg #[.int .i64 6, .int .i64 (p : Int)]) (seg := [Value.int .i64 6, Value.int .i64 (p : Int)]) (by rfl) (by rfl) HG.out rfl (by kernel_rfl) (Nat.le_of_ble_eq_true rfl) (by intro q_ hq_; simp only [List.mem_cons, List.not_mem_nil, or_false] at hq_; rcases hq_ with rfl | rfl <;> rfl) (by rfl) ?_); intro w1_ h1_ h2_ h3_; have H1 := u5e h1_; have H2 := u5e (Kd.S_step (Kd.S_step HO.out (fun _ _ _ => rfl)) (fun k_ hk_ _ => h2_ k_ hk_)); have H3 := u5e (h3_ _ _ HG0.out (Below.mk HB.out.os HB.out.tape HB.out.output HB.out.size HB.out.block)); clear h1_ h2_ h3_))
    refine bodyPost_ret (results_none rfl _ _ _) rfl ?_
    exact ⟨⟨_, rfl⟩, _, H1.out, (Kd.S_step H2.out (fun _ _ _ => rfl)), (Below.mk H3.out.os H3.out.tape H3.out.output H3.out.size H3.out.block)⟩
   rw [if_neg c7] at HR
   have C7b0_ : Aside0 ((((boxes.length : Nat) : Int) == 200) = false) := ⟨by skip; simp; omega⟩
   have C7b1_ : Aside0 ((boxes.length == 200) = false) := ⟨by skip; simp; omega⟩
   have C7b2_ : Aside0 (decide (((boxes.length : Nat) : Int) = 200) = false) := ⟨by skip; simp; omega⟩
   have C7b3_ : Aside0 (decide (boxes.length = 200) = false) := ⟨by skip; simp; omega⟩
   have C7 := u5e c7
   clear c7
   obtain ⟨pn, hpn⟩ : ∃ q : Nat, q = p + n := ⟨_, rfl⟩
   have HPN := u5e hpn
   rw [← hpn] at HR
   have HPL : Aside0 (pn ≤ en ∧ a8 ≤ pn) := ⟨by have := C4.out; have := HM.out; have := C1.out; have := C3.out; have := HA8.out; omega⟩
   have Hpn_ : Aside0 (wrap64 ((p : Int) + (n : Int)) = (pn : Int) ∧ IntKind.i64.wrap ((p : Int) + (n : Int)) = (pn : Int)) := by
    have h_ : wrap64 ((p : Int) + (n : Int)) = (pn : Int) := by have := HBL.out; have := HEN.out; have := HPL.out; unfold wrap64; omega
    exact ⟨⟨h_, (i64_w _).trans h_⟩⟩
   clear hpn
   by_cases c8 : r_hold s = true
   case pos =>
    rw [if_pos c8] at HR
    have HH : Aside0 (spec_l2Holds.f s = some true) := ⟨by rw [r_hold_s s HSZ.out, c8]⟩
    clear c8
    obtain ⟨⟨b2, d2, cd2, f2⟩, hsub, HR⟩ := Option.bind_eq_some_iff.1 HR
    dsimp only at HR
    obtain ⟨bx, hbx⟩ : ∃ b : List S46, b = boxes ++ [⟨s, depth, []⟩] := ⟨_, rfl⟩
    rw [← hbx] at hsub
    obtain ⟨dp, hdp⟩ : ∃ d : Int, d = depth + 1 := ⟨_, rfl⟩
    rw [← hdp] at hsub
    have Hdp_ : Aside0 (wrap64 (depth + 1) = dp ∧ IntKind.i64.wrap (depth + 1) = dp) := by
     have h_ : wrap64 (depth + 1) = dp := by have := HD.out; unfold wrap64; omega
     exact ⟨⟨h_, (i64_w _).trans h_⟩⟩
    have HSUB := u5e hsub
    have HBX := u5e hbx
    have HDP := u5e hdp
    have HBD : Aside0 (bx.length ≤ 200) := ⟨by rw [hbx, List.length_append]; simp only [List.length_cons, List.length_nil]; have := HX.out; have := C7.out; omega⟩
    have HBB := u5e (rdr_bounds k1 bs bx data a8 pn dp _ hsub HBD.out HX.out.2.1 HX.out.2.2.1)
    have HDIS : Aside0 ((cd2 = 0 ∧ f2 = 0 ∧ rdr k1 bs b2 d2 pn en depth = some r) ∨ (cd2 ≠ 0 ∧ r = (b2, d2, cd2, f2))) := ⟨by
     by_cases c9 : cd2 = 0
     ·exact .inl ⟨c9, rdr_code k1 bs bx data a8 pn dp _ hsub c9, by rw [if_pos c9] at HR; exact HR⟩
     ·exact .inr ⟨c9, by rw [if_neg c9] at HR; exact (Option.some.inj HR).symm⟩⟩
    have HQ1 : Aside0 (a8 ≤ bs.length) := ⟨by have := HPL.out; have := HEN.out; omega⟩
    have HQ2 : Aside0 (pn ≤ bs.length) := ⟨by have := HPL.out; have := HEN.out; omega⟩
    have HQ3 : Aside0 (0 ≤ dp) := ⟨by have := HD.out; omega⟩
    have HQ4 : Aside0 (dp ≤ 9) := ⟨by have := C6.out; omega⟩
    have HQ5 := u5e HX.out.2.1
    have HQ6 := u5e HX.out.2.2.1
    have HKL : Aside0 (k1 < k) := ⟨by have := HK.out; omega⟩
    have HREC : Aside0 (∀ (vo_ : Value) (W_ : World), Below w0.heap.size w0 W_ → W_.heap[g]? = some (.cells #[.slice (some ad) bs.length cb, vo_, .int .i64 data, .int .i64 0, .int .i64 0] 53 (0, 0)) → Kd.S k46 46 W_ w0.heap.size (fun k_ => k_ ≠ g) vo_ bx → Calls Try.prog 39 #[.pointer (some ⟨g, 0, none⟩), .int .i64 (a8 : Int), .int .i64 (pn : Int), .int .i64 dp] W_ (RdEnd w0 g (some ad) bs.length cb (b2, d2, cd2, f2))) := ⟨fun vo_ W_ h1_ h2_ h3_ => ih k1 HKL.out g vo_ bx data a8 pn dp (b2, d2, cd2, f2) W_ HG0.out h1_ h2_ h3_ HQ1.out HQ2.out HQ3.out HQ4.out HQ5.out HQ6.out HBD.out hsub⟩
    clear hsub HR hbx hdp ih
    have hwm := Hwm_.out.1
    have hwm' := Hwm_.out.2
    have c2b0 := C2b0_.out
    have c2b1 := C2b1_.out
    have p0 := P0_.out
    have q0 := Q0_.out
    have p1 := P1_.out
    have q1 := Q1_.out
    have p2 := P2_.out
    have q2 := Q2_.out
    have p3 := P3_.out
    have q3 := Q3_.out
    have hw1 := Hw1_.out.1
    have hw1' := Hw1_.out.2
    have hw2 := Hw2_.out.1
    have hw2' := Hw2_.out.2
    have hw3 := Hw3_.out.1
    have hw3' := Hw3_.out.2
    have hw4 := Hw4_.out.1
    have hw4' := Hw4_.out.2
    have hw8 := Hw8_.out.1
    have hw8' := Hw8_.out.2
    have s1 := S1_.out
    have s2 := S2_.out
    have s3 := S3_.out
    have hconv := HCONV.out
    have hy0 := Hy0_.out.1
    have hy0' := Hy0_.out.2
    have hy1 := Hy1_.out.1
    have hy1' := Hy1_.out.2
    have hy2 := Hy2_.out.1
    have hy2' := Hy2_.out.2
    have hy3 := Hy3_.out.1
    have hy3' := Hy3_.out.2
    have hm0 := Hm0_.out.1
    have hm0' := Hm0_.out.2
    have hm1 := Hm1_.out.1
    have hm1' := Hm1_.out.2
    have hm2 := Hm2_.out.1
    have hm2' := Hm2_.out.2
    have hs1 := Hs1_.out.1
    have hs1' := Hs1_.out.2
    have hs2 := Hs2_.out.1
    have hs2' := Hs2_.out.2
    have hs3 := Hs3_.out.1
    have hs3' := Hs3_.out.2
    have c3b0 := C3b0_.out
    have c3b1 := C3b1_.out
    have c4b0 := C4b0_.out
    have c4b1 := C4b1_.out
    have c6b0 := C6b0_.out
    have c7b0 := C7b0_.out
    have c7b1 := C7b1_.out
    have c7b2 := C7b2_.out
    have c7b3 := C7b3_.out
    have hpn := Hpn_.out.1
    have hpn' := Hpn_.out.2
    have hdp := Hdp_.out.1
    have hdp' := Hdp_.out.2
    go_wp2_with (first | ((with_reducible refine gate_callee (f := 33) rfl ?_); refine goesL_ (some 87) rfl rfl Try.func33 (by kernel_rfl) rfl #[.string s] rfl (by (try simp only [List.map_toArray, List.map_cons, List.map_nil]); first | done | rfl) ?_; (with_reducible refine (spec_l2Kind.calls 6 s true _ HKS.out).mono ?_); rintro e_ W1_ ⟨rfl, ⟨nd_, rfl⟩⟩; refine ⟨_, rfl, ?_⟩) | ((with_reducible refine gate_dst (N := 101) rfl ?_); (refine gate_guard (by kernel_rfl) ?_; dsimp only); refine goesL_ (some 101) rfl rfl Try.func35 (by kernel_rfl) rfl #[.string s] rfl (by (try simp only [List.map_toArray, List.map_cons, List.map_nil]); first | done | rfl) ?_; (with_reducible refine (spec_l2Holds.calls s true _ HH.out).mono ?_); rintro e_ W1_ ⟨rfl, ⟨nd_, rfl⟩⟩; refine ⟨_, rfl, ?_⟩) | ((with_reducible refine gate_dst (N := 128) rfl ?_); refine goesL_ (some 128) rfl rfl Try.func35 (by kernel_rfl) rfl #[.string s] rfl (by (try simp only [List.map_toArray, List.map_cons, List.map_nil]); first | done | rfl) ?_; (with_reducible refine (spec_l2Holds.calls s true _ HH.out).mono ?_); rintro e_ W1_ ⟨rfl, ⟨nd_, rfl⟩⟩; refine ⟨_, rfl, ?_⟩) | ((with_reducible refine gate_dst (N := 138) rfl ?_); at_builtin; refine Kd.S_append k46 (w0 := w0) w0.heap.size rfl (.tmp 133) (.tmp 137) 25 46 (.agg #[.string ⟨#[]⟩, .int .i64 0, .slice none 0 0]) 48 rfl Try.underlying25 rinfo46 rfl (by decide) (by decide) (.slice Ao boxes.length co) boxes (⟨s, depth, []⟩ : S46) [.string s, .int .i64 depth, .slice none 0 0] (fun k_ => k_ ≠ g) (fun _ => False) rfl rfl ?aP (fun k_ hk_ => hk_.elim) ?aF ?aO ?aB ?aS ?aL ?_; (case aP => exact k46_mkM _ _ _ (⟨s, depth, ([] : List Int)⟩ : S46) (Kd.R_nil _ _ _ _ _)); (case aF => intro k_ hk_ he_; rw [he_] at hk_; exact absurd (blk_lt HG.out) (Nat.not_lt.mpr hk_)); (case aO => exact Kd.S_mono (Kd.S_step HO.out (fun _ _ _ => rfl)) (fun _ hk_ => ⟨hk_, fun f_ => f_⟩)); (case aB => exact (Below.mk HB.out.os HB.out.tape HB.out.output HB.out.size HB.out.block)); (case aS => exact HB.out.size); (case aL => have := HX.out; omega); intro v1_ W2_ ho_ hb_ hg_ hat_; rw [← HBX.out] at ho_; have HO2 := u5e ho_; have HB2 := u5e hb_; have HG2 := u5e ((hg_.block g (blk_lt HG.out) (Kd.S_away HO.out (fun _ hk_ => hk_))).trans HG.out); obtain ⟨A1, c1_, e1_⟩ := Kd.S_slice ho_; subst e1_; clear ho_ hb_ hg_ hat_) | ((with_reducible refine gate_ (.store 25 (.tmp 140) (.tmp 138)) rfl ?_); (refine put_blk_event rfl rfl rfl (g := g) (off := 1) (cur := #[Value.slice (some ad) bs.length cb, Value.slice Ao boxes.length co, Value.int .i64 data, Value.int .i64 0, Value.int .i64 0]) (cur' := #[Value.slice (some ad) bs.length cb, Value.slice A1 bx.length c1_, Value.int .i64 data, Value.int .i64 0, Value.int .i64 0]) (u := .slice A1 bx.length c1_) (seg := [Value.slice A1 bx.length c1_]) (by rfl) (by rfl) HG2.out rfl (by kernel_rfl) (Nat.le_of_ble_eq_true rfl) (by intro q_ hq_; simp only [List.mem_cons, List.not_mem_nil, or_false] at hq_; rcases hq_ with rfl <;> rfl) (by rfl) ?_); intro W3_ h1_ h2_ h3_; have HG3 := u5e h1_; have HO3 := u5e (Kd.S_step (Kd.S_step HO2.out (fun _ _ _ => rfl)) (fun k_ hk_ _ => h2_ k_ hk_)); have HB3 := u5e (h3_ _ _ HG0.out (Below.mk HB2.out.os HB2.out.tape HB2.out.output HB2.out.size HB2.out.block)); clear h1_ h2_ h3_) | ((with_reducible refine gate_callee (f := 39) rfl ?_); refine goesL_ (some 149) rfl rfl Try.func39 (by kernel_rfl) rfl #[.pointer (some ⟨g, 0, none⟩), .int .i64 (a8 : Int), .int .i64 (pn : Int), .int .i64 dp] rfl (by (try simp only [List.map_toArray, List.map_cons, List.map_nil]); first | done | rfl) ?_; (with_reducible refine (HREC.out (.slice A1 bx.length c1_) W3_ HB3.out HG3.out HO3.out).mono ?_); rintro e_ W4_ ⟨⟨v_, rfl⟩, vo4, h1_, h2_, h3_⟩; refine ⟨_, rfl, ?_⟩; have HG4 := u5e h1_; have HO4 := u5e h2_; have HB4 := u5e h3_; clear h1_ h2_ h3_))
    go_quiet (fail)
    go_wp2_with (first | ((with_reducible refine gate_callee (f := 33) rfl ?_); refine goesL_ (some 87) rfl rfl Try.func33 (by kernel_rfl) rfl #[.string s] rfl (by (try simp only [List.map_toArray, List.map_cons, List.map_nil]); first | done | rfl) ?_; (with_reducible refine (spec_l2Kind.calls 6 s true _ HKS.out).mono ?_); rintro e_ W1_ ⟨rfl, ⟨nd_, rfl⟩⟩; refine ⟨_, rfl, ?_⟩) | ((with_reducible refine gate_dst (N := 101) rfl ?_); (refine gate_guard (by kernel_rfl) ?_; dsimp only); refine goesL_ (some 101) rfl rfl Try.func35 (by kernel_rfl) rfl #[.string s] rfl (by (try simp only [List.map_toArray, List.map_cons, List.map_nil]); first | done | rfl) ?_; (with_reducible refine (spec_l2Holds.calls s true _ HH.out).mono ?_); rintro e_ W1_ ⟨rfl, ⟨nd_, rfl⟩⟩; refine ⟨_, rfl, ?_⟩) | ((with_reducible refine gate_dst (N := 128) rfl ?_); refine goesL_ (some 128) rfl rfl Try.func35 (by kernel_rfl) rfl #[.string s] rfl (by (try simp only [List.map_toArray, List.map_cons, List.map_nil]); first | done | rfl) ?_; (with_reducible refine (spec_l2Holds.calls s true _ HH.out).mono ?_); rintro e_ W1_ ⟨rfl, ⟨nd_, rfl⟩⟩; refine ⟨_, rfl, ?_⟩) | ((with_reducible refine gate_dst (N := 138) rfl ?_); at_builtin; refine Kd.S_append k46 (w0 := w0) w0.heap.size rfl (.tmp 133) (.tmp 137) 25 46 (.agg #[.string ⟨#[]⟩, .int .i64 0, .slice none 0 0]) 48 rfl Try.underlying25 rinfo46 rfl (by decide) (by decide) (.slice Ao boxes.length co) boxes (⟨s, depth, []⟩ : S46) [.string s, .int .i64 depth, .slice none 0 0] (fun k_ => k_ ≠ g) (fun _ => False) rfl rfl ?aP (fun k_ hk_ => hk_.elim) ?aF ?aO ?aB ?aS ?aL ?_; (case aP => exact k46_mkM _ _ _ (⟨s, depth, ([] : List Int)⟩ : S46) (Kd.R_nil _ _ _ _ _)); (case aF => intro k_ hk_ he_; rw [he_] at hk_; exact absurd (blk_lt HG.out) (Nat.not_lt.mpr hk_)); (case aO => exact Kd.S_mono (Kd.S_step HO.out (fun _ _ _ => rfl)) (fun _ hk_ => ⟨hk_, fun f_ => f_⟩)); (case aB => exact (Below.mk HB.out.os HB.out.tape HB.out.output HB.out.size HB.out.block)); (case aS => exact HB.out.size); (case aL => have := HX.out; omega); intro v1_ W2_ ho_ hb_ hg_ hat_; rw [← HBX.out] at ho_; have HO2 := u5e ho_; have HB2 := u5e hb_; have HG2 := u5e ((hg_.block g (blk_lt HG.out) (Kd.S_away HO.out (fun _ hk_ => hk_))).trans HG.out); obtain ⟨A1, c1_, e1_⟩ := Kd.S_slice ho_; subst e1_; clear ho_ hb_ hg_ hat_) | ((with_reducible refine gate_ (.store 25 (.tmp 140) (.tmp 138)) rfl ?_); (refine put_blk_event rfl rfl rfl (g := g) (off := 1) (cur := #[Value.slice (some ad) bs.length cb, Value.slice Ao boxes.length co, Value.int .i64 data, Value.int .i64 0, Value.int .i64 0]) (cur' := #[Value.slice (some ad) bs.length cb, Value.slice A1 bx.length c1_, Value.int .i64 data, Value.int .i64 0, Value.int .i64 0]) (u := .slice A1 bx.length c1_) (seg := [Value.slice A1 bx.length c1_]) (by rfl) (by rfl) HG2.out rfl (by kernel_rfl) (Nat.le_of_ble_eq_true rfl) (by intro q_ hq_; simp only [List.mem_cons, List.not_mem_nil, or_false] at hq_; rcases hq_ with rfl <;> rfl) (by rfl) ?_); intro W3_ h1_ h2_ h3_; have HG3 := u5e h1_; have HO3 := u5e (Kd.S_step (Kd.S_step HO2.out (fun _ _ _ => rfl)) (fun k_ hk_ _ => h2_ k_ hk_)); have HB3 := u5e (h3_ _ _ HG0.out (Below.mk HB2.out.os HB2.out.tape HB2.out.output HB2.out.size HB2.out.block)); clear h1_ h2_ h3_) | ((with_reducible refine gate_callee (f := 39) rfl ?_); refine goesL_ (some 149) rfl rfl Try.func39 (by kernel_rfl) rfl #[.pointer (some ⟨g, 0, none⟩), .int .i64 (a8 : Int), .int .i64 (pn : Int), .int .i64 dp] rfl (by (try simp only [List.map_toArray, List.map_cons, List.map_nil]); first | done | rfl) ?_; (with_reducible refine (HREC.out (.slice A1 bx.length c1_) W3_ HB3.out HG3.out HO3.out).mono ?_); rintro e_ W4_ ⟨⟨v_, rfl⟩, vo4, h1_, h2_, h3_⟩; refine ⟨_, rfl, ?_⟩; have HG4 := u5e h1_; have HO4 := u5e h2_; have HB4 := u5e h3_; clear h1_ h2_ h3_))
    go_roundg k1
    case measure => omega
    case rel => exact ⟨b2, d2, cd2, f2, vo4, pn, (by first | rfl | (simp; done) | (simp [*]; done)), HDIS, ⟨by have := HKL.out; omega⟩, HG4, HO4, HB4, ⟨by have := HPL.out; have := HEN.out; omega, HBB.out.2.1, HBB.out.2.2, HBB.out.1⟩⟩
   rw [if_neg c8] at HR
   have HH : Aside0 (spec_l2Holds.f s = some false) := ⟨by rw [r_hold_s s HSZ.out]; simpa using c8⟩
   clear c8
   obtain ⟨dn, hdn⟩ : ∃ d : Int, d = data + (n : Int) := ⟨_, rfl⟩
   obtain ⟨dd, hdd⟩ : ∃ d : Int, d = data + ((n : Int) - 8) := ⟨_, rfl⟩
   have Hdn_ : Aside0 (wrap64 (data + (n : Int)) = dn ∧ IntKind.i64.wrap (data + (n : Int)) = dn) := by
    have h_ : wrap64 (data + (n : Int)) = dn := by have := HX.out; have := HNB.out; unfold wrap64; omega
    exact ⟨⟨h_, (i64_w _).trans h_⟩⟩
   have Hdd_ : Aside0 (wrap64 (dn - 8) = dd ∧ IntKind.i64.wrap (dn - 8) = dd) := by
    have h_ : wrap64 (dn - 8) = dd := by have := HX.out; have := HNB.out; unfold wrap64; omega
    exact ⟨⟨h_, (i64_w _).trans h_⟩⟩
   rw [← hdd] at HR
   have HDD := u5e hdd
   clear hdn hdd
   by_cases c9 : 20000 < dd
   case pos =>
    rw [if_pos c9] at HR
    obtain rfl := Option.some.inj HR
    have C9b0_ : Aside0 (decide (20000 < dd) = true) := ⟨decide_eq_true (by skip; omega)⟩
    clear c9 HR
    have hwm := Hwm_.out.1
    have hwm' := Hwm_.out.2
    have c2b0 := C2b0_.out
    have c2b1 := C2b1_.out
    have p0 := P0_.out
    have q0 := Q0_.out
    have p1 := P1_.out
    have q1 := Q1_.out
    have p2 := P2_.out
    have q2 := Q2_.out
    have p3 := P3_.out
    have q3 := Q3_.out
    have hw1 := Hw1_.out.1
    have hw1' := Hw1_.out.2
    have hw2 := Hw2_.out.1
    have hw2' := Hw2_.out.2
    have hw3 := Hw3_.out.1
    have hw3' := Hw3_.out.2
    have hw4 := Hw4_.out.1
    have hw4' := Hw4_.out.2
    have hw8 := Hw8_.out.1
    have hw8' := Hw8_.out.2
    have s1 := S1_.out
    have s2 := S2_.out
    have s3 := S3_.out
    have hconv := HCONV.out
    have hy0 := Hy0_.out.1
    have hy0' := Hy0_.out.2
    have hy1 := Hy1_.out.1
    have hy1' := Hy1_.out.2
    have hy2 := Hy2_.out.1
    have hy2' := Hy2_.out.2
    have hy3 := Hy3_.out.1
    have hy3' := Hy3_.out.2
    have hm0 := Hm0_.out.1
    have hm0' := Hm0_.out.2
    have hm1 := Hm1_.out.1
    have hm1' := Hm1_.out.2
    have hm2 := Hm2_.out.1
    have hm2' := Hm2_.out.2
    have hs1 := Hs1_.out.1
    have hs1' := Hs1_.out.2
    have hs2 := Hs2_.out.1
    have hs2' := Hs2_.out.2
    have hs3 := Hs3_.out.1
    have hs3' := Hs3_.out.2
    have c3b0 := C3b0_.out
    have c3b1 := C3b1_.out
    have c4b0 := C4b0_.out
    have c4b1 := C4b1_.out
    have c6b0 := C6b0_.out
    have c7b0 := C7b0_.out
    have c7b1 := C7b1_.out
    have c7b2 := C7b2_.out
    have c7b3 := C7b3_.out
    have hpn := Hpn_.out.1
    have hpn' := Hpn_.out.2
    have hdn := Hdn_.out.1
    have hdn' := Hdn_.out.2
    have hdd := Hdd_.out.1
    have hdd' := Hdd_.out.2
    have c9b0 := C9b0_.out
    go_wp2_with (first | ((with_reducible refine gate_callee (f := 33) rfl ?_); refine goesL_ (some 87) rfl rfl Try.func33 (by kernel_rfl) rfl #[.string s] rfl (by (try simp only [List.map_toArray, List.map_cons, List.map_nil]); first | done | rfl) ?_; (with_reducible refine (spec_l2Kind.calls 6 s true _ HKS.out).mono ?_); rintro e_ W1_ ⟨rfl, ⟨nd_, rfl⟩⟩; refine ⟨_, rfl, ?_⟩) | ((with_reducible refine gate_dst (N := 101) rfl ?_); (refine gate_guard (by kernel_rfl) ?_; dsimp only); refine goesL_ (some 101) rfl rfl Try.func35 (by kernel_rfl) rfl #[.string s] rfl (by (try simp only [List.map_toArray, List.map_cons, List.map_nil]); first | done | rfl) ?_; (with_reducible refine (spec_l2Holds.calls s false _ HH.out).mono ?_); rintro e_ W1_ ⟨rfl, ⟨nd_, rfl⟩⟩; refine ⟨_, rfl, ?_⟩) | ((with_reducible refine gate_ (.store 37 (.tmp 126) (.tmp 124)) rfl ?_); (refine put_blk_event rfl rfl rfl (g := g) (off := 3) (cur := #[Value.slice (some ad) bs.length cb, Value.slice Ao boxes.length co, Value.int .i64 data, Value.int .i64 0, Value.int .i64 0]) (cur' := #[Value.slice (some ad) bs.length cb, Value.slice Ao boxes.length co, Value.int .i64 data, Value.int .i64 6, Value.int .i64 (p : Int)]) (u := .agg #[.int .i64 6, .int .i64 (p : Int)]) (seg := [Value.int .i64 6, Value.int .i64 (p : Int)]) (by rfl) (by rfl) HG.out rfl (by kernel_rfl) (Nat.le_of_ble_eq_true rfl) (by intro q_ hq_; simp only [List.mem_cons, List.not_mem_nil, or_false] at hq_; rcases hq_ with rfl | rfl <;> rfl) (by rfl) ?_); intro w1_ h1_ h2_ h3_; have H1 := u5e h1_; have H2 := u5e (Kd.S_step (Kd.S_step HO.out (fun _ _ _ => rfl)) (fun k_ hk_ _ => h2_ k_ hk_)); have H3 := u5e (h3_ _ _ HG0.out (Below.mk HB.out.os HB.out.tape HB.out.output HB.out.size HB.out.block)); clear h1_ h2_ h3_))
    go_quiet (fail)
    go_wp2_with (first | ((with_reducible refine gate_callee (f := 33) rfl ?_); refine goesL_ (some 87) rfl rfl Try.func33 (by kernel_rfl) rfl #[.string s] rfl (by (try simp only [List.map_toArray, List.map_cons, List.map_nil]); first | done | rfl) ?_; (with_reducible refine (spec_l2Kind.calls 6 s true _ HKS.out).mono ?_); rintro e_ W1_ ⟨rfl, ⟨nd_, rfl⟩⟩; refine ⟨_, rfl, ?_⟩) | ((with_reducible refine gate_dst (N := 101) rfl ?_); (refine gate_guard (by kernel_rfl) ?_; dsimp only); refine goesL_ (some 101) rfl rfl Try.func35 (by kernel_rfl) rfl #[.string s] rfl (by (try simp only [List.map_toArray, List.map_cons, List.map_nil]); first | done | rfl) ?_; (with_reducible refine (spec_l2Holds.calls s false _ HH.out).mono ?_); rintro e_ W1_ ⟨rfl, ⟨nd_, rfl⟩⟩; refine ⟨_, rfl, ?_⟩) | ((with_reducible refine gate_ (.store 37 (.tmp 126) (.tmp 124)) rfl ?_); (refine put_blk_event rfl rfl rfl (g := g) (off := 3) (cur := #[Value.slice (some ad) bs.length cb, Value.slice Ao boxes.length co, Value.int .i64 data, Value.int .i64 0, Value.int .i64 0]) (cur' := #[Value.slice (some ad) bs.length cb, Value.slice Ao boxes.length co, Value.int .i64 data, Value.int .i64 6, Value.int .i64 (p : Int)]) (u := .agg #[.int .i64 6, .int .i64 (p : Int)]) (seg := [Value.int .i64 6, Value.int .i64 (p : Int)]) (by rfl) (by rfl) HG.out rfl (by kernel_rfl) (Nat.le_of_ble_eq_true rfl) (by intro q_ hq_; simp only [List.mem_cons, List.not_mem_nil, or_false] at hq_; rcases hq_ with rfl | rfl <;> rfl) (by rfl) ?_); intro w1_ h1_ h2_ h3_; have H1 := u5e h1_; have H2 := u5e (Kd.S_step (Kd.S_step HO.out (fun _ _ _ => rfl)) (fun k_ hk_ _ => h2_ k_ hk_)); have H3 := u5e (h3_ _ _ HG0.out (Below.mk HB.out.os HB.out.tape HB.out.output HB.out.size HB.out.block)); clear h1_ h2_ h3_))
    refine bodyPost_ret (results_none rfl _ _ _) rfl ?_
    exact ⟨⟨_, rfl⟩, _, H1.out, (Kd.S_step H2.out (fun _ _ _ => rfl)), (Below.mk H3.out.os H3.out.tape H3.out.output H3.out.size H3.out.block)⟩
   rw [if_neg c9] at HR
   have C9b0_ : Aside0 (decide (20000 < dd) = false) := ⟨decide_eq_false (by skip; omega)⟩
   have C9 := u5e c9
   clear c9
   obtain ⟨ys, hys⟩ : ∃ l : List Int, l = (bs.take pn).drop a8 := ⟨_, rfl⟩
   rw [← hys] at HR
   obtain ⟨bx, hbx⟩ : ∃ b : List S46, b = boxes ++ [⟨s, depth, ys⟩] := ⟨_, rfl⟩
   rw [← hbx] at HR
   have HR2 := u5e HR
   have HBX := u5e hbx
   have HBD : Aside0 (bx.length ≤ 200) := ⟨by rw [hbx, List.length_append]; simp only [List.length_cons, List.length_nil]; have := HX.out; have := C7.out; omega⟩
   have HYL : Aside0 (ys.length = pn - a8) := ⟨by rw [hys, List.length_drop, List.length_take]; have := HPL.out; have := HEN.out; omega⟩
   have HYC : Aside0 (∀ W_ : World, Below w0.heap.size w0 W_ → Kd.C (Kd.int .u8) W_ (if cb = a8 then some ad else some (ad.add a8)) ys.length ys) := ⟨fun W_ hb_ => by
    have h_ := Kd.C_mid (c := cb) (lo := a8) (hi := pn) (Kd.C_below HC0.out hb_) HPL.out.2 (by have := HPL.out; have := HEN.out; omega) HCB.out
    rw [hys]
    simpa [Kd.int, Kd.scalar] using h_⟩
   have HKL : Aside0 (k1 < k) := ⟨by have := HK.out; omega⟩
   have S4_ : Aside0 ((pn ≤ cb) = True) := ⟨eq_true (by have := HPL.out; have := HEN.out; have := HCB.out; omega)⟩
   have S5_ : Aside0 ((a8 ≤ pn) = True) := ⟨eq_true HPL.out.2⟩
   clear HR hbx hys ih
   have hwm := Hwm_.out.1
   have hwm' := Hwm_.out.2
   have c2b0 := C2b0_.out
   have c2b1 := C2b1_.out
   have p0 := P0_.out
   have q0 := Q0_.out
   have p1 := P1_.out
   have q1 := Q1_.out
   have p2 := P2_.out
   have q2 := Q2_.out
   have p3 := P3_.out
   have q3 := Q3_.out
   have hw1 := Hw1_.out.1
   have hw1' := Hw1_.out.2
   have hw2 := Hw2_.out.1
   have hw2' := Hw2_.out.2
   have hw3 := Hw3_.out.1
   have hw3' := Hw3_.out.2
   have hw4 := Hw4_.out.1
   have hw4' := Hw4_.out.2
   have hw8 := Hw8_.out.1
   have hw8' := Hw8_.out.2
   have s1 := S1_.out
   have s2 := S2_.out
   have s3 := S3_.out
   have hconv := HCONV.out
   have hy0 := Hy0_.out.1
   have hy0' := Hy0_.out.2
   have hy1 := Hy1_.out.1
   have hy1' := Hy1_.out.2
   have hy2 := Hy2_.out.1
   have hy2' := Hy2_.out.2
   have hy3 := Hy3_.out.1
   have hy3' := Hy3_.out.2
   have hm0 := Hm0_.out.1
   have hm0' := Hm0_.out.2
   have hm1 := Hm1_.out.1
   have hm1' := Hm1_.out.2
   have hm2 := Hm2_.out.1
   have hm2' := Hm2_.out.2
   have hs1 := Hs1_.out.1
   have hs1' := Hs1_.out.2
   have hs2 := Hs2_.out.1
   have hs2' := Hs2_.out.2
   have hs3 := Hs3_.out.1
   have hs3' := Hs3_.out.2
   have c3b0 := C3b0_.out
   have c3b1 := C3b1_.out
   have c4b0 := C4b0_.out
   have c4b1 := C4b1_.out
   have c6b0 := C6b0_.out
   have c7b0 := C7b0_.out
   have c7b1 := C7b1_.out
   have c7b2 := C7b2_.out
   have c7b3 := C7b3_.out
   have hpn := Hpn_.out.1
   have hpn' := Hpn_.out.2
   have hdn := Hdn_.out.1
   have hdn' := Hdn_.out.2
   have hdd := Hdd_.out.1
   have hdd' := Hdd_.out.2
   have c9b0 := C9b0_.out
   have s4 := S4_.out
   have s5 := S5_.out
   go_wp2_with (first | ((with_reducible refine gate_callee (f := 33) rfl ?_); refine goesL_ (some 87) rfl rfl Try.func33 (by kernel_rfl) rfl #[.string s] rfl (by (try simp only [List.map_toArray, List.map_cons, List.map_nil]); first | done | rfl) ?_; (with_reducible refine (spec_l2Kind.calls 6 s true _ HKS.out).mono ?_); rintro e_ W1_ ⟨rfl, ⟨nd_, rfl⟩⟩; refine ⟨_, rfl, ?_⟩) | ((with_reducible refine gate_dst (N := 101) rfl ?_); (refine gate_guard (by kernel_rfl) ?_; dsimp only); refine goesL_ (some 101) rfl rfl Try.func35 (by kernel_rfl) rfl #[.string s] rfl (by (try simp only [List.map_toArray, List.map_cons, List.map_nil]); first | done | rfl) ?_; (with_reducible refine (spec_l2Holds.calls s false _ HH.out).mono ?_); rintro e_ W1_ ⟨rfl, ⟨nd_, rfl⟩⟩; refine ⟨_, rfl, ?_⟩) | ((with_reducible refine gate_dst (N := 128) rfl ?_); refine goesL_ (some 128) rfl rfl Try.func35 (by kernel_rfl) rfl #[.string s] rfl (by (try simp only [List.map_toArray, List.map_cons, List.map_nil]); first | done | rfl) ?_; (with_reducible refine (spec_l2Holds.calls s false _ HH.out).mono ?_); rintro e_ W1_ ⟨rfl, ⟨nd_, rfl⟩⟩; refine ⟨_, rfl, ?_⟩) | ((with_reducible refine gate_ (.store 3 (.tmp 159) (.tmp 157)) rfl ?_); (refine put_blk_event rfl rfl rfl (g := g) (off := 2) (cur := #[Value.slice (some ad) bs.length cb, Value.slice Ao boxes.length co, Value.int .i64 data, Value.int .i64 0, Value.int .i64 0]) (cur' := #[Value.slice (some ad) bs.length cb, Value.slice Ao boxes.length co, Value.int .i64 dd, Value.int .i64 0, Value.int .i64 0]) (u := .int .i64 dd) (seg := [Value.int .i64 dd]) (by rfl) (by rfl) HG.out rfl (by kernel_rfl) (Nat.le_of_ble_eq_true rfl) (by intro q_ hq_; simp only [List.mem_cons, List.not_mem_nil, or_false] at hq_; rcases hq_ with rfl <;> rfl) (by rfl) ?_); intro W3_ h1_ h2_ h3_; have HG3 := u5e h1_; have HO3 := u5e (Kd.S_step (Kd.S_step HO.out (fun _ _ _ => rfl)) (fun k_ hk_ _ => h2_ k_ hk_)); have HB3 := u5e (h3_ _ _ HG0.out (Below.mk HB.out.os HB.out.tape HB.out.output HB.out.size HB.out.block)); clear h1_ h2_ h3_))
   go_quiet (fail)
   go_wp2_with (first | ((with_reducible refine gate_callee (f := 33) rfl ?_); refine goesL_ (some 87) rfl rfl Try.func33 (by kernel_rfl) rfl #[.string s] rfl (by (try simp only [List.map_toArray, List.map_cons, List.map_nil]); first | done | rfl) ?_; (with_reducible refine (spec_l2Kind.calls 6 s true _ HKS.out).mono ?_); rintro e_ W1_ ⟨rfl, ⟨nd_, rfl⟩⟩; refine ⟨_, rfl, ?_⟩) | ((with_reducible refine gate_dst (N := 101) rfl ?_); (refine gate_guard (by kernel_rfl) ?_; dsimp only); refine goesL_ (some 101) rfl rfl Try.func35 (by kernel_rfl) rfl #[.string s] rfl (by (try simp only [List.map_toArray, List.map_cons, List.map_nil]); first | done | rfl) ?_; (with_reducible refine (spec_l2Holds.calls s false _ HH.out).mono ?_); rintro e_ W1_ ⟨rfl, ⟨nd_, rfl⟩⟩; refine ⟨_, rfl, ?_⟩) | ((with_reducible refine gate_dst (N := 128) rfl ?_); refine goesL_ (some 128) rfl rfl Try.func35 (by kernel_rfl) rfl #[.string s] rfl (by (try simp only [List.map_toArray, List.map_cons, List.map_nil]); first | done | rfl) ?_; (with_reducible refine (spec_l2Holds.calls s false _ HH.out).mono ?_); rintro e_ W1_ ⟨rfl, ⟨nd_, rfl⟩⟩; refine ⟨_, rfl, ?_⟩) | ((with_reducible refine gate_ (.store 3 (.tmp 159) (.tmp 157)) rfl ?_); (refine put_blk_event rfl rfl rfl (g := g) (off := 2) (cur := #[Value.slice (some ad) bs.length cb, Value.slice Ao boxes.length co, Value.int .i64 data, Value.int .i64 0, Value.int .i64 0]) (cur' := #[Value.slice (some ad) bs.length cb, Value.slice Ao boxes.length co, Value.int .i64 dd, Value.int .i64 0, Value.int .i64 0]) (u := .int .i64 dd) (seg := [Value.int .i64 dd]) (by rfl) (by rfl) HG.out rfl (by kernel_rfl) (Nat.le_of_ble_eq_true rfl) (by intro q_ hq_; simp only [List.mem_cons, List.not_mem_nil, or_false] at hq_; rcases hq_ with rfl <;> rfl) (by rfl) ?_); intro W3_ h1_ h2_ h3_; have HG3 := u5e h1_; have HO3 := u5e (Kd.S_step (Kd.S_step HO.out (fun _ _ _ => rfl)) (fun k_ hk_ _ => h2_ k_ hk_)); have HB3 := u5e (h3_ _ _ HG0.out (Below.mk HB.out.os HB.out.tape HB.out.output HB.out.size HB.out.block)); clear h1_ h2_ h3_))
   refine start_ (n := 25) (S := fun w' => w'.heap[g]? = some (.cells #[Value.slice (some ad) bs.length cb, Value.slice Ao boxes.length co, Value.int .i64 dd, Value.int .i64 0, Value.int .i64 0] 53 (0, 0))) (ds := [24]) #[false, false, false, false, false, false, false, false, false, false, false, false, false, false, false, false, false, false, false, false, false, false, false, false, false] (by kernel_rfl) rfl rfl HG3.out (fun hHeld => ?_)
   clear hconv
   have HO4 : Aside0 (Kd.S k46 46 (World.drew W3_) w0.heap.size (fun k_ => k_ ≠ g ∧ k_ < W3_.heap.size) (.slice Ao boxes.length co) boxes) := ⟨Kd.S_mono (Kd.S_bound (Kd.S_drew HO3.out)) (fun k_ hk_ => ⟨hk_.1, hk_.2.2.1⟩)⟩
   have HB4 : Aside0 (Below w0.heap.size w0 (World.drew W3_)) := ⟨(Below.mk HB3.out.os HB3.out.tape HB3.out.output HB3.out.size HB3.out.block)⟩
   have HGL : Aside0 (g < W3_.heap.size) := ⟨blk_lt HG3.out⟩
   have HVS : Aside0 (W3_.heap.size ≤ (World.drew W3_).heap.size) := ⟨Nat.le_refl _⟩
   generalize World.drew W3_ = V at hHeld HO4 HB4 HVS ⊢
   generalize W3_.heap.size = hv at HO4 HGL HVS
   clear HG3 HO3 HB3 HO HB HG
   refine pure_ (i := 0) (N := some 160) (v := ?_) (a' := ?_) #[true, false, false, false, false, false, false, false, false, false, false, false, false, false, false, false, false, false, false, false, false, false, false, false, false] rfl rfl (by kernel_rfl) (fun _ _ _ h => h) (Or.inl ⟨by rfl, ?_⟩) ?_ ?_
   rotate_left
   ·intro w'
    go_simp
    with_reducible rfl
   rotate_left
   ·simp only [Act.put, u5a, u5b, u5c, i64_w, i32_w]
    rfl
   refine pure_ (i := 1) (N := some 161) (v := ?_) (a' := ?_) #[true, true, false, false, false, false, false, false, false, false, false, false, false, false, false, false, false, false, false, false, false, false, false, false, false] rfl rfl (by kernel_rfl) (fun _ _ _ h => h) (Or.inl ⟨by rfl, ?_⟩) ?_ ?_
   rotate_left
   ·intro w'
    go_simp
    with_reducible rfl
   rotate_left
   ·simp only [Act.put, u5a, u5b, u5c, i64_w, i32_w]
    rfl
   refine pure_ (i := 2) (N := some 162) (v := ?_) (a' := ?_) #[true, true, true, false, false, false, false, false, false, false, false, false, false, false, false, false, false, false, false, false, false, false, false, false, false] rfl rfl (by kernel_rfl) (fun _ _ _ h => h) (Or.inl ⟨by rfl, ?_⟩) ?_ ?_
   rotate_left
   ·intro w'
    go_simp
    with_reducible rfl
   rotate_left
   ·simp only [Act.put, u5a, u5b, u5c, i64_w, i32_w]
    rfl
   refine pure_ (i := 3) (N := some 163) (v := ?_) (a' := ?_) #[true, true, true, true, false, false, false, false, false, false, false, false, false, false, false, false, false, false, false, false, false, false, false, false, false] rfl rfl (by kernel_rfl) (fun _ _ _ h => h) (Or.inl ⟨by rfl, ?_⟩) ?_ ?_
   rotate_left
   ·intro w'
    go_simp
    with_reducible rfl
   rotate_left
   ·simp only [Act.put, u5a, u5b, u5c, i64_w, i32_w]
    rfl
   refine take_ (i := 4) (N := some 164) (v := ?_) (a' := ?_) #[true, true, true, true, true, false, false, false, false, false, false, false, false, false, false, false, false, false, false, false, false, false, false, false, false] rfl rfl (by kernel_rfl) (fun _ _ _ h => h) (Or.inl ⟨by rfl, ?_⟩) hHeld ?_ ?_
   rotate_left
   ·intro w' hS
    have hcl_ : w'.cell? ⟨g, 1, none⟩ = some (.slice Ao boxes.length co) := (blk_cell hS 1).trans rfl
    go_simp
    with_reducible rfl
   rotate_left
   ·simp only [Act.put, u5a, u5b, u5c, i64_w, i32_w]
    rfl
   refine pure_ (i := 5) (N := some 165) (v := ?_) (a' := ?_) #[true, true, true, true, true, true, false, false, false, false, false, false, false, false, false, false, false, false, false, false, false, false, false, false, false] rfl rfl (by kernel_rfl) (fun _ _ _ h => h) (Or.inl ⟨by rfl, ?_⟩) ?_ ?_
   rotate_left
   ·intro w'
    go_simp
    with_reducible rfl
   rotate_left
   ·simp only [Act.put, u5a, u5b, u5c, i64_w, i32_w]
    rfl
   refine pure_ (i := 6) (N := some 166) (v := ?_) (a' := ?_) #[true, true, true, true, true, true, true, false, false, false, false, false, false, false, false, false, false, false, false, false, false, false, false, false, false] rfl rfl (by kernel_rfl) (fun _ _ _ h => h) (Or.inl ⟨by rfl, ?_⟩) ?_ ?_
   rotate_left
   ·intro w'
    go_simp
    with_reducible rfl
   rotate_left
   ·simp only [Act.put, u5a, u5b, u5c, i64_w, i32_w]
    rfl
   refine pure_ (i := 8) (N := some 168) (v := ?_) (a' := ?_) #[true, true, true, true, true, true, true, false, true, false, false, false, false, false, false, false, false, false, false, false, false, false, false, false, false] rfl rfl (by kernel_rfl) (fun _ _ _ h => h) (Or.inl ⟨by rfl, ?_⟩) ?_ ?_
   rotate_left
   ·intro w'
    go_simp
    with_reducible rfl
   rotate_left
   ·simp only [Act.put, u5a, u5b, u5c, i64_w, i32_w]
    rfl
   refine pure_ (i := 9) (N := some 169) (v := ?_) (a' := ?_) #[true, true, true, true, true, true, true, false, true, true, false, false, false, false, false, false, false, false, false, false, false, false, false, false, false] rfl rfl (by kernel_rfl) (fun _ _ _ h => h) (Or.inl ⟨by rfl, ?_⟩) ?_ ?_
   rotate_left
   ·intro w'
    go_simp
    with_reducible rfl
   rotate_left
   ·simp only [Act.put, u5a, u5b, u5c, i64_w, i32_w]
    rfl
   refine pure_ (i := 10) (N := some 170) (v := ?_) (a' := ?_) #[true, true, true, true, true, true, true, false, true, true, true, false, false, false, false, false, false, false, false, false, false, false, false, false, false] rfl rfl (by kernel_rfl) (fun _ _ _ h => h) (Or.inl ⟨by rfl, ?_⟩) ?_ ?_
   rotate_left
   ·intro w'
    go_simp
    with_reducible rfl
   rotate_left
   ·simp only [Act.put, u5a, u5b, u5c, i64_w, i32_w]
    rfl
   refine take_ (i := 11) (N := some 171) (v := ?_) (a' := ?_) #[true, true, true, true, true, true, true, false, true, true, true, true, false, false, false, false, false, false, false, false, false, false, false, false, false] rfl rfl (by kernel_rfl) (fun _ _ _ h => h) (Or.inl ⟨by rfl, ?_⟩) hHeld ?_ ?_
   rotate_left
   ·intro w' hS
    have hcl_ : w'.cell? ⟨g, 0, none⟩ = some (.slice (some ad) bs.length cb) := (blk_cell hS 0).trans rfl
    go_simp
    with_reducible rfl
   rotate_left
   ·simp only [Act.put, u5a, u5b, u5c, i64_w, i32_w]
    rfl
   refine pure_ (i := 12) (N := some 172) (v := ?_) (a' := ?_) #[true, true, true, true, true, true, true, false, true, true, true, true, true, false, false, false, false, false, false, false, false, false, false, false, false] rfl rfl (by kernel_rfl) (fun _ _ _ h => h) (Or.inl ⟨by rfl, ?_⟩) ?_ ?_
   rotate_left
   ·intro w'
    go_simp
    with_reducible rfl
   rotate_left
   ·simp only [Act.put, u5a, u5b, u5c, i64_w, i32_w]
    rfl
   refine pure_ (i := 13) (N := some 173) (v := ?_) (a' := ?_) #[true, true, true, true, true, true, true, false, true, true, true, true, true, true, false, false, false, false, false, false, false, false, false, false, false] rfl rfl (by kernel_rfl) (fun _ _ _ h => h) (Or.inl ⟨by rfl, ?_⟩) ?_ ?_
   rotate_left
   ·intro w'
    go_simp
    with_reducible rfl
   rotate_left
   ·simp only [Act.put, u5a, u5b, u5c, i64_w, i32_w]
    rfl
   refine pure_ (i := 14) (N := some 174) (v := ?_) (a' := ?_) #[true, true, true, true, true, true, true, false, true, true, true, true, true, true, true, false, false, false, false, false, false, false, false, false, false] rfl rfl (by kernel_rfl) (fun _ _ _ h => h) (Or.inl ⟨by rfl, ?_⟩) ?_ ?_
   rotate_left
   ·intro w'
    go_simp
    with_reducible rfl
   rotate_left
   ·simp only [Act.put, u5a, u5b, u5c, i64_w, i32_w]
    rfl
   refine pure_ (i := 15) (N := some 175) (v := ?_) (a' := ?_) #[true, true, true, true, true, true, true, false, true, true, true, true, true, true, true, true, false, false, false, false, false, false, false, false, false] rfl rfl (by kernel_rfl) (fun _ _ _ h => h) (Or.inl ⟨by rfl, ?_⟩) ?_ ?_
   rotate_left
   ·intro w'
    go_simp
    with_reducible rfl
   rotate_left
   ·simp only [Act.put, u5a, u5b, u5c, i64_w, i32_w]
    rfl
   refine pure_ (i := 16) (N := some 176) (v := ?_) (a' := ?_) #[true, true, true, true, true, true, true, false, true, true, true, true, true, true, true, true, true, false, false, false, false, false, false, false, false] rfl rfl (by kernel_rfl) (fun _ _ _ h => h) (Or.inl ⟨by rfl, ?_⟩) ?_ ?_
   rotate_left
   ·intro w'
    go_simp
    with_reducible rfl
   rotate_left
   ·simp only [Act.put, u5a, u5b, u5c, i64_w, i32_w]
    rfl
   refine pure_ (i := 17) (N := some 177) (v := ?_) (a' := ?_) #[true, true, true, true, true, true, true, false, true, true, true, true, true, true, true, true, true, true, false, false, false, false, false, false, false] rfl rfl (by kernel_rfl) (fun _ _ _ h => h) (Or.inl ⟨by rfl, ?_⟩) ?_ ?_
   rotate_left
   ·intro w'
    go_simp
    with_reducible rfl
   rotate_left
   ·simp only [Act.put, u5a, u5b, u5c, i64_w, i32_w]
    rfl
   obtain ⟨AA, hAA⟩ : ∃ AA : Option Addr, AA = (if cb = a8 then some ad else some (ad.add a8)) := ⟨_, rfl⟩
   rw [← hAA]
   have HAA := u5e hAA
   clear hAA
   have HYC2 : Aside0 (∀ W_ : World, Below w0.heap.size w0 W_ → Kd.C (Kd.int .u8) W_ AA ys.length ys) := ⟨fun W_ hb_ => by rw [HAA.out]; exact HYC.out W_ hb_⟩
   clear HYC
   refine one_ (i := 7) (N := some 167) #[true, true, true, true, true, true, true, true, true, true, true, true, true, true, true, true, true, true, false, false, false, false, false, false, false] rfl rfl (by kernel_rfl) (by decide) (fun K hK => ?_)
   refine Kd.R_lit_step (w0 := w0) (Kd.int .u8) w0.heap.size 5 (by rfl) rfl (xs := ([] : List Int)) (inner := []) (ok := fun k_ => hv ≤ k_) (okp := fun _ => False) (by first | (go_simp; done) | (go_simp; rfl)) (Reps.none _ _) (fun _ hk => hk.elim) HVS.out HB4.out HB4.out.size (by simp) ?_
   intro v34 W5_ ho hb hg_ hnew
   have HIN := u5e ho
   replace hHeld := (hg_.block g (blk_lt hHeld) (by simp)).trans hHeld
   have HO5 := u5e (Kd.S_grown HO4.out hg_ (fun _ _ he => by simp at he))
   have HB5 := u5e hb
   have HV5 : Aside0 (hv ≤ W5_.heap.size) := ⟨Nat.le_trans HVS.out hg_.size⟩
   clear ho hb hg_ hnew HO4 HB4 HVS
   refine hK.out _ _ hHeld (fun _ => ?_)
   clear hK K
   refine norm_ (a' := ?_) ?_ ?_
   rotate_left
   ·show Act.put _ (some 167) _ = _
    simp only [Act.put, u5a, u5b, u5c, i64_w, i32_w]
    rfl
   refine one_ (i := 18) (N := some 178) #[true, true, true, true, true, true, true, true, true, true, true, true, true, true, true, true, true, true, true, false, false, false, false, false, false] rfl rfl (by kernel_rfl) (by decide) (fun K hK => ?_)
   refine Kd.R_append_rows_step (w0 := w0) (Kd.int .u8) (Rr := fun x cs => cs = [Value.int .u8 x]) w0.heap.size (by rfl) (.tmp 167) (.tmp 177) 29 5 (.int .u8 0) 1 rfl Try.underlying29 info5 rfl (by decide) (by decide) v34 [] ys AA ys.length (cb - a8) (fun k_ => hv ≤ k_) (fun _ => False) (by rfl) (by first | rfl | (rw [HYL.out]; rfl)) HIN.out ?hR (fun x cs h => h) (fun _ hk => hk.elim) (fun _ hk => Nat.le_trans HV5.out hk) HB5.out HB5.out.size ?hl ?_
   case hR => exact HYC2.out _ HB5.out
   case hl => (have := HYL.out; have := HPL.out; have := HEN.out; have := HBL.out; simp only [List.length_nil]; omega)
   intro v40 W6_ ho hb hg_ hat
   have HIN2 := u5e ho
   replace hHeld := (hg_.block g (blk_lt hHeld) (fun he => Nat.not_lt.mpr (HIN.out.1 g he.symm) HGL.out)).trans hHeld
   have HO6 := u5e (Kd.S_grown HO5.out hg_ (fun k_ hk_ he => Nat.not_lt.mpr (HIN.out.1 k_ he.symm) hk_.2))
   have HB6 := u5e hb
   have HV6 : Aside0 (hv ≤ W6_.heap.size) := ⟨Nat.le_trans HV5.out hg_.size⟩
   clear ho hb hg_ hat HO5 HB5 HV5 HIN
   refine hK.out _ _ hHeld (fun _ => ?_)
   clear hK K
   refine norm_ (a' := ?_) ?_ ?_
   rotate_left
   ·show Act.put _ (some 178) _ = _
    simp only [Act.put, u5a, u5b, u5c, i64_w, i32_w]
    rfl
   rw [List.nil_append] at HIN2
   obtain ⟨A40, c40, e40⟩ := Kd.R_slice HIN2.out
   subst e40
   refine pure_ (i := 19) (N := some 179) (v := ?_) (a' := ?_) #[true, true, true, true, true, true, true, true, true, true, true, true, true, true, true, true, true, true, true, true, false, false, false, false, false] rfl rfl (by kernel_rfl) (fun _ _ _ h => h) (Or.inl ⟨by rfl, ?_⟩) ?_ ?_
   rotate_left
   ·intro w'
    go_simp
    with_reducible rfl
   rotate_left
   ·simp only [Act.put, u5a, u5b, u5c, i64_w, i32_w]
    rfl
   refine one_ (i := 20) (N := some 180) #[true, true, true, true, true, true, true, true, true, true, true, true, true, true, true, true, true, true, true, true, true, false, false, false, false] rfl rfl (by kernel_rfl) (by decide) (fun K hK => ?_)
   refine event_step (W := W6_) (v := .slice (some ⟨W6_.heap.size, 0, none⟩) 1 1) (w1 := W6_.alloc (.cells [Value.string s, Value.int .i64 depth, Value.slice A40 ys.length c40].toArray 46)) (by rfl) (by first | (go_simp; done) | (go_simp; rfl)) ?_
   refine hK.out _ _ (blk_alloc hHeld _) (fun _ => ?_)
   clear hK K
   refine norm_ (a' := ?_) ?_ ?_
   rotate_left
   ·show Act.put _ (some 180) _ = _
    simp only [Act.put, u5a, u5b, u5c, i64_w, i32_w]
    rfl
   refine one_ (i := 21) (N := some 181) #[true, true, true, true, true, true, true, true, true, true, true, true, true, true, true, true, true, true, true, true, true, true, false, false, false] rfl rfl (by kernel_rfl) (by decide) (fun K hK => ?_)
   refine Kd.S_append_step k46 (w0 := w0) w0.heap.size (by rfl) (.tmp 164) (.tmp 180) 25 46 (.agg #[.string ⟨#[]⟩, .int .i64 0, .slice none 0 0]) 48 rfl Try.underlying25 rinfo46 rfl (by decide) (by decide) (.slice Ao boxes.length co) boxes (⟨s, depth, ys⟩ : S46) [Value.string s, Value.int .i64 depth, Value.slice A40 ys.length c40] (fun k_ => k_ ≠ g) (fun k_ => hv ≤ k_) (by rfl) (by rfl) ?aP ?aK ?aF ?aO HB6.out HB6.out.size ?aL ?_
   case aP => exact k46_mkM _ _ _ (⟨s, depth, ys⟩ : S46) HIN2.out
   case aK => exact fun k_ hk_ => ⟨fun he_ => Nat.not_lt.mpr hk_ (by rw [he_]; exact HGL.out), fun he_ => Nat.not_lt.mpr hk_ ((Kd.S_R HO6.out).1 k_ he_.symm).2⟩
   case aF => exact fun k_ hk_ he_ => Nat.not_lt.mpr (Nat.le_trans HV6.out hk_) (by rw [he_]; exact HGL.out)
   case aO => exact Kd.S_mono HO6.out (fun k_ hk_ => ⟨hk_.1, fun h_ => Nat.not_lt.mpr h_ hk_.2⟩)
   case aL => (have := HX.out; omega)
   intro v41 W7_ ho hb hg_ hat
   rw [← HBX.out] at ho
   replace hHeld := (hg_.block g (blk_lt hHeld) (fun he => ((Kd.S_R HO6.out).1 g he.symm).1 rfl)).trans hHeld
   have HO7 := u5e ho
   have HB7 := u5e hb
   obtain ⟨A41, c41, e41⟩ := Kd.S_slice ho
   subst e41
   clear ho hb hg_ hat HO6 HB6 HV6 HIN2
   refine hK.out _ _ hHeld (fun _ => ?_)
   clear hK K
   refine norm_ (a' := ?_) ?_ ?_
   rotate_left
   ·show Act.put _ (some 181) _ = _
    simp only [Act.put, u5a, u5b, u5c, i64_w, i32_w]
    rfl
   refine pure_ (i := 22) (N := some 182) (v := ?_) (a' := ?_) #[true, true, true, true, true, true, true, true, true, true, true, true, true, true, true, true, true, true, true, true, true, true, true, false, false] rfl rfl (by kernel_rfl) (fun _ _ _ h => h) (Or.inl ⟨by rfl, ?_⟩) ?_ ?_
   rotate_left
   ·intro w'
    go_simp
    with_reducible rfl
   rotate_left
   ·simp only [Act.put, u5a, u5b, u5c, i64_w, i32_w]
    rfl
   refine pure_ (i := 23) (N := some 183) (v := ?_) (a' := ?_) #[true, true, true, true, true, true, true, true, true, true, true, true, true, true, true, true, true, true, true, true, true, true, true, true, false] rfl rfl (by kernel_rfl) (fun _ _ _ h => h) (Or.inl ⟨by rfl, ?_⟩) ?_ ?_
   rotate_left
   ·intro w'
    go_simp
    with_reducible rfl
   rotate_left
   ·simp only [Act.put, u5a, u5b, u5c, i64_w, i32_w]
    rfl
   refine last_ (i := 24) (N := none) #[true, true, true, true, true, true, true, true, true, true, true, true, true, true, true, true, true, true, true, true, true, true, true, true, true] rfl rfl (by kernel_rfl) (by decide) (fun K hK => ?_)
   refine put_blk_step (by rfl) rfl rfl (g := g) (off := 1) (cur := #[Value.slice (some ad) bs.length cb, Value.slice Ao boxes.length co, Value.int .i64 dd, Value.int .i64 0, Value.int .i64 0]) (cur' := #[Value.slice (some ad) bs.length cb, Value.slice A41 bx.length c41, Value.int .i64 dd, Value.int .i64 0, Value.int .i64 0]) (u := .slice A41 bx.length c41) (seg := [Value.slice A41 bx.length c41]) (by rfl) (by rfl) hHeld rfl (by kernel_rfl) (Nat.le_of_ble_eq_true rfl) (by intro q_ hq_; simp only [List.mem_cons, List.not_mem_nil, or_false] at hq_; rcases hq_ with rfl <;> rfl) (by rfl) ?_
   intro W8_ h1_ h2_ h3_
   have HG8 := u5e h1_
   have HO8 := u5e (Kd.S_step HO7.out (fun k_ hk_ _ => h2_ k_ hk_))
   have HB8 := u5e (h3_ _ _ HG0.out HB7.out)
   clear h1_ h2_ h3_
   refine hK.out _ _ ?_
   clear hK K
   refine done_ (by kernel_rfl) ?_
   clear hHeld HO7 HB7
   go_wp2
   go_roundg k1
   case measure => omega
   case rel => exact ⟨bx, dd, 0, 0, _, pn, (by first | rfl | (simp; done) | (simp [*]; done)), ⟨.inl ⟨rfl, rfl, HR2.out⟩⟩, ⟨by have := HKL.out; omega⟩, HG8, HO8, HB8, ⟨by have := HPL.out; have := HEN.out; omega, by have := HDD.out; have := HX.out; have := C3.out; omega, by have := C9.out; omega, HBD.out⟩⟩
theorem l2Read_top (k : Nat) (A0 : Option Addr) (c0 : Nat) (l0 : List Int) (r : List S46 × Int × Int × Int) (w : World) (hr0 : Kd.C (Kd.int .u8) w A0 l0.length l0) (hc0 : l0.length ≤ c0) (h : rdTop k l0 = some r) (g : Nat) (W : World) (hg : w.heap.size ≤ g) (hB : Below w.heap.size w W)
  (hb : W.heap[g]? = some (.cells #[.slice A0 l0.length c0, .slice none 0 0, .int .i64 0, .int .i64 0, .int .i64 0] 53 (0, 0))) :
  Calls Try.prog 39 #[.pointer (some ⟨g, 0, none⟩), .int .i64 0, .int .i64 (l0.length : Int), .int .i64 0] W (RdEnd w g A0 l0.length c0 r) := by
 obtain ⟨h1, h2, h3⟩ := rdTop_open h
 exact l2Read_rdr w A0 c0 l0 hr0 hc0 h1 h2 k g (.slice none 0 0) [] 0 0 l0.length 0 r W hg hB hb (Kd.S_nil _ _ _ _ _) (Nat.zero_le _) (Nat.le_refl _) (by omega) (by omega) (by omega) (by omega) (by simp) h3


end Go.Proofs.Ytpennfkjfeipcaa.PFnBoxesOne
