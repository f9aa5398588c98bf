/- The functions that the law reaches, as Lean functions, each with the proof that the Go code comes to just these answers. Written by a program of this session (wip/tools/handprint.py over the kit's print); by hand where the print takes no such text. -/
-- squeezed
import Derived.Test.YtpennfkjfeipcaaPFnBoxesOnex0
import Derived.Test.YtpennfkjfeipcaaPFnBoxesOnex2
import Derived.Test.YtpennfkjfeipcaaPFnBoxesOnex3
namespace Go.Proofs.Ytpennfkjfeipcaa.PFnBoxesOne
open Go.RowKit Go.Proofs.YtpennfkjfeipcaaW.PrintWords Go.Proofs.YtpennfkjfeipcaaW.PrintLast Go.Proofs.YtpennfkjfeipcaaW.PrintMore
attribute [local go_sem] max2_int min2_int max_two min_two max_three min_three max_four min_four   -- for this text's walks alone
set_option linter.unusedVariables false
set_option linter.unusedSimpArgs false

theorem u7e {p : Prop} (h : p) : Aside0 p := Aside0.mk h
-- short names
theorem u7a : type_of% @List.setIfInBounds_toArray := @List.setIfInBounds_toArray
theorem u7b : type_of% @List.set_cons_zero := @List.set_cons_zero
theorem u7c : type_of% @List.set_cons_succ := @List.set_cons_succ
/-! ### impl_boxReader_read: function 51 -/
-- roots loop.example/g00066/spec.l2Kind loop.example/g00066/spec.l2Holds loop.example/g00066/impl.kindOk loop.example/g00066/impl.isLetter loop.example/g00066/impl.isDigit (loop.example/g00066/impl.Box).holds
set_option maxHeartbeats 8000000 in
set_option maxRecDepth 100000 in
theorem read_rdr (w0 : World) (Ab : Option Addr) (cb : Nat) (bs : List Int) (hC0 : Kd.C (Kd.int .u8) w0 Ab bs.length bs) (hcb : bs.length ≤ cb) (hbl : bs.length ≤ 1000000) (hbs : ∀ x ∈ bs, 0 ≤ x ∧ x ≤ 255) :
  ∀ (k : Nat) (g : Nat) (vo : Value) (boxes : List S46) (data : Int) (p en : Nat) (depth : Int) (r : List S46 × Int × Int × Int) (w : World) (hg0 : w0.heap.size ≤ g) (hB : Below w0.heap.size w0 w) (hg : w.heap[g]? = some (.cells #[.slice Ab bs.length cb, vo, .int .i64 data, .int .i64 0, .int .i64 0] 56 (0, 0))) (hO : Kd.S k46 46 w w0.heap.size (fun k_ => k_ ≠ g) vo boxes) (hp : p ≤ bs.length) (hen : en ≤ bs.length) (hd0 : 0 ≤ depth) (hd1 : depth ≤ 9) (hx0 : 0 ≤ data) (hx1 : data ≤ 20000) (hl : boxes.length ≤ 200) (h : rdr k bs boxes data p en depth = some r),
  Calls Try.prog 51 #[.pointer (some ⟨g, 0, none⟩), .int .i64 (p : Int), .int .i64 (en : Int), .int .i64 depth] w (RdEndB w0 g Ab bs.length cb r) := by
 have HC0 := u7e hC0
 have HCB := u7e hcb
 have HBL := u7e hbl
 have HBS := u7e hbs
 clear hC0 hcb hbl hbs
 intro k
 induction k using Nat.strongRecOn with
 | ind k ih =>
 intro g vo boxes data p en depth r w hg0 hB hg hO hp hen hd0 hd1 hx0 hx1 hl h
 have hu29 := Try.underlying29
 have hu46 := Try.underlying46
 have HG0 := u7e hg0
 have HB := u7e hB
 have HG := u7e hg
 have HO := u7e hO
 have HEN := u7e hen
 have HD := u7e (And.intro hd0 hd1)
 have HX := u7e (And.intro hp (And.intro hx0 (And.intro hx1 hl)))
 have H' := u7e h
 clear hg0 hB hg hO hp hen hd0 hd1 hx0 hx1 hl h
 go_enter Try.func51, Try.ntmps51
 go_wp2
 go_loopg [1] k (fun kq v1 w' => ∃ (boxes : List S46) (data : Int) (vo : Value) (p : Nat), v1 = .int .i64 (p : Int) ∧ Aside0 (rdr kq bs boxes data p en depth = some r) ∧ Aside0 (kq ≤ k) ∧ Aside0 (w'.heap[g]? = some (.cells #[.slice Ab bs.length cb, vo, .int .i64 data, .int .i64 0, .int .i64 0] 56 (0, 0))) ∧ Aside0 (Kd.S k46 46 w' w0.heap.size (fun k_ => k_ ≠ g) vo boxes) ∧ Aside0 (Below w0.heap.size w0 w') ∧ Aside0 (p ≤ bs.length ∧ 0 ≤ data ∧ data ≤ 20000 ∧ boxes.length ≤ 200))
 case atStart => exact ⟨boxes, data, vo, p, rfl, H', ⟨Nat.le_refl _⟩, HG, HO, HB, HX⟩
 case round =>
  clear HB HG HO HX H'
  obtain ⟨boxes, data, vo, p, rfl, HA, HK, HG, HO, HB, HX⟩ := hrel
  obtain ⟨Ao, co, eo⟩ := Kd.S_slice HO.out
  subst eo
  have hc0 : wr.cell? ⟨g, 0, none⟩ = some (.slice Ab bs.length cb) := (blk_cell HG.out 0).trans rfl
  have hc1 : wr.cell? ⟨g, 1, none⟩ = some (.slice Ao boxes.length co) := (blk_cell HG.out 1).trans rfl
  have hc2 : wr.cell? ⟨g, 2, none⟩ = some (.int .i64 data) := (blk_cell HG.out 2).trans rfl
  have hc3 : wr.cell? ⟨g, 3, none⟩ = some (.int .i64 0) := (blk_cell HG.out 3).trans rfl
  have HR := HA.out
  clear HA
  cases gk with
  | zero => exact absurd HR (by simp [rdr])
  | succ k1 =>
   simp only [rdr] at HR
   by_cases c1 : p < en
   case neg =>
    rw [if_neg c1] at HR
    obtain rfl := Option.some.inj HR
    have c1b : decide (p < en) = false := decide_eq_false c1
    clear c1 HR
    go_wp2
    go_ret
    exact ⟨rfl, _, HG.out, HO.out, HB.out⟩
   rw [if_pos c1] at HR
   have c1b : decide (p < en) = true := decide_eq_true c1
   have C1 := u7e c1
   obtain ⟨m, hm⟩ : ∃ m : Nat, m = en - p := ⟨_, rfl⟩
   have HM := u7e hm
   have Hwm_ : Aside0 (wrap64 ((en : Int) - (p : Int)) = (m : Int) ∧ IntKind.i64.wrap ((en : Int) - (p : Int)) = (m : Int)) := by
    have h_ : wrap64 ((en : Int) - (p : Int)) = (m : Int) := by have := HBL.out; have := HEN.out; unfold wrap64; omega
    exact ⟨⟨h_, (i64_w _).trans h_⟩⟩
   clear c1 hm
   by_cases c2 : en < p + 8
   case pos =>
    rw [if_pos c2] at HR
    obtain rfl := Option.some.inj HR
    have C2b0_ : Aside0 (decide ((m : Int) < 8) = true) := ⟨decide_eq_true (by have := HM.out; omega)⟩
    have C2b1_ : Aside0 (decide (m < 8) = true) := ⟨decide_eq_true (by have := HM.out; omega)⟩
    clear c2 HR
    have hwm := Hwm_.out.1
    have hwm' := Hwm_.out.2
    have c2b0 := C2b0_.out
    have c2b1 := C2b1_.out
    go_wp2_with (first | ((with_reducible refine gate_callee (f := 61) rfl ?_); refine goesL_ (some 22) rfl rfl Try.func61 (by kernel_rfl) rfl #[.pointer (some ⟨g, 0, none⟩), .int .i64 2, .int .i64 (p : Int)] rfl (by (try simp only [List.map_toArray, List.map_cons, List.map_nil]); first | done | rfl) ?_; (refine (impl_fail.calls g _ _ _ _ _ 2 (p : Int) _ (by exact HG.out)).mono ?_); rintro e_ W9_ ⟨rfl, h1_, h2_, h3_⟩; refine ⟨_, rfl, ?_⟩; have H1 := u7e h1_; have H2 := u7e (Kd.S_step (Kd.S_step HO.out (fun _ _ _ => rfl)) (fun k_ hk_ _ => h2_ k_ hk_)); have H3 := u7e (h3_ _ _ HG0.out (Below.mk HB.out.os HB.out.tape HB.out.output HB.out.size HB.out.block)); clear h1_ h2_ h3_))
    go_ret
    exact ⟨rfl, _, H1.out, H2.out, H3.out⟩
   rw [if_neg c2] at HR
   have C2b0_ : Aside0 (decide ((m : Int) < 8) = false) := ⟨decide_eq_false (by have := HM.out; have := C1.out; omega)⟩
   have C2b1_ : Aside0 (decide (m < 8) = false) := ⟨decide_eq_false (by have := HM.out; have := C1.out; omega)⟩
   have C2 := u7e c2
   clear c2
   obtain ⟨ad, rfl, hcell⟩ := bytes_at HC0.out HB.out (by have := C1.out; have := HEN.out; omega)
   obtain ⟨ad2, had2⟩ : ∃ a : Addr, ad.add p = a := ⟨_, rfl⟩
   obtain ⟨hl, hhl⟩ : ∃ n : Nat, bs.length - p = n := ⟨_, rfl⟩
   obtain ⟨hc, hhc⟩ : ∃ n : Nat, cb - p = n := ⟨_, rfl⟩
   have HHL := u7e hhl
   have HHC := u7e hhc
   have hb0 : wr.cell? (ad2.add 0) = some (.int .u8 (rd bs ((p + 0 : Nat) : Int))) := by rw [← had2, add_add_]; exact hcell (p + 0) (by have := C2.out; have := HEN.out; have := HCB.out; omega)
   have hb1 : wr.cell? (ad2.add 1) = some (.int .u8 (rd bs ((p + 1 : Nat) : Int))) := by rw [← had2, add_add_]; exact hcell (p + 1) (by have := C2.out; have := HEN.out; have := HCB.out; omega)
   have hb2 : wr.cell? (ad2.add 2) = some (.int .u8 (rd bs ((p + 2 : Nat) : Int))) := by rw [← had2, add_add_]; exact hcell (p + 2) (by have := C2.out; have := HEN.out; have := HCB.out; omega)
   have hb3 : wr.cell? (ad2.add 3) = some (.int .u8 (rd bs ((p + 3 : Nat) : Int))) := by rw [← had2, add_add_]; exact hcell (p + 3) (by have := C2.out; have := HEN.out; have := HCB.out; omega)
   have hb0z : wr.cell? ad2 = some (.int .u8 (rd bs ((p + 0 : Nat) : Int))) := by have h_ := hb0; rw [add_zero_] at h_; exact h_
   have hb1z : wr.cell? ⟨ad2.block, ad2.off + 1, none⟩ = some (.int .u8 (rd bs ((p + 1 : Nat) : Int))) := by have h_ := hb1; rw [add_pos_ _ _ (by decide)] at h_; exact h_
   have hb2z : wr.cell? ⟨ad2.block, ad2.off + 2, none⟩ = some (.int .u8 (rd bs ((p + 2 : Nat) : Int))) := by have h_ := hb2; rw [add_pos_ _ _ (by decide)] at h_; exact h_
   have hb3z : wr.cell? ⟨ad2.block, ad2.off + 3, none⟩ = some (.int .u8 (rd bs ((p + 3 : Nat) : Int))) := by have h_ := hb3; rw [add_pos_ _ _ (by decide)] at h_; exact h_
   have HAD2 := u7e had2
   have S0_ : Aside0 ((p ≤ bs.length) = True) := ⟨eq_true (by have := C2.out; have := HEN.out; have := HCB.out; omega)⟩
   have S0C_ : Aside0 ((p ≤ cb) = True) := ⟨eq_true (by have := C2.out; have := HEN.out; have := HCB.out; omega)⟩
   have S3_ : Aside0 ((cb = p) = False) := ⟨eq_false (by have := C2.out; have := HEN.out; have := HCB.out; omega)⟩
   have S3p_ : Aside0 ((hc = 4) = False) := ⟨eq_false (by have := C2.out; have := HEN.out; have := HCB.out; omega)⟩
   have S1_ : Aside0 ((8 ≤ hc) = True) := ⟨eq_true (by have := C2.out; have := HEN.out; have := HCB.out; omega)⟩
   have S1I_ : Aside0 (((8 : Int) ≤ (hc : Int)) = True) := ⟨eq_true (by have := C2.out; have := HEN.out; have := HCB.out; omega)⟩
   have S1J_ : Aside0 (((8 : Int) ≤ (hl : Int)) = True) := ⟨eq_true (by have := C2.out; have := HEN.out; have := HCB.out; omega)⟩
   have S1B_ : Aside0 ((8 ≤ hl) = True) := ⟨eq_true (by have := C2.out; have := HEN.out; have := HCB.out; omega)⟩
   have QN0_ : Aside0 ((0 < hl) = True) := ⟨eq_true (by have := C2.out; have := HEN.out; have := HCB.out; omega)⟩
   have QI0_ : Aside0 (((0 : Int) < (hl : Int)) = True) := ⟨eq_true (by have := C2.out; have := HEN.out; have := HCB.out; omega)⟩
   have QN1_ : Aside0 ((1 < hl) = True) := ⟨eq_true (by have := C2.out; have := HEN.out; have := HCB.out; omega)⟩
   have QI1_ : Aside0 (((1 : Int) < (hl : Int)) = True) := ⟨eq_true (by have := C2.out; have := HEN.out; have := HCB.out; omega)⟩
   have QN2_ : Aside0 ((2 < hl) = True) := ⟨eq_true (by have := C2.out; have := HEN.out; have := HCB.out; omega)⟩
   have QI2_ : Aside0 (((2 : Int) < (hl : Int)) = True) := ⟨eq_true (by have := C2.out; have := HEN.out; have := HCB.out; omega)⟩
   have QN3_ : Aside0 ((3 < hl) = True) := ⟨eq_true (by have := C2.out; have := HEN.out; have := HCB.out; omega)⟩
   have QI3_ : Aside0 (((3 : Int) < (hl : Int)) = True) := ⟨eq_true (by have := C2.out; have := HEN.out; have := HCB.out; omega)⟩
   have HY0 := u7e (rd_byte HBS.out (p + 0) (by have := C2.out; have := HEN.out; have := HCB.out; omega))
   have HY1 := u7e (rd_byte HBS.out (p + 1) (by have := C2.out; have := HEN.out; have := HCB.out; omega))
   have HY2 := u7e (rd_byte HBS.out (p + 2) (by have := C2.out; have := HEN.out; have := HCB.out; omega))
   have HY3 := u7e (rd_byte HBS.out (p + 3) (by have := C2.out; have := HEN.out; have := HCB.out; omega))
   have HN0 := u7e (show sz4 bs p = rd bs ((p + 0 : Nat) : Int) * 16777216 + rd bs ((p + 1 : Nat) : Int) * 65536 + rd bs ((p + 2 : Nat) : Int) * 256 + rd bs ((p + 3 : Nat) : Int) from rfl)
   have hbc := Kd.C_mid (c := cb) (lo := p + 4) (hi := p + 8) (Kd.C_below HC0.out HB.out) (by omega) (by have := C2.out; have := HEN.out; have := HCB.out; omega) HCB.out
   rw [if_neg (by have := C2.out; have := HEN.out; have := HCB.out; omega), show ((bs.take (p + 8)).drop (p + 4)).length = 4 by rw [List.length_drop, List.length_take]; have := C2.out; have := HEN.out; have := HCB.out; omega] at hbc
   obtain ⟨s, hs⟩ : ∃ s : ByteArray, s = kd4 bs p := ⟨_, rfl⟩
   have hbc2 : Kd.C (Kd.int .u8) wr (some ⟨ad2.block, ad2.off + 4, none⟩) 4 ((bs.take (p + 8)).drop (p + 4)) := by rw [← add_pos_ ad2 4 (by decide), ← had2, add_add_]; simpa [Kd.int, Kd.scalar] using hbc
   have HCONV : Aside0 (∀ n_ : Nat, (convert 29 9 (.slice (some ⟨ad2.block, ad2.off + 4, none⟩) 4 (hc - 4))).run Try.prog (wr.drewN n_) = .ok (.string s) (wr.drewN n_)) := ⟨fun n_ => by rw [hs]; unfold kd4; exact conv_C Try.underlying29 Try.underlying5 Try.underlying9 (Kd.C_drewN hbc2 n_)⟩
   obtain ⟨n, hn⟩ : ∃ n : Nat, sz4 bs p = (n : Int) := ⟨(sz4 bs p).toNat, by have := HN0.out; have := HY0.out; have := HY1.out; have := HY2.out; have := HY3.out; omega⟩
   rw [hn, Int.toNat_natCast, ← hs] at HR
   rw [hn] at HN0
   generalize rd bs ((p + 0 : Nat) : Int) = y0 at hb0 hb0z HY0 HN0
   generalize rd bs ((p + 1 : Nat) : Int) = y1 at hb1 hb1z HY1 HN0
   generalize rd bs ((p + 2 : Nat) : Int) = y2 at hb2 hb2z HY2 HN0
   generalize rd bs ((p + 3 : Nat) : Int) = y3 at hb3 hb3z HY3 HN0
   have Hy0_ : Aside0 (wrap64 (y0) = y0 ∧ IntKind.i64.wrap (y0) = y0) := by
    have h_ : wrap64 (y0) = y0 := by have := HY0.out; have := HY1.out; have := HY2.out; have := HY3.out; unfold wrap64; omega
    exact ⟨⟨h_, (i64_w _).trans h_⟩⟩
   have Hy1_ : Aside0 (wrap64 (y1) = y1 ∧ IntKind.i64.wrap (y1) = y1) := by
    have h_ : wrap64 (y1) = y1 := by have := HY0.out; have := HY1.out; have := HY2.out; have := HY3.out; unfold wrap64; omega
    exact ⟨⟨h_, (i64_w _).trans h_⟩⟩
   have Hy2_ : Aside0 (wrap64 (y2) = y2 ∧ IntKind.i64.wrap (y2) = y2) := by
    have h_ : wrap64 (y2) = y2 := by have := HY0.out; have := HY1.out; have := HY2.out; have := HY3.out; unfold wrap64; omega
    exact ⟨⟨h_, (i64_w _).trans h_⟩⟩
   have Hy3_ : Aside0 (wrap64 (y3) = y3 ∧ IntKind.i64.wrap (y3) = y3) := by
    have h_ : wrap64 (y3) = y3 := by have := HY0.out; have := HY1.out; have := HY2.out; have := HY3.out; unfold wrap64; omega
    exact ⟨⟨h_, (i64_w _).trans h_⟩⟩
   obtain ⟨z0, hz0⟩ : ∃ z : Int, z = y0 * 16777216 := ⟨_, rfl⟩
   obtain ⟨z1, hz1⟩ : ∃ z : Int, z = y1 * 65536 := ⟨_, rfl⟩
   obtain ⟨z2, hz2⟩ : ∃ z : Int, z = y2 * 256 := ⟨_, rfl⟩
   obtain ⟨u1, hu1⟩ : ∃ z : Int, z = z0 + z1 := ⟨_, rfl⟩
   obtain ⟨u2, hu2⟩ : ∃ z : Int, z = u1 + z2 := ⟨_, rfl⟩
   have Hm0_ : Aside0 (wrap64 (y0 * 16777216) = z0 ∧ IntKind.i64.wrap (y0 * 16777216) = z0) := by
    have h_ : wrap64 (y0 * 16777216) = z0 := by have := HY0.out; have := HY1.out; have := HY2.out; have := HY3.out; unfold wrap64; omega
    exact ⟨⟨h_, (i64_w _).trans h_⟩⟩
   have Hmp0_ : Aside0 (wrap64 (y0 * 2 ^ 24) = z0 ∧ IntKind.i64.wrap (y0 * 2 ^ 24) = z0) := by
    have h_ : wrap64 (y0 * 2 ^ 24) = z0 := by rw [show (2 : Int) ^ 24 = 16777216 from rfl]; exact Hm0_.out.1
    exact ⟨⟨h_, (i64_w _).trans h_⟩⟩
   have Hm1_ : Aside0 (wrap64 (y1 * 65536) = z1 ∧ IntKind.i64.wrap (y1 * 65536) = z1) := by
    have h_ : wrap64 (y1 * 65536) = z1 := by have := HY0.out; have := HY1.out; have := HY2.out; have := HY3.out; unfold wrap64; omega
    exact ⟨⟨h_, (i64_w _).trans h_⟩⟩
   have Hmp1_ : Aside0 (wrap64 (y1 * 2 ^ 16) = z1 ∧ IntKind.i64.wrap (y1 * 2 ^ 16) = z1) := by
    have h_ : wrap64 (y1 * 2 ^ 16) = z1 := by rw [show (2 : Int) ^ 16 = 65536 from rfl]; exact Hm1_.out.1
    exact ⟨⟨h_, (i64_w _).trans h_⟩⟩
   have Hm2_ : Aside0 (wrap64 (y2 * 256) = z2 ∧ IntKind.i64.wrap (y2 * 256) = z2) := by
    have h_ : wrap64 (y2 * 256) = z2 := by have := HY0.out; have := HY1.out; have := HY2.out; have := HY3.out; unfold wrap64; omega
    exact ⟨⟨h_, (i64_w _).trans h_⟩⟩
   have Hmp2_ : Aside0 (wrap64 (y2 * 2 ^ 8) = z2 ∧ IntKind.i64.wrap (y2 * 2 ^ 8) = z2) := by
    have h_ : wrap64 (y2 * 2 ^ 8) = z2 := by rw [show (2 : Int) ^ 8 = 256 from rfl]; exact Hm2_.out.1
    exact ⟨⟨h_, (i64_w _).trans h_⟩⟩
   have HO1_ : Aside0 (Go.bits .or .i64 z0 z1 = u1) := ⟨by rw [hu1, hz0]; exact or_low y0 z1 24 (by have := HY0.out; omega) (by have := HY0.out; omega) (by have := HY1.out; omega) (by have := HY1.out; omega) (by have := HY1.out; omega)⟩
   have HO2_ : Aside0 (Go.bits .or .i64 u1 z2 = u2) := ⟨by rw [hu2, hu1, hz0, hz1, show y0 * 16777216 + y1 * 65536 = (y0 * 256 + y1) * 2 ^ 16 by rw [show (2 : Int) ^ 16 = 65536 from rfl]; omega]; exact or_low (y0 * 256 + y1) z2 16 (by have := HY0.out; have := HY1.out; have := HY2.out; have := HY3.out; omega) (by have := HY0.out; have := HY1.out; have := HY2.out; have := HY3.out; omega) (by have := HY0.out; have := HY1.out; have := HY2.out; have := HY3.out; omega) (by have := HY0.out; have := HY1.out; have := HY2.out; have := HY3.out; omega) (by have := HY0.out; have := HY1.out; have := HY2.out; have := HY3.out; omega)⟩
   have HO3_ : Aside0 (Go.bits .or .i64 u2 y3 = (n : Int)) := ⟨by rw [hu2, hu1, hz0, hz1, hz2, show y0 * 16777216 + y1 * 65536 + y2 * 256 = (y0 * 65536 + y1 * 256 + y2) * 2 ^ 8 by rw [show (2 : Int) ^ 8 = 256 from rfl]; omega]; rw [or_low (y0 * 65536 + y1 * 256 + y2) y3 8 (by have := HY0.out; have := HY1.out; have := HY2.out; have := HY3.out; omega) (by have := HY0.out; have := HY1.out; have := HY2.out; have := HY3.out; omega) (by have := HY0.out; have := HY1.out; have := HY2.out; have := HY3.out; omega) (by have := HY0.out; have := HY1.out; have := HY2.out; have := HY3.out; omega) (by have := HY0.out; have := HY1.out; have := HY2.out; have := HY3.out; omega), show (2 : Int) ^ 8 = 256 from rfl]; have := HN0.out; omega⟩
   have HNB : Aside0 (n ≤ 4294967296) := ⟨by have := HN0.out; have := HY0.out; have := HY1.out; have := HY2.out; have := HY3.out; omega⟩
   have HS := u7e hs
   clear hz0 hz1 hz2 hu1 hu2 hn hs hbc hbc2 hcell had2 hhl hhc HY0 HY1 HY2 HY3 HN0
   by_cases c3 : (n : Int) < 8
   case pos =>
    rw [if_pos c3] at HR
    obtain rfl := Option.some.inj HR
    have C3b0_ : Aside0 (decide ((n : Int) < 8) = true) := ⟨decide_eq_true (by skip; omega)⟩
    have C3b1_ : Aside0 (decide (n < 8) = true) := ⟨decide_eq_true (by skip; omega)⟩
    clear c3 HR
    have hwm := Hwm_.out.1
    have hwm' := Hwm_.out.2
    have c2b0 := C2b0_.out
    have c2b1 := C2b1_.out
    have s0 := S0_.out
    have s0c := S0C_.out
    have s1 := S1_.out
    have s1i := S1I_.out
    have s1j := S1J_.out
    have s1b := S1B_.out
    have s3 := S3_.out
    have s3p := S3p_.out
    have had2 := HAD2.out
    have hhl := HHL.out
    have hhc := HHC.out
    have qn0 := QN0_.out
    have qi0 := QI0_.out
    have qn1 := QN1_.out
    have qi1 := QI1_.out
    have qn2 := QN2_.out
    have qi2 := QI2_.out
    have qn3 := QN3_.out
    have qi3 := QI3_.out
    have hconv := HCONV.out
    have hy0 := Hy0_.out.1
    have hy0' := Hy0_.out.2
    have hy1 := Hy1_.out.1
    have hy1' := Hy1_.out.2
    have hy2 := Hy2_.out.1
    have hy2' := Hy2_.out.2
    have hy3 := Hy3_.out.1
    have hy3' := Hy3_.out.2
    have hm0 := Hm0_.out.1
    have hm0' := Hm0_.out.2
    have hmp0 := Hmp0_.out.1
    have hmp0' := Hmp0_.out.2
    have hm1 := Hm1_.out.1
    have hm1' := Hm1_.out.2
    have hmp1 := Hmp1_.out.1
    have hmp1' := Hmp1_.out.2
    have hm2 := Hm2_.out.1
    have hm2' := Hm2_.out.2
    have hmp2 := Hmp2_.out.1
    have hmp2' := Hmp2_.out.2
    have ho1 := HO1_.out
    have ho2 := HO2_.out
    have ho3 := HO3_.out
    have c3b0 := C3b0_.out
    have c3b1 := C3b1_.out
    go_wp2_with (first | ((with_reducible refine gate_callee (f := 61) rfl ?_); refine goesL_ (some 65) rfl rfl Try.func61 (by kernel_rfl) rfl #[.pointer (some ⟨g, 0, none⟩), .int .i64 3, .int .i64 (p : Int)] rfl (by (try simp only [List.map_toArray, List.map_cons, List.map_nil]); first | done | rfl) ?_; (refine (impl_fail.calls g _ _ _ _ _ 3 (p : Int) _ (by exact HG.out)).mono ?_); rintro e_ W9_ ⟨rfl, h1_, h2_, h3_⟩; refine ⟨_, rfl, ?_⟩; have H1 := u7e h1_; have H2 := u7e (Kd.S_step (Kd.S_step HO.out (fun _ _ _ => rfl)) (fun k_ hk_ _ => h2_ k_ hk_)); have H3 := u7e (h3_ _ _ HG0.out (Below.mk HB.out.os HB.out.tape HB.out.output HB.out.size HB.out.block)); clear h1_ h2_ h3_))
    go_quiet (fail)
    go_wp2_with (first | ((with_reducible refine gate_callee (f := 61) rfl ?_); refine goesL_ (some 65) rfl rfl Try.func61 (by kernel_rfl) rfl #[.pointer (some ⟨g, 0, none⟩), .int .i64 3, .int .i64 (p : Int)] rfl (by (try simp only [List.map_toArray, List.map_cons, List.map_nil]); first | done | rfl) ?_; (refine (impl_fail.calls g _ _ _ _ _ 3 (p : Int) _ (by exact HG.out)).mono ?_); rintro e_ W9_ ⟨rfl, h1_, h2_, h3_⟩; refine ⟨_, rfl, ?_⟩; have H1 := u7e h1_; have H2 := u7e (Kd.S_step (Kd.S_step HO.out (fun _ _ _ => rfl)) (fun k_ hk_ _ => h2_ k_ hk_)); have H3 := u7e (h3_ _ _ HG0.out (Below.mk HB.out.os HB.out.tape HB.out.output HB.out.size HB.out.block)); clear h1_ h2_ h3_))
    go_ret
    exact ⟨rfl, _, H1.out, H2.out, H3.out⟩
   rw [if_neg c3] at HR
   have C3b0_ : Aside0 (decide ((n : Int) < 8) = false) := ⟨decide_eq_false (by skip; omega)⟩
   have C3b1_ : Aside0 (decide (n < 8) = false) := ⟨decide_eq_false (by skip; omega)⟩
   have C3 := u7e c3
   clear c3
   rw [← HM.out] at HR
   by_cases c4 : (m : Int) < (n : Int)
   case pos =>
    rw [if_pos c4] at HR
    obtain rfl := Option.some.inj HR
    have C4b0_ : Aside0 (decide ((m : Int) < (n : Int)) = true) := ⟨decide_eq_true (by skip; omega)⟩
    have C4b1_ : Aside0 (decide (m < n) = true) := ⟨decide_eq_true (by skip; omega)⟩
    clear c4 HR
    have hwm := Hwm_.out.1
    have hwm' := Hwm_.out.2
    have c2b0 := C2b0_.out
    have c2b1 := C2b1_.out
    have s0 := S0_.out
    have s0c := S0C_.out
    have s1 := S1_.out
    have s1i := S1I_.out
    have s1j := S1J_.out
    have s1b := S1B_.out
    have s3 := S3_.out
    have s3p := S3p_.out
    have had2 := HAD2.out
    have hhl := HHL.out
    have hhc := HHC.out
    have qn0 := QN0_.out
    have qi0 := QI0_.out
    have qn1 := QN1_.out
    have qi1 := QI1_.out
    have qn2 := QN2_.out
    have qi2 := QI2_.out
    have qn3 := QN3_.out
    have qi3 := QI3_.out
    have hconv := HCONV.out
    have hy0 := Hy0_.out.1
    have hy0' := Hy0_.out.2
    have hy1 := Hy1_.out.1
    have hy1' := Hy1_.out.2
    have hy2 := Hy2_.out.1
    have hy2' := Hy2_.out.2
    have hy3 := Hy3_.out.1
    have hy3' := Hy3_.out.2
    have hm0 := Hm0_.out.1
    have hm0' := Hm0_.out.2
    have hmp0 := Hmp0_.out.1
    have hmp0' := Hmp0_.out.2
    have hm1 := Hm1_.out.1
    have hm1' := Hm1_.out.2
    have hmp1 := Hmp1_.out.1
    have hmp1' := Hmp1_.out.2
    have hm2 := Hm2_.out.1
    have hm2' := Hm2_.out.2
    have hmp2 := Hmp2_.out.1
    have hmp2' := Hmp2_.out.2
    have ho1 := HO1_.out
    have ho2 := HO2_.out
    have ho3 := HO3_.out
    have c3b0 := C3b0_.out
    have c3b1 := C3b1_.out
    have c4b0 := C4b0_.out
    have c4b1 := C4b1_.out
    go_wp2_with (first | ((with_reducible refine gate_callee (f := 61) rfl ?_); refine goesL_ (some 65) rfl rfl Try.func61 (by kernel_rfl) rfl #[.pointer (some ⟨g, 0, none⟩), .int .i64 3, .int .i64 (p : Int)] rfl (by (try simp only [List.map_toArray, List.map_cons, List.map_nil]); first | done | rfl) ?_; (refine (impl_fail.calls g _ _ _ _ _ 3 (p : Int) _ (by exact HG.out)).mono ?_); rintro e_ W9_ ⟨rfl, h1_, h2_, h3_⟩; refine ⟨_, rfl, ?_⟩; have H1 := u7e h1_; have H2 := u7e (Kd.S_step (Kd.S_step HO.out (fun _ _ _ => rfl)) (fun k_ hk_ _ => h2_ k_ hk_)); have H3 := u7e (h3_ _ _ HG0.out (Below.mk HB.out.os HB.out.tape HB.out.output HB.out.size HB.out.block)); clear h1_ h2_ h3_))
    go_quiet (fail)
    go_wp2_with (first | ((with_reducible refine gate_callee (f := 61) rfl ?_); refine goesL_ (some 65) rfl rfl Try.func61 (by kernel_rfl) rfl #[.pointer (some ⟨g, 0, none⟩), .int .i64 3, .int .i64 (p : Int)] rfl (by (try simp only [List.map_toArray, List.map_cons, List.map_nil]); first | done | rfl) ?_; (refine (impl_fail.calls g _ _ _ _ _ 3 (p : Int) _ (by exact HG.out)).mono ?_); rintro e_ W9_ ⟨rfl, h1_, h2_, h3_⟩; refine ⟨_, rfl, ?_⟩; have H1 := u7e h1_; have H2 := u7e (Kd.S_step (Kd.S_step HO.out (fun _ _ _ => rfl)) (fun k_ hk_ _ => h2_ k_ hk_)); have H3 := u7e (h3_ _ _ HG0.out (Below.mk HB.out.os HB.out.tape HB.out.output HB.out.size HB.out.block)); clear h1_ h2_ h3_))
    go_ret
    exact ⟨rfl, _, H1.out, H2.out, H3.out⟩
   rw [if_neg c4] at HR
   have C4b0_ : Aside0 (decide ((m : Int) < (n : Int)) = false) := ⟨decide_eq_false (by skip; omega)⟩
   have C4b1_ : Aside0 (decide (m < n) = false) := ⟨decide_eq_false (by skip; omega)⟩
   have C4 := u7e c4
   clear c4
   by_cases c5 : kindB s = true
   case neg =>
    rw [if_neg c5] at HR
    obtain rfl := Option.some.inj HR
    have HKS : Aside0 (impl_kindOk.f 6 s = some false) := ⟨by rw [(kindB_eq s 6 (Nat.le_refl _)).2]; simpa using c5⟩
    clear c5 HR
    have hwm := Hwm_.out.1
    have hwm' := Hwm_.out.2
    have c2b0 := C2b0_.out
    have c2b1 := C2b1_.out
    have s0 := S0_.out
    have s0c := S0C_.out
    have s1 := S1_.out
    have s1i := S1I_.out
    have s1j := S1J_.out
    have s1b := S1B_.out
    have s3 := S3_.out
    have s3p := S3p_.out
    have had2 := HAD2.out
    have hhl := HHL.out
    have hhc := HHC.out
    have qn0 := QN0_.out
    have qi0 := QI0_.out
    have qn1 := QN1_.out
    have qi1 := QI1_.out
    have qn2 := QN2_.out
    have qi2 := QI2_.out
    have qn3 := QN3_.out
    have qi3 := QI3_.out
    have hconv := HCONV.out
    have hy0 := Hy0_.out.1
    have hy0' := Hy0_.out.2
    have hy1 := Hy1_.out.1
    have hy1' := Hy1_.out.2
    have hy2 := Hy2_.out.1
    have hy2' := Hy2_.out.2
    have hy3 := Hy3_.out.1
    have hy3' := Hy3_.out.2
    have hm0 := Hm0_.out.1
    have hm0' := Hm0_.out.2
    have hmp0 := Hmp0_.out.1
    have hmp0' := Hmp0_.out.2
    have hm1 := Hm1_.out.1
    have hm1' := Hm1_.out.2
    have hmp1 := Hmp1_.out.1
    have hmp1' := Hmp1_.out.2
    have hm2 := Hm2_.out.1
    have hm2' := Hm2_.out.2
    have hmp2 := Hmp2_.out.1
    have hmp2' := Hmp2_.out.2
    have ho1 := HO1_.out
    have ho2 := HO2_.out
    have ho3 := HO3_.out
    have c3b0 := C3b0_.out
    have c3b1 := C3b1_.out
    have c4b0 := C4b0_.out
    have c4b1 := C4b1_.out
    go_wp2_with (first | ((with_reducible refine gate_callee (f := 48) rfl ?_); refine goesL_ (some 67) rfl rfl Try.func48 (by kernel_rfl) rfl #[.string s] rfl (by (try simp only [List.map_toArray, List.map_cons, List.map_nil]); first | done | rfl) ?_; (with_reducible refine (impl_kindOk.calls 6 s false _ HKS.out).mono ?_); rintro e_ W1_ ⟨rfl, ⟨nd_, rfl⟩⟩; refine ⟨_, rfl, ?_⟩) | ((with_reducible refine gate_callee (f := 61) rfl ?_); refine goesL_ (some 71) rfl rfl Try.func61 (by kernel_rfl) rfl #[.pointer (some ⟨g, 0, none⟩), .int .i64 4, .int .i64 (p : Int)] rfl (by (try simp only [List.map_toArray, List.map_cons, List.map_nil]); first | done | rfl) ?_; (refine (impl_fail.calls g _ _ _ _ _ 4 (p : Int) _ (by exact HG.out)).mono ?_); rintro e_ W9_ ⟨rfl, h1_, h2_, h3_⟩; refine ⟨_, rfl, ?_⟩; have H1 := u7e h1_; have H2 := u7e (Kd.S_step (Kd.S_step HO.out (fun _ _ _ => rfl)) (fun k_ hk_ _ => h2_ k_ hk_)); have H3 := u7e (h3_ _ _ HG0.out (Below.mk HB.out.os HB.out.tape HB.out.output HB.out.size HB.out.block)); clear h1_ h2_ h3_))
    go_quiet (fail)
    go_wp2_with (first | ((with_reducible refine gate_callee (f := 48) rfl ?_); refine goesL_ (some 67) rfl rfl Try.func48 (by kernel_rfl) rfl #[.string s] rfl (by (try simp only [List.map_toArray, List.map_cons, List.map_nil]); first | done | rfl) ?_; (with_reducible refine (impl_kindOk.calls 6 s false _ HKS.out).mono ?_); rintro e_ W1_ ⟨rfl, ⟨nd_, rfl⟩⟩; refine ⟨_, rfl, ?_⟩) | ((with_reducible refine gate_callee (f := 61) rfl ?_); refine goesL_ (some 71) rfl rfl Try.func61 (by kernel_rfl) rfl #[.pointer (some ⟨g, 0, none⟩), .int .i64 4, .int .i64 (p : Int)] rfl (by (try simp only [List.map_toArray, List.map_cons, List.map_nil]); first | done | rfl) ?_; (refine (impl_fail.calls g _ _ _ _ _ 4 (p : Int) _ (by exact HG.out)).mono ?_); rintro e_ W9_ ⟨rfl, h1_, h2_, h3_⟩; refine ⟨_, rfl, ?_⟩; have H1 := u7e h1_; have H2 := u7e (Kd.S_step (Kd.S_step HO.out (fun _ _ _ => rfl)) (fun k_ hk_ _ => h2_ k_ hk_)); have H3 := u7e (h3_ _ _ HG0.out (Below.mk HB.out.os HB.out.tape HB.out.output HB.out.size HB.out.block)); clear h1_ h2_ h3_))
    go_ret
    exact ⟨rfl, _, H1.out, H2.out, H3.out⟩
   rw [if_pos c5] at HR
   have HKS : Aside0 (impl_kindOk.f 6 s = some true) := ⟨by rw [(kindB_eq s 6 (Nat.le_refl _)).2, c5]⟩
   have HSZ := u7e (kindB_good s c5).1
   clear c5
   by_cases c6 : 8 < depth
   case pos =>
    rw [if_pos c6] at HR
    obtain rfl := Option.some.inj HR
    have C6b0_ : Aside0 (decide (8 < depth) = true) := ⟨decide_eq_true (by skip; omega)⟩
    clear c6 HR
    have hwm := Hwm_.out.1
    have hwm' := Hwm_.out.2
    have c2b0 := C2b0_.out
    have c2b1 := C2b1_.out
    have s0 := S0_.out
    have s0c := S0C_.out
    have s1 := S1_.out
    have s1i := S1I_.out
    have s1j := S1J_.out
    have s1b := S1B_.out
    have s3 := S3_.out
    have s3p := S3p_.out
    have had2 := HAD2.out
    have hhl := HHL.out
    have hhc := HHC.out
    have qn0 := QN0_.out
    have qi0 := QI0_.out
    have qn1 := QN1_.out
    have qi1 := QI1_.out
    have qn2 := QN2_.out
    have qi2 := QI2_.out
    have qn3 := QN3_.out
    have qi3 := QI3_.out
    have hconv := HCONV.out
    have hy0 := Hy0_.out.1
    have hy0' := Hy0_.out.2
    have hy1 := Hy1_.out.1
    have hy1' := Hy1_.out.2
    have hy2 := Hy2_.out.1
    have hy2' := Hy2_.out.2
    have hy3 := Hy3_.out.1
    have hy3' := Hy3_.out.2
    have hm0 := Hm0_.out.1
    have hm0' := Hm0_.out.2
    have hmp0 := Hmp0_.out.1
    have hmp0' := Hmp0_.out.2
    have hm1 := Hm1_.out.1
    have hm1' := Hm1_.out.2
    have hmp1 := Hmp1_.out.1
    have hmp1' := Hmp1_.out.2
    have hm2 := Hm2_.out.1
    have hm2' := Hm2_.out.2
    have hmp2 := Hmp2_.out.1
    have hmp2' := Hmp2_.out.2
    have ho1 := HO1_.out
    have ho2 := HO2_.out
    have ho3 := HO3_.out
    have c3b0 := C3b0_.out
    have c3b1 := C3b1_.out
    have c4b0 := C4b0_.out
    have c4b1 := C4b1_.out
    have c6b0 := C6b0_.out
    go_wp2_with (first | ((with_reducible refine gate_callee (f := 48) rfl ?_); refine goesL_ (some 67) rfl rfl Try.func48 (by kernel_rfl) rfl #[.string s] rfl (by (try simp only [List.map_toArray, List.map_cons, List.map_nil]); first | done | rfl) ?_; (with_reducible refine (impl_kindOk.calls 6 s true _ HKS.out).mono ?_); rintro e_ W1_ ⟨rfl, ⟨nd_, rfl⟩⟩; refine ⟨_, rfl, ?_⟩) | ((with_reducible refine gate_callee (f := 61) rfl ?_); refine goesL_ (some 76) rfl rfl Try.func61 (by kernel_rfl) rfl #[.pointer (some ⟨g, 0, none⟩), .int .i64 5, .int .i64 (p : Int)] rfl (by (try simp only [List.map_toArray, List.map_cons, List.map_nil]); first | done | rfl) ?_; (refine (impl_fail.calls g _ _ _ _ _ 5 (p : Int) _ (by exact HG.out)).mono ?_); rintro e_ W9_ ⟨rfl, h1_, h2_, h3_⟩; refine ⟨_, rfl, ?_⟩; have H1 := u7e h1_; have H2 := u7e (Kd.S_step (Kd.S_step HO.out (fun _ _ _ => rfl)) (fun k_ hk_ _ => h2_ k_ hk_)); have H3 := u7e (h3_ _ _ HG0.out (Below.mk HB.out.os HB.out.tape HB.out.output HB.out.size HB.out.block)); clear h1_ h2_ h3_))
    go_quiet (fail)
    go_wp2_with (first | ((with_reducible refine gate_callee (f := 48) rfl ?_); refine goesL_ (some 67) rfl rfl Try.func48 (by kernel_rfl) rfl #[.string s] rfl (by (try simp only [List.map_toArray, List.map_cons, List.map_nil]); first | done | rfl) ?_; (with_reducible refine (impl_kindOk.calls 6 s true _ HKS.out).mono ?_); rintro e_ W1_ ⟨rfl, ⟨nd_, rfl⟩⟩; refine ⟨_, rfl, ?_⟩) | ((with_reducible refine gate_callee (f := 61) rfl ?_); refine goesL_ (some 76) rfl rfl Try.func61 (by kernel_rfl) rfl #[.pointer (some ⟨g, 0, none⟩), .int .i64 5, .int .i64 (p : Int)] rfl (by (try simp only [List.map_toArray, List.map_cons, List.map_nil]); first | done | rfl) ?_; (refine (impl_fail.calls g _ _ _ _ _ 5 (p : Int) _ (by exact HG.out)).mono ?_); rintro e_ W9_ ⟨rfl, h1_, h2_, h3_⟩; refine ⟨_, rfl, ?_⟩; have H1 := u7e h1_; have H2 := u7e (Kd.S_step (Kd.S_step HO.out (fun _ _ _ => rfl)) (fun k_ hk_ _ => h2_ k_ hk_)); have H3 := u7e (h3_ _ _ HG0.out (Below.mk HB.out.os HB.out.tape HB.out.output HB.out.size HB.out.block)); clear h1_ h2_ h3_))
    go_ret
    exact ⟨rfl, _, H1.out, H2.out, H3.out⟩
   rw [if_neg c6] at HR
   have C6b0_ : Aside0 (decide (8 < depth) = false) := ⟨decide_eq_false (by skip; omega)⟩
   have C6 := u7e c6
   clear c6
   by_cases c7 : boxes.length = 200
   case pos =>
    rw [if_pos c7] at HR
    obtain rfl := Option.some.inj HR
    have C7 := u7e c7
    clear c7 HR
    have C7b0_ : Aside0 (decide ((200 : Int) ≤ (boxes.length : Int)) = true) := ⟨decide_eq_true (by have := C7.out; omega)⟩
    have C7b1_ : Aside0 (decide (200 ≤ boxes.length) = true) := ⟨decide_eq_true (by have := C7.out; omega)⟩
    by_cases c8 : r_hold s = true
    case pos =>
     have HH : Aside0 (impl_Box_holds.f s depth [] = some true) := ⟨by rw [r_hold_i s depth [] HSZ.out, c8]⟩
     clear c8
     have hwm := Hwm_.out.1
     have hwm' := Hwm_.out.2
     have c2b0 := C2b0_.out
     have c2b1 := C2b1_.out
     have s0 := S0_.out
     have s0c := S0C_.out
     have s1 := S1_.out
     have s1i := S1I_.out
     have s1j := S1J_.out
     have s1b := S1B_.out
     have s3 := S3_.out
     have s3p := S3p_.out
     have had2 := HAD2.out
     have hhl := HHL.out
     have hhc := HHC.out
     have qn0 := QN0_.out
     have qi0 := QI0_.out
     have qn1 := QN1_.out
     have qi1 := QI1_.out
     have qn2 := QN2_.out
     have qi2 := QI2_.out
     have qn3 := QN3_.out
     have qi3 := QI3_.out
     have hconv := HCONV.out
     have hy0 := Hy0_.out.1
     have hy0' := Hy0_.out.2
     have hy1 := Hy1_.out.1
     have hy1' := Hy1_.out.2
     have hy2 := Hy2_.out.1
     have hy2' := Hy2_.out.2
     have hy3 := Hy3_.out.1
     have hy3' := Hy3_.out.2
     have hm0 := Hm0_.out.1
     have hm0' := Hm0_.out.2
     have hmp0 := Hmp0_.out.1
     have hmp0' := Hmp0_.out.2
     have hm1 := Hm1_.out.1
     have hm1' := Hm1_.out.2
     have hmp1 := Hmp1_.out.1
     have hmp1' := Hmp1_.out.2
     have hm2 := Hm2_.out.1
     have hm2' := Hm2_.out.2
     have hmp2 := Hmp2_.out.1
     have hmp2' := Hmp2_.out.2
     have ho1 := HO1_.out
     have ho2 := HO2_.out
     have ho3 := HO3_.out
     have c3b0 := C3b0_.out
     have c3b1 := C3b1_.out
     have c4b0 := C4b0_.out
     have c4b1 := C4b1_.out
     have c6b0 := C6b0_.out
     have c7b0 := C7b0_.out
     have c7b1 := C7b1_.out
     go_wp2_with (first | ((with_reducible refine gate_callee (f := 48) rfl ?_); refine goesL_ (some 67) rfl rfl Try.func48 (by kernel_rfl) rfl #[.string s] rfl (by (try simp only [List.map_toArray, List.map_cons, List.map_nil]); first | done | rfl) ?_; (with_reducible refine (impl_kindOk.calls 6 s true _ HKS.out).mono ?_); rintro e_ W1_ ⟨rfl, ⟨nd_, rfl⟩⟩; refine ⟨_, rfl, ?_⟩) | ((with_reducible refine gate_dst (N := 12) rfl ?_); refine box_event ?hg (N := 12) ?hd (cs := #[.string (⟨#[]⟩ : ByteArray), .int .i64 0, .slice none 0 0]) (t := 46) ?hr ?_; (case hd => rfl); (case hg => rfl); (case hr => first | (go_simp; done) | (go_simp; rfl)); intro gb hgb_ W13_ hbox_ hb_; have hgb2_ : gb = wr.heap.size := hgb_; have hb2_ : Below wr.heap.size wr W13_ := Below.mk hb_.os hb_.tape hb_.output hb_.size hb_.block; have HBK13 := u7e hbox_; have HGB : Aside0 (g < gb) := ⟨by rw [hgb2_]; exact blk_lt HG.out⟩; have HO13 : Aside0 (Kd.S k46 46 W13_ w0.heap.size (fun k_ => k_ ≠ g ∧ k_ < gb) (.slice Ao boxes.length co) boxes) := ⟨Kd.S_below (Kd.S_mono (Kd.S_bound HO.out) (fun k_ hk_ => ⟨hk_.1, by rw [hgb2_]; exact hk_.2.2.1⟩)) hb2_⟩; have HG13 := u7e (blk_below HG.out hb2_); have HB13 := u7e (below_step HB.out hb2_); clear hgb_ hgb2_ hbox_ hb_ hb2_) | ((with_reducible refine gate_ (.store 46 (.tmp 12) (.tmp 79)) rfl ?_); (refine put_blk_event rfl rfl rfl (g := gb) (off := 0) (cur := #[Value.string (⟨#[]⟩ : ByteArray), Value.int .i64 0, Value.slice none 0 0]) (cur' := #[Value.string s, Value.int .i64 depth, Value.slice none 0 0]) (u := .agg #[Value.string s, Value.int .i64 depth, Value.slice none 0 0]) (seg := [Value.string s, Value.int .i64 depth, Value.slice none 0 0]) (by rfl) (by rfl) HBK13.out rfl (by kernel_rfl) (Nat.le_of_ble_eq_true rfl) (by intro q_ hq_; simp only [List.mem_cons, List.not_mem_nil, or_false] at hq_; rcases hq_ with rfl | rfl | rfl <;> rfl) (by rfl) ?_); intro W14_ h1_ h2_ h3_; have HBK14 := u7e h1_; have HG14 := u7e ((h2_ g (Nat.ne_of_lt HGB.out)).trans HG13.out); have HO14 := u7e (Kd.S_step HO13.out (fun k_ hk_ _ => h2_ k_ (Nat.ne_of_lt hk_.2))); have HB14 := u7e (h3_ _ _ (Nat.le_trans HG0.out (Nat.le_of_lt HGB.out)) HB13.out); have hv140_ : W14_.cell? ⟨gb, 0, none⟩ = some (Value.string s) := (blk_cell HBK14.out 0).trans rfl; have hv141_ : W14_.cell? ⟨gb, 1, none⟩ = some (Value.int .i64 depth) := (blk_cell HBK14.out 1).trans rfl; have hv142_ : W14_.cell? ⟨gb, 2, none⟩ = some (Value.slice none 0 0) := (blk_cell HBK14.out 2).trans rfl; have hu140_ : W14_.cell? ⟨g, 0, none⟩ = some (Value.slice (some ad) bs.length cb) := (blk_cell HG14.out 0).trans rfl; have hu141_ : W14_.cell? ⟨g, 1, none⟩ = some (Value.slice Ao boxes.length co) := (blk_cell HG14.out 1).trans rfl; have hu142_ : W14_.cell? ⟨g, 2, none⟩ = some (Value.int .i64 data) := (blk_cell HG14.out 2).trans rfl; have hu143_ : W14_.cell? ⟨g, 3, none⟩ = some (Value.int .i64 0) := (blk_cell HG14.out 3).trans rfl; have hu144_ : W14_.cell? ⟨g, 4, none⟩ = some (Value.int .i64 0) := (blk_cell HG14.out 4).trans rfl; clear h1_ h2_ h3_) | ((with_reducible refine gate_dst (N := 81) rfl ?_); refine goesL_ (some 81) rfl rfl Try.func49 (by kernel_rfl) rfl #[.agg #[Value.string s, Value.int .i64 depth, Value.slice none 0 0]] rfl (by (try simp only [List.map_toArray, List.map_cons, List.map_nil]); first | done | rfl) ?_; (refine (impl_Box_holds.calls s depth none 0 [] true _ (by exact Kd.C_nil _ _) (by exact Nat.le_refl _) HH.out).mono ?_); rintro e_ W15_ ⟨rfl, hb_⟩; refine ⟨_, rfl, ?_⟩; have HBK15 := u7e (blk_below HBK14.out hb_); have HG15 := u7e (blk_below HG14.out hb_); have HO15 := u7e (Kd.S_below HO14.out hb_); have HB15 := u7e (below_step HB14.out hb_); have hv150_ : W15_.cell? ⟨gb, 0, none⟩ = some (Value.string s) := (blk_cell HBK15.out 0).trans rfl; have hv151_ : W15_.cell? ⟨gb, 1, none⟩ = some (Value.int .i64 depth) := (blk_cell HBK15.out 1).trans rfl; have hv152_ : W15_.cell? ⟨gb, 2, none⟩ = some (Value.slice none 0 0) := (blk_cell HBK15.out 2).trans rfl; have hu150_ : W15_.cell? ⟨g, 0, none⟩ = some (Value.slice (some ad) bs.length cb) := (blk_cell HG15.out 0).trans rfl; have hu151_ : W15_.cell? ⟨g, 1, none⟩ = some (Value.slice Ao boxes.length co) := (blk_cell HG15.out 1).trans rfl; have hu152_ : W15_.cell? ⟨g, 2, none⟩ = some (Value.int .i64 data) := (blk_cell HG15.out 2).trans rfl; have hu153_ : W15_.cell? ⟨g, 3, none⟩ = some (Value.int .i64 0) := (blk_cell HG15.out 3).trans rfl; have hu154_ : W15_.cell? ⟨g, 4, none⟩ = some (Value.int .i64 0) := (blk_cell HG15.out 4).trans rfl; clear hb_) | ((with_reducible refine gate_callee (f := 61) rfl ?_); refine goesL_ (some 107) rfl rfl Try.func61 (by kernel_rfl) rfl #[.pointer (some ⟨g, 0, none⟩), .int .i64 6, .int .i64 (p : Int)] rfl (by (try simp only [List.map_toArray, List.map_cons, List.map_nil]); first | done | rfl) ?_; (refine (impl_fail.calls g _ _ _ _ _ 6 (p : Int) _ (by exact HG15.out)).mono ?_); rintro e_ W9_ ⟨rfl, h1_, h2_, h3_⟩; refine ⟨_, rfl, ?_⟩; have H1 := u7e h1_; have H2 := u7e (Kd.S_step (Kd.S_step (Kd.S_mono HO15.out (fun _ hk_ => hk_.1)) (fun _ _ _ => rfl)) (fun k_ hk_ _ => h2_ k_ hk_)); have H3 := u7e (h3_ _ _ HG0.out (Below.mk HB15.out.os HB15.out.tape HB15.out.output HB15.out.size HB15.out.block)); clear h1_ h2_ h3_))
     go_quiet (fail)
     go_wp2_with (first | ((with_reducible refine gate_callee (f := 48) rfl ?_); refine goesL_ (some 67) rfl rfl Try.func48 (by kernel_rfl) rfl #[.string s] rfl (by (try simp only [List.map_toArray, List.map_cons, List.map_nil]); first | done | rfl) ?_; (with_reducible refine (impl_kindOk.calls 6 s true _ HKS.out).mono ?_); rintro e_ W1_ ⟨rfl, ⟨nd_, rfl⟩⟩; refine ⟨_, rfl, ?_⟩) | ((with_reducible refine gate_dst (N := 12) rfl ?_); refine box_event ?hg (N := 12) ?hd (cs := #[.string (⟨#[]⟩ : ByteArray), .int .i64 0, .slice none 0 0]) (t := 46) ?hr ?_; (case hd => rfl); (case hg => rfl); (case hr => first | (go_simp; done) | (go_simp; rfl)); intro gb hgb_ W13_ hbox_ hb_; have hgb2_ : gb = wr.heap.size := hgb_; have hb2_ : Below wr.heap.size wr W13_ := Below.mk hb_.os hb_.tape hb_.output hb_.size hb_.block; have HBK13 := u7e hbox_; have HGB : Aside0 (g < gb) := ⟨by rw [hgb2_]; exact blk_lt HG.out⟩; have HO13 : Aside0 (Kd.S k46 46 W13_ w0.heap.size (fun k_ => k_ ≠ g ∧ k_ < gb) (.slice Ao boxes.length co) boxes) := ⟨Kd.S_below (Kd.S_mono (Kd.S_bound HO.out) (fun k_ hk_ => ⟨hk_.1, by rw [hgb2_]; exact hk_.2.2.1⟩)) hb2_⟩; have HG13 := u7e (blk_below HG.out hb2_); have HB13 := u7e (below_step HB.out hb2_); clear hgb_ hgb2_ hbox_ hb_ hb2_) | ((with_reducible refine gate_ (.store 46 (.tmp 12) (.tmp 79)) rfl ?_); (refine put_blk_event rfl rfl rfl (g := gb) (off := 0) (cur := #[Value.string (⟨#[]⟩ : ByteArray), Value.int .i64 0, Value.slice none 0 0]) (cur' := #[Value.string s, Value.int .i64 depth, Value.slice none 0 0]) (u := .agg #[Value.string s, Value.int .i64 depth, Value.slice none 0 0]) (seg := [Value.string s, Value.int .i64 depth, Value.slice none 0 0]) (by rfl) (by rfl) HBK13.out rfl (by kernel_rfl) (Nat.le_of_ble_eq_true rfl) (by intro q_ hq_; simp only [List.mem_cons, List.not_mem_nil, or_false] at hq_; rcases hq_ with rfl | rfl | rfl <;> rfl) (by rfl) ?_); intro W14_ h1_ h2_ h3_; have HBK14 := u7e h1_; have HG14 := u7e ((h2_ g (Nat.ne_of_lt HGB.out)).trans HG13.out); have HO14 := u7e (Kd.S_step HO13.out (fun k_ hk_ _ => h2_ k_ (Nat.ne_of_lt hk_.2))); have HB14 := u7e (h3_ _ _ (Nat.le_trans HG0.out (Nat.le_of_lt HGB.out)) HB13.out); have hv140_ : W14_.cell? ⟨gb, 0, none⟩ = some (Value.string s) := (blk_cell HBK14.out 0).trans rfl; have hv141_ : W14_.cell? ⟨gb, 1, none⟩ = some (Value.int .i64 depth) := (blk_cell HBK14.out 1).trans rfl; have hv142_ : W14_.cell? ⟨gb, 2, none⟩ = some (Value.slice none 0 0) := (blk_cell HBK14.out 2).trans rfl; have hu140_ : W14_.cell? ⟨g, 0, none⟩ = some (Value.slice (some ad) bs.length cb) := (blk_cell HG14.out 0).trans rfl; have hu141_ : W14_.cell? ⟨g, 1, none⟩ = some (Value.slice Ao boxes.length co) := (blk_cell HG14.out 1).trans rfl; have hu142_ : W14_.cell? ⟨g, 2, none⟩ = some (Value.int .i64 data) := (blk_cell HG14.out 2).trans rfl; have hu143_ : W14_.cell? ⟨g, 3, none⟩ = some (Value.int .i64 0) := (blk_cell HG14.out 3).trans rfl; have hu144_ : W14_.cell? ⟨g, 4, none⟩ = some (Value.int .i64 0) := (blk_cell HG14.out 4).trans rfl; clear h1_ h2_ h3_) | ((with_reducible refine gate_dst (N := 81) rfl ?_); refine goesL_ (some 81) rfl rfl Try.func49 (by kernel_rfl) rfl #[.agg #[Value.string s, Value.int .i64 depth, Value.slice none 0 0]] rfl (by (try simp only [List.map_toArray, List.map_cons, List.map_nil]); first | done | rfl) ?_; (refine (impl_Box_holds.calls s depth none 0 [] true _ (by exact Kd.C_nil _ _) (by exact Nat.le_refl _) HH.out).mono ?_); rintro e_ W15_ ⟨rfl, hb_⟩; refine ⟨_, rfl, ?_⟩; have HBK15 := u7e (blk_below HBK14.out hb_); have HG15 := u7e (blk_below HG14.out hb_); have HO15 := u7e (Kd.S_below HO14.out hb_); have HB15 := u7e (below_step HB14.out hb_); have hv150_ : W15_.cell? ⟨gb, 0, none⟩ = some (Value.string s) := (blk_cell HBK15.out 0).trans rfl; have hv151_ : W15_.cell? ⟨gb, 1, none⟩ = some (Value.int .i64 depth) := (blk_cell HBK15.out 1).trans rfl; have hv152_ : W15_.cell? ⟨gb, 2, none⟩ = some (Value.slice none 0 0) := (blk_cell HBK15.out 2).trans rfl; have hu150_ : W15_.cell? ⟨g, 0, none⟩ = some (Value.slice (some ad) bs.length cb) := (blk_cell HG15.out 0).trans rfl; have hu151_ : W15_.cell? ⟨g, 1, none⟩ = some (Value.slice Ao boxes.length co) := (blk_cell HG15.out 1).trans rfl; have hu152_ : W15_.cell? ⟨g, 2, none⟩ = some (Value.int .i64 data) := (blk_cell HG15.out 2).trans rfl; have hu153_ : W15_.cell? ⟨g, 3, none⟩ = some (Value.int .i64 0) := (blk_cell HG15.out 3).trans rfl; have hu154_ : W15_.cell? ⟨g, 4, none⟩ = some (Value.int .i64 0) := (blk_cell HG15.out 4).trans rfl; clear hb_) | ((with_reducible refine gate_callee (f := 61) rfl ?_); refine goesL_ (some 107) rfl rfl Try.func61 (by kernel_rfl) rfl #[.pointer (some ⟨g, 0, none⟩), .int .i64 6, .int .i64 (p : Int)] rfl (by (try simp only [List.map_toArray, List.map_cons, List.map_nil]); first | done | rfl) ?_; (refine (impl_fail.calls g _ _ _ _ _ 6 (p : Int) _ (by exact HG15.out)).mono ?_); rintro e_ W9_ ⟨rfl, h1_, h2_, h3_⟩; refine ⟨_, rfl, ?_⟩; have H1 := u7e h1_; have H2 := u7e (Kd.S_step (Kd.S_step (Kd.S_mono HO15.out (fun _ hk_ => hk_.1)) (fun _ _ _ => rfl)) (fun k_ hk_ _ => h2_ k_ hk_)); have H3 := u7e (h3_ _ _ HG0.out (Below.mk HB15.out.os HB15.out.tape HB15.out.output HB15.out.size HB15.out.block)); clear h1_ h2_ h3_))
     go_quiet (fail)
     go_wp2_with (first | ((with_reducible refine gate_callee (f := 48) rfl ?_); refine goesL_ (some 67) rfl rfl Try.func48 (by kernel_rfl) rfl #[.string s] rfl (by (try simp only [List.map_toArray, List.map_cons, List.map_nil]); first | done | rfl) ?_; (with_reducible refine (impl_kindOk.calls 6 s true _ HKS.out).mono ?_); rintro e_ W1_ ⟨rfl, ⟨nd_, rfl⟩⟩; refine ⟨_, rfl, ?_⟩) | ((with_reducible refine gate_dst (N := 12) rfl ?_); refine box_event ?hg (N := 12) ?hd (cs := #[.string (⟨#[]⟩ : ByteArray), .int .i64 0, .slice none 0 0]) (t := 46) ?hr ?_; (case hd => rfl); (case hg => rfl); (case hr => first | (go_simp; done) | (go_simp; rfl)); intro gb hgb_ W13_ hbox_ hb_; have hgb2_ : gb = wr.heap.size := hgb_; have hb2_ : Below wr.heap.size wr W13_ := Below.mk hb_.os hb_.tape hb_.output hb_.size hb_.block; have HBK13 := u7e hbox_; have HGB : Aside0 (g < gb) := ⟨by rw [hgb2_]; exact blk_lt HG.out⟩; have HO13 : Aside0 (Kd.S k46 46 W13_ w0.heap.size (fun k_ => k_ ≠ g ∧ k_ < gb) (.slice Ao boxes.length co) boxes) := ⟨Kd.S_below (Kd.S_mono (Kd.S_bound HO.out) (fun k_ hk_ => ⟨hk_.1, by rw [hgb2_]; exact hk_.2.2.1⟩)) hb2_⟩; have HG13 := u7e (blk_below HG.out hb2_); have HB13 := u7e (below_step HB.out hb2_); clear hgb_ hgb2_ hbox_ hb_ hb2_) | ((with_reducible refine gate_ (.store 46 (.tmp 12) (.tmp 79)) rfl ?_); (refine put_blk_event rfl rfl rfl (g := gb) (off := 0) (cur := #[Value.string (⟨#[]⟩ : ByteArray), Value.int .i64 0, Value.slice none 0 0]) (cur' := #[Value.string s, Value.int .i64 depth, Value.slice none 0 0]) (u := .agg #[Value.string s, Value.int .i64 depth, Value.slice none 0 0]) (seg := [Value.string s, Value.int .i64 depth, Value.slice none 0 0]) (by rfl) (by rfl) HBK13.out rfl (by kernel_rfl) (Nat.le_of_ble_eq_true rfl) (by intro q_ hq_; simp only [List.mem_cons, List.not_mem_nil, or_false] at hq_; rcases hq_ with rfl | rfl | rfl <;> rfl) (by rfl) ?_); intro W14_ h1_ h2_ h3_; have HBK14 := u7e h1_; have HG14 := u7e ((h2_ g (Nat.ne_of_lt HGB.out)).trans HG13.out); have HO14 := u7e (Kd.S_step HO13.out (fun k_ hk_ _ => h2_ k_ (Nat.ne_of_lt hk_.2))); have HB14 := u7e (h3_ _ _ (Nat.le_trans HG0.out (Nat.le_of_lt HGB.out)) HB13.out); have hv140_ : W14_.cell? ⟨gb, 0, none⟩ = some (Value.string s) := (blk_cell HBK14.out 0).trans rfl; have hv141_ : W14_.cell? ⟨gb, 1, none⟩ = some (Value.int .i64 depth) := (blk_cell HBK14.out 1).trans rfl; have hv142_ : W14_.cell? ⟨gb, 2, none⟩ = some (Value.slice none 0 0) := (blk_cell HBK14.out 2).trans rfl; have hu140_ : W14_.cell? ⟨g, 0, none⟩ = some (Value.slice (some ad) bs.length cb) := (blk_cell HG14.out 0).trans rfl; have hu141_ : W14_.cell? ⟨g, 1, none⟩ = some (Value.slice Ao boxes.length co) := (blk_cell HG14.out 1).trans rfl; have hu142_ : W14_.cell? ⟨g, 2, none⟩ = some (Value.int .i64 data) := (blk_cell HG14.out 2).trans rfl; have hu143_ : W14_.cell? ⟨g, 3, none⟩ = some (Value.int .i64 0) := (blk_cell HG14.out 3).trans rfl; have hu144_ : W14_.cell? ⟨g, 4, none⟩ = some (Value.int .i64 0) := (blk_cell HG14.out 4).trans rfl; clear h1_ h2_ h3_) | ((with_reducible refine gate_dst (N := 81) rfl ?_); refine goesL_ (some 81) rfl rfl Try.func49 (by kernel_rfl) rfl #[.agg #[Value.string s, Value.int .i64 depth, Value.slice none 0 0]] rfl (by (try simp only [List.map_toArray, List.map_cons, List.map_nil]); first | done | rfl) ?_; (refine (impl_Box_holds.calls s depth none 0 [] true _ (by exact Kd.C_nil _ _) (by exact Nat.le_refl _) HH.out).mono ?_); rintro e_ W15_ ⟨rfl, hb_⟩; refine ⟨_, rfl, ?_⟩; have HBK15 := u7e (blk_below HBK14.out hb_); have HG15 := u7e (blk_below HG14.out hb_); have HO15 := u7e (Kd.S_below HO14.out hb_); have HB15 := u7e (below_step HB14.out hb_); have hv150_ : W15_.cell? ⟨gb, 0, none⟩ = some (Value.string s) := (blk_cell HBK15.out 0).trans rfl; have hv151_ : W15_.cell? ⟨gb, 1, none⟩ = some (Value.int .i64 depth) := (blk_cell HBK15.out 1).trans rfl; have hv152_ : W15_.cell? ⟨gb, 2, none⟩ = some (Value.slice none 0 0) := (blk_cell HBK15.out 2).trans rfl; have hu150_ : W15_.cell? ⟨g, 0, none⟩ = some (Value.slice (some ad) bs.length cb) := (blk_cell HG15.out 0).trans rfl; have hu151_ : W15_.cell? ⟨g, 1, none⟩ = some (Value.slice Ao boxes.length co) := (blk_cell HG15.out 1).trans rfl; have hu152_ : W15_.cell? ⟨g, 2, none⟩ = some (Value.int .i64 data) := (blk_cell HG15.out 2).trans rfl; have hu153_ : W15_.cell? ⟨g, 3, none⟩ = some (Value.int .i64 0) := (blk_cell HG15.out 3).trans rfl; have hu154_ : W15_.cell? ⟨g, 4, none⟩ = some (Value.int .i64 0) := (blk_cell HG15.out 4).trans rfl; clear hb_) | ((with_reducible refine gate_callee (f := 61) rfl ?_); refine goesL_ (some 107) rfl rfl Try.func61 (by kernel_rfl) rfl #[.pointer (some ⟨g, 0, none⟩), .int .i64 6, .int .i64 (p : Int)] rfl (by (try simp only [List.map_toArray, List.map_cons, List.map_nil]); first | done | rfl) ?_; (refine (impl_fail.calls g _ _ _ _ _ 6 (p : Int) _ (by exact HG15.out)).mono ?_); rintro e_ W9_ ⟨rfl, h1_, h2_, h3_⟩; refine ⟨_, rfl, ?_⟩; have H1 := u7e h1_; have H2 := u7e (Kd.S_step (Kd.S_step (Kd.S_mono HO15.out (fun _ hk_ => hk_.1)) (fun _ _ _ => rfl)) (fun k_ hk_ _ => h2_ k_ hk_)); have H3 := u7e (h3_ _ _ HG0.out (Below.mk HB15.out.os HB15.out.tape HB15.out.output HB15.out.size HB15.out.block)); clear h1_ h2_ h3_))
     go_ret
     exact ⟨rfl, _, H1.out, H2.out, H3.out⟩
    have HH : Aside0 (impl_Box_holds.f s depth [] = some false) := ⟨by rw [r_hold_i s depth [] HSZ.out]; simpa using c8⟩
    clear c8
    obtain ⟨ys, hys⟩ : ∃ l : List Int, l = (bs.take (p + n)).drop (p + 8) := ⟨_, rfl⟩
    obtain ⟨l8, hl8⟩ : ∃ l : Nat, n - 8 = l := ⟨_, rfl⟩
    have HL8 := u7e hl8
    have HNM : Aside0 (p + n ≤ en ∧ 8 ≤ n ∧ n ≤ hc ∧ n ≤ hl ∧ en ≤ bs.length ∧ bs.length ≤ cb ∧ bs.length ≤ 1000000) := ⟨by have := C4.out; have := HM.out; have := C1.out; have := C3.out; have := HHC.out; have := HHL.out; have := HEN.out; have := HCB.out; have := HBL.out; omega⟩
    have HYL : Aside0 (ys.length = l8) := ⟨by rw [hys, List.length_drop, List.length_take]; have := HNM.out; omega⟩
    obtain ⟨ad8, had8⟩ : ∃ a : Addr, (if hc = 8 then some ad2 else some (⟨ad2.block, ad2.off + 8, none⟩ : Addr)) = some a := by split <;> exact ⟨_, rfl⟩
    have HAD8 := u7e had8
    have HYC : Aside0 (∀ W_ : World, Below w0.heap.size w0 W_ → Kd.C (Kd.int .u8) W_ (some ad8) ys.length ys) := ⟨fun W_ hb_ => by
     by_cases q_ : hc = 8
     ·have e_ : ys.length = 0 := by have := HYL.out; have := HL8.out; have := HNM.out; omega
      exact ⟨rfl, by omega, fun h0_ => absurd h0_ (by omega)⟩
     have h_ := Kd.C_mid (c := cb) (lo := p + 8) (hi := p + n) (Kd.C_below HC0.out hb_) (by have := HNM.out; omega) (by have := HNM.out; omega) HCB.out
     have e_ : (if cb = p + 8 then some ad else (some ad : Option Addr).map (·.add ((p + 8) * (Kd.int .u8).sz))) = some ad8 := by
      rw [← had8, if_neg q_, if_neg (by have := HHC.out; have := HNM.out; omega), ← add_pos_ ad2 8 (by decide), ← HAD2.out, add_add_]
      simp [Kd.int, Kd.scalar]
     rw [e_] at h_
     rw [hys]
     exact h_⟩
    have HCLN : Aside0 (∀ W_ : World, Below w0.heap.size w0 W_ → Calls Try.prog 62 #[.slice (some ad8) l8 (hc - 8)] W_ fun e w' => ∃ v : Value, e = .returned v ∧ Kd.R (Kd.int .u8) 5 w' W_.heap.size (fun _ => True) v ys ∧ Below W_.heap.size W_ w') := ⟨fun W_ hb_ => by rw [← HYL.out]; exact slices_Clone.calls ad8 (hc - 8) ys W_ (HYC.out W_ hb_) (by have := HYL.out; have := HL8.out; have := HNM.out; omega)⟩
    have T8N_ : Aside0 ((8 ≤ n) = True) := ⟨eq_true (by have := HNM.out; omega)⟩
    have T8I_ : Aside0 (((8 : Int) ≤ (n : Int)) = True) := ⟨eq_true (by have := HNM.out; omega)⟩
    have TNH_ : Aside0 ((n ≤ hc) = True) := ⟨eq_true (by have := HNM.out; omega)⟩
    have TNI_ : Aside0 (((n : Int) ≤ (hc : Int)) = True) := ⟨eq_true (by have := HNM.out; omega)⟩
    obtain ⟨dd, hdd⟩ : ∃ d : Int, d = data + ((n : Int) - 8) := ⟨_, rfl⟩
    have HDD := u7e hdd
    have Hdl_ : Aside0 (wrap64 (data + (l8 : Int)) = dd ∧ IntKind.i64.wrap (data + (l8 : Int)) = dd) := by
     have h_ : wrap64 (data + (l8 : Int)) = dd := by have := HX.out; have := HL8.out; have := HNM.out; have := HNB.out; unfold wrap64; omega
     exact ⟨⟨h_, (i64_w _).trans h_⟩⟩
    have Hdy_ : Aside0 (wrap64 (data + (ys.length : Int)) = dd ∧ IntKind.i64.wrap (data + (ys.length : Int)) = dd) := by
     have h_ : wrap64 (data + (ys.length : Int)) = dd := by have := HYL.out; have := HX.out; have := HL8.out; have := HNM.out; have := HNB.out; unfold wrap64; omega
     exact ⟨⟨h_, (i64_w _).trans h_⟩⟩
    have HYS := u7e hys
    clear hys hdd hl8 had8
    have hwm := Hwm_.out.1
    have hwm' := Hwm_.out.2
    have c2b0 := C2b0_.out
    have c2b1 := C2b1_.out
    have s0 := S0_.out
    have s0c := S0C_.out
    have s1 := S1_.out
    have s1i := S1I_.out
    have s1j := S1J_.out
    have s1b := S1B_.out
    have s3 := S3_.out
    have s3p := S3p_.out
    have had2 := HAD2.out
    have hhl := HHL.out
    have hhc := HHC.out
    have qn0 := QN0_.out
    have qi0 := QI0_.out
    have qn1 := QN1_.out
    have qi1 := QI1_.out
    have qn2 := QN2_.out
    have qi2 := QI2_.out
    have qn3 := QN3_.out
    have qi3 := QI3_.out
    have hconv := HCONV.out
    have hy0 := Hy0_.out.1
    have hy0' := Hy0_.out.2
    have hy1 := Hy1_.out.1
    have hy1' := Hy1_.out.2
    have hy2 := Hy2_.out.1
    have hy2' := Hy2_.out.2
    have hy3 := Hy3_.out.1
    have hy3' := Hy3_.out.2
    have hm0 := Hm0_.out.1
    have hm0' := Hm0_.out.2
    have hmp0 := Hmp0_.out.1
    have hmp0' := Hmp0_.out.2
    have hm1 := Hm1_.out.1
    have hm1' := Hm1_.out.2
    have hmp1 := Hmp1_.out.1
    have hmp1' := Hmp1_.out.2
    have hm2 := Hm2_.out.1
    have hm2' := Hm2_.out.2
    have hmp2 := Hmp2_.out.1
    have hmp2' := Hmp2_.out.2
    have ho1 := HO1_.out
    have ho2 := HO2_.out
    have ho3 := HO3_.out
    have c3b0 := C3b0_.out
    have c3b1 := C3b1_.out
    have c4b0 := C4b0_.out
    have c4b1 := C4b1_.out
    have c6b0 := C6b0_.out
    have c7b0 := C7b0_.out
    have c7b1 := C7b1_.out
    have t8n := T8N_.out
    have t8i := T8I_.out
    have tnh := TNH_.out
    have tni := TNI_.out
    have hdl := Hdl_.out.1
    have hdl' := Hdl_.out.2
    have hdy := Hdy_.out.1
    have hdy' := Hdy_.out.2
    have hl8 := HL8.out
    have had8 := HAD8.out
    go_wp2_with (first | ((with_reducible refine gate_callee (f := 48) rfl ?_); refine goesL_ (some 67) rfl rfl Try.func48 (by kernel_rfl) rfl #[.string s] rfl (by (try simp only [List.map_toArray, List.map_cons, List.map_nil]); first | done | rfl) ?_; (with_reducible refine (impl_kindOk.calls 6 s true _ HKS.out).mono ?_); rintro e_ W1_ ⟨rfl, ⟨nd_, rfl⟩⟩; refine ⟨_, rfl, ?_⟩) | ((with_reducible refine gate_dst (N := 12) rfl ?_); refine box_event ?hg (N := 12) ?hd (cs := #[.string (⟨#[]⟩ : ByteArray), .int .i64 0, .slice none 0 0]) (t := 46) ?hr ?_; (case hd => rfl); (case hg => rfl); (case hr => first | (go_simp; done) | (go_simp; rfl)); intro gb hgb_ W13_ hbox_ hb_; have hgb2_ : gb = wr.heap.size := hgb_; have hb2_ : Below wr.heap.size wr W13_ := Below.mk hb_.os hb_.tape hb_.output hb_.size hb_.block; have HBK13 := u7e hbox_; have HGB : Aside0 (g < gb) := ⟨by rw [hgb2_]; exact blk_lt HG.out⟩; have HO13 : Aside0 (Kd.S k46 46 W13_ w0.heap.size (fun k_ => k_ ≠ g ∧ k_ < gb) (.slice Ao boxes.length co) boxes) := ⟨Kd.S_below (Kd.S_mono (Kd.S_bound HO.out) (fun k_ hk_ => ⟨hk_.1, by rw [hgb2_]; exact hk_.2.2.1⟩)) hb2_⟩; have HG13 := u7e (blk_below HG.out hb2_); have HB13 := u7e (below_step HB.out hb2_); clear hgb_ hgb2_ hbox_ hb_ hb2_) | ((with_reducible refine gate_ (.store 46 (.tmp 12) (.tmp 79)) rfl ?_); (refine put_blk_event rfl rfl rfl (g := gb) (off := 0) (cur := #[Value.string (⟨#[]⟩ : ByteArray), Value.int .i64 0, Value.slice none 0 0]) (cur' := #[Value.string s, Value.int .i64 depth, Value.slice none 0 0]) (u := .agg #[Value.string s, Value.int .i64 depth, Value.slice none 0 0]) (seg := [Value.string s, Value.int .i64 depth, Value.slice none 0 0]) (by rfl) (by rfl) HBK13.out rfl (by kernel_rfl) (Nat.le_of_ble_eq_true rfl) (by intro q_ hq_; simp only [List.mem_cons, List.not_mem_nil, or_false] at hq_; rcases hq_ with rfl | rfl | rfl <;> rfl) (by rfl) ?_); intro W14_ h1_ h2_ h3_; have HBK14 := u7e h1_; have HG14 := u7e ((h2_ g (Nat.ne_of_lt HGB.out)).trans HG13.out); have HO14 := u7e (Kd.S_step HO13.out (fun k_ hk_ _ => h2_ k_ (Nat.ne_of_lt hk_.2))); have HB14 := u7e (h3_ _ _ (Nat.le_trans HG0.out (Nat.le_of_lt HGB.out)) HB13.out); have hv140_ : W14_.cell? ⟨gb, 0, none⟩ = some (Value.string s) := (blk_cell HBK14.out 0).trans rfl; have hv141_ : W14_.cell? ⟨gb, 1, none⟩ = some (Value.int .i64 depth) := (blk_cell HBK14.out 1).trans rfl; have hv142_ : W14_.cell? ⟨gb, 2, none⟩ = some (Value.slice none 0 0) := (blk_cell HBK14.out 2).trans rfl; have hu140_ : W14_.cell? ⟨g, 0, none⟩ = some (Value.slice (some ad) bs.length cb) := (blk_cell HG14.out 0).trans rfl; have hu141_ : W14_.cell? ⟨g, 1, none⟩ = some (Value.slice Ao boxes.length co) := (blk_cell HG14.out 1).trans rfl; have hu142_ : W14_.cell? ⟨g, 2, none⟩ = some (Value.int .i64 data) := (blk_cell HG14.out 2).trans rfl; have hu143_ : W14_.cell? ⟨g, 3, none⟩ = some (Value.int .i64 0) := (blk_cell HG14.out 3).trans rfl; have hu144_ : W14_.cell? ⟨g, 4, none⟩ = some (Value.int .i64 0) := (blk_cell HG14.out 4).trans rfl; clear h1_ h2_ h3_) | ((with_reducible refine gate_dst (N := 81) rfl ?_); refine goesL_ (some 81) rfl rfl Try.func49 (by kernel_rfl) rfl #[.agg #[Value.string s, Value.int .i64 depth, Value.slice none 0 0]] rfl (by (try simp only [List.map_toArray, List.map_cons, List.map_nil]); first | done | rfl) ?_; (refine (impl_Box_holds.calls s depth none 0 [] false _ (by exact Kd.C_nil _ _) (by exact Nat.le_refl _) HH.out).mono ?_); rintro e_ W15_ ⟨rfl, hb_⟩; refine ⟨_, rfl, ?_⟩; have HBK15 := u7e (blk_below HBK14.out hb_); have HG15 := u7e (blk_below HG14.out hb_); have HO15 := u7e (Kd.S_below HO14.out hb_); have HB15 := u7e (below_step HB14.out hb_); have hv150_ : W15_.cell? ⟨gb, 0, none⟩ = some (Value.string s) := (blk_cell HBK15.out 0).trans rfl; have hv151_ : W15_.cell? ⟨gb, 1, none⟩ = some (Value.int .i64 depth) := (blk_cell HBK15.out 1).trans rfl; have hv152_ : W15_.cell? ⟨gb, 2, none⟩ = some (Value.slice none 0 0) := (blk_cell HBK15.out 2).trans rfl; have hu150_ : W15_.cell? ⟨g, 0, none⟩ = some (Value.slice (some ad) bs.length cb) := (blk_cell HG15.out 0).trans rfl; have hu151_ : W15_.cell? ⟨g, 1, none⟩ = some (Value.slice Ao boxes.length co) := (blk_cell HG15.out 1).trans rfl; have hu152_ : W15_.cell? ⟨g, 2, none⟩ = some (Value.int .i64 data) := (blk_cell HG15.out 2).trans rfl; have hu153_ : W15_.cell? ⟨g, 3, none⟩ = some (Value.int .i64 0) := (blk_cell HG15.out 3).trans rfl; have hu154_ : W15_.cell? ⟨g, 4, none⟩ = some (Value.int .i64 0) := (blk_cell HG15.out 4).trans rfl; clear hb_) | ((with_reducible refine gate_dst (N := 86) rfl ?_); refine goesL_ (some 86) rfl rfl Try.func62 (by kernel_rfl) rfl #[.slice (some ad8) l8 (hc - 8)] rfl (by (try simp only [List.map_toArray, List.map_cons, List.map_nil]); first | done | rfl) ?_; (refine (HCLN.out _ HB15.out).mono ?_); rintro e_ W16_ ⟨v86, rfl, ho_, hb_⟩; refine ⟨_, rfl, ?_⟩; have HBK16 := u7e (blk_below HBK15.out hb_); have HG16 := u7e (blk_below HG15.out hb_); have HO16 := u7e (Kd.S_below HO15.out hb_); have HB16 := u7e (below_step HB15.out hb_); have hv160_ : W16_.cell? ⟨gb, 0, none⟩ = some (Value.string s) := (blk_cell HBK16.out 0).trans rfl; have hv161_ : W16_.cell? ⟨gb, 1, none⟩ = some (Value.int .i64 depth) := (blk_cell HBK16.out 1).trans rfl; have hv162_ : W16_.cell? ⟨gb, 2, none⟩ = some (Value.slice none 0 0) := (blk_cell HBK16.out 2).trans rfl; have hu160_ : W16_.cell? ⟨g, 0, none⟩ = some (Value.slice (some ad) bs.length cb) := (blk_cell HG16.out 0).trans rfl; have hu161_ : W16_.cell? ⟨g, 1, none⟩ = some (Value.slice Ao boxes.length co) := (blk_cell HG16.out 1).trans rfl; have hu162_ : W16_.cell? ⟨g, 2, none⟩ = some (Value.int .i64 data) := (blk_cell HG16.out 2).trans rfl; have hu163_ : W16_.cell? ⟨g, 3, none⟩ = some (Value.int .i64 0) := (blk_cell HG16.out 3).trans rfl; have hu164_ : W16_.cell? ⟨g, 4, none⟩ = some (Value.int .i64 0) := (blk_cell HG16.out 4).trans rfl; obtain ⟨hv, hhv_⟩ : ∃ n : Nat, n = W15_.heap.size := ⟨_, rfl⟩; have HHV : Aside0 (gb < hv) := ⟨by rw [hhv_]; exact blk_lt HBK15.out⟩; have HVW : Aside0 (hv ≤ W16_.heap.size) := ⟨by rw [hhv_]; exact hb_.size⟩; have HV16 : Aside0 (Kd.R (Kd.int .u8) 5 W16_ w0.heap.size (fun k_ => hv ≤ k_) v86 ys) := ⟨Kd.R_lower (Kd.R_mono (Kd.R_bound ho_) (fun k_ hk_ => by rw [hhv_]; exact hk_.2.1)) HB15.out.size⟩; obtain ⟨A86, c86, e86_⟩ := Kd.R_slice ho_; subst e86_; clear ho_ hb_ hhv_) | ((with_reducible refine gate_ (.store 29 (.tmp 87) (.tmp 86)) rfl ?_); (refine put_blk_event rfl rfl rfl (g := gb) (off := 2) (cur := #[Value.string s, Value.int .i64 depth, Value.slice none 0 0]) (cur' := #[Value.string s, Value.int .i64 depth, Value.slice A86 ys.length c86]) (u := .slice A86 ys.length c86) (seg := [Value.slice A86 ys.length c86]) (by rfl) (by rfl) HBK16.out rfl (by kernel_rfl) (Nat.le_of_ble_eq_true rfl) (by intro q_ hq_; simp only [List.mem_cons, List.not_mem_nil, or_false] at hq_; rcases hq_ with rfl <;> rfl) (by rfl) ?_); intro W17_ h1_ h2_ h3_; have HBK17 := u7e h1_; have HG17 := u7e ((h2_ g (Nat.ne_of_lt HGB.out)).trans HG16.out); have HO17 := u7e (Kd.S_step HO16.out (fun k_ hk_ _ => h2_ k_ (Nat.ne_of_lt hk_.2))); have HB17 := u7e (h3_ _ _ (Nat.le_trans HG0.out (Nat.le_of_lt HGB.out)) HB16.out); have HV17 := u7e (Kd.R_step HV16.out (fun k_ hk_ _ => h2_ k_ (Nat.ne_of_gt (Nat.lt_of_lt_of_le HHV.out hk_)))); have HVS17 : Aside0 (hv ≤ W17_.heap.size) := ⟨Nat.le_trans HVW.out (sizes_le_ h2_ HBK16.out h1_)⟩; have hv170_ : W17_.cell? ⟨gb, 0, none⟩ = some (Value.string s) := (blk_cell HBK17.out 0).trans rfl; have hv171_ : W17_.cell? ⟨gb, 1, none⟩ = some (Value.int .i64 depth) := (blk_cell HBK17.out 1).trans rfl; have hv172_ : W17_.cell? ⟨gb, 2, none⟩ = some (Value.slice A86 ys.length c86) := (blk_cell HBK17.out 2).trans rfl; have hu170_ : W17_.cell? ⟨g, 0, none⟩ = some (Value.slice (some ad) bs.length cb) := (blk_cell HG17.out 0).trans rfl; have hu171_ : W17_.cell? ⟨g, 1, none⟩ = some (Value.slice Ao boxes.length co) := (blk_cell HG17.out 1).trans rfl; have hu172_ : W17_.cell? ⟨g, 2, none⟩ = some (Value.int .i64 data) := (blk_cell HG17.out 2).trans rfl; have hu173_ : W17_.cell? ⟨g, 3, none⟩ = some (Value.int .i64 0) := (blk_cell HG17.out 3).trans rfl; have hu174_ : W17_.cell? ⟨g, 4, none⟩ = some (Value.int .i64 0) := (blk_cell HG17.out 4).trans rfl; clear h1_ h2_ h3_) | ((with_reducible refine gate_callee (f := 61) rfl ?_); refine goesL_ (some 107) rfl rfl Try.func61 (by kernel_rfl) rfl #[.pointer (some ⟨g, 0, none⟩), .int .i64 6, .int .i64 (p : Int)] rfl (by (try simp only [List.map_toArray, List.map_cons, List.map_nil]); first | done | rfl) ?_; (refine (impl_fail.calls g _ _ _ _ _ 6 (p : Int) _ (by exact HG17.out)).mono ?_); rintro e_ W9_ ⟨rfl, h1_, h2_, h3_⟩; refine ⟨_, rfl, ?_⟩; have H1 := u7e h1_; have H2 := u7e (Kd.S_step (Kd.S_step (Kd.S_mono HO17.out (fun _ hk_ => hk_.1)) (fun _ _ _ => rfl)) (fun k_ hk_ _ => h2_ k_ hk_)); have H3 := u7e (h3_ _ _ HG0.out (Below.mk HB17.out.os HB17.out.tape HB17.out.output HB17.out.size HB17.out.block)); clear h1_ h2_ h3_))
    go_quiet (fail)
    go_wp2_with (first | ((with_reducible refine gate_callee (f := 48) rfl ?_); refine goesL_ (some 67) rfl rfl Try.func48 (by kernel_rfl) rfl #[.string s] rfl (by (try simp only [List.map_toArray, List.map_cons, List.map_nil]); first | done | rfl) ?_; (with_reducible refine (impl_kindOk.calls 6 s true _ HKS.out).mono ?_); rintro e_ W1_ ⟨rfl, ⟨nd_, rfl⟩⟩; refine ⟨_, rfl, ?_⟩) | ((with_reducible refine gate_dst (N := 12) rfl ?_); refine box_event ?hg (N := 12) ?hd (cs := #[.string (⟨#[]⟩ : ByteArray), .int .i64 0, .slice none 0 0]) (t := 46) ?hr ?_; (case hd => rfl); (case hg => rfl); (case hr => first | (go_simp; done) | (go_simp; rfl)); intro gb hgb_ W13_ hbox_ hb_; have hgb2_ : gb = wr.heap.size := hgb_; have hb2_ : Below wr.heap.size wr W13_ := Below.mk hb_.os hb_.tape hb_.output hb_.size hb_.block; have HBK13 := u7e hbox_; have HGB : Aside0 (g < gb) := ⟨by rw [hgb2_]; exact blk_lt HG.out⟩; have HO13 : Aside0 (Kd.S k46 46 W13_ w0.heap.size (fun k_ => k_ ≠ g ∧ k_ < gb) (.slice Ao boxes.length co) boxes) := ⟨Kd.S_below (Kd.S_mono (Kd.S_bound HO.out) (fun k_ hk_ => ⟨hk_.1, by rw [hgb2_]; exact hk_.2.2.1⟩)) hb2_⟩; have HG13 := u7e (blk_below HG.out hb2_); have HB13 := u7e (below_step HB.out hb2_); clear hgb_ hgb2_ hbox_ hb_ hb2_) | ((with_reducible refine gate_ (.store 46 (.tmp 12) (.tmp 79)) rfl ?_); (refine put_blk_event rfl rfl rfl (g := gb) (off := 0) (cur := #[Value.string (⟨#[]⟩ : ByteArray), Value.int .i64 0, Value.slice none 0 0]) (cur' := #[Value.string s, Value.int .i64 depth, Value.slice none 0 0]) (u := .agg #[Value.string s, Value.int .i64 depth, Value.slice none 0 0]) (seg := [Value.string s, Value.int .i64 depth, Value.slice none 0 0]) (by rfl) (by rfl) HBK13.out rfl (by kernel_rfl) (Nat.le_of_ble_eq_true rfl) (by intro q_ hq_; simp only [List.mem_cons, List.not_mem_nil, or_false] at hq_; rcases hq_ with rfl | rfl | rfl <;> rfl) (by rfl) ?_); intro W14_ h1_ h2_ h3_; have HBK14 := u7e h1_; have HG14 := u7e ((h2_ g (Nat.ne_of_lt HGB.out)).trans HG13.out); have HO14 := u7e (Kd.S_step HO13.out (fun k_ hk_ _ => h2_ k_ (Nat.ne_of_lt hk_.2))); have HB14 := u7e (h3_ _ _ (Nat.le_trans HG0.out (Nat.le_of_lt HGB.out)) HB13.out); have hv140_ : W14_.cell? ⟨gb, 0, none⟩ = some (Value.string s) := (blk_cell HBK14.out 0).trans rfl; have hv141_ : W14_.cell? ⟨gb, 1, none⟩ = some (Value.int .i64 depth) := (blk_cell HBK14.out 1).trans rfl; have hv142_ : W14_.cell? ⟨gb, 2, none⟩ = some (Value.slice none 0 0) := (blk_cell HBK14.out 2).trans rfl; have hu140_ : W14_.cell? ⟨g, 0, none⟩ = some (Value.slice (some ad) bs.length cb) := (blk_cell HG14.out 0).trans rfl; have hu141_ : W14_.cell? ⟨g, 1, none⟩ = some (Value.slice Ao boxes.length co) := (blk_cell HG14.out 1).trans rfl; have hu142_ : W14_.cell? ⟨g, 2, none⟩ = some (Value.int .i64 data) := (blk_cell HG14.out 2).trans rfl; have hu143_ : W14_.cell? ⟨g, 3, none⟩ = some (Value.int .i64 0) := (blk_cell HG14.out 3).trans rfl; have hu144_ : W14_.cell? ⟨g, 4, none⟩ = some (Value.int .i64 0) := (blk_cell HG14.out 4).trans rfl; clear h1_ h2_ h3_) | ((with_reducible refine gate_dst (N := 81) rfl ?_); refine goesL_ (some 81) rfl rfl Try.func49 (by kernel_rfl) rfl #[.agg #[Value.string s, Value.int .i64 depth, Value.slice none 0 0]] rfl (by (try simp only [List.map_toArray, List.map_cons, List.map_nil]); first | done | rfl) ?_; (refine (impl_Box_holds.calls s depth none 0 [] false _ (by exact Kd.C_nil _ _) (by exact Nat.le_refl _) HH.out).mono ?_); rintro e_ W15_ ⟨rfl, hb_⟩; refine ⟨_, rfl, ?_⟩; have HBK15 := u7e (blk_below HBK14.out hb_); have HG15 := u7e (blk_below HG14.out hb_); have HO15 := u7e (Kd.S_below HO14.out hb_); have HB15 := u7e (below_step HB14.out hb_); have hv150_ : W15_.cell? ⟨gb, 0, none⟩ = some (Value.string s) := (blk_cell HBK15.out 0).trans rfl; have hv151_ : W15_.cell? ⟨gb, 1, none⟩ = some (Value.int .i64 depth) := (blk_cell HBK15.out 1).trans rfl; have hv152_ : W15_.cell? ⟨gb, 2, none⟩ = some (Value.slice none 0 0) := (blk_cell HBK15.out 2).trans rfl; have hu150_ : W15_.cell? ⟨g, 0, none⟩ = some (Value.slice (some ad) bs.length cb) := (blk_cell HG15.out 0).trans rfl; have hu151_ : W15_.cell? ⟨g, 1, none⟩ = some (Value.slice Ao boxes.length co) := (blk_cell HG15.out 1).trans rfl; have hu152_ : W15_.cell? ⟨g, 2, none⟩ = some (Value.int .i64 data) := (blk_cell HG15.out 2).trans rfl; have hu153_ : W15_.cell? ⟨g, 3, none⟩ = some (Value.int .i64 0) := (blk_cell HG15.out 3).trans rfl; have hu154_ : W15_.cell? ⟨g, 4, none⟩ = some (Value.int .i64 0) := (blk_cell HG15.out 4).trans rfl; clear hb_) | ((with_reducible refine gate_dst (N := 86) rfl ?_); refine goesL_ (some 86) rfl rfl Try.func62 (by kernel_rfl) rfl #[.slice (some ad8) l8 (hc - 8)] rfl (by (try simp only [List.map_toArray, List.map_cons, List.map_nil]); first | done | rfl) ?_; (refine (HCLN.out _ HB15.out).mono ?_); rintro e_ W16_ ⟨v86, rfl, ho_, hb_⟩; refine ⟨_, rfl, ?_⟩; have HBK16 := u7e (blk_below HBK15.out hb_); have HG16 := u7e (blk_below HG15.out hb_); have HO16 := u7e (Kd.S_below HO15.out hb_); have HB16 := u7e (below_step HB15.out hb_); have hv160_ : W16_.cell? ⟨gb, 0, none⟩ = some (Value.string s) := (blk_cell HBK16.out 0).trans rfl; have hv161_ : W16_.cell? ⟨gb, 1, none⟩ = some (Value.int .i64 depth) := (blk_cell HBK16.out 1).trans rfl; have hv162_ : W16_.cell? ⟨gb, 2, none⟩ = some (Value.slice none 0 0) := (blk_cell HBK16.out 2).trans rfl; have hu160_ : W16_.cell? ⟨g, 0, none⟩ = some (Value.slice (some ad) bs.length cb) := (blk_cell HG16.out 0).trans rfl; have hu161_ : W16_.cell? ⟨g, 1, none⟩ = some (Value.slice Ao boxes.length co) := (blk_cell HG16.out 1).trans rfl; have hu162_ : W16_.cell? ⟨g, 2, none⟩ = some (Value.int .i64 data) := (blk_cell HG16.out 2).trans rfl; have hu163_ : W16_.cell? ⟨g, 3, none⟩ = some (Value.int .i64 0) := (blk_cell HG16.out 3).trans rfl; have hu164_ : W16_.cell? ⟨g, 4, none⟩ = some (Value.int .i64 0) := (blk_cell HG16.out 4).trans rfl; obtain ⟨hv, hhv_⟩ : ∃ n : Nat, n = W15_.heap.size := ⟨_, rfl⟩; have HHV : Aside0 (gb < hv) := ⟨by rw [hhv_]; exact blk_lt HBK15.out⟩; have HVW : Aside0 (hv ≤ W16_.heap.size) := ⟨by rw [hhv_]; exact hb_.size⟩; have HV16 : Aside0 (Kd.R (Kd.int .u8) 5 W16_ w0.heap.size (fun k_ => hv ≤ k_) v86 ys) := ⟨Kd.R_lower (Kd.R_mono (Kd.R_bound ho_) (fun k_ hk_ => by rw [hhv_]; exact hk_.2.1)) HB15.out.size⟩; obtain ⟨A86, c86, e86_⟩ := Kd.R_slice ho_; subst e86_; clear ho_ hb_ hhv_) | ((with_reducible refine gate_ (.store 29 (.tmp 87) (.tmp 86)) rfl ?_); (refine put_blk_event rfl rfl rfl (g := gb) (off := 2) (cur := #[Value.string s, Value.int .i64 depth, Value.slice none 0 0]) (cur' := #[Value.string s, Value.int .i64 depth, Value.slice A86 ys.length c86]) (u := .slice A86 ys.length c86) (seg := [Value.slice A86 ys.length c86]) (by rfl) (by rfl) HBK16.out rfl (by kernel_rfl) (Nat.le_of_ble_eq_true rfl) (by intro q_ hq_; simp only [List.mem_cons, List.not_mem_nil, or_false] at hq_; rcases hq_ with rfl <;> rfl) (by rfl) ?_); intro W17_ h1_ h2_ h3_; have HBK17 := u7e h1_; have HG17 := u7e ((h2_ g (Nat.ne_of_lt HGB.out)).trans HG16.out); have HO17 := u7e (Kd.S_step HO16.out (fun k_ hk_ _ => h2_ k_ (Nat.ne_of_lt hk_.2))); have HB17 := u7e (h3_ _ _ (Nat.le_trans HG0.out (Nat.le_of_lt HGB.out)) HB16.out); have HV17 := u7e (Kd.R_step HV16.out (fun k_ hk_ _ => h2_ k_ (Nat.ne_of_gt (Nat.lt_of_lt_of_le HHV.out hk_)))); have HVS17 : Aside0 (hv ≤ W17_.heap.size) := ⟨Nat.le_trans HVW.out (sizes_le_ h2_ HBK16.out h1_)⟩; have hv170_ : W17_.cell? ⟨gb, 0, none⟩ = some (Value.string s) := (blk_cell HBK17.out 0).trans rfl; have hv171_ : W17_.cell? ⟨gb, 1, none⟩ = some (Value.int .i64 depth) := (blk_cell HBK17.out 1).trans rfl; have hv172_ : W17_.cell? ⟨gb, 2, none⟩ = some (Value.slice A86 ys.length c86) := (blk_cell HBK17.out 2).trans rfl; have hu170_ : W17_.cell? ⟨g, 0, none⟩ = some (Value.slice (some ad) bs.length cb) := (blk_cell HG17.out 0).trans rfl; have hu171_ : W17_.cell? ⟨g, 1, none⟩ = some (Value.slice Ao boxes.length co) := (blk_cell HG17.out 1).trans rfl; have hu172_ : W17_.cell? ⟨g, 2, none⟩ = some (Value.int .i64 data) := (blk_cell HG17.out 2).trans rfl; have hu173_ : W17_.cell? ⟨g, 3, none⟩ = some (Value.int .i64 0) := (blk_cell HG17.out 3).trans rfl; have hu174_ : W17_.cell? ⟨g, 4, none⟩ = some (Value.int .i64 0) := (blk_cell HG17.out 4).trans rfl; clear h1_ h2_ h3_) | ((with_reducible refine gate_callee (f := 61) rfl ?_); refine goesL_ (some 107) rfl rfl Try.func61 (by kernel_rfl) rfl #[.pointer (some ⟨g, 0, none⟩), .int .i64 6, .int .i64 (p : Int)] rfl (by (try simp only [List.map_toArray, List.map_cons, List.map_nil]); first | done | rfl) ?_; (refine (impl_fail.calls g _ _ _ _ _ 6 (p : Int) _ (by exact HG17.out)).mono ?_); rintro e_ W9_ ⟨rfl, h1_, h2_, h3_⟩; refine ⟨_, rfl, ?_⟩; have H1 := u7e h1_; have H2 := u7e (Kd.S_step (Kd.S_step (Kd.S_mono HO17.out (fun _ hk_ => hk_.1)) (fun _ _ _ => rfl)) (fun k_ hk_ _ => h2_ k_ hk_)); have H3 := u7e (h3_ _ _ HG0.out (Below.mk HB17.out.os HB17.out.tape HB17.out.output HB17.out.size HB17.out.block)); clear h1_ h2_ h3_))
    go_quiet (fail)
    go_wp2_with (first | ((with_reducible refine gate_callee (f := 48) rfl ?_); refine goesL_ (some 67) rfl rfl Try.func48 (by kernel_rfl) rfl #[.string s] rfl (by (try simp only [List.map_toArray, List.map_cons, List.map_nil]); first | done | rfl) ?_; (with_reducible refine (impl_kindOk.calls 6 s true _ HKS.out).mono ?_); rintro e_ W1_ ⟨rfl, ⟨nd_, rfl⟩⟩; refine ⟨_, rfl, ?_⟩) | ((with_reducible refine gate_dst (N := 12) rfl ?_); refine box_event ?hg (N := 12) ?hd (cs := #[.string (⟨#[]⟩ : ByteArray), .int .i64 0, .slice none 0 0]) (t := 46) ?hr ?_; (case hd => rfl); (case hg => rfl); (case hr => first | (go_simp; done) | (go_simp; rfl)); intro gb hgb_ W13_ hbox_ hb_; have hgb2_ : gb = wr.heap.size := hgb_; have hb2_ : Below wr.heap.size wr W13_ := Below.mk hb_.os hb_.tape hb_.output hb_.size hb_.block; have HBK13 := u7e hbox_; have HGB : Aside0 (g < gb) := ⟨by rw [hgb2_]; exact blk_lt HG.out⟩; have HO13 : Aside0 (Kd.S k46 46 W13_ w0.heap.size (fun k_ => k_ ≠ g ∧ k_ < gb) (.slice Ao boxes.length co) boxes) := ⟨Kd.S_below (Kd.S_mono (Kd.S_bound HO.out) (fun k_ hk_ => ⟨hk_.1, by rw [hgb2_]; exact hk_.2.2.1⟩)) hb2_⟩; have HG13 := u7e (blk_below HG.out hb2_); have HB13 := u7e (below_step HB.out hb2_); clear hgb_ hgb2_ hbox_ hb_ hb2_) | ((with_reducible refine gate_ (.store 46 (.tmp 12) (.tmp 79)) rfl ?_); (refine put_blk_event rfl rfl rfl (g := gb) (off := 0) (cur := #[Value.string (⟨#[]⟩ : ByteArray), Value.int .i64 0, Value.slice none 0 0]) (cur' := #[Value.string s, Value.int .i64 depth, Value.slice none 0 0]) (u := .agg #[Value.string s, Value.int .i64 depth, Value.slice none 0 0]) (seg := [Value.string s, Value.int .i64 depth, Value.slice none 0 0]) (by rfl) (by rfl) HBK13.out rfl (by kernel_rfl) (Nat.le_of_ble_eq_true rfl) (by intro q_ hq_; simp only [List.mem_cons, List.not_mem_nil, or_false] at hq_; rcases hq_ with rfl | rfl | rfl <;> rfl) (by rfl) ?_); intro W14_ h1_ h2_ h3_; have HBK14 := u7e h1_; have HG14 := u7e ((h2_ g (Nat.ne_of_lt HGB.out)).trans HG13.out); have HO14 := u7e (Kd.S_step HO13.out (fun k_ hk_ _ => h2_ k_ (Nat.ne_of_lt hk_.2))); have HB14 := u7e (h3_ _ _ (Nat.le_trans HG0.out (Nat.le_of_lt HGB.out)) HB13.out); have hv140_ : W14_.cell? ⟨gb, 0, none⟩ = some (Value.string s) := (blk_cell HBK14.out 0).trans rfl; have hv141_ : W14_.cell? ⟨gb, 1, none⟩ = some (Value.int .i64 depth) := (blk_cell HBK14.out 1).trans rfl; have hv142_ : W14_.cell? ⟨gb, 2, none⟩ = some (Value.slice none 0 0) := (blk_cell HBK14.out 2).trans rfl; have hu140_ : W14_.cell? ⟨g, 0, none⟩ = some (Value.slice (some ad) bs.length cb) := (blk_cell HG14.out 0).trans rfl; have hu141_ : W14_.cell? ⟨g, 1, none⟩ = some (Value.slice Ao boxes.length co) := (blk_cell HG14.out 1).trans rfl; have hu142_ : W14_.cell? ⟨g, 2, none⟩ = some (Value.int .i64 data) := (blk_cell HG14.out 2).trans rfl; have hu143_ : W14_.cell? ⟨g, 3, none⟩ = some (Value.int .i64 0) := (blk_cell HG14.out 3).trans rfl; have hu144_ : W14_.cell? ⟨g, 4, none⟩ = some (Value.int .i64 0) := (blk_cell HG14.out 4).trans rfl; clear h1_ h2_ h3_) | ((with_reducible refine gate_dst (N := 81) rfl ?_); refine goesL_ (some 81) rfl rfl Try.func49 (by kernel_rfl) rfl #[.agg #[Value.string s, Value.int .i64 depth, Value.slice none 0 0]] rfl (by (try simp only [List.map_toArray, List.map_cons, List.map_nil]); first | done | rfl) ?_; (refine (impl_Box_holds.calls s depth none 0 [] false _ (by exact Kd.C_nil _ _) (by exact Nat.le_refl _) HH.out).mono ?_); rintro e_ W15_ ⟨rfl, hb_⟩; refine ⟨_, rfl, ?_⟩; have HBK15 := u7e (blk_below HBK14.out hb_); have HG15 := u7e (blk_below HG14.out hb_); have HO15 := u7e (Kd.S_below HO14.out hb_); have HB15 := u7e (below_step HB14.out hb_); have hv150_ : W15_.cell? ⟨gb, 0, none⟩ = some (Value.string s) := (blk_cell HBK15.out 0).trans rfl; have hv151_ : W15_.cell? ⟨gb, 1, none⟩ = some (Value.int .i64 depth) := (blk_cell HBK15.out 1).trans rfl; have hv152_ : W15_.cell? ⟨gb, 2, none⟩ = some (Value.slice none 0 0) := (blk_cell HBK15.out 2).trans rfl; have hu150_ : W15_.cell? ⟨g, 0, none⟩ = some (Value.slice (some ad) bs.length cb) := (blk_cell HG15.out 0).trans rfl; have hu151_ : W15_.cell? ⟨g, 1, none⟩ = some (Value.slice Ao boxes.length co) := (blk_cell HG15.out 1).trans rfl; have hu152_ : W15_.cell? ⟨g, 2, none⟩ = some (Value.int .i64 data) := (blk_cell HG15.out 2).trans rfl; have hu153_ : W15_.cell? ⟨g, 3, none⟩ = some (Value.int .i64 0) := (blk_cell HG15.out 3).trans rfl; have hu154_ : W15_.cell? ⟨g, 4, none⟩ = some (Value.int .i64 0) := (blk_cell HG15.out 4).trans rfl; clear hb_) | ((with_reducible refine gate_dst (N := 86) rfl ?_); refine goesL_ (some 86) rfl rfl Try.func62 (by kernel_rfl) rfl #[.slice (some ad8) l8 (hc - 8)] rfl (by (try simp only [List.map_toArray, List.map_cons, List.map_nil]); first | done | rfl) ?_; (refine (HCLN.out _ HB15.out).mono ?_); rintro e_ W16_ ⟨v86, rfl, ho_, hb_⟩; refine ⟨_, rfl, ?_⟩; have HBK16 := u7e (blk_below HBK15.out hb_); have HG16 := u7e (blk_below HG15.out hb_); have HO16 := u7e (Kd.S_below HO15.out hb_); have HB16 := u7e (below_step HB15.out hb_); have hv160_ : W16_.cell? ⟨gb, 0, none⟩ = some (Value.string s) := (blk_cell HBK16.out 0).trans rfl; have hv161_ : W16_.cell? ⟨gb, 1, none⟩ = some (Value.int .i64 depth) := (blk_cell HBK16.out 1).trans rfl; have hv162_ : W16_.cell? ⟨gb, 2, none⟩ = some (Value.slice none 0 0) := (blk_cell HBK16.out 2).trans rfl; have hu160_ : W16_.cell? ⟨g, 0, none⟩ = some (Value.slice (some ad) bs.length cb) := (blk_cell HG16.out 0).trans rfl; have hu161_ : W16_.cell? ⟨g, 1, none⟩ = some (Value.slice Ao boxes.length co) := (blk_cell HG16.out 1).trans rfl; have hu162_ : W16_.cell? ⟨g, 2, none⟩ = some (Value.int .i64 data) := (blk_cell HG16.out 2).trans rfl; have hu163_ : W16_.cell? ⟨g, 3, none⟩ = some (Value.int .i64 0) := (blk_cell HG16.out 3).trans rfl; have hu164_ : W16_.cell? ⟨g, 4, none⟩ = some (Value.int .i64 0) := (blk_cell HG16.out 4).trans rfl; obtain ⟨hv, hhv_⟩ : ∃ n : Nat, n = W15_.heap.size := ⟨_, rfl⟩; have HHV : Aside0 (gb < hv) := ⟨by rw [hhv_]; exact blk_lt HBK15.out⟩; have HVW : Aside0 (hv ≤ W16_.heap.size) := ⟨by rw [hhv_]; exact hb_.size⟩; have HV16 : Aside0 (Kd.R (Kd.int .u8) 5 W16_ w0.heap.size (fun k_ => hv ≤ k_) v86 ys) := ⟨Kd.R_lower (Kd.R_mono (Kd.R_bound ho_) (fun k_ hk_ => by rw [hhv_]; exact hk_.2.1)) HB15.out.size⟩; obtain ⟨A86, c86, e86_⟩ := Kd.R_slice ho_; subst e86_; clear ho_ hb_ hhv_) | ((with_reducible refine gate_ (.store 29 (.tmp 87) (.tmp 86)) rfl ?_); (refine put_blk_event rfl rfl rfl (g := gb) (off := 2) (cur := #[Value.string s, Value.int .i64 depth, Value.slice none 0 0]) (cur' := #[Value.string s, Value.int .i64 depth, Value.slice A86 ys.length c86]) (u := .slice A86 ys.length c86) (seg := [Value.slice A86 ys.length c86]) (by rfl) (by rfl) HBK16.out rfl (by kernel_rfl) (Nat.le_of_ble_eq_true rfl) (by intro q_ hq_; simp only [List.mem_cons, List.not_mem_nil, or_false] at hq_; rcases hq_ with rfl <;> rfl) (by rfl) ?_); intro W17_ h1_ h2_ h3_; have HBK17 := u7e h1_; have HG17 := u7e ((h2_ g (Nat.ne_of_lt HGB.out)).trans HG16.out); have HO17 := u7e (Kd.S_step HO16.out (fun k_ hk_ _ => h2_ k_ (Nat.ne_of_lt hk_.2))); have HB17 := u7e (h3_ _ _ (Nat.le_trans HG0.out (Nat.le_of_lt HGB.out)) HB16.out); have HV17 := u7e (Kd.R_step HV16.out (fun k_ hk_ _ => h2_ k_ (Nat.ne_of_gt (Nat.lt_of_lt_of_le HHV.out hk_)))); have HVS17 : Aside0 (hv ≤ W17_.heap.size) := ⟨Nat.le_trans HVW.out (sizes_le_ h2_ HBK16.out h1_)⟩; have hv170_ : W17_.cell? ⟨gb, 0, none⟩ = some (Value.string s) := (blk_cell HBK17.out 0).trans rfl; have hv171_ : W17_.cell? ⟨gb, 1, none⟩ = some (Value.int .i64 depth) := (blk_cell HBK17.out 1).trans rfl; have hv172_ : W17_.cell? ⟨gb, 2, none⟩ = some (Value.slice A86 ys.length c86) := (blk_cell HBK17.out 2).trans rfl; have hu170_ : W17_.cell? ⟨g, 0, none⟩ = some (Value.slice (some ad) bs.length cb) := (blk_cell HG17.out 0).trans rfl; have hu171_ : W17_.cell? ⟨g, 1, none⟩ = some (Value.slice Ao boxes.length co) := (blk_cell HG17.out 1).trans rfl; have hu172_ : W17_.cell? ⟨g, 2, none⟩ = some (Value.int .i64 data) := (blk_cell HG17.out 2).trans rfl; have hu173_ : W17_.cell? ⟨g, 3, none⟩ = some (Value.int .i64 0) := (blk_cell HG17.out 3).trans rfl; have hu174_ : W17_.cell? ⟨g, 4, none⟩ = some (Value.int .i64 0) := (blk_cell HG17.out 4).trans rfl; clear h1_ h2_ h3_) | ((with_reducible refine gate_callee (f := 61) rfl ?_); refine goesL_ (some 107) rfl rfl Try.func61 (by kernel_rfl) rfl #[.pointer (some ⟨g, 0, none⟩), .int .i64 6, .int .i64 (p : Int)] rfl (by (try simp only [List.map_toArray, List.map_cons, List.map_nil]); first | done | rfl) ?_; (refine (impl_fail.calls g _ _ _ _ _ 6 (p : Int) _ (by exact HG17.out)).mono ?_); rintro e_ W9_ ⟨rfl, h1_, h2_, h3_⟩; refine ⟨_, rfl, ?_⟩; have H1 := u7e h1_; have H2 := u7e (Kd.S_step (Kd.S_step (Kd.S_mono HO17.out (fun _ hk_ => hk_.1)) (fun _ _ _ => rfl)) (fun k_ hk_ _ => h2_ k_ hk_)); have H3 := u7e (h3_ _ _ HG0.out (Below.mk HB17.out.os HB17.out.tape HB17.out.output HB17.out.size HB17.out.block)); clear h1_ h2_ h3_))
    go_ret
    exact ⟨rfl, _, H1.out, H2.out, H3.out⟩
   rw [if_neg c7] at HR
   have C7b0_ : Aside0 (decide ((200 : Int) ≤ (boxes.length : Int)) = false) := ⟨decide_eq_false (by have := HX.out; omega)⟩
   have C7b1_ : Aside0 (decide (200 ≤ boxes.length) = false) := ⟨decide_eq_false (by have := HX.out; omega)⟩
   have C7 := u7e c7
   clear c7
   by_cases c8 : r_hold s = true
   case pos =>
    rw [if_pos c8] at HR
    have HH : Aside0 (impl_Box_holds.f s depth [] = some true) := ⟨by rw [r_hold_i s depth [] HSZ.out, c8]⟩
    clear c8
    obtain ⟨pn, hpn⟩ : ∃ q : Nat, p + n = q := ⟨_, rfl⟩
    obtain ⟨a8, ha8⟩ : ∃ q : Nat, p + 8 = q := ⟨_, rfl⟩
    try rw [hpn] at HR
    try rw [ha8] at HR
    have HPN := u7e hpn
    have HA8 := u7e ha8
    clear hpn ha8
    have HPL : Aside0 (pn ≤ en ∧ a8 ≤ pn ∧ en ≤ bs.length) := ⟨by have := C4.out; have := HM.out; have := C1.out; have := C3.out; have := HA8.out; have := HPN.out; have := HEN.out; omega⟩
    have Hpn_ : Aside0 (wrap64 ((p : Int) + (n : Int)) = (pn : Int) ∧ IntKind.i64.wrap ((p : Int) + (n : Int)) = (pn : Int)) := by
     have h_ : wrap64 ((p : Int) + (n : Int)) = (pn : Int) := by have := HBL.out; have := HPL.out; have := HPN.out; unfold wrap64; omega
     exact ⟨⟨h_, (i64_w _).trans h_⟩⟩
    have Ha8_ : Aside0 (wrap64 ((p : Int) + 8) = (a8 : Int) ∧ IntKind.i64.wrap ((p : Int) + 8) = (a8 : Int)) := by
     have h_ : wrap64 ((p : Int) + 8) = (a8 : Int) := by have := HBL.out; have := HPL.out; have := HA8.out; unfold wrap64; omega
     exact ⟨⟨h_, (i64_w _).trans h_⟩⟩
    obtain ⟨⟨b2, d2, cd2, f2⟩, hsub, HR⟩ := Option.bind_eq_some_iff.1 HR
    dsimp only at HR
    obtain ⟨bx, hbx⟩ : ∃ b : List S46, b = boxes ++ [⟨s, depth, []⟩] := ⟨_, rfl⟩
    rw [← hbx] at hsub
    obtain ⟨dp, hdp⟩ : ∃ d : Int, d = depth + 1 := ⟨_, rfl⟩
    rw [← hdp] at hsub
    have Hdp_ : Aside0 (wrap64 (depth + 1) = dp ∧ IntKind.i64.wrap (depth + 1) = dp) := by
     have h_ : wrap64 (depth + 1) = dp := by have := HD.out; unfold wrap64; omega
     exact ⟨⟨h_, (i64_w _).trans h_⟩⟩
    have Hdz_ : Aside0 (wrap64 (data) = data ∧ IntKind.i64.wrap (data) = data) := by
     have h_ : wrap64 (data) = data := by have := HX.out; unfold wrap64; omega
     exact ⟨⟨h_, (i64_w _).trans h_⟩⟩
    have Hdz0_ : Aside0 (wrap64 (data + 0) = data ∧ IntKind.i64.wrap (data + 0) = data) := by
     have h_ : wrap64 (data + 0) = data := by have := HX.out; unfold wrap64; omega
     exact ⟨⟨h_, (i64_w _).trans h_⟩⟩
    have C9b0_ : Aside0 (decide (20000 < data) = false) := ⟨decide_eq_false (by have := HX.out; omega)⟩
    have HSUB := u7e hsub
    have HBX := u7e hbx
    have HDP := u7e hdp
    have HBD : Aside0 (bx.length ≤ 200) := ⟨by rw [hbx, List.length_append]; simp only [List.length_cons, List.length_nil]; have := HX.out; have := C7.out; omega⟩
    have HBB := u7e (rdr_bounds k1 bs bx data a8 pn dp _ hsub HBD.out HX.out.2.1 HX.out.2.2.1)
    have HCD := u7e (rdr_code k1 bs bx data a8 pn dp _ hsub)
    have HQ1 : Aside0 (a8 ≤ bs.length) := ⟨by have := HPL.out; omega⟩
    have HQ2 : Aside0 (pn ≤ bs.length) := ⟨by have := HPL.out; omega⟩
    have HQ3 : Aside0 (0 ≤ dp) := ⟨by have := HD.out; omega⟩
    have HQ4 : Aside0 (dp ≤ 9) := ⟨by have := C6.out; omega⟩
    have HKL : Aside0 (k1 < k) := ⟨by have := HK.out; omega⟩
    have HREC : Aside0 (∀ (vo_ : Value) (W_ : World), Below w0.heap.size w0 W_ → W_.heap[g]? = some (.cells #[.slice (some ad) bs.length cb, vo_, .int .i64 data, .int .i64 0, .int .i64 0] 56 (0, 0)) → Kd.S k46 46 W_ w0.heap.size (fun k_ => k_ ≠ g) vo_ bx → Calls Try.prog 51 #[.pointer (some ⟨g, 0, none⟩), .int .i64 (a8 : Int), .int .i64 (pn : Int), .int .i64 dp] W_ (RdEndB w0 g (some ad) bs.length cb (b2, d2, cd2, f2))) := ⟨fun vo_ W_ h1_ h2_ h3_ => ih k1 HKL.out g vo_ bx data a8 pn dp (b2, d2, cd2, f2) W_ HG0.out h1_ h2_ h3_ HQ1.out HQ2.out HQ3.out HQ4.out HX.out.2.1 HX.out.2.2.1 HBD.out hsub⟩
    clear hsub hbx hdp ih
    have HR2 := u7e HR
    clear HR
    have hwm := Hwm_.out.1
    have hwm' := Hwm_.out.2
    have c2b0 := C2b0_.out
    have c2b1 := C2b1_.out
    have s0 := S0_.out
    have s0c := S0C_.out
    have s1 := S1_.out
    have s1i := S1I_.out
    have s1j := S1J_.out
    have s1b := S1B_.out
    have s3 := S3_.out
    have s3p := S3p_.out
    have had2 := HAD2.out
    have hhl := HHL.out
    have hhc := HHC.out
    have qn0 := QN0_.out
    have qi0 := QI0_.out
    have qn1 := QN1_.out
    have qi1 := QI1_.out
    have qn2 := QN2_.out
    have qi2 := QI2_.out
    have qn3 := QN3_.out
    have qi3 := QI3_.out
    have hconv := HCONV.out
    have hy0 := Hy0_.out.1
    have hy0' := Hy0_.out.2
    have hy1 := Hy1_.out.1
    have hy1' := Hy1_.out.2
    have hy2 := Hy2_.out.1
    have hy2' := Hy2_.out.2
    have hy3 := Hy3_.out.1
    have hy3' := Hy3_.out.2
    have hm0 := Hm0_.out.1
    have hm0' := Hm0_.out.2
    have hmp0 := Hmp0_.out.1
    have hmp0' := Hmp0_.out.2
    have hm1 := Hm1_.out.1
    have hm1' := Hm1_.out.2
    have hmp1 := Hmp1_.out.1
    have hmp1' := Hmp1_.out.2
    have hm2 := Hm2_.out.1
    have hm2' := Hm2_.out.2
    have hmp2 := Hmp2_.out.1
    have hmp2' := Hmp2_.out.2
    have ho1 := HO1_.out
    have ho2 := HO2_.out
    have ho3 := HO3_.out
    have c3b0 := C3b0_.out
    have c3b1 := C3b1_.out
    have c4b0 := C4b0_.out
    have c4b1 := C4b1_.out
    have c6b0 := C6b0_.out
    have c7b0 := C7b0_.out
    have c7b1 := C7b1_.out
    have hpn := Hpn_.out.1
    have hpn' := Hpn_.out.2
    have ha8 := Ha8_.out.1
    have ha8' := Ha8_.out.2
    have hdp := Hdp_.out.1
    have hdp' := Hdp_.out.2
    have hdz := Hdz_.out.1
    have hdz' := Hdz_.out.2
    have hdz0 := Hdz0_.out.1
    have hdz0' := Hdz0_.out.2
    have c9b0 := C9b0_.out
    go_wp2_with (first | ((with_reducible refine gate_callee (f := 48) rfl ?_); refine goesL_ (some 67) rfl rfl Try.func48 (by kernel_rfl) rfl #[.string s] rfl (by (try simp only [List.map_toArray, List.map_cons, List.map_nil]); first | done | rfl) ?_; (with_reducible refine (impl_kindOk.calls 6 s true _ HKS.out).mono ?_); rintro e_ W1_ ⟨rfl, ⟨nd_, rfl⟩⟩; refine ⟨_, rfl, ?_⟩) | ((with_reducible refine gate_dst (N := 12) rfl ?_); refine box_event ?hg (N := 12) ?hd (cs := #[.string (⟨#[]⟩ : ByteArray), .int .i64 0, .slice none 0 0]) (t := 46) ?hr ?_; (case hd => rfl); (case hg => rfl); (case hr => first | (go_simp; done) | (go_simp; rfl)); intro gb hgb_ W13_ hbox_ hb_; have hgb2_ : gb = wr.heap.size := hgb_; have hb2_ : Below wr.heap.size wr W13_ := Below.mk hb_.os hb_.tape hb_.output hb_.size hb_.block; have HBK13 := u7e hbox_; have HGB : Aside0 (g < gb) := ⟨by rw [hgb2_]; exact blk_lt HG.out⟩; have HO13 : Aside0 (Kd.S k46 46 W13_ w0.heap.size (fun k_ => k_ ≠ g ∧ k_ < gb) (.slice Ao boxes.length co) boxes) := ⟨Kd.S_below (Kd.S_mono (Kd.S_bound HO.out) (fun k_ hk_ => ⟨hk_.1, by rw [hgb2_]; exact hk_.2.2.1⟩)) hb2_⟩; have HG13 := u7e (blk_below HG.out hb2_); have HB13 := u7e (below_step HB.out hb2_); clear hgb_ hgb2_ hbox_ hb_ hb2_) | ((with_reducible refine gate_ (.store 46 (.tmp 12) (.tmp 79)) rfl ?_); (refine put_blk_event rfl rfl rfl (g := gb) (off := 0) (cur := #[Value.string (⟨#[]⟩ : ByteArray), Value.int .i64 0, Value.slice none 0 0]) (cur' := #[Value.string s, Value.int .i64 depth, Value.slice none 0 0]) (u := .agg #[Value.string s, Value.int .i64 depth, Value.slice none 0 0]) (seg := [Value.string s, Value.int .i64 depth, Value.slice none 0 0]) (by rfl) (by rfl) HBK13.out rfl (by kernel_rfl) (Nat.le_of_ble_eq_true rfl) (by intro q_ hq_; simp only [List.mem_cons, List.not_mem_nil, or_false] at hq_; rcases hq_ with rfl | rfl | rfl <;> rfl) (by rfl) ?_); intro W14_ h1_ h2_ h3_; have HBK14 := u7e h1_; have HG14 := u7e ((h2_ g (Nat.ne_of_lt HGB.out)).trans HG13.out); have HO14 := u7e (Kd.S_step HO13.out (fun k_ hk_ _ => h2_ k_ (Nat.ne_of_lt hk_.2))); have HB14 := u7e (h3_ _ _ (Nat.le_trans HG0.out (Nat.le_of_lt HGB.out)) HB13.out); have hv140_ : W14_.cell? ⟨gb, 0, none⟩ = some (Value.string s) := (blk_cell HBK14.out 0).trans rfl; have hv141_ : W14_.cell? ⟨gb, 1, none⟩ = some (Value.int .i64 depth) := (blk_cell HBK14.out 1).trans rfl; have hv142_ : W14_.cell? ⟨gb, 2, none⟩ = some (Value.slice none 0 0) := (blk_cell HBK14.out 2).trans rfl; have hu140_ : W14_.cell? ⟨g, 0, none⟩ = some (Value.slice (some ad) bs.length cb) := (blk_cell HG14.out 0).trans rfl; have hu141_ : W14_.cell? ⟨g, 1, none⟩ = some (Value.slice Ao boxes.length co) := (blk_cell HG14.out 1).trans rfl; have hu142_ : W14_.cell? ⟨g, 2, none⟩ = some (Value.int .i64 data) := (blk_cell HG14.out 2).trans rfl; have hu143_ : W14_.cell? ⟨g, 3, none⟩ = some (Value.int .i64 0) := (blk_cell HG14.out 3).trans rfl; have hu144_ : W14_.cell? ⟨g, 4, none⟩ = some (Value.int .i64 0) := (blk_cell HG14.out 4).trans rfl; clear h1_ h2_ h3_) | ((with_reducible refine gate_dst (N := 81) rfl ?_); refine goesL_ (some 81) rfl rfl Try.func49 (by kernel_rfl) rfl #[.agg #[Value.string s, Value.int .i64 depth, Value.slice none 0 0]] rfl (by (try simp only [List.map_toArray, List.map_cons, List.map_nil]); first | done | rfl) ?_; (refine (impl_Box_holds.calls s depth none 0 [] true _ (by exact Kd.C_nil _ _) (by exact Nat.le_refl _) HH.out).mono ?_); rintro e_ W15_ ⟨rfl, hb_⟩; refine ⟨_, rfl, ?_⟩; have HBK15 := u7e (blk_below HBK14.out hb_); have HG15 := u7e (blk_below HG14.out hb_); have HO15 := u7e (Kd.S_below HO14.out hb_); have HB15 := u7e (below_step HB14.out hb_); have hv150_ : W15_.cell? ⟨gb, 0, none⟩ = some (Value.string s) := (blk_cell HBK15.out 0).trans rfl; have hv151_ : W15_.cell? ⟨gb, 1, none⟩ = some (Value.int .i64 depth) := (blk_cell HBK15.out 1).trans rfl; have hv152_ : W15_.cell? ⟨gb, 2, none⟩ = some (Value.slice none 0 0) := (blk_cell HBK15.out 2).trans rfl; have hu150_ : W15_.cell? ⟨g, 0, none⟩ = some (Value.slice (some ad) bs.length cb) := (blk_cell HG15.out 0).trans rfl; have hu151_ : W15_.cell? ⟨g, 1, none⟩ = some (Value.slice Ao boxes.length co) := (blk_cell HG15.out 1).trans rfl; have hu152_ : W15_.cell? ⟨g, 2, none⟩ = some (Value.int .i64 data) := (blk_cell HG15.out 2).trans rfl; have hu153_ : W15_.cell? ⟨g, 3, none⟩ = some (Value.int .i64 0) := (blk_cell HG15.out 3).trans rfl; have hu154_ : W15_.cell? ⟨g, 4, none⟩ = some (Value.int .i64 0) := (blk_cell HG15.out 4).trans rfl; clear hb_))
    go_quiet (fail)
    go_wp2_with (first | ((with_reducible refine gate_callee (f := 48) rfl ?_); refine goesL_ (some 67) rfl rfl Try.func48 (by kernel_rfl) rfl #[.string s] rfl (by (try simp only [List.map_toArray, List.map_cons, List.map_nil]); first | done | rfl) ?_; (with_reducible refine (impl_kindOk.calls 6 s true _ HKS.out).mono ?_); rintro e_ W1_ ⟨rfl, ⟨nd_, rfl⟩⟩; refine ⟨_, rfl, ?_⟩) | ((with_reducible refine gate_dst (N := 12) rfl ?_); refine box_event ?hg (N := 12) ?hd (cs := #[.string (⟨#[]⟩ : ByteArray), .int .i64 0, .slice none 0 0]) (t := 46) ?hr ?_; (case hd => rfl); (case hg => rfl); (case hr => first | (go_simp; done) | (go_simp; rfl)); intro gb hgb_ W13_ hbox_ hb_; have hgb2_ : gb = wr.heap.size := hgb_; have hb2_ : Below wr.heap.size wr W13_ := Below.mk hb_.os hb_.tape hb_.output hb_.size hb_.block; have HBK13 := u7e hbox_; have HGB : Aside0 (g < gb) := ⟨by rw [hgb2_]; exact blk_lt HG.out⟩; have HO13 : Aside0 (Kd.S k46 46 W13_ w0.heap.size (fun k_ => k_ ≠ g ∧ k_ < gb) (.slice Ao boxes.length co) boxes) := ⟨Kd.S_below (Kd.S_mono (Kd.S_bound HO.out) (fun k_ hk_ => ⟨hk_.1, by rw [hgb2_]; exact hk_.2.2.1⟩)) hb2_⟩; have HG13 := u7e (blk_below HG.out hb2_); have HB13 := u7e (below_step HB.out hb2_); clear hgb_ hgb2_ hbox_ hb_ hb2_) | ((with_reducible refine gate_ (.store 46 (.tmp 12) (.tmp 79)) rfl ?_); (refine put_blk_event rfl rfl rfl (g := gb) (off := 0) (cur := #[Value.string (⟨#[]⟩ : ByteArray), Value.int .i64 0, Value.slice none 0 0]) (cur' := #[Value.string s, Value.int .i64 depth, Value.slice none 0 0]) (u := .agg #[Value.string s, Value.int .i64 depth, Value.slice none 0 0]) (seg := [Value.string s, Value.int .i64 depth, Value.slice none 0 0]) (by rfl) (by rfl) HBK13.out rfl (by kernel_rfl) (Nat.le_of_ble_eq_true rfl) (by intro q_ hq_; simp only [List.mem_cons, List.not_mem_nil, or_false] at hq_; rcases hq_ with rfl | rfl | rfl <;> rfl) (by rfl) ?_); intro W14_ h1_ h2_ h3_; have HBK14 := u7e h1_; have HG14 := u7e ((h2_ g (Nat.ne_of_lt HGB.out)).trans HG13.out); have HO14 := u7e (Kd.S_step HO13.out (fun k_ hk_ _ => h2_ k_ (Nat.ne_of_lt hk_.2))); have HB14 := u7e (h3_ _ _ (Nat.le_trans HG0.out (Nat.le_of_lt HGB.out)) HB13.out); have hv140_ : W14_.cell? ⟨gb, 0, none⟩ = some (Value.string s) := (blk_cell HBK14.out 0).trans rfl; have hv141_ : W14_.cell? ⟨gb, 1, none⟩ = some (Value.int .i64 depth) := (blk_cell HBK14.out 1).trans rfl; have hv142_ : W14_.cell? ⟨gb, 2, none⟩ = some (Value.slice none 0 0) := (blk_cell HBK14.out 2).trans rfl; have hu140_ : W14_.cell? ⟨g, 0, none⟩ = some (Value.slice (some ad) bs.length cb) := (blk_cell HG14.out 0).trans rfl; have hu141_ : W14_.cell? ⟨g, 1, none⟩ = some (Value.slice Ao boxes.length co) := (blk_cell HG14.out 1).trans rfl; have hu142_ : W14_.cell? ⟨g, 2, none⟩ = some (Value.int .i64 data) := (blk_cell HG14.out 2).trans rfl; have hu143_ : W14_.cell? ⟨g, 3, none⟩ = some (Value.int .i64 0) := (blk_cell HG14.out 3).trans rfl; have hu144_ : W14_.cell? ⟨g, 4, none⟩ = some (Value.int .i64 0) := (blk_cell HG14.out 4).trans rfl; clear h1_ h2_ h3_) | ((with_reducible refine gate_dst (N := 81) rfl ?_); refine goesL_ (some 81) rfl rfl Try.func49 (by kernel_rfl) rfl #[.agg #[Value.string s, Value.int .i64 depth, Value.slice none 0 0]] rfl (by (try simp only [List.map_toArray, List.map_cons, List.map_nil]); first | done | rfl) ?_; (refine (impl_Box_holds.calls s depth none 0 [] true _ (by exact Kd.C_nil _ _) (by exact Nat.le_refl _) HH.out).mono ?_); rintro e_ W15_ ⟨rfl, hb_⟩; refine ⟨_, rfl, ?_⟩; have HBK15 := u7e (blk_below HBK14.out hb_); have HG15 := u7e (blk_below HG14.out hb_); have HO15 := u7e (Kd.S_below HO14.out hb_); have HB15 := u7e (below_step HB14.out hb_); have hv150_ : W15_.cell? ⟨gb, 0, none⟩ = some (Value.string s) := (blk_cell HBK15.out 0).trans rfl; have hv151_ : W15_.cell? ⟨gb, 1, none⟩ = some (Value.int .i64 depth) := (blk_cell HBK15.out 1).trans rfl; have hv152_ : W15_.cell? ⟨gb, 2, none⟩ = some (Value.slice none 0 0) := (blk_cell HBK15.out 2).trans rfl; have hu150_ : W15_.cell? ⟨g, 0, none⟩ = some (Value.slice (some ad) bs.length cb) := (blk_cell HG15.out 0).trans rfl; have hu151_ : W15_.cell? ⟨g, 1, none⟩ = some (Value.slice Ao boxes.length co) := (blk_cell HG15.out 1).trans rfl; have hu152_ : W15_.cell? ⟨g, 2, none⟩ = some (Value.int .i64 data) := (blk_cell HG15.out 2).trans rfl; have hu153_ : W15_.cell? ⟨g, 3, none⟩ = some (Value.int .i64 0) := (blk_cell HG15.out 3).trans rfl; have hu154_ : W15_.cell? ⟨g, 4, none⟩ = some (Value.int .i64 0) := (blk_cell HG15.out 4).trans rfl; clear hb_))
    go_quiet (fail)
    go_wp2_with (first | ((with_reducible refine gate_callee (f := 48) rfl ?_); refine goesL_ (some 67) rfl rfl Try.func48 (by kernel_rfl) rfl #[.string s] rfl (by (try simp only [List.map_toArray, List.map_cons, List.map_nil]); first | done | rfl) ?_; (with_reducible refine (impl_kindOk.calls 6 s true _ HKS.out).mono ?_); rintro e_ W1_ ⟨rfl, ⟨nd_, rfl⟩⟩; refine ⟨_, rfl, ?_⟩) | ((with_reducible refine gate_dst (N := 12) rfl ?_); refine box_event ?hg (N := 12) ?hd (cs := #[.string (⟨#[]⟩ : ByteArray), .int .i64 0, .slice none 0 0]) (t := 46) ?hr ?_; (case hd => rfl); (case hg => rfl); (case hr => first | (go_simp; done) | (go_simp; rfl)); intro gb hgb_ W13_ hbox_ hb_; have hgb2_ : gb = wr.heap.size := hgb_; have hb2_ : Below wr.heap.size wr W13_ := Below.mk hb_.os hb_.tape hb_.output hb_.size hb_.block; have HBK13 := u7e hbox_; have HGB : Aside0 (g < gb) := ⟨by rw [hgb2_]; exact blk_lt HG.out⟩; have HO13 : Aside0 (Kd.S k46 46 W13_ w0.heap.size (fun k_ => k_ ≠ g ∧ k_ < gb) (.slice Ao boxes.length co) boxes) := ⟨Kd.S_below (Kd.S_mono (Kd.S_bound HO.out) (fun k_ hk_ => ⟨hk_.1, by rw [hgb2_]; exact hk_.2.2.1⟩)) hb2_⟩; have HG13 := u7e (blk_below HG.out hb2_); have HB13 := u7e (below_step HB.out hb2_); clear hgb_ hgb2_ hbox_ hb_ hb2_) | ((with_reducible refine gate_ (.store 46 (.tmp 12) (.tmp 79)) rfl ?_); (refine put_blk_event rfl rfl rfl (g := gb) (off := 0) (cur := #[Value.string (⟨#[]⟩ : ByteArray), Value.int .i64 0, Value.slice none 0 0]) (cur' := #[Value.string s, Value.int .i64 depth, Value.slice none 0 0]) (u := .agg #[Value.string s, Value.int .i64 depth, Value.slice none 0 0]) (seg := [Value.string s, Value.int .i64 depth, Value.slice none 0 0]) (by rfl) (by rfl) HBK13.out rfl (by kernel_rfl) (Nat.le_of_ble_eq_true rfl) (by intro q_ hq_; simp only [List.mem_cons, List.not_mem_nil, or_false] at hq_; rcases hq_ with rfl | rfl | rfl <;> rfl) (by rfl) ?_); intro W14_ h1_ h2_ h3_; have HBK14 := u7e h1_; have HG14 := u7e ((h2_ g (Nat.ne_of_lt HGB.out)).trans HG13.out); have HO14 := u7e (Kd.S_step HO13.out (fun k_ hk_ _ => h2_ k_ (Nat.ne_of_lt hk_.2))); have HB14 := u7e (h3_ _ _ (Nat.le_trans HG0.out (Nat.le_of_lt HGB.out)) HB13.out); have hv140_ : W14_.cell? ⟨gb, 0, none⟩ = some (Value.string s) := (blk_cell HBK14.out 0).trans rfl; have hv141_ : W14_.cell? ⟨gb, 1, none⟩ = some (Value.int .i64 depth) := (blk_cell HBK14.out 1).trans rfl; have hv142_ : W14_.cell? ⟨gb, 2, none⟩ = some (Value.slice none 0 0) := (blk_cell HBK14.out 2).trans rfl; have hu140_ : W14_.cell? ⟨g, 0, none⟩ = some (Value.slice (some ad) bs.length cb) := (blk_cell HG14.out 0).trans rfl; have hu141_ : W14_.cell? ⟨g, 1, none⟩ = some (Value.slice Ao boxes.length co) := (blk_cell HG14.out 1).trans rfl; have hu142_ : W14_.cell? ⟨g, 2, none⟩ = some (Value.int .i64 data) := (blk_cell HG14.out 2).trans rfl; have hu143_ : W14_.cell? ⟨g, 3, none⟩ = some (Value.int .i64 0) := (blk_cell HG14.out 3).trans rfl; have hu144_ : W14_.cell? ⟨g, 4, none⟩ = some (Value.int .i64 0) := (blk_cell HG14.out 4).trans rfl; clear h1_ h2_ h3_) | ((with_reducible refine gate_dst (N := 81) rfl ?_); refine goesL_ (some 81) rfl rfl Try.func49 (by kernel_rfl) rfl #[.agg #[Value.string s, Value.int .i64 depth, Value.slice none 0 0]] rfl (by (try simp only [List.map_toArray, List.map_cons, List.map_nil]); first | done | rfl) ?_; (refine (impl_Box_holds.calls s depth none 0 [] true _ (by exact Kd.C_nil _ _) (by exact Nat.le_refl _) HH.out).mono ?_); rintro e_ W15_ ⟨rfl, hb_⟩; refine ⟨_, rfl, ?_⟩; have HBK15 := u7e (blk_below HBK14.out hb_); have HG15 := u7e (blk_below HG14.out hb_); have HO15 := u7e (Kd.S_below HO14.out hb_); have HB15 := u7e (below_step HB14.out hb_); have hv150_ : W15_.cell? ⟨gb, 0, none⟩ = some (Value.string s) := (blk_cell HBK15.out 0).trans rfl; have hv151_ : W15_.cell? ⟨gb, 1, none⟩ = some (Value.int .i64 depth) := (blk_cell HBK15.out 1).trans rfl; have hv152_ : W15_.cell? ⟨gb, 2, none⟩ = some (Value.slice none 0 0) := (blk_cell HBK15.out 2).trans rfl; have hu150_ : W15_.cell? ⟨g, 0, none⟩ = some (Value.slice (some ad) bs.length cb) := (blk_cell HG15.out 0).trans rfl; have hu151_ : W15_.cell? ⟨g, 1, none⟩ = some (Value.slice Ao boxes.length co) := (blk_cell HG15.out 1).trans rfl; have hu152_ : W15_.cell? ⟨g, 2, none⟩ = some (Value.int .i64 data) := (blk_cell HG15.out 2).trans rfl; have hu153_ : W15_.cell? ⟨g, 3, none⟩ = some (Value.int .i64 0) := (blk_cell HG15.out 3).trans rfl; have hu154_ : W15_.cell? ⟨g, 4, none⟩ = some (Value.int .i64 0) := (blk_cell HG15.out 4).trans rfl; clear hb_))
    refine rd_carry (S := fun W' => W'.heap[g]? = some (.cells #[Value.slice (some ad) bs.length cb, Value.slice Ao boxes.length co, Value.int .i64 data, Value.int .i64 0, Value.int .i64 0] 56 (0, 0)) ∧ W'.heap[gb]? = some (.cells #[Value.string s, Value.int .i64 depth, Value.slice none 0 0] 46 (0, 0)) ∧ Kd.S k46 46 W' w0.heap.size (fun k_ => k_ ≠ g ∧ k_ < gb) (.slice Ao boxes.length co) boxes ∧ Below w0.heap.size w0 W') ⟨HG15.out, HBK15.out, (Kd.S_step HO15.out (fun _ _ _ => rfl)), (Below.mk HB15.out.os HB15.out.tape HB15.out.output HB15.out.size HB15.out.block)⟩ ?_
    rintro V0_ ⟨h1_, h2_, h3_, h4_⟩
    have HO18 := u7e (Kd.S_drew h3_)
    have HB18 : Aside0 (Below w0.heap.size w0 (World.drew V0_)) := ⟨Below.mk h4_.os h4_.tape h4_.output h4_.size h4_.block⟩
    refine start_ (n := 23) (S := fun w' => w'.heap[g]? = some (.cells #[Value.slice (some ad) bs.length cb, Value.slice Ao boxes.length co, Value.int .i64 data, Value.int .i64 0, Value.int .i64 0] 56 (0, 0)) ∧ w'.heap[gb]? = some (.cells #[Value.string s, Value.int .i64 depth, Value.slice none 0 0] 46 (0, 0))) (ds := [19, 22]) #[false, false, false, false, false, false, false, false, false, false, false, false, false, false, false, false, false, false, false, false, false, false, false] (by kernel_rfl) rfl rfl ⟨h1_, h2_⟩ (fun hHeld => ?_)
    clear h1_ h2_ h3_ h4_
    generalize World.drew V0_ = V at hHeld HO18 HB18 ⊢
    have HGV : Aside0 (g < V.heap.size) := ⟨blk_lt hHeld.1⟩
    have HGBV : Aside0 (gb < V.heap.size) := ⟨blk_lt hHeld.2⟩
    refine pure_ (i := 0) (N := some 108) (v := ?_) (a' := ?_) #[true, false, false, false, false, false, false, false, false, false, false, false, false, false, false, false, false, false, false, false, false, false, false] rfl rfl (by kernel_rfl) (fun _ _ _ h => h) (Or.inl ⟨by rfl, ?_⟩) ?_ ?_
    rotate_left
    ·intro w'
     go_simp
     with_reducible rfl
    rotate_left
    ·simp only [Act.put, u7a, u7b, u7c, i64_w, i32_w]
     rfl
    refine pure_ (i := 1) (N := some 109) (v := ?_) (a' := ?_) #[true, true, false, false, false, false, false, false, false, false, false, false, false, false, false, false, false, false, false, false, false, false, false] rfl rfl (by kernel_rfl) (fun _ _ _ h => h) (Or.inl ⟨by rfl, ?_⟩) ?_ ?_
    rotate_left
    ·intro w'
     go_simp
     with_reducible rfl
    rotate_left
    ·simp only [Act.put, u7a, u7b, u7c, i64_w, i32_w]
     rfl
    refine pure_ (i := 2) (N := some 110) (v := ?_) (a' := ?_) #[true, true, true, false, false, false, false, false, false, false, false, false, false, false, false, false, false, false, false, false, false, false, false] rfl rfl (by kernel_rfl) (fun _ _ _ h => h) (Or.inl ⟨by rfl, ?_⟩) ?_ ?_
    rotate_left
    ·intro w'
     go_simp
     with_reducible rfl
    rotate_left
    ·simp only [Act.put, u7a, u7b, u7c, i64_w, i32_w]
     rfl
    refine pure_ (i := 3) (N := some 111) (v := ?_) (a' := ?_) #[true, true, true, true, false, false, false, false, false, false, false, false, false, false, false, false, false, false, false, false, false, false, false] rfl rfl (by kernel_rfl) (fun _ _ _ h => h) (Or.inl ⟨by rfl, ?_⟩) ?_ ?_
    rotate_left
    ·intro w'
     go_simp
     with_reducible rfl
    rotate_left
    ·simp only [Act.put, u7a, u7b, u7c, i64_w, i32_w]
     rfl
    refine pure_ (i := 4) (N := some 112) (v := ?_) (a' := ?_) #[true, true, true, true, true, false, false, false, false, false, false, false, false, false, false, false, false, false, false, false, false, false, false] rfl rfl (by kernel_rfl) (fun _ _ _ h => h) (Or.inl ⟨by rfl, ?_⟩) ?_ ?_
    rotate_left
    ·intro w'
     go_simp
     with_reducible rfl
    rotate_left
    ·simp only [Act.put, u7a, u7b, u7c, i64_w, i32_w]
     rfl
    refine take_ (i := 5) (N := some 113) (v := ?_) (a' := ?_) #[true, true, true, true, true, true, false, false, false, false, false, false, false, false, false, false, false, false, false, false, false, false, false] rfl rfl (by kernel_rfl) (fun _ _ _ h => h) (Or.inl ⟨by rfl, ?_⟩) hHeld ?_ ?_
    rotate_left
    ·intro w' hS
     have hcl0_ : w'.cell? ⟨g, 1, none⟩ = some (Value.slice Ao boxes.length co) := (blk_cell hS.1 1).trans rfl
     go_simp
     with_reducible rfl
    rotate_left
    ·simp only [Act.put, u7a, u7b, u7c, i64_w, i32_w]
     rfl
    refine take_ (i := 6) (N := some 114) (v := ?_) (a' := ?_) #[true, true, true, true, true, true, true, false, false, false, false, false, false, false, false, false, false, false, false, false, false, false, false] rfl rfl (by kernel_rfl) (fun _ _ _ h => h) (Or.inl ⟨by rfl, ?_⟩) hHeld ?_ ?_
    rotate_left
    ·intro w' hS
     have hcl0_ : w'.cell? ⟨gb, 0, none⟩ = some (Value.string s) := (blk_cell hS.2 0).trans rfl
     have hcl1_ : w'.cell? ⟨gb, 1, none⟩ = some (Value.int .i64 depth) := (blk_cell hS.2 1).trans rfl
     have hcl2_ : w'.cell? ⟨gb, 2, none⟩ = some (Value.slice none 0 0) := (blk_cell hS.2 2).trans rfl
     go_simp
     with_reducible rfl
    rotate_left
    ·simp only [Act.put, u7a, u7b, u7c, i64_w, i32_w]
     rfl
    refine pure_ (i := 9) (N := some 117) (v := ?_) (a' := ?_) #[true, true, true, true, true, true, true, false, false, true, false, false, false, false, false, false, false, false, false, false, false, false, false] rfl rfl (by kernel_rfl) (fun _ _ _ h => h) (Or.inl ⟨by rfl, ?_⟩) ?_ ?_
    rotate_left
    ·intro w'
     go_simp
     with_reducible rfl
    rotate_left
    ·simp only [Act.put, u7a, u7b, u7c, i64_w, i32_w]
     rfl
    refine pure_ (i := 10) (N := some 118) (v := ?_) (a' := ?_) #[true, true, true, true, true, true, true, false, false, true, true, false, false, false, false, false, false, false, false, false, false, false, false] rfl rfl (by kernel_rfl) (fun _ _ _ h => h) (Or.inl ⟨by rfl, ?_⟩) ?_ ?_
    rotate_left
    ·intro w'
     go_simp
     with_reducible rfl
    rotate_left
    ·simp only [Act.put, u7a, u7b, u7c, i64_w, i32_w]
     rfl
    refine pure_ (i := 11) (N := some 119) (v := ?_) (a' := ?_) #[true, true, true, true, true, true, true, false, false, true, true, true, false, false, false, false, false, false, false, false, false, false, false] rfl rfl (by kernel_rfl) (fun _ _ _ h => h) (Or.inl ⟨by rfl, ?_⟩) ?_ ?_
    rotate_left
    ·intro w'
     go_simp
     with_reducible rfl
    rotate_left
    ·simp only [Act.put, u7a, u7b, u7c, i64_w, i32_w]
     rfl
    refine take_ (i := 12) (N := some 120) (v := ?_) (a' := ?_) #[true, true, true, true, true, true, true, false, false, true, true, true, true, false, false, false, false, false, false, false, false, false, false] rfl rfl (by kernel_rfl) (fun _ _ _ h => h) (Or.inl ⟨by rfl, ?_⟩) hHeld ?_ ?_
    rotate_left
    ·intro w' hS
     have hcl0_ : w'.cell? ⟨g, 2, none⟩ = some (Value.int .i64 data) := (blk_cell hS.1 2).trans rfl
     go_simp
     with_reducible rfl
    rotate_left
    ·simp only [Act.put, u7a, u7b, u7c, i64_w, i32_w]
     rfl
    refine pure_ (i := 13) (N := some 121) (v := ?_) (a' := ?_) #[true, true, true, true, true, true, true, false, false, true, true, true, true, true, false, false, false, false, false, false, false, false, false] rfl rfl (by kernel_rfl) (fun _ _ _ h => h) (Or.inl ⟨by rfl, ?_⟩) ?_ ?_
    rotate_left
    ·intro w'
     go_simp
     with_reducible rfl
    rotate_left
    ·simp only [Act.put, u7a, u7b, u7c, i64_w, i32_w]
     rfl
    refine join_ (σ := Option Addr × Nat) 0 #[true, true, true, true, true, true, true, true, true, true, true, true, true, true, true, true, true, true, true, true, true, true, true] (fun s_ => [(115, .slice (some ⟨V.heap.size, 0, none⟩) 1 1), (116, .slice s_.1 bx.length s_.2), (122, Value.slice none 0 0), (123, Value.int .i64 0), (124, .int .i64 data), (125, .pointer (some ⟨g, 0, none⟩)), (126, .pointer (some ⟨g, 1, none⟩)), (127, .pointer (some ⟨g, 0, none⟩)), (128, .pointer (some ⟨g, 2, none⟩))]) (fun s_ w' => w'.heap[g]? = some (.cells #[Value.slice (some ad) bs.length cb, Value.slice s_.1 bx.length s_.2, Value.int .i64 data, Value.int .i64 0, Value.int .i64 0] 56 (0, 0)) ∧ w'.heap[gb]? = some (.cells #[Value.string s, Value.int .i64 depth, Value.slice none 0 0] 46 (0, 0)) ∧ Kd.S k46 46 w' w0.heap.size (fun k_ => k_ ≠ g ∧ k_ ≠ gb) (.slice s_.1 bx.length s_.2) bx ∧ Below w0.heap.size w0 w') ?_ ?_
    rotate_left
    ·intro hCont
     have hHeld0 := hHeld
     have HBL : Aside0 (bx.length = boxes.length + 1) := ⟨by rw [HBX.out, List.length_append]; rfl⟩
     refine two_ (i := 7) (j := 14) (Ni := some 115) (Nj := some 122) #[true, true, true, true, true, true, true, true, false, true, true, true, true, true, false, false, false, false, false, false, false, false, false] #[true, true, true, true, true, true, true, false, false, true, true, true, true, true, true, false, false, false, false, false, false, false, false] rfl rfl rfl rfl (by kernel_rfl) (by decide) (by decide) (fun K hK => ?_) (fun K hK => ?_)
     ·skip
      refine event_step (W := V) (v := .slice (some ⟨V.heap.size, 0, none⟩) 1 1) (w1 := V.alloc (.cells [Value.string s, Value.int .i64 depth, Value.slice none 0 0].toArray 46)) (by rfl) (by first | (go_simp; done) | (go_simp; rfl)) ?_
      have hHeld := And.intro (blk_alloc hHeld.1 (.cells [Value.string s, Value.int .i64 depth, Value.slice none 0 0].toArray 46)) (blk_alloc hHeld.2 (.cells [Value.string s, Value.int .i64 depth, Value.slice none 0 0].toArray 46))
      refine hK.out _ _ hHeld (fun _ => ?_)
      clear hK K
      refine norm_ (a' := ?_) ?_ ?_
      rotate_left
      ·show Act.put _ (some 115) _ = _
       simp only [Act.put, u7a, u7b, u7c, i64_w, i32_w]
       rfl
      refine two_ (i := 8) (j := 14) (Ni := some 116) (Nj := some 122) #[true, true, true, true, true, true, true, true, true, true, true, true, true, true, false, false, false, false, false, false, false, false, false] #[true, true, true, true, true, true, true, true, false, true, true, true, true, true, true, false, false, false, false, false, false, false, false] rfl rfl rfl rfl (by kernel_rfl) (by decide) (by decide) (fun K hK => ?_) (fun K hK => ?_)
      ·skip
       refine Kd.S_append_step k46 (w0 := w0) w0.heap.size (by rfl) (.tmp 113) (.tmp 115) 25 46 (.agg #[.string ⟨#[]⟩, .int .i64 0, .slice none 0 0]) 48 rfl Try.underlying25 rinfo46 rfl (by decide) (by decide) (.slice Ao boxes.length co) boxes (⟨s, depth, []⟩ : S46) [Value.string s, Value.int .i64 depth, Value.slice none 0 0] (fun k_ => k_ ≠ g ∧ k_ ≠ gb) (fun k_ => False) (by rfl) (by rfl) ?aP ?aK ?aF ?aO HB18.out HB18.out.size ?aL ?_
       case aP => exact k46_mkM _ _ _ (⟨s, depth, []⟩ : S46) (Kd.R_nil _ _ _ _ _)
       case aK => exact fun k_ hk_ => hk_.elim
       case aF => exact fun k_ hk_ => ⟨fun he_ => Nat.not_lt.mpr hk_ (by rw [he_]; exact HGV.out), fun he_ => Nat.not_lt.mpr hk_ (by rw [he_]; exact HGBV.out)⟩
       case aO => exact Kd.S_mono HO18.out (fun k_ hk_ => ⟨⟨hk_.1, Nat.ne_of_lt hk_.2⟩, fun h_ => h_⟩)
       case aL => (have := HX.out; omega)
       intro v116 W8_ ho hb hg_ hat
       rw [← HBX.out] at ho
       have hHeld := And.intro ((hg_.block g HGV.out (fun he => ((Kd.S_R HO18.out).1 g he.symm).1 rfl)).trans hHeld0.1) ((hg_.block gb HGBV.out (fun he => Nat.lt_irrefl _ ((Kd.S_R HO18.out).1 gb he.symm).2)).trans hHeld0.2)
       have HO8 := u7e ho
       have HB8 := u7e hb
       obtain ⟨A41, c41, e41⟩ := Kd.S_slice ho
       subst e41
       clear ho hb hg_ hat
       refine hK.out _ _ hHeld (fun _ => ?_)
       clear hK K
       refine norm_ (a' := ?_) ?_ ?_
       rotate_left
       ·show Act.put _ (some 116) _ = _
        simp only [Act.put, u7a, u7b, u7c, i64_w, i32_w]
        rfl
       refine pure_ (i := 17) (N := some 125) (v := ?_) (a' := ?_) #[true, true, true, true, true, true, true, true, true, true, true, true, true, true, false, false, false, true, false, false, false, false, false] rfl rfl (by kernel_rfl) (fun _ _ _ h => h) (Or.inl ⟨by rfl, ?_⟩) ?_ ?_
       rotate_left
       ·intro w'
        go_simp
        with_reducible rfl
       rotate_left
       ·simp only [Act.put, u7a, u7b, u7c, i64_w, i32_w]
        rfl
       refine pure_ (i := 18) (N := some 126) (v := ?_) (a' := ?_) #[true, true, true, true, true, true, true, true, true, true, true, true, true, true, false, false, false, true, true, false, false, false, false] rfl rfl (by kernel_rfl) (fun _ _ _ h => h) (Or.inl ⟨by rfl, ?_⟩) ?_ ?_
       rotate_left
       ·intro w'
        go_simp
        with_reducible rfl
       rotate_left
       ·simp only [Act.put, u7a, u7b, u7c, i64_w, i32_w]
        rfl
       refine two_l (i := 14) (j := 19) (Ni := some 122) (Nj := none) #[true, true, true, true, true, true, true, true, true, true, true, true, true, true, true, false, false, true, true, false, false, false, false] #[true, true, true, true, true, true, true, true, true, true, true, true, true, true, false, false, false, true, true, true, false, false, false] rfl rfl rfl rfl (by kernel_rfl) (by decide) (by decide) (fun K hK => ?_) (fun K hK => ?_)
       ·skip
        have hcl_ : W8_.cell? ⟨gb, 2, none⟩ = some (Value.slice none 0 0) := (blk_cell hHeld.2 2).trans rfl
        refine value_ (N := some 122) (v := Value.slice none 0 0) (w1 := W8_) (by rfl) rfl (by first | (go_simp; done) | (go_simp; rfl)) ?_
        refine hK.out _ _ hHeld (fun _ => ?_)
        clear hK K
        refine norm_ (a' := ?_) ?_ ?_
        rotate_left
        ·show Act.put _ (some 122) _ = _
         simp only [Act.put, u7a, u7b, u7c, i64_w, i32_w]
         rfl
        clear hcl_
        refine pure_ (i := 15) (N := some 123) (v := ?_) (a' := ?_) #[true, true, true, true, true, true, true, true, true, true, true, true, true, true, true, true, false, true, true, false, false, false, false] rfl rfl (by kernel_rfl) (fun _ _ _ h => h) (Or.inl ⟨by rfl, ?_⟩) ?_ ?_
        rotate_left
        ·intro w'
         go_simp
         with_reducible rfl
        rotate_left
        ·simp only [Act.put, u7a, u7b, u7c, i64_w, i32_w]
         rfl
        refine pure_ (i := 16) (N := some 124) (v := ?_) (a' := ?_) #[true, true, true, true, true, true, true, true, true, true, true, true, true, true, true, true, true, true, true, false, false, false, false] rfl rfl (by kernel_rfl) (fun _ _ _ h => h) (Or.inl ⟨by rfl, ?_⟩) ?_ ?_
        rotate_left
        ·intro w'
         go_simp
         with_reducible rfl
        rotate_left
        ·simp only [Act.put, u7a, u7b, u7c, i64_w, i32_w]
         rfl
        refine last_ (i := 19) (N := none) #[true, true, true, true, true, true, true, true, true, true, true, true, true, true, true, true, true, true, true, true, false, false, false] rfl rfl (by kernel_rfl) (by decide) (fun K hK => ?_)
        refine put_blk_step (by rfl) rfl rfl (g := g) (off := 1) (cur := #[Value.slice (some ad) bs.length cb, Value.slice Ao boxes.length co, Value.int .i64 data, Value.int .i64 0, Value.int .i64 0]) (cur' := #[Value.slice (some ad) bs.length cb, Value.slice A41 bx.length c41, Value.int .i64 data, Value.int .i64 0, Value.int .i64 0]) (u := Value.slice A41 bx.length c41) (seg := [Value.slice A41 bx.length c41]) (by rfl) (by rfl) hHeld.1 rfl (by kernel_rfl) (Nat.le_of_ble_eq_true rfl) (by intro q_ hq_; simp only [List.mem_cons, List.not_mem_nil, or_false] at hq_; rcases hq_ with rfl <;> rfl) (by rfl) ?_
        intro W19_ h1_ h2_ h3_
        have HG19 := u7e h1_
        have HBK19 := u7e ((h2_ gb (Nat.ne_of_gt HGB.out)).trans hHeld.2)
        have HO19 := u7e (Kd.S_step HO8.out (fun k_ hk_ _ => h2_ k_ hk_.1))
        have HB19 := u7e (h3_ _ _ HG0.out HB8.out)
        clear h1_ h2_ h3_ HO8 HB8
        refine hK.out _ _ ?_
        clear hK K hHeld
        refine pure_ (i := 20) (N := some 127) (v := ?_) (a' := ?_) #[true, true, true, true, true, true, true, true, true, true, true, true, true, true, true, true, true, true, true, true, true, false, false] rfl rfl (by kernel_rfl) (fun _ _ _ h => h) (Or.inl ⟨by rfl, ?_⟩) ?_ ?_
        rotate_left
        ·intro w'
         go_simp
         with_reducible rfl
        rotate_left
        ·simp only [Act.put, u7a, u7b, u7c, i64_w, i32_w]
         rfl
        refine pure_ (i := 21) (N := some 128) (v := ?_) (a' := ?_) #[true, true, true, true, true, true, true, true, true, true, true, true, true, true, true, true, true, true, true, true, true, true, false] rfl rfl (by kernel_rfl) (fun _ _ _ h => h) (Or.inl ⟨by rfl, ?_⟩) ?_ ?_
        rotate_left
        ·intro w'
         go_simp
         with_reducible rfl
        rotate_left
        ·simp only [Act.put, u7a, u7b, u7c, i64_w, i32_w]
         rfl
        refine last_ (i := 22) (N := none) #[true, true, true, true, true, true, true, true, true, true, true, true, true, true, true, true, true, true, true, true, true, true, true] rfl rfl (by kernel_rfl) (by decide) (fun K hK => ?_)
        refine put_blk_step (by rfl) rfl rfl (g := g) (off := 2) (cur := #[Value.slice (some ad) bs.length cb, Value.slice A41 bx.length c41, Value.int .i64 data, Value.int .i64 0, Value.int .i64 0]) (cur' := #[Value.slice (some ad) bs.length cb, Value.slice A41 bx.length c41, Value.int .i64 data, Value.int .i64 0, Value.int .i64 0]) (u := Value.int .i64 data) (seg := [Value.int .i64 data]) (by rfl) (by rfl) HG19.out rfl (by kernel_rfl) (Nat.le_of_ble_eq_true rfl) (by intro q_ hq_; simp only [List.mem_cons, List.not_mem_nil, or_false] at hq_; rcases hq_ with rfl <;> rfl) (by rfl) ?_
        intro W20_ h1_ h2_ h3_
        have HBK20 := (h2_ gb (Nat.ne_of_gt HGB.out)).trans HBK19.out
        have HO20 := Kd.S_step HO19.out (fun k_ hk_ _ => h2_ k_ hk_.1)
        have HB20 := h3_ _ _ HG0.out HB19.out
        refine hK.out _ _ ?_
        clear hK K
        exact norm_ (by (simp only [putAll, Act.put, u7a, u7b, u7c]); first | done | rfl) (hCont (A41, c41) _ ⟨h1_, HBK20, HO20, HB20⟩)
       ·skip
        refine put_blk_step (by rfl) rfl rfl (g := g) (off := 1) (cur := #[Value.slice (some ad) bs.length cb, Value.slice Ao boxes.length co, Value.int .i64 data, Value.int .i64 0, Value.int .i64 0]) (cur' := #[Value.slice (some ad) bs.length cb, Value.slice A41 bx.length c41, Value.int .i64 data, Value.int .i64 0, Value.int .i64 0]) (u := Value.slice A41 bx.length c41) (seg := [Value.slice A41 bx.length c41]) (by rfl) (by rfl) hHeld.1 rfl (by kernel_rfl) (Nat.le_of_ble_eq_true rfl) (by intro q_ hq_; simp only [List.mem_cons, List.not_mem_nil, or_false] at hq_; rcases hq_ with rfl <;> rfl) (by rfl) ?_
        intro W19_ h1_ h2_ h3_
        have HG19 := u7e h1_
        have HBK19 := u7e ((h2_ gb (Nat.ne_of_gt HGB.out)).trans hHeld.2)
        have HO19 := u7e (Kd.S_step HO8.out (fun k_ hk_ _ => h2_ k_ hk_.1))
        have HB19 := u7e (h3_ _ _ HG0.out HB8.out)
        clear h1_ h2_ h3_ HO8 HB8
        refine hK.out _ _ ?_
        clear hK K hHeld
        refine one_n (i := 14) (N := some 122) #[true, true, true, true, true, true, true, true, true, true, true, true, true, true, true, false, false, true, true, true, false, false, false] rfl rfl (by kernel_rfl) (fun h_ => by have h2_ := h_.1; rw [HG19.out] at h2_; have h3_ := HBL.out; simp at h2_; omega) (fun K hK => ?_)
        have hcl_ : W19_.cell? ⟨gb, 2, none⟩ = some (Value.slice none 0 0) := (blk_cell HBK19.out 2).trans rfl
        refine value_ (N := some 122) (v := Value.slice none 0 0) (w1 := W19_) (by rfl) rfl (by first | (go_simp; done) | (go_simp; rfl)) ?_
        refine hK.out _ _ ?_
        clear hK K
        refine norm_ (a' := ?_) ?_ ?_
        rotate_left
        ·show Act.put _ (some 122) _ = _
         simp only [Act.put, u7a, u7b, u7c, i64_w, i32_w]
         rfl
        clear hcl_
        refine pure_ (i := 15) (N := some 123) (v := ?_) (a' := ?_) #[true, true, true, true, true, true, true, true, true, true, true, true, true, true, true, true, false, true, true, true, false, false, false] rfl rfl (by kernel_rfl) (fun _ _ _ h => h) (Or.inl ⟨by rfl, ?_⟩) ?_ ?_
        rotate_left
        ·intro w'
         go_simp
         with_reducible rfl
        rotate_left
        ·simp only [Act.put, u7a, u7b, u7c, i64_w, i32_w]
         rfl
        refine pure_ (i := 16) (N := some 124) (v := ?_) (a' := ?_) #[true, true, true, true, true, true, true, true, true, true, true, true, true, true, true, true, true, true, true, true, false, false, false] rfl rfl (by kernel_rfl) (fun _ _ _ h => h) (Or.inl ⟨by rfl, ?_⟩) ?_ ?_
        rotate_left
        ·intro w'
         go_simp
         with_reducible rfl
        rotate_left
        ·simp only [Act.put, u7a, u7b, u7c, i64_w, i32_w]
         rfl
        refine pure_ (i := 20) (N := some 127) (v := ?_) (a' := ?_) #[true, true, true, true, true, true, true, true, true, true, true, true, true, true, true, true, true, true, true, true, true, false, false] rfl rfl (by kernel_rfl) (fun _ _ _ h => h) (Or.inl ⟨by rfl, ?_⟩) ?_ ?_
        rotate_left
        ·intro w'
         go_simp
         with_reducible rfl
        rotate_left
        ·simp only [Act.put, u7a, u7b, u7c, i64_w, i32_w]
         rfl
        refine pure_ (i := 21) (N := some 128) (v := ?_) (a' := ?_) #[true, true, true, true, true, true, true, true, true, true, true, true, true, true, true, true, true, true, true, true, true, true, false] rfl rfl (by kernel_rfl) (fun _ _ _ h => h) (Or.inl ⟨by rfl, ?_⟩) ?_ ?_
        rotate_left
        ·intro w'
         go_simp
         with_reducible rfl
        rotate_left
        ·simp only [Act.put, u7a, u7b, u7c, i64_w, i32_w]
         rfl
        refine last_ (i := 22) (N := none) #[true, true, true, true, true, true, true, true, true, true, true, true, true, true, true, true, true, true, true, true, true, true, true] rfl rfl (by kernel_rfl) (by decide) (fun K hK => ?_)
        refine put_blk_step (by rfl) rfl rfl (g := g) (off := 2) (cur := #[Value.slice (some ad) bs.length cb, Value.slice A41 bx.length c41, Value.int .i64 data, Value.int .i64 0, Value.int .i64 0]) (cur' := #[Value.slice (some ad) bs.length cb, Value.slice A41 bx.length c41, Value.int .i64 data, Value.int .i64 0, Value.int .i64 0]) (u := Value.int .i64 data) (seg := [Value.int .i64 data]) (by rfl) (by rfl) HG19.out rfl (by kernel_rfl) (Nat.le_of_ble_eq_true rfl) (by intro q_ hq_; simp only [List.mem_cons, List.not_mem_nil, or_false] at hq_; rcases hq_ with rfl <;> rfl) (by rfl) ?_
        intro W20_ h1_ h2_ h3_
        have HBK20 := (h2_ gb (Nat.ne_of_gt HGB.out)).trans HBK19.out
        have HO20 := Kd.S_step HO19.out (fun k_ hk_ _ => h2_ k_ hk_.1)
        have HB20 := h3_ _ _ HG0.out HB19.out
        refine hK.out _ _ ?_
        clear hK K
        exact norm_ (by (simp only [putAll, Act.put, u7a, u7b, u7c]); first | done | rfl) (hCont (A41, c41) _ ⟨h1_, HBK20, HO20, HB20⟩)
      ·skip
       have hcl_ : (V.alloc (.cells [Value.string s, Value.int .i64 depth, Value.slice none 0 0].toArray 46)).cell? ⟨gb, 2, none⟩ = some (Value.slice none 0 0) := (blk_cell hHeld.2 2).trans rfl
       refine value_ (N := some 122) (v := Value.slice none 0 0) (w1 := (V.alloc (.cells [Value.string s, Value.int .i64 depth, Value.slice none 0 0].toArray 46))) (by rfl) rfl (by first | (go_simp; done) | (go_simp; rfl)) ?_
       refine hK.out _ _ hHeld (fun _ => ?_)
       clear hK K
       refine norm_ (a' := ?_) ?_ ?_
       rotate_left
       ·show Act.put _ (some 122) _ = _
        simp only [Act.put, u7a, u7b, u7c, i64_w, i32_w]
        rfl
       clear hcl_
       refine pure_ (i := 15) (N := some 123) (v := ?_) (a' := ?_) #[true, true, true, true, true, true, true, true, false, true, true, true, true, true, true, true, false, false, false, false, false, false, false] rfl rfl (by kernel_rfl) (fun _ _ _ h => h) (Or.inl ⟨by rfl, ?_⟩) ?_ ?_
       rotate_left
       ·intro w'
        go_simp
        with_reducible rfl
       rotate_left
       ·simp only [Act.put, u7a, u7b, u7c, i64_w, i32_w]
        rfl
       refine pure_ (i := 16) (N := some 124) (v := ?_) (a' := ?_) #[true, true, true, true, true, true, true, true, false, true, true, true, true, true, true, true, true, false, false, false, false, false, false] rfl rfl (by kernel_rfl) (fun _ _ _ h => h) (Or.inl ⟨by rfl, ?_⟩) ?_ ?_
       rotate_left
       ·intro w'
        go_simp
        with_reducible rfl
       rotate_left
       ·simp only [Act.put, u7a, u7b, u7c, i64_w, i32_w]
        rfl
       refine one_ (i := 8) (N := some 116) #[true, true, true, true, true, true, true, true, true, true, true, true, true, true, true, true, true, false, false, false, false, false, false] rfl rfl (by kernel_rfl) (by decide) (fun K hK => ?_)
       refine Kd.S_append_step k46 (w0 := w0) w0.heap.size (by rfl) (.tmp 113) (.tmp 115) 25 46 (.agg #[.string ⟨#[]⟩, .int .i64 0, .slice none 0 0]) 48 rfl Try.underlying25 rinfo46 rfl (by decide) (by decide) (.slice Ao boxes.length co) boxes (⟨s, depth, []⟩ : S46) [Value.string s, Value.int .i64 depth, Value.slice none 0 0] (fun k_ => k_ ≠ g ∧ k_ ≠ gb) (fun k_ => False) (by rfl) (by rfl) ?aP ?aK ?aF ?aO HB18.out HB18.out.size ?aL ?_
       case aP => exact k46_mkM _ _ _ (⟨s, depth, []⟩ : S46) (Kd.R_nil _ _ _ _ _)
       case aK => exact fun k_ hk_ => hk_.elim
       case aF => exact fun k_ hk_ => ⟨fun he_ => Nat.not_lt.mpr hk_ (by rw [he_]; exact HGV.out), fun he_ => Nat.not_lt.mpr hk_ (by rw [he_]; exact HGBV.out)⟩
       case aO => exact Kd.S_mono HO18.out (fun k_ hk_ => ⟨⟨hk_.1, Nat.ne_of_lt hk_.2⟩, fun h_ => h_⟩)
       case aL => (have := HX.out; omega)
       intro v116 W8_ ho hb hg_ hat
       rw [← HBX.out] at ho
       have hHeld := And.intro ((hg_.block g HGV.out (fun he => ((Kd.S_R HO18.out).1 g he.symm).1 rfl)).trans hHeld0.1) ((hg_.block gb HGBV.out (fun he => Nat.lt_irrefl _ ((Kd.S_R HO18.out).1 gb he.symm).2)).trans hHeld0.2)
       have HO8 := u7e ho
       have HB8 := u7e hb
       obtain ⟨A41, c41, e41⟩ := Kd.S_slice ho
       subst e41
       clear ho hb hg_ hat
       refine hK.out _ _ hHeld (fun _ => ?_)
       clear hK K
       refine norm_ (a' := ?_) ?_ ?_
       rotate_left
       ·show Act.put _ (some 116) _ = _
        simp only [Act.put, u7a, u7b, u7c, i64_w, i32_w]
        rfl
       refine pure_ (i := 17) (N := some 125) (v := ?_) (a' := ?_) #[true, true, true, true, true, true, true, true, true, true, true, true, true, true, true, true, true, true, false, false, false, false, false] rfl rfl (by kernel_rfl) (fun _ _ _ h => h) (Or.inl ⟨by rfl, ?_⟩) ?_ ?_
       rotate_left
       ·intro w'
        go_simp
        with_reducible rfl
       rotate_left
       ·simp only [Act.put, u7a, u7b, u7c, i64_w, i32_w]
        rfl
       refine pure_ (i := 18) (N := some 126) (v := ?_) (a' := ?_) #[true, true, true, true, true, true, true, true, true, true, true, true, true, true, true, true, true, true, true, false, false, false, false] rfl rfl (by kernel_rfl) (fun _ _ _ h => h) (Or.inl ⟨by rfl, ?_⟩) ?_ ?_
       rotate_left
       ·intro w'
        go_simp
        with_reducible rfl
       rotate_left
       ·simp only [Act.put, u7a, u7b, u7c, i64_w, i32_w]
        rfl
       refine last_ (i := 19) (N := none) #[true, true, true, true, true, true, true, true, true, true, true, true, true, true, true, true, true, true, true, true, false, false, false] rfl rfl (by kernel_rfl) (by decide) (fun K hK => ?_)
       refine put_blk_step (by rfl) rfl rfl (g := g) (off := 1) (cur := #[Value.slice (some ad) bs.length cb, Value.slice Ao boxes.length co, Value.int .i64 data, Value.int .i64 0, Value.int .i64 0]) (cur' := #[Value.slice (some ad) bs.length cb, Value.slice A41 bx.length c41, Value.int .i64 data, Value.int .i64 0, Value.int .i64 0]) (u := Value.slice A41 bx.length c41) (seg := [Value.slice A41 bx.length c41]) (by rfl) (by rfl) hHeld.1 rfl (by kernel_rfl) (Nat.le_of_ble_eq_true rfl) (by intro q_ hq_; simp only [List.mem_cons, List.not_mem_nil, or_false] at hq_; rcases hq_ with rfl <;> rfl) (by rfl) ?_
       intro W19_ h1_ h2_ h3_
       have HG19 := u7e h1_
       have HBK19 := u7e ((h2_ gb (Nat.ne_of_gt HGB.out)).trans hHeld.2)
       have HO19 := u7e (Kd.S_step HO8.out (fun k_ hk_ _ => h2_ k_ hk_.1))
       have HB19 := u7e (h3_ _ _ HG0.out HB8.out)
       clear h1_ h2_ h3_ HO8 HB8
       refine hK.out _ _ ?_
       clear hK K hHeld
       refine pure_ (i := 20) (N := some 127) (v := ?_) (a' := ?_) #[true, true, true, true, true, true, true, true, true, true, true, true, true, true, true, true, true, true, true, true, true, false, false] rfl rfl (by kernel_rfl) (fun _ _ _ h => h) (Or.inl ⟨by rfl, ?_⟩) ?_ ?_
       rotate_left
       ·intro w'
        go_simp
        with_reducible rfl
       rotate_left
       ·simp only [Act.put, u7a, u7b, u7c, i64_w, i32_w]
        rfl
       refine pure_ (i := 21) (N := some 128) (v := ?_) (a' := ?_) #[true, true, true, true, true, true, true, true, true, true, true, true, true, true, true, true, true, true, true, true, true, true, false] rfl rfl (by kernel_rfl) (fun _ _ _ h => h) (Or.inl ⟨by rfl, ?_⟩) ?_ ?_
       rotate_left
       ·intro w'
        go_simp
        with_reducible rfl
       rotate_left
       ·simp only [Act.put, u7a, u7b, u7c, i64_w, i32_w]
        rfl
       refine last_ (i := 22) (N := none) #[true, true, true, true, true, true, true, true, true, true, true, true, true, true, true, true, true, true, true, true, true, true, true] rfl rfl (by kernel_rfl) (by decide) (fun K hK => ?_)
       refine put_blk_step (by rfl) rfl rfl (g := g) (off := 2) (cur := #[Value.slice (some ad) bs.length cb, Value.slice A41 bx.length c41, Value.int .i64 data, Value.int .i64 0, Value.int .i64 0]) (cur' := #[Value.slice (some ad) bs.length cb, Value.slice A41 bx.length c41, Value.int .i64 data, Value.int .i64 0, Value.int .i64 0]) (u := Value.int .i64 data) (seg := [Value.int .i64 data]) (by rfl) (by rfl) HG19.out rfl (by kernel_rfl) (Nat.le_of_ble_eq_true rfl) (by intro q_ hq_; simp only [List.mem_cons, List.not_mem_nil, or_false] at hq_; rcases hq_ with rfl <;> rfl) (by rfl) ?_
       intro W20_ h1_ h2_ h3_
       have HBK20 := (h2_ gb (Nat.ne_of_gt HGB.out)).trans HBK19.out
       have HO20 := Kd.S_step HO19.out (fun k_ hk_ _ => h2_ k_ hk_.1)
       have HB20 := h3_ _ _ HG0.out HB19.out
       refine hK.out _ _ ?_
       clear hK K
       exact norm_ (by (simp only [putAll, Act.put, u7a, u7b, u7c]); first | done | rfl) (hCont (A41, c41) _ ⟨h1_, HBK20, HO20, HB20⟩)
     ·skip
      have hcl_ : V.cell? ⟨gb, 2, none⟩ = some (Value.slice none 0 0) := (blk_cell hHeld.2 2).trans rfl
      refine value_ (N := some 122) (v := Value.slice none 0 0) (w1 := V) (by rfl) rfl (by first | (go_simp; done) | (go_simp; rfl)) ?_
      refine hK.out _ _ hHeld (fun _ => ?_)
      clear hK K
      refine norm_ (a' := ?_) ?_ ?_
      rotate_left
      ·show Act.put _ (some 122) _ = _
       simp only [Act.put, u7a, u7b, u7c, i64_w, i32_w]
       rfl
      clear hcl_
      refine pure_ (i := 15) (N := some 123) (v := ?_) (a' := ?_) #[true, true, true, true, true, true, true, false, false, true, true, true, true, true, true, true, false, false, false, false, false, false, false] rfl rfl (by kernel_rfl) (fun _ _ _ h => h) (Or.inl ⟨by rfl, ?_⟩) ?_ ?_
      rotate_left
      ·intro w'
       go_simp
       with_reducible rfl
      rotate_left
      ·simp only [Act.put, u7a, u7b, u7c, i64_w, i32_w]
       rfl
      refine pure_ (i := 16) (N := some 124) (v := ?_) (a' := ?_) #[true, true, true, true, true, true, true, false, false, true, true, true, true, true, true, true, true, false, false, false, false, false, false] rfl rfl (by kernel_rfl) (fun _ _ _ h => h) (Or.inl ⟨by rfl, ?_⟩) ?_ ?_
      rotate_left
      ·intro w'
       go_simp
       with_reducible rfl
      rotate_left
      ·simp only [Act.put, u7a, u7b, u7c, i64_w, i32_w]
       rfl
      refine one_ (i := 7) (N := some 115) #[true, true, true, true, true, true, true, true, false, true, true, true, true, true, true, true, true, false, false, false, false, false, false] rfl rfl (by kernel_rfl) (by decide) (fun K hK => ?_)
      refine event_step (W := V) (v := .slice (some ⟨V.heap.size, 0, none⟩) 1 1) (w1 := V.alloc (.cells [Value.string s, Value.int .i64 depth, Value.slice none 0 0].toArray 46)) (by rfl) (by first | (go_simp; done) | (go_simp; rfl)) ?_
      have hHeld := And.intro (blk_alloc hHeld.1 (.cells [Value.string s, Value.int .i64 depth, Value.slice none 0 0].toArray 46)) (blk_alloc hHeld.2 (.cells [Value.string s, Value.int .i64 depth, Value.slice none 0 0].toArray 46))
      refine hK.out _ _ hHeld (fun _ => ?_)
      clear hK K
      refine norm_ (a' := ?_) ?_ ?_
      rotate_left
      ·show Act.put _ (some 115) _ = _
       simp only [Act.put, u7a, u7b, u7c, i64_w, i32_w]
       rfl
      refine one_ (i := 8) (N := some 116) #[true, true, true, true, true, true, true, true, true, true, true, true, true, true, true, true, true, false, false, false, false, false, false] rfl rfl (by kernel_rfl) (by decide) (fun K hK => ?_)
      refine Kd.S_append_step k46 (w0 := w0) w0.heap.size (by rfl) (.tmp 113) (.tmp 115) 25 46 (.agg #[.string ⟨#[]⟩, .int .i64 0, .slice none 0 0]) 48 rfl Try.underlying25 rinfo46 rfl (by decide) (by decide) (.slice Ao boxes.length co) boxes (⟨s, depth, []⟩ : S46) [Value.string s, Value.int .i64 depth, Value.slice none 0 0] (fun k_ => k_ ≠ g ∧ k_ ≠ gb) (fun k_ => False) (by rfl) (by rfl) ?aP ?aK ?aF ?aO HB18.out HB18.out.size ?aL ?_
      case aP => exact k46_mkM _ _ _ (⟨s, depth, []⟩ : S46) (Kd.R_nil _ _ _ _ _)
      case aK => exact fun k_ hk_ => hk_.elim
      case aF => exact fun k_ hk_ => ⟨fun he_ => Nat.not_lt.mpr hk_ (by rw [he_]; exact HGV.out), fun he_ => Nat.not_lt.mpr hk_ (by rw [he_]; exact HGBV.out)⟩
      case aO => exact Kd.S_mono HO18.out (fun k_ hk_ => ⟨⟨hk_.1, Nat.ne_of_lt hk_.2⟩, fun h_ => h_⟩)
      case aL => (have := HX.out; omega)
      intro v116 W8_ ho hb hg_ hat
      rw [← HBX.out] at ho
      have hHeld := And.intro ((hg_.block g HGV.out (fun he => ((Kd.S_R HO18.out).1 g he.symm).1 rfl)).trans hHeld0.1) ((hg_.block gb HGBV.out (fun he => Nat.lt_irrefl _ ((Kd.S_R HO18.out).1 gb he.symm).2)).trans hHeld0.2)
      have HO8 := u7e ho
      have HB8 := u7e hb
      obtain ⟨A41, c41, e41⟩ := Kd.S_slice ho
      subst e41
      clear ho hb hg_ hat
      refine hK.out _ _ hHeld (fun _ => ?_)
      clear hK K
      refine norm_ (a' := ?_) ?_ ?_
      rotate_left
      ·show Act.put _ (some 116) _ = _
       simp only [Act.put, u7a, u7b, u7c, i64_w, i32_w]
       rfl
      refine pure_ (i := 17) (N := some 125) (v := ?_) (a' := ?_) #[true, true, true, true, true, true, true, true, true, true, true, true, true, true, true, true, true, true, false, false, false, false, false] rfl rfl (by kernel_rfl) (fun _ _ _ h => h) (Or.inl ⟨by rfl, ?_⟩) ?_ ?_
      rotate_left
      ·intro w'
       go_simp
       with_reducible rfl
      rotate_left
      ·simp only [Act.put, u7a, u7b, u7c, i64_w, i32_w]
       rfl
      refine pure_ (i := 18) (N := some 126) (v := ?_) (a' := ?_) #[true, true, true, true, true, true, true, true, true, true, true, true, true, true, true, true, true, true, true, false, false, false, false] rfl rfl (by kernel_rfl) (fun _ _ _ h => h) (Or.inl ⟨by rfl, ?_⟩) ?_ ?_
      rotate_left
      ·intro w'
       go_simp
       with_reducible rfl
      rotate_left
      ·simp only [Act.put, u7a, u7b, u7c, i64_w, i32_w]
       rfl
      refine last_ (i := 19) (N := none) #[true, true, true, true, true, true, true, true, true, true, true, true, true, true, true, true, true, true, true, true, false, false, false] rfl rfl (by kernel_rfl) (by decide) (fun K hK => ?_)
      refine put_blk_step (by rfl) rfl rfl (g := g) (off := 1) (cur := #[Value.slice (some ad) bs.length cb, Value.slice Ao boxes.length co, Value.int .i64 data, Value.int .i64 0, Value.int .i64 0]) (cur' := #[Value.slice (some ad) bs.length cb, Value.slice A41 bx.length c41, Value.int .i64 data, Value.int .i64 0, Value.int .i64 0]) (u := Value.slice A41 bx.length c41) (seg := [Value.slice A41 bx.length c41]) (by rfl) (by rfl) hHeld.1 rfl (by kernel_rfl) (Nat.le_of_ble_eq_true rfl) (by intro q_ hq_; simp only [List.mem_cons, List.not_mem_nil, or_false] at hq_; rcases hq_ with rfl <;> rfl) (by rfl) ?_
      intro W19_ h1_ h2_ h3_
      have HG19 := u7e h1_
      have HBK19 := u7e ((h2_ gb (Nat.ne_of_gt HGB.out)).trans hHeld.2)
      have HO19 := u7e (Kd.S_step HO8.out (fun k_ hk_ _ => h2_ k_ hk_.1))
      have HB19 := u7e (h3_ _ _ HG0.out HB8.out)
      clear h1_ h2_ h3_ HO8 HB8
      refine hK.out _ _ ?_
      clear hK K hHeld
      refine pure_ (i := 20) (N := some 127) (v := ?_) (a' := ?_) #[true, true, true, true, true, true, true, true, true, true, true, true, true, true, true, true, true, true, true, true, true, false, false] rfl rfl (by kernel_rfl) (fun _ _ _ h => h) (Or.inl ⟨by rfl, ?_⟩) ?_ ?_
      rotate_left
      ·intro w'
       go_simp
       with_reducible rfl
      rotate_left
      ·simp only [Act.put, u7a, u7b, u7c, i64_w, i32_w]
       rfl
      refine pure_ (i := 21) (N := some 128) (v := ?_) (a' := ?_) #[true, true, true, true, true, true, true, true, true, true, true, true, true, true, true, true, true, true, true, true, true, true, false] rfl rfl (by kernel_rfl) (fun _ _ _ h => h) (Or.inl ⟨by rfl, ?_⟩) ?_ ?_
      rotate_left
      ·intro w'
       go_simp
       with_reducible rfl
      rotate_left
      ·simp only [Act.put, u7a, u7b, u7c, i64_w, i32_w]
       rfl
      refine last_ (i := 22) (N := none) #[true, true, true, true, true, true, true, true, true, true, true, true, true, true, true, true, true, true, true, true, true, true, true] rfl rfl (by kernel_rfl) (by decide) (fun K hK => ?_)
      refine put_blk_step (by rfl) rfl rfl (g := g) (off := 2) (cur := #[Value.slice (some ad) bs.length cb, Value.slice A41 bx.length c41, Value.int .i64 data, Value.int .i64 0, Value.int .i64 0]) (cur' := #[Value.slice (some ad) bs.length cb, Value.slice A41 bx.length c41, Value.int .i64 data, Value.int .i64 0, Value.int .i64 0]) (u := Value.int .i64 data) (seg := [Value.int .i64 data]) (by rfl) (by rfl) HG19.out rfl (by kernel_rfl) (Nat.le_of_ble_eq_true rfl) (by intro q_ hq_; simp only [List.mem_cons, List.not_mem_nil, or_false] at hq_; rcases hq_ with rfl <;> rfl) (by rfl) ?_
      intro W20_ h1_ h2_ h3_
      have HBK20 := (h2_ gb (Nat.ne_of_gt HGB.out)).trans HBK19.out
      have HO20 := Kd.S_step HO19.out (fun k_ hk_ _ => h2_ k_ hk_.1)
      have HB20 := h3_ _ _ HG0.out HB19.out
      refine hK.out _ _ ?_
      clear hK K
      exact norm_ (by (simp only [putAll, Act.put, u7a, u7b, u7c]); first | done | rfl) (hCont (A41, c41) _ ⟨h1_, HBK20, HO20, HB20⟩)
    clear hHeld HO18 HB18 HGV HGBV
    rintro ⟨A41, c41⟩ W20_ ⟨h1_, h2_, h3_, h4_⟩
    dsimp only at h1_ h3_ ⊢
    have HG20 := u7e h1_
    have HBK20 := u7e h2_
    have HO20 := u7e h3_
    have HB20 := u7e h4_
    clear h1_ h2_ h3_ h4_
    refine norm_ (a' := ?_) ?_ ?_
    rotate_left
    ·simp only [putAll, Act.put, u7a, u7b, u7c]
     rfl
    refine done_ (by kernel_rfl) ?_
    have hv200_ : W20_.cell? ⟨gb, 0, none⟩ = some (Value.string s) := (blk_cell HBK20.out 0).trans rfl
    have hv201_ : W20_.cell? ⟨gb, 1, none⟩ = some (Value.int .i64 depth) := (blk_cell HBK20.out 1).trans rfl
    have hv202_ : W20_.cell? ⟨gb, 2, none⟩ = some (Value.slice none 0 0) := (blk_cell HBK20.out 2).trans rfl
    have hu200_ : W20_.cell? ⟨g, 0, none⟩ = some (Value.slice (some ad) bs.length cb) := (blk_cell HG20.out 0).trans rfl
    have hu201_ : W20_.cell? ⟨g, 1, none⟩ = some (Value.slice A41 bx.length c41) := (blk_cell HG20.out 1).trans rfl
    have hu202_ : W20_.cell? ⟨g, 2, none⟩ = some (Value.int .i64 data) := (blk_cell HG20.out 2).trans rfl
    have hu203_ : W20_.cell? ⟨g, 3, none⟩ = some (Value.int .i64 0) := (blk_cell HG20.out 3).trans rfl
    have hu204_ : W20_.cell? ⟨g, 4, none⟩ = some (Value.int .i64 0) := (blk_cell HG20.out 4).trans rfl
    by_cases c9 : cd2 = 0
    ·have HDIS : Aside0 (rdr k1 bs b2 d2 pn en depth = some r) := ⟨by have h_ := HR2.out; rw [if_pos c9] at h_; exact h_⟩
     have HDEC : Aside0 (decide ((b2, d2, cd2, f2).2.2.1 = 0) = true) := ⟨by simpa using c9⟩
     have HC0_ := u7e c9
     have HF0_ := u7e (HCD.out c9)
     clear c9
     go_wp2_with (first | ((with_reducible refine gate_dst (N := 130) rfl ?_); refine goesL_ (some 130) rfl rfl Try.func49 (by kernel_rfl) rfl #[.agg #[Value.string s, Value.int .i64 depth, Value.slice none 0 0]] rfl (by (try simp only [List.map_toArray, List.map_cons, List.map_nil]); first | done | rfl) ?_; (refine (impl_Box_holds.calls s depth none 0 [] true _ (by exact Kd.C_nil _ _) (by exact Nat.le_refl _) HH.out).mono ?_); rintro e_ W21_ ⟨rfl, hb_⟩; refine ⟨_, rfl, ?_⟩; have HBK21 := u7e (blk_below HBK20.out hb_); have HG21 := u7e (blk_below HG20.out hb_); have HO21 := u7e (Kd.S_below HO20.out hb_); have HB21 := u7e (below_step HB20.out hb_); have hv210_ : W21_.cell? ⟨gb, 0, none⟩ = some (Value.string s) := (blk_cell HBK21.out 0).trans rfl; have hv211_ : W21_.cell? ⟨gb, 1, none⟩ = some (Value.int .i64 depth) := (blk_cell HBK21.out 1).trans rfl; have hv212_ : W21_.cell? ⟨gb, 2, none⟩ = some (Value.slice none 0 0) := (blk_cell HBK21.out 2).trans rfl; have hu210_ : W21_.cell? ⟨g, 0, none⟩ = some (Value.slice (some ad) bs.length cb) := (blk_cell HG21.out 0).trans rfl; have hu211_ : W21_.cell? ⟨g, 1, none⟩ = some (Value.slice A41 bx.length c41) := (blk_cell HG21.out 1).trans rfl; have hu212_ : W21_.cell? ⟨g, 2, none⟩ = some (Value.int .i64 data) := (blk_cell HG21.out 2).trans rfl; have hu213_ : W21_.cell? ⟨g, 3, none⟩ = some (Value.int .i64 0) := (blk_cell HG21.out 3).trans rfl; have hu214_ : W21_.cell? ⟨g, 4, none⟩ = some (Value.int .i64 0) := (blk_cell HG21.out 4).trans rfl; have HO21b := u7e (Kd.S_mono HO21.out (fun _ hk_ => hk_.1)); clear hb_) | ((with_reducible refine gate_dst (N := 140) rfl ?_); (refine gate_guard (by rfl) ?_; dsimp only); refine goesL_ (some 140) rfl rfl Try.func51 (by kernel_rfl) rfl #[.pointer (some ⟨g, 0, none⟩), .int .i64 (a8 : Int), .int .i64 (pn : Int), .int .i64 dp] rfl (by (try simp only [List.map_toArray, List.map_cons, List.map_nil]); first | done | rfl) ?_; (with_reducible refine (HREC.out (.slice A41 bx.length c41) W21_ HB21.out HG21.out HO21b.out).mono ?_); rintro e_ W22_ ⟨he_, vo4, h1_, h2_, h3_⟩; rw [HDEC.out] at he_; obtain rfl := he_; refine ⟨_, rfl, ?_⟩; have HG22 := u7e h1_; have HO22 := u7e h2_; have HB22 := u7e h3_; clear h1_ h2_ h3_))
     go_roundg k1
     case measure => omega
     case rel => exact ⟨b2, d2, vo4, pn, (by first | rfl | (simp; done) | (simp [*]; done)), HDIS, ⟨by have := HKL.out; omega⟩, ⟨by have h_ := HG22.out; (try dsimp only at h_); rw [HC0_.out, HF0_.out] at h_; exact h_⟩, HO22, HB22, ⟨by have := HPL.out; omega, HBB.out.2.1, HBB.out.2.2, HBB.out.1⟩⟩
    ·have HDIS : Aside0 (r = (b2, d2, cd2, f2)) := ⟨by have h_ := HR2.out; rw [if_neg c9] at h_; exact (Option.some.inj h_).symm⟩
     have HDEC : Aside0 (decide ((b2, d2, cd2, f2).2.2.1 = 0) = false) := ⟨by simpa using c9⟩
     have HC0_ := u7e c9
     clear c9
     go_wp2_with (first | ((with_reducible refine gate_dst (N := 130) rfl ?_); refine goesL_ (some 130) rfl rfl Try.func49 (by kernel_rfl) rfl #[.agg #[Value.string s, Value.int .i64 depth, Value.slice none 0 0]] rfl (by (try simp only [List.map_toArray, List.map_cons, List.map_nil]); first | done | rfl) ?_; (refine (impl_Box_holds.calls s depth none 0 [] true _ (by exact Kd.C_nil _ _) (by exact Nat.le_refl _) HH.out).mono ?_); rintro e_ W21_ ⟨rfl, hb_⟩; refine ⟨_, rfl, ?_⟩; have HBK21 := u7e (blk_below HBK20.out hb_); have HG21 := u7e (blk_below HG20.out hb_); have HO21 := u7e (Kd.S_below HO20.out hb_); have HB21 := u7e (below_step HB20.out hb_); have hv210_ : W21_.cell? ⟨gb, 0, none⟩ = some (Value.string s) := (blk_cell HBK21.out 0).trans rfl; have hv211_ : W21_.cell? ⟨gb, 1, none⟩ = some (Value.int .i64 depth) := (blk_cell HBK21.out 1).trans rfl; have hv212_ : W21_.cell? ⟨gb, 2, none⟩ = some (Value.slice none 0 0) := (blk_cell HBK21.out 2).trans rfl; have hu210_ : W21_.cell? ⟨g, 0, none⟩ = some (Value.slice (some ad) bs.length cb) := (blk_cell HG21.out 0).trans rfl; have hu211_ : W21_.cell? ⟨g, 1, none⟩ = some (Value.slice A41 bx.length c41) := (blk_cell HG21.out 1).trans rfl; have hu212_ : W21_.cell? ⟨g, 2, none⟩ = some (Value.int .i64 data) := (blk_cell HG21.out 2).trans rfl; have hu213_ : W21_.cell? ⟨g, 3, none⟩ = some (Value.int .i64 0) := (blk_cell HG21.out 3).trans rfl; have hu214_ : W21_.cell? ⟨g, 4, none⟩ = some (Value.int .i64 0) := (blk_cell HG21.out 4).trans rfl; have HO21b := u7e (Kd.S_mono HO21.out (fun _ hk_ => hk_.1)); clear hb_) | ((with_reducible refine gate_dst (N := 140) rfl ?_); (refine gate_guard (by rfl) ?_; dsimp only); refine goesL_ (some 140) rfl rfl Try.func51 (by kernel_rfl) rfl #[.pointer (some ⟨g, 0, none⟩), .int .i64 (a8 : Int), .int .i64 (pn : Int), .int .i64 dp] rfl (by (try simp only [List.map_toArray, List.map_cons, List.map_nil]); first | done | rfl) ?_; (with_reducible refine (HREC.out (.slice A41 bx.length c41) W21_ HB21.out HG21.out HO21b.out).mono ?_); rintro e_ W22_ ⟨he_, vo4, h1_, h2_, h3_⟩; rw [HDEC.out] at he_; obtain rfl := he_; refine ⟨_, rfl, ?_⟩; have HG22 := u7e h1_; have HO22 := u7e h2_; have HB22 := u7e h3_; clear h1_ h2_ h3_))
     go_ret
     obtain rfl := HDIS.out
     exact ⟨by simp [HC0_.out], _, HG22.out, HO22.out, HB22.out⟩
   rw [if_neg c8] at HR
   have HH : Aside0 (impl_Box_holds.f s depth [] = some false) := ⟨by rw [r_hold_i s depth [] HSZ.out]; simpa using c8⟩
   clear c8
   obtain ⟨ys, hys⟩ : ∃ l : List Int, l = (bs.take (p + n)).drop (p + 8) := ⟨_, rfl⟩
   rw [← hys] at HR
   obtain ⟨l8, hl8⟩ : ∃ l : Nat, n - 8 = l := ⟨_, rfl⟩
   have HL8 := u7e hl8
   have HNM : Aside0 (p + n ≤ en ∧ 8 ≤ n ∧ n ≤ hc ∧ n ≤ hl ∧ en ≤ bs.length ∧ bs.length ≤ cb ∧ bs.length ≤ 1000000) := ⟨by have := C4.out; have := HM.out; have := C1.out; have := C3.out; have := HHC.out; have := HHL.out; have := HEN.out; have := HCB.out; have := HBL.out; omega⟩
   have HYL : Aside0 (ys.length = l8) := ⟨by rw [hys, List.length_drop, List.length_take]; have := HNM.out; omega⟩
   obtain ⟨ad8, had8⟩ : ∃ a : Addr, (if hc = 8 then some ad2 else some (⟨ad2.block, ad2.off + 8, none⟩ : Addr)) = some a := by split <;> exact ⟨_, rfl⟩
   have HAD8 := u7e had8
   have HYC : Aside0 (∀ W_ : World, Below w0.heap.size w0 W_ → Kd.C (Kd.int .u8) W_ (some ad8) ys.length ys) := ⟨fun W_ hb_ => by
    by_cases q_ : hc = 8
    ·have e_ : ys.length = 0 := by have := HYL.out; have := HL8.out; have := HNM.out; omega
     exact ⟨rfl, by omega, fun h0_ => absurd h0_ (by omega)⟩
    have h_ := Kd.C_mid (c := cb) (lo := p + 8) (hi := p + n) (Kd.C_below HC0.out hb_) (by have := HNM.out; omega) (by have := HNM.out; omega) HCB.out
    have e_ : (if cb = p + 8 then some ad else (some ad : Option Addr).map (·.add ((p + 8) * (Kd.int .u8).sz))) = some ad8 := by
     rw [← had8, if_neg q_, if_neg (by have := HHC.out; have := HNM.out; omega), ← add_pos_ ad2 8 (by decide), ← HAD2.out, add_add_]
     simp [Kd.int, Kd.scalar]
    rw [e_] at h_
    rw [hys]
    exact h_⟩
   have HCLN : Aside0 (∀ W_ : World, Below w0.heap.size w0 W_ → Calls Try.prog 62 #[.slice (some ad8) l8 (hc - 8)] W_ fun e w' => ∃ v : Value, e = .returned v ∧ Kd.R (Kd.int .u8) 5 w' W_.heap.size (fun _ => True) v ys ∧ Below W_.heap.size W_ w') := ⟨fun W_ hb_ => by rw [← HYL.out]; exact slices_Clone.calls ad8 (hc - 8) ys W_ (HYC.out W_ hb_) (by have := HYL.out; have := HL8.out; have := HNM.out; omega)⟩
   have T8N_ : Aside0 ((8 ≤ n) = True) := ⟨eq_true (by have := HNM.out; omega)⟩
   have T8I_ : Aside0 (((8 : Int) ≤ (n : Int)) = True) := ⟨eq_true (by have := HNM.out; omega)⟩
   have TNH_ : Aside0 ((n ≤ hc) = True) := ⟨eq_true (by have := HNM.out; omega)⟩
   have TNI_ : Aside0 (((n : Int) ≤ (hc : Int)) = True) := ⟨eq_true (by have := HNM.out; omega)⟩
   obtain ⟨dd, hdd⟩ : ∃ d : Int, d = data + ((n : Int) - 8) := ⟨_, rfl⟩
   rw [← hdd] at HR
   have HDD := u7e hdd
   have Hdl_ : Aside0 (wrap64 (data + (l8 : Int)) = dd ∧ IntKind.i64.wrap (data + (l8 : Int)) = dd) := by
    have h_ : wrap64 (data + (l8 : Int)) = dd := by have := HX.out; have := HL8.out; have := HNM.out; have := HNB.out; unfold wrap64; omega
    exact ⟨⟨h_, (i64_w _).trans h_⟩⟩
   have Hdy_ : Aside0 (wrap64 (data + (ys.length : Int)) = dd ∧ IntKind.i64.wrap (data + (ys.length : Int)) = dd) := by
    have h_ : wrap64 (data + (ys.length : Int)) = dd := by have := HYL.out; have := HX.out; have := HL8.out; have := HNM.out; have := HNB.out; unfold wrap64; omega
    exact ⟨⟨h_, (i64_w _).trans h_⟩⟩
   have HYS := u7e hys
   clear hys hdd hl8 had8
   by_cases c9 : 20000 < dd
   case pos =>
    rw [if_pos c9] at HR
    obtain rfl := Option.some.inj HR
    have C9b0_ : Aside0 (decide (20000 < dd) = true) := ⟨decide_eq_true (by skip; omega)⟩
    clear c9 HR
    have hwm := Hwm_.out.1
    have hwm' := Hwm_.out.2
    have c2b0 := C2b0_.out
    have c2b1 := C2b1_.out
    have s0 := S0_.out
    have s0c := S0C_.out
    have s1 := S1_.out
    have s1i := S1I_.out
    have s1j := S1J_.out
    have s1b := S1B_.out
    have s3 := S3_.out
    have s3p := S3p_.out
    have had2 := HAD2.out
    have hhl := HHL.out
    have hhc := HHC.out
    have qn0 := QN0_.out
    have qi0 := QI0_.out
    have qn1 := QN1_.out
    have qi1 := QI1_.out
    have qn2 := QN2_.out
    have qi2 := QI2_.out
    have qn3 := QN3_.out
    have qi3 := QI3_.out
    have hconv := HCONV.out
    have hy0 := Hy0_.out.1
    have hy0' := Hy0_.out.2
    have hy1 := Hy1_.out.1
    have hy1' := Hy1_.out.2
    have hy2 := Hy2_.out.1
    have hy2' := Hy2_.out.2
    have hy3 := Hy3_.out.1
    have hy3' := Hy3_.out.2
    have hm0 := Hm0_.out.1
    have hm0' := Hm0_.out.2
    have hmp0 := Hmp0_.out.1
    have hmp0' := Hmp0_.out.2
    have hm1 := Hm1_.out.1
    have hm1' := Hm1_.out.2
    have hmp1 := Hmp1_.out.1
    have hmp1' := Hmp1_.out.2
    have hm2 := Hm2_.out.1
    have hm2' := Hm2_.out.2
    have hmp2 := Hmp2_.out.1
    have hmp2' := Hmp2_.out.2
    have ho1 := HO1_.out
    have ho2 := HO2_.out
    have ho3 := HO3_.out
    have c3b0 := C3b0_.out
    have c3b1 := C3b1_.out
    have c4b0 := C4b0_.out
    have c4b1 := C4b1_.out
    have c6b0 := C6b0_.out
    have c7b0 := C7b0_.out
    have c7b1 := C7b1_.out
    have t8n := T8N_.out
    have t8i := T8I_.out
    have tnh := TNH_.out
    have tni := TNI_.out
    have hdl := Hdl_.out.1
    have hdl' := Hdl_.out.2
    have hdy := Hdy_.out.1
    have hdy' := Hdy_.out.2
    have hl8 := HL8.out
    have had8 := HAD8.out
    have c9b0 := C9b0_.out
    go_wp2_with (first | ((with_reducible refine gate_callee (f := 48) rfl ?_); refine goesL_ (some 67) rfl rfl Try.func48 (by kernel_rfl) rfl #[.string s] rfl (by (try simp only [List.map_toArray, List.map_cons, List.map_nil]); first | done | rfl) ?_; (with_reducible refine (impl_kindOk.calls 6 s true _ HKS.out).mono ?_); rintro e_ W1_ ⟨rfl, ⟨nd_, rfl⟩⟩; refine ⟨_, rfl, ?_⟩) | ((with_reducible refine gate_dst (N := 12) rfl ?_); refine box_event ?hg (N := 12) ?hd (cs := #[.string (⟨#[]⟩ : ByteArray), .int .i64 0, .slice none 0 0]) (t := 46) ?hr ?_; (case hd => rfl); (case hg => rfl); (case hr => first | (go_simp; done) | (go_simp; rfl)); intro gb hgb_ W13_ hbox_ hb_; have hgb2_ : gb = wr.heap.size := hgb_; have hb2_ : Below wr.heap.size wr W13_ := Below.mk hb_.os hb_.tape hb_.output hb_.size hb_.block; have HBK13 := u7e hbox_; have HGB : Aside0 (g < gb) := ⟨by rw [hgb2_]; exact blk_lt HG.out⟩; have HO13 : Aside0 (Kd.S k46 46 W13_ w0.heap.size (fun k_ => k_ ≠ g ∧ k_ < gb) (.slice Ao boxes.length co) boxes) := ⟨Kd.S_below (Kd.S_mono (Kd.S_bound HO.out) (fun k_ hk_ => ⟨hk_.1, by rw [hgb2_]; exact hk_.2.2.1⟩)) hb2_⟩; have HG13 := u7e (blk_below HG.out hb2_); have HB13 := u7e (below_step HB.out hb2_); clear hgb_ hgb2_ hbox_ hb_ hb2_) | ((with_reducible refine gate_ (.store 46 (.tmp 12) (.tmp 79)) rfl ?_); (refine put_blk_event rfl rfl rfl (g := gb) (off := 0) (cur := #[Value.string (⟨#[]⟩ : ByteArray), Value.int .i64 0, Value.slice none 0 0]) (cur' := #[Value.string s, Value.int .i64 depth, Value.slice none 0 0]) (u := .agg #[Value.string s, Value.int .i64 depth, Value.slice none 0 0]) (seg := [Value.string s, Value.int .i64 depth, Value.slice none 0 0]) (by rfl) (by rfl) HBK13.out rfl (by kernel_rfl) (Nat.le_of_ble_eq_true rfl) (by intro q_ hq_; simp only [List.mem_cons, List.not_mem_nil, or_false] at hq_; rcases hq_ with rfl | rfl | rfl <;> rfl) (by rfl) ?_); intro W14_ h1_ h2_ h3_; have HBK14 := u7e h1_; have HG14 := u7e ((h2_ g (Nat.ne_of_lt HGB.out)).trans HG13.out); have HO14 := u7e (Kd.S_step HO13.out (fun k_ hk_ _ => h2_ k_ (Nat.ne_of_lt hk_.2))); have HB14 := u7e (h3_ _ _ (Nat.le_trans HG0.out (Nat.le_of_lt HGB.out)) HB13.out); have hv140_ : W14_.cell? ⟨gb, 0, none⟩ = some (Value.string s) := (blk_cell HBK14.out 0).trans rfl; have hv141_ : W14_.cell? ⟨gb, 1, none⟩ = some (Value.int .i64 depth) := (blk_cell HBK14.out 1).trans rfl; have hv142_ : W14_.cell? ⟨gb, 2, none⟩ = some (Value.slice none 0 0) := (blk_cell HBK14.out 2).trans rfl; have hu140_ : W14_.cell? ⟨g, 0, none⟩ = some (Value.slice (some ad) bs.length cb) := (blk_cell HG14.out 0).trans rfl; have hu141_ : W14_.cell? ⟨g, 1, none⟩ = some (Value.slice Ao boxes.length co) := (blk_cell HG14.out 1).trans rfl; have hu142_ : W14_.cell? ⟨g, 2, none⟩ = some (Value.int .i64 data) := (blk_cell HG14.out 2).trans rfl; have hu143_ : W14_.cell? ⟨g, 3, none⟩ = some (Value.int .i64 0) := (blk_cell HG14.out 3).trans rfl; have hu144_ : W14_.cell? ⟨g, 4, none⟩ = some (Value.int .i64 0) := (blk_cell HG14.out 4).trans rfl; clear h1_ h2_ h3_) | ((with_reducible refine gate_dst (N := 81) rfl ?_); refine goesL_ (some 81) rfl rfl Try.func49 (by kernel_rfl) rfl #[.agg #[Value.string s, Value.int .i64 depth, Value.slice none 0 0]] rfl (by (try simp only [List.map_toArray, List.map_cons, List.map_nil]); first | done | rfl) ?_; (refine (impl_Box_holds.calls s depth none 0 [] false _ (by exact Kd.C_nil _ _) (by exact Nat.le_refl _) HH.out).mono ?_); rintro e_ W15_ ⟨rfl, hb_⟩; refine ⟨_, rfl, ?_⟩; have HBK15 := u7e (blk_below HBK14.out hb_); have HG15 := u7e (blk_below HG14.out hb_); have HO15 := u7e (Kd.S_below HO14.out hb_); have HB15 := u7e (below_step HB14.out hb_); have hv150_ : W15_.cell? ⟨gb, 0, none⟩ = some (Value.string s) := (blk_cell HBK15.out 0).trans rfl; have hv151_ : W15_.cell? ⟨gb, 1, none⟩ = some (Value.int .i64 depth) := (blk_cell HBK15.out 1).trans rfl; have hv152_ : W15_.cell? ⟨gb, 2, none⟩ = some (Value.slice none 0 0) := (blk_cell HBK15.out 2).trans rfl; have hu150_ : W15_.cell? ⟨g, 0, none⟩ = some (Value.slice (some ad) bs.length cb) := (blk_cell HG15.out 0).trans rfl; have hu151_ : W15_.cell? ⟨g, 1, none⟩ = some (Value.slice Ao boxes.length co) := (blk_cell HG15.out 1).trans rfl; have hu152_ : W15_.cell? ⟨g, 2, none⟩ = some (Value.int .i64 data) := (blk_cell HG15.out 2).trans rfl; have hu153_ : W15_.cell? ⟨g, 3, none⟩ = some (Value.int .i64 0) := (blk_cell HG15.out 3).trans rfl; have hu154_ : W15_.cell? ⟨g, 4, none⟩ = some (Value.int .i64 0) := (blk_cell HG15.out 4).trans rfl; clear hb_) | ((with_reducible refine gate_dst (N := 86) rfl ?_); refine goesL_ (some 86) rfl rfl Try.func62 (by kernel_rfl) rfl #[.slice (some ad8) l8 (hc - 8)] rfl (by (try simp only [List.map_toArray, List.map_cons, List.map_nil]); first | done | rfl) ?_; (refine (HCLN.out _ HB15.out).mono ?_); rintro e_ W16_ ⟨v86, rfl, ho_, hb_⟩; refine ⟨_, rfl, ?_⟩; have HBK16 := u7e (blk_below HBK15.out hb_); have HG16 := u7e (blk_below HG15.out hb_); have HO16 := u7e (Kd.S_below HO15.out hb_); have HB16 := u7e (below_step HB15.out hb_); have hv160_ : W16_.cell? ⟨gb, 0, none⟩ = some (Value.string s) := (blk_cell HBK16.out 0).trans rfl; have hv161_ : W16_.cell? ⟨gb, 1, none⟩ = some (Value.int .i64 depth) := (blk_cell HBK16.out 1).trans rfl; have hv162_ : W16_.cell? ⟨gb, 2, none⟩ = some (Value.slice none 0 0) := (blk_cell HBK16.out 2).trans rfl; have hu160_ : W16_.cell? ⟨g, 0, none⟩ = some (Value.slice (some ad) bs.length cb) := (blk_cell HG16.out 0).trans rfl; have hu161_ : W16_.cell? ⟨g, 1, none⟩ = some (Value.slice Ao boxes.length co) := (blk_cell HG16.out 1).trans rfl; have hu162_ : W16_.cell? ⟨g, 2, none⟩ = some (Value.int .i64 data) := (blk_cell HG16.out 2).trans rfl; have hu163_ : W16_.cell? ⟨g, 3, none⟩ = some (Value.int .i64 0) := (blk_cell HG16.out 3).trans rfl; have hu164_ : W16_.cell? ⟨g, 4, none⟩ = some (Value.int .i64 0) := (blk_cell HG16.out 4).trans rfl; obtain ⟨hv, hhv_⟩ : ∃ n : Nat, n = W15_.heap.size := ⟨_, rfl⟩; have HHV : Aside0 (gb < hv) := ⟨by rw [hhv_]; exact blk_lt HBK15.out⟩; have HVW : Aside0 (hv ≤ W16_.heap.size) := ⟨by rw [hhv_]; exact hb_.size⟩; have HV16 : Aside0 (Kd.R (Kd.int .u8) 5 W16_ w0.heap.size (fun k_ => hv ≤ k_) v86 ys) := ⟨Kd.R_lower (Kd.R_mono (Kd.R_bound ho_) (fun k_ hk_ => by rw [hhv_]; exact hk_.2.1)) HB15.out.size⟩; obtain ⟨A86, c86, e86_⟩ := Kd.R_slice ho_; subst e86_; clear ho_ hb_ hhv_) | ((with_reducible refine gate_ (.store 29 (.tmp 87) (.tmp 86)) rfl ?_); (refine put_blk_event rfl rfl rfl (g := gb) (off := 2) (cur := #[Value.string s, Value.int .i64 depth, Value.slice none 0 0]) (cur' := #[Value.string s, Value.int .i64 depth, Value.slice A86 ys.length c86]) (u := .slice A86 ys.length c86) (seg := [Value.slice A86 ys.length c86]) (by rfl) (by rfl) HBK16.out rfl (by kernel_rfl) (Nat.le_of_ble_eq_true rfl) (by intro q_ hq_; simp only [List.mem_cons, List.not_mem_nil, or_false] at hq_; rcases hq_ with rfl <;> rfl) (by rfl) ?_); intro W17_ h1_ h2_ h3_; have HBK17 := u7e h1_; have HG17 := u7e ((h2_ g (Nat.ne_of_lt HGB.out)).trans HG16.out); have HO17 := u7e (Kd.S_step HO16.out (fun k_ hk_ _ => h2_ k_ (Nat.ne_of_lt hk_.2))); have HB17 := u7e (h3_ _ _ (Nat.le_trans HG0.out (Nat.le_of_lt HGB.out)) HB16.out); have HV17 := u7e (Kd.R_step HV16.out (fun k_ hk_ _ => h2_ k_ (Nat.ne_of_gt (Nat.lt_of_lt_of_le HHV.out hk_)))); have HVS17 : Aside0 (hv ≤ W17_.heap.size) := ⟨Nat.le_trans HVW.out (sizes_le_ h2_ HBK16.out h1_)⟩; have hv170_ : W17_.cell? ⟨gb, 0, none⟩ = some (Value.string s) := (blk_cell HBK17.out 0).trans rfl; have hv171_ : W17_.cell? ⟨gb, 1, none⟩ = some (Value.int .i64 depth) := (blk_cell HBK17.out 1).trans rfl; have hv172_ : W17_.cell? ⟨gb, 2, none⟩ = some (Value.slice A86 ys.length c86) := (blk_cell HBK17.out 2).trans rfl; have hu170_ : W17_.cell? ⟨g, 0, none⟩ = some (Value.slice (some ad) bs.length cb) := (blk_cell HG17.out 0).trans rfl; have hu171_ : W17_.cell? ⟨g, 1, none⟩ = some (Value.slice Ao boxes.length co) := (blk_cell HG17.out 1).trans rfl; have hu172_ : W17_.cell? ⟨g, 2, none⟩ = some (Value.int .i64 data) := (blk_cell HG17.out 2).trans rfl; have hu173_ : W17_.cell? ⟨g, 3, none⟩ = some (Value.int .i64 0) := (blk_cell HG17.out 3).trans rfl; have hu174_ : W17_.cell? ⟨g, 4, none⟩ = some (Value.int .i64 0) := (blk_cell HG17.out 4).trans rfl; clear h1_ h2_ h3_) | ((with_reducible refine gate_callee (f := 61) rfl ?_); refine goesL_ (some 107) rfl rfl Try.func61 (by kernel_rfl) rfl #[.pointer (some ⟨g, 0, none⟩), .int .i64 6, .int .i64 (p : Int)] rfl (by (try simp only [List.map_toArray, List.map_cons, List.map_nil]); first | done | rfl) ?_; (refine (impl_fail.calls g _ _ _ _ _ 6 (p : Int) _ (by exact HG17.out)).mono ?_); rintro e_ W9_ ⟨rfl, h1_, h2_, h3_⟩; refine ⟨_, rfl, ?_⟩; have H1 := u7e h1_; have H2 := u7e (Kd.S_step (Kd.S_step (Kd.S_mono HO17.out (fun _ hk_ => hk_.1)) (fun _ _ _ => rfl)) (fun k_ hk_ _ => h2_ k_ hk_)); have H3 := u7e (h3_ _ _ HG0.out (Below.mk HB17.out.os HB17.out.tape HB17.out.output HB17.out.size HB17.out.block)); clear h1_ h2_ h3_))
    go_quiet (fail)
    go_wp2_with (first | ((with_reducible refine gate_callee (f := 48) rfl ?_); refine goesL_ (some 67) rfl rfl Try.func48 (by kernel_rfl) rfl #[.string s] rfl (by (try simp only [List.map_toArray, List.map_cons, List.map_nil]); first | done | rfl) ?_; (with_reducible refine (impl_kindOk.calls 6 s true _ HKS.out).mono ?_); rintro e_ W1_ ⟨rfl, ⟨nd_, rfl⟩⟩; refine ⟨_, rfl, ?_⟩) | ((with_reducible refine gate_dst (N := 12) rfl ?_); refine box_event ?hg (N := 12) ?hd (cs := #[.string (⟨#[]⟩ : ByteArray), .int .i64 0, .slice none 0 0]) (t := 46) ?hr ?_; (case hd => rfl); (case hg => rfl); (case hr => first | (go_simp; done) | (go_simp; rfl)); intro gb hgb_ W13_ hbox_ hb_; have hgb2_ : gb = wr.heap.size := hgb_; have hb2_ : Below wr.heap.size wr W13_ := Below.mk hb_.os hb_.tape hb_.output hb_.size hb_.block; have HBK13 := u7e hbox_; have HGB : Aside0 (g < gb) := ⟨by rw [hgb2_]; exact blk_lt HG.out⟩; have HO13 : Aside0 (Kd.S k46 46 W13_ w0.heap.size (fun k_ => k_ ≠ g ∧ k_ < gb) (.slice Ao boxes.length co) boxes) := ⟨Kd.S_below (Kd.S_mono (Kd.S_bound HO.out) (fun k_ hk_ => ⟨hk_.1, by rw [hgb2_]; exact hk_.2.2.1⟩)) hb2_⟩; have HG13 := u7e (blk_below HG.out hb2_); have HB13 := u7e (below_step HB.out hb2_); clear hgb_ hgb2_ hbox_ hb_ hb2_) | ((with_reducible refine gate_ (.store 46 (.tmp 12) (.tmp 79)) rfl ?_); (refine put_blk_event rfl rfl rfl (g := gb) (off := 0) (cur := #[Value.string (⟨#[]⟩ : ByteArray), Value.int .i64 0, Value.slice none 0 0]) (cur' := #[Value.string s, Value.int .i64 depth, Value.slice none 0 0]) (u := .agg #[Value.string s, Value.int .i64 depth, Value.slice none 0 0]) (seg := [Value.string s, Value.int .i64 depth, Value.slice none 0 0]) (by rfl) (by rfl) HBK13.out rfl (by kernel_rfl) (Nat.le_of_ble_eq_true rfl) (by intro q_ hq_; simp only [List.mem_cons, List.not_mem_nil, or_false] at hq_; rcases hq_ with rfl | rfl | rfl <;> rfl) (by rfl) ?_); intro W14_ h1_ h2_ h3_; have HBK14 := u7e h1_; have HG14 := u7e ((h2_ g (Nat.ne_of_lt HGB.out)).trans HG13.out); have HO14 := u7e (Kd.S_step HO13.out (fun k_ hk_ _ => h2_ k_ (Nat.ne_of_lt hk_.2))); have HB14 := u7e (h3_ _ _ (Nat.le_trans HG0.out (Nat.le_of_lt HGB.out)) HB13.out); have hv140_ : W14_.cell? ⟨gb, 0, none⟩ = some (Value.string s) := (blk_cell HBK14.out 0).trans rfl; have hv141_ : W14_.cell? ⟨gb, 1, none⟩ = some (Value.int .i64 depth) := (blk_cell HBK14.out 1).trans rfl; have hv142_ : W14_.cell? ⟨gb, 2, none⟩ = some (Value.slice none 0 0) := (blk_cell HBK14.out 2).trans rfl; have hu140_ : W14_.cell? ⟨g, 0, none⟩ = some (Value.slice (some ad) bs.length cb) := (blk_cell HG14.out 0).trans rfl; have hu141_ : W14_.cell? ⟨g, 1, none⟩ = some (Value.slice Ao boxes.length co) := (blk_cell HG14.out 1).trans rfl; have hu142_ : W14_.cell? ⟨g, 2, none⟩ = some (Value.int .i64 data) := (blk_cell HG14.out 2).trans rfl; have hu143_ : W14_.cell? ⟨g, 3, none⟩ = some (Value.int .i64 0) := (blk_cell HG14.out 3).trans rfl; have hu144_ : W14_.cell? ⟨g, 4, none⟩ = some (Value.int .i64 0) := (blk_cell HG14.out 4).trans rfl; clear h1_ h2_ h3_) | ((with_reducible refine gate_dst (N := 81) rfl ?_); refine goesL_ (some 81) rfl rfl Try.func49 (by kernel_rfl) rfl #[.agg #[Value.string s, Value.int .i64 depth, Value.slice none 0 0]] rfl (by (try simp only [List.map_toArray, List.map_cons, List.map_nil]); first | done | rfl) ?_; (refine (impl_Box_holds.calls s depth none 0 [] false _ (by exact Kd.C_nil _ _) (by exact Nat.le_refl _) HH.out).mono ?_); rintro e_ W15_ ⟨rfl, hb_⟩; refine ⟨_, rfl, ?_⟩; have HBK15 := u7e (blk_below HBK14.out hb_); have HG15 := u7e (blk_below HG14.out hb_); have HO15 := u7e (Kd.S_below HO14.out hb_); have HB15 := u7e (below_step HB14.out hb_); have hv150_ : W15_.cell? ⟨gb, 0, none⟩ = some (Value.string s) := (blk_cell HBK15.out 0).trans rfl; have hv151_ : W15_.cell? ⟨gb, 1, none⟩ = some (Value.int .i64 depth) := (blk_cell HBK15.out 1).trans rfl; have hv152_ : W15_.cell? ⟨gb, 2, none⟩ = some (Value.slice none 0 0) := (blk_cell HBK15.out 2).trans rfl; have hu150_ : W15_.cell? ⟨g, 0, none⟩ = some (Value.slice (some ad) bs.length cb) := (blk_cell HG15.out 0).trans rfl; have hu151_ : W15_.cell? ⟨g, 1, none⟩ = some (Value.slice Ao boxes.length co) := (blk_cell HG15.out 1).trans rfl; have hu152_ : W15_.cell? ⟨g, 2, none⟩ = some (Value.int .i64 data) := (blk_cell HG15.out 2).trans rfl; have hu153_ : W15_.cell? ⟨g, 3, none⟩ = some (Value.int .i64 0) := (blk_cell HG15.out 3).trans rfl; have hu154_ : W15_.cell? ⟨g, 4, none⟩ = some (Value.int .i64 0) := (blk_cell HG15.out 4).trans rfl; clear hb_) | ((with_reducible refine gate_dst (N := 86) rfl ?_); refine goesL_ (some 86) rfl rfl Try.func62 (by kernel_rfl) rfl #[.slice (some ad8) l8 (hc - 8)] rfl (by (try simp only [List.map_toArray, List.map_cons, List.map_nil]); first | done | rfl) ?_; (refine (HCLN.out _ HB15.out).mono ?_); rintro e_ W16_ ⟨v86, rfl, ho_, hb_⟩; refine ⟨_, rfl, ?_⟩; have HBK16 := u7e (blk_below HBK15.out hb_); have HG16 := u7e (blk_below HG15.out hb_); have HO16 := u7e (Kd.S_below HO15.out hb_); have HB16 := u7e (below_step HB15.out hb_); have hv160_ : W16_.cell? ⟨gb, 0, none⟩ = some (Value.string s) := (blk_cell HBK16.out 0).trans rfl; have hv161_ : W16_.cell? ⟨gb, 1, none⟩ = some (Value.int .i64 depth) := (blk_cell HBK16.out 1).trans rfl; have hv162_ : W16_.cell? ⟨gb, 2, none⟩ = some (Value.slice none 0 0) := (blk_cell HBK16.out 2).trans rfl; have hu160_ : W16_.cell? ⟨g, 0, none⟩ = some (Value.slice (some ad) bs.length cb) := (blk_cell HG16.out 0).trans rfl; have hu161_ : W16_.cell? ⟨g, 1, none⟩ = some (Value.slice Ao boxes.length co) := (blk_cell HG16.out 1).trans rfl; have hu162_ : W16_.cell? ⟨g, 2, none⟩ = some (Value.int .i64 data) := (blk_cell HG16.out 2).trans rfl; have hu163_ : W16_.cell? ⟨g, 3, none⟩ = some (Value.int .i64 0) := (blk_cell HG16.out 3).trans rfl; have hu164_ : W16_.cell? ⟨g, 4, none⟩ = some (Value.int .i64 0) := (blk_cell HG16.out 4).trans rfl; obtain ⟨hv, hhv_⟩ : ∃ n : Nat, n = W15_.heap.size := ⟨_, rfl⟩; have HHV : Aside0 (gb < hv) := ⟨by rw [hhv_]; exact blk_lt HBK15.out⟩; have HVW : Aside0 (hv ≤ W16_.heap.size) := ⟨by rw [hhv_]; exact hb_.size⟩; have HV16 : Aside0 (Kd.R (Kd.int .u8) 5 W16_ w0.heap.size (fun k_ => hv ≤ k_) v86 ys) := ⟨Kd.R_lower (Kd.R_mono (Kd.R_bound ho_) (fun k_ hk_ => by rw [hhv_]; exact hk_.2.1)) HB15.out.size⟩; obtain ⟨A86, c86, e86_⟩ := Kd.R_slice ho_; subst e86_; clear ho_ hb_ hhv_) | ((with_reducible refine gate_ (.store 29 (.tmp 87) (.tmp 86)) rfl ?_); (refine put_blk_event rfl rfl rfl (g := gb) (off := 2) (cur := #[Value.string s, Value.int .i64 depth, Value.slice none 0 0]) (cur' := #[Value.string s, Value.int .i64 depth, Value.slice A86 ys.length c86]) (u := .slice A86 ys.length c86) (seg := [Value.slice A86 ys.length c86]) (by rfl) (by rfl) HBK16.out rfl (by kernel_rfl) (Nat.le_of_ble_eq_true rfl) (by intro q_ hq_; simp only [List.mem_cons, List.not_mem_nil, or_false] at hq_; rcases hq_ with rfl <;> rfl) (by rfl) ?_); intro W17_ h1_ h2_ h3_; have HBK17 := u7e h1_; have HG17 := u7e ((h2_ g (Nat.ne_of_lt HGB.out)).trans HG16.out); have HO17 := u7e (Kd.S_step HO16.out (fun k_ hk_ _ => h2_ k_ (Nat.ne_of_lt hk_.2))); have HB17 := u7e (h3_ _ _ (Nat.le_trans HG0.out (Nat.le_of_lt HGB.out)) HB16.out); have HV17 := u7e (Kd.R_step HV16.out (fun k_ hk_ _ => h2_ k_ (Nat.ne_of_gt (Nat.lt_of_lt_of_le HHV.out hk_)))); have HVS17 : Aside0 (hv ≤ W17_.heap.size) := ⟨Nat.le_trans HVW.out (sizes_le_ h2_ HBK16.out h1_)⟩; have hv170_ : W17_.cell? ⟨gb, 0, none⟩ = some (Value.string s) := (blk_cell HBK17.out 0).trans rfl; have hv171_ : W17_.cell? ⟨gb, 1, none⟩ = some (Value.int .i64 depth) := (blk_cell HBK17.out 1).trans rfl; have hv172_ : W17_.cell? ⟨gb, 2, none⟩ = some (Value.slice A86 ys.length c86) := (blk_cell HBK17.out 2).trans rfl; have hu170_ : W17_.cell? ⟨g, 0, none⟩ = some (Value.slice (some ad) bs.length cb) := (blk_cell HG17.out 0).trans rfl; have hu171_ : W17_.cell? ⟨g, 1, none⟩ = some (Value.slice Ao boxes.length co) := (blk_cell HG17.out 1).trans rfl; have hu172_ : W17_.cell? ⟨g, 2, none⟩ = some (Value.int .i64 data) := (blk_cell HG17.out 2).trans rfl; have hu173_ : W17_.cell? ⟨g, 3, none⟩ = some (Value.int .i64 0) := (blk_cell HG17.out 3).trans rfl; have hu174_ : W17_.cell? ⟨g, 4, none⟩ = some (Value.int .i64 0) := (blk_cell HG17.out 4).trans rfl; clear h1_ h2_ h3_) | ((with_reducible refine gate_callee (f := 61) rfl ?_); refine goesL_ (some 107) rfl rfl Try.func61 (by kernel_rfl) rfl #[.pointer (some ⟨g, 0, none⟩), .int .i64 6, .int .i64 (p : Int)] rfl (by (try simp only [List.map_toArray, List.map_cons, List.map_nil]); first | done | rfl) ?_; (refine (impl_fail.calls g _ _ _ _ _ 6 (p : Int) _ (by exact HG17.out)).mono ?_); rintro e_ W9_ ⟨rfl, h1_, h2_, h3_⟩; refine ⟨_, rfl, ?_⟩; have H1 := u7e h1_; have H2 := u7e (Kd.S_step (Kd.S_step (Kd.S_mono HO17.out (fun _ hk_ => hk_.1)) (fun _ _ _ => rfl)) (fun k_ hk_ _ => h2_ k_ hk_)); have H3 := u7e (h3_ _ _ HG0.out (Below.mk HB17.out.os HB17.out.tape HB17.out.output HB17.out.size HB17.out.block)); clear h1_ h2_ h3_))
    go_quiet (fail)
    go_wp2_with (first | ((with_reducible refine gate_callee (f := 48) rfl ?_); refine goesL_ (some 67) rfl rfl Try.func48 (by kernel_rfl) rfl #[.string s] rfl (by (try simp only [List.map_toArray, List.map_cons, List.map_nil]); first | done | rfl) ?_; (with_reducible refine (impl_kindOk.calls 6 s true _ HKS.out).mono ?_); rintro e_ W1_ ⟨rfl, ⟨nd_, rfl⟩⟩; refine ⟨_, rfl, ?_⟩) | ((with_reducible refine gate_dst (N := 12) rfl ?_); refine box_event ?hg (N := 12) ?hd (cs := #[.string (⟨#[]⟩ : ByteArray), .int .i64 0, .slice none 0 0]) (t := 46) ?hr ?_; (case hd => rfl); (case hg => rfl); (case hr => first | (go_simp; done) | (go_simp; rfl)); intro gb hgb_ W13_ hbox_ hb_; have hgb2_ : gb = wr.heap.size := hgb_; have hb2_ : Below wr.heap.size wr W13_ := Below.mk hb_.os hb_.tape hb_.output hb_.size hb_.block; have HBK13 := u7e hbox_; have HGB : Aside0 (g < gb) := ⟨by rw [hgb2_]; exact blk_lt HG.out⟩; have HO13 : Aside0 (Kd.S k46 46 W13_ w0.heap.size (fun k_ => k_ ≠ g ∧ k_ < gb) (.slice Ao boxes.length co) boxes) := ⟨Kd.S_below (Kd.S_mono (Kd.S_bound HO.out) (fun k_ hk_ => ⟨hk_.1, by rw [hgb2_]; exact hk_.2.2.1⟩)) hb2_⟩; have HG13 := u7e (blk_below HG.out hb2_); have HB13 := u7e (below_step HB.out hb2_); clear hgb_ hgb2_ hbox_ hb_ hb2_) | ((with_reducible refine gate_ (.store 46 (.tmp 12) (.tmp 79)) rfl ?_); (refine put_blk_event rfl rfl rfl (g := gb) (off := 0) (cur := #[Value.string (⟨#[]⟩ : ByteArray), Value.int .i64 0, Value.slice none 0 0]) (cur' := #[Value.string s, Value.int .i64 depth, Value.slice none 0 0]) (u := .agg #[Value.string s, Value.int .i64 depth, Value.slice none 0 0]) (seg := [Value.string s, Value.int .i64 depth, Value.slice none 0 0]) (by rfl) (by rfl) HBK13.out rfl (by kernel_rfl) (Nat.le_of_ble_eq_true rfl) (by intro q_ hq_; simp only [List.mem_cons, List.not_mem_nil, or_false] at hq_; rcases hq_ with rfl | rfl | rfl <;> rfl) (by rfl) ?_); intro W14_ h1_ h2_ h3_; have HBK14 := u7e h1_; have HG14 := u7e ((h2_ g (Nat.ne_of_lt HGB.out)).trans HG13.out); have HO14 := u7e (Kd.S_step HO13.out (fun k_ hk_ _ => h2_ k_ (Nat.ne_of_lt hk_.2))); have HB14 := u7e (h3_ _ _ (Nat.le_trans HG0.out (Nat.le_of_lt HGB.out)) HB13.out); have hv140_ : W14_.cell? ⟨gb, 0, none⟩ = some (Value.string s) := (blk_cell HBK14.out 0).trans rfl; have hv141_ : W14_.cell? ⟨gb, 1, none⟩ = some (Value.int .i64 depth) := (blk_cell HBK14.out 1).trans rfl; have hv142_ : W14_.cell? ⟨gb, 2, none⟩ = some (Value.slice none 0 0) := (blk_cell HBK14.out 2).trans rfl; have hu140_ : W14_.cell? ⟨g, 0, none⟩ = some (Value.slice (some ad) bs.length cb) := (blk_cell HG14.out 0).trans rfl; have hu141_ : W14_.cell? ⟨g, 1, none⟩ = some (Value.slice Ao boxes.length co) := (blk_cell HG14.out 1).trans rfl; have hu142_ : W14_.cell? ⟨g, 2, none⟩ = some (Value.int .i64 data) := (blk_cell HG14.out 2).trans rfl; have hu143_ : W14_.cell? ⟨g, 3, none⟩ = some (Value.int .i64 0) := (blk_cell HG14.out 3).trans rfl; have hu144_ : W14_.cell? ⟨g, 4, none⟩ = some (Value.int .i64 0) := (blk_cell HG14.out 4).trans rfl; clear h1_ h2_ h3_) | ((with_reducible refine gate_dst (N := 81) rfl ?_); refine goesL_ (some 81) rfl rfl Try.func49 (by kernel_rfl) rfl #[.agg #[Value.string s, Value.int .i64 depth, Value.slice none 0 0]] rfl (by (try simp only [List.map_toArray, List.map_cons, List.map_nil]); first | done | rfl) ?_; (refine (impl_Box_holds.calls s depth none 0 [] false _ (by exact Kd.C_nil _ _) (by exact Nat.le_refl _) HH.out).mono ?_); rintro e_ W15_ ⟨rfl, hb_⟩; refine ⟨_, rfl, ?_⟩; have HBK15 := u7e (blk_below HBK14.out hb_); have HG15 := u7e (blk_below HG14.out hb_); have HO15 := u7e (Kd.S_below HO14.out hb_); have HB15 := u7e (below_step HB14.out hb_); have hv150_ : W15_.cell? ⟨gb, 0, none⟩ = some (Value.string s) := (blk_cell HBK15.out 0).trans rfl; have hv151_ : W15_.cell? ⟨gb, 1, none⟩ = some (Value.int .i64 depth) := (blk_cell HBK15.out 1).trans rfl; have hv152_ : W15_.cell? ⟨gb, 2, none⟩ = some (Value.slice none 0 0) := (blk_cell HBK15.out 2).trans rfl; have hu150_ : W15_.cell? ⟨g, 0, none⟩ = some (Value.slice (some ad) bs.length cb) := (blk_cell HG15.out 0).trans rfl; have hu151_ : W15_.cell? ⟨g, 1, none⟩ = some (Value.slice Ao boxes.length co) := (blk_cell HG15.out 1).trans rfl; have hu152_ : W15_.cell? ⟨g, 2, none⟩ = some (Value.int .i64 data) := (blk_cell HG15.out 2).trans rfl; have hu153_ : W15_.cell? ⟨g, 3, none⟩ = some (Value.int .i64 0) := (blk_cell HG15.out 3).trans rfl; have hu154_ : W15_.cell? ⟨g, 4, none⟩ = some (Value.int .i64 0) := (blk_cell HG15.out 4).trans rfl; clear hb_) | ((with_reducible refine gate_dst (N := 86) rfl ?_); refine goesL_ (some 86) rfl rfl Try.func62 (by kernel_rfl) rfl #[.slice (some ad8) l8 (hc - 8)] rfl (by (try simp only [List.map_toArray, List.map_cons, List.map_nil]); first | done | rfl) ?_; (refine (HCLN.out _ HB15.out).mono ?_); rintro e_ W16_ ⟨v86, rfl, ho_, hb_⟩; refine ⟨_, rfl, ?_⟩; have HBK16 := u7e (blk_below HBK15.out hb_); have HG16 := u7e (blk_below HG15.out hb_); have HO16 := u7e (Kd.S_below HO15.out hb_); have HB16 := u7e (below_step HB15.out hb_); have hv160_ : W16_.cell? ⟨gb, 0, none⟩ = some (Value.string s) := (blk_cell HBK16.out 0).trans rfl; have hv161_ : W16_.cell? ⟨gb, 1, none⟩ = some (Value.int .i64 depth) := (blk_cell HBK16.out 1).trans rfl; have hv162_ : W16_.cell? ⟨gb, 2, none⟩ = some (Value.slice none 0 0) := (blk_cell HBK16.out 2).trans rfl; have hu160_ : W16_.cell? ⟨g, 0, none⟩ = some (Value.slice (some ad) bs.length cb) := (blk_cell HG16.out 0).trans rfl; have hu161_ : W16_.cell? ⟨g, 1, none⟩ = some (Value.slice Ao boxes.length co) := (blk_cell HG16.out 1).trans rfl; have hu162_ : W16_.cell? ⟨g, 2, none⟩ = some (Value.int .i64 data) := (blk_cell HG16.out 2).trans rfl; have hu163_ : W16_.cell? ⟨g, 3, none⟩ = some (Value.int .i64 0) := (blk_cell HG16.out 3).trans rfl; have hu164_ : W16_.cell? ⟨g, 4, none⟩ = some (Value.int .i64 0) := (blk_cell HG16.out 4).trans rfl; obtain ⟨hv, hhv_⟩ : ∃ n : Nat, n = W15_.heap.size := ⟨_, rfl⟩; have HHV : Aside0 (gb < hv) := ⟨by rw [hhv_]; exact blk_lt HBK15.out⟩; have HVW : Aside0 (hv ≤ W16_.heap.size) := ⟨by rw [hhv_]; exact hb_.size⟩; have HV16 : Aside0 (Kd.R (Kd.int .u8) 5 W16_ w0.heap.size (fun k_ => hv ≤ k_) v86 ys) := ⟨Kd.R_lower (Kd.R_mono (Kd.R_bound ho_) (fun k_ hk_ => by rw [hhv_]; exact hk_.2.1)) HB15.out.size⟩; obtain ⟨A86, c86, e86_⟩ := Kd.R_slice ho_; subst e86_; clear ho_ hb_ hhv_) | ((with_reducible refine gate_ (.store 29 (.tmp 87) (.tmp 86)) rfl ?_); (refine put_blk_event rfl rfl rfl (g := gb) (off := 2) (cur := #[Value.string s, Value.int .i64 depth, Value.slice none 0 0]) (cur' := #[Value.string s, Value.int .i64 depth, Value.slice A86 ys.length c86]) (u := .slice A86 ys.length c86) (seg := [Value.slice A86 ys.length c86]) (by rfl) (by rfl) HBK16.out rfl (by kernel_rfl) (Nat.le_of_ble_eq_true rfl) (by intro q_ hq_; simp only [List.mem_cons, List.not_mem_nil, or_false] at hq_; rcases hq_ with rfl <;> rfl) (by rfl) ?_); intro W17_ h1_ h2_ h3_; have HBK17 := u7e h1_; have HG17 := u7e ((h2_ g (Nat.ne_of_lt HGB.out)).trans HG16.out); have HO17 := u7e (Kd.S_step HO16.out (fun k_ hk_ _ => h2_ k_ (Nat.ne_of_lt hk_.2))); have HB17 := u7e (h3_ _ _ (Nat.le_trans HG0.out (Nat.le_of_lt HGB.out)) HB16.out); have HV17 := u7e (Kd.R_step HV16.out (fun k_ hk_ _ => h2_ k_ (Nat.ne_of_gt (Nat.lt_of_lt_of_le HHV.out hk_)))); have HVS17 : Aside0 (hv ≤ W17_.heap.size) := ⟨Nat.le_trans HVW.out (sizes_le_ h2_ HBK16.out h1_)⟩; have hv170_ : W17_.cell? ⟨gb, 0, none⟩ = some (Value.string s) := (blk_cell HBK17.out 0).trans rfl; have hv171_ : W17_.cell? ⟨gb, 1, none⟩ = some (Value.int .i64 depth) := (blk_cell HBK17.out 1).trans rfl; have hv172_ : W17_.cell? ⟨gb, 2, none⟩ = some (Value.slice A86 ys.length c86) := (blk_cell HBK17.out 2).trans rfl; have hu170_ : W17_.cell? ⟨g, 0, none⟩ = some (Value.slice (some ad) bs.length cb) := (blk_cell HG17.out 0).trans rfl; have hu171_ : W17_.cell? ⟨g, 1, none⟩ = some (Value.slice Ao boxes.length co) := (blk_cell HG17.out 1).trans rfl; have hu172_ : W17_.cell? ⟨g, 2, none⟩ = some (Value.int .i64 data) := (blk_cell HG17.out 2).trans rfl; have hu173_ : W17_.cell? ⟨g, 3, none⟩ = some (Value.int .i64 0) := (blk_cell HG17.out 3).trans rfl; have hu174_ : W17_.cell? ⟨g, 4, none⟩ = some (Value.int .i64 0) := (blk_cell HG17.out 4).trans rfl; clear h1_ h2_ h3_) | ((with_reducible refine gate_callee (f := 61) rfl ?_); refine goesL_ (some 107) rfl rfl Try.func61 (by kernel_rfl) rfl #[.pointer (some ⟨g, 0, none⟩), .int .i64 6, .int .i64 (p : Int)] rfl (by (try simp only [List.map_toArray, List.map_cons, List.map_nil]); first | done | rfl) ?_; (refine (impl_fail.calls g _ _ _ _ _ 6 (p : Int) _ (by exact HG17.out)).mono ?_); rintro e_ W9_ ⟨rfl, h1_, h2_, h3_⟩; refine ⟨_, rfl, ?_⟩; have H1 := u7e h1_; have H2 := u7e (Kd.S_step (Kd.S_step (Kd.S_mono HO17.out (fun _ hk_ => hk_.1)) (fun _ _ _ => rfl)) (fun k_ hk_ _ => h2_ k_ hk_)); have H3 := u7e (h3_ _ _ HG0.out (Below.mk HB17.out.os HB17.out.tape HB17.out.output HB17.out.size HB17.out.block)); clear h1_ h2_ h3_))
    go_ret
    exact ⟨rfl, _, H1.out, H2.out, H3.out⟩
   rw [if_neg c9] at HR
   have C9b0_ : Aside0 (decide (20000 < dd) = false) := ⟨decide_eq_false (by skip; omega)⟩
   have C9 := u7e c9
   clear c9
   obtain ⟨pn, hpn⟩ : ∃ q : Nat, p + n = q := ⟨_, rfl⟩
   obtain ⟨a8, ha8⟩ : ∃ q : Nat, p + 8 = q := ⟨_, rfl⟩
   try rw [hpn] at HR
   try rw [ha8] at HR
   have HPN := u7e hpn
   have HA8 := u7e ha8
   clear hpn ha8
   have HPL : Aside0 (pn ≤ en ∧ a8 ≤ pn ∧ en ≤ bs.length) := ⟨by have := C4.out; have := HM.out; have := C1.out; have := C3.out; have := HA8.out; have := HPN.out; have := HEN.out; omega⟩
   have Hpn_ : Aside0 (wrap64 ((p : Int) + (n : Int)) = (pn : Int) ∧ IntKind.i64.wrap ((p : Int) + (n : Int)) = (pn : Int)) := by
    have h_ : wrap64 ((p : Int) + (n : Int)) = (pn : Int) := by have := HBL.out; have := HPL.out; have := HPN.out; unfold wrap64; omega
    exact ⟨⟨h_, (i64_w _).trans h_⟩⟩
   obtain ⟨bx, hbx⟩ : ∃ b : List S46, b = boxes ++ [⟨s, depth, ys⟩] := ⟨_, rfl⟩
   rw [← hbx] at HR
   have HBX := u7e hbx
   have HBD : Aside0 (bx.length ≤ 200) := ⟨by rw [hbx, List.length_append]; simp only [List.length_cons, List.length_nil]; have := HX.out; have := C7.out; omega⟩
   have HKL : Aside0 (k1 < k) := ⟨by have := HK.out; omega⟩
   have HR2 := u7e HR
   have HHY : Aside0 (impl_Box_holds.f s depth ys = some false) := ⟨by rw [← HH.out]; rfl⟩
   clear HR hbx ih
   have hwm := Hwm_.out.1
   have hwm' := Hwm_.out.2
   have c2b0 := C2b0_.out
   have c2b1 := C2b1_.out
   have s0 := S0_.out
   have s0c := S0C_.out
   have s1 := S1_.out
   have s1i := S1I_.out
   have s1j := S1J_.out
   have s1b := S1B_.out
   have s3 := S3_.out
   have s3p := S3p_.out
   have had2 := HAD2.out
   have hhl := HHL.out
   have hhc := HHC.out
   have qn0 := QN0_.out
   have qi0 := QI0_.out
   have qn1 := QN1_.out
   have qi1 := QI1_.out
   have qn2 := QN2_.out
   have qi2 := QI2_.out
   have qn3 := QN3_.out
   have qi3 := QI3_.out
   have hconv := HCONV.out
   have hy0 := Hy0_.out.1
   have hy0' := Hy0_.out.2
   have hy1 := Hy1_.out.1
   have hy1' := Hy1_.out.2
   have hy2 := Hy2_.out.1
   have hy2' := Hy2_.out.2
   have hy3 := Hy3_.out.1
   have hy3' := Hy3_.out.2
   have hm0 := Hm0_.out.1
   have hm0' := Hm0_.out.2
   have hmp0 := Hmp0_.out.1
   have hmp0' := Hmp0_.out.2
   have hm1 := Hm1_.out.1
   have hm1' := Hm1_.out.2
   have hmp1 := Hmp1_.out.1
   have hmp1' := Hmp1_.out.2
   have hm2 := Hm2_.out.1
   have hm2' := Hm2_.out.2
   have hmp2 := Hmp2_.out.1
   have hmp2' := Hmp2_.out.2
   have ho1 := HO1_.out
   have ho2 := HO2_.out
   have ho3 := HO3_.out
   have c3b0 := C3b0_.out
   have c3b1 := C3b1_.out
   have c4b0 := C4b0_.out
   have c4b1 := C4b1_.out
   have c6b0 := C6b0_.out
   have c7b0 := C7b0_.out
   have c7b1 := C7b1_.out
   have t8n := T8N_.out
   have t8i := T8I_.out
   have tnh := TNH_.out
   have tni := TNI_.out
   have hdl := Hdl_.out.1
   have hdl' := Hdl_.out.2
   have hdy := Hdy_.out.1
   have hdy' := Hdy_.out.2
   have hl8 := HL8.out
   have had8 := HAD8.out
   have c9b0 := C9b0_.out
   have hpn := Hpn_.out.1
   have hpn' := Hpn_.out.2
   go_wp2_with (first | ((with_reducible refine gate_callee (f := 48) rfl ?_); refine goesL_ (some 67) rfl rfl Try.func48 (by kernel_rfl) rfl #[.string s] rfl (by (try simp only [List.map_toArray, List.map_cons, List.map_nil]); first | done | rfl) ?_; (with_reducible refine (impl_kindOk.calls 6 s true _ HKS.out).mono ?_); rintro e_ W1_ ⟨rfl, ⟨nd_, rfl⟩⟩; refine ⟨_, rfl, ?_⟩) | ((with_reducible refine gate_dst (N := 12) rfl ?_); refine box_event ?hg (N := 12) ?hd (cs := #[.string (⟨#[]⟩ : ByteArray), .int .i64 0, .slice none 0 0]) (t := 46) ?hr ?_; (case hd => rfl); (case hg => rfl); (case hr => first | (go_simp; done) | (go_simp; rfl)); intro gb hgb_ W13_ hbox_ hb_; have hgb2_ : gb = wr.heap.size := hgb_; have hb2_ : Below wr.heap.size wr W13_ := Below.mk hb_.os hb_.tape hb_.output hb_.size hb_.block; have HBK13 := u7e hbox_; have HGB : Aside0 (g < gb) := ⟨by rw [hgb2_]; exact blk_lt HG.out⟩; have HO13 : Aside0 (Kd.S k46 46 W13_ w0.heap.size (fun k_ => k_ ≠ g ∧ k_ < gb) (.slice Ao boxes.length co) boxes) := ⟨Kd.S_below (Kd.S_mono (Kd.S_bound HO.out) (fun k_ hk_ => ⟨hk_.1, by rw [hgb2_]; exact hk_.2.2.1⟩)) hb2_⟩; have HG13 := u7e (blk_below HG.out hb2_); have HB13 := u7e (below_step HB.out hb2_); clear hgb_ hgb2_ hbox_ hb_ hb2_) | ((with_reducible refine gate_ (.store 46 (.tmp 12) (.tmp 79)) rfl ?_); (refine put_blk_event rfl rfl rfl (g := gb) (off := 0) (cur := #[Value.string (⟨#[]⟩ : ByteArray), Value.int .i64 0, Value.slice none 0 0]) (cur' := #[Value.string s, Value.int .i64 depth, Value.slice none 0 0]) (u := .agg #[Value.string s, Value.int .i64 depth, Value.slice none 0 0]) (seg := [Value.string s, Value.int .i64 depth, Value.slice none 0 0]) (by rfl) (by rfl) HBK13.out rfl (by kernel_rfl) (Nat.le_of_ble_eq_true rfl) (by intro q_ hq_; simp only [List.mem_cons, List.not_mem_nil, or_false] at hq_; rcases hq_ with rfl | rfl | rfl <;> rfl) (by rfl) ?_); intro W14_ h1_ h2_ h3_; have HBK14 := u7e h1_; have HG14 := u7e ((h2_ g (Nat.ne_of_lt HGB.out)).trans HG13.out); have HO14 := u7e (Kd.S_step HO13.out (fun k_ hk_ _ => h2_ k_ (Nat.ne_of_lt hk_.2))); have HB14 := u7e (h3_ _ _ (Nat.le_trans HG0.out (Nat.le_of_lt HGB.out)) HB13.out); have hv140_ : W14_.cell? ⟨gb, 0, none⟩ = some (Value.string s) := (blk_cell HBK14.out 0).trans rfl; have hv141_ : W14_.cell? ⟨gb, 1, none⟩ = some (Value.int .i64 depth) := (blk_cell HBK14.out 1).trans rfl; have hv142_ : W14_.cell? ⟨gb, 2, none⟩ = some (Value.slice none 0 0) := (blk_cell HBK14.out 2).trans rfl; have hu140_ : W14_.cell? ⟨g, 0, none⟩ = some (Value.slice (some ad) bs.length cb) := (blk_cell HG14.out 0).trans rfl; have hu141_ : W14_.cell? ⟨g, 1, none⟩ = some (Value.slice Ao boxes.length co) := (blk_cell HG14.out 1).trans rfl; have hu142_ : W14_.cell? ⟨g, 2, none⟩ = some (Value.int .i64 data) := (blk_cell HG14.out 2).trans rfl; have hu143_ : W14_.cell? ⟨g, 3, none⟩ = some (Value.int .i64 0) := (blk_cell HG14.out 3).trans rfl; have hu144_ : W14_.cell? ⟨g, 4, none⟩ = some (Value.int .i64 0) := (blk_cell HG14.out 4).trans rfl; clear h1_ h2_ h3_) | ((with_reducible refine gate_dst (N := 81) rfl ?_); refine goesL_ (some 81) rfl rfl Try.func49 (by kernel_rfl) rfl #[.agg #[Value.string s, Value.int .i64 depth, Value.slice none 0 0]] rfl (by (try simp only [List.map_toArray, List.map_cons, List.map_nil]); first | done | rfl) ?_; (refine (impl_Box_holds.calls s depth none 0 [] false _ (by exact Kd.C_nil _ _) (by exact Nat.le_refl _) HH.out).mono ?_); rintro e_ W15_ ⟨rfl, hb_⟩; refine ⟨_, rfl, ?_⟩; have HBK15 := u7e (blk_below HBK14.out hb_); have HG15 := u7e (blk_below HG14.out hb_); have HO15 := u7e (Kd.S_below HO14.out hb_); have HB15 := u7e (below_step HB14.out hb_); have hv150_ : W15_.cell? ⟨gb, 0, none⟩ = some (Value.string s) := (blk_cell HBK15.out 0).trans rfl; have hv151_ : W15_.cell? ⟨gb, 1, none⟩ = some (Value.int .i64 depth) := (blk_cell HBK15.out 1).trans rfl; have hv152_ : W15_.cell? ⟨gb, 2, none⟩ = some (Value.slice none 0 0) := (blk_cell HBK15.out 2).trans rfl; have hu150_ : W15_.cell? ⟨g, 0, none⟩ = some (Value.slice (some ad) bs.length cb) := (blk_cell HG15.out 0).trans rfl; have hu151_ : W15_.cell? ⟨g, 1, none⟩ = some (Value.slice Ao boxes.length co) := (blk_cell HG15.out 1).trans rfl; have hu152_ : W15_.cell? ⟨g, 2, none⟩ = some (Value.int .i64 data) := (blk_cell HG15.out 2).trans rfl; have hu153_ : W15_.cell? ⟨g, 3, none⟩ = some (Value.int .i64 0) := (blk_cell HG15.out 3).trans rfl; have hu154_ : W15_.cell? ⟨g, 4, none⟩ = some (Value.int .i64 0) := (blk_cell HG15.out 4).trans rfl; clear hb_) | ((with_reducible refine gate_dst (N := 86) rfl ?_); refine goesL_ (some 86) rfl rfl Try.func62 (by kernel_rfl) rfl #[.slice (some ad8) l8 (hc - 8)] rfl (by (try simp only [List.map_toArray, List.map_cons, List.map_nil]); first | done | rfl) ?_; (refine (HCLN.out _ HB15.out).mono ?_); rintro e_ W16_ ⟨v86, rfl, ho_, hb_⟩; refine ⟨_, rfl, ?_⟩; have HBK16 := u7e (blk_below HBK15.out hb_); have HG16 := u7e (blk_below HG15.out hb_); have HO16 := u7e (Kd.S_below HO15.out hb_); have HB16 := u7e (below_step HB15.out hb_); have hv160_ : W16_.cell? ⟨gb, 0, none⟩ = some (Value.string s) := (blk_cell HBK16.out 0).trans rfl; have hv161_ : W16_.cell? ⟨gb, 1, none⟩ = some (Value.int .i64 depth) := (blk_cell HBK16.out 1).trans rfl; have hv162_ : W16_.cell? ⟨gb, 2, none⟩ = some (Value.slice none 0 0) := (blk_cell HBK16.out 2).trans rfl; have hu160_ : W16_.cell? ⟨g, 0, none⟩ = some (Value.slice (some ad) bs.length cb) := (blk_cell HG16.out 0).trans rfl; have hu161_ : W16_.cell? ⟨g, 1, none⟩ = some (Value.slice Ao boxes.length co) := (blk_cell HG16.out 1).trans rfl; have hu162_ : W16_.cell? ⟨g, 2, none⟩ = some (Value.int .i64 data) := (blk_cell HG16.out 2).trans rfl; have hu163_ : W16_.cell? ⟨g, 3, none⟩ = some (Value.int .i64 0) := (blk_cell HG16.out 3).trans rfl; have hu164_ : W16_.cell? ⟨g, 4, none⟩ = some (Value.int .i64 0) := (blk_cell HG16.out 4).trans rfl; obtain ⟨hv, hhv_⟩ : ∃ n : Nat, n = W15_.heap.size := ⟨_, rfl⟩; have HHV : Aside0 (gb < hv) := ⟨by rw [hhv_]; exact blk_lt HBK15.out⟩; have HVW : Aside0 (hv ≤ W16_.heap.size) := ⟨by rw [hhv_]; exact hb_.size⟩; have HV16 : Aside0 (Kd.R (Kd.int .u8) 5 W16_ w0.heap.size (fun k_ => hv ≤ k_) v86 ys) := ⟨Kd.R_lower (Kd.R_mono (Kd.R_bound ho_) (fun k_ hk_ => by rw [hhv_]; exact hk_.2.1)) HB15.out.size⟩; obtain ⟨A86, c86, e86_⟩ := Kd.R_slice ho_; subst e86_; clear ho_ hb_ hhv_) | ((with_reducible refine gate_ (.store 29 (.tmp 87) (.tmp 86)) rfl ?_); (refine put_blk_event rfl rfl rfl (g := gb) (off := 2) (cur := #[Value.string s, Value.int .i64 depth, Value.slice none 0 0]) (cur' := #[Value.string s, Value.int .i64 depth, Value.slice A86 ys.length c86]) (u := .slice A86 ys.length c86) (seg := [Value.slice A86 ys.length c86]) (by rfl) (by rfl) HBK16.out rfl (by kernel_rfl) (Nat.le_of_ble_eq_true rfl) (by intro q_ hq_; simp only [List.mem_cons, List.not_mem_nil, or_false] at hq_; rcases hq_ with rfl <;> rfl) (by rfl) ?_); intro W17_ h1_ h2_ h3_; have HBK17 := u7e h1_; have HG17 := u7e ((h2_ g (Nat.ne_of_lt HGB.out)).trans HG16.out); have HO17 := u7e (Kd.S_step HO16.out (fun k_ hk_ _ => h2_ k_ (Nat.ne_of_lt hk_.2))); have HB17 := u7e (h3_ _ _ (Nat.le_trans HG0.out (Nat.le_of_lt HGB.out)) HB16.out); have HV17 := u7e (Kd.R_step HV16.out (fun k_ hk_ _ => h2_ k_ (Nat.ne_of_gt (Nat.lt_of_lt_of_le HHV.out hk_)))); have HVS17 : Aside0 (hv ≤ W17_.heap.size) := ⟨Nat.le_trans HVW.out (sizes_le_ h2_ HBK16.out h1_)⟩; have hv170_ : W17_.cell? ⟨gb, 0, none⟩ = some (Value.string s) := (blk_cell HBK17.out 0).trans rfl; have hv171_ : W17_.cell? ⟨gb, 1, none⟩ = some (Value.int .i64 depth) := (blk_cell HBK17.out 1).trans rfl; have hv172_ : W17_.cell? ⟨gb, 2, none⟩ = some (Value.slice A86 ys.length c86) := (blk_cell HBK17.out 2).trans rfl; have hu170_ : W17_.cell? ⟨g, 0, none⟩ = some (Value.slice (some ad) bs.length cb) := (blk_cell HG17.out 0).trans rfl; have hu171_ : W17_.cell? ⟨g, 1, none⟩ = some (Value.slice Ao boxes.length co) := (blk_cell HG17.out 1).trans rfl; have hu172_ : W17_.cell? ⟨g, 2, none⟩ = some (Value.int .i64 data) := (blk_cell HG17.out 2).trans rfl; have hu173_ : W17_.cell? ⟨g, 3, none⟩ = some (Value.int .i64 0) := (blk_cell HG17.out 3).trans rfl; have hu174_ : W17_.cell? ⟨g, 4, none⟩ = some (Value.int .i64 0) := (blk_cell HG17.out 4).trans rfl; clear h1_ h2_ h3_))
   go_quiet (fail)
   go_wp2_with (first | ((with_reducible refine gate_callee (f := 48) rfl ?_); refine goesL_ (some 67) rfl rfl Try.func48 (by kernel_rfl) rfl #[.string s] rfl (by (try simp only [List.map_toArray, List.map_cons, List.map_nil]); first | done | rfl) ?_; (with_reducible refine (impl_kindOk.calls 6 s true _ HKS.out).mono ?_); rintro e_ W1_ ⟨rfl, ⟨nd_, rfl⟩⟩; refine ⟨_, rfl, ?_⟩) | ((with_reducible refine gate_dst (N := 12) rfl ?_); refine box_event ?hg (N := 12) ?hd (cs := #[.string (⟨#[]⟩ : ByteArray), .int .i64 0, .slice none 0 0]) (t := 46) ?hr ?_; (case hd => rfl); (case hg => rfl); (case hr => first | (go_simp; done) | (go_simp; rfl)); intro gb hgb_ W13_ hbox_ hb_; have hgb2_ : gb = wr.heap.size := hgb_; have hb2_ : Below wr.heap.size wr W13_ := Below.mk hb_.os hb_.tape hb_.output hb_.size hb_.block; have HBK13 := u7e hbox_; have HGB : Aside0 (g < gb) := ⟨by rw [hgb2_]; exact blk_lt HG.out⟩; have HO13 : Aside0 (Kd.S k46 46 W13_ w0.heap.size (fun k_ => k_ ≠ g ∧ k_ < gb) (.slice Ao boxes.length co) boxes) := ⟨Kd.S_below (Kd.S_mono (Kd.S_bound HO.out) (fun k_ hk_ => ⟨hk_.1, by rw [hgb2_]; exact hk_.2.2.1⟩)) hb2_⟩; have HG13 := u7e (blk_below HG.out hb2_); have HB13 := u7e (below_step HB.out hb2_); clear hgb_ hgb2_ hbox_ hb_ hb2_) | ((with_reducible refine gate_ (.store 46 (.tmp 12) (.tmp 79)) rfl ?_); (refine put_blk_event rfl rfl rfl (g := gb) (off := 0) (cur := #[Value.string (⟨#[]⟩ : ByteArray), Value.int .i64 0, Value.slice none 0 0]) (cur' := #[Value.string s, Value.int .i64 depth, Value.slice none 0 0]) (u := .agg #[Value.string s, Value.int .i64 depth, Value.slice none 0 0]) (seg := [Value.string s, Value.int .i64 depth, Value.slice none 0 0]) (by rfl) (by rfl) HBK13.out rfl (by kernel_rfl) (Nat.le_of_ble_eq_true rfl) (by intro q_ hq_; simp only [List.mem_cons, List.not_mem_nil, or_false] at hq_; rcases hq_ with rfl | rfl | rfl <;> rfl) (by rfl) ?_); intro W14_ h1_ h2_ h3_; have HBK14 := u7e h1_; have HG14 := u7e ((h2_ g (Nat.ne_of_lt HGB.out)).trans HG13.out); have HO14 := u7e (Kd.S_step HO13.out (fun k_ hk_ _ => h2_ k_ (Nat.ne_of_lt hk_.2))); have HB14 := u7e (h3_ _ _ (Nat.le_trans HG0.out (Nat.le_of_lt HGB.out)) HB13.out); have hv140_ : W14_.cell? ⟨gb, 0, none⟩ = some (Value.string s) := (blk_cell HBK14.out 0).trans rfl; have hv141_ : W14_.cell? ⟨gb, 1, none⟩ = some (Value.int .i64 depth) := (blk_cell HBK14.out 1).trans rfl; have hv142_ : W14_.cell? ⟨gb, 2, none⟩ = some (Value.slice none 0 0) := (blk_cell HBK14.out 2).trans rfl; have hu140_ : W14_.cell? ⟨g, 0, none⟩ = some (Value.slice (some ad) bs.length cb) := (blk_cell HG14.out 0).trans rfl; have hu141_ : W14_.cell? ⟨g, 1, none⟩ = some (Value.slice Ao boxes.length co) := (blk_cell HG14.out 1).trans rfl; have hu142_ : W14_.cell? ⟨g, 2, none⟩ = some (Value.int .i64 data) := (blk_cell HG14.out 2).trans rfl; have hu143_ : W14_.cell? ⟨g, 3, none⟩ = some (Value.int .i64 0) := (blk_cell HG14.out 3).trans rfl; have hu144_ : W14_.cell? ⟨g, 4, none⟩ = some (Value.int .i64 0) := (blk_cell HG14.out 4).trans rfl; clear h1_ h2_ h3_) | ((with_reducible refine gate_dst (N := 81) rfl ?_); refine goesL_ (some 81) rfl rfl Try.func49 (by kernel_rfl) rfl #[.agg #[Value.string s, Value.int .i64 depth, Value.slice none 0 0]] rfl (by (try simp only [List.map_toArray, List.map_cons, List.map_nil]); first | done | rfl) ?_; (refine (impl_Box_holds.calls s depth none 0 [] false _ (by exact Kd.C_nil _ _) (by exact Nat.le_refl _) HH.out).mono ?_); rintro e_ W15_ ⟨rfl, hb_⟩; refine ⟨_, rfl, ?_⟩; have HBK15 := u7e (blk_below HBK14.out hb_); have HG15 := u7e (blk_below HG14.out hb_); have HO15 := u7e (Kd.S_below HO14.out hb_); have HB15 := u7e (below_step HB14.out hb_); have hv150_ : W15_.cell? ⟨gb, 0, none⟩ = some (Value.string s) := (blk_cell HBK15.out 0).trans rfl; have hv151_ : W15_.cell? ⟨gb, 1, none⟩ = some (Value.int .i64 depth) := (blk_cell HBK15.out 1).trans rfl; have hv152_ : W15_.cell? ⟨gb, 2, none⟩ = some (Value.slice none 0 0) := (blk_cell HBK15.out 2).trans rfl; have hu150_ : W15_.cell? ⟨g, 0, none⟩ = some (Value.slice (some ad) bs.length cb) := (blk_cell HG15.out 0).trans rfl; have hu151_ : W15_.cell? ⟨g, 1, none⟩ = some (Value.slice Ao boxes.length co) := (blk_cell HG15.out 1).trans rfl; have hu152_ : W15_.cell? ⟨g, 2, none⟩ = some (Value.int .i64 data) := (blk_cell HG15.out 2).trans rfl; have hu153_ : W15_.cell? ⟨g, 3, none⟩ = some (Value.int .i64 0) := (blk_cell HG15.out 3).trans rfl; have hu154_ : W15_.cell? ⟨g, 4, none⟩ = some (Value.int .i64 0) := (blk_cell HG15.out 4).trans rfl; clear hb_) | ((with_reducible refine gate_dst (N := 86) rfl ?_); refine goesL_ (some 86) rfl rfl Try.func62 (by kernel_rfl) rfl #[.slice (some ad8) l8 (hc - 8)] rfl (by (try simp only [List.map_toArray, List.map_cons, List.map_nil]); first | done | rfl) ?_; (refine (HCLN.out _ HB15.out).mono ?_); rintro e_ W16_ ⟨v86, rfl, ho_, hb_⟩; refine ⟨_, rfl, ?_⟩; have HBK16 := u7e (blk_below HBK15.out hb_); have HG16 := u7e (blk_below HG15.out hb_); have HO16 := u7e (Kd.S_below HO15.out hb_); have HB16 := u7e (below_step HB15.out hb_); have hv160_ : W16_.cell? ⟨gb, 0, none⟩ = some (Value.string s) := (blk_cell HBK16.out 0).trans rfl; have hv161_ : W16_.cell? ⟨gb, 1, none⟩ = some (Value.int .i64 depth) := (blk_cell HBK16.out 1).trans rfl; have hv162_ : W16_.cell? ⟨gb, 2, none⟩ = some (Value.slice none 0 0) := (blk_cell HBK16.out 2).trans rfl; have hu160_ : W16_.cell? ⟨g, 0, none⟩ = some (Value.slice (some ad) bs.length cb) := (blk_cell HG16.out 0).trans rfl; have hu161_ : W16_.cell? ⟨g, 1, none⟩ = some (Value.slice Ao boxes.length co) := (blk_cell HG16.out 1).trans rfl; have hu162_ : W16_.cell? ⟨g, 2, none⟩ = some (Value.int .i64 data) := (blk_cell HG16.out 2).trans rfl; have hu163_ : W16_.cell? ⟨g, 3, none⟩ = some (Value.int .i64 0) := (blk_cell HG16.out 3).trans rfl; have hu164_ : W16_.cell? ⟨g, 4, none⟩ = some (Value.int .i64 0) := (blk_cell HG16.out 4).trans rfl; obtain ⟨hv, hhv_⟩ : ∃ n : Nat, n = W15_.heap.size := ⟨_, rfl⟩; have HHV : Aside0 (gb < hv) := ⟨by rw [hhv_]; exact blk_lt HBK15.out⟩; have HVW : Aside0 (hv ≤ W16_.heap.size) := ⟨by rw [hhv_]; exact hb_.size⟩; have HV16 : Aside0 (Kd.R (Kd.int .u8) 5 W16_ w0.heap.size (fun k_ => hv ≤ k_) v86 ys) := ⟨Kd.R_lower (Kd.R_mono (Kd.R_bound ho_) (fun k_ hk_ => by rw [hhv_]; exact hk_.2.1)) HB15.out.size⟩; obtain ⟨A86, c86, e86_⟩ := Kd.R_slice ho_; subst e86_; clear ho_ hb_ hhv_) | ((with_reducible refine gate_ (.store 29 (.tmp 87) (.tmp 86)) rfl ?_); (refine put_blk_event rfl rfl rfl (g := gb) (off := 2) (cur := #[Value.string s, Value.int .i64 depth, Value.slice none 0 0]) (cur' := #[Value.string s, Value.int .i64 depth, Value.slice A86 ys.length c86]) (u := .slice A86 ys.length c86) (seg := [Value.slice A86 ys.length c86]) (by rfl) (by rfl) HBK16.out rfl (by kernel_rfl) (Nat.le_of_ble_eq_true rfl) (by intro q_ hq_; simp only [List.mem_cons, List.not_mem_nil, or_false] at hq_; rcases hq_ with rfl <;> rfl) (by rfl) ?_); intro W17_ h1_ h2_ h3_; have HBK17 := u7e h1_; have HG17 := u7e ((h2_ g (Nat.ne_of_lt HGB.out)).trans HG16.out); have HO17 := u7e (Kd.S_step HO16.out (fun k_ hk_ _ => h2_ k_ (Nat.ne_of_lt hk_.2))); have HB17 := u7e (h3_ _ _ (Nat.le_trans HG0.out (Nat.le_of_lt HGB.out)) HB16.out); have HV17 := u7e (Kd.R_step HV16.out (fun k_ hk_ _ => h2_ k_ (Nat.ne_of_gt (Nat.lt_of_lt_of_le HHV.out hk_)))); have HVS17 : Aside0 (hv ≤ W17_.heap.size) := ⟨Nat.le_trans HVW.out (sizes_le_ h2_ HBK16.out h1_)⟩; have hv170_ : W17_.cell? ⟨gb, 0, none⟩ = some (Value.string s) := (blk_cell HBK17.out 0).trans rfl; have hv171_ : W17_.cell? ⟨gb, 1, none⟩ = some (Value.int .i64 depth) := (blk_cell HBK17.out 1).trans rfl; have hv172_ : W17_.cell? ⟨gb, 2, none⟩ = some (Value.slice A86 ys.length c86) := (blk_cell HBK17.out 2).trans rfl; have hu170_ : W17_.cell? ⟨g, 0, none⟩ = some (Value.slice (some ad) bs.length cb) := (blk_cell HG17.out 0).trans rfl; have hu171_ : W17_.cell? ⟨g, 1, none⟩ = some (Value.slice Ao boxes.length co) := (blk_cell HG17.out 1).trans rfl; have hu172_ : W17_.cell? ⟨g, 2, none⟩ = some (Value.int .i64 data) := (blk_cell HG17.out 2).trans rfl; have hu173_ : W17_.cell? ⟨g, 3, none⟩ = some (Value.int .i64 0) := (blk_cell HG17.out 3).trans rfl; have hu174_ : W17_.cell? ⟨g, 4, none⟩ = some (Value.int .i64 0) := (blk_cell HG17.out 4).trans rfl; clear h1_ h2_ h3_))
   go_quiet (fail)
   go_wp2_with (first | ((with_reducible refine gate_callee (f := 48) rfl ?_); refine goesL_ (some 67) rfl rfl Try.func48 (by kernel_rfl) rfl #[.string s] rfl (by (try simp only [List.map_toArray, List.map_cons, List.map_nil]); first | done | rfl) ?_; (with_reducible refine (impl_kindOk.calls 6 s true _ HKS.out).mono ?_); rintro e_ W1_ ⟨rfl, ⟨nd_, rfl⟩⟩; refine ⟨_, rfl, ?_⟩) | ((with_reducible refine gate_dst (N := 12) rfl ?_); refine box_event ?hg (N := 12) ?hd (cs := #[.string (⟨#[]⟩ : ByteArray), .int .i64 0, .slice none 0 0]) (t := 46) ?hr ?_; (case hd => rfl); (case hg => rfl); (case hr => first | (go_simp; done) | (go_simp; rfl)); intro gb hgb_ W13_ hbox_ hb_; have hgb2_ : gb = wr.heap.size := hgb_; have hb2_ : Below wr.heap.size wr W13_ := Below.mk hb_.os hb_.tape hb_.output hb_.size hb_.block; have HBK13 := u7e hbox_; have HGB : Aside0 (g < gb) := ⟨by rw [hgb2_]; exact blk_lt HG.out⟩; have HO13 : Aside0 (Kd.S k46 46 W13_ w0.heap.size (fun k_ => k_ ≠ g ∧ k_ < gb) (.slice Ao boxes.length co) boxes) := ⟨Kd.S_below (Kd.S_mono (Kd.S_bound HO.out) (fun k_ hk_ => ⟨hk_.1, by rw [hgb2_]; exact hk_.2.2.1⟩)) hb2_⟩; have HG13 := u7e (blk_below HG.out hb2_); have HB13 := u7e (below_step HB.out hb2_); clear hgb_ hgb2_ hbox_ hb_ hb2_) | ((with_reducible refine gate_ (.store 46 (.tmp 12) (.tmp 79)) rfl ?_); (refine put_blk_event rfl rfl rfl (g := gb) (off := 0) (cur := #[Value.string (⟨#[]⟩ : ByteArray), Value.int .i64 0, Value.slice none 0 0]) (cur' := #[Value.string s, Value.int .i64 depth, Value.slice none 0 0]) (u := .agg #[Value.string s, Value.int .i64 depth, Value.slice none 0 0]) (seg := [Value.string s, Value.int .i64 depth, Value.slice none 0 0]) (by rfl) (by rfl) HBK13.out rfl (by kernel_rfl) (Nat.le_of_ble_eq_true rfl) (by intro q_ hq_; simp only [List.mem_cons, List.not_mem_nil, or_false] at hq_; rcases hq_ with rfl | rfl | rfl <;> rfl) (by rfl) ?_); intro W14_ h1_ h2_ h3_; have HBK14 := u7e h1_; have HG14 := u7e ((h2_ g (Nat.ne_of_lt HGB.out)).trans HG13.out); have HO14 := u7e (Kd.S_step HO13.out (fun k_ hk_ _ => h2_ k_ (Nat.ne_of_lt hk_.2))); have HB14 := u7e (h3_ _ _ (Nat.le_trans HG0.out (Nat.le_of_lt HGB.out)) HB13.out); have hv140_ : W14_.cell? ⟨gb, 0, none⟩ = some (Value.string s) := (blk_cell HBK14.out 0).trans rfl; have hv141_ : W14_.cell? ⟨gb, 1, none⟩ = some (Value.int .i64 depth) := (blk_cell HBK14.out 1).trans rfl; have hv142_ : W14_.cell? ⟨gb, 2, none⟩ = some (Value.slice none 0 0) := (blk_cell HBK14.out 2).trans rfl; have hu140_ : W14_.cell? ⟨g, 0, none⟩ = some (Value.slice (some ad) bs.length cb) := (blk_cell HG14.out 0).trans rfl; have hu141_ : W14_.cell? ⟨g, 1, none⟩ = some (Value.slice Ao boxes.length co) := (blk_cell HG14.out 1).trans rfl; have hu142_ : W14_.cell? ⟨g, 2, none⟩ = some (Value.int .i64 data) := (blk_cell HG14.out 2).trans rfl; have hu143_ : W14_.cell? ⟨g, 3, none⟩ = some (Value.int .i64 0) := (blk_cell HG14.out 3).trans rfl; have hu144_ : W14_.cell? ⟨g, 4, none⟩ = some (Value.int .i64 0) := (blk_cell HG14.out 4).trans rfl; clear h1_ h2_ h3_) | ((with_reducible refine gate_dst (N := 81) rfl ?_); refine goesL_ (some 81) rfl rfl Try.func49 (by kernel_rfl) rfl #[.agg #[Value.string s, Value.int .i64 depth, Value.slice none 0 0]] rfl (by (try simp only [List.map_toArray, List.map_cons, List.map_nil]); first | done | rfl) ?_; (refine (impl_Box_holds.calls s depth none 0 [] false _ (by exact Kd.C_nil _ _) (by exact Nat.le_refl _) HH.out).mono ?_); rintro e_ W15_ ⟨rfl, hb_⟩; refine ⟨_, rfl, ?_⟩; have HBK15 := u7e (blk_below HBK14.out hb_); have HG15 := u7e (blk_below HG14.out hb_); have HO15 := u7e (Kd.S_below HO14.out hb_); have HB15 := u7e (below_step HB14.out hb_); have hv150_ : W15_.cell? ⟨gb, 0, none⟩ = some (Value.string s) := (blk_cell HBK15.out 0).trans rfl; have hv151_ : W15_.cell? ⟨gb, 1, none⟩ = some (Value.int .i64 depth) := (blk_cell HBK15.out 1).trans rfl; have hv152_ : W15_.cell? ⟨gb, 2, none⟩ = some (Value.slice none 0 0) := (blk_cell HBK15.out 2).trans rfl; have hu150_ : W15_.cell? ⟨g, 0, none⟩ = some (Value.slice (some ad) bs.length cb) := (blk_cell HG15.out 0).trans rfl; have hu151_ : W15_.cell? ⟨g, 1, none⟩ = some (Value.slice Ao boxes.length co) := (blk_cell HG15.out 1).trans rfl; have hu152_ : W15_.cell? ⟨g, 2, none⟩ = some (Value.int .i64 data) := (blk_cell HG15.out 2).trans rfl; have hu153_ : W15_.cell? ⟨g, 3, none⟩ = some (Value.int .i64 0) := (blk_cell HG15.out 3).trans rfl; have hu154_ : W15_.cell? ⟨g, 4, none⟩ = some (Value.int .i64 0) := (blk_cell HG15.out 4).trans rfl; clear hb_) | ((with_reducible refine gate_dst (N := 86) rfl ?_); refine goesL_ (some 86) rfl rfl Try.func62 (by kernel_rfl) rfl #[.slice (some ad8) l8 (hc - 8)] rfl (by (try simp only [List.map_toArray, List.map_cons, List.map_nil]); first | done | rfl) ?_; (refine (HCLN.out _ HB15.out).mono ?_); rintro e_ W16_ ⟨v86, rfl, ho_, hb_⟩; refine ⟨_, rfl, ?_⟩; have HBK16 := u7e (blk_below HBK15.out hb_); have HG16 := u7e (blk_below HG15.out hb_); have HO16 := u7e (Kd.S_below HO15.out hb_); have HB16 := u7e (below_step HB15.out hb_); have hv160_ : W16_.cell? ⟨gb, 0, none⟩ = some (Value.string s) := (blk_cell HBK16.out 0).trans rfl; have hv161_ : W16_.cell? ⟨gb, 1, none⟩ = some (Value.int .i64 depth) := (blk_cell HBK16.out 1).trans rfl; have hv162_ : W16_.cell? ⟨gb, 2, none⟩ = some (Value.slice none 0 0) := (blk_cell HBK16.out 2).trans rfl; have hu160_ : W16_.cell? ⟨g, 0, none⟩ = some (Value.slice (some ad) bs.length cb) := (blk_cell HG16.out 0).trans rfl; have hu161_ : W16_.cell? ⟨g, 1, none⟩ = some (Value.slice Ao boxes.length co) := (blk_cell HG16.out 1).trans rfl; have hu162_ : W16_.cell? ⟨g, 2, none⟩ = some (Value.int .i64 data) := (blk_cell HG16.out 2).trans rfl; have hu163_ : W16_.cell? ⟨g, 3, none⟩ = some (Value.int .i64 0) := (blk_cell HG16.out 3).trans rfl; have hu164_ : W16_.cell? ⟨g, 4, none⟩ = some (Value.int .i64 0) := (blk_cell HG16.out 4).trans rfl; obtain ⟨hv, hhv_⟩ : ∃ n : Nat, n = W15_.heap.size := ⟨_, rfl⟩; have HHV : Aside0 (gb < hv) := ⟨by rw [hhv_]; exact blk_lt HBK15.out⟩; have HVW : Aside0 (hv ≤ W16_.heap.size) := ⟨by rw [hhv_]; exact hb_.size⟩; have HV16 : Aside0 (Kd.R (Kd.int .u8) 5 W16_ w0.heap.size (fun k_ => hv ≤ k_) v86 ys) := ⟨Kd.R_lower (Kd.R_mono (Kd.R_bound ho_) (fun k_ hk_ => by rw [hhv_]; exact hk_.2.1)) HB15.out.size⟩; obtain ⟨A86, c86, e86_⟩ := Kd.R_slice ho_; subst e86_; clear ho_ hb_ hhv_) | ((with_reducible refine gate_ (.store 29 (.tmp 87) (.tmp 86)) rfl ?_); (refine put_blk_event rfl rfl rfl (g := gb) (off := 2) (cur := #[Value.string s, Value.int .i64 depth, Value.slice none 0 0]) (cur' := #[Value.string s, Value.int .i64 depth, Value.slice A86 ys.length c86]) (u := .slice A86 ys.length c86) (seg := [Value.slice A86 ys.length c86]) (by rfl) (by rfl) HBK16.out rfl (by kernel_rfl) (Nat.le_of_ble_eq_true rfl) (by intro q_ hq_; simp only [List.mem_cons, List.not_mem_nil, or_false] at hq_; rcases hq_ with rfl <;> rfl) (by rfl) ?_); intro W17_ h1_ h2_ h3_; have HBK17 := u7e h1_; have HG17 := u7e ((h2_ g (Nat.ne_of_lt HGB.out)).trans HG16.out); have HO17 := u7e (Kd.S_step HO16.out (fun k_ hk_ _ => h2_ k_ (Nat.ne_of_lt hk_.2))); have HB17 := u7e (h3_ _ _ (Nat.le_trans HG0.out (Nat.le_of_lt HGB.out)) HB16.out); have HV17 := u7e (Kd.R_step HV16.out (fun k_ hk_ _ => h2_ k_ (Nat.ne_of_gt (Nat.lt_of_lt_of_le HHV.out hk_)))); have HVS17 : Aside0 (hv ≤ W17_.heap.size) := ⟨Nat.le_trans HVW.out (sizes_le_ h2_ HBK16.out h1_)⟩; have hv170_ : W17_.cell? ⟨gb, 0, none⟩ = some (Value.string s) := (blk_cell HBK17.out 0).trans rfl; have hv171_ : W17_.cell? ⟨gb, 1, none⟩ = some (Value.int .i64 depth) := (blk_cell HBK17.out 1).trans rfl; have hv172_ : W17_.cell? ⟨gb, 2, none⟩ = some (Value.slice A86 ys.length c86) := (blk_cell HBK17.out 2).trans rfl; have hu170_ : W17_.cell? ⟨g, 0, none⟩ = some (Value.slice (some ad) bs.length cb) := (blk_cell HG17.out 0).trans rfl; have hu171_ : W17_.cell? ⟨g, 1, none⟩ = some (Value.slice Ao boxes.length co) := (blk_cell HG17.out 1).trans rfl; have hu172_ : W17_.cell? ⟨g, 2, none⟩ = some (Value.int .i64 data) := (blk_cell HG17.out 2).trans rfl; have hu173_ : W17_.cell? ⟨g, 3, none⟩ = some (Value.int .i64 0) := (blk_cell HG17.out 3).trans rfl; have hu174_ : W17_.cell? ⟨g, 4, none⟩ = some (Value.int .i64 0) := (blk_cell HG17.out 4).trans rfl; clear h1_ h2_ h3_))
   refine rd_carry (S := fun W' => W'.heap[g]? = some (.cells #[Value.slice (some ad) bs.length cb, Value.slice Ao boxes.length co, Value.int .i64 data, Value.int .i64 0, Value.int .i64 0] 56 (0, 0)) ∧ W'.heap[gb]? = some (.cells #[Value.string s, Value.int .i64 depth, Value.slice A86 ys.length c86] 46 (0, 0)) ∧ Kd.S k46 46 W' w0.heap.size (fun k_ => k_ ≠ g ∧ k_ < gb) (.slice Ao boxes.length co) boxes ∧ Below w0.heap.size w0 W' ∧ Kd.R (Kd.int .u8) 5 W' w0.heap.size (fun k_ => hv ≤ k_) (.slice A86 ys.length c86) ys ∧ hv ≤ W'.heap.size) ⟨HG17.out, HBK17.out, (Kd.S_step HO17.out (fun _ _ _ => rfl)), (Below.mk HB17.out.os HB17.out.tape HB17.out.output HB17.out.size HB17.out.block), (Kd.R_step HV17.out (fun _ _ _ => rfl)), HVS17.out⟩ ?_
   rintro V0_ ⟨h1_, h2_, h3_, h4_, h5_, h6_⟩
   have HO18 := u7e (Kd.S_drew h3_)
   have HB18 : Aside0 (Below w0.heap.size w0 (World.drew V0_)) := ⟨Below.mk h4_.os h4_.tape h4_.output h4_.size h4_.block⟩
   have HV18 := u7e (Kd.R_drew h5_)
   have HVS18 : Aside0 (hv ≤ (World.drew V0_).heap.size) := ⟨h6_⟩
   refine start_ (n := 23) (S := fun w' => w'.heap[g]? = some (.cells #[Value.slice (some ad) bs.length cb, Value.slice Ao boxes.length co, Value.int .i64 data, Value.int .i64 0, Value.int .i64 0] 56 (0, 0)) ∧ w'.heap[gb]? = some (.cells #[Value.string s, Value.int .i64 depth, Value.slice A86 ys.length c86] 46 (0, 0))) (ds := [19, 22]) #[false, false, false, false, false, false, false, false, false, false, false, false, false, false, false, false, false, false, false, false, false, false, false] (by kernel_rfl) rfl rfl ⟨h1_, h2_⟩ (fun hHeld => ?_)
   clear h1_ h2_ h3_ h4_ h5_ h6_
   generalize World.drew V0_ = V at hHeld HO18 HB18 HV18 HVS18 ⊢
   have HGV : Aside0 (g < V.heap.size) := ⟨blk_lt hHeld.1⟩
   have HGBV : Aside0 (gb < V.heap.size) := ⟨blk_lt hHeld.2⟩
   refine pure_ (i := 0) (N := some 108) (v := ?_) (a' := ?_) #[true, false, false, false, false, false, false, false, false, false, false, false, false, false, false, false, false, false, false, false, false, false, false] rfl rfl (by kernel_rfl) (fun _ _ _ h => h) (Or.inl ⟨by rfl, ?_⟩) ?_ ?_
   rotate_left
   ·intro w'
    go_simp
    with_reducible rfl
   rotate_left
   ·simp only [Act.put, u7a, u7b, u7c, i64_w, i32_w]
    rfl
   refine pure_ (i := 1) (N := some 109) (v := ?_) (a' := ?_) #[true, true, false, false, false, false, false, false, false, false, false, false, false, false, false, false, false, false, false, false, false, false, false] rfl rfl (by kernel_rfl) (fun _ _ _ h => h) (Or.inl ⟨by rfl, ?_⟩) ?_ ?_
   rotate_left
   ·intro w'
    go_simp
    with_reducible rfl
   rotate_left
   ·simp only [Act.put, u7a, u7b, u7c, i64_w, i32_w]
    rfl
   refine pure_ (i := 2) (N := some 110) (v := ?_) (a' := ?_) #[true, true, true, false, false, false, false, false, false, false, false, false, false, false, false, false, false, false, false, false, false, false, false] rfl rfl (by kernel_rfl) (fun _ _ _ h => h) (Or.inl ⟨by rfl, ?_⟩) ?_ ?_
   rotate_left
   ·intro w'
    go_simp
    with_reducible rfl
   rotate_left
   ·simp only [Act.put, u7a, u7b, u7c, i64_w, i32_w]
    rfl
   refine pure_ (i := 3) (N := some 111) (v := ?_) (a' := ?_) #[true, true, true, true, false, false, false, false, false, false, false, false, false, false, false, false, false, false, false, false, false, false, false] rfl rfl (by kernel_rfl) (fun _ _ _ h => h) (Or.inl ⟨by rfl, ?_⟩) ?_ ?_
   rotate_left
   ·intro w'
    go_simp
    with_reducible rfl
   rotate_left
   ·simp only [Act.put, u7a, u7b, u7c, i64_w, i32_w]
    rfl
   refine pure_ (i := 4) (N := some 112) (v := ?_) (a' := ?_) #[true, true, true, true, true, false, false, false, false, false, false, false, false, false, false, false, false, false, false, false, false, false, false] rfl rfl (by kernel_rfl) (fun _ _ _ h => h) (Or.inl ⟨by rfl, ?_⟩) ?_ ?_
   rotate_left
   ·intro w'
    go_simp
    with_reducible rfl
   rotate_left
   ·simp only [Act.put, u7a, u7b, u7c, i64_w, i32_w]
    rfl
   refine take_ (i := 5) (N := some 113) (v := ?_) (a' := ?_) #[true, true, true, true, true, true, false, false, false, false, false, false, false, false, false, false, false, false, false, false, false, false, false] rfl rfl (by kernel_rfl) (fun _ _ _ h => h) (Or.inl ⟨by rfl, ?_⟩) hHeld ?_ ?_
   rotate_left
   ·intro w' hS
    have hcl0_ : w'.cell? ⟨g, 1, none⟩ = some (Value.slice Ao boxes.length co) := (blk_cell hS.1 1).trans rfl
    go_simp
    with_reducible rfl
   rotate_left
   ·simp only [Act.put, u7a, u7b, u7c, i64_w, i32_w]
    rfl
   refine take_ (i := 6) (N := some 114) (v := ?_) (a' := ?_) #[true, true, true, true, true, true, true, false, false, false, false, false, false, false, false, false, false, false, false, false, false, false, false] rfl rfl (by kernel_rfl) (fun _ _ _ h => h) (Or.inl ⟨by rfl, ?_⟩) hHeld ?_ ?_
   rotate_left
   ·intro w' hS
    have hcl0_ : w'.cell? ⟨gb, 0, none⟩ = some (Value.string s) := (blk_cell hS.2 0).trans rfl
    have hcl1_ : w'.cell? ⟨gb, 1, none⟩ = some (Value.int .i64 depth) := (blk_cell hS.2 1).trans rfl
    have hcl2_ : w'.cell? ⟨gb, 2, none⟩ = some (Value.slice A86 ys.length c86) := (blk_cell hS.2 2).trans rfl
    go_simp
    with_reducible rfl
   rotate_left
   ·simp only [Act.put, u7a, u7b, u7c, i64_w, i32_w]
    rfl
   refine pure_ (i := 9) (N := some 117) (v := ?_) (a' := ?_) #[true, true, true, true, true, true, true, false, false, true, false, false, false, false, false, false, false, false, false, false, false, false, false] rfl rfl (by kernel_rfl) (fun _ _ _ h => h) (Or.inl ⟨by rfl, ?_⟩) ?_ ?_
   rotate_left
   ·intro w'
    go_simp
    with_reducible rfl
   rotate_left
   ·simp only [Act.put, u7a, u7b, u7c, i64_w, i32_w]
    rfl
   refine pure_ (i := 10) (N := some 118) (v := ?_) (a' := ?_) #[true, true, true, true, true, true, true, false, false, true, true, false, false, false, false, false, false, false, false, false, false, false, false] rfl rfl (by kernel_rfl) (fun _ _ _ h => h) (Or.inl ⟨by rfl, ?_⟩) ?_ ?_
   rotate_left
   ·intro w'
    go_simp
    with_reducible rfl
   rotate_left
   ·simp only [Act.put, u7a, u7b, u7c, i64_w, i32_w]
    rfl
   refine pure_ (i := 11) (N := some 119) (v := ?_) (a' := ?_) #[true, true, true, true, true, true, true, false, false, true, true, true, false, false, false, false, false, false, false, false, false, false, false] rfl rfl (by kernel_rfl) (fun _ _ _ h => h) (Or.inl ⟨by rfl, ?_⟩) ?_ ?_
   rotate_left
   ·intro w'
    go_simp
    with_reducible rfl
   rotate_left
   ·simp only [Act.put, u7a, u7b, u7c, i64_w, i32_w]
    rfl
   refine take_ (i := 12) (N := some 120) (v := ?_) (a' := ?_) #[true, true, true, true, true, true, true, false, false, true, true, true, true, false, false, false, false, false, false, false, false, false, false] rfl rfl (by kernel_rfl) (fun _ _ _ h => h) (Or.inl ⟨by rfl, ?_⟩) hHeld ?_ ?_
   rotate_left
   ·intro w' hS
    have hcl0_ : w'.cell? ⟨g, 2, none⟩ = some (Value.int .i64 data) := (blk_cell hS.1 2).trans rfl
    go_simp
    with_reducible rfl
   rotate_left
   ·simp only [Act.put, u7a, u7b, u7c, i64_w, i32_w]
    rfl
   refine pure_ (i := 13) (N := some 121) (v := ?_) (a' := ?_) #[true, true, true, true, true, true, true, false, false, true, true, true, true, true, false, false, false, false, false, false, false, false, false] rfl rfl (by kernel_rfl) (fun _ _ _ h => h) (Or.inl ⟨by rfl, ?_⟩) ?_ ?_
   rotate_left
   ·intro w'
    go_simp
    with_reducible rfl
   rotate_left
   ·simp only [Act.put, u7a, u7b, u7c, i64_w, i32_w]
    rfl
   refine join_ (σ := Option Addr × Nat) 0 #[true, true, true, true, true, true, true, true, true, true, true, true, true, true, true, true, true, true, true, true, true, true, true] (fun s_ => [(115, .slice (some ⟨V.heap.size, 0, none⟩) 1 1), (116, .slice s_.1 bx.length s_.2), (122, Value.slice A86 ys.length c86), (123, Value.int .i64 (ys.length : Int)), (124, .int .i64 dd), (125, .pointer (some ⟨g, 0, none⟩)), (126, .pointer (some ⟨g, 1, none⟩)), (127, .pointer (some ⟨g, 0, none⟩)), (128, .pointer (some ⟨g, 2, none⟩))]) (fun s_ w' => w'.heap[g]? = some (.cells #[Value.slice (some ad) bs.length cb, Value.slice s_.1 bx.length s_.2, Value.int .i64 dd, Value.int .i64 0, Value.int .i64 0] 56 (0, 0)) ∧ w'.heap[gb]? = some (.cells #[Value.string s, Value.int .i64 depth, Value.slice A86 ys.length c86] 46 (0, 0)) ∧ Kd.S k46 46 w' w0.heap.size (fun k_ => k_ ≠ g ∧ k_ ≠ gb) (.slice s_.1 bx.length s_.2) bx ∧ Below w0.heap.size w0 w' ∧ Kd.R (Kd.int .u8) 5 w' w0.heap.size (fun k_ => hv ≤ k_) (.slice A86 ys.length c86) ys) ?_ ?_
   rotate_left
   ·intro hCont
    have hHeld0 := hHeld
    have HBL : Aside0 (bx.length = boxes.length + 1) := ⟨by rw [HBX.out, List.length_append]; rfl⟩
    refine two_ (i := 7) (j := 14) (Ni := some 115) (Nj := some 122) #[true, true, true, true, true, true, true, true, false, true, true, true, true, true, false, false, false, false, false, false, false, false, false] #[true, true, true, true, true, true, true, false, false, true, true, true, true, true, true, false, false, false, false, false, false, false, false] rfl rfl rfl rfl (by kernel_rfl) (by decide) (by decide) (fun K hK => ?_) (fun K hK => ?_)
    ·skip
     refine event_step (W := V) (v := .slice (some ⟨V.heap.size, 0, none⟩) 1 1) (w1 := V.alloc (.cells [Value.string s, Value.int .i64 depth, Value.slice A86 ys.length c86].toArray 46)) (by rfl) (by first | (go_simp; done) | (go_simp; rfl)) ?_
     have hHeld := And.intro (blk_alloc hHeld.1 (.cells [Value.string s, Value.int .i64 depth, Value.slice A86 ys.length c86].toArray 46)) (blk_alloc hHeld.2 (.cells [Value.string s, Value.int .i64 depth, Value.slice A86 ys.length c86].toArray 46))
     refine hK.out _ _ hHeld (fun _ => ?_)
     clear hK K
     refine norm_ (a' := ?_) ?_ ?_
     rotate_left
     ·show Act.put _ (some 115) _ = _
      simp only [Act.put, u7a, u7b, u7c, i64_w, i32_w]
      rfl
     refine two_ (i := 8) (j := 14) (Ni := some 116) (Nj := some 122) #[true, true, true, true, true, true, true, true, true, true, true, true, true, true, false, false, false, false, false, false, false, false, false] #[true, true, true, true, true, true, true, true, false, true, true, true, true, true, true, false, false, false, false, false, false, false, false] rfl rfl rfl rfl (by kernel_rfl) (by decide) (by decide) (fun K hK => ?_) (fun K hK => ?_)
     ·skip
      refine Kd.S_append_step k46 (w0 := w0) w0.heap.size (by rfl) (.tmp 113) (.tmp 115) 25 46 (.agg #[.string ⟨#[]⟩, .int .i64 0, .slice none 0 0]) 48 rfl Try.underlying25 rinfo46 rfl (by decide) (by decide) (.slice Ao boxes.length co) boxes (⟨s, depth, ys⟩ : S46) [Value.string s, Value.int .i64 depth, Value.slice A86 ys.length c86] (fun k_ => k_ ≠ g ∧ k_ ≠ gb) (fun k_ => hv ≤ k_) (by rfl) (by rfl) ?aP ?aK ?aF ?aO HB18.out HB18.out.size ?aL ?_
      case aP => exact k46_mkM _ _ _ (⟨s, depth, ys⟩ : S46) HV18.out
      case aK => exact fun k_ hk_ => ⟨⟨fun he_ => Nat.not_lt.mpr hk_ (by rw [he_]; exact Nat.lt_trans HGB.out HHV.out), fun he_ => Nat.not_lt.mpr hk_ (by rw [he_]; exact HHV.out)⟩, fun he_ => Nat.not_lt.mpr hk_ (Nat.lt_trans ((Kd.S_R HO18.out).1 k_ he_.symm).2 HHV.out)⟩
      case aF => exact fun k_ hk_ => ⟨fun he_ => Nat.not_lt.mpr hk_ (by rw [he_]; exact HGV.out), fun he_ => Nat.not_lt.mpr hk_ (by rw [he_]; exact HGBV.out)⟩
      case aO => exact Kd.S_mono HO18.out (fun k_ hk_ => ⟨⟨hk_.1, Nat.ne_of_lt hk_.2⟩, fun h_ => Nat.not_lt.mpr h_ (Nat.lt_trans hk_.2 HHV.out)⟩)
      case aL => (have := HX.out; omega)
      intro v116 W8_ ho hb hg_ hat
      rw [← HBX.out] at ho
      have hHeld := And.intro ((hg_.block g HGV.out (fun he => ((Kd.S_R HO18.out).1 g he.symm).1 rfl)).trans hHeld0.1) ((hg_.block gb HGBV.out (fun he => Nat.lt_irrefl _ ((Kd.S_R HO18.out).1 gb he.symm).2)).trans hHeld0.2)
      have HV8 := u7e (Kd.R_grown HV18.out hg_ (fun k_ hk_ he => Nat.not_lt.mpr hk_ (Nat.lt_trans ((Kd.S_R HO18.out).1 k_ he.symm).2 HHV.out)))
      have HO8 := u7e ho
      have HB8 := u7e hb
      obtain ⟨A41, c41, e41⟩ := Kd.S_slice ho
      subst e41
      clear ho hb hg_ hat
      refine hK.out _ _ hHeld (fun _ => ?_)
      clear hK K
      refine norm_ (a' := ?_) ?_ ?_
      rotate_left
      ·show Act.put _ (some 116) _ = _
       simp only [Act.put, u7a, u7b, u7c, i64_w, i32_w]
       rfl
      refine pure_ (i := 17) (N := some 125) (v := ?_) (a' := ?_) #[true, true, true, true, true, true, true, true, true, true, true, true, true, true, false, false, false, true, false, false, false, false, false] rfl rfl (by kernel_rfl) (fun _ _ _ h => h) (Or.inl ⟨by rfl, ?_⟩) ?_ ?_
      rotate_left
      ·intro w'
       go_simp
       with_reducible rfl
      rotate_left
      ·simp only [Act.put, u7a, u7b, u7c, i64_w, i32_w]
       rfl
      refine pure_ (i := 18) (N := some 126) (v := ?_) (a' := ?_) #[true, true, true, true, true, true, true, true, true, true, true, true, true, true, false, false, false, true, true, false, false, false, false] rfl rfl (by kernel_rfl) (fun _ _ _ h => h) (Or.inl ⟨by rfl, ?_⟩) ?_ ?_
      rotate_left
      ·intro w'
       go_simp
       with_reducible rfl
      rotate_left
      ·simp only [Act.put, u7a, u7b, u7c, i64_w, i32_w]
       rfl
      refine two_l (i := 14) (j := 19) (Ni := some 122) (Nj := none) #[true, true, true, true, true, true, true, true, true, true, true, true, true, true, true, false, false, true, true, false, false, false, false] #[true, true, true, true, true, true, true, true, true, true, true, true, true, true, false, false, false, true, true, true, false, false, false] rfl rfl rfl rfl (by kernel_rfl) (by decide) (by decide) (fun K hK => ?_) (fun K hK => ?_)
      ·skip
       have hcl_ : W8_.cell? ⟨gb, 2, none⟩ = some (Value.slice A86 ys.length c86) := (blk_cell hHeld.2 2).trans rfl
       refine value_ (N := some 122) (v := Value.slice A86 ys.length c86) (w1 := W8_) (by rfl) rfl (by first | (go_simp; done) | (go_simp; rfl)) ?_
       refine hK.out _ _ hHeld (fun _ => ?_)
       clear hK K
       refine norm_ (a' := ?_) ?_ ?_
       rotate_left
       ·show Act.put _ (some 122) _ = _
        simp only [Act.put, u7a, u7b, u7c, i64_w, i32_w]
        rfl
       clear hcl_
       refine pure_ (i := 15) (N := some 123) (v := ?_) (a' := ?_) #[true, true, true, true, true, true, true, true, true, true, true, true, true, true, true, true, false, true, true, false, false, false, false] rfl rfl (by kernel_rfl) (fun _ _ _ h => h) (Or.inl ⟨by rfl, ?_⟩) ?_ ?_
       rotate_left
       ·intro w'
        go_simp
        with_reducible rfl
       rotate_left
       ·simp only [Act.put, u7a, u7b, u7c, i64_w, i32_w]
        rfl
       refine pure_ (i := 16) (N := some 124) (v := ?_) (a' := ?_) #[true, true, true, true, true, true, true, true, true, true, true, true, true, true, true, true, true, true, true, false, false, false, false] rfl rfl (by kernel_rfl) (fun _ _ _ h => h) (Or.inl ⟨by rfl, ?_⟩) ?_ ?_
       rotate_left
       ·intro w'
        go_simp
        with_reducible rfl
       rotate_left
       ·simp only [Act.put, u7a, u7b, u7c, i64_w, i32_w]
        rfl
       refine last_ (i := 19) (N := none) #[true, true, true, true, true, true, true, true, true, true, true, true, true, true, true, true, true, true, true, true, false, false, false] rfl rfl (by kernel_rfl) (by decide) (fun K hK => ?_)
       refine put_blk_step (by rfl) rfl rfl (g := g) (off := 1) (cur := #[Value.slice (some ad) bs.length cb, Value.slice Ao boxes.length co, Value.int .i64 data, Value.int .i64 0, Value.int .i64 0]) (cur' := #[Value.slice (some ad) bs.length cb, Value.slice A41 bx.length c41, Value.int .i64 data, Value.int .i64 0, Value.int .i64 0]) (u := Value.slice A41 bx.length c41) (seg := [Value.slice A41 bx.length c41]) (by rfl) (by rfl) hHeld.1 rfl (by kernel_rfl) (Nat.le_of_ble_eq_true rfl) (by intro q_ hq_; simp only [List.mem_cons, List.not_mem_nil, or_false] at hq_; rcases hq_ with rfl <;> rfl) (by rfl) ?_
       intro W19_ h1_ h2_ h3_
       have HG19 := u7e h1_
       have HBK19 := u7e ((h2_ gb (Nat.ne_of_gt HGB.out)).trans hHeld.2)
       have HO19 := u7e (Kd.S_step HO8.out (fun k_ hk_ _ => h2_ k_ hk_.1))
       have HB19 := u7e (h3_ _ _ HG0.out HB8.out)
       have HV19 := u7e (Kd.R_step HV8.out (fun k_ hk_ _ => h2_ k_ (Nat.ne_of_gt (Nat.lt_of_lt_of_le (Nat.lt_trans HGB.out HHV.out) hk_))))
       clear h1_ h2_ h3_ HO8 HB8
       refine hK.out _ _ ?_
       clear hK K hHeld
       refine pure_ (i := 20) (N := some 127) (v := ?_) (a' := ?_) #[true, true, true, true, true, true, true, true, true, true, true, true, true, true, true, true, true, true, true, true, true, false, false] rfl rfl (by kernel_rfl) (fun _ _ _ h => h) (Or.inl ⟨by rfl, ?_⟩) ?_ ?_
       rotate_left
       ·intro w'
        go_simp
        with_reducible rfl
       rotate_left
       ·simp only [Act.put, u7a, u7b, u7c, i64_w, i32_w]
        rfl
       refine pure_ (i := 21) (N := some 128) (v := ?_) (a' := ?_) #[true, true, true, true, true, true, true, true, true, true, true, true, true, true, true, true, true, true, true, true, true, true, false] rfl rfl (by kernel_rfl) (fun _ _ _ h => h) (Or.inl ⟨by rfl, ?_⟩) ?_ ?_
       rotate_left
       ·intro w'
        go_simp
        with_reducible rfl
       rotate_left
       ·simp only [Act.put, u7a, u7b, u7c, i64_w, i32_w]
        rfl
       refine last_ (i := 22) (N := none) #[true, true, true, true, true, true, true, true, true, true, true, true, true, true, true, true, true, true, true, true, true, true, true] rfl rfl (by kernel_rfl) (by decide) (fun K hK => ?_)
       refine put_blk_step (by rfl) rfl rfl (g := g) (off := 2) (cur := #[Value.slice (some ad) bs.length cb, Value.slice A41 bx.length c41, Value.int .i64 data, Value.int .i64 0, Value.int .i64 0]) (cur' := #[Value.slice (some ad) bs.length cb, Value.slice A41 bx.length c41, Value.int .i64 dd, Value.int .i64 0, Value.int .i64 0]) (u := Value.int .i64 dd) (seg := [Value.int .i64 dd]) (by rfl) (by rfl) HG19.out rfl (by kernel_rfl) (Nat.le_of_ble_eq_true rfl) (by intro q_ hq_; simp only [List.mem_cons, List.not_mem_nil, or_false] at hq_; rcases hq_ with rfl <;> rfl) (by rfl) ?_
       intro W20_ h1_ h2_ h3_
       have HBK20 := (h2_ gb (Nat.ne_of_gt HGB.out)).trans HBK19.out
       have HO20 := Kd.S_step HO19.out (fun k_ hk_ _ => h2_ k_ hk_.1)
       have HB20 := h3_ _ _ HG0.out HB19.out
       have HV20 := u7e (Kd.R_step HV19.out (fun k_ hk_ _ => h2_ k_ (Nat.ne_of_gt (Nat.lt_of_lt_of_le (Nat.lt_trans HGB.out HHV.out) hk_))))
       refine hK.out _ _ ?_
       clear hK K
       exact norm_ (by (simp only [putAll, Act.put, u7a, u7b, u7c]); first | done | rfl) (hCont (A41, c41) _ ⟨h1_, HBK20, HO20, HB20, HV20.out⟩)
      ·skip
       refine put_blk_step (by rfl) rfl rfl (g := g) (off := 1) (cur := #[Value.slice (some ad) bs.length cb, Value.slice Ao boxes.length co, Value.int .i64 data, Value.int .i64 0, Value.int .i64 0]) (cur' := #[Value.slice (some ad) bs.length cb, Value.slice A41 bx.length c41, Value.int .i64 data, Value.int .i64 0, Value.int .i64 0]) (u := Value.slice A41 bx.length c41) (seg := [Value.slice A41 bx.length c41]) (by rfl) (by rfl) hHeld.1 rfl (by kernel_rfl) (Nat.le_of_ble_eq_true rfl) (by intro q_ hq_; simp only [List.mem_cons, List.not_mem_nil, or_false] at hq_; rcases hq_ with rfl <;> rfl) (by rfl) ?_
       intro W19_ h1_ h2_ h3_
       have HG19 := u7e h1_
       have HBK19 := u7e ((h2_ gb (Nat.ne_of_gt HGB.out)).trans hHeld.2)
       have HO19 := u7e (Kd.S_step HO8.out (fun k_ hk_ _ => h2_ k_ hk_.1))
       have HB19 := u7e (h3_ _ _ HG0.out HB8.out)
       have HV19 := u7e (Kd.R_step HV8.out (fun k_ hk_ _ => h2_ k_ (Nat.ne_of_gt (Nat.lt_of_lt_of_le (Nat.lt_trans HGB.out HHV.out) hk_))))
       clear h1_ h2_ h3_ HO8 HB8
       refine hK.out _ _ ?_
       clear hK K hHeld
       refine one_n (i := 14) (N := some 122) #[true, true, true, true, true, true, true, true, true, true, true, true, true, true, true, false, false, true, true, true, false, false, false] rfl rfl (by kernel_rfl) (fun h_ => by have h2_ := h_.1; rw [HG19.out] at h2_; have h3_ := HBL.out; simp at h2_; omega) (fun K hK => ?_)
       have hcl_ : W19_.cell? ⟨gb, 2, none⟩ = some (Value.slice A86 ys.length c86) := (blk_cell HBK19.out 2).trans rfl
       refine value_ (N := some 122) (v := Value.slice A86 ys.length c86) (w1 := W19_) (by rfl) rfl (by first | (go_simp; done) | (go_simp; rfl)) ?_
       refine hK.out _ _ ?_
       clear hK K
       refine norm_ (a' := ?_) ?_ ?_
       rotate_left
       ·show Act.put _ (some 122) _ = _
        simp only [Act.put, u7a, u7b, u7c, i64_w, i32_w]
        rfl
       clear hcl_
       refine pure_ (i := 15) (N := some 123) (v := ?_) (a' := ?_) #[true, true, true, true, true, true, true, true, true, true, true, true, true, true, true, true, false, true, true, true, false, false, false] rfl rfl (by kernel_rfl) (fun _ _ _ h => h) (Or.inl ⟨by rfl, ?_⟩) ?_ ?_
       rotate_left
       ·intro w'
        go_simp
        with_reducible rfl
       rotate_left
       ·simp only [Act.put, u7a, u7b, u7c, i64_w, i32_w]
        rfl
       refine pure_ (i := 16) (N := some 124) (v := ?_) (a' := ?_) #[true, true, true, true, true, true, true, true, true, true, true, true, true, true, true, true, true, true, true, true, false, false, false] rfl rfl (by kernel_rfl) (fun _ _ _ h => h) (Or.inl ⟨by rfl, ?_⟩) ?_ ?_
       rotate_left
       ·intro w'
        go_simp
        with_reducible rfl
       rotate_left
       ·simp only [Act.put, u7a, u7b, u7c, i64_w, i32_w]
        rfl
       refine pure_ (i := 20) (N := some 127) (v := ?_) (a' := ?_) #[true, true, true, true, true, true, true, true, true, true, true, true, true, true, true, true, true, true, true, true, true, false, false] rfl rfl (by kernel_rfl) (fun _ _ _ h => h) (Or.inl ⟨by rfl, ?_⟩) ?_ ?_
       rotate_left
       ·intro w'
        go_simp
        with_reducible rfl
       rotate_left
       ·simp only [Act.put, u7a, u7b, u7c, i64_w, i32_w]
        rfl
       refine pure_ (i := 21) (N := some 128) (v := ?_) (a' := ?_) #[true, true, true, true, true, true, true, true, true, true, true, true, true, true, true, true, true, true, true, true, true, true, false] rfl rfl (by kernel_rfl) (fun _ _ _ h => h) (Or.inl ⟨by rfl, ?_⟩) ?_ ?_
       rotate_left
       ·intro w'
        go_simp
        with_reducible rfl
       rotate_left
       ·simp only [Act.put, u7a, u7b, u7c, i64_w, i32_w]
        rfl
       refine last_ (i := 22) (N := none) #[true, true, true, true, true, true, true, true, true, true, true, true, true, true, true, true, true, true, true, true, true, true, true] rfl rfl (by kernel_rfl) (by decide) (fun K hK => ?_)
       refine put_blk_step (by rfl) rfl rfl (g := g) (off := 2) (cur := #[Value.slice (some ad) bs.length cb, Value.slice A41 bx.length c41, Value.int .i64 data, Value.int .i64 0, Value.int .i64 0]) (cur' := #[Value.slice (some ad) bs.length cb, Value.slice A41 bx.length c41, Value.int .i64 dd, Value.int .i64 0, Value.int .i64 0]) (u := Value.int .i64 dd) (seg := [Value.int .i64 dd]) (by rfl) (by rfl) HG19.out rfl (by kernel_rfl) (Nat.le_of_ble_eq_true rfl) (by intro q_ hq_; simp only [List.mem_cons, List.not_mem_nil, or_false] at hq_; rcases hq_ with rfl <;> rfl) (by rfl) ?_
       intro W20_ h1_ h2_ h3_
       have HBK20 := (h2_ gb (Nat.ne_of_gt HGB.out)).trans HBK19.out
       have HO20 := Kd.S_step HO19.out (fun k_ hk_ _ => h2_ k_ hk_.1)
       have HB20 := h3_ _ _ HG0.out HB19.out
       have HV20 := u7e (Kd.R_step HV19.out (fun k_ hk_ _ => h2_ k_ (Nat.ne_of_gt (Nat.lt_of_lt_of_le (Nat.lt_trans HGB.out HHV.out) hk_))))
       refine hK.out _ _ ?_
       clear hK K
       exact norm_ (by (simp only [putAll, Act.put, u7a, u7b, u7c]); first | done | rfl) (hCont (A41, c41) _ ⟨h1_, HBK20, HO20, HB20, HV20.out⟩)
     ·skip
      have hcl_ : (V.alloc (.cells [Value.string s, Value.int .i64 depth, Value.slice A86 ys.length c86].toArray 46)).cell? ⟨gb, 2, none⟩ = some (Value.slice A86 ys.length c86) := (blk_cell hHeld.2 2).trans rfl
      refine value_ (N := some 122) (v := Value.slice A86 ys.length c86) (w1 := (V.alloc (.cells [Value.string s, Value.int .i64 depth, Value.slice A86 ys.length c86].toArray 46))) (by rfl) rfl (by first | (go_simp; done) | (go_simp; rfl)) ?_
      refine hK.out _ _ hHeld (fun _ => ?_)
      clear hK K
      refine norm_ (a' := ?_) ?_ ?_
      rotate_left
      ·show Act.put _ (some 122) _ = _
       simp only [Act.put, u7a, u7b, u7c, i64_w, i32_w]
       rfl
      clear hcl_
      refine pure_ (i := 15) (N := some 123) (v := ?_) (a' := ?_) #[true, true, true, true, true, true, true, true, false, true, true, true, true, true, true, true, false, false, false, false, false, false, false] rfl rfl (by kernel_rfl) (fun _ _ _ h => h) (Or.inl ⟨by rfl, ?_⟩) ?_ ?_
      rotate_left
      ·intro w'
       go_simp
       with_reducible rfl
      rotate_left
      ·simp only [Act.put, u7a, u7b, u7c, i64_w, i32_w]
       rfl
      refine pure_ (i := 16) (N := some 124) (v := ?_) (a' := ?_) #[true, true, true, true, true, true, true, true, false, true, true, true, true, true, true, true, true, false, false, false, false, false, false] rfl rfl (by kernel_rfl) (fun _ _ _ h => h) (Or.inl ⟨by rfl, ?_⟩) ?_ ?_
      rotate_left
      ·intro w'
       go_simp
       with_reducible rfl
      rotate_left
      ·simp only [Act.put, u7a, u7b, u7c, i64_w, i32_w]
       rfl
      refine one_ (i := 8) (N := some 116) #[true, true, true, true, true, true, true, true, true, true, true, true, true, true, true, true, true, false, false, false, false, false, false] rfl rfl (by kernel_rfl) (by decide) (fun K hK => ?_)
      refine Kd.S_append_step k46 (w0 := w0) w0.heap.size (by rfl) (.tmp 113) (.tmp 115) 25 46 (.agg #[.string ⟨#[]⟩, .int .i64 0, .slice none 0 0]) 48 rfl Try.underlying25 rinfo46 rfl (by decide) (by decide) (.slice Ao boxes.length co) boxes (⟨s, depth, ys⟩ : S46) [Value.string s, Value.int .i64 depth, Value.slice A86 ys.length c86] (fun k_ => k_ ≠ g ∧ k_ ≠ gb) (fun k_ => hv ≤ k_) (by rfl) (by rfl) ?aP ?aK ?aF ?aO HB18.out HB18.out.size ?aL ?_
      case aP => exact k46_mkM _ _ _ (⟨s, depth, ys⟩ : S46) HV18.out
      case aK => exact fun k_ hk_ => ⟨⟨fun he_ => Nat.not_lt.mpr hk_ (by rw [he_]; exact Nat.lt_trans HGB.out HHV.out), fun he_ => Nat.not_lt.mpr hk_ (by rw [he_]; exact HHV.out)⟩, fun he_ => Nat.not_lt.mpr hk_ (Nat.lt_trans ((Kd.S_R HO18.out).1 k_ he_.symm).2 HHV.out)⟩
      case aF => exact fun k_ hk_ => ⟨fun he_ => Nat.not_lt.mpr hk_ (by rw [he_]; exact HGV.out), fun he_ => Nat.not_lt.mpr hk_ (by rw [he_]; exact HGBV.out)⟩
      case aO => exact Kd.S_mono HO18.out (fun k_ hk_ => ⟨⟨hk_.1, Nat.ne_of_lt hk_.2⟩, fun h_ => Nat.not_lt.mpr h_ (Nat.lt_trans hk_.2 HHV.out)⟩)
      case aL => (have := HX.out; omega)
      intro v116 W8_ ho hb hg_ hat
      rw [← HBX.out] at ho
      have hHeld := And.intro ((hg_.block g HGV.out (fun he => ((Kd.S_R HO18.out).1 g he.symm).1 rfl)).trans hHeld0.1) ((hg_.block gb HGBV.out (fun he => Nat.lt_irrefl _ ((Kd.S_R HO18.out).1 gb he.symm).2)).trans hHeld0.2)
      have HV8 := u7e (Kd.R_grown HV18.out hg_ (fun k_ hk_ he => Nat.not_lt.mpr hk_ (Nat.lt_trans ((Kd.S_R HO18.out).1 k_ he.symm).2 HHV.out)))
      have HO8 := u7e ho
      have HB8 := u7e hb
      obtain ⟨A41, c41, e41⟩ := Kd.S_slice ho
      subst e41
      clear ho hb hg_ hat
      refine hK.out _ _ hHeld (fun _ => ?_)
      clear hK K
      refine norm_ (a' := ?_) ?_ ?_
      rotate_left
      ·show Act.put _ (some 116) _ = _
       simp only [Act.put, u7a, u7b, u7c, i64_w, i32_w]
       rfl
      refine pure_ (i := 17) (N := some 125) (v := ?_) (a' := ?_) #[true, true, true, true, true, true, true, true, true, true, true, true, true, true, true, true, true, true, false, false, false, false, false] rfl rfl (by kernel_rfl) (fun _ _ _ h => h) (Or.inl ⟨by rfl, ?_⟩) ?_ ?_
      rotate_left
      ·intro w'
       go_simp
       with_reducible rfl
      rotate_left
      ·simp only [Act.put, u7a, u7b, u7c, i64_w, i32_w]
       rfl
      refine pure_ (i := 18) (N := some 126) (v := ?_) (a' := ?_) #[true, true, true, true, true, true, true, true, true, true, true, true, true, true, true, true, true, true, true, false, false, false, false] rfl rfl (by kernel_rfl) (fun _ _ _ h => h) (Or.inl ⟨by rfl, ?_⟩) ?_ ?_
      rotate_left
      ·intro w'
       go_simp
       with_reducible rfl
      rotate_left
      ·simp only [Act.put, u7a, u7b, u7c, i64_w, i32_w]
       rfl
      refine last_ (i := 19) (N := none) #[true, true, true, true, true, true, true, true, true, true, true, true, true, true, true, true, true, true, true, true, false, false, false] rfl rfl (by kernel_rfl) (by decide) (fun K hK => ?_)
      refine put_blk_step (by rfl) rfl rfl (g := g) (off := 1) (cur := #[Value.slice (some ad) bs.length cb, Value.slice Ao boxes.length co, Value.int .i64 data, Value.int .i64 0, Value.int .i64 0]) (cur' := #[Value.slice (some ad) bs.length cb, Value.slice A41 bx.length c41, Value.int .i64 data, Value.int .i64 0, Value.int .i64 0]) (u := Value.slice A41 bx.length c41) (seg := [Value.slice A41 bx.length c41]) (by rfl) (by rfl) hHeld.1 rfl (by kernel_rfl) (Nat.le_of_ble_eq_true rfl) (by intro q_ hq_; simp only [List.mem_cons, List.not_mem_nil, or_false] at hq_; rcases hq_ with rfl <;> rfl) (by rfl) ?_
      intro W19_ h1_ h2_ h3_
      have HG19 := u7e h1_
      have HBK19 := u7e ((h2_ gb (Nat.ne_of_gt HGB.out)).trans hHeld.2)
      have HO19 := u7e (Kd.S_step HO8.out (fun k_ hk_ _ => h2_ k_ hk_.1))
      have HB19 := u7e (h3_ _ _ HG0.out HB8.out)
      have HV19 := u7e (Kd.R_step HV8.out (fun k_ hk_ _ => h2_ k_ (Nat.ne_of_gt (Nat.lt_of_lt_of_le (Nat.lt_trans HGB.out HHV.out) hk_))))
      clear h1_ h2_ h3_ HO8 HB8
      refine hK.out _ _ ?_
      clear hK K hHeld
      refine pure_ (i := 20) (N := some 127) (v := ?_) (a' := ?_) #[true, true, true, true, true, true, true, true, true, true, true, true, true, true, true, true, true, true, true, true, true, false, false] rfl rfl (by kernel_rfl) (fun _ _ _ h => h) (Or.inl ⟨by rfl, ?_⟩) ?_ ?_
      rotate_left
      ·intro w'
       go_simp
       with_reducible rfl
      rotate_left
      ·simp only [Act.put, u7a, u7b, u7c, i64_w, i32_w]
       rfl
      refine pure_ (i := 21) (N := some 128) (v := ?_) (a' := ?_) #[true, true, true, true, true, true, true, true, true, true, true, true, true, true, true, true, true, true, true, true, true, true, false] rfl rfl (by kernel_rfl) (fun _ _ _ h => h) (Or.inl ⟨by rfl, ?_⟩) ?_ ?_
      rotate_left
      ·intro w'
       go_simp
       with_reducible rfl
      rotate_left
      ·simp only [Act.put, u7a, u7b, u7c, i64_w, i32_w]
       rfl
      refine last_ (i := 22) (N := none) #[true, true, true, true, true, true, true, true, true, true, true, true, true, true, true, true, true, true, true, true, true, true, true] rfl rfl (by kernel_rfl) (by decide) (fun K hK => ?_)
      refine put_blk_step (by rfl) rfl rfl (g := g) (off := 2) (cur := #[Value.slice (some ad) bs.length cb, Value.slice A41 bx.length c41, Value.int .i64 data, Value.int .i64 0, Value.int .i64 0]) (cur' := #[Value.slice (some ad) bs.length cb, Value.slice A41 bx.length c41, Value.int .i64 dd, Value.int .i64 0, Value.int .i64 0]) (u := Value.int .i64 dd) (seg := [Value.int .i64 dd]) (by rfl) (by rfl) HG19.out rfl (by kernel_rfl) (Nat.le_of_ble_eq_true rfl) (by intro q_ hq_; simp only [List.mem_cons, List.not_mem_nil, or_false] at hq_; rcases hq_ with rfl <;> rfl) (by rfl) ?_
      intro W20_ h1_ h2_ h3_
      have HBK20 := (h2_ gb (Nat.ne_of_gt HGB.out)).trans HBK19.out
      have HO20 := Kd.S_step HO19.out (fun k_ hk_ _ => h2_ k_ hk_.1)
      have HB20 := h3_ _ _ HG0.out HB19.out
      have HV20 := u7e (Kd.R_step HV19.out (fun k_ hk_ _ => h2_ k_ (Nat.ne_of_gt (Nat.lt_of_lt_of_le (Nat.lt_trans HGB.out HHV.out) hk_))))
      refine hK.out _ _ ?_
      clear hK K
      exact norm_ (by (simp only [putAll, Act.put, u7a, u7b, u7c]); first | done | rfl) (hCont (A41, c41) _ ⟨h1_, HBK20, HO20, HB20, HV20.out⟩)
    ·skip
     have hcl_ : V.cell? ⟨gb, 2, none⟩ = some (Value.slice A86 ys.length c86) := (blk_cell hHeld.2 2).trans rfl
     refine value_ (N := some 122) (v := Value.slice A86 ys.length c86) (w1 := V) (by rfl) rfl (by first | (go_simp; done) | (go_simp; rfl)) ?_
     refine hK.out _ _ hHeld (fun _ => ?_)
     clear hK K
     refine norm_ (a' := ?_) ?_ ?_
     rotate_left
     ·show Act.put _ (some 122) _ = _
      simp only [Act.put, u7a, u7b, u7c, i64_w, i32_w]
      rfl
     clear hcl_
     refine pure_ (i := 15) (N := some 123) (v := ?_) (a' := ?_) #[true, true, true, true, true, true, true, false, false, true, true, true, true, true, true, true, false, false, false, false, false, false, false] rfl rfl (by kernel_rfl) (fun _ _ _ h => h) (Or.inl ⟨by rfl, ?_⟩) ?_ ?_
     rotate_left
     ·intro w'
      go_simp
      with_reducible rfl
     rotate_left
     ·simp only [Act.put, u7a, u7b, u7c, i64_w, i32_w]
      rfl
     refine pure_ (i := 16) (N := some 124) (v := ?_) (a' := ?_) #[true, true, true, true, true, true, true, false, false, true, true, true, true, true, true, true, true, false, false, false, false, false, false] rfl rfl (by kernel_rfl) (fun _ _ _ h => h) (Or.inl ⟨by rfl, ?_⟩) ?_ ?_
     rotate_left
     ·intro w'
      go_simp
      with_reducible rfl
     rotate_left
     ·simp only [Act.put, u7a, u7b, u7c, i64_w, i32_w]
      rfl
     refine one_ (i := 7) (N := some 115) #[true, true, true, true, true, true, true, true, false, true, true, true, true, true, true, true, true, false, false, false, false, false, false] rfl rfl (by kernel_rfl) (by decide) (fun K hK => ?_)
     refine event_step (W := V) (v := .slice (some ⟨V.heap.size, 0, none⟩) 1 1) (w1 := V.alloc (.cells [Value.string s, Value.int .i64 depth, Value.slice A86 ys.length c86].toArray 46)) (by rfl) (by first | (go_simp; done) | (go_simp; rfl)) ?_
     have hHeld := And.intro (blk_alloc hHeld.1 (.cells [Value.string s, Value.int .i64 depth, Value.slice A86 ys.length c86].toArray 46)) (blk_alloc hHeld.2 (.cells [Value.string s, Value.int .i64 depth, Value.slice A86 ys.length c86].toArray 46))
     refine hK.out _ _ hHeld (fun _ => ?_)
     clear hK K
     refine norm_ (a' := ?_) ?_ ?_
     rotate_left
     ·show Act.put _ (some 115) _ = _
      simp only [Act.put, u7a, u7b, u7c, i64_w, i32_w]
      rfl
     refine one_ (i := 8) (N := some 116) #[true, true, true, true, true, true, true, true, true, true, true, true, true, true, true, true, true, false, false, false, false, false, false] rfl rfl (by kernel_rfl) (by decide) (fun K hK => ?_)
     refine Kd.S_append_step k46 (w0 := w0) w0.heap.size (by rfl) (.tmp 113) (.tmp 115) 25 46 (.agg #[.string ⟨#[]⟩, .int .i64 0, .slice none 0 0]) 48 rfl Try.underlying25 rinfo46 rfl (by decide) (by decide) (.slice Ao boxes.length co) boxes (⟨s, depth, ys⟩ : S46) [Value.string s, Value.int .i64 depth, Value.slice A86 ys.length c86] (fun k_ => k_ ≠ g ∧ k_ ≠ gb) (fun k_ => hv ≤ k_) (by rfl) (by rfl) ?aP ?aK ?aF ?aO HB18.out HB18.out.size ?aL ?_
     case aP => exact k46_mkM _ _ _ (⟨s, depth, ys⟩ : S46) HV18.out
     case aK => exact fun k_ hk_ => ⟨⟨fun he_ => Nat.not_lt.mpr hk_ (by rw [he_]; exact Nat.lt_trans HGB.out HHV.out), fun he_ => Nat.not_lt.mpr hk_ (by rw [he_]; exact HHV.out)⟩, fun he_ => Nat.not_lt.mpr hk_ (Nat.lt_trans ((Kd.S_R HO18.out).1 k_ he_.symm).2 HHV.out)⟩
     case aF => exact fun k_ hk_ => ⟨fun he_ => Nat.not_lt.mpr hk_ (by rw [he_]; exact HGV.out), fun he_ => Nat.not_lt.mpr hk_ (by rw [he_]; exact HGBV.out)⟩
     case aO => exact Kd.S_mono HO18.out (fun k_ hk_ => ⟨⟨hk_.1, Nat.ne_of_lt hk_.2⟩, fun h_ => Nat.not_lt.mpr h_ (Nat.lt_trans hk_.2 HHV.out)⟩)
     case aL => (have := HX.out; omega)
     intro v116 W8_ ho hb hg_ hat
     rw [← HBX.out] at ho
     have hHeld := And.intro ((hg_.block g HGV.out (fun he => ((Kd.S_R HO18.out).1 g he.symm).1 rfl)).trans hHeld0.1) ((hg_.block gb HGBV.out (fun he => Nat.lt_irrefl _ ((Kd.S_R HO18.out).1 gb he.symm).2)).trans hHeld0.2)
     have HV8 := u7e (Kd.R_grown HV18.out hg_ (fun k_ hk_ he => Nat.not_lt.mpr hk_ (Nat.lt_trans ((Kd.S_R HO18.out).1 k_ he.symm).2 HHV.out)))
     have HO8 := u7e ho
     have HB8 := u7e hb
     obtain ⟨A41, c41, e41⟩ := Kd.S_slice ho
     subst e41
     clear ho hb hg_ hat
     refine hK.out _ _ hHeld (fun _ => ?_)
     clear hK K
     refine norm_ (a' := ?_) ?_ ?_
     rotate_left
     ·show Act.put _ (some 116) _ = _
      simp only [Act.put, u7a, u7b, u7c, i64_w, i32_w]
      rfl
     refine pure_ (i := 17) (N := some 125) (v := ?_) (a' := ?_) #[true, true, true, true, true, true, true, true, true, true, true, true, true, true, true, true, true, true, false, false, false, false, false] rfl rfl (by kernel_rfl) (fun _ _ _ h => h) (Or.inl ⟨by rfl, ?_⟩) ?_ ?_
     rotate_left
     ·intro w'
      go_simp
      with_reducible rfl
     rotate_left
     ·simp only [Act.put, u7a, u7b, u7c, i64_w, i32_w]
      rfl
     refine pure_ (i := 18) (N := some 126) (v := ?_) (a' := ?_) #[true, true, true, true, true, true, true, true, true, true, true, true, true, true, true, true, true, true, true, false, false, false, false] rfl rfl (by kernel_rfl) (fun _ _ _ h => h) (Or.inl ⟨by rfl, ?_⟩) ?_ ?_
     rotate_left
     ·intro w'
      go_simp
      with_reducible rfl
     rotate_left
     ·simp only [Act.put, u7a, u7b, u7c, i64_w, i32_w]
      rfl
     refine last_ (i := 19) (N := none) #[true, true, true, true, true, true, true, true, true, true, true, true, true, true, true, true, true, true, true, true, false, false, false] rfl rfl (by kernel_rfl) (by decide) (fun K hK => ?_)
     refine put_blk_step (by rfl) rfl rfl (g := g) (off := 1) (cur := #[Value.slice (some ad) bs.length cb, Value.slice Ao boxes.length co, Value.int .i64 data, Value.int .i64 0, Value.int .i64 0]) (cur' := #[Value.slice (some ad) bs.length cb, Value.slice A41 bx.length c41, Value.int .i64 data, Value.int .i64 0, Value.int .i64 0]) (u := Value.slice A41 bx.length c41) (seg := [Value.slice A41 bx.length c41]) (by rfl) (by rfl) hHeld.1 rfl (by kernel_rfl) (Nat.le_of_ble_eq_true rfl) (by intro q_ hq_; simp only [List.mem_cons, List.not_mem_nil, or_false] at hq_; rcases hq_ with rfl <;> rfl) (by rfl) ?_
     intro W19_ h1_ h2_ h3_
     have HG19 := u7e h1_
     have HBK19 := u7e ((h2_ gb (Nat.ne_of_gt HGB.out)).trans hHeld.2)
     have HO19 := u7e (Kd.S_step HO8.out (fun k_ hk_ _ => h2_ k_ hk_.1))
     have HB19 := u7e (h3_ _ _ HG0.out HB8.out)
     have HV19 := u7e (Kd.R_step HV8.out (fun k_ hk_ _ => h2_ k_ (Nat.ne_of_gt (Nat.lt_of_lt_of_le (Nat.lt_trans HGB.out HHV.out) hk_))))
     clear h1_ h2_ h3_ HO8 HB8
     refine hK.out _ _ ?_
     clear hK K hHeld
     refine pure_ (i := 20) (N := some 127) (v := ?_) (a' := ?_) #[true, true, true, true, true, true, true, true, true, true, true, true, true, true, true, true, true, true, true, true, true, false, false] rfl rfl (by kernel_rfl) (fun _ _ _ h => h) (Or.inl ⟨by rfl, ?_⟩) ?_ ?_
     rotate_left
     ·intro w'
      go_simp
      with_reducible rfl
     rotate_left
     ·simp only [Act.put, u7a, u7b, u7c, i64_w, i32_w]
      rfl
     refine pure_ (i := 21) (N := some 128) (v := ?_) (a' := ?_) #[true, true, true, true, true, true, true, true, true, true, true, true, true, true, true, true, true, true, true, true, true, true, false] rfl rfl (by kernel_rfl) (fun _ _ _ h => h) (Or.inl ⟨by rfl, ?_⟩) ?_ ?_
     rotate_left
     ·intro w'
      go_simp
      with_reducible rfl
     rotate_left
     ·simp only [Act.put, u7a, u7b, u7c, i64_w, i32_w]
      rfl
     refine last_ (i := 22) (N := none) #[true, true, true, true, true, true, true, true, true, true, true, true, true, true, true, true, true, true, true, true, true, true, true] rfl rfl (by kernel_rfl) (by decide) (fun K hK => ?_)
     refine put_blk_step (by rfl) rfl rfl (g := g) (off := 2) (cur := #[Value.slice (some ad) bs.length cb, Value.slice A41 bx.length c41, Value.int .i64 data, Value.int .i64 0, Value.int .i64 0]) (cur' := #[Value.slice (some ad) bs.length cb, Value.slice A41 bx.length c41, Value.int .i64 dd, Value.int .i64 0, Value.int .i64 0]) (u := Value.int .i64 dd) (seg := [Value.int .i64 dd]) (by rfl) (by rfl) HG19.out rfl (by kernel_rfl) (Nat.le_of_ble_eq_true rfl) (by intro q_ hq_; simp only [List.mem_cons, List.not_mem_nil, or_false] at hq_; rcases hq_ with rfl <;> rfl) (by rfl) ?_
     intro W20_ h1_ h2_ h3_
     have HBK20 := (h2_ gb (Nat.ne_of_gt HGB.out)).trans HBK19.out
     have HO20 := Kd.S_step HO19.out (fun k_ hk_ _ => h2_ k_ hk_.1)
     have HB20 := h3_ _ _ HG0.out HB19.out
     have HV20 := u7e (Kd.R_step HV19.out (fun k_ hk_ _ => h2_ k_ (Nat.ne_of_gt (Nat.lt_of_lt_of_le (Nat.lt_trans HGB.out HHV.out) hk_))))
     refine hK.out _ _ ?_
     clear hK K
     exact norm_ (by (simp only [putAll, Act.put, u7a, u7b, u7c]); first | done | rfl) (hCont (A41, c41) _ ⟨h1_, HBK20, HO20, HB20, HV20.out⟩)
   clear hHeld HO18 HB18 HGV HGBV HV18 HVS18
   rintro ⟨A41, c41⟩ W20_ ⟨h1_, h2_, h3_, h4_, h5_⟩
   dsimp only at h1_ h3_ ⊢
   have HG20 := u7e h1_
   have HBK20 := u7e h2_
   have HO20 := u7e h3_
   have HB20 := u7e h4_
   have HYR := u7e (Kd.R_reads' h5_).2
   clear h1_ h2_ h3_ h4_ h5_
   refine norm_ (a' := ?_) ?_ ?_
   rotate_left
   ·simp only [putAll, Act.put, u7a, u7b, u7c]
    rfl
   refine done_ (by kernel_rfl) ?_
   have hv200_ : W20_.cell? ⟨gb, 0, none⟩ = some (Value.string s) := (blk_cell HBK20.out 0).trans rfl
   have hv201_ : W20_.cell? ⟨gb, 1, none⟩ = some (Value.int .i64 depth) := (blk_cell HBK20.out 1).trans rfl
   have hv202_ : W20_.cell? ⟨gb, 2, none⟩ = some (Value.slice A86 ys.length c86) := (blk_cell HBK20.out 2).trans rfl
   have hu200_ : W20_.cell? ⟨g, 0, none⟩ = some (Value.slice (some ad) bs.length cb) := (blk_cell HG20.out 0).trans rfl
   have hu201_ : W20_.cell? ⟨g, 1, none⟩ = some (Value.slice A41 bx.length c41) := (blk_cell HG20.out 1).trans rfl
   have hu202_ : W20_.cell? ⟨g, 2, none⟩ = some (Value.int .i64 dd) := (blk_cell HG20.out 2).trans rfl
   have hu203_ : W20_.cell? ⟨g, 3, none⟩ = some (Value.int .i64 0) := (blk_cell HG20.out 3).trans rfl
   have hu204_ : W20_.cell? ⟨g, 4, none⟩ = some (Value.int .i64 0) := (blk_cell HG20.out 4).trans rfl
   go_wp2_with (first | ((with_reducible refine gate_dst (N := 130) rfl ?_); refine goesL_ (some 130) rfl rfl Try.func49 (by kernel_rfl) rfl #[.agg #[Value.string s, Value.int .i64 depth, Value.slice A86 ys.length c86]] rfl (by (try simp only [List.map_toArray, List.map_cons, List.map_nil]); first | done | rfl) ?_; (refine (impl_Box_holds.calls s depth A86 c86 ys false _ (by exact HYR.out.2) (by exact HYR.out.1) HHY.out).mono ?_); rintro e_ W21_ ⟨rfl, hb_⟩; refine ⟨_, rfl, ?_⟩; have HBK21 := u7e (blk_below HBK20.out hb_); have HG21 := u7e (blk_below HG20.out hb_); have HO21 := u7e (Kd.S_below HO20.out hb_); have HB21 := u7e (below_step HB20.out hb_); have hv210_ : W21_.cell? ⟨gb, 0, none⟩ = some (Value.string s) := (blk_cell HBK21.out 0).trans rfl; have hv211_ : W21_.cell? ⟨gb, 1, none⟩ = some (Value.int .i64 depth) := (blk_cell HBK21.out 1).trans rfl; have hv212_ : W21_.cell? ⟨gb, 2, none⟩ = some (Value.slice A86 ys.length c86) := (blk_cell HBK21.out 2).trans rfl; have hu210_ : W21_.cell? ⟨g, 0, none⟩ = some (Value.slice (some ad) bs.length cb) := (blk_cell HG21.out 0).trans rfl; have hu211_ : W21_.cell? ⟨g, 1, none⟩ = some (Value.slice A41 bx.length c41) := (blk_cell HG21.out 1).trans rfl; have hu212_ : W21_.cell? ⟨g, 2, none⟩ = some (Value.int .i64 dd) := (blk_cell HG21.out 2).trans rfl; have hu213_ : W21_.cell? ⟨g, 3, none⟩ = some (Value.int .i64 0) := (blk_cell HG21.out 3).trans rfl; have hu214_ : W21_.cell? ⟨g, 4, none⟩ = some (Value.int .i64 0) := (blk_cell HG21.out 4).trans rfl; clear hb_))
   go_roundg k1
   case measure => omega
   case rel => exact ⟨bx, dd, _, pn, (by first | rfl | (simp; done) | (simp [*]; done)), HR2, ⟨by have := HKL.out; omega⟩, HG21, ⟨Kd.S_mono HO21.out (fun _ hk_ => hk_.1)⟩, HB21, ⟨by have := HPL.out; omega, by have := HDD.out; have := HX.out; have := C3.out; omega, by have := C9.out; omega, HBD.out⟩⟩
theorem read_top (k : Nat) (A0 : Option Addr) (c0 : Nat) (l0 : List Int) (r : List S46 × Int × Int × Int) (w : World) (hr0 : Kd.C (Kd.int .u8) w A0 l0.length l0) (hc0 : l0.length ≤ c0) (h : rdTop k l0 = some r) (g : Nat) (W : World) (hg : w.heap.size ≤ g) (hB : Below w.heap.size w W)
  (hb : W.heap[g]? = some (.cells #[.slice A0 l0.length c0, .slice none 0 0, .int .i64 0, .int .i64 0, .int .i64 0] 56 (0, 0))) :
  Calls Try.prog 51 #[.pointer (some ⟨g, 0, none⟩), .int .i64 0, .int .i64 (l0.length : Int), .int .i64 0] W (RdEndB w g A0 l0.length c0 r) := by
 obtain ⟨h1, h2, h3⟩ := rdTop_open h
 exact read_rdr w A0 c0 l0 hr0 hc0 h1 h2 k g (.slice none 0 0) [] 0 0 l0.length 0 r W hg hB hb (Kd.S_nil _ _ _ _ _) (Nat.zero_le _) (Nat.le_refl _) (by omega) (by omega) (by omega) (by omega) (by simp) h3
set_option maxHeartbeats 8000000 in
set_option maxRecDepth 100000 in
theorem impl_readBoxes.calls (k : Nat) (A0 : Option Addr) (c0 : Nat) (l0 : List Int) (s : List S46 × Int × Int × Int) (w : World) (hr0 : Kd.C (Kd.int .u8) w A0 l0.length l0) (hc0 : l0.length ≤ c0) (h : rdTop k l0 = some s) :
  Calls Try.prog 40 #[.slice A0 l0.length c0] w fun e w' => ∃ g : Nat, e = .returned (.pointer (some ⟨g, 0, none⟩)) ∧ w.heap.size ≤ g ∧ RdSt 56 w g A0 l0.length c0 s w' := by
 have HB := u7e (Below.refl w.heap.size w)
 have HR0 := u7e hr0
 have HC0 := u7e hc0
 clear hr0 hc0
 have H := u7e h
 clear h
 go_enter Try.func40, Try.ntmps40
 go_wp2_with (first | ((with_reducible refine gate_dst (N := 6) rfl ?_); refine box_event ?hg (N := 6) ?hd (cs := #[.slice A0 l0.length c0, .slice none 0 0, .int .i64 0, .int .i64 0, .int .i64 0]) (t := 56) ?hr ?_; (case hd => rfl); (case hg => rfl); (case hr => first | (go_simp; done) | (go_simp; rfl)); intro gq hgq_ W3_ hbox_ hb_; have HGQ : Aside0 (w.heap.size ≤ gq) := ⟨by rw [hgq_]; exact HB.out.size⟩; have HBX := u7e hbox_; have HB3 := u7e (below_step HB.out hb_); clear hgq_ hbox_ hb_) | ((with_reducible refine gate_dst (N := 10) rfl ?_); refine goesL_ (some 10) rfl rfl Try.func51 (by kernel_rfl) rfl #[.pointer (some ⟨gq, 0, none⟩), .int .i64 0, .int .i64 (l0.length : Int), .int .i64 0] rfl (by (try simp only [List.map_toArray, List.map_cons, List.map_nil]); first | done | rfl) ?_; (refine (read_top k A0 c0 l0 s w HR0.out HC0.out H.out gq W3_ HGQ.out HB3.out HBX.out).mono ?_); rintro e_ W4_ ⟨rfl, vo4, h1_, h2_, h3_⟩; refine ⟨_, rfl, ?_⟩; have HG4 := u7e h1_; have HO4 := u7e h2_; have HB4 := u7e h3_; have hq0_ : W4_.cell? ⟨gq, 0, none⟩ = some (Value.slice A0 l0.length c0) := (blk_cell HG4.out 0).trans rfl; have hq1_ : W4_.cell? ⟨gq, 1, none⟩ = some (vo4) := (blk_cell HG4.out 1).trans rfl; have hq2_ : W4_.cell? ⟨gq, 2, none⟩ = some (Value.int .i64 s.2.1) := (blk_cell HG4.out 2).trans rfl; have hq3_ : W4_.cell? ⟨gq, 3, none⟩ = some (Value.int .i64 s.2.2.1) := (blk_cell HG4.out 3).trans rfl; have hq4_ : W4_.cell? ⟨gq, 4, none⟩ = some (Value.int .i64 s.2.2.2) := (blk_cell HG4.out 4).trans rfl; clear h1_ h2_ h3_))
 go_ret
 exact ⟨_, rfl, HGQ.out, vo4, HG4.out, HO4.out, HB4.out⟩


end Go.Proofs.Ytpennfkjfeipcaa.PFnBoxesOne
