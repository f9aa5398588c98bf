/- The functions that the law reaches, as Lean functions, each with the proof that the Go code comes to just these answers. Written by a program of this session (wip/tools/handprint.py over the kit's print); by hand where the print takes no such text. -/
-- squeezed
import Derived.Test.YtpennfkjfeipcaaPFnBoxesOnex0
import Derived.Test.YtpennfkjfeipcaaPFnBoxesOnex2
import Derived.Test.YtpennfkjfeipcaaPFnBoxesOnex3
namespace Go.Proofs.Ytpennfkjfeipcaa.PFnBoxesOne
open Go.RowKit Go.Proofs.YtpennfkjfeipcaaW.PrintWords Go.Proofs.YtpennfkjfeipcaaW.PrintLast Go.Proofs.YtpennfkjfeipcaaW.PrintMore
attribute [local go_sem] max2_int min2_int max_two min_two max_three min_three max_four min_four   -- for this text's walks alone
set_option linter.unusedVariables false
set_option linter.unusedSimpArgs false

theorem u4e {p : Prop} (h : p) : Aside0 p := Aside0.mk h
-- short names
theorem u4a : type_of% @List.setIfInBounds_toArray := @List.setIfInBounds_toArray
theorem u4b : type_of% @List.set_cons_zero := @List.set_cons_zero
theorem u4c : type_of% @List.set_cons_succ := @List.set_cons_succ
theorem u4d : type_of% @World.block_lt_of_cell? := @World.block_lt_of_cell?
/-! ### impl_Box_fits: function 37 -/
def impl_Box_fits.j0 : Nat → List (S46) → Bool → ByteArray → Int → List Int → Option (Bool)
 | 0, _, _, _, _, _ => none
 | k + 1, x1, x20, x110000, x110001, x110002 => if x20 = true then (some false) else (if (x1.length : Int) > 0 then (if 0 ≤ (wrap64 ((x1.length : Int) - 1)) then (if (wrap64 ((x1.length : Int) - 1)) < (x1.length : Int) then ((impl_Box_holds.f ((rd_T46 x1 (wrap64 ((x1.length : Int) - 1))).f0) ((rd_T46 x1 (wrap64 ((x1.length : Int) - 1))).f1) ((rd_T46 x1 (wrap64 ((x1.length : Int) - 1))).f2)).bind fun t114 => (if t114 = true then ((impl_in.f x110001 0 (mn (wrap64 (((rd_T46 x1 (wrap64 ((x1.length : Int) - 1))).f1) + 1)) 8)).bind fun t115 => (some t115)) else ((impl_in.f x110001 0 (mn ((rd_T46 x1 (wrap64 ((x1.length : Int) - 1))).f1) 8)).bind fun t116 => (some t116)))) else (none)) else (none)) else ((impl_in.f x110001 0 (mn 0 8)).bind fun t117 => (some t117)))
def impl_Box_fits.f (k : Nat) (a0_0 : ByteArray) (a0_1 : Int) (l0_2 : List Int) (l1 : List (S46)) : Option (Bool) := (impl_kindOk.f k a0_0).bind fun t110 => (if t110 = true then ((impl_Box_holds.f a0_0 a0_1 l0_2).bind fun t111 => (if t111 = true then (impl_Box_fits.j0 k l1 (decide ((l0_2.length : Int) > 0)) a0_0 a0_1 l0_2) else (impl_Box_fits.j0 k l1 false a0_0 a0_1 l0_2))) else (impl_Box_fits.j0 k l1 true a0_0 a0_1 l0_2))
theorem impl_Box_fits.mono_l : ∀ k, (∀ y0 y1 y2 y3 y4, LeO (impl_Box_fits.j0 k y0 y1 y2 y3 y4) (impl_Box_fits.j0 (k + 1) y0 y1 y2 y3 y4))
 | 0 => fun _ _ _ _ _ r h => by simp [impl_Box_fits.j0] at h
 | k + 1 => by
  have ih0 := impl_Box_fits.mono_l k
  ·intro y0 y1 y2 y3 y4
   unfold impl_Box_fits.j0
   repeat' first
   | (with_reducible exact ih0 _ _ _ _ _)
   | (with_reducible exact impl_kindOk.mono _ _)
   | (with_reducible exact LeO.refl _)
   | (with_reducible exact LeO.none _)
   | (with_reducible refine LeO.ite ?_ ?_)
   | (with_reducible refine LeO.bind ?_ (fun _ => ?_))
   | exact ih0 _ _ _ _ _
   | exact impl_kindOk.mono _ _
   | exact LeO.none _
   | refine LeO.ite ?_ ?_
   | refine LeO.bind ?_ (fun _ => ?_)
theorem impl_Box_fits.mono : ∀ a0 a1 a2 a3 k, LeO (impl_Box_fits.f k a0 a1 a2 a3) (impl_Box_fits.f (k + 1) a0 a1 a2 a3) := by
 intro a0 a1 a2 a3 k
 have ih0 := impl_Box_fits.mono_l k
 unfold impl_Box_fits.f
 repeat' first
   | (with_reducible exact ih0 _ _ _ _ _)
   | (with_reducible exact impl_kindOk.mono _ _)
   | (with_reducible exact LeO.refl _)
   | (with_reducible exact LeO.none _)
   | (with_reducible refine LeO.ite ?_ ?_)
   | (with_reducible refine LeO.bind ?_ (fun _ => ?_))
   | exact ih0 _ _ _ _ _
   | exact impl_kindOk.mono _ _
   | exact LeO.none _
   | refine LeO.ite ?_ ?_
   | refine LeO.bind ?_ (fun _ => ?_)
set_option maxHeartbeats 8000000 in
set_option maxRecDepth 100000 in
theorem impl_Box_fits.calls (k : Nat) (a0_0 : ByteArray) (a0_1 : Int) (A0_2 : Option Addr) (c0_2 : Nat) (l0_2 : List Int) (A1 : Option Addr) (c1 : Nat) (l1 : List (S46)) (r : Bool) (w : World) (hr0_2 : Kd.C (Kd.int .u8) w A0_2 l0_2.length l0_2) (hc0_2 : l0_2.length ≤ c0_2) (hr1 : Kd.C k46 w A1 l1.length l1) (hc1 : l1.length ≤ c1) (h : impl_Box_fits.f k a0_0 a0_1 l0_2 l1 = some r) :
  Calls Try.prog 37 #[.agg #[.string a0_0, .int .i64 a0_1, .slice A0_2 l0_2.length c0_2], .slice A1 l1.length c1] w fun e w' => e = .returned (.bool r) ∧ Below w.heap.size w w' := by
 have hu46 := Try.underlying46
 have HR0_2 := u4e hr0_2
 have HC0_2 := u4e hc0_2
 clear hr0_2 hc0_2
 have HR1 := u4e hr1
 have HC1 := u4e hc1
 clear hr1 hc1
 have HB := u4e (Below.refl w.heap.size w)
 have H : ((impl_kindOk.f k a0_0).bind fun t110 => (if t110 = true then ((impl_Box_holds.f a0_0 a0_1 l0_2).bind fun t111 => (if t111 = true then (impl_Box_fits.j0 k l1 (decide ((l0_2.length : Int) > 0)) a0_0 a0_1 l0_2) else (impl_Box_fits.j0 k l1 false a0_0 a0_1 l0_2))) else (impl_Box_fits.j0 k l1 true a0_0 a0_1 l0_2))) = some r := h
 clear h
 have HC3 := u4e H
 clear H
 go_enter Try.func37, Try.ntmps37
 go_upto_region 1 with (first | ((with_reducible refine gate_dst (N := 2) rfl ?_); (try (refine gate_guard (by rfl) ?_; dsimp only)); refine box_event ?hg (N := 2) ?hd (cs := #[.string a0_0, .int .i64 a0_1, .slice A0_2 l0_2.length c0_2]) (t := 46) ?hr ?_; (case hd => rfl); (case hg => rfl); (case hr => first | (go_simp; done) | (go_simp; rfl)); intro gb109 hg w4 hbox hb; have n0_ := u4e (below_step (by repeat (first | (with_reducible first | exact HB.out | apply below_alloc | apply pw_below_drewN | apply below_drew1) | exact HB.out)) hb); have n1_ := u4e (hbox); have n2_ := u4e ((by rw [hg]; exact (below_size (by repeat (first | (with_reducible first | exact HB.out | apply below_alloc | apply pw_below_drewN | apply below_drew1) | exact HB.out))) : w.heap.size ≤ gb109)); have n3_ := u4e ((by rw [hg]; exact (below_size (by repeat (first | (with_reducible first | exact HB.out | apply below_alloc | apply pw_below_drewN | apply below_drew1) | exact HB.out))) : w.heap.size ≤ gb109)); clear HB; have HB := n0_; have BK109 := n1_; have GW109 := n2_; have GE109 := n3_; clear n0_ n1_ n2_ n3_; clear hb hbox hg))
 (try simp only [Act.put, u4a, u4b, u4c])
 go_cut [20] (fun v20 wc => ∃ (kq : Nat) (x20_2 : Bool), v20 = .bool x20_2 ∧ Aside0 (impl_Box_fits.j0 kq l1 x20_2 a0_0 a0_1 l0_2 = some r) ∧ Aside0 (kq ≤ k) ∧ Aside0 (wc.heap[gb109]? = some (.cells #[.string a0_0, .int .i64 a0_1, (.slice A0_2 l0_2.length c0_2)] 46 (0, 0))) ∧ Aside0 (Below w.heap.size w wc))
 case first =>
  have H := HC3.out
  clear HC3
  replace H := Option.bind_eq_some_iff.mp H
  obtain ⟨t110, A50, H⟩ := H
  have A5 := u4e A50
  clear A50
  by_cases c6 : t110 = true
  ·subst c6
   have H1 := H; rw [if_pos rfl] at H1
   clear H
   have H := H1
   clear H1
   replace H := Option.bind_eq_some_iff.mp H
   obtain ⟨t111, A70, H⟩ := H
   have A7 := u4e A70
   clear A70
   by_cases c8 : t111 = true
   ·subst c8
    have H1 := H; rw [if_pos rfl] at H1
    clear H
    have H := H1
    clear H1
    have H' := u4e H
    clear H
    have hcz9_0 : w4.cell? ⟨gb109, 0, none⟩ = some (.string a0_0) := (blk_cell BK109.out 0).trans rfl
    have hcz9_1 : w4.cell? ⟨gb109, 1, none⟩ = some (.int .i64 a0_1) := (blk_cell BK109.out 1).trans rfl
    have hcz9_2 : w4.cell? ⟨gb109, 2, none⟩ = some (.slice A0_2 l0_2.length c0_2) := (blk_cell BK109.out 2).trans rfl
    have hfz9_0 := blk_frozen BK109.out 0
    have hfz9_1 := blk_frozen BK109.out 1
    have hfz9_2 := blk_frozen BK109.out 2
    go_wp2_with (first | ((with_reducible refine gate_callee (f := 48) rfl ?_); refine goesL_ (some 9) rfl rfl Try.func48 (by kernel_rfl) rfl #[.string a0_0] rfl (by (try simp only [List.map_toArray, List.map_cons, List.map_nil]); first | done | rfl | (simp only [List.length_drop, List.length_take]; rfl)) ?_; (with_reducible refine (impl_kindOk.calls k a0_0 true _ A5.out).mono ?_); rintro e w' ⟨rfl, ⟨nd, rfl⟩⟩; refine ⟨_, rfl, ?_⟩) | (go_at_call 49; (with_reducible refine (impl_Box_holds.calls a0_0 a0_1 _ _ l0_2 true _ ?side1 ?side2 A7.out).mono ?_); (case side1 => repeat (first | exact (Kd.C_below HR0_2.out (by repeat (first | (with_reducible first | exact HB.out | apply below_alloc | apply pw_below_drewN | apply below_drew1 | refine below_set ?_ GE109.out) | exact HB.out))) | (with_reducible refine Kd.C_alloc ?_ _) | (with_reducible refine Kd.C_drewN ?_ _) | (with_reducible refine Kd.C_drew ?_))); (case side2 => exact HC0_2.out); rintro e w10 ⟨rfl, hb⟩; have n0_ := u4e (blk_below (g := gb109) (o := .cells #[.string a0_0, .int .i64 a0_1, .slice A0_2 l0_2.length c0_2] 46 (0, 0)) (by (with_reducible repeat (first | refine blk_drewN ?_ _ | refine blk_drew ?_ | refine blk_alloc ?_ _)); exact BK109.out) hb); have n1_ := u4e (below_step (by repeat (first | (with_reducible first | exact HB.out | apply below_alloc | apply pw_below_drewN | apply below_drew1 | refine below_set ?_ GE109.out) | exact HB.out)) hb); clear BK109; clear HB; have BK109 := n0_; have HB := n1_; clear n0_ n1_; (try clear hb); (try clear hb2); (try clear hk); (try clear hi); have hcz11_0 : w10.cell? ⟨gb109, 0, none⟩ = some (.string a0_0) := (blk_cell BK109.out 0).trans rfl; have hcz11_1 : w10.cell? ⟨gb109, 1, none⟩ = some (.int .i64 a0_1) := (blk_cell BK109.out 1).trans rfl; have hcz11_2 : w10.cell? ⟨gb109, 2, none⟩ = some (.slice A0_2 l0_2.length c0_2) := (blk_cell BK109.out 2).trans rfl; have hfz11_0 := blk_frozen BK109.out 0; have hfz11_1 := blk_frozen BK109.out 1; have hfz11_2 := blk_frozen BK109.out 2))
    go_meet
    case rel => exact ⟨_, (decide ((l0_2.length : Int) > 0)), (by first | rfl | (simp; done) | (simp [*]; done)), H', ⟨by first | omega | exact Nat.le_refl _⟩, ⟨by (with_reducible repeat (first | refine blk_drewN ?_ _ | refine blk_drew ?_ | refine blk_alloc ?_ _)); exact BK109.out⟩, ⟨by repeat (first | (with_reducible first | exact HB.out | apply below_alloc | apply pw_below_drewN | apply below_drew1 | refine below_set ?_ GE109.out) | exact HB.out)⟩⟩
   ·replace c8 := Bool.eq_false_iff.mpr c8
    subst c8
    have H1 := H; rw [if_neg (show ¬ (false = true) by decide)] at H1
    clear H
    have H := H1
    clear H1
    have H' := u4e H
    clear H
    have hcz12_0 : w4.cell? ⟨gb109, 0, none⟩ = some (.string a0_0) := (blk_cell BK109.out 0).trans rfl
    have hcz12_1 : w4.cell? ⟨gb109, 1, none⟩ = some (.int .i64 a0_1) := (blk_cell BK109.out 1).trans rfl
    have hcz12_2 : w4.cell? ⟨gb109, 2, none⟩ = some (.slice A0_2 l0_2.length c0_2) := (blk_cell BK109.out 2).trans rfl
    have hfz12_0 := blk_frozen BK109.out 0
    have hfz12_1 := blk_frozen BK109.out 1
    have hfz12_2 := blk_frozen BK109.out 2
    go_wp2_with (first | ((with_reducible refine gate_callee (f := 48) rfl ?_); refine goesL_ (some 9) rfl rfl Try.func48 (by kernel_rfl) rfl #[.string a0_0] rfl (by (try simp only [List.map_toArray, List.map_cons, List.map_nil]); first | done | rfl | (simp only [List.length_drop, List.length_take]; rfl)) ?_; (with_reducible refine (impl_kindOk.calls k a0_0 true _ A5.out).mono ?_); rintro e w' ⟨rfl, ⟨nd, rfl⟩⟩; refine ⟨_, rfl, ?_⟩) | (go_at_call 49; (with_reducible refine (impl_Box_holds.calls a0_0 a0_1 _ _ l0_2 false _ ?side1 ?side2 A7.out).mono ?_); (case side1 => repeat (first | exact (Kd.C_below HR0_2.out (by repeat (first | (with_reducible first | exact HB.out | apply below_alloc | apply pw_below_drewN | apply below_drew1 | refine below_set ?_ GE109.out) | exact HB.out))) | (with_reducible refine Kd.C_alloc ?_ _) | (with_reducible refine Kd.C_drewN ?_ _) | (with_reducible refine Kd.C_drew ?_))); (case side2 => exact HC0_2.out); rintro e w13 ⟨rfl, hb⟩; have n0_ := u4e (blk_below (g := gb109) (o := .cells #[.string a0_0, .int .i64 a0_1, .slice A0_2 l0_2.length c0_2] 46 (0, 0)) (by (with_reducible repeat (first | refine blk_drewN ?_ _ | refine blk_drew ?_ | refine blk_alloc ?_ _)); exact BK109.out) hb); have n1_ := u4e (below_step (by repeat (first | (with_reducible first | exact HB.out | apply below_alloc | apply pw_below_drewN | apply below_drew1 | refine below_set ?_ GE109.out) | exact HB.out)) hb); clear BK109; clear HB; have BK109 := n0_; have HB := n1_; clear n0_ n1_; (try clear hb); (try clear hb2); (try clear hk); (try clear hi)))
    go_meet
    case rel => exact ⟨_, (false), (by first | rfl | (simp; done) | (simp [*]; done)), H', ⟨by first | omega | exact Nat.le_refl _⟩, ⟨by (with_reducible repeat (first | refine blk_drewN ?_ _ | refine blk_drew ?_ | refine blk_alloc ?_ _)); exact BK109.out⟩, ⟨by repeat (first | (with_reducible first | exact HB.out | apply below_alloc | apply pw_below_drewN | apply below_drew1 | refine below_set ?_ GE109.out) | exact HB.out)⟩⟩
  ·replace c6 := Bool.eq_false_iff.mpr c6
   subst c6
   have H1 := H; rw [if_neg (show ¬ (false = true) by decide)] at H1
   clear H
   have H := H1
   clear H1
   have H' := u4e H
   clear H
   have hcz14_0 : w4.cell? ⟨gb109, 0, none⟩ = some (.string a0_0) := (blk_cell BK109.out 0).trans rfl
   have hcz14_1 : w4.cell? ⟨gb109, 1, none⟩ = some (.int .i64 a0_1) := (blk_cell BK109.out 1).trans rfl
   have hcz14_2 : w4.cell? ⟨gb109, 2, none⟩ = some (.slice A0_2 l0_2.length c0_2) := (blk_cell BK109.out 2).trans rfl
   have hfz14_0 := blk_frozen BK109.out 0
   have hfz14_1 := blk_frozen BK109.out 1
   have hfz14_2 := blk_frozen BK109.out 2
   go_wp2_with (first | ((with_reducible refine gate_callee (f := 48) rfl ?_); refine goesL_ (some 9) rfl rfl Try.func48 (by kernel_rfl) rfl #[.string a0_0] rfl (by (try simp only [List.map_toArray, List.map_cons, List.map_nil]); first | done | rfl | (simp only [List.length_drop, List.length_take]; rfl)) ?_; (with_reducible refine (impl_kindOk.calls k a0_0 false _ A5.out).mono ?_); rintro e w' ⟨rfl, ⟨nd, rfl⟩⟩; refine ⟨_, rfl, ?_⟩))
   go_meet
   case rel => exact ⟨_, (true), (by first | rfl | (simp; done) | (simp [*]; done)), H', ⟨by first | omega | exact Nat.le_refl _⟩, ⟨by (with_reducible repeat (first | refine blk_drewN ?_ _ | refine blk_drew ?_ | refine blk_alloc ?_ _)); exact BK109.out⟩, ⟨by repeat (first | (with_reducible first | exact HB.out | apply below_alloc | apply pw_below_drewN | apply below_drew1 | refine below_set ?_ GE109.out) | exact HB.out)⟩⟩
 case rest =>
  clear HC3
  try clear c1
  try clear c6
  try clear c8
  try clear hcz11_0
  try clear hcz11_1
  try clear hcz11_2
  try clear hcz12_0
  try clear hcz12_1
  try clear hcz12_2
  try clear hcz14_0
  try clear hcz14_1
  try clear hcz14_2
  try clear hcz9_0
  try clear hcz9_1
  try clear hcz9_2
  try clear hfz11_0
  try clear hfz11_1
  try clear hfz11_2
  try clear hfz12_0
  try clear hfz12_1
  try clear hfz12_2
  try clear hfz14_0
  try clear hfz14_1
  try clear hfz14_2
  try clear hfz9_0
  try clear hfz9_1
  try clear hfz9_2
  obtain ⟨kq, x20_2, rfl, HA, HJ2, BK109, HB⟩ := hcut
  cases kq with
  | zero => exact absurd HA.out (by simp [impl_Box_fits.j0])
  | succ kj2 =>
   have H := HA.out
   clear HA
   simp only [impl_Box_fits.j0] at H
   by_cases c15 : x20_2 = true
   ·subst c15
    have H1 := H; rw [if_pos rfl] at H1
    clear H
    have H := H1
    clear H1
    obtain rfl := Option.some.inj H
    go_wp2
    go_ret
    exact ⟨by first | rfl | (simp [errW_none, errW_some] <;> rfl) | (simp [*, errW_none, errW_some] <;> rfl), by repeat (first | (with_reducible first | exact HB.out | apply below_alloc | apply pw_below_drewN | apply below_drew1 | refine below_set ?_ GE109.out) | exact HB.out)⟩
   ·replace c15 := Bool.eq_false_iff.mpr c15
    subst c15
    have H1 := H; rw [if_neg (show ¬ (false = true) by decide)] at H1
    clear H
    have H := H1
    clear H1
    by_cases c16 : (l1.length : Int) > 0
    ·rw [if_pos c16] at H
     have c16b0 : decide (0 < (l1.length : Int)) = true := decide_eq_true c16
     have c16b1 : decide (0 < l1.length) = true := decide_eq_true (by omega)
     clear c16
     obtain ⟨ji17, hji17⟩ : ∃ j_ : Int, (wrap64 ((l1.length : Int) - 1)) = j_ := ⟨_, rfl⟩
     replace H : (if 0 ≤ (ji17) then (if (ji17) < (l1.length : Int) then ((impl_Box_holds.f ((rd_T46 l1 (ji17)).f0) ((rd_T46 l1 (ji17)).f1) ((rd_T46 l1 (ji17)).f2)).bind fun t114 => (if t114 = true then ((impl_in.f a0_1 0 (mn (wrap64 (((rd_T46 l1 (ji17)).f1) + 1)) 8)).bind fun t115 => (some t115)) else ((impl_in.f a0_1 0 (mn ((rd_T46 l1 (ji17)).f1) 8)).bind fun t116 => (some t116)))) else (none)) else (none)) = some r := by first | (rw [hji17] at H; exact H) | (simp only [hji17] at H ⊢; exact H)
     have hji17w : (IntKind.i64.wrap ((l1.length : Int) - 1)) = ji17 := (i64_w _).trans hji17
     by_cases c18 : 0 ≤ (ji17)
     ·rw [if_pos c18] at H
      have c18b0 : decide (0 ≤ (ji17)) = true := decide_eq_true c18
      clear c18
      by_cases c19 : (ji17) < (l1.length : Int)
      ·rw [if_pos c19] at H
       have c19b0 : decide ((ji17) < (l1.length : Int)) = true := decide_eq_true c19
       clear c19
       replace H := Option.bind_eq_some_iff.mp H
       obtain ⟨t114, A200, H⟩ := H
       have A20 := u4e A200
       clear A200
       by_cases c21 : t114 = true
       ·subst c21
        have H1 := H; rw [if_pos rfl] at H1
        clear H
        have H := H1
        clear H1
        obtain ⟨ji22, hji22⟩ : ∃ j_ : Int, (mn (wrap64 (((rd_T46 l1 (ji17)).f1) + 1)) 8) = j_ := ⟨_, rfl⟩
        replace H : ((impl_in.f a0_1 0 (ji22)).bind fun t115 => (some t115)) = some r := by first | (rw [hji22] at H; exact H) | (simp only [hji22] at H ⊢; exact H)
        (try rw [hji22] at A20)
        have hji22_ : (if 8 < (wrap64 (((rd_T46 l1 (ji17)).f1) + 1)) then 8 else (wrap64 (((rd_T46 l1 (ji17)).f1) + 1))) = ji22 := hji22
        replace H := Option.bind_eq_some_iff.mp H
        obtain ⟨t115, A230, H⟩ := H
        have A23 := u4e A230
        clear A230
        obtain rfl := Option.some.inj H
        have p112 : 0 ≤ ((ji17) : Int) := of_decide_eq_true (by assumption)
        have q112 : (ji17) < (l1.length : Int) := of_decide_eq_true (by assumption)
        obtain ⟨ad112, A112_2, c112_2, e112, hx112_0, hx112_1, hx112_2, hl112_2, hi112_2⟩ := at_T46 HR1.out (ji17) p112 q112
        cases e112
        replace hx112_0 := (HB.out.cell (u4d w _ hx112_0)).trans hx112_0
        replace hx112_1 := (HB.out.cell (u4d w _ hx112_1)).trans hx112_1
        replace hx112_2 := (HB.out.cell (u4d w _ hx112_2)).trans hx112_2
        have HR112_2 := u4e hi112_2
        have HC112_2 := u4e hl112_2
        clear hi112_2 hl112_2
        replace p112 := eq_true p112
        replace q112 := eq_true q112
        have p113 : 0 ≤ ((ji17) : Int) := of_decide_eq_true (by assumption)
        have q113 : (ji17) < (l1.length : Int) := of_decide_eq_true (by assumption)
        obtain ⟨ad113, A113_2, c113_2, e113, hx113_0, hx113_1, hx113_2, hl113_2, hi113_2⟩ := at_T46 HR1.out (ji17) p113 q113
        obtain rfl : ad112 = ad113 := (by injection e113)
        replace hx113_0 := (HB.out.cell (u4d w _ hx113_0)).trans hx113_0
        replace hx113_1 := (HB.out.cell (u4d w _ hx113_1)).trans hx113_1
        replace hx113_2 := (HB.out.cell (u4d w _ hx113_2)).trans hx113_2
        have HR113_2 := u4e hi113_2
        have HC113_2 := u4e hl113_2
        clear hi113_2 hl113_2
        replace p113 := eq_true p113
        replace q113 := eq_true q113
        have ea_ := Option.some.inj (hx112_2.symm.trans hx113_2)
        injection ea_ with ea_ en_ ec_
        subst ea_
        subst ec_
        clear en_
        go_wp2_with (first | ((with_reducible refine gate_callee (f := 49) rfl ?_); refine goesL_ (some 36) rfl rfl Try.func49 (by kernel_rfl) rfl #[.agg #[.string ((rd_T46 l1 (ji17)).f0), .int .i64 ((rd_T46 l1 (ji17)).f1), .slice A112_2 ((rd_T46 l1 (ji17)).f2).length c112_2]] rfl (by (try simp only [List.map_toArray, List.map_cons, List.map_nil]); first | done | (simp only [hji17]; rfl) | rfl | (rw [← hji17]; rfl) | (simp only [List.length_drop, List.length_take]; rfl)) ?_; (with_reducible refine (impl_Box_holds.calls ((rd_T46 l1 (ji17)).f0) ((rd_T46 l1 (ji17)).f1) _ _ ((rd_T46 l1 (ji17)).f2) true _ ?side1 ?side2 A20.out).mono ?_); (case side1 => repeat (first | exact (Kd.C_below HR113_2.out HB.out) | (with_reducible refine Kd.C_alloc ?_ _) | (with_reducible refine Kd.C_drewN ?_ _) | (with_reducible refine Kd.C_drew ?_))); (case side2 => exact HC113_2.out); rintro e w24 ⟨rfl, hb⟩; refine ⟨_, rfl, ?_⟩; have n0_ := u4e (blk_below (g := gb109) (o := .cells #[.string a0_0, .int .i64 a0_1, .slice A0_2 l0_2.length c0_2] 46 (0, 0)) (by (with_reducible repeat (first | refine blk_drewN ?_ _ | refine blk_drew ?_ | refine blk_alloc ?_ _)); exact BK109.out) hb); have n1_ := u4e (below_step (by repeat (first | (with_reducible first | exact HB.out | apply below_alloc | apply pw_below_drewN | apply below_drew1 | refine below_set ?_ GE109.out) | exact HB.out)) hb); clear BK109; clear HB; have BK109 := n0_; have HB := n1_; clear n0_ n1_; (try clear hb); (try clear hb2); (try clear hk); (try clear hi); have hcz25_0 : w24.cell? ⟨gb109, 0, none⟩ = some (.string a0_0) := (blk_cell BK109.out 0).trans rfl; have hcz25_1 : w24.cell? ⟨gb109, 1, none⟩ = some (.int .i64 a0_1) := (blk_cell BK109.out 1).trans rfl; have hcz25_2 : w24.cell? ⟨gb109, 2, none⟩ = some (.slice A0_2 l0_2.length c0_2) := (blk_cell BK109.out 2).trans rfl; have hfz25_0 := blk_frozen BK109.out 0; have hfz25_1 := blk_frozen BK109.out 1; have hfz25_2 := blk_frozen BK109.out 2) | ((with_reducible refine gate_callee (f := 50) rfl ?_); refine goesL_ (some 43) rfl rfl Try.func50 (by kernel_rfl) rfl #[.int .i64 a0_1, .int .i64 0, .int .i64 ji22] rfl (by (try simp only [List.map_toArray, List.map_cons, List.map_nil]); first | done | (simp only [hji22]; rfl) | rfl | (rw [← hji22]; rfl) | (simp only [List.length_drop, List.length_take]; rfl)) ?_; (with_reducible refine (impl_in.calls a0_1 0 ji22 t115 _ A23.out).mono ?_); rintro e w' ⟨rfl, ⟨nd, rfl⟩⟩; refine ⟨_, rfl, ?_⟩))
        go_ret
        exact ⟨by first | rfl | (simp [errW_none, errW_some] <;> rfl) | (simp only [← hji17, ← hji22]; first | rfl | (simp [errW_none, errW_some] <;> rfl)) | (simp [*, errW_none, errW_some] <;> rfl), by repeat (first | (with_reducible first | exact HB.out | apply below_alloc | apply pw_below_drewN | apply below_drew1 | refine below_set ?_ GE109.out) | exact HB.out)⟩
       ·replace c21 := Bool.eq_false_iff.mpr c21
        subst c21
        have H1 := H; rw [if_neg (show ¬ (false = true) by decide)] at H1
        clear H
        have H := H1
        clear H1
        obtain ⟨ji26, hji26⟩ : ∃ j_ : Int, (mn ((rd_T46 l1 (ji17)).f1) 8) = j_ := ⟨_, rfl⟩
        replace H : ((impl_in.f a0_1 0 (ji26)).bind fun t116 => (some t116)) = some r := by first | (rw [hji26] at H; exact H) | (simp only [hji26] at H ⊢; exact H)
        (try rw [hji26] at A20)
        have hji26_ : (if 8 < ((rd_T46 l1 (ji17)).f1) then 8 else ((rd_T46 l1 (ji17)).f1)) = ji26 := hji26
        replace H := Option.bind_eq_some_iff.mp H
        obtain ⟨t116, A270, H⟩ := H
        have A27 := u4e A270
        clear A270
        obtain rfl := Option.some.inj H
        have p112 : 0 ≤ ((ji17) : Int) := of_decide_eq_true (by assumption)
        have q112 : (ji17) < (l1.length : Int) := of_decide_eq_true (by assumption)
        obtain ⟨ad112, A112_2, c112_2, e112, hx112_0, hx112_1, hx112_2, hl112_2, hi112_2⟩ := at_T46 HR1.out (ji17) p112 q112
        cases e112
        replace hx112_0 := (HB.out.cell (u4d w _ hx112_0)).trans hx112_0
        replace hx112_1 := (HB.out.cell (u4d w _ hx112_1)).trans hx112_1
        replace hx112_2 := (HB.out.cell (u4d w _ hx112_2)).trans hx112_2
        have HR112_2 := u4e hi112_2
        have HC112_2 := u4e hl112_2
        clear hi112_2 hl112_2
        replace p112 := eq_true p112
        replace q112 := eq_true q112
        have p113 : 0 ≤ ((ji17) : Int) := of_decide_eq_true (by assumption)
        have q113 : (ji17) < (l1.length : Int) := of_decide_eq_true (by assumption)
        obtain ⟨ad113, A113_2, c113_2, e113, hx113_0, hx113_1, hx113_2, hl113_2, hi113_2⟩ := at_T46 HR1.out (ji17) p113 q113
        obtain rfl : ad112 = ad113 := (by injection e113)
        replace hx113_0 := (HB.out.cell (u4d w _ hx113_0)).trans hx113_0
        replace hx113_1 := (HB.out.cell (u4d w _ hx113_1)).trans hx113_1
        replace hx113_2 := (HB.out.cell (u4d w _ hx113_2)).trans hx113_2
        have HR113_2 := u4e hi113_2
        have HC113_2 := u4e hl113_2
        clear hi113_2 hl113_2
        replace p113 := eq_true p113
        replace q113 := eq_true q113
        have ea_ := Option.some.inj (hx112_2.symm.trans hx113_2)
        injection ea_ with ea_ en_ ec_
        subst ea_
        subst ec_
        clear en_
        go_wp2_with (first | ((with_reducible refine gate_callee (f := 49) rfl ?_); refine goesL_ (some 36) rfl rfl Try.func49 (by kernel_rfl) rfl #[.agg #[.string ((rd_T46 l1 (ji17)).f0), .int .i64 ((rd_T46 l1 (ji17)).f1), .slice A112_2 ((rd_T46 l1 (ji17)).f2).length c112_2]] rfl (by (try simp only [List.map_toArray, List.map_cons, List.map_nil]); first | done | (simp only [hji17]; rfl) | rfl | (rw [← hji17]; rfl) | (simp only [List.length_drop, List.length_take]; rfl)) ?_; (with_reducible refine (impl_Box_holds.calls ((rd_T46 l1 (ji17)).f0) ((rd_T46 l1 (ji17)).f1) _ _ ((rd_T46 l1 (ji17)).f2) false _ ?side1 ?side2 A20.out).mono ?_); (case side1 => repeat (first | exact (Kd.C_below HR113_2.out HB.out) | (with_reducible refine Kd.C_alloc ?_ _) | (with_reducible refine Kd.C_drewN ?_ _) | (with_reducible refine Kd.C_drew ?_))); (case side2 => exact HC113_2.out); rintro e w28 ⟨rfl, hb⟩; refine ⟨_, rfl, ?_⟩; have n0_ := u4e (blk_below (g := gb109) (o := .cells #[.string a0_0, .int .i64 a0_1, .slice A0_2 l0_2.length c0_2] 46 (0, 0)) (by (with_reducible repeat (first | refine blk_drewN ?_ _ | refine blk_drew ?_ | refine blk_alloc ?_ _)); exact BK109.out) hb); have n1_ := u4e (below_step (by repeat (first | (with_reducible first | exact HB.out | apply below_alloc | apply pw_below_drewN | apply below_drew1 | refine below_set ?_ GE109.out) | exact HB.out)) hb); clear BK109; clear HB; have BK109 := n0_; have HB := n1_; clear n0_ n1_; (try clear hb); (try clear hb2); (try clear hk); (try clear hi); have hcz29_0 : w28.cell? ⟨gb109, 0, none⟩ = some (.string a0_0) := (blk_cell BK109.out 0).trans rfl; have hcz29_1 : w28.cell? ⟨gb109, 1, none⟩ = some (.int .i64 a0_1) := (blk_cell BK109.out 1).trans rfl; have hcz29_2 : w28.cell? ⟨gb109, 2, none⟩ = some (.slice A0_2 l0_2.length c0_2) := (blk_cell BK109.out 2).trans rfl; have hfz29_0 := blk_frozen BK109.out 0; have hfz29_1 := blk_frozen BK109.out 1; have hfz29_2 := blk_frozen BK109.out 2) | ((with_reducible refine gate_callee (f := 50) rfl ?_); refine goesL_ (some 43) rfl rfl Try.func50 (by kernel_rfl) rfl #[.int .i64 a0_1, .int .i64 0, .int .i64 ji26] rfl (by (try simp only [List.map_toArray, List.map_cons, List.map_nil]); first | done | (simp only [hji26]; rfl) | rfl | (rw [← hji26]; rfl) | (simp only [List.length_drop, List.length_take]; rfl)) ?_; (with_reducible refine (impl_in.calls a0_1 0 ji26 t116 _ A27.out).mono ?_); rintro e w' ⟨rfl, ⟨nd, rfl⟩⟩; refine ⟨_, rfl, ?_⟩))
        go_ret
        exact ⟨by first | rfl | (simp [errW_none, errW_some] <;> rfl) | (simp only [← hji17, ← hji26]; first | rfl | (simp [errW_none, errW_some] <;> rfl)) | (simp [*, errW_none, errW_some] <;> rfl), by repeat (first | (with_reducible first | exact HB.out | apply below_alloc | apply pw_below_drewN | apply below_drew1 | refine below_set ?_ GE109.out) | exact HB.out)⟩
      ·rw [if_neg c19] at H
       exact absurd H (by simp)
     ·rw [if_neg c18] at H
      exact absurd H (by simp)
    ·rw [if_neg c16] at H
     have c16b0 : decide (0 < (l1.length : Int)) = false := decide_eq_false c16
     have c16b1 : decide (0 < l1.length) = false := decide_eq_false (by omega)
     clear c16
     obtain ⟨ji30, hji30⟩ : ∃ j_ : Int, (mn 0 8) = j_ := ⟨_, rfl⟩
     replace H : ((impl_in.f a0_1 0 (ji30)).bind fun t117 => (some t117)) = some r := by first | (rw [hji30] at H; exact H) | (simp only [hji30] at H ⊢; exact H)
     (try (have hji30h : ji30 ≤ 0 := by (rw [← hji30]; unfold mn; (repeat' split) <;> omega)))
     (try (have hji30g : ji30 ≤ 64 := by omega))
     (try (have hji30l : 0 ≤ ji30 := by (rw [← hji30]; unfold mn; (repeat' split) <;> omega)))
     (try (have hji30m : 0 ≤ ji30 := by omega))
     have hji30_ : (if 8 < 0 then 8 else 0) = ji30 := hji30
     replace H := Option.bind_eq_some_iff.mp H
     obtain ⟨t117, A310, H⟩ := H
     have A31 := u4e A310
     clear A310
     obtain rfl := Option.some.inj H
     have hcz32_0 : wc.cell? ⟨gb109, 0, none⟩ = some (.string a0_0) := (blk_cell BK109.out 0).trans rfl
     have hcz32_1 : wc.cell? ⟨gb109, 1, none⟩ = some (.int .i64 a0_1) := (blk_cell BK109.out 1).trans rfl
     have hcz32_2 : wc.cell? ⟨gb109, 2, none⟩ = some (.slice A0_2 l0_2.length c0_2) := (blk_cell BK109.out 2).trans rfl
     have hfz32_0 := blk_frozen BK109.out 0
     have hfz32_1 := blk_frozen BK109.out 1
     have hfz32_2 := blk_frozen BK109.out 2
     go_wp2_with (first | ((with_reducible refine gate_callee (f := 50) rfl ?_); refine goesL_ (some 43) rfl rfl Try.func50 (by kernel_rfl) rfl #[.int .i64 a0_1, .int .i64 0, .int .i64 ji30] rfl (by (try simp only [List.map_toArray, List.map_cons, List.map_nil]); first | done | (simp only [hji30]; rfl) | rfl | (rw [← hji30]; rfl) | (simp only [List.length_drop, List.length_take]; rfl)) ?_; (with_reducible refine (impl_in.calls a0_1 0 ji30 t117 _ A31.out).mono ?_); rintro e w' ⟨rfl, ⟨nd, rfl⟩⟩; refine ⟨_, rfl, ?_⟩))
     go_ret
     exact ⟨by first | rfl | (simp [errW_none, errW_some] <;> rfl) | (simp only [← hji30]; first | rfl | (simp [errW_none, errW_some] <;> rfl)) | (simp [*, errW_none, errW_some] <;> rfl), by repeat (first | (with_reducible first | exact HB.out | apply below_alloc | apply pw_below_drewN | apply below_drew1 | refine below_set ?_ GE109.out) | exact HB.out)⟩

/-! ### impl_BoxesOk: function 12 -/
def impl_BoxesOk.l0 : Nat → List (S46) → Int → List (S46) → Int → Int → Option (Bool)
 | 0, _, _, _, _, _ => none
 | k + 1, x0, x3, x9, x10, x11 => if x11 < x10 then (if 0 ≤ x11 then (if x11 < (x9.length : Int) then (if x11 ≤ (x0.length : Int) then ((impl_Box_fits.f k ((rd_T46 x9 x11).f0) ((rd_T46 x9 x11).f1) ((rd_T46 x9 x11).f2) (x0.take (x11 : Int).toNat)).bind fun t124 => (if t124 = true then (impl_BoxesOk.l0 k x0 (wrap64 (x3 + (((rd_T46 x9 x11).f2).length : Int))) x9 x10 (wrap64 (x11 + 1))) else (some false))) else (none)) else (none)) else (none)) else (some (decide (x3 ≤ 20000)))
def impl_BoxesOk.f (k : Nat) (l0 : List (S46)) : Option (Bool) := if (l0.length : Int) > 200 then (some false) else (impl_BoxesOk.l0 k l0 0 l0 (l0.length : Int) 0)
theorem impl_BoxesOk.mono_l : ∀ k, (∀ y0 y1 y2 y3 y4, LeO (impl_BoxesOk.l0 k y0 y1 y2 y3 y4) (impl_BoxesOk.l0 (k + 1) y0 y1 y2 y3 y4))
 | 0 => fun _ _ _ _ _ r h => by simp [impl_BoxesOk.l0] at h
 | k + 1 => by
  have ih0 := impl_BoxesOk.mono_l k
  ·intro y0 y1 y2 y3 y4
   unfold impl_BoxesOk.l0
   repeat' first
   | (with_reducible exact ih0 _ _ _ _ _)
   | (with_reducible exact impl_Box_fits.mono _ _ _ _ _)
   | (with_reducible exact LeO.refl _)
   | (with_reducible exact LeO.none _)
   | (with_reducible refine LeO.ite ?_ ?_)
   | (with_reducible refine LeO.bind ?_ (fun _ => ?_))
   | exact ih0 _ _ _ _ _
   | exact impl_Box_fits.mono _ _ _ _ _
   | exact LeO.none _
   | refine LeO.ite ?_ ?_
   | refine LeO.bind ?_ (fun _ => ?_)
theorem impl_BoxesOk.mono : ∀ a0 k, LeO (impl_BoxesOk.f k a0) (impl_BoxesOk.f (k + 1) a0) := by
 intro a0 k
 have ih0 := impl_BoxesOk.mono_l k
 unfold impl_BoxesOk.f
 repeat' first
   | (with_reducible exact ih0 _ _ _ _ _)
   | (with_reducible exact impl_Box_fits.mono _ _ _ _ _)
   | (with_reducible exact LeO.refl _)
   | (with_reducible exact LeO.none _)
   | (with_reducible refine LeO.ite ?_ ?_)
   | (with_reducible refine LeO.bind ?_ (fun _ => ?_))
   | exact ih0 _ _ _ _ _
   | exact impl_Box_fits.mono _ _ _ _ _
   | exact LeO.none _
   | refine LeO.ite ?_ ?_
   | refine LeO.bind ?_ (fun _ => ?_)
set_option maxHeartbeats 8000000 in
set_option maxRecDepth 100000 in
theorem impl_BoxesOk.calls (k : Nat) (A0 : Option Addr) (c0 : Nat) (l0 : List (S46)) (r : Bool) (w : World) (hr0 : Kd.C k46 w A0 l0.length l0) (hc0 : l0.length ≤ c0) (h : impl_BoxesOk.f k l0 = some r) :
  Calls Try.prog 12 #[.slice A0 l0.length c0] w fun e w' => e = .returned (.bool r) ∧ Below w.heap.size w w' := by
 have hu46 := Try.underlying46
 have HR0 := u4e hr0
 have HC0 := u4e hc0
 clear hr0 hc0
 have HB := u4e (Below.refl w.heap.size w)
 have H : (if (l0.length : Int) > 200 then (some false) else (impl_BoxesOk.l0 k l0 0 l0 (l0.length : Int) 0)) = some r := h
 clear h
 by_cases c2 : (l0.length : Int) > 200
 ·rw [if_pos c2] at H
  have c2b0 : decide (200 < (l0.length : Int)) = true := decide_eq_true c2
  have c2b1 : decide (200 < l0.length) = true := decide_eq_true (by omega)
  clear c2
  obtain rfl := Option.some.inj H
  go_enter Try.func12, Try.ntmps12
  go_wp2
  go_ret
  exact ⟨by first | rfl | (simp [errW_none, errW_some] <;> rfl) | (simp [*, errW_none, errW_some] <;> rfl), by repeat (first | (with_reducible first | exact HB.out | apply below_alloc | apply pw_below_drewN | apply below_drew1) | exact HB.out)⟩
 ·rw [if_neg c2] at H
  have c2b0 : decide (200 < (l0.length : Int)) = false := decide_eq_false c2
  have c2b1 : decide (200 < l0.length) = false := decide_eq_false (by omega)
  clear c2
  have H' := u4e H
  clear H
  go_enter Try.func12, Try.ntmps12
  go_wp2
  go_loopg [3, 11] k (fun kq v3 v11 w' => ∃ (x3_1 : Int) (x11_1 : Int), v3 = .int .i64 x3_1 ∧ v11 = .int .i64 x11_1 ∧ Aside0 (impl_BoxesOk.l0 kq l0 x3_1 l0 (l0.length : Int) x11_1 = some r) ∧ Aside0 (kq ≤ k) ∧ Aside0 (Below w.heap.size w w'))
  case atStart => exact ⟨(0), (0), (by first | rfl | (simp; done) | (simp [*]; done)), (by first | rfl | (simp; done) | (simp [*]; done)), H', ⟨Nat.le_refl _⟩, ⟨by repeat (first | (with_reducible first | exact HB.out | apply below_alloc | apply pw_below_drewN | apply below_drew1) | exact HB.out)⟩⟩
  case round =>
   clear H'
   try clear c1
   try clear c2
   try clear c2b0
   try clear c2b1
   obtain ⟨x3_1, x11_1, rfl, rfl, HA, HK1, HB⟩ := hrel
   cases gk with
   | zero => exact absurd HA.out (by simp [impl_BoxesOk.l0])
   | succ k1 =>
    have H := HA.out
    clear HA
    simp only [impl_BoxesOk.l0] at H
    by_cases c3 : x11_1 < (l0.length : Int)
    ·rw [if_pos c3] at H
     have c3b0 : decide (x11_1 < (l0.length : Int)) = true := decide_eq_true c3
     clear c3
     by_cases c4 : 0 ≤ x11_1
     ·rw [if_pos c4] at H
      have c4b0 : decide (0 ≤ x11_1) = true := decide_eq_true c4
      clear c4
      by_cases c5 : x11_1 < (l0.length : Int)
      ·rw [if_pos c5] at H
       have c5b0 : decide (x11_1 < (l0.length : Int)) = true := decide_eq_true c5
       clear c5
       have c6b0 := eq_true (of_decide_eq_true (by assumption) : 0 ≤ x11_1)
       by_cases c7 : x11_1 ≤ (l0.length : Int)
       ·rw [if_pos c7] at H
        have c7b0 := eq_true c7
        have c7b1 : decide (x11_1 ≤ (l0.length : Int)) = true := decide_eq_true c7
        clear c7
        obtain ⟨y120, hy120⟩ : ∃ y_ : List (S46), y_ = (l0.take (x11_1 : Int).toNat) := ⟨_, rfl⟩
        replace H : ((impl_Box_fits.f k1 ((rd_T46 l0 x11_1).f0) ((rd_T46 l0 x11_1).f1) ((rd_T46 l0 x11_1).f2) y120).bind fun t124 => (if t124 = true then (impl_BoxesOk.l0 k1 l0 (wrap64 (x3_1 + (((rd_T46 l0 x11_1).f2).length : Int))) l0 (l0.length : Int) (wrap64 (x11_1 + 1))) else (some false))) = some r := by first | (rw [hy120]; with_reducible exact H) | (have H2_ := (Option.bind_some _ _).symm.trans H; rw [hy120]; with_reducible exact H2_) | (have H2_ := (Option.bind_some _ _).symm.trans H; with_reducible exact H2_) | with_reducible exact H | (rw [hy120]; exact H) | exact H
        have Ny120 := u4e hy120
        clear hy120
        replace H := Option.bind_eq_some_iff.mp H
        obtain ⟨t124, A80, H⟩ := H
        have A8 := u4e A80
        clear A80
        by_cases c9 : t124 = true
        ·subst c9
         have H1 := H; rw [if_pos rfl] at H1
         clear H
         have H := H1
         clear H1
         have H' := u4e H
         clear H
         have p118 : 0 ≤ (x11_1 : Int) := of_decide_eq_true (by assumption)
         have q118 : x11_1 < (l0.length : Int) := of_decide_eq_true (by assumption)
         obtain ⟨ad118, A118_2, c118_2, e118, hx118_0, hx118_1, hx118_2, hl118_2, hi118_2⟩ := at_T46 HR0.out x11_1 p118 q118
         cases e118
         replace hx118_0 := (HB.out.cell (u4d w _ hx118_0)).trans hx118_0
         replace hx118_1 := (HB.out.cell (u4d w _ hx118_1)).trans hx118_1
         replace hx118_2 := (HB.out.cell (u4d w _ hx118_2)).trans hx118_2
         have HR118_2 := u4e hi118_2
         have HC118_2 := u4e hl118_2
         clear hi118_2 hl118_2
         replace p118 := eq_true p118
         replace q118 := eq_true q118
         try go_wp2_with (first | ((with_reducible refine gate_dst (N := 5) rfl ?_); refine box_event ?hg (N := 5) ?hd (cs := #[.string (⟨#[]⟩ : ByteArray), .int .i64 0, .slice none 0 0]) (t := 46) ?hr ?_; (case hd => rfl); (case hg => rfl); (case hr => first | (go_simp; done) | (go_simp; rfl)); intro gb119 hg w10 hbox hb; have n0_ := u4e (below_step (by repeat (first | (with_reducible first | exact HB.out | apply below_alloc | apply pw_below_drewN | apply below_drew1) | exact HB.out)) hb); have n1_ := u4e (hbox); have n2_ := u4e ((by rw [hg]; exact (below_size (by repeat (first | (with_reducible first | exact HB.out | apply below_alloc | apply pw_below_drewN | apply below_drew1) | exact HB.out))) : w.heap.size ≤ gb119)); have n3_ := u4e ((by rw [hg]; exact (below_size (by repeat (first | (with_reducible first | exact HB.out | apply below_alloc | apply pw_below_drewN | apply below_drew1) | exact HB.out))) : w.heap.size ≤ gb119)); clear HB; have HB := n0_; have BK119 := n1_; have GW119 := n2_; have GE119 := n3_; clear n0_ n1_ n2_ n3_; clear hb hbox hg; have hcz11_0 : w10.cell? ⟨gb119, 0, none⟩ = some (.string (⟨#[]⟩ : ByteArray)) := (blk_cell BK119.out 0).trans rfl; have hcz11_1 : w10.cell? ⟨gb119, 1, none⟩ = some (.int .i64 0) := (blk_cell BK119.out 1).trans rfl; have hcz11_2 : w10.cell? ⟨gb119, 2, none⟩ = some (.slice none 0 0) := (blk_cell BK119.out 2).trans rfl; have hfz11_0 := blk_frozen BK119.out 0; have hfz11_1 := blk_frozen BK119.out 1; have hfz11_2 := blk_frozen BK119.out 2))
         have n0_ : Aside0 ((((w10.setCell ⟨gb119, 0, none⟩ (.string ((rd_T46 l0 x11_1).f0))).setCell ⟨gb119, 1, none⟩ (.int .i64 ((rd_T46 l0 x11_1).f1))).setCell ⟨gb119, 2, none⟩ (.slice A118_2 ((rd_T46 l0 x11_1).f2).length c118_2)).heap[gb119]? = some (.cells #[.string ((rd_T46 l0 x11_1).f0), .int .i64 ((rd_T46 l0 x11_1).f1), .slice A118_2 ((rd_T46 l0 x11_1).f2).length c118_2] 46 (0, 0))) := ⟨by (with_reducible repeat (first | refine blk_drewN ?_ _ | refine blk_drew ?_ | refine blk_alloc ?_ _)); refine blk_put (cs := #[.string ((rd_T46 l0 x11_1).f0), .int .i64 ((rd_T46 l0 x11_1).f1), .slice none 0 0]) ?_ 2 _ rfl; (with_reducible repeat (first | refine blk_drewN ?_ _ | refine blk_drew ?_ | refine blk_alloc ?_ _)); refine blk_put (cs := #[.string ((rd_T46 l0 x11_1).f0), .int .i64 0, .slice none 0 0]) ?_ 1 _ rfl; (with_reducible repeat (first | refine blk_drewN ?_ _ | refine blk_drew ?_ | refine blk_alloc ?_ _)); refine blk_put (cs := #[.string (⟨#[]⟩ : ByteArray), .int .i64 0, .slice none 0 0]) ?_ 0 _ rfl; (with_reducible repeat (first | refine blk_drewN ?_ _ | refine blk_drew ?_ | refine blk_alloc ?_ _)); exact BK119.out⟩
         have n1_ : Aside0 (Below w.heap.size w (((w10.setCell ⟨gb119, 0, none⟩ (.string ((rd_T46 l0 x11_1).f0))).setCell ⟨gb119, 1, none⟩ (.int .i64 ((rd_T46 l0 x11_1).f1))).setCell ⟨gb119, 2, none⟩ (.slice A118_2 ((rd_T46 l0 x11_1).f2).length c118_2))) := ⟨by repeat (first | (with_reducible first | exact HB.out | apply below_alloc | apply pw_below_drewN | apply below_drew1 | refine below_set ?_ GE119.out) | exact HB.out)⟩
         (try clear BK119)
         (try clear HB)
         generalize (((w10.setCell ⟨gb119, 0, none⟩ (.string ((rd_T46 l0 x11_1).f0))).setCell ⟨gb119, 1, none⟩ (.int .i64 ((rd_T46 l0 x11_1).f1))).setCell ⟨gb119, 2, none⟩ (.slice A118_2 ((rd_T46 l0 x11_1).f2).length c118_2)) = w12 at n0_ n1_ ⊢
         have BK119 := n0_
         have HB := n1_
         clear n0_ n1_
         have n0_ := u4e (blk_drew BK119.out)
         have n1_ := u4e (below_drew1 HB.out)
         clear BK119
         clear HB
         have BK119 := n0_
         have HB := n1_
         clear n0_ n1_
         have q14 : (x11_1 : Int) ≤ ((l0.length : Int) : Int) := of_decide_eq_true (by assumption)
         obtain ⟨i014, hi014, _, hsz14, _⟩ := info_parts info46
         have hroom14 : l0.length ≤ c0 := HC0.out
         have hC14 : Kd.C k46 _ (some ad118) l0.length l0 := HR0.out
         have hcut14 := cut_to (P := Try.prog) 25 46 .i64 Try.underlying25 hi014 (some ad118) l0.length c0 x11_1 (of_decide_eq_true (by assumption)) q14 hroom14
         have hr14 := Kd.C_take (m := (x11_1 : Int).toNat) hC14 (by omega)
         have hy14 : y120.length = (x11_1 : Int).toNat := (by rw [Ny120.out, List.length_take]; omega)
         rw [← Ny120.out] at hr14
         rw [← hy14] at hcut14
         have HR123 := u4e hr14
         have HC123 := u4e (show y120.length ≤ c0 from by omega)
         clear hr14 hC14 hroom14 hi014 hsz14
         have KY14 := u4e hy14
         clear hy14
         replace q14 := eq_true q14
         refine start_ (n := 6) (S := fun w' => w'.cell? ⟨gb119, 0, none⟩ = some (.string ((rd_T46 l0 x11_1).f0)) ∧ w'.cell? ⟨gb119, 1, none⟩ = some (.int .i64 ((rd_T46 l0 x11_1).f1)) ∧ w'.cell? ⟨gb119, 2, none⟩ = some (.slice A118_2 ((rd_T46 l0 x11_1).f2).length c118_2)) (ds := []) #[false, false, false, false, false, false] (by kernel_rfl) rfl rfl ⟨(blk_cell BK119.out 0).trans rfl, (blk_cell BK119.out 1).trans rfl, (blk_cell BK119.out 2).trans rfl⟩ (fun hHeld => ?_)
         generalize w12.drew = w13 at BK119 HB HR123 hHeld ⊢
         refine pure_ (i := 1) (N := some 17) (v := ?_) (a' := ?_) #[false, true, false, false, false, false] rfl rfl (by kernel_rfl) (fun _ _ _ h => h) (Or.inl ⟨by rfl, ?_⟩) ?_ ?_
         rotate_left
         ·intro w'
          go_simp
          with_reducible rfl
         rotate_left
         ·simp only [Act.put, u4a, u4b, u4c, i64_w, i32_w]
          rfl
         refine pure_ (i := 2) (N := some 18) (v := ?_) (a' := ?_) #[false, true, true, false, false, false] rfl rfl (by kernel_rfl) (fun _ _ _ h => h) (Or.inl ⟨by rfl, ?_⟩) ?_ ?_
         rotate_left
         ·intro w'
          go_simp
          with_reducible rfl
         rotate_left
         ·simp only [Act.put, u4a, u4b, u4c, i64_w, i32_w]
          rfl
         refine pure_ (i := 3) (N := some 19) (v := ?_) (a' := ?_) #[false, true, true, true, false, false] rfl rfl (by kernel_rfl) (fun _ _ _ h => h) (Or.inl ⟨by rfl, ?_⟩) ?_ ?_
         rotate_left
         ·intro w'
          go_simp
          with_reducible rfl
         rotate_left
         ·simp only [Act.put, u4a, u4b, u4c, i64_w, i32_w]
          rfl
         refine take_ (i := 0) (N := some 16) (v := ?_) (a' := ?_) #[true, true, true, true, false, false] rfl rfl (by kernel_rfl) (fun _ _ _ h => h) (Or.inl ⟨by rfl, ?_⟩) hHeld ?_ ?_
         rotate_left
         ·rintro w' ⟨s0, s1, s2⟩
          go_simp
          with_reducible rfl
         rotate_left
         ·simp only [Act.put, u4a, u4b, u4c, i64_w, i32_w]
          rfl
         refine one_ (i := 4) (N := some 20) #[true, true, true, true, true, false] rfl rfl (by kernel_rfl) (by decide) (fun K hK => ?_)
         refine goes_ Try.func37 (by kernel_rfl) rfl #[.agg #[.string ((rd_T46 l0 x11_1).f0), .int .i64 ((rd_T46 l0 x11_1).f1), .slice A118_2 ((rd_T46 l0 x11_1).f2).length c118_2], .slice (some ad118) y120.length c0] (by rfl) rfl rfl (by (try simp only [List.map_toArray, List.map_cons, List.map_nil]); first | done | rfl | (simp only [List.length_drop, List.length_take]; rfl)) ?_
         with_reducible refine (impl_Box_fits.calls k1 ((rd_T46 l0 x11_1).f0) ((rd_T46 l0 x11_1).f1) _ _ ((rd_T46 l0 x11_1).f2) _ _ y120 true _ ?side1 ?side2 ?side3 ?side4 A8.out).mono ?_
         (case side1 => repeat (first | exact (Kd.C_below HR118_2.out HB.out) | (with_reducible refine Kd.C_alloc ?_ _) | (with_reducible refine Kd.C_drewN ?_ _) | (with_reducible refine Kd.C_drew ?_)))
         (case side2 => exact HC118_2.out)
         (case side3 => repeat (first | exact (Kd.C_below HR123.out HB.out) | (with_reducible refine Kd.C_alloc ?_ _) | (with_reducible refine Kd.C_drewN ?_ _) | (with_reducible refine Kd.C_drew ?_)))
         (case side4 => exact HC123.out)
         rintro e w15 ⟨rfl, hb⟩
         refine ⟨_, rfl, ?_⟩
         have n0_ := u4e (blk_below (g := gb119) (o := .cells #[.string ((rd_T46 l0 x11_1).f0), .int .i64 ((rd_T46 l0 x11_1).f1), .slice A118_2 ((rd_T46 l0 x11_1).f2).length c118_2] 46 (0, 0)) (by (with_reducible repeat (first | refine blk_drewN ?_ _ | refine blk_drew ?_ | refine blk_alloc ?_ _)); exact BK119.out) hb)
         have n1_ := u4e (below_step (by repeat (first | (with_reducible first | exact HB.out | apply below_alloc | apply pw_below_drewN | apply below_drew1 | refine below_set ?_ GE119.out) | exact HB.out)) hb)
         clear BK119
         clear HB
         have BK119 := n0_
         have HB := n1_
         clear n0_ n1_
         (try clear hb)
         (try clear hb2)
         (try clear hk)
         (try clear hi)
         refine hK.out _ _ ⟨(blk_cell BK119.out 0).trans rfl, (blk_cell BK119.out 1).trans rfl, (blk_cell BK119.out 2).trans rfl⟩ (fun hHeld => ?_)
         clear hK K
         refine norm_ (a' := ?_) ?_ ?_
         rotate_left
         ·show Act.put _ (some 20) _ = _
          simp only [Act.put, u4a, u4b, u4c, i64_w, i32_w]
          rfl
         refine pure_ (i := 5) (N := some 21) (v := ?_) (a' := ?_) #[true, true, true, true, true, true] rfl rfl (by kernel_rfl) (fun _ _ _ h => h) (Or.inl ⟨by rfl, ?_⟩) ?_ ?_
         rotate_left
         ·intro w'
          go_simp
          with_reducible rfl
         rotate_left
         ·simp only [Act.put, u4a, u4b, u4c, i64_w, i32_w]
          rfl
         refine done_ (by kernel_rfl) ?_
         have hcz16_0 : w15.cell? ⟨gb119, 0, none⟩ = some (.string ((rd_T46 l0 x11_1).f0)) := (blk_cell BK119.out 0).trans rfl
         have hcz16_1 : w15.cell? ⟨gb119, 1, none⟩ = some (.int .i64 ((rd_T46 l0 x11_1).f1)) := (blk_cell BK119.out 1).trans rfl
         have hcz16_2 : w15.cell? ⟨gb119, 2, none⟩ = some (.slice A118_2 ((rd_T46 l0 x11_1).f2).length c118_2) := (blk_cell BK119.out 2).trans rfl
         have hfz16_0 := blk_frozen BK119.out 0
         have hfz16_1 := blk_frozen BK119.out 1
         have hfz16_2 := blk_frozen BK119.out 2
         try go_wp2
         go_roundg k1
         case measure => have := HK1.out; omega
         case rel => exact ⟨(wrap64 (x3_1 + (((rd_T46 l0 x11_1).f2).length : Int))), (wrap64 (x11_1 + 1)), (by first | rfl | (simp; done) | (simp [*]; done)), (by first | rfl | (simp; done) | (simp [*]; done)), H', ⟨by have := HK1.out; omega⟩, ⟨by repeat (first | (with_reducible first | exact HB.out | apply below_alloc | apply pw_below_drewN | apply below_drew1 | refine below_set ?_ GE119.out) | exact HB.out)⟩⟩
        ·replace c9 := Bool.eq_false_iff.mpr c9
         subst c9
         have H1 := H; rw [if_neg (show ¬ (false = true) by decide)] at H1
         clear H
         have H := H1
         clear H1
         obtain rfl := Option.some.inj H
         have p118 : 0 ≤ (x11_1 : Int) := of_decide_eq_true (by assumption)
         have q118 : x11_1 < (l0.length : Int) := of_decide_eq_true (by assumption)
         obtain ⟨ad118, A118_2, c118_2, e118, hx118_0, hx118_1, hx118_2, hl118_2, hi118_2⟩ := at_T46 HR0.out x11_1 p118 q118
         cases e118
         replace hx118_0 := (HB.out.cell (u4d w _ hx118_0)).trans hx118_0
         replace hx118_1 := (HB.out.cell (u4d w _ hx118_1)).trans hx118_1
         replace hx118_2 := (HB.out.cell (u4d w _ hx118_2)).trans hx118_2
         have HR118_2 := u4e hi118_2
         have HC118_2 := u4e hl118_2
         clear hi118_2 hl118_2
         replace p118 := eq_true p118
         replace q118 := eq_true q118
         try go_wp2_with (first | ((with_reducible refine gate_dst (N := 5) rfl ?_); refine box_event ?hg (N := 5) ?hd (cs := #[.string (⟨#[]⟩ : ByteArray), .int .i64 0, .slice none 0 0]) (t := 46) ?hr ?_; (case hd => rfl); (case hg => rfl); (case hr => first | (go_simp; done) | (go_simp; rfl)); intro gb119 hg w17 hbox hb; have n0_ := u4e (below_step (by repeat (first | (with_reducible first | exact HB.out | apply below_alloc | apply pw_below_drewN | apply below_drew1) | exact HB.out)) hb); have n1_ := u4e (hbox); have n2_ := u4e ((by rw [hg]; exact (below_size (by repeat (first | (with_reducible first | exact HB.out | apply below_alloc | apply pw_below_drewN | apply below_drew1) | exact HB.out))) : w.heap.size ≤ gb119)); have n3_ := u4e ((by rw [hg]; exact (below_size (by repeat (first | (with_reducible first | exact HB.out | apply below_alloc | apply pw_below_drewN | apply below_drew1) | exact HB.out))) : w.heap.size ≤ gb119)); clear HB; have HB := n0_; have BK119 := n1_; have GW119 := n2_; have GE119 := n3_; clear n0_ n1_ n2_ n3_; clear hb hbox hg; have hcz18_0 : w17.cell? ⟨gb119, 0, none⟩ = some (.string (⟨#[]⟩ : ByteArray)) := (blk_cell BK119.out 0).trans rfl; have hcz18_1 : w17.cell? ⟨gb119, 1, none⟩ = some (.int .i64 0) := (blk_cell BK119.out 1).trans rfl; have hcz18_2 : w17.cell? ⟨gb119, 2, none⟩ = some (.slice none 0 0) := (blk_cell BK119.out 2).trans rfl; have hfz18_0 := blk_frozen BK119.out 0; have hfz18_1 := blk_frozen BK119.out 1; have hfz18_2 := blk_frozen BK119.out 2))
         have n0_ : Aside0 ((((w17.setCell ⟨gb119, 0, none⟩ (.string ((rd_T46 l0 x11_1).f0))).setCell ⟨gb119, 1, none⟩ (.int .i64 ((rd_T46 l0 x11_1).f1))).setCell ⟨gb119, 2, none⟩ (.slice A118_2 ((rd_T46 l0 x11_1).f2).length c118_2)).heap[gb119]? = some (.cells #[.string ((rd_T46 l0 x11_1).f0), .int .i64 ((rd_T46 l0 x11_1).f1), .slice A118_2 ((rd_T46 l0 x11_1).f2).length c118_2] 46 (0, 0))) := ⟨by (with_reducible repeat (first | refine blk_drewN ?_ _ | refine blk_drew ?_ | refine blk_alloc ?_ _)); refine blk_put (cs := #[.string ((rd_T46 l0 x11_1).f0), .int .i64 ((rd_T46 l0 x11_1).f1), .slice none 0 0]) ?_ 2 _ rfl; (with_reducible repeat (first | refine blk_drewN ?_ _ | refine blk_drew ?_ | refine blk_alloc ?_ _)); refine blk_put (cs := #[.string ((rd_T46 l0 x11_1).f0), .int .i64 0, .slice none 0 0]) ?_ 1 _ rfl; (with_reducible repeat (first | refine blk_drewN ?_ _ | refine blk_drew ?_ | refine blk_alloc ?_ _)); refine blk_put (cs := #[.string (⟨#[]⟩ : ByteArray), .int .i64 0, .slice none 0 0]) ?_ 0 _ rfl; (with_reducible repeat (first | refine blk_drewN ?_ _ | refine blk_drew ?_ | refine blk_alloc ?_ _)); exact BK119.out⟩
         have n1_ : Aside0 (Below w.heap.size w (((w17.setCell ⟨gb119, 0, none⟩ (.string ((rd_T46 l0 x11_1).f0))).setCell ⟨gb119, 1, none⟩ (.int .i64 ((rd_T46 l0 x11_1).f1))).setCell ⟨gb119, 2, none⟩ (.slice A118_2 ((rd_T46 l0 x11_1).f2).length c118_2))) := ⟨by repeat (first | (with_reducible first | exact HB.out | apply below_alloc | apply pw_below_drewN | apply below_drew1 | refine below_set ?_ GE119.out) | exact HB.out)⟩
         (try clear BK119)
         (try clear HB)
         generalize (((w17.setCell ⟨gb119, 0, none⟩ (.string ((rd_T46 l0 x11_1).f0))).setCell ⟨gb119, 1, none⟩ (.int .i64 ((rd_T46 l0 x11_1).f1))).setCell ⟨gb119, 2, none⟩ (.slice A118_2 ((rd_T46 l0 x11_1).f2).length c118_2)) = w19 at n0_ n1_ ⊢
         have BK119 := n0_
         have HB := n1_
         clear n0_ n1_
         have n0_ := u4e (blk_drew BK119.out)
         have n1_ := u4e (below_drew1 HB.out)
         clear BK119
         clear HB
         have BK119 := n0_
         have HB := n1_
         clear n0_ n1_
         have q21 : (x11_1 : Int) ≤ ((l0.length : Int) : Int) := of_decide_eq_true (by assumption)
         obtain ⟨i021, hi021, _, hsz21, _⟩ := info_parts info46
         have hroom21 : l0.length ≤ c0 := HC0.out
         have hC21 : Kd.C k46 _ (some ad118) l0.length l0 := HR0.out
         have hcut21 := cut_to (P := Try.prog) 25 46 .i64 Try.underlying25 hi021 (some ad118) l0.length c0 x11_1 (of_decide_eq_true (by assumption)) q21 hroom21
         have hr21 := Kd.C_take (m := (x11_1 : Int).toNat) hC21 (by omega)
         have hy21 : y120.length = (x11_1 : Int).toNat := (by rw [Ny120.out, List.length_take]; omega)
         rw [← Ny120.out] at hr21
         rw [← hy21] at hcut21
         have HR123 := u4e hr21
         have HC123 := u4e (show y120.length ≤ c0 from by omega)
         clear hr21 hC21 hroom21 hi021 hsz21
         have KY21 := u4e hy21
         clear hy21
         replace q21 := eq_true q21
         refine start_ (n := 6) (S := fun w' => w'.cell? ⟨gb119, 0, none⟩ = some (.string ((rd_T46 l0 x11_1).f0)) ∧ w'.cell? ⟨gb119, 1, none⟩ = some (.int .i64 ((rd_T46 l0 x11_1).f1)) ∧ w'.cell? ⟨gb119, 2, none⟩ = some (.slice A118_2 ((rd_T46 l0 x11_1).f2).length c118_2)) (ds := []) #[false, false, false, false, false, false] (by kernel_rfl) rfl rfl ⟨(blk_cell BK119.out 0).trans rfl, (blk_cell BK119.out 1).trans rfl, (blk_cell BK119.out 2).trans rfl⟩ (fun hHeld => ?_)
         generalize w19.drew = w20 at BK119 HB HR123 hHeld ⊢
         refine pure_ (i := 1) (N := some 17) (v := ?_) (a' := ?_) #[false, true, false, false, false, false] rfl rfl (by kernel_rfl) (fun _ _ _ h => h) (Or.inl ⟨by rfl, ?_⟩) ?_ ?_
         rotate_left
         ·intro w'
          go_simp
          with_reducible rfl
         rotate_left
         ·simp only [Act.put, u4a, u4b, u4c, i64_w, i32_w]
          rfl
         refine pure_ (i := 2) (N := some 18) (v := ?_) (a' := ?_) #[false, true, true, false, false, false] rfl rfl (by kernel_rfl) (fun _ _ _ h => h) (Or.inl ⟨by rfl, ?_⟩) ?_ ?_
         rotate_left
         ·intro w'
          go_simp
          with_reducible rfl
         rotate_left
         ·simp only [Act.put, u4a, u4b, u4c, i64_w, i32_w]
          rfl
         refine pure_ (i := 3) (N := some 19) (v := ?_) (a' := ?_) #[false, true, true, true, false, false] rfl rfl (by kernel_rfl) (fun _ _ _ h => h) (Or.inl ⟨by rfl, ?_⟩) ?_ ?_
         rotate_left
         ·intro w'
          go_simp
          with_reducible rfl
         rotate_left
         ·simp only [Act.put, u4a, u4b, u4c, i64_w, i32_w]
          rfl
         refine take_ (i := 0) (N := some 16) (v := ?_) (a' := ?_) #[true, true, true, true, false, false] rfl rfl (by kernel_rfl) (fun _ _ _ h => h) (Or.inl ⟨by rfl, ?_⟩) hHeld ?_ ?_
         rotate_left
         ·rintro w' ⟨s0, s1, s2⟩
          go_simp
          with_reducible rfl
         rotate_left
         ·simp only [Act.put, u4a, u4b, u4c, i64_w, i32_w]
          rfl
         refine one_ (i := 4) (N := some 20) #[true, true, true, true, true, false] rfl rfl (by kernel_rfl) (by decide) (fun K hK => ?_)
         refine goes_ Try.func37 (by kernel_rfl) rfl #[.agg #[.string ((rd_T46 l0 x11_1).f0), .int .i64 ((rd_T46 l0 x11_1).f1), .slice A118_2 ((rd_T46 l0 x11_1).f2).length c118_2], .slice (some ad118) y120.length c0] (by rfl) rfl rfl (by (try simp only [List.map_toArray, List.map_cons, List.map_nil]); first | done | rfl | (simp only [List.length_drop, List.length_take]; rfl)) ?_
         with_reducible refine (impl_Box_fits.calls k1 ((rd_T46 l0 x11_1).f0) ((rd_T46 l0 x11_1).f1) _ _ ((rd_T46 l0 x11_1).f2) _ _ y120 false _ ?side1 ?side2 ?side3 ?side4 A8.out).mono ?_
         (case side1 => repeat (first | exact (Kd.C_below HR118_2.out HB.out) | (with_reducible refine Kd.C_alloc ?_ _) | (with_reducible refine Kd.C_drewN ?_ _) | (with_reducible refine Kd.C_drew ?_)))
         (case side2 => exact HC118_2.out)
         (case side3 => repeat (first | exact (Kd.C_below HR123.out HB.out) | (with_reducible refine Kd.C_alloc ?_ _) | (with_reducible refine Kd.C_drewN ?_ _) | (with_reducible refine Kd.C_drew ?_)))
         (case side4 => exact HC123.out)
         rintro e w22 ⟨rfl, hb⟩
         refine ⟨_, rfl, ?_⟩
         have n0_ := u4e (blk_below (g := gb119) (o := .cells #[.string ((rd_T46 l0 x11_1).f0), .int .i64 ((rd_T46 l0 x11_1).f1), .slice A118_2 ((rd_T46 l0 x11_1).f2).length c118_2] 46 (0, 0)) (by (with_reducible repeat (first | refine blk_drewN ?_ _ | refine blk_drew ?_ | refine blk_alloc ?_ _)); exact BK119.out) hb)
         have n1_ := u4e (below_step (by repeat (first | (with_reducible first | exact HB.out | apply below_alloc | apply pw_below_drewN | apply below_drew1 | refine below_set ?_ GE119.out) | exact HB.out)) hb)
         clear BK119
         clear HB
         have BK119 := n0_
         have HB := n1_
         clear n0_ n1_
         (try clear hb)
         (try clear hb2)
         (try clear hk)
         (try clear hi)
         refine hK.out _ _ ⟨(blk_cell BK119.out 0).trans rfl, (blk_cell BK119.out 1).trans rfl, (blk_cell BK119.out 2).trans rfl⟩ (fun hHeld => ?_)
         clear hK K
         refine norm_ (a' := ?_) ?_ ?_
         rotate_left
         ·show Act.put _ (some 20) _ = _
          simp only [Act.put, u4a, u4b, u4c, i64_w, i32_w]
          rfl
         refine pure_ (i := 5) (N := some 21) (v := ?_) (a' := ?_) #[true, true, true, true, true, true] rfl rfl (by kernel_rfl) (fun _ _ _ h => h) (Or.inl ⟨by rfl, ?_⟩) ?_ ?_
         rotate_left
         ·intro w'
          go_simp
          with_reducible rfl
         rotate_left
         ·simp only [Act.put, u4a, u4b, u4c, i64_w, i32_w]
          rfl
         refine done_ (by kernel_rfl) ?_
         try go_wp2
         go_ret
         exact ⟨by first | rfl | (simp [errW_none, errW_some] <;> rfl) | (simp [*, errW_none, errW_some] <;> rfl), by repeat (first | (with_reducible first | exact HB.out | apply below_alloc | apply pw_below_drewN | apply below_drew1 | refine below_set ?_ GE119.out) | exact HB.out)⟩
       ·rw [if_neg c7] at H
        exact absurd H (by simp)
      ·rw [if_neg c5] at H
       exact absurd H (by simp)
     ·rw [if_neg c4] at H
      exact absurd H (by simp)
    ·rw [if_neg c3] at H
     have c3b0 : decide (x11_1 < (l0.length : Int)) = false := decide_eq_false c3
     clear c3
     obtain rfl := Option.some.inj H
     go_wp2
     go_ret
     exact ⟨by first | rfl | (simp [errW_none, errW_some] <;> rfl) | (simp [*, errW_none, errW_some] <;> rfl), by repeat (first | (with_reducible first | exact HB.out | apply below_alloc | apply pw_below_drewN | apply below_drew1) | exact HB.out)⟩

end Go.Proofs.Ytpennfkjfeipcaa.PFnBoxesOne
