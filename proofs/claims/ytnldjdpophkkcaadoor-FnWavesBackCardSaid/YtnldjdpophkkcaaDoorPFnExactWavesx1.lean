/- FnExactWaves, FnExactBack, FnWavesBack: walks, floats told up to NaN. Written by wip/barred/gen_base.py. -/
import Derived.Test.YtnldjdpophkkcaaDoorFl
import Derived.Test.YtnldjdpophkkcaaDoorWWords
import Derived.Test.YtnldjdpophkkcaaDoorWLast
import Derived.Test.YtnldjdpophkkcaaDoorWMore
import Derived.Outline
import Derived.LoopN
import Derived.RegionTactic
import Derived.BigRegion
namespace Go.Proofs.YtnldjdpophkkcaaDoor.PFnExactWaves
open Go.RowKit Go.Proofs.YtnldjdpophkkcaaDoorW.PrintWords Go.Proofs.YtnldjdpophkkcaaDoorW.PrintLast Go.Proofs.YtnldjdpophkkcaaDoorW.PrintMore Go.Proofs.YtnldjdpophkkcaaDoor.Fl
attribute [local go_sem] run_store_float
set_option linter.unusedVariables false
set_option linter.unusedSimpArgs false
attribute [local go_sem] max2_int min2_int max_two min_two max_three min_three max_four min_four
set_option maxHeartbeats 8000000 in
set_option maxRecDepth 100000 in
theorem spec_l3Product.calls (a b c d A B C D : Nat) (ha : Aside0 (Same a A)) (hb : Aside0 (Same b B)) (hc : Aside0 (Same c C)) (hd : Aside0 (Same d D)) (w : World) :
    Calls Tryd.prog 23 #[.agg #[.float .f64 a, .float .f64 b], .agg #[.float .f64 c, .float .f64 d]] w fun e w' => ∃ r1 r2, e = .returned (.agg #[.float .f64 r1, .float .f64 r2]) ∧ Same r1 (fo .sub (fo .mul A C) (fo .mul B D)) ∧ Same r2 (fo .add (fo .mul A D) (fo .mul B C)) ∧ Below w.heap.size w w' := by
  have hu28 := Tryd.underlying28
  have hu26 := Tryd.underlying26
  have HB := Aside0.mk (Below.refl w.heap.size w)
  go_enter Tryd.func23, Tryd.ntmps23
  go_wp2_with (first | ((with_reducible refine gate_ (.binOp .mul 26 (.tmp 10) (.tmp 12) 26) rfl ?_); refine step_op rfl .mul 26 _ _ 26 rfl rfl ha.out hc.out rfl rfl ?_; intro r1 n1 hs1; have hr1 := Aside0.mk hs1; clear hs1) | ((with_reducible refine gate_ (.binOp .mul 26 (.tmp 15) (.tmp 17) 26) rfl ?_); refine step_op rfl .mul 26 _ _ 26 rfl rfl hb.out hd.out rfl rfl ?_; intro r2 n2 hs2; have hr2 := Aside0.mk hs2; clear hs2) | ((with_reducible refine gate_ (.binOp .mul 26 (.tmp 20) (.tmp 22) 26) rfl ?_); refine step_op rfl .mul 26 _ _ 26 rfl rfl ha.out hd.out rfl rfl ?_; intro r3 n3 hs3; have hr3 := Aside0.mk hs3; clear hs3) | ((with_reducible refine gate_ (.binOp .mul 26 (.tmp 25) (.tmp 27) 26) rfl ?_); refine step_op rfl .mul 26 _ _ 26 rfl rfl hb.out hc.out rfl rfl ?_; intro r4 n4 hs4; have hr4 := Aside0.mk hs4; clear hs4) | ((with_reducible refine gate_ (.binOp .sub 26 (.tmp 29) (.tmp 30) 26) rfl ?_); refine step_op rfl .sub 26 _ _ 26 rfl rfl hr1.out hr2.out rfl rfl ?_; intro r5 n5 hs5; have hr5 := Aside0.mk hs5; clear hs5) | ((with_reducible refine gate_ (.binOp .add 26 (.tmp 32) (.tmp 33) 26) rfl ?_); refine step_op rfl .add 26 _ _ 26 rfl rfl hr3.out hr4.out rfl rfl ?_; intro r6 n6 hs6; have hr6 := Aside0.mk hs6; clear hs6))
  refine bodyPost_ret (results_cell_row rfl _ _ (w.heap.size + 1 + 1) 28 #[.float .f64 r5, .float .f64 r6] (0, 0) _ rfl (by
    refine blk_put (cs := #[.float .f64 r5, .float .f64 0]) ?_ 1 _ rfl
    refine blk_put (cs := #[.float .f64 0, .float .f64 0]) ?_ 0 _ rfl
    refine blk_drewN ?_ _
    simpa using blk_new ((w.alloc (.cells #[.float .f64 a, .float .f64 b] 28)).alloc (.cells #[.float .f64 c, .float .f64 d] 28)) (.cells #[.float .f64 0, .float .f64 0] 28)) Tryd.underlying28 rfl (by kernel_rfl)) rfl ?_
  exact ⟨_, _, rfl, hr5.out, hr6.out, below_set (below_set (pw_below_drewN (below_alloc (below_alloc (below_alloc HB.out _) _) _) _) (by omega)) (by omega)⟩

set_option maxHeartbeats 8000000 in
set_option maxRecDepth 100000 in
theorem impl_Product.calls (a b c d A B C D : Nat) (ha : Aside0 (Same a A)) (hb : Aside0 (Same b B)) (hc : Aside0 (Same c C)) (hd : Aside0 (Same d D)) (w : World) :
    Calls Tryd.prog 22 #[.agg #[.float .f64 a, .float .f64 b], .agg #[.float .f64 c, .float .f64 d]] w fun e w' => ∃ r1 r2, e = .returned (.agg #[.float .f64 r1, .float .f64 r2]) ∧ Same r1 (fo .sub (fo .mul A C) (fo .mul B D)) ∧ Same r2 (fo .add (fo .mul A D) (fo .mul B C)) ∧ Below w.heap.size w w' := by
  have hu28 := Tryd.underlying28
  have hu26 := Tryd.underlying26
  have HB := Aside0.mk (Below.refl w.heap.size w)
  go_enter Tryd.func22, Tryd.ntmps22
  go_wp2_with (first | ((with_reducible refine gate_ (.binOp .mul 26 (.tmp 6) (.tmp 8) 26) rfl ?_); refine step_op rfl .mul 26 _ _ 26 rfl rfl ha.out hc.out rfl rfl ?_; intro r1 n1 hs1; have hr1 := Aside0.mk hs1; clear hs1) | ((with_reducible refine gate_ (.binOp .mul 26 (.tmp 11) (.tmp 13) 26) rfl ?_); refine step_op rfl .mul 26 _ _ 26 rfl rfl hb.out hd.out rfl rfl ?_; intro r2 n2 hs2; have hr2 := Aside0.mk hs2; clear hs2) | ((with_reducible refine gate_ (.binOp .sub 26 (.tmp 9) (.tmp 14) 26) rfl ?_); refine step_op rfl .sub 26 _ _ 26 rfl rfl hr1.out hr2.out rfl rfl ?_; intro r5 n5 hs5; have hr5 := Aside0.mk hs5; clear hs5) | ((with_reducible refine gate_ (.binOp .mul 26 (.tmp 17) (.tmp 19) 26) rfl ?_); refine step_op rfl .mul 26 _ _ 26 rfl rfl ha.out hd.out rfl rfl ?_; intro r3 n3 hs3; have hr3 := Aside0.mk hs3; clear hs3) | ((with_reducible refine gate_ (.binOp .mul 26 (.tmp 22) (.tmp 24) 26) rfl ?_); refine step_op rfl .mul 26 _ _ 26 rfl rfl hb.out hc.out rfl rfl ?_; intro r4 n4 hs4; have hr4 := Aside0.mk hs4; clear hs4) | ((with_reducible refine gate_ (.binOp .add 26 (.tmp 20) (.tmp 25) 26) rfl ?_); refine step_op rfl .add 26 _ _ 26 rfl rfl hr3.out hr4.out rfl rfl ?_; intro r6 n6 hs6; have hr6 := Aside0.mk hs6; clear hs6))
  refine bodyPost_ret (results_cell_row rfl _ _ (w.heap.size + 1 + 1) 28 #[.float .f64 r5, .float .f64 r6] (0, 0) _ rfl (by
    refine blk_put (cs := #[.float .f64 r5, .float .f64 0]) ?_ 1 _ rfl
    refine blk_put (cs := #[.float .f64 0, .float .f64 0]) ?_ 0 _ rfl
    refine blk_drewN ?_ _
    simpa using blk_new ((w.alloc (.cells #[.float .f64 a, .float .f64 b] 28)).alloc (.cells #[.float .f64 c, .float .f64 d] 28)) (.cells #[.float .f64 0, .float .f64 0] 28)) Tryd.underlying28 rfl (by kernel_rfl)) rfl ?_
  exact ⟨_, _, rfl, hr5.out, hr6.out, below_set (below_set (pw_below_drewN (below_alloc (below_alloc (below_alloc HB.out _) _) _) _) (by omega)) (by omega)⟩

set_option maxHeartbeats 8000000 in
set_option maxRecDepth 100000 in
theorem laws_toCx.calls (a b : Nat) (w : World) : Calls Tryd.prog 19 #[.agg #[.float .f64 a, .float .f64 b]] w fun e w' => e = .returned (.agg #[.float .f64 a, .float .f64 b]) ∧ Below w.heap.size w w' := by
  have hu38 := Tryd.underlying38
  have hu28 := Tryd.underlying28
  have hu26 := Tryd.underlying26
  have HB := Aside0.mk (Below.refl w.heap.size w)
  go_enter Tryd.func19, Tryd.ntmps19
  go_wp2
  refine bodyPost_ret (results_cell_row rfl _ _ (w.heap.size + 1) 28 #[.float .f64 a, .float .f64 b] (0, 0) _ rfl (by
    refine blk_alloc ?_ _
    simpa using blk_new (w.alloc (.cells #[.float .f64 a, .float .f64 b] 38)) (.cells #[.float .f64 a, .float .f64 b] 28)) Tryd.underlying28 rfl (by kernel_rfl)) rfl ?_
  exact ⟨rfl, below_alloc (below_alloc (below_alloc HB.out _) _) _⟩

theorem quo_one {x : Nat} (h : ¬ NaN x) : ∃ r, floatBits .quo .f64 4607182418800017408 x = some r := by
  have h1 : Ieee.double.read 4607182418800017408 = .number false 4503599627370496 (-52) := by decide +kernel
  unfold NaN at h
  unfold floatBits
  cases hd : Ieee.double.read x <;> rw [hd] at h <;> simp [Ieee.Datum.isNaN] at h
  all_goals simp [FloatKind.format, Ieee.Format.div, h1, hd, Ieee.Datum.quotient]
  all_goals (try split) <;> simp
set_option maxHeartbeats 8000000 in
set_option maxRecDepth 100000 in
theorem laws_sameFloat.calls (x y : Nat) (hs : Aside0 (Same x y)) (w : World) : Calls Tryd.prog 25 #[.float .f64 x, .float .f64 y] w fun e w' => e = .returned (.bool true) ∧ w' = w := by
  have hu26 := Tryd.underlying26
  by_cases hn : NaN x
  · have hm : NaN y := by
      rcases hs.out with rfl | ⟨_, h⟩
      · exact hn
      · exact h
    have hx : FloatKind.f64.format.order x x = none := order_nan_left hn
    have hy : FloatKind.f64.format.order y y = none := order_nan_left hm
    clear hn hm
    go_enter Tryd.func25, Tryd.ntmps25
    go_wp2
    all_goals (go_ret; exact ⟨by simp, rfl⟩)
  · obtain rfl : x = y := by
      rcases hs.out with h | ⟨h, _⟩
      · exact h
      · exact absurd h hn
    have hx : FloatKind.f64.format.order x x = some .eq := order_self hn
    obtain ⟨r, hr⟩ := quo_one hn
    have hop : ∀ t w, (binOp .quo t (.float .f64 4607182418800017408) (.float .f64 x)).run Tryd.prog w = .ok (.float .f64 r) w := fun t w => run_float_arith w .quo t .f64 _ x r hr
    clear hn hr hs
    by_cases hz : FloatKind.f64.format.order x 0 = some .eq
    · go_enter Tryd.func25, Tryd.ntmps25
      go_wp2_with (simp only [hop])
      all_goals (go_ret; exact ⟨by simp, rfl⟩)
    · have hz' : (FloatKind.f64.format.order x 0 == some .eq) = false := by simpa using hz
      go_enter Tryd.func25, Tryd.ntmps25
      go_wp2_with (simp only [hop])
      all_goals (go_ret; exact ⟨by simp [hx], rfl⟩)

set_option maxHeartbeats 8000000 in
set_option maxRecDepth 100000 in
theorem laws_eqCx.calls (a b c d : Nat) (h1 : Aside0 (Same a c)) (h2 : Aside0 (Same b d)) (w : World) : Calls Tryd.prog 20 #[.agg #[.float .f64 a, .float .f64 b], .agg #[.float .f64 c, .float .f64 d]] w fun e w' => e = .returned (.bool true) ∧ Below w.heap.size w w' := by
  have hu28 := Tryd.underlying28
  have hu26 := Tryd.underlying26
  have HB := Aside0.mk (Below.refl w.heap.size w)
  go_enter Tryd.func20, Tryd.ntmps20
  go_wp2_with (first | ((with_reducible refine gate_dst (N := 9) rfl ?_); refine goesL_ (some 9) rfl rfl Tryd.func25 (by kernel_rfl) rfl #[.float .f64 a, .float .f64 c] rfl (by (try simp only [List.map_toArray, List.map_cons, List.map_nil]); first | done | rfl) ?_; (with_reducible refine (laws_sameFloat.calls a c h1 _).mono ?_); rintro e W1 ⟨rfl, rfl⟩; refine ⟨_, rfl, ?_⟩) | ((with_reducible refine gate_dst (N := 15) rfl ?_); refine goesL_ (some 15) rfl rfl Tryd.func25 (by kernel_rfl) rfl #[.float .f64 b, .float .f64 d] rfl (by (try simp only [List.map_toArray, List.map_cons, List.map_nil]); first | done | rfl) ?_; (with_reducible refine (laws_sameFloat.calls b d h2 _).mono ?_); rintro e W1 ⟨rfl, rfl⟩; refine ⟨_, rfl, ?_⟩))
  all_goals (go_ret; exact ⟨rfl, below_alloc (below_alloc HB.out _) _⟩)
end Go.Proofs.YtnldjdpophkkcaaDoor.PFnExactWaves
