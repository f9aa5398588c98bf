/- FnExactProduct: the walks, floats told up to NaN. Written by wip/wave/gen_product.py. -/
import Derived.Test.YtihmoiheiglohaaPFnExactProductx0
import Derived.Test.YtihmoiheiglohaaFl
namespace Go.Proofs.Ytihmoiheiglohaa.PFnExactProduct
open Go.RowKit Go.Proofs.YtihmoiheiglohaaW.PrintWords Go.Proofs.YtihmoiheiglohaaW.PrintLast Go.Proofs.YtihmoiheiglohaaW.PrintMore Go.Proofs.Ytihmoiheiglohaa.Fl
attribute [local go_sem] run_store_float
set_option linter.unusedVariables false
set_option linter.unusedSimpArgs false
set_option maxHeartbeats 8000000 in
set_option maxRecDepth 100000 in
theorem spec_l3Product.calls (a b c d A B C D : Nat) (ha : Aside0 (Same a A)) (hb : Aside0 (Same b B)) (hc : Aside0 (Same c C)) (hd : Aside0 (Same d D)) (w : World) :
    Calls Try.prog 35 #[.agg #[.float .f64 a, .float .f64 b], .agg #[.float .f64 c, .float .f64 d]] w fun e w' => ∃ r1 r2, e = .returned (.agg #[.float .f64 r1, .float .f64 r2]) ∧ Same r1 (fo .sub (fo .mul A C) (fo .mul B D)) ∧ Same r2 (fo .add (fo .mul A D) (fo .mul B C)) ∧ Below w.heap.size w w' := by
  have hu25 := Try.underlying25
  have hu22 := Try.underlying22
  have HB := Aside0.mk (Below.refl w.heap.size w)
  go_enter Try.func35, Try.ntmps35
  go_wp2_with (first | ((with_reducible refine gate_ (.binOp .mul 22 (.tmp 10) (.tmp 12) 22) rfl ?_); refine step_op rfl .mul 22 _ _ 22 rfl rfl ha.out hc.out rfl rfl ?_; intro r1 n1 hs1; have hr1 := Aside0.mk hs1; clear hs1) | ((with_reducible refine gate_ (.binOp .mul 22 (.tmp 15) (.tmp 17) 22) rfl ?_); refine step_op rfl .mul 22 _ _ 22 rfl rfl hb.out hd.out rfl rfl ?_; intro r2 n2 hs2; have hr2 := Aside0.mk hs2; clear hs2) | ((with_reducible refine gate_ (.binOp .mul 22 (.tmp 20) (.tmp 22) 22) rfl ?_); refine step_op rfl .mul 22 _ _ 22 rfl rfl ha.out hd.out rfl rfl ?_; intro r3 n3 hs3; have hr3 := Aside0.mk hs3; clear hs3) | ((with_reducible refine gate_ (.binOp .mul 22 (.tmp 25) (.tmp 27) 22) rfl ?_); refine step_op rfl .mul 22 _ _ 22 rfl rfl hb.out hc.out rfl rfl ?_; intro r4 n4 hs4; have hr4 := Aside0.mk hs4; clear hs4) | ((with_reducible refine gate_ (.binOp .sub 22 (.tmp 29) (.tmp 30) 22) rfl ?_); refine step_op rfl .sub 22 _ _ 22 rfl rfl hr1.out hr2.out rfl rfl ?_; intro r5 n5 hs5; have hr5 := Aside0.mk hs5; clear hs5) | ((with_reducible refine gate_ (.binOp .add 22 (.tmp 32) (.tmp 33) 22) rfl ?_); refine step_op rfl .add 22 _ _ 22 rfl rfl hr3.out hr4.out rfl rfl ?_; intro r6 n6 hs6; have hr6 := Aside0.mk hs6; clear hs6))
  refine bodyPost_ret (results_cell_row rfl _ _ (w.heap.size + 1 + 1) 25 #[.float .f64 r5, .float .f64 r6] (0, 0) _ rfl (by
    refine blk_put (cs := #[.float .f64 r5, .float .f64 0]) ?_ 1 _ rfl
    refine blk_put (cs := #[.float .f64 0, .float .f64 0]) ?_ 0 _ rfl
    refine blk_drewN ?_ _
    simpa using blk_new ((w.alloc (.cells #[.float .f64 a, .float .f64 b] 25)).alloc (.cells #[.float .f64 c, .float .f64 d] 25)) (.cells #[.float .f64 0, .float .f64 0] 25)) Try.underlying25 rfl (by kernel_rfl)) rfl ?_
  exact ⟨_, _, rfl, hr5.out, hr6.out, below_set (below_set (pw_below_drewN (below_alloc (below_alloc (below_alloc HB.out _) _) _) _) (by omega)) (by omega)⟩

set_option maxHeartbeats 8000000 in
set_option maxRecDepth 100000 in
theorem impl_Product.calls (a b c d A B C D : Nat) (ha : Aside0 (Same a A)) (hb : Aside0 (Same b B)) (hc : Aside0 (Same c C)) (hd : Aside0 (Same d D)) (w : World) :
    Calls Try.prog 12 #[.agg #[.float .f64 a, .float .f64 b], .agg #[.float .f64 c, .float .f64 d]] w fun e w' => ∃ r1 r2, e = .returned (.agg #[.float .f64 r1, .float .f64 r2]) ∧ Same r1 (fo .sub (fo .mul A C) (fo .mul B D)) ∧ Same r2 (fo .add (fo .mul A D) (fo .mul B C)) ∧ Below w.heap.size w w' := by
  have hu25 := Try.underlying25
  have hu22 := Try.underlying22
  have HB := Aside0.mk (Below.refl w.heap.size w)
  go_enter Try.func12, Try.ntmps12
  go_wp2_with (first | ((with_reducible refine gate_ (.binOp .mul 22 (.tmp 6) (.tmp 8) 22) rfl ?_); refine step_op rfl .mul 22 _ _ 22 rfl rfl ha.out hc.out rfl rfl ?_; intro r1 n1 hs1; have hr1 := Aside0.mk hs1; clear hs1) | ((with_reducible refine gate_ (.binOp .mul 22 (.tmp 11) (.tmp 13) 22) rfl ?_); refine step_op rfl .mul 22 _ _ 22 rfl rfl hb.out hd.out rfl rfl ?_; intro r2 n2 hs2; have hr2 := Aside0.mk hs2; clear hs2) | ((with_reducible refine gate_ (.binOp .sub 22 (.tmp 9) (.tmp 14) 22) rfl ?_); refine step_op rfl .sub 22 _ _ 22 rfl rfl hr1.out hr2.out rfl rfl ?_; intro r5 n5 hs5; have hr5 := Aside0.mk hs5; clear hs5) | ((with_reducible refine gate_ (.binOp .mul 22 (.tmp 17) (.tmp 19) 22) rfl ?_); refine step_op rfl .mul 22 _ _ 22 rfl rfl ha.out hd.out rfl rfl ?_; intro r3 n3 hs3; have hr3 := Aside0.mk hs3; clear hs3) | ((with_reducible refine gate_ (.binOp .mul 22 (.tmp 22) (.tmp 24) 22) rfl ?_); refine step_op rfl .mul 22 _ _ 22 rfl rfl hb.out hc.out rfl rfl ?_; intro r4 n4 hs4; have hr4 := Aside0.mk hs4; clear hs4) | ((with_reducible refine gate_ (.binOp .add 22 (.tmp 20) (.tmp 25) 22) rfl ?_); refine step_op rfl .add 22 _ _ 22 rfl rfl hr3.out hr4.out rfl rfl ?_; intro r6 n6 hs6; have hr6 := Aside0.mk hs6; clear hs6))
  refine bodyPost_ret (results_cell_row rfl _ _ (w.heap.size + 1 + 1) 25 #[.float .f64 r5, .float .f64 r6] (0, 0) _ rfl (by
    refine blk_put (cs := #[.float .f64 r5, .float .f64 0]) ?_ 1 _ rfl
    refine blk_put (cs := #[.float .f64 0, .float .f64 0]) ?_ 0 _ rfl
    refine blk_drewN ?_ _
    simpa using blk_new ((w.alloc (.cells #[.float .f64 a, .float .f64 b] 25)).alloc (.cells #[.float .f64 c, .float .f64 d] 25)) (.cells #[.float .f64 0, .float .f64 0] 25)) Try.underlying25 rfl (by kernel_rfl)) rfl ?_
  exact ⟨_, _, rfl, hr5.out, hr6.out, below_set (below_set (pw_below_drewN (below_alloc (below_alloc (below_alloc HB.out _) _) _) _) (by omega)) (by omega)⟩

set_option maxHeartbeats 8000000 in
set_option maxRecDepth 100000 in
theorem spec_Product.calls (a b c d A B C D : Nat) (ha : Aside0 (Same a A)) (hb : Aside0 (Same b B)) (hc : Aside0 (Same c C)) (hd : Aside0 (Same d D)) (w : World) :
    Calls Try.prog 10 #[.agg #[.float .f64 a, .float .f64 b], .agg #[.float .f64 c, .float .f64 d]] w fun e w' => ∃ r1 r2, e = .returned (.agg #[.float .f64 r1, .float .f64 r2]) ∧ Same r1 (fo .sub (fo .mul A C) (fo .mul B D)) ∧ Same r2 (fo .add (fo .mul A D) (fo .mul B C)) ∧ Below w.heap.size w w' := by
  have hu25 := Try.underlying25
  have hu22 := Try.underlying22
  have HB := Aside0.mk (Below.refl w.heap.size w)
  go_enter Try.func10, Try.ntmps10
  go_wp2_with (first | ((with_reducible refine gate_callee (f := 35) rfl ?_); refine goesL_ (some 7) rfl rfl Try.func35 (by kernel_rfl) rfl #[.agg #[.float .f64 a, .float .f64 b], .agg #[.float .f64 c, .float .f64 d]] rfl (by (try simp only [List.map_toArray, List.map_cons, List.map_nil]); first | done | rfl) ?_; (with_reducible refine (spec_l3Product.calls a b c d A B C D ha hb hc hd _).mono ?_); rintro e W1 ⟨r1, r2, rfl, h1, h2, hbl⟩; refine ⟨_, rfl, ?_⟩; have hr1 := Aside0.mk h1; have hr2 := Aside0.mk h2; have BK : Aside0 (W1.heap[w.heap.size + 1 + 1]? = some (.cells #[.float .f64 0, .float .f64 0] 25 (0, 0))) := ⟨blk_below (by simpa using blk_new ((w.alloc (.cells #[.float .f64 a, .float .f64 b] 25)).alloc (.cells #[.float .f64 c, .float .f64 d] 25)) (.cells #[.float .f64 0, .float .f64 0] 25)) hbl⟩; have HB1 : Aside0 (Below w.heap.size w W1) := ⟨below_step (below_alloc (below_alloc (below_alloc HB.out _) _) _) hbl⟩; clear h1 h2 hbl; have c0 : W1.cell? ⟨w.heap.size + 1 + 1, 0, none⟩ = some (.float .f64 0) := (blk_cell BK.out 0).trans rfl; have c1 : W1.cell? ⟨w.heap.size + 1 + 1, 1, none⟩ = some (.float .f64 0) := (blk_cell BK.out 1).trans rfl; have f0 := blk_frozen BK.out 0; have f1 := blk_frozen BK.out 1))
  refine bodyPost_ret (results_cell_row rfl _ _ (w.heap.size + 1 + 1) 25 #[.float .f64 r1, .float .f64 r2] (0, 0) _ rfl (by
    refine blk_put (cs := #[.float .f64 r1, .float .f64 0]) ?_ 1 _ rfl
    refine blk_put (cs := #[.float .f64 0, .float .f64 0]) ?_ 0 _ rfl
    exact BK.out) Try.underlying25 rfl (by kernel_rfl)) rfl ?_
  exact ⟨_, _, rfl, hr1.out, hr2.out, below_set (below_set HB1.out (by omega)) (by omega)⟩

set_option maxHeartbeats 8000000 in
set_option maxRecDepth 100000 in
theorem laws_toCx.calls (a b : Nat) (w : World) : Calls Try.prog 11 #[.agg #[.float .f64 a, .float .f64 b]] w fun e w' => e = .returned (.agg #[.float .f64 a, .float .f64 b]) ∧ Below w.heap.size w w' := by
  have hu24 := Try.underlying24
  have hu25 := Try.underlying25
  have hu22 := Try.underlying22
  have HB := Aside0.mk (Below.refl w.heap.size w)
  go_enter Try.func11, Try.ntmps11
  go_wp2
  refine bodyPost_ret (results_cell_row rfl _ _ (w.heap.size + 1) 25 #[.float .f64 a, .float .f64 b] (0, 0) _ rfl (by
    refine blk_alloc ?_ _
    simpa using blk_new (w.alloc (.cells #[.float .f64 a, .float .f64 b] 24)) (.cells #[.float .f64 a, .float .f64 b] 25)) Try.underlying25 rfl (by kernel_rfl)) rfl ?_
  exact ⟨rfl, below_alloc (below_alloc (below_alloc HB.out _) _) _⟩

theorem quo_one {x : Nat} (h : ¬ NaN x) : ∃ r, floatBits .quo .f64 4607182418800017408 x = some r := by
  have h1 : Ieee.double.read 4607182418800017408 = .number false 4503599627370496 (-52) := by decide +kernel
  unfold NaN at h
  unfold floatBits
  cases hd : Ieee.double.read x <;> rw [hd] at h <;> simp [Ieee.Datum.isNaN] at h
  all_goals simp [FloatKind.format, Ieee.Format.div, h1, hd, Ieee.Datum.quotient]
  all_goals (try split) <;> simp
set_option maxHeartbeats 8000000 in
set_option maxRecDepth 100000 in
theorem laws_sameFloat.calls (x y : Nat) (hs : Aside0 (Same x y)) (w : World) : Calls Try.prog 22 #[.float .f64 x, .float .f64 y] w fun e w' => e = .returned (.bool true) ∧ w' = w := by
  have hu22 := Try.underlying22
  by_cases hn : NaN x
  · have hm : NaN y := by
      rcases hs.out with rfl | ⟨_, h⟩
      · exact hn
      · exact h
    have hx : FloatKind.f64.format.order x x = none := order_nan_left hn
    have hy : FloatKind.f64.format.order y y = none := order_nan_left hm
    clear hn hm
    go_enter Try.func22, Try.ntmps22
    go_wp2
    all_goals (go_ret; exact ⟨by simp, rfl⟩)
  · obtain rfl : x = y := by
      rcases hs.out with h | ⟨h, _⟩
      · exact h
      · exact absurd h hn
    have hx : FloatKind.f64.format.order x x = some .eq := order_self hn
    obtain ⟨r, hr⟩ := quo_one hn
    have hop : ∀ t w, (binOp .quo t (.float .f64 4607182418800017408) (.float .f64 x)).run Try.prog w = .ok (.float .f64 r) w := fun t w => run_float_arith w .quo t .f64 _ x r hr
    clear hn hr hs
    by_cases hz : FloatKind.f64.format.order x 0 = some .eq
    · go_enter Try.func22, Try.ntmps22
      go_wp2_with (simp only [hop])
      all_goals (go_ret; exact ⟨by simp, rfl⟩)
    · have hz' : (FloatKind.f64.format.order x 0 == some .eq) = false := by simpa using hz
      go_enter Try.func22, Try.ntmps22
      go_wp2_with (simp only [hop])
      all_goals (go_ret; exact ⟨by simp [hx], rfl⟩)

set_option maxHeartbeats 8000000 in
set_option maxRecDepth 100000 in
theorem laws_eqCx.calls (a b c d : Nat) (h1 : Aside0 (Same a c)) (h2 : Aside0 (Same b d)) (w : World) : Calls Try.prog 13 #[.agg #[.float .f64 a, .float .f64 b], .agg #[.float .f64 c, .float .f64 d]] w fun e w' => e = .returned (.bool true) ∧ Below w.heap.size w w' := by
  have hu25 := Try.underlying25
  have hu22 := Try.underlying22
  have HB := Aside0.mk (Below.refl w.heap.size w)
  go_enter Try.func13, Try.ntmps13
  go_wp2_with (first | ((with_reducible refine gate_dst (N := 9) rfl ?_); refine goesL_ (some 9) rfl rfl Try.func22 (by kernel_rfl) rfl #[.float .f64 a, .float .f64 c] rfl (by (try simp only [List.map_toArray, List.map_cons, List.map_nil]); first | done | rfl) ?_; (with_reducible refine (laws_sameFloat.calls a c h1 _).mono ?_); rintro e W1 ⟨rfl, rfl⟩; refine ⟨_, rfl, ?_⟩) | ((with_reducible refine gate_dst (N := 15) rfl ?_); refine goesL_ (some 15) rfl rfl Try.func22 (by kernel_rfl) rfl #[.float .f64 b, .float .f64 d] rfl (by (try simp only [List.map_toArray, List.map_cons, List.map_nil]); first | done | rfl) ?_; (with_reducible refine (laws_sameFloat.calls b d h2 _).mono ?_); rintro e W1 ⟨rfl, rfl⟩; refine ⟨_, rfl, ?_⟩))
  all_goals (go_ret; exact ⟨rfl, below_alloc (below_alloc HB.out _) _⟩)
end Go.Proofs.Ytihmoiheiglohaa.PFnExactProduct
