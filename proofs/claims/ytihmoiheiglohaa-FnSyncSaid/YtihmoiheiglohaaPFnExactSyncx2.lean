/- FnExactSync: the walks, floats told up to NaN. Written by wip/wave/gen_sync.py. -/
import Derived.Test.YtihmoiheiglohaaPFnExactSyncx1
import Derived.Outline
import Derived.LoopN
import Derived.RegionTactic
import Derived.BigRegion
namespace Go.Proofs.Ytihmoiheiglohaa.PFnExactSync
open Go.RowKit Go.Proofs.Ytihmoiheiglohaa.PFnExactAgree Go.Proofs.YtihmoiheiglohaaW.PrintWords Go.Proofs.YtihmoiheiglohaaW.PrintLast Go.Proofs.YtihmoiheiglohaaW.PrintMore Go.Proofs.Ytihmoiheiglohaa.Fl Go.Proofs.Ytihmoiheiglohaa.PFnExactProduct
attribute [local go_sem] run_store_float
set_option linter.unusedVariables false
set_option linter.unusedSimpArgs false
attribute [local go_sem] max2_int min2_int max_two min_two max_three min_three max_four min_four
set_option maxHeartbeats 8000000 in
set_option maxRecDepth 100000 in
theorem math_IsNaN.calls (x : Nat) (b : Bool) (hb : Aside0 ((FloatKind.f64.format.order x x != some .eq) = b)) (w : World) : Calls Try.prog 46 #[.float .f64 x] w fun e w' => e = .returned (.bool b) ∧ w' = w := by
  have hB := hb.out
  clear hb
  go_enter Try.func46, Try.ntmps46
  go_wp2
  go_ret
  exact ⟨rfl, rfl⟩
set_option maxHeartbeats 8000000 in
set_option maxRecDepth 100000 in
theorem impl_beats.calls (x y : Nat) (b : Bool) (hb : Aside0 (bt x y = b)) (w : World) : Calls Try.prog 42 #[.float .f64 x, .float .f64 y] w fun e w' => e = .returned (.bool b) ∧ w' = w := by
  cases hG : (FloatKind.f64.format.order x y == some .gt) with
  | true =>
    obtain rfl : true = b := by rw [← hb.out]; simp only [bt, hG, Bool.true_or]
    go_enter Try.func42, Try.ntmps42
    go_wp2
    go_ret
    exact ⟨rfl, rfl⟩
  | false =>
    cases hM : (FloatKind.f64.format.order y y != some .eq) with
    | false =>
      cases hE : (FloatKind.f64.format.order x x != some .eq) with
      | false =>
        have hE2 : (FloatKind.f64.format.order x x == some .eq) = true := by have := hE; revert this; cases FloatKind.f64.format.order x x <;> simp [bne]
        obtain rfl : false = b := by rw [← hb.out]; simp only [bt, hG, hM, hE2, Bool.false_or, Bool.true_and, Bool.false_and, Bool.and_true, Bool.and_false]
        have HM := Aside0.mk hM
        have HE := Aside0.mk hE
        clear hM hE hE2
        go_enter Try.func42, Try.ntmps42
        go_wp2_with (first | ((with_reducible refine gate_dst (N := 10) rfl ?_); (try (refine gate_guard (by rfl) ?_; dsimp only)); refine goesL_ (some 10) rfl rfl Try.func46 (by kernel_rfl) rfl #[.float .f64 y] rfl (by (try simp only [List.map_toArray, List.map_cons, List.map_nil]); first | done | rfl) ?_; (with_reducible refine (math_IsNaN.calls y false ⟨HM.out⟩ _).mono ?_); rintro e W1 ⟨rfl, hW⟩; obtain rfl := hW.symm; refine ⟨_, rfl, ?_⟩) | ((with_reducible refine gate_dst (N := 13) rfl ?_); (try (refine gate_guard (by rfl) ?_; dsimp only)); refine goesL_ (some 13) rfl rfl Try.func46 (by kernel_rfl) rfl #[.float .f64 x] rfl (by (try simp only [List.map_toArray, List.map_cons, List.map_nil]); first | done | rfl) ?_; (with_reducible refine (math_IsNaN.calls x false ⟨HE.out⟩ _).mono ?_); rintro e W1 ⟨rfl, hW⟩; obtain rfl := hW.symm; refine ⟨_, rfl, ?_⟩))
        go_ret
        exact ⟨rfl, rfl⟩
      | true =>
        have hE2 : (FloatKind.f64.format.order x x == some .eq) = false := by have := hE; revert this; cases FloatKind.f64.format.order x x <;> simp [bne]
        obtain rfl : false = b := by rw [← hb.out]; simp only [bt, hG, hM, hE2, Bool.false_or, Bool.true_and, Bool.false_and, Bool.and_true, Bool.and_false]
        have HM := Aside0.mk hM
        have HE := Aside0.mk hE
        clear hM hE hE2
        go_enter Try.func42, Try.ntmps42
        go_wp2_with (first | ((with_reducible refine gate_dst (N := 10) rfl ?_); (try (refine gate_guard (by rfl) ?_; dsimp only)); refine goesL_ (some 10) rfl rfl Try.func46 (by kernel_rfl) rfl #[.float .f64 y] rfl (by (try simp only [List.map_toArray, List.map_cons, List.map_nil]); first | done | rfl) ?_; (with_reducible refine (math_IsNaN.calls y false ⟨HM.out⟩ _).mono ?_); rintro e W1 ⟨rfl, hW⟩; obtain rfl := hW.symm; refine ⟨_, rfl, ?_⟩) | ((with_reducible refine gate_dst (N := 13) rfl ?_); (try (refine gate_guard (by rfl) ?_; dsimp only)); refine goesL_ (some 13) rfl rfl Try.func46 (by kernel_rfl) rfl #[.float .f64 x] rfl (by (try simp only [List.map_toArray, List.map_cons, List.map_nil]); first | done | rfl) ?_; (with_reducible refine (math_IsNaN.calls x true ⟨HE.out⟩ _).mono ?_); rintro e W1 ⟨rfl, hW⟩; obtain rfl := hW.symm; refine ⟨_, rfl, ?_⟩))
        go_ret
        exact ⟨rfl, rfl⟩
    | true =>
      cases hE : (FloatKind.f64.format.order x x != some .eq) with
      | false =>
        have hE2 : (FloatKind.f64.format.order x x == some .eq) = true := by have := hE; revert this; cases FloatKind.f64.format.order x x <;> simp [bne]
        obtain rfl : true = b := by rw [← hb.out]; simp only [bt, hG, hM, hE2, Bool.false_or, Bool.true_and, Bool.false_and, Bool.and_true, Bool.and_false]
        have HM := Aside0.mk hM
        have HE := Aside0.mk hE
        clear hM hE hE2
        go_enter Try.func42, Try.ntmps42
        go_wp2_with (first | ((with_reducible refine gate_dst (N := 10) rfl ?_); (try (refine gate_guard (by rfl) ?_; dsimp only)); refine goesL_ (some 10) rfl rfl Try.func46 (by kernel_rfl) rfl #[.float .f64 y] rfl (by (try simp only [List.map_toArray, List.map_cons, List.map_nil]); first | done | rfl) ?_; (with_reducible refine (math_IsNaN.calls y true ⟨HM.out⟩ _).mono ?_); rintro e W1 ⟨rfl, hW⟩; obtain rfl := hW.symm; refine ⟨_, rfl, ?_⟩) | ((with_reducible refine gate_dst (N := 13) rfl ?_); (try (refine gate_guard (by rfl) ?_; dsimp only)); refine goesL_ (some 13) rfl rfl Try.func46 (by kernel_rfl) rfl #[.float .f64 x] rfl (by (try simp only [List.map_toArray, List.map_cons, List.map_nil]); first | done | rfl) ?_; (with_reducible refine (math_IsNaN.calls x false ⟨HE.out⟩ _).mono ?_); rintro e W1 ⟨rfl, hW⟩; obtain rfl := hW.symm; refine ⟨_, rfl, ?_⟩))
        go_ret
        exact ⟨rfl, rfl⟩
      | true =>
        have hE2 : (FloatKind.f64.format.order x x == some .eq) = false := by have := hE; revert this; cases FloatKind.f64.format.order x x <;> simp [bne]
        obtain rfl : false = b := by rw [← hb.out]; simp only [bt, hG, hM, hE2, Bool.false_or, Bool.true_and, Bool.false_and, Bool.and_true, Bool.and_false]
        have HM := Aside0.mk hM
        have HE := Aside0.mk hE
        clear hM hE hE2
        go_enter Try.func42, Try.ntmps42
        go_wp2_with (first | ((with_reducible refine gate_dst (N := 10) rfl ?_); (try (refine gate_guard (by rfl) ?_; dsimp only)); refine goesL_ (some 10) rfl rfl Try.func46 (by kernel_rfl) rfl #[.float .f64 y] rfl (by (try simp only [List.map_toArray, List.map_cons, List.map_nil]); first | done | rfl) ?_; (with_reducible refine (math_IsNaN.calls y true ⟨HM.out⟩ _).mono ?_); rintro e W1 ⟨rfl, hW⟩; obtain rfl := hW.symm; refine ⟨_, rfl, ?_⟩) | ((with_reducible refine gate_dst (N := 13) rfl ?_); (try (refine gate_guard (by rfl) ?_; dsimp only)); refine goesL_ (some 13) rfl rfl Try.func46 (by kernel_rfl) rfl #[.float .f64 x] rfl (by (try simp only [List.map_toArray, List.map_cons, List.map_nil]); first | done | rfl) ?_; (with_reducible refine (math_IsNaN.calls x true ⟨HE.out⟩ _).mono ?_); rintro e W1 ⟨rfl, hW⟩; obtain rfl := hW.symm; refine ⟨_, rfl, ?_⟩))
        go_ret
        exact ⟨rfl, rfl⟩
set_option maxHeartbeats 8000000 in
set_option maxRecDepth 100000 in
theorem impl_agree2.calls (A B : Option Addr) (ca cb : Nat) (xs ys : List Nat) (lag : Int) (w : World) (hx : Aside0 (RF w A xs)) (hy : Aside0 (RF w B ys)) (q1 : xs.length ≤ 4096) (q2 : ys.length ≤ 4096) (q3 : -4096 ≤ lag) (q4 : lag ≤ 4096) :
    Calls Try.prog 41 #[.slice A xs.length ca, .slice B ys.length cb, .int .i64 lag] w fun e w' => ∃ r, e = .returned (.float .f64 r) ∧ Same r (agr xs ys lag) ∧ Below w.heap.size w w' := by
  rw [show agr xs ys lag = acc xs ys lag xs.length from if_pos ⟨q1, q2, q3, q4⟩]
  exact impl_agree.calls A B ca cb xs ys lag w hx hy q1 q2 q3 q4
end Go.Proofs.Ytihmoiheiglohaa.PFnExactSync
