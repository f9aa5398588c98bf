/- FnExactWaves, FnExactBack, FnWavesBack: walks, floats told up to NaN. Written by wip/barred/gen_waves.py. -/
import Derived.Test.YtnldjdpophkkcaaDoorPFnExactWavesx3
import Derived.Outline
import Derived.LoopN
import Derived.RegionTactic
import Derived.BigRegion
namespace Go.Proofs.YtnldjdpophkkcaaDoor.PFnExactWaves
open Go.RowKit Go.Proofs.YtnldjdpophkkcaaDoorW.PrintWords Go.Proofs.YtnldjdpophkkcaaDoorW.PrintLast Go.Proofs.YtnldjdpophkkcaaDoorW.PrintMore Go.Proofs.YtnldjdpophkkcaaDoor.Fl
attribute [local go_sem] run_store_float
set_option linter.unusedVariables false
set_option linter.unusedSimpArgs false
attribute [local go_sem] max2_int min2_int max_two min_two max_three min_three max_four min_four
/-- The roots' numbers, in a row. -/
def RT : List Nat := [4607182418800017408, 0, 4604544271217802189, 13827916308072577997, 0, 13830554455654793216, 13827916308072577997, 13827916308072577997, 13830554455654793216, 0, 13827916308072577997, 4604544271217802189, 0, 4607182418800017408, 4604544271217802189, 4604544271217802189]
def rt (m : Nat) : Nat × Nat := (RT.getD (m * 2) 0, RT.getD (m * 2 + 1) 0)
def prd (x r : Nat × Nat) : Nat × Nat := (fo .sub (fo .mul x.1 r.1) (fo .mul x.2 r.2), fo .add (fo .mul x.1 r.2) (fo .mul x.2 r.1))
def ad2 (s p : Nat × Nat) : Nat × Nat := (fo .add s.1 p.1, fo .add s.2 p.2)
/-- The root's number. -/
def ix (back : Bool) (n j k : Nat) : Nat := if back then (8 - 8 / n * j * k % 8) % 8 else 8 / n * j * k % 8
theorem ix_lt (back : Bool) (n j k : Nat) : ix back n j k < 8 := by unfold ix; split <;> omega
/-- The sum of the first k products. -/
def sm (back : Bool) (xs : List (Nat × Nat)) (j : Nat) : Nat → Nat × Nat
  | 0 => (0, 0)
  | k + 1 => ad2 (sm back xs j k) (prd (xs.getD k (0, 0)) (rt (ix back xs.length j k)))
def dv (n : Nat) (s : Nat × Nat) : Nat × Nat := (fo .quo s.1 (floatOfInt .f64 (n : Int)), fo .quo s.2 (floatOfInt .f64 (n : Int)))
def fin (back : Bool) (xs : List (Nat × Nat)) (j : Nat) : Nat × Nat := if back then dv xs.length (sm back xs j xs.length) else sm back xs j xs.length
def good (n : Nat) : Bool := n == 1 || n == 2 || n == 4 || n == 8
def wvs (back : Bool) (xs : List (Nat × Nat)) : List (Nat × Nat) := if good xs.length then (List.range xs.length).map (fin back xs) else []
def trn (back : Bool) (xs : List (Nat × Nat)) : List (Nat × Nat) := if good xs.length then (List.range xs.length).map (fun j => sm back xs j xs.length) else []
theorem good_cases {n : Nat} (h : good n = true) : n = 1 ∨ n = 2 ∨ n = 4 ∨ n = 8 := by
  simp only [good, Bool.or_eq_true, beq_iff_eq] at h; omega
theorem wvs_length_le (back : Bool) (xs : List (Nat × Nat)) : (wvs back xs).length ≤ 8 := by
  unfold wvs; split
  · rename_i h; have := good_cases h; simp; omega
  · simp
theorem trn_length_le (back : Bool) (xs : List (Nat × Nat)) : (trn back xs).length ≤ 8 := by
  unfold trn; split
  · rename_i h; have := good_cases h; simp; omega
  · simp
/-- One pair, up to NaN. -/
def S2 (x y : Nat × Nat) : Prop := Same x.1 y.1 ∧ Same x.2 y.2
def SP (xs ys : List (Nat × Nat)) : Prop := xs.length = ys.length ∧ ∀ i, S2 (xs.getD i (0, 0)) (ys.getD i (0, 0))
theorem S2.rfl {x : Nat × Nat} : S2 x x := ⟨Same.rfl, Same.rfl⟩
theorem S2.symm {x y : Nat × Nat} (h : S2 x y) : S2 y x := ⟨h.1.symm, h.2.symm⟩
theorem S2.trans {x y z : Nat × Nat} (h : S2 x y) (k : S2 y z) : S2 x z := ⟨h.1.trans k.1, h.2.trans k.2⟩
theorem SP.len {xs ys : List (Nat × Nat)} (h : SP xs ys) : xs.length = ys.length := h.1
theorem SP.val {xs ys : List (Nat × Nat)} (h : SP xs ys) (i : Nat) : Same (xs.getD i (0, 0)).1 (ys.getD i (0, 0)).1 ∧ Same (xs.getD i (0, 0)).2 (ys.getD i (0, 0)).2 := h.2 i
theorem SP.symm {xs ys : List (Nat × Nat)} (h : SP xs ys) : SP ys xs := ⟨h.1.symm, fun i => (h.2 i).symm⟩
theorem SP.trans {xs ys zs : List (Nat × Nat)} (h : SP xs ys) (k : SP ys zs) : SP xs zs := ⟨h.1.trans k.1, fun i => (h.2 i).trans (k.2 i)⟩
theorem SP.nil : SP [] [] := ⟨Eq.refl _, fun _ => S2.rfl⟩
theorem SP.snoc {xs ys : List (Nat × Nat)} {x y : Nat × Nat} (h : SP xs ys) (hs : S2 x y) : SP (xs ++ [x]) (ys ++ [y]) := by
  refine ⟨by simp [h.1], fun i => ?_⟩
  have h1 := h.1
  rcases Nat.lt_trichotomy i xs.length with hi | hi | hi
  · have h2 := h.2 i
    simp only [List.getD_eq_getElem?_getD] at h2 ⊢
    rw [List.getElem?_append_left hi, List.getElem?_append_left (by omega)]
    exact h2
  · simp only [List.getD_eq_getElem?_getD]
    rw [List.getElem?_append_right (by omega), List.getElem?_append_right (by omega), show i - xs.length = 0 by omega, show i - ys.length = 0 by omega]
    exact hs
  · simp only [List.getD_eq_getElem?_getD]
    rw [List.getElem?_append_right (by omega), List.getElem?_append_right (by omega), List.getElem?_eq_none (by simp; omega), List.getElem?_eq_none (by simp; omega)]
    exact S2.rfl
theorem range_snoc {α : Type} (f : Nat → α) (n j : Nat) (hj : j < n) : ((List.range n).map f).take (j + 1) = ((List.range n).map f).take j ++ [f j] := by
  rw [List.take_succ_eq_append_getElem (by simpa using hj)]
  simp
theorem flat_snoc (zs : List (Nat × Nat)) (p : Nat × Nat) : flat (zs ++ [p]) = flat zs ++ [p.1, p.2] := by
  induction zs with
  | nil => rfl
  | cons x l ih => simp only [List.cons_append, flat, ih]
/-- The package's roots lie in their cells. -/
def Mx (w : World) : Prop := (∀ m, m < 8 → w.cell? ⟨0, m * 2, none⟩ = some (.float .f64 (rt m).1) ∧ w.cell? ⟨0, m * 2 + 1, none⟩ = some (.float .f64 (rt m).2))
theorem Mx.below {w w' : World} (h : Mx w) (hb : Below w.heap.size w w') : Mx w' := fun m hm => ⟨pw_cell_below hb (h m hm).1, pw_cell_below hb (h m hm).2⟩
theorem Mx.at_ {w : World} (h : Mx w) (m : Nat) (hm : m < 8) : w.cell? ⟨0, m * 2, none⟩ = some (.float .f64 (rt m).1) ∧ w.cell? ⟨0, m * 2 + 1, none⟩ = some (.float .f64 (rt m).2) := h m hm
theorem neg_float (b : Nat) : Op.unary .neg (.float .f64 b) = pure (.float .f64 (Op.negFloat .f64 b)) := rfl
theorem neg_half : Op.negFloat .f64 4604544271217802189 = 13827916308072577997 := by decide +kernel
attribute [local go_sem] neg_float neg_half
set_option maxHeartbeats 8000000 in
set_option maxRecDepth 100000 in
theorem spec_l3Root.calls (m : Nat) (hm : m < 8) (w : World) :
    Calls Tryd.prog 24 #[.int .i64 (m : Int)] w fun e w' => e = .returned (.agg #[.float .f64 (rt m).1, .float .f64 (rt m).2]) ∧ Below w.heap.size w w' := by
  have hu25 := Tryd.underlying25
  have hu26 := Tryd.underlying26
  have hu28 := Tryd.underlying28
  have hu2 := Tryd.underlying2
  have HB := Aside0.mk (Below.refl w.heap.size w)
  have h8 : m = 0 ∨ m = 1 ∨ m = 2 ∨ m = 3 ∨ m = 4 ∨ m = 5 ∨ m = 6 ∨ m = 7 := by omega
  clear hm
  rcases h8 with rfl | rfl | rfl | rfl | rfl | rfl | rfl | rfl
  · rw [show ((0 : Nat) : Int) = 0 from rfl]
    go_enter Tryd.func24, Tryd.ntmps24
    go_wp2
    refine bodyPost_ret (results_cell_row rfl _ _ w.heap.size 28 #[.float .f64 (rt 0).1, .float .f64 (rt 0).2] (0, 0) _ rfl (by
      refine blk_alloc ?_ _
      exact blk_new w (.cells #[.float .f64 (rt 0).1, .float .f64 (rt 0).2] 28)) Tryd.underlying28 rfl (by kernel_rfl)) rfl ?_
    exact ⟨rfl, below_alloc (below_alloc HB.out _) _⟩
  · rw [show ((1 : Nat) : Int) = 1 from rfl]
    go_enter Tryd.func24, Tryd.ntmps24
    go_wp2
    refine bodyPost_ret (results_cell_row rfl _ _ w.heap.size 28 #[.float .f64 (rt 1).1, .float .f64 (rt 1).2] (0, 0) _ rfl (by
      refine blk_alloc ?_ _
      exact blk_new w (.cells #[.float .f64 (rt 1).1, .float .f64 (rt 1).2] 28)) Tryd.underlying28 rfl (by kernel_rfl)) rfl ?_
    exact ⟨rfl, below_alloc (below_alloc HB.out _) _⟩
  · rw [show ((2 : Nat) : Int) = 2 from rfl]
    go_enter Tryd.func24, Tryd.ntmps24
    go_wp2
    refine bodyPost_ret (results_cell_row rfl _ _ w.heap.size 28 #[.float .f64 (rt 2).1, .float .f64 (rt 2).2] (0, 0) _ rfl (by
      refine blk_alloc ?_ _
      exact blk_new w (.cells #[.float .f64 (rt 2).1, .float .f64 (rt 2).2] 28)) Tryd.underlying28 rfl (by kernel_rfl)) rfl ?_
    exact ⟨rfl, below_alloc (below_alloc HB.out _) _⟩
  · rw [show ((3 : Nat) : Int) = 3 from rfl]
    go_enter Tryd.func24, Tryd.ntmps24
    go_wp2
    refine bodyPost_ret (results_cell_row rfl _ _ w.heap.size 28 #[.float .f64 (rt 3).1, .float .f64 (rt 3).2] (0, 0) _ rfl (by
      refine blk_alloc ?_ _
      exact blk_new w (.cells #[.float .f64 (rt 3).1, .float .f64 (rt 3).2] 28)) Tryd.underlying28 rfl (by kernel_rfl)) rfl ?_
    exact ⟨rfl, below_alloc (below_alloc HB.out _) _⟩
  · rw [show ((4 : Nat) : Int) = 4 from rfl]
    go_enter Tryd.func24, Tryd.ntmps24
    go_wp2
    refine bodyPost_ret (results_cell_row rfl _ _ w.heap.size 28 #[.float .f64 (rt 4).1, .float .f64 (rt 4).2] (0, 0) _ rfl (by
      refine blk_alloc ?_ _
      exact blk_new w (.cells #[.float .f64 (rt 4).1, .float .f64 (rt 4).2] 28)) Tryd.underlying28 rfl (by kernel_rfl)) rfl ?_
    exact ⟨rfl, below_alloc (below_alloc HB.out _) _⟩
  · rw [show ((5 : Nat) : Int) = 5 from rfl]
    go_enter Tryd.func24, Tryd.ntmps24
    go_wp2
    refine bodyPost_ret (results_cell_row rfl _ _ w.heap.size 28 #[.float .f64 (rt 5).1, .float .f64 (rt 5).2] (0, 0) _ rfl (by
      refine blk_alloc ?_ _
      exact blk_new w (.cells #[.float .f64 (rt 5).1, .float .f64 (rt 5).2] 28)) Tryd.underlying28 rfl (by kernel_rfl)) rfl ?_
    exact ⟨rfl, below_alloc (below_alloc HB.out _) _⟩
  · rw [show ((6 : Nat) : Int) = 6 from rfl]
    go_enter Tryd.func24, Tryd.ntmps24
    go_wp2
    refine bodyPost_ret (results_cell_row rfl _ _ w.heap.size 28 #[.float .f64 (rt 6).1, .float .f64 (rt 6).2] (0, 0) _ rfl (by
      refine blk_alloc ?_ _
      exact blk_new w (.cells #[.float .f64 (rt 6).1, .float .f64 (rt 6).2] 28)) Tryd.underlying28 rfl (by kernel_rfl)) rfl ?_
    exact ⟨rfl, below_alloc (below_alloc HB.out _) _⟩
  · rw [show ((7 : Nat) : Int) = 7 from rfl]
    go_enter Tryd.func24, Tryd.ntmps24
    go_wp2
    refine bodyPost_ret (results_cell_row rfl _ _ w.heap.size 28 #[.float .f64 (rt 7).1, .float .f64 (rt 7).2] (0, 0) _ rfl (by
      refine blk_alloc ?_ _
      exact blk_new w (.cells #[.float .f64 (rt 7).1, .float .f64 (rt 7).2] 28)) Tryd.underlying28 rfl (by kernel_rfl)) rfl ?_
    exact ⟨rfl, below_alloc (below_alloc HB.out _) _⟩
set_option maxHeartbeats 8000000 in
set_option maxRecDepth 100000 in
theorem impl_plus.calls (a b c d A B C D : Nat) (ha : Aside0 (Same a A)) (hb : Aside0 (Same b B)) (hc : Aside0 (Same c C)) (hd : Aside0 (Same d D)) (w : World) :
    Calls Tryd.prog 21 #[.agg #[.float .f64 a, .float .f64 b], .agg #[.float .f64 c, .float .f64 d]] w fun e w' => ∃ r1 r2, e = .returned (.agg #[.float .f64 r1, .float .f64 r2]) ∧ Same r1 (fo .add A C) ∧ Same r2 (fo .add B D) ∧ Below w.heap.size w w' := by
  have hu28 := Tryd.underlying28
  have hu26 := Tryd.underlying26
  have HB := Aside0.mk (Below.refl w.heap.size w)
  go_enter Tryd.func21, Tryd.ntmps21
  go_wp2_with (first | ((with_reducible refine gate_ (.binOp .add 26 (.tmp 6) (.tmp 8) 26) rfl ?_); refine step_op rfl .add 26 _ _ 26 rfl rfl ha.out hc.out rfl rfl ?_; intro r1 n1 hs1; have hr1 := Aside0.mk hs1; clear hs1) | ((with_reducible refine gate_ (.binOp .add 26 (.tmp 11) (.tmp 13) 26) rfl ?_); refine step_op rfl .add 26 _ _ 26 rfl rfl hb.out hd.out rfl rfl ?_; intro r2 n2 hs2; have hr2 := Aside0.mk hs2; clear hs2))
  refine bodyPost_ret (results_cell_row rfl _ _ (w.heap.size + 1 + 1) 28 #[.float .f64 r1, .float .f64 r2] (0, 0) _ rfl (by
    refine blk_put (cs := #[.float .f64 r1, .float .f64 0]) ?_ 1 _ rfl
    refine blk_put (cs := #[.float .f64 0, .float .f64 0]) ?_ 0 _ rfl
    refine blk_drewN ?_ _
    simpa using blk_new ((w.alloc (.cells #[.float .f64 a, .float .f64 b] 28)).alloc (.cells #[.float .f64 c, .float .f64 d] 28)) (.cells #[.float .f64 0, .float .f64 0] 28)) Tryd.underlying28 rfl (by kernel_rfl)) rfl ?_
  exact ⟨_, _, rfl, hr1.out, hr2.out, below_set (below_set (pw_below_drewN (below_alloc (below_alloc (below_alloc HB.out _) _) _) _) (by omega)) (by omega)⟩
end Go.Proofs.YtnldjdpophkkcaaDoor.PFnExactWaves
