/- The functions that the law reaches, as Lean functions, each with the proof that the Go code comes to just these answers. Written by a program of this session (wip/tools/handprint.py over the kit's print); by hand where the print takes no such text. -/
-- squeezed
import Derived.Test.YtbafihapjbkagaaPFnDeepsx0
import Derived.Test.YtbafihapjbkagaaPFnDeepsx9
import Derived.Test.YtbafihapjbkagaaPFnDeepsx10
import Derived.Test.YtbafihapjbkagaaPFnDeepsx11
namespace Go.Proofs.Ytbafihapjbkagaa.PFnDeeps
open Go.RowKit Go.Proofs.YtbafihapjbkagaaW.PrintWords Go.Proofs.YtbafihapjbkagaaW.PrintLast Go.Proofs.YtbafihapjbkagaaW.PrintMore
attribute [local go_sem] max2_int min2_int max_two min_two max_three min_three max_four min_four   -- for this text's walks alone
set_option linter.unusedVariables false
set_option linter.unusedSimpArgs false

/-! ### spec_l11DrawDeep: function 50 -/
mutual
def spec_l11DrawDeep.l0 : Nat → List (S50) → Int → List Int → Int → Int → Option ((List (S50)) × Int × Int)
 | 0, _, _, _, _, _ => none
 | k + 1, x3, x4, x1000, x1001, x1002 => if x4 > 0 then ((spec_l1Below.f x1000 x1001 x1002 6).bind fun bt354 => ((spec_l11DrawPx.f x1000 bt354.2.1 bt354.2.2).bind fun bt357 => (if x3.length < 3518437208883 then (spec_l11DrawDeep.l0 k (x3 ++ [(⟨bt354.1, (⟨bt357.1, bt357.2.1, bt357.2.2.1, bt357.2.2.2.1⟩ : S35)⟩ : S50)]) (wrap64 (x4 - 1)) x1000 bt357.2.2.2.2.1 bt357.2.2.2.2.2) else (none)))) else ((spec_l1Once.f x1000 x1001 x1002 24).bind fun bt366 => (if bt366.1 = true then (spec_l11DrawDeep.j1 k x3 (decide ((x3.length : Int) > 0)) x1000 bt366.2.1 bt366.2.2) else (spec_l11DrawDeep.j1 k x3 false x1000 bt366.2.1 bt366.2.2)))
def spec_l11DrawDeep.j1 : Nat → List (S50) → Bool → List Int → Int → Int → Option ((List (S50)) × Int × Int)
 | 0, _, _, _, _, _ => none
 | k + 1, x3, x26, x1000, x1001, x1002 => if x26 = true then ((some (([(-1), 10000000, 10000001] : List Int) : List Int)).bind fun y369 => ((spec_l1Below.f x1000 x1001 x1002 3).bind fun bt372 => (if 0 ≤ bt372.1 then (if bt372.1 < (y369.length : Int) then (if 0 < (x3.length : Int) then (spec_l11DrawDeep.j2 k (x3.set (0 : Int).toNat (⟨rd y369 bt372.1, (⟨(rd_T50 x3 0).f1.f0, (rd_T50 x3 0).f1.f1, (rd_T50 x3 0).f1.f2, (rd_T50 x3 0).f1.f3⟩ : S35)⟩ : S50)) x1000 bt372.2.1 bt372.2.2) else (none)) else (none)) else (none)))) else (spec_l11DrawDeep.j2 k x3 x1000 x1001 x1002)
def spec_l11DrawDeep.j2 : Nat → List (S50) → List Int → Int → Int → Option ((List (S50)) × Int × Int)
 | 0, _, _, _, _ => none
 | k + 1, x3, x1000, x1001, x1002 => (spec_l1Once.f x1000 x1001 x1002 40).bind fun bt377 => (if bt377.1 = true then (spec_l11DrawDeep.l1 k x3 x1000 bt377.2.1 bt377.2.2) else (some (x3, bt377.2.1, bt377.2.2)))
def spec_l11DrawDeep.l1 : Nat → List (S50) → List Int → Int → Int → Option ((List (S50)) × Int × Int)
 | 0, _, _, _, _ => none
 | k + 1, x3, x1000, x1001, x1002 => (spec_l1Below.f x1000 x1001 x1002 2).bind fun bt380 => (if (x3.length : Int) < (wrap64 (200 + bt380.1)) then ((spec_l1Below.f x1000 bt380.2.1 bt380.2.2 9).bind fun bt383 => (if x3.length < 3518437208883 then (spec_l11DrawDeep.l1 k (x3 ++ [(⟨bt383.1, (⟨1, 0, 0, 3⟩ : S35)⟩ : S50)]) x1000 bt383.2.1 bt383.2.2) else (none))) else (some (x3, bt380.2.1, bt380.2.2)))
end
def spec_l11DrawDeep.f (k : Nat) (s0_0 : List Int) (s0_1 : Int) (s0_2 : Int) : Option ((List (S50)) × Int × Int) := (spec_l1Below.f s0_0 s0_1 s0_2 8).bind fun bt351 => (spec_l11DrawDeep.l0 k (([] : List (S50))) bt351.1 s0_0 bt351.2.1 bt351.2.2)
theorem spec_l11DrawDeep.mono_l : ∀ k, (∀ y0 y1 y2 y3 y4, LeO (spec_l11DrawDeep.l0 k y0 y1 y2 y3 y4) (spec_l11DrawDeep.l0 (k + 1) y0 y1 y2 y3 y4)) ∧ (∀ y0 y1 y2 y3 y4, LeO (spec_l11DrawDeep.j1 k y0 y1 y2 y3 y4) (spec_l11DrawDeep.j1 (k + 1) y0 y1 y2 y3 y4)) ∧ (∀ y0 y1 y2 y3, LeO (spec_l11DrawDeep.j2 k y0 y1 y2 y3) (spec_l11DrawDeep.j2 (k + 1) y0 y1 y2 y3)) ∧ (∀ y0 y1 y2 y3, LeO (spec_l11DrawDeep.l1 k y0 y1 y2 y3) (spec_l11DrawDeep.l1 (k + 1) y0 y1 y2 y3))
 | 0 => ⟨fun _ _ _ _ _ r h => by simp [spec_l11DrawDeep.l0] at h, fun _ _ _ _ _ r h => by simp [spec_l11DrawDeep.j1] at h, fun _ _ _ _ r h => by simp [spec_l11DrawDeep.j2] at h, fun _ _ _ _ r h => by simp [spec_l11DrawDeep.l1] at h⟩
 | k + 1 => by
  obtain ⟨ih0, ih1, ih2, ih3⟩ := spec_l11DrawDeep.mono_l k
  refine ⟨?_, ?_, ?_, ?_⟩
  ·intro y0 y1 y2 y3 y4
   unfold spec_l11DrawDeep.l0
   repeat' first
   | (with_reducible exact ih0 _ _ _ _ _)
   | (with_reducible exact ih1 _ _ _ _ _)
   | (with_reducible exact ih2 _ _ _ _)
   | (with_reducible exact ih3 _ _ _ _)
   | (with_reducible exact LeO.refl _)
   | (with_reducible exact LeO.none _)
   | (with_reducible refine LeO.ite ?_ ?_)
   | (with_reducible refine LeO.bind ?_ (fun _ => ?_))
   | exact ih0 _ _ _ _ _
   | exact ih1 _ _ _ _ _
   | exact ih2 _ _ _ _
   | exact ih3 _ _ _ _
   | exact LeO.none _
   | refine LeO.ite ?_ ?_
   | refine LeO.bind ?_ (fun _ => ?_)
  ·intro y0 y1 y2 y3 y4
   unfold spec_l11DrawDeep.j1
   repeat' first
   | (with_reducible exact ih0 _ _ _ _ _)
   | (with_reducible exact ih1 _ _ _ _ _)
   | (with_reducible exact ih2 _ _ _ _)
   | (with_reducible exact ih3 _ _ _ _)
   | (with_reducible exact LeO.refl _)
   | (with_reducible exact LeO.none _)
   | (with_reducible refine LeO.ite ?_ ?_)
   | (with_reducible refine LeO.bind ?_ (fun _ => ?_))
   | exact ih0 _ _ _ _ _
   | exact ih1 _ _ _ _ _
   | exact ih2 _ _ _ _
   | exact ih3 _ _ _ _
   | exact LeO.none _
   | refine LeO.ite ?_ ?_
   | refine LeO.bind ?_ (fun _ => ?_)
  ·intro y0 y1 y2 y3
   unfold spec_l11DrawDeep.j2
   repeat' first
   | (with_reducible exact ih0 _ _ _ _ _)
   | (with_reducible exact ih1 _ _ _ _ _)
   | (with_reducible exact ih2 _ _ _ _)
   | (with_reducible exact ih3 _ _ _ _)
   | (with_reducible exact LeO.refl _)
   | (with_reducible exact LeO.none _)
   | (with_reducible refine LeO.ite ?_ ?_)
   | (with_reducible refine LeO.bind ?_ (fun _ => ?_))
   | exact ih0 _ _ _ _ _
   | exact ih1 _ _ _ _ _
   | exact ih2 _ _ _ _
   | exact ih3 _ _ _ _
   | exact LeO.none _
   | refine LeO.ite ?_ ?_
   | refine LeO.bind ?_ (fun _ => ?_)
  ·intro y0 y1 y2 y3
   unfold spec_l11DrawDeep.l1
   repeat' first
   | (with_reducible exact ih0 _ _ _ _ _)
   | (with_reducible exact ih1 _ _ _ _ _)
   | (with_reducible exact ih2 _ _ _ _)
   | (with_reducible exact ih3 _ _ _ _)
   | (with_reducible exact LeO.refl _)
   | (with_reducible exact LeO.none _)
   | (with_reducible refine LeO.ite ?_ ?_)
   | (with_reducible refine LeO.bind ?_ (fun _ => ?_))
   | exact ih0 _ _ _ _ _
   | exact ih1 _ _ _ _ _
   | exact ih2 _ _ _ _
   | exact ih3 _ _ _ _
   | exact LeO.none _
   | refine LeO.ite ?_ ?_
   | refine LeO.bind ?_ (fun _ => ?_)
theorem spec_l11DrawDeep.mono : ∀ a0 a1 a2 k, LeO (spec_l11DrawDeep.f k a0 a1 a2) (spec_l11DrawDeep.f (k + 1) a0 a1 a2) := by
 intro a0 a1 a2 k
 obtain ⟨ih0, ih1, ih2, ih3⟩ := spec_l11DrawDeep.mono_l k
 unfold spec_l11DrawDeep.f
 repeat' first
   | (with_reducible exact ih0 _ _ _ _ _)
   | (with_reducible exact ih1 _ _ _ _ _)
   | (with_reducible exact ih2 _ _ _ _)
   | (with_reducible exact ih3 _ _ _ _)
   | (with_reducible exact LeO.refl _)
   | (with_reducible exact LeO.none _)
   | (with_reducible refine LeO.ite ?_ ?_)
   | (with_reducible refine LeO.bind ?_ (fun _ => ?_))
   | exact ih0 _ _ _ _ _
   | exact ih1 _ _ _ _ _
   | exact ih2 _ _ _ _
   | exact ih3 _ _ _ _
   | exact LeO.none _
   | refine LeO.ite ?_ ?_
   | refine LeO.bind ?_ (fun _ => ?_)
set_option maxHeartbeats 8000000 in
set_option maxRecDepth 100000 in
theorem spec_l11DrawDeep.calls (k : Nat) (g : Nat) (s0_0 : List Int) (s0_1 : Int) (s0_2 : Int) (r1 : List (S50)) (r2 : Int) (r3 : Int) (w0 w : World) (hI : IsS77 w0 w g s0_0 s0_1 s0_2) (hB : Below w0.heap.size w0 w) (h : spec_l11DrawDeep.f k s0_0 s0_1 s0_2 = some (r1, r2, r3)) :
  Calls Try.prog 50 #[.pointer (some ⟨g, 0, none⟩)] w fun e w' => ∃ v0_ : Value, e = .returned (v0_) ∧ Kd.R k50 50 w' w.heap.size (fun _ => True) v0_ r1 ∧ IsS77 w0 w' g s0_0 r2 r3 ∧ Below w0.heap.size w0 w' ∧ KeepBut w w' g none := by
 have hu50 := Try.underlying50
 have hu35 := Try.underlying35
 have HI0 := Aside0.mk hI
 have HK := Aside0.mk (KeepBut.refl w g none)
 have HL := Aside0.mk hB.size
 clear hI
 have HW0 := Aside0.mk hB.size
 have HB := Aside0.mk hB
 clear hB
 have H : ((spec_l1Below.f s0_0 s0_1 s0_2 8).bind fun bt351 => (spec_l11DrawDeep.l0 k (([] : List (S50))) bt351.1 s0_0 bt351.2.1 bt351.2.2)) = some (r1, r2, r3) := h
 clear h
 obtain ⟨y348, hy348⟩ : ∃ y_ : List (S50), y_ = (([] : List (S50))) := ⟨_, rfl⟩
 replace H : ((spec_l1Below.f s0_0 s0_1 s0_2 8).bind fun bt351 => (spec_l11DrawDeep.l0 k y348 bt351.1 s0_0 bt351.2.1 bt351.2.2)) = some (r1, r2, r3) := by first | (rw [hy348]; with_reducible exact H) | (have H2_ := (Option.bind_some _ _).symm.trans H; rw [hy348]; with_reducible exact H2_) | (have H2_ := (Option.bind_some _ _).symm.trans H; with_reducible exact H2_) | with_reducible exact H | (rw [hy348]; exact H) | exact H
 have Ny348 := Aside0.mk hy348
 clear hy348
 replace H := Option.bind_eq_some_iff.mp H
 obtain ⟨⟨t351, t352, t353⟩, A20, H⟩ := H
 have A2 := Aside0.mk A20
 clear A20
 have H' := Aside0.mk H
 clear H
 go_enter Try.func50, Try.ntmps50
 go_wp2_with (first | ((with_reducible refine gate_dst (N := 5) rfl ?_); (try (refine gate_guard (by rfl) ?_; dsimp only)); refine Kd.R_lit k50 _ 50 ?hg (N := 5) ?hd (xs := ([] : List (S50))) (inner := []) (ok := fun _ => True) (okp := fun _ => True) ?hr ?hp (fun _ hk => hk) trivial (Below.refl _ _) (Nat.le_refl _) (by simp) ?_; (case hd => rfl); (case hg => rfl); (case hr => first | (go_simp; done) | (go_simp; rfl)); (case hp => exact (Reps.none _ _)); intro v349 w3 ho4 hb hg_ hnew_; clear hg_ hnew_; (first | rw [← Ny348.out] at ho4 | (simp only [Int.reduceToNat] at ho4; rw [← Ny348.out] at ho4)); have n0_ := Aside0.mk (Kd.R_lower ho4 (keep_size (w := w) (g := g) (row := none) (mF HK.out))); have n1_ := Aside0.mk (IsS77.below (mI77 HI0.out) hb); have n2_ := Aside0.mk (KeepBut.trans (mF HK.out) (KeepBut.of_below hb g none) (.inl rfl)); have n3_ := Aside0.mk (below_step (mB1 (IsS77.ge HI0.out) HB.out) hb); clear HI0; clear HK; clear HB; have HO350 := n0_; have HI0 := n1_; have HK := n2_; have HB := n3_; clear n0_ n1_ n2_ n3_; clear hb ho4) | ((with_reducible refine gate_callee (f := 37) rfl ?_); refine goesL_ (some 7) rfl rfl Try.func37 (by kernel_rfl) rfl #[.pointer (some ⟨g, 0, none⟩), .int .i64 8] rfl mT ?_; (with_reducible refine (spec_l1Below.calls g s0_0 s0_1 s0_2 8 t351 t352 t353 w0 _ ?side1 ?side2 A2.out).mono ?_); (case side1 => exact mI77 HI0.out); (case side2 => exact mB1 (IsS77.ge HI0.out) HB.out); rintro e w5 ⟨rfl, hi, hb, hk⟩; refine ⟨_, rfl, ?_⟩; have n0_ := Aside0.mk (Kd.R_mono (Kd.R_keep (IsS77.apart (show IsS77 w0 _ g s0_0 s0_1 s0_2 from mI77 HI0.out) (mR HO350.out) (by decide)) hk (fun _ h => h.2)) (fun _ h => h.1)); have n1_ := Aside0.mk (KeepBut.trans (mF HK.out) hk (.inl rfl)); have n2_ := Aside0.mk (hb); have n3_ := Aside0.mk (hi); clear HO350; clear HK; clear HB; clear HI0; have HO350 := n0_; have HK := n1_; have HB := n2_; have HI0 := n3_; clear n0_ n1_ n2_ n3_; (try clear hb); (try clear hk); (try clear hi)))
 go_loopg [3, 4] k (fun kq v3 v4 w' => ∃ (x3_1 : List (S50)) (x4_1 : Int) (x1001_1 : Int) (x1002_1 : Int), v4 = .int .i64 x4_1 ∧ Aside0 (spec_l11DrawDeep.l0 kq x3_1 x4_1 s0_0 x1001_1 x1002_1 = some (r1, r2, r3)) ∧ Aside0 (kq ≤ k) ∧ Aside0 (Kd.R k50 50 w' w.heap.size (fun _ => True) v3 x3_1) ∧ Aside0 (IsS77 w0 w' g s0_0 x1001_1 x1002_1) ∧ Aside0 (KeepBut w w' g none) ∧ Aside0 (Below w0.heap.size w0 w'))
 case atStart => exact ⟨(y348), (t351), (t352), (t353), (by first | rfl | (simp; done) | (simp [*]; done)), H', ⟨Nat.le_refl _⟩, ⟨mR HO350.out⟩, ⟨mI77 HI0.out⟩, ⟨mF HK.out⟩, ⟨mB1 (IsS77.ge HI0.out) HB.out⟩⟩
 case round =>
  clear H'
  obtain ⟨x3_1, x4_1, x1001_1, x1002_1, rfl, HA, HK1, HO_3, HI0, HK, HB⟩ := hrel
  cases gk with
  | zero => exact absurd HA.out (by simp [spec_l11DrawDeep.l0])
  | succ k1 =>
   have H := HA.out
   clear HA
   simp only [spec_l11DrawDeep.l0] at H
   by_cases c6 : x4_1 > 0
   ·rw [if_pos c6] at H
    have c6b0 : decide (0 < x4_1) = true := decide_eq_true c6
    clear c6
    replace H := Option.bind_eq_some_iff.mp H
    obtain ⟨⟨t354, t355, t356⟩, A70, H⟩ := H
    have A7 := Aside0.mk A70
    clear A70
    replace H := Option.bind_eq_some_iff.mp H
    obtain ⟨⟨t357, t358, t359, t360, t361, t362⟩, A80, H⟩ := H
    have A8 := Aside0.mk A80
    clear A80
    by_cases c9 : x3_1.length < 3518437208883
    ·rw [if_pos c9] at H
     have LMc9 := Aside0.mk c9
     clear c9
     obtain ⟨y363, hy363⟩ : ∃ y_ : List (S50), y_ = (x3_1 ++ [(⟨t354, (⟨t357, t358, t359, t360⟩ : S35)⟩ : S50)]) := ⟨_, rfl⟩
     replace H : (spec_l11DrawDeep.l0 k1 y363 (wrap64 (x4_1 - 1)) s0_0 t361 t362) = some (r1, r2, r3) := by first | (rw [hy363]; with_reducible exact H) | (have H2_ := (Option.bind_some _ _).symm.trans H; rw [hy363]; with_reducible exact H2_) | (have H2_ := (Option.bind_some _ _).symm.trans H; with_reducible exact H2_) | with_reducible exact H | (rw [hy363]; exact H) | exact H
     have Ny363 := Aside0.mk hy363
     clear hy363
     have H' := Aside0.mk H
     clear H
     go_wp2_with (first | ((with_reducible refine gate_callee (f := 37) rfl ?_); refine goesL_ (some 14) rfl rfl Try.func37 (by kernel_rfl) rfl #[.pointer (some ⟨g, 0, none⟩), .int .i64 6] rfl mT ?_; (with_reducible refine (spec_l1Below.calls g s0_0 x1001_1 x1002_1 6 t354 t355 t356 w0 _ ?side1 ?side2 A7.out).mono ?_); (case side1 => exact mI77 HI0.out); (case side2 => exact mB1 (IsS77.ge HI0.out) HB.out); rintro e w10 ⟨rfl, hi, hb, hk⟩; refine ⟨_, rfl, ?_⟩; have n0_ := Aside0.mk (Kd.R_mono (Kd.R_keep (IsS77.apart (show IsS77 w0 _ g s0_0 x1001_1 x1002_1 from mI77 HI0.out) (mR HO_3.out) (by decide)) hk (fun _ h => h.2)) (fun _ h => h.1)); have n1_ := Aside0.mk (KeepBut.trans (mF HK.out) hk (.inl rfl)); have n2_ := Aside0.mk (hb); have n3_ := Aside0.mk (hi); clear HO_3; clear HK; clear HB; clear HI0; have HO_3 := n0_; have HK := n1_; have HB := n2_; have HI0 := n3_; clear n0_ n1_ n2_ n3_; (try clear hb); (try clear hk); (try clear hi)) | ((with_reducible refine gate_callee (f := 69) rfl ?_); refine goesL_ (some 16) rfl rfl Try.func69 (by kernel_rfl) rfl #[.pointer (some ⟨g, 0, none⟩)] rfl mT ?_; (with_reducible refine (spec_l11DrawPx.calls g s0_0 t355 t356 t357 t358 t359 t360 t361 t362 w0 _ ?side1 ?side2 A8.out).mono ?_); (case side1 => exact mI77 HI0.out); (case side2 => exact mB1 (IsS77.ge HI0.out) HB.out); rintro e w11 ⟨rfl, hi, hb, hk⟩; refine ⟨_, rfl, ?_⟩; have n0_ := Aside0.mk (Kd.R_mono (Kd.R_keep (IsS77.apart (show IsS77 w0 _ g s0_0 t355 t356 from mI77 HI0.out) (mR HO_3.out) (by decide)) hk (fun _ h => h.2)) (fun _ h => h.1)); have n1_ := Aside0.mk (KeepBut.trans (mF HK.out) hk (.inl rfl)); have n2_ := Aside0.mk (hb); have n3_ := Aside0.mk (hi); clear HO_3; clear HK; clear HB; clear HI0; have HO_3 := n0_; have HK := n1_; have HB := n2_; have HI0 := n3_; clear n0_ n1_ n2_ n3_; (try clear hb); (try clear hk); (try clear hi)) | ((with_reducible refine gate_builtin (b := .append) (xs := #[.tmp 12, .tmp 18]) rfl ?_); (try (refine gate_guard (by rfl) ?_; dsimp only)); at_builtin; refine Kd.R_append k50 w.heap.size rfl (.tmp 12) (.tmp 18) 39 50 (.agg #[(.int .i64 0), (.int .i64 0), (.int .i64 0), (.int .i64 0), (.int .i64 0)]) 40 rfl Try.underlying39 info50 rfl (by decide) (by omega) u3 x3_1 (⟨t354, (⟨t357, t358, t359, t360⟩ : S35)⟩ : S50) [.int .i64 t354, .int .i64 t357, .int .i64 t358, .int .i64 t359, .int .i64 t360] (fun _ => True) (fun _ => False) rfl rfl ?aP (fun _ hk => hk.elim) ?aF ?aO (Below.refl _ _) ?aS ?aL ?_; (case aP => exact k50_mkM _ _ _ (⟨t354, (⟨t357, t358, t359, t360⟩ : S35)⟩ : S50)); (case aF => exact (fun _ _ => trivial)); (case aO => exact (mR HO_3.out)); (case aS => exact (keep_size (w := w) (g := g) (row := none) (mF HK.out))); (case aL => have := LMc9.out; omega); intro v364 w12 ho hb hg hat; rw [← Ny363.out] at ho; have n0_ := Aside0.mk (IsS77.grown (mI77 HI0.out) hg (IsS77.own_ne HI0.out HO_3.out (by decide))); have n1_ := Aside0.mk (below_weaken (mB1 (IsS77.ge HI0.out) HB.out) HL.out hb); have n2_ := Aside0.mk (KeepBut.trans (mF HK.out) (KeepBut.of_grown hg g) (Kd.R_base2 HO_3.out)); have n3_ := Aside0.mk (ho); clear HI0; clear HB; clear HK; clear HO_3; have HI0 := n0_; have HB := n1_; have HK := n2_; have HO365 := n3_; clear n0_ n1_ n2_ n3_; clear ho hb hg hat))
     go_roundg k1
     case measure => have := HK1.out; omega
     case rel => exact ⟨(y363), (wrap64 (x4_1 - 1)), (t361), (t362), (by first | rfl | (simp; done) | (simp [*]; done)), H', ⟨by have := HK1.out; omega⟩, ⟨mR HO365.out⟩, ⟨mI77 HI0.out⟩, ⟨mF HK.out⟩, ⟨mB1 (IsS77.ge HI0.out) HB.out⟩⟩
    ·rw [if_neg c9] at H
     exact absurd H (by simp)
   ·rw [if_neg c6] at H
    have c6b0 : decide (0 < x4_1) = false := decide_eq_false c6
    clear c6
    have HC13 := Aside0.mk H
    clear H
    go_upto_region 6 with (fail)
    go_cut [26] (fun v26 wc => ∃ (kq : Nat) (x26_12 : Bool) (x1001_12 : Int) (x1002_12 : Int), v26 = .bool x26_12 ∧ Aside0 (spec_l11DrawDeep.j1 kq x3_1 x26_12 s0_0 x1001_12 x1002_12 = some (r1, r2, r3)) ∧ Aside0 (kq ≤ k1) ∧ Aside0 (Kd.R k50 50 wc w.heap.size (fun _ => True) u3 x3_1) ∧ Aside0 (IsS77 w0 wc g s0_0 x1001_12 x1002_12) ∧ Aside0 (KeepBut w wc g none) ∧ Aside0 (Below w0.heap.size w0 wc))
    case first =>
     have H := HC13.out
     clear HC13
     replace H := Option.bind_eq_some_iff.mp H
     obtain ⟨⟨t366, t367, t368⟩, A140, H⟩ := H
     have A14 := Aside0.mk A140
     clear A140
     by_cases c15 : t366 = true
     ·subst c15
      have H1 := H; rw [if_pos rfl] at H1
      clear H
      have H := H1
      clear H1
      have H' := Aside0.mk H
      clear H
      go_wp2_with (first | ((with_reducible refine gate_callee (f := 39) rfl ?_); refine goesL_ (some 21) rfl rfl Try.func39 (by kernel_rfl) rfl #[.pointer (some ⟨g, 0, none⟩), .int .i64 24] rfl mT ?_; (with_reducible refine (spec_l1Once.calls g s0_0 x1001_1 x1002_1 24 true t367 t368 w0 _ ?side1 ?side2 A14.out).mono ?_); (case side1 => exact mI77 HI0.out); (case side2 => exact mB1 (IsS77.ge HI0.out) HB.out); rintro e w16 ⟨rfl, hi, hb, hk⟩; refine ⟨_, rfl, ?_⟩; have n0_ := Aside0.mk (Kd.R_mono (Kd.R_keep (IsS77.apart (show IsS77 w0 _ g s0_0 x1001_1 x1002_1 from mI77 HI0.out) (mR HO_3.out) (by decide)) hk (fun _ h => h.2)) (fun _ h => h.1)); have n1_ := Aside0.mk (KeepBut.trans (mF HK.out) hk (.inl rfl)); have n2_ := Aside0.mk (hb); have n3_ := Aside0.mk (hi); clear HO_3; clear HK; clear HB; clear HI0; have HO_3 := n0_; have HK := n1_; have HB := n2_; have HI0 := n3_; clear n0_ n1_ n2_ n3_; (try clear hb); (try clear hk); (try clear hi); obtain ⟨Ao17, co17, eo17⟩ := Kd.R_slice HO_3.out; subst eo17))
      go_meet
      case rel => exact ⟨_, (decide ((x3_1.length : Int) > 0)), (t367), (t368), (by first | rfl | (simp; done) | (simp [*]; done)), H', ⟨by have := HK1.out; first | omega | exact Nat.le_refl _⟩, ⟨mR HO_3.out⟩, ⟨mI77 HI0.out⟩, ⟨mF HK.out⟩, ⟨mB1 (IsS77.ge HI0.out) HB.out⟩⟩
     ·replace c15 := Bool.eq_false_iff.mpr c15
      subst c15
      have H1 := H; rw [if_neg (show ¬ (false = true) by decide)] at H1
      clear H
      have H := H1
      clear H1
      have H' := Aside0.mk H
      clear H
      go_wp2_with (first | ((with_reducible refine gate_callee (f := 39) rfl ?_); refine goesL_ (some 21) rfl rfl Try.func39 (by kernel_rfl) rfl #[.pointer (some ⟨g, 0, none⟩), .int .i64 24] rfl mT ?_; (with_reducible refine (spec_l1Once.calls g s0_0 x1001_1 x1002_1 24 false t367 t368 w0 _ ?side1 ?side2 A14.out).mono ?_); (case side1 => exact mI77 HI0.out); (case side2 => exact mB1 (IsS77.ge HI0.out) HB.out); rintro e w18 ⟨rfl, hi, hb, hk⟩; refine ⟨_, rfl, ?_⟩; have n0_ := Aside0.mk (Kd.R_mono (Kd.R_keep (IsS77.apart (show IsS77 w0 _ g s0_0 x1001_1 x1002_1 from mI77 HI0.out) (mR HO_3.out) (by decide)) hk (fun _ h => h.2)) (fun _ h => h.1)); have n1_ := Aside0.mk (KeepBut.trans (mF HK.out) hk (.inl rfl)); have n2_ := Aside0.mk (hb); have n3_ := Aside0.mk (hi); clear HO_3; clear HK; clear HB; clear HI0; have HO_3 := n0_; have HK := n1_; have HB := n2_; have HI0 := n3_; clear n0_ n1_ n2_ n3_; (try clear hb); (try clear hk); (try clear hi)))
      go_meet
      case rel => exact ⟨_, (false), (t367), (t368), (by first | rfl | (simp; done) | (simp [*]; done)), H', ⟨by have := HK1.out; first | omega | exact Nat.le_refl _⟩, ⟨mR HO_3.out⟩, ⟨mI77 HI0.out⟩, ⟨mF HK.out⟩, ⟨mB1 (IsS77.ge HI0.out) HB.out⟩⟩
    case rest =>
     clear HC13
     try clear c6b0
     obtain ⟨kq, x26_12, x1001_12, x1002_12, rfl, HA, HJ12, HO_3, HI0, HK, HB⟩ := hcut
     cases kq with
     | zero => exact absurd HA.out (by simp [spec_l11DrawDeep.j1])
     | succ kj12 =>
      have H := HA.out
      clear HA
      simp only [spec_l11DrawDeep.j1] at H
      have HC19 := Aside0.mk H
      clear H
      go_upto_if 26 with (fail)
      go_cut [] (fun wc => ∃ (kq : Nat) (x3_18 : List (S50)) (x1001_18 : Int) (x1002_18 : Int), Aside0 (spec_l11DrawDeep.j2 kq x3_18 s0_0 x1001_18 x1002_18 = some (r1, r2, r3)) ∧ Aside0 (kq ≤ kj12) ∧ Aside0 (Kd.R k50 50 wc w.heap.size (fun _ => True) u3 x3_18) ∧ Aside0 (IsS77 w0 wc g s0_0 x1001_18 x1002_18) ∧ Aside0 (KeepBut w wc g none) ∧ Aside0 (Below w0.heap.size w0 wc))
      case first =>
       have H := HC19.out
       clear HC19
       by_cases c20 : x26_12 = true
       ·subst c20
        have H1 := H; rw [if_pos rfl] at H1
        clear H
        have H := H1
        clear H1
        obtain ⟨y369, hy369⟩ : ∃ y_ : List Int, y_ = (([(-1), 10000000, 10000001] : List Int)) := ⟨_, rfl⟩
        replace H : ((spec_l1Below.f s0_0 x1001_12 x1002_12 3).bind fun bt372 => (if 0 ≤ bt372.1 then (if bt372.1 < (y369.length : Int) then (if 0 < (x3_1.length : Int) then (spec_l11DrawDeep.j2 kj12 (x3_1.set (0 : Int).toNat (⟨rd y369 bt372.1, (⟨(rd_T50 x3_1 0).f1.f0, (rd_T50 x3_1 0).f1.f1, (rd_T50 x3_1 0).f1.f2, (rd_T50 x3_1 0).f1.f3⟩ : S35)⟩ : S50)) s0_0 bt372.2.1 bt372.2.2) else (none)) else (none)) else (none))) = some (r1, r2, r3) := by first | (rw [hy369]; with_reducible exact H) | (have H2_ := (Option.bind_some _ _).symm.trans H; rw [hy369]; with_reducible exact H2_) | (have H2_ := (Option.bind_some _ _).symm.trans H; with_reducible exact H2_) | with_reducible exact H | (rw [hy369]; exact H) | exact H
        have Ny369 := Aside0.mk hy369
        clear hy369
        replace H := Option.bind_eq_some_iff.mp H
        obtain ⟨⟨t372, t373, t374⟩, A210, H⟩ := H
        have A21 := Aside0.mk A210
        clear A210
        by_cases c22 : 0 ≤ t372
        ·rw [if_pos c22] at H
         have c22b0 : decide (0 ≤ t372) = true := decide_eq_true c22
         clear c22
         (first | rw [c22b0] | (simp only [i64_w, i32_w]; rw [c22b0]) | skip)
         by_cases c23 : t372 < (y369.length : Int)
         ·rw [if_pos c23] at H
          have c23b0 : decide (t372 < (y369.length : Int)) = true := decide_eq_true c23
          clear c23
          by_cases c24 : 0 < (x3_1.length : Int)
          ·rw [if_pos c24] at H
           have c24b0 : decide (0 < (x3_1.length : Int)) = true := decide_eq_true c24
           have c24b1 : decide (0 < x3_1.length) = true := decide_eq_true (by omega)
           clear c24
           obtain ⟨y376, hy376⟩ : ∃ y_ : List (S50), y_ = (x3_1.set (0 : Int).toNat (⟨rd y369 t372, (⟨(rd_T50 x3_1 0).f1.f0, (rd_T50 x3_1 0).f1.f1, (rd_T50 x3_1 0).f1.f2, (rd_T50 x3_1 0).f1.f3⟩ : S35)⟩ : S50)) := ⟨_, rfl⟩
           replace H : (spec_l11DrawDeep.j2 kj12 y376 s0_0 t373 t374) = some (r1, r2, r3) := by first | (rw [hy376]; with_reducible exact H) | (have H2_ := (Option.bind_some _ _).symm.trans H; rw [hy376]; with_reducible exact H2_) | (have H2_ := (Option.bind_some _ _).symm.trans H; with_reducible exact H2_) | with_reducible exact H | (rw [hy376]; exact H) | exact H
           have Ny376 := Aside0.mk hy376
           clear hy376
           have H' := Aside0.mk H
           clear H
           go_wp2_with (first | ((with_reducible refine gate_dst (N := 28) rfl ?_); (try (refine gate_guard (by rfl) ?_; dsimp only)); refine Kd.R_lit (Kd.int .i64) _ 2 ?hg (N := 28) ?hd (xs := ([(-1), 10000000, 10000001] : List Int)) (inner := [.int .i64 (-1), .int .i64 10000000, .int .i64 10000001]) (ok := fun _ => True) (okp := fun _ => True) ?hr ?hp (fun _ hk => hk) trivial (Below.refl _ _) (Nat.le_refl _) (by simp) ?_; (case hd => rfl); (case hg => rfl); (case hr => first | (go_simp; done) | (go_simp; rfl)); (case hp => exact (Reps.one (show Kd.M (Kd.int .i64) _ _ _ (-1) [.int .i64 (-1)] from rfl) (Reps.one (show Kd.M (Kd.int .i64) _ _ _ 10000000 [.int .i64 10000000] from rfl) (Reps.one (show Kd.M (Kd.int .i64) _ _ _ 10000001 [.int .i64 10000001] from rfl) (Reps.none _ _))))); intro v370 w26 ho27 hb hg_ hnew_; clear hg_ hnew_; (first | rw [← Ny369.out] at ho27 | (simp only [Int.reduceToNat] at ho27; rw [← Ny369.out] at ho27)); have n0_ := Aside0.mk (Kd.R_below (mR HO_3.out) hb); have n1_ := Aside0.mk (Kd.R_lower ho27 (keep_size (w := w) (g := g) (row := none) (mF HK.out))); have n2_ := Aside0.mk (IsS77.below (mI77 HI0.out) hb); have n3_ := Aside0.mk (KeepBut.trans (mF HK.out) (KeepBut.of_below hb g none) (.inl rfl)); have n4_ := Aside0.mk (below_step (mB1 (IsS77.ge HI0.out) HB.out) hb); clear HO_3; clear HI0; clear HK; clear HB; have HO_3 := n0_; have HO371 := n1_; have HI0 := n2_; have HK := n3_; have HB := n4_; clear n0_ n1_ n2_ n3_ n4_; clear hb ho27) | ((with_reducible refine gate_callee (f := 37) rfl ?_); refine goesL_ (some 30) rfl rfl Try.func37 (by kernel_rfl) rfl #[.pointer (some ⟨g, 0, none⟩), .int .i64 3] rfl mT ?_; (with_reducible refine (spec_l1Below.calls g s0_0 x1001_12 x1002_12 3 t372 t373 t374 w0 _ ?side1 ?side2 A21.out).mono ?_); (case side1 => exact mI77 HI0.out); (case side2 => exact mB1 (IsS77.ge HI0.out) HB.out); rintro e w28 ⟨rfl, hi, hb, hk⟩; refine ⟨_, rfl, ?_⟩; have n0_ := Aside0.mk (Kd.R_mono (Kd.R_keep (IsS77.apart (show IsS77 w0 _ g s0_0 x1001_12 x1002_12 from mI77 HI0.out) (mR HO_3.out) (by decide)) hk (fun _ h => h.2)) (fun _ h => h.1)); have n1_ := Aside0.mk (Kd.R_mono (Kd.R_keep (IsS77.apart (show IsS77 w0 _ g s0_0 x1001_12 x1002_12 from mI77 HI0.out) (mR HO371.out) (by decide)) hk (fun _ h => h.2)) (fun _ h => h.1)); have n2_ := Aside0.mk (KeepBut.trans (mF HK.out) hk (.inl rfl)); have n3_ := Aside0.mk (hb); have n4_ := Aside0.mk (hi); clear HO_3; clear HO371; clear HK; clear HB; clear HI0; have HO_3 := n0_; have HO371 := n1_; have HK := n2_; have HB := n3_; have HI0 := n4_; clear n0_ n1_ n2_ n3_ n4_; (try clear hb); (try clear hk); (try clear hi); obtain ⟨Ao29, co29, eo29⟩ := Kd.R_slice HO371.out; subst eo29; have p375 : 0 ≤ (t372 : Int) := of_decide_eq_true (by first | (with_reducible assumption) | assumption); have q375 : t372 < (y369.length : Int) := of_decide_eq_true (by first | (with_reducible assumption) | assumption); obtain ⟨ad375, e375, hx375_0⟩ := Kd.at_int (Kd.R_reads' HO371.out).2.2 t372 p375 q375; cases e375; replace p375 := eq_true p375; replace q375 := eq_true q375; have p25 : 0 ≤ (0 : Int) := (by omega); have q25 : (0 : Int) < ((x3_1.length : Int) : Int) := of_decide_eq_true (by first | (with_reducible assumption) | assumption); have qi25 : (0 < x3_1.length) = True := eq_true (by omega); obtain ⟨go25, co25, eo25, gb25, gl25, cl25, HG25⟩ := Kd.R_form HO_3.out (by omega); (first | cases eo25 | (injection eo25 with ea_ en_ ec_; (first | subst ea_ | (injection ea_ with ea_; subst ea_)); subst ec_; clear en_)); have GB25 := Aside0.mk gb25; have GG25 := Aside0.mk HG25; clear gb25 gl25 HG25; obtain ⟨ce25, hcl25, hM25, hcc25, hfr25⟩ := Kd.R_elem HO_3.out z50 (0 : Int) p25 q25; obtain rfl := k50_openM hM25; have hx25_0 : w28.cell? ⟨go25, (0 : Int).toNat * 5, none⟩ = some (.int .i64 ((rd_T50 x3_1 0).f0)) := hcc25 0 _ rfl; have hx25_1 : w28.cell? ⟨go25, (0 : Int).toNat * 5 + 1, none⟩ = some (.int .i64 ((rd_T50 x3_1 0).f1.f0)) := hcc25 1 _ rfl; have hx25_2 : w28.cell? ⟨go25, (0 : Int).toNat * 5 + 2, none⟩ = some (.int .i64 ((rd_T50 x3_1 0).f1.f1)) := hcc25 2 _ rfl; have hx25_3 : w28.cell? ⟨go25, (0 : Int).toNat * 5 + 3, none⟩ = some (.int .i64 ((rd_T50 x3_1 0).f1.f2)) := hcc25 3 _ rfl; have hx25_4 : w28.cell? ⟨go25, (0 : Int).toNat * 5 + 4, none⟩ = some (.int .i64 ((rd_T50 x3_1 0).f1.f3)) := hcc25 4 _ rfl; have hf25_0 : w28.frozen? ⟨go25, (0 : Int).toNat * 5, none⟩ = false := hfr25 0; have hf25_1 : w28.frozen? ⟨go25, (0 : Int).toNat * 5 + 1, none⟩ = false := hfr25 1; have hf25_2 : w28.frozen? ⟨go25, (0 : Int).toNat * 5 + 2, none⟩ = false := hfr25 2; have hf25_3 : w28.frozen? ⟨go25, (0 : Int).toNat * 5 + 3, none⟩ = false := hfr25 3; have hf25_4 : w28.frozen? ⟨go25, (0 : Int).toNat * 5 + 4, none⟩ = false := hfr25 4; clear hcl25 hcc25 hfr25 hM25; (try rw [show ((0 : Int)).toNat = 0 from rfl] at hx25_0); (try simp only [Nat.reduceMul, Nat.zero_mul, Nat.zero_add, Nat.reduceAdd] at hx25_0); (try rw [show ((0 : Int)).toNat = 0 from rfl] at hf25_0); (try simp only [Nat.reduceMul, Nat.zero_mul, Nat.zero_add, Nat.reduceAdd] at hf25_0); (try rw [show ((0 : Int)).toNat = 0 from rfl] at hx25_1); (try simp only [Nat.reduceMul, Nat.zero_mul, Nat.zero_add, Nat.reduceAdd] at hx25_1); (try rw [show ((0 : Int)).toNat = 0 from rfl] at hf25_1); (try simp only [Nat.reduceMul, Nat.zero_mul, Nat.zero_add, Nat.reduceAdd] at hf25_1); (try rw [show ((0 : Int)).toNat = 0 from rfl] at hx25_2); (try simp only [Nat.reduceMul, Nat.zero_mul, Nat.zero_add, Nat.reduceAdd] at hx25_2); (try rw [show ((0 : Int)).toNat = 0 from rfl] at hf25_2); (try simp only [Nat.reduceMul, Nat.zero_mul, Nat.zero_add, Nat.reduceAdd] at hf25_2); (try rw [show ((0 : Int)).toNat = 0 from rfl] at hx25_3); (try simp only [Nat.reduceMul, Nat.zero_mul, Nat.zero_add, Nat.reduceAdd] at hx25_3); (try rw [show ((0 : Int)).toNat = 0 from rfl] at hf25_3); (try simp only [Nat.reduceMul, Nat.zero_mul, Nat.zero_add, Nat.reduceAdd] at hf25_3); (try rw [show ((0 : Int)).toNat = 0 from rfl] at hx25_4); (try simp only [Nat.reduceMul, Nat.zero_mul, Nat.zero_add, Nat.reduceAdd] at hx25_4); (try rw [show ((0 : Int)).toNat = 0 from rfl] at hf25_4); (try simp only [Nat.reduceMul, Nat.zero_mul, Nat.zero_add, Nat.reduceAdd] at hf25_4); replace p25 := eq_true p25; replace q25 := eq_true q25; have HX30 := Aside0.mk (show Kd.R k50 50 w28 w.heap.size (fun _ => True) (.slice (some ⟨go25, 0, none⟩) x3_1.length co25) x3_1 from (mR HO_3.out)); obtain ⟨ce30, hcl30, hM30, hcc30, hfr30⟩ := Kd.R_elem HX30.out z50 (0 : Int) (by omega) (by have h_ : (0 : Int) < ((x3_1.length : Int) : Int) := of_decide_eq_true (by first | (with_reducible assumption) | assumption); first | exact h_ | (have e_ := (Kd.R_reads' HO_3.out).1; omega) | simpa using h_); obtain rfl := k50_openM hM30; have HP30 := Kd.R_seg HX30.out (0 : Int) (by omega) (by have h_ : (0 : Int) < ((x3_1.length : Int) : Int) := of_decide_eq_true (by first | (with_reducible assumption) | assumption); first | exact h_ | (have e_ := (Kd.R_reads' HO_3.out).1; omega) | simpa using h_) (seg := [.int .i64 (rd y369 t372)]) (j := 0) hcl30 hcc30 (show 1 ≤ 5 from by decide) (x' := (⟨rd y369 t372, (⟨(rd_T50 x3_1 0).f1.f0, (rd_T50 x3_1 0).f1.f1, (rd_T50 x3_1 0).f1.f2, (rd_T50 x3_1 0).f1.f3⟩ : S35)⟩ : S50)) (k50_mkM _ _ _ (⟨rd y369 t372, (⟨(rd_T50 x3_1 0).f1.f0, (rd_T50 x3_1 0).f1.f1, (rd_T50 x3_1 0).f1.f2, (rd_T50 x3_1 0).f1.f3⟩ : S35)⟩ : S50) ) (fun _ hk => hk); have hx30_0 := hcc30 0 _ rfl; (try simp only [show (k50).sz = 5 from rfl, Nat.mul_one, Nat.add_zero] at hx30_0); (try rw [show ((0 : Int)).toNat = 0 from rfl] at hx30_0); (try simp only [Nat.reduceMul, Nat.zero_mul, Nat.zero_add, Nat.reduceAdd] at hx30_0); have hf30_0 := hfr30 0; (try simp only [show (k50).sz = 5 from rfl, Nat.mul_one, Nat.add_zero] at hf30_0); (try rw [show ((0 : Int)).toNat = 0 from rfl] at hf30_0); (try simp only [Nat.reduceMul, Nat.zero_mul, Nat.zero_add, Nat.reduceAdd] at hf30_0); clear hcl30 hcc30 hfr30 hM30) | ((with_reducible refine gate_store (t := 2) (p := 34) rfl ?_); refine store_event (t := 2) (p := 34) (v := ?vo_w31) (w1 := (w28.setCell ⟨go25, 0, none⟩ (.int .i64 (rd y369 t372)))) ?hg ?ho ?hn ?hr ?_; (case ho => rfl); (case hg => rfl); (case hn => rfl); (case hr => first | (go_simp; done) | (go_simp; rfl)); intro w31 hw; have hg : w28.grownBy w31 (some go25) := (by rw [hw]; exact HP30.2); have hp_ : Kd.R k50 50 w31 w.heap.size (fun _ => True) (.slice (some ⟨go25, 0, none⟩) x3_1.length co25) y376 := (by rw [hw, Ny376.out]; exact HP30.1); clear HP30; have n0_ := Aside0.mk (hp_); have n1_ := Aside0.mk (IsS77.grown (mI77 HI0.out) hg (IsS77.own_ne HI0.out HO_3.out (by decide))); have n2_ := Aside0.mk (Kd.R_over' (v := (.slice (some ⟨go25, 0, none⟩) x3_1.length co25)) (mR HO371.out) (Kd.R_typed HO_3.out) (by decide) hg); have n3_ := Aside0.mk ((by rw [hw]; exact below_set (HB.out) (Nat.le_trans HL.out GB25.out) : Below w0.heap.size w0 w31)); have n4_ := Aside0.mk (KeepBut.trans (mF HK.out) (KeepBut.of_grown hg g) (Kd.R_base2 HO_3.out)); clear HO_3; clear HI0; clear HO371; clear HB; clear HK; have HO_3 := n0_; have HI0 := n1_; have HO371 := n2_; have HB := n3_; have HK := n4_; clear n0_ n1_ n2_ n3_ n4_; clear hg hw hp_))
           go_meet
           case rel => exact ⟨_, (y376), (t373), (t374), H', ⟨by have := HK1.out; have := HJ12.out; first | omega | exact Nat.le_refl _⟩, ⟨mR HO_3.out⟩, ⟨mI77 HI0.out⟩, ⟨mF HK.out⟩, ⟨mB1 (IsS77.ge HI0.out) HB.out⟩⟩
          ·rw [if_neg c24] at H
           exact absurd H (by simp)
         ·rw [if_neg c23] at H
          exact absurd H (by simp)
        ·rw [if_neg c22] at H
         exact absurd H (by simp)
       ·replace c20 := Bool.eq_false_iff.mpr c20
        subst c20
        have H1 := H; rw [if_neg (show ¬ (false = true) by decide)] at H1
        clear H
        have H := H1
        clear H1
        have H' := Aside0.mk H
        clear H
        go_wp2
        go_meet
        case rel => exact ⟨_, (x3_1), (x1001_12), (x1002_12), H', ⟨by have := HK1.out; have := HJ12.out; first | omega | exact Nat.le_refl _⟩, ⟨mR HO_3.out⟩, ⟨mI77 HI0.out⟩, ⟨mF HK.out⟩, ⟨mB1 (IsS77.ge HI0.out) HB.out⟩⟩
      case rest =>
       clear HC19
       obtain ⟨kq, x3_18, x1001_18, x1002_18, HA, HJ18, HO_3, HI0, HK, HB⟩ := hcut
       cases kq with
       | zero => exact absurd HA.out (by simp [spec_l11DrawDeep.j2])
       | succ kj18 =>
        have H := HA.out
        clear HA
        simp only [spec_l11DrawDeep.j2] at H
        replace H := Option.bind_eq_some_iff.mp H
        obtain ⟨⟨t377, t378, t379⟩, A320, H⟩ := H
        have A32 := Aside0.mk A320
        clear A320
        by_cases c33 : t377 = true
        ·subst c33
         have H1 := H; rw [if_pos rfl] at H1
         clear H
         have H := H1
         clear H1
         have H' := Aside0.mk H
         clear H
         go_wp2_with (first | ((with_reducible refine gate_callee (f := 39) rfl ?_); refine goesL_ (some 36) rfl rfl Try.func39 (by kernel_rfl) rfl #[.pointer (some ⟨g, 0, none⟩), .int .i64 40] rfl mT ?_; (with_reducible refine (spec_l1Once.calls g s0_0 x1001_18 x1002_18 40 true t378 t379 w0 _ ?side1 ?side2 A32.out).mono ?_); (case side1 => exact mI77 HI0.out); (case side2 => exact mB1 (IsS77.ge HI0.out) HB.out); rintro e w34 ⟨rfl, hi, hb, hk⟩; refine ⟨_, rfl, ?_⟩; have n0_ := Aside0.mk (Kd.R_mono (Kd.R_keep (IsS77.apart (show IsS77 w0 _ g s0_0 x1001_18 x1002_18 from mI77 HI0.out) (mR HO_3.out) (by decide)) hk (fun _ h => h.2)) (fun _ h => h.1)); have n1_ := Aside0.mk (KeepBut.trans (mF HK.out) hk (.inl rfl)); have n2_ := Aside0.mk (hb); have n3_ := Aside0.mk (hi); clear HO_3; clear HK; clear HB; clear HI0; have HO_3 := n0_; have HK := n1_; have HB := n2_; have HI0 := n3_; clear n0_ n1_ n2_ n3_; (try clear hb); (try clear hk); (try clear hi)))
         go_simp
         go_loopg [3] kj18 (fun kq v3 w' => ∃ (x3_4 : List (S50)) (x1001_4 : Int) (x1002_4 : Int), Aside0 (spec_l11DrawDeep.l1 kq x3_4 s0_0 x1001_4 x1002_4 = some (r1, r2, r3)) ∧ Aside0 (kq ≤ kj18) ∧ Aside0 (Kd.R k50 50 w' w.heap.size (fun _ => True) v3 x3_4) ∧ Aside0 (IsS77 w0 w' g s0_0 x1001_4 x1002_4) ∧ Aside0 (KeepBut w w' g none) ∧ Aside0 (Below w0.heap.size w0 w'))
         case atStart => exact ⟨(x3_18), (t378), (t379), H', ⟨Nat.le_refl _⟩, ⟨mR HO_3.out⟩, ⟨mI77 HI0.out⟩, ⟨mF HK.out⟩, ⟨mB1 (IsS77.ge HI0.out) HB.out⟩⟩
         case round =>
          clear H'
          obtain ⟨x3_4, x1001_4, x1002_4, HA, HK4, HO_3, HI0, HK, HB⟩ := hrel
          cases gk with
          | zero => exact absurd HA.out (by simp [spec_l11DrawDeep.l1])
          | succ k4 =>
           have H := HA.out
           clear HA
           simp only [spec_l11DrawDeep.l1] at H
           replace H := Option.bind_eq_some_iff.mp H
           obtain ⟨⟨t380, t381, t382⟩, A350, H⟩ := H
           have A35 := Aside0.mk A350
           clear A350
           by_cases c36 : (x3_4.length : Int) < (wrap64 (200 + t380))
           ·rw [if_pos c36] at H
            have c36b0 : decide ((x3_4.length : Int) < (wrap64 (200 + t380))) = true := decide_eq_true c36
            clear c36
            replace H := Option.bind_eq_some_iff.mp H
            obtain ⟨⟨t383, t384, t385⟩, A370, H⟩ := H
            have A37 := Aside0.mk A370
            clear A370
            by_cases c38 : x3_4.length < 3518437208883
            ·rw [if_pos c38] at H
             have LMc38 := Aside0.mk c38
             clear c38
             obtain ⟨y386, hy386⟩ : ∃ y_ : List (S50), y_ = (x3_4 ++ [(⟨t383, (⟨1, 0, 0, 3⟩ : S35)⟩ : S50)]) := ⟨_, rfl⟩
             replace H : (spec_l11DrawDeep.l1 k4 y386 s0_0 t384 t385) = some (r1, r2, r3) := by first | (rw [hy386]; with_reducible exact H) | (have H2_ := (Option.bind_some _ _).symm.trans H; rw [hy386]; with_reducible exact H2_) | (have H2_ := (Option.bind_some _ _).symm.trans H; with_reducible exact H2_) | with_reducible exact H | (rw [hy386]; exact H) | exact H
             have Ny386 := Aside0.mk hy386
             clear hy386
             have H' := Aside0.mk H
             clear H
             obtain ⟨Ao39, co39, eo39⟩ := Kd.R_slice HO_3.out
             subst eo39
             go_wp2_with (first | ((with_reducible refine gate_callee (f := 37) rfl ?_); refine goesL_ (some 40) rfl rfl Try.func37 (by kernel_rfl) rfl #[.pointer (some ⟨g, 0, none⟩), .int .i64 2] rfl mT ?_; (with_reducible refine (spec_l1Below.calls g s0_0 x1001_4 x1002_4 2 t380 t381 t382 w0 _ ?side1 ?side2 A35.out).mono ?_); (case side1 => exact mI77 HI0.out); (case side2 => exact mB1 (IsS77.ge HI0.out) HB.out); rintro e w40 ⟨rfl, hi, hb, hk⟩; refine ⟨_, rfl, ?_⟩; have n0_ := Aside0.mk (Kd.R_mono (Kd.R_keep (IsS77.apart (show IsS77 w0 _ g s0_0 x1001_4 x1002_4 from mI77 HI0.out) (mR HO_3.out) (by decide)) hk (fun _ h => h.2)) (fun _ h => h.1)); have n1_ := Aside0.mk (KeepBut.trans (mF HK.out) hk (.inl rfl)); have n2_ := Aside0.mk (hb); have n3_ := Aside0.mk (hi); clear HO_3; clear HK; clear HB; clear HI0; have HO_3 := n0_; have HK := n1_; have HB := n2_; have HI0 := n3_; clear n0_ n1_ n2_ n3_; (try clear hb); (try clear hk); (try clear hi)) | ((with_reducible refine gate_callee (f := 37) rfl ?_); refine goesL_ (some 45) rfl rfl Try.func37 (by kernel_rfl) rfl #[.pointer (some ⟨g, 0, none⟩), .int .i64 9] rfl mT ?_; (with_reducible refine (spec_l1Below.calls g s0_0 t381 t382 9 t383 t384 t385 w0 _ ?side1 ?side2 A37.out).mono ?_); (case side1 => exact mI77 HI0.out); (case side2 => exact mB1 (IsS77.ge HI0.out) HB.out); rintro e w41 ⟨rfl, hi, hb, hk⟩; refine ⟨_, rfl, ?_⟩; have n0_ := Aside0.mk (Kd.R_mono (Kd.R_keep (IsS77.apart (show IsS77 w0 _ g s0_0 t381 t382 from mI77 HI0.out) (mR HO_3.out) (by decide)) hk (fun _ h => h.2)) (fun _ h => h.1)); have n1_ := Aside0.mk (KeepBut.trans (mF HK.out) hk (.inl rfl)); have n2_ := Aside0.mk (hb); have n3_ := Aside0.mk (hi); clear HO_3; clear HK; clear HB; clear HI0; have HO_3 := n0_; have HK := n1_; have HB := n2_; have HI0 := n3_; clear n0_ n1_ n2_ n3_; (try clear hb); (try clear hk); (try clear hi)) | ((with_reducible refine gate_builtin (b := .append) (xs := #[.tmp 43, .tmp 48]) rfl ?_); (try (refine gate_guard (by rfl) ?_; dsimp only)); at_builtin; refine Kd.R_append k50 w.heap.size rfl (.tmp 43) (.tmp 48) 39 50 (.agg #[(.int .i64 0), (.int .i64 0), (.int .i64 0), (.int .i64 0), (.int .i64 0)]) 40 rfl Try.underlying39 info50 rfl (by decide) (by omega) (.slice Ao39 x3_4.length co39) x3_4 (⟨t383, (⟨1, 0, 0, 3⟩ : S35)⟩ : S50) [.int .i64 t383, .int .i64 1, .int .i64 0, .int .i64 0, .int .i64 3] (fun _ => True) (fun _ => False) rfl rfl ?aP (fun _ hk => hk.elim) ?aF ?aO (Below.refl _ _) ?aS ?aL ?_; (case aP => exact k50_mkM _ _ _ (⟨t383, (⟨1, 0, 0, 3⟩ : S35)⟩ : S50)); (case aF => exact (fun _ _ => trivial)); (case aO => exact (mR HO_3.out)); (case aS => exact (keep_size (w := w) (g := g) (row := none) (mF HK.out))); (case aL => have := LMc38.out; omega); intro v387 w42 ho hb hg hat; rw [← Ny386.out] at ho; have n0_ := Aside0.mk (IsS77.grown (mI77 HI0.out) hg (IsS77.own_ne HI0.out HO_3.out (by decide))); have n1_ := Aside0.mk (below_weaken (mB1 (IsS77.ge HI0.out) HB.out) HL.out hb); have n2_ := Aside0.mk (KeepBut.trans (mF HK.out) (KeepBut.of_grown hg g) (Kd.R_base2 HO_3.out)); have n3_ := Aside0.mk (ho); clear HI0; clear HB; clear HK; clear HO_3; have HI0 := n0_; have HB := n1_; have HK := n2_; have HO388 := n3_; clear n0_ n1_ n2_ n3_; clear ho hb hg hat))
             go_roundg k4
             case measure => have := HK1.out; have := HJ12.out; have := HJ18.out; have := HK4.out; omega
             case rel => exact ⟨(y386), (t384), (t385), H', ⟨by have := HK1.out; have := HJ12.out; have := HJ18.out; have := HK4.out; omega⟩, ⟨mR HO388.out⟩, ⟨mI77 HI0.out⟩, ⟨mF HK.out⟩, ⟨mB1 (IsS77.ge HI0.out) HB.out⟩⟩
            ·rw [if_neg c38] at H
             exact absurd H (by simp)
           ·rw [if_neg c36] at H
            have c36b0 : decide ((x3_4.length : Int) < (wrap64 (200 + t380))) = false := decide_eq_false c36
            clear c36
            simp only [Option.some.injEq, Prod.mk.injEq] at H
            obtain ⟨rfl, rfl, rfl⟩ := H
            obtain ⟨Ao43, co43, eo43⟩ := Kd.R_slice HO_3.out
            subst eo43
            go_wp2_with (first | ((with_reducible refine gate_callee (f := 37) rfl ?_); refine goesL_ (some 40) rfl rfl Try.func37 (by kernel_rfl) rfl #[.pointer (some ⟨g, 0, none⟩), .int .i64 2] rfl mT ?_; (with_reducible refine (spec_l1Below.calls g s0_0 x1001_4 x1002_4 2 t380 t381 t382 w0 _ ?side1 ?side2 A35.out).mono ?_); (case side1 => exact mI77 HI0.out); (case side2 => exact mB1 (IsS77.ge HI0.out) HB.out); rintro e w44 ⟨rfl, hi, hb, hk⟩; refine ⟨_, rfl, ?_⟩; have n0_ := Aside0.mk (Kd.R_mono (Kd.R_keep (IsS77.apart (show IsS77 w0 _ g s0_0 x1001_4 x1002_4 from mI77 HI0.out) (mR HO_3.out) (by decide)) hk (fun _ h => h.2)) (fun _ h => h.1)); have n1_ := Aside0.mk (KeepBut.trans (mF HK.out) hk (.inl rfl)); have n2_ := Aside0.mk (hb); have n3_ := Aside0.mk (hi); clear HO_3; clear HK; clear HB; clear HI0; have HO_3 := n0_; have HK := n1_; have HB := n2_; have HI0 := n3_; clear n0_ n1_ n2_ n3_; (try clear hb); (try clear hk); (try clear hi)))
            go_ret
            exact ⟨_, mE, mR HO_3.out, mI77 HI0.out, mB1 (IsS77.ge HI0.out) HB.out, mF HK.out⟩
        ·replace c33 := Bool.eq_false_iff.mpr c33
         subst c33
         have H1 := H; rw [if_neg (show ¬ (false = true) by decide)] at H1
         clear H
         have H := H1
         clear H1
         simp only [Option.some.injEq, Prod.mk.injEq] at H
         obtain ⟨rfl, rfl, rfl⟩ := H
         go_wp2_with (first | ((with_reducible refine gate_callee (f := 39) rfl ?_); refine goesL_ (some 36) rfl rfl Try.func39 (by kernel_rfl) rfl #[.pointer (some ⟨g, 0, none⟩), .int .i64 40] rfl mT ?_; (with_reducible refine (spec_l1Once.calls g s0_0 x1001_18 x1002_18 40 false t378 t379 w0 _ ?side1 ?side2 A32.out).mono ?_); (case side1 => exact mI77 HI0.out); (case side2 => exact mB1 (IsS77.ge HI0.out) HB.out); rintro e w45 ⟨rfl, hi, hb, hk⟩; refine ⟨_, rfl, ?_⟩; have n0_ := Aside0.mk (Kd.R_mono (Kd.R_keep (IsS77.apart (show IsS77 w0 _ g s0_0 x1001_18 x1002_18 from mI77 HI0.out) (mR HO_3.out) (by decide)) hk (fun _ h => h.2)) (fun _ h => h.1)); have n1_ := Aside0.mk (KeepBut.trans (mF HK.out) hk (.inl rfl)); have n2_ := Aside0.mk (hb); have n3_ := Aside0.mk (hi); clear HO_3; clear HK; clear HB; clear HI0; have HO_3 := n0_; have HK := n1_; have HB := n2_; have HI0 := n3_; clear n0_ n1_ n2_ n3_; (try clear hb); (try clear hk); (try clear hi)))
         go_ret
         exact ⟨_, mE, mR HO_3.out, mI77 HI0.out, mB1 (IsS77.ge HI0.out) HB.out, mF HK.out⟩

/-! ### spec_DrawMerge: function 27 -/
def spec_DrawMerge.f (k : Nat) (l0 : List Int) : Option ((List (S50)) × (List (S50))) := (spec_l1New.f k l0).bind fun bt389 => ((spec_l11DrawDeep.f k bt389.1 bt389.2.1 bt389.2.2).bind fun bt393 => ((spec_l11DrawDeep.f k bt389.1 bt393.2.1 bt393.2.2).bind fun bt398 => (some (bt393.1, bt398.1))))
theorem spec_DrawMerge.mono : ∀ a0 k, LeO (spec_DrawMerge.f k a0) (spec_DrawMerge.f (k + 1) a0) := by
 intro a0 k
 unfold spec_DrawMerge.f
 repeat' first
   | (with_reducible exact spec_l11DrawDeep.mono _ _ _ _)
   | (with_reducible exact spec_l1New.mono _ _)
   | (with_reducible exact LeO.refl _)
   | (with_reducible exact LeO.none _)
   | (with_reducible refine LeO.ite ?_ ?_)
   | (with_reducible refine LeO.bind ?_ (fun _ => ?_))
   | exact spec_l11DrawDeep.mono _ _ _ _
   | exact spec_l1New.mono _ _
   | exact LeO.none _
   | refine LeO.ite ?_ ?_
   | refine LeO.bind ?_ (fun _ => ?_)
set_option maxHeartbeats 8000000 in
set_option maxRecDepth 100000 in
theorem spec_DrawMerge.calls (k : Nat) (A0 : Option Addr) (c0 : Nat) (l0 : List Int) (r1 : List (S50)) (r2 : List (S50)) (w : World) (hr0 : Kd.C (Kd.int .u8) w A0 l0.length l0) (hc0 : l0.length ≤ c0) (h : spec_DrawMerge.f k l0 = some (r1, r2)) :
  Calls Try.prog 27 #[.slice A0 l0.length c0] w fun e w' => ∃ v0_ v1_ : Value, e = .returned (.tuple #[v0_, v1_]) ∧ Kd.R k50 50 w' w.heap.size (fun k_ => some k_ ≠ (v1_ : Value).ownBlock) v0_ r1 ∧ Kd.R k50 50 w' w.heap.size (fun k_ => some k_ ≠ (v0_ : Value).ownBlock) v1_ r2 ∧ Below w.heap.size w w' := by
 have HR0 := Aside0.mk hr0
 have HC0 := Aside0.mk hc0
 clear hr0 hc0
 have HB := Aside0.mk (Below.refl w.heap.size w)
 have H : ((spec_l1New.f k l0).bind fun bt389 => ((spec_l11DrawDeep.f k bt389.1 bt389.2.1 bt389.2.2).bind fun bt393 => ((spec_l11DrawDeep.f k bt389.1 bt393.2.1 bt393.2.2).bind fun bt398 => (some (bt393.1, bt398.1))))) = some (r1, r2) := h
 clear h
 replace H := Option.bind_eq_some_iff.mp H
 obtain ⟨⟨t389, t390, t391⟩, A20, H⟩ := H
 have A2 := Aside0.mk A20
 clear A20
 replace H := Option.bind_eq_some_iff.mp H
 obtain ⟨⟨t393, t396, t397⟩, A30, H⟩ := H
 have A3 := Aside0.mk A30
 clear A30
 replace H := Option.bind_eq_some_iff.mp H
 obtain ⟨⟨t398, t401, t402⟩, A40, H⟩ := H
 have A4 := Aside0.mk A40
 clear A40
 simp only [Option.some.injEq, Prod.mk.injEq] at H
 obtain ⟨rfl, rfl⟩ := H
 go_enter Try.func27, Try.ntmps27
 go_wp2_with (first | ((with_reducible refine gate_callee (f := 36) rfl ?_); refine goesL_ (some 7) rfl rfl Try.func36 (by kernel_rfl) rfl #[.slice A0 l0.length c0] rfl mT ?_; (with_reducible refine (spec_l1New.calls k _ _ l0 t389 t390 t391 w _ ?side1 ?side2 ?side3 A2.out).mono ?_); (case side1 => exact mB HB.out); (case side2 => exact HR0.out); (case side3 => exact HC0.out); rintro e w5 ⟨g392, rfl, hi, hb, hb2⟩; refine ⟨_, rfl, ?_⟩; have n0_ := Aside0.mk (hb); have n1_ := Aside0.mk (hi); clear HB; have HB := n0_; have HI392 := n1_; clear n0_ n1_; (try clear hb); (try clear hb2); (try clear hi)) | ((with_reducible refine gate_callee (f := 50) rfl ?_); refine goesL_ (some 9) rfl rfl Try.func50 (by kernel_rfl) rfl #[.pointer (some ⟨g392, 0, none⟩)] rfl mT ?_; (with_reducible refine (spec_l11DrawDeep.calls k g392 t389 t390 t391 t393 t396 t397 w _ ?side1 ?side2 A3.out).mono ?_); (case side1 => exact mI77 HI392.out); (case side2 => exact mB1 (IsS77.ge HI392.out) HB.out); rintro e w6 ⟨v394, rfl, ho0, hi, hb, hk⟩; refine ⟨_, rfl, ?_⟩; have n0_ := Aside0.mk (Kd.R_lower ho0 (below_size (mB1 (IsS77.ge HI392.out) HB.out))); have n1_ := Aside0.mk (hb); have n2_ := Aside0.mk (hi); clear HB; clear HI392; have HO395 := n0_; have HB := n1_; have HI392 := n2_; clear n0_ n1_ n2_; (try clear hb); (try clear hk); (try clear hi); (try clear ho0)) | ((with_reducible refine gate_callee (f := 50) rfl ?_); refine goesL_ (some 12) rfl rfl Try.func50 (by kernel_rfl) rfl #[.pointer (some ⟨g392, 0, none⟩)] rfl mT ?_; (with_reducible refine (spec_l11DrawDeep.calls k g392 t389 t396 t397 t398 t401 t402 w _ ?side1 ?side2 A4.out).mono ?_); (case side1 => exact mI77 HI392.out); (case side2 => exact mB1 (IsS77.ge HI392.out) HB.out); rintro e w7 ⟨v399, rfl, ho0, hi, hb, hk⟩; refine ⟨_, rfl, ?_⟩; have n0_ := Aside0.mk (Kd.R_mono (Kd.R_told (Kd.R_oldK (IsS77.apart (show IsS77 w _ g392 t389 t396 t397 from mI77 HI392.out) (mR HO395.out) (by decide)) hk) (Kd.R_base ho0)) (fun _ h_ => h_.1)); have n1_ := Aside0.mk (Kd.R_lower (Kd.R_new' ho0 (Kd.R_lt (mR HO395.out))) (below_size (mB1 (IsS77.ge HI392.out) HB.out))); have n2_ := Aside0.mk (hb); have n3_ := Aside0.mk (hi); clear HO395; clear HB; clear HI392; have HO395 := n0_; have HO400 := n1_; have HB := n2_; have HI392 := n3_; clear n0_ n1_ n2_ n3_; (try clear hb); (try clear hk); (try clear hi); (try clear ho0)))
 go_ret2
 exact ⟨_, _, mE, mR (Kd.R_mono HO395.out (fun _ hk => hk.2)), mR (Kd.R_mono HO400.out (fun _ hk => hk.2)), mB1 (IsS77.ge HI392.out) HB.out⟩

end Go.Proofs.Ytbafihapjbkagaa.PFnDeeps
