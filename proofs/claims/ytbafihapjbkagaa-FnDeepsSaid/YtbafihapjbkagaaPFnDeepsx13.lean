/- The functions that the law reaches, as Lean functions, each with the proof that the Go code comes to just these answers. Written by a program of this session (wip/tools/handprint.py over the kit's print); by hand where the print takes no such text. -/
-- squeezed
import Derived.Test.YtbafihapjbkagaaPFnDeepsx0
import Derived.Test.YtbafihapjbkagaaPFnDeepsx1
import Derived.Test.YtbafihapjbkagaaPFnDeepsx2
import Derived.Test.YtbafihapjbkagaaPFnDeepsx4
import Derived.Test.YtbafihapjbkagaaPFnDeepsx9
import Derived.Test.YtbafihapjbkagaaPFnDeepsx12
namespace Go.Proofs.Ytbafihapjbkagaa.PFnDeeps
open Go.RowKit Go.Proofs.YtbafihapjbkagaaW.PrintWords Go.Proofs.YtbafihapjbkagaaW.PrintLast Go.Proofs.YtbafihapjbkagaaW.PrintMore
attribute [local go_sem] max2_int min2_int max_two min_two max_three min_three max_four min_four   -- for this text's walks alone
set_option linter.unusedVariables false
set_option linter.unusedSimpArgs false

attribute [local go_sem high] eqA35
/-! ### laws_FnDeeps: function 7 -/
mutual
def laws_FnDeeps.j0 : Nat → List (S50) → List (S50) → List (S50) → Bool → Option (Bool)
 | 0, _, _, _, _ => none
 | k + 1, x3, x4, x5, x36 => if x36 = true then (some false) else (laws_FnDeeps.l0 k x3 x4 x5 1)
def laws_FnDeeps.l0 : Nat → List (S50) → List (S50) → List (S50) → Int → Option (Bool)
 | 0, _, _, _, _ => none
 | k + 1, x3, x4, x5, x6 => if x6 < (x5.length : Int) then (if 0 ≤ x6 then (if 0 ≤ (wrap64 (x6 - 1)) then (if (wrap64 (x6 - 1)) < (x5.length : Int) then (if ((rd_T50 x5 x6).f0) < ((rd_T50 x5 (wrap64 (x6 - 1))).f0) then (some false) else (laws_FnDeeps.l0 k x3 x4 x5 (wrap64 (x6 + 1)))) else (none)) else (none)) else (none)) else (if (x5.length : Int) = 0 then (laws_FnDeeps.j2 k x3 x4 x5 true) else (laws_FnDeeps.j2 k x3 x4 x5 (decide ((x5.length : Int) > 30))))
def laws_FnDeeps.j2 : Nat → List (S50) → List (S50) → List (S50) → Bool → Option (Bool)
 | 0, _, _, _, _ => none
 | k + 1, x3, x4, x5, x62 => if x62 = true then (if (x5.length : Int) = 0 then (some true) else (some ((x5.length : Int) == (wrap64 ((x3.length : Int) + (x4.length : Int)))))) else (laws_FnDeeps.l1 k x3 x4 x5 (([] : List (S50))) 0)
def laws_FnDeeps.l1 : Nat → List (S50) → List (S50) → List (S50) → List (S50) → Int → Option (Bool)
 | 0, _, _, _, _, _ => none
 | k + 1, x3, x4, x5, x7, x8 => if x8 < (x4.length : Int) then (if 0 ≤ x8 then (if ((rd_T50 x4 x8).f0) > 9999900 then (some true) else (if x7.length < 3518437208883 then (laws_FnDeeps.l1 k x3 x4 x5 (x7 ++ [(⟨wrap64 (((rd_T50 x4 x8).f0) + 100), (⟨(rd_T50 x4 x8).f1.f0, (rd_T50 x4 x8).f1.f1, (rd_T50 x4 x8).f1.f2, (rd_T50 x4 x8).f1.f3⟩ : S35)⟩ : S50)]) (wrap64 (x8 + 1))) else (none))) else (none)) else (laws_FnDeeps.l2 k x3 x4 x5 x7 0)
def laws_FnDeeps.l2 : Nat → List (S50) → List (S50) → List (S50) → List (S50) → Int → Option (Bool)
 | 0, _, _, _, _, _ => none
 | k + 1, x3, x4, x5, x7, x10 => if x10 < (x3.length : Int) then (if 0 ≤ x10 then (if ((rd_T50 x3 x10).f0) ≥ 100 then (some true) else (laws_FnDeeps.l2 k x3 x4 x5 x7 (wrap64 (x10 + 1)))) else (none)) else ((some (([(⟨0, (⟨9, 8, 7, 255⟩ : S35)⟩ : S50)] : List (S50)) : List (S50))).bind fun y436 => (if y436.length + x3.length < 3518437208883 then ((some (y436 ++ x3 : List (S50))).bind fun y439 => (if (x5.length : Int) = (wrap64 ((x3.length : Int) + (x4.length : Int))) then ((impl_Merge.f k x3 x7).bind fun t442 => ((impl_Flat.f k t442).bind fun bt445 => ((spec_Merge.f k x3 x7).bind fun t449 => ((spec_Flat.f k t449).bind fun bt452 => (if (bt445.1 == bt452.1 && (bt445.2.1 == bt452.2.1 && (bt445.2.2.1 == bt452.2.2.1 && (bt445.2.2.2 == bt452.2.2.2)))) = true then ((impl_Flat.f k x5).bind fun bt456 => ((spec_Flat.f k x5).bind fun bt460 => (if (bt456.1 == bt460.1 && (bt456.2.1 == bt460.2.1 && (bt456.2.2.1 == bt460.2.2.1 && (bt456.2.2.2 == bt460.2.2.2)))) = true then ((impl_Merge.f k y439 x7).bind fun t464 => ((impl_Flat.f k t464).bind fun bt467 => ((impl_Flat.f k y439).bind fun bt471 => (some (bt467.1 == bt471.1 && (bt467.2.1 == bt471.2.1 && (bt467.2.2.1 == bt471.2.2.1 && (bt467.2.2.2 == bt471.2.2.2)))))))) else (some false)))) else (some false)))))) else (some false))) else (none)))
end
def laws_FnDeeps.f (k : Nat) (l0 : List Int) : Option (Bool) := (laws_big.f l0).bind fun t403 => (if t403 = true then (some true) else ((spec_DrawMerge.f k l0).bind fun bt404 => ((impl_Merge.f k bt404.1 bt404.2).bind fun t410 => ((spec_Merge.f k bt404.1 bt404.2).bind fun t413 => (if (t410.length : Int) = (t413.length : Int) then ((impl_Flat.f k bt404.1).bind fun bt416 => ((spec_Flat.f k bt404.1).bind fun bt420 => (laws_FnDeeps.j0 k bt404.1 bt404.2 t410 (!(bt416.1 == bt420.1) || (!(bt416.2.1 == bt420.2.1) || (!(bt416.2.2.1 == bt420.2.2.1) || (!(bt416.2.2.2 == bt420.2.2.2)))))))) else (laws_FnDeeps.j0 k bt404.1 bt404.2 t410 true))))))
theorem laws_FnDeeps.mono_l : ∀ k, (∀ y0 y1 y2 y3, LeO (laws_FnDeeps.j0 k y0 y1 y2 y3) (laws_FnDeeps.j0 (k + 1) y0 y1 y2 y3)) ∧ (∀ y0 y1 y2 y3, LeO (laws_FnDeeps.l0 k y0 y1 y2 y3) (laws_FnDeeps.l0 (k + 1) y0 y1 y2 y3)) ∧ (∀ y0 y1 y2 y3, LeO (laws_FnDeeps.j2 k y0 y1 y2 y3) (laws_FnDeeps.j2 (k + 1) y0 y1 y2 y3)) ∧ (∀ y0 y1 y2 y3 y4, LeO (laws_FnDeeps.l1 k y0 y1 y2 y3 y4) (laws_FnDeeps.l1 (k + 1) y0 y1 y2 y3 y4)) ∧ (∀ y0 y1 y2 y3 y4, LeO (laws_FnDeeps.l2 k y0 y1 y2 y3 y4) (laws_FnDeeps.l2 (k + 1) y0 y1 y2 y3 y4))
 | 0 => ⟨fun _ _ _ _ r h => by simp [laws_FnDeeps.j0] at h, fun _ _ _ _ r h => by simp [laws_FnDeeps.l0] at h, fun _ _ _ _ r h => by simp [laws_FnDeeps.j2] at h, fun _ _ _ _ _ r h => by simp [laws_FnDeeps.l1] at h, fun _ _ _ _ _ r h => by simp [laws_FnDeeps.l2] at h⟩
 | k + 1 => by
  obtain ⟨ih0, ih1, ih2, ih3, ih4⟩ := laws_FnDeeps.mono_l k
  refine ⟨?_, ?_, ?_, ?_, ?_⟩
  ·intro y0 y1 y2 y3
   unfold laws_FnDeeps.j0
   repeat' first
   | (with_reducible exact ih0 _ _ _ _)
   | (with_reducible exact ih1 _ _ _ _)
   | (with_reducible exact ih2 _ _ _ _)
   | (with_reducible exact ih3 _ _ _ _ _)
   | (with_reducible exact ih4 _ _ _ _ _)
   | (with_reducible exact impl_Flat.mono _ _)
   | (with_reducible exact impl_Merge.mono _ _ _)
   | (with_reducible exact spec_DrawMerge.mono _ _)
   | (with_reducible exact spec_Flat.mono _ _)
   | (with_reducible exact spec_Merge.mono _ _ _)
   | (with_reducible exact LeO.refl _)
   | (with_reducible exact LeO.none _)
   | (with_reducible refine LeO.ite ?_ ?_)
   | (with_reducible refine LeO.bind ?_ (fun _ => ?_))
   | exact ih0 _ _ _ _
   | exact ih1 _ _ _ _
   | exact ih2 _ _ _ _
   | exact ih3 _ _ _ _ _
   | exact ih4 _ _ _ _ _
   | exact impl_Flat.mono _ _
   | exact impl_Merge.mono _ _ _
   | exact spec_DrawMerge.mono _ _
   | exact spec_Flat.mono _ _
   | exact spec_Merge.mono _ _ _
   | exact LeO.none _
   | refine LeO.ite ?_ ?_
   | refine LeO.bind ?_ (fun _ => ?_)
  ·intro y0 y1 y2 y3
   unfold laws_FnDeeps.l0
   repeat' first
   | (with_reducible exact ih0 _ _ _ _)
   | (with_reducible exact ih1 _ _ _ _)
   | (with_reducible exact ih2 _ _ _ _)
   | (with_reducible exact ih3 _ _ _ _ _)
   | (with_reducible exact ih4 _ _ _ _ _)
   | (with_reducible exact impl_Flat.mono _ _)
   | (with_reducible exact impl_Merge.mono _ _ _)
   | (with_reducible exact spec_DrawMerge.mono _ _)
   | (with_reducible exact spec_Flat.mono _ _)
   | (with_reducible exact spec_Merge.mono _ _ _)
   | (with_reducible exact LeO.refl _)
   | (with_reducible exact LeO.none _)
   | (with_reducible refine LeO.ite ?_ ?_)
   | (with_reducible refine LeO.bind ?_ (fun _ => ?_))
   | exact ih0 _ _ _ _
   | exact ih1 _ _ _ _
   | exact ih2 _ _ _ _
   | exact ih3 _ _ _ _ _
   | exact ih4 _ _ _ _ _
   | exact impl_Flat.mono _ _
   | exact impl_Merge.mono _ _ _
   | exact spec_DrawMerge.mono _ _
   | exact spec_Flat.mono _ _
   | exact spec_Merge.mono _ _ _
   | exact LeO.none _
   | refine LeO.ite ?_ ?_
   | refine LeO.bind ?_ (fun _ => ?_)
  ·intro y0 y1 y2 y3
   unfold laws_FnDeeps.j2
   repeat' first
   | (with_reducible exact ih0 _ _ _ _)
   | (with_reducible exact ih1 _ _ _ _)
   | (with_reducible exact ih2 _ _ _ _)
   | (with_reducible exact ih3 _ _ _ _ _)
   | (with_reducible exact ih4 _ _ _ _ _)
   | (with_reducible exact impl_Flat.mono _ _)
   | (with_reducible exact impl_Merge.mono _ _ _)
   | (with_reducible exact spec_DrawMerge.mono _ _)
   | (with_reducible exact spec_Flat.mono _ _)
   | (with_reducible exact spec_Merge.mono _ _ _)
   | (with_reducible exact LeO.refl _)
   | (with_reducible exact LeO.none _)
   | (with_reducible refine LeO.ite ?_ ?_)
   | (with_reducible refine LeO.bind ?_ (fun _ => ?_))
   | exact ih0 _ _ _ _
   | exact ih1 _ _ _ _
   | exact ih2 _ _ _ _
   | exact ih3 _ _ _ _ _
   | exact ih4 _ _ _ _ _
   | exact impl_Flat.mono _ _
   | exact impl_Merge.mono _ _ _
   | exact spec_DrawMerge.mono _ _
   | exact spec_Flat.mono _ _
   | exact spec_Merge.mono _ _ _
   | exact LeO.none _
   | refine LeO.ite ?_ ?_
   | refine LeO.bind ?_ (fun _ => ?_)
  ·intro y0 y1 y2 y3 y4
   unfold laws_FnDeeps.l1
   repeat' first
   | (with_reducible exact ih0 _ _ _ _)
   | (with_reducible exact ih1 _ _ _ _)
   | (with_reducible exact ih2 _ _ _ _)
   | (with_reducible exact ih3 _ _ _ _ _)
   | (with_reducible exact ih4 _ _ _ _ _)
   | (with_reducible exact impl_Flat.mono _ _)
   | (with_reducible exact impl_Merge.mono _ _ _)
   | (with_reducible exact spec_DrawMerge.mono _ _)
   | (with_reducible exact spec_Flat.mono _ _)
   | (with_reducible exact spec_Merge.mono _ _ _)
   | (with_reducible exact LeO.refl _)
   | (with_reducible exact LeO.none _)
   | (with_reducible refine LeO.ite ?_ ?_)
   | (with_reducible refine LeO.bind ?_ (fun _ => ?_))
   | exact ih0 _ _ _ _
   | exact ih1 _ _ _ _
   | exact ih2 _ _ _ _
   | exact ih3 _ _ _ _ _
   | exact ih4 _ _ _ _ _
   | exact impl_Flat.mono _ _
   | exact impl_Merge.mono _ _ _
   | exact spec_DrawMerge.mono _ _
   | exact spec_Flat.mono _ _
   | exact spec_Merge.mono _ _ _
   | exact LeO.none _
   | refine LeO.ite ?_ ?_
   | refine LeO.bind ?_ (fun _ => ?_)
  ·intro y0 y1 y2 y3 y4
   unfold laws_FnDeeps.l2
   repeat' first
   | (with_reducible exact ih0 _ _ _ _)
   | (with_reducible exact ih1 _ _ _ _)
   | (with_reducible exact ih2 _ _ _ _)
   | (with_reducible exact ih3 _ _ _ _ _)
   | (with_reducible exact ih4 _ _ _ _ _)
   | (with_reducible exact impl_Flat.mono _ _)
   | (with_reducible exact impl_Merge.mono _ _ _)
   | (with_reducible exact spec_DrawMerge.mono _ _)
   | (with_reducible exact spec_Flat.mono _ _)
   | (with_reducible exact spec_Merge.mono _ _ _)
   | (with_reducible exact LeO.refl _)
   | (with_reducible exact LeO.none _)
   | (with_reducible refine LeO.ite ?_ ?_)
   | (with_reducible refine LeO.bind ?_ (fun _ => ?_))
   | exact ih0 _ _ _ _
   | exact ih1 _ _ _ _
   | exact ih2 _ _ _ _
   | exact ih3 _ _ _ _ _
   | exact ih4 _ _ _ _ _
   | exact impl_Flat.mono _ _
   | exact impl_Merge.mono _ _ _
   | exact spec_DrawMerge.mono _ _
   | exact spec_Flat.mono _ _
   | exact spec_Merge.mono _ _ _
   | exact LeO.none _
   | refine LeO.ite ?_ ?_
   | refine LeO.bind ?_ (fun _ => ?_)
theorem laws_FnDeeps.mono : ∀ a0 k, LeO (laws_FnDeeps.f k a0) (laws_FnDeeps.f (k + 1) a0) := by
 intro a0 k
 obtain ⟨ih0, ih1, ih2, ih3, ih4⟩ := laws_FnDeeps.mono_l k
 unfold laws_FnDeeps.f
 repeat' first
   | (with_reducible exact ih0 _ _ _ _)
   | (with_reducible exact ih1 _ _ _ _)
   | (with_reducible exact ih2 _ _ _ _)
   | (with_reducible exact ih3 _ _ _ _ _)
   | (with_reducible exact ih4 _ _ _ _ _)
   | (with_reducible exact impl_Flat.mono _ _)
   | (with_reducible exact impl_Merge.mono _ _ _)
   | (with_reducible exact spec_DrawMerge.mono _ _)
   | (with_reducible exact spec_Flat.mono _ _)
   | (with_reducible exact spec_Merge.mono _ _ _)
   | (with_reducible exact LeO.refl _)
   | (with_reducible exact LeO.none _)
   | (with_reducible refine LeO.ite ?_ ?_)
   | (with_reducible refine LeO.bind ?_ (fun _ => ?_))
   | exact ih0 _ _ _ _
   | exact ih1 _ _ _ _
   | exact ih2 _ _ _ _
   | exact ih3 _ _ _ _ _
   | exact ih4 _ _ _ _ _
   | exact impl_Flat.mono _ _
   | exact impl_Merge.mono _ _ _
   | exact spec_DrawMerge.mono _ _
   | exact spec_Flat.mono _ _
   | exact spec_Merge.mono _ _ _
   | exact LeO.none _
   | refine LeO.ite ?_ ?_
   | refine LeO.bind ?_ (fun _ => ?_)
theorem laws_FnDeeps.j0_dead_true {k : Nat} {y0} {y1} {y2} {r : Bool} (h : laws_FnDeeps.j0 k y0 y1 y2 true = some r) : r = false := by
 cases k with
 | zero => exact absurd h (by simp [laws_FnDeeps.j0])
 | succ k =>
  simp only [laws_FnDeeps.j0] at h
  first | rw [if_pos rfl] at h | rw [if_pos trivial] at h
  exact (Option.some.inj h).symm
set_option maxHeartbeats 8000000 in
set_option maxRecDepth 100000 in
theorem laws_FnDeeps.calls (k : Nat) (A0 : Option Addr) (c0 : Nat) (l0 : List Int) (r : Bool) (w : World) (hr0 : Kd.C (Kd.int .u8) w A0 l0.length l0) (hc0 : l0.length ≤ c0) (h : laws_FnDeeps.f k l0 = some r) (hrt0 : r = true) :
  Calls Try.prog 7 #[.slice A0 l0.length c0] w fun e w' => e = .returned (.bool r) ∧ Below w.heap.size w w' := by
 have hrt := Aside0.mk hrt0
 clear hrt0
 have hu50 := Try.underlying50
 have hu35 := Try.underlying35
 have HR0 := Aside0.mk hr0
 have HC0 := Aside0.mk hc0
 clear hr0 hc0
 have HB := Aside0.mk (Below.refl w.heap.size w)
 have H : ((laws_big.f l0).bind fun t403 => (if t403 = true then (some true) else ((spec_DrawMerge.f k l0).bind fun bt404 => ((impl_Merge.f k bt404.1 bt404.2).bind fun t410 => ((spec_Merge.f k bt404.1 bt404.2).bind fun t413 => (if (t410.length : Int) = (t413.length : Int) then ((impl_Flat.f k bt404.1).bind fun bt416 => ((spec_Flat.f k bt404.1).bind fun bt420 => (laws_FnDeeps.j0 k bt404.1 bt404.2 t410 (!(bt416.1 == bt420.1) || (!(bt416.2.1 == bt420.2.1) || (!(bt416.2.2.1 == bt420.2.2.1) || (!(bt416.2.2.2 == bt420.2.2.2)))))))) else (laws_FnDeeps.j0 k bt404.1 bt404.2 t410 true))))))) = some r := h
 clear h
 replace H := Option.bind_eq_some_iff.mp H
 obtain ⟨t403, A20, H⟩ := H
 have A2 := Aside0.mk A20
 clear A20
 by_cases c3 : t403 = true
 ·subst c3
  have H1 := H; rw [if_pos rfl] at H1
  clear H
  have H := H1
  clear H1
  obtain rfl := Option.some.inj H
  go_enter Try.func7, Try.ntmps7
  go_wp2_with (first | (go_at_call 15; (with_reducible refine (laws_big.calls _ _ l0 true _ ?side1 ?side2 A2.out).mono ?_); (case side1 => repeat (first | exact HR0.out | (with_reducible refine Kd.C_alloc ?_ _) | (with_reducible refine Kd.C_drewN ?_ _) | (with_reducible refine Kd.C_drew ?_))); (case side2 => exact HC0.out); rintro e w' ⟨rfl, ⟨nd, rfl⟩⟩; (try first | exact ⟨rfl, _, World.drewN_drewN _ _ _⟩ | exact ⟨rfl, _, Eq.trans (World.drewN_drewN _ _ _) (congrArg (World.drewN _) (Nat.add_assoc _ _ _))⟩)))
  repeat (go_quiet (fail); try go_wp2_with (fail))
  go_ret
  exact ⟨mE, mB HB.out⟩
 ·replace c3 := Bool.eq_false_iff.mpr c3
  subst c3
  have H1 := H; rw [if_neg (show ¬ (false = true) by decide)] at H1
  clear H
  have H := H1
  clear H1
  replace H := Option.bind_eq_some_iff.mp H
  obtain ⟨⟨t404, t405⟩, A40, H⟩ := H
  have A4 := Aside0.mk A40
  clear A40
  replace H := Option.bind_eq_some_iff.mp H
  obtain ⟨t410, A50, H⟩ := H
  have A5 := Aside0.mk A50
  clear A50
  have HC6 := Aside0.mk H
  clear H
  go_enter Try.func7, Try.ntmps7
  go_upto_region 5 with (first | (go_at_call 15; (with_reducible refine (laws_big.calls _ _ l0 false _ ?side1 ?side2 A2.out).mono ?_); (case side1 => repeat (first | exact HR0.out | (with_reducible refine Kd.C_alloc ?_ _) | (with_reducible refine Kd.C_drewN ?_ _) | (with_reducible refine Kd.C_drew ?_))); (case side2 => exact HC0.out); rintro e w' ⟨rfl, ⟨nd, rfl⟩⟩; (try first | exact ⟨rfl, _, World.drewN_drewN _ _ _⟩ | exact ⟨rfl, _, Eq.trans (World.drewN_drewN _ _ _) (congrArg (World.drewN _) (Nat.add_assoc _ _ _))⟩)) | (go_at_call 27; (with_reducible refine (spec_DrawMerge.calls k _ _ l0 t404 t405 _ ?side1 ?side2 A4.out).mono ?_); (case side1 => repeat (first | exact HR0.out | (with_reducible refine Kd.C_alloc ?_ _) | (with_reducible refine Kd.C_drewN ?_ _) | (with_reducible refine Kd.C_drew ?_))); (case side2 => exact HC0.out); rintro e w7 ⟨v406, v408, rfl, ho0, ho1, hb⟩; have n0_ := Aside0.mk (Kd.R_lower ho0 (below_size (mB HB.out))); have n1_ := Aside0.mk (Kd.R_lower ho1 (below_size (mB HB.out))); have n2_ := Aside0.mk (below_step (mB HB.out) hb); clear HB; have HO407 := n0_; have HO409 := n1_; have HB := n2_; clear n0_ n1_ n2_; (try clear hb); (try clear ho0); (try clear ho1); obtain ⟨Ao8, co8, eo8⟩ := Kd.R_slice HO407.out; subst eo8; obtain ⟨Ao9, co9, eo9⟩ := Kd.R_slice HO409.out; subst eo9) | (go_at_call 24; (with_reducible refine (impl_Merge.calls k (fun k_ => some k_ = (.slice Ao8 t404.length co8 : Value).ownBlock) _ _ t404 (fun k_ => some k_ = (.slice Ao9 t405.length co9 : Value).ownBlock) _ _ t405 t410 _ ?side1 ?side2 A5.out).mono ?_); (case side1 => exact Kd.R_V (Kd.R_tight rfl (HO407.out))); (case side2 => exact Kd.R_V (Kd.R_tight rfl (HO409.out))); rintro e w10 ⟨v411, rfl, ho0, hb⟩; have n0_ := Aside0.mk (Kd.R_elder' (mR HO407.out) (Kd.R_base ho0) hb); have n1_ := Aside0.mk (Kd.R_elder' (mR HO409.out) (Kd.R_base ho0) hb); have n2_ := Aside0.mk (Kd.R_lower (Kd.R_new' (Kd.R_new' (Kd.R_mono (ok' := fun k_ => True) ho0 (fun _ hk_ => trivial)) (Kd.R_lt (mR HO407.out))) (Kd.R_lt (mR HO409.out))) (below_size (mB HB.out))); have n3_ := Aside0.mk (below_step (mB HB.out) hb); clear HO407; clear HO409; clear HB; have HO407 := n0_; have HO409 := n1_; have HO412 := n2_; have HB := n3_; clear n0_ n1_ n2_ n3_; (try clear hb); (try clear ho0)))
  repeat (go_quiet (fail); go_upto_region 5 with (fail))
  (try simp only [Act.put, List.setIfInBounds_toArray, List.set_cons_zero, List.set_cons_succ])
  go_cut [36] (fun v36 wc => ∃ (kq : Nat) (x36_5 : Bool), v36 = .bool x36_5 ∧ Aside0 (laws_FnDeeps.j0 kq t404 t405 t410 x36_5 = some r) ∧ Aside0 (kq ≤ k) ∧ Aside0 (Kd.R k50 50 wc w.heap.size (fun k_ => some k_ ≠ ((.slice Ao9 t405.length co9) : Value).ownBlock ∧ some k_ ≠ (v411 : Value).ownBlock) (.slice Ao8 t404.length co8) t404) ∧ Aside0 (Kd.R k50 50 wc w.heap.size (fun k_ => some k_ ≠ ((.slice Ao8 t404.length co8) : Value).ownBlock ∧ some k_ ≠ (v411 : Value).ownBlock) (.slice Ao9 t405.length co9) t405) ∧ Aside0 (Kd.R k50 50 wc w.heap.size (fun k_ => some k_ ≠ ((.slice Ao8 t404.length co8) : Value).ownBlock ∧ some k_ ≠ ((.slice Ao9 t405.length co9) : Value).ownBlock) v411 t410) ∧ Aside0 (Below w.heap.size w wc))
  case first =>
   have H := HC6.out
   clear HC6
   replace H := Option.bind_eq_some_iff.mp H
   obtain ⟨t413, A110, H⟩ := H
   have A11 := Aside0.mk A110
   clear A110
   by_cases c12 : (t410.length : Int) = (t413.length : Int)
   ·rw [if_pos c12] at H
    have c12b0 : ((t410.length : Int) == (t413.length : Int)) = true := beq_iff_eq.mpr c12
    have c12b1 : ((t410.length : Int) != (t413.length : Int)) = false := bne_eq_false_iff_eq.mpr c12
    have c12b2 : (t410.length == t413.length) = true := by first | simpa using c12 | (simp at c12 ⊢; omega)
    clear c12
    (first | rw [c12b0] | (simp only [i64_w, i32_w]; rw [c12b0]) | skip)
    replace H := Option.bind_eq_some_iff.mp H
    obtain ⟨⟨t416, t417, t418, t419⟩, A130, H⟩ := H
    have A13 := Aside0.mk A130
    clear A130
    replace H := Option.bind_eq_some_iff.mp H
    obtain ⟨⟨t420, t421, t422, t423⟩, A140, H⟩ := H
    have A14 := Aside0.mk A140
    clear A140
    have H' := Aside0.mk H
    clear H
    obtain ⟨Ao15, co15, eo15⟩ := Kd.R_slice HO412.out
    subst eo15
    go_wp2_with (first | (go_at_call 23; (with_reducible refine (spec_Merge.calls k _ _ t404 _ _ t405 t413 _ ?side1 ?side2 ?side3 ?side4 A11.out).mono ?_); (case side1 => repeat (first | exact (Kd.R_reads' HO407.out).2.2 | (with_reducible refine Kd.C_alloc ?_ _) | (with_reducible refine Kd.C_drewN ?_ _) | (with_reducible refine Kd.C_drew ?_))); (case side2 => exact (Kd.R_reads' HO407.out).2.1); (case side3 => repeat (first | exact (Kd.R_reads' HO409.out).2.2 | (with_reducible refine Kd.C_alloc ?_ _) | (with_reducible refine Kd.C_drewN ?_ _) | (with_reducible refine Kd.C_drew ?_))); (case side4 => exact (Kd.R_reads' HO409.out).2.1); rintro e w16 ⟨v414, rfl, ho0, hb⟩; have n0_ := Aside0.mk (Kd.R_elder' (mR HO407.out) (Kd.R_base ho0) hb); have n1_ := Aside0.mk (Kd.R_elder' (mR HO409.out) (Kd.R_base ho0) hb); have n2_ := Aside0.mk (Kd.R_elder' (mR HO412.out) (Kd.R_base ho0) hb); have n3_ := Aside0.mk (Kd.R_lower (Kd.R_new' (Kd.R_new' (Kd.R_new' ho0 (Kd.R_lt (mR HO407.out))) (Kd.R_lt (mR HO409.out))) (Kd.R_lt (mR HO412.out))) (below_size (mB HB.out))); have n4_ := Aside0.mk (below_step (mB HB.out) hb); clear HO407; clear HO409; clear HO412; clear HB; have HO407 := n0_; have HO409 := n1_; have HO412 := n2_; have HO415 := n3_; have HB := n4_; clear n0_ n1_ n2_ n3_ n4_; (try clear hb); (try clear ho0); obtain ⟨Ao17, co17, eo17⟩ := Kd.R_slice HO415.out; subst eo17) | (go_at_call 20; (with_reducible refine (impl_Flat.calls k _ _ t404 t416 t417 t418 t419 _ ?side1 ?side2 A13.out).mono ?_); (case side1 => repeat (first | exact (Kd.R_reads' HO407.out).2.2 | (with_reducible refine Kd.C_alloc ?_ _) | (with_reducible refine Kd.C_drewN ?_ _) | (with_reducible refine Kd.C_drew ?_))); (case side2 => exact (Kd.R_reads' HO407.out).2.1); rintro e w18 ⟨rfl, hb⟩; have n0_ := Aside0.mk (Kd.R_below (mR HO407.out) hb); have n1_ := Aside0.mk (Kd.R_below (mR HO409.out) hb); have n2_ := Aside0.mk (Kd.R_below (mR HO412.out) hb); have n3_ := Aside0.mk (Kd.R_below (mR HO415.out) hb); have n4_ := Aside0.mk (below_step (mB HB.out) hb); clear HO407; clear HO409; clear HO412; clear HO415; clear HB; have HO407 := n0_; have HO409 := n1_; have HO412 := n2_; have HO415 := n3_; have HB := n4_; clear n0_ n1_ n2_ n3_ n4_; (try clear hb)) | (go_at_call 18; (with_reducible refine (spec_Flat.calls k _ _ t404 t420 t421 t422 t423 _ ?side1 ?side2 A14.out).mono ?_); (case side1 => repeat (first | exact (Kd.R_reads' HO407.out).2.2 | (with_reducible refine Kd.C_alloc ?_ _) | (with_reducible refine Kd.C_drewN ?_ _) | (with_reducible refine Kd.C_drew ?_))); (case side2 => exact (Kd.R_reads' HO407.out).2.1); rintro e w19 ⟨rfl, hb⟩; have n0_ := Aside0.mk (Kd.R_below (mR HO407.out) hb); have n1_ := Aside0.mk (Kd.R_below (mR HO409.out) hb); have n2_ := Aside0.mk (Kd.R_below (mR HO412.out) hb); have n3_ := Aside0.mk (Kd.R_below (mR HO415.out) hb); have n4_ := Aside0.mk (below_step (mB HB.out) hb); clear HO407; clear HO409; clear HO412; clear HO415; clear HB; have HO407 := n0_; have HO409 := n1_; have HO412 := n2_; have HO415 := n3_; have HB := n4_; clear n0_ n1_ n2_ n3_ n4_; (try clear hb)))
    repeat (go_quiet (fail); try go_wp2_with (fail))
    go_meet
    case rel => exact ⟨_, ((!(t416 == t420) || (!(t417 == t421) || (!(t418 == t422) || (!(t419 == t423)))))), (by first | rfl | (simp; done) | (simp [*]; done)), H', ⟨by first | omega | exact Nat.le_refl _⟩, ⟨by refine mR ?_; exact Kd.R_mono HO407.out (fun _ hk => ⟨hk.1.1, hk.1.2⟩)⟩, ⟨by refine mR ?_; exact Kd.R_mono HO409.out (fun _ hk => ⟨hk.1.1, hk.1.2⟩)⟩, ⟨by refine mR ?_; exact Kd.R_mono HO412.out (fun _ hk => ⟨hk.1.1.2, hk.1.2⟩)⟩, ⟨mB HB.out⟩⟩
   ·rw [if_neg c12] at H
    have c12b0 : ((t410.length : Int) == (t413.length : Int)) = false := beq_eq_false_iff_ne.mpr c12
    have c12b1 : ((t410.length : Int) != (t413.length : Int)) = true := bne_iff_ne.mpr c12
    have c12b2 : (t410.length == t413.length) = false := by first | simpa using c12 | (simp at c12 ⊢; omega)
    (first | rw [c12b0] | (simp only [i64_w, i32_w]; rw [c12b0]) | skip)
    exact absurd (laws_FnDeeps.j0_dead_true H) (by rw [hrt.out]; decide)
  case rest =>
   clear HC6
   obtain ⟨kq, x36_5, rfl, HA, HJ5, HO_3, HO_4, HO_5, HB⟩ := hcut
   cases kq with
   | zero => exact absurd HA.out (by simp [laws_FnDeeps.j0])
   | succ kj5 =>
    have H := HA.out
    clear HA
    simp only [laws_FnDeeps.j0] at H
    by_cases c20 : x36_5 = true
    ·subst c20
     have H1 := H; rw [if_pos rfl] at H1
     clear H
     have H := H1
     clear H1
     exact absurd ((Option.some.inj H).trans hrt.out) (by decide)
    ·replace c20 := Bool.eq_false_iff.mpr c20
     subst c20
     have H1 := H; rw [if_neg (show ¬ (false = true) by decide)] at H1
     clear H
     have H := H1
     clear H1
     have H' := Aside0.mk H
     clear H
     go_wp2
     repeat (go_quiet (fail); try go_wp2)
     go_loopg [6] kj5 (fun kq v6 w' => ∃ (x6_2 : Int), v6 = .int .i64 x6_2 ∧ Aside0 (laws_FnDeeps.l0 kq t404 t405 t410 x6_2 = some r) ∧ Aside0 (kq ≤ kj5) ∧ Aside0 (Kd.R k50 50 w' w.heap.size (fun k_ => some k_ ≠ ((.slice Ao9 t405.length co9) : Value).ownBlock ∧ some k_ ≠ (v411 : Value).ownBlock) (.slice Ao8 t404.length co8) t404) ∧ Aside0 (Kd.R k50 50 w' w.heap.size (fun k_ => some k_ ≠ ((.slice Ao8 t404.length co8) : Value).ownBlock ∧ some k_ ≠ (v411 : Value).ownBlock) (.slice Ao9 t405.length co9) t405) ∧ Aside0 (Kd.R k50 50 w' w.heap.size (fun k_ => some k_ ≠ ((.slice Ao8 t404.length co8) : Value).ownBlock ∧ some k_ ≠ ((.slice Ao9 t405.length co9) : Value).ownBlock) v411 t410) ∧ Aside0 (Below w.heap.size w w'))
     case atStart => exact ⟨(1), (by first | rfl | (simp; done) | (simp [*]; done)), H', ⟨Nat.le_refl _⟩, ⟨mR HO_3.out⟩, ⟨mR HO_4.out⟩, ⟨mR HO_5.out⟩, ⟨mB HB.out⟩⟩
     case round =>
      clear H'
      obtain ⟨x6_2, rfl, HA, HK2, HO_3, HO_4, HO_5, HB⟩ := hrel
      cases gk with
      | zero => exact absurd HA.out (by simp [laws_FnDeeps.l0])
      | succ k2 =>
       have H := HA.out
       clear HA
       simp only [laws_FnDeeps.l0] at H
       by_cases c21 : x6_2 < (t410.length : Int)
       ·rw [if_pos c21] at H
        have c21b0 : decide (x6_2 < (t410.length : Int)) = true := decide_eq_true c21
        clear c21
        by_cases c22 : 0 ≤ x6_2
        ·rw [if_pos c22] at H
         have c22b0 : decide (0 ≤ x6_2) = true := decide_eq_true c22
         clear c22
         obtain ⟨ji23, hji23⟩ : ∃ j_ : Int, (wrap64 (x6_2 - 1)) = j_ := ⟨_, rfl⟩
         replace H : (if 0 ≤ (ji23) then (if (ji23) < (t410.length : Int) then (if ((rd_T50 t410 x6_2).f0) < ((rd_T50 t410 (ji23)).f0) then (some false) else (laws_FnDeeps.l0 k2 t404 t405 t410 (wrap64 (x6_2 + 1)))) else (none)) else (none)) = some r := by first | (rw [hji23] at H; exact H) | (simp only [hji23] at H ⊢; exact H)
         have hji23w : (IntKind.i64.wrap (x6_2 - 1)) = ji23 := (i64_w _).trans hji23
         by_cases c24 : 0 ≤ (ji23)
         ·rw [if_pos c24] at H
          have c24b0 : decide (0 ≤ (ji23)) = true := decide_eq_true c24
          clear c24
          by_cases c25 : (ji23) < (t410.length : Int)
          ·rw [if_pos c25] at H
           have c25b0 : decide ((ji23) < (t410.length : Int)) = true := decide_eq_true c25
           clear c25
           by_cases c26 : ((rd_T50 t410 x6_2).f0) < ((rd_T50 t410 (ji23)).f0)
           ·rw [if_pos c26] at H
            have c26b0 : decide (((rd_T50 t410 x6_2).f0) < ((rd_T50 t410 (ji23)).f0)) = true := decide_eq_true c26
            clear c26
            exact absurd ((Option.some.inj H).trans hrt.out) (by decide)
           ·rw [if_neg c26] at H
            have c26b0 : decide (((rd_T50 t410 x6_2).f0) < ((rd_T50 t410 (ji23)).f0)) = false := decide_eq_false c26
            clear c26
            have H' := Aside0.mk H
            clear H
            obtain ⟨Ao27, co27, eo27⟩ := Kd.R_slice HO_5.out
            subst eo27
            have p424 : 0 ≤ (x6_2 : Int) := of_decide_eq_true (by first | (with_reducible assumption) | assumption)
            have q424 : x6_2 < (t410.length : Int) := of_decide_eq_true (by first | (with_reducible assumption) | assumption)
            obtain ⟨ad424, e424, hx424_0, hx424_1, hx424_2, hx424_3, hx424_4⟩ := at_T50 (Kd.R_reads' HO_5.out).2.2 x6_2 p424 q424
            cases e424
            replace p424 := eq_true p424
            replace q424 := eq_true q424
            have p425 : 0 ≤ ((ji23) : Int) := of_decide_eq_true (by first | (with_reducible assumption) | assumption)
            have q425 : (ji23) < (t410.length : Int) := of_decide_eq_true (by first | (with_reducible assumption) | assumption)
            obtain ⟨ad425, e425, hx425_0, hx425_1, hx425_2, hx425_3, hx425_4⟩ := at_T50 (Kd.R_reads' HO_5.out).2.2 (ji23) p425 q425
            obtain rfl : ad424 = ad425 := (by injection e425)
            replace p425 := eq_true p425
            replace q425 := eq_true q425
            go_wp2
            repeat (go_quiet (fail); try go_wp2)
            go_roundg k2
            case measure => have := HJ5.out; have := HK2.out; omega
            case rel => exact ⟨(wrap64 (x6_2 + 1)), (by first | rfl | (simp; done) | (simp [*]; done)), H', ⟨by have := HJ5.out; have := HK2.out; omega⟩, ⟨mR HO_3.out⟩, ⟨mR HO_4.out⟩, ⟨mR HO_5.out⟩, ⟨mB HB.out⟩⟩
          ·rw [if_neg c25] at H
           exact absurd H (by simp)
         ·rw [if_neg c24] at H
          exact absurd H (by simp)
        ·rw [if_neg c22] at H
         exact absurd H (by simp)
       ·rw [if_neg c21] at H
        have c21b0 : decide (x6_2 < (t410.length : Int)) = false := decide_eq_false c21
        clear c21
        have HC28 := Aside0.mk H
        clear H
        obtain ⟨Ao29, co29, eo29⟩ := Kd.R_slice HO_5.out
        subst eo29
        go_upto_region 12 with (fail)
        repeat (go_quiet (fail); go_upto_region 12 with (fail))
        go_cut [62] (fun v62 wc => ∃ (kq : Nat) (x62_27 : Bool), v62 = .bool x62_27 ∧ Aside0 (laws_FnDeeps.j2 kq t404 t405 t410 x62_27 = some r) ∧ Aside0 (kq ≤ k2) ∧ Aside0 (Kd.R k50 50 wc w.heap.size (fun k_ => some k_ ≠ ((.slice Ao9 t405.length co9) : Value).ownBlock ∧ some k_ ≠ ((.slice Ao29 t410.length co29) : Value).ownBlock) (.slice Ao8 t404.length co8) t404) ∧ Aside0 (Kd.R k50 50 wc w.heap.size (fun k_ => some k_ ≠ ((.slice Ao8 t404.length co8) : Value).ownBlock ∧ some k_ ≠ ((.slice Ao29 t410.length co29) : Value).ownBlock) (.slice Ao9 t405.length co9) t405) ∧ Aside0 (Kd.R k50 50 wc w.heap.size (fun k_ => some k_ ≠ ((.slice Ao8 t404.length co8) : Value).ownBlock ∧ some k_ ≠ ((.slice Ao9 t405.length co9) : Value).ownBlock) (.slice Ao29 t410.length co29) t410) ∧ Aside0 (Below w.heap.size w wc))
        case first =>
         have H := HC28.out
         clear HC28
         by_cases c30 : (t410.length : Int) = 0
         ·rw [if_pos c30] at H
          have c30b0 : ((t410.length : Int) == 0) = true := beq_iff_eq.mpr c30
          have c30b1 : ((t410.length : Int) != 0) = false := bne_eq_false_iff_eq.mpr c30
          clear c30
          (first | rw [c30b0] | (simp only [i64_w, i32_w]; rw [c30b0]) | skip)
          have H' := Aside0.mk H
          clear H
          go_wp2
          repeat (go_quiet (fail); try go_wp2)
          go_meet
          case rel => exact ⟨_, (true), (by first | rfl | (simp; done) | (simp [*]; done)), H', ⟨by have := HJ5.out; have := HK2.out; first | omega | exact Nat.le_refl _⟩, ⟨mR HO_3.out⟩, ⟨mR HO_4.out⟩, ⟨mR HO_5.out⟩, ⟨mB HB.out⟩⟩
         ·rw [if_neg c30] at H
          have c30b0 : ((t410.length : Int) == 0) = false := beq_eq_false_iff_ne.mpr c30
          have c30b1 : ((t410.length : Int) != 0) = true := bne_iff_ne.mpr c30
          have c30b2 : ¬ (t410 = []) := fun h_ => c30 (by rw [h_]; rfl)
          (first | rw [c30b0] | (simp only [i64_w, i32_w]; rw [c30b0]) | skip)
          have H' := Aside0.mk H
          clear H
          go_wp2
          repeat (go_quiet (fail); try go_wp2)
          go_meet
          case rel => exact ⟨_, (decide ((t410.length : Int) > 30)), (by first | rfl | (simp; done) | (simp [*]; done)), H', ⟨by have := HJ5.out; have := HK2.out; first | omega | exact Nat.le_refl _⟩, ⟨mR HO_3.out⟩, ⟨mR HO_4.out⟩, ⟨mR HO_5.out⟩, ⟨mB HB.out⟩⟩
        case rest =>
         clear HC28
         try clear c21b0
         obtain ⟨kq, x62_27, rfl, HA, HJ27, HO_3, HO_4, HO_5, HB⟩ := hcut
         cases kq with
         | zero => exact absurd HA.out (by simp [laws_FnDeeps.j2])
         | succ kj27 =>
          have H := HA.out
          clear HA
          simp only [laws_FnDeeps.j2] at H
          by_cases c31 : x62_27 = true
          ·subst c31
           have H1 := H; rw [if_pos rfl] at H1
           clear H
           have H := H1
           clear H1
           by_cases c32 : (t410.length : Int) = 0
           ·rw [if_pos c32] at H
            have c32b0 : ((t410.length : Int) == 0) = true := beq_iff_eq.mpr c32
            have c32b1 : ((t410.length : Int) != 0) = false := bne_eq_false_iff_eq.mpr c32
            clear c32
            obtain rfl := Option.some.inj H
            go_wp2
            repeat (go_quiet (fail); try go_wp2)
            go_ret
            exact ⟨mE, mB HB.out⟩
           ·rw [if_neg c32] at H
            have c32b0 : ((t410.length : Int) == 0) = false := beq_eq_false_iff_ne.mpr c32
            have c32b1 : ((t410.length : Int) != 0) = true := bne_iff_ne.mpr c32
            have c32b2 : ¬ (t410 = []) := fun h_ => c32 (by rw [h_]; rfl)
            obtain rfl := Option.some.inj H
            go_wp2
            repeat (go_quiet (fail); try go_wp2)
            go_ret
            exact ⟨mE, mB HB.out⟩
          ·replace c31 := Bool.eq_false_iff.mpr c31
           subst c31
           have H1 := H; rw [if_neg (show ¬ (false = true) by decide)] at H1
           clear H
           have H := H1
           clear H1
           obtain ⟨y426, hy426⟩ : ∃ y_ : List (S50), y_ = (([] : List (S50))) := ⟨_, rfl⟩
           replace H : (laws_FnDeeps.l1 kj27 t404 t405 t410 y426 0) = some r := by first | (rw [hy426]; with_reducible exact H) | (have H2_ := (Option.bind_some _ _).symm.trans H; rw [hy426]; with_reducible exact H2_) | (have H2_ := (Option.bind_some _ _).symm.trans H; with_reducible exact H2_) | with_reducible exact H | (rw [hy426]; exact H) | exact H
           have Ny426 := Aside0.mk hy426
           clear hy426
           have H' := Aside0.mk H
           clear H
           go_wp2_with (first | ((with_reducible refine gate_dst (N := 76) rfl ?_); (try (refine gate_guard (by rfl) ?_; dsimp only)); refine Kd.R_lit k50 _ 50 ?hg (N := 76) ?hd (xs := ([] : List (S50))) (inner := []) (ok := fun _ => True) (okp := fun _ => True) ?hr ?hp (fun _ hk => hk) trivial (Below.refl _ _) (Nat.le_refl _) (by simp) ?_; (case hd => rfl); (case hg => rfl); (case hr => first | (go_simp; done) | (go_simp; rfl)); (case hp => exact (Reps.none _ _)); intro v427 w33 ho34 hb hg_ hnew_; clear hg_ hnew_; (first | rw [← Ny426.out] at ho34 | (simp only [Int.reduceToNat] at ho34; rw [← Ny426.out] at ho34)); have n0_ := Aside0.mk (Kd.R_elder' (mR HO_3.out) (Kd.R_base ho34) hb); have n1_ := Aside0.mk (Kd.R_elder' (mR HO_4.out) (Kd.R_base ho34) hb); have n2_ := Aside0.mk (Kd.R_elder' (mR HO_5.out) (Kd.R_base ho34) hb); have n3_ := Aside0.mk (Kd.R_lower (Kd.R_new' (Kd.R_new' (Kd.R_new' ho34 (Kd.R_lt (mR HO_3.out))) (Kd.R_lt (mR HO_4.out))) (Kd.R_lt (mR HO_5.out))) (below_size (mB HB.out))); have n4_ := Aside0.mk (below_step (mB HB.out) hb); clear HO_3; clear HO_4; clear HO_5; clear HB; have HO_3 := n0_; have HO_4 := n1_; have HO_5 := n2_; have HO428 := n3_; have HB := n4_; clear n0_ n1_ n2_ n3_ n4_; clear hb ho34))
           repeat (go_quiet (fail); try go_wp2_with (fail))
           go_loopg [7, 8] kj27 (fun kq v7 v8 w' => ∃ (x7_4 : List (S50)) (x8_4 : Int), v8 = .int .i64 x8_4 ∧ Aside0 (laws_FnDeeps.l1 kq t404 t405 t410 x7_4 x8_4 = some r) ∧ Aside0 (kq ≤ kj27) ∧ Aside0 (Kd.R k50 50 w' w.heap.size (fun k_ => some k_ ≠ ((.slice Ao9 t405.length co9) : Value).ownBlock ∧ some k_ ≠ ((.slice Ao29 t410.length co29) : Value).ownBlock ∧ some k_ ≠ (v7 : Value).ownBlock) (.slice Ao8 t404.length co8) t404) ∧ Aside0 (Kd.R k50 50 w' w.heap.size (fun k_ => some k_ ≠ ((.slice Ao8 t404.length co8) : Value).ownBlock ∧ some k_ ≠ ((.slice Ao29 t410.length co29) : Value).ownBlock ∧ some k_ ≠ (v7 : Value).ownBlock) (.slice Ao9 t405.length co9) t405) ∧ Aside0 (Kd.R k50 50 w' w.heap.size (fun k_ => some k_ ≠ ((.slice Ao8 t404.length co8) : Value).ownBlock ∧ some k_ ≠ ((.slice Ao9 t405.length co9) : Value).ownBlock ∧ some k_ ≠ (v7 : Value).ownBlock) (.slice Ao29 t410.length co29) t410) ∧ Aside0 (Kd.R k50 50 w' w.heap.size (fun k_ => some k_ ≠ ((.slice Ao8 t404.length co8) : Value).ownBlock ∧ some k_ ≠ ((.slice Ao9 t405.length co9) : Value).ownBlock ∧ some k_ ≠ ((.slice Ao29 t410.length co29) : Value).ownBlock) v7 x7_4) ∧ Aside0 (Below w.heap.size w w'))
           case atStart => exact ⟨(y426), (0), (by first | rfl | (simp; done) | (simp [*]; done)), H', ⟨Nat.le_refl _⟩, ⟨by refine mR ?_; exact Kd.R_mono HO_3.out (fun _ hk => ⟨hk.1.1, ⟨hk.1.2, hk.2⟩⟩)⟩, ⟨by refine mR ?_; exact Kd.R_mono HO_4.out (fun _ hk => ⟨hk.1.1, ⟨hk.1.2, hk.2⟩⟩)⟩, ⟨by refine mR ?_; exact Kd.R_mono HO_5.out (fun _ hk => ⟨hk.1.1, ⟨hk.1.2, hk.2⟩⟩)⟩, ⟨by refine mR ?_; exact Kd.R_mono HO428.out (fun _ hk => ⟨hk.1.1.2, ⟨hk.1.2, hk.2⟩⟩)⟩, ⟨mB HB.out⟩⟩
           case round =>
            clear H'
            obtain ⟨x7_4, x8_4, rfl, HA, HK4, HO_3, HO_4, HO_5, HO_7, HB⟩ := hrel
            cases gk with
            | zero => exact absurd HA.out (by simp [laws_FnDeeps.l1])
            | succ k4 =>
             have H := HA.out
             clear HA
             simp only [laws_FnDeeps.l1] at H
             by_cases c35 : x8_4 < (t405.length : Int)
             ·rw [if_pos c35] at H
              have c35b0 : decide (x8_4 < (t405.length : Int)) = true := decide_eq_true c35
              clear c35
              by_cases c36 : 0 ≤ x8_4
              ·rw [if_pos c36] at H
               have c36b0 : decide (0 ≤ x8_4) = true := decide_eq_true c36
               clear c36
               by_cases c37 : ((rd_T50 t405 x8_4).f0) > 9999900
               ·rw [if_pos c37] at H
                have c37b0 : decide (9999900 < ((rd_T50 t405 x8_4).f0)) = true := decide_eq_true c37
                clear c37
                obtain rfl := Option.some.inj H
                have p429 : 0 ≤ (x8_4 : Int) := of_decide_eq_true (by first | (with_reducible assumption) | assumption)
                have q429 : x8_4 < (t405.length : Int) := of_decide_eq_true (by first | (with_reducible assumption) | assumption)
                obtain ⟨ad429, e429, hx429_0, hx429_1, hx429_2, hx429_3, hx429_4⟩ := at_T50 (Kd.R_reads' HO_4.out).2.2 x8_4 p429 q429
                cases e429
                replace p429 := eq_true p429
                replace q429 := eq_true q429
                go_wp2_with (first | ((with_reducible refine gate_dst (N := 9) rfl ?_); (try (refine gate_guard (by rfl) ?_; dsimp only)); refine box_event ?hg (N := 9) ?hd (cs := #[.int .i64 0, .int .i64 0, .int .i64 0, .int .i64 0, .int .i64 0]) (t := 50) ?hr ?_; (case hd => rfl); (case hg => rfl); (case hr => first | (go_simp; done) | (go_simp; rfl)); intro gb430 hg w38 hbox hb; have n0_ := Aside0.mk (Kd.R_below (Kd.R_elderB (mR HO_3.out) gb430 (Nat.le_of_eq hg.symm)) hb); have n1_ := Aside0.mk (Kd.R_below (Kd.R_elderB (mR HO_4.out) gb430 (Nat.le_of_eq hg.symm)) hb); have n2_ := Aside0.mk (Kd.R_below (Kd.R_elderB (mR HO_5.out) gb430 (Nat.le_of_eq hg.symm)) hb); have n3_ := Aside0.mk (Kd.R_below (Kd.R_elderB (mR HO_7.out) gb430 (Nat.le_of_eq hg.symm)) hb); have n4_ := Aside0.mk (below_step (mB HB.out) hb); have n5_ := Aside0.mk (hbox); have n6_ := Aside0.mk ((by rw [hg]; exact (below_size (mB HB.out)) : w.heap.size ≤ gb430)); have n7_ := Aside0.mk ((by rw [hg]; exact (below_size (mB HB.out)) : w.heap.size ≤ gb430)); clear HO_3; clear HO_4; clear HO_5; clear HO_7; clear HB; have HO_3 := n0_; have HO_4 := n1_; have HO_5 := n2_; have HO_7 := n3_; have HB := n4_; have BK430 := n5_; have GW430 := n6_; have GE430 := n7_; clear n0_ n1_ n2_ n3_ n4_ n5_ n6_ n7_; clear hb hbox hg; have hcz39_0 : w38.cell? ⟨gb430, 0, none⟩ = some (.int .i64 0) := (blk_cell BK430.out 0).trans rfl; have hcz39_1 : w38.cell? ⟨gb430, 1, none⟩ = some (.int .i64 0) := (blk_cell BK430.out 1).trans rfl; have hcz39_2 : w38.cell? ⟨gb430, 2, none⟩ = some (.int .i64 0) := (blk_cell BK430.out 2).trans rfl; have hcz39_3 : w38.cell? ⟨gb430, 3, none⟩ = some (.int .i64 0) := (blk_cell BK430.out 3).trans rfl; have hcz39_4 : w38.cell? ⟨gb430, 4, none⟩ = some (.int .i64 0) := (blk_cell BK430.out 4).trans rfl; have hfz39_0 := blk_frozen BK430.out 0; have hfz39_1 := blk_frozen BK430.out 1; have hfz39_2 := blk_frozen BK430.out 2; have hfz39_3 := blk_frozen BK430.out 3; have hfz39_4 := blk_frozen BK430.out 4))
                repeat (go_quiet (fail); try go_wp2_with (fail))
                go_ret
                exact ⟨mE, mB1 GE430.out HB.out⟩
               ·rw [if_neg c37] at H
                have c37b0 : decide (9999900 < ((rd_T50 t405 x8_4).f0)) = false := decide_eq_false c37
                clear c37
                by_cases c40 : x7_4.length < 3518437208883
                ·rw [if_pos c40] at H
                 have LMc40 := Aside0.mk c40
                 clear c40
                 obtain ⟨y431, hy431⟩ : ∃ y_ : List (S50), y_ = (x7_4 ++ [(⟨wrap64 (((rd_T50 t405 x8_4).f0) + 100), (⟨(rd_T50 t405 x8_4).f1.f0, (rd_T50 t405 x8_4).f1.f1, (rd_T50 t405 x8_4).f1.f2, (rd_T50 t405 x8_4).f1.f3⟩ : S35)⟩ : S50)]) := ⟨_, rfl⟩
                 replace H : (laws_FnDeeps.l1 k4 t404 t405 t410 y431 (wrap64 (x8_4 + 1))) = some r := by first | (rw [hy431]; with_reducible exact H) | (have H2_ := (Option.bind_some _ _).symm.trans H; rw [hy431]; with_reducible exact H2_) | (have H2_ := (Option.bind_some _ _).symm.trans H; with_reducible exact H2_) | with_reducible exact H | (rw [hy431]; exact H) | exact H
                 have Ny431 := Aside0.mk hy431
                 clear hy431
                 have H' := Aside0.mk H
                 clear H
                 have p429 : 0 ≤ (x8_4 : Int) := of_decide_eq_true (by first | (with_reducible assumption) | assumption)
                 have q429 : x8_4 < (t405.length : Int) := of_decide_eq_true (by first | (with_reducible assumption) | assumption)
                 obtain ⟨ad429, e429, hx429_0, hx429_1, hx429_2, hx429_3, hx429_4⟩ := at_T50 (Kd.R_reads' HO_4.out).2.2 x8_4 p429 q429
                 cases e429
                 replace p429 := eq_true p429
                 replace q429 := eq_true q429
                 go_wp2_with (first | ((with_reducible refine gate_dst (N := 9) rfl ?_); (try (refine gate_guard (by rfl) ?_; dsimp only)); refine box_event ?hg (N := 9) ?hd (cs := #[.int .i64 0, .int .i64 0, .int .i64 0, .int .i64 0, .int .i64 0]) (t := 50) ?hr ?_; (case hd => rfl); (case hg => rfl); (case hr => first | (go_simp; done) | (go_simp; rfl)); intro gb430 hg w41 hbox hb; have n0_ := Aside0.mk (Kd.R_below (Kd.R_elderB (mR HO_3.out) gb430 (Nat.le_of_eq hg.symm)) hb); have n1_ := Aside0.mk (Kd.R_below (Kd.R_elderB (mR HO_4.out) gb430 (Nat.le_of_eq hg.symm)) hb); have n2_ := Aside0.mk (Kd.R_below (Kd.R_elderB (mR HO_5.out) gb430 (Nat.le_of_eq hg.symm)) hb); have n3_ := Aside0.mk (Kd.R_below (Kd.R_elderB (mR HO_7.out) gb430 (Nat.le_of_eq hg.symm)) hb); have n4_ := Aside0.mk (below_step (mB HB.out) hb); have n5_ := Aside0.mk (hbox); have n6_ := Aside0.mk ((by rw [hg]; exact (below_size (mB HB.out)) : w.heap.size ≤ gb430)); have n7_ := Aside0.mk ((by rw [hg]; exact (below_size (mB HB.out)) : w.heap.size ≤ gb430)); clear HO_3; clear HO_4; clear HO_5; clear HO_7; clear HB; have HO_3 := n0_; have HO_4 := n1_; have HO_5 := n2_; have HO_7 := n3_; have HB := n4_; have BK430 := n5_; have GW430 := n6_; have GE430 := n7_; clear n0_ n1_ n2_ n3_ n4_ n5_ n6_ n7_; clear hb hbox hg; have hcz42_0 : w41.cell? ⟨gb430, 0, none⟩ = some (.int .i64 0) := (blk_cell BK430.out 0).trans rfl; have hcz42_1 : w41.cell? ⟨gb430, 1, none⟩ = some (.int .i64 0) := (blk_cell BK430.out 1).trans rfl; have hcz42_2 : w41.cell? ⟨gb430, 2, none⟩ = some (.int .i64 0) := (blk_cell BK430.out 2).trans rfl; have hcz42_3 : w41.cell? ⟨gb430, 3, none⟩ = some (.int .i64 0) := (blk_cell BK430.out 3).trans rfl; have hcz42_4 : w41.cell? ⟨gb430, 4, none⟩ = some (.int .i64 0) := (blk_cell BK430.out 4).trans rfl; have hfz42_0 := blk_frozen BK430.out 0; have hfz42_1 := blk_frozen BK430.out 1; have hfz42_2 := blk_frozen BK430.out 2; have hfz42_3 := blk_frozen BK430.out 3; have hfz42_4 := blk_frozen BK430.out 4) | ((with_reducible refine gate_builtin (b := .append) (xs := #[.tmp 94, .tmp 96]) rfl ?_); (try (refine gate_guard (by rfl) ?_; dsimp only)); at_builtin; refine Kd.R_append k50 (w0 := w) w.heap.size rfl (.tmp 94) (.tmp 96) 39 50 (.agg #[(.int .i64 0), (.int .i64 0), (.int .i64 0), (.int .i64 0), (.int .i64 0)]) 40 rfl Try.underlying39 info50 rfl (by decide) (by omega) u7 x7_4 (⟨wrap64 (((rd_T50 t405 x8_4).f0) + 100), (⟨(rd_T50 t405 x8_4).f1.f0, (rd_T50 t405 x8_4).f1.f1, (rd_T50 t405 x8_4).f1.f2, (rd_T50 t405 x8_4).f1.f3⟩ : S35)⟩ : S50) [.int .i64 (wrap64 (((rd_T50 t405 x8_4).f0) + 100)), .int .i64 ((rd_T50 t405 x8_4).f1.f0), .int .i64 ((rd_T50 t405 x8_4).f1.f1), .int .i64 ((rd_T50 t405 x8_4).f1.f2), .int .i64 ((rd_T50 t405 x8_4).f1.f3)] (fun k_ => some k_ ≠ (.slice Ao8 t404.length co8 : Value).ownBlock ∧ some k_ ≠ (.slice (some ad429) t405.length co9 : Value).ownBlock ∧ some k_ ≠ (.slice Ao29 t410.length co29 : Value).ownBlock ∧ k_ ≠ gb430) (fun _ => False) rfl (by first | (go_simp; done) | (go_simp; rfl)) ?aP (fun _ hk => hk.elim) ?aF ?aO ?aB ?aS ?aL ?_; (case aP => exact k50_mkM _ _ _ (⟨wrap64 (((rd_T50 t405 x8_4).f0) + 100), (⟨(rd_T50 t405 x8_4).f1.f0, (rd_T50 t405 x8_4).f1.f1, (rd_T50 t405 x8_4).f1.f2, (rd_T50 t405 x8_4).f1.f3⟩ : S35)⟩ : S50)); (case aB => exact (mB1 GE430.out HB.out)); (case aF => exact (fun k_ hk => ⟨Kd.fresh' (Kd.R_lt (by refine mR ?_; exact (Kd.R_mono (Kd.R_far (p := ⟨gb430, 0, none⟩) (Kd.R_far (p := ⟨gb430, 4, none⟩) (Kd.R_far (p := ⟨gb430, 3, none⟩) (Kd.R_far (p := ⟨gb430, 2, none⟩) (Kd.R_far (p := ⟨gb430, 1, none⟩) (Kd.R_far (p := ⟨gb430, 0, none⟩) (Kd.R_mono HO_3.out (fun k_ hk => (⟨hk, hk.2⟩ : _ ∧ k_ ≠ gb430))) (fun _ hk => hk.2) (.int .i64 ((rd_T50 t405 x8_4).f0))) (fun _ hk => hk.2) (.int .i64 ((rd_T50 t405 x8_4).f1.f0))) (fun _ hk => hk.2) (.int .i64 ((rd_T50 t405 x8_4).f1.f1))) (fun _ hk => hk.2) (.int .i64 ((rd_T50 t405 x8_4).f1.f2))) (fun _ hk => hk.2) (.int .i64 ((rd_T50 t405 x8_4).f1.f3))) (fun _ hk => hk.2) (.int .i64 (wrap64 (((rd_T50 t405 x8_4).f0) + 100)))) (fun _ h_ => h_.1)))) k_ hk, Kd.fresh' (Kd.R_lt (by refine mR ?_; exact (Kd.R_mono (Kd.R_far (p := ⟨gb430, 0, none⟩) (Kd.R_far (p := ⟨gb430, 4, none⟩) (Kd.R_far (p := ⟨gb430, 3, none⟩) (Kd.R_far (p := ⟨gb430, 2, none⟩) (Kd.R_far (p := ⟨gb430, 1, none⟩) (Kd.R_far (p := ⟨gb430, 0, none⟩) (Kd.R_mono HO_4.out (fun k_ hk => (⟨hk, hk.2⟩ : _ ∧ k_ ≠ gb430))) (fun _ hk => hk.2) (.int .i64 ((rd_T50 t405 x8_4).f0))) (fun _ hk => hk.2) (.int .i64 ((rd_T50 t405 x8_4).f1.f0))) (fun _ hk => hk.2) (.int .i64 ((rd_T50 t405 x8_4).f1.f1))) (fun _ hk => hk.2) (.int .i64 ((rd_T50 t405 x8_4).f1.f2))) (fun _ hk => hk.2) (.int .i64 ((rd_T50 t405 x8_4).f1.f3))) (fun _ hk => hk.2) (.int .i64 (wrap64 (((rd_T50 t405 x8_4).f0) + 100)))) (fun _ h_ => h_.1)))) k_ hk, Kd.fresh' (Kd.R_lt (by refine mR ?_; exact (Kd.R_mono (Kd.R_far (p := ⟨gb430, 0, none⟩) (Kd.R_far (p := ⟨gb430, 4, none⟩) (Kd.R_far (p := ⟨gb430, 3, none⟩) (Kd.R_far (p := ⟨gb430, 2, none⟩) (Kd.R_far (p := ⟨gb430, 1, none⟩) (Kd.R_far (p := ⟨gb430, 0, none⟩) (Kd.R_mono HO_5.out (fun k_ hk => (⟨hk, hk.2⟩ : _ ∧ k_ ≠ gb430))) (fun _ hk => hk.2) (.int .i64 ((rd_T50 t405 x8_4).f0))) (fun _ hk => hk.2) (.int .i64 ((rd_T50 t405 x8_4).f1.f0))) (fun _ hk => hk.2) (.int .i64 ((rd_T50 t405 x8_4).f1.f1))) (fun _ hk => hk.2) (.int .i64 ((rd_T50 t405 x8_4).f1.f2))) (fun _ hk => hk.2) (.int .i64 ((rd_T50 t405 x8_4).f1.f3))) (fun _ hk => hk.2) (.int .i64 (wrap64 (((rd_T50 t405 x8_4).f0) + 100)))) (fun _ h_ => h_.1)))) k_ hk, Kd.freshB (g := gb430) (o := .cells #[.int .i64 (wrap64 (((rd_T50 t405 x8_4).f0) + 100)), .int .i64 ((rd_T50 t405 x8_4).f1.f0), .int .i64 ((rd_T50 t405 x8_4).f1.f1), .int .i64 ((rd_T50 t405 x8_4).f1.f2), .int .i64 ((rd_T50 t405 x8_4).f1.f3)] 50 (0, 0)) (by refine mK ?_; refine blk_put (cs := #[.int .i64 ((rd_T50 t405 x8_4).f0), .int .i64 ((rd_T50 t405 x8_4).f1.f0), .int .i64 ((rd_T50 t405 x8_4).f1.f1), .int .i64 ((rd_T50 t405 x8_4).f1.f2), .int .i64 ((rd_T50 t405 x8_4).f1.f3)]) ?_ 0 _ rfl; refine mK ?_; refine blk_put (cs := #[.int .i64 ((rd_T50 t405 x8_4).f0), .int .i64 ((rd_T50 t405 x8_4).f1.f0), .int .i64 ((rd_T50 t405 x8_4).f1.f1), .int .i64 ((rd_T50 t405 x8_4).f1.f2), .int .i64 0]) ?_ 4 _ rfl; refine mK ?_; refine blk_put (cs := #[.int .i64 ((rd_T50 t405 x8_4).f0), .int .i64 ((rd_T50 t405 x8_4).f1.f0), .int .i64 ((rd_T50 t405 x8_4).f1.f1), .int .i64 0, .int .i64 0]) ?_ 3 _ rfl; refine mK ?_; refine blk_put (cs := #[.int .i64 ((rd_T50 t405 x8_4).f0), .int .i64 ((rd_T50 t405 x8_4).f1.f0), .int .i64 0, .int .i64 0, .int .i64 0]) ?_ 2 _ rfl; refine mK ?_; refine blk_put (cs := #[.int .i64 ((rd_T50 t405 x8_4).f0), .int .i64 0, .int .i64 0, .int .i64 0, .int .i64 0]) ?_ 1 _ rfl; refine mK ?_; refine blk_put (cs := #[.int .i64 0, .int .i64 0, .int .i64 0, .int .i64 0, .int .i64 0]) ?_ 0 _ rfl; refine mK ?_; exact BK430.out) k_ hk⟩)); (case aO => exact (by refine mR ?_; exact Kd.R_mono (Kd.R_far (p := ⟨gb430, 0, none⟩) (Kd.R_far (p := ⟨gb430, 4, none⟩) (Kd.R_far (p := ⟨gb430, 3, none⟩) (Kd.R_far (p := ⟨gb430, 2, none⟩) (Kd.R_far (p := ⟨gb430, 1, none⟩) (Kd.R_far (p := ⟨gb430, 0, none⟩) (Kd.R_mono HO_7.out (fun k_ hk => (⟨hk, hk.2⟩ : _ ∧ k_ ≠ gb430))) (fun _ hk => hk.2) (.int .i64 ((rd_T50 t405 x8_4).f0))) (fun _ hk => hk.2) (.int .i64 ((rd_T50 t405 x8_4).f1.f0))) (fun _ hk => hk.2) (.int .i64 ((rd_T50 t405 x8_4).f1.f1))) (fun _ hk => hk.2) (.int .i64 ((rd_T50 t405 x8_4).f1.f2))) (fun _ hk => hk.2) (.int .i64 ((rd_T50 t405 x8_4).f1.f3))) (fun _ hk => hk.2) (.int .i64 (wrap64 (((rd_T50 t405 x8_4).f0) + 100)))) (fun _ hk => ⟨hk.1.1.1, ⟨hk.1.1.2.1, ⟨hk.1.1.2.2, hk.1.2⟩⟩⟩))); (case aS => exact (below_size (mB1 GE430.out HB.out))); (case aL => have := LMc40.out; omega); intro v432 w43 ho hb hg hat; rw [← Ny431.out] at ho; have n0_ := Aside0.mk (Kd.R_after (ok := (fun k_ => some k_ ≠ (.slice (some ad429) t405.length co9 : Value).ownBlock ∧ some k_ ≠ (.slice Ao29 t410.length co29 : Value).ownBlock ∧ k_ ≠ gb430)) (by refine mR ?_; exact Kd.R_mono (Kd.R_far (p := ⟨gb430, 0, none⟩) (Kd.R_far (p := ⟨gb430, 4, none⟩) (Kd.R_far (p := ⟨gb430, 3, none⟩) (Kd.R_far (p := ⟨gb430, 2, none⟩) (Kd.R_far (p := ⟨gb430, 1, none⟩) (Kd.R_far (p := ⟨gb430, 0, none⟩) (Kd.R_mono HO_3.out (fun k_ hk => (⟨hk, hk.2⟩ : _ ∧ k_ ≠ gb430))) (fun _ hk => hk.2) (.int .i64 ((rd_T50 t405 x8_4).f0))) (fun _ hk => hk.2) (.int .i64 ((rd_T50 t405 x8_4).f1.f0))) (fun _ hk => hk.2) (.int .i64 ((rd_T50 t405 x8_4).f1.f1))) (fun _ hk => hk.2) (.int .i64 ((rd_T50 t405 x8_4).f1.f2))) (fun _ hk => hk.2) (.int .i64 ((rd_T50 t405 x8_4).f1.f3))) (fun _ hk => hk.2) (.int .i64 (wrap64 (((rd_T50 t405 x8_4).f0) + 100)))) (fun _ hk => ⟨⟨hk.1.1.1, ⟨hk.1.1.2.1, hk.1.2⟩⟩, hk.1.1.2.2⟩)) hg hat); have n1_ := Aside0.mk (Kd.R_after (ok := (fun k_ => some k_ ≠ (.slice Ao8 t404.length co8 : Value).ownBlock ∧ some k_ ≠ (.slice Ao29 t410.length co29 : Value).ownBlock ∧ k_ ≠ gb430)) (by refine mR ?_; exact Kd.R_mono (Kd.R_far (p := ⟨gb430, 0, none⟩) (Kd.R_far (p := ⟨gb430, 4, none⟩) (Kd.R_far (p := ⟨gb430, 3, none⟩) (Kd.R_far (p := ⟨gb430, 2, none⟩) (Kd.R_far (p := ⟨gb430, 1, none⟩) (Kd.R_far (p := ⟨gb430, 0, none⟩) (Kd.R_mono HO_4.out (fun k_ hk => (⟨hk, hk.2⟩ : _ ∧ k_ ≠ gb430))) (fun _ hk => hk.2) (.int .i64 ((rd_T50 t405 x8_4).f0))) (fun _ hk => hk.2) (.int .i64 ((rd_T50 t405 x8_4).f1.f0))) (fun _ hk => hk.2) (.int .i64 ((rd_T50 t405 x8_4).f1.f1))) (fun _ hk => hk.2) (.int .i64 ((rd_T50 t405 x8_4).f1.f2))) (fun _ hk => hk.2) (.int .i64 ((rd_T50 t405 x8_4).f1.f3))) (fun _ hk => hk.2) (.int .i64 (wrap64 (((rd_T50 t405 x8_4).f0) + 100)))) (fun _ hk => ⟨⟨hk.1.1.1, ⟨hk.1.1.2.1, hk.1.2⟩⟩, hk.1.1.2.2⟩)) hg hat); have n2_ := Aside0.mk (Kd.R_after (ok := (fun k_ => some k_ ≠ (.slice Ao8 t404.length co8 : Value).ownBlock ∧ some k_ ≠ (.slice (some ad429) t405.length co9 : Value).ownBlock ∧ k_ ≠ gb430)) (by refine mR ?_; exact Kd.R_mono (Kd.R_far (p := ⟨gb430, 0, none⟩) (Kd.R_far (p := ⟨gb430, 4, none⟩) (Kd.R_far (p := ⟨gb430, 3, none⟩) (Kd.R_far (p := ⟨gb430, 2, none⟩) (Kd.R_far (p := ⟨gb430, 1, none⟩) (Kd.R_far (p := ⟨gb430, 0, none⟩) (Kd.R_mono HO_5.out (fun k_ hk => (⟨hk, hk.2⟩ : _ ∧ k_ ≠ gb430))) (fun _ hk => hk.2) (.int .i64 ((rd_T50 t405 x8_4).f0))) (fun _ hk => hk.2) (.int .i64 ((rd_T50 t405 x8_4).f1.f0))) (fun _ hk => hk.2) (.int .i64 ((rd_T50 t405 x8_4).f1.f1))) (fun _ hk => hk.2) (.int .i64 ((rd_T50 t405 x8_4).f1.f2))) (fun _ hk => hk.2) (.int .i64 ((rd_T50 t405 x8_4).f1.f3))) (fun _ hk => hk.2) (.int .i64 (wrap64 (((rd_T50 t405 x8_4).f0) + 100)))) (fun _ hk => ⟨⟨hk.1.1.1, ⟨hk.1.1.2.1, hk.1.2⟩⟩, hk.1.1.2.2⟩)) hg hat); have n3_ := Aside0.mk (blk_grown (g := gb430) (o := .cells #[.int .i64 (wrap64 (((rd_T50 t405 x8_4).f0) + 100)), .int .i64 ((rd_T50 t405 x8_4).f1.f0), .int .i64 ((rd_T50 t405 x8_4).f1.f1), .int .i64 ((rd_T50 t405 x8_4).f1.f2), .int .i64 ((rd_T50 t405 x8_4).f1.f3)] 50 (0, 0)) (by refine mK ?_; refine blk_put (cs := #[.int .i64 ((rd_T50 t405 x8_4).f0), .int .i64 ((rd_T50 t405 x8_4).f1.f0), .int .i64 ((rd_T50 t405 x8_4).f1.f1), .int .i64 ((rd_T50 t405 x8_4).f1.f2), .int .i64 ((rd_T50 t405 x8_4).f1.f3)]) ?_ 0 _ rfl; refine mK ?_; refine blk_put (cs := #[.int .i64 ((rd_T50 t405 x8_4).f0), .int .i64 ((rd_T50 t405 x8_4).f1.f0), .int .i64 ((rd_T50 t405 x8_4).f1.f1), .int .i64 ((rd_T50 t405 x8_4).f1.f2), .int .i64 0]) ?_ 4 _ rfl; refine mK ?_; refine blk_put (cs := #[.int .i64 ((rd_T50 t405 x8_4).f0), .int .i64 ((rd_T50 t405 x8_4).f1.f0), .int .i64 ((rd_T50 t405 x8_4).f1.f1), .int .i64 0, .int .i64 0]) ?_ 3 _ rfl; refine mK ?_; refine blk_put (cs := #[.int .i64 ((rd_T50 t405 x8_4).f0), .int .i64 ((rd_T50 t405 x8_4).f1.f0), .int .i64 0, .int .i64 0, .int .i64 0]) ?_ 2 _ rfl; refine mK ?_; refine blk_put (cs := #[.int .i64 ((rd_T50 t405 x8_4).f0), .int .i64 0, .int .i64 0, .int .i64 0, .int .i64 0]) ?_ 1 _ rfl; refine mK ?_; refine blk_put (cs := #[.int .i64 0, .int .i64 0, .int .i64 0, .int .i64 0, .int .i64 0]) ?_ 0 _ rfl; refine mK ?_; exact BK430.out) hg (Kd.R_away HO_7.out (fun _ hk => hk.2))); have n4_ := Aside0.mk (hb); have n5_ := Aside0.mk (ho); clear HO_3; clear HO_4; clear HO_5; clear BK430; clear HB; clear HO_7; have HO_3 := n0_; have HO_4 := n1_; have HO_5 := n2_; have BK430 := n3_; have HB := n4_; have HO433 := n5_; clear n0_ n1_ n2_ n3_ n4_ n5_; clear ho hb hg hat))
                 repeat (go_quiet (fail); try go_wp2_with (fail))
                 go_roundg k4
                 case measure => have := HJ5.out; have := HK2.out; have := HJ27.out; have := HK4.out; omega
                 case rel => exact ⟨(y431), (wrap64 (x8_4 + 1)), (by first | rfl | (simp; done) | (simp [*]; done)), H', ⟨by have := HJ5.out; have := HK2.out; have := HJ27.out; have := HK4.out; omega⟩, ⟨by refine mR ?_; exact Kd.R_mono HO_3.out (fun _ hk => ⟨hk.1.1, ⟨hk.1.2.1, hk.2⟩⟩)⟩, ⟨by refine mR ?_; exact Kd.R_mono HO_4.out (fun _ hk => ⟨hk.1.1, ⟨hk.1.2.1, hk.2⟩⟩)⟩, ⟨by refine mR ?_; exact Kd.R_mono HO_5.out (fun _ hk => ⟨hk.1.1, ⟨hk.1.2.1, hk.2⟩⟩)⟩, ⟨by refine mR ?_; exact Kd.R_mono HO433.out (fun _ hk => ⟨hk.1, ⟨hk.2.1, hk.2.2.1⟩⟩)⟩, ⟨mB1 GE430.out HB.out⟩⟩
                ·rw [if_neg c40] at H
                 exact absurd H (by simp)
              ·rw [if_neg c36] at H
               exact absurd H (by simp)
             ·rw [if_neg c35] at H
              have c35b0 : decide (x8_4 < (t405.length : Int)) = false := decide_eq_false c35
              clear c35
              have H' := Aside0.mk H
              clear H
              go_wp2
              repeat (go_quiet (fail); try go_wp2)
              go_loopg [10] k4 (fun kq v10 w' => ∃ (x10_5 : Int), v10 = .int .i64 x10_5 ∧ Aside0 (laws_FnDeeps.l2 kq t404 t405 t410 x7_4 x10_5 = some r) ∧ Aside0 (kq ≤ k4) ∧ Aside0 (Kd.R k50 50 w' w.heap.size (fun k_ => some k_ ≠ ((.slice Ao9 t405.length co9) : Value).ownBlock ∧ some k_ ≠ ((.slice Ao29 t410.length co29) : Value).ownBlock ∧ some k_ ≠ (u7 : Value).ownBlock) (.slice Ao8 t404.length co8) t404) ∧ Aside0 (Kd.R k50 50 w' w.heap.size (fun k_ => some k_ ≠ ((.slice Ao8 t404.length co8) : Value).ownBlock ∧ some k_ ≠ ((.slice Ao29 t410.length co29) : Value).ownBlock ∧ some k_ ≠ (u7 : Value).ownBlock) (.slice Ao9 t405.length co9) t405) ∧ Aside0 (Kd.R k50 50 w' w.heap.size (fun k_ => some k_ ≠ ((.slice Ao8 t404.length co8) : Value).ownBlock ∧ some k_ ≠ ((.slice Ao9 t405.length co9) : Value).ownBlock ∧ some k_ ≠ (u7 : Value).ownBlock) (.slice Ao29 t410.length co29) t410) ∧ Aside0 (Kd.R k50 50 w' w.heap.size (fun k_ => some k_ ≠ ((.slice Ao8 t404.length co8) : Value).ownBlock ∧ some k_ ≠ ((.slice Ao9 t405.length co9) : Value).ownBlock ∧ some k_ ≠ ((.slice Ao29 t410.length co29) : Value).ownBlock) u7 x7_4) ∧ Aside0 (Below w.heap.size w w'))
              case atStart => exact ⟨(0), (by first | rfl | (simp; done) | (simp [*]; done)), H', ⟨Nat.le_refl _⟩, ⟨mR HO_3.out⟩, ⟨mR HO_4.out⟩, ⟨mR HO_5.out⟩, ⟨mR HO_7.out⟩, ⟨mB HB.out⟩⟩
              case round =>
               clear H'
               try clear c35b0
               obtain ⟨x10_5, rfl, HA, HK5, HO_3, HO_4, HO_5, HO_7, HB⟩ := hrel
               cases gk with
               | zero => exact absurd HA.out (by simp [laws_FnDeeps.l2])
               | succ k5 =>
                have H := HA.out
                clear HA
                simp only [laws_FnDeeps.l2] at H
                by_cases c44 : x10_5 < (t404.length : Int)
                ·rw [if_pos c44] at H
                 have c44b0 : decide (x10_5 < (t404.length : Int)) = true := decide_eq_true c44
                 clear c44
                 by_cases c45 : 0 ≤ x10_5
                 ·rw [if_pos c45] at H
                  have c45b0 : decide (0 ≤ x10_5) = true := decide_eq_true c45
                  clear c45
                  by_cases c46 : ((rd_T50 t404 x10_5).f0) ≥ 100
                  ·rw [if_pos c46] at H
                   have c46b0 : decide (100 ≤ ((rd_T50 t404 x10_5).f0)) = true := decide_eq_true c46
                   clear c46
                   obtain rfl := Option.some.inj H
                   have p434 : 0 ≤ (x10_5 : Int) := of_decide_eq_true (by first | (with_reducible assumption) | assumption)
                   have q434 : x10_5 < (t404.length : Int) := of_decide_eq_true (by first | (with_reducible assumption) | assumption)
                   obtain ⟨ad434, e434, hx434_0, hx434_1, hx434_2, hx434_3, hx434_4⟩ := at_T50 (Kd.R_reads' HO_3.out).2.2 x10_5 p434 q434
                   cases e434
                   replace p434 := eq_true p434
                   replace q434 := eq_true q434
                   go_wp2
                   repeat (go_quiet (fail); try go_wp2)
                   go_ret
                   exact ⟨mE, mB HB.out⟩
                  ·rw [if_neg c46] at H
                   have c46b0 : decide (100 ≤ ((rd_T50 t404 x10_5).f0)) = false := decide_eq_false c46
                   clear c46
                   have H' := Aside0.mk H
                   clear H
                   have p434 : 0 ≤ (x10_5 : Int) := of_decide_eq_true (by first | (with_reducible assumption) | assumption)
                   have q434 : x10_5 < (t404.length : Int) := of_decide_eq_true (by first | (with_reducible assumption) | assumption)
                   obtain ⟨ad434, e434, hx434_0, hx434_1, hx434_2, hx434_3, hx434_4⟩ := at_T50 (Kd.R_reads' HO_3.out).2.2 x10_5 p434 q434
                   cases e434
                   replace p434 := eq_true p434
                   replace q434 := eq_true q434
                   go_wp2
                   repeat (go_quiet (fail); try go_wp2)
                   go_roundg k5
                   case measure => have := HJ5.out; have := HK2.out; have := HJ27.out; have := HK4.out; have := HK5.out; omega
                   case rel => exact ⟨(wrap64 (x10_5 + 1)), (by first | rfl | (simp; done) | (simp [*]; done)), H', ⟨by have := HJ5.out; have := HK2.out; have := HJ27.out; have := HK4.out; have := HK5.out; omega⟩, ⟨mR HO_3.out⟩, ⟨mR HO_4.out⟩, ⟨mR HO_5.out⟩, ⟨mR HO_7.out⟩, ⟨mB HB.out⟩⟩
                 ·rw [if_neg c45] at H
                  exact absurd H (by simp)
                ·rw [if_neg c44] at H
                 have c44b0 : decide (x10_5 < (t404.length : Int)) = false := decide_eq_false c44
                 clear c44
                 obtain ⟨y436, hy436⟩ : ∃ y_ : List (S50), y_ = (([(⟨0, (⟨9, 8, 7, 255⟩ : S35)⟩ : S50)] : List (S50))) := ⟨_, rfl⟩
                 replace H : (if y436.length + t404.length < 3518437208883 then ((some (y436 ++ t404 : List (S50))).bind fun y439 => (if (t410.length : Int) = (wrap64 ((t404.length : Int) + (t405.length : Int))) then ((impl_Merge.f k5 t404 x7_4).bind fun t442 => ((impl_Flat.f k5 t442).bind fun bt445 => ((spec_Merge.f k5 t404 x7_4).bind fun t449 => ((spec_Flat.f k5 t449).bind fun bt452 => (if (bt445.1 == bt452.1 && (bt445.2.1 == bt452.2.1 && (bt445.2.2.1 == bt452.2.2.1 && (bt445.2.2.2 == bt452.2.2.2)))) = true then ((impl_Flat.f k5 t410).bind fun bt456 => ((spec_Flat.f k5 t410).bind fun bt460 => (if (bt456.1 == bt460.1 && (bt456.2.1 == bt460.2.1 && (bt456.2.2.1 == bt460.2.2.1 && (bt456.2.2.2 == bt460.2.2.2)))) = true then ((impl_Merge.f k5 y439 x7_4).bind fun t464 => ((impl_Flat.f k5 t464).bind fun bt467 => ((impl_Flat.f k5 y439).bind fun bt471 => (some (bt467.1 == bt471.1 && (bt467.2.1 == bt471.2.1 && (bt467.2.2.1 == bt471.2.2.1 && (bt467.2.2.2 == bt471.2.2.2)))))))) else (some false)))) else (some false)))))) else (some false))) else (none)) = some r := by first | (rw [hy436]; with_reducible exact H) | (have H2_ := (Option.bind_some _ _).symm.trans H; rw [hy436]; with_reducible exact H2_) | (have H2_ := (Option.bind_some _ _).symm.trans H; with_reducible exact H2_) | with_reducible exact H | (rw [hy436]; exact H) | exact H
                 have Ny436 := Aside0.mk hy436
                 clear hy436
                 by_cases c47 : y436.length + t404.length < 3518437208883
                 ·rw [if_pos c47] at H
                  have LMc47 := Aside0.mk c47
                  clear c47
                  obtain ⟨y439, hy439⟩ : ∃ y_ : List (S50), y_ = (y436 ++ t404) := ⟨_, rfl⟩
                  replace H : (if (t410.length : Int) = (wrap64 ((t404.length : Int) + (t405.length : Int))) then ((impl_Merge.f k5 t404 x7_4).bind fun t442 => ((impl_Flat.f k5 t442).bind fun bt445 => ((spec_Merge.f k5 t404 x7_4).bind fun t449 => ((spec_Flat.f k5 t449).bind fun bt452 => (if (bt445.1 == bt452.1 && (bt445.2.1 == bt452.2.1 && (bt445.2.2.1 == bt452.2.2.1 && (bt445.2.2.2 == bt452.2.2.2)))) = true then ((impl_Flat.f k5 t410).bind fun bt456 => ((spec_Flat.f k5 t410).bind fun bt460 => (if (bt456.1 == bt460.1 && (bt456.2.1 == bt460.2.1 && (bt456.2.2.1 == bt460.2.2.1 && (bt456.2.2.2 == bt460.2.2.2)))) = true then ((impl_Merge.f k5 y439 x7_4).bind fun t464 => ((impl_Flat.f k5 t464).bind fun bt467 => ((impl_Flat.f k5 y439).bind fun bt471 => (some (bt467.1 == bt471.1 && (bt467.2.1 == bt471.2.1 && (bt467.2.2.1 == bt471.2.2.1 && (bt467.2.2.2 == bt471.2.2.2)))))))) else (some false)))) else (some false)))))) else (some false)) = some r := by first | (rw [hy439]; with_reducible exact H) | (have H2_ := (Option.bind_some _ _).symm.trans H; rw [hy439]; with_reducible exact H2_) | (have H2_ := (Option.bind_some _ _).symm.trans H; with_reducible exact H2_) | with_reducible exact H | (rw [hy439]; exact H) | exact H
                  have Ny439 := Aside0.mk hy439
                  clear hy439
                  by_cases c48 : (t410.length : Int) = (wrap64 ((t404.length : Int) + (t405.length : Int)))
                  ·rw [if_pos c48] at H
                   have c48b0 : ((t410.length : Int) == (wrap64 ((t404.length : Int) + (t405.length : Int)))) = true := beq_iff_eq.mpr c48
                   have c48b1 : ((t410.length : Int) != (wrap64 ((t404.length : Int) + (t405.length : Int)))) = false := bne_eq_false_iff_eq.mpr c48
                   clear c48
                   replace H := Option.bind_eq_some_iff.mp H
                   obtain ⟨t442, A490, H⟩ := H
                   have A49 := Aside0.mk A490
                   clear A490
                   replace H := Option.bind_eq_some_iff.mp H
                   obtain ⟨⟨t445, t446, t447, t448⟩, A500, H⟩ := H
                   have A50 := Aside0.mk A500
                   clear A500
                   replace H := Option.bind_eq_some_iff.mp H
                   obtain ⟨t449, A510, H⟩ := H
                   have A51 := Aside0.mk A510
                   clear A510
                   replace H := Option.bind_eq_some_iff.mp H
                   obtain ⟨⟨t452, t453, t454, t455⟩, A520, H⟩ := H
                   have A52 := Aside0.mk A520
                   clear A520
                   by_cases c53 : (t445 == t452 && (t446 == t453 && (t447 == t454 && (t448 == t455)))) = true
                   ·rw [if_pos c53] at H
                    have c53b0 : (t445 == t452 && (t446 == t453 && (t447 == t454 && (t448 == t455)))) = true := c53
                    (try (have c53b1 : decide (t445 = t452 && (t446 == t453 && (t447 == t454 && (t448 == t455)))) = true := by simpa using c53))
                    (try (have c53b2 : (t445 == t452 && (t446 == t453 && (t447 == t454 && (t448 == t455)))) = true := by simpa using c53))
                    clear c53
                    replace H := Option.bind_eq_some_iff.mp H
                    obtain ⟨⟨t456, t457, t458, t459⟩, A540, H⟩ := H
                    have A54 := Aside0.mk A540
                    clear A540
                    replace H := Option.bind_eq_some_iff.mp H
                    obtain ⟨⟨t460, t461, t462, t463⟩, A550, H⟩ := H
                    have A55 := Aside0.mk A550
                    clear A550
                    by_cases c56 : (t456 == t460 && (t457 == t461 && (t458 == t462 && (t459 == t463)))) = true
                    ·rw [if_pos c56] at H
                     have c56b0 : (t456 == t460 && (t457 == t461 && (t458 == t462 && (t459 == t463)))) = true := c56
                     (try (have c56b1 : decide (t456 = t460 && (t457 == t461 && (t458 == t462 && (t459 == t463)))) = true := by simpa using c56))
                     (try (have c56b2 : (t456 == t460 && (t457 == t461 && (t458 == t462 && (t459 == t463)))) = true := by simpa using c56))
                     clear c56
                     replace H := Option.bind_eq_some_iff.mp H
                     obtain ⟨t464, A570, H⟩ := H
                     have A57 := Aside0.mk A570
                     clear A570
                     replace H := Option.bind_eq_some_iff.mp H
                     obtain ⟨⟨t467, t468, t469, t470⟩, A580, H⟩ := H
                     have A58 := Aside0.mk A580
                     clear A580
                     replace H := Option.bind_eq_some_iff.mp H
                     obtain ⟨⟨t471, t472, t473, t474⟩, A590, H⟩ := H
                     have A59 := Aside0.mk A590
                     clear A590
                     obtain rfl := Option.some.inj H
                     go_wp2_with (first | ((with_reducible refine gate_dst (N := 11) rfl ?_); (try (refine gate_guard (by rfl) ?_; dsimp only)); refine box_event ?hg (N := 11) ?hd (cs := #[.int .i64 0, .int .i64 0, .int .i64 0, .int .i64 0]) (t := 35) ?hr ?_; (case hd => rfl); (case hg => rfl); (case hr => first | (go_simp; done) | (go_simp; rfl)); intro gb435 hg w60 hbox hb; have n0_ := Aside0.mk (Kd.R_below (mR HO_3.out) hb); have n1_ := Aside0.mk (Kd.R_below (mR HO_4.out) hb); have n2_ := Aside0.mk (Kd.R_below (mR HO_5.out) hb); have n3_ := Aside0.mk (Kd.R_below (mR HO_7.out) hb); have n4_ := Aside0.mk (below_step (mB HB.out) hb); have n5_ := Aside0.mk (hbox); have n6_ := Aside0.mk ((by rw [hg]; exact (below_size (mB HB.out)) : w.heap.size ≤ gb435)); have n7_ := Aside0.mk ((by rw [hg]; exact (below_size (mB HB.out)) : w.heap.size ≤ gb435)); clear HO_3; clear HO_4; clear HO_5; clear HO_7; clear HB; have HO_3 := n0_; have HO_4 := n1_; have HO_5 := n2_; have HO_7 := n3_; have HB := n4_; have BK435 := n5_; have GW435 := n6_; have GE435 := n7_; clear n0_ n1_ n2_ n3_ n4_ n5_ n6_ n7_; clear hb hbox hg; have hcz61_0 : w60.cell? ⟨gb435, 0, none⟩ = some (.int .i64 0) := (blk_cell BK435.out 0).trans rfl; have hcz61_1 : w60.cell? ⟨gb435, 1, none⟩ = some (.int .i64 0) := (blk_cell BK435.out 1).trans rfl; have hcz61_2 : w60.cell? ⟨gb435, 2, none⟩ = some (.int .i64 0) := (blk_cell BK435.out 2).trans rfl; have hcz61_3 : w60.cell? ⟨gb435, 3, none⟩ = some (.int .i64 0) := (blk_cell BK435.out 3).trans rfl; have hfz61_0 := blk_frozen BK435.out 0; have hfz61_1 := blk_frozen BK435.out 1; have hfz61_2 := blk_frozen BK435.out 2; have hfz61_3 := blk_frozen BK435.out 3) | ((with_reducible refine gate_dst (N := 113) rfl ?_); (try (refine gate_guard (by rfl) ?_; dsimp only)); refine Kd.R_lit k50 _ 50 ?hg (N := 113) ?hd (xs := ([(⟨0, (⟨9, 8, 7, 255⟩ : S35)⟩ : S50)] : List (S50))) (inner := [.int .i64 0, .int .i64 9, .int .i64 8, .int .i64 7, .int .i64 255]) (ok := fun _ => True) (okp := fun _ => True) ?hr ?hp (fun _ hk => hk) trivial (Below.refl _ _) (Nat.le_refl _) (by simp) ?_; (case hd => rfl); (case hg => rfl); (case hr => first | (go_simp; done) | (go_simp; rfl)); (case hp => exact (Reps.c5 (show Kd.M k50 _ _ _ (⟨0, (⟨9, 8, 7, 255⟩ : S35)⟩ : S50) [.int .i64 0, .int .i64 9, .int .i64 8, .int .i64 7, .int .i64 255] from (k50_mkM _ _ _ (⟨0, (⟨9, 8, 7, 255⟩ : S35)⟩ : S50) )) (Reps.none _ _))); intro v437 w62 ho63 hb hg_ hnew_; clear hg_ hnew_; (first | rw [← Ny436.out] at ho63 | (simp only [Int.reduceToNat] at ho63; rw [← Ny436.out] at ho63)); have n0_ := Aside0.mk (Kd.R_elder' (by refine mR ?_; exact (Kd.R_mono (Kd.R_far (p := ⟨gb435, 3, none⟩) (Kd.R_far (p := ⟨gb435, 2, none⟩) (Kd.R_far (p := ⟨gb435, 1, none⟩) (Kd.R_far (p := ⟨gb435, 0, none⟩) (Kd.R_types HO_3.out BK435.out (by decide)) (fun _ hk => hk.2) (.int .i64 9)) (fun _ hk => hk.2) (.int .i64 8)) (fun _ hk => hk.2) (.int .i64 7)) (fun _ hk => hk.2) (.int .i64 255)) (fun _ h_ => h_.1))) (Kd.R_base ho63) hb); have n1_ := Aside0.mk (Kd.R_elder' (by refine mR ?_; exact (Kd.R_mono (Kd.R_far (p := ⟨gb435, 3, none⟩) (Kd.R_far (p := ⟨gb435, 2, none⟩) (Kd.R_far (p := ⟨gb435, 1, none⟩) (Kd.R_far (p := ⟨gb435, 0, none⟩) (Kd.R_types HO_4.out BK435.out (by decide)) (fun _ hk => hk.2) (.int .i64 9)) (fun _ hk => hk.2) (.int .i64 8)) (fun _ hk => hk.2) (.int .i64 7)) (fun _ hk => hk.2) (.int .i64 255)) (fun _ h_ => h_.1))) (Kd.R_base ho63) hb); have n2_ := Aside0.mk (Kd.R_elder' (by refine mR ?_; exact (Kd.R_mono (Kd.R_far (p := ⟨gb435, 3, none⟩) (Kd.R_far (p := ⟨gb435, 2, none⟩) (Kd.R_far (p := ⟨gb435, 1, none⟩) (Kd.R_far (p := ⟨gb435, 0, none⟩) (Kd.R_types HO_5.out BK435.out (by decide)) (fun _ hk => hk.2) (.int .i64 9)) (fun _ hk => hk.2) (.int .i64 8)) (fun _ hk => hk.2) (.int .i64 7)) (fun _ hk => hk.2) (.int .i64 255)) (fun _ h_ => h_.1))) (Kd.R_base ho63) hb); have n3_ := Aside0.mk (Kd.R_elder' (by refine mR ?_; exact (Kd.R_mono (Kd.R_far (p := ⟨gb435, 3, none⟩) (Kd.R_far (p := ⟨gb435, 2, none⟩) (Kd.R_far (p := ⟨gb435, 1, none⟩) (Kd.R_far (p := ⟨gb435, 0, none⟩) (Kd.R_types HO_7.out BK435.out (by decide)) (fun _ hk => hk.2) (.int .i64 9)) (fun _ hk => hk.2) (.int .i64 8)) (fun _ hk => hk.2) (.int .i64 7)) (fun _ hk => hk.2) (.int .i64 255)) (fun _ h_ => h_.1))) (Kd.R_base ho63) hb); have n4_ := Aside0.mk (Kd.R_lower (Kd.R_new' (Kd.R_new' (Kd.R_new' (Kd.R_new' ho63 (Kd.R_lt (by refine mR ?_; exact (Kd.R_mono (Kd.R_far (p := ⟨gb435, 3, none⟩) (Kd.R_far (p := ⟨gb435, 2, none⟩) (Kd.R_far (p := ⟨gb435, 1, none⟩) (Kd.R_far (p := ⟨gb435, 0, none⟩) (Kd.R_types HO_3.out BK435.out (by decide)) (fun _ hk => hk.2) (.int .i64 9)) (fun _ hk => hk.2) (.int .i64 8)) (fun _ hk => hk.2) (.int .i64 7)) (fun _ hk => hk.2) (.int .i64 255)) (fun _ h_ => h_.1))))) (Kd.R_lt (by refine mR ?_; exact (Kd.R_mono (Kd.R_far (p := ⟨gb435, 3, none⟩) (Kd.R_far (p := ⟨gb435, 2, none⟩) (Kd.R_far (p := ⟨gb435, 1, none⟩) (Kd.R_far (p := ⟨gb435, 0, none⟩) (Kd.R_types HO_4.out BK435.out (by decide)) (fun _ hk => hk.2) (.int .i64 9)) (fun _ hk => hk.2) (.int .i64 8)) (fun _ hk => hk.2) (.int .i64 7)) (fun _ hk => hk.2) (.int .i64 255)) (fun _ h_ => h_.1))))) (Kd.R_lt (by refine mR ?_; exact (Kd.R_mono (Kd.R_far (p := ⟨gb435, 3, none⟩) (Kd.R_far (p := ⟨gb435, 2, none⟩) (Kd.R_far (p := ⟨gb435, 1, none⟩) (Kd.R_far (p := ⟨gb435, 0, none⟩) (Kd.R_types HO_5.out BK435.out (by decide)) (fun _ hk => hk.2) (.int .i64 9)) (fun _ hk => hk.2) (.int .i64 8)) (fun _ hk => hk.2) (.int .i64 7)) (fun _ hk => hk.2) (.int .i64 255)) (fun _ h_ => h_.1))))) (Kd.R_lt (by refine mR ?_; exact (Kd.R_mono (Kd.R_far (p := ⟨gb435, 3, none⟩) (Kd.R_far (p := ⟨gb435, 2, none⟩) (Kd.R_far (p := ⟨gb435, 1, none⟩) (Kd.R_far (p := ⟨gb435, 0, none⟩) (Kd.R_types HO_7.out BK435.out (by decide)) (fun _ hk => hk.2) (.int .i64 9)) (fun _ hk => hk.2) (.int .i64 8)) (fun _ hk => hk.2) (.int .i64 7)) (fun _ hk => hk.2) (.int .i64 255)) (fun _ h_ => h_.1))))) (below_size (mB1 GE435.out HB.out))); have n5_ := Aside0.mk (blk_below (g := gb435) (o := .cells #[.int .i64 9, .int .i64 8, .int .i64 7, .int .i64 255] 35 (0, 0)) (by refine mK ?_; refine blk_put (cs := #[.int .i64 9, .int .i64 8, .int .i64 7, .int .i64 0]) ?_ 3 _ rfl; refine mK ?_; refine blk_put (cs := #[.int .i64 9, .int .i64 8, .int .i64 0, .int .i64 0]) ?_ 2 _ rfl; refine mK ?_; refine blk_put (cs := #[.int .i64 9, .int .i64 0, .int .i64 0, .int .i64 0]) ?_ 1 _ rfl; refine mK ?_; refine blk_put (cs := #[.int .i64 0, .int .i64 0, .int .i64 0, .int .i64 0]) ?_ 0 _ rfl; refine mK ?_; exact BK435.out) hb); have n6_ := Aside0.mk (below_step (mB1 GE435.out HB.out) hb); clear HO_3; clear HO_4; clear HO_5; clear HO_7; clear BK435; clear HB; have HO_3 := n0_; have HO_4 := n1_; have HO_5 := n2_; have HO_7 := n3_; have HO438 := n4_; have BK435 := n5_; have HB := n6_; clear n0_ n1_ n2_ n3_ n4_ n5_ n6_; clear hb ho63) | ((with_reducible refine gate_builtin (b := .append) (xs := #[.tmp 113, .tmp 114]) rfl ?_); (try (refine gate_guard (by rfl) ?_; dsimp only)); at_builtin; refine Kd.R_append_rows k50 (w0 := w) w.heap.size rfl (.tmp 113) (.tmp 114) 39 50 (.agg #[(.int .i64 0), (.int .i64 0), (.int .i64 0), (.int .i64 0), (.int .i64 0)]) 40 rfl Try.underlying39 info50 rfl (by decide) (by omega) v437 y436 t404 _ _ _ (fun k_ => some k_ ≠ (.slice Ao8 t404.length co8 : Value).ownBlock ∧ some k_ ≠ (.slice Ao9 t405.length co9 : Value).ownBlock ∧ some k_ ≠ (.slice Ao29 t410.length co29 : Value).ownBlock ∧ some k_ ≠ (u7 : Value).ownBlock) (fun _ => False) rfl rfl ?aO ?aR (fun _ _ h => h) (fun _ h => h.elim) ?aF ?aB ?aS ?aL ?_; (case aR => repeat (first | exact (Kd.R_reads' HO_3.out).2.2 | (with_reducible refine Kd.C_alloc ?_ _) | (with_reducible refine Kd.C_drewN ?_ _) | (with_reducible refine Kd.C_drew ?_))); (case aB => exact (mB1 GE435.out HB.out)); (case aF => exact (fun k_ hk => ⟨Kd.fresh' (Kd.R_lt (mR HO_3.out)) k_ hk, Kd.fresh' (Kd.R_lt (mR HO_4.out)) k_ hk, Kd.fresh' (Kd.R_lt (mR HO_5.out)) k_ hk, Kd.fresh' (Kd.R_lt (mR HO_7.out)) k_ hk⟩)); (case aO => exact (by refine mR ?_; exact Kd.R_mono HO438.out (fun _ hk => ⟨hk.1.1.1.2, ⟨hk.1.1.2, ⟨hk.1.2, hk.2⟩⟩⟩))); (case aS => exact (below_size (mB1 GE435.out HB.out))); (case aL => have := LMc47.out; omega); intro v440 w64 ho hb hg hat; rw [← Ny439.out] at ho; have n0_ := Aside0.mk (Kd.R_after (ok := (fun k_ => some k_ ≠ (.slice Ao9 t405.length co9 : Value).ownBlock ∧ some k_ ≠ (.slice Ao29 t410.length co29 : Value).ownBlock ∧ some k_ ≠ (u7 : Value).ownBlock)) (mR HO_3.out) hg hat); have n1_ := Aside0.mk (Kd.R_after (ok := (fun k_ => some k_ ≠ (.slice Ao8 t404.length co8 : Value).ownBlock ∧ some k_ ≠ (.slice Ao29 t410.length co29 : Value).ownBlock ∧ some k_ ≠ (u7 : Value).ownBlock)) (mR HO_4.out) hg hat); have n2_ := Aside0.mk (Kd.R_after (ok := (fun k_ => some k_ ≠ (.slice Ao8 t404.length co8 : Value).ownBlock ∧ some k_ ≠ (.slice Ao9 t405.length co9 : Value).ownBlock ∧ some k_ ≠ (u7 : Value).ownBlock)) (mR HO_5.out) hg hat); have n3_ := Aside0.mk (Kd.R_after (ok := (fun k_ => some k_ ≠ (.slice Ao8 t404.length co8 : Value).ownBlock ∧ some k_ ≠ (.slice Ao9 t405.length co9 : Value).ownBlock ∧ some k_ ≠ (.slice Ao29 t410.length co29 : Value).ownBlock)) (mR HO_7.out) hg hat); have n4_ := Aside0.mk (blk_grown (g := gb435) (o := .cells #[.int .i64 9, .int .i64 8, .int .i64 7, .int .i64 255] 35 (0, 0)) (mK BK435.out) hg (Kd.R_ne HO438.out BK435.out (by decide))); have n5_ := Aside0.mk (hb); have n6_ := Aside0.mk (ho); clear HO_3; clear HO_4; clear HO_5; clear HO_7; clear BK435; clear HB; clear HO438; have HO_3 := n0_; have HO_4 := n1_; have HO_5 := n2_; have HO_7 := n3_; have BK435 := n4_; have HB := n5_; have HO441 := n6_; clear n0_ n1_ n2_ n3_ n4_ n5_ n6_; clear ho hb hg hat; obtain ⟨Ao65, co65, eo65⟩ := Kd.R_slice HO_7.out; subst eo65) | (go_at_call 24; (with_reducible refine (impl_Merge.calls k5 (fun k_ => some k_ = (.slice Ao8 t404.length co8 : Value).ownBlock) _ _ t404 (fun k_ => some k_ = (.slice Ao65 x7_4.length co65 : Value).ownBlock) _ _ x7_4 t442 _ ?side1 ?side2 A49.out).mono ?_); (case side1 => exact Kd.R_V (Kd.R_tight rfl (Kd.R_types (HO_3.out) BK435.out (by decide)))); (case side2 => exact Kd.R_V (Kd.R_tight rfl (Kd.R_types (HO_7.out) BK435.out (by decide)))); rintro e w66 ⟨v443, rfl, ho0, hb⟩; have n0_ := Aside0.mk (Kd.R_elder' (mR HO_3.out) (Kd.R_base ho0) hb); have n1_ := Aside0.mk (Kd.R_elder' (mR HO_4.out) (Kd.R_base ho0) hb); have n2_ := Aside0.mk (Kd.R_elder' (mR HO_5.out) (Kd.R_base ho0) hb); have n3_ := Aside0.mk (Kd.R_elder' (mR HO_7.out) (Kd.R_base ho0) hb); have n4_ := Aside0.mk (Kd.R_elder' (mR HO441.out) (Kd.R_base ho0) hb); have n5_ := Aside0.mk (Kd.R_lower (Kd.R_new' (Kd.R_new' (Kd.R_new' (Kd.R_new' (Kd.R_new' (Kd.R_mono (ok' := fun k_ => True) ho0 (fun _ hk_ => trivial)) (Kd.R_lt (mR HO_3.out))) (Kd.R_lt (mR HO_4.out))) (Kd.R_lt (mR HO_5.out))) (Kd.R_lt (mR HO_7.out))) (Kd.R_lt (mR HO441.out))) (below_size (mB1 GE435.out HB.out))); have n6_ := Aside0.mk (blk_below (g := gb435) (o := .cells #[.int .i64 9, .int .i64 8, .int .i64 7, .int .i64 255] 35 (0, 0)) (mK BK435.out) hb); have n7_ := Aside0.mk (below_step (mB1 GE435.out HB.out) hb); clear HO_3; clear HO_4; clear HO_5; clear HO_7; clear HO441; clear BK435; clear HB; have HO_3 := n0_; have HO_4 := n1_; have HO_5 := n2_; have HO_7 := n3_; have HO441 := n4_; have HO444 := n5_; have BK435 := n6_; have HB := n7_; clear n0_ n1_ n2_ n3_ n4_ n5_ n6_ n7_; (try clear hb); (try clear ho0); obtain ⟨Ao67, co67, eo67⟩ := Kd.R_slice HO444.out; subst eo67) | (go_at_call 20; (with_reducible refine (impl_Flat.calls k5 _ _ t442 t445 t446 t447 t448 _ ?side1 ?side2 A50.out).mono ?_); (case side1 => repeat (first | exact (Kd.R_reads' HO444.out).2.2 | (with_reducible refine Kd.C_alloc ?_ _) | (with_reducible refine Kd.C_drewN ?_ _) | (with_reducible refine Kd.C_drew ?_))); (case side2 => exact (Kd.R_reads' HO444.out).2.1); rintro e w68 ⟨rfl, hb⟩; have n0_ := Aside0.mk (Kd.R_below (mR HO_3.out) hb); have n1_ := Aside0.mk (Kd.R_below (mR HO_4.out) hb); have n2_ := Aside0.mk (Kd.R_below (mR HO_5.out) hb); have n3_ := Aside0.mk (Kd.R_below (mR HO_7.out) hb); have n4_ := Aside0.mk (Kd.R_below (mR HO441.out) hb); have n5_ := Aside0.mk (Kd.R_below (mR HO444.out) hb); have n6_ := Aside0.mk (blk_below (g := gb435) (o := .cells #[.int .i64 9, .int .i64 8, .int .i64 7, .int .i64 255] 35 (0, 0)) (mK BK435.out) hb); have n7_ := Aside0.mk (below_step (mB1 GE435.out HB.out) hb); clear HO_3; clear HO_4; clear HO_5; clear HO_7; clear HO441; clear HO444; clear BK435; clear HB; have HO_3 := n0_; have HO_4 := n1_; have HO_5 := n2_; have HO_7 := n3_; have HO441 := n4_; have HO444 := n5_; have BK435 := n6_; have HB := n7_; clear n0_ n1_ n2_ n3_ n4_ n5_ n6_ n7_; (try clear hb)) | (go_at_call 23; (with_reducible refine (spec_Merge.calls k5 _ _ t404 _ _ x7_4 t449 _ ?side1 ?side2 ?side3 ?side4 A51.out).mono ?_); (case side1 => repeat (first | exact (Kd.R_reads' HO_3.out).2.2 | (with_reducible refine Kd.C_alloc ?_ _) | (with_reducible refine Kd.C_drewN ?_ _) | (with_reducible refine Kd.C_drew ?_))); (case side2 => exact (Kd.R_reads' HO_3.out).2.1); (case side3 => repeat (first | exact (Kd.R_reads' HO_7.out).2.2 | (with_reducible refine Kd.C_alloc ?_ _) | (with_reducible refine Kd.C_drewN ?_ _) | (with_reducible refine Kd.C_drew ?_))); (case side4 => exact (Kd.R_reads' HO_7.out).2.1); rintro e w69 ⟨v450, rfl, ho0, hb⟩; have n0_ := Aside0.mk (Kd.R_elder' (mR HO_3.out) (Kd.R_base ho0) hb); have n1_ := Aside0.mk (Kd.R_elder' (mR HO_4.out) (Kd.R_base ho0) hb); have n2_ := Aside0.mk (Kd.R_elder' (mR HO_5.out) (Kd.R_base ho0) hb); have n3_ := Aside0.mk (Kd.R_elder' (mR HO_7.out) (Kd.R_base ho0) hb); have n4_ := Aside0.mk (Kd.R_elder' (mR HO441.out) (Kd.R_base ho0) hb); have n5_ := Aside0.mk (Kd.R_elder' (mR HO444.out) (Kd.R_base ho0) hb); have n6_ := Aside0.mk (Kd.R_lower (Kd.R_new' (Kd.R_new' (Kd.R_new' (Kd.R_new' (Kd.R_new' (Kd.R_new' ho0 (Kd.R_lt (mR HO_3.out))) (Kd.R_lt (mR HO_4.out))) (Kd.R_lt (mR HO_5.out))) (Kd.R_lt (mR HO_7.out))) (Kd.R_lt (mR HO441.out))) (Kd.R_lt (mR HO444.out))) (below_size (mB1 GE435.out HB.out))); have n7_ := Aside0.mk (blk_below (g := gb435) (o := .cells #[.int .i64 9, .int .i64 8, .int .i64 7, .int .i64 255] 35 (0, 0)) (mK BK435.out) hb); have n8_ := Aside0.mk (below_step (mB1 GE435.out HB.out) hb); clear HO_3; clear HO_4; clear HO_5; clear HO_7; clear HO441; clear HO444; clear BK435; clear HB; have HO_3 := n0_; have HO_4 := n1_; have HO_5 := n2_; have HO_7 := n3_; have HO441 := n4_; have HO444 := n5_; have HO451 := n6_; have BK435 := n7_; have HB := n8_; clear n0_ n1_ n2_ n3_ n4_ n5_ n6_ n7_ n8_; (try clear hb); (try clear ho0); obtain ⟨Ao70, co70, eo70⟩ := Kd.R_slice HO451.out; subst eo70) | (go_at_call 18; (with_reducible refine (spec_Flat.calls k5 _ _ t449 t452 t453 t454 t455 _ ?side1 ?side2 A52.out).mono ?_); (case side1 => repeat (first | exact (Kd.R_reads' HO451.out).2.2 | (with_reducible refine Kd.C_alloc ?_ _) | (with_reducible refine Kd.C_drewN ?_ _) | (with_reducible refine Kd.C_drew ?_))); (case side2 => exact (Kd.R_reads' HO451.out).2.1); rintro e w71 ⟨rfl, hb⟩; have n0_ := Aside0.mk (Kd.R_below (mR HO_3.out) hb); have n1_ := Aside0.mk (Kd.R_below (mR HO_4.out) hb); have n2_ := Aside0.mk (Kd.R_below (mR HO_5.out) hb); have n3_ := Aside0.mk (Kd.R_below (mR HO_7.out) hb); have n4_ := Aside0.mk (Kd.R_below (mR HO441.out) hb); have n5_ := Aside0.mk (Kd.R_below (mR HO444.out) hb); have n6_ := Aside0.mk (Kd.R_below (mR HO451.out) hb); have n7_ := Aside0.mk (blk_below (g := gb435) (o := .cells #[.int .i64 9, .int .i64 8, .int .i64 7, .int .i64 255] 35 (0, 0)) (mK BK435.out) hb); have n8_ := Aside0.mk (below_step (mB1 GE435.out HB.out) hb); clear HO_3; clear HO_4; clear HO_5; clear HO_7; clear HO441; clear HO444; clear HO451; clear BK435; clear HB; have HO_3 := n0_; have HO_4 := n1_; have HO_5 := n2_; have HO_7 := n3_; have HO441 := n4_; have HO444 := n5_; have HO451 := n6_; have BK435 := n7_; have HB := n8_; clear n0_ n1_ n2_ n3_ n4_ n5_ n6_ n7_ n8_; (try clear hb)) | (go_at_call 20; (with_reducible refine (impl_Flat.calls k5 _ _ t410 t456 t457 t458 t459 _ ?side1 ?side2 A54.out).mono ?_); (case side1 => repeat (first | exact (Kd.R_reads' HO_5.out).2.2 | (with_reducible refine Kd.C_alloc ?_ _) | (with_reducible refine Kd.C_drewN ?_ _) | (with_reducible refine Kd.C_drew ?_))); (case side2 => exact (Kd.R_reads' HO_5.out).2.1); rintro e w72 ⟨rfl, hb⟩; have n0_ := Aside0.mk (Kd.R_below (mR HO_3.out) hb); have n1_ := Aside0.mk (Kd.R_below (mR HO_4.out) hb); have n2_ := Aside0.mk (Kd.R_below (mR HO_5.out) hb); have n3_ := Aside0.mk (Kd.R_below (mR HO_7.out) hb); have n4_ := Aside0.mk (Kd.R_below (mR HO441.out) hb); have n5_ := Aside0.mk (Kd.R_below (mR HO444.out) hb); have n6_ := Aside0.mk (Kd.R_below (mR HO451.out) hb); have n7_ := Aside0.mk (blk_below (g := gb435) (o := .cells #[.int .i64 9, .int .i64 8, .int .i64 7, .int .i64 255] 35 (0, 0)) (mK BK435.out) hb); have n8_ := Aside0.mk (below_step (mB1 GE435.out HB.out) hb); clear HO_3; clear HO_4; clear HO_5; clear HO_7; clear HO441; clear HO444; clear HO451; clear BK435; clear HB; have HO_3 := n0_; have HO_4 := n1_; have HO_5 := n2_; have HO_7 := n3_; have HO441 := n4_; have HO444 := n5_; have HO451 := n6_; have BK435 := n7_; have HB := n8_; clear n0_ n1_ n2_ n3_ n4_ n5_ n6_ n7_ n8_; (try clear hb)) | (go_at_call 18; (with_reducible refine (spec_Flat.calls k5 _ _ t410 t460 t461 t462 t463 _ ?side1 ?side2 A55.out).mono ?_); (case side1 => repeat (first | exact (Kd.R_reads' HO_5.out).2.2 | (with_reducible refine Kd.C_alloc ?_ _) | (with_reducible refine Kd.C_drewN ?_ _) | (with_reducible refine Kd.C_drew ?_))); (case side2 => exact (Kd.R_reads' HO_5.out).2.1); rintro e w73 ⟨rfl, hb⟩; have n0_ := Aside0.mk (Kd.R_below (mR HO_3.out) hb); have n1_ := Aside0.mk (Kd.R_below (mR HO_4.out) hb); have n2_ := Aside0.mk (Kd.R_below (mR HO_5.out) hb); have n3_ := Aside0.mk (Kd.R_below (mR HO_7.out) hb); have n4_ := Aside0.mk (Kd.R_below (mR HO441.out) hb); have n5_ := Aside0.mk (Kd.R_below (mR HO444.out) hb); have n6_ := Aside0.mk (Kd.R_below (mR HO451.out) hb); have n7_ := Aside0.mk (blk_below (g := gb435) (o := .cells #[.int .i64 9, .int .i64 8, .int .i64 7, .int .i64 255] 35 (0, 0)) (mK BK435.out) hb); have n8_ := Aside0.mk (below_step (mB1 GE435.out HB.out) hb); clear HO_3; clear HO_4; clear HO_5; clear HO_7; clear HO441; clear HO444; clear HO451; clear BK435; clear HB; have HO_3 := n0_; have HO_4 := n1_; have HO_5 := n2_; have HO_7 := n3_; have HO441 := n4_; have HO444 := n5_; have HO451 := n6_; have BK435 := n7_; have HB := n8_; clear n0_ n1_ n2_ n3_ n4_ n5_ n6_ n7_ n8_; (try clear hb); obtain ⟨Ao74, co74, eo74⟩ := Kd.R_slice HO441.out; subst eo74) | (go_at_call 24; (with_reducible refine (impl_Merge.calls k5 (fun k_ => some k_ = (.slice Ao74 y439.length co74 : Value).ownBlock) _ _ y439 (fun k_ => some k_ = (.slice Ao65 x7_4.length co65 : Value).ownBlock) _ _ x7_4 t464 _ ?side1 ?side2 A57.out).mono ?_); (case side1 => exact Kd.R_V (Kd.R_tight rfl (Kd.R_types (HO441.out) BK435.out (by decide)))); (case side2 => exact Kd.R_V (Kd.R_tight rfl (Kd.R_types (HO_7.out) BK435.out (by decide)))); rintro e w75 ⟨v465, rfl, ho0, hb⟩; have n0_ := Aside0.mk (Kd.R_elder' (mR HO_3.out) (Kd.R_base ho0) hb); have n1_ := Aside0.mk (Kd.R_elder' (mR HO_4.out) (Kd.R_base ho0) hb); have n2_ := Aside0.mk (Kd.R_elder' (mR HO_5.out) (Kd.R_base ho0) hb); have n3_ := Aside0.mk (Kd.R_elder' (mR HO_7.out) (Kd.R_base ho0) hb); have n4_ := Aside0.mk (Kd.R_elder' (mR HO441.out) (Kd.R_base ho0) hb); have n5_ := Aside0.mk (Kd.R_elder' (mR HO444.out) (Kd.R_base ho0) hb); have n6_ := Aside0.mk (Kd.R_elder' (mR HO451.out) (Kd.R_base ho0) hb); have n7_ := Aside0.mk (Kd.R_lower (Kd.R_new' (Kd.R_new' (Kd.R_new' (Kd.R_new' (Kd.R_new' (Kd.R_new' (Kd.R_new' (Kd.R_mono (ok' := fun k_ => True) ho0 (fun _ hk_ => trivial)) (Kd.R_lt (mR HO_3.out))) (Kd.R_lt (mR HO_4.out))) (Kd.R_lt (mR HO_5.out))) (Kd.R_lt (mR HO_7.out))) (Kd.R_lt (mR HO441.out))) (Kd.R_lt (mR HO444.out))) (Kd.R_lt (mR HO451.out))) (below_size (mB1 GE435.out HB.out))); have n8_ := Aside0.mk (blk_below (g := gb435) (o := .cells #[.int .i64 9, .int .i64 8, .int .i64 7, .int .i64 255] 35 (0, 0)) (mK BK435.out) hb); have n9_ := Aside0.mk (below_step (mB1 GE435.out HB.out) hb); clear HO_3; clear HO_4; clear HO_5; clear HO_7; clear HO441; clear HO444; clear HO451; clear BK435; clear HB; have HO_3 := n0_; have HO_4 := n1_; have HO_5 := n2_; have HO_7 := n3_; have HO441 := n4_; have HO444 := n5_; have HO451 := n6_; have HO466 := n7_; have BK435 := n8_; have HB := n9_; clear n0_ n1_ n2_ n3_ n4_ n5_ n6_ n7_ n8_ n9_; (try clear hb); (try clear ho0); obtain ⟨Ao76, co76, eo76⟩ := Kd.R_slice HO466.out; subst eo76) | (go_at_call 20; (with_reducible refine (impl_Flat.calls k5 _ _ t464 t467 t468 t469 t470 _ ?side1 ?side2 A58.out).mono ?_); (case side1 => repeat (first | exact (Kd.R_reads' HO466.out).2.2 | (with_reducible refine Kd.C_alloc ?_ _) | (with_reducible refine Kd.C_drewN ?_ _) | (with_reducible refine Kd.C_drew ?_))); (case side2 => exact (Kd.R_reads' HO466.out).2.1); rintro e w77 ⟨rfl, hb⟩; have n0_ := Aside0.mk (Kd.R_below (mR HO_3.out) hb); have n1_ := Aside0.mk (Kd.R_below (mR HO_4.out) hb); have n2_ := Aside0.mk (Kd.R_below (mR HO_5.out) hb); have n3_ := Aside0.mk (Kd.R_below (mR HO_7.out) hb); have n4_ := Aside0.mk (Kd.R_below (mR HO441.out) hb); have n5_ := Aside0.mk (Kd.R_below (mR HO444.out) hb); have n6_ := Aside0.mk (Kd.R_below (mR HO451.out) hb); have n7_ := Aside0.mk (Kd.R_below (mR HO466.out) hb); have n8_ := Aside0.mk (blk_below (g := gb435) (o := .cells #[.int .i64 9, .int .i64 8, .int .i64 7, .int .i64 255] 35 (0, 0)) (mK BK435.out) hb); have n9_ := Aside0.mk (below_step (mB1 GE435.out HB.out) hb); clear HO_3; clear HO_4; clear HO_5; clear HO_7; clear HO441; clear HO444; clear HO451; clear HO466; clear BK435; clear HB; have HO_3 := n0_; have HO_4 := n1_; have HO_5 := n2_; have HO_7 := n3_; have HO441 := n4_; have HO444 := n5_; have HO451 := n6_; have HO466 := n7_; have BK435 := n8_; have HB := n9_; clear n0_ n1_ n2_ n3_ n4_ n5_ n6_ n7_ n8_ n9_; (try clear hb)) | (go_at_call 20; (with_reducible refine (impl_Flat.calls k5 _ _ y439 t471 t472 t473 t474 _ ?side1 ?side2 A59.out).mono ?_); (case side1 => repeat (first | exact (Kd.R_reads' HO441.out).2.2 | (with_reducible refine Kd.C_alloc ?_ _) | (with_reducible refine Kd.C_drewN ?_ _) | (with_reducible refine Kd.C_drew ?_))); (case side2 => exact (Kd.R_reads' HO441.out).2.1); rintro e w78 ⟨rfl, hb⟩; have n0_ := Aside0.mk (Kd.R_below (mR HO_3.out) hb); have n1_ := Aside0.mk (Kd.R_below (mR HO_4.out) hb); have n2_ := Aside0.mk (Kd.R_below (mR HO_5.out) hb); have n3_ := Aside0.mk (Kd.R_below (mR HO_7.out) hb); have n4_ := Aside0.mk (Kd.R_below (mR HO441.out) hb); have n5_ := Aside0.mk (Kd.R_below (mR HO444.out) hb); have n6_ := Aside0.mk (Kd.R_below (mR HO451.out) hb); have n7_ := Aside0.mk (Kd.R_below (mR HO466.out) hb); have n8_ := Aside0.mk (blk_below (g := gb435) (o := .cells #[.int .i64 9, .int .i64 8, .int .i64 7, .int .i64 255] 35 (0, 0)) (mK BK435.out) hb); have n9_ := Aside0.mk (below_step (mB1 GE435.out HB.out) hb); clear HO_3; clear HO_4; clear HO_5; clear HO_7; clear HO441; clear HO444; clear HO451; clear HO466; clear BK435; clear HB; have HO_3 := n0_; have HO_4 := n1_; have HO_5 := n2_; have HO_7 := n3_; have HO441 := n4_; have HO444 := n5_; have HO451 := n6_; have HO466 := n7_; have BK435 := n8_; have HB := n9_; clear n0_ n1_ n2_ n3_ n4_ n5_ n6_ n7_ n8_ n9_; (try clear hb)))
                     repeat (go_quiet (fail); try go_wp2_with (fail))
                     go_ret
                     exact ⟨mE, mB1 GE435.out HB.out⟩
                    ·rw [if_neg c56] at H
                     have c56b0 : (t456 == t460 && (t457 == t461 && (t458 == t462 && (t459 == t463)))) = false := by simpa using c56
                     (try (have c56b1 : decide (t456 = t460 && (t457 == t461 && (t458 == t462 && (t459 == t463)))) = false := by simpa using c56))
                     (try (have c56b2 : (t456 == t460 && (t457 == t461 && (t458 == t462 && (t459 == t463)))) = false := by simpa using c56))
                     (try (have c56b3 : ¬ (t456 = t460 && (t457 == t461 && (t458 == t462 && (t459 == t463)))) := by simpa using c56))
                     clear c56
                     exact absurd ((Option.some.inj H).trans hrt.out) (by decide)
                   ·rw [if_neg c53] at H
                    have c53b0 : (t445 == t452 && (t446 == t453 && (t447 == t454 && (t448 == t455)))) = false := by simpa using c53
                    (try (have c53b1 : decide (t445 = t452 && (t446 == t453 && (t447 == t454 && (t448 == t455)))) = false := by simpa using c53))
                    (try (have c53b2 : (t445 == t452 && (t446 == t453 && (t447 == t454 && (t448 == t455)))) = false := by simpa using c53))
                    (try (have c53b3 : ¬ (t445 = t452 && (t446 == t453 && (t447 == t454 && (t448 == t455)))) := by simpa using c53))
                    clear c53
                    exact absurd ((Option.some.inj H).trans hrt.out) (by decide)
                  ·rw [if_neg c48] at H
                   have c48b0 : ((t410.length : Int) == (wrap64 ((t404.length : Int) + (t405.length : Int)))) = false := beq_eq_false_iff_ne.mpr c48
                   have c48b1 : ((t410.length : Int) != (wrap64 ((t404.length : Int) + (t405.length : Int)))) = true := bne_iff_ne.mpr c48
                   exact absurd ((Option.some.inj H).trans hrt.out) (by decide)
                 ·rw [if_neg c47] at H
                  exact absurd H (by simp)

/-- THE ONE PURE STATEMENT of laws_FnDeeps: yours. -/
def laws_FnDeeps.Pure : Prop := ∀ (l0 : List Int), l0.length ≤ maxLen → l0.length * 1 ≤ 140737488351232 → (∀ x ∈ l0, (Lit.int .u8 x).wf = true) → ∃ k, laws_FnDeeps.f k l0 = some true
theorem laws_FnDeeps.walk (P : laws_FnDeeps.Pure) (a0 : Option Addr) (len0 cap0 : Nat) (z0 : List Int) (w : World) (w0 : (a0 = none ∧ len0 = 0 ∧ cap0 = 0 ∧ z0 = []) ∨ ∃ x, a0 = some x ∧ len0 ≤ cap0 ∧ cap0 ≤ maxLen ∧ z0.length = cap0 ∧ (∀ i, i < z0.length → w.cell? (x.add i) = some (.int .u8 (z0.getD i 0))) ∧ ∀ n ∈ z0, (Lit.int .u8 n).wf = true) (y0 : len0 * 1 ≤ 140737488351232) :
  Calls Try.prog 7 #[.slice a0 len0 cap0] w fun e w' => e = .returned (.bool true) ∧ Below w.heap.size w w' := by
 obtain ⟨l0, rfl, hr0, hm0, hw0, hc0⟩ := ReadsInt.ofRowC w0
 obtain ⟨k, h⟩ := P l0 hm0 y0 hw0
 refine (laws_FnDeeps.calls k _ _ l0 true w (Kd.C_of_reads (d := (0 : Int)) (h1 := fun _ => rfl) hr0) hc0 h rfl).mono ?_
 rintro e w' ⟨rfl, hd⟩
 exact ⟨rfl, hd⟩

end Go.Proofs.Ytbafihapjbkagaa.PFnDeeps
