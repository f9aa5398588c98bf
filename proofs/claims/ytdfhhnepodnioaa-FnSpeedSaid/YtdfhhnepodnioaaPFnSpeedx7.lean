/- The functions that the law reaches, as Lean functions, each with the proof that the Go code comes to just these answers. Written by a program of this session (wip/tools/handprint.py over the kit's print); by hand where the print takes no such text. -/
import Derived.Test.YtdfhhnepodnioaaPFnSpeedx0
import Derived.Test.YtdfhhnepodnioaaPFnSpeedx3
import Derived.Test.YtdfhhnepodnioaaPFnSpeedx5
import Derived.Test.YtdfhhnepodnioaaPFnSpeedx6
namespace Go.Proofs.Ytdfhhnepodnioaa.PFnSpeed
open Go.RowKit Go.Proofs.YtdfhhnepodnioaaW.PrintWords Go.Proofs.YtdfhhnepodnioaaW.PrintLast Go.Proofs.YtdfhhnepodnioaaW.PrintMore
attribute [local go_sem] max2_int min2_int max_two min_two max_three min_three max_four min_four   -- for this text's walks alone
set_option linter.unusedVariables false
set_option linter.unusedSimpArgs false

/-! ### laws_FnSpeed: function 6 -/
mutual
def laws_FnSpeed.j0 : Nat → List (S38) → Int → Int → Int → Int → Bool → Option (Bool)
  | 0, _, _, _, _, _, _ => none
  | k + 1, x3, x4, x5, x7, x8, x38 => if x38 = true then (some false) else (if x5 < 0 then (if x7 = (-1) then (some (x8 == (-1))) else (some false)) else (if 0 < (x3.length : Int) then (laws_FnSpeed.l0 k x3 x4 x5 x7 x8 ((rd_T38 x3 0).f1) ((rd_T38 x3 0).f1) 0) else (none)))
def laws_FnSpeed.l0 : Nat → List (S38) → Int → Int → Int → Int → Int → Int → Int → Option (Bool)
  | 0, _, _, _, _, _, _, _, _ => none
  | k + 1, x3, x4, x5, x7, x8, x9, x10, x11 => if x11 < (x3.length : Int) then (if 0 ≤ x11 then (if ((rd_T38 x3 x11).f0) = x4 then (laws_FnSpeed.j2 k x3 x4 x5 x7 x8 x9 x10 x11 (x5 != ((rd_T38 x3 x11).f1))) else (laws_FnSpeed.j2 k x3 x4 x5 x7 x8 x9 x10 x11 false)) else (none)) else (if x5 ≥ x9 then (if x5 ≤ x10 then (if x8 ≥ 0 then (if x8 < 256 then (if x7 = x5 then (if x8 = 0 then (some true) else (if x7 = (wrap64 (x5 + 1)) then (some true) else (some (x7 == 10000000)))) else (if x7 = (wrap64 (x5 + 1)) then (some true) else (some (x7 == 10000000)))) else (some false)) else (some false)) else (some false)) else (some false))
def laws_FnSpeed.j2 : Nat → List (S38) → Int → Int → Int → Int → Int → Int → Int → Bool → Option (Bool)
  | 0, _, _, _, _, _, _, _, _, _ => none
  | k + 1, x3, x4, x5, x7, x8, x9, x10, x11, x76 => if x76 = true then (some false) else (if 0 ≤ x11 then (if x11 < (x3.length : Int) then (if ((rd_T38 x3 x11).f1) < x9 then (if ((rd_T38 x3 x11).f1) > x10 then (laws_FnSpeed.l0 k x3 x4 x5 x7 x8 ((rd_T38 x3 x11).f1) ((rd_T38 x3 x11).f1) (wrap64 (x11 + 1))) else (laws_FnSpeed.l0 k x3 x4 x5 x7 x8 ((rd_T38 x3 x11).f1) x10 (wrap64 (x11 + 1)))) else (if ((rd_T38 x3 x11).f1) > x10 then (laws_FnSpeed.l0 k x3 x4 x5 x7 x8 x9 ((rd_T38 x3 x11).f1) (wrap64 (x11 + 1))) else (laws_FnSpeed.l0 k x3 x4 x5 x7 x8 x9 x10 (wrap64 (x11 + 1))))) else (none)) else (none))
end
def laws_FnSpeed.f (k : Nat) (l0 : List Int) : Option (Bool) := (laws_big.f l0).bind fun t259 => (if t259 = true then (some true) else ((spec_DrawSpeedAt.f k l0).bind fun bt260 => ((impl_SpeedAt.f k bt260.1 bt260.2).bind fun t264 => ((impl_Blend.f k bt260.1 bt260.2).bind fun bt265 => ((spec_SpeedAt.f k bt260.1 bt260.2).bind fun t268 => (if t264 = t268 then (laws_FnSpeed.j0 k bt260.1 bt260.2 t264 bt265.2.1 bt265.2.2 (bt265.1 != t264)) else (laws_FnSpeed.j0 k bt260.1 bt260.2 t264 bt265.2.1 bt265.2.2 true)))))))
theorem laws_FnSpeed.mono_l : ∀ k, (∀ y0 y1 y2 y3 y4 y5, LeO (laws_FnSpeed.j0 k y0 y1 y2 y3 y4 y5) (laws_FnSpeed.j0 (k + 1) y0 y1 y2 y3 y4 y5)) ∧ (∀ y0 y1 y2 y3 y4 y5 y6 y7, LeO (laws_FnSpeed.l0 k y0 y1 y2 y3 y4 y5 y6 y7) (laws_FnSpeed.l0 (k + 1) y0 y1 y2 y3 y4 y5 y6 y7)) ∧ (∀ y0 y1 y2 y3 y4 y5 y6 y7 y8, LeO (laws_FnSpeed.j2 k y0 y1 y2 y3 y4 y5 y6 y7 y8) (laws_FnSpeed.j2 (k + 1) y0 y1 y2 y3 y4 y5 y6 y7 y8))
  | 0 => ⟨fun _ _ _ _ _ _ r h => by simp [laws_FnSpeed.j0] at h, fun _ _ _ _ _ _ _ _ r h => by simp [laws_FnSpeed.l0] at h, fun _ _ _ _ _ _ _ _ _ r h => by simp [laws_FnSpeed.j2] at h⟩
  | k + 1 => by
    obtain ⟨ih0, ih1, ih2⟩ := laws_FnSpeed.mono_l k
    refine ⟨?_, ?_, ?_⟩
    · intro y0 y1 y2 y3 y4 y5
      unfold laws_FnSpeed.j0
      repeat' first
      | (with_reducible exact ih0 _ _ _ _ _ _)
      | (with_reducible exact ih1 _ _ _ _ _ _ _ _)
      | (with_reducible exact ih2 _ _ _ _ _ _ _ _ _)
      | (with_reducible exact impl_Blend.mono _ _ _)
      | (with_reducible exact impl_SpeedAt.mono _ _ _)
      | (with_reducible exact spec_DrawSpeedAt.mono _ _)
      | (with_reducible exact spec_SpeedAt.mono _ _ _)
      | (with_reducible exact LeO.refl _)
      | (with_reducible exact LeO.none _)
      | (with_reducible refine LeO.ite ?_ ?_)
      | (with_reducible refine LeO.bind ?_ (fun _ => ?_))
      | exact ih0 _ _ _ _ _ _
      | exact ih1 _ _ _ _ _ _ _ _
      | exact ih2 _ _ _ _ _ _ _ _ _
      | exact impl_Blend.mono _ _ _
      | exact impl_SpeedAt.mono _ _ _
      | exact spec_DrawSpeedAt.mono _ _
      | exact spec_SpeedAt.mono _ _ _
      | exact LeO.none _
      | refine LeO.ite ?_ ?_
      | refine LeO.bind ?_ (fun _ => ?_)
    · intro y0 y1 y2 y3 y4 y5 y6 y7
      unfold laws_FnSpeed.l0
      repeat' first
      | (with_reducible exact ih0 _ _ _ _ _ _)
      | (with_reducible exact ih1 _ _ _ _ _ _ _ _)
      | (with_reducible exact ih2 _ _ _ _ _ _ _ _ _)
      | (with_reducible exact impl_Blend.mono _ _ _)
      | (with_reducible exact impl_SpeedAt.mono _ _ _)
      | (with_reducible exact spec_DrawSpeedAt.mono _ _)
      | (with_reducible exact spec_SpeedAt.mono _ _ _)
      | (with_reducible exact LeO.refl _)
      | (with_reducible exact LeO.none _)
      | (with_reducible refine LeO.ite ?_ ?_)
      | (with_reducible refine LeO.bind ?_ (fun _ => ?_))
      | exact ih0 _ _ _ _ _ _
      | exact ih1 _ _ _ _ _ _ _ _
      | exact ih2 _ _ _ _ _ _ _ _ _
      | exact impl_Blend.mono _ _ _
      | exact impl_SpeedAt.mono _ _ _
      | exact spec_DrawSpeedAt.mono _ _
      | exact spec_SpeedAt.mono _ _ _
      | exact LeO.none _
      | refine LeO.ite ?_ ?_
      | refine LeO.bind ?_ (fun _ => ?_)
    · intro y0 y1 y2 y3 y4 y5 y6 y7 y8
      unfold laws_FnSpeed.j2
      repeat' first
      | (with_reducible exact ih0 _ _ _ _ _ _)
      | (with_reducible exact ih1 _ _ _ _ _ _ _ _)
      | (with_reducible exact ih2 _ _ _ _ _ _ _ _ _)
      | (with_reducible exact impl_Blend.mono _ _ _)
      | (with_reducible exact impl_SpeedAt.mono _ _ _)
      | (with_reducible exact spec_DrawSpeedAt.mono _ _)
      | (with_reducible exact spec_SpeedAt.mono _ _ _)
      | (with_reducible exact LeO.refl _)
      | (with_reducible exact LeO.none _)
      | (with_reducible refine LeO.ite ?_ ?_)
      | (with_reducible refine LeO.bind ?_ (fun _ => ?_))
      | exact ih0 _ _ _ _ _ _
      | exact ih1 _ _ _ _ _ _ _ _
      | exact ih2 _ _ _ _ _ _ _ _ _
      | exact impl_Blend.mono _ _ _
      | exact impl_SpeedAt.mono _ _ _
      | exact spec_DrawSpeedAt.mono _ _
      | exact spec_SpeedAt.mono _ _ _
      | exact LeO.none _
      | refine LeO.ite ?_ ?_
      | refine LeO.bind ?_ (fun _ => ?_)
theorem laws_FnSpeed.mono : ∀ a0 k, LeO (laws_FnSpeed.f k a0) (laws_FnSpeed.f (k + 1) a0) := by
  intro a0 k
  obtain ⟨ih0, ih1, ih2⟩ := laws_FnSpeed.mono_l k
  unfold laws_FnSpeed.f
  repeat' first
      | (with_reducible exact ih0 _ _ _ _ _ _)
      | (with_reducible exact ih1 _ _ _ _ _ _ _ _)
      | (with_reducible exact ih2 _ _ _ _ _ _ _ _ _)
      | (with_reducible exact impl_Blend.mono _ _ _)
      | (with_reducible exact impl_SpeedAt.mono _ _ _)
      | (with_reducible exact spec_DrawSpeedAt.mono _ _)
      | (with_reducible exact spec_SpeedAt.mono _ _ _)
      | (with_reducible exact LeO.refl _)
      | (with_reducible exact LeO.none _)
      | (with_reducible refine LeO.ite ?_ ?_)
      | (with_reducible refine LeO.bind ?_ (fun _ => ?_))
      | exact ih0 _ _ _ _ _ _
      | exact ih1 _ _ _ _ _ _ _ _
      | exact ih2 _ _ _ _ _ _ _ _ _
      | exact impl_Blend.mono _ _ _
      | exact impl_SpeedAt.mono _ _ _
      | exact spec_DrawSpeedAt.mono _ _
      | exact spec_SpeedAt.mono _ _ _
      | exact LeO.none _
      | refine LeO.ite ?_ ?_
      | refine LeO.bind ?_ (fun _ => ?_)
theorem laws_FnSpeed.j0_dead_true {k : Nat} {y0} {y1} {y2} {y3} {y4} {r : Bool} (h : laws_FnSpeed.j0 k y0 y1 y2 y3 y4 true = some r) : r = false := by
  cases k with
  | zero => exact absurd h (by simp [laws_FnSpeed.j0])
  | succ k =>
    simp only [laws_FnSpeed.j0] at h
    first | rw [if_pos rfl] at h | rw [if_pos trivial] at h
    exact (Option.some.inj h).symm
set_option maxHeartbeats 8000000 in
set_option maxRecDepth 100000 in
theorem laws_FnSpeed.calls (k : Nat) (A0 : Option Addr) (c0 : Nat) (l0 : List Int) (r : Bool) (w : World) (hr0 : Kd.C (Kd.int .u8) w A0 l0.length l0) (hc0 : l0.length ≤ c0) (h : laws_FnSpeed.f k l0 = some r) (hrt0 : r = true) :
    Calls Try.prog 6 #[.slice A0 l0.length c0] w fun e w' => e = .returned (.bool r) ∧ Below w.heap.size w w' := by
  have hrt := Aside0.mk hrt0
  clear hrt0
  have HR0 := Aside0.mk hr0
  have HC0 := Aside0.mk hc0
  clear hr0 hc0
  have HB := Aside0.mk (Below.refl w.heap.size w)
  have H : ((laws_big.f l0).bind fun t259 => (if t259 = true then (some true) else ((spec_DrawSpeedAt.f k l0).bind fun bt260 => ((impl_SpeedAt.f k bt260.1 bt260.2).bind fun t264 => ((impl_Blend.f k bt260.1 bt260.2).bind fun bt265 => ((spec_SpeedAt.f k bt260.1 bt260.2).bind fun t268 => (if t264 = t268 then (laws_FnSpeed.j0 k bt260.1 bt260.2 t264 bt265.2.1 bt265.2.2 (bt265.1 != t264)) else (laws_FnSpeed.j0 k bt260.1 bt260.2 t264 bt265.2.1 bt265.2.2 true)))))))) = some r := h
  clear h
  replace H := Option.bind_eq_some_iff.mp H
  obtain ⟨t259, A20, H⟩ := H
  replace H : (if t259 = true then (some true) else ((spec_DrawSpeedAt.f k l0).bind fun bt260 => ((impl_SpeedAt.f k bt260.1 bt260.2).bind fun t264 => ((impl_Blend.f k bt260.1 bt260.2).bind fun bt265 => ((spec_SpeedAt.f k bt260.1 bt260.2).bind fun t268 => (if t264 = t268 then (laws_FnSpeed.j0 k bt260.1 bt260.2 t264 bt265.2.1 bt265.2.2 (bt265.1 != t264)) else (laws_FnSpeed.j0 k bt260.1 bt260.2 t264 bt265.2.1 bt265.2.2 true))))))) = some r := H
  have A2 := Aside0.mk A20
  clear A20
  by_cases c3 : t259 = true
  · subst c3
    have H1 : (some true) = some r := by rw [if_pos rfl] at H; exact H
    clear H
    have H := H1
    clear H1
    obtain rfl := Option.some.inj H
    go_enter Try.func6, Try.ntmps6
    go_wp2_with (first | ((with_reducible refine gate_callee (f := 18) rfl ?_); refine goesL_ (some 13) rfl rfl Try.func18 (by kernel_rfl) rfl #[.slice A0 l0.length c0] rfl (by (try simp only [List.map_toArray, List.map_cons, List.map_nil]); first | done | rfl | (simp only [List.length_drop, List.length_take]; rfl)) ?_; (with_reducible refine (laws_big.calls _ _ l0 true _ ?side1 ?side2 A2.out).mono ?_); (case side1 => repeat (first | exact HR0.out | (with_reducible refine Kd.C_alloc ?_ _) | (with_reducible refine Kd.C_drewN ?_ _) | (with_reducible refine Kd.C_drew ?_))); (case side2 => exact HC0.out); rintro e w' ⟨rfl, ⟨nd, rfl⟩⟩; refine ⟨_, rfl, ?_⟩))
    go_ret
    exact ⟨by first | rfl | (simp [errW_none, errW_some] <;> rfl) | (simp [*, errW_none, errW_some] <;> rfl), by repeat (first | (with_reducible first | exact HB.out | apply below_alloc | apply pw_below_drewN | apply below_drew1) | exact HB.out)⟩
  · replace c3 := Bool.eq_false_iff.mpr c3
    subst c3
    have H1 : ((spec_DrawSpeedAt.f k l0).bind fun bt260 => ((impl_SpeedAt.f k bt260.1 bt260.2).bind fun t264 => ((impl_Blend.f k bt260.1 bt260.2).bind fun bt265 => ((spec_SpeedAt.f k bt260.1 bt260.2).bind fun t268 => (if t264 = t268 then (laws_FnSpeed.j0 k bt260.1 bt260.2 t264 bt265.2.1 bt265.2.2 (bt265.1 != t264)) else (laws_FnSpeed.j0 k bt260.1 bt260.2 t264 bt265.2.1 bt265.2.2 true)))))) = some r := by rw [if_neg (show ¬ (false = true) by decide)] at H; exact H
    clear H
    have H := H1
    clear H1
    replace H := Option.bind_eq_some_iff.mp H
    obtain ⟨⟨t260, t261⟩, A40, H⟩ := H
    replace H : ((impl_SpeedAt.f k t260 t261).bind fun t264 => ((impl_Blend.f k t260 t261).bind fun bt265 => ((spec_SpeedAt.f k t260 t261).bind fun t268 => (if t264 = t268 then (laws_FnSpeed.j0 k t260 t261 t264 bt265.2.1 bt265.2.2 (bt265.1 != t264)) else (laws_FnSpeed.j0 k t260 t261 t264 bt265.2.1 bt265.2.2 true))))) = some r := H
    have A4 := Aside0.mk A40
    clear A40
    replace H := Option.bind_eq_some_iff.mp H
    obtain ⟨t264, A50, H⟩ := H
    replace H : ((impl_Blend.f k t260 t261).bind fun bt265 => ((spec_SpeedAt.f k t260 t261).bind fun t268 => (if t264 = t268 then (laws_FnSpeed.j0 k t260 t261 t264 bt265.2.1 bt265.2.2 (bt265.1 != t264)) else (laws_FnSpeed.j0 k t260 t261 t264 bt265.2.1 bt265.2.2 true)))) = some r := H
    have A5 := Aside0.mk A50
    clear A50
    replace H := Option.bind_eq_some_iff.mp H
    obtain ⟨⟨t265, t266, t267⟩, A60, H⟩ := H
    replace H : ((spec_SpeedAt.f k t260 t261).bind fun t268 => (if t264 = t268 then (laws_FnSpeed.j0 k t260 t261 t264 t266 t267 (t265 != t264)) else (laws_FnSpeed.j0 k t260 t261 t264 t266 t267 true))) = some r := H
    have A6 := Aside0.mk A60
    clear A60
    have HC7 := Aside0.mk H
    clear H
    go_enter Try.func6, Try.ntmps6
    go_upto_region 6 with (first | ((with_reducible refine gate_callee (f := 18) rfl ?_); refine goesL_ (some 13) rfl rfl Try.func18 (by kernel_rfl) rfl #[.slice A0 l0.length c0] rfl (by (try simp only [List.map_toArray, List.map_cons, List.map_nil]); first | done | rfl | (simp only [List.length_drop, List.length_take]; rfl)) ?_; (with_reducible refine (laws_big.calls _ _ l0 false _ ?side1 ?side2 A2.out).mono ?_); (case side1 => repeat (first | exact HR0.out | (with_reducible refine Kd.C_alloc ?_ _) | (with_reducible refine Kd.C_drewN ?_ _) | (with_reducible refine Kd.C_drew ?_))); (case side2 => exact HC0.out); rintro e w' ⟨rfl, ⟨nd, rfl⟩⟩; refine ⟨_, rfl, ?_⟩) | ((with_reducible refine gate_callee (f := 19) rfl ?_); refine goesL_ (some 16) rfl rfl Try.func19 (by kernel_rfl) rfl #[.slice A0 l0.length c0] rfl (by (try simp only [List.map_toArray, List.map_cons, List.map_nil]); first | done | rfl | (simp only [List.length_drop, List.length_take]; rfl)) ?_; (with_reducible refine (spec_DrawSpeedAt.calls k _ _ l0 t260 t261 _ ?side1 ?side2 A4.out).mono ?_); (case side1 => repeat (first | exact HR0.out | (with_reducible refine Kd.C_alloc ?_ _) | (with_reducible refine Kd.C_drewN ?_ _) | (with_reducible refine Kd.C_drew ?_))); (case side2 => exact HC0.out); rintro e w8 ⟨v262, rfl, ho0, hb⟩; refine ⟨_, rfl, ?_⟩; have n0_ := Aside0.mk (Kd.R_lower ho0 (below_size (by repeat (first | (with_reducible first | exact HB.out | apply below_alloc | apply pw_below_drewN | apply below_drew1) | exact HB.out)))); have n1_ := Aside0.mk (below_step (by repeat (first | (with_reducible first | exact HB.out | apply below_alloc | apply pw_below_drewN | apply below_drew1) | exact HB.out)) hb); clear HB; have HO263 := n0_; have HB := n1_; clear n0_ n1_; (try clear hb); (try clear hb2); (try clear hk); (try clear hi); (try clear ho0); obtain ⟨Ao9, co9, eo9⟩ := Kd.R_slice HO263.out; subst eo9) | ((with_reducible refine gate_callee (f := 15) rfl ?_); refine goesL_ (some 21) rfl rfl Try.func15 (by kernel_rfl) rfl #[.slice Ao9 t260.length co9, .int .i64 t261] rfl (by (try simp only [List.map_toArray, List.map_cons, List.map_nil]); first | done | rfl | (simp only [List.length_drop, List.length_take]; rfl)) ?_; (with_reducible refine (impl_SpeedAt.calls k _ _ t260 t261 t264 _ ?side1 ?side2 A5.out).mono ?_); (case side1 => repeat (first | exact (Kd.R_reads' HO263.out).2.2 | (with_reducible refine Kd.C_alloc ?_ _) | (with_reducible refine Kd.C_drewN ?_ _) | (with_reducible refine Kd.C_drew ?_))); (case side2 => exact (Kd.R_reads' HO263.out).2.1); rintro e w10 ⟨rfl, hb⟩; refine ⟨_, rfl, ?_⟩; have n0_ := Aside0.mk (Kd.R_below (by (with_reducible repeat (first | apply Kd.R_alloc | apply Kd.R_drewN | apply Kd.R_drew)); exact HO263.out) hb); have n1_ := Aside0.mk (below_step (by repeat (first | (with_reducible first | exact HB.out | apply below_alloc | apply pw_below_drewN | apply below_drew1) | exact HB.out)) hb); clear HO263; clear HB; have HO263 := n0_; have HB := n1_; clear n0_ n1_; (try clear hb); (try clear hb2); (try clear hk); (try clear hi)) | ((with_reducible refine gate_callee (f := 17) rfl ?_); refine goesL_ (some 25) rfl rfl Try.func17 (by kernel_rfl) rfl #[.slice Ao9 t260.length co9, .int .i64 t261] rfl (by (try simp only [List.map_toArray, List.map_cons, List.map_nil]); first | done | rfl | (simp only [List.length_drop, List.length_take]; rfl)) ?_; (with_reducible refine (impl_Blend.calls k _ _ t260 t261 t265 t266 t267 _ ?side1 ?side2 A6.out).mono ?_); (case side1 => repeat (first | exact (Kd.R_reads' HO263.out).2.2 | (with_reducible refine Kd.C_alloc ?_ _) | (with_reducible refine Kd.C_drewN ?_ _) | (with_reducible refine Kd.C_drew ?_))); (case side2 => exact (Kd.R_reads' HO263.out).2.1); rintro e w11 ⟨rfl, hb⟩; refine ⟨_, rfl, ?_⟩; have n0_ := Aside0.mk (Kd.R_below (by (with_reducible repeat (first | apply Kd.R_alloc | apply Kd.R_drewN | apply Kd.R_drew)); exact HO263.out) hb); have n1_ := Aside0.mk (below_step (by repeat (first | (with_reducible first | exact HB.out | apply below_alloc | apply pw_below_drewN | apply below_drew1) | exact HB.out)) hb); clear HO263; clear HB; have HO263 := n0_; have HB := n1_; clear n0_ n1_; (try clear hb); (try clear hb2); (try clear hk); (try clear hi)))
    (try simp only [Act.put, List.setIfInBounds_toArray, List.set_cons_zero, List.set_cons_succ])
    go_cut [38] (fun v38 wc => ∃ (kq : Nat) (x38_6 : Bool), v38 = .bool x38_6 ∧ Aside0 (laws_FnSpeed.j0 kq t260 t261 t264 t266 t267 x38_6 = some r) ∧ Aside0 (kq ≤ k) ∧ Aside0 (Kd.R k38 38 wc w.heap.size (fun _ => True) (.slice Ao9 t260.length co9) t260) ∧ Aside0 (Below w.heap.size w wc))
    case first =>
      have H := HC7.out
      clear HC7
      replace H := Option.bind_eq_some_iff.mp H
      obtain ⟨t268, A120, H⟩ := H
      replace H : (if t264 = t268 then (laws_FnSpeed.j0 k t260 t261 t264 t266 t267 (t265 != t264)) else (laws_FnSpeed.j0 k t260 t261 t264 t266 t267 true)) = some r := H
      have A12 := Aside0.mk A120
      clear A120
      by_cases c13 : t264 = t268
      · rw [if_pos c13] at H
        have c13b0 : (t264 == t268) = true := beq_iff_eq.mpr c13
        have c13b1 : (t264 != t268) = false := bne_eq_false_iff_eq.mpr c13
        clear c13
        (first | rw [c13b0] | (simp only [i64_w, i32_w]; rw [c13b0]) | skip)
        have H' := Aside0.mk H
        clear H
        go_wp2_with (first | ((with_reducible refine gate_callee (f := 14) rfl ?_); refine goesL_ (some 32) rfl rfl Try.func14 (by kernel_rfl) rfl #[.slice Ao9 t260.length co9, .int .i64 t261] rfl (by (try simp only [List.map_toArray, List.map_cons, List.map_nil]); first | done | rfl | (simp only [List.length_drop, List.length_take]; rfl)) ?_; (with_reducible refine (spec_SpeedAt.calls k _ _ t260 t261 t268 _ ?side1 ?side2 A12.out).mono ?_); (case side1 => repeat (first | exact (Kd.R_reads' HO263.out).2.2 | (with_reducible refine Kd.C_alloc ?_ _) | (with_reducible refine Kd.C_drewN ?_ _) | (with_reducible refine Kd.C_drew ?_))); (case side2 => exact (Kd.R_reads' HO263.out).2.1); rintro e w14 ⟨rfl, hb⟩; refine ⟨_, rfl, ?_⟩; have n0_ := Aside0.mk (Kd.R_below (by (with_reducible repeat (first | apply Kd.R_alloc | apply Kd.R_drewN | apply Kd.R_drew)); exact HO263.out) hb); have n1_ := Aside0.mk (below_step (by repeat (first | (with_reducible first | exact HB.out | apply below_alloc | apply pw_below_drewN | apply below_drew1) | exact HB.out)) hb); clear HO263; clear HB; have HO263 := n0_; have HB := n1_; clear n0_ n1_; (try clear hb); (try clear hb2); (try clear hk); (try clear hi)))
        go_meet
        case rel => exact ⟨_, ((t265 != t264)), (by first | rfl | (simp; done) | (simp [*]; done)), H', ⟨by first | omega | exact Nat.le_refl _⟩, ⟨by (with_reducible repeat (first | apply Kd.R_alloc | apply Kd.R_drewN | apply Kd.R_drew)); exact HO263.out⟩, ⟨by repeat (first | (with_reducible first | exact HB.out | apply below_alloc | apply pw_below_drewN | apply below_drew1) | exact HB.out)⟩⟩
      · rw [if_neg c13] at H
        have c13b0 : (t264 == t268) = false := beq_eq_false_iff_ne.mpr c13
        have c13b1 : (t264 != t268) = true := bne_iff_ne.mpr c13
        (first | rw [c13b0] | (simp only [i64_w, i32_w]; rw [c13b0]) | skip)
        exact absurd (laws_FnSpeed.j0_dead_true H) (by rw [hrt.out]; decide)
    case rest =>
      clear HC7
      try clear c1
      try clear p2
      try clear c3
      try clear c6
      try clear c13
      try clear c13b0
      try clear c13b1
      try clear c14
      obtain ⟨kq, x38_6, rfl, HA, HJ6, HO_3, HB⟩ := hcut
      cases kq with
      | zero => exact absurd HA.out (by simp [laws_FnSpeed.j0])
      | succ kj6 =>
        have H := HA.out
        clear HA
        simp only [laws_FnSpeed.j0] at H
        by_cases c15 : x38_6 = true
        · subst c15
          have H1 : (some false) = some r := by rw [if_pos rfl] at H; exact H
          clear H
          have H := H1
          clear H1
          exact absurd ((Option.some.inj H).trans hrt.out) (by decide)
        · replace c15 := Bool.eq_false_iff.mpr c15
          subst c15
          have H1 : (if t264 < 0 then (if t266 = (-1) then (some (t267 == (-1))) else (some false)) else (if 0 < (t260.length : Int) then (laws_FnSpeed.l0 kj6 t260 t261 t264 t266 t267 ((rd_T38 t260 0).f1) ((rd_T38 t260 0).f1) 0) else (none))) = some r := by rw [if_neg (show ¬ (false = true) by decide)] at H; exact H
          clear H
          have H := H1
          clear H1
          by_cases c16 : t264 < 0
          · rw [if_pos c16] at H
            have c16b0 : decide (t264 < 0) = true := decide_eq_true c16
            clear c16
            by_cases c17 : t266 = (-1)
            · rw [if_pos c17] at H
              have c17b0 : (t266 == (-1)) = true := beq_iff_eq.mpr c17
              have c17b1 : (t266 != (-1)) = false := bne_eq_false_iff_eq.mpr c17
              clear c17
              obtain rfl := Option.some.inj H
              go_wp2
              go_ret
              exact ⟨by first | rfl | (simp [errW_none, errW_some] <;> rfl) | (simp [*, errW_none, errW_some] <;> rfl), by repeat (first | (with_reducible first | exact HB.out | apply below_alloc | apply pw_below_drewN | apply below_drew1) | exact HB.out)⟩
            · rw [if_neg c17] at H
              have c17b0 : (t266 == (-1)) = false := beq_eq_false_iff_ne.mpr c17
              have c17b1 : (t266 != (-1)) = true := bne_iff_ne.mpr c17
              exact absurd ((Option.some.inj H).trans hrt.out) (by decide)
          · rw [if_neg c16] at H
            have c16b0 : decide (t264 < 0) = false := decide_eq_false c16
            clear c16
            by_cases c18 : 0 < (t260.length : Int)
            · rw [if_pos c18] at H
              have c18b0 : decide (0 < (t260.length : Int)) = true := decide_eq_true c18
              have c18b1 : decide (0 < t260.length) = true := decide_eq_true (by omega)
              clear c18
              have H' := Aside0.mk H
              clear H
              have p269 : 0 ≤ (0 : Int) := (by omega)
              have q269 : 0 < (t260.length : Int) := of_decide_eq_true (by first | (with_reducible assumption) | assumption)
              obtain ⟨ad269, e269, hx269_0, hx269_1⟩ := at_T38 (Kd.R_reads' HO_3.out).2.2 0 p269 q269
              cases e269
              have qi269 : (0 < t260.length) = True := eq_true (by omega)
              (try rw [show ((0 : Int)).toNat = 0 from rfl] at hx269_0)
              (try rw [show 0 * 2 = 0 from rfl] at hx269_0)
              (try rw [Addr.add_zero'] at hx269_0)
              (try rw [show ((0 : Int)).toNat = 0 from rfl] at hx269_1)
              (try rw [show 0 * 2 = 0 from rfl] at hx269_1)
              (try rw [Addr.add_zero'] at hx269_1)
              replace p269 := eq_true p269
              replace q269 := eq_true q269
              have p270 : 0 ≤ (0 : Int) := (by omega)
              have q270 : 0 < (t260.length : Int) := of_decide_eq_true (by first | (with_reducible assumption) | assumption)
              obtain ⟨ad270, e270, hx270_0, hx270_1⟩ := at_T38 (Kd.R_reads' HO_3.out).2.2 0 p270 q270
              obtain rfl : ad269 = ad270 := (by injection e270)
              have qi270 : (0 < t260.length) = True := eq_true (by omega)
              (try rw [show ((0 : Int)).toNat = 0 from rfl] at hx270_0)
              (try rw [show 0 * 2 = 0 from rfl] at hx270_0)
              (try rw [Addr.add_zero'] at hx270_0)
              (try rw [show ((0 : Int)).toNat = 0 from rfl] at hx270_1)
              (try rw [show 0 * 2 = 0 from rfl] at hx270_1)
              (try rw [Addr.add_zero'] at hx270_1)
              replace p270 := eq_true p270
              replace q270 := eq_true q270
              go_wp2
              go_loopg [9, 10, 11] kj6 (fun kq v9 v10 v11 w' => ∃ (x9_2 : Int) (x10_2 : Int) (x11_2 : Int), v9 = .int .i64 x9_2 ∧ v10 = .int .i64 x10_2 ∧ v11 = .int .i64 x11_2 ∧ Aside0 (laws_FnSpeed.l0 kq t260 t261 t264 t266 t267 x9_2 x10_2 x11_2 = some r) ∧ Aside0 (kq ≤ kj6) ∧ Aside0 (Kd.R k38 38 w' w.heap.size (fun _ => True) (.slice (some ad269) t260.length co9) t260) ∧ Aside0 (Below w.heap.size w w'))
              case atStart => exact ⟨((rd_T38 t260 0).f1), ((rd_T38 t260 0).f1), (0), (by first | rfl | (simp; done) | (simp [*]; done)), (by first | rfl | (simp; done) | (simp [*]; done)), (by first | rfl | (simp; done) | (simp [*]; done)), H', ⟨Nat.le_refl _⟩, ⟨by (with_reducible repeat (first | apply Kd.R_alloc | apply Kd.R_drewN | apply Kd.R_drew)); exact HO_3.out⟩, ⟨by repeat (first | (with_reducible first | exact HB.out | apply below_alloc | apply pw_below_drewN | apply below_drew1) | exact HB.out)⟩⟩
              case round =>
                clear H'
                try clear c1
                try clear p2
                try clear q2
                try clear hx2
                try clear qi2
                try clear c3
                try clear c6
                try clear c13
                try clear c13b0
                try clear c13b1
                try clear c14
                try clear c15
                try clear c16
                try clear c16b0
                try clear c17
                try clear c17b0
                try clear c17b1
                try clear c18
                try clear c18b0
                try clear c18b1
                try clear hx269_0
                try clear hx269_1
                try clear hx270_0
                try clear hx270_1
                try clear p2
                try clear p269
                try clear p270
                try clear q269
                try clear q270
                obtain ⟨x9_2, x10_2, x11_2, rfl, rfl, rfl, HA, HK2, HO_3, HB⟩ := hrel
                cases gk with
                | zero => exact absurd HA.out (by simp [laws_FnSpeed.l0])
                | succ k2 =>
                  have H := HA.out
                  clear HA
                  simp only [laws_FnSpeed.l0] at H
                  by_cases c19 : x11_2 < (t260.length : Int)
                  · rw [if_pos c19] at H
                    have c19b0 : decide (x11_2 < (t260.length : Int)) = true := decide_eq_true c19
                    clear c19
                    have HC20 := Aside0.mk H
                    clear H
                    go_upto_region 15 with (fail)
                    go_cut [76] (fun v76 wc => ∃ (kq : Nat) (x76_19 : Bool), v76 = .bool x76_19 ∧ Aside0 (laws_FnSpeed.j2 kq t260 t261 t264 t266 t267 x9_2 x10_2 x11_2 x76_19 = some r) ∧ Aside0 (kq ≤ k2) ∧ Aside0 (Kd.R k38 38 wc w.heap.size (fun _ => True) (.slice (some ad269) t260.length co9) t260) ∧ Aside0 (Below w.heap.size w wc))
                    case first =>
                      have H := HC20.out
                      clear HC20
                      by_cases c21 : 0 ≤ x11_2
                      · rw [if_pos c21] at H
                        have c21b0 : decide (0 ≤ x11_2) = true := decide_eq_true c21
                        clear c21
                        (first | rw [c21b0] | (simp only [i64_w, i32_w]; rw [c21b0]) | skip)
                        by_cases c22 : ((rd_T38 t260 x11_2).f0) = t261
                        · rw [if_pos c22] at H
                          have c22b0 : (((rd_T38 t260 x11_2).f0) == t261) = true := beq_iff_eq.mpr c22
                          have c22b1 : (((rd_T38 t260 x11_2).f0) != t261) = false := bne_eq_false_iff_eq.mpr c22
                          clear c22
                          have H' := Aside0.mk H
                          clear H
                          have p271 : 0 ≤ (x11_2 : Int) := of_decide_eq_true (by first | (with_reducible assumption) | assumption)
                          have q271 : x11_2 < (t260.length : Int) := of_decide_eq_true (by first | (with_reducible assumption) | assumption)
                          obtain ⟨ad271, e271, hx271_0, hx271_1⟩ := at_T38 (Kd.R_reads' HO_3.out).2.2 x11_2 p271 q271
                          obtain rfl : ad269 = ad271 := (by injection e271)
                          replace p271 := eq_true p271
                          replace q271 := eq_true q271
                          have p272 : 0 ≤ (x11_2 : Int) := of_decide_eq_true (by first | (with_reducible assumption) | assumption)
                          have q272 : x11_2 < (t260.length : Int) := of_decide_eq_true (by first | (with_reducible assumption) | assumption)
                          obtain ⟨ad272, e272, hx272_0, hx272_1⟩ := at_T38 (Kd.R_reads' HO_3.out).2.2 x11_2 p272 q272
                          obtain rfl : ad269 = ad272 := (by injection e272)
                          replace p272 := eq_true p272
                          replace q272 := eq_true q272
                          go_wp2
                          go_meet
                          case rel => exact ⟨_, ((t264 != ((rd_T38 t260 x11_2).f1))), (by first | rfl | (simp; done) | (simp [*]; done)), H', ⟨by have := HJ6.out; have := HK2.out; first | omega | exact Nat.le_refl _⟩, ⟨by (with_reducible repeat (first | apply Kd.R_alloc | apply Kd.R_drewN | apply Kd.R_drew)); exact HO_3.out⟩, ⟨by repeat (first | (with_reducible first | exact HB.out | apply below_alloc | apply pw_below_drewN | apply below_drew1) | exact HB.out)⟩⟩
                        · rw [if_neg c22] at H
                          have c22b0 : (((rd_T38 t260 x11_2).f0) == t261) = false := beq_eq_false_iff_ne.mpr c22
                          have c22b1 : (((rd_T38 t260 x11_2).f0) != t261) = true := bne_iff_ne.mpr c22
                          have H' := Aside0.mk H
                          clear H
                          have p271 : 0 ≤ (x11_2 : Int) := of_decide_eq_true (by first | (with_reducible assumption) | assumption)
                          have q271 : x11_2 < (t260.length : Int) := of_decide_eq_true (by first | (with_reducible assumption) | assumption)
                          obtain ⟨ad271, e271, hx271_0, hx271_1⟩ := at_T38 (Kd.R_reads' HO_3.out).2.2 x11_2 p271 q271
                          obtain rfl : ad269 = ad271 := (by injection e271)
                          replace p271 := eq_true p271
                          replace q271 := eq_true q271
                          go_wp2
                          go_meet
                          case rel => exact ⟨_, (false), (by first | rfl | (simp; done) | (simp [*]; done)), H', ⟨by have := HJ6.out; have := HK2.out; first | omega | exact Nat.le_refl _⟩, ⟨by (with_reducible repeat (first | apply Kd.R_alloc | apply Kd.R_drewN | apply Kd.R_drew)); exact HO_3.out⟩, ⟨by repeat (first | (with_reducible first | exact HB.out | apply below_alloc | apply pw_below_drewN | apply below_drew1) | exact HB.out)⟩⟩
                      · rw [if_neg c21] at H
                        exact absurd H (by simp)
                    case rest =>
                      clear HC20
                      try clear c1
                      try clear c2
                      try clear p2
                      try clear q2
                      try clear hx2
                      try clear qi2
                      try clear c3
                      try clear c6
                      try clear c13
                      try clear c13b0
                      try clear c13b1
                      try clear c14
                      try clear c15
                      try clear c16
                      try clear c16b0
                      try clear c17
                      try clear c17b0
                      try clear c17b1
                      try clear c18
                      try clear c18b0
                      try clear c18b1
                      try clear c19
                      try clear c19b0
                      try clear c21
                      try clear c21b0
                      try clear c22
                      try clear c22b0
                      try clear c22b1
                      try clear hx269_0
                      try clear hx269_1
                      try clear hx270_0
                      try clear hx270_1
                      try clear hx271_0
                      try clear hx271_1
                      try clear hx272_0
                      try clear hx272_1
                      try clear p2
                      try clear p269
                      try clear p270
                      try clear p271
                      try clear p272
                      try clear q2
                      try clear q269
                      try clear q270
                      try clear q271
                      try clear q272
                      obtain ⟨kq, x76_19, rfl, HA, HJ19, HO_3, HB⟩ := hcut
                      cases kq with
                      | zero => exact absurd HA.out (by simp [laws_FnSpeed.j2])
                      | succ kj19 =>
                        have H := HA.out
                        clear HA
                        simp only [laws_FnSpeed.j2] at H
                        by_cases c23 : x76_19 = true
                        · subst c23
                          have H1 : (some false) = some r := by rw [if_pos rfl] at H; exact H
                          clear H
                          have H := H1
                          clear H1
                          exact absurd ((Option.some.inj H).trans hrt.out) (by decide)
                        · replace c23 := Bool.eq_false_iff.mpr c23
                          subst c23
                          have H1 : (if 0 ≤ x11_2 then (if x11_2 < (t260.length : Int) then (if ((rd_T38 t260 x11_2).f1) < x9_2 then (if ((rd_T38 t260 x11_2).f1) > x10_2 then (laws_FnSpeed.l0 kj19 t260 t261 t264 t266 t267 ((rd_T38 t260 x11_2).f1) ((rd_T38 t260 x11_2).f1) (wrap64 (x11_2 + 1))) else (laws_FnSpeed.l0 kj19 t260 t261 t264 t266 t267 ((rd_T38 t260 x11_2).f1) x10_2 (wrap64 (x11_2 + 1)))) else (if ((rd_T38 t260 x11_2).f1) > x10_2 then (laws_FnSpeed.l0 kj19 t260 t261 t264 t266 t267 x9_2 ((rd_T38 t260 x11_2).f1) (wrap64 (x11_2 + 1))) else (laws_FnSpeed.l0 kj19 t260 t261 t264 t266 t267 x9_2 x10_2 (wrap64 (x11_2 + 1))))) else (none)) else (none)) = some r := by rw [if_neg (show ¬ (false = true) by decide)] at H; exact H
                          clear H
                          have H := H1
                          clear H1
                          by_cases c24 : 0 ≤ x11_2
                          · rw [if_pos c24] at H
                            have c24b0 : decide (0 ≤ x11_2) = true := decide_eq_true c24
                            clear c24
                            by_cases c25 : x11_2 < (t260.length : Int)
                            · rw [if_pos c25] at H
                              have c25b0 : decide (x11_2 < (t260.length : Int)) = true := decide_eq_true c25
                              clear c25
                              by_cases c26 : ((rd_T38 t260 x11_2).f1) < x9_2
                              · rw [if_pos c26] at H
                                have c26b0 : decide (((rd_T38 t260 x11_2).f1) < x9_2) = true := decide_eq_true c26
                                clear c26
                                by_cases c27 : ((rd_T38 t260 x11_2).f1) > x10_2
                                · rw [if_pos c27] at H
                                  have c27b0 : decide (x10_2 < ((rd_T38 t260 x11_2).f1)) = true := decide_eq_true c27
                                  clear c27
                                  have H' := Aside0.mk H
                                  clear H
                                  have p273 : 0 ≤ (x11_2 : Int) := of_decide_eq_true (by first | (with_reducible assumption) | assumption)
                                  have q273 : x11_2 < (t260.length : Int) := of_decide_eq_true (by first | (with_reducible assumption) | assumption)
                                  obtain ⟨ad273, e273, hx273_0, hx273_1⟩ := at_T38 (Kd.R_reads' HO_3.out).2.2 x11_2 p273 q273
                                  obtain rfl : ad269 = ad273 := (by injection e273)
                                  replace p273 := eq_true p273
                                  replace q273 := eq_true q273
                                  have p274 : 0 ≤ (x11_2 : Int) := of_decide_eq_true (by first | (with_reducible assumption) | assumption)
                                  have q274 : x11_2 < (t260.length : Int) := of_decide_eq_true (by first | (with_reducible assumption) | assumption)
                                  obtain ⟨ad274, e274, hx274_0, hx274_1⟩ := at_T38 (Kd.R_reads' HO_3.out).2.2 x11_2 p274 q274
                                  obtain rfl : ad269 = ad274 := (by injection e274)
                                  replace p274 := eq_true p274
                                  replace q274 := eq_true q274
                                  have p275 : 0 ≤ (x11_2 : Int) := of_decide_eq_true (by first | (with_reducible assumption) | assumption)
                                  have q275 : x11_2 < (t260.length : Int) := of_decide_eq_true (by first | (with_reducible assumption) | assumption)
                                  obtain ⟨ad275, e275, hx275_0, hx275_1⟩ := at_T38 (Kd.R_reads' HO_3.out).2.2 x11_2 p275 q275
                                  obtain rfl : ad269 = ad275 := (by injection e275)
                                  replace p275 := eq_true p275
                                  replace q275 := eq_true q275
                                  have p276 : 0 ≤ (x11_2 : Int) := of_decide_eq_true (by first | (with_reducible assumption) | assumption)
                                  have q276 : x11_2 < (t260.length : Int) := of_decide_eq_true (by first | (with_reducible assumption) | assumption)
                                  obtain ⟨ad276, e276, hx276_0, hx276_1⟩ := at_T38 (Kd.R_reads' HO_3.out).2.2 x11_2 p276 q276
                                  obtain rfl : ad269 = ad276 := (by injection e276)
                                  replace p276 := eq_true p276
                                  replace q276 := eq_true q276
                                  go_wp2
                                  go_roundg kj19
                                  case measure => have := HJ6.out; have := HK2.out; have := HJ19.out; omega
                                  case rel => exact ⟨((rd_T38 t260 x11_2).f1), ((rd_T38 t260 x11_2).f1), (wrap64 (x11_2 + 1)), (by first | rfl | (simp; done) | (simp [*]; done)), (by first | rfl | (simp; done) | (simp [*]; done)), (by first | rfl | (simp; done) | (simp [*]; done)), H', ⟨by have := HJ6.out; have := HK2.out; have := HJ19.out; omega⟩, ⟨by (with_reducible repeat (first | apply Kd.R_alloc | apply Kd.R_drewN | apply Kd.R_drew)); exact HO_3.out⟩, ⟨by repeat (first | (with_reducible first | exact HB.out | apply below_alloc | apply pw_below_drewN | apply below_drew1) | exact HB.out)⟩⟩
                                · rw [if_neg c27] at H
                                  have c27b0 : decide (x10_2 < ((rd_T38 t260 x11_2).f1)) = false := decide_eq_false c27
                                  clear c27
                                  have H' := Aside0.mk H
                                  clear H
                                  have p273 : 0 ≤ (x11_2 : Int) := of_decide_eq_true (by first | (with_reducible assumption) | assumption)
                                  have q273 : x11_2 < (t260.length : Int) := of_decide_eq_true (by first | (with_reducible assumption) | assumption)
                                  obtain ⟨ad273, e273, hx273_0, hx273_1⟩ := at_T38 (Kd.R_reads' HO_3.out).2.2 x11_2 p273 q273
                                  obtain rfl : ad269 = ad273 := (by injection e273)
                                  replace p273 := eq_true p273
                                  replace q273 := eq_true q273
                                  have p274 : 0 ≤ (x11_2 : Int) := of_decide_eq_true (by first | (with_reducible assumption) | assumption)
                                  have q274 : x11_2 < (t260.length : Int) := of_decide_eq_true (by first | (with_reducible assumption) | assumption)
                                  obtain ⟨ad274, e274, hx274_0, hx274_1⟩ := at_T38 (Kd.R_reads' HO_3.out).2.2 x11_2 p274 q274
                                  obtain rfl : ad269 = ad274 := (by injection e274)
                                  replace p274 := eq_true p274
                                  replace q274 := eq_true q274
                                  have p275 : 0 ≤ (x11_2 : Int) := of_decide_eq_true (by first | (with_reducible assumption) | assumption)
                                  have q275 : x11_2 < (t260.length : Int) := of_decide_eq_true (by first | (with_reducible assumption) | assumption)
                                  obtain ⟨ad275, e275, hx275_0, hx275_1⟩ := at_T38 (Kd.R_reads' HO_3.out).2.2 x11_2 p275 q275
                                  obtain rfl : ad269 = ad275 := (by injection e275)
                                  replace p275 := eq_true p275
                                  replace q275 := eq_true q275
                                  go_wp2
                                  go_roundg kj19
                                  case measure => have := HJ6.out; have := HK2.out; have := HJ19.out; omega
                                  case rel => exact ⟨((rd_T38 t260 x11_2).f1), (x10_2), (wrap64 (x11_2 + 1)), (by first | rfl | (simp; done) | (simp [*]; done)), (by first | rfl | (simp; done) | (simp [*]; done)), (by first | rfl | (simp; done) | (simp [*]; done)), H', ⟨by have := HJ6.out; have := HK2.out; have := HJ19.out; omega⟩, ⟨by (with_reducible repeat (first | apply Kd.R_alloc | apply Kd.R_drewN | apply Kd.R_drew)); exact HO_3.out⟩, ⟨by repeat (first | (with_reducible first | exact HB.out | apply below_alloc | apply pw_below_drewN | apply below_drew1) | exact HB.out)⟩⟩
                              · rw [if_neg c26] at H
                                have c26b0 : decide (((rd_T38 t260 x11_2).f1) < x9_2) = false := decide_eq_false c26
                                clear c26
                                by_cases c28 : ((rd_T38 t260 x11_2).f1) > x10_2
                                · rw [if_pos c28] at H
                                  have c28b0 : decide (x10_2 < ((rd_T38 t260 x11_2).f1)) = true := decide_eq_true c28
                                  clear c28
                                  have H' := Aside0.mk H
                                  clear H
                                  have p273 : 0 ≤ (x11_2 : Int) := of_decide_eq_true (by first | (with_reducible assumption) | assumption)
                                  have q273 : x11_2 < (t260.length : Int) := of_decide_eq_true (by first | (with_reducible assumption) | assumption)
                                  obtain ⟨ad273, e273, hx273_0, hx273_1⟩ := at_T38 (Kd.R_reads' HO_3.out).2.2 x11_2 p273 q273
                                  obtain rfl : ad269 = ad273 := (by injection e273)
                                  replace p273 := eq_true p273
                                  replace q273 := eq_true q273
                                  have p277 : 0 ≤ (x11_2 : Int) := of_decide_eq_true (by first | (with_reducible assumption) | assumption)
                                  have q277 : x11_2 < (t260.length : Int) := of_decide_eq_true (by first | (with_reducible assumption) | assumption)
                                  obtain ⟨ad277, e277, hx277_0, hx277_1⟩ := at_T38 (Kd.R_reads' HO_3.out).2.2 x11_2 p277 q277
                                  obtain rfl : ad269 = ad277 := (by injection e277)
                                  replace p277 := eq_true p277
                                  replace q277 := eq_true q277
                                  have p278 : 0 ≤ (x11_2 : Int) := of_decide_eq_true (by first | (with_reducible assumption) | assumption)
                                  have q278 : x11_2 < (t260.length : Int) := of_decide_eq_true (by first | (with_reducible assumption) | assumption)
                                  obtain ⟨ad278, e278, hx278_0, hx278_1⟩ := at_T38 (Kd.R_reads' HO_3.out).2.2 x11_2 p278 q278
                                  obtain rfl : ad269 = ad278 := (by injection e278)
                                  replace p278 := eq_true p278
                                  replace q278 := eq_true q278
                                  go_wp2
                                  go_roundg kj19
                                  case measure => have := HJ6.out; have := HK2.out; have := HJ19.out; omega
                                  case rel => exact ⟨(x9_2), ((rd_T38 t260 x11_2).f1), (wrap64 (x11_2 + 1)), (by first | rfl | (simp; done) | (simp [*]; done)), (by first | rfl | (simp; done) | (simp [*]; done)), (by first | rfl | (simp; done) | (simp [*]; done)), H', ⟨by have := HJ6.out; have := HK2.out; have := HJ19.out; omega⟩, ⟨by (with_reducible repeat (first | apply Kd.R_alloc | apply Kd.R_drewN | apply Kd.R_drew)); exact HO_3.out⟩, ⟨by repeat (first | (with_reducible first | exact HB.out | apply below_alloc | apply pw_below_drewN | apply below_drew1) | exact HB.out)⟩⟩
                                · rw [if_neg c28] at H
                                  have c28b0 : decide (x10_2 < ((rd_T38 t260 x11_2).f1)) = false := decide_eq_false c28
                                  clear c28
                                  have H' := Aside0.mk H
                                  clear H
                                  have p273 : 0 ≤ (x11_2 : Int) := of_decide_eq_true (by first | (with_reducible assumption) | assumption)
                                  have q273 : x11_2 < (t260.length : Int) := of_decide_eq_true (by first | (with_reducible assumption) | assumption)
                                  obtain ⟨ad273, e273, hx273_0, hx273_1⟩ := at_T38 (Kd.R_reads' HO_3.out).2.2 x11_2 p273 q273
                                  obtain rfl : ad269 = ad273 := (by injection e273)
                                  replace p273 := eq_true p273
                                  replace q273 := eq_true q273
                                  have p277 : 0 ≤ (x11_2 : Int) := of_decide_eq_true (by first | (with_reducible assumption) | assumption)
                                  have q277 : x11_2 < (t260.length : Int) := of_decide_eq_true (by first | (with_reducible assumption) | assumption)
                                  obtain ⟨ad277, e277, hx277_0, hx277_1⟩ := at_T38 (Kd.R_reads' HO_3.out).2.2 x11_2 p277 q277
                                  obtain rfl : ad269 = ad277 := (by injection e277)
                                  replace p277 := eq_true p277
                                  replace q277 := eq_true q277
                                  go_wp2
                                  go_roundg kj19
                                  case measure => have := HJ6.out; have := HK2.out; have := HJ19.out; omega
                                  case rel => exact ⟨(x9_2), (x10_2), (wrap64 (x11_2 + 1)), (by first | rfl | (simp; done) | (simp [*]; done)), (by first | rfl | (simp; done) | (simp [*]; done)), (by first | rfl | (simp; done) | (simp [*]; done)), H', ⟨by have := HJ6.out; have := HK2.out; have := HJ19.out; omega⟩, ⟨by (with_reducible repeat (first | apply Kd.R_alloc | apply Kd.R_drewN | apply Kd.R_drew)); exact HO_3.out⟩, ⟨by repeat (first | (with_reducible first | exact HB.out | apply below_alloc | apply pw_below_drewN | apply below_drew1) | exact HB.out)⟩⟩
                            · rw [if_neg c25] at H
                              exact absurd H (by simp)
                          · rw [if_neg c24] at H
                            exact absurd H (by simp)
                  · rw [if_neg c19] at H
                    have c19b0 : decide (x11_2 < (t260.length : Int)) = false := decide_eq_false c19
                    clear c19
                    by_cases c29 : t264 ≥ x9_2
                    · rw [if_pos c29] at H
                      have c29b0 : decide (x9_2 ≤ t264) = true := decide_eq_true c29
                      clear c29
                      by_cases c30 : t264 ≤ x10_2
                      · rw [if_pos c30] at H
                        have c30b0 : decide (t264 ≤ x10_2) = true := decide_eq_true c30
                        clear c30
                        by_cases c31 : t267 ≥ 0
                        · rw [if_pos c31] at H
                          have c31b0 : decide (0 ≤ t267) = true := decide_eq_true c31
                          clear c31
                          by_cases c32 : t267 < 256
                          · rw [if_pos c32] at H
                            have c32b0 : decide (t267 < 256) = true := decide_eq_true c32
                            clear c32
                            by_cases c33 : t266 = t264
                            · rw [if_pos c33] at H
                              have c33b0 : (t266 == t264) = true := beq_iff_eq.mpr c33
                              have c33b1 : (t266 != t264) = false := bne_eq_false_iff_eq.mpr c33
                              clear c33
                              by_cases c34 : t267 = 0
                              · rw [if_pos c34] at H
                                have c34b0 : (t267 == 0) = true := beq_iff_eq.mpr c34
                                have c34b1 : (t267 != 0) = false := bne_eq_false_iff_eq.mpr c34
                                clear c34
                                obtain rfl := Option.some.inj H
                                go_wp2
                                go_ret
                                exact ⟨by first | rfl | (simp [errW_none, errW_some] <;> rfl) | (simp [*, errW_none, errW_some] <;> rfl), by repeat (first | (with_reducible first | exact HB.out | apply below_alloc | apply pw_below_drewN | apply below_drew1) | exact HB.out)⟩
                              · rw [if_neg c34] at H
                                have c34b0 : (t267 == 0) = false := beq_eq_false_iff_ne.mpr c34
                                have c34b1 : (t267 != 0) = true := bne_iff_ne.mpr c34
                                by_cases c35 : t266 = (wrap64 (t264 + 1))
                                · rw [if_pos c35] at H
                                  have c35b0 : (t266 == (wrap64 (t264 + 1))) = true := beq_iff_eq.mpr c35
                                  have c35b1 : (t266 != (wrap64 (t264 + 1))) = false := bne_eq_false_iff_eq.mpr c35
                                  clear c35
                                  obtain rfl := Option.some.inj H
                                  go_wp2
                                  go_ret
                                  exact ⟨by first | rfl | (simp [errW_none, errW_some] <;> rfl) | (simp [*, errW_none, errW_some] <;> rfl), by repeat (first | (with_reducible first | exact HB.out | apply below_alloc | apply pw_below_drewN | apply below_drew1) | exact HB.out)⟩
                                · rw [if_neg c35] at H
                                  have c35b0 : (t266 == (wrap64 (t264 + 1))) = false := beq_eq_false_iff_ne.mpr c35
                                  have c35b1 : (t266 != (wrap64 (t264 + 1))) = true := bne_iff_ne.mpr c35
                                  obtain rfl := Option.some.inj H
                                  go_wp2
                                  go_ret
                                  exact ⟨by first | rfl | (simp [errW_none, errW_some] <;> rfl) | (simp [*, errW_none, errW_some] <;> rfl), by repeat (first | (with_reducible first | exact HB.out | apply below_alloc | apply pw_below_drewN | apply below_drew1) | exact HB.out)⟩
                            · rw [if_neg c33] at H
                              have c33b0 : (t266 == t264) = false := beq_eq_false_iff_ne.mpr c33
                              have c33b1 : (t266 != t264) = true := bne_iff_ne.mpr c33
                              by_cases c36 : t266 = (wrap64 (t264 + 1))
                              · rw [if_pos c36] at H
                                have c36b0 : (t266 == (wrap64 (t264 + 1))) = true := beq_iff_eq.mpr c36
                                have c36b1 : (t266 != (wrap64 (t264 + 1))) = false := bne_eq_false_iff_eq.mpr c36
                                clear c36
                                obtain rfl := Option.some.inj H
                                go_wp2
                                go_ret
                                exact ⟨by first | rfl | (simp [errW_none, errW_some] <;> rfl) | (simp [*, errW_none, errW_some] <;> rfl), by repeat (first | (with_reducible first | exact HB.out | apply below_alloc | apply pw_below_drewN | apply below_drew1) | exact HB.out)⟩
                              · rw [if_neg c36] at H
                                have c36b0 : (t266 == (wrap64 (t264 + 1))) = false := beq_eq_false_iff_ne.mpr c36
                                have c36b1 : (t266 != (wrap64 (t264 + 1))) = true := bne_iff_ne.mpr c36
                                obtain rfl := Option.some.inj H
                                go_wp2
                                go_ret
                                exact ⟨by first | rfl | (simp [errW_none, errW_some] <;> rfl) | (simp [*, errW_none, errW_some] <;> rfl), by repeat (first | (with_reducible first | exact HB.out | apply below_alloc | apply pw_below_drewN | apply below_drew1) | exact HB.out)⟩
                          · rw [if_neg c32] at H
                            have c32b0 : decide (t267 < 256) = false := decide_eq_false c32
                            clear c32
                            exact absurd ((Option.some.inj H).trans hrt.out) (by decide)
                        · rw [if_neg c31] at H
                          have c31b0 : decide (0 ≤ t267) = false := decide_eq_false c31
                          clear c31
                          exact absurd ((Option.some.inj H).trans hrt.out) (by decide)
                      · rw [if_neg c30] at H
                        have c30b0 : decide (t264 ≤ x10_2) = false := decide_eq_false c30
                        clear c30
                        exact absurd ((Option.some.inj H).trans hrt.out) (by decide)
                    · rw [if_neg c29] at H
                      have c29b0 : decide (x9_2 ≤ t264) = false := decide_eq_false c29
                      clear c29
                      exact absurd ((Option.some.inj H).trans hrt.out) (by decide)
            · rw [if_neg c18] at H
              exact absurd H (by simp)

/-- THE ONE PURE STATEMENT of laws_FnSpeed: yours. -/
def laws_FnSpeed.Pure : Prop := ∀ (l0 : List Int), l0.length ≤ maxLen → l0.length * 1 ≤ 140737488351232 → (∀ x ∈ l0, (Lit.int .u8 x).wf = true) → ∃ k, laws_FnSpeed.f k l0 = some true
theorem laws_FnSpeed.walk (P : laws_FnSpeed.Pure) (a0 : Option Addr) (len0 cap0 : Nat) (z0 : List Int) (w : World) (w0 : (a0 = none ∧ len0 = 0 ∧ cap0 = 0 ∧ z0 = []) ∨ ∃ x, a0 = some x ∧ len0 ≤ cap0 ∧ cap0 ≤ maxLen ∧ z0.length = cap0 ∧ (∀ i, i < z0.length → w.cell? (x.add i) = some (.int .u8 (z0.getD i 0))) ∧ ∀ n ∈ z0, (Lit.int .u8 n).wf = true) (y0 : len0 * 1 ≤ 140737488351232) :
    Calls Try.prog 6 #[.slice a0 len0 cap0] w fun e w' => e = .returned (.bool true) ∧ Below w.heap.size w w' := by
  obtain ⟨l0, rfl, hr0, hm0, hw0, hc0⟩ := ReadsInt.ofRowC w0
  obtain ⟨k, h⟩ := P l0 hm0 y0 hw0
  refine (laws_FnSpeed.calls k _ _ l0 true w (Kd.C_of_reads (d := (0 : Int)) (h1 := fun _ => rfl) hr0) hc0 h rfl).mono ?_
  rintro e w' ⟨rfl, hd⟩
  exact ⟨rfl, hd⟩

end Go.Proofs.Ytdfhhnepodnioaa.PFnSpeed
