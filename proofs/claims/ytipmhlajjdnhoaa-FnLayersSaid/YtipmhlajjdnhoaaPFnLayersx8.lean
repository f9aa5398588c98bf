/- The functions that the law reaches, as Lean functions, each with the proof that the Go code comes to just these answers. Written by a program of this session (wip/tools/handprint.py over the kit's print); by hand where the print takes no such text. -/
-- squeezed
import Derived.Test.YtipmhlajjdnhoaaPFnLayersx0
import Derived.Test.YtipmhlajjdnhoaaPFnLayersx1
import Derived.Test.YtipmhlajjdnhoaaPFnLayersx2
import Derived.Test.YtipmhlajjdnhoaaPFnLayersx3
import Derived.Test.YtipmhlajjdnhoaaPFnLayersx4
import Derived.Test.YtipmhlajjdnhoaaPFnLayersx7
namespace Go.Proofs.Ytipmhlajjdnhoaa.PFnLayers
open Go.RowKit Go.Proofs.YtipmhlajjdnhoaaW.PrintWords Go.Proofs.YtipmhlajjdnhoaaW.PrintLast Go.Proofs.YtipmhlajjdnhoaaW.PrintMore
attribute [local go_sem] max2_int min2_int max_two min_two max_three min_three max_four min_four   -- for this text's walks alone
set_option linter.unusedVariables false
set_option linter.unusedSimpArgs false

attribute [local go_sem high] eqA25
/-! ### laws_FnLayers: function 11 -/
mutual
def laws_FnLayers.j0 : Nat → Bool → Int → Int → Int → Int → Int → Int → Int → Int → Int → Int → Int → Int → Int → Int → Int → Int → Int → Int → Int → Int → Int → Int → Int → Int → Option (Bool)
 | 0, _, _, _, _, _, _, _, _, _, _, _, _, _, _, _, _, _, _, _, _, _, _, _, _, _ => none
 | k + 1, x55, x312000, x312001, x312002, x312003, x313000, x313001, x313002, x313003, x318000, x318001, x318002, x318003, x323000, x323001, x323002, x323003, x328000, x328001, x328002, x328003, x333000, x333001, x333002, x333003 => if x55 = true then (some false) else ((spec_PxOk.f x312000 x312001 x312002 x312003).bind fun t349 => (if t349 = true then ((spec_PxOk.f x313000 x313001 x313002 x313003).bind fun t350 => (laws_FnLayers.j1 k (!t350) x312000 x312001 x312002 x312003 x318000 x318001 x318002 x318003 x323000 x323001 x323002 x323003 x328000 x328001 x328002 x328003 x333000 x333001 x333002 x333003)) else (laws_FnLayers.j1 k true x312000 x312001 x312002 x312003 x318000 x318001 x318002 x318003 x323000 x323001 x323002 x323003 x328000 x328001 x328002 x328003 x333000 x333001 x333002 x333003)))
def laws_FnLayers.j1 : Nat → Bool → Int → Int → Int → Int → Int → Int → Int → Int → Int → Int → Int → Int → Int → Int → Int → Int → Int → Int → Int → Int → Option (Bool)
 | 0, _, _, _, _, _, _, _, _, _, _, _, _, _, _, _, _, _, _, _, _, _ => none
 | k + 1, x63, x312000, x312001, x312002, x312003, x318000, x318001, x318002, x318003, x323000, x323001, x323002, x323003, x328000, x328001, x328002, x328003, x333000, x333001, x333002, x333003 => if x63 = true then (if (x318000 == 0 && (x318001 == 0 && (x318002 == 0 && (x318003 == 0)))) = true then (if (x323000 == x318000 && (x323001 == x318001 && (x323002 == x318002 && (x323003 == x318003)))) = true then (if (x328000 == x318000 && (x328001 == x318001 && (x328002 == x318002 && (x328003 == x318003)))) = true then (some (x333000 == x318000 && (x333001 == x318001 && (x333002 == x318002 && (x333003 == x318003))))) else (some false)) else (some false)) else (some false)) else ((impl_PxOk.f x318000 x318001 x318002 x318003).bind fun t351 => (if t351 = true then ((impl_PxOk.f x323000 x323001 x323002 x323003).bind fun t352 => (if t352 = true then ((impl_PxOk.f x328000 x328001 x328002 x328003).bind fun t353 => (if t353 = true then ((impl_PxOk.f x333000 x333001 x333002 x333003).bind fun t354 => (if t354 = true then (if x312003 < 255 then ((impl_Over.f 0 0 0 0 x312000 x312001 x312002 x312003).bind fun bt355 => (if (bt355.1 == x312000 && (bt355.2.1 == x312001 && (bt355.2.2.1 == x312002 && (bt355.2.2.2 == x312003)))) = true then ((impl_Over.f x312000 x312001 x312002 x312003 0 0 0 0).bind fun bt359 => (if (bt359.1 == x312000 && (bt359.2.1 == x312001 && (bt359.2.2.1 == x312002 && (bt359.2.2.2 == x312003)))) = true then (if (wrap64 ((wrap64 (x323000 + x328000)) - x312000)) ≥ (-1) then (if (wrap64 ((wrap64 (x323000 + x328000)) - x312000)) ≤ 1 then (if (wrap64 ((wrap64 (x323003 + x328003)) - x312003)) ≥ (-1) then (some (decide ((wrap64 ((wrap64 (x323003 + x328003)) - x312003)) ≤ 1))) else (some false)) else (some false)) else (some false)) else (some false))) else (some false))) else (if (x318000 == x312000 && (x318001 == x312001 && (x318002 == x312002 && (x318003 == x312003)))) = true then ((impl_Over.f 0 0 0 0 x312000 x312001 x312002 x312003).bind fun bt363 => (if (bt363.1 == x312000 && (bt363.2.1 == x312001 && (bt363.2.2.1 == x312002 && (bt363.2.2.2 == x312003)))) = true then ((impl_Over.f x312000 x312001 x312002 x312003 0 0 0 0).bind fun bt367 => (if (bt367.1 == x312000 && (bt367.2.1 == x312001 && (bt367.2.2.1 == x312002 && (bt367.2.2.2 == x312003)))) = true then (if (wrap64 ((wrap64 (x323000 + x328000)) - x312000)) ≥ (-1) then (if (wrap64 ((wrap64 (x323000 + x328000)) - x312000)) ≤ 1 then (if (wrap64 ((wrap64 (x323003 + x328003)) - x312003)) ≥ (-1) then (some (decide ((wrap64 ((wrap64 (x323003 + x328003)) - x312003)) ≤ 1))) else (some false)) else (some false)) else (some false)) else (some false))) else (some false))) else (some false))) else (some false))) else (some false))) else (some false))) else (some false)))
end
def laws_FnLayers.f (k : Nat) (l0 : List Int) : Option (Bool) := (laws_big.f l0).bind fun t302 => (if t302 = true then (some true) else ((spec_DrawOver.f k l0).bind fun bt303 => ((impl_Over.f bt303.1 bt303.2.1 bt303.2.2.1 bt303.2.2.2.1 bt303.2.2.2.2.1 bt303.2.2.2.2.2.1 bt303.2.2.2.2.2.2.1 bt303.2.2.2.2.2.2.2).bind fun bt313 => ((impl_Inside.f bt303.1 bt303.2.1 bt303.2.2.1 bt303.2.2.2.1 bt303.2.2.2.2.1 bt303.2.2.2.2.2.1 bt303.2.2.2.2.2.2.1 bt303.2.2.2.2.2.2.2).bind fun bt318 => ((impl_Outside.f bt303.1 bt303.2.1 bt303.2.2.1 bt303.2.2.2.1 bt303.2.2.2.2.1 bt303.2.2.2.2.2.1 bt303.2.2.2.2.2.2.1 bt303.2.2.2.2.2.2.2).bind fun bt323 => ((impl_Added.f bt303.1 bt303.2.1 bt303.2.2.1 bt303.2.2.2.1 bt303.2.2.2.2.1 bt303.2.2.2.2.2.1 bt303.2.2.2.2.2.2.1 bt303.2.2.2.2.2.2.2).bind fun bt328 => ((spec_Over.f bt303.1 bt303.2.1 bt303.2.2.1 bt303.2.2.2.1 bt303.2.2.2.2.1 bt303.2.2.2.2.2.1 bt303.2.2.2.2.2.2.1 bt303.2.2.2.2.2.2.2).bind fun bt333 => (if (!(bt313.1 == bt333.1) || (!(bt313.2.1 == bt333.2.1) || (!(bt313.2.2.1 == bt333.2.2.1) || (!(bt313.2.2.2 == bt333.2.2.2))))) = true then (laws_FnLayers.j0 k true bt303.1 bt303.2.1 bt303.2.2.1 bt303.2.2.2.1 bt303.2.2.2.2.1 bt303.2.2.2.2.2.1 bt303.2.2.2.2.2.2.1 bt303.2.2.2.2.2.2.2 bt313.1 bt313.2.1 bt313.2.2.1 bt313.2.2.2 bt318.1 bt318.2.1 bt318.2.2.1 bt318.2.2.2 bt323.1 bt323.2.1 bt323.2.2.1 bt323.2.2.2 bt328.1 bt328.2.1 bt328.2.2.1 bt328.2.2.2) else ((spec_Inside.f bt303.1 bt303.2.1 bt303.2.2.1 bt303.2.2.2.1 bt303.2.2.2.2.1 bt303.2.2.2.2.2.1 bt303.2.2.2.2.2.2.1 bt303.2.2.2.2.2.2.2).bind fun bt337 => (if (!(bt318.1 == bt337.1) || (!(bt318.2.1 == bt337.2.1) || (!(bt318.2.2.1 == bt337.2.2.1) || (!(bt318.2.2.2 == bt337.2.2.2))))) = true then (laws_FnLayers.j0 k true bt303.1 bt303.2.1 bt303.2.2.1 bt303.2.2.2.1 bt303.2.2.2.2.1 bt303.2.2.2.2.2.1 bt303.2.2.2.2.2.2.1 bt303.2.2.2.2.2.2.2 bt313.1 bt313.2.1 bt313.2.2.1 bt313.2.2.2 bt318.1 bt318.2.1 bt318.2.2.1 bt318.2.2.2 bt323.1 bt323.2.1 bt323.2.2.1 bt323.2.2.2 bt328.1 bt328.2.1 bt328.2.2.1 bt328.2.2.2) else ((spec_Outside.f bt303.1 bt303.2.1 bt303.2.2.1 bt303.2.2.2.1 bt303.2.2.2.2.1 bt303.2.2.2.2.2.1 bt303.2.2.2.2.2.2.1 bt303.2.2.2.2.2.2.2).bind fun bt341 => (if (!(bt323.1 == bt341.1) || (!(bt323.2.1 == bt341.2.1) || (!(bt323.2.2.1 == bt341.2.2.1) || (!(bt323.2.2.2 == bt341.2.2.2))))) = true then (laws_FnLayers.j0 k true bt303.1 bt303.2.1 bt303.2.2.1 bt303.2.2.2.1 bt303.2.2.2.2.1 bt303.2.2.2.2.2.1 bt303.2.2.2.2.2.2.1 bt303.2.2.2.2.2.2.2 bt313.1 bt313.2.1 bt313.2.2.1 bt313.2.2.2 bt318.1 bt318.2.1 bt318.2.2.1 bt318.2.2.2 bt323.1 bt323.2.1 bt323.2.2.1 bt323.2.2.2 bt328.1 bt328.2.1 bt328.2.2.1 bt328.2.2.2) else ((spec_Added.f k bt303.1 bt303.2.1 bt303.2.2.1 bt303.2.2.2.1 bt303.2.2.2.2.1 bt303.2.2.2.2.2.1 bt303.2.2.2.2.2.2.1 bt303.2.2.2.2.2.2.2).bind fun bt345 => (laws_FnLayers.j0 k (!(bt328.1 == bt345.1) || (!(bt328.2.1 == bt345.2.1) || (!(bt328.2.2.1 == bt345.2.2.1) || (!(bt328.2.2.2 == bt345.2.2.2))))) bt303.1 bt303.2.1 bt303.2.2.1 bt303.2.2.2.1 bt303.2.2.2.2.1 bt303.2.2.2.2.2.1 bt303.2.2.2.2.2.2.1 bt303.2.2.2.2.2.2.2 bt313.1 bt313.2.1 bt313.2.2.1 bt313.2.2.2 bt318.1 bt318.2.1 bt318.2.2.1 bt318.2.2.2 bt323.1 bt323.2.1 bt323.2.2.1 bt323.2.2.2 bt328.1 bt328.2.1 bt328.2.2.1 bt328.2.2.2))))))))))))))
theorem laws_FnLayers.mono_l : ∀ k, (∀ y0 y1 y2 y3 y4 y5 y6 y7 y8 y9 y10 y11 y12 y13 y14 y15 y16 y17 y18 y19 y20 y21 y22 y23 y24, LeO (laws_FnLayers.j0 k y0 y1 y2 y3 y4 y5 y6 y7 y8 y9 y10 y11 y12 y13 y14 y15 y16 y17 y18 y19 y20 y21 y22 y23 y24) (laws_FnLayers.j0 (k + 1) y0 y1 y2 y3 y4 y5 y6 y7 y8 y9 y10 y11 y12 y13 y14 y15 y16 y17 y18 y19 y20 y21 y22 y23 y24)) ∧ (∀ y0 y1 y2 y3 y4 y5 y6 y7 y8 y9 y10 y11 y12 y13 y14 y15 y16 y17 y18 y19 y20, LeO (laws_FnLayers.j1 k y0 y1 y2 y3 y4 y5 y6 y7 y8 y9 y10 y11 y12 y13 y14 y15 y16 y17 y18 y19 y20) (laws_FnLayers.j1 (k + 1) y0 y1 y2 y3 y4 y5 y6 y7 y8 y9 y10 y11 y12 y13 y14 y15 y16 y17 y18 y19 y20))
 | 0 => ⟨fun _ _ _ _ _ _ _ _ _ _ _ _ _ _ _ _ _ _ _ _ _ _ _ _ _ r h => by simp [laws_FnLayers.j0] at h, fun _ _ _ _ _ _ _ _ _ _ _ _ _ _ _ _ _ _ _ _ _ r h => by simp [laws_FnLayers.j1] at h⟩
 | k + 1 => by
  obtain ⟨ih0, ih1⟩ := laws_FnLayers.mono_l k
  refine ⟨?_, ?_⟩
  ·intro y0 y1 y2 y3 y4 y5 y6 y7 y8 y9 y10 y11 y12 y13 y14 y15 y16 y17 y18 y19 y20 y21 y22 y23 y24
   unfold laws_FnLayers.j0
   repeat' first
   | (with_reducible exact ih0 _ _ _ _ _ _ _ _ _ _ _ _ _ _ _ _ _ _ _ _ _ _ _ _ _)
   | (with_reducible exact ih1 _ _ _ _ _ _ _ _ _ _ _ _ _ _ _ _ _ _ _ _ _)
   | (with_reducible exact spec_Added.mono _ _ _ _ _ _ _ _ _)
   | (with_reducible exact spec_DrawOver.mono _ _)
   | (with_reducible exact LeO.refl _)
   | (with_reducible exact LeO.none _)
   | (with_reducible refine LeO.ite ?_ ?_)
   | (with_reducible refine LeO.bind ?_ (fun _ => ?_))
   | exact ih0 _ _ _ _ _ _ _ _ _ _ _ _ _ _ _ _ _ _ _ _ _ _ _ _ _
   | exact ih1 _ _ _ _ _ _ _ _ _ _ _ _ _ _ _ _ _ _ _ _ _
   | exact spec_Added.mono _ _ _ _ _ _ _ _ _
   | exact spec_DrawOver.mono _ _
   | exact LeO.none _
   | refine LeO.ite ?_ ?_
   | refine LeO.bind ?_ (fun _ => ?_)
  ·intro y0 y1 y2 y3 y4 y5 y6 y7 y8 y9 y10 y11 y12 y13 y14 y15 y16 y17 y18 y19 y20
   unfold laws_FnLayers.j1
   repeat' first
   | (with_reducible exact ih0 _ _ _ _ _ _ _ _ _ _ _ _ _ _ _ _ _ _ _ _ _ _ _ _ _)
   | (with_reducible exact ih1 _ _ _ _ _ _ _ _ _ _ _ _ _ _ _ _ _ _ _ _ _)
   | (with_reducible exact spec_Added.mono _ _ _ _ _ _ _ _ _)
   | (with_reducible exact spec_DrawOver.mono _ _)
   | (with_reducible exact LeO.refl _)
   | (with_reducible exact LeO.none _)
   | (with_reducible refine LeO.ite ?_ ?_)
   | (with_reducible refine LeO.bind ?_ (fun _ => ?_))
   | exact ih0 _ _ _ _ _ _ _ _ _ _ _ _ _ _ _ _ _ _ _ _ _ _ _ _ _
   | exact ih1 _ _ _ _ _ _ _ _ _ _ _ _ _ _ _ _ _ _ _ _ _
   | exact spec_Added.mono _ _ _ _ _ _ _ _ _
   | exact spec_DrawOver.mono _ _
   | exact LeO.none _
   | refine LeO.ite ?_ ?_
   | refine LeO.bind ?_ (fun _ => ?_)
theorem laws_FnLayers.mono : ∀ a0 k, LeO (laws_FnLayers.f k a0) (laws_FnLayers.f (k + 1) a0) := by
 intro a0 k
 obtain ⟨ih0, ih1⟩ := laws_FnLayers.mono_l k
 unfold laws_FnLayers.f
 repeat' first
   | (with_reducible exact ih0 _ _ _ _ _ _ _ _ _ _ _ _ _ _ _ _ _ _ _ _ _ _ _ _ _)
   | (with_reducible exact ih1 _ _ _ _ _ _ _ _ _ _ _ _ _ _ _ _ _ _ _ _ _)
   | (with_reducible exact spec_Added.mono _ _ _ _ _ _ _ _ _)
   | (with_reducible exact spec_DrawOver.mono _ _)
   | (with_reducible exact LeO.refl _)
   | (with_reducible exact LeO.none _)
   | (with_reducible refine LeO.ite ?_ ?_)
   | (with_reducible refine LeO.bind ?_ (fun _ => ?_))
   | exact ih0 _ _ _ _ _ _ _ _ _ _ _ _ _ _ _ _ _ _ _ _ _ _ _ _ _
   | exact ih1 _ _ _ _ _ _ _ _ _ _ _ _ _ _ _ _ _ _ _ _ _
   | exact spec_Added.mono _ _ _ _ _ _ _ _ _
   | exact spec_DrawOver.mono _ _
   | exact LeO.none _
   | refine LeO.ite ?_ ?_
   | refine LeO.bind ?_ (fun _ => ?_)
theorem laws_FnLayers.j0_dead_true {k : Nat} {y1} {y2} {y3} {y4} {y5} {y6} {y7} {y8} {y9} {y10} {y11} {y12} {y13} {y14} {y15} {y16} {y17} {y18} {y19} {y20} {y21} {y22} {y23} {y24} {r : Bool} (h : laws_FnLayers.j0 k true y1 y2 y3 y4 y5 y6 y7 y8 y9 y10 y11 y12 y13 y14 y15 y16 y17 y18 y19 y20 y21 y22 y23 y24 = some r) : r = false := by
 cases k with
 | zero => exact absurd h (by simp [laws_FnLayers.j0])
 | succ k =>
  simp only [laws_FnLayers.j0] at h
  first | rw [if_pos rfl] at h | rw [if_pos trivial] at h
  exact (Option.some.inj h).symm
def laws_FnLayers.T8 : Bool × List (List Nat × List Nat) := (true, [([], []), ([], []), ([], []), ([1, 2], [1, 2]), ([0, 3], [0, 3]), ([4, 3], [4]), ([5], [5]), ([5], [5]), ([5], [5]), ([7, 8, 5, 5], [5, 7, 8]), ([6, 9, 5], [5, 6, 9]), ([5, 10], [5, 10]), ([11, 9], [11]), ([12], [12]), ([12], [12]), ([12], [12]), ([14, 15, 12, 12], [12, 14, 15]), ([13, 16, 12], [12, 13, 16]), ([12, 17], [12, 17]), ([18, 16], [18]), ([19], [19]), ([19], [19]), ([19], [19]), ([21, 22, 19, 19], [19, 21, 22]), ([20, 23, 19], [19, 20, 23]), ([19, 24], [19, 24])])
def laws_FnLayers.B8 : List Nat := [0, 0, 0, 6, 15, 31, 63, 63, 63, 447, 1023, 2047, 4095, 8191, 8191, 8191, 57343, 131071, 262143, 524287, 1048575, 1048575, 1048575, 7340031, 16777215, 33554431]
theorem laws_FnLayers.tab8 : rtab .any (opsOf Try.f11 8) = laws_FnLayers.T8 := by kernel_rfl
theorem laws_FnLayers.bits8 : waitsOk laws_FnLayers.T8.2 laws_FnLayers.B8 = true := by kernel_rfl
def laws_FnLayers.T14 : Bool × List (List Nat × List Nat) := (true, [([], []), ([0], [0]), ([1, 1], [1]), ([2], [2]), ([3, 2, 2], [2, 3]), ([2, 4], [2, 4]), ([5, 4], [5]), ([6], [6]), ([7, 6, 6], [6, 7]), ([6, 8], [6, 8]), ([9, 8], [9]), ([10], [10]), ([11, 10, 10], [10, 11]), ([10, 12], [10, 12]), ([13, 12], [13]), ([14], [14]), ([15, 14], [14, 15]), ([16, 14], [14, 16]), ([17, 14, 14], [14, 17]), ([18], [18]), ([18], [18]), ([19, 20, 18], [18, 19, 20]), ([18, 21, 14], [14, 18, 21]), ([14, 22], [14, 22]), ([23, 18], [23]), ([24], [24]), ([24], [24]), ([25, 26, 24, 24], [24, 25, 26]), ([24], [24]), ([27, 28, 24], [24, 27, 28]), ([24, 29], [24, 29]), ([30, 27], [30]), ([31], [31]), ([31], [31]), ([32, 33, 31, 31], [31, 32, 33]), ([31], [31]), ([34, 35, 31], [31, 34, 35]), ([31, 36], [31, 36]), ([37, 34], [37]), ([38], [38]), ([39, 38], [38, 39]), ([38, 40], [38, 40]), ([41, 38], [41]), ([42], [42]), ([43, 42], [42, 43]), ([42, 44], [42, 44]), ([45, 42], [45]), ([46], [46]), ([47, 46], [46, 47]), ([46, 48], [46, 48]), ([49, 46], [49]), ([50], [50]), ([51, 50], [50, 51]), ([50, 52], [50, 52]), ([53, 50, 0, 1, 2, 3, 4, 5, 6, 7, 8, 9, 10, 11, 12, 13, 14, 15, 16, 17, 18, 19, 20, 21, 22, 23, 24, 25, 26, 27, 28, 29, 30, 31, 32, 33, 34, 35, 36, 37, 38, 39, 40, 41, 42, 43, 44, 45, 46, 47, 48, 49, 50, 51, 52, 53], [53])])
def laws_FnLayers.B14 : List Nat := [0, 1, 3, 7, 15, 31, 63, 127, 255, 511, 1023, 2047, 4095, 8191, 16383, 32767, 65535, 131071, 262143, 524287, 524287, 2097151, 4194303, 8388607, 16777215, 33554431, 33554431, 134217727, 33554431, 536870911, 1073741823, 2147483647, 4294967295, 4294967295, 17179869183, 4294967295, 68719476735, 137438953471, 274877906943, 549755813887, 1099511627775, 2199023255551, 4398046511103, 8796093022207, 17592186044415, 35184372088831, 70368744177663, 140737488355327, 281474976710655, 562949953421311, 1125899906842623, 2251799813685247, 4503599627370495, 9007199254740991, 18014398509481983]
theorem laws_FnLayers.tab14 : rtab .any (opsOf Try.f11 14) = laws_FnLayers.T14 := by kernel_rfl
theorem laws_FnLayers.bits14 : waitsOk laws_FnLayers.T14.2 laws_FnLayers.B14 = true := by kernel_rfl

end Go.Proofs.Ytipmhlajjdnhoaa.PFnLayers
