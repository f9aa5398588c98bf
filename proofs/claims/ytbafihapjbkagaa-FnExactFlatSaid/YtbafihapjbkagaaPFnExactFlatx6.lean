/- The functions that the law reaches, as Lean functions, each with the proof that the Go code comes to just these answers. Written by a program of this session (wip/tools/handprint.py over the kit's print); by hand where the print takes no such text. -/
-- squeezed
import Derived.Test.YtbafihapjbkagaaPFnExactFlatx0
import Derived.Test.YtbafihapjbkagaaPFnExactFlatx1
import Derived.Test.YtbafihapjbkagaaPFnExactFlatx5
namespace Go.Proofs.Ytbafihapjbkagaa.PFnExactFlat
open Go.RowKit Go.Proofs.YtbafihapjbkagaaW.PrintWords Go.Proofs.YtbafihapjbkagaaW.PrintLast Go.Proofs.YtbafihapjbkagaaW.PrintMore
attribute [local go_sem] max2_int min2_int max_two min_two max_three min_three max_four min_four   -- for this text's walks alone
set_option linter.unusedVariables false
set_option linter.unusedSimpArgs false

-- short names
theorem u6a : type_of% @List.setIfInBounds_toArray := @List.setIfInBounds_toArray
theorem u6b : type_of% @List.set_cons_zero := @List.set_cons_zero
theorem u6c : type_of% @List.set_cons_succ := @List.set_cons_succ
theorem u6d : type_of% @World.block_lt_of_cell? := @World.block_lt_of_cell?
/-! ### impl_Deep_78: function 78 -/
mutual
def impl_Deep_78.l0 : Nat → List (S50) → Int → GtC → Int → Int → Option ((List (S50)))
 | 0, _, _, _, _, _ => none
 | k + 1, x0, x1, x4, x10, x11 => if x10 < x11 then (if 0 ≤ (wrap64 ((IntKind.u64.wrap (wrap64 (x10 + x11))) / 2)) then (if (wrap64 ((IntKind.u64.wrap (wrap64 (x10 + x11))) / 2)) < (x0.length : Int) then (if 0 ≤ x1 then (if x1 < (x0.length : Int) then ((GC.f x4 ((rd_T50 x0 (wrap64 ((IntKind.u64.wrap (wrap64 (x10 + x11))) / 2))).f0) ((rd_T50 x0 (wrap64 ((IntKind.u64.wrap (wrap64 (x10 + x11))) / 2))).f1.f0) ((rd_T50 x0 (wrap64 ((IntKind.u64.wrap (wrap64 (x10 + x11))) / 2))).f1.f1) ((rd_T50 x0 (wrap64 ((IntKind.u64.wrap (wrap64 (x10 + x11))) / 2))).f1.f2) ((rd_T50 x0 (wrap64 ((IntKind.u64.wrap (wrap64 (x10 + x11))) / 2))).f1.f3) ((rd_T50 x0 x1).f0) ((rd_T50 x0 x1).f1.f0) ((rd_T50 x0 x1).f1.f1) ((rd_T50 x0 x1).f1.f2) ((rd_T50 x0 x1).f1.f3)).bind fun t211 => (if t211 < 0 then (impl_Deep_78.l0 k x0 x1 x4 (wrap64 ((wrap64 ((IntKind.u64.wrap (wrap64 (x10 + x11))) / 2)) + 1)) x11) else (impl_Deep_78.l0 k x0 x1 x4 x10 (wrap64 ((IntKind.u64.wrap (wrap64 (x10 + x11))) / 2))))) else (none)) else (none)) else (none)) else (none)) else (impl_Deep_78.l1 k x0 x10 x1)
def impl_Deep_78.l1 : Nat → List (S50) → Int → Int → Option ((List (S50)))
 | 0, _, _, _ => none
 | k + 1, x0, x10, x13 => if x13 < (wrap64 (x10 - 1)) then (if 0 ≤ (wrap64 (x13 + 1)) then (if (wrap64 (x13 + 1)) < (x0.length : Int) then (if 0 ≤ x13 then (if x13 < (x0.length : Int) then (impl_Deep_78.l1 k ((x0.set (x13 : Int).toNat (⟨(rd_T50 x0 (wrap64 (x13 + 1))).f0, (⟨(rd_T50 x0 (wrap64 (x13 + 1))).f1.f0, (rd_T50 x0 (wrap64 (x13 + 1))).f1.f1, (rd_T50 x0 (wrap64 (x13 + 1))).f1.f2, (rd_T50 x0 (wrap64 (x13 + 1))).f1.f3⟩ : S35)⟩ : S50)).set ((wrap64 (x13 + 1)) : Int).toNat (⟨(rd_T50 x0 x13).f0, (⟨(rd_T50 x0 x13).f1.f0, (rd_T50 x0 x13).f1.f1, (rd_T50 x0 x13).f1.f2, (rd_T50 x0 x13).f1.f3⟩ : S35)⟩ : S50)) x10 (wrap64 (x13 + 1))) else (none)) else (none)) else (none)) else (none)) else (some x0)
def impl_Deep_78.l2 : Nat → List (S50) → Int → GtC → Int → Int → Option ((List (S50)))
 | 0, _, _, _, _, _ => none
 | k + 1, x0, x2, x4, x14, x15 => if x14 < x15 then (if 0 ≤ x2 then (if x2 < (x0.length : Int) then (if 0 ≤ (wrap64 ((IntKind.u64.wrap (wrap64 (x14 + x15))) / 2)) then (if (wrap64 ((IntKind.u64.wrap (wrap64 (x14 + x15))) / 2)) < (x0.length : Int) then ((GC.f x4 ((rd_T50 x0 x2).f0) ((rd_T50 x0 x2).f1.f0) ((rd_T50 x0 x2).f1.f1) ((rd_T50 x0 x2).f1.f2) ((rd_T50 x0 x2).f1.f3) ((rd_T50 x0 (wrap64 ((IntKind.u64.wrap (wrap64 (x14 + x15))) / 2))).f0) ((rd_T50 x0 (wrap64 ((IntKind.u64.wrap (wrap64 (x14 + x15))) / 2))).f1.f0) ((rd_T50 x0 (wrap64 ((IntKind.u64.wrap (wrap64 (x14 + x15))) / 2))).f1.f1) ((rd_T50 x0 (wrap64 ((IntKind.u64.wrap (wrap64 (x14 + x15))) / 2))).f1.f2) ((rd_T50 x0 (wrap64 ((IntKind.u64.wrap (wrap64 (x14 + x15))) / 2))).f1.f3)).bind fun t218 => (if t218 < 0 then (impl_Deep_78.l2 k x0 x2 x4 x14 (wrap64 ((IntKind.u64.wrap (wrap64 (x14 + x15))) / 2))) else (impl_Deep_78.l2 k x0 x2 x4 (wrap64 ((wrap64 ((IntKind.u64.wrap (wrap64 (x14 + x15))) / 2)) + 1)) x15))) else (none)) else (none)) else (none)) else (none)) else (impl_Deep_78.l3 k x0 x14 x2)
def impl_Deep_78.l3 : Nat → List (S50) → Int → Int → Option ((List (S50)))
 | 0, _, _, _ => none
 | k + 1, x0, x14, x17 => if x17 > x14 then (if 0 ≤ (wrap64 (x17 - 1)) then (if (wrap64 (x17 - 1)) < (x0.length : Int) then (if 0 ≤ x17 then (if x17 < (x0.length : Int) then (impl_Deep_78.l3 k ((x0.set (x17 : Int).toNat (⟨(rd_T50 x0 (wrap64 (x17 - 1))).f0, (⟨(rd_T50 x0 (wrap64 (x17 - 1))).f1.f0, (rd_T50 x0 (wrap64 (x17 - 1))).f1.f1, (rd_T50 x0 (wrap64 (x17 - 1))).f1.f2, (rd_T50 x0 (wrap64 (x17 - 1))).f1.f3⟩ : S35)⟩ : S50)).set ((wrap64 (x17 - 1)) : Int).toNat (⟨(rd_T50 x0 x17).f0, (⟨(rd_T50 x0 x17).f1.f0, (rd_T50 x0 x17).f1.f1, (rd_T50 x0 x17).f1.f2, (rd_T50 x0 x17).f1.f3⟩ : S35)⟩ : S50)) x14 (wrap64 (x17 - 1))) else (none)) else (none)) else (none)) else (none)) else (some x0)
def impl_Deep_78.j4 : Nat → List (S50) → Int → Int → Int → GtC → Int → Int → Int → Int → Option ((List (S50)))
 | 0, _, _, _, _, _, _, _, _, _ => none
 | k + 1, x0, x1, x2, x3, x4, x18, x19, x20, x21 => impl_Deep_78.l4 k x0 x1 x2 x3 x4 x18 x19 x20 x21 (wrap64 (x19 - 1))
def impl_Deep_78.l4 : Nat → List (S50) → Int → Int → Int → GtC → Int → Int → Int → Int → Int → Option ((List (S50)))
 | 0, _, _, _, _, _, _, _, _, _, _ => none
 | k + 1, x0, x1, x2, x3, x4, x18, x19, x20, x21, x22 => if x20 < x21 then (if 0 ≤ (wrap64 (x22 - (wrap64 ((IntKind.u64.wrap (wrap64 (x20 + x21))) / 2)))) then (if (wrap64 (x22 - (wrap64 ((IntKind.u64.wrap (wrap64 (x20 + x21))) / 2)))) < (x0.length : Int) then (if 0 ≤ (wrap64 ((IntKind.u64.wrap (wrap64 (x20 + x21))) / 2)) then (if (wrap64 ((IntKind.u64.wrap (wrap64 (x20 + x21))) / 2)) < (x0.length : Int) then ((GC.f x4 ((rd_T50 x0 (wrap64 (x22 - (wrap64 ((IntKind.u64.wrap (wrap64 (x20 + x21))) / 2))))).f0) ((rd_T50 x0 (wrap64 (x22 - (wrap64 ((IntKind.u64.wrap (wrap64 (x20 + x21))) / 2))))).f1.f0) ((rd_T50 x0 (wrap64 (x22 - (wrap64 ((IntKind.u64.wrap (wrap64 (x20 + x21))) / 2))))).f1.f1) ((rd_T50 x0 (wrap64 (x22 - (wrap64 ((IntKind.u64.wrap (wrap64 (x20 + x21))) / 2))))).f1.f2) ((rd_T50 x0 (wrap64 (x22 - (wrap64 ((IntKind.u64.wrap (wrap64 (x20 + x21))) / 2))))).f1.f3) ((rd_T50 x0 (wrap64 ((IntKind.u64.wrap (wrap64 (x20 + x21))) / 2))).f0) ((rd_T50 x0 (wrap64 ((IntKind.u64.wrap (wrap64 (x20 + x21))) / 2))).f1.f0) ((rd_T50 x0 (wrap64 ((IntKind.u64.wrap (wrap64 (x20 + x21))) / 2))).f1.f1) ((rd_T50 x0 (wrap64 ((IntKind.u64.wrap (wrap64 (x20 + x21))) / 2))).f1.f2) ((rd_T50 x0 (wrap64 ((IntKind.u64.wrap (wrap64 (x20 + x21))) / 2))).f1.f3)).bind fun t225 => (if t225 < 0 then (impl_Deep_78.l4 k x0 x1 x2 x3 x4 x18 x19 x20 (wrap64 ((IntKind.u64.wrap (wrap64 (x20 + x21))) / 2)) x22) else (impl_Deep_78.l4 k x0 x1 x2 x3 x4 x18 x19 (wrap64 ((wrap64 ((IntKind.u64.wrap (wrap64 (x20 + x21))) / 2)) + 1)) x21 x22))) else (none)) else (none)) else (none)) else (none)) else (if x20 < x2 then (impl_Deep_78.j6 k x0 x1 x2 x3 x4 x18 x20 (wrap64 (x19 - x20)) (decide (x2 < (wrap64 (x19 - x20))))) else (impl_Deep_78.j6 k x0 x1 x2 x3 x4 x18 x20 (wrap64 (x19 - x20)) false))
def impl_Deep_78.j6 : Nat → List (S50) → Int → Int → Int → GtC → Int → Int → Int → Bool → Option ((List (S50)))
 | 0, _, _, _, _, _, _, _, _, _ => none
 | k + 1, x0, x1, x2, x3, x4, x18, x20, x24, x185 => if x185 = true then ((impl_Deep_81.f k x0 x20 x2 x24 x4).bind fun t226 => (impl_Deep_78.j7 k t226 x1 x3 x4 x18 x20 x24)) else (impl_Deep_78.j7 k x0 x1 x3 x4 x18 x20 x24)
def impl_Deep_78.j7 : Nat → List (S50) → Int → Int → GtC → Int → Int → Int → Option ((List (S50)))
 | 0, _, _, _, _, _, _, _ => none
 | k + 1, x0, x1, x3, x4, x18, x20, x24 => if x1 < x20 then (impl_Deep_78.j8 k x0 x1 x3 x4 x18 x20 x24 (decide (x20 < x18))) else (impl_Deep_78.j8 k x0 x1 x3 x4 x18 x20 x24 false)
def impl_Deep_78.j8 : Nat → List (S50) → Int → Int → GtC → Int → Int → Int → Bool → Option ((List (S50)))
 | 0, _, _, _, _, _, _, _, _ => none
 | k + 1, x0, x1, x3, x4, x18, x20, x24, x199 => if x199 = true then ((impl_Deep_78.f k x0 x1 x20 x18 x4).bind fun t227 => (if x18 < x24 then (if x24 < x3 then ((impl_Deep_78.f k t227 x18 x24 x3 x4).bind fun t228 => (some t228)) else (some t227)) else (some t227))) else (if x18 < x24 then (if x24 < x3 then ((impl_Deep_78.f k x0 x18 x24 x3 x4).bind fun t229 => (some t229)) else (some x0)) else (some x0))
def impl_Deep_78.f : Nat → List (S50) → Int → Int → Int → GtC → Option ((List (S50)))
 | 0, _, _, _, _, _ => none
 | k + 1, l0, a1, a2, a3, a4 => if (wrap64 (a2 - a1)) = 1 then (impl_Deep_78.l0 k l0 a1 a4 a2 a3) else (if (wrap64 (a3 - a2)) = 1 then (impl_Deep_78.l2 k l0 a2 a4 a1 a2) else (if a2 > (wrap64 ((IntKind.u64.wrap (wrap64 (a1 + a3))) / 2)) then (impl_Deep_78.j4 k l0 a1 a2 a3 a4 (wrap64 ((IntKind.u64.wrap (wrap64 (a1 + a3))) / 2)) (wrap64 ((wrap64 ((IntKind.u64.wrap (wrap64 (a1 + a3))) / 2)) + a2)) (wrap64 ((wrap64 ((wrap64 ((IntKind.u64.wrap (wrap64 (a1 + a3))) / 2)) + a2)) - a3)) (wrap64 ((IntKind.u64.wrap (wrap64 (a1 + a3))) / 2))) else (impl_Deep_78.j4 k l0 a1 a2 a3 a4 (wrap64 ((IntKind.u64.wrap (wrap64 (a1 + a3))) / 2)) (wrap64 ((wrap64 ((IntKind.u64.wrap (wrap64 (a1 + a3))) / 2)) + a2)) a1 a2)))
end
theorem impl_Deep_78.mono_l : ∀ k, (∀ y0 y1 y2 y3 y4, LeO (impl_Deep_78.f k y0 y1 y2 y3 y4) (impl_Deep_78.f (k + 1) y0 y1 y2 y3 y4)) ∧ (∀ y0 y1 y2 y3 y4, LeO (impl_Deep_78.l0 k y0 y1 y2 y3 y4) (impl_Deep_78.l0 (k + 1) y0 y1 y2 y3 y4)) ∧ (∀ y0 y1 y2, LeO (impl_Deep_78.l1 k y0 y1 y2) (impl_Deep_78.l1 (k + 1) y0 y1 y2)) ∧ (∀ y0 y1 y2 y3 y4, LeO (impl_Deep_78.l2 k y0 y1 y2 y3 y4) (impl_Deep_78.l2 (k + 1) y0 y1 y2 y3 y4)) ∧ (∀ y0 y1 y2, LeO (impl_Deep_78.l3 k y0 y1 y2) (impl_Deep_78.l3 (k + 1) y0 y1 y2)) ∧ (∀ y0 y1 y2 y3 y4 y5 y6 y7 y8, LeO (impl_Deep_78.j4 k y0 y1 y2 y3 y4 y5 y6 y7 y8) (impl_Deep_78.j4 (k + 1) y0 y1 y2 y3 y4 y5 y6 y7 y8)) ∧ (∀ y0 y1 y2 y3 y4 y5 y6 y7 y8 y9, LeO (impl_Deep_78.l4 k y0 y1 y2 y3 y4 y5 y6 y7 y8 y9) (impl_Deep_78.l4 (k + 1) y0 y1 y2 y3 y4 y5 y6 y7 y8 y9)) ∧ (∀ y0 y1 y2 y3 y4 y5 y6 y7 y8, LeO (impl_Deep_78.j6 k y0 y1 y2 y3 y4 y5 y6 y7 y8) (impl_Deep_78.j6 (k + 1) y0 y1 y2 y3 y4 y5 y6 y7 y8)) ∧ (∀ y0 y1 y2 y3 y4 y5 y6, LeO (impl_Deep_78.j7 k y0 y1 y2 y3 y4 y5 y6) (impl_Deep_78.j7 (k + 1) y0 y1 y2 y3 y4 y5 y6)) ∧ (∀ y0 y1 y2 y3 y4 y5 y6 y7, LeO (impl_Deep_78.j8 k y0 y1 y2 y3 y4 y5 y6 y7) (impl_Deep_78.j8 (k + 1) y0 y1 y2 y3 y4 y5 y6 y7))
 | 0 => ⟨fun _ _ _ _ _ r h => by simp [impl_Deep_78.f] at h, fun _ _ _ _ _ r h => by simp [impl_Deep_78.l0] at h, fun _ _ _ r h => by simp [impl_Deep_78.l1] at h, fun _ _ _ _ _ r h => by simp [impl_Deep_78.l2] at h, fun _ _ _ r h => by simp [impl_Deep_78.l3] at h, fun _ _ _ _ _ _ _ _ _ r h => by simp [impl_Deep_78.j4] at h, fun _ _ _ _ _ _ _ _ _ _ r h => by simp [impl_Deep_78.l4] at h, fun _ _ _ _ _ _ _ _ _ r h => by simp [impl_Deep_78.j6] at h, fun _ _ _ _ _ _ _ r h => by simp [impl_Deep_78.j7] at h, fun _ _ _ _ _ _ _ _ r h => by simp [impl_Deep_78.j8] at h⟩
 | k + 1 => by
  obtain ⟨ih0, ih1, ih2, ih3, ih4, ih5, ih6, ih7, ih8, ih9⟩ := impl_Deep_78.mono_l k
  refine ⟨?_, ?_, ?_, ?_, ?_, ?_, ?_, ?_, ?_, ?_⟩
  ·intro y0 y1 y2 y3 y4
   unfold impl_Deep_78.f
   repeat' first
   | (with_reducible exact ih0 _ _ _ _ _)
   | (with_reducible exact ih1 _ _ _ _ _)
   | (with_reducible exact ih2 _ _ _)
   | (with_reducible exact ih3 _ _ _ _ _)
   | (with_reducible exact ih4 _ _ _)
   | (with_reducible exact ih5 _ _ _ _ _ _ _ _ _)
   | (with_reducible exact ih6 _ _ _ _ _ _ _ _ _ _)
   | (with_reducible exact ih7 _ _ _ _ _ _ _ _ _)
   | (with_reducible exact ih8 _ _ _ _ _ _ _)
   | (with_reducible exact ih9 _ _ _ _ _ _ _ _)
   | (with_reducible exact impl_Deep_81.mono _ _ _ _ _ _)
   | (with_reducible exact LeO.refl _)
   | (with_reducible exact LeO.none _)
   | (with_reducible refine LeO.ite ?_ ?_)
   | (with_reducible refine LeO.bind ?_ (fun _ => ?_))
   | exact ih0 _ _ _ _ _
   | exact ih1 _ _ _ _ _
   | exact ih2 _ _ _
   | exact ih3 _ _ _ _ _
   | exact ih4 _ _ _
   | exact ih5 _ _ _ _ _ _ _ _ _
   | exact ih6 _ _ _ _ _ _ _ _ _ _
   | exact ih7 _ _ _ _ _ _ _ _ _
   | exact ih8 _ _ _ _ _ _ _
   | exact ih9 _ _ _ _ _ _ _ _
   | exact impl_Deep_81.mono _ _ _ _ _ _
   | exact LeO.none _
   | refine LeO.ite ?_ ?_
   | refine LeO.bind ?_ (fun _ => ?_)
  ·intro y0 y1 y2 y3 y4
   unfold impl_Deep_78.l0
   repeat' first
   | (with_reducible exact ih0 _ _ _ _ _)
   | (with_reducible exact ih1 _ _ _ _ _)
   | (with_reducible exact ih2 _ _ _)
   | (with_reducible exact ih3 _ _ _ _ _)
   | (with_reducible exact ih4 _ _ _)
   | (with_reducible exact ih5 _ _ _ _ _ _ _ _ _)
   | (with_reducible exact ih6 _ _ _ _ _ _ _ _ _ _)
   | (with_reducible exact ih7 _ _ _ _ _ _ _ _ _)
   | (with_reducible exact ih8 _ _ _ _ _ _ _)
   | (with_reducible exact ih9 _ _ _ _ _ _ _ _)
   | (with_reducible exact impl_Deep_81.mono _ _ _ _ _ _)
   | (with_reducible exact LeO.refl _)
   | (with_reducible exact LeO.none _)
   | (with_reducible refine LeO.ite ?_ ?_)
   | (with_reducible refine LeO.bind ?_ (fun _ => ?_))
   | exact ih0 _ _ _ _ _
   | exact ih1 _ _ _ _ _
   | exact ih2 _ _ _
   | exact ih3 _ _ _ _ _
   | exact ih4 _ _ _
   | exact ih5 _ _ _ _ _ _ _ _ _
   | exact ih6 _ _ _ _ _ _ _ _ _ _
   | exact ih7 _ _ _ _ _ _ _ _ _
   | exact ih8 _ _ _ _ _ _ _
   | exact ih9 _ _ _ _ _ _ _ _
   | exact impl_Deep_81.mono _ _ _ _ _ _
   | exact LeO.none _
   | refine LeO.ite ?_ ?_
   | refine LeO.bind ?_ (fun _ => ?_)
  ·intro y0 y1 y2
   unfold impl_Deep_78.l1
   repeat' first
   | (with_reducible exact ih0 _ _ _ _ _)
   | (with_reducible exact ih1 _ _ _ _ _)
   | (with_reducible exact ih2 _ _ _)
   | (with_reducible exact ih3 _ _ _ _ _)
   | (with_reducible exact ih4 _ _ _)
   | (with_reducible exact ih5 _ _ _ _ _ _ _ _ _)
   | (with_reducible exact ih6 _ _ _ _ _ _ _ _ _ _)
   | (with_reducible exact ih7 _ _ _ _ _ _ _ _ _)
   | (with_reducible exact ih8 _ _ _ _ _ _ _)
   | (with_reducible exact ih9 _ _ _ _ _ _ _ _)
   | (with_reducible exact impl_Deep_81.mono _ _ _ _ _ _)
   | (with_reducible exact LeO.refl _)
   | (with_reducible exact LeO.none _)
   | (with_reducible refine LeO.ite ?_ ?_)
   | (with_reducible refine LeO.bind ?_ (fun _ => ?_))
   | exact ih0 _ _ _ _ _
   | exact ih1 _ _ _ _ _
   | exact ih2 _ _ _
   | exact ih3 _ _ _ _ _
   | exact ih4 _ _ _
   | exact ih5 _ _ _ _ _ _ _ _ _
   | exact ih6 _ _ _ _ _ _ _ _ _ _
   | exact ih7 _ _ _ _ _ _ _ _ _
   | exact ih8 _ _ _ _ _ _ _
   | exact ih9 _ _ _ _ _ _ _ _
   | exact impl_Deep_81.mono _ _ _ _ _ _
   | exact LeO.none _
   | refine LeO.ite ?_ ?_
   | refine LeO.bind ?_ (fun _ => ?_)
  ·intro y0 y1 y2 y3 y4
   unfold impl_Deep_78.l2
   repeat' first
   | (with_reducible exact ih0 _ _ _ _ _)
   | (with_reducible exact ih1 _ _ _ _ _)
   | (with_reducible exact ih2 _ _ _)
   | (with_reducible exact ih3 _ _ _ _ _)
   | (with_reducible exact ih4 _ _ _)
   | (with_reducible exact ih5 _ _ _ _ _ _ _ _ _)
   | (with_reducible exact ih6 _ _ _ _ _ _ _ _ _ _)
   | (with_reducible exact ih7 _ _ _ _ _ _ _ _ _)
   | (with_reducible exact ih8 _ _ _ _ _ _ _)
   | (with_reducible exact ih9 _ _ _ _ _ _ _ _)
   | (with_reducible exact impl_Deep_81.mono _ _ _ _ _ _)
   | (with_reducible exact LeO.refl _)
   | (with_reducible exact LeO.none _)
   | (with_reducible refine LeO.ite ?_ ?_)
   | (with_reducible refine LeO.bind ?_ (fun _ => ?_))
   | exact ih0 _ _ _ _ _
   | exact ih1 _ _ _ _ _
   | exact ih2 _ _ _
   | exact ih3 _ _ _ _ _
   | exact ih4 _ _ _
   | exact ih5 _ _ _ _ _ _ _ _ _
   | exact ih6 _ _ _ _ _ _ _ _ _ _
   | exact ih7 _ _ _ _ _ _ _ _ _
   | exact ih8 _ _ _ _ _ _ _
   | exact ih9 _ _ _ _ _ _ _ _
   | exact impl_Deep_81.mono _ _ _ _ _ _
   | exact LeO.none _
   | refine LeO.ite ?_ ?_
   | refine LeO.bind ?_ (fun _ => ?_)
  ·intro y0 y1 y2
   unfold impl_Deep_78.l3
   repeat' first
   | (with_reducible exact ih0 _ _ _ _ _)
   | (with_reducible exact ih1 _ _ _ _ _)
   | (with_reducible exact ih2 _ _ _)
   | (with_reducible exact ih3 _ _ _ _ _)
   | (with_reducible exact ih4 _ _ _)
   | (with_reducible exact ih5 _ _ _ _ _ _ _ _ _)
   | (with_reducible exact ih6 _ _ _ _ _ _ _ _ _ _)
   | (with_reducible exact ih7 _ _ _ _ _ _ _ _ _)
   | (with_reducible exact ih8 _ _ _ _ _ _ _)
   | (with_reducible exact ih9 _ _ _ _ _ _ _ _)
   | (with_reducible exact impl_Deep_81.mono _ _ _ _ _ _)
   | (with_reducible exact LeO.refl _)
   | (with_reducible exact LeO.none _)
   | (with_reducible refine LeO.ite ?_ ?_)
   | (with_reducible refine LeO.bind ?_ (fun _ => ?_))
   | exact ih0 _ _ _ _ _
   | exact ih1 _ _ _ _ _
   | exact ih2 _ _ _
   | exact ih3 _ _ _ _ _
   | exact ih4 _ _ _
   | exact ih5 _ _ _ _ _ _ _ _ _
   | exact ih6 _ _ _ _ _ _ _ _ _ _
   | exact ih7 _ _ _ _ _ _ _ _ _
   | exact ih8 _ _ _ _ _ _ _
   | exact ih9 _ _ _ _ _ _ _ _
   | exact impl_Deep_81.mono _ _ _ _ _ _
   | exact LeO.none _
   | refine LeO.ite ?_ ?_
   | refine LeO.bind ?_ (fun _ => ?_)
  ·intro y0 y1 y2 y3 y4 y5 y6 y7 y8
   unfold impl_Deep_78.j4
   repeat' first
   | (with_reducible exact ih0 _ _ _ _ _)
   | (with_reducible exact ih1 _ _ _ _ _)
   | (with_reducible exact ih2 _ _ _)
   | (with_reducible exact ih3 _ _ _ _ _)
   | (with_reducible exact ih4 _ _ _)
   | (with_reducible exact ih5 _ _ _ _ _ _ _ _ _)
   | (with_reducible exact ih6 _ _ _ _ _ _ _ _ _ _)
   | (with_reducible exact ih7 _ _ _ _ _ _ _ _ _)
   | (with_reducible exact ih8 _ _ _ _ _ _ _)
   | (with_reducible exact ih9 _ _ _ _ _ _ _ _)
   | (with_reducible exact impl_Deep_81.mono _ _ _ _ _ _)
   | (with_reducible exact LeO.refl _)
   | (with_reducible exact LeO.none _)
   | (with_reducible refine LeO.ite ?_ ?_)
   | (with_reducible refine LeO.bind ?_ (fun _ => ?_))
   | exact ih0 _ _ _ _ _
   | exact ih1 _ _ _ _ _
   | exact ih2 _ _ _
   | exact ih3 _ _ _ _ _
   | exact ih4 _ _ _
   | exact ih5 _ _ _ _ _ _ _ _ _
   | exact ih6 _ _ _ _ _ _ _ _ _ _
   | exact ih7 _ _ _ _ _ _ _ _ _
   | exact ih8 _ _ _ _ _ _ _
   | exact ih9 _ _ _ _ _ _ _ _
   | exact impl_Deep_81.mono _ _ _ _ _ _
   | exact LeO.none _
   | refine LeO.ite ?_ ?_
   | refine LeO.bind ?_ (fun _ => ?_)
  ·intro y0 y1 y2 y3 y4 y5 y6 y7 y8 y9
   unfold impl_Deep_78.l4
   repeat' first
   | (with_reducible exact ih0 _ _ _ _ _)
   | (with_reducible exact ih1 _ _ _ _ _)
   | (with_reducible exact ih2 _ _ _)
   | (with_reducible exact ih3 _ _ _ _ _)
   | (with_reducible exact ih4 _ _ _)
   | (with_reducible exact ih5 _ _ _ _ _ _ _ _ _)
   | (with_reducible exact ih6 _ _ _ _ _ _ _ _ _ _)
   | (with_reducible exact ih7 _ _ _ _ _ _ _ _ _)
   | (with_reducible exact ih8 _ _ _ _ _ _ _)
   | (with_reducible exact ih9 _ _ _ _ _ _ _ _)
   | (with_reducible exact impl_Deep_81.mono _ _ _ _ _ _)
   | (with_reducible exact LeO.refl _)
   | (with_reducible exact LeO.none _)
   | (with_reducible refine LeO.ite ?_ ?_)
   | (with_reducible refine LeO.bind ?_ (fun _ => ?_))
   | exact ih0 _ _ _ _ _
   | exact ih1 _ _ _ _ _
   | exact ih2 _ _ _
   | exact ih3 _ _ _ _ _
   | exact ih4 _ _ _
   | exact ih5 _ _ _ _ _ _ _ _ _
   | exact ih6 _ _ _ _ _ _ _ _ _ _
   | exact ih7 _ _ _ _ _ _ _ _ _
   | exact ih8 _ _ _ _ _ _ _
   | exact ih9 _ _ _ _ _ _ _ _
   | exact impl_Deep_81.mono _ _ _ _ _ _
   | exact LeO.none _
   | refine LeO.ite ?_ ?_
   | refine LeO.bind ?_ (fun _ => ?_)
  ·intro y0 y1 y2 y3 y4 y5 y6 y7 y8
   unfold impl_Deep_78.j6
   repeat' first
   | (with_reducible exact ih0 _ _ _ _ _)
   | (with_reducible exact ih1 _ _ _ _ _)
   | (with_reducible exact ih2 _ _ _)
   | (with_reducible exact ih3 _ _ _ _ _)
   | (with_reducible exact ih4 _ _ _)
   | (with_reducible exact ih5 _ _ _ _ _ _ _ _ _)
   | (with_reducible exact ih6 _ _ _ _ _ _ _ _ _ _)
   | (with_reducible exact ih7 _ _ _ _ _ _ _ _ _)
   | (with_reducible exact ih8 _ _ _ _ _ _ _)
   | (with_reducible exact ih9 _ _ _ _ _ _ _ _)
   | (with_reducible exact impl_Deep_81.mono _ _ _ _ _ _)
   | (with_reducible exact LeO.refl _)
   | (with_reducible exact LeO.none _)
   | (with_reducible refine LeO.ite ?_ ?_)
   | (with_reducible refine LeO.bind ?_ (fun _ => ?_))
   | exact ih0 _ _ _ _ _
   | exact ih1 _ _ _ _ _
   | exact ih2 _ _ _
   | exact ih3 _ _ _ _ _
   | exact ih4 _ _ _
   | exact ih5 _ _ _ _ _ _ _ _ _
   | exact ih6 _ _ _ _ _ _ _ _ _ _
   | exact ih7 _ _ _ _ _ _ _ _ _
   | exact ih8 _ _ _ _ _ _ _
   | exact ih9 _ _ _ _ _ _ _ _
   | exact impl_Deep_81.mono _ _ _ _ _ _
   | exact LeO.none _
   | refine LeO.ite ?_ ?_
   | refine LeO.bind ?_ (fun _ => ?_)
  ·intro y0 y1 y2 y3 y4 y5 y6
   unfold impl_Deep_78.j7
   repeat' first
   | (with_reducible exact ih0 _ _ _ _ _)
   | (with_reducible exact ih1 _ _ _ _ _)
   | (with_reducible exact ih2 _ _ _)
   | (with_reducible exact ih3 _ _ _ _ _)
   | (with_reducible exact ih4 _ _ _)
   | (with_reducible exact ih5 _ _ _ _ _ _ _ _ _)
   | (with_reducible exact ih6 _ _ _ _ _ _ _ _ _ _)
   | (with_reducible exact ih7 _ _ _ _ _ _ _ _ _)
   | (with_reducible exact ih8 _ _ _ _ _ _ _)
   | (with_reducible exact ih9 _ _ _ _ _ _ _ _)
   | (with_reducible exact impl_Deep_81.mono _ _ _ _ _ _)
   | (with_reducible exact LeO.refl _)
   | (with_reducible exact LeO.none _)
   | (with_reducible refine LeO.ite ?_ ?_)
   | (with_reducible refine LeO.bind ?_ (fun _ => ?_))
   | exact ih0 _ _ _ _ _
   | exact ih1 _ _ _ _ _
   | exact ih2 _ _ _
   | exact ih3 _ _ _ _ _
   | exact ih4 _ _ _
   | exact ih5 _ _ _ _ _ _ _ _ _
   | exact ih6 _ _ _ _ _ _ _ _ _ _
   | exact ih7 _ _ _ _ _ _ _ _ _
   | exact ih8 _ _ _ _ _ _ _
   | exact ih9 _ _ _ _ _ _ _ _
   | exact impl_Deep_81.mono _ _ _ _ _ _
   | exact LeO.none _
   | refine LeO.ite ?_ ?_
   | refine LeO.bind ?_ (fun _ => ?_)
  ·intro y0 y1 y2 y3 y4 y5 y6 y7
   unfold impl_Deep_78.j8
   repeat' first
   | (with_reducible exact ih0 _ _ _ _ _)
   | (with_reducible exact ih1 _ _ _ _ _)
   | (with_reducible exact ih2 _ _ _)
   | (with_reducible exact ih3 _ _ _ _ _)
   | (with_reducible exact ih4 _ _ _)
   | (with_reducible exact ih5 _ _ _ _ _ _ _ _ _)
   | (with_reducible exact ih6 _ _ _ _ _ _ _ _ _ _)
   | (with_reducible exact ih7 _ _ _ _ _ _ _ _ _)
   | (with_reducible exact ih8 _ _ _ _ _ _ _)
   | (with_reducible exact ih9 _ _ _ _ _ _ _ _)
   | (with_reducible exact impl_Deep_81.mono _ _ _ _ _ _)
   | (with_reducible exact LeO.refl _)
   | (with_reducible exact LeO.none _)
   | (with_reducible refine LeO.ite ?_ ?_)
   | (with_reducible refine LeO.bind ?_ (fun _ => ?_))
   | exact ih0 _ _ _ _ _
   | exact ih1 _ _ _ _ _
   | exact ih2 _ _ _
   | exact ih3 _ _ _ _ _
   | exact ih4 _ _ _
   | exact ih5 _ _ _ _ _ _ _ _ _
   | exact ih6 _ _ _ _ _ _ _ _ _ _
   | exact ih7 _ _ _ _ _ _ _ _ _
   | exact ih8 _ _ _ _ _ _ _
   | exact ih9 _ _ _ _ _ _ _ _
   | exact impl_Deep_81.mono _ _ _ _ _ _
   | exact LeO.none _
   | refine LeO.ite ?_ ?_
   | refine LeO.bind ?_ (fun _ => ?_)
theorem impl_Deep_78.mono : ∀ a0 a1 a2 a3 a4 k, LeO (impl_Deep_78.f k a0 a1 a2 a3 a4) (impl_Deep_78.f (k + 1) a0 a1 a2 a3 a4) := by
 intro a0 a1 a2 a3 a4 k
 obtain ⟨ih0, ih1, ih2, ih3, ih4, ih5, ih6, ih7, ih8, ih9⟩ := impl_Deep_78.mono_l k
 exact ih0 a0 a1 a2 a3 a4
def impl_Deep_78.T5 : Bool × List (List Nat × List Nat) := (true, [([], []), ([], []), ([], []), ([1, 2], [1, 2]), ([3], [3]), ([], []), ([], []), ([5, 6], [5, 6]), ([7], [7]), ([0, 4, 8], [0, 4, 8]), ([9], [9])])
def impl_Deep_78.B5 : List Nat := [0, 0, 0, 6, 14, 0, 0, 96, 224, 511, 1023]
theorem impl_Deep_78.tab5 : rtab .any (opsOf Try.f78 5) = impl_Deep_78.T5 := by kernel_rfl
theorem impl_Deep_78.bits5 : waitsOk impl_Deep_78.T5.2 impl_Deep_78.B5 = true := by kernel_rfl
def impl_Deep_78.T11 : Bool × List (List Nat × List Nat) := (true, [([], []), ([], []), ([], []), ([], []), ([3], [3]), ([], []), ([], []), ([6], [6]), ([5, 7], [5, 7]), ([8], [8]), ([], []), ([], []), ([10, 11], [10, 11]), ([12], [12]), ([0, 1, 0, 1, 5, 6, 7, 8, 9, 13], [0, 1]), ([14, 9, 0, 1, 5, 6, 7, 8, 9, 13], [9, 14]), ([2, 4, 0, 1, 2, 3, 4, 5, 6, 7, 8, 9, 10, 11, 12, 13, 14, 15], [2, 4]), ([16, 13, 15, 0, 1, 2, 3, 4, 5, 6, 7, 8, 9, 10, 11, 12, 13, 14, 15], [13, 16])])
def impl_Deep_78.B11 : List Nat := [0, 0, 0, 0, 8, 0, 0, 64, 224, 480, 0, 0, 3072, 7168, 16355, 32739, 65535, 131071]
theorem impl_Deep_78.tab11 : rtab .any (opsOf Try.f78 11) = impl_Deep_78.T11 := by kernel_rfl
theorem impl_Deep_78.bits11 : waitsOk impl_Deep_78.T11.2 impl_Deep_78.B11 = true := by kernel_rfl
def impl_Deep_78.T17 : Bool × List (List Nat × List Nat) := (true, [([], []), ([], []), ([], []), ([1, 2], [1, 2]), ([3], [3]), ([], []), ([], []), ([5, 6], [5, 6]), ([7], [7]), ([0, 4, 8], [0, 4, 8]), ([9], [9]), ([10], [10])])
def impl_Deep_78.B17 : List Nat := [0, 0, 0, 6, 14, 0, 0, 96, 224, 511, 1023, 2047]
theorem impl_Deep_78.tab17 : rtab .any (opsOf Try.f78 17) = impl_Deep_78.T17 := by kernel_rfl
theorem impl_Deep_78.bits17 : waitsOk impl_Deep_78.T17.2 impl_Deep_78.B17 = true := by kernel_rfl
def impl_Deep_78.T23 : Bool × List (List Nat × List Nat) := (true, [([], []), ([], []), ([], []), ([], []), ([3], [3]), ([], []), ([], []), ([6], [6]), ([5, 7], [5, 7]), ([8], [8]), ([], []), ([], []), ([10, 11], [10, 11]), ([12], [12]), ([0, 1, 0, 1, 5, 6, 7, 8, 9, 13], [0, 1]), ([14, 9, 0, 1, 5, 6, 7, 8, 9, 13], [9, 14]), ([2, 4, 0, 1, 2, 3, 4, 5, 6, 7, 8, 9, 10, 11, 12, 13, 14, 15], [2, 4]), ([16, 13, 15, 0, 1, 2, 3, 4, 5, 6, 7, 8, 9, 10, 11, 12, 13, 14, 15], [13, 16])])
def impl_Deep_78.B23 : List Nat := [0, 0, 0, 0, 8, 0, 0, 64, 224, 480, 0, 0, 3072, 7168, 16355, 32739, 65535, 131071]
theorem impl_Deep_78.tab23 : rtab .any (opsOf Try.f78 23) = impl_Deep_78.T23 := by kernel_rfl
theorem impl_Deep_78.bits23 : waitsOk impl_Deep_78.T23.2 impl_Deep_78.B23 = true := by kernel_rfl
def impl_Deep_78.T35 : Bool × List (List Nat × List Nat) := (true, [([], []), ([], []), ([], []), ([], []), ([2, 3], [2, 3]), ([1, 4], [1, 4]), ([5], [5]), ([], []), ([], []), ([7, 8], [7, 8]), ([9], [9]), ([0, 6, 10], [0, 6, 10]), ([11], [11]), ([12], [12])])
def impl_Deep_78.B35 : List Nat := [0, 0, 0, 0, 12, 30, 62, 0, 0, 384, 896, 2047, 4095, 8191]
theorem impl_Deep_78.tab35 : rtab .any (opsOf Try.f78 35) = impl_Deep_78.T35 := by kernel_rfl
theorem impl_Deep_78.bits35 : waitsOk impl_Deep_78.T35.2 impl_Deep_78.B35 = true := by kernel_rfl
set_option maxHeartbeats 8000000 in
set_option maxRecDepth 100000 in
theorem impl_Deep_78.calls1 (k : Nat) (P0_ : Nat → Prop) (u9000_ : Value) (l0 : List (S50)) (a1 : Int) (a2 : Int) (a3 : Int) (a4 : GtC) (r : List (S50)) (w0 w : World) (hB : Below w0.heap.size w0 w) (ho0 : Kd.R k50 50 w w0.heap.size P0_ u9000_ l0) {cf4 : FuncId} {cc4 : Array Value} (ha4 : Aside0 (FnOkC w cf4 cc4 a4)) (c6 : (wrap64 (a2 - a1)) = 1) (H : impl_Deep_78.l0 k l0 a1 a4 a2 a3 = some r) :
  Calls Try.prog 78 #[u9000_, .int .i64 a1, .int .i64 a2, .int .i64 a3, (.func (.func cf4) #[] cc4)] w fun e w' => e = .returned (.tuple #[]) ∧ Kd.R k50 50 w' w0.heap.size (fun k_ => (P0_ k_ ∨ w.heap.size ≤ k_)) u9000_ r ∧ Below w0.heap.size w0 w' ∧ Kept w w' (fun k_ => P0_ k_) := by
 have hu50 := Try.underlying50
 have HO0 := Aside0.mk (show Kd.R k50 50 w w0.heap.size (fun k_ => (P0_ k_ ∨ w.heap.size ≤ k_)) u9000_ l0 from Kd.R_mono ho0 (fun k_ hk => (.inl hk)))
 have HK := Aside0.mk (Kept.refl w (fun k_ => P0_ k_))
 have HW0 := Aside0.mk hB.size
 have HB := Aside0.mk hB
 clear hB
 have c6b0 : ((wrap64 (a2 - a1)) == 1) = true := beq_iff_eq.mpr c6
 have c6b1 : ((wrap64 (a2 - a1)) != 1) = false := bne_eq_false_iff_eq.mpr c6
 clear c6
 have H' := Aside0.mk H
 clear H
 go_enter Try.func78, Try.ntmps78
 go_wp2
 go_loopg [10, 11] k (fun kq v10 v11 w' => ∃ (x10_1 : Int) (x11_1 : Int), v10 = .int .i64 x10_1 ∧ v11 = .int .i64 x11_1 ∧ Aside0 (impl_Deep_78.l0 kq l0 a1 a4 x10_1 x11_1 = some r) ∧ Aside0 (kq ≤ k) ∧ Aside0 (Kd.R k50 50 w' w0.heap.size (fun k_ => (P0_ k_ ∨ w.heap.size ≤ k_)) u9000_ l0) ∧ Aside0 (Kept w w' (fun k_ => P0_ k_)) ∧ Aside0 (Below w0.heap.size w0 w'))
 case atStart => exact ⟨(a2), (a3), (by first | rfl | (simp; done) | (simp [*]; done)), (by first | rfl | (simp; done) | (simp [*]; done)), H', ⟨Nat.le_refl _⟩, ⟨by (with_reducible repeat (first | apply Kd.R_alloc | apply Kd.R_drewN | apply Kd.R_drew)); exact HO0.out⟩, ⟨by repeat (first | (with_reducible first | exact HK.out | apply Kept.alloc | apply Kept.drewN | apply Kept.drew) | exact HK.out)⟩, ⟨by repeat (first | (with_reducible first | exact HB.out | apply below_alloc | apply pw_below_drewN | apply below_drew1) | exact HB.out)⟩⟩
 case round =>
  clear H'
  try clear c6
  try clear c6b0
  try clear c6b1
  obtain ⟨x10_1, x11_1, rfl, rfl, HA, HK1, HO_0, HK, HB⟩ := hrel
  cases gk with
  | zero => exact absurd HA.out (by simp [impl_Deep_78.l0])
  | succ k1 =>
   have H := HA.out
   clear HA
   simp only [impl_Deep_78.l0] at H
   by_cases c7 : x10_1 < x11_1
   ·rw [if_pos c7] at H
    have c7b0 : decide (x10_1 < x11_1) = true := decide_eq_true c7
    clear c7
    obtain ⟨ji8, hji8⟩ : ∃ j_ : Int, (wrap64 ((IntKind.u64.wrap (wrap64 (x10_1 + x11_1))) / 2)) = j_ := ⟨_, rfl⟩
    replace H : (if 0 ≤ (ji8) then (if (ji8) < (l0.length : Int) then (if 0 ≤ a1 then (if a1 < (l0.length : Int) then ((GC.f a4 ((rd_T50 l0 (ji8)).f0) ((rd_T50 l0 (ji8)).f1.f0) ((rd_T50 l0 (ji8)).f1.f1) ((rd_T50 l0 (ji8)).f1.f2) ((rd_T50 l0 (ji8)).f1.f3) ((rd_T50 l0 a1).f0) ((rd_T50 l0 a1).f1.f0) ((rd_T50 l0 a1).f1.f1) ((rd_T50 l0 a1).f1.f2) ((rd_T50 l0 a1).f1.f3)).bind fun t211 => (if t211 < 0 then (impl_Deep_78.l0 k1 l0 a1 a4 (wrap64 ((ji8) + 1)) x11_1) else (impl_Deep_78.l0 k1 l0 a1 a4 x10_1 ji8))) else (none)) else (none)) else (none)) else (none)) = some r := by first | (rw [hji8] at H; exact H) | (simp only [hji8] at H ⊢; exact H)
    have hji8w : (IntKind.i64.wrap ((IntKind.u64.wrap (wrap64 (x10_1 + x11_1))) / 2)) = ji8 := (i64_w _).trans hji8
    by_cases c9 : 0 ≤ (ji8)
    ·rw [if_pos c9] at H
     have c9b0 : decide (0 ≤ (ji8)) = true := decide_eq_true c9
     clear c9
     by_cases c10 : (ji8) < (l0.length : Int)
     ·rw [if_pos c10] at H
      have c10b0 : decide ((ji8) < (l0.length : Int)) = true := decide_eq_true c10
      clear c10
      by_cases c11 : 0 ≤ a1
      ·rw [if_pos c11] at H
       have c11b0 : decide (0 ≤ a1) = true := decide_eq_true c11
       clear c11
       by_cases c12 : a1 < (l0.length : Int)
       ·rw [if_pos c12] at H
        have c12b0 : decide (a1 < (l0.length : Int)) = true := decide_eq_true c12
        clear c12
        replace H := Option.bind_eq_some_iff.mp H
        obtain ⟨t211, A130, H⟩ := H
        have A13 := Aside0.mk A130
        clear A130
        by_cases c14 : t211 < 0
        ·rw [if_pos c14] at H
         have c14b0 : decide (t211 < 0) = true := decide_eq_true c14
         clear c14
         have H' := Aside0.mk H
         clear H
         try go_wp2
         have n0_ := Aside0.mk (Kd.R_drew HO_0.out)
         have n1_ := Aside0.mk (Kept.drew HK.out)
         have n2_ := Aside0.mk (below_drew1 HB.out)
         clear HO_0
         clear HK
         clear HB
         have HO_0 := n0_
         have HK := n1_
         have HB := n2_
         clear n0_ n1_ n2_
         obtain ⟨Ao16, co16, eo16⟩ := Kd.R_slice HO_0.out
         (first | subst eo16 | (injection eo16 with f1_ f2_ f3_; have f4_ := f1_.symm; have f5_ := f3_.symm; clear f1_ f2_ f3_; subst f4_; subst f5_))
         have p209 : 0 ≤ ((ji8) : Int) := of_decide_eq_true (by first | (with_reducible assumption) | assumption)
         have q209 : (ji8) < (l0.length : Int) := of_decide_eq_true (by first | (with_reducible assumption) | assumption)
         obtain ⟨ad209, e209, hx209_0, hx209_1, hx209_2, hx209_3, hx209_4⟩ := at_T50 (Kd.R_reads' HO_0.out).2.2 (ji8) p209 q209
         cases e209
         replace p209 := eq_true p209
         replace q209 := eq_true q209
         have p210 : 0 ≤ (a1 : Int) := of_decide_eq_true (by first | (with_reducible assumption) | assumption)
         have q210 : a1 < (l0.length : Int) := of_decide_eq_true (by first | (with_reducible assumption) | assumption)
         obtain ⟨ad210, e210, hx210_0, hx210_1, hx210_2, hx210_3, hx210_4⟩ := at_T50 (Kd.R_reads' HO_0.out).2.2 a1 p210 q210
         obtain rfl : ad209 = ad210 := (by injection e210)
         replace p210 := eq_true p210
         replace q210 := eq_true q210
         refine start_ (n := 11) (S := fun w' => w'.cell? (ad209.add (((ji8)).toNat * 5)) = some (.int .i64 ((rd_T50 l0 (ji8)).f0)) ∧ w'.cell? ⟨(ad209.add (((ji8)).toNat * 5)).block, (ad209.add (((ji8)).toNat * 5)).off + 1, none⟩ = some (.int .i64 ((rd_T50 l0 (ji8)).f1.f0)) ∧ w'.cell? ⟨(ad209.add (((ji8)).toNat * 5)).block, (ad209.add (((ji8)).toNat * 5)).off + 2, none⟩ = some (.int .i64 ((rd_T50 l0 (ji8)).f1.f1)) ∧ w'.cell? ⟨(ad209.add (((ji8)).toNat * 5)).block, (ad209.add (((ji8)).toNat * 5)).off + 3, none⟩ = some (.int .i64 ((rd_T50 l0 (ji8)).f1.f2)) ∧ w'.cell? ⟨(ad209.add (((ji8)).toNat * 5)).block, (ad209.add (((ji8)).toNat * 5)).off + 4, none⟩ = some (.int .i64 ((rd_T50 l0 (ji8)).f1.f3)) ∧ w'.cell? (ad209.add ((a1).toNat * 5)) = some (.int .i64 ((rd_T50 l0 a1).f0)) ∧ w'.cell? ⟨(ad209.add ((a1).toNat * 5)).block, (ad209.add ((a1).toNat * 5)).off + 1, none⟩ = some (.int .i64 ((rd_T50 l0 a1).f1.f0)) ∧ w'.cell? ⟨(ad209.add ((a1).toNat * 5)).block, (ad209.add ((a1).toNat * 5)).off + 2, none⟩ = some (.int .i64 ((rd_T50 l0 a1).f1.f1)) ∧ w'.cell? ⟨(ad209.add ((a1).toNat * 5)).block, (ad209.add ((a1).toNat * 5)).off + 3, none⟩ = some (.int .i64 ((rd_T50 l0 a1).f1.f2)) ∧ w'.cell? ⟨(ad209.add ((a1).toNat * 5)).block, (ad209.add ((a1).toNat * 5)).off + 4, none⟩ = some (.int .i64 ((rd_T50 l0 a1).f1.f3))) (ds := []) #[false, false, false, false, false, false, false, false, false, false, false] (by kernel_rfl) rfl rfl ⟨hx209_0, hx209_1, hx209_2, hx209_3, hx209_4, hx210_0, hx210_1, hx210_2, hx210_3, hx210_4⟩ (fun hHeld => ?_); refine with_tabW impl_Deep_78.tab5 impl_Deep_78.bits5 (fun HT_ HW_ => ?_)
         generalize wr.drew = w15 at HO_0 HK HB hx209_0 hx209_1 hx209_2 hx209_3 hx209_4 hx210_0 hx210_1 hx210_2 hx210_3 hx210_4 hHeld ⊢
         refine pure_ (i := 0) (N := some 40) (v := ?_) (a' := ?_) #[true, false, false, false, false, false, false, false, false, false, false] rfl rfl (any_of HT_.out (by kernel_rfl)) (fun _ _ _ h => h) (Or.inl ⟨by rfl, ?_⟩) ?_ ?_
         rotate_left
         ·intro w'
          go_simp
          with_reducible rfl
         rotate_left
         ·simp only [Act.put, u6a, u6b, u6c, i64_w, i32_w]
          rfl
         refine pure_ (i := 1) (N := some 41) (v := ?_) (a' := ?_) #[true, true, false, false, false, false, false, false, false, false, false] rfl rfl (any_of HT_.out (by kernel_rfl)) (fun _ _ _ h => h) (Or.inl ⟨by rfl, ?_⟩) ?_ ?_
         rotate_left
         ·intro w'
          go_simp
          with_reducible rfl
         rotate_left
         ·simp only [Act.put, u6a, u6b, u6c, i64_w, i32_w]
          rfl
         refine pure_ (i := 2) (N := some 42) (v := ?_) (a' := ?_) #[true, true, true, false, false, false, false, false, false, false, false] rfl rfl (any_of HT_.out (by kernel_rfl)) (fun _ _ _ h => h) (Or.inl ⟨by rfl, ?_⟩) ?_ ?_
         rotate_left
         ·intro w'
          go_simp
          with_reducible rfl
         rotate_left
         ·simp only [Act.put, u6a, u6b, u6c, i64_w, i32_w]
          rfl
         refine pure_ (i := 3) (N := some 43) (v := ?_) (a' := ?_) #[true, true, true, true, false, false, false, false, false, false, false] rfl rfl (any_of HT_.out (by kernel_rfl)) (fun _ _ _ h => h) (Or.inl ⟨by rfl, ?_⟩) ?_ ?_
         rotate_left
         ·intro w'
          go_simp
          with_reducible rfl
         rotate_left
         ·simp only [Act.put, u6a, u6b, u6c, i64_w, i32_w]
          rfl
         refine pure_ (i := 5) (N := some 45) (v := ?_) (a' := ?_) #[true, true, true, true, false, true, false, false, false, false, false] rfl rfl (any_of HT_.out (by kernel_rfl)) (fun _ _ _ h => h) (Or.inl ⟨by rfl, ?_⟩) ?_ ?_
         rotate_left
         ·intro w'
          go_simp
          with_reducible rfl
         rotate_left
         ·simp only [Act.put, u6a, u6b, u6c, i64_w, i32_w]
          rfl
         refine pure_ (i := 6) (N := some 46) (v := ?_) (a' := ?_) #[true, true, true, true, false, true, true, false, false, false, false] rfl rfl (any_of HT_.out (by kernel_rfl)) (fun _ _ _ h => h) (Or.inl ⟨by rfl, ?_⟩) ?_ ?_
         rotate_left
         ·intro w'
          go_simp
          with_reducible rfl
         rotate_left
         ·simp only [Act.put, u6a, u6b, u6c, i64_w, i32_w]
          rfl
         refine pure_ (i := 7) (N := some 47) (v := ?_) (a' := ?_) #[true, true, true, true, false, true, true, true, false, false, false] rfl rfl (any_of HT_.out (by kernel_rfl)) (fun _ _ _ h => h) (Or.inl ⟨by rfl, ?_⟩) ?_ ?_
         rotate_left
         ·intro w'
          go_simp
          with_reducible rfl
         rotate_left
         ·simp only [Act.put, u6a, u6b, u6c, i64_w, i32_w]
          rfl
         refine take_ (i := 4) (N := some 44) (v := ?_) (a' := ?_) #[true, true, true, true, true, true, true, true, false, false, false] rfl rfl (take_ofW HT_.out HW_.out (by kernel_rfl)) (fun _ _ _ h => h) (Or.inl ⟨by rfl, ?_⟩) hHeld ?_ ?_
         rotate_left
         ·rintro w' ⟨s0, s1, s2, s3, s4, s5, s6, s7, s8, s9⟩
          go_simp
          with_reducible rfl
         rotate_left
         ·simp only [Act.put, u6a, u6b, u6c, i64_w, i32_w]
          rfl
         refine take_ (i := 8) (N := some 48) (v := ?_) (a' := ?_) #[true, true, true, true, true, true, true, true, true, false, false] rfl rfl (take_ofW HT_.out HW_.out (by kernel_rfl)) (fun _ _ _ h => h) (Or.inl ⟨by rfl, ?_⟩) hHeld ?_ ?_
         rotate_left
         ·rintro w' ⟨s0, s1, s2, s3, s4, s5, s6, s7, s8, s9⟩
          go_simp
          with_reducible rfl
         rotate_left
         ·simp only [Act.put, u6a, u6b, u6c, i64_w, i32_w]
          rfl
         refine one_ (i := 9) (N := some 49) #[true, true, true, true, true, true, true, true, true, true, false] rfl rfl (one_of HT_.out (by kernel_rfl)) (by decide) (fun K hK => ?_)
         refine goesF_ ha4.out.body #[.agg #[.int .i64 ((rd_T50 l0 (ji8)).f0), .int .i64 ((rd_T50 l0 (ji8)).f1.f0), .int .i64 ((rd_T50 l0 (ji8)).f1.f1), .int .i64 ((rd_T50 l0 (ji8)).f1.f2), .int .i64 ((rd_T50 l0 (ji8)).f1.f3)], .agg #[.int .i64 ((rd_T50 l0 a1).f0), .int .i64 ((rd_T50 l0 a1).f1.f0), .int .i64 ((rd_T50 l0 a1).f1.f1), .int .i64 ((rd_T50 l0 a1).f1.f2), .int .i64 ((rd_T50 l0 a1).f1.f3)]] (by rfl) rfl rfl rfl (by (try simp only [List.map_toArray, List.map_cons, List.map_nil]); first | done | (simp only [hji8]; rfl) | rfl | (rw [← hji8]; rfl) | (simp only [List.length_drop, List.length_take]; rfl)) ?_
         with_reducible refine (GC.calls ha4.out ((rd_T50 l0 (ji8)).f0) ((rd_T50 l0 (ji8)).f1.f0) ((rd_T50 l0 (ji8)).f1.f1) ((rd_T50 l0 (ji8)).f1.f2) ((rd_T50 l0 (ji8)).f1.f3) ((rd_T50 l0 a1).f0) ((rd_T50 l0 a1).f1.f0) ((rd_T50 l0 a1).f1.f1) ((rd_T50 l0 a1).f1.f2) ((rd_T50 l0 a1).f1.f3) t211 _  A13.out).mono ?_
         rintro e w17 ⟨rfl, hb⟩
         have HS0_ := (hb.cell (u6d _ _ (hHeld.1))).trans (hHeld.1)
         have HS1_ := (hb.cell (u6d _ _ (hHeld.2.1))).trans (hHeld.2.1)
         have HS2_ := (hb.cell (u6d _ _ (hHeld.2.2.1))).trans (hHeld.2.2.1)
         have HS3_ := (hb.cell (u6d _ _ (hHeld.2.2.2.1))).trans (hHeld.2.2.2.1)
         have HS4_ := (hb.cell (u6d _ _ (hHeld.2.2.2.2.1))).trans (hHeld.2.2.2.2.1)
         have HS5_ := (hb.cell (u6d _ _ (hHeld.2.2.2.2.2.1))).trans (hHeld.2.2.2.2.2.1)
         have HS6_ := (hb.cell (u6d _ _ (hHeld.2.2.2.2.2.2.1))).trans (hHeld.2.2.2.2.2.2.1)
         have HS7_ := (hb.cell (u6d _ _ (hHeld.2.2.2.2.2.2.2.1))).trans (hHeld.2.2.2.2.2.2.2.1)
         have HS8_ := (hb.cell (u6d _ _ (hHeld.2.2.2.2.2.2.2.2.1))).trans (hHeld.2.2.2.2.2.2.2.2.1)
         have HS9_ := (hb.cell (u6d _ _ (hHeld.2.2.2.2.2.2.2.2.2))).trans (hHeld.2.2.2.2.2.2.2.2.2)
         refine ⟨_, rfl, ?_⟩
         have n0_ := Aside0.mk (Kd.R_below (by (with_reducible repeat (first | apply Kd.R_alloc | apply Kd.R_drewN | apply Kd.R_drew)); exact HO_0.out) hb)
         have n1_ := Aside0.mk (Kept.below (S := (fun k_ => P0_ k_)) (by repeat (first | (with_reducible first | exact HK.out | apply Kept.alloc | apply Kept.drewN | apply Kept.drew) | exact HK.out)) hb)
         have n2_ := Aside0.mk (below_step (by repeat (first | (with_reducible first | exact HB.out | apply below_alloc | apply pw_below_drewN | apply below_drew1) | exact HB.out)) hb)
         clear HO_0
         clear HK
         clear HB
         have HO_0 := n0_
         have HK := n1_
         have HB := n2_
         clear n0_ n1_ n2_
         (try clear hb)
         (try clear hb2)
         (try clear hk)
         (try clear hi)
         refine hK.out _ _ ⟨HS0_, HS1_, HS2_, HS3_, HS4_, HS5_, HS6_, HS7_, HS8_, HS9_⟩ (fun hHeld => ?_)
         clear hK K
         refine norm_ (a' := ?_) ?_ ?_
         rotate_left
         ·show Act.put _ (some 49) _ = _
          simp only [Act.put, u6a, u6b, u6c, i64_w, i32_w]
          rfl
         refine pure_ (i := 10) (N := some 50) (v := ?_) (a' := ?_) #[true, true, true, true, true, true, true, true, true, true, true] rfl rfl (any_of HT_.out (by kernel_rfl)) (fun _ _ _ h => h) (Or.inl ⟨by rfl, ?_⟩) ?_ ?_
         rotate_left
         ·intro w'
          go_simp
          with_reducible rfl
         rotate_left
         ·simp only [Act.put, u6a, u6b, u6c, i64_w, i32_w]
          rfl
         refine done_ (done_of HT_.out (by kernel_rfl)) ?_
         try go_wp2
         go_roundg k1
         case measure => have := HK1.out; omega
         case rel => exact ⟨(wrap64 ((ji8) + 1)), (x11_1), (by first | rfl | (simp; done) | (simp only [← hji8] <;> (first | rfl | simp)) | (simp [*]; done)), (by first | rfl | (simp; done) | (simp [*]; done)), H', ⟨by have := HK1.out; omega⟩, ⟨by (with_reducible repeat (first | apply Kd.R_alloc | apply Kd.R_drewN | apply Kd.R_drew)); exact HO_0.out⟩, ⟨by repeat (first | (with_reducible first | exact HK.out | apply Kept.alloc | apply Kept.drewN | apply Kept.drew) | exact HK.out)⟩, ⟨by repeat (first | (with_reducible first | exact HB.out | apply below_alloc | apply pw_below_drewN | apply below_drew1) | exact HB.out)⟩⟩
        ·rw [if_neg c14] at H
         have c14b0 : decide (t211 < 0) = false := decide_eq_false c14
         clear c14
         have H' := Aside0.mk H
         clear H
         try go_wp2
         have n0_ := Aside0.mk (Kd.R_drew HO_0.out)
         have n1_ := Aside0.mk (Kept.drew HK.out)
         have n2_ := Aside0.mk (below_drew1 HB.out)
         clear HO_0
         clear HK
         clear HB
         have HO_0 := n0_
         have HK := n1_
         have HB := n2_
         clear n0_ n1_ n2_
         obtain ⟨Ao19, co19, eo19⟩ := Kd.R_slice HO_0.out
         (first | subst eo19 | (injection eo19 with f1_ f2_ f3_; have f4_ := f1_.symm; have f5_ := f3_.symm; clear f1_ f2_ f3_; subst f4_; subst f5_))
         have p209 : 0 ≤ ((ji8) : Int) := of_decide_eq_true (by first | (with_reducible assumption) | assumption)
         have q209 : (ji8) < (l0.length : Int) := of_decide_eq_true (by first | (with_reducible assumption) | assumption)
         obtain ⟨ad209, e209, hx209_0, hx209_1, hx209_2, hx209_3, hx209_4⟩ := at_T50 (Kd.R_reads' HO_0.out).2.2 (ji8) p209 q209
         cases e209
         replace p209 := eq_true p209
         replace q209 := eq_true q209
         have p210 : 0 ≤ (a1 : Int) := of_decide_eq_true (by first | (with_reducible assumption) | assumption)
         have q210 : a1 < (l0.length : Int) := of_decide_eq_true (by first | (with_reducible assumption) | assumption)
         obtain ⟨ad210, e210, hx210_0, hx210_1, hx210_2, hx210_3, hx210_4⟩ := at_T50 (Kd.R_reads' HO_0.out).2.2 a1 p210 q210
         obtain rfl : ad209 = ad210 := (by injection e210)
         replace p210 := eq_true p210
         replace q210 := eq_true q210
         refine start_ (n := 11) (S := fun w' => w'.cell? (ad209.add (((ji8)).toNat * 5)) = some (.int .i64 ((rd_T50 l0 (ji8)).f0)) ∧ w'.cell? ⟨(ad209.add (((ji8)).toNat * 5)).block, (ad209.add (((ji8)).toNat * 5)).off + 1, none⟩ = some (.int .i64 ((rd_T50 l0 (ji8)).f1.f0)) ∧ w'.cell? ⟨(ad209.add (((ji8)).toNat * 5)).block, (ad209.add (((ji8)).toNat * 5)).off + 2, none⟩ = some (.int .i64 ((rd_T50 l0 (ji8)).f1.f1)) ∧ w'.cell? ⟨(ad209.add (((ji8)).toNat * 5)).block, (ad209.add (((ji8)).toNat * 5)).off + 3, none⟩ = some (.int .i64 ((rd_T50 l0 (ji8)).f1.f2)) ∧ w'.cell? ⟨(ad209.add (((ji8)).toNat * 5)).block, (ad209.add (((ji8)).toNat * 5)).off + 4, none⟩ = some (.int .i64 ((rd_T50 l0 (ji8)).f1.f3)) ∧ w'.cell? (ad209.add ((a1).toNat * 5)) = some (.int .i64 ((rd_T50 l0 a1).f0)) ∧ w'.cell? ⟨(ad209.add ((a1).toNat * 5)).block, (ad209.add ((a1).toNat * 5)).off + 1, none⟩ = some (.int .i64 ((rd_T50 l0 a1).f1.f0)) ∧ w'.cell? ⟨(ad209.add ((a1).toNat * 5)).block, (ad209.add ((a1).toNat * 5)).off + 2, none⟩ = some (.int .i64 ((rd_T50 l0 a1).f1.f1)) ∧ w'.cell? ⟨(ad209.add ((a1).toNat * 5)).block, (ad209.add ((a1).toNat * 5)).off + 3, none⟩ = some (.int .i64 ((rd_T50 l0 a1).f1.f2)) ∧ w'.cell? ⟨(ad209.add ((a1).toNat * 5)).block, (ad209.add ((a1).toNat * 5)).off + 4, none⟩ = some (.int .i64 ((rd_T50 l0 a1).f1.f3))) (ds := []) #[false, false, false, false, false, false, false, false, false, false, false] (by kernel_rfl) rfl rfl ⟨hx209_0, hx209_1, hx209_2, hx209_3, hx209_4, hx210_0, hx210_1, hx210_2, hx210_3, hx210_4⟩ (fun hHeld => ?_); refine with_tabW impl_Deep_78.tab5 impl_Deep_78.bits5 (fun HT_ HW_ => ?_)
         generalize wr.drew = w18 at HO_0 HK HB hx209_0 hx209_1 hx209_2 hx209_3 hx209_4 hx210_0 hx210_1 hx210_2 hx210_3 hx210_4 hHeld ⊢
         refine pure_ (i := 0) (N := some 40) (v := ?_) (a' := ?_) #[true, false, false, false, false, false, false, false, false, false, false] rfl rfl (any_of HT_.out (by kernel_rfl)) (fun _ _ _ h => h) (Or.inl ⟨by rfl, ?_⟩) ?_ ?_
         rotate_left
         ·intro w'
          go_simp
          with_reducible rfl
         rotate_left
         ·simp only [Act.put, u6a, u6b, u6c, i64_w, i32_w]
          rfl
         refine pure_ (i := 1) (N := some 41) (v := ?_) (a' := ?_) #[true, true, false, false, false, false, false, false, false, false, false] rfl rfl (any_of HT_.out (by kernel_rfl)) (fun _ _ _ h => h) (Or.inl ⟨by rfl, ?_⟩) ?_ ?_
         rotate_left
         ·intro w'
          go_simp
          with_reducible rfl
         rotate_left
         ·simp only [Act.put, u6a, u6b, u6c, i64_w, i32_w]
          rfl
         refine pure_ (i := 2) (N := some 42) (v := ?_) (a' := ?_) #[true, true, true, false, false, false, false, false, false, false, false] rfl rfl (any_of HT_.out (by kernel_rfl)) (fun _ _ _ h => h) (Or.inl ⟨by rfl, ?_⟩) ?_ ?_
         rotate_left
         ·intro w'
          go_simp
          with_reducible rfl
         rotate_left
         ·simp only [Act.put, u6a, u6b, u6c, i64_w, i32_w]
          rfl
         refine pure_ (i := 3) (N := some 43) (v := ?_) (a' := ?_) #[true, true, true, true, false, false, false, false, false, false, false] rfl rfl (any_of HT_.out (by kernel_rfl)) (fun _ _ _ h => h) (Or.inl ⟨by rfl, ?_⟩) ?_ ?_
         rotate_left
         ·intro w'
          go_simp
          with_reducible rfl
         rotate_left
         ·simp only [Act.put, u6a, u6b, u6c, i64_w, i32_w]
          rfl
         refine pure_ (i := 5) (N := some 45) (v := ?_) (a' := ?_) #[true, true, true, true, false, true, false, false, false, false, false] rfl rfl (any_of HT_.out (by kernel_rfl)) (fun _ _ _ h => h) (Or.inl ⟨by rfl, ?_⟩) ?_ ?_
         rotate_left
         ·intro w'
          go_simp
          with_reducible rfl
         rotate_left
         ·simp only [Act.put, u6a, u6b, u6c, i64_w, i32_w]
          rfl
         refine pure_ (i := 6) (N := some 46) (v := ?_) (a' := ?_) #[true, true, true, true, false, true, true, false, false, false, false] rfl rfl (any_of HT_.out (by kernel_rfl)) (fun _ _ _ h => h) (Or.inl ⟨by rfl, ?_⟩) ?_ ?_
         rotate_left
         ·intro w'
          go_simp
          with_reducible rfl
         rotate_left
         ·simp only [Act.put, u6a, u6b, u6c, i64_w, i32_w]
          rfl
         refine pure_ (i := 7) (N := some 47) (v := ?_) (a' := ?_) #[true, true, true, true, false, true, true, true, false, false, false] rfl rfl (any_of HT_.out (by kernel_rfl)) (fun _ _ _ h => h) (Or.inl ⟨by rfl, ?_⟩) ?_ ?_
         rotate_left
         ·intro w'
          go_simp
          with_reducible rfl
         rotate_left
         ·simp only [Act.put, u6a, u6b, u6c, i64_w, i32_w]
          rfl
         refine take_ (i := 4) (N := some 44) (v := ?_) (a' := ?_) #[true, true, true, true, true, true, true, true, false, false, false] rfl rfl (take_ofW HT_.out HW_.out (by kernel_rfl)) (fun _ _ _ h => h) (Or.inl ⟨by rfl, ?_⟩) hHeld ?_ ?_
         rotate_left
         ·rintro w' ⟨s0, s1, s2, s3, s4, s5, s6, s7, s8, s9⟩
          go_simp
          with_reducible rfl
         rotate_left
         ·simp only [Act.put, u6a, u6b, u6c, i64_w, i32_w]
          rfl
         refine take_ (i := 8) (N := some 48) (v := ?_) (a' := ?_) #[true, true, true, true, true, true, true, true, true, false, false] rfl rfl (take_ofW HT_.out HW_.out (by kernel_rfl)) (fun _ _ _ h => h) (Or.inl ⟨by rfl, ?_⟩) hHeld ?_ ?_
         rotate_left
         ·rintro w' ⟨s0, s1, s2, s3, s4, s5, s6, s7, s8, s9⟩
          go_simp
          with_reducible rfl
         rotate_left
         ·simp only [Act.put, u6a, u6b, u6c, i64_w, i32_w]
          rfl
         refine one_ (i := 9) (N := some 49) #[true, true, true, true, true, true, true, true, true, true, false] rfl rfl (one_of HT_.out (by kernel_rfl)) (by decide) (fun K hK => ?_)
         refine goesF_ ha4.out.body #[.agg #[.int .i64 ((rd_T50 l0 (ji8)).f0), .int .i64 ((rd_T50 l0 (ji8)).f1.f0), .int .i64 ((rd_T50 l0 (ji8)).f1.f1), .int .i64 ((rd_T50 l0 (ji8)).f1.f2), .int .i64 ((rd_T50 l0 (ji8)).f1.f3)], .agg #[.int .i64 ((rd_T50 l0 a1).f0), .int .i64 ((rd_T50 l0 a1).f1.f0), .int .i64 ((rd_T50 l0 a1).f1.f1), .int .i64 ((rd_T50 l0 a1).f1.f2), .int .i64 ((rd_T50 l0 a1).f1.f3)]] (by rfl) rfl rfl rfl (by (try simp only [List.map_toArray, List.map_cons, List.map_nil]); first | done | (simp only [hji8]; rfl) | rfl | (rw [← hji8]; rfl) | (simp only [List.length_drop, List.length_take]; rfl)) ?_
         with_reducible refine (GC.calls ha4.out ((rd_T50 l0 (ji8)).f0) ((rd_T50 l0 (ji8)).f1.f0) ((rd_T50 l0 (ji8)).f1.f1) ((rd_T50 l0 (ji8)).f1.f2) ((rd_T50 l0 (ji8)).f1.f3) ((rd_T50 l0 a1).f0) ((rd_T50 l0 a1).f1.f0) ((rd_T50 l0 a1).f1.f1) ((rd_T50 l0 a1).f1.f2) ((rd_T50 l0 a1).f1.f3) t211 _  A13.out).mono ?_
         rintro e w20 ⟨rfl, hb⟩
         have HS0_ := (hb.cell (u6d _ _ (hHeld.1))).trans (hHeld.1)
         have HS1_ := (hb.cell (u6d _ _ (hHeld.2.1))).trans (hHeld.2.1)
         have HS2_ := (hb.cell (u6d _ _ (hHeld.2.2.1))).trans (hHeld.2.2.1)
         have HS3_ := (hb.cell (u6d _ _ (hHeld.2.2.2.1))).trans (hHeld.2.2.2.1)
         have HS4_ := (hb.cell (u6d _ _ (hHeld.2.2.2.2.1))).trans (hHeld.2.2.2.2.1)
         have HS5_ := (hb.cell (u6d _ _ (hHeld.2.2.2.2.2.1))).trans (hHeld.2.2.2.2.2.1)
         have HS6_ := (hb.cell (u6d _ _ (hHeld.2.2.2.2.2.2.1))).trans (hHeld.2.2.2.2.2.2.1)
         have HS7_ := (hb.cell (u6d _ _ (hHeld.2.2.2.2.2.2.2.1))).trans (hHeld.2.2.2.2.2.2.2.1)
         have HS8_ := (hb.cell (u6d _ _ (hHeld.2.2.2.2.2.2.2.2.1))).trans (hHeld.2.2.2.2.2.2.2.2.1)
         have HS9_ := (hb.cell (u6d _ _ (hHeld.2.2.2.2.2.2.2.2.2))).trans (hHeld.2.2.2.2.2.2.2.2.2)
         refine ⟨_, rfl, ?_⟩
         have n0_ := Aside0.mk (Kd.R_below (by (with_reducible repeat (first | apply Kd.R_alloc | apply Kd.R_drewN | apply Kd.R_drew)); exact HO_0.out) hb)
         have n1_ := Aside0.mk (Kept.below (S := (fun k_ => P0_ k_)) (by repeat (first | (with_reducible first | exact HK.out | apply Kept.alloc | apply Kept.drewN | apply Kept.drew) | exact HK.out)) hb)
         have n2_ := Aside0.mk (below_step (by repeat (first | (with_reducible first | exact HB.out | apply below_alloc | apply pw_below_drewN | apply below_drew1) | exact HB.out)) hb)
         clear HO_0
         clear HK
         clear HB
         have HO_0 := n0_
         have HK := n1_
         have HB := n2_
         clear n0_ n1_ n2_
         (try clear hb)
         (try clear hb2)
         (try clear hk)
         (try clear hi)
         refine hK.out _ _ ⟨HS0_, HS1_, HS2_, HS3_, HS4_, HS5_, HS6_, HS7_, HS8_, HS9_⟩ (fun hHeld => ?_)
         clear hK K
         refine norm_ (a' := ?_) ?_ ?_
         rotate_left
         ·show Act.put _ (some 49) _ = _
          simp only [Act.put, u6a, u6b, u6c, i64_w, i32_w]
          rfl
         refine pure_ (i := 10) (N := some 50) (v := ?_) (a' := ?_) #[true, true, true, true, true, true, true, true, true, true, true] rfl rfl (any_of HT_.out (by kernel_rfl)) (fun _ _ _ h => h) (Or.inl ⟨by rfl, ?_⟩) ?_ ?_
         rotate_left
         ·intro w'
          go_simp
          with_reducible rfl
         rotate_left
         ·simp only [Act.put, u6a, u6b, u6c, i64_w, i32_w]
          rfl
         refine done_ (done_of HT_.out (by kernel_rfl)) ?_
         try go_wp2
         go_roundg k1
         case measure => have := HK1.out; omega
         case rel => exact ⟨(x10_1), (ji8), (by first | rfl | (simp; done) | (simp [*]; done)), (by first | rfl | (simp; done) | (simp only [← hji8] <;> (first | rfl | simp)) | (simp [*]; done)), H', ⟨by have := HK1.out; omega⟩, ⟨by (with_reducible repeat (first | apply Kd.R_alloc | apply Kd.R_drewN | apply Kd.R_drew)); exact HO_0.out⟩, ⟨by repeat (first | (with_reducible first | exact HK.out | apply Kept.alloc | apply Kept.drewN | apply Kept.drew) | exact HK.out)⟩, ⟨by repeat (first | (with_reducible first | exact HB.out | apply below_alloc | apply pw_below_drewN | apply below_drew1) | exact HB.out)⟩⟩
       ·rw [if_neg c12] at H
        exact absurd H (by simp)
      ·rw [if_neg c11] at H
       exact absurd H (by simp)
     ·rw [if_neg c10] at H
      exact absurd H (by simp)
    ·rw [if_neg c9] at H
     exact absurd H (by simp)
   ·rw [if_neg c7] at H
    have c7b0 : decide (x10_1 < x11_1) = false := decide_eq_false c7
    clear c7
    have H' := Aside0.mk H
    clear H
    go_wp2
    go_loopg [13] k1 (fun kq v13 w' => ∃ (x0_2 : List (S50)) (x13_2 : Int), v13 = .int .i64 x13_2 ∧ Aside0 (impl_Deep_78.l1 kq x0_2 x10_1 x13_2 = some r) ∧ Aside0 (kq ≤ k1) ∧ Aside0 (Kd.R k50 50 w' w0.heap.size (fun k_ => (P0_ k_ ∨ w.heap.size ≤ k_)) u9000_ x0_2) ∧ Aside0 (Kept w w' (fun k_ => P0_ k_)) ∧ Aside0 (Below w0.heap.size w0 w'))
    case atStart => exact ⟨(l0), (a1), (by first | rfl | (simp; done) | (simp [*]; done)), H', ⟨Nat.le_refl _⟩, ⟨by (with_reducible repeat (first | apply Kd.R_alloc | apply Kd.R_drewN | apply Kd.R_drew)); exact HO_0.out⟩, ⟨by repeat (first | (with_reducible first | exact HK.out | apply Kept.alloc | apply Kept.drewN | apply Kept.drew) | exact HK.out)⟩, ⟨by repeat (first | (with_reducible first | exact HB.out | apply below_alloc | apply pw_below_drewN | apply below_drew1) | exact HB.out)⟩⟩
    case round =>
     clear H'
     try clear c6
     try clear c6b0
     try clear c6b1
     try clear c7
     try clear c7b0
     try clear c9
     try clear c9b0
     try clear c10
     try clear c10b0
     try clear c11
     try clear c11b0
     try clear c12
     try clear c12b0
     try clear c14
     try clear c14b0
     try clear hx209_0
     try clear hx209_1
     try clear hx209_2
     try clear hx209_3
     try clear hx209_4
     try clear hx210_0
     try clear hx210_1
     try clear hx210_2
     try clear hx210_3
     try clear hx210_4
     try clear p209
     try clear p210
     try clear q209
     try clear q210
     obtain ⟨x0_2, x13_2, rfl, HA, HK2, HO_0, HK, HB⟩ := hrel
     cases gk with
     | zero => exact absurd HA.out (by simp [impl_Deep_78.l1])
     | succ k2 =>
      have H := HA.out
      clear HA
      simp only [impl_Deep_78.l1] at H
      by_cases c21 : x13_2 < (wrap64 (x10_1 - 1))
      ·rw [if_pos c21] at H
       have c21b0 : decide (x13_2 < (wrap64 (x10_1 - 1))) = true := decide_eq_true c21
       clear c21
       obtain ⟨ji22, hji22⟩ : ∃ j_ : Int, (wrap64 (x13_2 + 1)) = j_ := ⟨_, rfl⟩
       replace H : (if 0 ≤ (ji22) then (if (ji22) < (x0_2.length : Int) then (if 0 ≤ x13_2 then (if x13_2 < (x0_2.length : Int) then (impl_Deep_78.l1 k2 ((x0_2.set (x13_2 : Int).toNat (⟨(rd_T50 x0_2 (ji22)).f0, (⟨(rd_T50 x0_2 (ji22)).f1.f0, (rd_T50 x0_2 (ji22)).f1.f1, (rd_T50 x0_2 (ji22)).f1.f2, (rd_T50 x0_2 (ji22)).f1.f3⟩ : S35)⟩ : S50)).set ((ji22) : Int).toNat (⟨(rd_T50 x0_2 x13_2).f0, (⟨(rd_T50 x0_2 x13_2).f1.f0, (rd_T50 x0_2 x13_2).f1.f1, (rd_T50 x0_2 x13_2).f1.f2, (rd_T50 x0_2 x13_2).f1.f3⟩ : S35)⟩ : S50)) x10_1 ji22) else (none)) else (none)) else (none)) else (none)) = some r := by first | (rw [hji22] at H; exact H) | (simp only [hji22] at H ⊢; exact H)
       have hji22w : (IntKind.i64.wrap (x13_2 + 1)) = ji22 := (i64_w _).trans hji22
       by_cases c23 : 0 ≤ (ji22)
       ·rw [if_pos c23] at H
        have c23b0 : decide (0 ≤ (ji22)) = true := decide_eq_true c23
        clear c23
        by_cases c24 : (ji22) < (x0_2.length : Int)
        ·rw [if_pos c24] at H
         have c24b0 : decide ((ji22) < (x0_2.length : Int)) = true := decide_eq_true c24
         clear c24
         by_cases c25 : 0 ≤ x13_2
         ·rw [if_pos c25] at H
          have c25b0 : decide (0 ≤ x13_2) = true := decide_eq_true c25
          clear c25
          by_cases c26 : x13_2 < (x0_2.length : Int)
          ·rw [if_pos c26] at H
           have c26b0 : decide (x13_2 < (x0_2.length : Int)) = true := decide_eq_true c26
           clear c26
           obtain ⟨y214, hy214⟩ : ∃ y_ : List (S50), y_ = (x0_2.set (x13_2 : Int).toNat (⟨(rd_T50 x0_2 (ji22)).f0, (⟨(rd_T50 x0_2 (ji22)).f1.f0, (rd_T50 x0_2 (ji22)).f1.f1, (rd_T50 x0_2 (ji22)).f1.f2, (rd_T50 x0_2 (ji22)).f1.f3⟩ : S35)⟩ : S50)) := ⟨_, rfl⟩
           replace H : (impl_Deep_78.l1 k2 (y214.set ((ji22) : Int).toNat (⟨(rd_T50 x0_2 x13_2).f0, (⟨(rd_T50 x0_2 x13_2).f1.f0, (rd_T50 x0_2 x13_2).f1.f1, (rd_T50 x0_2 x13_2).f1.f2, (rd_T50 x0_2 x13_2).f1.f3⟩ : S35)⟩ : S50)) x10_1 ji22) = some r := by first | (rw [hy214]; with_reducible exact H) | (have H2_ := (Option.bind_some _ _).symm.trans H; rw [hy214]; with_reducible exact H2_) | (have H2_ := (Option.bind_some _ _).symm.trans H; with_reducible exact H2_) | with_reducible exact H | (rw [hy214]; exact H) | exact H
           have Ny214 := Aside0.mk hy214
           clear hy214
           obtain ⟨y215, hy215⟩ : ∃ y_ : List (S50), y_ = (y214.set ((ji22) : Int).toNat (⟨(rd_T50 x0_2 x13_2).f0, (⟨(rd_T50 x0_2 x13_2).f1.f0, (rd_T50 x0_2 x13_2).f1.f1, (rd_T50 x0_2 x13_2).f1.f2, (rd_T50 x0_2 x13_2).f1.f3⟩ : S35)⟩ : S50)) := ⟨_, rfl⟩
           replace H : (impl_Deep_78.l1 k2 y215 x10_1 ji22) = some r := by first | (rw [hy215]; with_reducible exact H) | (have H2_ := (Option.bind_some _ _).symm.trans H; rw [hy215]; with_reducible exact H2_) | (have H2_ := (Option.bind_some _ _).symm.trans H; with_reducible exact H2_) | with_reducible exact H | (rw [hy215]; exact H) | exact H
           have Ny215 := Aside0.mk hy215
           clear hy215
           have H' := Aside0.mk H
           clear H
           try go_wp2
           have n0_ := Aside0.mk (Kd.R_drew HO_0.out)
           have n1_ := Aside0.mk (Kept.drew HK.out)
           have n2_ := Aside0.mk (below_drew1 HB.out)
           clear HO_0
           clear HK
           clear HB
           have HO_0 := n0_
           have HK := n1_
           have HB := n2_
           clear n0_ n1_ n2_
           obtain ⟨Ao30, co30, eo30⟩ := Kd.R_slice HO_0.out
           (first | subst eo30 | (injection eo30 with f1_ f2_ f3_; have f4_ := f1_.symm; have f5_ := f3_.symm; clear f1_ f2_ f3_; subst f4_; subst f5_))
           have p212 : 0 ≤ ((ji22) : Int) := of_decide_eq_true (by first | (with_reducible assumption) | assumption)
           have q212 : (ji22) < (x0_2.length : Int) := of_decide_eq_true (by first | (with_reducible assumption) | assumption)
           obtain ⟨ad212, e212, hx212_0, hx212_1, hx212_2, hx212_3, hx212_4⟩ := at_T50 (Kd.R_reads' HO_0.out).2.2 (ji22) p212 q212
           cases e212
           replace p212 := eq_true p212
           replace q212 := eq_true q212
           have p213 : 0 ≤ (x13_2 : Int) := of_decide_eq_true (by first | (with_reducible assumption) | assumption)
           have q213 : x13_2 < (x0_2.length : Int) := of_decide_eq_true (by first | (with_reducible assumption) | assumption)
           obtain ⟨ad213, e213, hx213_0, hx213_1, hx213_2, hx213_3, hx213_4⟩ := at_T50 (Kd.R_reads' HO_0.out).2.2 x13_2 p213 q213
           obtain rfl : ad212 = ad213 := (by injection e213)
           replace p213 := eq_true p213
           replace q213 := eq_true q213
           have p27 : 0 ≤ (x13_2 : Int) := of_decide_eq_true (by first | (with_reducible assumption) | assumption)
           have q27 : (x13_2 : Int) < ((x0_2.length : Int) : Int) := of_decide_eq_true (by first | (with_reducible assumption) | assumption)
           obtain ⟨go27, co27, eo27, gb27, gl27, cl27, HG27⟩ := Kd.R_form HO_0.out (by omega)
           (first | cases eo27 | (injection eo27 with ea_ en_ ec_; (first | subst ea_ | (injection ea_ with ea_; subst ea_)); subst ec_; clear en_))
           have GB27 := Aside0.mk gb27
           have GG27 := Aside0.mk HG27
           clear gb27 gl27 HG27
           have HMgo27 := Aside0.mk (show (P0_ go27 ∨ w.heap.size ≤ go27) from (HO_0.out.1 _ rfl))
           (first | simp only [add_plain] at hx212_0 | skip)
           (first | simp only [add_plain] at hx212_1 | skip)
           (first | simp only [add_plain] at hx212_2 | skip)
           (first | simp only [add_plain] at hx212_3 | skip)
           (first | simp only [add_plain] at hx212_4 | skip)
           (first | simp only [add_plain] at hx213_0 | skip)
           (first | simp only [add_plain] at hx213_1 | skip)
           (first | simp only [add_plain] at hx213_2 | skip)
           (first | simp only [add_plain] at hx213_3 | skip)
           (first | simp only [add_plain] at hx213_4 | skip)
           obtain ⟨ce27, hcl27, hM27, hcc27, hfr27⟩ := Kd.R_elem HO_0.out z50 (x13_2 : Int) p27 q27
           obtain rfl := k50_openM hM27
           have hx27_0 : World.cell? _ ⟨go27, (x13_2 : Int).toNat * 5, none⟩ = some (.int .i64 ((rd_T50 x0_2 x13_2).f0)) := hcc27 0 _ rfl
           have hx27_1 : World.cell? _ ⟨go27, (x13_2 : Int).toNat * 5 + 1, none⟩ = some (.int .i64 ((rd_T50 x0_2 x13_2).f1.f0)) := hcc27 1 _ rfl
           have hx27_2 : World.cell? _ ⟨go27, (x13_2 : Int).toNat * 5 + 2, none⟩ = some (.int .i64 ((rd_T50 x0_2 x13_2).f1.f1)) := hcc27 2 _ rfl
           have hx27_3 : World.cell? _ ⟨go27, (x13_2 : Int).toNat * 5 + 3, none⟩ = some (.int .i64 ((rd_T50 x0_2 x13_2).f1.f2)) := hcc27 3 _ rfl
           have hx27_4 : World.cell? _ ⟨go27, (x13_2 : Int).toNat * 5 + 4, none⟩ = some (.int .i64 ((rd_T50 x0_2 x13_2).f1.f3)) := hcc27 4 _ rfl
           have hf27_0 : World.frozen? _ ⟨go27, (x13_2 : Int).toNat * 5, none⟩ = false := hfr27 0
           have hf27_1 : World.frozen? _ ⟨go27, (x13_2 : Int).toNat * 5 + 1, none⟩ = false := hfr27 1
           have hf27_2 : World.frozen? _ ⟨go27, (x13_2 : Int).toNat * 5 + 2, none⟩ = false := hfr27 2
           have hf27_3 : World.frozen? _ ⟨go27, (x13_2 : Int).toNat * 5 + 3, none⟩ = false := hfr27 3
           have hf27_4 : World.frozen? _ ⟨go27, (x13_2 : Int).toNat * 5 + 4, none⟩ = false := hfr27 4
           clear hcl27 hcc27 hfr27 hM27
           replace p27 := eq_true p27
           replace q27 := eq_true q27
           obtain ⟨ce31, hcl31, hM31, hcc31, hfr31⟩ := Kd.R_elem HO_0.out z50 (x13_2 : Int) (of_decide_eq_true (by first | (with_reducible assumption) | assumption)) (by have h_ : (x13_2 : Int) < ((x0_2.length : Int) : Int) := of_decide_eq_true (by first | (with_reducible assumption) | assumption); first | exact h_ | (have e_ := (Kd.R_reads' HO_0.out).1; omega) | simpa using h_)
           obtain rfl := k50_openM hM31
           have HP31 := (Kd.R_seg HO_0.out (x13_2 : Int) (of_decide_eq_true (by first | (with_reducible assumption) | assumption)) (by have h_ : (x13_2 : Int) < ((x0_2.length : Int) : Int) := of_decide_eq_true (by first | (with_reducible assumption) | assumption); first | exact h_ | (have e_ := (Kd.R_reads' HO_0.out).1; omega) | simpa using h_) (seg := [.int .i64 ((rd_T50 x0_2 (ji22)).f0), .int .i64 ((rd_T50 x0_2 (ji22)).f1.f0), .int .i64 ((rd_T50 x0_2 (ji22)).f1.f1), .int .i64 ((rd_T50 x0_2 (ji22)).f1.f2), .int .i64 ((rd_T50 x0_2 (ji22)).f1.f3)]) (j := 0) hcl31 hcc31 (show 5 ≤ 5 from by decide) (x' := (⟨(rd_T50 x0_2 (ji22)).f0, (⟨(rd_T50 x0_2 (ji22)).f1.f0, (rd_T50 x0_2 (ji22)).f1.f1, (rd_T50 x0_2 (ji22)).f1.f2, (rd_T50 x0_2 (ji22)).f1.f3⟩ : S35)⟩ : S50)) (k50_mkM _ _ _ (⟨(rd_T50 x0_2 (ji22)).f0, (⟨(rd_T50 x0_2 (ji22)).f1.f0, (rd_T50 x0_2 (ji22)).f1.f1, (rd_T50 x0_2 (ji22)).f1.f2, (rd_T50 x0_2 (ji22)).f1.f3⟩ : S35)⟩ : S50) ) (fun _ hk => hk)).1
           rw [← Ny214.out] at HP31
           have HQ31 := Aside0.mk HP31
           clear hcl31 hcc31 hfr31 hM31 HP31
           have p28 : 0 ≤ ((ji22) : Int) := of_decide_eq_true (by first | (with_reducible assumption) | assumption)
           have q28 : ((ji22) : Int) < ((x0_2.length : Int) : Int) := of_decide_eq_true (by first | (with_reducible assumption) | assumption)
           obtain ⟨ce28, hcl28, hM28, hcc28, hfr28⟩ := Kd.R_elem HQ31.out z50 ((ji22) : Int) p28 q28
           obtain rfl := k50_openM hM28
           have hx28_0 : World.cell? _ ⟨go27, ((ji22) : Int).toNat * 5, none⟩ = some (.int .i64 ((rd_T50 y214 (ji22)).f0)) := hcc28 0 _ rfl
           have hx28_1 : World.cell? _ ⟨go27, ((ji22) : Int).toNat * 5 + 1, none⟩ = some (.int .i64 ((rd_T50 y214 (ji22)).f1.f0)) := hcc28 1 _ rfl
           have hx28_2 : World.cell? _ ⟨go27, ((ji22) : Int).toNat * 5 + 2, none⟩ = some (.int .i64 ((rd_T50 y214 (ji22)).f1.f1)) := hcc28 2 _ rfl
           have hx28_3 : World.cell? _ ⟨go27, ((ji22) : Int).toNat * 5 + 3, none⟩ = some (.int .i64 ((rd_T50 y214 (ji22)).f1.f2)) := hcc28 3 _ rfl
           have hx28_4 : World.cell? _ ⟨go27, ((ji22) : Int).toNat * 5 + 4, none⟩ = some (.int .i64 ((rd_T50 y214 (ji22)).f1.f3)) := hcc28 4 _ rfl
           have hf28_0 : World.frozen? _ ⟨go27, ((ji22) : Int).toNat * 5, none⟩ = false := hfr28 0
           have hf28_1 : World.frozen? _ ⟨go27, ((ji22) : Int).toNat * 5 + 1, none⟩ = false := hfr28 1
           have hf28_2 : World.frozen? _ ⟨go27, ((ji22) : Int).toNat * 5 + 2, none⟩ = false := hfr28 2
           have hf28_3 : World.frozen? _ ⟨go27, ((ji22) : Int).toNat * 5 + 3, none⟩ = false := hfr28 3
           have hf28_4 : World.frozen? _ ⟨go27, ((ji22) : Int).toNat * 5 + 4, none⟩ = false := hfr28 4
           clear hcl28 hcc28 hfr28 hM28
           replace p28 := eq_true p28
           replace q28 := eq_true q28
           obtain ⟨ce32, hcl32, hM32, hcc32, hfr32⟩ := Kd.R_elem HQ31.out z50 ((ji22) : Int) (of_decide_eq_true (by first | (with_reducible assumption) | assumption)) (by have h_ : ((ji22) : Int) < ((x0_2.length : Int) : Int) := of_decide_eq_true (by first | (with_reducible assumption) | assumption); first | exact h_ | (have e_ := (Kd.R_reads' HO_0.out).1; omega) | simpa using h_)
           obtain rfl := k50_openM hM32
           have HP32 := (Kd.R_seg HQ31.out ((ji22) : Int) (of_decide_eq_true (by first | (with_reducible assumption) | assumption)) (by have h_ : ((ji22) : Int) < ((x0_2.length : Int) : Int) := of_decide_eq_true (by first | (with_reducible assumption) | assumption); first | exact h_ | (have e_ := (Kd.R_reads' HO_0.out).1; omega) | simpa using h_) (seg := [.int .i64 ((rd_T50 x0_2 x13_2).f0), .int .i64 ((rd_T50 x0_2 x13_2).f1.f0), .int .i64 ((rd_T50 x0_2 x13_2).f1.f1), .int .i64 ((rd_T50 x0_2 x13_2).f1.f2), .int .i64 ((rd_T50 x0_2 x13_2).f1.f3)]) (j := 0) hcl32 hcc32 (show 5 ≤ 5 from by decide) (x' := (⟨(rd_T50 x0_2 x13_2).f0, (⟨(rd_T50 x0_2 x13_2).f1.f0, (rd_T50 x0_2 x13_2).f1.f1, (rd_T50 x0_2 x13_2).f1.f2, (rd_T50 x0_2 x13_2).f1.f3⟩ : S35)⟩ : S50)) (k50_mkM _ _ _ (⟨(rd_T50 x0_2 x13_2).f0, (⟨(rd_T50 x0_2 x13_2).f1.f0, (rd_T50 x0_2 x13_2).f1.f1, (rd_T50 x0_2 x13_2).f1.f2, (rd_T50 x0_2 x13_2).f1.f3⟩ : S35)⟩ : S50) ) (fun _ hk => hk)).1
           rw [← Ny215.out] at HP32
           have HQ32 := Aside0.mk HP32
           clear hcl32 hcc32 hfr32 hM32 HP32
           refine start_ (n := 18) (S := fun w' => w'.cell? ⟨go27, ((ji22)).toNat * 5, none⟩ = some (.int .i64 ((rd_T50 x0_2 (ji22)).f0)) ∧ w'.cell? ⟨go27, ((ji22)).toNat * 5 + 1, none⟩ = some (.int .i64 ((rd_T50 x0_2 (ji22)).f1.f0)) ∧ w'.cell? ⟨go27, ((ji22)).toNat * 5 + 2, none⟩ = some (.int .i64 ((rd_T50 x0_2 (ji22)).f1.f1)) ∧ w'.cell? ⟨go27, ((ji22)).toNat * 5 + 3, none⟩ = some (.int .i64 ((rd_T50 x0_2 (ji22)).f1.f2)) ∧ w'.cell? ⟨go27, ((ji22)).toNat * 5 + 4, none⟩ = some (.int .i64 ((rd_T50 x0_2 (ji22)).f1.f3)) ∧ w'.cell? ⟨go27, ((x13_2).toNat * 5), none⟩ = some (.int .i64 ((rd_T50 x0_2 x13_2).f0)) ∧ w'.cell? ⟨go27, ((x13_2).toNat * 5) + 1, none⟩ = some (.int .i64 ((rd_T50 x0_2 x13_2).f1.f0)) ∧ w'.cell? ⟨go27, ((x13_2).toNat * 5) + 2, none⟩ = some (.int .i64 ((rd_T50 x0_2 x13_2).f1.f1)) ∧ w'.cell? ⟨go27, ((x13_2).toNat * 5) + 3, none⟩ = some (.int .i64 ((rd_T50 x0_2 x13_2).f1.f2)) ∧ w'.cell? ⟨go27, ((x13_2).toNat * 5) + 4, none⟩ = some (.int .i64 ((rd_T50 x0_2 x13_2).f1.f3))) (ds := [15, 17]) #[false, false, false, false, false, false, false, false, false, false, false, false, false, false, false, false, false, false] (by kernel_rfl) rfl rfl ⟨hx212_0, hx212_1, hx212_2, hx212_3, hx212_4, hx213_0, hx213_1, hx213_2, hx213_3, hx213_4⟩ (fun hHeld => ?_); refine with_tabW impl_Deep_78.tab11 impl_Deep_78.bits11 (fun HT_ HW_ => ?_)
           generalize wr.drew = w29 at HO_0 HK HB GG27 HQ31 HQ32 hf27_0 hf27_1 hf27_2 hf27_3 hf27_4 hf28_0 hf28_1 hf28_2 hf28_3 hf28_4 hx212_0 hx212_1 hx212_2 hx212_3 hx212_4 hx213_0 hx213_1 hx213_2 hx213_3 hx213_4 hx27_0 hx27_1 hx27_2 hx27_3 hx27_4 hx28_0 hx28_1 hx28_2 hx28_3 hx28_4 hHeld ⊢
           refine pure_ (i := 0) (N := some 61) (v := ?_) (a' := ?_) #[true, false, false, false, false, false, false, false, false, false, false, false, false, false, false, false, false, false] rfl rfl (any_of HT_.out (by kernel_rfl)) (fun _ _ _ h => h) (Or.inl ⟨by rfl, ?_⟩) ?_ ?_
           rotate_left
           ·intro w'
            go_simp
            with_reducible rfl
           rotate_left
           ·simp only [Act.put, u6a, u6b, u6c, i64_w, i32_w]
            rfl
           refine pure_ (i := 1) (N := some 62) (v := ?_) (a' := ?_) #[true, true, false, false, false, false, false, false, false, false, false, false, false, false, false, false, false, false] rfl rfl (any_of HT_.out (by kernel_rfl)) (fun _ _ _ h => h) (Or.inl ⟨by rfl, ?_⟩) ?_ ?_
           rotate_left
           ·intro w'
            go_simp
            with_reducible rfl
           rotate_left
           ·simp only [Act.put, u6a, u6b, u6c, i64_w, i32_w]
            rfl
           refine pure_ (i := 2) (N := some 63) (v := ?_) (a' := ?_) #[true, true, true, false, false, false, false, false, false, false, false, false, false, false, false, false, false, false] rfl rfl (any_of HT_.out (by kernel_rfl)) (fun _ _ _ h => h) (Or.inl ⟨by rfl, ?_⟩) ?_ ?_
           rotate_left
           ·intro w'
            go_simp
            with_reducible rfl
           rotate_left
           ·simp only [Act.put, u6a, u6b, u6c, i64_w, i32_w]
            rfl
           refine pure_ (i := 3) (N := some 64) (v := ?_) (a' := ?_) #[true, true, true, true, false, false, false, false, false, false, false, false, false, false, false, false, false, false] rfl rfl (any_of HT_.out (by kernel_rfl)) (fun _ _ _ h => h) (Or.inl ⟨by rfl, ?_⟩) ?_ ?_
           rotate_left
           ·intro w'
            go_simp
            with_reducible rfl
           rotate_left
           ·simp only [Act.put, u6a, u6b, u6c, i64_w, i32_w]
            rfl
           refine pure_ (i := 4) (N := some 65) (v := ?_) (a' := ?_) #[true, true, true, true, true, false, false, false, false, false, false, false, false, false, false, false, false, false] rfl rfl (any_of HT_.out (by kernel_rfl)) (fun _ _ _ h => h) (Or.inl ⟨by rfl, ?_⟩) ?_ ?_
           rotate_left
           ·intro w'
            go_simp
            with_reducible rfl
           rotate_left
           ·simp only [Act.put, u6a, u6b, u6c, i64_w, i32_w]
            rfl
           refine pure_ (i := 5) (N := some 66) (v := ?_) (a' := ?_) #[true, true, true, true, true, true, false, false, false, false, false, false, false, false, false, false, false, false] rfl rfl (any_of HT_.out (by kernel_rfl)) (fun _ _ _ h => h) (Or.inl ⟨by rfl, ?_⟩) ?_ ?_
           rotate_left
           ·intro w'
            go_simp
            with_reducible rfl
           rotate_left
           ·simp only [Act.put, u6a, u6b, u6c, i64_w, i32_w]
            rfl
           refine pure_ (i := 6) (N := some 67) (v := ?_) (a' := ?_) #[true, true, true, true, true, true, true, false, false, false, false, false, false, false, false, false, false, false] rfl rfl (any_of HT_.out (by kernel_rfl)) (fun _ _ _ h => h) (Or.inl ⟨by rfl, ?_⟩) ?_ ?_
           rotate_left
           ·intro w'
            go_simp
            with_reducible rfl
           rotate_left
           ·simp only [Act.put, u6a, u6b, u6c, i64_w, i32_w]
            rfl
           refine pure_ (i := 7) (N := some 68) (v := ?_) (a' := ?_) #[true, true, true, true, true, true, true, true, false, false, false, false, false, false, false, false, false, false] rfl rfl (any_of HT_.out (by kernel_rfl)) (fun _ _ _ h => h) (Or.inl ⟨by rfl, ?_⟩) ?_ ?_
           rotate_left
           ·intro w'
            go_simp
            with_reducible rfl
           rotate_left
           ·simp only [Act.put, u6a, u6b, u6c, i64_w, i32_w]
            rfl
           refine pure_ (i := 8) (N := some 69) (v := ?_) (a' := ?_) #[true, true, true, true, true, true, true, true, true, false, false, false, false, false, false, false, false, false] rfl rfl (any_of HT_.out (by kernel_rfl)) (fun _ _ _ h => h) (Or.inl ⟨by rfl, ?_⟩) ?_ ?_
           rotate_left
           ·intro w'
            go_simp
            with_reducible rfl
           rotate_left
           ·simp only [Act.put, u6a, u6b, u6c, i64_w, i32_w]
            rfl
           refine pure_ (i := 10) (N := some 71) (v := ?_) (a' := ?_) #[true, true, true, true, true, true, true, true, true, false, true, false, false, false, false, false, false, false] rfl rfl (any_of HT_.out (by kernel_rfl)) (fun _ _ _ h => h) (Or.inl ⟨by rfl, ?_⟩) ?_ ?_
           rotate_left
           ·intro w'
            go_simp
            with_reducible rfl
           rotate_left
           ·simp only [Act.put, u6a, u6b, u6c, i64_w, i32_w]
            rfl
           refine pure_ (i := 11) (N := some 72) (v := ?_) (a' := ?_) #[true, true, true, true, true, true, true, true, true, false, true, true, false, false, false, false, false, false] rfl rfl (any_of HT_.out (by kernel_rfl)) (fun _ _ _ h => h) (Or.inl ⟨by rfl, ?_⟩) ?_ ?_
           rotate_left
           ·intro w'
            go_simp
            with_reducible rfl
           rotate_left
           ·simp only [Act.put, u6a, u6b, u6c, i64_w, i32_w]
            rfl
           refine pure_ (i := 12) (N := some 73) (v := ?_) (a' := ?_) #[true, true, true, true, true, true, true, true, true, false, true, true, true, false, false, false, false, false] rfl rfl (any_of HT_.out (by kernel_rfl)) (fun _ _ _ h => h) (Or.inl ⟨by rfl, ?_⟩) ?_ ?_
           rotate_left
           ·intro w'
            go_simp
            with_reducible rfl
           rotate_left
           ·simp only [Act.put, u6a, u6b, u6c, i64_w, i32_w]
            rfl
           refine take_ (i := 9) (N := some 70) (v := ?_) (a' := ?_) #[true, true, true, true, true, true, true, true, true, true, true, true, true, false, false, false, false, false] rfl rfl (take_ofW HT_.out HW_.out (by kernel_rfl)) (fun _ _ _ h => h) (Or.inl ⟨by rfl, ?_⟩) hHeld ?_ ?_
           rotate_left
           ·rintro w' ⟨s0, s1, s2, s3, s4, s5, s6, s7, s8, s9⟩
            go_simp
            with_reducible rfl
           rotate_left
           ·simp only [Act.put, u6a, u6b, u6c, i64_w, i32_w]
            rfl
           refine take_ (i := 13) (N := some 74) (v := ?_) (a' := ?_) #[true, true, true, true, true, true, true, true, true, true, true, true, true, true, false, false, false, false] rfl rfl (take_ofW HT_.out HW_.out (by kernel_rfl)) (fun _ _ _ h => h) (Or.inl ⟨by rfl, ?_⟩) hHeld ?_ ?_
           rotate_left
           ·rintro w' ⟨s0, s1, s2, s3, s4, s5, s6, s7, s8, s9⟩
            go_simp
            with_reducible rfl
           rotate_left
           ·simp only [Act.put, u6a, u6b, u6c, i64_w, i32_w]
            rfl
           refine pure_ (i := 14) (N := some 75) (v := ?_) (a' := ?_) #[true, true, true, true, true, true, true, true, true, true, true, true, true, true, true, false, false, false] rfl rfl (any_of HT_.out (by kernel_rfl)) (fun _ _ _ h => h) (Or.inl ⟨by rfl, ?_⟩) ?_ ?_
           rotate_left
           ·intro w'
            go_simp
            with_reducible rfl
           rotate_left
           ·simp only [Act.put, u6a, u6b, u6c, i64_w, i32_w]
            rfl
           refine last_ (i := 15) (N := none) #[true, true, true, true, true, true, true, true, true, true, true, true, true, true, true, true, false, false] rfl rfl (one_of HT_.out (by kernel_rfl)) (by decide) (fun K hK => ?_)
           refine skip_ (w1 := (((((w29.setCell ⟨go27, (x13_2 : Int).toNat * 5, none⟩ (.int .i64 ((rd_T50 x0_2 (ji22)).f0))).setCell ⟨go27, (x13_2 : Int).toNat * 5 + 1, none⟩ (.int .i64 ((rd_T50 x0_2 (ji22)).f1.f0))).setCell ⟨go27, (x13_2 : Int).toNat * 5 + 2, none⟩ (.int .i64 ((rd_T50 x0_2 (ji22)).f1.f1))).setCell ⟨go27, (x13_2 : Int).toNat * 5 + 3, none⟩ (.int .i64 ((rd_T50 x0_2 (ji22)).f1.f2))).setCell ⟨go27, (x13_2 : Int).toNat * 5 + 4, none⟩ (.int .i64 ((rd_T50 x0_2 (ji22)).f1.f3)))) (by rfl) rfl (row_store_run k50 rfl (e := 50) (seg := [.int .i64 ((rd_T50 x0_2 (ji22)).f0), .int .i64 ((rd_T50 x0_2 (ji22)).f1.f0), .int .i64 ((rd_T50 x0_2 (ji22)).f1.f1), .int .i64 ((rd_T50 x0_2 (ji22)).f1.f2), .int .i64 ((rd_T50 x0_2 (ji22)).f1.f3)]) rfl rfl rfl (by kernel_rfl) rfl (by intro q_ hq_; simp only [List.mem_cons, List.not_mem_nil, or_false] at hq_; rcases hq_ with rfl | rfl | rfl | rfl | rfl <;> rfl) HO_0.out (x13_2 : Int) rfl (of_decide_eq_true (by first | (with_reducible assumption) | assumption)) (by have h_ : (x13_2 : Int) < ((x0_2.length : Int) : Int) := of_decide_eq_true (by first | (with_reducible assumption) | assumption); first | exact h_ | (have e_ := (Kd.R_reads' HO_0.out).1; omega) | simpa using h_)) ?_
           refine hK.out _ _ ?_
           clear hK K
           refine pure_ (i := 16) (N := some 76) (v := ?_) (a' := ?_) #[true, true, true, true, true, true, true, true, true, true, true, true, true, true, true, true, true, false] rfl rfl (any_of HT_.out (by kernel_rfl)) (fun _ _ _ h => h) (Or.inl ⟨by rfl, ?_⟩) ?_ ?_
           rotate_left
           ·intro w'
            go_simp
            with_reducible rfl
           rotate_left
           ·simp only [Act.put, u6a, u6b, u6c, i64_w, i32_w]
            rfl
           refine last_ (i := 17) (N := none) #[true, true, true, true, true, true, true, true, true, true, true, true, true, true, true, true, true, true] rfl rfl (one_of HT_.out (by kernel_rfl)) (by decide) (fun K hK => ?_)
           refine skip_ (w1 := ((((((((((w29.setCell ⟨go27, (x13_2 : Int).toNat * 5, none⟩ (.int .i64 ((rd_T50 x0_2 (ji22)).f0))).setCell ⟨go27, (x13_2 : Int).toNat * 5 + 1, none⟩ (.int .i64 ((rd_T50 x0_2 (ji22)).f1.f0))).setCell ⟨go27, (x13_2 : Int).toNat * 5 + 2, none⟩ (.int .i64 ((rd_T50 x0_2 (ji22)).f1.f1))).setCell ⟨go27, (x13_2 : Int).toNat * 5 + 3, none⟩ (.int .i64 ((rd_T50 x0_2 (ji22)).f1.f2))).setCell ⟨go27, (x13_2 : Int).toNat * 5 + 4, none⟩ (.int .i64 ((rd_T50 x0_2 (ji22)).f1.f3))).setCell ⟨go27, ((ji22) : Int).toNat * 5, none⟩ (.int .i64 ((rd_T50 x0_2 x13_2).f0))).setCell ⟨go27, ((ji22) : Int).toNat * 5 + 1, none⟩ (.int .i64 ((rd_T50 x0_2 x13_2).f1.f0))).setCell ⟨go27, ((ji22) : Int).toNat * 5 + 2, none⟩ (.int .i64 ((rd_T50 x0_2 x13_2).f1.f1))).setCell ⟨go27, ((ji22) : Int).toNat * 5 + 3, none⟩ (.int .i64 ((rd_T50 x0_2 x13_2).f1.f2))).setCell ⟨go27, ((ji22) : Int).toNat * 5 + 4, none⟩ (.int .i64 ((rd_T50 x0_2 x13_2).f1.f3)))) (by rfl) rfl (row_store_run k50 rfl (e := 50) (seg := [.int .i64 ((rd_T50 x0_2 x13_2).f0), .int .i64 ((rd_T50 x0_2 x13_2).f1.f0), .int .i64 ((rd_T50 x0_2 x13_2).f1.f1), .int .i64 ((rd_T50 x0_2 x13_2).f1.f2), .int .i64 ((rd_T50 x0_2 x13_2).f1.f3)]) rfl rfl rfl (by kernel_rfl) rfl (by intro q_ hq_; simp only [List.mem_cons, List.not_mem_nil, or_false] at hq_; rcases hq_ with rfl | rfl | rfl | rfl | rfl <;> rfl) HQ31.out ((ji22) : Int) rfl (of_decide_eq_true (by first | (with_reducible assumption) | assumption)) (by have h_ : ((ji22) : Int) < ((x0_2.length : Int) : Int) := of_decide_eq_true (by first | (with_reducible assumption) | assumption); first | exact h_ | (have e_ := (Kd.R_reads' HO_0.out).1; omega) | simpa using h_)) ?_
           refine hK.out _ _ ?_
           clear hK K
           refine done_ (done_of HT_.out (by kernel_rfl)) ?_
           try go_wp2
           go_roundg k2
           case measure => have := HK1.out; have := HK2.out; omega
           case rel => exact ⟨(y215), (ji22), (by first | rfl | (simp; done) | (simp only [← hji22] <;> (first | rfl | simp)) | (simp [*]; done)), H', ⟨by have := HK1.out; have := HK2.out; omega⟩, ⟨by (with_reducible repeat (first | apply Kd.R_alloc | apply Kd.R_drewN | apply Kd.R_drew)); exact HQ32.out⟩, ⟨by repeat (first | (with_reducible first | exact HK.out | apply Kept.alloc | apply Kept.drewN | apply Kept.drew | refine Kept.setCell ?_ HMgo27.out _ | refine Kept.setCell ?_ HMgo27.out _ | refine Kept.setCell ?_ HMgo27.out _ | refine Kept.setCell ?_ HMgo27.out _ | refine Kept.setCell ?_ HMgo27.out _ | refine Kept.setCell ?_ HMgo27.out _ | refine Kept.setCell ?_ HMgo27.out _ | refine Kept.setCell ?_ HMgo27.out _ | refine Kept.setCell ?_ HMgo27.out _ | refine Kept.setCell ?_ HMgo27.out _) | exact HK.out)⟩, ⟨by repeat (first | (with_reducible first | exact HB.out | apply below_alloc | apply pw_below_drewN | apply below_drew1 | refine below_set ?_ GB27.out | refine below_set ?_ GB27.out | refine below_set ?_ GB27.out | refine below_set ?_ GB27.out | refine below_set ?_ GB27.out | refine below_set ?_ GB27.out | refine below_set ?_ GB27.out | refine below_set ?_ GB27.out | refine below_set ?_ GB27.out | refine below_set ?_ GB27.out) | exact HB.out)⟩⟩
          ·rw [if_neg c26] at H
           exact absurd H (by simp)
         ·rw [if_neg c25] at H
          exact absurd H (by simp)
        ·rw [if_neg c24] at H
         exact absurd H (by simp)
       ·rw [if_neg c23] at H
        exact absurd H (by simp)
      ·rw [if_neg c21] at H
       have c21b0 : decide (x13_2 < (wrap64 (x10_1 - 1))) = false := decide_eq_false c21
       clear c21
       obtain rfl := Option.some.inj H
       go_wp2
       first | go_end0 | ((try simp only [Exit.inBlock, Exit.then]); refine bodyPost_ret (results_none rfl _ _ _) rfl ?_)
       exact ⟨by first | rfl | (simp [errW_none, errW_some] <;> rfl) | (simp [*, errW_none, errW_some] <;> rfl), by (with_reducible repeat (first | apply Kd.R_alloc | apply Kd.R_drewN | apply Kd.R_drew)); exact HO_0.out, by repeat (first | (with_reducible first | exact HB.out | apply below_alloc | apply pw_below_drewN | apply below_drew1) | exact HB.out), by repeat (first | (with_reducible first | exact HK.out | apply Kept.alloc | apply Kept.drewN | apply Kept.drew) | exact HK.out)⟩
set_option maxHeartbeats 8000000 in
set_option maxRecDepth 100000 in
theorem impl_Deep_78.calls2 (k : Nat) (P0_ : Nat → Prop) (u9000_ : Value) (l0 : List (S50)) (a1 : Int) (a2 : Int) (a3 : Int) (a4 : GtC) (r : List (S50)) (w0 w : World) (hB : Below w0.heap.size w0 w) (ho0 : Kd.R k50 50 w w0.heap.size P0_ u9000_ l0) {cf4 : FuncId} {cc4 : Array Value} (ha4 : Aside0 (FnOkC w cf4 cc4 a4)) (c6 : ¬ ((wrap64 (a2 - a1)) = 1)) (c33 : (wrap64 (a3 - a2)) = 1) (H : impl_Deep_78.l2 k l0 a2 a4 a1 a2 = some r) :
  Calls Try.prog 78 #[u9000_, .int .i64 a1, .int .i64 a2, .int .i64 a3, (.func (.func cf4) #[] cc4)] w fun e w' => e = .returned (.tuple #[]) ∧ Kd.R k50 50 w' w0.heap.size (fun k_ => (P0_ k_ ∨ w.heap.size ≤ k_)) u9000_ r ∧ Below w0.heap.size w0 w' ∧ Kept w w' (fun k_ => P0_ k_) := by
 have hu50 := Try.underlying50
 have HO0 := Aside0.mk (show Kd.R k50 50 w w0.heap.size (fun k_ => (P0_ k_ ∨ w.heap.size ≤ k_)) u9000_ l0 from Kd.R_mono ho0 (fun k_ hk => (.inl hk)))
 have HK := Aside0.mk (Kept.refl w (fun k_ => P0_ k_))
 have HW0 := Aside0.mk hB.size
 have HB := Aside0.mk hB
 clear hB
 have c6b0 : ((wrap64 (a2 - a1)) == 1) = false := beq_eq_false_iff_ne.mpr c6
 have c6b1 : ((wrap64 (a2 - a1)) != 1) = true := bne_iff_ne.mpr c6
 have c33b0 : ((wrap64 (a3 - a2)) == 1) = true := beq_iff_eq.mpr c33
 have c33b1 : ((wrap64 (a3 - a2)) != 1) = false := bne_eq_false_iff_eq.mpr c33
 clear c33
 have H' := Aside0.mk H
 clear H
 go_enter Try.func78, Try.ntmps78
 go_wp2
 go_loopg [14, 15] k (fun kq v14 v15 w' => ∃ (x14_1 : Int) (x15_1 : Int), v14 = .int .i64 x14_1 ∧ v15 = .int .i64 x15_1 ∧ Aside0 (impl_Deep_78.l2 kq l0 a2 a4 x14_1 x15_1 = some r) ∧ Aside0 (kq ≤ k) ∧ Aside0 (Kd.R k50 50 w' w0.heap.size (fun k_ => (P0_ k_ ∨ w.heap.size ≤ k_)) u9000_ l0) ∧ Aside0 (Kept w w' (fun k_ => P0_ k_)) ∧ Aside0 (Below w0.heap.size w0 w'))
 case atStart => exact ⟨(a1), (a2), (by first | rfl | (simp; done) | (simp [*]; done)), (by first | rfl | (simp; done) | (simp [*]; done)), H', ⟨Nat.le_refl _⟩, ⟨by (with_reducible repeat (first | apply Kd.R_alloc | apply Kd.R_drewN | apply Kd.R_drew)); exact HO0.out⟩, ⟨by repeat (first | (with_reducible first | exact HK.out | apply Kept.alloc | apply Kept.drewN | apply Kept.drew) | exact HK.out)⟩, ⟨by repeat (first | (with_reducible first | exact HB.out | apply below_alloc | apply pw_below_drewN | apply below_drew1) | exact HB.out)⟩⟩
 case round =>
  clear H'
  try clear c6
  try clear c6b0
  try clear c6b1
  try clear c7
  try clear c7b0
  try clear c9
  try clear c9b0
  try clear c10
  try clear c10b0
  try clear c11
  try clear c11b0
  try clear c12
  try clear c12b0
  try clear c14
  try clear c14b0
  try clear c21
  try clear c21b0
  try clear c23
  try clear c23b0
  try clear c24
  try clear c24b0
  try clear c25
  try clear c25b0
  try clear c26
  try clear c26b0
  try clear p27
  try clear q27
  try clear p28
  try clear q28
  try clear c33
  try clear c33b0
  try clear c33b1
  try clear hx209_0
  try clear hx209_1
  try clear hx209_2
  try clear hx209_3
  try clear hx209_4
  try clear hx210_0
  try clear hx210_1
  try clear hx210_2
  try clear hx210_3
  try clear hx210_4
  try clear hx212_0
  try clear hx212_1
  try clear hx212_2
  try clear hx212_3
  try clear hx212_4
  try clear hx213_0
  try clear hx213_1
  try clear hx213_2
  try clear hx213_3
  try clear hx213_4
  try clear hx27_0
  try clear hx27_1
  try clear hx27_2
  try clear hx27_3
  try clear hx27_4
  try clear hx28_0
  try clear hx28_1
  try clear hx28_2
  try clear hx28_3
  try clear hx28_4
  try clear p209
  try clear p210
  try clear p212
  try clear p213
  try clear p27
  try clear p28
  try clear q209
  try clear q210
  try clear q212
  try clear q213
  try clear q27
  try clear q28
  obtain ⟨x14_1, x15_1, rfl, rfl, HA, HK1, HO_0, HK, HB⟩ := hrel
  cases gk with
  | zero => exact absurd HA.out (by simp [impl_Deep_78.l2])
  | succ k1 =>
   have H := HA.out
   clear HA
   simp only [impl_Deep_78.l2] at H
   by_cases c34 : x14_1 < x15_1
   ·rw [if_pos c34] at H
    have c34b0 : decide (x14_1 < x15_1) = true := decide_eq_true c34
    clear c34
    by_cases c35 : 0 ≤ a2
    ·rw [if_pos c35] at H
     have c35b0 : decide (0 ≤ a2) = true := decide_eq_true c35
     clear c35
     by_cases c36 : a2 < (l0.length : Int)
     ·rw [if_pos c36] at H
      have c36b0 : decide (a2 < (l0.length : Int)) = true := decide_eq_true c36
      clear c36
      obtain ⟨ji37, hji37⟩ : ∃ j_ : Int, (wrap64 ((IntKind.u64.wrap (wrap64 (x14_1 + x15_1))) / 2)) = j_ := ⟨_, rfl⟩
      replace H : (if 0 ≤ (ji37) then (if (ji37) < (l0.length : Int) then ((GC.f a4 ((rd_T50 l0 a2).f0) ((rd_T50 l0 a2).f1.f0) ((rd_T50 l0 a2).f1.f1) ((rd_T50 l0 a2).f1.f2) ((rd_T50 l0 a2).f1.f3) ((rd_T50 l0 (ji37)).f0) ((rd_T50 l0 (ji37)).f1.f0) ((rd_T50 l0 (ji37)).f1.f1) ((rd_T50 l0 (ji37)).f1.f2) ((rd_T50 l0 (ji37)).f1.f3)).bind fun t218 => (if t218 < 0 then (impl_Deep_78.l2 k1 l0 a2 a4 x14_1 ji37) else (impl_Deep_78.l2 k1 l0 a2 a4 (wrap64 ((ji37) + 1)) x15_1))) else (none)) else (none)) = some r := by first | (rw [hji37] at H; exact H) | (simp only [hji37] at H ⊢; exact H)
      have hji37w : (IntKind.i64.wrap ((IntKind.u64.wrap (wrap64 (x14_1 + x15_1))) / 2)) = ji37 := (i64_w _).trans hji37
      by_cases c38 : 0 ≤ (ji37)
      ·rw [if_pos c38] at H
       have c38b0 : decide (0 ≤ (ji37)) = true := decide_eq_true c38
       clear c38
       by_cases c39 : (ji37) < (l0.length : Int)
       ·rw [if_pos c39] at H
        have c39b0 : decide ((ji37) < (l0.length : Int)) = true := decide_eq_true c39
        clear c39
        replace H := Option.bind_eq_some_iff.mp H
        obtain ⟨t218, A400, H⟩ := H
        have A40 := Aside0.mk A400
        clear A400
        by_cases c41 : t218 < 0
        ·rw [if_pos c41] at H
         have c41b0 : decide (t218 < 0) = true := decide_eq_true c41
         clear c41
         have H' := Aside0.mk H
         clear H
         try go_wp2
         have n0_ := Aside0.mk (Kd.R_drew HO_0.out)
         have n1_ := Aside0.mk (Kept.drew HK.out)
         have n2_ := Aside0.mk (below_drew1 HB.out)
         clear HO_0
         clear HK
         clear HB
         have HO_0 := n0_
         have HK := n1_
         have HB := n2_
         clear n0_ n1_ n2_
         obtain ⟨Ao43, co43, eo43⟩ := Kd.R_slice HO_0.out
         (first | subst eo43 | (injection eo43 with f1_ f2_ f3_; have f4_ := f1_.symm; have f5_ := f3_.symm; clear f1_ f2_ f3_; subst f4_; subst f5_))
         have p216 : 0 ≤ (a2 : Int) := of_decide_eq_true (by first | (with_reducible assumption) | assumption)
         have q216 : a2 < (l0.length : Int) := of_decide_eq_true (by first | (with_reducible assumption) | assumption)
         obtain ⟨ad216, e216, hx216_0, hx216_1, hx216_2, hx216_3, hx216_4⟩ := at_T50 (Kd.R_reads' HO_0.out).2.2 a2 p216 q216
         cases e216
         replace p216 := eq_true p216
         replace q216 := eq_true q216
         have p217 : 0 ≤ ((ji37) : Int) := of_decide_eq_true (by first | (with_reducible assumption) | assumption)
         have q217 : (ji37) < (l0.length : Int) := of_decide_eq_true (by first | (with_reducible assumption) | assumption)
         obtain ⟨ad217, e217, hx217_0, hx217_1, hx217_2, hx217_3, hx217_4⟩ := at_T50 (Kd.R_reads' HO_0.out).2.2 (ji37) p217 q217
         obtain rfl : ad216 = ad217 := (by injection e217)
         replace p217 := eq_true p217
         replace q217 := eq_true q217
         refine start_ (n := 12) (S := fun w' => w'.cell? (ad216.add ((a2).toNat * 5)) = some (.int .i64 ((rd_T50 l0 a2).f0)) ∧ w'.cell? ⟨(ad216.add ((a2).toNat * 5)).block, (ad216.add ((a2).toNat * 5)).off + 1, none⟩ = some (.int .i64 ((rd_T50 l0 a2).f1.f0)) ∧ w'.cell? ⟨(ad216.add ((a2).toNat * 5)).block, (ad216.add ((a2).toNat * 5)).off + 2, none⟩ = some (.int .i64 ((rd_T50 l0 a2).f1.f1)) ∧ w'.cell? ⟨(ad216.add ((a2).toNat * 5)).block, (ad216.add ((a2).toNat * 5)).off + 3, none⟩ = some (.int .i64 ((rd_T50 l0 a2).f1.f2)) ∧ w'.cell? ⟨(ad216.add ((a2).toNat * 5)).block, (ad216.add ((a2).toNat * 5)).off + 4, none⟩ = some (.int .i64 ((rd_T50 l0 a2).f1.f3)) ∧ w'.cell? (ad216.add (((ji37)).toNat * 5)) = some (.int .i64 ((rd_T50 l0 (ji37)).f0)) ∧ w'.cell? ⟨(ad216.add (((ji37)).toNat * 5)).block, (ad216.add (((ji37)).toNat * 5)).off + 1, none⟩ = some (.int .i64 ((rd_T50 l0 (ji37)).f1.f0)) ∧ w'.cell? ⟨(ad216.add (((ji37)).toNat * 5)).block, (ad216.add (((ji37)).toNat * 5)).off + 2, none⟩ = some (.int .i64 ((rd_T50 l0 (ji37)).f1.f1)) ∧ w'.cell? ⟨(ad216.add (((ji37)).toNat * 5)).block, (ad216.add (((ji37)).toNat * 5)).off + 3, none⟩ = some (.int .i64 ((rd_T50 l0 (ji37)).f1.f2)) ∧ w'.cell? ⟨(ad216.add (((ji37)).toNat * 5)).block, (ad216.add (((ji37)).toNat * 5)).off + 4, none⟩ = some (.int .i64 ((rd_T50 l0 (ji37)).f1.f3))) (ds := []) #[false, false, false, false, false, false, false, false, false, false, false, false] (by kernel_rfl) rfl rfl ⟨hx216_0, hx216_1, hx216_2, hx216_3, hx216_4, hx217_0, hx217_1, hx217_2, hx217_3, hx217_4⟩ (fun hHeld => ?_); refine with_tabW impl_Deep_78.tab17 impl_Deep_78.bits17 (fun HT_ HW_ => ?_)
         generalize wr.drew = w42 at HO_0 HK HB hx216_0 hx216_1 hx216_2 hx216_3 hx216_4 hx217_0 hx217_1 hx217_2 hx217_3 hx217_4 hHeld ⊢
         refine pure_ (i := 0) (N := some 92) (v := ?_) (a' := ?_) #[true, false, false, false, false, false, false, false, false, false, false, false] rfl rfl (any_of HT_.out (by kernel_rfl)) (fun _ _ _ h => h) (Or.inl ⟨by rfl, ?_⟩) ?_ ?_
         rotate_left
         ·intro w'
          go_simp
          with_reducible rfl
         rotate_left
         ·simp only [Act.put, u6a, u6b, u6c, i64_w, i32_w]
          rfl
         refine pure_ (i := 1) (N := some 93) (v := ?_) (a' := ?_) #[true, true, false, false, false, false, false, false, false, false, false, false] rfl rfl (any_of HT_.out (by kernel_rfl)) (fun _ _ _ h => h) (Or.inl ⟨by rfl, ?_⟩) ?_ ?_
         rotate_left
         ·intro w'
          go_simp
          with_reducible rfl
         rotate_left
         ·simp only [Act.put, u6a, u6b, u6c, i64_w, i32_w]
          rfl
         refine pure_ (i := 2) (N := some 94) (v := ?_) (a' := ?_) #[true, true, true, false, false, false, false, false, false, false, false, false] rfl rfl (any_of HT_.out (by kernel_rfl)) (fun _ _ _ h => h) (Or.inl ⟨by rfl, ?_⟩) ?_ ?_
         rotate_left
         ·intro w'
          go_simp
          with_reducible rfl
         rotate_left
         ·simp only [Act.put, u6a, u6b, u6c, i64_w, i32_w]
          rfl
         refine pure_ (i := 3) (N := some 95) (v := ?_) (a' := ?_) #[true, true, true, true, false, false, false, false, false, false, false, false] rfl rfl (any_of HT_.out (by kernel_rfl)) (fun _ _ _ h => h) (Or.inl ⟨by rfl, ?_⟩) ?_ ?_
         rotate_left
         ·intro w'
          go_simp
          with_reducible rfl
         rotate_left
         ·simp only [Act.put, u6a, u6b, u6c, i64_w, i32_w]
          rfl
         refine pure_ (i := 5) (N := some 97) (v := ?_) (a' := ?_) #[true, true, true, true, false, true, false, false, false, false, false, false] rfl rfl (any_of HT_.out (by kernel_rfl)) (fun _ _ _ h => h) (Or.inl ⟨by rfl, ?_⟩) ?_ ?_
         rotate_left
         ·intro w'
          go_simp
          with_reducible rfl
         rotate_left
         ·simp only [Act.put, u6a, u6b, u6c, i64_w, i32_w]
          rfl
         refine pure_ (i := 6) (N := some 98) (v := ?_) (a' := ?_) #[true, true, true, true, false, true, true, false, false, false, false, false] rfl rfl (any_of HT_.out (by kernel_rfl)) (fun _ _ _ h => h) (Or.inl ⟨by rfl, ?_⟩) ?_ ?_
         rotate_left
         ·intro w'
          go_simp
          with_reducible rfl
         rotate_left
         ·simp only [Act.put, u6a, u6b, u6c, i64_w, i32_w]
          rfl
         refine pure_ (i := 7) (N := some 99) (v := ?_) (a' := ?_) #[true, true, true, true, false, true, true, true, false, false, false, false] rfl rfl (any_of HT_.out (by kernel_rfl)) (fun _ _ _ h => h) (Or.inl ⟨by rfl, ?_⟩) ?_ ?_
         rotate_left
         ·intro w'
          go_simp
          with_reducible rfl
         rotate_left
         ·simp only [Act.put, u6a, u6b, u6c, i64_w, i32_w]
          rfl
         refine take_ (i := 4) (N := some 96) (v := ?_) (a' := ?_) #[true, true, true, true, true, true, true, true, false, false, false, false] rfl rfl (take_ofW HT_.out HW_.out (by kernel_rfl)) (fun _ _ _ h => h) (Or.inl ⟨by rfl, ?_⟩) hHeld ?_ ?_
         rotate_left
         ·rintro w' ⟨s0, s1, s2, s3, s4, s5, s6, s7, s8, s9⟩
          go_simp
          with_reducible rfl
         rotate_left
         ·simp only [Act.put, u6a, u6b, u6c, i64_w, i32_w]
          rfl
         refine take_ (i := 8) (N := some 100) (v := ?_) (a' := ?_) #[true, true, true, true, true, true, true, true, true, false, false, false] rfl rfl (take_ofW HT_.out HW_.out (by kernel_rfl)) (fun _ _ _ h => h) (Or.inl ⟨by rfl, ?_⟩) hHeld ?_ ?_
         rotate_left
         ·rintro w' ⟨s0, s1, s2, s3, s4, s5, s6, s7, s8, s9⟩
          go_simp
          with_reducible rfl
         rotate_left
         ·simp only [Act.put, u6a, u6b, u6c, i64_w, i32_w]
          rfl
         refine one_ (i := 9) (N := some 101) #[true, true, true, true, true, true, true, true, true, true, false, false] rfl rfl (one_of HT_.out (by kernel_rfl)) (by decide) (fun K hK => ?_)
         refine goesF_ ha4.out.body #[.agg #[.int .i64 ((rd_T50 l0 a2).f0), .int .i64 ((rd_T50 l0 a2).f1.f0), .int .i64 ((rd_T50 l0 a2).f1.f1), .int .i64 ((rd_T50 l0 a2).f1.f2), .int .i64 ((rd_T50 l0 a2).f1.f3)], .agg #[.int .i64 ((rd_T50 l0 (ji37)).f0), .int .i64 ((rd_T50 l0 (ji37)).f1.f0), .int .i64 ((rd_T50 l0 (ji37)).f1.f1), .int .i64 ((rd_T50 l0 (ji37)).f1.f2), .int .i64 ((rd_T50 l0 (ji37)).f1.f3)]] (by rfl) rfl rfl rfl (by (try simp only [List.map_toArray, List.map_cons, List.map_nil]); first | done | (simp only [hji37]; rfl) | rfl | (rw [← hji37]; rfl) | (simp only [List.length_drop, List.length_take]; rfl)) ?_
         with_reducible refine (GC.calls ha4.out ((rd_T50 l0 a2).f0) ((rd_T50 l0 a2).f1.f0) ((rd_T50 l0 a2).f1.f1) ((rd_T50 l0 a2).f1.f2) ((rd_T50 l0 a2).f1.f3) ((rd_T50 l0 (ji37)).f0) ((rd_T50 l0 (ji37)).f1.f0) ((rd_T50 l0 (ji37)).f1.f1) ((rd_T50 l0 (ji37)).f1.f2) ((rd_T50 l0 (ji37)).f1.f3) t218 _  A40.out).mono ?_
         rintro e w44 ⟨rfl, hb⟩
         have HS0_ := (hb.cell (u6d _ _ (hHeld.1))).trans (hHeld.1)
         have HS1_ := (hb.cell (u6d _ _ (hHeld.2.1))).trans (hHeld.2.1)
         have HS2_ := (hb.cell (u6d _ _ (hHeld.2.2.1))).trans (hHeld.2.2.1)
         have HS3_ := (hb.cell (u6d _ _ (hHeld.2.2.2.1))).trans (hHeld.2.2.2.1)
         have HS4_ := (hb.cell (u6d _ _ (hHeld.2.2.2.2.1))).trans (hHeld.2.2.2.2.1)
         have HS5_ := (hb.cell (u6d _ _ (hHeld.2.2.2.2.2.1))).trans (hHeld.2.2.2.2.2.1)
         have HS6_ := (hb.cell (u6d _ _ (hHeld.2.2.2.2.2.2.1))).trans (hHeld.2.2.2.2.2.2.1)
         have HS7_ := (hb.cell (u6d _ _ (hHeld.2.2.2.2.2.2.2.1))).trans (hHeld.2.2.2.2.2.2.2.1)
         have HS8_ := (hb.cell (u6d _ _ (hHeld.2.2.2.2.2.2.2.2.1))).trans (hHeld.2.2.2.2.2.2.2.2.1)
         have HS9_ := (hb.cell (u6d _ _ (hHeld.2.2.2.2.2.2.2.2.2))).trans (hHeld.2.2.2.2.2.2.2.2.2)
         refine ⟨_, rfl, ?_⟩
         have n0_ := Aside0.mk (Kd.R_below (by (with_reducible repeat (first | apply Kd.R_alloc | apply Kd.R_drewN | apply Kd.R_drew)); exact HO_0.out) hb)
         have n1_ := Aside0.mk (Kept.below (S := (fun k_ => P0_ k_)) (by repeat (first | (with_reducible first | exact HK.out | apply Kept.alloc | apply Kept.drewN | apply Kept.drew) | exact HK.out)) hb)
         have n2_ := Aside0.mk (below_step (by repeat (first | (with_reducible first | exact HB.out | apply below_alloc | apply pw_below_drewN | apply below_drew1) | exact HB.out)) hb)
         clear HO_0
         clear HK
         clear HB
         have HO_0 := n0_
         have HK := n1_
         have HB := n2_
         clear n0_ n1_ n2_
         (try clear hb)
         (try clear hb2)
         (try clear hk)
         (try clear hi)
         refine hK.out _ _ ⟨HS0_, HS1_, HS2_, HS3_, HS4_, HS5_, HS6_, HS7_, HS8_, HS9_⟩ (fun hHeld => ?_)
         clear hK K
         refine norm_ (a' := ?_) ?_ ?_
         rotate_left
         ·show Act.put _ (some 101) _ = _
          simp only [Act.put, u6a, u6b, u6c, i64_w, i32_w]
          rfl
         refine pure_ (i := 10) (N := some 102) (v := ?_) (a' := ?_) #[true, true, true, true, true, true, true, true, true, true, true, false] rfl rfl (any_of HT_.out (by kernel_rfl)) (fun _ _ _ h => h) (Or.inl ⟨by rfl, ?_⟩) ?_ ?_
         rotate_left
         ·intro w'
          go_simp
          with_reducible rfl
         rotate_left
         ·simp only [Act.put, u6a, u6b, u6c, i64_w, i32_w]
          rfl
         refine pure_ (i := 11) (N := some 103) (v := ?_) (a' := ?_) #[true, true, true, true, true, true, true, true, true, true, true, true] rfl rfl (any_of HT_.out (by kernel_rfl)) (fun _ _ _ h => h) (Or.inl ⟨by rfl, ?_⟩) ?_ ?_
         rotate_left
         ·intro w'
          go_simp
          with_reducible rfl
         rotate_left
         ·simp only [Act.put, u6a, u6b, u6c, i64_w, i32_w]
          rfl
         refine done_ (done_of HT_.out (by kernel_rfl)) ?_
         try go_wp2
         go_roundg k1
         case measure => have := HK1.out; omega
         case rel => exact ⟨(x14_1), (ji37), (by first | rfl | (simp; done) | (simp [*]; done)), (by first | rfl | (simp; done) | (simp only [← hji37] <;> (first | rfl | simp)) | (simp [*]; done)), H', ⟨by have := HK1.out; omega⟩, ⟨by (with_reducible repeat (first | apply Kd.R_alloc | apply Kd.R_drewN | apply Kd.R_drew)); exact HO_0.out⟩, ⟨by repeat (first | (with_reducible first | exact HK.out | apply Kept.alloc | apply Kept.drewN | apply Kept.drew) | exact HK.out)⟩, ⟨by repeat (first | (with_reducible first | exact HB.out | apply below_alloc | apply pw_below_drewN | apply below_drew1) | exact HB.out)⟩⟩
        ·rw [if_neg c41] at H
         have c41b0 : decide (t218 < 0) = false := decide_eq_false c41
         clear c41
         have H' := Aside0.mk H
         clear H
         try go_wp2
         have n0_ := Aside0.mk (Kd.R_drew HO_0.out)
         have n1_ := Aside0.mk (Kept.drew HK.out)
         have n2_ := Aside0.mk (below_drew1 HB.out)
         clear HO_0
         clear HK
         clear HB
         have HO_0 := n0_
         have HK := n1_
         have HB := n2_
         clear n0_ n1_ n2_
         obtain ⟨Ao46, co46, eo46⟩ := Kd.R_slice HO_0.out
         (first | subst eo46 | (injection eo46 with f1_ f2_ f3_; have f4_ := f1_.symm; have f5_ := f3_.symm; clear f1_ f2_ f3_; subst f4_; subst f5_))
         have p216 : 0 ≤ (a2 : Int) := of_decide_eq_true (by first | (with_reducible assumption) | assumption)
         have q216 : a2 < (l0.length : Int) := of_decide_eq_true (by first | (with_reducible assumption) | assumption)
         obtain ⟨ad216, e216, hx216_0, hx216_1, hx216_2, hx216_3, hx216_4⟩ := at_T50 (Kd.R_reads' HO_0.out).2.2 a2 p216 q216
         cases e216
         replace p216 := eq_true p216
         replace q216 := eq_true q216
         have p217 : 0 ≤ ((ji37) : Int) := of_decide_eq_true (by first | (with_reducible assumption) | assumption)
         have q217 : (ji37) < (l0.length : Int) := of_decide_eq_true (by first | (with_reducible assumption) | assumption)
         obtain ⟨ad217, e217, hx217_0, hx217_1, hx217_2, hx217_3, hx217_4⟩ := at_T50 (Kd.R_reads' HO_0.out).2.2 (ji37) p217 q217
         obtain rfl : ad216 = ad217 := (by injection e217)
         replace p217 := eq_true p217
         replace q217 := eq_true q217
         refine start_ (n := 12) (S := fun w' => w'.cell? (ad216.add ((a2).toNat * 5)) = some (.int .i64 ((rd_T50 l0 a2).f0)) ∧ w'.cell? ⟨(ad216.add ((a2).toNat * 5)).block, (ad216.add ((a2).toNat * 5)).off + 1, none⟩ = some (.int .i64 ((rd_T50 l0 a2).f1.f0)) ∧ w'.cell? ⟨(ad216.add ((a2).toNat * 5)).block, (ad216.add ((a2).toNat * 5)).off + 2, none⟩ = some (.int .i64 ((rd_T50 l0 a2).f1.f1)) ∧ w'.cell? ⟨(ad216.add ((a2).toNat * 5)).block, (ad216.add ((a2).toNat * 5)).off + 3, none⟩ = some (.int .i64 ((rd_T50 l0 a2).f1.f2)) ∧ w'.cell? ⟨(ad216.add ((a2).toNat * 5)).block, (ad216.add ((a2).toNat * 5)).off + 4, none⟩ = some (.int .i64 ((rd_T50 l0 a2).f1.f3)) ∧ w'.cell? (ad216.add (((ji37)).toNat * 5)) = some (.int .i64 ((rd_T50 l0 (ji37)).f0)) ∧ w'.cell? ⟨(ad216.add (((ji37)).toNat * 5)).block, (ad216.add (((ji37)).toNat * 5)).off + 1, none⟩ = some (.int .i64 ((rd_T50 l0 (ji37)).f1.f0)) ∧ w'.cell? ⟨(ad216.add (((ji37)).toNat * 5)).block, (ad216.add (((ji37)).toNat * 5)).off + 2, none⟩ = some (.int .i64 ((rd_T50 l0 (ji37)).f1.f1)) ∧ w'.cell? ⟨(ad216.add (((ji37)).toNat * 5)).block, (ad216.add (((ji37)).toNat * 5)).off + 3, none⟩ = some (.int .i64 ((rd_T50 l0 (ji37)).f1.f2)) ∧ w'.cell? ⟨(ad216.add (((ji37)).toNat * 5)).block, (ad216.add (((ji37)).toNat * 5)).off + 4, none⟩ = some (.int .i64 ((rd_T50 l0 (ji37)).f1.f3))) (ds := []) #[false, false, false, false, false, false, false, false, false, false, false, false] (by kernel_rfl) rfl rfl ⟨hx216_0, hx216_1, hx216_2, hx216_3, hx216_4, hx217_0, hx217_1, hx217_2, hx217_3, hx217_4⟩ (fun hHeld => ?_); refine with_tabW impl_Deep_78.tab17 impl_Deep_78.bits17 (fun HT_ HW_ => ?_)
         generalize wr.drew = w45 at HO_0 HK HB hx216_0 hx216_1 hx216_2 hx216_3 hx216_4 hx217_0 hx217_1 hx217_2 hx217_3 hx217_4 hHeld ⊢
         refine pure_ (i := 0) (N := some 92) (v := ?_) (a' := ?_) #[true, false, false, false, false, false, false, false, false, false, false, false] rfl rfl (any_of HT_.out (by kernel_rfl)) (fun _ _ _ h => h) (Or.inl ⟨by rfl, ?_⟩) ?_ ?_
         rotate_left
         ·intro w'
          go_simp
          with_reducible rfl
         rotate_left
         ·simp only [Act.put, u6a, u6b, u6c, i64_w, i32_w]
          rfl
         refine pure_ (i := 1) (N := some 93) (v := ?_) (a' := ?_) #[true, true, false, false, false, false, false, false, false, false, false, false] rfl rfl (any_of HT_.out (by kernel_rfl)) (fun _ _ _ h => h) (Or.inl ⟨by rfl, ?_⟩) ?_ ?_
         rotate_left
         ·intro w'
          go_simp
          with_reducible rfl
         rotate_left
         ·simp only [Act.put, u6a, u6b, u6c, i64_w, i32_w]
          rfl
         refine pure_ (i := 2) (N := some 94) (v := ?_) (a' := ?_) #[true, true, true, false, false, false, false, false, false, false, false, false] rfl rfl (any_of HT_.out (by kernel_rfl)) (fun _ _ _ h => h) (Or.inl ⟨by rfl, ?_⟩) ?_ ?_
         rotate_left
         ·intro w'
          go_simp
          with_reducible rfl
         rotate_left
         ·simp only [Act.put, u6a, u6b, u6c, i64_w, i32_w]
          rfl
         refine pure_ (i := 3) (N := some 95) (v := ?_) (a' := ?_) #[true, true, true, true, false, false, false, false, false, false, false, false] rfl rfl (any_of HT_.out (by kernel_rfl)) (fun _ _ _ h => h) (Or.inl ⟨by rfl, ?_⟩) ?_ ?_
         rotate_left
         ·intro w'
          go_simp
          with_reducible rfl
         rotate_left
         ·simp only [Act.put, u6a, u6b, u6c, i64_w, i32_w]
          rfl
         refine pure_ (i := 5) (N := some 97) (v := ?_) (a' := ?_) #[true, true, true, true, false, true, false, false, false, false, false, false] rfl rfl (any_of HT_.out (by kernel_rfl)) (fun _ _ _ h => h) (Or.inl ⟨by rfl, ?_⟩) ?_ ?_
         rotate_left
         ·intro w'
          go_simp
          with_reducible rfl
         rotate_left
         ·simp only [Act.put, u6a, u6b, u6c, i64_w, i32_w]
          rfl
         refine pure_ (i := 6) (N := some 98) (v := ?_) (a' := ?_) #[true, true, true, true, false, true, true, false, false, false, false, false] rfl rfl (any_of HT_.out (by kernel_rfl)) (fun _ _ _ h => h) (Or.inl ⟨by rfl, ?_⟩) ?_ ?_
         rotate_left
         ·intro w'
          go_simp
          with_reducible rfl
         rotate_left
         ·simp only [Act.put, u6a, u6b, u6c, i64_w, i32_w]
          rfl
         refine pure_ (i := 7) (N := some 99) (v := ?_) (a' := ?_) #[true, true, true, true, false, true, true, true, false, false, false, false] rfl rfl (any_of HT_.out (by kernel_rfl)) (fun _ _ _ h => h) (Or.inl ⟨by rfl, ?_⟩) ?_ ?_
         rotate_left
         ·intro w'
          go_simp
          with_reducible rfl
         rotate_left
         ·simp only [Act.put, u6a, u6b, u6c, i64_w, i32_w]
          rfl
         refine take_ (i := 4) (N := some 96) (v := ?_) (a' := ?_) #[true, true, true, true, true, true, true, true, false, false, false, false] rfl rfl (take_ofW HT_.out HW_.out (by kernel_rfl)) (fun _ _ _ h => h) (Or.inl ⟨by rfl, ?_⟩) hHeld ?_ ?_
         rotate_left
         ·rintro w' ⟨s0, s1, s2, s3, s4, s5, s6, s7, s8, s9⟩
          go_simp
          with_reducible rfl
         rotate_left
         ·simp only [Act.put, u6a, u6b, u6c, i64_w, i32_w]
          rfl
         refine take_ (i := 8) (N := some 100) (v := ?_) (a' := ?_) #[true, true, true, true, true, true, true, true, true, false, false, false] rfl rfl (take_ofW HT_.out HW_.out (by kernel_rfl)) (fun _ _ _ h => h) (Or.inl ⟨by rfl, ?_⟩) hHeld ?_ ?_
         rotate_left
         ·rintro w' ⟨s0, s1, s2, s3, s4, s5, s6, s7, s8, s9⟩
          go_simp
          with_reducible rfl
         rotate_left
         ·simp only [Act.put, u6a, u6b, u6c, i64_w, i32_w]
          rfl
         refine one_ (i := 9) (N := some 101) #[true, true, true, true, true, true, true, true, true, true, false, false] rfl rfl (one_of HT_.out (by kernel_rfl)) (by decide) (fun K hK => ?_)
         refine goesF_ ha4.out.body #[.agg #[.int .i64 ((rd_T50 l0 a2).f0), .int .i64 ((rd_T50 l0 a2).f1.f0), .int .i64 ((rd_T50 l0 a2).f1.f1), .int .i64 ((rd_T50 l0 a2).f1.f2), .int .i64 ((rd_T50 l0 a2).f1.f3)], .agg #[.int .i64 ((rd_T50 l0 (ji37)).f0), .int .i64 ((rd_T50 l0 (ji37)).f1.f0), .int .i64 ((rd_T50 l0 (ji37)).f1.f1), .int .i64 ((rd_T50 l0 (ji37)).f1.f2), .int .i64 ((rd_T50 l0 (ji37)).f1.f3)]] (by rfl) rfl rfl rfl (by (try simp only [List.map_toArray, List.map_cons, List.map_nil]); first | done | (simp only [hji37]; rfl) | rfl | (rw [← hji37]; rfl) | (simp only [List.length_drop, List.length_take]; rfl)) ?_
         with_reducible refine (GC.calls ha4.out ((rd_T50 l0 a2).f0) ((rd_T50 l0 a2).f1.f0) ((rd_T50 l0 a2).f1.f1) ((rd_T50 l0 a2).f1.f2) ((rd_T50 l0 a2).f1.f3) ((rd_T50 l0 (ji37)).f0) ((rd_T50 l0 (ji37)).f1.f0) ((rd_T50 l0 (ji37)).f1.f1) ((rd_T50 l0 (ji37)).f1.f2) ((rd_T50 l0 (ji37)).f1.f3) t218 _  A40.out).mono ?_
         rintro e w47 ⟨rfl, hb⟩
         have HS0_ := (hb.cell (u6d _ _ (hHeld.1))).trans (hHeld.1)
         have HS1_ := (hb.cell (u6d _ _ (hHeld.2.1))).trans (hHeld.2.1)
         have HS2_ := (hb.cell (u6d _ _ (hHeld.2.2.1))).trans (hHeld.2.2.1)
         have HS3_ := (hb.cell (u6d _ _ (hHeld.2.2.2.1))).trans (hHeld.2.2.2.1)
         have HS4_ := (hb.cell (u6d _ _ (hHeld.2.2.2.2.1))).trans (hHeld.2.2.2.2.1)
         have HS5_ := (hb.cell (u6d _ _ (hHeld.2.2.2.2.2.1))).trans (hHeld.2.2.2.2.2.1)
         have HS6_ := (hb.cell (u6d _ _ (hHeld.2.2.2.2.2.2.1))).trans (hHeld.2.2.2.2.2.2.1)
         have HS7_ := (hb.cell (u6d _ _ (hHeld.2.2.2.2.2.2.2.1))).trans (hHeld.2.2.2.2.2.2.2.1)
         have HS8_ := (hb.cell (u6d _ _ (hHeld.2.2.2.2.2.2.2.2.1))).trans (hHeld.2.2.2.2.2.2.2.2.1)
         have HS9_ := (hb.cell (u6d _ _ (hHeld.2.2.2.2.2.2.2.2.2))).trans (hHeld.2.2.2.2.2.2.2.2.2)
         refine ⟨_, rfl, ?_⟩
         have n0_ := Aside0.mk (Kd.R_below (by (with_reducible repeat (first | apply Kd.R_alloc | apply Kd.R_drewN | apply Kd.R_drew)); exact HO_0.out) hb)
         have n1_ := Aside0.mk (Kept.below (S := (fun k_ => P0_ k_)) (by repeat (first | (with_reducible first | exact HK.out | apply Kept.alloc | apply Kept.drewN | apply Kept.drew) | exact HK.out)) hb)
         have n2_ := Aside0.mk (below_step (by repeat (first | (with_reducible first | exact HB.out | apply below_alloc | apply pw_below_drewN | apply below_drew1) | exact HB.out)) hb)
         clear HO_0
         clear HK
         clear HB
         have HO_0 := n0_
         have HK := n1_
         have HB := n2_
         clear n0_ n1_ n2_
         (try clear hb)
         (try clear hb2)
         (try clear hk)
         (try clear hi)
         refine hK.out _ _ ⟨HS0_, HS1_, HS2_, HS3_, HS4_, HS5_, HS6_, HS7_, HS8_, HS9_⟩ (fun hHeld => ?_)
         clear hK K
         refine norm_ (a' := ?_) ?_ ?_
         rotate_left
         ·show Act.put _ (some 101) _ = _
          simp only [Act.put, u6a, u6b, u6c, i64_w, i32_w]
          rfl
         refine pure_ (i := 10) (N := some 102) (v := ?_) (a' := ?_) #[true, true, true, true, true, true, true, true, true, true, true, false] rfl rfl (any_of HT_.out (by kernel_rfl)) (fun _ _ _ h => h) (Or.inl ⟨by rfl, ?_⟩) ?_ ?_
         rotate_left
         ·intro w'
          go_simp
          with_reducible rfl
         rotate_left
         ·simp only [Act.put, u6a, u6b, u6c, i64_w, i32_w]
          rfl
         refine pure_ (i := 11) (N := some 103) (v := ?_) (a' := ?_) #[true, true, true, true, true, true, true, true, true, true, true, true] rfl rfl (any_of HT_.out (by kernel_rfl)) (fun _ _ _ h => h) (Or.inl ⟨by rfl, ?_⟩) ?_ ?_
         rotate_left
         ·intro w'
          go_simp
          with_reducible rfl
         rotate_left
         ·simp only [Act.put, u6a, u6b, u6c, i64_w, i32_w]
          rfl
         refine done_ (done_of HT_.out (by kernel_rfl)) ?_
         try go_wp2
         go_roundg k1
         case measure => have := HK1.out; omega
         case rel => exact ⟨(wrap64 ((ji37) + 1)), (x15_1), (by first | rfl | (simp; done) | (simp only [← hji37] <;> (first | rfl | simp)) | (simp [*]; done)), (by first | rfl | (simp; done) | (simp [*]; done)), H', ⟨by have := HK1.out; omega⟩, ⟨by (with_reducible repeat (first | apply Kd.R_alloc | apply Kd.R_drewN | apply Kd.R_drew)); exact HO_0.out⟩, ⟨by repeat (first | (with_reducible first | exact HK.out | apply Kept.alloc | apply Kept.drewN | apply Kept.drew) | exact HK.out)⟩, ⟨by repeat (first | (with_reducible first | exact HB.out | apply below_alloc | apply pw_below_drewN | apply below_drew1) | exact HB.out)⟩⟩
       ·rw [if_neg c39] at H
        exact absurd H (by simp)
      ·rw [if_neg c38] at H
       exact absurd H (by simp)
     ·rw [if_neg c36] at H
      exact absurd H (by simp)
    ·rw [if_neg c35] at H
     exact absurd H (by simp)
   ·rw [if_neg c34] at H
    have c34b0 : decide (x14_1 < x15_1) = false := decide_eq_false c34
    clear c34
    have H' := Aside0.mk H
    clear H
    go_wp2
    go_loopg [17] k1 (fun kq v17 w' => ∃ (x0_2 : List (S50)) (x17_2 : Int), v17 = .int .i64 x17_2 ∧ Aside0 (impl_Deep_78.l3 kq x0_2 x14_1 x17_2 = some r) ∧ Aside0 (kq ≤ k1) ∧ Aside0 (Kd.R k50 50 w' w0.heap.size (fun k_ => (P0_ k_ ∨ w.heap.size ≤ k_)) u9000_ x0_2) ∧ Aside0 (Kept w w' (fun k_ => P0_ k_)) ∧ Aside0 (Below w0.heap.size w0 w'))
    case atStart => exact ⟨(l0), (a2), (by first | rfl | (simp; done) | (simp [*]; done)), H', ⟨Nat.le_refl _⟩, ⟨by (with_reducible repeat (first | apply Kd.R_alloc | apply Kd.R_drewN | apply Kd.R_drew)); exact HO_0.out⟩, ⟨by repeat (first | (with_reducible first | exact HK.out | apply Kept.alloc | apply Kept.drewN | apply Kept.drew) | exact HK.out)⟩, ⟨by repeat (first | (with_reducible first | exact HB.out | apply below_alloc | apply pw_below_drewN | apply below_drew1) | exact HB.out)⟩⟩
    case round =>
     clear H'
     try clear c6
     try clear c6b0
     try clear c6b1
     try clear c7
     try clear c7b0
     try clear c9
     try clear c9b0
     try clear c10
     try clear c10b0
     try clear c11
     try clear c11b0
     try clear c12
     try clear c12b0
     try clear c14
     try clear c14b0
     try clear c21
     try clear c21b0
     try clear c23
     try clear c23b0
     try clear c24
     try clear c24b0
     try clear c25
     try clear c25b0
     try clear c26
     try clear c26b0
     try clear p27
     try clear q27
     try clear p28
     try clear q28
     try clear c33
     try clear c33b0
     try clear c33b1
     try clear c34
     try clear c34b0
     try clear c35
     try clear c35b0
     try clear c36
     try clear c36b0
     try clear c38
     try clear c38b0
     try clear c39
     try clear c39b0
     try clear c41
     try clear c41b0
     try clear hx209_0
     try clear hx209_1
     try clear hx209_2
     try clear hx209_3
     try clear hx209_4
     try clear hx210_0
     try clear hx210_1
     try clear hx210_2
     try clear hx210_3
     try clear hx210_4
     try clear hx212_0
     try clear hx212_1
     try clear hx212_2
     try clear hx212_3
     try clear hx212_4
     try clear hx213_0
     try clear hx213_1
     try clear hx213_2
     try clear hx213_3
     try clear hx213_4
     try clear hx216_0
     try clear hx216_1
     try clear hx216_2
     try clear hx216_3
     try clear hx216_4
     try clear hx217_0
     try clear hx217_1
     try clear hx217_2
     try clear hx217_3
     try clear hx217_4
     try clear hx27_0
     try clear hx27_1
     try clear hx27_2
     try clear hx27_3
     try clear hx27_4
     try clear hx28_0
     try clear hx28_1
     try clear hx28_2
     try clear hx28_3
     try clear hx28_4
     try clear p209
     try clear p210
     try clear p212
     try clear p213
     try clear p216
     try clear p217
     try clear p27
     try clear p28
     try clear q209
     try clear q210
     try clear q212
     try clear q213
     try clear q216
     try clear q217
     try clear q27
     try clear q28
     obtain ⟨x0_2, x17_2, rfl, HA, HK2, HO_0, HK, HB⟩ := hrel
     cases gk with
     | zero => exact absurd HA.out (by simp [impl_Deep_78.l3])
     | succ k2 =>
      have H := HA.out
      clear HA
      simp only [impl_Deep_78.l3] at H
      by_cases c48 : x17_2 > x14_1
      ·rw [if_pos c48] at H
       have c48b0 : decide (x14_1 < x17_2) = true := decide_eq_true c48
       clear c48
       obtain ⟨ji49, hji49⟩ : ∃ j_ : Int, (wrap64 (x17_2 - 1)) = j_ := ⟨_, rfl⟩
       replace H : (if 0 ≤ (ji49) then (if (ji49) < (x0_2.length : Int) then (if 0 ≤ x17_2 then (if x17_2 < (x0_2.length : Int) then (impl_Deep_78.l3 k2 ((x0_2.set (x17_2 : Int).toNat (⟨(rd_T50 x0_2 (ji49)).f0, (⟨(rd_T50 x0_2 (ji49)).f1.f0, (rd_T50 x0_2 (ji49)).f1.f1, (rd_T50 x0_2 (ji49)).f1.f2, (rd_T50 x0_2 (ji49)).f1.f3⟩ : S35)⟩ : S50)).set ((ji49) : Int).toNat (⟨(rd_T50 x0_2 x17_2).f0, (⟨(rd_T50 x0_2 x17_2).f1.f0, (rd_T50 x0_2 x17_2).f1.f1, (rd_T50 x0_2 x17_2).f1.f2, (rd_T50 x0_2 x17_2).f1.f3⟩ : S35)⟩ : S50)) x14_1 ji49) else (none)) else (none)) else (none)) else (none)) = some r := by first | (rw [hji49] at H; exact H) | (simp only [hji49] at H ⊢; exact H)
       have hji49w : (IntKind.i64.wrap (x17_2 - 1)) = ji49 := (i64_w _).trans hji49
       by_cases c50 : 0 ≤ (ji49)
       ·rw [if_pos c50] at H
        have c50b0 : decide (0 ≤ (ji49)) = true := decide_eq_true c50
        clear c50
        by_cases c51 : (ji49) < (x0_2.length : Int)
        ·rw [if_pos c51] at H
         have c51b0 : decide ((ji49) < (x0_2.length : Int)) = true := decide_eq_true c51
         clear c51
         by_cases c52 : 0 ≤ x17_2
         ·rw [if_pos c52] at H
          have c52b0 : decide (0 ≤ x17_2) = true := decide_eq_true c52
          clear c52
          by_cases c53 : x17_2 < (x0_2.length : Int)
          ·rw [if_pos c53] at H
           have c53b0 : decide (x17_2 < (x0_2.length : Int)) = true := decide_eq_true c53
           clear c53
           obtain ⟨y221, hy221⟩ : ∃ y_ : List (S50), y_ = (x0_2.set (x17_2 : Int).toNat (⟨(rd_T50 x0_2 (ji49)).f0, (⟨(rd_T50 x0_2 (ji49)).f1.f0, (rd_T50 x0_2 (ji49)).f1.f1, (rd_T50 x0_2 (ji49)).f1.f2, (rd_T50 x0_2 (ji49)).f1.f3⟩ : S35)⟩ : S50)) := ⟨_, rfl⟩
           replace H : (impl_Deep_78.l3 k2 (y221.set ((ji49) : Int).toNat (⟨(rd_T50 x0_2 x17_2).f0, (⟨(rd_T50 x0_2 x17_2).f1.f0, (rd_T50 x0_2 x17_2).f1.f1, (rd_T50 x0_2 x17_2).f1.f2, (rd_T50 x0_2 x17_2).f1.f3⟩ : S35)⟩ : S50)) x14_1 ji49) = some r := by first | (rw [hy221]; with_reducible exact H) | (have H2_ := (Option.bind_some _ _).symm.trans H; rw [hy221]; with_reducible exact H2_) | (have H2_ := (Option.bind_some _ _).symm.trans H; with_reducible exact H2_) | with_reducible exact H | (rw [hy221]; exact H) | exact H
           have Ny221 := Aside0.mk hy221
           clear hy221
           obtain ⟨y222, hy222⟩ : ∃ y_ : List (S50), y_ = (y221.set ((ji49) : Int).toNat (⟨(rd_T50 x0_2 x17_2).f0, (⟨(rd_T50 x0_2 x17_2).f1.f0, (rd_T50 x0_2 x17_2).f1.f1, (rd_T50 x0_2 x17_2).f1.f2, (rd_T50 x0_2 x17_2).f1.f3⟩ : S35)⟩ : S50)) := ⟨_, rfl⟩
           replace H : (impl_Deep_78.l3 k2 y222 x14_1 ji49) = some r := by first | (rw [hy222]; with_reducible exact H) | (have H2_ := (Option.bind_some _ _).symm.trans H; rw [hy222]; with_reducible exact H2_) | (have H2_ := (Option.bind_some _ _).symm.trans H; with_reducible exact H2_) | with_reducible exact H | (rw [hy222]; exact H) | exact H
           have Ny222 := Aside0.mk hy222
           clear hy222
           have H' := Aside0.mk H
           clear H
           try go_wp2
           have n0_ := Aside0.mk (Kd.R_drew HO_0.out)
           have n1_ := Aside0.mk (Kept.drew HK.out)
           have n2_ := Aside0.mk (below_drew1 HB.out)
           clear HO_0
           clear HK
           clear HB
           have HO_0 := n0_
           have HK := n1_
           have HB := n2_
           clear n0_ n1_ n2_
           obtain ⟨Ao57, co57, eo57⟩ := Kd.R_slice HO_0.out
           (first | subst eo57 | (injection eo57 with f1_ f2_ f3_; have f4_ := f1_.symm; have f5_ := f3_.symm; clear f1_ f2_ f3_; subst f4_; subst f5_))
           have p219 : 0 ≤ ((ji49) : Int) := of_decide_eq_true (by first | (with_reducible assumption) | assumption)
           have q219 : (ji49) < (x0_2.length : Int) := of_decide_eq_true (by first | (with_reducible assumption) | assumption)
           obtain ⟨ad219, e219, hx219_0, hx219_1, hx219_2, hx219_3, hx219_4⟩ := at_T50 (Kd.R_reads' HO_0.out).2.2 (ji49) p219 q219
           cases e219
           replace p219 := eq_true p219
           replace q219 := eq_true q219
           have p220 : 0 ≤ (x17_2 : Int) := of_decide_eq_true (by first | (with_reducible assumption) | assumption)
           have q220 : x17_2 < (x0_2.length : Int) := of_decide_eq_true (by first | (with_reducible assumption) | assumption)
           obtain ⟨ad220, e220, hx220_0, hx220_1, hx220_2, hx220_3, hx220_4⟩ := at_T50 (Kd.R_reads' HO_0.out).2.2 x17_2 p220 q220
           obtain rfl : ad219 = ad220 := (by injection e220)
           replace p220 := eq_true p220
           replace q220 := eq_true q220
           have p54 : 0 ≤ (x17_2 : Int) := of_decide_eq_true (by first | (with_reducible assumption) | assumption)
           have q54 : (x17_2 : Int) < ((x0_2.length : Int) : Int) := of_decide_eq_true (by first | (with_reducible assumption) | assumption)
           obtain ⟨go54, co54, eo54, gb54, gl54, cl54, HG54⟩ := Kd.R_form HO_0.out (by omega)
           (first | cases eo54 | (injection eo54 with ea_ en_ ec_; (first | subst ea_ | (injection ea_ with ea_; subst ea_)); subst ec_; clear en_))
           have GB54 := Aside0.mk gb54
           have GG54 := Aside0.mk HG54
           clear gb54 gl54 HG54
           have HMgo54 := Aside0.mk (show (P0_ go54 ∨ w.heap.size ≤ go54) from (HO_0.out.1 _ rfl))
           (first | simp only [add_plain] at hx219_0 | skip)
           (first | simp only [add_plain] at hx219_1 | skip)
           (first | simp only [add_plain] at hx219_2 | skip)
           (first | simp only [add_plain] at hx219_3 | skip)
           (first | simp only [add_plain] at hx219_4 | skip)
           (first | simp only [add_plain] at hx220_0 | skip)
           (first | simp only [add_plain] at hx220_1 | skip)
           (first | simp only [add_plain] at hx220_2 | skip)
           (first | simp only [add_plain] at hx220_3 | skip)
           (first | simp only [add_plain] at hx220_4 | skip)
           obtain ⟨ce54, hcl54, hM54, hcc54, hfr54⟩ := Kd.R_elem HO_0.out z50 (x17_2 : Int) p54 q54
           obtain rfl := k50_openM hM54
           have hx54_0 : World.cell? _ ⟨go54, (x17_2 : Int).toNat * 5, none⟩ = some (.int .i64 ((rd_T50 x0_2 x17_2).f0)) := hcc54 0 _ rfl
           have hx54_1 : World.cell? _ ⟨go54, (x17_2 : Int).toNat * 5 + 1, none⟩ = some (.int .i64 ((rd_T50 x0_2 x17_2).f1.f0)) := hcc54 1 _ rfl
           have hx54_2 : World.cell? _ ⟨go54, (x17_2 : Int).toNat * 5 + 2, none⟩ = some (.int .i64 ((rd_T50 x0_2 x17_2).f1.f1)) := hcc54 2 _ rfl
           have hx54_3 : World.cell? _ ⟨go54, (x17_2 : Int).toNat * 5 + 3, none⟩ = some (.int .i64 ((rd_T50 x0_2 x17_2).f1.f2)) := hcc54 3 _ rfl
           have hx54_4 : World.cell? _ ⟨go54, (x17_2 : Int).toNat * 5 + 4, none⟩ = some (.int .i64 ((rd_T50 x0_2 x17_2).f1.f3)) := hcc54 4 _ rfl
           have hf54_0 : World.frozen? _ ⟨go54, (x17_2 : Int).toNat * 5, none⟩ = false := hfr54 0
           have hf54_1 : World.frozen? _ ⟨go54, (x17_2 : Int).toNat * 5 + 1, none⟩ = false := hfr54 1
           have hf54_2 : World.frozen? _ ⟨go54, (x17_2 : Int).toNat * 5 + 2, none⟩ = false := hfr54 2
           have hf54_3 : World.frozen? _ ⟨go54, (x17_2 : Int).toNat * 5 + 3, none⟩ = false := hfr54 3
           have hf54_4 : World.frozen? _ ⟨go54, (x17_2 : Int).toNat * 5 + 4, none⟩ = false := hfr54 4
           clear hcl54 hcc54 hfr54 hM54
           replace p54 := eq_true p54
           replace q54 := eq_true q54
           obtain ⟨ce58, hcl58, hM58, hcc58, hfr58⟩ := Kd.R_elem HO_0.out z50 (x17_2 : Int) (of_decide_eq_true (by first | (with_reducible assumption) | assumption)) (by have h_ : (x17_2 : Int) < ((x0_2.length : Int) : Int) := of_decide_eq_true (by first | (with_reducible assumption) | assumption); first | exact h_ | (have e_ := (Kd.R_reads' HO_0.out).1; omega) | simpa using h_)
           obtain rfl := k50_openM hM58
           have HP58 := (Kd.R_seg HO_0.out (x17_2 : Int) (of_decide_eq_true (by first | (with_reducible assumption) | assumption)) (by have h_ : (x17_2 : Int) < ((x0_2.length : Int) : Int) := of_decide_eq_true (by first | (with_reducible assumption) | assumption); first | exact h_ | (have e_ := (Kd.R_reads' HO_0.out).1; omega) | simpa using h_) (seg := [.int .i64 ((rd_T50 x0_2 (ji49)).f0), .int .i64 ((rd_T50 x0_2 (ji49)).f1.f0), .int .i64 ((rd_T50 x0_2 (ji49)).f1.f1), .int .i64 ((rd_T50 x0_2 (ji49)).f1.f2), .int .i64 ((rd_T50 x0_2 (ji49)).f1.f3)]) (j := 0) hcl58 hcc58 (show 5 ≤ 5 from by decide) (x' := (⟨(rd_T50 x0_2 (ji49)).f0, (⟨(rd_T50 x0_2 (ji49)).f1.f0, (rd_T50 x0_2 (ji49)).f1.f1, (rd_T50 x0_2 (ji49)).f1.f2, (rd_T50 x0_2 (ji49)).f1.f3⟩ : S35)⟩ : S50)) (k50_mkM _ _ _ (⟨(rd_T50 x0_2 (ji49)).f0, (⟨(rd_T50 x0_2 (ji49)).f1.f0, (rd_T50 x0_2 (ji49)).f1.f1, (rd_T50 x0_2 (ji49)).f1.f2, (rd_T50 x0_2 (ji49)).f1.f3⟩ : S35)⟩ : S50) ) (fun _ hk => hk)).1
           rw [← Ny221.out] at HP58
           have HQ58 := Aside0.mk HP58
           clear hcl58 hcc58 hfr58 hM58 HP58
           have p55 : 0 ≤ ((ji49) : Int) := of_decide_eq_true (by first | (with_reducible assumption) | assumption)
           have q55 : ((ji49) : Int) < ((x0_2.length : Int) : Int) := of_decide_eq_true (by first | (with_reducible assumption) | assumption)
           obtain ⟨ce55, hcl55, hM55, hcc55, hfr55⟩ := Kd.R_elem HQ58.out z50 ((ji49) : Int) p55 q55
           obtain rfl := k50_openM hM55
           have hx55_0 : World.cell? _ ⟨go54, ((ji49) : Int).toNat * 5, none⟩ = some (.int .i64 ((rd_T50 y221 (ji49)).f0)) := hcc55 0 _ rfl
           have hx55_1 : World.cell? _ ⟨go54, ((ji49) : Int).toNat * 5 + 1, none⟩ = some (.int .i64 ((rd_T50 y221 (ji49)).f1.f0)) := hcc55 1 _ rfl
           have hx55_2 : World.cell? _ ⟨go54, ((ji49) : Int).toNat * 5 + 2, none⟩ = some (.int .i64 ((rd_T50 y221 (ji49)).f1.f1)) := hcc55 2 _ rfl
           have hx55_3 : World.cell? _ ⟨go54, ((ji49) : Int).toNat * 5 + 3, none⟩ = some (.int .i64 ((rd_T50 y221 (ji49)).f1.f2)) := hcc55 3 _ rfl
           have hx55_4 : World.cell? _ ⟨go54, ((ji49) : Int).toNat * 5 + 4, none⟩ = some (.int .i64 ((rd_T50 y221 (ji49)).f1.f3)) := hcc55 4 _ rfl
           have hf55_0 : World.frozen? _ ⟨go54, ((ji49) : Int).toNat * 5, none⟩ = false := hfr55 0
           have hf55_1 : World.frozen? _ ⟨go54, ((ji49) : Int).toNat * 5 + 1, none⟩ = false := hfr55 1
           have hf55_2 : World.frozen? _ ⟨go54, ((ji49) : Int).toNat * 5 + 2, none⟩ = false := hfr55 2
           have hf55_3 : World.frozen? _ ⟨go54, ((ji49) : Int).toNat * 5 + 3, none⟩ = false := hfr55 3
           have hf55_4 : World.frozen? _ ⟨go54, ((ji49) : Int).toNat * 5 + 4, none⟩ = false := hfr55 4
           clear hcl55 hcc55 hfr55 hM55
           replace p55 := eq_true p55
           replace q55 := eq_true q55
           obtain ⟨ce59, hcl59, hM59, hcc59, hfr59⟩ := Kd.R_elem HQ58.out z50 ((ji49) : Int) (of_decide_eq_true (by first | (with_reducible assumption) | assumption)) (by have h_ : ((ji49) : Int) < ((x0_2.length : Int) : Int) := of_decide_eq_true (by first | (with_reducible assumption) | assumption); first | exact h_ | (have e_ := (Kd.R_reads' HO_0.out).1; omega) | simpa using h_)
           obtain rfl := k50_openM hM59
           have HP59 := (Kd.R_seg HQ58.out ((ji49) : Int) (of_decide_eq_true (by first | (with_reducible assumption) | assumption)) (by have h_ : ((ji49) : Int) < ((x0_2.length : Int) : Int) := of_decide_eq_true (by first | (with_reducible assumption) | assumption); first | exact h_ | (have e_ := (Kd.R_reads' HO_0.out).1; omega) | simpa using h_) (seg := [.int .i64 ((rd_T50 x0_2 x17_2).f0), .int .i64 ((rd_T50 x0_2 x17_2).f1.f0), .int .i64 ((rd_T50 x0_2 x17_2).f1.f1), .int .i64 ((rd_T50 x0_2 x17_2).f1.f2), .int .i64 ((rd_T50 x0_2 x17_2).f1.f3)]) (j := 0) hcl59 hcc59 (show 5 ≤ 5 from by decide) (x' := (⟨(rd_T50 x0_2 x17_2).f0, (⟨(rd_T50 x0_2 x17_2).f1.f0, (rd_T50 x0_2 x17_2).f1.f1, (rd_T50 x0_2 x17_2).f1.f2, (rd_T50 x0_2 x17_2).f1.f3⟩ : S35)⟩ : S50)) (k50_mkM _ _ _ (⟨(rd_T50 x0_2 x17_2).f0, (⟨(rd_T50 x0_2 x17_2).f1.f0, (rd_T50 x0_2 x17_2).f1.f1, (rd_T50 x0_2 x17_2).f1.f2, (rd_T50 x0_2 x17_2).f1.f3⟩ : S35)⟩ : S50) ) (fun _ hk => hk)).1
           rw [← Ny222.out] at HP59
           have HQ59 := Aside0.mk HP59
           clear hcl59 hcc59 hfr59 hM59 HP59
           refine start_ (n := 18) (S := fun w' => w'.cell? ⟨go54, ((ji49)).toNat * 5, none⟩ = some (.int .i64 ((rd_T50 x0_2 (ji49)).f0)) ∧ w'.cell? ⟨go54, ((ji49)).toNat * 5 + 1, none⟩ = some (.int .i64 ((rd_T50 x0_2 (ji49)).f1.f0)) ∧ w'.cell? ⟨go54, ((ji49)).toNat * 5 + 2, none⟩ = some (.int .i64 ((rd_T50 x0_2 (ji49)).f1.f1)) ∧ w'.cell? ⟨go54, ((ji49)).toNat * 5 + 3, none⟩ = some (.int .i64 ((rd_T50 x0_2 (ji49)).f1.f2)) ∧ w'.cell? ⟨go54, ((ji49)).toNat * 5 + 4, none⟩ = some (.int .i64 ((rd_T50 x0_2 (ji49)).f1.f3)) ∧ w'.cell? ⟨go54, ((x17_2).toNat * 5), none⟩ = some (.int .i64 ((rd_T50 x0_2 x17_2).f0)) ∧ w'.cell? ⟨go54, ((x17_2).toNat * 5) + 1, none⟩ = some (.int .i64 ((rd_T50 x0_2 x17_2).f1.f0)) ∧ w'.cell? ⟨go54, ((x17_2).toNat * 5) + 2, none⟩ = some (.int .i64 ((rd_T50 x0_2 x17_2).f1.f1)) ∧ w'.cell? ⟨go54, ((x17_2).toNat * 5) + 3, none⟩ = some (.int .i64 ((rd_T50 x0_2 x17_2).f1.f2)) ∧ w'.cell? ⟨go54, ((x17_2).toNat * 5) + 4, none⟩ = some (.int .i64 ((rd_T50 x0_2 x17_2).f1.f3))) (ds := [15, 17]) #[false, false, false, false, false, false, false, false, false, false, false, false, false, false, false, false, false, false] (by kernel_rfl) rfl rfl ⟨hx219_0, hx219_1, hx219_2, hx219_3, hx219_4, hx220_0, hx220_1, hx220_2, hx220_3, hx220_4⟩ (fun hHeld => ?_); refine with_tabW impl_Deep_78.tab23 impl_Deep_78.bits23 (fun HT_ HW_ => ?_)
           generalize wr.drew = w56 at HO_0 HK HB GG54 HQ58 HQ59 hf54_0 hf54_1 hf54_2 hf54_3 hf54_4 hf55_0 hf55_1 hf55_2 hf55_3 hf55_4 hx219_0 hx219_1 hx219_2 hx219_3 hx219_4 hx220_0 hx220_1 hx220_2 hx220_3 hx220_4 hx54_0 hx54_1 hx54_2 hx54_3 hx54_4 hx55_0 hx55_1 hx55_2 hx55_3 hx55_4 hHeld ⊢
           refine pure_ (i := 0) (N := some 113) (v := ?_) (a' := ?_) #[true, false, false, false, false, false, false, false, false, false, false, false, false, false, false, false, false, false] rfl rfl (any_of HT_.out (by kernel_rfl)) (fun _ _ _ h => h) (Or.inl ⟨by rfl, ?_⟩) ?_ ?_
           rotate_left
           ·intro w'
            go_simp
            with_reducible rfl
           rotate_left
           ·simp only [Act.put, u6a, u6b, u6c, i64_w, i32_w]
            rfl
           refine pure_ (i := 1) (N := some 114) (v := ?_) (a' := ?_) #[true, true, false, false, false, false, false, false, false, false, false, false, false, false, false, false, false, false] rfl rfl (any_of HT_.out (by kernel_rfl)) (fun _ _ _ h => h) (Or.inl ⟨by rfl, ?_⟩) ?_ ?_
           rotate_left
           ·intro w'
            go_simp
            with_reducible rfl
           rotate_left
           ·simp only [Act.put, u6a, u6b, u6c, i64_w, i32_w]
            rfl
           refine pure_ (i := 2) (N := some 115) (v := ?_) (a' := ?_) #[true, true, true, false, false, false, false, false, false, false, false, false, false, false, false, false, false, false] rfl rfl (any_of HT_.out (by kernel_rfl)) (fun _ _ _ h => h) (Or.inl ⟨by rfl, ?_⟩) ?_ ?_
           rotate_left
           ·intro w'
            go_simp
            with_reducible rfl
           rotate_left
           ·simp only [Act.put, u6a, u6b, u6c, i64_w, i32_w]
            rfl
           refine pure_ (i := 3) (N := some 116) (v := ?_) (a' := ?_) #[true, true, true, true, false, false, false, false, false, false, false, false, false, false, false, false, false, false] rfl rfl (any_of HT_.out (by kernel_rfl)) (fun _ _ _ h => h) (Or.inl ⟨by rfl, ?_⟩) ?_ ?_
           rotate_left
           ·intro w'
            go_simp
            with_reducible rfl
           rotate_left
           ·simp only [Act.put, u6a, u6b, u6c, i64_w, i32_w]
            rfl
           refine pure_ (i := 4) (N := some 117) (v := ?_) (a' := ?_) #[true, true, true, true, true, false, false, false, false, false, false, false, false, false, false, false, false, false] rfl rfl (any_of HT_.out (by kernel_rfl)) (fun _ _ _ h => h) (Or.inl ⟨by rfl, ?_⟩) ?_ ?_
           rotate_left
           ·intro w'
            go_simp
            with_reducible rfl
           rotate_left
           ·simp only [Act.put, u6a, u6b, u6c, i64_w, i32_w]
            rfl
           refine pure_ (i := 5) (N := some 118) (v := ?_) (a' := ?_) #[true, true, true, true, true, true, false, false, false, false, false, false, false, false, false, false, false, false] rfl rfl (any_of HT_.out (by kernel_rfl)) (fun _ _ _ h => h) (Or.inl ⟨by rfl, ?_⟩) ?_ ?_
           rotate_left
           ·intro w'
            go_simp
            with_reducible rfl
           rotate_left
           ·simp only [Act.put, u6a, u6b, u6c, i64_w, i32_w]
            rfl
           refine pure_ (i := 6) (N := some 119) (v := ?_) (a' := ?_) #[true, true, true, true, true, true, true, false, false, false, false, false, false, false, false, false, false, false] rfl rfl (any_of HT_.out (by kernel_rfl)) (fun _ _ _ h => h) (Or.inl ⟨by rfl, ?_⟩) ?_ ?_
           rotate_left
           ·intro w'
            go_simp
            with_reducible rfl
           rotate_left
           ·simp only [Act.put, u6a, u6b, u6c, i64_w, i32_w]
            rfl
           refine pure_ (i := 7) (N := some 120) (v := ?_) (a' := ?_) #[true, true, true, true, true, true, true, true, false, false, false, false, false, false, false, false, false, false] rfl rfl (any_of HT_.out (by kernel_rfl)) (fun _ _ _ h => h) (Or.inl ⟨by rfl, ?_⟩) ?_ ?_
           rotate_left
           ·intro w'
            go_simp
            with_reducible rfl
           rotate_left
           ·simp only [Act.put, u6a, u6b, u6c, i64_w, i32_w]
            rfl
           refine pure_ (i := 8) (N := some 121) (v := ?_) (a' := ?_) #[true, true, true, true, true, true, true, true, true, false, false, false, false, false, false, false, false, false] rfl rfl (any_of HT_.out (by kernel_rfl)) (fun _ _ _ h => h) (Or.inl ⟨by rfl, ?_⟩) ?_ ?_
           rotate_left
           ·intro w'
            go_simp
            with_reducible rfl
           rotate_left
           ·simp only [Act.put, u6a, u6b, u6c, i64_w, i32_w]
            rfl
           refine pure_ (i := 10) (N := some 123) (v := ?_) (a' := ?_) #[true, true, true, true, true, true, true, true, true, false, true, false, false, false, false, false, false, false] rfl rfl (any_of HT_.out (by kernel_rfl)) (fun _ _ _ h => h) (Or.inl ⟨by rfl, ?_⟩) ?_ ?_
           rotate_left
           ·intro w'
            go_simp
            with_reducible rfl
           rotate_left
           ·simp only [Act.put, u6a, u6b, u6c, i64_w, i32_w]
            rfl
           refine pure_ (i := 11) (N := some 124) (v := ?_) (a' := ?_) #[true, true, true, true, true, true, true, true, true, false, true, true, false, false, false, false, false, false] rfl rfl (any_of HT_.out (by kernel_rfl)) (fun _ _ _ h => h) (Or.inl ⟨by rfl, ?_⟩) ?_ ?_
           rotate_left
           ·intro w'
            go_simp
            with_reducible rfl
           rotate_left
           ·simp only [Act.put, u6a, u6b, u6c, i64_w, i32_w]
            rfl
           refine pure_ (i := 12) (N := some 125) (v := ?_) (a' := ?_) #[true, true, true, true, true, true, true, true, true, false, true, true, true, false, false, false, false, false] rfl rfl (any_of HT_.out (by kernel_rfl)) (fun _ _ _ h => h) (Or.inl ⟨by rfl, ?_⟩) ?_ ?_
           rotate_left
           ·intro w'
            go_simp
            with_reducible rfl
           rotate_left
           ·simp only [Act.put, u6a, u6b, u6c, i64_w, i32_w]
            rfl
           refine take_ (i := 9) (N := some 122) (v := ?_) (a' := ?_) #[true, true, true, true, true, true, true, true, true, true, true, true, true, false, false, false, false, false] rfl rfl (take_ofW HT_.out HW_.out (by kernel_rfl)) (fun _ _ _ h => h) (Or.inl ⟨by rfl, ?_⟩) hHeld ?_ ?_
           rotate_left
           ·rintro w' ⟨s0, s1, s2, s3, s4, s5, s6, s7, s8, s9⟩
            go_simp
            with_reducible rfl
           rotate_left
           ·simp only [Act.put, u6a, u6b, u6c, i64_w, i32_w]
            rfl
           refine take_ (i := 13) (N := some 126) (v := ?_) (a' := ?_) #[true, true, true, true, true, true, true, true, true, true, true, true, true, true, false, false, false, false] rfl rfl (take_ofW HT_.out HW_.out (by kernel_rfl)) (fun _ _ _ h => h) (Or.inl ⟨by rfl, ?_⟩) hHeld ?_ ?_
           rotate_left
           ·rintro w' ⟨s0, s1, s2, s3, s4, s5, s6, s7, s8, s9⟩
            go_simp
            with_reducible rfl
           rotate_left
           ·simp only [Act.put, u6a, u6b, u6c, i64_w, i32_w]
            rfl
           refine pure_ (i := 14) (N := some 127) (v := ?_) (a' := ?_) #[true, true, true, true, true, true, true, true, true, true, true, true, true, true, true, false, false, false] rfl rfl (any_of HT_.out (by kernel_rfl)) (fun _ _ _ h => h) (Or.inl ⟨by rfl, ?_⟩) ?_ ?_
           rotate_left
           ·intro w'
            go_simp
            with_reducible rfl
           rotate_left
           ·simp only [Act.put, u6a, u6b, u6c, i64_w, i32_w]
            rfl
           refine last_ (i := 15) (N := none) #[true, true, true, true, true, true, true, true, true, true, true, true, true, true, true, true, false, false] rfl rfl (one_of HT_.out (by kernel_rfl)) (by decide) (fun K hK => ?_)
           refine skip_ (w1 := (((((w56.setCell ⟨go54, (x17_2 : Int).toNat * 5, none⟩ (.int .i64 ((rd_T50 x0_2 (ji49)).f0))).setCell ⟨go54, (x17_2 : Int).toNat * 5 + 1, none⟩ (.int .i64 ((rd_T50 x0_2 (ji49)).f1.f0))).setCell ⟨go54, (x17_2 : Int).toNat * 5 + 2, none⟩ (.int .i64 ((rd_T50 x0_2 (ji49)).f1.f1))).setCell ⟨go54, (x17_2 : Int).toNat * 5 + 3, none⟩ (.int .i64 ((rd_T50 x0_2 (ji49)).f1.f2))).setCell ⟨go54, (x17_2 : Int).toNat * 5 + 4, none⟩ (.int .i64 ((rd_T50 x0_2 (ji49)).f1.f3)))) (by rfl) rfl (row_store_run k50 rfl (e := 50) (seg := [.int .i64 ((rd_T50 x0_2 (ji49)).f0), .int .i64 ((rd_T50 x0_2 (ji49)).f1.f0), .int .i64 ((rd_T50 x0_2 (ji49)).f1.f1), .int .i64 ((rd_T50 x0_2 (ji49)).f1.f2), .int .i64 ((rd_T50 x0_2 (ji49)).f1.f3)]) rfl rfl rfl (by kernel_rfl) rfl (by intro q_ hq_; simp only [List.mem_cons, List.not_mem_nil, or_false] at hq_; rcases hq_ with rfl | rfl | rfl | rfl | rfl <;> rfl) HO_0.out (x17_2 : Int) rfl (of_decide_eq_true (by first | (with_reducible assumption) | assumption)) (by have h_ : (x17_2 : Int) < ((x0_2.length : Int) : Int) := of_decide_eq_true (by first | (with_reducible assumption) | assumption); first | exact h_ | (have e_ := (Kd.R_reads' HO_0.out).1; omega) | simpa using h_)) ?_
           refine hK.out _ _ ?_
           clear hK K
           refine pure_ (i := 16) (N := some 128) (v := ?_) (a' := ?_) #[true, true, true, true, true, true, true, true, true, true, true, true, true, true, true, true, true, false] rfl rfl (any_of HT_.out (by kernel_rfl)) (fun _ _ _ h => h) (Or.inl ⟨by rfl, ?_⟩) ?_ ?_
           rotate_left
           ·intro w'
            go_simp
            with_reducible rfl
           rotate_left
           ·simp only [Act.put, u6a, u6b, u6c, i64_w, i32_w]
            rfl
           refine last_ (i := 17) (N := none) #[true, true, true, true, true, true, true, true, true, true, true, true, true, true, true, true, true, true] rfl rfl (one_of HT_.out (by kernel_rfl)) (by decide) (fun K hK => ?_)
           refine skip_ (w1 := ((((((((((w56.setCell ⟨go54, (x17_2 : Int).toNat * 5, none⟩ (.int .i64 ((rd_T50 x0_2 (ji49)).f0))).setCell ⟨go54, (x17_2 : Int).toNat * 5 + 1, none⟩ (.int .i64 ((rd_T50 x0_2 (ji49)).f1.f0))).setCell ⟨go54, (x17_2 : Int).toNat * 5 + 2, none⟩ (.int .i64 ((rd_T50 x0_2 (ji49)).f1.f1))).setCell ⟨go54, (x17_2 : Int).toNat * 5 + 3, none⟩ (.int .i64 ((rd_T50 x0_2 (ji49)).f1.f2))).setCell ⟨go54, (x17_2 : Int).toNat * 5 + 4, none⟩ (.int .i64 ((rd_T50 x0_2 (ji49)).f1.f3))).setCell ⟨go54, ((ji49) : Int).toNat * 5, none⟩ (.int .i64 ((rd_T50 x0_2 x17_2).f0))).setCell ⟨go54, ((ji49) : Int).toNat * 5 + 1, none⟩ (.int .i64 ((rd_T50 x0_2 x17_2).f1.f0))).setCell ⟨go54, ((ji49) : Int).toNat * 5 + 2, none⟩ (.int .i64 ((rd_T50 x0_2 x17_2).f1.f1))).setCell ⟨go54, ((ji49) : Int).toNat * 5 + 3, none⟩ (.int .i64 ((rd_T50 x0_2 x17_2).f1.f2))).setCell ⟨go54, ((ji49) : Int).toNat * 5 + 4, none⟩ (.int .i64 ((rd_T50 x0_2 x17_2).f1.f3)))) (by rfl) rfl (row_store_run k50 rfl (e := 50) (seg := [.int .i64 ((rd_T50 x0_2 x17_2).f0), .int .i64 ((rd_T50 x0_2 x17_2).f1.f0), .int .i64 ((rd_T50 x0_2 x17_2).f1.f1), .int .i64 ((rd_T50 x0_2 x17_2).f1.f2), .int .i64 ((rd_T50 x0_2 x17_2).f1.f3)]) rfl rfl rfl (by kernel_rfl) rfl (by intro q_ hq_; simp only [List.mem_cons, List.not_mem_nil, or_false] at hq_; rcases hq_ with rfl | rfl | rfl | rfl | rfl <;> rfl) HQ58.out ((ji49) : Int) rfl (of_decide_eq_true (by first | (with_reducible assumption) | assumption)) (by have h_ : ((ji49) : Int) < ((x0_2.length : Int) : Int) := of_decide_eq_true (by first | (with_reducible assumption) | assumption); first | exact h_ | (have e_ := (Kd.R_reads' HO_0.out).1; omega) | simpa using h_)) ?_
           refine hK.out _ _ ?_
           clear hK K
           refine done_ (done_of HT_.out (by kernel_rfl)) ?_
           try go_wp2
           go_roundg k2
           case measure => have := HK1.out; have := HK2.out; omega
           case rel => exact ⟨(y222), (ji49), (by first | rfl | (simp; done) | (simp only [← hji49] <;> (first | rfl | simp)) | (simp [*]; done)), H', ⟨by have := HK1.out; have := HK2.out; omega⟩, ⟨by (with_reducible repeat (first | apply Kd.R_alloc | apply Kd.R_drewN | apply Kd.R_drew)); exact HQ59.out⟩, ⟨by repeat (first | (with_reducible first | exact HK.out | apply Kept.alloc | apply Kept.drewN | apply Kept.drew | refine Kept.setCell ?_ HMgo54.out _ | refine Kept.setCell ?_ HMgo54.out _ | refine Kept.setCell ?_ HMgo54.out _ | refine Kept.setCell ?_ HMgo54.out _ | refine Kept.setCell ?_ HMgo54.out _ | refine Kept.setCell ?_ HMgo54.out _ | refine Kept.setCell ?_ HMgo54.out _ | refine Kept.setCell ?_ HMgo54.out _ | refine Kept.setCell ?_ HMgo54.out _ | refine Kept.setCell ?_ HMgo54.out _) | exact HK.out)⟩, ⟨by repeat (first | (with_reducible first | exact HB.out | apply below_alloc | apply pw_below_drewN | apply below_drew1 | refine below_set ?_ GB54.out | refine below_set ?_ GB54.out | refine below_set ?_ GB54.out | refine below_set ?_ GB54.out | refine below_set ?_ GB54.out | refine below_set ?_ GB54.out | refine below_set ?_ GB54.out | refine below_set ?_ GB54.out | refine below_set ?_ GB54.out | refine below_set ?_ GB54.out) | exact HB.out)⟩⟩
          ·rw [if_neg c53] at H
           exact absurd H (by simp)
         ·rw [if_neg c52] at H
          exact absurd H (by simp)
        ·rw [if_neg c51] at H
         exact absurd H (by simp)
       ·rw [if_neg c50] at H
        exact absurd H (by simp)
      ·rw [if_neg c48] at H
       have c48b0 : decide (x14_1 < x17_2) = false := decide_eq_false c48
       clear c48
       obtain rfl := Option.some.inj H
       go_wp2
       first | go_end0 | ((try simp only [Exit.inBlock, Exit.then]); refine bodyPost_ret (results_none rfl _ _ _) rfl ?_)
       exact ⟨by first | rfl | (simp [errW_none, errW_some] <;> rfl) | (simp [*, errW_none, errW_some] <;> rfl), by (with_reducible repeat (first | apply Kd.R_alloc | apply Kd.R_drewN | apply Kd.R_drew)); exact HO_0.out, by repeat (first | (with_reducible first | exact HB.out | apply below_alloc | apply pw_below_drewN | apply below_drew1) | exact HB.out), by repeat (first | (with_reducible first | exact HK.out | apply Kept.alloc | apply Kept.drewN | apply Kept.drew) | exact HK.out)⟩
set_option maxHeartbeats 8000000 in
set_option maxRecDepth 100000 in
theorem impl_Deep_78.calls (k : Nat) : ∀ (P0_ : Nat → Prop) (u9000_ : Value) (l0 : List (S50)) (a1 : Int) (a2 : Int) (a3 : Int) (a4 : GtC) (r : List (S50)) (w0 w : World) (hB : Below w0.heap.size w0 w) (ho0 : Kd.R k50 50 w w0.heap.size P0_ u9000_ l0) {cf4 : FuncId} {cc4 : Array Value} (ha4 : Aside0 (FnOkC w cf4 cc4 a4)) (h : impl_Deep_78.f k l0 a1 a2 a3 a4 = some r),
  Calls Try.prog 78 #[u9000_, .int .i64 a1, .int .i64 a2, .int .i64 a3, (.func (.func cf4) #[] cc4)] w fun e w' => e = .returned (.tuple #[]) ∧ Kd.R k50 50 w' w0.heap.size (fun k_ => (P0_ k_ ∨ w.heap.size ≤ k_)) u9000_ r ∧ Below w0.heap.size w0 w' ∧ Kept w w' (fun k_ => P0_ k_) := by
 induction k using Nat.strongRecOn with
 | _ k ih =>
 intro P0_ u9000_ l0 a1 a2 a3 a4 r w0 w hB ho0 cf4 cc4 ha4 h
 cases k with
 | zero => exact absurd h (by simp [impl_Deep_78.f])
 | succ k =>
 simp only [impl_Deep_78.f] at h
 have hu50 := Try.underlying50
 have HO0 := Aside0.mk (show Kd.R k50 50 w w0.heap.size (fun k_ => (P0_ k_ ∨ w.heap.size ≤ k_)) u9000_ l0 from Kd.R_mono ho0 (fun k_ hk => (.inl hk)))
 have HK := Aside0.mk (Kept.refl w (fun k_ => P0_ k_))
 have HW0 := Aside0.mk hB.size
 have HB := Aside0.mk hB
 have H : (if (wrap64 (a2 - a1)) = 1 then (impl_Deep_78.l0 k l0 a1 a4 a2 a3) else (if (wrap64 (a3 - a2)) = 1 then (impl_Deep_78.l2 k l0 a2 a4 a1 a2) else (if a2 > (wrap64 ((IntKind.u64.wrap (wrap64 (a1 + a3))) / 2)) then (impl_Deep_78.j4 k l0 a1 a2 a3 a4 (wrap64 ((IntKind.u64.wrap (wrap64 (a1 + a3))) / 2)) (wrap64 ((wrap64 ((IntKind.u64.wrap (wrap64 (a1 + a3))) / 2)) + a2)) (wrap64 ((wrap64 ((wrap64 ((IntKind.u64.wrap (wrap64 (a1 + a3))) / 2)) + a2)) - a3)) (wrap64 ((IntKind.u64.wrap (wrap64 (a1 + a3))) / 2))) else (impl_Deep_78.j4 k l0 a1 a2 a3 a4 (wrap64 ((IntKind.u64.wrap (wrap64 (a1 + a3))) / 2)) (wrap64 ((wrap64 ((IntKind.u64.wrap (wrap64 (a1 + a3))) / 2)) + a2)) a1 a2)))) = some r := h
 clear h
 by_cases c6 : (wrap64 (a2 - a1)) = 1
 ·rw [if_pos c6] at H
  exact impl_Deep_78.calls1 k P0_ u9000_ l0 a1 a2 a3 a4 r w0 w hB ho0 ha4 c6 H
 ·rw [if_neg c6] at H
  have c6b0 : ((wrap64 (a2 - a1)) == 1) = false := beq_eq_false_iff_ne.mpr c6
  have c6b1 : ((wrap64 (a2 - a1)) != 1) = true := bne_iff_ne.mpr c6
  by_cases c33 : (wrap64 (a3 - a2)) = 1
  ·rw [if_pos c33] at H
   exact impl_Deep_78.calls2 k P0_ u9000_ l0 a1 a2 a3 a4 r w0 w hB ho0 ha4 c6 c33 H
  ·rw [if_neg c33] at H
   clear hB
   have c33b0 : ((wrap64 (a3 - a2)) == 1) = false := beq_eq_false_iff_ne.mpr c33
   have c33b1 : ((wrap64 (a3 - a2)) != 1) = true := bne_iff_ne.mpr c33
   have HC60 := Aside0.mk H
   clear H
   go_enter Try.func78, Try.ntmps78
   go_upto_if 140 with (fail)
   go_cut [20, 21] (fun v20 v21 wc => ∃ (kq : Nat) (x20_59 : Int) (x21_59 : Int), v20 = .int .i64 x20_59 ∧ v21 = .int .i64 x21_59 ∧ Aside0 (impl_Deep_78.j4 kq l0 a1 a2 a3 a4 (wrap64 ((IntKind.u64.wrap (wrap64 (a1 + a3))) / 2)) (wrap64 ((wrap64 ((IntKind.u64.wrap (wrap64 (a1 + a3))) / 2)) + a2)) x20_59 x21_59 = some r) ∧ Aside0 (kq ≤ k) ∧ Aside0 (Kd.R k50 50 wc w0.heap.size (fun k_ => (P0_ k_ ∨ w.heap.size ≤ k_)) u9000_ l0) ∧ Aside0 (Kept w wc (fun k_ => P0_ k_)) ∧ Aside0 (Below w0.heap.size w0 wc))
   case first =>
    have H := HC60.out
    clear HC60
    by_cases c61 : a2 > (wrap64 ((IntKind.u64.wrap (wrap64 (a1 + a3))) / 2))
    ·rw [if_pos c61] at H
     have c61b0 : decide ((wrap64 ((IntKind.u64.wrap (wrap64 (a1 + a3))) / 2)) < a2) = true := decide_eq_true c61
     clear c61
     (first | rw [c61b0] | (simp only [i64_w, i32_w]; rw [c61b0]) | skip)
     have H' := Aside0.mk H
     clear H
     go_wp2
     go_meet
     case rel => exact ⟨_, (wrap64 ((wrap64 ((wrap64 ((IntKind.u64.wrap (wrap64 (a1 + a3))) / 2)) + a2)) - a3)), (wrap64 ((IntKind.u64.wrap (wrap64 (a1 + a3))) / 2)), (by first | rfl | (simp; done) | (simp [*]; done)), (by first | rfl | (simp; done) | (simp [*]; done)), H', ⟨by first | omega | exact Nat.le_refl _⟩, ⟨by (with_reducible repeat (first | apply Kd.R_alloc | apply Kd.R_drewN | apply Kd.R_drew)); exact HO0.out⟩, ⟨by repeat (first | (with_reducible first | exact HK.out | apply Kept.alloc | apply Kept.drewN | apply Kept.drew) | exact HK.out)⟩, ⟨by repeat (first | (with_reducible first | exact HB.out | apply below_alloc | apply pw_below_drewN | apply below_drew1) | exact HB.out)⟩⟩
    ·rw [if_neg c61] at H
     have c61b0 : decide ((wrap64 ((IntKind.u64.wrap (wrap64 (a1 + a3))) / 2)) < a2) = false := decide_eq_false c61
     clear c61
     (first | rw [c61b0] | (simp only [i64_w, i32_w]; rw [c61b0]) | skip)
     have H' := Aside0.mk H
     clear H
     go_wp2
     go_meet
     case rel => exact ⟨_, (a1), (a2), (by first | rfl | (simp; done) | (simp [*]; done)), (by first | rfl | (simp; done) | (simp [*]; done)), H', ⟨by first | omega | exact Nat.le_refl _⟩, ⟨by (with_reducible repeat (first | apply Kd.R_alloc | apply Kd.R_drewN | apply Kd.R_drew)); exact HO0.out⟩, ⟨by repeat (first | (with_reducible first | exact HK.out | apply Kept.alloc | apply Kept.drewN | apply Kept.drew) | exact HK.out)⟩, ⟨by repeat (first | (with_reducible first | exact HB.out | apply below_alloc | apply pw_below_drewN | apply below_drew1) | exact HB.out)⟩⟩
   case rest =>
    as_aux_lemma =>
     clear HC60
     try clear c6
     try clear c6b0
     try clear c6b1
     try clear c7
     try clear c7b0
     try clear c9
     try clear c9b0
     try clear c10
     try clear c10b0
     try clear c11
     try clear c11b0
     try clear c12
     try clear c12b0
     try clear c14
     try clear c14b0
     try clear c21
     try clear c21b0
     try clear c23
     try clear c23b0
     try clear c24
     try clear c24b0
     try clear c25
     try clear c25b0
     try clear c26
     try clear c26b0
     try clear p27
     try clear q27
     try clear p28
     try clear q28
     try clear c33
     try clear c33b0
     try clear c33b1
     try clear c34
     try clear c34b0
     try clear c35
     try clear c35b0
     try clear c36
     try clear c36b0
     try clear c38
     try clear c38b0
     try clear c39
     try clear c39b0
     try clear c41
     try clear c41b0
     try clear c48
     try clear c48b0
     try clear c50
     try clear c50b0
     try clear c51
     try clear c51b0
     try clear c52
     try clear c52b0
     try clear c53
     try clear c53b0
     try clear p54
     try clear q54
     try clear p55
     try clear q55
     try clear c61
     try clear c61b0
     try clear hx209_0
     try clear hx209_1
     try clear hx209_2
     try clear hx209_3
     try clear hx209_4
     try clear hx210_0
     try clear hx210_1
     try clear hx210_2
     try clear hx210_3
     try clear hx210_4
     try clear hx212_0
     try clear hx212_1
     try clear hx212_2
     try clear hx212_3
     try clear hx212_4
     try clear hx213_0
     try clear hx213_1
     try clear hx213_2
     try clear hx213_3
     try clear hx213_4
     try clear hx216_0
     try clear hx216_1
     try clear hx216_2
     try clear hx216_3
     try clear hx216_4
     try clear hx217_0
     try clear hx217_1
     try clear hx217_2
     try clear hx217_3
     try clear hx217_4
     try clear hx219_0
     try clear hx219_1
     try clear hx219_2
     try clear hx219_3
     try clear hx219_4
     try clear hx220_0
     try clear hx220_1
     try clear hx220_2
     try clear hx220_3
     try clear hx220_4
     try clear hx27_0
     try clear hx27_1
     try clear hx27_2
     try clear hx27_3
     try clear hx27_4
     try clear hx28_0
     try clear hx28_1
     try clear hx28_2
     try clear hx28_3
     try clear hx28_4
     try clear hx54_0
     try clear hx54_1
     try clear hx54_2
     try clear hx54_3
     try clear hx54_4
     try clear hx55_0
     try clear hx55_1
     try clear hx55_2
     try clear hx55_3
     try clear hx55_4
     try clear p209
     try clear p210
     try clear p212
     try clear p213
     try clear p216
     try clear p217
     try clear p219
     try clear p220
     try clear p27
     try clear p28
     try clear p54
     try clear p55
     try clear q209
     try clear q210
     try clear q212
     try clear q213
     try clear q216
     try clear q217
     try clear q219
     try clear q220
     try clear q27
     try clear q28
     try clear q54
     try clear q55
     obtain ⟨kq, x20_59, x21_59, rfl, rfl, HA, HJ59, HO_0, HK, HB⟩ := hcut
     cases kq with
     | zero => exact absurd HA.out (by simp [impl_Deep_78.j4])
     | succ kj59 =>
      have H := HA.out
      clear HA
      simp only [impl_Deep_78.j4] at H
      have H' := Aside0.mk H
      clear H
      go_wp2
      go_loopg [20, 21] kj59 (fun kq v20 v21 w' => ∃ (x20_2 : Int) (x21_2 : Int), v20 = .int .i64 x20_2 ∧ v21 = .int .i64 x21_2 ∧ Aside0 (impl_Deep_78.l4 kq l0 a1 a2 a3 a4 (wrap64 ((IntKind.u64.wrap (wrap64 (a1 + a3))) / 2)) (wrap64 ((wrap64 ((IntKind.u64.wrap (wrap64 (a1 + a3))) / 2)) + a2)) x20_2 x21_2 (wrap64 ((wrap64 ((wrap64 ((IntKind.u64.wrap (wrap64 (a1 + a3))) / 2)) + a2)) - 1)) = some r) ∧ Aside0 (kq ≤ kj59) ∧ Aside0 (Kd.R k50 50 w' w0.heap.size (fun k_ => (P0_ k_ ∨ w.heap.size ≤ k_)) u9000_ l0) ∧ Aside0 (Kept w w' (fun k_ => P0_ k_)) ∧ Aside0 (Below w0.heap.size w0 w'))
      case atStart => exact ⟨(x20_59), (x21_59), (by first | rfl | (simp; done) | (simp [*]; done)), (by first | rfl | (simp; done) | (simp [*]; done)), H', ⟨Nat.le_refl _⟩, ⟨by (with_reducible repeat (first | apply Kd.R_alloc | apply Kd.R_drewN | apply Kd.R_drew)); exact HO_0.out⟩, ⟨by repeat (first | (with_reducible first | exact HK.out | apply Kept.alloc | apply Kept.drewN | apply Kept.drew) | exact HK.out)⟩, ⟨by repeat (first | (with_reducible first | exact HB.out | apply below_alloc | apply pw_below_drewN | apply below_drew1) | exact HB.out)⟩⟩
      case round =>
       clear H'
       try clear c6
       try clear c6b0
       try clear c6b1
       try clear c7
       try clear c7b0
       try clear c9
       try clear c9b0
       try clear c10
       try clear c10b0
       try clear c11
       try clear c11b0
       try clear c12
       try clear c12b0
       try clear c14
       try clear c14b0
       try clear c21
       try clear c21b0
       try clear c23
       try clear c23b0
       try clear c24
       try clear c24b0
       try clear c25
       try clear c25b0
       try clear c26
       try clear c26b0
       try clear p27
       try clear q27
       try clear p28
       try clear q28
       try clear c33
       try clear c33b0
       try clear c33b1
       try clear c34
       try clear c34b0
       try clear c35
       try clear c35b0
       try clear c36
       try clear c36b0
       try clear c38
       try clear c38b0
       try clear c39
       try clear c39b0
       try clear c41
       try clear c41b0
       try clear c48
       try clear c48b0
       try clear c50
       try clear c50b0
       try clear c51
       try clear c51b0
       try clear c52
       try clear c52b0
       try clear c53
       try clear c53b0
       try clear p54
       try clear q54
       try clear p55
       try clear q55
       try clear c61
       try clear c61b0
       try clear hx209_0
       try clear hx209_1
       try clear hx209_2
       try clear hx209_3
       try clear hx209_4
       try clear hx210_0
       try clear hx210_1
       try clear hx210_2
       try clear hx210_3
       try clear hx210_4
       try clear hx212_0
       try clear hx212_1
       try clear hx212_2
       try clear hx212_3
       try clear hx212_4
       try clear hx213_0
       try clear hx213_1
       try clear hx213_2
       try clear hx213_3
       try clear hx213_4
       try clear hx216_0
       try clear hx216_1
       try clear hx216_2
       try clear hx216_3
       try clear hx216_4
       try clear hx217_0
       try clear hx217_1
       try clear hx217_2
       try clear hx217_3
       try clear hx217_4
       try clear hx219_0
       try clear hx219_1
       try clear hx219_2
       try clear hx219_3
       try clear hx219_4
       try clear hx220_0
       try clear hx220_1
       try clear hx220_2
       try clear hx220_3
       try clear hx220_4
       try clear hx27_0
       try clear hx27_1
       try clear hx27_2
       try clear hx27_3
       try clear hx27_4
       try clear hx28_0
       try clear hx28_1
       try clear hx28_2
       try clear hx28_3
       try clear hx28_4
       try clear hx54_0
       try clear hx54_1
       try clear hx54_2
       try clear hx54_3
       try clear hx54_4
       try clear hx55_0
       try clear hx55_1
       try clear hx55_2
       try clear hx55_3
       try clear hx55_4
       try clear p209
       try clear p210
       try clear p212
       try clear p213
       try clear p216
       try clear p217
       try clear p219
       try clear p220
       try clear p27
       try clear p28
       try clear p54
       try clear p55
       try clear q209
       try clear q210
       try clear q212
       try clear q213
       try clear q216
       try clear q217
       try clear q219
       try clear q220
       try clear q27
       try clear q28
       try clear q54
       try clear q55
       obtain ⟨x20_2, x21_2, rfl, rfl, HA, HK2, HO_0, HK, HB⟩ := hrel
       cases gk with
       | zero => exact absurd HA.out (by simp [impl_Deep_78.l4])
       | succ k2 =>
        have H := HA.out
        clear HA
        simp only [impl_Deep_78.l4] at H
        by_cases c62 : x20_2 < x21_2
        ·rw [if_pos c62] at H
         have c62b0 : decide (x20_2 < x21_2) = true := decide_eq_true c62
         clear c62
         obtain ⟨ji63, hji63⟩ : ∃ j_ : Int, (wrap64 ((wrap64 ((wrap64 ((wrap64 ((IntKind.u64.wrap (wrap64 (a1 + a3))) / 2)) + a2)) - 1)) - (wrap64 ((IntKind.u64.wrap (wrap64 (x20_2 + x21_2))) / 2)))) = j_ := ⟨_, rfl⟩
         replace H : (if 0 ≤ (ji63) then (if (ji63) < (l0.length : Int) then (if 0 ≤ (wrap64 ((IntKind.u64.wrap (wrap64 (x20_2 + x21_2))) / 2)) then (if (wrap64 ((IntKind.u64.wrap (wrap64 (x20_2 + x21_2))) / 2)) < (l0.length : Int) then ((GC.f a4 ((rd_T50 l0 (ji63)).f0) ((rd_T50 l0 (ji63)).f1.f0) ((rd_T50 l0 (ji63)).f1.f1) ((rd_T50 l0 (ji63)).f1.f2) ((rd_T50 l0 (ji63)).f1.f3) ((rd_T50 l0 (wrap64 ((IntKind.u64.wrap (wrap64 (x20_2 + x21_2))) / 2))).f0) ((rd_T50 l0 (wrap64 ((IntKind.u64.wrap (wrap64 (x20_2 + x21_2))) / 2))).f1.f0) ((rd_T50 l0 (wrap64 ((IntKind.u64.wrap (wrap64 (x20_2 + x21_2))) / 2))).f1.f1) ((rd_T50 l0 (wrap64 ((IntKind.u64.wrap (wrap64 (x20_2 + x21_2))) / 2))).f1.f2) ((rd_T50 l0 (wrap64 ((IntKind.u64.wrap (wrap64 (x20_2 + x21_2))) / 2))).f1.f3)).bind fun t225 => (if t225 < 0 then (impl_Deep_78.l4 k2 l0 a1 a2 a3 a4 (wrap64 ((IntKind.u64.wrap (wrap64 (a1 + a3))) / 2)) (wrap64 ((wrap64 ((IntKind.u64.wrap (wrap64 (a1 + a3))) / 2)) + a2)) x20_2 (wrap64 ((IntKind.u64.wrap (wrap64 (x20_2 + x21_2))) / 2)) (wrap64 ((wrap64 ((wrap64 ((IntKind.u64.wrap (wrap64 (a1 + a3))) / 2)) + a2)) - 1))) else (impl_Deep_78.l4 k2 l0 a1 a2 a3 a4 (wrap64 ((IntKind.u64.wrap (wrap64 (a1 + a3))) / 2)) (wrap64 ((wrap64 ((IntKind.u64.wrap (wrap64 (a1 + a3))) / 2)) + a2)) (wrap64 ((wrap64 ((IntKind.u64.wrap (wrap64 (x20_2 + x21_2))) / 2)) + 1)) x21_2 (wrap64 ((wrap64 ((wrap64 ((IntKind.u64.wrap (wrap64 (a1 + a3))) / 2)) + a2)) - 1))))) else (none)) else (none)) else (none)) else (none)) = some r := by first | (rw [hji63] at H; exact H) | (simp only [hji63] at H ⊢; exact H)
         have hji63w : (IntKind.i64.wrap ((wrap64 ((wrap64 ((wrap64 ((IntKind.u64.wrap (wrap64 (a1 + a3))) / 2)) + a2)) - 1)) - (wrap64 ((IntKind.u64.wrap (wrap64 (x20_2 + x21_2))) / 2)))) = ji63 := (i64_w _).trans hji63
         by_cases c64 : 0 ≤ (ji63)
         ·rw [if_pos c64] at H
          have c64b0 : decide (0 ≤ (ji63)) = true := decide_eq_true c64
          clear c64
          by_cases c65 : (ji63) < (l0.length : Int)
          ·rw [if_pos c65] at H
           have c65b0 : decide ((ji63) < (l0.length : Int)) = true := decide_eq_true c65
           clear c65
           obtain ⟨ji66, hji66⟩ : ∃ j_ : Int, (wrap64 ((IntKind.u64.wrap (wrap64 (x20_2 + x21_2))) / 2)) = j_ := ⟨_, rfl⟩
           replace H : (if 0 ≤ (ji66) then (if (ji66) < (l0.length : Int) then ((GC.f a4 ((rd_T50 l0 (ji63)).f0) ((rd_T50 l0 (ji63)).f1.f0) ((rd_T50 l0 (ji63)).f1.f1) ((rd_T50 l0 (ji63)).f1.f2) ((rd_T50 l0 (ji63)).f1.f3) ((rd_T50 l0 (ji66)).f0) ((rd_T50 l0 (ji66)).f1.f0) ((rd_T50 l0 (ji66)).f1.f1) ((rd_T50 l0 (ji66)).f1.f2) ((rd_T50 l0 (ji66)).f1.f3)).bind fun t225 => (if t225 < 0 then (impl_Deep_78.l4 k2 l0 a1 a2 a3 a4 (wrap64 ((IntKind.u64.wrap (wrap64 (a1 + a3))) / 2)) (wrap64 ((wrap64 ((IntKind.u64.wrap (wrap64 (a1 + a3))) / 2)) + a2)) x20_2 ji66 (wrap64 ((wrap64 ((wrap64 ((IntKind.u64.wrap (wrap64 (a1 + a3))) / 2)) + a2)) - 1))) else (impl_Deep_78.l4 k2 l0 a1 a2 a3 a4 (wrap64 ((IntKind.u64.wrap (wrap64 (a1 + a3))) / 2)) (wrap64 ((wrap64 ((IntKind.u64.wrap (wrap64 (a1 + a3))) / 2)) + a2)) (wrap64 ((ji66) + 1)) x21_2 (wrap64 ((wrap64 ((wrap64 ((IntKind.u64.wrap (wrap64 (a1 + a3))) / 2)) + a2)) - 1))))) else (none)) else (none)) = some r := by first | (rw [hji66] at H; exact H) | (simp only [hji66] at H ⊢; exact H)
           have hji66w : (IntKind.i64.wrap ((IntKind.u64.wrap (wrap64 (x20_2 + x21_2))) / 2)) = ji66 := (i64_w _).trans hji66
           have hji63x66 : (wrap64 ((wrap64 ((wrap64 ((wrap64 ((IntKind.u64.wrap (wrap64 (a1 + a3))) / 2)) + a2)) - 1)) - ji66)) = ji63 := by rw [← hji66]; exact hji63
           have hji63y66 : (IntKind.i64.wrap ((wrap64 ((wrap64 ((wrap64 ((IntKind.u64.wrap (wrap64 (a1 + a3))) / 2)) + a2)) - 1)) - ji66)) = ji63 := (i64_w _).trans hji63x66
           by_cases c67 : 0 ≤ (ji66)
           ·rw [if_pos c67] at H
            have c67b0 : decide (0 ≤ (ji66)) = true := decide_eq_true c67
            clear c67
            by_cases c68 : (ji66) < (l0.length : Int)
            ·rw [if_pos c68] at H
             have c68b0 : decide ((ji66) < (l0.length : Int)) = true := decide_eq_true c68
             clear c68
             replace H := Option.bind_eq_some_iff.mp H
             obtain ⟨t225, A690, H⟩ := H
             have A69 := Aside0.mk A690
             clear A690
             by_cases c70 : t225 < 0
             ·as_aux_lemma =>
               rw [if_pos c70] at H
               have c70b0 : decide (t225 < 0) = true := decide_eq_true c70
               clear c70
               have H' := Aside0.mk H
               clear H
               try go_wp2
               have n0_ := Aside0.mk (Kd.R_drew HO_0.out)
               have n1_ := Aside0.mk (Kept.drew HK.out)
               have n2_ := Aside0.mk (below_drew1 HB.out)
               clear HO_0
               clear HK
               clear HB
               have HO_0 := n0_
               have HK := n1_
               have HB := n2_
               clear n0_ n1_ n2_
               obtain ⟨Ao72, co72, eo72⟩ := Kd.R_slice HO_0.out
               (first | subst eo72 | (injection eo72 with f1_ f2_ f3_; have f4_ := f1_.symm; have f5_ := f3_.symm; clear f1_ f2_ f3_; subst f4_; subst f5_))
               have p223 : 0 ≤ ((ji63) : Int) := of_decide_eq_true (by first | (with_reducible assumption) | assumption)
               have q223 : (ji63) < (l0.length : Int) := of_decide_eq_true (by first | (with_reducible assumption) | assumption)
               obtain ⟨ad223, e223, hx223_0, hx223_1, hx223_2, hx223_3, hx223_4⟩ := at_T50 (Kd.R_reads' HO_0.out).2.2 (ji63) p223 q223
               cases e223
               replace p223 := eq_true p223
               replace q223 := eq_true q223
               have p224 : 0 ≤ ((ji66) : Int) := of_decide_eq_true (by first | (with_reducible assumption) | assumption)
               have q224 : (ji66) < (l0.length : Int) := of_decide_eq_true (by first | (with_reducible assumption) | assumption)
               obtain ⟨ad224, e224, hx224_0, hx224_1, hx224_2, hx224_3, hx224_4⟩ := at_T50 (Kd.R_reads' HO_0.out).2.2 (ji66) p224 q224
               obtain rfl : ad223 = ad224 := (by injection e224)
               replace p224 := eq_true p224
               replace q224 := eq_true q224
               refine start_ (n := 14) (S := fun w' => w'.cell? (ad223.add (((ji63)).toNat * 5)) = some (.int .i64 ((rd_T50 l0 (ji63)).f0)) ∧ w'.cell? ⟨(ad223.add (((ji63)).toNat * 5)).block, (ad223.add (((ji63)).toNat * 5)).off + 1, none⟩ = some (.int .i64 ((rd_T50 l0 (ji63)).f1.f0)) ∧ w'.cell? ⟨(ad223.add (((ji63)).toNat * 5)).block, (ad223.add (((ji63)).toNat * 5)).off + 2, none⟩ = some (.int .i64 ((rd_T50 l0 (ji63)).f1.f1)) ∧ w'.cell? ⟨(ad223.add (((ji63)).toNat * 5)).block, (ad223.add (((ji63)).toNat * 5)).off + 3, none⟩ = some (.int .i64 ((rd_T50 l0 (ji63)).f1.f2)) ∧ w'.cell? ⟨(ad223.add (((ji63)).toNat * 5)).block, (ad223.add (((ji63)).toNat * 5)).off + 4, none⟩ = some (.int .i64 ((rd_T50 l0 (ji63)).f1.f3)) ∧ w'.cell? (ad223.add (((ji66)).toNat * 5)) = some (.int .i64 ((rd_T50 l0 (ji66)).f0)) ∧ w'.cell? ⟨(ad223.add (((ji66)).toNat * 5)).block, (ad223.add (((ji66)).toNat * 5)).off + 1, none⟩ = some (.int .i64 ((rd_T50 l0 (ji66)).f1.f0)) ∧ w'.cell? ⟨(ad223.add (((ji66)).toNat * 5)).block, (ad223.add (((ji66)).toNat * 5)).off + 2, none⟩ = some (.int .i64 ((rd_T50 l0 (ji66)).f1.f1)) ∧ w'.cell? ⟨(ad223.add (((ji66)).toNat * 5)).block, (ad223.add (((ji66)).toNat * 5)).off + 3, none⟩ = some (.int .i64 ((rd_T50 l0 (ji66)).f1.f2)) ∧ w'.cell? ⟨(ad223.add (((ji66)).toNat * 5)).block, (ad223.add (((ji66)).toNat * 5)).off + 4, none⟩ = some (.int .i64 ((rd_T50 l0 (ji66)).f1.f3))) (ds := []) #[false, false, false, false, false, false, false, false, false, false, false, false, false, false] (by kernel_rfl) rfl rfl ⟨hx223_0, hx223_1, hx223_2, hx223_3, hx223_4, hx224_0, hx224_1, hx224_2, hx224_3, hx224_4⟩ (fun hHeld => ?_); refine with_tabW impl_Deep_78.tab35 impl_Deep_78.bits35 (fun HT_ HW_ => ?_)
               generalize wr.drew = w71 at HO_0 HK HB hx223_0 hx223_1 hx223_2 hx223_3 hx223_4 hx224_0 hx224_1 hx224_2 hx224_3 hx224_4 hHeld ⊢
               refine pure_ (i := 0) (N := some 158) (v := ?_) (a' := ?_) #[true, false, false, false, false, false, false, false, false, false, false, false, false, false] rfl rfl (any_of HT_.out (by kernel_rfl)) (fun _ _ _ h => h) (Or.inl ⟨by rfl, ?_⟩) ?_ ?_
               rotate_left
               ·intro w'
                go_simp
                with_reducible rfl
               rotate_left
               ·simp only [Act.put, u6a, u6b, u6c, i64_w, i32_w]
                rfl
               refine pure_ (i := 1) (N := some 159) (v := ?_) (a' := ?_) #[true, true, false, false, false, false, false, false, false, false, false, false, false, false] rfl rfl (any_of HT_.out (by kernel_rfl)) (fun _ _ _ h => h) (Or.inl ⟨by rfl, ?_⟩) ?_ ?_
               rotate_left
               ·intro w'
                go_simp
                with_reducible rfl
               rotate_left
               ·simp only [Act.put, u6a, u6b, u6c, i64_w, i32_w]
                rfl
               refine pure_ (i := 2) (N := some 160) (v := ?_) (a' := ?_) #[true, true, true, false, false, false, false, false, false, false, false, false, false, false] rfl rfl (any_of HT_.out (by kernel_rfl)) (fun _ _ _ h => h) (Or.inl ⟨by rfl, ?_⟩) ?_ ?_
               rotate_left
               ·intro w'
                go_simp
                with_reducible rfl
               rotate_left
               ·simp only [Act.put, u6a, u6b, u6c, i64_w, i32_w]
                rfl
               refine pure_ (i := 3) (N := some 161) (v := ?_) (a' := ?_) #[true, true, true, true, false, false, false, false, false, false, false, false, false, false] rfl rfl (any_of HT_.out (by kernel_rfl)) (fun _ _ _ h => h) (Or.inl ⟨by rfl, ?_⟩) ?_ ?_
               rotate_left
               ·intro w'
                go_simp
                with_reducible rfl
               rotate_left
               ·simp only [Act.put, u6a, u6b, u6c, i64_w, i32_w]
                rfl
               refine pure_ (i := 4) (N := some 162) (v := ?_) (a' := ?_) #[true, true, true, true, true, false, false, false, false, false, false, false, false, false] rfl rfl (any_of HT_.out (by kernel_rfl)) (fun _ _ _ h => h) (Or.inl ⟨by rfl, ?_⟩) ?_ ?_
               rotate_left
               ·intro w'
                go_simp
                with_reducible rfl
               rotate_left
               ·simp only [Act.put, u6a, u6b, u6c, i64_w, i32_w]
                rfl
               refine pure_ (i := 5) (N := some 163) (v := ?_) (a' := ?_) #[true, true, true, true, true, true, false, false, false, false, false, false, false, false] rfl rfl (any_of HT_.out (by kernel_rfl)) (fun _ _ _ h => h) (Or.inl ⟨by rfl, ?_⟩) ?_ ?_
               rotate_left
               ·intro w'
                go_simp
                with_reducible rfl
               rotate_left
               ·simp only [Act.put, u6a, u6b, u6c, i64_w, i32_w]
                rfl
               refine pure_ (i := 7) (N := some 165) (v := ?_) (a' := ?_) #[true, true, true, true, true, true, false, true, false, false, false, false, false, false] rfl rfl (any_of HT_.out (by kernel_rfl)) (fun _ _ _ h => h) (Or.inl ⟨by rfl, ?_⟩) ?_ ?_
               rotate_left
               ·intro w'
                go_simp
                with_reducible rfl
               rotate_left
               ·simp only [Act.put, u6a, u6b, u6c, i64_w, i32_w]
                rfl
               refine pure_ (i := 8) (N := some 166) (v := ?_) (a' := ?_) #[true, true, true, true, true, true, false, true, true, false, false, false, false, false] rfl rfl (any_of HT_.out (by kernel_rfl)) (fun _ _ _ h => h) (Or.inl ⟨by rfl, ?_⟩) ?_ ?_
               rotate_left
               ·intro w'
                go_simp
                with_reducible rfl
               rotate_left
               ·simp only [Act.put, u6a, u6b, u6c, i64_w, i32_w]
                rfl
               refine pure_ (i := 9) (N := some 167) (v := ?_) (a' := ?_) #[true, true, true, true, true, true, false, true, true, true, false, false, false, false] rfl rfl (any_of HT_.out (by kernel_rfl)) (fun _ _ _ h => h) (Or.inl ⟨by rfl, ?_⟩) ?_ ?_
               rotate_left
               ·intro w'
                go_simp
                with_reducible rfl
               rotate_left
               ·simp only [Act.put, u6a, u6b, u6c, i64_w, i32_w]
                rfl
               refine take_ (i := 6) (N := some 164) (v := ?_) (a' := ?_) #[true, true, true, true, true, true, true, true, true, true, false, false, false, false] rfl rfl (take_ofW HT_.out HW_.out (by kernel_rfl)) (fun _ _ _ h => h) (Or.inl ⟨by rfl, ?_⟩) hHeld ?_ ?_
               rotate_left
               ·rintro w' ⟨s0, s1, s2, s3, s4, s5, s6, s7, s8, s9⟩
                go_simp
                with_reducible rfl
               rotate_left
               ·simp only [Act.put, u6a, u6b, u6c, i64_w, i32_w]
                rfl
               refine take_ (i := 10) (N := some 168) (v := ?_) (a' := ?_) #[true, true, true, true, true, true, true, true, true, true, true, false, false, false] rfl rfl (take_ofW HT_.out HW_.out (by kernel_rfl)) (fun _ _ _ h => h) (Or.inl ⟨by rfl, ?_⟩) hHeld ?_ ?_
               rotate_left
               ·rintro w' ⟨s0, s1, s2, s3, s4, s5, s6, s7, s8, s9⟩
                go_simp
                with_reducible rfl
               rotate_left
               ·simp only [Act.put, u6a, u6b, u6c, i64_w, i32_w]
                rfl
               refine one_ (i := 11) (N := some 169) #[true, true, true, true, true, true, true, true, true, true, true, true, false, false] rfl rfl (one_of HT_.out (by kernel_rfl)) (by decide) (fun K hK => ?_)
               refine goesF_ ha4.out.body #[.agg #[.int .i64 ((rd_T50 l0 (ji63)).f0), .int .i64 ((rd_T50 l0 (ji63)).f1.f0), .int .i64 ((rd_T50 l0 (ji63)).f1.f1), .int .i64 ((rd_T50 l0 (ji63)).f1.f2), .int .i64 ((rd_T50 l0 (ji63)).f1.f3)], .agg #[.int .i64 ((rd_T50 l0 (ji66)).f0), .int .i64 ((rd_T50 l0 (ji66)).f1.f0), .int .i64 ((rd_T50 l0 (ji66)).f1.f1), .int .i64 ((rd_T50 l0 (ji66)).f1.f2), .int .i64 ((rd_T50 l0 (ji66)).f1.f3)]] (by rfl) rfl rfl rfl (by (try simp only [List.map_toArray, List.map_cons, List.map_nil]); first | done | (simp only [hji63, hji66]; rfl) | rfl | (simp only [List.length_drop, List.length_take]; rfl)) ?_
               with_reducible refine (GC.calls ha4.out ((rd_T50 l0 (ji63)).f0) ((rd_T50 l0 (ji63)).f1.f0) ((rd_T50 l0 (ji63)).f1.f1) ((rd_T50 l0 (ji63)).f1.f2) ((rd_T50 l0 (ji63)).f1.f3) ((rd_T50 l0 (ji66)).f0) ((rd_T50 l0 (ji66)).f1.f0) ((rd_T50 l0 (ji66)).f1.f1) ((rd_T50 l0 (ji66)).f1.f2) ((rd_T50 l0 (ji66)).f1.f3) t225 _  A69.out).mono ?_
               rintro e w73 ⟨rfl, hb⟩
               have HS0_ := (hb.cell (u6d _ _ (hHeld.1))).trans (hHeld.1)
               have HS1_ := (hb.cell (u6d _ _ (hHeld.2.1))).trans (hHeld.2.1)
               have HS2_ := (hb.cell (u6d _ _ (hHeld.2.2.1))).trans (hHeld.2.2.1)
               have HS3_ := (hb.cell (u6d _ _ (hHeld.2.2.2.1))).trans (hHeld.2.2.2.1)
               have HS4_ := (hb.cell (u6d _ _ (hHeld.2.2.2.2.1))).trans (hHeld.2.2.2.2.1)
               have HS5_ := (hb.cell (u6d _ _ (hHeld.2.2.2.2.2.1))).trans (hHeld.2.2.2.2.2.1)
               have HS6_ := (hb.cell (u6d _ _ (hHeld.2.2.2.2.2.2.1))).trans (hHeld.2.2.2.2.2.2.1)
               have HS7_ := (hb.cell (u6d _ _ (hHeld.2.2.2.2.2.2.2.1))).trans (hHeld.2.2.2.2.2.2.2.1)
               have HS8_ := (hb.cell (u6d _ _ (hHeld.2.2.2.2.2.2.2.2.1))).trans (hHeld.2.2.2.2.2.2.2.2.1)
               have HS9_ := (hb.cell (u6d _ _ (hHeld.2.2.2.2.2.2.2.2.2))).trans (hHeld.2.2.2.2.2.2.2.2.2)
               refine ⟨_, rfl, ?_⟩
               have n0_ := Aside0.mk (Kd.R_below (by (with_reducible repeat (first | apply Kd.R_alloc | apply Kd.R_drewN | apply Kd.R_drew)); exact HO_0.out) hb)
               have n1_ := Aside0.mk (Kept.below (S := (fun k_ => P0_ k_)) (by repeat (first | (with_reducible first | exact HK.out | apply Kept.alloc | apply Kept.drewN | apply Kept.drew) | exact HK.out)) hb)
               have n2_ := Aside0.mk (below_step (by repeat (first | (with_reducible first | exact HB.out | apply below_alloc | apply pw_below_drewN | apply below_drew1) | exact HB.out)) hb)
               clear HO_0
               clear HK
               clear HB
               have HO_0 := n0_
               have HK := n1_
               have HB := n2_
               clear n0_ n1_ n2_
               (try clear hb)
               (try clear hb2)
               (try clear hk)
               (try clear hi)
               refine hK.out _ _ ⟨HS0_, HS1_, HS2_, HS3_, HS4_, HS5_, HS6_, HS7_, HS8_, HS9_⟩ (fun hHeld => ?_)
               clear hK K
               refine norm_ (a' := ?_) ?_ ?_
               rotate_left
               ·show Act.put _ (some 169) _ = _
                simp only [Act.put, u6a, u6b, u6c, i64_w, i32_w]
                rfl
               refine pure_ (i := 12) (N := some 170) (v := ?_) (a' := ?_) #[true, true, true, true, true, true, true, true, true, true, true, true, true, false] rfl rfl (any_of HT_.out (by kernel_rfl)) (fun _ _ _ h => h) (Or.inl ⟨by rfl, ?_⟩) ?_ ?_
               rotate_left
               ·intro w'
                go_simp
                with_reducible rfl
               rotate_left
               ·simp only [Act.put, u6a, u6b, u6c, i64_w, i32_w]
                rfl
               refine pure_ (i := 13) (N := some 171) (v := ?_) (a' := ?_) #[true, true, true, true, true, true, true, true, true, true, true, true, true, true] rfl rfl (any_of HT_.out (by kernel_rfl)) (fun _ _ _ h => h) (Or.inl ⟨by rfl, ?_⟩) ?_ ?_
               rotate_left
               ·intro w'
                go_simp
                with_reducible rfl
               rotate_left
               ·simp only [Act.put, u6a, u6b, u6c, i64_w, i32_w]
                rfl
               refine done_ (done_of HT_.out (by kernel_rfl)) ?_
               try go_wp2
               go_roundg k2
               case measure => have := HJ59.out; have := HK2.out; omega
               case rel => exact ⟨(x20_2), (ji66), (by first | rfl | (simp; done) | (simp [*]; done)), (by first | rfl | (simp; done) | (simp only [← hji66] <;> (first | rfl | simp)) | (simp [*]; done)), H', ⟨by have := HJ59.out; have := HK2.out; omega⟩, ⟨by (with_reducible repeat (first | apply Kd.R_alloc | apply Kd.R_drewN | apply Kd.R_drew)); exact HO_0.out⟩, ⟨by repeat (first | (with_reducible first | exact HK.out | apply Kept.alloc | apply Kept.drewN | apply Kept.drew) | exact HK.out)⟩, ⟨by repeat (first | (with_reducible first | exact HB.out | apply below_alloc | apply pw_below_drewN | apply below_drew1) | exact HB.out)⟩⟩
             ·as_aux_lemma =>
               rw [if_neg c70] at H
               have c70b0 : decide (t225 < 0) = false := decide_eq_false c70
               clear c70
               have H' := Aside0.mk H
               clear H
               try go_wp2
               have n0_ := Aside0.mk (Kd.R_drew HO_0.out)
               have n1_ := Aside0.mk (Kept.drew HK.out)
               have n2_ := Aside0.mk (below_drew1 HB.out)
               clear HO_0
               clear HK
               clear HB
               have HO_0 := n0_
               have HK := n1_
               have HB := n2_
               clear n0_ n1_ n2_
               obtain ⟨Ao75, co75, eo75⟩ := Kd.R_slice HO_0.out
               (first | subst eo75 | (injection eo75 with f1_ f2_ f3_; have f4_ := f1_.symm; have f5_ := f3_.symm; clear f1_ f2_ f3_; subst f4_; subst f5_))
               have p223 : 0 ≤ ((ji63) : Int) := of_decide_eq_true (by first | (with_reducible assumption) | assumption)
               have q223 : (ji63) < (l0.length : Int) := of_decide_eq_true (by first | (with_reducible assumption) | assumption)
               obtain ⟨ad223, e223, hx223_0, hx223_1, hx223_2, hx223_3, hx223_4⟩ := at_T50 (Kd.R_reads' HO_0.out).2.2 (ji63) p223 q223
               cases e223
               replace p223 := eq_true p223
               replace q223 := eq_true q223
               have p224 : 0 ≤ ((ji66) : Int) := of_decide_eq_true (by first | (with_reducible assumption) | assumption)
               have q224 : (ji66) < (l0.length : Int) := of_decide_eq_true (by first | (with_reducible assumption) | assumption)
               obtain ⟨ad224, e224, hx224_0, hx224_1, hx224_2, hx224_3, hx224_4⟩ := at_T50 (Kd.R_reads' HO_0.out).2.2 (ji66) p224 q224
               obtain rfl : ad223 = ad224 := (by injection e224)
               replace p224 := eq_true p224
               replace q224 := eq_true q224
               refine start_ (n := 14) (S := fun w' => w'.cell? (ad223.add (((ji63)).toNat * 5)) = some (.int .i64 ((rd_T50 l0 (ji63)).f0)) ∧ w'.cell? ⟨(ad223.add (((ji63)).toNat * 5)).block, (ad223.add (((ji63)).toNat * 5)).off + 1, none⟩ = some (.int .i64 ((rd_T50 l0 (ji63)).f1.f0)) ∧ w'.cell? ⟨(ad223.add (((ji63)).toNat * 5)).block, (ad223.add (((ji63)).toNat * 5)).off + 2, none⟩ = some (.int .i64 ((rd_T50 l0 (ji63)).f1.f1)) ∧ w'.cell? ⟨(ad223.add (((ji63)).toNat * 5)).block, (ad223.add (((ji63)).toNat * 5)).off + 3, none⟩ = some (.int .i64 ((rd_T50 l0 (ji63)).f1.f2)) ∧ w'.cell? ⟨(ad223.add (((ji63)).toNat * 5)).block, (ad223.add (((ji63)).toNat * 5)).off + 4, none⟩ = some (.int .i64 ((rd_T50 l0 (ji63)).f1.f3)) ∧ w'.cell? (ad223.add (((ji66)).toNat * 5)) = some (.int .i64 ((rd_T50 l0 (ji66)).f0)) ∧ w'.cell? ⟨(ad223.add (((ji66)).toNat * 5)).block, (ad223.add (((ji66)).toNat * 5)).off + 1, none⟩ = some (.int .i64 ((rd_T50 l0 (ji66)).f1.f0)) ∧ w'.cell? ⟨(ad223.add (((ji66)).toNat * 5)).block, (ad223.add (((ji66)).toNat * 5)).off + 2, none⟩ = some (.int .i64 ((rd_T50 l0 (ji66)).f1.f1)) ∧ w'.cell? ⟨(ad223.add (((ji66)).toNat * 5)).block, (ad223.add (((ji66)).toNat * 5)).off + 3, none⟩ = some (.int .i64 ((rd_T50 l0 (ji66)).f1.f2)) ∧ w'.cell? ⟨(ad223.add (((ji66)).toNat * 5)).block, (ad223.add (((ji66)).toNat * 5)).off + 4, none⟩ = some (.int .i64 ((rd_T50 l0 (ji66)).f1.f3))) (ds := []) #[false, false, false, false, false, false, false, false, false, false, false, false, false, false] (by kernel_rfl) rfl rfl ⟨hx223_0, hx223_1, hx223_2, hx223_3, hx223_4, hx224_0, hx224_1, hx224_2, hx224_3, hx224_4⟩ (fun hHeld => ?_); refine with_tabW impl_Deep_78.tab35 impl_Deep_78.bits35 (fun HT_ HW_ => ?_)
               generalize wr.drew = w74 at HO_0 HK HB hx223_0 hx223_1 hx223_2 hx223_3 hx223_4 hx224_0 hx224_1 hx224_2 hx224_3 hx224_4 hHeld ⊢
               refine pure_ (i := 0) (N := some 158) (v := ?_) (a' := ?_) #[true, false, false, false, false, false, false, false, false, false, false, false, false, false] rfl rfl (any_of HT_.out (by kernel_rfl)) (fun _ _ _ h => h) (Or.inl ⟨by rfl, ?_⟩) ?_ ?_
               rotate_left
               ·intro w'
                go_simp
                with_reducible rfl
               rotate_left
               ·simp only [Act.put, u6a, u6b, u6c, i64_w, i32_w]
                rfl
               refine pure_ (i := 1) (N := some 159) (v := ?_) (a' := ?_) #[true, true, false, false, false, false, false, false, false, false, false, false, false, false] rfl rfl (any_of HT_.out (by kernel_rfl)) (fun _ _ _ h => h) (Or.inl ⟨by rfl, ?_⟩) ?_ ?_
               rotate_left
               ·intro w'
                go_simp
                with_reducible rfl
               rotate_left
               ·simp only [Act.put, u6a, u6b, u6c, i64_w, i32_w]
                rfl
               refine pure_ (i := 2) (N := some 160) (v := ?_) (a' := ?_) #[true, true, true, false, false, false, false, false, false, false, false, false, false, false] rfl rfl (any_of HT_.out (by kernel_rfl)) (fun _ _ _ h => h) (Or.inl ⟨by rfl, ?_⟩) ?_ ?_
               rotate_left
               ·intro w'
                go_simp
                with_reducible rfl
               rotate_left
               ·simp only [Act.put, u6a, u6b, u6c, i64_w, i32_w]
                rfl
               refine pure_ (i := 3) (N := some 161) (v := ?_) (a' := ?_) #[true, true, true, true, false, false, false, false, false, false, false, false, false, false] rfl rfl (any_of HT_.out (by kernel_rfl)) (fun _ _ _ h => h) (Or.inl ⟨by rfl, ?_⟩) ?_ ?_
               rotate_left
               ·intro w'
                go_simp
                with_reducible rfl
               rotate_left
               ·simp only [Act.put, u6a, u6b, u6c, i64_w, i32_w]
                rfl
               refine pure_ (i := 4) (N := some 162) (v := ?_) (a' := ?_) #[true, true, true, true, true, false, false, false, false, false, false, false, false, false] rfl rfl (any_of HT_.out (by kernel_rfl)) (fun _ _ _ h => h) (Or.inl ⟨by rfl, ?_⟩) ?_ ?_
               rotate_left
               ·intro w'
                go_simp
                with_reducible rfl
               rotate_left
               ·simp only [Act.put, u6a, u6b, u6c, i64_w, i32_w]
                rfl
               refine pure_ (i := 5) (N := some 163) (v := ?_) (a' := ?_) #[true, true, true, true, true, true, false, false, false, false, false, false, false, false] rfl rfl (any_of HT_.out (by kernel_rfl)) (fun _ _ _ h => h) (Or.inl ⟨by rfl, ?_⟩) ?_ ?_
               rotate_left
               ·intro w'
                go_simp
                with_reducible rfl
               rotate_left
               ·simp only [Act.put, u6a, u6b, u6c, i64_w, i32_w]
                rfl
               refine pure_ (i := 7) (N := some 165) (v := ?_) (a' := ?_) #[true, true, true, true, true, true, false, true, false, false, false, false, false, false] rfl rfl (any_of HT_.out (by kernel_rfl)) (fun _ _ _ h => h) (Or.inl ⟨by rfl, ?_⟩) ?_ ?_
               rotate_left
               ·intro w'
                go_simp
                with_reducible rfl
               rotate_left
               ·simp only [Act.put, u6a, u6b, u6c, i64_w, i32_w]
                rfl
               refine pure_ (i := 8) (N := some 166) (v := ?_) (a' := ?_) #[true, true, true, true, true, true, false, true, true, false, false, false, false, false] rfl rfl (any_of HT_.out (by kernel_rfl)) (fun _ _ _ h => h) (Or.inl ⟨by rfl, ?_⟩) ?_ ?_
               rotate_left
               ·intro w'
                go_simp
                with_reducible rfl
               rotate_left
               ·simp only [Act.put, u6a, u6b, u6c, i64_w, i32_w]
                rfl
               refine pure_ (i := 9) (N := some 167) (v := ?_) (a' := ?_) #[true, true, true, true, true, true, false, true, true, true, false, false, false, false] rfl rfl (any_of HT_.out (by kernel_rfl)) (fun _ _ _ h => h) (Or.inl ⟨by rfl, ?_⟩) ?_ ?_
               rotate_left
               ·intro w'
                go_simp
                with_reducible rfl
               rotate_left
               ·simp only [Act.put, u6a, u6b, u6c, i64_w, i32_w]
                rfl
               refine take_ (i := 6) (N := some 164) (v := ?_) (a' := ?_) #[true, true, true, true, true, true, true, true, true, true, false, false, false, false] rfl rfl (take_ofW HT_.out HW_.out (by kernel_rfl)) (fun _ _ _ h => h) (Or.inl ⟨by rfl, ?_⟩) hHeld ?_ ?_
               rotate_left
               ·rintro w' ⟨s0, s1, s2, s3, s4, s5, s6, s7, s8, s9⟩
                go_simp
                with_reducible rfl
               rotate_left
               ·simp only [Act.put, u6a, u6b, u6c, i64_w, i32_w]
                rfl
               refine take_ (i := 10) (N := some 168) (v := ?_) (a' := ?_) #[true, true, true, true, true, true, true, true, true, true, true, false, false, false] rfl rfl (take_ofW HT_.out HW_.out (by kernel_rfl)) (fun _ _ _ h => h) (Or.inl ⟨by rfl, ?_⟩) hHeld ?_ ?_
               rotate_left
               ·rintro w' ⟨s0, s1, s2, s3, s4, s5, s6, s7, s8, s9⟩
                go_simp
                with_reducible rfl
               rotate_left
               ·simp only [Act.put, u6a, u6b, u6c, i64_w, i32_w]
                rfl
               refine one_ (i := 11) (N := some 169) #[true, true, true, true, true, true, true, true, true, true, true, true, false, false] rfl rfl (one_of HT_.out (by kernel_rfl)) (by decide) (fun K hK => ?_)
               refine goesF_ ha4.out.body #[.agg #[.int .i64 ((rd_T50 l0 (ji63)).f0), .int .i64 ((rd_T50 l0 (ji63)).f1.f0), .int .i64 ((rd_T50 l0 (ji63)).f1.f1), .int .i64 ((rd_T50 l0 (ji63)).f1.f2), .int .i64 ((rd_T50 l0 (ji63)).f1.f3)], .agg #[.int .i64 ((rd_T50 l0 (ji66)).f0), .int .i64 ((rd_T50 l0 (ji66)).f1.f0), .int .i64 ((rd_T50 l0 (ji66)).f1.f1), .int .i64 ((rd_T50 l0 (ji66)).f1.f2), .int .i64 ((rd_T50 l0 (ji66)).f1.f3)]] (by rfl) rfl rfl rfl (by (try simp only [List.map_toArray, List.map_cons, List.map_nil]); first | done | (simp only [hji63, hji66]; rfl) | rfl | (simp only [List.length_drop, List.length_take]; rfl)) ?_
               with_reducible refine (GC.calls ha4.out ((rd_T50 l0 (ji63)).f0) ((rd_T50 l0 (ji63)).f1.f0) ((rd_T50 l0 (ji63)).f1.f1) ((rd_T50 l0 (ji63)).f1.f2) ((rd_T50 l0 (ji63)).f1.f3) ((rd_T50 l0 (ji66)).f0) ((rd_T50 l0 (ji66)).f1.f0) ((rd_T50 l0 (ji66)).f1.f1) ((rd_T50 l0 (ji66)).f1.f2) ((rd_T50 l0 (ji66)).f1.f3) t225 _  A69.out).mono ?_
               rintro e w76 ⟨rfl, hb⟩
               have HS0_ := (hb.cell (u6d _ _ (hHeld.1))).trans (hHeld.1)
               have HS1_ := (hb.cell (u6d _ _ (hHeld.2.1))).trans (hHeld.2.1)
               have HS2_ := (hb.cell (u6d _ _ (hHeld.2.2.1))).trans (hHeld.2.2.1)
               have HS3_ := (hb.cell (u6d _ _ (hHeld.2.2.2.1))).trans (hHeld.2.2.2.1)
               have HS4_ := (hb.cell (u6d _ _ (hHeld.2.2.2.2.1))).trans (hHeld.2.2.2.2.1)
               have HS5_ := (hb.cell (u6d _ _ (hHeld.2.2.2.2.2.1))).trans (hHeld.2.2.2.2.2.1)
               have HS6_ := (hb.cell (u6d _ _ (hHeld.2.2.2.2.2.2.1))).trans (hHeld.2.2.2.2.2.2.1)
               have HS7_ := (hb.cell (u6d _ _ (hHeld.2.2.2.2.2.2.2.1))).trans (hHeld.2.2.2.2.2.2.2.1)
               have HS8_ := (hb.cell (u6d _ _ (hHeld.2.2.2.2.2.2.2.2.1))).trans (hHeld.2.2.2.2.2.2.2.2.1)
               have HS9_ := (hb.cell (u6d _ _ (hHeld.2.2.2.2.2.2.2.2.2))).trans (hHeld.2.2.2.2.2.2.2.2.2)
               refine ⟨_, rfl, ?_⟩
               have n0_ := Aside0.mk (Kd.R_below (by (with_reducible repeat (first | apply Kd.R_alloc | apply Kd.R_drewN | apply Kd.R_drew)); exact HO_0.out) hb)
               have n1_ := Aside0.mk (Kept.below (S := (fun k_ => P0_ k_)) (by repeat (first | (with_reducible first | exact HK.out | apply Kept.alloc | apply Kept.drewN | apply Kept.drew) | exact HK.out)) hb)
               have n2_ := Aside0.mk (below_step (by repeat (first | (with_reducible first | exact HB.out | apply below_alloc | apply pw_below_drewN | apply below_drew1) | exact HB.out)) hb)
               clear HO_0
               clear HK
               clear HB
               have HO_0 := n0_
               have HK := n1_
               have HB := n2_
               clear n0_ n1_ n2_
               (try clear hb)
               (try clear hb2)
               (try clear hk)
               (try clear hi)
               refine hK.out _ _ ⟨HS0_, HS1_, HS2_, HS3_, HS4_, HS5_, HS6_, HS7_, HS8_, HS9_⟩ (fun hHeld => ?_)
               clear hK K
               refine norm_ (a' := ?_) ?_ ?_
               rotate_left
               ·show Act.put _ (some 169) _ = _
                simp only [Act.put, u6a, u6b, u6c, i64_w, i32_w]
                rfl
               refine pure_ (i := 12) (N := some 170) (v := ?_) (a' := ?_) #[true, true, true, true, true, true, true, true, true, true, true, true, true, false] rfl rfl (any_of HT_.out (by kernel_rfl)) (fun _ _ _ h => h) (Or.inl ⟨by rfl, ?_⟩) ?_ ?_
               rotate_left
               ·intro w'
                go_simp
                with_reducible rfl
               rotate_left
               ·simp only [Act.put, u6a, u6b, u6c, i64_w, i32_w]
                rfl
               refine pure_ (i := 13) (N := some 171) (v := ?_) (a' := ?_) #[true, true, true, true, true, true, true, true, true, true, true, true, true, true] rfl rfl (any_of HT_.out (by kernel_rfl)) (fun _ _ _ h => h) (Or.inl ⟨by rfl, ?_⟩) ?_ ?_
               rotate_left
               ·intro w'
                go_simp
                with_reducible rfl
               rotate_left
               ·simp only [Act.put, u6a, u6b, u6c, i64_w, i32_w]
                rfl
               refine done_ (done_of HT_.out (by kernel_rfl)) ?_
               try go_wp2
               go_roundg k2
               case measure => have := HJ59.out; have := HK2.out; omega
               case rel => exact ⟨(wrap64 ((ji66) + 1)), (x21_2), (by first | rfl | (simp; done) | (simp only [← hji66] <;> (first | rfl | simp)) | (simp [*]; done)), (by first | rfl | (simp; done) | (simp [*]; done)), H', ⟨by have := HJ59.out; have := HK2.out; omega⟩, ⟨by (with_reducible repeat (first | apply Kd.R_alloc | apply Kd.R_drewN | apply Kd.R_drew)); exact HO_0.out⟩, ⟨by repeat (first | (with_reducible first | exact HK.out | apply Kept.alloc | apply Kept.drewN | apply Kept.drew) | exact HK.out)⟩, ⟨by repeat (first | (with_reducible first | exact HB.out | apply below_alloc | apply pw_below_drewN | apply below_drew1) | exact HB.out)⟩⟩
            ·rw [if_neg c68] at H
             exact absurd H (by simp)
           ·rw [if_neg c67] at H
            exact absurd H (by simp)
          ·rw [if_neg c65] at H
           exact absurd H (by simp)
         ·rw [if_neg c64] at H
          exact absurd H (by simp)
        ·rw [if_neg c62] at H
         have c62b0 : decide (x20_2 < x21_2) = false := decide_eq_false c62
         clear c62
         have HC77 := Aside0.mk H
         clear H
         go_upto_region 39 with (fail)
         go_cut [185] (fun v185 wc => ∃ (kq : Nat) (x185_76 : Bool), v185 = .bool x185_76 ∧ Aside0 (impl_Deep_78.j6 kq l0 a1 a2 a3 a4 (wrap64 ((IntKind.u64.wrap (wrap64 (a1 + a3))) / 2)) x20_2 (wrap64 ((wrap64 ((wrap64 ((IntKind.u64.wrap (wrap64 (a1 + a3))) / 2)) + a2)) - x20_2)) x185_76 = some r) ∧ Aside0 (kq ≤ k2) ∧ Aside0 (Kd.R k50 50 wc w0.heap.size (fun k_ => (P0_ k_ ∨ w.heap.size ≤ k_)) u9000_ l0) ∧ Aside0 (Kept w wc (fun k_ => P0_ k_)) ∧ Aside0 (Below w0.heap.size w0 wc))
         case first =>
          have H := HC77.out
          clear HC77
          by_cases c78 : x20_2 < a2
          ·rw [if_pos c78] at H
           have c78b0 : decide (x20_2 < a2) = true := decide_eq_true c78
           clear c78
           (first | rw [c78b0] | (simp only [i64_w, i32_w]; rw [c78b0]) | skip)
           have H' := Aside0.mk H
           clear H
           go_wp2
           go_meet
           case rel => exact ⟨_, (decide (a2 < (wrap64 ((wrap64 ((wrap64 ((IntKind.u64.wrap (wrap64 (a1 + a3))) / 2)) + a2)) - x20_2)))), (by first | rfl | (simp; done) | (simp [*]; done)), H', ⟨by have := HJ59.out; have := HK2.out; first | omega | exact Nat.le_refl _⟩, ⟨by (with_reducible repeat (first | apply Kd.R_alloc | apply Kd.R_drewN | apply Kd.R_drew)); exact HO_0.out⟩, ⟨by repeat (first | (with_reducible first | exact HK.out | apply Kept.alloc | apply Kept.drewN | apply Kept.drew) | exact HK.out)⟩, ⟨by repeat (first | (with_reducible first | exact HB.out | apply below_alloc | apply pw_below_drewN | apply below_drew1) | exact HB.out)⟩⟩
          ·rw [if_neg c78] at H
           have c78b0 : decide (x20_2 < a2) = false := decide_eq_false c78
           clear c78
           (first | rw [c78b0] | (simp only [i64_w, i32_w]; rw [c78b0]) | skip)
           have H' := Aside0.mk H
           clear H
           go_wp2
           go_meet
           case rel => exact ⟨_, (false), (by first | rfl | (simp; done) | (simp [*]; done)), H', ⟨by have := HJ59.out; have := HK2.out; first | omega | exact Nat.le_refl _⟩, ⟨by (with_reducible repeat (first | apply Kd.R_alloc | apply Kd.R_drewN | apply Kd.R_drew)); exact HO_0.out⟩, ⟨by repeat (first | (with_reducible first | exact HK.out | apply Kept.alloc | apply Kept.drewN | apply Kept.drew) | exact HK.out)⟩, ⟨by repeat (first | (with_reducible first | exact HB.out | apply below_alloc | apply pw_below_drewN | apply below_drew1) | exact HB.out)⟩⟩
         case rest =>
          as_aux_lemma =>
           clear HC77
           try clear c6
           try clear c7
           try clear c9
           try clear c12
           try clear c12b0
           try clear c14
           try clear c14b0
           try clear c21
           try clear c21b0
           try clear c23
           try clear c23b0
           try clear c24
           try clear c24b0
           try clear c25
           try clear c25b0
           try clear c26
           try clear c26b0
           try clear p27
           try clear q27
           try clear p28
           try clear q28
           try clear c33
           try clear c33b0
           try clear c33b1
           try clear c34
           try clear c34b0
           try clear c35
           try clear c35b0
           try clear c36
           try clear c36b0
           try clear c38
           try clear c38b0
           try clear c39
           try clear c39b0
           try clear c41
           try clear c41b0
           try clear c48
           try clear c48b0
           try clear c50
           try clear c50b0
           try clear c51
           try clear c51b0
           try clear c52
           try clear c52b0
           try clear c53
           try clear c53b0
           try clear p54
           try clear q54
           try clear p55
           try clear q55
           try clear c61
           try clear c61b0
           try clear c62
           try clear c62b0
           try clear c64
           try clear c64b0
           try clear c65
           try clear c65b0
           try clear c67
           try clear c67b0
           try clear c68
           try clear c68b0
           try clear c70
           try clear c70b0
           try clear c78
           try clear c78b0
           try clear hx209_0
           try clear hx209_1
           try clear hx209_2
           try clear hx209_3
           try clear hx209_4
           try clear hx210_0
           try clear hx210_1
           try clear hx210_2
           try clear hx210_3
           try clear hx210_4
           try clear hx212_0
           try clear hx212_1
           try clear hx212_2
           try clear hx212_3
           try clear hx212_4
           try clear hx213_0
           try clear hx213_1
           try clear hx213_2
           try clear hx213_3
           try clear hx213_4
           try clear hx216_0
           try clear hx216_1
           try clear hx216_2
           try clear hx216_3
           try clear hx216_4
           try clear hx217_0
           try clear hx217_1
           try clear hx217_2
           try clear hx217_3
           try clear hx217_4
           try clear hx219_0
           try clear hx219_1
           try clear hx219_2
           try clear hx219_3
           try clear hx219_4
           try clear hx220_0
           try clear hx220_1
           try clear hx220_2
           try clear hx220_3
           try clear hx220_4
           try clear hx223_0
           try clear hx223_1
           try clear hx223_2
           try clear hx223_3
           try clear hx223_4
           try clear hx224_0
           try clear hx224_1
           try clear hx224_2
           try clear hx224_3
           try clear hx224_4
           try clear hx27_0
           try clear hx27_1
           try clear hx27_2
           try clear hx27_3
           try clear hx27_4
           try clear hx28_0
           try clear hx28_1
           try clear hx28_2
           try clear hx28_3
           try clear hx28_4
           try clear hx54_0
           try clear hx54_1
           try clear hx54_2
           try clear hx54_3
           try clear hx54_4
           try clear hx55_0
           try clear hx55_1
           try clear hx55_2
           try clear hx55_3
           try clear hx55_4
           try clear p209
           try clear p210
           try clear p212
           try clear p213
           try clear p216
           try clear p217
           try clear p219
           try clear p220
           try clear p223
           try clear p224
           try clear p27
           try clear p28
           try clear p54
           try clear p55
           try clear q209
           try clear q210
           try clear q212
           try clear q213
           try clear q216
           try clear q217
           try clear q219
           try clear q220
           try clear q223
           try clear q224
           try clear q27
           try clear q28
           try clear q54
           try clear q55
           obtain ⟨kq, x185_76, rfl, HA, HJ76, HO_0, HK, HB⟩ := hcut
           cases kq with
           | zero => exact absurd HA.out (by simp [impl_Deep_78.j6])
           | succ kj76 =>
            have H := HA.out
            clear HA
            simp only [impl_Deep_78.j6] at H
            have HC79 := Aside0.mk H
            clear H
            go_upto_if 185 with (fail)
            go_cut [] (fun wc => ∃ (kq : Nat) (x0_78 : List (S50)), Aside0 (impl_Deep_78.j7 kq x0_78 a1 a3 a4 (wrap64 ((IntKind.u64.wrap (wrap64 (a1 + a3))) / 2)) x20_2 (wrap64 ((wrap64 ((wrap64 ((IntKind.u64.wrap (wrap64 (a1 + a3))) / 2)) + a2)) - x20_2)) = some r) ∧ Aside0 (kq ≤ kj76) ∧ Aside0 (Kd.R k50 50 wc w0.heap.size (fun k_ => (P0_ k_ ∨ w.heap.size ≤ k_)) u9000_ x0_78) ∧ Aside0 (Kept w wc (fun k_ => P0_ k_)) ∧ Aside0 (Below w0.heap.size w0 wc))
            case first =>
             have H := HC79.out
             clear HC79
             by_cases c80 : x185_76 = true
             ·subst c80
              have H1 := H; rw [if_pos rfl] at H1
              clear H
              have H := H1
              clear H1
              replace H := Option.bind_eq_some_iff.mp H
              obtain ⟨t226, A810, H⟩ := H
              have A81 := Aside0.mk A810
              clear A810
              have H' := Aside0.mk H
              clear H
              obtain ⟨Ao82, co82, eo82⟩ := Kd.R_slice HO_0.out
              subst eo82
              go_wp2_with (first | ((with_reducible refine gate_callee (f := 81) rfl ?_); refine goesL_ (some 191) rfl rfl Try.func81 (by kernel_rfl) rfl #[.slice Ao82 l0.length co82, .int .i64 x20_2, .int .i64 a2, .int .i64 (wrap64 ((wrap64 ((wrap64 ((IntKind.u64.wrap (wrap64 (a1 + a3))) / 2)) + a2)) - x20_2)), (.func (.func cf4) #[] cc4)] rfl (by (try simp only [List.map_toArray, List.map_cons, List.map_nil]); first | done | rfl | (simp only [List.length_drop, List.length_take]; rfl)) ?_; (with_reducible refine (impl_Deep_81.calls kj76 (fun k_ => some k_ = (.slice Ao82 l0.length co82 : Value).ownBlock) (.slice Ao82 l0.length co82) l0 x20_2 a2 (wrap64 ((wrap64 ((wrap64 ((IntKind.u64.wrap (wrap64 (a1 + a3))) / 2)) + a2)) - x20_2)) a4 t226 w0 _ ?side1 ?side2 ⟨ha4.out.mono trivial⟩ A81.out).mono ?_); (case side1 => repeat (first | (with_reducible first | exact HB.out | apply below_alloc | apply pw_below_drewN | apply below_drew1) | exact HB.out)); (case side2 => exact Kd.R_tight rfl HO_0.out); rintro e w83 ⟨rfl, hy0, hb, hkp⟩; refine ⟨_, rfl, ?_⟩; have n0_ := Aside0.mk (Kd.R_reok rfl hy0 (fun k_ e_ => HO_0.out.1 k_ e_)); have n1_ := Aside0.mk (Kept.then_ (S := (fun k_ => P0_ k_)) (by repeat (first | (with_reducible first | exact HK.out | apply Kept.alloc | apply Kept.drewN | apply Kept.drew) | exact HK.out)) hkp (fun k_ hs_ => (fun e_ => (HO_0.out.1 k_ e_.symm)) hs_)); have n2_ := Aside0.mk (hb); clear HO_0; clear HK; clear HB; have HO_0 := n0_; have HK := n1_; have HB := n2_; clear n0_ n1_ n2_; (try clear hb); (try clear hkp); (try clear hy0)))
              go_meet
              case rel => exact ⟨_, (t226), H', ⟨by have := HJ59.out; have := HK2.out; have := HJ76.out; first | omega | exact Nat.le_refl _⟩, ⟨by (with_reducible repeat (first | apply Kd.R_alloc | apply Kd.R_drewN | apply Kd.R_drew)); exact HO_0.out⟩, ⟨by repeat (first | (with_reducible first | exact HK.out | apply Kept.alloc | apply Kept.drewN | apply Kept.drew) | exact HK.out)⟩, ⟨by repeat (first | (with_reducible first | exact HB.out | apply below_alloc | apply pw_below_drewN | apply below_drew1) | exact HB.out)⟩⟩
             ·replace c80 := Bool.eq_false_iff.mpr c80
              subst c80
              have H1 := H; rw [if_neg (show ¬ (false = true) by decide)] at H1
              clear H
              have H := H1
              clear H1
              have H' := Aside0.mk H
              clear H
              go_wp2
              go_meet
              case rel => exact ⟨_, (l0), H', ⟨by have := HJ59.out; have := HK2.out; have := HJ76.out; first | omega | exact Nat.le_refl _⟩, ⟨by (with_reducible repeat (first | apply Kd.R_alloc | apply Kd.R_drewN | apply Kd.R_drew)); exact HO_0.out⟩, ⟨by repeat (first | (with_reducible first | exact HK.out | apply Kept.alloc | apply Kept.drewN | apply Kept.drew) | exact HK.out)⟩, ⟨by repeat (first | (with_reducible first | exact HB.out | apply below_alloc | apply pw_below_drewN | apply below_drew1) | exact HB.out)⟩⟩
            case rest =>
             as_aux_lemma =>
              clear HC79
              try clear c6
              try clear c7
              try clear c9
              try clear c12
              try clear c12b0
              try clear c14
              try clear c14b0
              try clear c21
              try clear c21b0
              try clear c23
              try clear c23b0
              try clear c24
              try clear c24b0
              try clear c25
              try clear c25b0
              try clear c26
              try clear c26b0
              try clear p27
              try clear q27
              try clear p28
              try clear q28
              try clear c33
              try clear c33b0
              try clear c33b1
              try clear c34
              try clear c34b0
              try clear c35
              try clear c35b0
              try clear c36
              try clear c36b0
              try clear c38
              try clear c38b0
              try clear c39
              try clear c39b0
              try clear c41
              try clear c41b0
              try clear c48
              try clear c48b0
              try clear c50
              try clear c50b0
              try clear c51
              try clear c51b0
              try clear c52
              try clear c52b0
              try clear c53
              try clear c53b0
              try clear p54
              try clear q54
              try clear p55
              try clear q55
              try clear c61
              try clear c61b0
              try clear c62
              try clear c62b0
              try clear c64
              try clear c64b0
              try clear c65
              try clear c65b0
              try clear c67
              try clear c67b0
              try clear c68
              try clear c68b0
              try clear c70
              try clear c70b0
              try clear c78
              try clear c78b0
              try clear c80
              try clear hx209_0
              try clear hx209_1
              try clear hx209_2
              try clear hx209_3
              try clear hx209_4
              try clear hx210_0
              try clear hx210_1
              try clear hx210_2
              try clear hx210_3
              try clear hx210_4
              try clear hx212_0
              try clear hx212_1
              try clear hx212_2
              try clear hx212_3
              try clear hx212_4
              try clear hx213_0
              try clear hx213_1
              try clear hx213_2
              try clear hx213_3
              try clear hx213_4
              try clear hx216_0
              try clear hx216_1
              try clear hx216_2
              try clear hx216_3
              try clear hx216_4
              try clear hx217_0
              try clear hx217_1
              try clear hx217_2
              try clear hx217_3
              try clear hx217_4
              try clear hx219_0
              try clear hx219_1
              try clear hx219_2
              try clear hx219_3
              try clear hx219_4
              try clear hx220_0
              try clear hx220_1
              try clear hx220_2
              try clear hx220_3
              try clear hx220_4
              try clear hx223_0
              try clear hx223_1
              try clear hx223_2
              try clear hx223_3
              try clear hx223_4
              try clear hx224_0
              try clear hx224_1
              try clear hx224_2
              try clear hx224_3
              try clear hx224_4
              try clear hx27_0
              try clear hx27_1
              try clear hx27_2
              try clear hx27_3
              try clear hx27_4
              try clear hx28_0
              try clear hx28_1
              try clear hx28_2
              try clear hx28_3
              try clear hx28_4
              try clear hx54_0
              try clear hx54_1
              try clear hx54_2
              try clear hx54_3
              try clear hx54_4
              try clear hx55_0
              try clear hx55_1
              try clear hx55_2
              try clear hx55_3
              try clear hx55_4
              try clear p209
              try clear p210
              try clear p212
              try clear p213
              try clear p216
              try clear p217
              try clear p219
              try clear p220
              try clear p223
              try clear p224
              try clear p27
              try clear p28
              try clear p54
              try clear p55
              try clear q209
              try clear q210
              try clear q212
              try clear q213
              try clear q216
              try clear q217
              try clear q219
              try clear q220
              try clear q223
              try clear q224
              try clear q27
              try clear q28
              try clear q54
              try clear q55
              obtain ⟨kq, x0_78, HA, HJ78, HO_0, HK, HB⟩ := hcut
              cases kq with
              | zero => exact absurd HA.out (by simp [impl_Deep_78.j7])
              | succ kj78 =>
               have H := HA.out
               clear HA
               simp only [impl_Deep_78.j7] at H
               have HC84 := Aside0.mk H
               clear H
               go_upto_region 41 with (fail)
               go_cut [199] (fun v199 wc => ∃ (kq : Nat) (x199_83 : Bool), v199 = .bool x199_83 ∧ Aside0 (impl_Deep_78.j8 kq x0_78 a1 a3 a4 (wrap64 ((IntKind.u64.wrap (wrap64 (a1 + a3))) / 2)) x20_2 (wrap64 ((wrap64 ((wrap64 ((IntKind.u64.wrap (wrap64 (a1 + a3))) / 2)) + a2)) - x20_2)) x199_83 = some r) ∧ Aside0 (kq ≤ kj78) ∧ Aside0 (Kd.R k50 50 wc w0.heap.size (fun k_ => (P0_ k_ ∨ w.heap.size ≤ k_)) u9000_ x0_78) ∧ Aside0 (Kept w wc (fun k_ => P0_ k_)) ∧ Aside0 (Below w0.heap.size w0 wc))
               case first =>
                have H := HC84.out
                clear HC84
                by_cases c85 : a1 < x20_2
                ·rw [if_pos c85] at H
                 have c85b0 : decide (a1 < x20_2) = true := decide_eq_true c85
                 clear c85
                 (first | rw [c85b0] | (simp only [i64_w, i32_w]; rw [c85b0]) | skip)
                 have H' := Aside0.mk H
                 clear H
                 go_wp2
                 go_meet
                 case rel => exact ⟨_, (decide (x20_2 < (wrap64 ((IntKind.u64.wrap (wrap64 (a1 + a3))) / 2)))), (by first | rfl | (simp; done) | (simp [*]; done)), H', ⟨by have := HJ59.out; have := HK2.out; have := HJ76.out; have := HJ78.out; first | omega | exact Nat.le_refl _⟩, ⟨by (with_reducible repeat (first | apply Kd.R_alloc | apply Kd.R_drewN | apply Kd.R_drew)); exact HO_0.out⟩, ⟨by repeat (first | (with_reducible first | exact HK.out | apply Kept.alloc | apply Kept.drewN | apply Kept.drew) | exact HK.out)⟩, ⟨by repeat (first | (with_reducible first | exact HB.out | apply below_alloc | apply pw_below_drewN | apply below_drew1) | exact HB.out)⟩⟩
                ·rw [if_neg c85] at H
                 have c85b0 : decide (a1 < x20_2) = false := decide_eq_false c85
                 clear c85
                 (first | rw [c85b0] | (simp only [i64_w, i32_w]; rw [c85b0]) | skip)
                 have H' := Aside0.mk H
                 clear H
                 go_wp2
                 go_meet
                 case rel => exact ⟨_, (false), (by first | rfl | (simp; done) | (simp [*]; done)), H', ⟨by have := HJ59.out; have := HK2.out; have := HJ76.out; have := HJ78.out; first | omega | exact Nat.le_refl _⟩, ⟨by (with_reducible repeat (first | apply Kd.R_alloc | apply Kd.R_drewN | apply Kd.R_drew)); exact HO_0.out⟩, ⟨by repeat (first | (with_reducible first | exact HK.out | apply Kept.alloc | apply Kept.drewN | apply Kept.drew) | exact HK.out)⟩, ⟨by repeat (first | (with_reducible first | exact HB.out | apply below_alloc | apply pw_below_drewN | apply below_drew1) | exact HB.out)⟩⟩
               case rest =>
                as_aux_lemma =>
                 clear HC84
                 try clear c6
                 try clear c7
                 try clear c9
                 try clear c12
                 try clear c12b0
                 try clear c14
                 try clear c14b0
                 try clear c21
                 try clear c21b0
                 try clear c23
                 try clear c23b0
                 try clear c24
                 try clear c24b0
                 try clear c25
                 try clear c25b0
                 try clear c26
                 try clear c26b0
                 try clear p27
                 try clear q27
                 try clear p28
                 try clear q28
                 try clear c33
                 try clear c33b0
                 try clear c33b1
                 try clear c34
                 try clear c34b0
                 try clear c35
                 try clear c35b0
                 try clear c36
                 try clear c36b0
                 try clear c38
                 try clear c38b0
                 try clear c39
                 try clear c39b0
                 try clear c41
                 try clear c41b0
                 try clear c48
                 try clear c48b0
                 try clear c50
                 try clear c50b0
                 try clear c51
                 try clear c51b0
                 try clear c52
                 try clear c52b0
                 try clear c53
                 try clear c53b0
                 try clear p54
                 try clear q54
                 try clear p55
                 try clear q55
                 try clear c61
                 try clear c61b0
                 try clear c62
                 try clear c62b0
                 try clear c64
                 try clear c64b0
                 try clear c65
                 try clear c65b0
                 try clear c67
                 try clear c67b0
                 try clear c68
                 try clear c68b0
                 try clear c70
                 try clear c70b0
                 try clear c78
                 try clear c78b0
                 try clear c80
                 try clear c85
                 try clear c85b0
                 try clear hx209_0
                 try clear hx209_1
                 try clear hx209_2
                 try clear hx209_3
                 try clear hx209_4
                 try clear hx210_0
                 try clear hx210_1
                 try clear hx210_2
                 try clear hx210_3
                 try clear hx210_4
                 try clear hx212_0
                 try clear hx212_1
                 try clear hx212_2
                 try clear hx212_3
                 try clear hx212_4
                 try clear hx213_0
                 try clear hx213_1
                 try clear hx213_2
                 try clear hx213_3
                 try clear hx213_4
                 try clear hx216_0
                 try clear hx216_1
                 try clear hx216_2
                 try clear hx216_3
                 try clear hx216_4
                 try clear hx217_0
                 try clear hx217_1
                 try clear hx217_2
                 try clear hx217_3
                 try clear hx217_4
                 try clear hx219_0
                 try clear hx219_1
                 try clear hx219_2
                 try clear hx219_3
                 try clear hx219_4
                 try clear hx220_0
                 try clear hx220_1
                 try clear hx220_2
                 try clear hx220_3
                 try clear hx220_4
                 try clear hx223_0
                 try clear hx223_1
                 try clear hx223_2
                 try clear hx223_3
                 try clear hx223_4
                 try clear hx224_0
                 try clear hx224_1
                 try clear hx224_2
                 try clear hx224_3
                 try clear hx224_4
                 try clear hx27_0
                 try clear hx27_1
                 try clear hx27_2
                 try clear hx27_3
                 try clear hx27_4
                 try clear hx28_0
                 try clear hx28_1
                 try clear hx28_2
                 try clear hx28_3
                 try clear hx28_4
                 try clear hx54_0
                 try clear hx54_1
                 try clear hx54_2
                 try clear hx54_3
                 try clear hx54_4
                 try clear hx55_0
                 try clear hx55_1
                 try clear hx55_2
                 try clear hx55_3
                 try clear hx55_4
                 try clear p209
                 try clear p210
                 try clear p212
                 try clear p213
                 try clear p216
                 try clear p217
                 try clear p219
                 try clear p220
                 try clear p223
                 try clear p224
                 try clear p27
                 try clear p28
                 try clear p54
                 try clear p55
                 try clear q209
                 try clear q210
                 try clear q212
                 try clear q213
                 try clear q216
                 try clear q217
                 try clear q219
                 try clear q220
                 try clear q223
                 try clear q224
                 try clear q27
                 try clear q28
                 try clear q54
                 try clear q55
                 obtain ⟨kq, x199_83, rfl, HA, HJ83, HO_0, HK, HB⟩ := hcut
                 cases kq with
                 | zero => exact absurd HA.out (by simp [impl_Deep_78.j8])
                 | succ kj83 =>
                  have H := HA.out
                  clear HA
                  simp only [impl_Deep_78.j8] at H
                  by_cases c86 : x199_83 = true
                  ·subst c86
                   have H1 := H; rw [if_pos rfl] at H1
                   clear H
                   have H := H1
                   clear H1
                   replace H := Option.bind_eq_some_iff.mp H
                   obtain ⟨t227, A870, H⟩ := H
                   have A87 := Aside0.mk A870
                   clear A870
                   by_cases c88 : (wrap64 ((IntKind.u64.wrap (wrap64 (a1 + a3))) / 2)) < (wrap64 ((wrap64 ((wrap64 ((IntKind.u64.wrap (wrap64 (a1 + a3))) / 2)) + a2)) - x20_2))
                   ·rw [if_pos c88] at H
                    have c88b0 : decide ((wrap64 ((IntKind.u64.wrap (wrap64 (a1 + a3))) / 2)) < (wrap64 ((wrap64 ((wrap64 ((IntKind.u64.wrap (wrap64 (a1 + a3))) / 2)) + a2)) - x20_2))) = true := decide_eq_true c88
                    clear c88
                    by_cases c89 : (wrap64 ((wrap64 ((wrap64 ((IntKind.u64.wrap (wrap64 (a1 + a3))) / 2)) + a2)) - x20_2)) < a3
                    ·rw [if_pos c89] at H
                     have c89b0 : decide ((wrap64 ((wrap64 ((wrap64 ((IntKind.u64.wrap (wrap64 (a1 + a3))) / 2)) + a2)) - x20_2)) < a3) = true := decide_eq_true c89
                     clear c89
                     replace H := Option.bind_eq_some_iff.mp H
                     obtain ⟨t228, A900, H⟩ := H
                     have A90 := Aside0.mk A900
                     clear A900
                     obtain rfl := Option.some.inj H
                     obtain ⟨Ao91, co91, eo91⟩ := Kd.R_slice HO_0.out
                     subst eo91
                     go_wp2_with (first | ((with_reducible refine gate_callee (f := 78) rfl ?_); refine goesL_ (some 205) rfl rfl Try.func78 (by kernel_rfl) rfl #[.slice Ao91 x0_78.length co91, .int .i64 a1, .int .i64 x20_2, .int .i64 (wrap64 ((IntKind.u64.wrap (wrap64 (a1 + a3))) / 2)), (.func (.func cf4) #[] cc4)] rfl (by (try simp only [List.map_toArray, List.map_cons, List.map_nil]); first | done | rfl | (simp only [List.length_drop, List.length_take]; rfl)) ?_; (with_reducible refine (ih kj83 (by have := HJ59.out; have := HK2.out; have := HJ76.out; have := HJ78.out; have := HJ83.out; omega) (fun k_ => some k_ = (.slice Ao91 x0_78.length co91 : Value).ownBlock) (.slice Ao91 x0_78.length co91) x0_78 a1 x20_2 (wrap64 ((IntKind.u64.wrap (wrap64 (a1 + a3))) / 2)) a4 t227 w0 _ ?side1 ?side2 ⟨ha4.out.mono trivial⟩ A87.out).mono ?_); (case side1 => repeat (first | (with_reducible first | exact HB.out | apply below_alloc | apply pw_below_drewN | apply below_drew1) | exact HB.out)); (case side2 => exact Kd.R_tight rfl HO_0.out); rintro e w92 ⟨rfl, hy0, hb, hkp⟩; refine ⟨_, rfl, ?_⟩; have n0_ := Aside0.mk (Kd.R_reok rfl hy0 (fun k_ e_ => HO_0.out.1 k_ e_)); have n1_ := Aside0.mk (Kept.then_ (S := (fun k_ => P0_ k_)) (by repeat (first | (with_reducible first | exact HK.out | apply Kept.alloc | apply Kept.drewN | apply Kept.drew) | exact HK.out)) hkp (fun k_ hs_ => (fun e_ => (HO_0.out.1 k_ e_.symm)) hs_)); have n2_ := Aside0.mk (hb); clear HO_0; clear HK; clear HB; have HO_0 := n0_; have HK := n1_; have HB := n2_; clear n0_ n1_ n2_; (try clear hb); (try clear hkp); (try clear hy0)) | ((with_reducible refine gate_callee (f := 78) rfl ?_); refine goesL_ (some 219) rfl rfl Try.func78 (by kernel_rfl) rfl #[.slice Ao91 x0_78.length co91, .int .i64 (wrap64 ((IntKind.u64.wrap (wrap64 (a1 + a3))) / 2)), .int .i64 (wrap64 ((wrap64 ((wrap64 ((IntKind.u64.wrap (wrap64 (a1 + a3))) / 2)) + a2)) - x20_2)), .int .i64 a3, (.func (.func cf4) #[] cc4)] rfl (by (try simp only [List.map_toArray, List.map_cons, List.map_nil]); first | done | rfl | (simp only [List.length_drop, List.length_take]; rfl)) ?_; (with_reducible refine (ih kj83 (by have := HJ59.out; have := HK2.out; have := HJ76.out; have := HJ78.out; have := HJ83.out; omega) (fun k_ => some k_ = (.slice Ao91 x0_78.length co91 : Value).ownBlock) (.slice Ao91 x0_78.length co91) t227 (wrap64 ((IntKind.u64.wrap (wrap64 (a1 + a3))) / 2)) (wrap64 ((wrap64 ((wrap64 ((IntKind.u64.wrap (wrap64 (a1 + a3))) / 2)) + a2)) - x20_2)) a3 a4 t228 w0 _ ?side1 ?side2 ⟨ha4.out.mono trivial⟩ A90.out).mono ?_); (case side1 => repeat (first | (with_reducible first | exact HB.out | apply below_alloc | apply pw_below_drewN | apply below_drew1) | exact HB.out)); (case side2 => exact Kd.R_tight rfl HO_0.out); rintro e w93 ⟨rfl, hy0, hb, hkp⟩; refine ⟨_, rfl, ?_⟩; have n0_ := Aside0.mk (Kd.R_reok rfl hy0 (fun k_ e_ => HO_0.out.1 k_ e_)); have n1_ := Aside0.mk (Kept.then_ (S := (fun k_ => P0_ k_)) (by repeat (first | (with_reducible first | exact HK.out | apply Kept.alloc | apply Kept.drewN | apply Kept.drew) | exact HK.out)) hkp (fun k_ hs_ => (fun e_ => (HO_0.out.1 k_ e_.symm)) hs_)); have n2_ := Aside0.mk (hb); clear HO_0; clear HK; clear HB; have HO_0 := n0_; have HK := n1_; have HB := n2_; clear n0_ n1_ n2_; (try clear hb); (try clear hkp); (try clear hy0)))
                     first | go_end0 | ((try simp only [Exit.inBlock, Exit.then]); refine bodyPost_ret (results_none rfl _ _ _) rfl ?_)
                     exact ⟨by first | rfl | (simp [errW_none, errW_some] <;> rfl) | (simp [*, errW_none, errW_some] <;> rfl), by (with_reducible repeat (first | apply Kd.R_alloc | apply Kd.R_drewN | apply Kd.R_drew)); exact HO_0.out, by repeat (first | (with_reducible first | exact HB.out | apply below_alloc | apply pw_below_drewN | apply below_drew1) | exact HB.out), by repeat (first | (with_reducible first | exact HK.out | apply Kept.alloc | apply Kept.drewN | apply Kept.drew) | exact HK.out)⟩
                    ·rw [if_neg c89] at H
                     have c89b0 : decide ((wrap64 ((wrap64 ((wrap64 ((IntKind.u64.wrap (wrap64 (a1 + a3))) / 2)) + a2)) - x20_2)) < a3) = false := decide_eq_false c89
                     clear c89
                     obtain rfl := Option.some.inj H
                     obtain ⟨Ao94, co94, eo94⟩ := Kd.R_slice HO_0.out
                     subst eo94
                     go_wp2_with (first | ((with_reducible refine gate_callee (f := 78) rfl ?_); refine goesL_ (some 205) rfl rfl Try.func78 (by kernel_rfl) rfl #[.slice Ao94 x0_78.length co94, .int .i64 a1, .int .i64 x20_2, .int .i64 (wrap64 ((IntKind.u64.wrap (wrap64 (a1 + a3))) / 2)), (.func (.func cf4) #[] cc4)] rfl (by (try simp only [List.map_toArray, List.map_cons, List.map_nil]); first | done | rfl | (simp only [List.length_drop, List.length_take]; rfl)) ?_; (with_reducible refine (ih kj83 (by have := HJ59.out; have := HK2.out; have := HJ76.out; have := HJ78.out; have := HJ83.out; omega) (fun k_ => some k_ = (.slice Ao94 x0_78.length co94 : Value).ownBlock) (.slice Ao94 x0_78.length co94) x0_78 a1 x20_2 (wrap64 ((IntKind.u64.wrap (wrap64 (a1 + a3))) / 2)) a4 t227 w0 _ ?side1 ?side2 ⟨ha4.out.mono trivial⟩ A87.out).mono ?_); (case side1 => repeat (first | (with_reducible first | exact HB.out | apply below_alloc | apply pw_below_drewN | apply below_drew1) | exact HB.out)); (case side2 => exact Kd.R_tight rfl HO_0.out); rintro e w95 ⟨rfl, hy0, hb, hkp⟩; refine ⟨_, rfl, ?_⟩; have n0_ := Aside0.mk (Kd.R_reok rfl hy0 (fun k_ e_ => HO_0.out.1 k_ e_)); have n1_ := Aside0.mk (Kept.then_ (S := (fun k_ => P0_ k_)) (by repeat (first | (with_reducible first | exact HK.out | apply Kept.alloc | apply Kept.drewN | apply Kept.drew) | exact HK.out)) hkp (fun k_ hs_ => (fun e_ => (HO_0.out.1 k_ e_.symm)) hs_)); have n2_ := Aside0.mk (hb); clear HO_0; clear HK; clear HB; have HO_0 := n0_; have HK := n1_; have HB := n2_; clear n0_ n1_ n2_; (try clear hb); (try clear hkp); (try clear hy0)))
                     first | go_end0 | ((try simp only [Exit.inBlock, Exit.then]); refine bodyPost_ret (results_none rfl _ _ _) rfl ?_)
                     exact ⟨by first | rfl | (simp [errW_none, errW_some] <;> rfl) | (simp [*, errW_none, errW_some] <;> rfl), by (with_reducible repeat (first | apply Kd.R_alloc | apply Kd.R_drewN | apply Kd.R_drew)); exact HO_0.out, by repeat (first | (with_reducible first | exact HB.out | apply below_alloc | apply pw_below_drewN | apply below_drew1) | exact HB.out), by repeat (first | (with_reducible first | exact HK.out | apply Kept.alloc | apply Kept.drewN | apply Kept.drew) | exact HK.out)⟩
                   ·rw [if_neg c88] at H
                    have c88b0 : decide ((wrap64 ((IntKind.u64.wrap (wrap64 (a1 + a3))) / 2)) < (wrap64 ((wrap64 ((wrap64 ((IntKind.u64.wrap (wrap64 (a1 + a3))) / 2)) + a2)) - x20_2))) = false := decide_eq_false c88
                    clear c88
                    obtain rfl := Option.some.inj H
                    obtain ⟨Ao96, co96, eo96⟩ := Kd.R_slice HO_0.out
                    subst eo96
                    go_wp2_with (first | ((with_reducible refine gate_callee (f := 78) rfl ?_); refine goesL_ (some 205) rfl rfl Try.func78 (by kernel_rfl) rfl #[.slice Ao96 x0_78.length co96, .int .i64 a1, .int .i64 x20_2, .int .i64 (wrap64 ((IntKind.u64.wrap (wrap64 (a1 + a3))) / 2)), (.func (.func cf4) #[] cc4)] rfl (by (try simp only [List.map_toArray, List.map_cons, List.map_nil]); first | done | rfl | (simp only [List.length_drop, List.length_take]; rfl)) ?_; (with_reducible refine (ih kj83 (by have := HJ59.out; have := HK2.out; have := HJ76.out; have := HJ78.out; have := HJ83.out; omega) (fun k_ => some k_ = (.slice Ao96 x0_78.length co96 : Value).ownBlock) (.slice Ao96 x0_78.length co96) x0_78 a1 x20_2 (wrap64 ((IntKind.u64.wrap (wrap64 (a1 + a3))) / 2)) a4 t227 w0 _ ?side1 ?side2 ⟨ha4.out.mono trivial⟩ A87.out).mono ?_); (case side1 => repeat (first | (with_reducible first | exact HB.out | apply below_alloc | apply pw_below_drewN | apply below_drew1) | exact HB.out)); (case side2 => exact Kd.R_tight rfl HO_0.out); rintro e w97 ⟨rfl, hy0, hb, hkp⟩; refine ⟨_, rfl, ?_⟩; have n0_ := Aside0.mk (Kd.R_reok rfl hy0 (fun k_ e_ => HO_0.out.1 k_ e_)); have n1_ := Aside0.mk (Kept.then_ (S := (fun k_ => P0_ k_)) (by repeat (first | (with_reducible first | exact HK.out | apply Kept.alloc | apply Kept.drewN | apply Kept.drew) | exact HK.out)) hkp (fun k_ hs_ => (fun e_ => (HO_0.out.1 k_ e_.symm)) hs_)); have n2_ := Aside0.mk (hb); clear HO_0; clear HK; clear HB; have HO_0 := n0_; have HK := n1_; have HB := n2_; clear n0_ n1_ n2_; (try clear hb); (try clear hkp); (try clear hy0)))
                    first | go_end0 | ((try simp only [Exit.inBlock, Exit.then]); refine bodyPost_ret (results_none rfl _ _ _) rfl ?_)
                    exact ⟨by first | rfl | (simp [errW_none, errW_some] <;> rfl) | (simp [*, errW_none, errW_some] <;> rfl), by (with_reducible repeat (first | apply Kd.R_alloc | apply Kd.R_drewN | apply Kd.R_drew)); exact HO_0.out, by repeat (first | (with_reducible first | exact HB.out | apply below_alloc | apply pw_below_drewN | apply below_drew1) | exact HB.out), by repeat (first | (with_reducible first | exact HK.out | apply Kept.alloc | apply Kept.drewN | apply Kept.drew) | exact HK.out)⟩
                  ·replace c86 := Bool.eq_false_iff.mpr c86
                   subst c86
                   have H1 := H; rw [if_neg (show ¬ (false = true) by decide)] at H1
                   clear H
                   have H := H1
                   clear H1
                   by_cases c98 : (wrap64 ((IntKind.u64.wrap (wrap64 (a1 + a3))) / 2)) < (wrap64 ((wrap64 ((wrap64 ((IntKind.u64.wrap (wrap64 (a1 + a3))) / 2)) + a2)) - x20_2))
                   ·rw [if_pos c98] at H
                    have c98b0 : decide ((wrap64 ((IntKind.u64.wrap (wrap64 (a1 + a3))) / 2)) < (wrap64 ((wrap64 ((wrap64 ((IntKind.u64.wrap (wrap64 (a1 + a3))) / 2)) + a2)) - x20_2))) = true := decide_eq_true c98
                    clear c98
                    by_cases c99 : (wrap64 ((wrap64 ((wrap64 ((IntKind.u64.wrap (wrap64 (a1 + a3))) / 2)) + a2)) - x20_2)) < a3
                    ·rw [if_pos c99] at H
                     have c99b0 : decide ((wrap64 ((wrap64 ((wrap64 ((IntKind.u64.wrap (wrap64 (a1 + a3))) / 2)) + a2)) - x20_2)) < a3) = true := decide_eq_true c99
                     clear c99
                     replace H := Option.bind_eq_some_iff.mp H
                     obtain ⟨t229, A1000, H⟩ := H
                     have A100 := Aside0.mk A1000
                     clear A1000
                     obtain rfl := Option.some.inj H
                     obtain ⟨Ao101, co101, eo101⟩ := Kd.R_slice HO_0.out
                     subst eo101
                     go_wp2_with (first | ((with_reducible refine gate_callee (f := 78) rfl ?_); refine goesL_ (some 219) rfl rfl Try.func78 (by kernel_rfl) rfl #[.slice Ao101 x0_78.length co101, .int .i64 (wrap64 ((IntKind.u64.wrap (wrap64 (a1 + a3))) / 2)), .int .i64 (wrap64 ((wrap64 ((wrap64 ((IntKind.u64.wrap (wrap64 (a1 + a3))) / 2)) + a2)) - x20_2)), .int .i64 a3, (.func (.func cf4) #[] cc4)] rfl (by (try simp only [List.map_toArray, List.map_cons, List.map_nil]); first | done | rfl | (simp only [List.length_drop, List.length_take]; rfl)) ?_; (with_reducible refine (ih kj83 (by have := HJ59.out; have := HK2.out; have := HJ76.out; have := HJ78.out; have := HJ83.out; omega) (fun k_ => some k_ = (.slice Ao101 x0_78.length co101 : Value).ownBlock) (.slice Ao101 x0_78.length co101) x0_78 (wrap64 ((IntKind.u64.wrap (wrap64 (a1 + a3))) / 2)) (wrap64 ((wrap64 ((wrap64 ((IntKind.u64.wrap (wrap64 (a1 + a3))) / 2)) + a2)) - x20_2)) a3 a4 t229 w0 _ ?side1 ?side2 ⟨ha4.out.mono trivial⟩ A100.out).mono ?_); (case side1 => repeat (first | (with_reducible first | exact HB.out | apply below_alloc | apply pw_below_drewN | apply below_drew1) | exact HB.out)); (case side2 => exact Kd.R_tight rfl HO_0.out); rintro e w102 ⟨rfl, hy0, hb, hkp⟩; refine ⟨_, rfl, ?_⟩; have n0_ := Aside0.mk (Kd.R_reok rfl hy0 (fun k_ e_ => HO_0.out.1 k_ e_)); have n1_ := Aside0.mk (Kept.then_ (S := (fun k_ => P0_ k_)) (by repeat (first | (with_reducible first | exact HK.out | apply Kept.alloc | apply Kept.drewN | apply Kept.drew) | exact HK.out)) hkp (fun k_ hs_ => (fun e_ => (HO_0.out.1 k_ e_.symm)) hs_)); have n2_ := Aside0.mk (hb); clear HO_0; clear HK; clear HB; have HO_0 := n0_; have HK := n1_; have HB := n2_; clear n0_ n1_ n2_; (try clear hb); (try clear hkp); (try clear hy0)))
                     first | go_end0 | ((try simp only [Exit.inBlock, Exit.then]); refine bodyPost_ret (results_none rfl _ _ _) rfl ?_)
                     exact ⟨by first | rfl | (simp [errW_none, errW_some] <;> rfl) | (simp [*, errW_none, errW_some] <;> rfl), by (with_reducible repeat (first | apply Kd.R_alloc | apply Kd.R_drewN | apply Kd.R_drew)); exact HO_0.out, by repeat (first | (with_reducible first | exact HB.out | apply below_alloc | apply pw_below_drewN | apply below_drew1) | exact HB.out), by repeat (first | (with_reducible first | exact HK.out | apply Kept.alloc | apply Kept.drewN | apply Kept.drew) | exact HK.out)⟩
                    ·rw [if_neg c99] at H
                     have c99b0 : decide ((wrap64 ((wrap64 ((wrap64 ((IntKind.u64.wrap (wrap64 (a1 + a3))) / 2)) + a2)) - x20_2)) < a3) = false := decide_eq_false c99
                     clear c99
                     obtain rfl := Option.some.inj H
                     go_wp2
                     first | go_end0 | ((try simp only [Exit.inBlock, Exit.then]); refine bodyPost_ret (results_none rfl _ _ _) rfl ?_)
                     exact ⟨by first | rfl | (simp [errW_none, errW_some] <;> rfl) | (simp [*, errW_none, errW_some] <;> rfl), by (with_reducible repeat (first | apply Kd.R_alloc | apply Kd.R_drewN | apply Kd.R_drew)); exact HO_0.out, by repeat (first | (with_reducible first | exact HB.out | apply below_alloc | apply pw_below_drewN | apply below_drew1) | exact HB.out), by repeat (first | (with_reducible first | exact HK.out | apply Kept.alloc | apply Kept.drewN | apply Kept.drew) | exact HK.out)⟩
                   ·rw [if_neg c98] at H
                    have c98b0 : decide ((wrap64 ((IntKind.u64.wrap (wrap64 (a1 + a3))) / 2)) < (wrap64 ((wrap64 ((wrap64 ((IntKind.u64.wrap (wrap64 (a1 + a3))) / 2)) + a2)) - x20_2))) = false := decide_eq_false c98
                    clear c98
                    obtain rfl := Option.some.inj H
                    go_wp2
                    first | go_end0 | ((try simp only [Exit.inBlock, Exit.then]); refine bodyPost_ret (results_none rfl _ _ _) rfl ?_)
                    exact ⟨by first | rfl | (simp [errW_none, errW_some] <;> rfl) | (simp [*, errW_none, errW_some] <;> rfl), by (with_reducible repeat (first | apply Kd.R_alloc | apply Kd.R_drewN | apply Kd.R_drew)); exact HO_0.out, by repeat (first | (with_reducible first | exact HB.out | apply below_alloc | apply pw_below_drewN | apply below_drew1) | exact HB.out), by repeat (first | (with_reducible first | exact HK.out | apply Kept.alloc | apply Kept.drewN | apply Kept.drew) | exact HK.out)⟩

end Go.Proofs.Ytbafihapjbkagaa.PFnExactFlat
