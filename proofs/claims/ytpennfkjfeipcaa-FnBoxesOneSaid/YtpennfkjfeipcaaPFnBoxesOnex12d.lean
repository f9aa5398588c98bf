/- The functions that the law reaches, as Lean functions, each with the proof that the Go code comes to just these answers. Written by a program of this session (wip/tools/handprint.py over the kit's print); by hand where the print takes no such text. -/
-- squeezed
import Derived.Test.YtpennfkjfeipcaaPFnBoxesOnex0
import Derived.Test.YtpennfkjfeipcaaPFnBoxesOnex2
import Derived.Test.YtpennfkjfeipcaaPFnBoxesOnex10
import Derived.Test.YtpennfkjfeipcaaPFnBoxesOnex11
namespace Go.Proofs.Ytpennfkjfeipcaa.PFnBoxesOne
open Go.RowKit Go.Proofs.YtpennfkjfeipcaaW.PrintWords Go.Proofs.YtpennfkjfeipcaaW.PrintLast Go.Proofs.YtpennfkjfeipcaaW.PrintMore
attribute [local go_sem] max2_int min2_int max_two min_two max_three min_three max_four min_four   -- for this text's walks alone
set_option linter.unusedVariables false
set_option linter.unusedSimpArgs false

/-! ### spec_l2DrawBoxes: function 55 -/
mutual
def spec_l2DrawBoxes.l0 : Nat → List (S46) → Int → List Int → Int → Int → Option ((List (S46)) × Int × Int)
 | 0, _, _, _, _, _ => none
 | k + 1, x3, x4, x1000, x1001, x1002 => if x4 > 0 then ((some (([(⟨#[77, 79, 79, 86]⟩ : ByteArray), (⟨#[84, 82, 65, 75]⟩ : ByteArray), (⟨#[109, 100, 97, 116]⟩ : ByteArray), (⟨#[101, 108, 115, 116]⟩ : ByteArray), (⟨#[102, 48, 117, 114]⟩ : ByteArray), (⟨#[69, 100, 105, 116]⟩ : ByteArray), (⟨#[48, 97, 98, 99]⟩ : ByteArray)] : List ByteArray) : List ByteArray)).bind fun y162 => ((spec_l1Below.f x1000 x1001 x1002 7).bind fun bt165 => (if 0 ≤ bt165.1 then (if bt165.1 < (y162.length : Int) then (if (x3.length : Int) > 0 then (if 0 ≤ (wrap64 ((x3.length : Int) - 1)) then (if (wrap64 ((x3.length : Int) - 1)) < (x3.length : Int) then ((spec_l1Below.f x1000 bt165.2.1 bt165.2.2 (wrap64 (((rd_T46 x3 (wrap64 ((x3.length : Int) - 1))).f1) + 1))).bind fun bt172 => ((spec_l2Holds.f ((rd_T46 x3 (wrap64 ((x3.length : Int) - 1))).f0)).bind fun t175 => (if t175 = true then (if ((rd_T46 x3 (wrap64 ((x3.length : Int) - 1))).f1) < 8 then ((spec_l1Once.f x1000 bt172.2.1 bt172.2.2 3).bind fun bt176 => (if bt176.1 = true then (spec_l2DrawBoxes.j1 k x3 x4 x1000 bt176.2.1 bt176.2.2 (rdOf ByteArray.empty y162 bt165.1) bt172.1) else (spec_l2DrawBoxes.j1 k x3 x4 x1000 bt176.2.1 bt176.2.2 (rdOf ByteArray.empty y162 bt165.1) (wrap64 (((rd_T46 x3 (wrap64 ((x3.length : Int) - 1))).f1) + 1))))) else (spec_l2DrawBoxes.j1 k x3 x4 x1000 bt172.2.1 bt172.2.2 (rdOf ByteArray.empty y162 bt165.1) bt172.1)) else (spec_l2DrawBoxes.j1 k x3 x4 x1000 bt172.2.1 bt172.2.2 (rdOf ByteArray.empty y162 bt165.1) bt172.1)))) else (none)) else (none)) else (spec_l2DrawBoxes.j1 k x3 x4 x1000 bt165.2.1 bt165.2.2 (rdOf ByteArray.empty y162 bt165.1) 0)) else (none)) else (none)))) else ((spec_l1Once.f x1000 x1001 x1002 16).bind fun bt195 => (if bt195.1 = true then (spec_l2DrawBoxes.j3 k x3 (decide ((x3.length : Int) > 0)) x1000 bt195.2.1 bt195.2.2) else (spec_l2DrawBoxes.j3 k x3 false x1000 bt195.2.1 bt195.2.2)))
def spec_l2DrawBoxes.j1 : Nat → List (S46) → Int → List Int → Int → Int → ByteArray → Int → Option ((List (S46)) × Int × Int)
 | 0, _, _, _, _, _, _, _ => none
 | k + 1, x3, x4, x1000, x1001, x1002, x170000, x170001 => (spec_l2Holds.f x170000).bind fun t179 => (if t179 = true then (if x3.length < 2932031007402 then (spec_l2DrawBoxes.l0 k (x3 ++ [(⟨x170000, x170001, ([] : List Int)⟩ : S46)]) (wrap64 (x4 - 1)) x1000 x1001 x1002) else (none)) else ((spec_l1Below.f x1000 x1001 x1002 6).bind fun bt183 => (spec_l2DrawBoxes.l1 k x3 x4 bt183.1 x1000 bt183.2.1 bt183.2.2 x170000 x170001 ([] : List Int))))
def spec_l2DrawBoxes.l1 : Nat → List (S46) → Int → Int → List Int → Int → Int → ByteArray → Int → List Int → Option ((List (S46)) × Int × Int)
 | 0, _, _, _, _, _, _, _, _, _ => none
 | k + 1, x3, x4, x7, x1000, x1001, x1002, x170000, x170001, x170002 => if x7 > 0 then ((spec_l1Byte.f x1000 x1001 x1002).bind fun bt186 => (if x170002.length < 140737488355328 then (spec_l2DrawBoxes.l1 k x3 x4 (wrap64 (x7 - 1)) x1000 bt186.2.1 bt186.2.2 x170000 x170001 (x170002 ++ [(bt186.1) % 256])) else (none))) else (if x3.length < 2932031007402 then (spec_l2DrawBoxes.l0 k (x3 ++ [(⟨x170000, x170001, x170002⟩ : S46)]) (wrap64 (x4 - 1)) x1000 x1001 x1002) else (none))
def spec_l2DrawBoxes.j3 : Nat → List (S46) → Bool → List Int → Int → Int → Option ((List (S46)) × Int × Int)
 | 0, _, _, _, _, _ => none
 | k + 1, x3, x84, x1000, x1001, x1002 => if x84 = true then ((spec_l1Below.f x1000 x1001 x1002 (x3.length : Int)).bind fun bt198 => (if 0 ≤ bt198.1 then (if bt198.1 < (x3.length : Int) then ((spec_l1Below.f x1000 bt198.2.1 bt198.2.2 4).bind fun bt201 => (if bt201.1 = 0 then ((some (([(⟨#[]⟩ : ByteArray), (⟨#[97, 98, 99]⟩ : ByteArray), (⟨#[97, 98, 45, 100]⟩ : ByteArray), (⟨#[97, 98, 99, 100, 101]⟩ : ByteArray), (⟨#[77, 79, 79, 86]⟩ : ByteArray)] : List ByteArray) : List ByteArray)).bind fun y204 => ((spec_l1Below.f x1000 bt201.2.1 bt201.2.2 5).bind fun bt207 => (if 0 ≤ bt207.1 then (if bt207.1 < (y204.length : Int) then (spec_l2DrawBoxes.j4 k (x3.set (bt198.1 : Int).toNat (⟨rdOf ByteArray.empty y204 bt207.1, (rd_T46 x3 bt198.1).f1, (rd_T46 x3 bt198.1).f2⟩ : S46)) x1000 bt207.2.1 bt207.2.2) else (none)) else (none)))) else (if bt201.1 = 1 then ((some (([(-1), 0, 9, wrap64 (((rd_T46 x3 bt198.1).f1) + 1)] : List Int) : List Int)).bind fun y213 => ((spec_l1Below.f x1000 bt201.2.1 bt201.2.2 4).bind fun bt216 => (if 0 ≤ bt216.1 then (if bt216.1 < (y213.length : Int) then (spec_l2DrawBoxes.j4 k (x3.set (bt198.1 : Int).toNat (⟨(rd_T46 x3 bt198.1).f0, rd y213 bt216.1, (rd_T46 x3 bt198.1).f2⟩ : S46)) x1000 bt216.2.1 bt216.2.2) else (none)) else (none)))) else (if bt201.1 = 2 then (if ((rd_T46 x3 bt198.1).f2).length < 140737488355328 then (spec_l2DrawBoxes.j4 k (x3.set (bt198.1 : Int).toNat (⟨(rd_T46 x3 bt198.1).f0, (rd_T46 x3 bt198.1).f1, (((rd_T46 x3 bt198.1).f2) ++ [7])⟩ : S46)) x1000 bt201.2.1 bt201.2.2) else (none)) else (if bt201.1 = 3 then ((spec_l1Below.f x1000 bt201.2.1 bt201.2.2 2).bind fun bt226 => (if 0 ≤ (wrap64 (20000 + bt226.1)) then (if (wrap64 (20000 + bt226.1) : Int).toNat ≤ 281474976710656 then (spec_l2DrawBoxes.j4 k (x3.set (bt198.1 : Int).toNat (⟨(rd_T46 x3 bt198.1).f0, (rd_T46 x3 bt198.1).f1, (List.replicate (wrap64 (20000 + bt226.1) : Int).toNat 0)⟩ : S46)) x1000 bt226.2.1 bt226.2.2) else (none)) else (none))) else (spec_l2DrawBoxes.j4 k x3 x1000 bt201.2.1 bt201.2.2)))))) else (none)) else (none))) else (spec_l2DrawBoxes.j4 k x3 x1000 x1001 x1002)
def spec_l2DrawBoxes.j4 : Nat → List (S46) → List Int → Int → Int → Option ((List (S46)) × Int × Int)
 | 0, _, _, _, _ => none
 | k + 1, x3, x1000, x1001, x1002 => (spec_l1Once.f x1000 x1001 x1002 40).bind fun bt233 => (if bt233.1 = true then (spec_l2DrawBoxes.l2 k (([] : List (S46))) 0 x1000 bt233.2.1 bt233.2.2) else (spec_l2DrawBoxes.j6 k x3 x1000 bt233.2.1 bt233.2.2))
def spec_l2DrawBoxes.j6 : Nat → List (S46) → List Int → Int → Int → Option ((List (S46)) × Int × Int)
 | 0, _, _, _, _ => none
 | k + 1, x3, x1000, x1001, x1002 => (spec_l1Once.f x1000 x1001 x1002 40).bind fun bt245 => (if bt245.1 = true then (spec_l2DrawBoxes.l3 k (([] : List (S46))) 0 x1000 bt245.2.1 bt245.2.2) else (some (x3, bt245.2.1, bt245.2.2)))
def spec_l2DrawBoxes.l3 : Nat → List (S46) → Int → List Int → Int → Int → Option ((List (S46)) × Int × Int)
 | 0, _, _, _, _, _ => none
 | k + 1, x3, x10, x1000, x1001, x1002 => (spec_l1Below.f x1000 x1001 x1002 2).bind fun bt251 => (if x10 < (wrap64 (9 + bt251.1)) then (if x3.length < 2932031007402 then (spec_l2DrawBoxes.l3 k (x3 ++ [(⟨(⟨#[68, 69, 69, 80]⟩ : ByteArray), x10, ([] : List Int)⟩ : S46)]) (wrap64 (x10 + 1)) x1000 bt251.2.1 bt251.2.2) else (none)) else (some (x3, bt251.2.1, bt251.2.2)))
def spec_l2DrawBoxes.l2 : Nat → List (S46) → Int → List Int → Int → Int → Option ((List (S46)) × Int × Int)
 | 0, _, _, _, _, _ => none
 | k + 1, x3, x9, x1000, x1001, x1002 => (spec_l1Below.f x1000 x1001 x1002 2).bind fun bt239 => (if x9 < (wrap64 (200 + bt239.1)) then (if x3.length < 2932031007402 then (spec_l2DrawBoxes.l2 k (x3 ++ [(⟨(⟨#[115, 107, 105, 112]⟩ : ByteArray), 0, ([] : List Int)⟩ : S46)]) (wrap64 (x9 + 1)) x1000 bt239.2.1 bt239.2.2) else (none)) else (spec_l2DrawBoxes.j6 k x3 x1000 bt239.2.1 bt239.2.2))
end
def spec_l2DrawBoxes.f (k : Nat) (s0_0 : List Int) (s0_1 : Int) (s0_2 : Int) : Option ((List (S46)) × Int × Int) := (spec_l1Below.f s0_0 s0_1 s0_2 12).bind fun bt159 => (spec_l2DrawBoxes.l0 k (([] : List (S46))) bt159.1 s0_0 bt159.2.1 bt159.2.2)
theorem spec_l2DrawBoxes.mono_l : ∀ k, (∀ y0 y1 y2 y3 y4, LeO (spec_l2DrawBoxes.l0 k y0 y1 y2 y3 y4) (spec_l2DrawBoxes.l0 (k + 1) y0 y1 y2 y3 y4)) ∧ (∀ y0 y1 y2 y3 y4 y5 y6, LeO (spec_l2DrawBoxes.j1 k y0 y1 y2 y3 y4 y5 y6) (spec_l2DrawBoxes.j1 (k + 1) y0 y1 y2 y3 y4 y5 y6)) ∧ (∀ y0 y1 y2 y3 y4 y5 y6 y7 y8, LeO (spec_l2DrawBoxes.l1 k y0 y1 y2 y3 y4 y5 y6 y7 y8) (spec_l2DrawBoxes.l1 (k + 1) y0 y1 y2 y3 y4 y5 y6 y7 y8)) ∧ (∀ y0 y1 y2 y3 y4, LeO (spec_l2DrawBoxes.j3 k y0 y1 y2 y3 y4) (spec_l2DrawBoxes.j3 (k + 1) y0 y1 y2 y3 y4)) ∧ (∀ y0 y1 y2 y3, LeO (spec_l2DrawBoxes.j4 k y0 y1 y2 y3) (spec_l2DrawBoxes.j4 (k + 1) y0 y1 y2 y3)) ∧ (∀ y0 y1 y2 y3, LeO (spec_l2DrawBoxes.j6 k y0 y1 y2 y3) (spec_l2DrawBoxes.j6 (k + 1) y0 y1 y2 y3)) ∧ (∀ y0 y1 y2 y3 y4, LeO (spec_l2DrawBoxes.l3 k y0 y1 y2 y3 y4) (spec_l2DrawBoxes.l3 (k + 1) y0 y1 y2 y3 y4)) ∧ (∀ y0 y1 y2 y3 y4, LeO (spec_l2DrawBoxes.l2 k y0 y1 y2 y3 y4) (spec_l2DrawBoxes.l2 (k + 1) y0 y1 y2 y3 y4))
 | 0 => ⟨fun _ _ _ _ _ r h => by simp [spec_l2DrawBoxes.l0] at h, fun _ _ _ _ _ _ _ r h => by simp [spec_l2DrawBoxes.j1] at h, fun _ _ _ _ _ _ _ _ _ r h => by simp [spec_l2DrawBoxes.l1] at h, fun _ _ _ _ _ r h => by simp [spec_l2DrawBoxes.j3] at h, fun _ _ _ _ r h => by simp [spec_l2DrawBoxes.j4] at h, fun _ _ _ _ r h => by simp [spec_l2DrawBoxes.j6] at h, fun _ _ _ _ _ r h => by simp [spec_l2DrawBoxes.l3] at h, fun _ _ _ _ _ r h => by simp [spec_l2DrawBoxes.l2] at h⟩
 | k + 1 => by
  obtain ⟨ih0, ih1, ih2, ih3, ih4, ih5, ih6, ih7⟩ := spec_l2DrawBoxes.mono_l k
  refine ⟨?_, ?_, ?_, ?_, ?_, ?_, ?_, ?_⟩
  ·intro y0 y1 y2 y3 y4
   unfold spec_l2DrawBoxes.l0
   repeat' first
   | (with_reducible exact ih0 _ _ _ _ _)
   | (with_reducible exact ih1 _ _ _ _ _ _ _)
   | (with_reducible exact ih2 _ _ _ _ _ _ _ _ _)
   | (with_reducible exact ih3 _ _ _ _ _)
   | (with_reducible exact ih4 _ _ _ _)
   | (with_reducible exact ih5 _ _ _ _)
   | (with_reducible exact ih6 _ _ _ _ _)
   | (with_reducible exact ih7 _ _ _ _ _)
   | (with_reducible exact LeO.refl _)
   | (with_reducible exact LeO.none _)
   | (with_reducible refine LeO.ite ?_ ?_)
   | (with_reducible refine LeO.bind ?_ (fun _ => ?_))
   | exact ih0 _ _ _ _ _
   | exact ih1 _ _ _ _ _ _ _
   | exact ih2 _ _ _ _ _ _ _ _ _
   | exact ih3 _ _ _ _ _
   | exact ih4 _ _ _ _
   | exact ih5 _ _ _ _
   | exact ih6 _ _ _ _ _
   | exact ih7 _ _ _ _ _
   | exact LeO.none _
   | refine LeO.ite ?_ ?_
   | refine LeO.bind ?_ (fun _ => ?_)
  ·intro y0 y1 y2 y3 y4 y5 y6
   unfold spec_l2DrawBoxes.j1
   repeat' first
   | (with_reducible exact ih0 _ _ _ _ _)
   | (with_reducible exact ih1 _ _ _ _ _ _ _)
   | (with_reducible exact ih2 _ _ _ _ _ _ _ _ _)
   | (with_reducible exact ih3 _ _ _ _ _)
   | (with_reducible exact ih4 _ _ _ _)
   | (with_reducible exact ih5 _ _ _ _)
   | (with_reducible exact ih6 _ _ _ _ _)
   | (with_reducible exact ih7 _ _ _ _ _)
   | (with_reducible exact LeO.refl _)
   | (with_reducible exact LeO.none _)
   | (with_reducible refine LeO.ite ?_ ?_)
   | (with_reducible refine LeO.bind ?_ (fun _ => ?_))
   | exact ih0 _ _ _ _ _
   | exact ih1 _ _ _ _ _ _ _
   | exact ih2 _ _ _ _ _ _ _ _ _
   | exact ih3 _ _ _ _ _
   | exact ih4 _ _ _ _
   | exact ih5 _ _ _ _
   | exact ih6 _ _ _ _ _
   | exact ih7 _ _ _ _ _
   | exact LeO.none _
   | refine LeO.ite ?_ ?_
   | refine LeO.bind ?_ (fun _ => ?_)
  ·intro y0 y1 y2 y3 y4 y5 y6 y7 y8
   unfold spec_l2DrawBoxes.l1
   repeat' first
   | (with_reducible exact ih0 _ _ _ _ _)
   | (with_reducible exact ih1 _ _ _ _ _ _ _)
   | (with_reducible exact ih2 _ _ _ _ _ _ _ _ _)
   | (with_reducible exact ih3 _ _ _ _ _)
   | (with_reducible exact ih4 _ _ _ _)
   | (with_reducible exact ih5 _ _ _ _)
   | (with_reducible exact ih6 _ _ _ _ _)
   | (with_reducible exact ih7 _ _ _ _ _)
   | (with_reducible exact LeO.refl _)
   | (with_reducible exact LeO.none _)
   | (with_reducible refine LeO.ite ?_ ?_)
   | (with_reducible refine LeO.bind ?_ (fun _ => ?_))
   | exact ih0 _ _ _ _ _
   | exact ih1 _ _ _ _ _ _ _
   | exact ih2 _ _ _ _ _ _ _ _ _
   | exact ih3 _ _ _ _ _
   | exact ih4 _ _ _ _
   | exact ih5 _ _ _ _
   | exact ih6 _ _ _ _ _
   | exact ih7 _ _ _ _ _
   | exact LeO.none _
   | refine LeO.ite ?_ ?_
   | refine LeO.bind ?_ (fun _ => ?_)
  ·intro y0 y1 y2 y3 y4
   unfold spec_l2DrawBoxes.j3
   repeat' first
   | (with_reducible exact ih0 _ _ _ _ _)
   | (with_reducible exact ih1 _ _ _ _ _ _ _)
   | (with_reducible exact ih2 _ _ _ _ _ _ _ _ _)
   | (with_reducible exact ih3 _ _ _ _ _)
   | (with_reducible exact ih4 _ _ _ _)
   | (with_reducible exact ih5 _ _ _ _)
   | (with_reducible exact ih6 _ _ _ _ _)
   | (with_reducible exact ih7 _ _ _ _ _)
   | (with_reducible exact LeO.refl _)
   | (with_reducible exact LeO.none _)
   | (with_reducible refine LeO.ite ?_ ?_)
   | (with_reducible refine LeO.bind ?_ (fun _ => ?_))
   | exact ih0 _ _ _ _ _
   | exact ih1 _ _ _ _ _ _ _
   | exact ih2 _ _ _ _ _ _ _ _ _
   | exact ih3 _ _ _ _ _
   | exact ih4 _ _ _ _
   | exact ih5 _ _ _ _
   | exact ih6 _ _ _ _ _
   | exact ih7 _ _ _ _ _
   | exact LeO.none _
   | refine LeO.ite ?_ ?_
   | refine LeO.bind ?_ (fun _ => ?_)
  ·intro y0 y1 y2 y3
   unfold spec_l2DrawBoxes.j4
   repeat' first
   | (with_reducible exact ih0 _ _ _ _ _)
   | (with_reducible exact ih1 _ _ _ _ _ _ _)
   | (with_reducible exact ih2 _ _ _ _ _ _ _ _ _)
   | (with_reducible exact ih3 _ _ _ _ _)
   | (with_reducible exact ih4 _ _ _ _)
   | (with_reducible exact ih5 _ _ _ _)
   | (with_reducible exact ih6 _ _ _ _ _)
   | (with_reducible exact ih7 _ _ _ _ _)
   | (with_reducible exact LeO.refl _)
   | (with_reducible exact LeO.none _)
   | (with_reducible refine LeO.ite ?_ ?_)
   | (with_reducible refine LeO.bind ?_ (fun _ => ?_))
   | exact ih0 _ _ _ _ _
   | exact ih1 _ _ _ _ _ _ _
   | exact ih2 _ _ _ _ _ _ _ _ _
   | exact ih3 _ _ _ _ _
   | exact ih4 _ _ _ _
   | exact ih5 _ _ _ _
   | exact ih6 _ _ _ _ _
   | exact ih7 _ _ _ _ _
   | exact LeO.none _
   | refine LeO.ite ?_ ?_
   | refine LeO.bind ?_ (fun _ => ?_)
  ·intro y0 y1 y2 y3
   unfold spec_l2DrawBoxes.j6
   repeat' first
   | (with_reducible exact ih0 _ _ _ _ _)
   | (with_reducible exact ih1 _ _ _ _ _ _ _)
   | (with_reducible exact ih2 _ _ _ _ _ _ _ _ _)
   | (with_reducible exact ih3 _ _ _ _ _)
   | (with_reducible exact ih4 _ _ _ _)
   | (with_reducible exact ih5 _ _ _ _)
   | (with_reducible exact ih6 _ _ _ _ _)
   | (with_reducible exact ih7 _ _ _ _ _)
   | (with_reducible exact LeO.refl _)
   | (with_reducible exact LeO.none _)
   | (with_reducible refine LeO.ite ?_ ?_)
   | (with_reducible refine LeO.bind ?_ (fun _ => ?_))
   | exact ih0 _ _ _ _ _
   | exact ih1 _ _ _ _ _ _ _
   | exact ih2 _ _ _ _ _ _ _ _ _
   | exact ih3 _ _ _ _ _
   | exact ih4 _ _ _ _
   | exact ih5 _ _ _ _
   | exact ih6 _ _ _ _ _
   | exact ih7 _ _ _ _ _
   | exact LeO.none _
   | refine LeO.ite ?_ ?_
   | refine LeO.bind ?_ (fun _ => ?_)
  ·intro y0 y1 y2 y3 y4
   unfold spec_l2DrawBoxes.l3
   repeat' first
   | (with_reducible exact ih0 _ _ _ _ _)
   | (with_reducible exact ih1 _ _ _ _ _ _ _)
   | (with_reducible exact ih2 _ _ _ _ _ _ _ _ _)
   | (with_reducible exact ih3 _ _ _ _ _)
   | (with_reducible exact ih4 _ _ _ _)
   | (with_reducible exact ih5 _ _ _ _)
   | (with_reducible exact ih6 _ _ _ _ _)
   | (with_reducible exact ih7 _ _ _ _ _)
   | (with_reducible exact LeO.refl _)
   | (with_reducible exact LeO.none _)
   | (with_reducible refine LeO.ite ?_ ?_)
   | (with_reducible refine LeO.bind ?_ (fun _ => ?_))
   | exact ih0 _ _ _ _ _
   | exact ih1 _ _ _ _ _ _ _
   | exact ih2 _ _ _ _ _ _ _ _ _
   | exact ih3 _ _ _ _ _
   | exact ih4 _ _ _ _
   | exact ih5 _ _ _ _
   | exact ih6 _ _ _ _ _
   | exact ih7 _ _ _ _ _
   | exact LeO.none _
   | refine LeO.ite ?_ ?_
   | refine LeO.bind ?_ (fun _ => ?_)
  ·intro y0 y1 y2 y3 y4
   unfold spec_l2DrawBoxes.l2
   repeat' first
   | (with_reducible exact ih0 _ _ _ _ _)
   | (with_reducible exact ih1 _ _ _ _ _ _ _)
   | (with_reducible exact ih2 _ _ _ _ _ _ _ _ _)
   | (with_reducible exact ih3 _ _ _ _ _)
   | (with_reducible exact ih4 _ _ _ _)
   | (with_reducible exact ih5 _ _ _ _)
   | (with_reducible exact ih6 _ _ _ _ _)
   | (with_reducible exact ih7 _ _ _ _ _)
   | (with_reducible exact LeO.refl _)
   | (with_reducible exact LeO.none _)
   | (with_reducible refine LeO.ite ?_ ?_)
   | (with_reducible refine LeO.bind ?_ (fun _ => ?_))
   | exact ih0 _ _ _ _ _
   | exact ih1 _ _ _ _ _ _ _
   | exact ih2 _ _ _ _ _ _ _ _ _
   | exact ih3 _ _ _ _ _
   | exact ih4 _ _ _ _
   | exact ih5 _ _ _ _
   | exact ih6 _ _ _ _ _
   | exact ih7 _ _ _ _ _
   | exact LeO.none _
   | refine LeO.ite ?_ ?_
   | refine LeO.bind ?_ (fun _ => ?_)
theorem spec_l2DrawBoxes.mono : ∀ a0 a1 a2 k, LeO (spec_l2DrawBoxes.f k a0 a1 a2) (spec_l2DrawBoxes.f (k + 1) a0 a1 a2) := by
 intro a0 a1 a2 k
 obtain ⟨ih0, ih1, ih2, ih3, ih4, ih5, ih6, ih7⟩ := spec_l2DrawBoxes.mono_l k
 unfold spec_l2DrawBoxes.f
 repeat' first
   | (with_reducible exact ih0 _ _ _ _ _)
   | (with_reducible exact ih1 _ _ _ _ _ _ _)
   | (with_reducible exact ih2 _ _ _ _ _ _ _ _ _)
   | (with_reducible exact ih3 _ _ _ _ _)
   | (with_reducible exact ih4 _ _ _ _)
   | (with_reducible exact ih5 _ _ _ _)
   | (with_reducible exact ih6 _ _ _ _ _)
   | (with_reducible exact ih7 _ _ _ _ _)
   | (with_reducible exact LeO.refl _)
   | (with_reducible exact LeO.none _)
   | (with_reducible refine LeO.ite ?_ ?_)
   | (with_reducible refine LeO.bind ?_ (fun _ => ?_))
   | exact ih0 _ _ _ _ _
   | exact ih1 _ _ _ _ _ _ _
   | exact ih2 _ _ _ _ _ _ _ _ _
   | exact ih3 _ _ _ _ _
   | exact ih4 _ _ _ _
   | exact ih5 _ _ _ _
   | exact ih6 _ _ _ _ _
   | exact ih7 _ _ _ _ _
   | exact LeO.none _
   | refine LeO.ite ?_ ?_
   | refine LeO.bind ?_ (fun _ => ?_)
def spec_l2DrawBoxes.T15 : Bool × List (List Nat × List Nat) := (true, [([], []), ([0], [0]), ([], []), ([2], [2]), ([3], [3]), ([4], [4]), ([1, 5, 3], [1, 5]), ([0, 1, 2, 3, 4, 5, 6], []), ([7, 6, 6, 0, 1, 2, 3, 4, 5, 6], [6, 7])])
def spec_l2DrawBoxes.B15 : List Nat := [0, 1, 0, 4, 12, 28, 63, 127, 255]
theorem spec_l2DrawBoxes.tab15 : rtab .any (opsOf Try.f55 15) = spec_l2DrawBoxes.T15 := by kernel_rfl
theorem spec_l2DrawBoxes.bits15 : waitsOk spec_l2DrawBoxes.T15.2 spec_l2DrawBoxes.B15 = true := by kernel_rfl
def spec_l2DrawBoxes.T23 : Bool × List (List Nat × List Nat) := (true, [([], []), ([], []), ([1], [1]), ([2], [2]), ([3], [3]), ([4], [4]), ([5], [5]), ([], []), ([7], [7]), ([6, 8], [6, 8]), ([9], [9]), ([0, 0, 1, 2, 3, 4, 5, 6, 7, 8, 9, 10], [0]), ([11, 0, 1, 2, 3, 4, 5, 6, 7, 8, 9, 10], [11]), ([12, 10, 8, 0, 1, 2, 3, 4, 5, 6, 7, 8, 9, 10], [10, 12])])
def spec_l2DrawBoxes.B23 : List Nat := [0, 0, 2, 6, 14, 30, 62, 0, 128, 510, 1022, 2047, 4095, 8191]
theorem spec_l2DrawBoxes.tab23 : rtab .any (opsOf Try.f55 23) = spec_l2DrawBoxes.T23 := by kernel_rfl
theorem spec_l2DrawBoxes.bits23 : waitsOk spec_l2DrawBoxes.T23.2 spec_l2DrawBoxes.B23 = true := by kernel_rfl
end Go.Proofs.Ytpennfkjfeipcaa.PFnBoxesOne
