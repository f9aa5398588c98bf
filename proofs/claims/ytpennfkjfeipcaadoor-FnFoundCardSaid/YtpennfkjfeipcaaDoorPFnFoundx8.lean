/- The functions that the law reaches, as Lean functions, each with the proof that the Go code comes to just these answers. Written by a program of this session (wip/tools/handprint.py over the kit's print); by hand where the print takes no such text. -/
-- squeezed
import Derived.Test.YtpennfkjfeipcaaDoorPFnFoundx0
import Derived.Test.YtpennfkjfeipcaaDoorPFnFoundx6
import Derived.Test.YtpennfkjfeipcaaDoorPFnFoundx7
namespace Go.Proofs.YtpennfkjfeipcaaDoor.PFnFound
open Go.RowKit Go.Proofs.YtpennfkjfeipcaaDoorW.PrintWords Go.Proofs.YtpennfkjfeipcaaDoorW.PrintLast Go.Proofs.YtpennfkjfeipcaaDoorW.PrintMore
attribute [local go_sem] max2_int min2_int max_two min_two max_three min_three max_four min_four   -- for this text's walks alone
set_option linter.unusedVariables false
set_option linter.unusedSimpArgs false

/-! ### spec_DrawFindBox: function 11 -/
mutual
def spec_DrawFindBox.l0 : Nat → List (S34) → ByteArray → Int → List Int → Int → Int → Option ((List (S34)) × ByteArray)
 | 0, _, _, _, _, _, _ => none
 | k + 1, x5, x6, x7, x276000, x276001, x276002 => if x7 > 0 then (if x6.toList = ([] : List UInt8) then ((some (([(⟨#[77, 79, 79, 86]⟩ : ByteArray), (⟨#[84, 82, 65, 75]⟩ : ByteArray), (⟨#[109, 100, 97, 116]⟩ : ByteArray), (⟨#[101, 108, 115, 116]⟩ : ByteArray), (⟨#[102, 48, 117, 114]⟩ : ByteArray), (⟨#[69, 100, 105, 116]⟩ : ByteArray)] : List ByteArray) : List ByteArray)).bind fun y284 => ((spec_l1Below.f x276000 x276001 x276002 6).bind fun bt287 => (if 0 ≤ bt287.1 then (if bt287.1 < (y284.length : Int) then (if x6.size + (rdOf ByteArray.empty y284 bt287.1).size ≤ 9223372036854775807 then (spec_DrawFindBox.l0 k x5 (x6 ++ (rdOf ByteArray.empty y284 bt287.1)) (wrap64 (x7 - 1)) x276000 bt287.2.1 bt287.2.2) else (none)) else (none)) else (none)))) else (if x6.size + 1 ≤ 9223372036854775807 then ((some (([(⟨#[77, 79, 79, 86]⟩ : ByteArray), (⟨#[84, 82, 65, 75]⟩ : ByteArray), (⟨#[109, 100, 97, 116]⟩ : ByteArray), (⟨#[101, 108, 115, 116]⟩ : ByteArray), (⟨#[102, 48, 117, 114]⟩ : ByteArray), (⟨#[69, 100, 105, 116]⟩ : ByteArray)] : List ByteArray) : List ByteArray)).bind fun y291 => ((spec_l1Below.f x276000 x276001 x276002 6).bind fun bt294 => (if 0 ≤ bt294.1 then (if bt294.1 < (y291.length : Int) then (if (x6 ++ (⟨#[47]⟩ : ByteArray)).size + (rdOf ByteArray.empty y291 bt294.1).size ≤ 9223372036854775807 then (spec_DrawFindBox.l0 k x5 ((x6 ++ (⟨#[47]⟩ : ByteArray)) ++ (rdOf ByteArray.empty y291 bt294.1)) (wrap64 (x7 - 1)) x276000 bt294.2.1 bt294.2.2) else (none)) else (none)) else (none)))) else (none))) else ((spec_l1Once.f x276000 x276001 x276002 2).bind fun bt298 => (if bt298.1 = true then (spec_DrawFindBox.j1 k x5 x6 (decide ((x5.length : Int) > 0)) x276000 bt298.2.1 bt298.2.2) else (spec_DrawFindBox.j1 k x5 x6 false x276000 bt298.2.1 bt298.2.2)))
def spec_DrawFindBox.j1 : Nat → List (S34) → ByteArray → Bool → List Int → Int → Int → Option ((List (S34)) × ByteArray)
 | 0, _, _, _, _, _, _ => none
 | k + 1, x5, x6, x39, x276000, x276001, x276002 => if x39 = true then ((spec_l1Below.f x276000 x276001 x276002 (x5.length : Int)).bind fun bt301 => (if 0 ≤ bt301.1 then (if bt301.1 < (x5.length : Int) then (spec_DrawFindBox.l1 k x5 ((rd_T34 x5 bt301.1).f0) ((rd_T34 x5 bt301.1).f1) bt301.1 x276000 bt301.2.1 bt301.2.2) else (none)) else (none))) else (spec_DrawFindBox.j3 k x5 x6 x276000 x276001 x276002)
def spec_DrawFindBox.j3 : Nat → List (S34) → ByteArray → List Int → Int → Int → Option ((List (S34)) × ByteArray)
 | 0, _, _, _, _, _ => none
 | k + 1, x5, x6, x276000, x276001, x276002 => (spec_l1Once.f x276000 x276001 x276002 14).bind fun bt308 => (if bt308.1 = true then (if x6.size + 1 ≤ 9223372036854775807 then ((some (([(⟨#[]⟩ : ByteArray), (⟨#[77, 79, 79, 86, 47]⟩ : ByteArray), (⟨#[47, 77, 79, 79, 86]⟩ : ByteArray), (⟨#[77, 79, 79]⟩ : ByteArray), x6 ++ (⟨#[120]⟩ : ByteArray), (⟨#[77, 79, 79, 86, 45, 84, 82, 65, 75]⟩ : ByteArray)] : List ByteArray) : List ByteArray)).bind fun y311 => ((spec_l1Below.f x276000 bt308.2.1 bt308.2.2 6).bind fun bt314 => (if 0 ≤ bt314.1 then (if bt314.1 < (y311.length : Int) then (some (x5, rdOf ByteArray.empty y311 bt314.1)) else (none)) else (none)))) else (none)) else (some (x5, x6)))
def spec_DrawFindBox.l1 : Nat → List (S34) → ByteArray → Int → Int → List Int → Int → Int → Option ((List (S34)) × ByteArray)
 | 0, _, _, _, _, _, _, _ => none
 | k + 1, x5, x6, x9, x10, x276000, x276001, x276002 => if x10 ≥ 0 then (if 0 ≤ x10 then (if x10 < (x5.length : Int) then (if ((rd_T34 x5 x10).f1) = (wrap64 (x9 - 1)) then (if ((rd_T34 x5 x10).f0).size + 1 ≤ 9223372036854775807 then (if (((rd_T34 x5 x10).f0) ++ (⟨#[47]⟩ : ByteArray)).size + x6.size ≤ 9223372036854775807 then (spec_DrawFindBox.l1 k x5 ((((rd_T34 x5 x10).f0) ++ (⟨#[47]⟩ : ByteArray)) ++ x6) (wrap64 (x9 - 1)) (wrap64 (x10 - 1)) x276000 x276001 x276002) else (none)) else (none)) else (spec_DrawFindBox.l1 k x5 x6 x9 (wrap64 (x10 - 1)) x276000 x276001 x276002)) else (none)) else (none)) else (spec_DrawFindBox.j3 k x5 x6 x276000 x276001 x276002)
end
def spec_DrawFindBox.f (k : Nat) (l0 : List Int) : Option ((List (S34)) × ByteArray) := (spec_l1New.f k l0).bind fun bt272 => ((spec_l2DrawBoxes.f k bt272.1 bt272.2.1 bt272.2.2).bind fun bt276 => ((spec_l1Below.f bt272.1 bt276.2.1 bt276.2.2 3).bind fun bt281 => (spec_DrawFindBox.l0 k bt276.1 (⟨#[]⟩ : ByteArray) (wrap64 (1 + bt281.1)) bt272.1 bt281.2.1 bt281.2.2)))
theorem spec_DrawFindBox.mono_l : ∀ k, (∀ y0 y1 y2 y3 y4 y5, LeO (spec_DrawFindBox.l0 k y0 y1 y2 y3 y4 y5) (spec_DrawFindBox.l0 (k + 1) y0 y1 y2 y3 y4 y5)) ∧ (∀ y0 y1 y2 y3 y4 y5, LeO (spec_DrawFindBox.j1 k y0 y1 y2 y3 y4 y5) (spec_DrawFindBox.j1 (k + 1) y0 y1 y2 y3 y4 y5)) ∧ (∀ y0 y1 y2 y3 y4, LeO (spec_DrawFindBox.j3 k y0 y1 y2 y3 y4) (spec_DrawFindBox.j3 (k + 1) y0 y1 y2 y3 y4)) ∧ (∀ y0 y1 y2 y3 y4 y5 y6, LeO (spec_DrawFindBox.l1 k y0 y1 y2 y3 y4 y5 y6) (spec_DrawFindBox.l1 (k + 1) y0 y1 y2 y3 y4 y5 y6))
 | 0 => ⟨fun _ _ _ _ _ _ r h => by simp [spec_DrawFindBox.l0] at h, fun _ _ _ _ _ _ r h => by simp [spec_DrawFindBox.j1] at h, fun _ _ _ _ _ r h => by simp [spec_DrawFindBox.j3] at h, fun _ _ _ _ _ _ _ r h => by simp [spec_DrawFindBox.l1] at h⟩
 | k + 1 => by
  obtain ⟨ih0, ih1, ih2, ih3⟩ := spec_DrawFindBox.mono_l k
  refine ⟨?_, ?_, ?_, ?_⟩
  ·intro y0 y1 y2 y3 y4 y5
   unfold spec_DrawFindBox.l0
   repeat' first
   | (with_reducible exact ih0 _ _ _ _ _ _)
   | (with_reducible exact ih1 _ _ _ _ _ _)
   | (with_reducible exact ih2 _ _ _ _ _)
   | (with_reducible exact ih3 _ _ _ _ _ _ _)
   | (with_reducible exact spec_l1New.mono _ _)
   | (with_reducible exact spec_l2DrawBoxes.mono _ _ _ _)
   | (with_reducible exact LeO.refl _)
   | (with_reducible exact LeO.none _)
   | (with_reducible refine LeO.ite ?_ ?_)
   | (with_reducible refine LeO.bind ?_ (fun _ => ?_))
   | exact ih0 _ _ _ _ _ _
   | exact ih1 _ _ _ _ _ _
   | exact ih2 _ _ _ _ _
   | exact ih3 _ _ _ _ _ _ _
   | exact spec_l1New.mono _ _
   | exact spec_l2DrawBoxes.mono _ _ _ _
   | exact LeO.none _
   | refine LeO.ite ?_ ?_
   | refine LeO.bind ?_ (fun _ => ?_)
  ·intro y0 y1 y2 y3 y4 y5
   unfold spec_DrawFindBox.j1
   repeat' first
   | (with_reducible exact ih0 _ _ _ _ _ _)
   | (with_reducible exact ih1 _ _ _ _ _ _)
   | (with_reducible exact ih2 _ _ _ _ _)
   | (with_reducible exact ih3 _ _ _ _ _ _ _)
   | (with_reducible exact spec_l1New.mono _ _)
   | (with_reducible exact spec_l2DrawBoxes.mono _ _ _ _)
   | (with_reducible exact LeO.refl _)
   | (with_reducible exact LeO.none _)
   | (with_reducible refine LeO.ite ?_ ?_)
   | (with_reducible refine LeO.bind ?_ (fun _ => ?_))
   | exact ih0 _ _ _ _ _ _
   | exact ih1 _ _ _ _ _ _
   | exact ih2 _ _ _ _ _
   | exact ih3 _ _ _ _ _ _ _
   | exact spec_l1New.mono _ _
   | exact spec_l2DrawBoxes.mono _ _ _ _
   | exact LeO.none _
   | refine LeO.ite ?_ ?_
   | refine LeO.bind ?_ (fun _ => ?_)
  ·intro y0 y1 y2 y3 y4
   unfold spec_DrawFindBox.j3
   repeat' first
   | (with_reducible exact ih0 _ _ _ _ _ _)
   | (with_reducible exact ih1 _ _ _ _ _ _)
   | (with_reducible exact ih2 _ _ _ _ _)
   | (with_reducible exact ih3 _ _ _ _ _ _ _)
   | (with_reducible exact spec_l1New.mono _ _)
   | (with_reducible exact spec_l2DrawBoxes.mono _ _ _ _)
   | (with_reducible exact LeO.refl _)
   | (with_reducible exact LeO.none _)
   | (with_reducible refine LeO.ite ?_ ?_)
   | (with_reducible refine LeO.bind ?_ (fun _ => ?_))
   | exact ih0 _ _ _ _ _ _
   | exact ih1 _ _ _ _ _ _
   | exact ih2 _ _ _ _ _
   | exact ih3 _ _ _ _ _ _ _
   | exact spec_l1New.mono _ _
   | exact spec_l2DrawBoxes.mono _ _ _ _
   | exact LeO.none _
   | refine LeO.ite ?_ ?_
   | refine LeO.bind ?_ (fun _ => ?_)
  ·intro y0 y1 y2 y3 y4 y5 y6
   unfold spec_DrawFindBox.l1
   repeat' first
   | (with_reducible exact ih0 _ _ _ _ _ _)
   | (with_reducible exact ih1 _ _ _ _ _ _)
   | (with_reducible exact ih2 _ _ _ _ _)
   | (with_reducible exact ih3 _ _ _ _ _ _ _)
   | (with_reducible exact spec_l1New.mono _ _)
   | (with_reducible exact spec_l2DrawBoxes.mono _ _ _ _)
   | (with_reducible exact LeO.refl _)
   | (with_reducible exact LeO.none _)
   | (with_reducible refine LeO.ite ?_ ?_)
   | (with_reducible refine LeO.bind ?_ (fun _ => ?_))
   | exact ih0 _ _ _ _ _ _
   | exact ih1 _ _ _ _ _ _
   | exact ih2 _ _ _ _ _
   | exact ih3 _ _ _ _ _ _ _
   | exact spec_l1New.mono _ _
   | exact spec_l2DrawBoxes.mono _ _ _ _
   | exact LeO.none _
   | refine LeO.ite ?_ ?_
   | refine LeO.bind ?_ (fun _ => ?_)
theorem spec_DrawFindBox.mono : ∀ a0 k, LeO (spec_DrawFindBox.f k a0) (spec_DrawFindBox.f (k + 1) a0) := by
 intro a0 k
 obtain ⟨ih0, ih1, ih2, ih3⟩ := spec_DrawFindBox.mono_l k
 unfold spec_DrawFindBox.f
 repeat' first
   | (with_reducible exact ih0 _ _ _ _ _ _)
   | (with_reducible exact ih1 _ _ _ _ _ _)
   | (with_reducible exact ih2 _ _ _ _ _)
   | (with_reducible exact ih3 _ _ _ _ _ _ _)
   | (with_reducible exact spec_l1New.mono _ _)
   | (with_reducible exact spec_l2DrawBoxes.mono _ _ _ _)
   | (with_reducible exact LeO.refl _)
   | (with_reducible exact LeO.none _)
   | (with_reducible refine LeO.ite ?_ ?_)
   | (with_reducible refine LeO.bind ?_ (fun _ => ?_))
   | exact ih0 _ _ _ _ _ _
   | exact ih1 _ _ _ _ _ _
   | exact ih2 _ _ _ _ _
   | exact ih3 _ _ _ _ _ _ _
   | exact spec_l1New.mono _ _
   | exact spec_l2DrawBoxes.mono _ _ _ _
   | exact LeO.none _
   | refine LeO.ite ?_ ?_
   | refine LeO.bind ?_ (fun _ => ?_)
set_option maxHeartbeats 8000000 in
set_option maxRecDepth 100000 in
theorem spec_DrawFindBox.calls (k : Nat) (A0 : Option Addr) (c0 : Nat) (l0 : List Int) (r1 : List (S34)) (r2 : ByteArray) (w : World) (hr0 : Kd.C (Kd.int .u8) w A0 l0.length l0) (hc0 : l0.length ≤ c0) (h : spec_DrawFindBox.f k l0 = some (r1, r2)) :
  Calls Tryd.prog 11 #[.slice A0 l0.length c0] w fun e w' => ∃ v0_ : Value, e = .returned (.tuple #[v0_, .string r2]) ∧ Kd.S k34 34 w' w.heap.size (fun _ => True) v0_ r1 ∧ Below w.heap.size w w' := by
 have HR0 := Aside0.mk hr0
 have HC0 := Aside0.mk hc0
 clear hr0 hc0
 have HB := Aside0.mk (Below.refl w.heap.size w)
 have H : ((spec_l1New.f k l0).bind fun bt272 => ((spec_l2DrawBoxes.f k bt272.1 bt272.2.1 bt272.2.2).bind fun bt276 => ((spec_l1Below.f bt272.1 bt276.2.1 bt276.2.2 3).bind fun bt281 => (spec_DrawFindBox.l0 k bt276.1 (⟨#[]⟩ : ByteArray) (wrap64 (1 + bt281.1)) bt272.1 bt281.2.1 bt281.2.2)))) = some (r1, r2) := h
 clear h
 replace H := Option.bind_eq_some_iff.mp H
 obtain ⟨⟨t272, t273, t274⟩, A20, H⟩ := H
 have A2 := Aside0.mk A20
 clear A20
 replace H := Option.bind_eq_some_iff.mp H
 obtain ⟨⟨t276, t279, t280⟩, A30, H⟩ := H
 have A3 := Aside0.mk A30
 clear A30
 replace H := Option.bind_eq_some_iff.mp H
 obtain ⟨⟨t281, t282, t283⟩, A40, H⟩ := H
 have A4 := Aside0.mk A40
 clear A40
 have H' := Aside0.mk H
 clear H
 go_enter Tryd.func11, Tryd.ntmps11
 go_wp2_with (first | ((with_reducible refine gate_callee (f := 21) rfl ?_); refine goesL_ (some 12) rfl rfl Tryd.func21 (by kernel_rfl) rfl #[.slice A0 l0.length c0] rfl (by (try simp only [List.map_toArray, List.map_cons, List.map_nil]); first | done | rfl | (simp only [List.length_drop, List.length_take]; rfl)) ?_; (with_reducible refine (spec_l1New.calls k _ _ l0 t272 t273 t274 w _ ?side1 ?side2 ?side3 A2.out).mono ?_); (case side1 => repeat (first | (with_reducible first | exact HB.out | apply below_alloc | apply pw_below_drewN | apply below_drew1) | exact HB.out)); (case side2 => exact HR0.out); (case side3 => exact HC0.out); rintro e w5 ⟨g275, rfl, hi, hb, hb2⟩; refine ⟨_, rfl, ?_⟩; have n0_ := Aside0.mk (hb); have n1_ := Aside0.mk (hi); clear HB; have HB := n0_; have HI275 := n1_; clear n0_ n1_; (try clear hb); (try clear hb2); (try clear hk); (try clear hi)) | ((with_reducible refine gate_callee (f := 22) rfl ?_); refine goesL_ (some 14) rfl rfl Tryd.func22 (by kernel_rfl) rfl #[.pointer (some ⟨g275, 0, none⟩)] rfl (by (try simp only [List.map_toArray, List.map_cons, List.map_nil]); first | done | rfl | (simp only [List.length_drop, List.length_take]; rfl)) ?_; (with_reducible refine (spec_l2DrawBoxes.calls k g275 t272 t273 t274 t276 t279 t280 w _ ?side1 ?side2 A3.out).mono ?_); (case side1 => repeat (first | (with_reducible first | exact HI275.out | apply IsS57.alloc | apply IsS57.drewN | apply IsS57.drew | apply IsS57.set_1 | apply IsS57.set_2) | exact HI275.out)); (case side2 => repeat (first | (with_reducible first | exact HB.out | apply below_alloc | apply pw_below_drewN | apply below_drew1 | refine below_set ?_ (IsS57.ge HI275.out)) | exact HB.out)); rintro e w6 ⟨v277, rfl, ho0, hi, hb, hk⟩; refine ⟨_, rfl, ?_⟩; have n0_ := Aside0.mk (Kd.S_lower ho0 (below_size (by repeat (first | (with_reducible first | exact HB.out | apply below_alloc | apply pw_below_drewN | apply below_drew1 | refine below_set ?_ (IsS57.ge HI275.out)) | exact HB.out)))); have n1_ := Aside0.mk (hb); have n2_ := Aside0.mk (hi); clear HB; clear HI275; have HO278 := n0_; have HB := n1_; have HI275 := n2_; clear n0_ n1_ n2_; (try clear hb); (try clear hb2); (try clear hk); (try clear hi); (try clear ho0)) | ((with_reducible refine gate_callee (f := 23) rfl ?_); refine goesL_ (some 16) rfl rfl Tryd.func23 (by kernel_rfl) rfl #[.pointer (some ⟨g275, 0, none⟩), .int .i64 3] rfl (by (try simp only [List.map_toArray, List.map_cons, List.map_nil]); first | done | rfl | (simp only [List.length_drop, List.length_take]; rfl)) ?_; (with_reducible refine (spec_l1Below.calls g275 t272 t279 t280 3 t281 t282 t283 w _ ?side1 ?side2 A4.out).mono ?_); (case side1 => repeat (first | (with_reducible first | exact HI275.out | apply IsS57.alloc | apply IsS57.drewN | apply IsS57.drew | apply IsS57.set_1 | apply IsS57.set_2) | exact HI275.out)); (case side2 => repeat (first | (with_reducible first | exact HB.out | apply below_alloc | apply pw_below_drewN | apply below_drew1 | refine below_set ?_ (IsS57.ge HI275.out)) | exact HB.out)); rintro e w7 ⟨rfl, hi, hb, hk⟩; refine ⟨_, rfl, ?_⟩; have n0_ := Aside0.mk (Kd.S_mono (Kd.S_keep (IsS57.apartS (show IsS57 w _ g275 t272 t279 t280 from by repeat (first | (with_reducible first | exact HI275.out | apply IsS57.alloc | apply IsS57.drewN | apply IsS57.drew | apply IsS57.set_1 | apply IsS57.set_2) | exact HI275.out)) (by (with_reducible repeat (first | apply Kd.S_alloc | apply Kd.S_drewN | apply Kd.S_drew)); exact HO278.out) (by decide)) hk (fun _ h => h.2)) (fun _ h => h.1)); have n1_ := Aside0.mk (hb); have n2_ := Aside0.mk (hi); clear HO278; clear HB; clear HI275; have HO278 := n0_; have HB := n1_; have HI275 := n2_; clear n0_ n1_ n2_; (try clear hb); (try clear hb2); (try clear hk); (try clear hi)))
 go_loopg [6, 7] k (fun kq v6 v7 w' => ∃ (x6_1 : ByteArray) (x7_1 : Int) (x276001_1 : Int) (x276002_1 : Int), v6 = .string x6_1 ∧ v7 = .int .i64 x7_1 ∧ Aside0 (spec_DrawFindBox.l0 kq t276 x6_1 x7_1 t272 x276001_1 x276002_1 = some (r1, r2)) ∧ Aside0 (kq ≤ k) ∧ Aside0 (Kd.S k34 34 w' w.heap.size (fun _ => True) v277 t276) ∧ Aside0 (IsS57 w w' g275 t272 x276001_1 x276002_1) ∧ Aside0 (Below w.heap.size w w'))
 case atStart => exact ⟨((⟨#[]⟩ : ByteArray)), (wrap64 (1 + t281)), (t282), (t283), (by first | rfl | (simp; done) | (simp [*]; done)), (by first | rfl | (simp; done) | (simp [*]; done)), H', ⟨Nat.le_refl _⟩, ⟨by (with_reducible repeat (first | apply Kd.S_alloc | apply Kd.S_drewN | apply Kd.S_drew)); exact HO278.out⟩, ⟨by repeat (first | (with_reducible first | exact HI275.out | apply IsS57.alloc | apply IsS57.drewN | apply IsS57.drew | apply IsS57.set_1 | apply IsS57.set_2) | exact HI275.out)⟩, ⟨by repeat (first | (with_reducible first | exact HB.out | apply below_alloc | apply pw_below_drewN | apply below_drew1 | refine below_set ?_ (IsS57.ge HI275.out)) | exact HB.out)⟩⟩
 case round =>
  clear H'
  obtain ⟨x6_1, x7_1, x276001_1, x276002_1, rfl, rfl, HA, HK1, HO_5, HI275, HB⟩ := hrel
  cases gk with
  | zero => exact absurd HA.out (by simp [spec_DrawFindBox.l0])
  | succ k1 =>
   have H := HA.out
   clear HA
   simp only [spec_DrawFindBox.l0] at H
   by_cases c8 : x7_1 > 0
   ·rw [if_pos c8] at H
    have c8b0 : decide (0 < x7_1) = true := decide_eq_true c8
    clear c8
    by_cases c9 : x6_1.toList = ([] : List UInt8)
    ·rw [if_pos c9] at H
     have c9b0 : (x6_1.toList == ([] : List UInt8)) = true := beq_iff_eq.mpr c9
     have c9b1 : (x6_1.toList != ([] : List UInt8)) = false := bne_eq_false_iff_eq.mpr c9
     clear c9
     obtain ⟨y284, hy284⟩ : ∃ y_ : List ByteArray, y_ = (([(⟨#[77, 79, 79, 86]⟩ : ByteArray), (⟨#[84, 82, 65, 75]⟩ : ByteArray), (⟨#[109, 100, 97, 116]⟩ : ByteArray), (⟨#[101, 108, 115, 116]⟩ : ByteArray), (⟨#[102, 48, 117, 114]⟩ : ByteArray), (⟨#[69, 100, 105, 116]⟩ : ByteArray)] : List ByteArray)) := ⟨_, rfl⟩
     replace H : ((spec_l1Below.f t272 x276001_1 x276002_1 6).bind fun bt287 => (if 0 ≤ bt287.1 then (if bt287.1 < (y284.length : Int) then (if x6_1.size + (rdOf ByteArray.empty y284 bt287.1).size ≤ 9223372036854775807 then (spec_DrawFindBox.l0 k1 t276 (x6_1 ++ (rdOf ByteArray.empty y284 bt287.1)) (wrap64 (x7_1 - 1)) t272 bt287.2.1 bt287.2.2) else (none)) else (none)) else (none))) = some (r1, r2) := by first | (rw [hy284]; with_reducible exact H) | (have H2_ := (Option.bind_some _ _).symm.trans H; rw [hy284]; with_reducible exact H2_) | (have H2_ := (Option.bind_some _ _).symm.trans H; with_reducible exact H2_) | with_reducible exact H | (rw [hy284]; exact H) | exact H
     have Ny284 := Aside0.mk hy284
     clear hy284
     replace H := Option.bind_eq_some_iff.mp H
     obtain ⟨⟨t287, t288, t289⟩, A100, H⟩ := H
     have A10 := Aside0.mk A100
     clear A100
     by_cases c11 : 0 ≤ t287
     ·rw [if_pos c11] at H
      have c11b0 : decide (0 ≤ t287) = true := decide_eq_true c11
      clear c11
      by_cases c12 : t287 < (y284.length : Int)
      ·rw [if_pos c12] at H
       have c12b0 : decide (t287 < (y284.length : Int)) = true := decide_eq_true c12
       clear c12
       by_cases c13 : x6_1.size + (rdOf ByteArray.empty y284 t287).size ≤ 9223372036854775807
       ·rw [if_pos c13] at H
        have c13b0 := eq_true c13
        have c13b1 : decide (x6_1.size + (rdOf ByteArray.empty y284 t287).size ≤ 9223372036854775807) = true := decide_eq_true c13
        try have c13b2 : (9223372036854775807 < x6_1.size + (rdOf ByteArray.empty y284 t287).size) = False := eq_false (Nat.not_lt.2 c13)
        have H' := Aside0.mk H
        clear H
        go_wp2_with (first | ((with_reducible refine gate_dst (N := 27) rfl ?_); (try (refine gate_guard (by rfl) ?_; dsimp only)); refine Kd.R_lit Kd.string _ 9 ?hg (N := 27) ?hd (xs := ([(⟨#[77, 79, 79, 86]⟩ : ByteArray), (⟨#[84, 82, 65, 75]⟩ : ByteArray), (⟨#[109, 100, 97, 116]⟩ : ByteArray), (⟨#[101, 108, 115, 116]⟩ : ByteArray), (⟨#[102, 48, 117, 114]⟩ : ByteArray), (⟨#[69, 100, 105, 116]⟩ : ByteArray)] : List ByteArray)) (inner := [.string (⟨#[77, 79, 79, 86]⟩ : ByteArray), .string (⟨#[84, 82, 65, 75]⟩ : ByteArray), .string (⟨#[109, 100, 97, 116]⟩ : ByteArray), .string (⟨#[101, 108, 115, 116]⟩ : ByteArray), .string (⟨#[102, 48, 117, 114]⟩ : ByteArray), .string (⟨#[69, 100, 105, 116]⟩ : ByteArray)]) (ok := fun _ => True) (okp := fun _ => True) ?hr ?hp (fun _ hk => hk) trivial (Below.refl _ _) (Nat.le_refl _) (by simp) ?_; (case hd => rfl); (case hg => rfl); (case hr => first | (go_simp; done) | (go_simp; rfl)); (case hp => exact (Reps.one (show Kd.M Kd.string _ _ _ (⟨#[77, 79, 79, 86]⟩ : ByteArray) [.string (⟨#[77, 79, 79, 86]⟩ : ByteArray)] from rfl) (Reps.one (show Kd.M Kd.string _ _ _ (⟨#[84, 82, 65, 75]⟩ : ByteArray) [.string (⟨#[84, 82, 65, 75]⟩ : ByteArray)] from rfl) (Reps.one (show Kd.M Kd.string _ _ _ (⟨#[109, 100, 97, 116]⟩ : ByteArray) [.string (⟨#[109, 100, 97, 116]⟩ : ByteArray)] from rfl) (Reps.one (show Kd.M Kd.string _ _ _ (⟨#[101, 108, 115, 116]⟩ : ByteArray) [.string (⟨#[101, 108, 115, 116]⟩ : ByteArray)] from rfl) (Reps.one (show Kd.M Kd.string _ _ _ (⟨#[102, 48, 117, 114]⟩ : ByteArray) [.string (⟨#[102, 48, 117, 114]⟩ : ByteArray)] from rfl) (Reps.one (show Kd.M Kd.string _ _ _ (⟨#[69, 100, 105, 116]⟩ : ByteArray) [.string (⟨#[69, 100, 105, 116]⟩ : ByteArray)] from rfl) (Reps.none _ _)))))))); intro v285 w14 ho15 hb hg_ hnew_; clear hg_ hnew_; (first | rw [← Ny284.out] at ho15 | (simp only [Int.reduceToNat] at ho15; rw [← Ny284.out] at ho15)); have n0_ := Aside0.mk (Kd.S_below (by (with_reducible repeat (first | apply Kd.S_alloc | apply Kd.S_drewN | apply Kd.S_drew)); exact HO_5.out) hb); have n1_ := Aside0.mk (Kd.R_lower ho15 (below_size (by repeat (first | (with_reducible first | exact HB.out | apply below_alloc | apply pw_below_drewN | apply below_drew1 | refine below_set ?_ (IsS57.ge HI275.out)) | exact HB.out)))); have n2_ := Aside0.mk (IsS57.below (by repeat (first | (with_reducible first | exact HI275.out | apply IsS57.alloc | apply IsS57.drewN | apply IsS57.drew | apply IsS57.set_1 | apply IsS57.set_2) | exact HI275.out)) hb); have n3_ := Aside0.mk (below_step (by repeat (first | (with_reducible first | exact HB.out | apply below_alloc | apply pw_below_drewN | apply below_drew1 | refine below_set ?_ (IsS57.ge HI275.out)) | exact HB.out)) hb); clear HO_5; clear HI275; clear HB; have HO_5 := n0_; have HO286 := n1_; have HI275 := n2_; have HB := n3_; clear n0_ n1_ n2_ n3_; clear hb ho15) | ((with_reducible refine gate_callee (f := 23) rfl ?_); refine goesL_ (some 29) rfl rfl Tryd.func23 (by kernel_rfl) rfl #[.pointer (some ⟨g275, 0, none⟩), .int .i64 6] rfl (by (try simp only [List.map_toArray, List.map_cons, List.map_nil]); first | done | rfl | (simp only [List.length_drop, List.length_take]; rfl)) ?_; (with_reducible refine (spec_l1Below.calls g275 t272 x276001_1 x276002_1 6 t287 t288 t289 w _ ?side1 ?side2 A10.out).mono ?_); (case side1 => repeat (first | (with_reducible first | exact HI275.out | apply IsS57.alloc | apply IsS57.drewN | apply IsS57.drew | apply IsS57.set_1 | apply IsS57.set_2) | exact HI275.out)); (case side2 => repeat (first | (with_reducible first | exact HB.out | apply below_alloc | apply pw_below_drewN | apply below_drew1 | refine below_set ?_ (IsS57.ge HI275.out)) | exact HB.out)); rintro e w16 ⟨rfl, hi, hb, hk⟩; refine ⟨_, rfl, ?_⟩; have n0_ := Aside0.mk (Kd.S_mono (Kd.S_keep (IsS57.apartS (show IsS57 w _ g275 t272 x276001_1 x276002_1 from by repeat (first | (with_reducible first | exact HI275.out | apply IsS57.alloc | apply IsS57.drewN | apply IsS57.drew | apply IsS57.set_1 | apply IsS57.set_2) | exact HI275.out)) (by (with_reducible repeat (first | apply Kd.S_alloc | apply Kd.S_drewN | apply Kd.S_drew)); exact HO_5.out) (by decide)) hk (fun _ h => h.2)) (fun _ h => h.1)); have n1_ := Aside0.mk (Kd.R_mono (Kd.R_keep (IsS57.apart (show IsS57 w _ g275 t272 x276001_1 x276002_1 from by repeat (first | (with_reducible first | exact HI275.out | apply IsS57.alloc | apply IsS57.drewN | apply IsS57.drew | apply IsS57.set_1 | apply IsS57.set_2) | exact HI275.out)) (by (with_reducible repeat (first | apply Kd.R_alloc | apply Kd.R_drewN | apply Kd.R_drew)); exact HO286.out) (by decide)) hk (fun _ h => h.2)) (fun _ h => h.1)); have n2_ := Aside0.mk (hb); have n3_ := Aside0.mk (hi); clear HO_5; clear HO286; clear HB; clear HI275; have HO_5 := n0_; have HO286 := n1_; have HB := n2_; have HI275 := n3_; clear n0_ n1_ n2_ n3_; (try clear hb); (try clear hb2); (try clear hk); (try clear hi); obtain ⟨Ao17, co17, eo17⟩ := Kd.R_slice HO286.out; subst eo17; have p290 : 0 ≤ (t287 : Int) := of_decide_eq_true (by first | (with_reducible assumption) | assumption); have q290 : t287 < (y284.length : Int) := of_decide_eq_true (by first | (with_reducible assumption) | assumption); obtain ⟨ad290, e290, hx290_0⟩ := Kd.at_string (Kd.R_reads' HO286.out).2.2 t287 p290 q290; cases e290; replace p290 := eq_true p290; replace q290 := eq_true q290))
        go_roundg k1
        case measure => have := HK1.out; omega
        case rel => exact ⟨(x6_1 ++ (rdOf ByteArray.empty y284 t287)), (wrap64 (x7_1 - 1)), (t288), (t289), (by first | rfl | (simp; done) | (simp [*]; done)), (by first | rfl | (simp; done) | (simp [*]; done)), H', ⟨by have := HK1.out; omega⟩, ⟨by (with_reducible repeat (first | apply Kd.S_alloc | apply Kd.S_drewN | apply Kd.S_drew)); exact HO_5.out⟩, ⟨by repeat (first | (with_reducible first | exact HI275.out | apply IsS57.alloc | apply IsS57.drewN | apply IsS57.drew | apply IsS57.set_1 | apply IsS57.set_2) | exact HI275.out)⟩, ⟨by repeat (first | (with_reducible first | exact HB.out | apply below_alloc | apply pw_below_drewN | apply below_drew1 | refine below_set ?_ (IsS57.ge HI275.out)) | exact HB.out)⟩⟩
       ·rw [if_neg c13] at H
        exact absurd H (by simp)
      ·rw [if_neg c12] at H
       exact absurd H (by simp)
     ·rw [if_neg c11] at H
      exact absurd H (by simp)
    ·rw [if_neg c9] at H
     have c9b0 : (x6_1.toList == ([] : List UInt8)) = false := beq_eq_false_iff_ne.mpr c9
     have c9b1 : (x6_1.toList != ([] : List UInt8)) = true := bne_iff_ne.mpr c9
     by_cases c18 : x6_1.size + 1 ≤ 9223372036854775807
     ·rw [if_pos c18] at H
      have c18b0 := eq_true c18
      have c18b1 : decide (x6_1.size + 1 ≤ 9223372036854775807) = true := decide_eq_true c18
      try have c18b2 : (9223372036854775807 < x6_1.size + 1) = False := eq_false (Nat.not_lt.2 c18)
      obtain ⟨y291, hy291⟩ : ∃ y_ : List ByteArray, y_ = (([(⟨#[77, 79, 79, 86]⟩ : ByteArray), (⟨#[84, 82, 65, 75]⟩ : ByteArray), (⟨#[109, 100, 97, 116]⟩ : ByteArray), (⟨#[101, 108, 115, 116]⟩ : ByteArray), (⟨#[102, 48, 117, 114]⟩ : ByteArray), (⟨#[69, 100, 105, 116]⟩ : ByteArray)] : List ByteArray)) := ⟨_, rfl⟩
      replace H : ((spec_l1Below.f t272 x276001_1 x276002_1 6).bind fun bt294 => (if 0 ≤ bt294.1 then (if bt294.1 < (y291.length : Int) then (if (x6_1 ++ (⟨#[47]⟩ : ByteArray)).size + (rdOf ByteArray.empty y291 bt294.1).size ≤ 9223372036854775807 then (spec_DrawFindBox.l0 k1 t276 ((x6_1 ++ (⟨#[47]⟩ : ByteArray)) ++ (rdOf ByteArray.empty y291 bt294.1)) (wrap64 (x7_1 - 1)) t272 bt294.2.1 bt294.2.2) else (none)) else (none)) else (none))) = some (r1, r2) := by first | (rw [hy291]; with_reducible exact H) | (have H2_ := (Option.bind_some _ _).symm.trans H; rw [hy291]; with_reducible exact H2_) | (have H2_ := (Option.bind_some _ _).symm.trans H; with_reducible exact H2_) | with_reducible exact H | (rw [hy291]; exact H) | exact H
      have Ny291 := Aside0.mk hy291
      clear hy291
      replace H := Option.bind_eq_some_iff.mp H
      obtain ⟨⟨t294, t295, t296⟩, A190, H⟩ := H
      have A19 := Aside0.mk A190
      clear A190
      by_cases c20 : 0 ≤ t294
      ·rw [if_pos c20] at H
       have c20b0 : decide (0 ≤ t294) = true := decide_eq_true c20
       clear c20
       by_cases c21 : t294 < (y291.length : Int)
       ·rw [if_pos c21] at H
        have c21b0 : decide (t294 < (y291.length : Int)) = true := decide_eq_true c21
        clear c21
        by_cases c22 : (x6_1 ++ (⟨#[47]⟩ : ByteArray)).size + (rdOf ByteArray.empty y291 t294).size ≤ 9223372036854775807
        ·rw [if_pos c22] at H
         have c22b0 := eq_true c22
         have c22b1 : decide ((x6_1 ++ (⟨#[47]⟩ : ByteArray)).size + (rdOf ByteArray.empty y291 t294).size ≤ 9223372036854775807) = true := decide_eq_true c22
         try have c22b2 : (9223372036854775807 < (x6_1 ++ (⟨#[47]⟩ : ByteArray)).size + (rdOf ByteArray.empty y291 t294).size) = False := eq_false (Nat.not_lt.2 c22)
         have H' := Aside0.mk H
         clear H
         go_wp2_with (first | ((with_reducible refine gate_dst (N := 27) rfl ?_); (try (refine gate_guard (by rfl) ?_; dsimp only)); refine Kd.R_lit Kd.string _ 9 ?hg (N := 27) ?hd (xs := ([(⟨#[77, 79, 79, 86]⟩ : ByteArray), (⟨#[84, 82, 65, 75]⟩ : ByteArray), (⟨#[109, 100, 97, 116]⟩ : ByteArray), (⟨#[101, 108, 115, 116]⟩ : ByteArray), (⟨#[102, 48, 117, 114]⟩ : ByteArray), (⟨#[69, 100, 105, 116]⟩ : ByteArray)] : List ByteArray)) (inner := [.string (⟨#[77, 79, 79, 86]⟩ : ByteArray), .string (⟨#[84, 82, 65, 75]⟩ : ByteArray), .string (⟨#[109, 100, 97, 116]⟩ : ByteArray), .string (⟨#[101, 108, 115, 116]⟩ : ByteArray), .string (⟨#[102, 48, 117, 114]⟩ : ByteArray), .string (⟨#[69, 100, 105, 116]⟩ : ByteArray)]) (ok := fun _ => True) (okp := fun _ => True) ?hr ?hp (fun _ hk => hk) trivial (Below.refl _ _) (Nat.le_refl _) (by simp) ?_; (case hd => rfl); (case hg => rfl); (case hr => first | (go_simp; done) | (go_simp; rfl)); (case hp => exact (Reps.one (show Kd.M Kd.string _ _ _ (⟨#[77, 79, 79, 86]⟩ : ByteArray) [.string (⟨#[77, 79, 79, 86]⟩ : ByteArray)] from rfl) (Reps.one (show Kd.M Kd.string _ _ _ (⟨#[84, 82, 65, 75]⟩ : ByteArray) [.string (⟨#[84, 82, 65, 75]⟩ : ByteArray)] from rfl) (Reps.one (show Kd.M Kd.string _ _ _ (⟨#[109, 100, 97, 116]⟩ : ByteArray) [.string (⟨#[109, 100, 97, 116]⟩ : ByteArray)] from rfl) (Reps.one (show Kd.M Kd.string _ _ _ (⟨#[101, 108, 115, 116]⟩ : ByteArray) [.string (⟨#[101, 108, 115, 116]⟩ : ByteArray)] from rfl) (Reps.one (show Kd.M Kd.string _ _ _ (⟨#[102, 48, 117, 114]⟩ : ByteArray) [.string (⟨#[102, 48, 117, 114]⟩ : ByteArray)] from rfl) (Reps.one (show Kd.M Kd.string _ _ _ (⟨#[69, 100, 105, 116]⟩ : ByteArray) [.string (⟨#[69, 100, 105, 116]⟩ : ByteArray)] from rfl) (Reps.none _ _)))))))); intro v292 w23 ho24 hb hg_ hnew_; clear hg_ hnew_; (first | rw [← Ny291.out] at ho24 | (simp only [Int.reduceToNat] at ho24; rw [← Ny291.out] at ho24)); have n0_ := Aside0.mk (Kd.S_below (by (with_reducible repeat (first | apply Kd.S_alloc | apply Kd.S_drewN | apply Kd.S_drew)); exact HO_5.out) hb); have n1_ := Aside0.mk (Kd.R_lower ho24 (below_size (by repeat (first | (with_reducible first | exact HB.out | apply below_alloc | apply pw_below_drewN | apply below_drew1 | refine below_set ?_ (IsS57.ge HI275.out)) | exact HB.out)))); have n2_ := Aside0.mk (IsS57.below (by repeat (first | (with_reducible first | exact HI275.out | apply IsS57.alloc | apply IsS57.drewN | apply IsS57.drew | apply IsS57.set_1 | apply IsS57.set_2) | exact HI275.out)) hb); have n3_ := Aside0.mk (below_step (by repeat (first | (with_reducible first | exact HB.out | apply below_alloc | apply pw_below_drewN | apply below_drew1 | refine below_set ?_ (IsS57.ge HI275.out)) | exact HB.out)) hb); clear HO_5; clear HI275; clear HB; have HO_5 := n0_; have HO293 := n1_; have HI275 := n2_; have HB := n3_; clear n0_ n1_ n2_ n3_; clear hb ho24) | ((with_reducible refine gate_callee (f := 23) rfl ?_); refine goesL_ (some 29) rfl rfl Tryd.func23 (by kernel_rfl) rfl #[.pointer (some ⟨g275, 0, none⟩), .int .i64 6] rfl (by (try simp only [List.map_toArray, List.map_cons, List.map_nil]); first | done | rfl | (simp only [List.length_drop, List.length_take]; rfl)) ?_; (with_reducible refine (spec_l1Below.calls g275 t272 x276001_1 x276002_1 6 t294 t295 t296 w _ ?side1 ?side2 A19.out).mono ?_); (case side1 => repeat (first | (with_reducible first | exact HI275.out | apply IsS57.alloc | apply IsS57.drewN | apply IsS57.drew | apply IsS57.set_1 | apply IsS57.set_2) | exact HI275.out)); (case side2 => repeat (first | (with_reducible first | exact HB.out | apply below_alloc | apply pw_below_drewN | apply below_drew1 | refine below_set ?_ (IsS57.ge HI275.out)) | exact HB.out)); rintro e w25 ⟨rfl, hi, hb, hk⟩; refine ⟨_, rfl, ?_⟩; have n0_ := Aside0.mk (Kd.S_mono (Kd.S_keep (IsS57.apartS (show IsS57 w _ g275 t272 x276001_1 x276002_1 from by repeat (first | (with_reducible first | exact HI275.out | apply IsS57.alloc | apply IsS57.drewN | apply IsS57.drew | apply IsS57.set_1 | apply IsS57.set_2) | exact HI275.out)) (by (with_reducible repeat (first | apply Kd.S_alloc | apply Kd.S_drewN | apply Kd.S_drew)); exact HO_5.out) (by decide)) hk (fun _ h => h.2)) (fun _ h => h.1)); have n1_ := Aside0.mk (Kd.R_mono (Kd.R_keep (IsS57.apart (show IsS57 w _ g275 t272 x276001_1 x276002_1 from by repeat (first | (with_reducible first | exact HI275.out | apply IsS57.alloc | apply IsS57.drewN | apply IsS57.drew | apply IsS57.set_1 | apply IsS57.set_2) | exact HI275.out)) (by (with_reducible repeat (first | apply Kd.R_alloc | apply Kd.R_drewN | apply Kd.R_drew)); exact HO293.out) (by decide)) hk (fun _ h => h.2)) (fun _ h => h.1)); have n2_ := Aside0.mk (hb); have n3_ := Aside0.mk (hi); clear HO_5; clear HO293; clear HB; clear HI275; have HO_5 := n0_; have HO293 := n1_; have HB := n2_; have HI275 := n3_; clear n0_ n1_ n2_ n3_; (try clear hb); (try clear hb2); (try clear hk); (try clear hi); obtain ⟨Ao26, co26, eo26⟩ := Kd.R_slice HO293.out; subst eo26; have p297 : 0 ≤ (t294 : Int) := of_decide_eq_true (by first | (with_reducible assumption) | assumption); have q297 : t294 < (y291.length : Int) := of_decide_eq_true (by first | (with_reducible assumption) | assumption); obtain ⟨ad297, e297, hx297_0⟩ := Kd.at_string (Kd.R_reads' HO293.out).2.2 t294 p297 q297; cases e297; replace p297 := eq_true p297; replace q297 := eq_true q297))
         go_roundg k1
         case measure => have := HK1.out; omega
         case rel => exact ⟨((x6_1 ++ (⟨#[47]⟩ : ByteArray)) ++ (rdOf ByteArray.empty y291 t294)), (wrap64 (x7_1 - 1)), (t295), (t296), (by first | rfl | (simp; done) | (simp [*]; done)), (by first | rfl | (simp; done) | (simp [*]; done)), H', ⟨by have := HK1.out; omega⟩, ⟨by (with_reducible repeat (first | apply Kd.S_alloc | apply Kd.S_drewN | apply Kd.S_drew)); exact HO_5.out⟩, ⟨by repeat (first | (with_reducible first | exact HI275.out | apply IsS57.alloc | apply IsS57.drewN | apply IsS57.drew | apply IsS57.set_1 | apply IsS57.set_2) | exact HI275.out)⟩, ⟨by repeat (first | (with_reducible first | exact HB.out | apply below_alloc | apply pw_below_drewN | apply below_drew1 | refine below_set ?_ (IsS57.ge HI275.out)) | exact HB.out)⟩⟩
        ·rw [if_neg c22] at H
         exact absurd H (by simp)
       ·rw [if_neg c21] at H
        exact absurd H (by simp)
      ·rw [if_neg c20] at H
       exact absurd H (by simp)
     ·rw [if_neg c18] at H
      exact absurd H (by simp)
   ·rw [if_neg c8] at H
    have c8b0 : decide (0 < x7_1) = false := decide_eq_false c8
    clear c8
    have HC27 := Aside0.mk H
    clear H
    go_upto_region 10 with (fail)
    go_cut [39] (fun v39 wc => ∃ (kq : Nat) (x39_26 : Bool) (x276001_26 : Int) (x276002_26 : Int), v39 = .bool x39_26 ∧ Aside0 (spec_DrawFindBox.j1 kq t276 x6_1 x39_26 t272 x276001_26 x276002_26 = some (r1, r2)) ∧ Aside0 (kq ≤ k1) ∧ Aside0 (Kd.S k34 34 wc w.heap.size (fun _ => True) v277 t276) ∧ Aside0 (IsS57 w wc g275 t272 x276001_26 x276002_26) ∧ Aside0 (Below w.heap.size w wc))
    case first =>
     have H := HC27.out
     clear HC27
     replace H := Option.bind_eq_some_iff.mp H
     obtain ⟨⟨t298, t299, t300⟩, A280, H⟩ := H
     have A28 := Aside0.mk A280
     clear A280
     by_cases c29 : t298 = true
     ·subst c29
      have H1 := H; rw [if_pos rfl] at H1
      clear H
      have H := H1
      clear H1
      have H' := Aside0.mk H
      clear H
      go_wp2_with (first | ((with_reducible refine gate_callee (f := 24) rfl ?_); refine goesL_ (some 34) rfl rfl Tryd.func24 (by kernel_rfl) rfl #[.pointer (some ⟨g275, 0, none⟩), .int .i64 2] rfl (by (try simp only [List.map_toArray, List.map_cons, List.map_nil]); first | done | rfl | (simp only [List.length_drop, List.length_take]; rfl)) ?_; (with_reducible refine (spec_l1Once.calls g275 t272 x276001_1 x276002_1 2 true t299 t300 w _ ?side1 ?side2 A28.out).mono ?_); (case side1 => repeat (first | (with_reducible first | exact HI275.out | apply IsS57.alloc | apply IsS57.drewN | apply IsS57.drew | apply IsS57.set_1 | apply IsS57.set_2) | exact HI275.out)); (case side2 => repeat (first | (with_reducible first | exact HB.out | apply below_alloc | apply pw_below_drewN | apply below_drew1 | refine below_set ?_ (IsS57.ge HI275.out)) | exact HB.out)); rintro e w30 ⟨rfl, hi, hb, hk⟩; refine ⟨_, rfl, ?_⟩; have n0_ := Aside0.mk (Kd.S_mono (Kd.S_keep (IsS57.apartS (show IsS57 w _ g275 t272 x276001_1 x276002_1 from by repeat (first | (with_reducible first | exact HI275.out | apply IsS57.alloc | apply IsS57.drewN | apply IsS57.drew | apply IsS57.set_1 | apply IsS57.set_2) | exact HI275.out)) (by (with_reducible repeat (first | apply Kd.S_alloc | apply Kd.S_drewN | apply Kd.S_drew)); exact HO_5.out) (by decide)) hk (fun _ h => h.2)) (fun _ h => h.1)); have n1_ := Aside0.mk (hb); have n2_ := Aside0.mk (hi); clear HO_5; clear HB; clear HI275; have HO_5 := n0_; have HB := n1_; have HI275 := n2_; clear n0_ n1_ n2_; (try clear hb); (try clear hb2); (try clear hk); (try clear hi); obtain ⟨Ao31, co31, eo31⟩ := Kd.S_slice HO_5.out; subst eo31))
      go_meet
      case rel => exact ⟨_, (decide ((t276.length : Int) > 0)), (t299), (t300), (by first | rfl | (simp; done) | (simp [*]; done)), H', ⟨by have := HK1.out; first | omega | exact Nat.le_refl _⟩, ⟨by (with_reducible repeat (first | apply Kd.S_alloc | apply Kd.S_drewN | apply Kd.S_drew)); exact HO_5.out⟩, ⟨by repeat (first | (with_reducible first | exact HI275.out | apply IsS57.alloc | apply IsS57.drewN | apply IsS57.drew | apply IsS57.set_1 | apply IsS57.set_2) | exact HI275.out)⟩, ⟨by repeat (first | (with_reducible first | exact HB.out | apply below_alloc | apply pw_below_drewN | apply below_drew1 | refine below_set ?_ (IsS57.ge HI275.out)) | exact HB.out)⟩⟩
     ·replace c29 := Bool.eq_false_iff.mpr c29
      subst c29
      have H1 := H; rw [if_neg (show ¬ (false = true) by decide)] at H1
      clear H
      have H := H1
      clear H1
      have H' := Aside0.mk H
      clear H
      go_wp2_with (first | ((with_reducible refine gate_callee (f := 24) rfl ?_); refine goesL_ (some 34) rfl rfl Tryd.func24 (by kernel_rfl) rfl #[.pointer (some ⟨g275, 0, none⟩), .int .i64 2] rfl (by (try simp only [List.map_toArray, List.map_cons, List.map_nil]); first | done | rfl | (simp only [List.length_drop, List.length_take]; rfl)) ?_; (with_reducible refine (spec_l1Once.calls g275 t272 x276001_1 x276002_1 2 false t299 t300 w _ ?side1 ?side2 A28.out).mono ?_); (case side1 => repeat (first | (with_reducible first | exact HI275.out | apply IsS57.alloc | apply IsS57.drewN | apply IsS57.drew | apply IsS57.set_1 | apply IsS57.set_2) | exact HI275.out)); (case side2 => repeat (first | (with_reducible first | exact HB.out | apply below_alloc | apply pw_below_drewN | apply below_drew1 | refine below_set ?_ (IsS57.ge HI275.out)) | exact HB.out)); rintro e w32 ⟨rfl, hi, hb, hk⟩; refine ⟨_, rfl, ?_⟩; have n0_ := Aside0.mk (Kd.S_mono (Kd.S_keep (IsS57.apartS (show IsS57 w _ g275 t272 x276001_1 x276002_1 from by repeat (first | (with_reducible first | exact HI275.out | apply IsS57.alloc | apply IsS57.drewN | apply IsS57.drew | apply IsS57.set_1 | apply IsS57.set_2) | exact HI275.out)) (by (with_reducible repeat (first | apply Kd.S_alloc | apply Kd.S_drewN | apply Kd.S_drew)); exact HO_5.out) (by decide)) hk (fun _ h => h.2)) (fun _ h => h.1)); have n1_ := Aside0.mk (hb); have n2_ := Aside0.mk (hi); clear HO_5; clear HB; clear HI275; have HO_5 := n0_; have HB := n1_; have HI275 := n2_; clear n0_ n1_ n2_; (try clear hb); (try clear hb2); (try clear hk); (try clear hi)))
      go_meet
      case rel => exact ⟨_, (false), (t299), (t300), (by first | rfl | (simp; done) | (simp [*]; done)), H', ⟨by have := HK1.out; first | omega | exact Nat.le_refl _⟩, ⟨by (with_reducible repeat (first | apply Kd.S_alloc | apply Kd.S_drewN | apply Kd.S_drew)); exact HO_5.out⟩, ⟨by repeat (first | (with_reducible first | exact HI275.out | apply IsS57.alloc | apply IsS57.drewN | apply IsS57.drew | apply IsS57.set_1 | apply IsS57.set_2) | exact HI275.out)⟩, ⟨by repeat (first | (with_reducible first | exact HB.out | apply below_alloc | apply pw_below_drewN | apply below_drew1 | refine below_set ?_ (IsS57.ge HI275.out)) | exact HB.out)⟩⟩
    case rest =>
     clear HC27
     try clear c8
     try clear c8b0
     try clear c9
     try clear c9b0
     try clear c9b1
     try clear c11
     try clear c11b0
     try clear c12
     try clear c12b0
     try clear c13
     try clear c13b0
     try clear c13b1
     try clear c13b2
     try clear c18
     try clear c18b0
     try clear c18b1
     try clear c18b2
     try clear c20
     try clear c20b0
     try clear c21
     try clear c21b0
     try clear c22
     try clear c22b0
     try clear c22b1
     try clear c22b2
     try clear c29
     try clear hx290_0
     try clear hx297_0
     try clear p290
     try clear p297
     try clear q290
     try clear q297
     obtain ⟨kq, x39_26, x276001_26, x276002_26, rfl, HA, HJ26, HO_5, HI275, HB⟩ := hcut
     cases kq with
     | zero => exact absurd HA.out (by simp [spec_DrawFindBox.j1])
     | succ kj26 =>
      have H := HA.out
      clear HA
      simp only [spec_DrawFindBox.j1] at H
      have HC33 := Aside0.mk H
      clear H
      go_upto_if 39 with (fail)
      go_cut [6] (fun v6 wc => ∃ (kq : Nat) (x6_32 : ByteArray) (x276001_32 : Int) (x276002_32 : Int), v6 = .string x6_32 ∧ Aside0 (spec_DrawFindBox.j3 kq t276 x6_32 t272 x276001_32 x276002_32 = some (r1, r2)) ∧ Aside0 (kq ≤ kj26) ∧ Aside0 (Kd.S k34 34 wc w.heap.size (fun _ => True) v277 t276) ∧ Aside0 (IsS57 w wc g275 t272 x276001_32 x276002_32) ∧ Aside0 (Below w.heap.size w wc))
      case first =>
       have H := HC33.out
       clear HC33
       by_cases c34 : x39_26 = true
       ·subst c34
        have H1 := H; rw [if_pos rfl] at H1
        clear H
        have H := H1
        clear H1
        replace H := Option.bind_eq_some_iff.mp H
        obtain ⟨⟨t301, t302, t303⟩, A350, H⟩ := H
        have A35 := Aside0.mk A350
        clear A350
        by_cases c36 : 0 ≤ t301
        ·rw [if_pos c36] at H
         have c36b0 : decide (0 ≤ t301) = true := decide_eq_true c36
         clear c36
         (first | rw [c36b0] | (simp only [i64_w, i32_w]; rw [c36b0]) | skip)
         by_cases c37 : t301 < (t276.length : Int)
         ·rw [if_pos c37] at H
          have c37b0 : decide (t301 < (t276.length : Int)) = true := decide_eq_true c37
          clear c37
          have H' := Aside0.mk H
          clear H
          obtain ⟨Ao38, co38, eo38⟩ := Kd.S_slice HO_5.out
          subst eo38
          go_wp2_with (first | ((with_reducible refine gate_callee (f := 23) rfl ?_); refine goesL_ (some 43) rfl rfl Tryd.func23 (by kernel_rfl) rfl #[.pointer (some ⟨g275, 0, none⟩), .int .i64 (t276.length : Int)] rfl (by (try simp only [List.map_toArray, List.map_cons, List.map_nil]); first | done | rfl | (simp only [List.length_drop, List.length_take]; rfl)) ?_; (with_reducible refine (spec_l1Below.calls g275 t272 x276001_26 x276002_26 (t276.length : Int) t301 t302 t303 w _ ?side1 ?side2 A35.out).mono ?_); (case side1 => repeat (first | (with_reducible first | exact HI275.out | apply IsS57.alloc | apply IsS57.drewN | apply IsS57.drew | apply IsS57.set_1 | apply IsS57.set_2) | exact HI275.out)); (case side2 => repeat (first | (with_reducible first | exact HB.out | apply below_alloc | apply pw_below_drewN | apply below_drew1 | refine below_set ?_ (IsS57.ge HI275.out)) | exact HB.out)); rintro e w39 ⟨rfl, hi, hb, hk⟩; refine ⟨_, rfl, ?_⟩; have n0_ := Aside0.mk (Kd.S_mono (Kd.S_keep (IsS57.apartS (show IsS57 w _ g275 t272 x276001_26 x276002_26 from by repeat (first | (with_reducible first | exact HI275.out | apply IsS57.alloc | apply IsS57.drewN | apply IsS57.drew | apply IsS57.set_1 | apply IsS57.set_2) | exact HI275.out)) (by (with_reducible repeat (first | apply Kd.S_alloc | apply Kd.S_drewN | apply Kd.S_drew)); exact HO_5.out) (by decide)) hk (fun _ h => h.2)) (fun _ h => h.1)); have n1_ := Aside0.mk (hb); have n2_ := Aside0.mk (hi); clear HO_5; clear HB; clear HI275; have HO_5 := n0_; have HB := n1_; have HI275 := n2_; clear n0_ n1_ n2_; (try clear hb); (try clear hb2); (try clear hk); (try clear hi); have p304 : 0 ≤ (t301 : Int) := of_decide_eq_true (by first | (with_reducible assumption) | assumption); have q304 : t301 < (t276.length : Int) := of_decide_eq_true (by first | (with_reducible assumption) | assumption); obtain ⟨ad304, A304_2, c304_2, e304, hx304_0, hx304_1, hx304_2, hl304_2, hi304_2⟩ := at_T34 (Kd.S_reads' HO_5.out).2.2 t301 p304 q304; cases e304; obtain ⟨ce304, hce304, hMe304, hcc304⟩ := Kd.S_get HO_5.out z34 t301 p304 (by first | exact q304 | exact of_decide_eq_true (by first | (with_reducible assumption) | assumption) | (have e_ := (Kd.S_reads' HO_5.out).1; omega)); obtain ⟨ve304_2, rfl, ge304_2⟩ := k34_openM hMe304; have hv304_2 := hcc304 2 _ rfl; rw [add_field _ _ 2 (by omega)] at hv304_2; replace hv304_2 := Option.some.inj (hv304_2.symm.trans hx304_2); rw [hv304_2] at ge304_2; have HL304_2 := Aside0.mk (show Kd.R (Kd.int .u8) 5 _ _ _ _ ((rd_T34 t276 t301).f2) from ge304_2); clear hv304_2 ge304_2; clear hcc304 hce304; have HR304_2 := Aside0.mk hi304_2; have HC304_2 := Aside0.mk hl304_2; clear hi304_2 hl304_2; replace p304 := eq_true p304; replace q304 := eq_true q304; have p305 : 0 ≤ (t301 : Int) := of_decide_eq_true (by first | (with_reducible assumption) | assumption); have q305 : t301 < (t276.length : Int) := of_decide_eq_true (by first | (with_reducible assumption) | assumption); obtain ⟨ad305, A305_2, c305_2, e305, hx305_0, hx305_1, hx305_2, hl305_2, hi305_2⟩ := at_T34 (Kd.S_reads' HO_5.out).2.2 t301 p305 q305; obtain rfl : ad304 = ad305 := (by injection e305); obtain ⟨ce305, hce305, hMe305, hcc305⟩ := Kd.S_get HO_5.out z34 t301 p305 (by first | exact q305 | exact of_decide_eq_true (by first | (with_reducible assumption) | assumption) | (have e_ := (Kd.S_reads' HO_5.out).1; omega)); obtain ⟨ve305_2, rfl, ge305_2⟩ := k34_openM hMe305; have hv305_2 := hcc305 2 _ rfl; rw [add_field _ _ 2 (by omega)] at hv305_2; replace hv305_2 := Option.some.inj (hv305_2.symm.trans hx305_2); rw [hv305_2] at ge305_2; have HL305_2 := Aside0.mk (show Kd.R (Kd.int .u8) 5 _ _ _ _ ((rd_T34 t276 t301).f2) from ge305_2); clear hv305_2 ge305_2; clear hcc305 hce305; have HR305_2 := Aside0.mk hi305_2; have HC305_2 := Aside0.mk hl305_2; clear hi305_2 hl305_2; replace p305 := eq_true p305; replace q305 := eq_true q305; have ea_ := Option.some.inj (hx304_2.symm.trans hx305_2); injection ea_ with ea_ en_ ec_; subst ea_; subst ec_; clear en_))
          go_loopg [6, 9, 10] kj26 (fun kq v6 v9 v10 w' => ∃ (x6_3 : ByteArray) (x9_3 : Int) (x10_3 : Int), v6 = .string x6_3 ∧ v9 = .int .i64 x9_3 ∧ v10 = .int .i64 x10_3 ∧ Aside0 (spec_DrawFindBox.l1 kq t276 x6_3 x9_3 x10_3 t272 t302 t303 = some (r1, r2)) ∧ Aside0 (kq ≤ kj26) ∧ Aside0 (Kd.S k34 34 w' w.heap.size (fun _ => True) (.slice (some ad304) t276.length co38) t276) ∧ Aside0 (Kd.C (Kd.int .u8) w' A304_2 ((rd_T34 t276 t301).f2).length ((rd_T34 t276 t301).f2)) ∧ Aside0 (Kd.C (Kd.int .u8) w' A304_2 ((rd_T34 t276 t301).f2).length ((rd_T34 t276 t301).f2)) ∧ Aside0 (IsS57 w w' g275 t272 t302 t303) ∧ Aside0 (Below w.heap.size w w'))
          case atStart => exact ⟨((rd_T34 t276 t301).f0), ((rd_T34 t276 t301).f1), (t301), (by first | rfl | (simp; done) | (simp [*]; done)), (by first | rfl | (simp; done) | (simp [*]; done)), (by first | rfl | (simp; done) | (simp [*]; done)), H', ⟨Nat.le_refl _⟩, ⟨by (with_reducible repeat (first | apply Kd.S_alloc | apply Kd.S_drewN | apply Kd.S_drew)); exact HO_5.out⟩, ⟨by repeat (first | (with_reducible exact HR304_2.out) | (with_reducible refine Kd.C_alloc ?_ _) | (with_reducible refine Kd.C_drewN ?_ _) | (with_reducible refine Kd.C_drew ?_) | exact HR304_2.out)⟩, ⟨by repeat (first | (with_reducible exact HR305_2.out) | (with_reducible refine Kd.C_alloc ?_ _) | (with_reducible refine Kd.C_drewN ?_ _) | (with_reducible refine Kd.C_drew ?_) | exact HR305_2.out)⟩, ⟨by repeat (first | (with_reducible first | exact HI275.out | apply IsS57.alloc | apply IsS57.drewN | apply IsS57.drew | apply IsS57.set_1 | apply IsS57.set_2) | exact HI275.out)⟩, ⟨by repeat (first | (with_reducible first | exact HB.out | apply below_alloc | apply pw_below_drewN | apply below_drew1 | refine below_set ?_ (IsS57.ge HI275.out)) | exact HB.out)⟩⟩
          case round =>
           clear H'
           try clear c8
           try clear c8b0
           try clear c9
           try clear c9b0
           try clear c9b1
           try clear c11
           try clear c11b0
           try clear c12
           try clear c12b0
           try clear c13
           try clear c13b0
           try clear c13b1
           try clear c13b2
           try clear c18
           try clear c18b0
           try clear c18b1
           try clear c18b2
           try clear c20
           try clear c20b0
           try clear c21
           try clear c21b0
           try clear c22
           try clear c22b0
           try clear c22b1
           try clear c22b2
           try clear c29
           try clear c34
           try clear c36
           try clear c36b0
           try clear c37
           try clear c37b0
           try clear hx290_0
           try clear hx297_0
           try clear hx304_0
           try clear hx304_1
           try clear hx304_2
           try clear hx305_0
           try clear hx305_1
           try clear hx305_2
           try clear p290
           try clear p297
           try clear p304
           try clear p305
           try clear q290
           try clear q297
           try clear q304
           try clear q305
           obtain ⟨x6_3, x9_3, x10_3, rfl, rfl, rfl, HA, HK3, HO_5, HR304_2, HR305_2, HI275, HB⟩ := hrel
           cases gk with
           | zero => exact absurd HA.out (by simp [spec_DrawFindBox.l1])
           | succ k3 =>
            have H := HA.out
            clear HA
            simp only [spec_DrawFindBox.l1] at H
            by_cases c40 : x10_3 ≥ 0
            ·rw [if_pos c40] at H
             have c40b0 : decide (0 ≤ x10_3) = true := decide_eq_true c40
             clear c40
             by_cases c41 : 0 ≤ x10_3
             ·rw [if_pos c41] at H
              have c41b0 : decide (0 ≤ x10_3) = true := decide_eq_true c41
              clear c41
              by_cases c42 : x10_3 < (t276.length : Int)
              ·rw [if_pos c42] at H
               have c42b0 : decide (x10_3 < (t276.length : Int)) = true := decide_eq_true c42
               clear c42
               by_cases c43 : ((rd_T34 t276 x10_3).f1) = (wrap64 (x9_3 - 1))
               ·rw [if_pos c43] at H
                have c43b0 : (((rd_T34 t276 x10_3).f1) == (wrap64 (x9_3 - 1))) = true := beq_iff_eq.mpr c43
                have c43b1 : (((rd_T34 t276 x10_3).f1) != (wrap64 (x9_3 - 1))) = false := bne_eq_false_iff_eq.mpr c43
                clear c43
                by_cases c44 : ((rd_T34 t276 x10_3).f0).size + 1 ≤ 9223372036854775807
                ·rw [if_pos c44] at H
                 have c44b0 := eq_true c44
                 have c44b1 : decide (((rd_T34 t276 x10_3).f0).size + 1 ≤ 9223372036854775807) = true := decide_eq_true c44
                 try have c44b2 : (9223372036854775807 < ((rd_T34 t276 x10_3).f0).size + 1) = False := eq_false (Nat.not_lt.2 c44)
                 by_cases c45 : (((rd_T34 t276 x10_3).f0) ++ (⟨#[47]⟩ : ByteArray)).size + x6_3.size ≤ 9223372036854775807
                 ·rw [if_pos c45] at H
                  have c45b0 := eq_true c45
                  have c45b1 : decide ((((rd_T34 t276 x10_3).f0) ++ (⟨#[47]⟩ : ByteArray)).size + x6_3.size ≤ 9223372036854775807) = true := decide_eq_true c45
                  try have c45b2 : (9223372036854775807 < (((rd_T34 t276 x10_3).f0) ++ (⟨#[47]⟩ : ByteArray)).size + x6_3.size) = False := eq_false (Nat.not_lt.2 c45)
                  have H' := Aside0.mk H
                  clear H
                  have p306 : 0 ≤ (x10_3 : Int) := of_decide_eq_true (by first | (with_reducible assumption) | assumption)
                  have q306 : x10_3 < (t276.length : Int) := of_decide_eq_true (by first | (with_reducible assumption) | assumption)
                  obtain ⟨ad306, A306_2, c306_2, e306, hx306_0, hx306_1, hx306_2, hl306_2, hi306_2⟩ := at_T34 (Kd.S_reads' HO_5.out).2.2 x10_3 p306 q306
                  obtain rfl : ad304 = ad306 := (by injection e306)
                  obtain ⟨ce306, hce306, hMe306, hcc306⟩ := Kd.S_get HO_5.out z34 x10_3 p306 (by first | exact q306 | exact of_decide_eq_true (by first | (with_reducible assumption) | assumption) | (have e_ := (Kd.S_reads' HO_5.out).1; omega))
                  obtain ⟨ve306_2, rfl, ge306_2⟩ := k34_openM hMe306
                  have hv306_2 := hcc306 2 _ rfl
                  rw [add_field _ _ 2 (by omega)] at hv306_2
                  replace hv306_2 := Option.some.inj (hv306_2.symm.trans hx306_2)
                  rw [hv306_2] at ge306_2
                  have HL306_2 := Aside0.mk (show Kd.R (Kd.int .u8) 5 _ _ _ _ ((rd_T34 t276 x10_3).f2) from ge306_2)
                  clear hv306_2 ge306_2
                  clear hcc306 hce306
                  have HR306_2 := Aside0.mk hi306_2
                  have HC306_2 := Aside0.mk hl306_2
                  clear hi306_2 hl306_2
                  replace p306 := eq_true p306
                  replace q306 := eq_true q306
                  have p307 : 0 ≤ (x10_3 : Int) := of_decide_eq_true (by first | (with_reducible assumption) | assumption)
                  have q307 : x10_3 < (t276.length : Int) := of_decide_eq_true (by first | (with_reducible assumption) | assumption)
                  obtain ⟨ad307, A307_2, c307_2, e307, hx307_0, hx307_1, hx307_2, hl307_2, hi307_2⟩ := at_T34 (Kd.S_reads' HO_5.out).2.2 x10_3 p307 q307
                  obtain rfl : ad304 = ad307 := (by injection e307)
                  obtain ⟨ce307, hce307, hMe307, hcc307⟩ := Kd.S_get HO_5.out z34 x10_3 p307 (by first | exact q307 | exact of_decide_eq_true (by first | (with_reducible assumption) | assumption) | (have e_ := (Kd.S_reads' HO_5.out).1; omega))
                  obtain ⟨ve307_2, rfl, ge307_2⟩ := k34_openM hMe307
                  have hv307_2 := hcc307 2 _ rfl
                  rw [add_field _ _ 2 (by omega)] at hv307_2
                  replace hv307_2 := Option.some.inj (hv307_2.symm.trans hx307_2)
                  rw [hv307_2] at ge307_2
                  have HL307_2 := Aside0.mk (show Kd.R (Kd.int .u8) 5 _ _ _ _ ((rd_T34 t276 x10_3).f2) from ge307_2)
                  clear hv307_2 ge307_2
                  clear hcc307 hce307
                  have HR307_2 := Aside0.mk hi307_2
                  have HC307_2 := Aside0.mk hl307_2
                  clear hi307_2 hl307_2
                  replace p307 := eq_true p307
                  replace q307 := eq_true q307
                  have ea_ := Option.some.inj (hx306_2.symm.trans hx307_2)
                  injection ea_ with ea_ en_ ec_
                  subst ea_
                  subst ec_
                  clear en_
                  go_wp2
                  go_roundg k3
                  case measure => have := HK1.out; have := HJ26.out; have := HK3.out; omega
                  case rel => exact ⟨((((rd_T34 t276 x10_3).f0) ++ (⟨#[47]⟩ : ByteArray)) ++ x6_3), (wrap64 (x9_3 - 1)), (wrap64 (x10_3 - 1)), (by first | rfl | (simp; done) | (simp [*]; done)), (by first | rfl | (simp; done) | (simp [*]; done)), (by first | rfl | (simp; done) | (simp [*]; done)), H', ⟨by have := HK1.out; have := HJ26.out; have := HK3.out; omega⟩, ⟨by (with_reducible repeat (first | apply Kd.S_alloc | apply Kd.S_drewN | apply Kd.S_drew)); exact HO_5.out⟩, ⟨by repeat (first | (with_reducible exact HR304_2.out) | (with_reducible refine Kd.C_alloc ?_ _) | (with_reducible refine Kd.C_drewN ?_ _) | (with_reducible refine Kd.C_drew ?_) | exact HR304_2.out)⟩, ⟨by repeat (first | (with_reducible exact HR305_2.out) | (with_reducible refine Kd.C_alloc ?_ _) | (with_reducible refine Kd.C_drewN ?_ _) | (with_reducible refine Kd.C_drew ?_) | exact HR305_2.out)⟩, ⟨by repeat (first | (with_reducible first | exact HI275.out | apply IsS57.alloc | apply IsS57.drewN | apply IsS57.drew | apply IsS57.set_1 | apply IsS57.set_2) | exact HI275.out)⟩, ⟨by repeat (first | (with_reducible first | exact HB.out | apply below_alloc | apply pw_below_drewN | apply below_drew1 | refine below_set ?_ (IsS57.ge HI275.out)) | exact HB.out)⟩⟩
                 ·rw [if_neg c45] at H
                  exact absurd H (by simp)
                ·rw [if_neg c44] at H
                 exact absurd H (by simp)
               ·rw [if_neg c43] at H
                have c43b0 : (((rd_T34 t276 x10_3).f1) == (wrap64 (x9_3 - 1))) = false := beq_eq_false_iff_ne.mpr c43
                have c43b1 : (((rd_T34 t276 x10_3).f1) != (wrap64 (x9_3 - 1))) = true := bne_iff_ne.mpr c43
                have H' := Aside0.mk H
                clear H
                have p306 : 0 ≤ (x10_3 : Int) := of_decide_eq_true (by first | (with_reducible assumption) | assumption)
                have q306 : x10_3 < (t276.length : Int) := of_decide_eq_true (by first | (with_reducible assumption) | assumption)
                obtain ⟨ad306, A306_2, c306_2, e306, hx306_0, hx306_1, hx306_2, hl306_2, hi306_2⟩ := at_T34 (Kd.S_reads' HO_5.out).2.2 x10_3 p306 q306
                obtain rfl : ad304 = ad306 := (by injection e306)
                obtain ⟨ce306, hce306, hMe306, hcc306⟩ := Kd.S_get HO_5.out z34 x10_3 p306 (by first | exact q306 | exact of_decide_eq_true (by first | (with_reducible assumption) | assumption) | (have e_ := (Kd.S_reads' HO_5.out).1; omega))
                obtain ⟨ve306_2, rfl, ge306_2⟩ := k34_openM hMe306
                have hv306_2 := hcc306 2 _ rfl
                rw [add_field _ _ 2 (by omega)] at hv306_2
                replace hv306_2 := Option.some.inj (hv306_2.symm.trans hx306_2)
                rw [hv306_2] at ge306_2
                have HL306_2 := Aside0.mk (show Kd.R (Kd.int .u8) 5 _ _ _ _ ((rd_T34 t276 x10_3).f2) from ge306_2)
                clear hv306_2 ge306_2
                clear hcc306 hce306
                have HR306_2 := Aside0.mk hi306_2
                have HC306_2 := Aside0.mk hl306_2
                clear hi306_2 hl306_2
                replace p306 := eq_true p306
                replace q306 := eq_true q306
                go_wp2
                go_roundg k3
                case measure => have := HK1.out; have := HJ26.out; have := HK3.out; omega
                case rel => exact ⟨(x6_3), (x9_3), (wrap64 (x10_3 - 1)), (by first | rfl | (simp; done) | (simp [*]; done)), (by first | rfl | (simp; done) | (simp [*]; done)), (by first | rfl | (simp; done) | (simp [*]; done)), H', ⟨by have := HK1.out; have := HJ26.out; have := HK3.out; omega⟩, ⟨by (with_reducible repeat (first | apply Kd.S_alloc | apply Kd.S_drewN | apply Kd.S_drew)); exact HO_5.out⟩, ⟨by repeat (first | (with_reducible exact HR304_2.out) | (with_reducible refine Kd.C_alloc ?_ _) | (with_reducible refine Kd.C_drewN ?_ _) | (with_reducible refine Kd.C_drew ?_) | exact HR304_2.out)⟩, ⟨by repeat (first | (with_reducible exact HR305_2.out) | (with_reducible refine Kd.C_alloc ?_ _) | (with_reducible refine Kd.C_drewN ?_ _) | (with_reducible refine Kd.C_drew ?_) | exact HR305_2.out)⟩, ⟨by repeat (first | (with_reducible first | exact HI275.out | apply IsS57.alloc | apply IsS57.drewN | apply IsS57.drew | apply IsS57.set_1 | apply IsS57.set_2) | exact HI275.out)⟩, ⟨by repeat (first | (with_reducible first | exact HB.out | apply below_alloc | apply pw_below_drewN | apply below_drew1 | refine below_set ?_ (IsS57.ge HI275.out)) | exact HB.out)⟩⟩
              ·rw [if_neg c42] at H
               exact absurd H (by simp)
             ·rw [if_neg c41] at H
              exact absurd H (by simp)
            ·rw [if_neg c40] at H
             have c40b0 : decide (0 ≤ x10_3) = false := decide_eq_false c40
             clear c40
             have H' := Aside0.mk H
             clear H
             go_wp2
             go_meet
             case rel => exact ⟨_, (x6_3), (t302), (t303), (by first | rfl | (simp; done) | (simp [*]; done)), H', ⟨by have := HK1.out; have := HJ26.out; have := HK3.out; first | omega | exact Nat.le_refl _⟩, ⟨by (with_reducible repeat (first | apply Kd.S_alloc | apply Kd.S_drewN | apply Kd.S_drew)); exact HO_5.out⟩, ⟨by repeat (first | (with_reducible first | exact HI275.out | apply IsS57.alloc | apply IsS57.drewN | apply IsS57.drew | apply IsS57.set_1 | apply IsS57.set_2) | exact HI275.out)⟩, ⟨by repeat (first | (with_reducible first | exact HB.out | apply below_alloc | apply pw_below_drewN | apply below_drew1 | refine below_set ?_ (IsS57.ge HI275.out)) | exact HB.out)⟩⟩
         ·rw [if_neg c37] at H
          exact absurd H (by simp)
        ·rw [if_neg c36] at H
         exact absurd H (by simp)
       ·replace c34 := Bool.eq_false_iff.mpr c34
        subst c34
        have H1 := H; rw [if_neg (show ¬ (false = true) by decide)] at H1
        clear H
        have H := H1
        clear H1
        have H' := Aside0.mk H
        clear H
        go_wp2
        go_meet
        case rel => exact ⟨_, (x6_1), (x276001_26), (x276002_26), (by first | rfl | (simp; done) | (simp [*]; done)), H', ⟨by have := HK1.out; have := HJ26.out; first | omega | exact Nat.le_refl _⟩, ⟨by (with_reducible repeat (first | apply Kd.S_alloc | apply Kd.S_drewN | apply Kd.S_drew)); exact HO_5.out⟩, ⟨by repeat (first | (with_reducible first | exact HI275.out | apply IsS57.alloc | apply IsS57.drewN | apply IsS57.drew | apply IsS57.set_1 | apply IsS57.set_2) | exact HI275.out)⟩, ⟨by repeat (first | (with_reducible first | exact HB.out | apply below_alloc | apply pw_below_drewN | apply below_drew1 | refine below_set ?_ (IsS57.ge HI275.out)) | exact HB.out)⟩⟩
      case rest =>
       clear HC33
       try clear c8
       try clear c8b0
       try clear c9
       try clear c9b0
       try clear c9b1
       try clear c11
       try clear c11b0
       try clear c12
       try clear c12b0
       try clear c13
       try clear c13b0
       try clear c13b1
       try clear c13b2
       try clear c18
       try clear c18b0
       try clear c18b1
       try clear c18b2
       try clear c20
       try clear c20b0
       try clear c21
       try clear c21b0
       try clear c22
       try clear c22b0
       try clear c22b1
       try clear c22b2
       try clear c29
       try clear c34
       try clear c36
       try clear c36b0
       try clear c37
       try clear c37b0
       try clear c40
       try clear c40b0
       try clear c41
       try clear c41b0
       try clear c42
       try clear c42b0
       try clear c43
       try clear c43b0
       try clear c43b1
       try clear c44
       try clear c44b0
       try clear c44b1
       try clear c44b2
       try clear c45
       try clear c45b0
       try clear c45b1
       try clear c45b2
       try clear hx290_0
       try clear hx297_0
       try clear hx304_0
       try clear hx304_1
       try clear hx304_2
       try clear hx305_0
       try clear hx305_1
       try clear hx305_2
       try clear hx306_0
       try clear hx306_1
       try clear hx306_2
       try clear hx307_0
       try clear hx307_1
       try clear hx307_2
       try clear p290
       try clear p297
       try clear p304
       try clear p305
       try clear p306
       try clear p307
       try clear q290
       try clear q297
       try clear q304
       try clear q305
       try clear q306
       try clear q307
       obtain ⟨kq, x6_32, x276001_32, x276002_32, rfl, HA, HJ32, HO_5, HI275, HB⟩ := hcut
       cases kq with
       | zero => exact absurd HA.out (by simp [spec_DrawFindBox.j3])
       | succ kj32 =>
        have H := HA.out
        clear HA
        simp only [spec_DrawFindBox.j3] at H
        replace H := Option.bind_eq_some_iff.mp H
        obtain ⟨⟨t308, t309, t310⟩, A460, H⟩ := H
        have A46 := Aside0.mk A460
        clear A460
        by_cases c47 : t308 = true
        ·subst c47
         have H1 := H; rw [if_pos rfl] at H1
         clear H
         have H := H1
         clear H1
         by_cases c48 : x6_32.size + 1 ≤ 9223372036854775807
         ·rw [if_pos c48] at H
          have c48b0 := eq_true c48
          have c48b1 : decide (x6_32.size + 1 ≤ 9223372036854775807) = true := decide_eq_true c48
          try have c48b2 : (9223372036854775807 < x6_32.size + 1) = False := eq_false (Nat.not_lt.2 c48)
          obtain ⟨y311, hy311⟩ : ∃ y_ : List ByteArray, y_ = (([(⟨#[]⟩ : ByteArray), (⟨#[77, 79, 79, 86, 47]⟩ : ByteArray), (⟨#[47, 77, 79, 79, 86]⟩ : ByteArray), (⟨#[77, 79, 79]⟩ : ByteArray), x6_32 ++ (⟨#[120]⟩ : ByteArray), (⟨#[77, 79, 79, 86, 45, 84, 82, 65, 75]⟩ : ByteArray)] : List ByteArray)) := ⟨_, rfl⟩
          replace H : ((spec_l1Below.f t272 t309 t310 6).bind fun bt314 => (if 0 ≤ bt314.1 then (if bt314.1 < (y311.length : Int) then (some (t276, rdOf ByteArray.empty y311 bt314.1)) else (none)) else (none))) = some (r1, r2) := by first | (rw [hy311]; with_reducible exact H) | (have H2_ := (Option.bind_some _ _).symm.trans H; rw [hy311]; with_reducible exact H2_) | (have H2_ := (Option.bind_some _ _).symm.trans H; with_reducible exact H2_) | with_reducible exact H | (rw [hy311]; exact H) | exact H
          have Ny311 := Aside0.mk hy311
          clear hy311
          replace H := Option.bind_eq_some_iff.mp H
          obtain ⟨⟨t314, t315, t316⟩, A490, H⟩ := H
          have A49 := Aside0.mk A490
          clear A490
          by_cases c50 : 0 ≤ t314
          ·rw [if_pos c50] at H
           have c50b0 : decide (0 ≤ t314) = true := decide_eq_true c50
           clear c50
           by_cases c51 : t314 < (y311.length : Int)
           ·rw [if_pos c51] at H
            have c51b0 : decide (t314 < (y311.length : Int)) = true := decide_eq_true c51
            clear c51
            simp only [Option.some.injEq, Prod.mk.injEq] at H
            obtain ⟨rfl, rfl⟩ := H
            go_wp2_with (first | ((with_reducible refine gate_callee (f := 24) rfl ?_); refine goesL_ (some 78) rfl rfl Tryd.func24 (by kernel_rfl) rfl #[.pointer (some ⟨g275, 0, none⟩), .int .i64 14] rfl (by (try simp only [List.map_toArray, List.map_cons, List.map_nil]); first | done | rfl | (simp only [List.length_drop, List.length_take]; rfl)) ?_; (with_reducible refine (spec_l1Once.calls g275 t272 x276001_32 x276002_32 14 true t309 t310 w _ ?side1 ?side2 A46.out).mono ?_); (case side1 => repeat (first | (with_reducible first | exact HI275.out | apply IsS57.alloc | apply IsS57.drewN | apply IsS57.drew | apply IsS57.set_1 | apply IsS57.set_2) | exact HI275.out)); (case side2 => repeat (first | (with_reducible first | exact HB.out | apply below_alloc | apply pw_below_drewN | apply below_drew1 | refine below_set ?_ (IsS57.ge HI275.out)) | exact HB.out)); rintro e w52 ⟨rfl, hi, hb, hk⟩; refine ⟨_, rfl, ?_⟩; have n0_ := Aside0.mk (Kd.S_mono (Kd.S_keep (IsS57.apartS (show IsS57 w _ g275 t272 x276001_32 x276002_32 from by repeat (first | (with_reducible first | exact HI275.out | apply IsS57.alloc | apply IsS57.drewN | apply IsS57.drew | apply IsS57.set_1 | apply IsS57.set_2) | exact HI275.out)) (by (with_reducible repeat (first | apply Kd.S_alloc | apply Kd.S_drewN | apply Kd.S_drew)); exact HO_5.out) (by decide)) hk (fun _ h => h.2)) (fun _ h => h.1)); have n1_ := Aside0.mk (hb); have n2_ := Aside0.mk (hi); clear HO_5; clear HB; clear HI275; have HO_5 := n0_; have HB := n1_; have HI275 := n2_; clear n0_ n1_ n2_; (try clear hb); (try clear hb2); (try clear hk); (try clear hi)) | ((with_reducible refine gate_dst (N := 81) rfl ?_); (try (refine gate_guard (by rfl) ?_; dsimp only)); refine Kd.R_lit Kd.string _ 9 ?hg (N := 81) ?hd (xs := ([(⟨#[]⟩ : ByteArray), (⟨#[77, 79, 79, 86, 47]⟩ : ByteArray), (⟨#[47, 77, 79, 79, 86]⟩ : ByteArray), (⟨#[77, 79, 79]⟩ : ByteArray), x6_32 ++ (⟨#[120]⟩ : ByteArray), (⟨#[77, 79, 79, 86, 45, 84, 82, 65, 75]⟩ : ByteArray)] : List ByteArray)) (inner := [.string (⟨#[]⟩ : ByteArray), .string (⟨#[77, 79, 79, 86, 47]⟩ : ByteArray), .string (⟨#[47, 77, 79, 79, 86]⟩ : ByteArray), .string (⟨#[77, 79, 79]⟩ : ByteArray), .string (x6_32 ++ (⟨#[120]⟩ : ByteArray)), .string (⟨#[77, 79, 79, 86, 45, 84, 82, 65, 75]⟩ : ByteArray)]) (ok := fun _ => True) (okp := fun _ => True) ?hr ?hp (fun _ hk => hk) trivial (Below.refl _ _) (Nat.le_refl _) (by simp) ?_; (case hd => rfl); (case hg => rfl); (case hr => first | (go_simp; done) | (go_simp; rfl)); (case hp => exact (Reps.one (show Kd.M Kd.string _ _ _ (⟨#[]⟩ : ByteArray) [.string (⟨#[]⟩ : ByteArray)] from rfl) (Reps.one (show Kd.M Kd.string _ _ _ (⟨#[77, 79, 79, 86, 47]⟩ : ByteArray) [.string (⟨#[77, 79, 79, 86, 47]⟩ : ByteArray)] from rfl) (Reps.one (show Kd.M Kd.string _ _ _ (⟨#[47, 77, 79, 79, 86]⟩ : ByteArray) [.string (⟨#[47, 77, 79, 79, 86]⟩ : ByteArray)] from rfl) (Reps.one (show Kd.M Kd.string _ _ _ (⟨#[77, 79, 79]⟩ : ByteArray) [.string (⟨#[77, 79, 79]⟩ : ByteArray)] from rfl) (Reps.one (show Kd.M Kd.string _ _ _ (x6_32 ++ (⟨#[120]⟩ : ByteArray)) [.string (x6_32 ++ (⟨#[120]⟩ : ByteArray))] from rfl) (Reps.one (show Kd.M Kd.string _ _ _ (⟨#[77, 79, 79, 86, 45, 84, 82, 65, 75]⟩ : ByteArray) [.string (⟨#[77, 79, 79, 86, 45, 84, 82, 65, 75]⟩ : ByteArray)] from rfl) (Reps.none _ _)))))))); intro v312 w53 ho54 hb hg_ hnew_; clear hg_ hnew_; (first | rw [← Ny311.out] at ho54 | (simp only [Int.reduceToNat] at ho54; rw [← Ny311.out] at ho54)); have n0_ := Aside0.mk (Kd.S_below (by (with_reducible repeat (first | apply Kd.S_alloc | apply Kd.S_drewN | apply Kd.S_drew)); exact HO_5.out) hb); have n1_ := Aside0.mk (Kd.R_lower ho54 (below_size (by repeat (first | (with_reducible first | exact HB.out | apply below_alloc | apply pw_below_drewN | apply below_drew1 | refine below_set ?_ (IsS57.ge HI275.out)) | exact HB.out)))); have n2_ := Aside0.mk (IsS57.below (by repeat (first | (with_reducible first | exact HI275.out | apply IsS57.alloc | apply IsS57.drewN | apply IsS57.drew | apply IsS57.set_1 | apply IsS57.set_2) | exact HI275.out)) hb); have n3_ := Aside0.mk (below_step (by repeat (first | (with_reducible first | exact HB.out | apply below_alloc | apply pw_below_drewN | apply below_drew1 | refine below_set ?_ (IsS57.ge HI275.out)) | exact HB.out)) hb); clear HO_5; clear HI275; clear HB; have HO_5 := n0_; have HO313 := n1_; have HI275 := n2_; have HB := n3_; clear n0_ n1_ n2_ n3_; clear hb ho54) | ((with_reducible refine gate_callee (f := 23) rfl ?_); refine goesL_ (some 83) rfl rfl Tryd.func23 (by kernel_rfl) rfl #[.pointer (some ⟨g275, 0, none⟩), .int .i64 6] rfl (by (try simp only [List.map_toArray, List.map_cons, List.map_nil]); first | done | rfl | (simp only [List.length_drop, List.length_take]; rfl)) ?_; (with_reducible refine (spec_l1Below.calls g275 t272 t309 t310 6 t314 t315 t316 w _ ?side1 ?side2 A49.out).mono ?_); (case side1 => repeat (first | (with_reducible first | exact HI275.out | apply IsS57.alloc | apply IsS57.drewN | apply IsS57.drew | apply IsS57.set_1 | apply IsS57.set_2) | exact HI275.out)); (case side2 => repeat (first | (with_reducible first | exact HB.out | apply below_alloc | apply pw_below_drewN | apply below_drew1 | refine below_set ?_ (IsS57.ge HI275.out)) | exact HB.out)); rintro e w55 ⟨rfl, hi, hb, hk⟩; refine ⟨_, rfl, ?_⟩; have n0_ := Aside0.mk (Kd.S_mono (Kd.S_keep (IsS57.apartS (show IsS57 w _ g275 t272 t309 t310 from by repeat (first | (with_reducible first | exact HI275.out | apply IsS57.alloc | apply IsS57.drewN | apply IsS57.drew | apply IsS57.set_1 | apply IsS57.set_2) | exact HI275.out)) (by (with_reducible repeat (first | apply Kd.S_alloc | apply Kd.S_drewN | apply Kd.S_drew)); exact HO_5.out) (by decide)) hk (fun _ h => h.2)) (fun _ h => h.1)); have n1_ := Aside0.mk (Kd.R_mono (Kd.R_keep (IsS57.apart (show IsS57 w _ g275 t272 t309 t310 from by repeat (first | (with_reducible first | exact HI275.out | apply IsS57.alloc | apply IsS57.drewN | apply IsS57.drew | apply IsS57.set_1 | apply IsS57.set_2) | exact HI275.out)) (by (with_reducible repeat (first | apply Kd.R_alloc | apply Kd.R_drewN | apply Kd.R_drew)); exact HO313.out) (by decide)) hk (fun _ h => h.2)) (fun _ h => h.1)); have n2_ := Aside0.mk (hb); have n3_ := Aside0.mk (hi); clear HO_5; clear HO313; clear HB; clear HI275; have HO_5 := n0_; have HO313 := n1_; have HB := n2_; have HI275 := n3_; clear n0_ n1_ n2_ n3_; (try clear hb); (try clear hb2); (try clear hk); (try clear hi); obtain ⟨Ao56, co56, eo56⟩ := Kd.R_slice HO313.out; subst eo56; have p317 : 0 ≤ (t314 : Int) := of_decide_eq_true (by first | (with_reducible assumption) | assumption); have q317 : t314 < (y311.length : Int) := of_decide_eq_true (by first | (with_reducible assumption) | assumption); obtain ⟨ad317, e317, hx317_0⟩ := Kd.at_string (Kd.R_reads' HO313.out).2.2 t314 p317 q317; cases e317; replace p317 := eq_true p317; replace q317 := eq_true q317))
            go_ret2
            exact ⟨_, by first | rfl | (simp [errW_none, errW_some] <;> rfl) | (simp [*, errW_none, errW_some] <;> rfl), by (with_reducible repeat (first | apply Kd.S_alloc | apply Kd.S_drewN | apply Kd.S_drew)); exact HO_5.out, by repeat (first | (with_reducible first | exact HB.out | apply below_alloc | apply pw_below_drewN | apply below_drew1 | refine below_set ?_ (IsS57.ge HI275.out)) | exact HB.out)⟩
           ·rw [if_neg c51] at H
            exact absurd H (by simp)
          ·rw [if_neg c50] at H
           exact absurd H (by simp)
         ·rw [if_neg c48] at H
          exact absurd H (by simp)
        ·replace c47 := Bool.eq_false_iff.mpr c47
         subst c47
         have H1 := H; rw [if_neg (show ¬ (false = true) by decide)] at H1
         clear H
         have H := H1
         clear H1
         simp only [Option.some.injEq, Prod.mk.injEq] at H
         obtain ⟨rfl, rfl⟩ := H
         go_wp2_with (first | ((with_reducible refine gate_callee (f := 24) rfl ?_); refine goesL_ (some 78) rfl rfl Tryd.func24 (by kernel_rfl) rfl #[.pointer (some ⟨g275, 0, none⟩), .int .i64 14] rfl (by (try simp only [List.map_toArray, List.map_cons, List.map_nil]); first | done | rfl | (simp only [List.length_drop, List.length_take]; rfl)) ?_; (with_reducible refine (spec_l1Once.calls g275 t272 x276001_32 x276002_32 14 false t309 t310 w _ ?side1 ?side2 A46.out).mono ?_); (case side1 => repeat (first | (with_reducible first | exact HI275.out | apply IsS57.alloc | apply IsS57.drewN | apply IsS57.drew | apply IsS57.set_1 | apply IsS57.set_2) | exact HI275.out)); (case side2 => repeat (first | (with_reducible first | exact HB.out | apply below_alloc | apply pw_below_drewN | apply below_drew1 | refine below_set ?_ (IsS57.ge HI275.out)) | exact HB.out)); rintro e w57 ⟨rfl, hi, hb, hk⟩; refine ⟨_, rfl, ?_⟩; have n0_ := Aside0.mk (Kd.S_mono (Kd.S_keep (IsS57.apartS (show IsS57 w _ g275 t272 x276001_32 x276002_32 from by repeat (first | (with_reducible first | exact HI275.out | apply IsS57.alloc | apply IsS57.drewN | apply IsS57.drew | apply IsS57.set_1 | apply IsS57.set_2) | exact HI275.out)) (by (with_reducible repeat (first | apply Kd.S_alloc | apply Kd.S_drewN | apply Kd.S_drew)); exact HO_5.out) (by decide)) hk (fun _ h => h.2)) (fun _ h => h.1)); have n1_ := Aside0.mk (hb); have n2_ := Aside0.mk (hi); clear HO_5; clear HB; clear HI275; have HO_5 := n0_; have HB := n1_; have HI275 := n2_; clear n0_ n1_ n2_; (try clear hb); (try clear hb2); (try clear hk); (try clear hi)))
         go_ret2
         exact ⟨_, by first | rfl | (simp [errW_none, errW_some] <;> rfl) | (simp [*, errW_none, errW_some] <;> rfl), by (with_reducible repeat (first | apply Kd.S_alloc | apply Kd.S_drewN | apply Kd.S_drew)); exact HO_5.out, by repeat (first | (with_reducible first | exact HB.out | apply below_alloc | apply pw_below_drewN | apply below_drew1 | refine below_set ?_ (IsS57.ge HI275.out)) | exact HB.out)⟩

end Go.Proofs.YtpennfkjfeipcaaDoor.PFnFound
