/- The functions that the law reaches, as Lean functions, each with the proof that the Go code comes to just these answers. Written by a program of this session (wip/tools/handprint.py over the kit's print); by hand where the print takes no such text. -/
-- squeezed
import Derived.Test.YtbafihapjbkagaaPFnExactMergex0
import Derived.Test.YtbafihapjbkagaaPFnExactMergex1
import Derived.Test.YtbafihapjbkagaaPFnExactMergex2
namespace Go.Proofs.Ytbafihapjbkagaa.PFnExactMerge
open Go.RowKit Go.Proofs.YtbafihapjbkagaaW.PrintWords Go.Proofs.YtbafihapjbkagaaW.PrintLast Go.Proofs.YtbafihapjbkagaaW.PrintMore
attribute [local go_sem] max2_int min2_int max_two min_two max_three min_three max_four min_four   -- for this text's walks alone
set_option linter.unusedVariables false
set_option linter.unusedSimpArgs false

-- short names
theorem u3d : type_of% @World.block_lt_of_cell? := @World.block_lt_of_cell?
/-! ### spec_l11Sort: function 41 -/
mutual
def spec_l11Sort.l0 : Nat → List (S50) → List (S50) → Int → Option ((List (S50)))
 | 0, _, _, _ => none
 | k + 1, x0, x3, x4 => if x4 < (x0.length : Int) then (if 0 ≤ x4 then (if x3.length < 3518437208883 then (spec_l11Sort.l1 k x0 (x3 ++ [(⟨(rd_T50 x0 x4).f0, (⟨(rd_T50 x0 x4).f1.f0, (rd_T50 x0 x4).f1.f1, (rd_T50 x0 x4).f1.f2, (rd_T50 x0 x4).f1.f3⟩ : S35)⟩ : S50)]) x4 (x3.length : Int)) else (none)) else (none)) else (some x3)
def spec_l11Sort.l1 : Nat → List (S50) → List (S50) → Int → Int → Option ((List (S50)))
 | 0, _, _, _, _ => none
 | k + 1, x0, x3, x4, x5 => if x5 > 0 then (if 0 ≤ (wrap64 (x5 - 1)) then (if (wrap64 (x5 - 1)) < (x3.length : Int) then (if 0 ≤ x4 then (if x4 < (x0.length : Int) then (if ((rd_T50 x3 (wrap64 (x5 - 1))).f0) > ((rd_T50 x0 x4).f0) then (if 0 ≤ x5 then (if x5 < (x3.length : Int) then (spec_l11Sort.l1 k x0 (x3.set (x5 : Int).toNat (⟨(rd_T50 x3 (wrap64 (x5 - 1))).f0, (⟨(rd_T50 x3 (wrap64 (x5 - 1))).f1.f0, (rd_T50 x3 (wrap64 (x5 - 1))).f1.f1, (rd_T50 x3 (wrap64 (x5 - 1))).f1.f2, (rd_T50 x3 (wrap64 (x5 - 1))).f1.f3⟩ : S35)⟩ : S50)) x4 (wrap64 (x5 - 1))) else (none)) else (none)) else (if 0 ≤ x5 then (if x5 < (x3.length : Int) then (spec_l11Sort.l0 k x0 (x3.set (x5 : Int).toNat (⟨(rd_T50 x0 x4).f0, (⟨(rd_T50 x0 x4).f1.f0, (rd_T50 x0 x4).f1.f1, (rd_T50 x0 x4).f1.f2, (rd_T50 x0 x4).f1.f3⟩ : S35)⟩ : S50)) (wrap64 (x4 + 1))) else (none)) else (none))) else (none)) else (none)) else (none)) else (none)) else (if 0 ≤ x4 then (if x4 < (x0.length : Int) then (if 0 ≤ x5 then (if x5 < (x3.length : Int) then (spec_l11Sort.l0 k x0 (x3.set (x5 : Int).toNat (⟨(rd_T50 x0 x4).f0, (⟨(rd_T50 x0 x4).f1.f0, (rd_T50 x0 x4).f1.f1, (rd_T50 x0 x4).f1.f2, (rd_T50 x0 x4).f1.f3⟩ : S35)⟩ : S50)) (wrap64 (x4 + 1))) else (none)) else (none)) else (none)) else (none))
end
def spec_l11Sort.f (k : Nat) (l0 : List (S50)) : Option ((List (S50))) := spec_l11Sort.l0 k l0 (([] : List (S50))) 0
theorem spec_l11Sort.mono_l : ∀ k, (∀ y0 y1 y2, LeO (spec_l11Sort.l0 k y0 y1 y2) (spec_l11Sort.l0 (k + 1) y0 y1 y2)) ∧ (∀ y0 y1 y2 y3, LeO (spec_l11Sort.l1 k y0 y1 y2 y3) (spec_l11Sort.l1 (k + 1) y0 y1 y2 y3))
 | 0 => ⟨fun _ _ _ r h => by simp [spec_l11Sort.l0] at h, fun _ _ _ _ r h => by simp [spec_l11Sort.l1] at h⟩
 | k + 1 => by
  obtain ⟨ih0, ih1⟩ := spec_l11Sort.mono_l k
  refine ⟨?_, ?_⟩
  ·intro y0 y1 y2
   unfold spec_l11Sort.l0
   repeat' first
   | (with_reducible exact ih0 _ _ _)
   | (with_reducible exact ih1 _ _ _ _)
   | (with_reducible exact LeO.refl _)
   | (with_reducible exact LeO.none _)
   | (with_reducible refine LeO.ite ?_ ?_)
   | (with_reducible refine LeO.bind ?_ (fun _ => ?_))
   | exact ih0 _ _ _
   | exact ih1 _ _ _ _
   | exact LeO.none _
   | refine LeO.ite ?_ ?_
   | refine LeO.bind ?_ (fun _ => ?_)
  ·intro y0 y1 y2 y3
   unfold spec_l11Sort.l1
   repeat' first
   | (with_reducible exact ih0 _ _ _)
   | (with_reducible exact ih1 _ _ _ _)
   | (with_reducible exact LeO.refl _)
   | (with_reducible exact LeO.none _)
   | (with_reducible refine LeO.ite ?_ ?_)
   | (with_reducible refine LeO.bind ?_ (fun _ => ?_))
   | exact ih0 _ _ _
   | exact ih1 _ _ _ _
   | exact LeO.none _
   | refine LeO.ite ?_ ?_
   | refine LeO.bind ?_ (fun _ => ?_)
theorem spec_l11Sort.mono : ∀ a0 k, LeO (spec_l11Sort.f k a0) (spec_l11Sort.f (k + 1) a0) := by
 intro a0 k
 obtain ⟨ih0, ih1⟩ := spec_l11Sort.mono_l k
 unfold spec_l11Sort.f
 repeat' first
   | (with_reducible exact ih0 _ _ _)
   | (with_reducible exact ih1 _ _ _ _)
   | (with_reducible exact LeO.refl _)
   | (with_reducible exact LeO.none _)
   | (with_reducible refine LeO.ite ?_ ?_)
   | (with_reducible refine LeO.bind ?_ (fun _ => ?_))
   | exact ih0 _ _ _
   | exact ih1 _ _ _ _
   | exact LeO.none _
   | refine LeO.ite ?_ ?_
   | refine LeO.bind ?_ (fun _ => ?_)
set_option maxHeartbeats 8000000 in
set_option maxRecDepth 100000 in
theorem spec_l11Sort.calls (k : Nat) (A0 : Option Addr) (c0 : Nat) (l0 : List (S50)) (r : List (S50)) (w : World) (hr0 : Kd.C k50 w A0 l0.length l0) (hc0 : l0.length ≤ c0) (h : spec_l11Sort.f k l0 = some r) :
  Calls Try.prog 41 #[.slice A0 l0.length c0] w fun e w' => ∃ v0_ : Value, e = .returned (v0_) ∧ Kd.R k50 50 w' w.heap.size (fun _ => True) v0_ r ∧ Below w.heap.size w w' := by
 have hu50 := Try.underlying50
 have HR0 := Aside0.mk hr0
 have HC0 := Aside0.mk hc0
 clear hr0 hc0
 have HB := Aside0.mk (Below.refl w.heap.size w)
 have H : (spec_l11Sort.l0 k l0 (([] : List (S50))) 0) = some r := h
 clear h
 obtain ⟨y155, hy155⟩ : ∃ y_ : List (S50), y_ = (([] : List (S50))) := ⟨_, rfl⟩
 replace H : (spec_l11Sort.l0 k l0 y155 0) = some r := by first | (rw [hy155]; with_reducible exact H) | (have H2_ := (Option.bind_some _ _).symm.trans H; rw [hy155]; with_reducible exact H2_) | (have H2_ := (Option.bind_some _ _).symm.trans H; with_reducible exact H2_) | with_reducible exact H | (rw [hy155]; exact H) | exact H
 have Ny155 := Aside0.mk hy155
 clear hy155
 have H' := Aside0.mk H
 clear H
 go_enter Try.func41, Try.ntmps41
 go_wp2_with (first | ((with_reducible refine gate_dst (N := 6) rfl ?_); refine Kd.R_lit k50 _ 50 ?hg (N := 6) ?hd (xs := ([] : List (S50))) (inner := []) (ok := fun _ => True) (okp := fun _ => True) ?hr ?hp (fun _ hk => hk) trivial (Below.refl _ _) (Nat.le_refl _) (by simp) ?_; (case hd => rfl); (case hg => rfl); (case hr => first | (go_simp; done) | (go_simp; rfl)); (case hp => exact (Reps.none _ _)); intro v156 w2 ho3 hb hg_ hnew_; clear hg_ hnew_; (first | rw [← Ny155.out] at ho3 | (simp only [Int.reduceToNat] at ho3; rw [← Ny155.out] at ho3)); have n0_ := Aside0.mk (Kd.R_lower ho3 (below_size (by repeat (first | (with_reducible first | exact HB.out | apply below_alloc | apply pw_below_drewN | apply below_drew1) | exact HB.out)))); have n1_ := Aside0.mk (below_step (by repeat (first | (with_reducible first | exact HB.out | apply below_alloc | apply pw_below_drewN | apply below_drew1) | exact HB.out)) hb); clear HB; have HO157 := n0_; have HB := n1_; clear n0_ n1_; clear hb ho3))
 repeat (go_quiet (first | ((with_reducible refine gate_dst (N := 6) rfl ?_); refine Kd.R_lit k50 _ 50 ?hg (N := 6) ?hd (xs := ([] : List (S50))) (inner := []) (ok := fun _ => True) (okp := fun _ => True) ?hr ?hp (fun _ hk => hk) trivial (Below.refl _ _) (Nat.le_refl _) (by simp) ?_; (case hd => rfl); (case hg => rfl); (case hr => first | (go_simp; done) | (go_simp; rfl)); (case hp => exact (Reps.none _ _)); intro v156 w2 ho3 hb hg_ hnew_; clear hg_ hnew_; (first | rw [← Ny155.out] at ho3 | (simp only [Int.reduceToNat] at ho3; rw [← Ny155.out] at ho3)); have n0_ := Aside0.mk (Kd.R_lower ho3 (below_size (by repeat (first | (with_reducible first | exact HB.out | apply below_alloc | apply pw_below_drewN | apply below_drew1) | exact HB.out)))); have n1_ := Aside0.mk (below_step (by repeat (first | (with_reducible first | exact HB.out | apply below_alloc | apply pw_below_drewN | apply below_drew1) | exact HB.out)) hb); clear HB; have HO157 := n0_; have HB := n1_; clear n0_ n1_; clear hb ho3)); try go_wp2_with (first | ((with_reducible refine gate_dst (N := 6) rfl ?_); refine Kd.R_lit k50 _ 50 ?hg (N := 6) ?hd (xs := ([] : List (S50))) (inner := []) (ok := fun _ => True) (okp := fun _ => True) ?hr ?hp (fun _ hk => hk) trivial (Below.refl _ _) (Nat.le_refl _) (by simp) ?_; (case hd => rfl); (case hg => rfl); (case hr => first | (go_simp; done) | (go_simp; rfl)); (case hp => exact (Reps.none _ _)); intro v156 w2 ho3 hb hg_ hnew_; clear hg_ hnew_; (first | rw [← Ny155.out] at ho3 | (simp only [Int.reduceToNat] at ho3; rw [← Ny155.out] at ho3)); have n0_ := Aside0.mk (Kd.R_lower ho3 (below_size (by repeat (first | (with_reducible first | exact HB.out | apply below_alloc | apply pw_below_drewN | apply below_drew1) | exact HB.out)))); have n1_ := Aside0.mk (below_step (by repeat (first | (with_reducible first | exact HB.out | apply below_alloc | apply pw_below_drewN | apply below_drew1) | exact HB.out)) hb); clear HB; have HO157 := n0_; have HB := n1_; clear n0_ n1_; clear hb ho3)))
 go_loopg [3, 4] k (fun kq v3 v4 w' => ∃ (x3_1 : List (S50)) (x4_1 : Int), v4 = .int .i64 x4_1 ∧ Aside0 (spec_l11Sort.l0 kq l0 x3_1 x4_1 = some r) ∧ Aside0 (kq ≤ k) ∧ Aside0 (Kd.R k50 50 w' w.heap.size (fun _ => True) v3 x3_1) ∧ Aside0 (Below w.heap.size w w'))
 case atStart => exact ⟨(y155), (0), (by first | rfl | (simp; done) | (simp [*]; done)), H', ⟨Nat.le_refl _⟩, ⟨by (with_reducible repeat (first | apply Kd.R_alloc | apply Kd.R_drewN | apply Kd.R_drew)); exact HO157.out⟩, ⟨by repeat (first | (with_reducible first | exact HB.out | apply below_alloc | apply pw_below_drewN | apply below_drew1) | exact HB.out)⟩⟩
 case round =>
  clear H'
  obtain ⟨x3_1, x4_1, rfl, HA, HK1, HO_3, HB⟩ := hrel
  cases gk with
  | zero => exact absurd HA.out (by simp [spec_l11Sort.l0])
  | succ k1 =>
   have H := HA.out
   clear HA
   simp only [spec_l11Sort.l0] at H
   by_cases c4 : x4_1 < (l0.length : Int)
   ·rw [if_pos c4] at H
    have c4b0 : decide (x4_1 < (l0.length : Int)) = true := decide_eq_true c4
    clear c4
    by_cases c5 : 0 ≤ x4_1
    ·rw [if_pos c5] at H
     have c5b0 : decide (0 ≤ x4_1) = true := decide_eq_true c5
     clear c5
     by_cases c6 : x3_1.length < 3518437208883
     ·rw [if_pos c6] at H
      have LMc6 := Aside0.mk c6
      clear c6
      obtain ⟨y159, hy159⟩ : ∃ y_ : List (S50), y_ = (x3_1 ++ [(⟨(rd_T50 l0 x4_1).f0, (⟨(rd_T50 l0 x4_1).f1.f0, (rd_T50 l0 x4_1).f1.f1, (rd_T50 l0 x4_1).f1.f2, (rd_T50 l0 x4_1).f1.f3⟩ : S35)⟩ : S50)]) := ⟨_, rfl⟩
      replace H : (spec_l11Sort.l1 k1 l0 y159 x4_1 (x3_1.length : Int)) = some r := by first | (rw [hy159]; with_reducible exact H) | (have H2_ := (Option.bind_some _ _).symm.trans H; rw [hy159]; with_reducible exact H2_) | (have H2_ := (Option.bind_some _ _).symm.trans H; with_reducible exact H2_) | with_reducible exact H | (rw [hy159]; exact H) | exact H
      have Ny159 := Aside0.mk hy159
      clear hy159
      have H' := Aside0.mk H
      clear H
      obtain ⟨Ao7, co7, eo7⟩ := Kd.R_slice HO_3.out
      subst eo7
      have p158 : 0 ≤ (x4_1 : Int) := of_decide_eq_true (by first | (with_reducible assumption) | assumption)
      have q158 : x4_1 < (l0.length : Int) := of_decide_eq_true (by first | (with_reducible assumption) | assumption)
      obtain ⟨ad158, e158, hx158_0, hx158_1, hx158_2, hx158_3, hx158_4⟩ := at_T50 HR0.out x4_1 p158 q158
      cases e158
      replace hx158_0 := (HB.out.cell (u3d w _ hx158_0)).trans hx158_0
      replace hx158_1 := (HB.out.cell (u3d w _ hx158_1)).trans hx158_1
      replace hx158_2 := (HB.out.cell (u3d w _ hx158_2)).trans hx158_2
      replace hx158_3 := (HB.out.cell (u3d w _ hx158_3)).trans hx158_3
      replace hx158_4 := (HB.out.cell (u3d w _ hx158_4)).trans hx158_4
      replace p158 := eq_true p158
      replace q158 := eq_true q158
      go_wp2_with (first | ((with_reducible refine gate_builtin (b := .append) (xs := #[.tmp 15, .tmp 20]) rfl ?_); at_builtin; refine Kd.R_append k50 (w0 := w) w.heap.size rfl (.tmp 15) (.tmp 20) 39 50 (.agg #[(.int .i64 0), (.int .i64 0), (.int .i64 0), (.int .i64 0), (.int .i64 0)]) 40 rfl Try.underlying39 info50 rfl (by decide) (by omega) (.slice Ao7 x3_1.length co7) x3_1 (⟨(rd_T50 l0 x4_1).f0, (⟨(rd_T50 l0 x4_1).f1.f0, (rd_T50 l0 x4_1).f1.f1, (rd_T50 l0 x4_1).f1.f2, (rd_T50 l0 x4_1).f1.f3⟩ : S35)⟩ : S50) [.int .i64 ((rd_T50 l0 x4_1).f0), .int .i64 ((rd_T50 l0 x4_1).f1.f0), .int .i64 ((rd_T50 l0 x4_1).f1.f1), .int .i64 ((rd_T50 l0 x4_1).f1.f2), .int .i64 ((rd_T50 l0 x4_1).f1.f3)] (fun _ => True) (fun _ => False) rfl rfl ?aP (fun _ hk => hk.elim) ?aF ?aO ?aB ?aS ?aL ?_; (case aP => exact k50_mkM _ _ _ (⟨(rd_T50 l0 x4_1).f0, (⟨(rd_T50 l0 x4_1).f1.f0, (rd_T50 l0 x4_1).f1.f1, (rd_T50 l0 x4_1).f1.f2, (rd_T50 l0 x4_1).f1.f3⟩ : S35)⟩ : S50)); (case aB => exact (by repeat (first | (with_reducible first | exact HB.out | apply below_alloc | apply pw_below_drewN | apply below_drew1) | exact HB.out))); (case aF => exact (fun _ _ => trivial)); (case aO => exact (by (with_reducible repeat (first | apply Kd.R_alloc | apply Kd.R_drewN | apply Kd.R_drew)); exact HO_3.out)); (case aS => exact (below_size (by repeat (first | (with_reducible first | exact HB.out | apply below_alloc | apply pw_below_drewN | apply below_drew1) | exact HB.out)))); (case aL => have := LMc6.out; omega); intro v160 w8 ho hb hg hat; rw [← Ny159.out] at ho; have n0_ := Aside0.mk (hb); have n1_ := Aside0.mk (ho); clear HB; clear HO_3; have HB := n0_; have HO161 := n1_; clear n0_ n1_; clear ho hb hg hat))
      repeat (go_quiet (first | ((with_reducible refine gate_builtin (b := .append) (xs := #[.tmp 15, .tmp 20]) rfl ?_); at_builtin; refine Kd.R_append k50 (w0 := w) w.heap.size rfl (.tmp 15) (.tmp 20) 39 50 (.agg #[(.int .i64 0), (.int .i64 0), (.int .i64 0), (.int .i64 0), (.int .i64 0)]) 40 rfl Try.underlying39 info50 rfl (by decide) (by omega) (.slice Ao7 x3_1.length co7) x3_1 (⟨(rd_T50 l0 x4_1).f0, (⟨(rd_T50 l0 x4_1).f1.f0, (rd_T50 l0 x4_1).f1.f1, (rd_T50 l0 x4_1).f1.f2, (rd_T50 l0 x4_1).f1.f3⟩ : S35)⟩ : S50) [.int .i64 ((rd_T50 l0 x4_1).f0), .int .i64 ((rd_T50 l0 x4_1).f1.f0), .int .i64 ((rd_T50 l0 x4_1).f1.f1), .int .i64 ((rd_T50 l0 x4_1).f1.f2), .int .i64 ((rd_T50 l0 x4_1).f1.f3)] (fun _ => True) (fun _ => False) rfl rfl ?aP (fun _ hk => hk.elim) ?aF ?aO ?aB ?aS ?aL ?_; (case aP => exact k50_mkM _ _ _ (⟨(rd_T50 l0 x4_1).f0, (⟨(rd_T50 l0 x4_1).f1.f0, (rd_T50 l0 x4_1).f1.f1, (rd_T50 l0 x4_1).f1.f2, (rd_T50 l0 x4_1).f1.f3⟩ : S35)⟩ : S50)); (case aB => exact (by repeat (first | (with_reducible first | exact HB.out | apply below_alloc | apply pw_below_drewN | apply below_drew1) | exact HB.out))); (case aF => exact (fun _ _ => trivial)); (case aO => exact (by (with_reducible repeat (first | apply Kd.R_alloc | apply Kd.R_drewN | apply Kd.R_drew)); exact HO_3.out)); (case aS => exact (below_size (by repeat (first | (with_reducible first | exact HB.out | apply below_alloc | apply pw_below_drewN | apply below_drew1) | exact HB.out)))); (case aL => have := LMc6.out; omega); intro v160 w8 ho hb hg hat; rw [← Ny159.out] at ho; have n0_ := Aside0.mk (hb); have n1_ := Aside0.mk (ho); clear HB; clear HO_3; have HB := n0_; have HO161 := n1_; clear n0_ n1_; clear ho hb hg hat)); try go_wp2_with (first | ((with_reducible refine gate_builtin (b := .append) (xs := #[.tmp 15, .tmp 20]) rfl ?_); at_builtin; refine Kd.R_append k50 (w0 := w) w.heap.size rfl (.tmp 15) (.tmp 20) 39 50 (.agg #[(.int .i64 0), (.int .i64 0), (.int .i64 0), (.int .i64 0), (.int .i64 0)]) 40 rfl Try.underlying39 info50 rfl (by decide) (by omega) (.slice Ao7 x3_1.length co7) x3_1 (⟨(rd_T50 l0 x4_1).f0, (⟨(rd_T50 l0 x4_1).f1.f0, (rd_T50 l0 x4_1).f1.f1, (rd_T50 l0 x4_1).f1.f2, (rd_T50 l0 x4_1).f1.f3⟩ : S35)⟩ : S50) [.int .i64 ((rd_T50 l0 x4_1).f0), .int .i64 ((rd_T50 l0 x4_1).f1.f0), .int .i64 ((rd_T50 l0 x4_1).f1.f1), .int .i64 ((rd_T50 l0 x4_1).f1.f2), .int .i64 ((rd_T50 l0 x4_1).f1.f3)] (fun _ => True) (fun _ => False) rfl rfl ?aP (fun _ hk => hk.elim) ?aF ?aO ?aB ?aS ?aL ?_; (case aP => exact k50_mkM _ _ _ (⟨(rd_T50 l0 x4_1).f0, (⟨(rd_T50 l0 x4_1).f1.f0, (rd_T50 l0 x4_1).f1.f1, (rd_T50 l0 x4_1).f1.f2, (rd_T50 l0 x4_1).f1.f3⟩ : S35)⟩ : S50)); (case aB => exact (by repeat (first | (with_reducible first | exact HB.out | apply below_alloc | apply pw_below_drewN | apply below_drew1) | exact HB.out))); (case aF => exact (fun _ _ => trivial)); (case aO => exact (by (with_reducible repeat (first | apply Kd.R_alloc | apply Kd.R_drewN | apply Kd.R_drew)); exact HO_3.out)); (case aS => exact (below_size (by repeat (first | (with_reducible first | exact HB.out | apply below_alloc | apply pw_below_drewN | apply below_drew1) | exact HB.out)))); (case aL => have := LMc6.out; omega); intro v160 w8 ho hb hg hat; rw [← Ny159.out] at ho; have n0_ := Aside0.mk (hb); have n1_ := Aside0.mk (ho); clear HB; clear HO_3; have HB := n0_; have HO161 := n1_; clear n0_ n1_; clear ho hb hg hat)))
      go_loopg [5] k1 (fun kq v5 w' => ∃ (x3_2 : List (S50)) (x5_2 : Int), v5 = .int .i64 x5_2 ∧ Aside0 (spec_l11Sort.l1 kq l0 x3_2 x4_1 x5_2 = some r) ∧ Aside0 (kq ≤ k1) ∧ Aside0 (Kd.R k50 50 w' w.heap.size (fun _ => True) v160 x3_2) ∧ Aside0 (Below w.heap.size w w'))
      case atStart => exact ⟨(y159), ((x3_1.length : Int)), (by first | rfl | (simp; done) | (simp [*]; done)), H', ⟨Nat.le_refl _⟩, ⟨by (with_reducible repeat (first | apply Kd.R_alloc | apply Kd.R_drewN | apply Kd.R_drew)); exact HO161.out⟩, ⟨by repeat (first | (with_reducible first | exact HB.out | apply below_alloc | apply pw_below_drewN | apply below_drew1) | exact HB.out)⟩⟩
      case round =>
       clear H'
       try clear c4
       try clear c4b0
       try clear c5
       try clear c5b0
       try clear c6
       try clear hx158_0
       try clear hx158_1
       try clear hx158_2
       try clear hx158_3
       try clear hx158_4
       try clear p158
       try clear q158
       obtain ⟨x3_2, x5_2, rfl, HA, HK2, HO_3, HB⟩ := hrel
       cases gk with
       | zero => exact absurd HA.out (by simp [spec_l11Sort.l1])
       | succ k2 =>
        have H := HA.out
        clear HA
        simp only [spec_l11Sort.l1] at H
        by_cases c9 : x5_2 > 0
        ·rw [if_pos c9] at H
         have c9b0 : decide (0 < x5_2) = true := decide_eq_true c9
         clear c9
         obtain ⟨ji10, hji10⟩ : ∃ j_ : Int, (wrap64 (x5_2 - 1)) = j_ := ⟨_, rfl⟩
         replace H : (if 0 ≤ (ji10) then (if (ji10) < (x3_2.length : Int) then (if 0 ≤ x4_1 then (if x4_1 < (l0.length : Int) then (if ((rd_T50 x3_2 (ji10)).f0) > ((rd_T50 l0 x4_1).f0) then (if 0 ≤ x5_2 then (if x5_2 < (x3_2.length : Int) then (spec_l11Sort.l1 k2 l0 (x3_2.set (x5_2 : Int).toNat (⟨(rd_T50 x3_2 (ji10)).f0, (⟨(rd_T50 x3_2 (ji10)).f1.f0, (rd_T50 x3_2 (ji10)).f1.f1, (rd_T50 x3_2 (ji10)).f1.f2, (rd_T50 x3_2 (ji10)).f1.f3⟩ : S35)⟩ : S50)) x4_1 ji10) else (none)) else (none)) else (if 0 ≤ x5_2 then (if x5_2 < (x3_2.length : Int) then (spec_l11Sort.l0 k2 l0 (x3_2.set (x5_2 : Int).toNat (⟨(rd_T50 l0 x4_1).f0, (⟨(rd_T50 l0 x4_1).f1.f0, (rd_T50 l0 x4_1).f1.f1, (rd_T50 l0 x4_1).f1.f2, (rd_T50 l0 x4_1).f1.f3⟩ : S35)⟩ : S50)) (wrap64 (x4_1 + 1))) else (none)) else (none))) else (none)) else (none)) else (none)) else (none)) = some r := by first | (rw [hji10] at H; exact H) | (simp only [hji10] at H ⊢; exact H)
         have hji10w : (IntKind.i64.wrap (x5_2 - 1)) = ji10 := (i64_w _).trans hji10
         by_cases c11 : 0 ≤ (ji10)
         ·rw [if_pos c11] at H
          have c11b0 : decide (0 ≤ (ji10)) = true := decide_eq_true c11
          clear c11
          by_cases c12 : (ji10) < (x3_2.length : Int)
          ·rw [if_pos c12] at H
           have c12b0 : decide ((ji10) < (x3_2.length : Int)) = true := decide_eq_true c12
           clear c12
           by_cases c13 : 0 ≤ x4_1
           ·rw [if_pos c13] at H
            have c13b0 : decide (0 ≤ x4_1) = true := decide_eq_true c13
            clear c13
            by_cases c14 : x4_1 < (l0.length : Int)
            ·rw [if_pos c14] at H
             have c14b0 : decide (x4_1 < (l0.length : Int)) = true := decide_eq_true c14
             clear c14
             by_cases c15 : ((rd_T50 x3_2 (ji10)).f0) > ((rd_T50 l0 x4_1).f0)
             ·rw [if_pos c15] at H
              have c15b0 : decide (((rd_T50 l0 x4_1).f0) < ((rd_T50 x3_2 (ji10)).f0)) = true := decide_eq_true c15
              clear c15
              by_cases c16 : 0 ≤ x5_2
              ·rw [if_pos c16] at H
               have c16b0 : decide (0 ≤ x5_2) = true := decide_eq_true c16
               clear c16
               by_cases c17 : x5_2 < (x3_2.length : Int)
               ·rw [if_pos c17] at H
                have c17b0 : decide (x5_2 < (x3_2.length : Int)) = true := decide_eq_true c17
                clear c17
                obtain ⟨y165, hy165⟩ : ∃ y_ : List (S50), y_ = (x3_2.set (x5_2 : Int).toNat (⟨(rd_T50 x3_2 (ji10)).f0, (⟨(rd_T50 x3_2 (ji10)).f1.f0, (rd_T50 x3_2 (ji10)).f1.f1, (rd_T50 x3_2 (ji10)).f1.f2, (rd_T50 x3_2 (ji10)).f1.f3⟩ : S35)⟩ : S50)) := ⟨_, rfl⟩
                replace H : (spec_l11Sort.l1 k2 l0 y165 x4_1 ji10) = some r := by first | (rw [hy165]; with_reducible exact H) | (have H2_ := (Option.bind_some _ _).symm.trans H; rw [hy165]; with_reducible exact H2_) | (have H2_ := (Option.bind_some _ _).symm.trans H; with_reducible exact H2_) | with_reducible exact H | (rw [hy165]; exact H) | exact H
                have Ny165 := Aside0.mk hy165
                clear hy165
                have H' := Aside0.mk H
                clear H
                obtain ⟨Ao19, co19, eo19⟩ := Kd.R_slice HO_3.out
                subst eo19
                have p162 : 0 ≤ ((ji10) : Int) := of_decide_eq_true (by first | (with_reducible assumption) | assumption)
                have q162 : (ji10) < (x3_2.length : Int) := of_decide_eq_true (by first | (with_reducible assumption) | assumption)
                obtain ⟨ad162, e162, hx162_0, hx162_1, hx162_2, hx162_3, hx162_4⟩ := at_T50 (Kd.R_reads' HO_3.out).2.2 (ji10) p162 q162
                cases e162
                replace p162 := eq_true p162
                replace q162 := eq_true q162
                have p163 : 0 ≤ (x4_1 : Int) := of_decide_eq_true (by first | (with_reducible assumption) | assumption)
                have q163 : x4_1 < (l0.length : Int) := of_decide_eq_true (by first | (with_reducible assumption) | assumption)
                obtain ⟨ad163, e163, hx163_0, hx163_1, hx163_2, hx163_3, hx163_4⟩ := at_T50 HR0.out x4_1 p163 q163
                obtain rfl : ad158 = ad163 := (by injection e163)
                replace hx163_0 := (HB.out.cell (u3d w _ hx163_0)).trans hx163_0
                replace hx163_1 := (HB.out.cell (u3d w _ hx163_1)).trans hx163_1
                replace hx163_2 := (HB.out.cell (u3d w _ hx163_2)).trans hx163_2
                replace hx163_3 := (HB.out.cell (u3d w _ hx163_3)).trans hx163_3
                replace hx163_4 := (HB.out.cell (u3d w _ hx163_4)).trans hx163_4
                replace p163 := eq_true p163
                replace q163 := eq_true q163
                have p164 : 0 ≤ ((ji10) : Int) := of_decide_eq_true (by first | (with_reducible assumption) | assumption)
                have q164 : (ji10) < (x3_2.length : Int) := of_decide_eq_true (by first | (with_reducible assumption) | assumption)
                obtain ⟨ad164, e164, hx164_0, hx164_1, hx164_2, hx164_3, hx164_4⟩ := at_T50 (Kd.R_reads' HO_3.out).2.2 (ji10) p164 q164
                obtain rfl : ad162 = ad164 := (by injection e164)
                replace p164 := eq_true p164
                replace q164 := eq_true q164
                have p18 : 0 ≤ (x5_2 : Int) := of_decide_eq_true (by first | (with_reducible assumption) | assumption)
                have q18 : (x5_2 : Int) < ((x3_2.length : Int) : Int) := of_decide_eq_true (by first | (with_reducible assumption) | assumption)
                obtain ⟨go18, co18, eo18, gb18, gl18, cl18, HG18⟩ := Kd.R_form HO_3.out (by omega)
                (first | cases eo18 | (injection eo18 with ea_ en_ ec_; (first | subst ea_ | (injection ea_ with ea_; subst ea_)); subst ec_; clear en_))
                have GB18 := Aside0.mk gb18
                have GG18 := Aside0.mk HG18
                clear gb18 gl18 HG18
                (first | simp only [add_plain] at hx162_0 | skip)
                (first | simp only [add_plain] at hx162_1 | skip)
                (first | simp only [add_plain] at hx162_2 | skip)
                (first | simp only [add_plain] at hx162_3 | skip)
                (first | simp only [add_plain] at hx162_4 | skip)
                (first | simp only [add_plain] at hx164_0 | skip)
                (first | simp only [add_plain] at hx164_1 | skip)
                (first | simp only [add_plain] at hx164_2 | skip)
                (first | simp only [add_plain] at hx164_3 | skip)
                (first | simp only [add_plain] at hx164_4 | skip)
                obtain ⟨ce18, hcl18, hM18, hcc18, hfr18⟩ := Kd.R_elem HO_3.out z50 (x5_2 : Int) p18 q18
                obtain rfl := k50_openM hM18
                have hx18_0 : wr.cell? ⟨go18, (x5_2 : Int).toNat * 5, none⟩ = some (.int .i64 ((rd_T50 x3_2 x5_2).f0)) := hcc18 0 _ rfl
                have hx18_1 : wr.cell? ⟨go18, (x5_2 : Int).toNat * 5 + 1, none⟩ = some (.int .i64 ((rd_T50 x3_2 x5_2).f1.f0)) := hcc18 1 _ rfl
                have hx18_2 : wr.cell? ⟨go18, (x5_2 : Int).toNat * 5 + 2, none⟩ = some (.int .i64 ((rd_T50 x3_2 x5_2).f1.f1)) := hcc18 2 _ rfl
                have hx18_3 : wr.cell? ⟨go18, (x5_2 : Int).toNat * 5 + 3, none⟩ = some (.int .i64 ((rd_T50 x3_2 x5_2).f1.f2)) := hcc18 3 _ rfl
                have hx18_4 : wr.cell? ⟨go18, (x5_2 : Int).toNat * 5 + 4, none⟩ = some (.int .i64 ((rd_T50 x3_2 x5_2).f1.f3)) := hcc18 4 _ rfl
                have hf18_0 : wr.frozen? ⟨go18, (x5_2 : Int).toNat * 5, none⟩ = false := hfr18 0
                have hf18_1 : wr.frozen? ⟨go18, (x5_2 : Int).toNat * 5 + 1, none⟩ = false := hfr18 1
                have hf18_2 : wr.frozen? ⟨go18, (x5_2 : Int).toNat * 5 + 2, none⟩ = false := hfr18 2
                have hf18_3 : wr.frozen? ⟨go18, (x5_2 : Int).toNat * 5 + 3, none⟩ = false := hfr18 3
                have hf18_4 : wr.frozen? ⟨go18, (x5_2 : Int).toNat * 5 + 4, none⟩ = false := hfr18 4
                clear hcl18 hcc18 hfr18 hM18
                replace p18 := eq_true p18
                replace q18 := eq_true q18
                have HX20 := Aside0.mk (show Kd.R k50 50 wr w.heap.size (fun _ => True) (.slice (some ⟨go18, 0, none⟩) x3_2.length co19) x3_2 from (by (with_reducible repeat (first | apply Kd.R_alloc | apply Kd.R_drewN | apply Kd.R_drew)); exact HO_3.out))
                obtain ⟨ce20, hcl20, hM20, hcc20, hfr20⟩ := Kd.R_elem HX20.out z50 (x5_2 : Int) (of_decide_eq_true (by first | (with_reducible assumption) | assumption)) (by have h_ : (x5_2 : Int) < ((x3_2.length : Int) : Int) := of_decide_eq_true (by first | (with_reducible assumption) | assumption); first | exact h_ | (have e_ := (Kd.R_reads' HO_3.out).1; omega) | simpa using h_)
                obtain rfl := k50_openM hM20
                have HP20 := Kd.R_seg HX20.out (x5_2 : Int) (of_decide_eq_true (by first | (with_reducible assumption) | assumption)) (by have h_ : (x5_2 : Int) < ((x3_2.length : Int) : Int) := of_decide_eq_true (by first | (with_reducible assumption) | assumption); first | exact h_ | (have e_ := (Kd.R_reads' HO_3.out).1; omega) | simpa using h_) (seg := [.int .i64 ((rd_T50 x3_2 (ji10)).f0), .int .i64 ((rd_T50 x3_2 (ji10)).f1.f0), .int .i64 ((rd_T50 x3_2 (ji10)).f1.f1), .int .i64 ((rd_T50 x3_2 (ji10)).f1.f2), .int .i64 ((rd_T50 x3_2 (ji10)).f1.f3)]) (j := 0) hcl20 hcc20 (show 5 ≤ 5 from by decide) (x' := (⟨(rd_T50 x3_2 (ji10)).f0, (⟨(rd_T50 x3_2 (ji10)).f1.f0, (rd_T50 x3_2 (ji10)).f1.f1, (rd_T50 x3_2 (ji10)).f1.f2, (rd_T50 x3_2 (ji10)).f1.f3⟩ : S35)⟩ : S50)) (k50_mkM _ _ _ (⟨(rd_T50 x3_2 (ji10)).f0, (⟨(rd_T50 x3_2 (ji10)).f1.f0, (rd_T50 x3_2 (ji10)).f1.f1, (rd_T50 x3_2 (ji10)).f1.f2, (rd_T50 x3_2 (ji10)).f1.f3⟩ : S35)⟩ : S50) ) (fun _ hk => hk)
                have hx20_0 := hcc20 0 _ rfl
                (try simp only [show (k50).sz = 5 from rfl, Nat.mul_one, Nat.add_zero] at hx20_0)
                have hf20_0 := hfr20 0
                (try simp only [show (k50).sz = 5 from rfl, Nat.mul_one, Nat.add_zero] at hf20_0)
                have hx20_1 := hcc20 1 _ rfl
                (try simp only [show (k50).sz = 5 from rfl, Nat.mul_one, Nat.add_zero] at hx20_1)
                have hf20_1 := hfr20 1
                (try simp only [show (k50).sz = 5 from rfl, Nat.mul_one, Nat.add_zero] at hf20_1)
                have hx20_2 := hcc20 2 _ rfl
                (try simp only [show (k50).sz = 5 from rfl, Nat.mul_one, Nat.add_zero] at hx20_2)
                have hf20_2 := hfr20 2
                (try simp only [show (k50).sz = 5 from rfl, Nat.mul_one, Nat.add_zero] at hf20_2)
                have hx20_3 := hcc20 3 _ rfl
                (try simp only [show (k50).sz = 5 from rfl, Nat.mul_one, Nat.add_zero] at hx20_3)
                have hf20_3 := hfr20 3
                (try simp only [show (k50).sz = 5 from rfl, Nat.mul_one, Nat.add_zero] at hf20_3)
                have hx20_4 := hcc20 4 _ rfl
                (try simp only [show (k50).sz = 5 from rfl, Nat.mul_one, Nat.add_zero] at hx20_4)
                have hf20_4 := hfr20 4
                (try simp only [show (k50).sz = 5 from rfl, Nat.mul_one, Nat.add_zero] at hf20_4)
                clear hcl20 hcc20 hfr20 hM20
                go_wp2_with (first | ((with_reducible refine gate_store (t := 50) (p := 45) rfl ?_); (try (rw [drewN_self wr]; generalize hq_ : World.drewN wr _ = wr; have n0_ := Aside0.mk (Kd.R_at hq_ HO_3.out); have n1_ := Aside0.mk (below_at hq_ HB.out); clear hq_ HO_3 HB; have HO_3 := n0_; have HB := n1_; clear n0_ n1_; (try (have HX20 := Aside0.mk (show Kd.R k50 50 wr w.heap.size (fun _ => True) (.slice (some ⟨go18, 0, none⟩) x3_2.length co19) x3_2 from (by (with_reducible repeat (first | apply Kd.R_alloc | apply Kd.R_drewN | apply Kd.R_drew)); exact HO_3.out)))); (try (obtain ⟨ce20, hcl20, hM20, hcc20, hfr20⟩ := Kd.R_elem HX20.out z50 (x5_2 : Int) (of_decide_eq_true (by first | (with_reducible assumption) | assumption)) (by have h_ : (x5_2 : Int) < ((x3_2.length : Int) : Int) := of_decide_eq_true (by first | (with_reducible assumption) | assumption); first | exact h_ | (have e_ := (Kd.R_reads' HO_3.out).1; omega) | simpa using h_))); (try (obtain rfl := k50_openM hM20)); (try (have HP20 := Kd.R_seg HX20.out (x5_2 : Int) (of_decide_eq_true (by first | (with_reducible assumption) | assumption)) (by have h_ : (x5_2 : Int) < ((x3_2.length : Int) : Int) := of_decide_eq_true (by first | (with_reducible assumption) | assumption); first | exact h_ | (have e_ := (Kd.R_reads' HO_3.out).1; omega) | simpa using h_) (seg := [.int .i64 ((rd_T50 x3_2 (ji10)).f0), .int .i64 ((rd_T50 x3_2 (ji10)).f1.f0), .int .i64 ((rd_T50 x3_2 (ji10)).f1.f1), .int .i64 ((rd_T50 x3_2 (ji10)).f1.f2), .int .i64 ((rd_T50 x3_2 (ji10)).f1.f3)]) (j := 0) hcl20 hcc20 (show 5 ≤ 5 from by decide) (x' := (⟨(rd_T50 x3_2 (ji10)).f0, (⟨(rd_T50 x3_2 (ji10)).f1.f0, (rd_T50 x3_2 (ji10)).f1.f1, (rd_T50 x3_2 (ji10)).f1.f2, (rd_T50 x3_2 (ji10)).f1.f3⟩ : S35)⟩ : S50)) (k50_mkM _ _ _ (⟨(rd_T50 x3_2 (ji10)).f0, (⟨(rd_T50 x3_2 (ji10)).f1.f0, (rd_T50 x3_2 (ji10)).f1.f1, (rd_T50 x3_2 (ji10)).f1.f2, (rd_T50 x3_2 (ji10)).f1.f3⟩ : S35)⟩ : S50) ) (fun _ hk => hk))); (try (have hx20_0 := hcc20 0 _ rfl)); (try (try simp only [show (k50).sz = 5 from rfl, Nat.mul_one, Nat.add_zero] at hx20_0)); (try (have hf20_0 := hfr20 0)); (try (try simp only [show (k50).sz = 5 from rfl, Nat.mul_one, Nat.add_zero] at hf20_0)); (try (have hx20_1 := hcc20 1 _ rfl)); (try (try simp only [show (k50).sz = 5 from rfl, Nat.mul_one, Nat.add_zero] at hx20_1)); (try (have hf20_1 := hfr20 1)); (try (try simp only [show (k50).sz = 5 from rfl, Nat.mul_one, Nat.add_zero] at hf20_1)); (try (have hx20_2 := hcc20 2 _ rfl)); (try (try simp only [show (k50).sz = 5 from rfl, Nat.mul_one, Nat.add_zero] at hx20_2)); (try (have hf20_2 := hfr20 2)); (try (try simp only [show (k50).sz = 5 from rfl, Nat.mul_one, Nat.add_zero] at hf20_2)); (try (have hx20_3 := hcc20 3 _ rfl)); (try (try simp only [show (k50).sz = 5 from rfl, Nat.mul_one, Nat.add_zero] at hx20_3)); (try (have hf20_3 := hfr20 3)); (try (try simp only [show (k50).sz = 5 from rfl, Nat.mul_one, Nat.add_zero] at hf20_3)); (try (have hx20_4 := hcc20 4 _ rfl)); (try (try simp only [show (k50).sz = 5 from rfl, Nat.mul_one, Nat.add_zero] at hx20_4)); (try (have hf20_4 := hfr20 4)); (try (try simp only [show (k50).sz = 5 from rfl, Nat.mul_one, Nat.add_zero] at hf20_4)); (try (clear hcl20 hcc20 hfr20 hM20)))); refine store_event (t := 50) (p := 45) (v := ?vo_w21) (w1 := (((((wr.setCell ⟨go18, (x5_2 : Int).toNat * 5, none⟩ (.int .i64 ((rd_T50 x3_2 (ji10)).f0))).setCell ⟨go18, (x5_2 : Int).toNat * 5 + 1, none⟩ (.int .i64 ((rd_T50 x3_2 (ji10)).f1.f0))).setCell ⟨go18, (x5_2 : Int).toNat * 5 + 2, none⟩ (.int .i64 ((rd_T50 x3_2 (ji10)).f1.f1))).setCell ⟨go18, (x5_2 : Int).toNat * 5 + 3, none⟩ (.int .i64 ((rd_T50 x3_2 (ji10)).f1.f2))).setCell ⟨go18, (x5_2 : Int).toNat * 5 + 4, none⟩ (.int .i64 ((rd_T50 x3_2 (ji10)).f1.f3)))) ?hg ?ho ?hn ?hr ?_; (case ho => rfl); (case hg => rfl); (case hn => rfl); (case hr => first | (go_simp; done) | (go_simp; rfl)); intro w21 hw; have hg : wr.grownBy w21 (some go18) := (by rw [hw]; exact HP20.2); have hp_ : Kd.R k50 50 w21 w.heap.size (fun _ => True) (.slice (some ⟨go18, 0, none⟩) x3_2.length co19) y165 := (by rw [hw, Ny165.out]; exact HP20.1); clear HP20; have n0_ := Aside0.mk (hp_); have n1_ := Aside0.mk ((by rw [hw]; exact below_set (below_set (below_set (below_set (below_set (HB.out) GB18.out) GB18.out) GB18.out) GB18.out) GB18.out : Below w.heap.size w w21)); clear HO_3; clear HB; have HO_3 := n0_; have HB := n1_; clear n0_ n1_; clear hg hw hp_))
                repeat (go_quiet (first | ((with_reducible refine gate_store (t := 50) (p := 45) rfl ?_); (try (rw [drewN_self wr]; generalize hq_ : World.drewN wr _ = wr; have n0_ := Aside0.mk (Kd.R_at hq_ HO_3.out); have n1_ := Aside0.mk (below_at hq_ HB.out); clear hq_ HO_3 HB; have HO_3 := n0_; have HB := n1_; clear n0_ n1_; (try (have HX20 := Aside0.mk (show Kd.R k50 50 wr w.heap.size (fun _ => True) (.slice (some ⟨go18, 0, none⟩) x3_2.length co19) x3_2 from (by (with_reducible repeat (first | apply Kd.R_alloc | apply Kd.R_drewN | apply Kd.R_drew)); exact HO_3.out)))); (try (obtain ⟨ce20, hcl20, hM20, hcc20, hfr20⟩ := Kd.R_elem HX20.out z50 (x5_2 : Int) (of_decide_eq_true (by first | (with_reducible assumption) | assumption)) (by have h_ : (x5_2 : Int) < ((x3_2.length : Int) : Int) := of_decide_eq_true (by first | (with_reducible assumption) | assumption); first | exact h_ | (have e_ := (Kd.R_reads' HO_3.out).1; omega) | simpa using h_))); (try (obtain rfl := k50_openM hM20)); (try (have HP20 := Kd.R_seg HX20.out (x5_2 : Int) (of_decide_eq_true (by first | (with_reducible assumption) | assumption)) (by have h_ : (x5_2 : Int) < ((x3_2.length : Int) : Int) := of_decide_eq_true (by first | (with_reducible assumption) | assumption); first | exact h_ | (have e_ := (Kd.R_reads' HO_3.out).1; omega) | simpa using h_) (seg := [.int .i64 ((rd_T50 x3_2 (ji10)).f0), .int .i64 ((rd_T50 x3_2 (ji10)).f1.f0), .int .i64 ((rd_T50 x3_2 (ji10)).f1.f1), .int .i64 ((rd_T50 x3_2 (ji10)).f1.f2), .int .i64 ((rd_T50 x3_2 (ji10)).f1.f3)]) (j := 0) hcl20 hcc20 (show 5 ≤ 5 from by decide) (x' := (⟨(rd_T50 x3_2 (ji10)).f0, (⟨(rd_T50 x3_2 (ji10)).f1.f0, (rd_T50 x3_2 (ji10)).f1.f1, (rd_T50 x3_2 (ji10)).f1.f2, (rd_T50 x3_2 (ji10)).f1.f3⟩ : S35)⟩ : S50)) (k50_mkM _ _ _ (⟨(rd_T50 x3_2 (ji10)).f0, (⟨(rd_T50 x3_2 (ji10)).f1.f0, (rd_T50 x3_2 (ji10)).f1.f1, (rd_T50 x3_2 (ji10)).f1.f2, (rd_T50 x3_2 (ji10)).f1.f3⟩ : S35)⟩ : S50) ) (fun _ hk => hk))); (try (have hx20_0 := hcc20 0 _ rfl)); (try (try simp only [show (k50).sz = 5 from rfl, Nat.mul_one, Nat.add_zero] at hx20_0)); (try (have hf20_0 := hfr20 0)); (try (try simp only [show (k50).sz = 5 from rfl, Nat.mul_one, Nat.add_zero] at hf20_0)); (try (have hx20_1 := hcc20 1 _ rfl)); (try (try simp only [show (k50).sz = 5 from rfl, Nat.mul_one, Nat.add_zero] at hx20_1)); (try (have hf20_1 := hfr20 1)); (try (try simp only [show (k50).sz = 5 from rfl, Nat.mul_one, Nat.add_zero] at hf20_1)); (try (have hx20_2 := hcc20 2 _ rfl)); (try (try simp only [show (k50).sz = 5 from rfl, Nat.mul_one, Nat.add_zero] at hx20_2)); (try (have hf20_2 := hfr20 2)); (try (try simp only [show (k50).sz = 5 from rfl, Nat.mul_one, Nat.add_zero] at hf20_2)); (try (have hx20_3 := hcc20 3 _ rfl)); (try (try simp only [show (k50).sz = 5 from rfl, Nat.mul_one, Nat.add_zero] at hx20_3)); (try (have hf20_3 := hfr20 3)); (try (try simp only [show (k50).sz = 5 from rfl, Nat.mul_one, Nat.add_zero] at hf20_3)); (try (have hx20_4 := hcc20 4 _ rfl)); (try (try simp only [show (k50).sz = 5 from rfl, Nat.mul_one, Nat.add_zero] at hx20_4)); (try (have hf20_4 := hfr20 4)); (try (try simp only [show (k50).sz = 5 from rfl, Nat.mul_one, Nat.add_zero] at hf20_4)); (try (clear hcl20 hcc20 hfr20 hM20)))); refine store_event (t := 50) (p := 45) (v := ?vo_w21) (w1 := (((((wr.setCell ⟨go18, (x5_2 : Int).toNat * 5, none⟩ (.int .i64 ((rd_T50 x3_2 (ji10)).f0))).setCell ⟨go18, (x5_2 : Int).toNat * 5 + 1, none⟩ (.int .i64 ((rd_T50 x3_2 (ji10)).f1.f0))).setCell ⟨go18, (x5_2 : Int).toNat * 5 + 2, none⟩ (.int .i64 ((rd_T50 x3_2 (ji10)).f1.f1))).setCell ⟨go18, (x5_2 : Int).toNat * 5 + 3, none⟩ (.int .i64 ((rd_T50 x3_2 (ji10)).f1.f2))).setCell ⟨go18, (x5_2 : Int).toNat * 5 + 4, none⟩ (.int .i64 ((rd_T50 x3_2 (ji10)).f1.f3)))) ?hg ?ho ?hn ?hr ?_; (case ho => rfl); (case hg => rfl); (case hn => rfl); (case hr => first | (go_simp; done) | (go_simp; rfl)); intro w21 hw; have hg : wr.grownBy w21 (some go18) := (by rw [hw]; exact HP20.2); have hp_ : Kd.R k50 50 w21 w.heap.size (fun _ => True) (.slice (some ⟨go18, 0, none⟩) x3_2.length co19) y165 := (by rw [hw, Ny165.out]; exact HP20.1); clear HP20; have n0_ := Aside0.mk (hp_); have n1_ := Aside0.mk ((by rw [hw]; exact below_set (below_set (below_set (below_set (below_set (HB.out) GB18.out) GB18.out) GB18.out) GB18.out) GB18.out : Below w.heap.size w w21)); clear HO_3; clear HB; have HO_3 := n0_; have HB := n1_; clear n0_ n1_; clear hg hw hp_)); try go_wp2_with (first | ((with_reducible refine gate_store (t := 50) (p := 45) rfl ?_); (try (rw [drewN_self wr]; generalize hq_ : World.drewN wr _ = wr; have n0_ := Aside0.mk (Kd.R_at hq_ HO_3.out); have n1_ := Aside0.mk (below_at hq_ HB.out); clear hq_ HO_3 HB; have HO_3 := n0_; have HB := n1_; clear n0_ n1_; (try (have HX20 := Aside0.mk (show Kd.R k50 50 wr w.heap.size (fun _ => True) (.slice (some ⟨go18, 0, none⟩) x3_2.length co19) x3_2 from (by (with_reducible repeat (first | apply Kd.R_alloc | apply Kd.R_drewN | apply Kd.R_drew)); exact HO_3.out)))); (try (obtain ⟨ce20, hcl20, hM20, hcc20, hfr20⟩ := Kd.R_elem HX20.out z50 (x5_2 : Int) (of_decide_eq_true (by first | (with_reducible assumption) | assumption)) (by have h_ : (x5_2 : Int) < ((x3_2.length : Int) : Int) := of_decide_eq_true (by first | (with_reducible assumption) | assumption); first | exact h_ | (have e_ := (Kd.R_reads' HO_3.out).1; omega) | simpa using h_))); (try (obtain rfl := k50_openM hM20)); (try (have HP20 := Kd.R_seg HX20.out (x5_2 : Int) (of_decide_eq_true (by first | (with_reducible assumption) | assumption)) (by have h_ : (x5_2 : Int) < ((x3_2.length : Int) : Int) := of_decide_eq_true (by first | (with_reducible assumption) | assumption); first | exact h_ | (have e_ := (Kd.R_reads' HO_3.out).1; omega) | simpa using h_) (seg := [.int .i64 ((rd_T50 x3_2 (ji10)).f0), .int .i64 ((rd_T50 x3_2 (ji10)).f1.f0), .int .i64 ((rd_T50 x3_2 (ji10)).f1.f1), .int .i64 ((rd_T50 x3_2 (ji10)).f1.f2), .int .i64 ((rd_T50 x3_2 (ji10)).f1.f3)]) (j := 0) hcl20 hcc20 (show 5 ≤ 5 from by decide) (x' := (⟨(rd_T50 x3_2 (ji10)).f0, (⟨(rd_T50 x3_2 (ji10)).f1.f0, (rd_T50 x3_2 (ji10)).f1.f1, (rd_T50 x3_2 (ji10)).f1.f2, (rd_T50 x3_2 (ji10)).f1.f3⟩ : S35)⟩ : S50)) (k50_mkM _ _ _ (⟨(rd_T50 x3_2 (ji10)).f0, (⟨(rd_T50 x3_2 (ji10)).f1.f0, (rd_T50 x3_2 (ji10)).f1.f1, (rd_T50 x3_2 (ji10)).f1.f2, (rd_T50 x3_2 (ji10)).f1.f3⟩ : S35)⟩ : S50) ) (fun _ hk => hk))); (try (have hx20_0 := hcc20 0 _ rfl)); (try (try simp only [show (k50).sz = 5 from rfl, Nat.mul_one, Nat.add_zero] at hx20_0)); (try (have hf20_0 := hfr20 0)); (try (try simp only [show (k50).sz = 5 from rfl, Nat.mul_one, Nat.add_zero] at hf20_0)); (try (have hx20_1 := hcc20 1 _ rfl)); (try (try simp only [show (k50).sz = 5 from rfl, Nat.mul_one, Nat.add_zero] at hx20_1)); (try (have hf20_1 := hfr20 1)); (try (try simp only [show (k50).sz = 5 from rfl, Nat.mul_one, Nat.add_zero] at hf20_1)); (try (have hx20_2 := hcc20 2 _ rfl)); (try (try simp only [show (k50).sz = 5 from rfl, Nat.mul_one, Nat.add_zero] at hx20_2)); (try (have hf20_2 := hfr20 2)); (try (try simp only [show (k50).sz = 5 from rfl, Nat.mul_one, Nat.add_zero] at hf20_2)); (try (have hx20_3 := hcc20 3 _ rfl)); (try (try simp only [show (k50).sz = 5 from rfl, Nat.mul_one, Nat.add_zero] at hx20_3)); (try (have hf20_3 := hfr20 3)); (try (try simp only [show (k50).sz = 5 from rfl, Nat.mul_one, Nat.add_zero] at hf20_3)); (try (have hx20_4 := hcc20 4 _ rfl)); (try (try simp only [show (k50).sz = 5 from rfl, Nat.mul_one, Nat.add_zero] at hx20_4)); (try (have hf20_4 := hfr20 4)); (try (try simp only [show (k50).sz = 5 from rfl, Nat.mul_one, Nat.add_zero] at hf20_4)); (try (clear hcl20 hcc20 hfr20 hM20)))); refine store_event (t := 50) (p := 45) (v := ?vo_w21) (w1 := (((((wr.setCell ⟨go18, (x5_2 : Int).toNat * 5, none⟩ (.int .i64 ((rd_T50 x3_2 (ji10)).f0))).setCell ⟨go18, (x5_2 : Int).toNat * 5 + 1, none⟩ (.int .i64 ((rd_T50 x3_2 (ji10)).f1.f0))).setCell ⟨go18, (x5_2 : Int).toNat * 5 + 2, none⟩ (.int .i64 ((rd_T50 x3_2 (ji10)).f1.f1))).setCell ⟨go18, (x5_2 : Int).toNat * 5 + 3, none⟩ (.int .i64 ((rd_T50 x3_2 (ji10)).f1.f2))).setCell ⟨go18, (x5_2 : Int).toNat * 5 + 4, none⟩ (.int .i64 ((rd_T50 x3_2 (ji10)).f1.f3)))) ?hg ?ho ?hn ?hr ?_; (case ho => rfl); (case hg => rfl); (case hn => rfl); (case hr => first | (go_simp; done) | (go_simp; rfl)); intro w21 hw; have hg : wr.grownBy w21 (some go18) := (by rw [hw]; exact HP20.2); have hp_ : Kd.R k50 50 w21 w.heap.size (fun _ => True) (.slice (some ⟨go18, 0, none⟩) x3_2.length co19) y165 := (by rw [hw, Ny165.out]; exact HP20.1); clear HP20; have n0_ := Aside0.mk (hp_); have n1_ := Aside0.mk ((by rw [hw]; exact below_set (below_set (below_set (below_set (below_set (HB.out) GB18.out) GB18.out) GB18.out) GB18.out) GB18.out : Below w.heap.size w w21)); clear HO_3; clear HB; have HO_3 := n0_; have HB := n1_; clear n0_ n1_; clear hg hw hp_)))
                go_roundg k2
                case measure => have := HK1.out; have := HK2.out; omega
                case rel => exact ⟨(y165), (ji10), (by first | rfl | (simp; done) | (simp only [← hji10] <;> (first | rfl | simp)) | (simp [*]; done)), H', ⟨by have := HK1.out; have := HK2.out; omega⟩, ⟨by (with_reducible repeat (first | apply Kd.R_alloc | apply Kd.R_drewN | apply Kd.R_drew)); exact HO_3.out⟩, ⟨by repeat (first | (with_reducible first | exact HB.out | apply below_alloc | apply pw_below_drewN | apply below_drew1) | exact HB.out)⟩⟩
               ·rw [if_neg c17] at H
                exact absurd H (by simp)
              ·rw [if_neg c16] at H
               exact absurd H (by simp)
             ·rw [if_neg c15] at H
              have c15b0 : decide (((rd_T50 l0 x4_1).f0) < ((rd_T50 x3_2 (ji10)).f0)) = false := decide_eq_false c15
              clear c15
              by_cases c22 : 0 ≤ x5_2
              ·rw [if_pos c22] at H
               have c22b0 : decide (0 ≤ x5_2) = true := decide_eq_true c22
               clear c22
               by_cases c23 : x5_2 < (x3_2.length : Int)
               ·rw [if_pos c23] at H
                have c23b0 : decide (x5_2 < (x3_2.length : Int)) = true := decide_eq_true c23
                clear c23
                obtain ⟨y167, hy167⟩ : ∃ y_ : List (S50), y_ = (x3_2.set (x5_2 : Int).toNat (⟨(rd_T50 l0 x4_1).f0, (⟨(rd_T50 l0 x4_1).f1.f0, (rd_T50 l0 x4_1).f1.f1, (rd_T50 l0 x4_1).f1.f2, (rd_T50 l0 x4_1).f1.f3⟩ : S35)⟩ : S50)) := ⟨_, rfl⟩
                replace H : (spec_l11Sort.l0 k2 l0 y167 (wrap64 (x4_1 + 1))) = some r := by first | (rw [hy167]; with_reducible exact H) | (have H2_ := (Option.bind_some _ _).symm.trans H; rw [hy167]; with_reducible exact H2_) | (have H2_ := (Option.bind_some _ _).symm.trans H; with_reducible exact H2_) | with_reducible exact H | (rw [hy167]; exact H) | exact H
                have Ny167 := Aside0.mk hy167
                clear hy167
                have H' := Aside0.mk H
                clear H
                obtain ⟨Ao25, co25, eo25⟩ := Kd.R_slice HO_3.out
                subst eo25
                have p162 : 0 ≤ ((ji10) : Int) := of_decide_eq_true (by first | (with_reducible assumption) | assumption)
                have q162 : (ji10) < (x3_2.length : Int) := of_decide_eq_true (by first | (with_reducible assumption) | assumption)
                obtain ⟨ad162, e162, hx162_0, hx162_1, hx162_2, hx162_3, hx162_4⟩ := at_T50 (Kd.R_reads' HO_3.out).2.2 (ji10) p162 q162
                cases e162
                replace p162 := eq_true p162
                replace q162 := eq_true q162
                have p163 : 0 ≤ (x4_1 : Int) := of_decide_eq_true (by first | (with_reducible assumption) | assumption)
                have q163 : x4_1 < (l0.length : Int) := of_decide_eq_true (by first | (with_reducible assumption) | assumption)
                obtain ⟨ad163, e163, hx163_0, hx163_1, hx163_2, hx163_3, hx163_4⟩ := at_T50 HR0.out x4_1 p163 q163
                obtain rfl : ad158 = ad163 := (by injection e163)
                replace hx163_0 := (HB.out.cell (u3d w _ hx163_0)).trans hx163_0
                replace hx163_1 := (HB.out.cell (u3d w _ hx163_1)).trans hx163_1
                replace hx163_2 := (HB.out.cell (u3d w _ hx163_2)).trans hx163_2
                replace hx163_3 := (HB.out.cell (u3d w _ hx163_3)).trans hx163_3
                replace hx163_4 := (HB.out.cell (u3d w _ hx163_4)).trans hx163_4
                replace p163 := eq_true p163
                replace q163 := eq_true q163
                have p166 : 0 ≤ (x4_1 : Int) := of_decide_eq_true (by first | (with_reducible assumption) | assumption)
                have q166 : x4_1 < (l0.length : Int) := of_decide_eq_true (by first | (with_reducible assumption) | assumption)
                obtain ⟨ad166, e166, hx166_0, hx166_1, hx166_2, hx166_3, hx166_4⟩ := at_T50 HR0.out x4_1 p166 q166
                obtain rfl : ad158 = ad166 := (by injection e166)
                replace hx166_0 := (HB.out.cell (u3d w _ hx166_0)).trans hx166_0
                replace hx166_1 := (HB.out.cell (u3d w _ hx166_1)).trans hx166_1
                replace hx166_2 := (HB.out.cell (u3d w _ hx166_2)).trans hx166_2
                replace hx166_3 := (HB.out.cell (u3d w _ hx166_3)).trans hx166_3
                replace hx166_4 := (HB.out.cell (u3d w _ hx166_4)).trans hx166_4
                replace p166 := eq_true p166
                replace q166 := eq_true q166
                have p24 : 0 ≤ (x5_2 : Int) := of_decide_eq_true (by first | (with_reducible assumption) | assumption)
                have q24 : (x5_2 : Int) < ((x3_2.length : Int) : Int) := of_decide_eq_true (by first | (with_reducible assumption) | assumption)
                obtain ⟨go24, co24, eo24, gb24, gl24, cl24, HG24⟩ := Kd.R_form HO_3.out (by omega)
                (first | cases eo24 | (injection eo24 with ea_ en_ ec_; (first | subst ea_ | (injection ea_ with ea_; subst ea_)); subst ec_; clear en_))
                have GB24 := Aside0.mk gb24
                have GG24 := Aside0.mk HG24
                clear gb24 gl24 HG24
                (first | simp only [add_plain] at hx162_0 | skip)
                (first | simp only [add_plain] at hx162_1 | skip)
                (first | simp only [add_plain] at hx162_2 | skip)
                (first | simp only [add_plain] at hx162_3 | skip)
                (first | simp only [add_plain] at hx162_4 | skip)
                obtain ⟨ce24, hcl24, hM24, hcc24, hfr24⟩ := Kd.R_elem HO_3.out z50 (x5_2 : Int) p24 q24
                obtain rfl := k50_openM hM24
                have hx24_0 : wr.cell? ⟨go24, (x5_2 : Int).toNat * 5, none⟩ = some (.int .i64 ((rd_T50 x3_2 x5_2).f0)) := hcc24 0 _ rfl
                have hx24_1 : wr.cell? ⟨go24, (x5_2 : Int).toNat * 5 + 1, none⟩ = some (.int .i64 ((rd_T50 x3_2 x5_2).f1.f0)) := hcc24 1 _ rfl
                have hx24_2 : wr.cell? ⟨go24, (x5_2 : Int).toNat * 5 + 2, none⟩ = some (.int .i64 ((rd_T50 x3_2 x5_2).f1.f1)) := hcc24 2 _ rfl
                have hx24_3 : wr.cell? ⟨go24, (x5_2 : Int).toNat * 5 + 3, none⟩ = some (.int .i64 ((rd_T50 x3_2 x5_2).f1.f2)) := hcc24 3 _ rfl
                have hx24_4 : wr.cell? ⟨go24, (x5_2 : Int).toNat * 5 + 4, none⟩ = some (.int .i64 ((rd_T50 x3_2 x5_2).f1.f3)) := hcc24 4 _ rfl
                have hf24_0 : wr.frozen? ⟨go24, (x5_2 : Int).toNat * 5, none⟩ = false := hfr24 0
                have hf24_1 : wr.frozen? ⟨go24, (x5_2 : Int).toNat * 5 + 1, none⟩ = false := hfr24 1
                have hf24_2 : wr.frozen? ⟨go24, (x5_2 : Int).toNat * 5 + 2, none⟩ = false := hfr24 2
                have hf24_3 : wr.frozen? ⟨go24, (x5_2 : Int).toNat * 5 + 3, none⟩ = false := hfr24 3
                have hf24_4 : wr.frozen? ⟨go24, (x5_2 : Int).toNat * 5 + 4, none⟩ = false := hfr24 4
                clear hcl24 hcc24 hfr24 hM24
                replace p24 := eq_true p24
                replace q24 := eq_true q24
                have HX26 := Aside0.mk (show Kd.R k50 50 wr w.heap.size (fun _ => True) (.slice (some ⟨go24, 0, none⟩) x3_2.length co25) x3_2 from (by (with_reducible repeat (first | apply Kd.R_alloc | apply Kd.R_drewN | apply Kd.R_drew)); exact HO_3.out))
                obtain ⟨ce26, hcl26, hM26, hcc26, hfr26⟩ := Kd.R_elem HX26.out z50 (x5_2 : Int) (of_decide_eq_true (by first | (with_reducible assumption) | assumption)) (by have h_ : (x5_2 : Int) < ((x3_2.length : Int) : Int) := of_decide_eq_true (by first | (with_reducible assumption) | assumption); first | exact h_ | (have e_ := (Kd.R_reads' HO_3.out).1; omega) | simpa using h_)
                obtain rfl := k50_openM hM26
                have HP26 := Kd.R_seg HX26.out (x5_2 : Int) (of_decide_eq_true (by first | (with_reducible assumption) | assumption)) (by have h_ : (x5_2 : Int) < ((x3_2.length : Int) : Int) := of_decide_eq_true (by first | (with_reducible assumption) | assumption); first | exact h_ | (have e_ := (Kd.R_reads' HO_3.out).1; omega) | simpa using h_) (seg := [.int .i64 ((rd_T50 l0 x4_1).f0), .int .i64 ((rd_T50 l0 x4_1).f1.f0), .int .i64 ((rd_T50 l0 x4_1).f1.f1), .int .i64 ((rd_T50 l0 x4_1).f1.f2), .int .i64 ((rd_T50 l0 x4_1).f1.f3)]) (j := 0) hcl26 hcc26 (show 5 ≤ 5 from by decide) (x' := (⟨(rd_T50 l0 x4_1).f0, (⟨(rd_T50 l0 x4_1).f1.f0, (rd_T50 l0 x4_1).f1.f1, (rd_T50 l0 x4_1).f1.f2, (rd_T50 l0 x4_1).f1.f3⟩ : S35)⟩ : S50)) (k50_mkM _ _ _ (⟨(rd_T50 l0 x4_1).f0, (⟨(rd_T50 l0 x4_1).f1.f0, (rd_T50 l0 x4_1).f1.f1, (rd_T50 l0 x4_1).f1.f2, (rd_T50 l0 x4_1).f1.f3⟩ : S35)⟩ : S50) ) (fun _ hk => hk)
                have hx26_0 := hcc26 0 _ rfl
                (try simp only [show (k50).sz = 5 from rfl, Nat.mul_one, Nat.add_zero] at hx26_0)
                have hf26_0 := hfr26 0
                (try simp only [show (k50).sz = 5 from rfl, Nat.mul_one, Nat.add_zero] at hf26_0)
                have hx26_1 := hcc26 1 _ rfl
                (try simp only [show (k50).sz = 5 from rfl, Nat.mul_one, Nat.add_zero] at hx26_1)
                have hf26_1 := hfr26 1
                (try simp only [show (k50).sz = 5 from rfl, Nat.mul_one, Nat.add_zero] at hf26_1)
                have hx26_2 := hcc26 2 _ rfl
                (try simp only [show (k50).sz = 5 from rfl, Nat.mul_one, Nat.add_zero] at hx26_2)
                have hf26_2 := hfr26 2
                (try simp only [show (k50).sz = 5 from rfl, Nat.mul_one, Nat.add_zero] at hf26_2)
                have hx26_3 := hcc26 3 _ rfl
                (try simp only [show (k50).sz = 5 from rfl, Nat.mul_one, Nat.add_zero] at hx26_3)
                have hf26_3 := hfr26 3
                (try simp only [show (k50).sz = 5 from rfl, Nat.mul_one, Nat.add_zero] at hf26_3)
                have hx26_4 := hcc26 4 _ rfl
                (try simp only [show (k50).sz = 5 from rfl, Nat.mul_one, Nat.add_zero] at hx26_4)
                have hf26_4 := hfr26 4
                (try simp only [show (k50).sz = 5 from rfl, Nat.mul_one, Nat.add_zero] at hf26_4)
                clear hcl26 hcc26 hfr26 hM26
                go_wp2_with (first | ((with_reducible refine gate_store (t := 50) (p := 54) rfl ?_); (try (rw [drewN_self wr]; generalize hq_ : World.drewN wr _ = wr; have n0_ := Aside0.mk (Kd.R_at hq_ HO_3.out); have n1_ := Aside0.mk (below_at hq_ HB.out); clear hq_ HO_3 HB; have HO_3 := n0_; have HB := n1_; clear n0_ n1_; (try (have HX26 := Aside0.mk (show Kd.R k50 50 wr w.heap.size (fun _ => True) (.slice (some ⟨go24, 0, none⟩) x3_2.length co25) x3_2 from (by (with_reducible repeat (first | apply Kd.R_alloc | apply Kd.R_drewN | apply Kd.R_drew)); exact HO_3.out)))); (try (obtain ⟨ce26, hcl26, hM26, hcc26, hfr26⟩ := Kd.R_elem HX26.out z50 (x5_2 : Int) (of_decide_eq_true (by first | (with_reducible assumption) | assumption)) (by have h_ : (x5_2 : Int) < ((x3_2.length : Int) : Int) := of_decide_eq_true (by first | (with_reducible assumption) | assumption); first | exact h_ | (have e_ := (Kd.R_reads' HO_3.out).1; omega) | simpa using h_))); (try (obtain rfl := k50_openM hM26)); (try (have HP26 := Kd.R_seg HX26.out (x5_2 : Int) (of_decide_eq_true (by first | (with_reducible assumption) | assumption)) (by have h_ : (x5_2 : Int) < ((x3_2.length : Int) : Int) := of_decide_eq_true (by first | (with_reducible assumption) | assumption); first | exact h_ | (have e_ := (Kd.R_reads' HO_3.out).1; omega) | simpa using h_) (seg := [.int .i64 ((rd_T50 l0 x4_1).f0), .int .i64 ((rd_T50 l0 x4_1).f1.f0), .int .i64 ((rd_T50 l0 x4_1).f1.f1), .int .i64 ((rd_T50 l0 x4_1).f1.f2), .int .i64 ((rd_T50 l0 x4_1).f1.f3)]) (j := 0) hcl26 hcc26 (show 5 ≤ 5 from by decide) (x' := (⟨(rd_T50 l0 x4_1).f0, (⟨(rd_T50 l0 x4_1).f1.f0, (rd_T50 l0 x4_1).f1.f1, (rd_T50 l0 x4_1).f1.f2, (rd_T50 l0 x4_1).f1.f3⟩ : S35)⟩ : S50)) (k50_mkM _ _ _ (⟨(rd_T50 l0 x4_1).f0, (⟨(rd_T50 l0 x4_1).f1.f0, (rd_T50 l0 x4_1).f1.f1, (rd_T50 l0 x4_1).f1.f2, (rd_T50 l0 x4_1).f1.f3⟩ : S35)⟩ : S50) ) (fun _ hk => hk))); (try (have hx26_0 := hcc26 0 _ rfl)); (try (try simp only [show (k50).sz = 5 from rfl, Nat.mul_one, Nat.add_zero] at hx26_0)); (try (have hf26_0 := hfr26 0)); (try (try simp only [show (k50).sz = 5 from rfl, Nat.mul_one, Nat.add_zero] at hf26_0)); (try (have hx26_1 := hcc26 1 _ rfl)); (try (try simp only [show (k50).sz = 5 from rfl, Nat.mul_one, Nat.add_zero] at hx26_1)); (try (have hf26_1 := hfr26 1)); (try (try simp only [show (k50).sz = 5 from rfl, Nat.mul_one, Nat.add_zero] at hf26_1)); (try (have hx26_2 := hcc26 2 _ rfl)); (try (try simp only [show (k50).sz = 5 from rfl, Nat.mul_one, Nat.add_zero] at hx26_2)); (try (have hf26_2 := hfr26 2)); (try (try simp only [show (k50).sz = 5 from rfl, Nat.mul_one, Nat.add_zero] at hf26_2)); (try (have hx26_3 := hcc26 3 _ rfl)); (try (try simp only [show (k50).sz = 5 from rfl, Nat.mul_one, Nat.add_zero] at hx26_3)); (try (have hf26_3 := hfr26 3)); (try (try simp only [show (k50).sz = 5 from rfl, Nat.mul_one, Nat.add_zero] at hf26_3)); (try (have hx26_4 := hcc26 4 _ rfl)); (try (try simp only [show (k50).sz = 5 from rfl, Nat.mul_one, Nat.add_zero] at hx26_4)); (try (have hf26_4 := hfr26 4)); (try (try simp only [show (k50).sz = 5 from rfl, Nat.mul_one, Nat.add_zero] at hf26_4)); (try (clear hcl26 hcc26 hfr26 hM26)))); refine store_event (t := 50) (p := 54) (v := ?vo_w27) (w1 := (((((wr.setCell ⟨go24, (x5_2 : Int).toNat * 5, none⟩ (.int .i64 ((rd_T50 l0 x4_1).f0))).setCell ⟨go24, (x5_2 : Int).toNat * 5 + 1, none⟩ (.int .i64 ((rd_T50 l0 x4_1).f1.f0))).setCell ⟨go24, (x5_2 : Int).toNat * 5 + 2, none⟩ (.int .i64 ((rd_T50 l0 x4_1).f1.f1))).setCell ⟨go24, (x5_2 : Int).toNat * 5 + 3, none⟩ (.int .i64 ((rd_T50 l0 x4_1).f1.f2))).setCell ⟨go24, (x5_2 : Int).toNat * 5 + 4, none⟩ (.int .i64 ((rd_T50 l0 x4_1).f1.f3)))) ?hg ?ho ?hn ?hr ?_; (case ho => rfl); (case hg => rfl); (case hn => rfl); (case hr => first | (go_simp; done) | (go_simp; rfl)); intro w27 hw; have hg : wr.grownBy w27 (some go24) := (by rw [hw]; exact HP26.2); have hp_ : Kd.R k50 50 w27 w.heap.size (fun _ => True) (.slice (some ⟨go24, 0, none⟩) x3_2.length co25) y167 := (by rw [hw, Ny167.out]; exact HP26.1); clear HP26; have n0_ := Aside0.mk (hp_); have n1_ := Aside0.mk ((by rw [hw]; exact below_set (below_set (below_set (below_set (below_set (HB.out) GB24.out) GB24.out) GB24.out) GB24.out) GB24.out : Below w.heap.size w w27)); clear HO_3; clear HB; have HO_3 := n0_; have HB := n1_; clear n0_ n1_; clear hg hw hp_))
                repeat (go_quiet (first | ((with_reducible refine gate_store (t := 50) (p := 54) rfl ?_); (try (rw [drewN_self wr]; generalize hq_ : World.drewN wr _ = wr; have n0_ := Aside0.mk (Kd.R_at hq_ HO_3.out); have n1_ := Aside0.mk (below_at hq_ HB.out); clear hq_ HO_3 HB; have HO_3 := n0_; have HB := n1_; clear n0_ n1_; (try (have HX26 := Aside0.mk (show Kd.R k50 50 wr w.heap.size (fun _ => True) (.slice (some ⟨go24, 0, none⟩) x3_2.length co25) x3_2 from (by (with_reducible repeat (first | apply Kd.R_alloc | apply Kd.R_drewN | apply Kd.R_drew)); exact HO_3.out)))); (try (obtain ⟨ce26, hcl26, hM26, hcc26, hfr26⟩ := Kd.R_elem HX26.out z50 (x5_2 : Int) (of_decide_eq_true (by first | (with_reducible assumption) | assumption)) (by have h_ : (x5_2 : Int) < ((x3_2.length : Int) : Int) := of_decide_eq_true (by first | (with_reducible assumption) | assumption); first | exact h_ | (have e_ := (Kd.R_reads' HO_3.out).1; omega) | simpa using h_))); (try (obtain rfl := k50_openM hM26)); (try (have HP26 := Kd.R_seg HX26.out (x5_2 : Int) (of_decide_eq_true (by first | (with_reducible assumption) | assumption)) (by have h_ : (x5_2 : Int) < ((x3_2.length : Int) : Int) := of_decide_eq_true (by first | (with_reducible assumption) | assumption); first | exact h_ | (have e_ := (Kd.R_reads' HO_3.out).1; omega) | simpa using h_) (seg := [.int .i64 ((rd_T50 l0 x4_1).f0), .int .i64 ((rd_T50 l0 x4_1).f1.f0), .int .i64 ((rd_T50 l0 x4_1).f1.f1), .int .i64 ((rd_T50 l0 x4_1).f1.f2), .int .i64 ((rd_T50 l0 x4_1).f1.f3)]) (j := 0) hcl26 hcc26 (show 5 ≤ 5 from by decide) (x' := (⟨(rd_T50 l0 x4_1).f0, (⟨(rd_T50 l0 x4_1).f1.f0, (rd_T50 l0 x4_1).f1.f1, (rd_T50 l0 x4_1).f1.f2, (rd_T50 l0 x4_1).f1.f3⟩ : S35)⟩ : S50)) (k50_mkM _ _ _ (⟨(rd_T50 l0 x4_1).f0, (⟨(rd_T50 l0 x4_1).f1.f0, (rd_T50 l0 x4_1).f1.f1, (rd_T50 l0 x4_1).f1.f2, (rd_T50 l0 x4_1).f1.f3⟩ : S35)⟩ : S50) ) (fun _ hk => hk))); (try (have hx26_0 := hcc26 0 _ rfl)); (try (try simp only [show (k50).sz = 5 from rfl, Nat.mul_one, Nat.add_zero] at hx26_0)); (try (have hf26_0 := hfr26 0)); (try (try simp only [show (k50).sz = 5 from rfl, Nat.mul_one, Nat.add_zero] at hf26_0)); (try (have hx26_1 := hcc26 1 _ rfl)); (try (try simp only [show (k50).sz = 5 from rfl, Nat.mul_one, Nat.add_zero] at hx26_1)); (try (have hf26_1 := hfr26 1)); (try (try simp only [show (k50).sz = 5 from rfl, Nat.mul_one, Nat.add_zero] at hf26_1)); (try (have hx26_2 := hcc26 2 _ rfl)); (try (try simp only [show (k50).sz = 5 from rfl, Nat.mul_one, Nat.add_zero] at hx26_2)); (try (have hf26_2 := hfr26 2)); (try (try simp only [show (k50).sz = 5 from rfl, Nat.mul_one, Nat.add_zero] at hf26_2)); (try (have hx26_3 := hcc26 3 _ rfl)); (try (try simp only [show (k50).sz = 5 from rfl, Nat.mul_one, Nat.add_zero] at hx26_3)); (try (have hf26_3 := hfr26 3)); (try (try simp only [show (k50).sz = 5 from rfl, Nat.mul_one, Nat.add_zero] at hf26_3)); (try (have hx26_4 := hcc26 4 _ rfl)); (try (try simp only [show (k50).sz = 5 from rfl, Nat.mul_one, Nat.add_zero] at hx26_4)); (try (have hf26_4 := hfr26 4)); (try (try simp only [show (k50).sz = 5 from rfl, Nat.mul_one, Nat.add_zero] at hf26_4)); (try (clear hcl26 hcc26 hfr26 hM26)))); refine store_event (t := 50) (p := 54) (v := ?vo_w27) (w1 := (((((wr.setCell ⟨go24, (x5_2 : Int).toNat * 5, none⟩ (.int .i64 ((rd_T50 l0 x4_1).f0))).setCell ⟨go24, (x5_2 : Int).toNat * 5 + 1, none⟩ (.int .i64 ((rd_T50 l0 x4_1).f1.f0))).setCell ⟨go24, (x5_2 : Int).toNat * 5 + 2, none⟩ (.int .i64 ((rd_T50 l0 x4_1).f1.f1))).setCell ⟨go24, (x5_2 : Int).toNat * 5 + 3, none⟩ (.int .i64 ((rd_T50 l0 x4_1).f1.f2))).setCell ⟨go24, (x5_2 : Int).toNat * 5 + 4, none⟩ (.int .i64 ((rd_T50 l0 x4_1).f1.f3)))) ?hg ?ho ?hn ?hr ?_; (case ho => rfl); (case hg => rfl); (case hn => rfl); (case hr => first | (go_simp; done) | (go_simp; rfl)); intro w27 hw; have hg : wr.grownBy w27 (some go24) := (by rw [hw]; exact HP26.2); have hp_ : Kd.R k50 50 w27 w.heap.size (fun _ => True) (.slice (some ⟨go24, 0, none⟩) x3_2.length co25) y167 := (by rw [hw, Ny167.out]; exact HP26.1); clear HP26; have n0_ := Aside0.mk (hp_); have n1_ := Aside0.mk ((by rw [hw]; exact below_set (below_set (below_set (below_set (below_set (HB.out) GB24.out) GB24.out) GB24.out) GB24.out) GB24.out : Below w.heap.size w w27)); clear HO_3; clear HB; have HO_3 := n0_; have HB := n1_; clear n0_ n1_; clear hg hw hp_)); try go_wp2_with (first | ((with_reducible refine gate_store (t := 50) (p := 54) rfl ?_); (try (rw [drewN_self wr]; generalize hq_ : World.drewN wr _ = wr; have n0_ := Aside0.mk (Kd.R_at hq_ HO_3.out); have n1_ := Aside0.mk (below_at hq_ HB.out); clear hq_ HO_3 HB; have HO_3 := n0_; have HB := n1_; clear n0_ n1_; (try (have HX26 := Aside0.mk (show Kd.R k50 50 wr w.heap.size (fun _ => True) (.slice (some ⟨go24, 0, none⟩) x3_2.length co25) x3_2 from (by (with_reducible repeat (first | apply Kd.R_alloc | apply Kd.R_drewN | apply Kd.R_drew)); exact HO_3.out)))); (try (obtain ⟨ce26, hcl26, hM26, hcc26, hfr26⟩ := Kd.R_elem HX26.out z50 (x5_2 : Int) (of_decide_eq_true (by first | (with_reducible assumption) | assumption)) (by have h_ : (x5_2 : Int) < ((x3_2.length : Int) : Int) := of_decide_eq_true (by first | (with_reducible assumption) | assumption); first | exact h_ | (have e_ := (Kd.R_reads' HO_3.out).1; omega) | simpa using h_))); (try (obtain rfl := k50_openM hM26)); (try (have HP26 := Kd.R_seg HX26.out (x5_2 : Int) (of_decide_eq_true (by first | (with_reducible assumption) | assumption)) (by have h_ : (x5_2 : Int) < ((x3_2.length : Int) : Int) := of_decide_eq_true (by first | (with_reducible assumption) | assumption); first | exact h_ | (have e_ := (Kd.R_reads' HO_3.out).1; omega) | simpa using h_) (seg := [.int .i64 ((rd_T50 l0 x4_1).f0), .int .i64 ((rd_T50 l0 x4_1).f1.f0), .int .i64 ((rd_T50 l0 x4_1).f1.f1), .int .i64 ((rd_T50 l0 x4_1).f1.f2), .int .i64 ((rd_T50 l0 x4_1).f1.f3)]) (j := 0) hcl26 hcc26 (show 5 ≤ 5 from by decide) (x' := (⟨(rd_T50 l0 x4_1).f0, (⟨(rd_T50 l0 x4_1).f1.f0, (rd_T50 l0 x4_1).f1.f1, (rd_T50 l0 x4_1).f1.f2, (rd_T50 l0 x4_1).f1.f3⟩ : S35)⟩ : S50)) (k50_mkM _ _ _ (⟨(rd_T50 l0 x4_1).f0, (⟨(rd_T50 l0 x4_1).f1.f0, (rd_T50 l0 x4_1).f1.f1, (rd_T50 l0 x4_1).f1.f2, (rd_T50 l0 x4_1).f1.f3⟩ : S35)⟩ : S50) ) (fun _ hk => hk))); (try (have hx26_0 := hcc26 0 _ rfl)); (try (try simp only [show (k50).sz = 5 from rfl, Nat.mul_one, Nat.add_zero] at hx26_0)); (try (have hf26_0 := hfr26 0)); (try (try simp only [show (k50).sz = 5 from rfl, Nat.mul_one, Nat.add_zero] at hf26_0)); (try (have hx26_1 := hcc26 1 _ rfl)); (try (try simp only [show (k50).sz = 5 from rfl, Nat.mul_one, Nat.add_zero] at hx26_1)); (try (have hf26_1 := hfr26 1)); (try (try simp only [show (k50).sz = 5 from rfl, Nat.mul_one, Nat.add_zero] at hf26_1)); (try (have hx26_2 := hcc26 2 _ rfl)); (try (try simp only [show (k50).sz = 5 from rfl, Nat.mul_one, Nat.add_zero] at hx26_2)); (try (have hf26_2 := hfr26 2)); (try (try simp only [show (k50).sz = 5 from rfl, Nat.mul_one, Nat.add_zero] at hf26_2)); (try (have hx26_3 := hcc26 3 _ rfl)); (try (try simp only [show (k50).sz = 5 from rfl, Nat.mul_one, Nat.add_zero] at hx26_3)); (try (have hf26_3 := hfr26 3)); (try (try simp only [show (k50).sz = 5 from rfl, Nat.mul_one, Nat.add_zero] at hf26_3)); (try (have hx26_4 := hcc26 4 _ rfl)); (try (try simp only [show (k50).sz = 5 from rfl, Nat.mul_one, Nat.add_zero] at hx26_4)); (try (have hf26_4 := hfr26 4)); (try (try simp only [show (k50).sz = 5 from rfl, Nat.mul_one, Nat.add_zero] at hf26_4)); (try (clear hcl26 hcc26 hfr26 hM26)))); refine store_event (t := 50) (p := 54) (v := ?vo_w27) (w1 := (((((wr.setCell ⟨go24, (x5_2 : Int).toNat * 5, none⟩ (.int .i64 ((rd_T50 l0 x4_1).f0))).setCell ⟨go24, (x5_2 : Int).toNat * 5 + 1, none⟩ (.int .i64 ((rd_T50 l0 x4_1).f1.f0))).setCell ⟨go24, (x5_2 : Int).toNat * 5 + 2, none⟩ (.int .i64 ((rd_T50 l0 x4_1).f1.f1))).setCell ⟨go24, (x5_2 : Int).toNat * 5 + 3, none⟩ (.int .i64 ((rd_T50 l0 x4_1).f1.f2))).setCell ⟨go24, (x5_2 : Int).toNat * 5 + 4, none⟩ (.int .i64 ((rd_T50 l0 x4_1).f1.f3)))) ?hg ?ho ?hn ?hr ?_; (case ho => rfl); (case hg => rfl); (case hn => rfl); (case hr => first | (go_simp; done) | (go_simp; rfl)); intro w27 hw; have hg : wr.grownBy w27 (some go24) := (by rw [hw]; exact HP26.2); have hp_ : Kd.R k50 50 w27 w.heap.size (fun _ => True) (.slice (some ⟨go24, 0, none⟩) x3_2.length co25) y167 := (by rw [hw, Ny167.out]; exact HP26.1); clear HP26; have n0_ := Aside0.mk (hp_); have n1_ := Aside0.mk ((by rw [hw]; exact below_set (below_set (below_set (below_set (below_set (HB.out) GB24.out) GB24.out) GB24.out) GB24.out) GB24.out : Below w.heap.size w w27)); clear HO_3; clear HB; have HO_3 := n0_; have HB := n1_; clear n0_ n1_; clear hg hw hp_)))
                go_roundg k2
                case measure => have := HK1.out; have := HK2.out; omega
                case rel => exact ⟨(y167), (wrap64 (x4_1 + 1)), (by first | rfl | (simp; done) | (simp [*]; done)), H', ⟨by have := HK1.out; have := HK2.out; omega⟩, ⟨by (with_reducible repeat (first | apply Kd.R_alloc | apply Kd.R_drewN | apply Kd.R_drew)); exact HO_3.out⟩, ⟨by repeat (first | (with_reducible first | exact HB.out | apply below_alloc | apply pw_below_drewN | apply below_drew1) | exact HB.out)⟩⟩
               ·rw [if_neg c23] at H
                exact absurd H (by simp)
              ·rw [if_neg c22] at H
               exact absurd H (by simp)
            ·rw [if_neg c14] at H
             exact absurd H (by simp)
           ·rw [if_neg c13] at H
            exact absurd H (by simp)
          ·rw [if_neg c12] at H
           exact absurd H (by simp)
         ·rw [if_neg c11] at H
          exact absurd H (by simp)
        ·rw [if_neg c9] at H
         have c9b0 : decide (0 < x5_2) = false := decide_eq_false c9
         clear c9
         by_cases c28 : 0 ≤ x4_1
         ·rw [if_pos c28] at H
          have c28b0 : decide (0 ≤ x4_1) = true := decide_eq_true c28
          clear c28
          by_cases c29 : x4_1 < (l0.length : Int)
          ·rw [if_pos c29] at H
           have c29b0 : decide (x4_1 < (l0.length : Int)) = true := decide_eq_true c29
           clear c29
           by_cases c30 : 0 ≤ x5_2
           ·rw [if_pos c30] at H
            have c30b0 : decide (0 ≤ x5_2) = true := decide_eq_true c30
            clear c30
            by_cases c31 : x5_2 < (x3_2.length : Int)
            ·rw [if_pos c31] at H
             have c31b0 : decide (x5_2 < (x3_2.length : Int)) = true := decide_eq_true c31
             clear c31
             obtain ⟨y169, hy169⟩ : ∃ y_ : List (S50), y_ = (x3_2.set (x5_2 : Int).toNat (⟨(rd_T50 l0 x4_1).f0, (⟨(rd_T50 l0 x4_1).f1.f0, (rd_T50 l0 x4_1).f1.f1, (rd_T50 l0 x4_1).f1.f2, (rd_T50 l0 x4_1).f1.f3⟩ : S35)⟩ : S50)) := ⟨_, rfl⟩
             replace H : (spec_l11Sort.l0 k2 l0 y169 (wrap64 (x4_1 + 1))) = some r := by first | (rw [hy169]; with_reducible exact H) | (have H2_ := (Option.bind_some _ _).symm.trans H; rw [hy169]; with_reducible exact H2_) | (have H2_ := (Option.bind_some _ _).symm.trans H; with_reducible exact H2_) | with_reducible exact H | (rw [hy169]; exact H) | exact H
             have Ny169 := Aside0.mk hy169
             clear hy169
             have H' := Aside0.mk H
             clear H
             have p168 : 0 ≤ (x4_1 : Int) := of_decide_eq_true (by first | (with_reducible assumption) | assumption)
             have q168 : x4_1 < (l0.length : Int) := of_decide_eq_true (by first | (with_reducible assumption) | assumption)
             obtain ⟨ad168, e168, hx168_0, hx168_1, hx168_2, hx168_3, hx168_4⟩ := at_T50 HR0.out x4_1 p168 q168
             obtain rfl : ad158 = ad168 := (by injection e168)
             replace hx168_0 := (HB.out.cell (u3d w _ hx168_0)).trans hx168_0
             replace hx168_1 := (HB.out.cell (u3d w _ hx168_1)).trans hx168_1
             replace hx168_2 := (HB.out.cell (u3d w _ hx168_2)).trans hx168_2
             replace hx168_3 := (HB.out.cell (u3d w _ hx168_3)).trans hx168_3
             replace hx168_4 := (HB.out.cell (u3d w _ hx168_4)).trans hx168_4
             replace p168 := eq_true p168
             replace q168 := eq_true q168
             have p32 : 0 ≤ (x5_2 : Int) := of_decide_eq_true (by first | (with_reducible assumption) | assumption)
             have q32 : (x5_2 : Int) < ((x3_2.length : Int) : Int) := of_decide_eq_true (by first | (with_reducible assumption) | assumption)
             obtain ⟨go32, co32, eo32, gb32, gl32, cl32, HG32⟩ := Kd.R_form HO_3.out (by omega)
             (first | cases eo32 | (injection eo32 with ea_ en_ ec_; (first | subst ea_ | (injection ea_ with ea_; subst ea_)); subst ec_; clear en_))
             have GB32 := Aside0.mk gb32
             have GG32 := Aside0.mk HG32
             clear gb32 gl32 HG32
             obtain ⟨ce32, hcl32, hM32, hcc32, hfr32⟩ := Kd.R_elem HO_3.out z50 (x5_2 : Int) p32 q32
             obtain rfl := k50_openM hM32
             have hx32_0 : wr.cell? ⟨go32, (x5_2 : Int).toNat * 5, none⟩ = some (.int .i64 ((rd_T50 x3_2 x5_2).f0)) := hcc32 0 _ rfl
             have hx32_1 : wr.cell? ⟨go32, (x5_2 : Int).toNat * 5 + 1, none⟩ = some (.int .i64 ((rd_T50 x3_2 x5_2).f1.f0)) := hcc32 1 _ rfl
             have hx32_2 : wr.cell? ⟨go32, (x5_2 : Int).toNat * 5 + 2, none⟩ = some (.int .i64 ((rd_T50 x3_2 x5_2).f1.f1)) := hcc32 2 _ rfl
             have hx32_3 : wr.cell? ⟨go32, (x5_2 : Int).toNat * 5 + 3, none⟩ = some (.int .i64 ((rd_T50 x3_2 x5_2).f1.f2)) := hcc32 3 _ rfl
             have hx32_4 : wr.cell? ⟨go32, (x5_2 : Int).toNat * 5 + 4, none⟩ = some (.int .i64 ((rd_T50 x3_2 x5_2).f1.f3)) := hcc32 4 _ rfl
             have hf32_0 : wr.frozen? ⟨go32, (x5_2 : Int).toNat * 5, none⟩ = false := hfr32 0
             have hf32_1 : wr.frozen? ⟨go32, (x5_2 : Int).toNat * 5 + 1, none⟩ = false := hfr32 1
             have hf32_2 : wr.frozen? ⟨go32, (x5_2 : Int).toNat * 5 + 2, none⟩ = false := hfr32 2
             have hf32_3 : wr.frozen? ⟨go32, (x5_2 : Int).toNat * 5 + 3, none⟩ = false := hfr32 3
             have hf32_4 : wr.frozen? ⟨go32, (x5_2 : Int).toNat * 5 + 4, none⟩ = false := hfr32 4
             clear hcl32 hcc32 hfr32 hM32
             replace p32 := eq_true p32
             replace q32 := eq_true q32
             have HX33 := Aside0.mk (show Kd.R k50 50 wr w.heap.size (fun _ => True) (.slice (some ⟨go32, 0, none⟩) x3_2.length co32) x3_2 from (by (with_reducible repeat (first | apply Kd.R_alloc | apply Kd.R_drewN | apply Kd.R_drew)); exact HO_3.out))
             obtain ⟨ce33, hcl33, hM33, hcc33, hfr33⟩ := Kd.R_elem HX33.out z50 (x5_2 : Int) (of_decide_eq_true (by first | (with_reducible assumption) | assumption)) (by have h_ : (x5_2 : Int) < ((x3_2.length : Int) : Int) := of_decide_eq_true (by first | (with_reducible assumption) | assumption); first | exact h_ | (have e_ := (Kd.R_reads' HO_3.out).1; omega) | simpa using h_)
             obtain rfl := k50_openM hM33
             have HP33 := Kd.R_seg HX33.out (x5_2 : Int) (of_decide_eq_true (by first | (with_reducible assumption) | assumption)) (by have h_ : (x5_2 : Int) < ((x3_2.length : Int) : Int) := of_decide_eq_true (by first | (with_reducible assumption) | assumption); first | exact h_ | (have e_ := (Kd.R_reads' HO_3.out).1; omega) | simpa using h_) (seg := [.int .i64 ((rd_T50 l0 x4_1).f0), .int .i64 ((rd_T50 l0 x4_1).f1.f0), .int .i64 ((rd_T50 l0 x4_1).f1.f1), .int .i64 ((rd_T50 l0 x4_1).f1.f2), .int .i64 ((rd_T50 l0 x4_1).f1.f3)]) (j := 0) hcl33 hcc33 (show 5 ≤ 5 from by decide) (x' := (⟨(rd_T50 l0 x4_1).f0, (⟨(rd_T50 l0 x4_1).f1.f0, (rd_T50 l0 x4_1).f1.f1, (rd_T50 l0 x4_1).f1.f2, (rd_T50 l0 x4_1).f1.f3⟩ : S35)⟩ : S50)) (k50_mkM _ _ _ (⟨(rd_T50 l0 x4_1).f0, (⟨(rd_T50 l0 x4_1).f1.f0, (rd_T50 l0 x4_1).f1.f1, (rd_T50 l0 x4_1).f1.f2, (rd_T50 l0 x4_1).f1.f3⟩ : S35)⟩ : S50) ) (fun _ hk => hk)
             have hx33_0 := hcc33 0 _ rfl
             (try simp only [show (k50).sz = 5 from rfl, Nat.mul_one, Nat.add_zero] at hx33_0)
             have hf33_0 := hfr33 0
             (try simp only [show (k50).sz = 5 from rfl, Nat.mul_one, Nat.add_zero] at hf33_0)
             have hx33_1 := hcc33 1 _ rfl
             (try simp only [show (k50).sz = 5 from rfl, Nat.mul_one, Nat.add_zero] at hx33_1)
             have hf33_1 := hfr33 1
             (try simp only [show (k50).sz = 5 from rfl, Nat.mul_one, Nat.add_zero] at hf33_1)
             have hx33_2 := hcc33 2 _ rfl
             (try simp only [show (k50).sz = 5 from rfl, Nat.mul_one, Nat.add_zero] at hx33_2)
             have hf33_2 := hfr33 2
             (try simp only [show (k50).sz = 5 from rfl, Nat.mul_one, Nat.add_zero] at hf33_2)
             have hx33_3 := hcc33 3 _ rfl
             (try simp only [show (k50).sz = 5 from rfl, Nat.mul_one, Nat.add_zero] at hx33_3)
             have hf33_3 := hfr33 3
             (try simp only [show (k50).sz = 5 from rfl, Nat.mul_one, Nat.add_zero] at hf33_3)
             have hx33_4 := hcc33 4 _ rfl
             (try simp only [show (k50).sz = 5 from rfl, Nat.mul_one, Nat.add_zero] at hx33_4)
             have hf33_4 := hfr33 4
             (try simp only [show (k50).sz = 5 from rfl, Nat.mul_one, Nat.add_zero] at hf33_4)
             clear hcl33 hcc33 hfr33 hM33
             go_wp2_with (first | ((with_reducible refine gate_store (t := 50) (p := 54) rfl ?_); (try (rw [drewN_self wr]; generalize hq_ : World.drewN wr _ = wr; have n0_ := Aside0.mk (Kd.R_at hq_ HO_3.out); have n1_ := Aside0.mk (below_at hq_ HB.out); clear hq_ HO_3 HB; have HO_3 := n0_; have HB := n1_; clear n0_ n1_; (try (have HX33 := Aside0.mk (show Kd.R k50 50 wr w.heap.size (fun _ => True) (.slice (some ⟨go32, 0, none⟩) x3_2.length co32) x3_2 from (by (with_reducible repeat (first | apply Kd.R_alloc | apply Kd.R_drewN | apply Kd.R_drew)); exact HO_3.out)))); (try (obtain ⟨ce33, hcl33, hM33, hcc33, hfr33⟩ := Kd.R_elem HX33.out z50 (x5_2 : Int) (of_decide_eq_true (by first | (with_reducible assumption) | assumption)) (by have h_ : (x5_2 : Int) < ((x3_2.length : Int) : Int) := of_decide_eq_true (by first | (with_reducible assumption) | assumption); first | exact h_ | (have e_ := (Kd.R_reads' HO_3.out).1; omega) | simpa using h_))); (try (obtain rfl := k50_openM hM33)); (try (have HP33 := Kd.R_seg HX33.out (x5_2 : Int) (of_decide_eq_true (by first | (with_reducible assumption) | assumption)) (by have h_ : (x5_2 : Int) < ((x3_2.length : Int) : Int) := of_decide_eq_true (by first | (with_reducible assumption) | assumption); first | exact h_ | (have e_ := (Kd.R_reads' HO_3.out).1; omega) | simpa using h_) (seg := [.int .i64 ((rd_T50 l0 x4_1).f0), .int .i64 ((rd_T50 l0 x4_1).f1.f0), .int .i64 ((rd_T50 l0 x4_1).f1.f1), .int .i64 ((rd_T50 l0 x4_1).f1.f2), .int .i64 ((rd_T50 l0 x4_1).f1.f3)]) (j := 0) hcl33 hcc33 (show 5 ≤ 5 from by decide) (x' := (⟨(rd_T50 l0 x4_1).f0, (⟨(rd_T50 l0 x4_1).f1.f0, (rd_T50 l0 x4_1).f1.f1, (rd_T50 l0 x4_1).f1.f2, (rd_T50 l0 x4_1).f1.f3⟩ : S35)⟩ : S50)) (k50_mkM _ _ _ (⟨(rd_T50 l0 x4_1).f0, (⟨(rd_T50 l0 x4_1).f1.f0, (rd_T50 l0 x4_1).f1.f1, (rd_T50 l0 x4_1).f1.f2, (rd_T50 l0 x4_1).f1.f3⟩ : S35)⟩ : S50) ) (fun _ hk => hk))); (try (have hx33_0 := hcc33 0 _ rfl)); (try (try simp only [show (k50).sz = 5 from rfl, Nat.mul_one, Nat.add_zero] at hx33_0)); (try (have hf33_0 := hfr33 0)); (try (try simp only [show (k50).sz = 5 from rfl, Nat.mul_one, Nat.add_zero] at hf33_0)); (try (have hx33_1 := hcc33 1 _ rfl)); (try (try simp only [show (k50).sz = 5 from rfl, Nat.mul_one, Nat.add_zero] at hx33_1)); (try (have hf33_1 := hfr33 1)); (try (try simp only [show (k50).sz = 5 from rfl, Nat.mul_one, Nat.add_zero] at hf33_1)); (try (have hx33_2 := hcc33 2 _ rfl)); (try (try simp only [show (k50).sz = 5 from rfl, Nat.mul_one, Nat.add_zero] at hx33_2)); (try (have hf33_2 := hfr33 2)); (try (try simp only [show (k50).sz = 5 from rfl, Nat.mul_one, Nat.add_zero] at hf33_2)); (try (have hx33_3 := hcc33 3 _ rfl)); (try (try simp only [show (k50).sz = 5 from rfl, Nat.mul_one, Nat.add_zero] at hx33_3)); (try (have hf33_3 := hfr33 3)); (try (try simp only [show (k50).sz = 5 from rfl, Nat.mul_one, Nat.add_zero] at hf33_3)); (try (have hx33_4 := hcc33 4 _ rfl)); (try (try simp only [show (k50).sz = 5 from rfl, Nat.mul_one, Nat.add_zero] at hx33_4)); (try (have hf33_4 := hfr33 4)); (try (try simp only [show (k50).sz = 5 from rfl, Nat.mul_one, Nat.add_zero] at hf33_4)); (try (clear hcl33 hcc33 hfr33 hM33)))); refine store_event (t := 50) (p := 54) (v := ?vo_w34) (w1 := (((((wr.setCell ⟨go32, (x5_2 : Int).toNat * 5, none⟩ (.int .i64 ((rd_T50 l0 x4_1).f0))).setCell ⟨go32, (x5_2 : Int).toNat * 5 + 1, none⟩ (.int .i64 ((rd_T50 l0 x4_1).f1.f0))).setCell ⟨go32, (x5_2 : Int).toNat * 5 + 2, none⟩ (.int .i64 ((rd_T50 l0 x4_1).f1.f1))).setCell ⟨go32, (x5_2 : Int).toNat * 5 + 3, none⟩ (.int .i64 ((rd_T50 l0 x4_1).f1.f2))).setCell ⟨go32, (x5_2 : Int).toNat * 5 + 4, none⟩ (.int .i64 ((rd_T50 l0 x4_1).f1.f3)))) ?hg ?ho ?hn ?hr ?_; (case ho => rfl); (case hg => rfl); (case hn => rfl); (case hr => first | (go_simp; done) | (go_simp; rfl)); intro w34 hw; have hg : wr.grownBy w34 (some go32) := (by rw [hw]; exact HP33.2); have hp_ : Kd.R k50 50 w34 w.heap.size (fun _ => True) (.slice (some ⟨go32, 0, none⟩) x3_2.length co32) y169 := (by rw [hw, Ny169.out]; exact HP33.1); clear HP33; have n0_ := Aside0.mk (hp_); have n1_ := Aside0.mk ((by rw [hw]; exact below_set (below_set (below_set (below_set (below_set (HB.out) GB32.out) GB32.out) GB32.out) GB32.out) GB32.out : Below w.heap.size w w34)); clear HO_3; clear HB; have HO_3 := n0_; have HB := n1_; clear n0_ n1_; clear hg hw hp_))
             repeat (go_quiet (first | ((with_reducible refine gate_store (t := 50) (p := 54) rfl ?_); (try (rw [drewN_self wr]; generalize hq_ : World.drewN wr _ = wr; have n0_ := Aside0.mk (Kd.R_at hq_ HO_3.out); have n1_ := Aside0.mk (below_at hq_ HB.out); clear hq_ HO_3 HB; have HO_3 := n0_; have HB := n1_; clear n0_ n1_; (try (have HX33 := Aside0.mk (show Kd.R k50 50 wr w.heap.size (fun _ => True) (.slice (some ⟨go32, 0, none⟩) x3_2.length co32) x3_2 from (by (with_reducible repeat (first | apply Kd.R_alloc | apply Kd.R_drewN | apply Kd.R_drew)); exact HO_3.out)))); (try (obtain ⟨ce33, hcl33, hM33, hcc33, hfr33⟩ := Kd.R_elem HX33.out z50 (x5_2 : Int) (of_decide_eq_true (by first | (with_reducible assumption) | assumption)) (by have h_ : (x5_2 : Int) < ((x3_2.length : Int) : Int) := of_decide_eq_true (by first | (with_reducible assumption) | assumption); first | exact h_ | (have e_ := (Kd.R_reads' HO_3.out).1; omega) | simpa using h_))); (try (obtain rfl := k50_openM hM33)); (try (have HP33 := Kd.R_seg HX33.out (x5_2 : Int) (of_decide_eq_true (by first | (with_reducible assumption) | assumption)) (by have h_ : (x5_2 : Int) < ((x3_2.length : Int) : Int) := of_decide_eq_true (by first | (with_reducible assumption) | assumption); first | exact h_ | (have e_ := (Kd.R_reads' HO_3.out).1; omega) | simpa using h_) (seg := [.int .i64 ((rd_T50 l0 x4_1).f0), .int .i64 ((rd_T50 l0 x4_1).f1.f0), .int .i64 ((rd_T50 l0 x4_1).f1.f1), .int .i64 ((rd_T50 l0 x4_1).f1.f2), .int .i64 ((rd_T50 l0 x4_1).f1.f3)]) (j := 0) hcl33 hcc33 (show 5 ≤ 5 from by decide) (x' := (⟨(rd_T50 l0 x4_1).f0, (⟨(rd_T50 l0 x4_1).f1.f0, (rd_T50 l0 x4_1).f1.f1, (rd_T50 l0 x4_1).f1.f2, (rd_T50 l0 x4_1).f1.f3⟩ : S35)⟩ : S50)) (k50_mkM _ _ _ (⟨(rd_T50 l0 x4_1).f0, (⟨(rd_T50 l0 x4_1).f1.f0, (rd_T50 l0 x4_1).f1.f1, (rd_T50 l0 x4_1).f1.f2, (rd_T50 l0 x4_1).f1.f3⟩ : S35)⟩ : S50) ) (fun _ hk => hk))); (try (have hx33_0 := hcc33 0 _ rfl)); (try (try simp only [show (k50).sz = 5 from rfl, Nat.mul_one, Nat.add_zero] at hx33_0)); (try (have hf33_0 := hfr33 0)); (try (try simp only [show (k50).sz = 5 from rfl, Nat.mul_one, Nat.add_zero] at hf33_0)); (try (have hx33_1 := hcc33 1 _ rfl)); (try (try simp only [show (k50).sz = 5 from rfl, Nat.mul_one, Nat.add_zero] at hx33_1)); (try (have hf33_1 := hfr33 1)); (try (try simp only [show (k50).sz = 5 from rfl, Nat.mul_one, Nat.add_zero] at hf33_1)); (try (have hx33_2 := hcc33 2 _ rfl)); (try (try simp only [show (k50).sz = 5 from rfl, Nat.mul_one, Nat.add_zero] at hx33_2)); (try (have hf33_2 := hfr33 2)); (try (try simp only [show (k50).sz = 5 from rfl, Nat.mul_one, Nat.add_zero] at hf33_2)); (try (have hx33_3 := hcc33 3 _ rfl)); (try (try simp only [show (k50).sz = 5 from rfl, Nat.mul_one, Nat.add_zero] at hx33_3)); (try (have hf33_3 := hfr33 3)); (try (try simp only [show (k50).sz = 5 from rfl, Nat.mul_one, Nat.add_zero] at hf33_3)); (try (have hx33_4 := hcc33 4 _ rfl)); (try (try simp only [show (k50).sz = 5 from rfl, Nat.mul_one, Nat.add_zero] at hx33_4)); (try (have hf33_4 := hfr33 4)); (try (try simp only [show (k50).sz = 5 from rfl, Nat.mul_one, Nat.add_zero] at hf33_4)); (try (clear hcl33 hcc33 hfr33 hM33)))); refine store_event (t := 50) (p := 54) (v := ?vo_w34) (w1 := (((((wr.setCell ⟨go32, (x5_2 : Int).toNat * 5, none⟩ (.int .i64 ((rd_T50 l0 x4_1).f0))).setCell ⟨go32, (x5_2 : Int).toNat * 5 + 1, none⟩ (.int .i64 ((rd_T50 l0 x4_1).f1.f0))).setCell ⟨go32, (x5_2 : Int).toNat * 5 + 2, none⟩ (.int .i64 ((rd_T50 l0 x4_1).f1.f1))).setCell ⟨go32, (x5_2 : Int).toNat * 5 + 3, none⟩ (.int .i64 ((rd_T50 l0 x4_1).f1.f2))).setCell ⟨go32, (x5_2 : Int).toNat * 5 + 4, none⟩ (.int .i64 ((rd_T50 l0 x4_1).f1.f3)))) ?hg ?ho ?hn ?hr ?_; (case ho => rfl); (case hg => rfl); (case hn => rfl); (case hr => first | (go_simp; done) | (go_simp; rfl)); intro w34 hw; have hg : wr.grownBy w34 (some go32) := (by rw [hw]; exact HP33.2); have hp_ : Kd.R k50 50 w34 w.heap.size (fun _ => True) (.slice (some ⟨go32, 0, none⟩) x3_2.length co32) y169 := (by rw [hw, Ny169.out]; exact HP33.1); clear HP33; have n0_ := Aside0.mk (hp_); have n1_ := Aside0.mk ((by rw [hw]; exact below_set (below_set (below_set (below_set (below_set (HB.out) GB32.out) GB32.out) GB32.out) GB32.out) GB32.out : Below w.heap.size w w34)); clear HO_3; clear HB; have HO_3 := n0_; have HB := n1_; clear n0_ n1_; clear hg hw hp_)); try go_wp2_with (first | ((with_reducible refine gate_store (t := 50) (p := 54) rfl ?_); (try (rw [drewN_self wr]; generalize hq_ : World.drewN wr _ = wr; have n0_ := Aside0.mk (Kd.R_at hq_ HO_3.out); have n1_ := Aside0.mk (below_at hq_ HB.out); clear hq_ HO_3 HB; have HO_3 := n0_; have HB := n1_; clear n0_ n1_; (try (have HX33 := Aside0.mk (show Kd.R k50 50 wr w.heap.size (fun _ => True) (.slice (some ⟨go32, 0, none⟩) x3_2.length co32) x3_2 from (by (with_reducible repeat (first | apply Kd.R_alloc | apply Kd.R_drewN | apply Kd.R_drew)); exact HO_3.out)))); (try (obtain ⟨ce33, hcl33, hM33, hcc33, hfr33⟩ := Kd.R_elem HX33.out z50 (x5_2 : Int) (of_decide_eq_true (by first | (with_reducible assumption) | assumption)) (by have h_ : (x5_2 : Int) < ((x3_2.length : Int) : Int) := of_decide_eq_true (by first | (with_reducible assumption) | assumption); first | exact h_ | (have e_ := (Kd.R_reads' HO_3.out).1; omega) | simpa using h_))); (try (obtain rfl := k50_openM hM33)); (try (have HP33 := Kd.R_seg HX33.out (x5_2 : Int) (of_decide_eq_true (by first | (with_reducible assumption) | assumption)) (by have h_ : (x5_2 : Int) < ((x3_2.length : Int) : Int) := of_decide_eq_true (by first | (with_reducible assumption) | assumption); first | exact h_ | (have e_ := (Kd.R_reads' HO_3.out).1; omega) | simpa using h_) (seg := [.int .i64 ((rd_T50 l0 x4_1).f0), .int .i64 ((rd_T50 l0 x4_1).f1.f0), .int .i64 ((rd_T50 l0 x4_1).f1.f1), .int .i64 ((rd_T50 l0 x4_1).f1.f2), .int .i64 ((rd_T50 l0 x4_1).f1.f3)]) (j := 0) hcl33 hcc33 (show 5 ≤ 5 from by decide) (x' := (⟨(rd_T50 l0 x4_1).f0, (⟨(rd_T50 l0 x4_1).f1.f0, (rd_T50 l0 x4_1).f1.f1, (rd_T50 l0 x4_1).f1.f2, (rd_T50 l0 x4_1).f1.f3⟩ : S35)⟩ : S50)) (k50_mkM _ _ _ (⟨(rd_T50 l0 x4_1).f0, (⟨(rd_T50 l0 x4_1).f1.f0, (rd_T50 l0 x4_1).f1.f1, (rd_T50 l0 x4_1).f1.f2, (rd_T50 l0 x4_1).f1.f3⟩ : S35)⟩ : S50) ) (fun _ hk => hk))); (try (have hx33_0 := hcc33 0 _ rfl)); (try (try simp only [show (k50).sz = 5 from rfl, Nat.mul_one, Nat.add_zero] at hx33_0)); (try (have hf33_0 := hfr33 0)); (try (try simp only [show (k50).sz = 5 from rfl, Nat.mul_one, Nat.add_zero] at hf33_0)); (try (have hx33_1 := hcc33 1 _ rfl)); (try (try simp only [show (k50).sz = 5 from rfl, Nat.mul_one, Nat.add_zero] at hx33_1)); (try (have hf33_1 := hfr33 1)); (try (try simp only [show (k50).sz = 5 from rfl, Nat.mul_one, Nat.add_zero] at hf33_1)); (try (have hx33_2 := hcc33 2 _ rfl)); (try (try simp only [show (k50).sz = 5 from rfl, Nat.mul_one, Nat.add_zero] at hx33_2)); (try (have hf33_2 := hfr33 2)); (try (try simp only [show (k50).sz = 5 from rfl, Nat.mul_one, Nat.add_zero] at hf33_2)); (try (have hx33_3 := hcc33 3 _ rfl)); (try (try simp only [show (k50).sz = 5 from rfl, Nat.mul_one, Nat.add_zero] at hx33_3)); (try (have hf33_3 := hfr33 3)); (try (try simp only [show (k50).sz = 5 from rfl, Nat.mul_one, Nat.add_zero] at hf33_3)); (try (have hx33_4 := hcc33 4 _ rfl)); (try (try simp only [show (k50).sz = 5 from rfl, Nat.mul_one, Nat.add_zero] at hx33_4)); (try (have hf33_4 := hfr33 4)); (try (try simp only [show (k50).sz = 5 from rfl, Nat.mul_one, Nat.add_zero] at hf33_4)); (try (clear hcl33 hcc33 hfr33 hM33)))); refine store_event (t := 50) (p := 54) (v := ?vo_w34) (w1 := (((((wr.setCell ⟨go32, (x5_2 : Int).toNat * 5, none⟩ (.int .i64 ((rd_T50 l0 x4_1).f0))).setCell ⟨go32, (x5_2 : Int).toNat * 5 + 1, none⟩ (.int .i64 ((rd_T50 l0 x4_1).f1.f0))).setCell ⟨go32, (x5_2 : Int).toNat * 5 + 2, none⟩ (.int .i64 ((rd_T50 l0 x4_1).f1.f1))).setCell ⟨go32, (x5_2 : Int).toNat * 5 + 3, none⟩ (.int .i64 ((rd_T50 l0 x4_1).f1.f2))).setCell ⟨go32, (x5_2 : Int).toNat * 5 + 4, none⟩ (.int .i64 ((rd_T50 l0 x4_1).f1.f3)))) ?hg ?ho ?hn ?hr ?_; (case ho => rfl); (case hg => rfl); (case hn => rfl); (case hr => first | (go_simp; done) | (go_simp; rfl)); intro w34 hw; have hg : wr.grownBy w34 (some go32) := (by rw [hw]; exact HP33.2); have hp_ : Kd.R k50 50 w34 w.heap.size (fun _ => True) (.slice (some ⟨go32, 0, none⟩) x3_2.length co32) y169 := (by rw [hw, Ny169.out]; exact HP33.1); clear HP33; have n0_ := Aside0.mk (hp_); have n1_ := Aside0.mk ((by rw [hw]; exact below_set (below_set (below_set (below_set (below_set (HB.out) GB32.out) GB32.out) GB32.out) GB32.out) GB32.out : Below w.heap.size w w34)); clear HO_3; clear HB; have HO_3 := n0_; have HB := n1_; clear n0_ n1_; clear hg hw hp_)))
             go_roundg k2
             case measure => have := HK1.out; have := HK2.out; omega
             case rel => exact ⟨(y169), (wrap64 (x4_1 + 1)), (by first | rfl | (simp; done) | (simp [*]; done)), H', ⟨by have := HK1.out; have := HK2.out; omega⟩, ⟨by (with_reducible repeat (first | apply Kd.R_alloc | apply Kd.R_drewN | apply Kd.R_drew)); exact HO_3.out⟩, ⟨by repeat (first | (with_reducible first | exact HB.out | apply below_alloc | apply pw_below_drewN | apply below_drew1) | exact HB.out)⟩⟩
            ·rw [if_neg c31] at H
             exact absurd H (by simp)
           ·rw [if_neg c30] at H
            exact absurd H (by simp)
          ·rw [if_neg c29] at H
           exact absurd H (by simp)
         ·rw [if_neg c28] at H
          exact absurd H (by simp)
     ·rw [if_neg c6] at H
      exact absurd H (by simp)
    ·rw [if_neg c5] at H
     exact absurd H (by simp)
   ·rw [if_neg c4] at H
    have c4b0 : decide (x4_1 < (l0.length : Int)) = false := decide_eq_false c4
    clear c4
    obtain rfl := Option.some.inj H
    go_wp2
    repeat (go_quiet (fail); try go_wp2)
    go_ret
    exact ⟨_, by first | rfl | (simp [errW_none, errW_some] <;> rfl) | (simp [*, errW_none, errW_some] <;> rfl), by (with_reducible repeat (first | apply Kd.R_alloc | apply Kd.R_drewN | apply Kd.R_drew)); exact HO_3.out, by repeat (first | (with_reducible first | exact HB.out | apply below_alloc | apply pw_below_drewN | apply below_drew1) | exact HB.out)⟩

/-! ### spec_Merge: function 23 -/
def spec_Merge.f (k : Nat) (l0 : List (S50)) (l1 : List (S50)) : Option ((List (S50))) := (spec_l11Deep.f k l0).bind fun t170 => (if t170 = true then ((spec_l11Deep.f k l1).bind fun t171 => (if t171 = true then (if (wrap64 ((l0.length : Int) + (l1.length : Int))) > 200 then (some (([] : List (S50)))) else ((some (([] : List (S50)) : List (S50))).bind fun y175 => (if y175.length + l0.length < 3518437208883 then ((some (y175 ++ l0 : List (S50))).bind fun y178 => (if y178.length + l1.length < 3518437208883 then ((spec_l11Sort.f k (y178 ++ l1)).bind fun t184 => (some t184)) else (none))) else (none)))) else (some (([] : List (S50)))))) else (some (([] : List (S50)))))
theorem spec_Merge.mono : ∀ a0 a1 k, LeO (spec_Merge.f k a0 a1) (spec_Merge.f (k + 1) a0 a1) := by
 intro a0 a1 k
 unfold spec_Merge.f
 repeat' first
   | (with_reducible exact spec_l11Deep.mono _ _)
   | (with_reducible exact spec_l11Sort.mono _ _)
   | (with_reducible exact LeO.refl _)
   | (with_reducible exact LeO.none _)
   | (with_reducible refine LeO.ite ?_ ?_)
   | (with_reducible refine LeO.bind ?_ (fun _ => ?_))
   | exact spec_l11Deep.mono _ _
   | exact spec_l11Sort.mono _ _
   | exact LeO.none _
   | refine LeO.ite ?_ ?_
   | refine LeO.bind ?_ (fun _ => ?_)
set_option maxHeartbeats 8000000 in
set_option maxRecDepth 100000 in
theorem spec_Merge.calls (k : Nat) (A0 : Option Addr) (c0 : Nat) (l0 : List (S50)) (A1 : Option Addr) (c1 : Nat) (l1 : List (S50)) (r : List (S50)) (w : World) (hr0 : Kd.C k50 w A0 l0.length l0) (hc0 : l0.length ≤ c0) (hr1 : Kd.C k50 w A1 l1.length l1) (hc1 : l1.length ≤ c1) (h : spec_Merge.f k l0 l1 = some r) :
  Calls Try.prog 23 #[.slice A0 l0.length c0, .slice A1 l1.length c1] w fun e w' => ∃ v0_ : Value, e = .returned (v0_) ∧ Kd.R k50 50 w' w.heap.size (fun _ => True) v0_ r ∧ Below w.heap.size w w' := by
 have HR0 := Aside0.mk hr0
 have HC0 := Aside0.mk hc0
 clear hr0 hc0
 have HR1 := Aside0.mk hr1
 have HC1 := Aside0.mk hc1
 clear hr1 hc1
 have HB := Aside0.mk (Below.refl w.heap.size w)
 have H : ((spec_l11Deep.f k l0).bind fun t170 => (if t170 = true then ((spec_l11Deep.f k l1).bind fun t171 => (if t171 = true then (if (wrap64 ((l0.length : Int) + (l1.length : Int))) > 200 then (some (([] : List (S50)))) else ((some (([] : List (S50)) : List (S50))).bind fun y175 => (if y175.length + l0.length < 3518437208883 then ((some (y175 ++ l0 : List (S50))).bind fun y178 => (if y178.length + l1.length < 3518437208883 then ((spec_l11Sort.f k (y178 ++ l1)).bind fun t184 => (some t184)) else (none))) else (none)))) else (some (([] : List (S50)))))) else (some (([] : List (S50)))))) = some r := h
 clear h
 replace H := Option.bind_eq_some_iff.mp H
 obtain ⟨t170, A30, H⟩ := H
 have A3 := Aside0.mk A30
 clear A30
 by_cases c4 : t170 = true
 ·subst c4
  have H1 := H; rw [if_pos rfl] at H1
  clear H
  have H := H1
  clear H1
  replace H := Option.bind_eq_some_iff.mp H
  obtain ⟨t171, A50, H⟩ := H
  have A5 := Aside0.mk A50
  clear A50
  by_cases c6 : t171 = true
  ·subst c6
   have H1 := H; rw [if_pos rfl] at H1
   clear H
   have H := H1
   clear H1
   by_cases c7 : (wrap64 ((l0.length : Int) + (l1.length : Int))) > 200
   ·rw [if_pos c7] at H
    have c7b0 : decide (200 < (wrap64 ((l0.length : Int) + (l1.length : Int)))) = true := decide_eq_true c7
    clear c7
    obtain ⟨y172, hy172⟩ : ∃ y_ : List (S50), y_ = (([] : List (S50))) := ⟨_, rfl⟩
    replace H : (some y172) = some r := by first | (rw [hy172]; with_reducible exact H) | (have H2_ := (Option.bind_some _ _).symm.trans H; rw [hy172]; with_reducible exact H2_) | (have H2_ := (Option.bind_some _ _).symm.trans H; with_reducible exact H2_) | with_reducible exact H | (rw [hy172]; exact H) | exact H
    have Ny172 := Aside0.mk hy172
    clear hy172
    obtain rfl := Option.some.inj H
    go_enter Try.func23, Try.ntmps23
    go_wp2_with (first | ((with_reducible refine gate_callee (f := 40) rfl ?_); refine goesL_ (some 6) rfl rfl Try.func40 (by kernel_rfl) rfl #[.slice A0 l0.length c0] rfl (by (try simp only [List.map_toArray, List.map_cons, List.map_nil]); first | done | rfl | (simp only [List.length_drop, List.length_take]; rfl)) ?_; (with_reducible refine (spec_l11Deep.calls k _ _ l0 true _ ?side1 ?side2 A3.out).mono ?_); (case side1 => repeat (first | exact HR0.out | (with_reducible refine Kd.C_alloc ?_ _) | (with_reducible refine Kd.C_drewN ?_ _) | (with_reducible refine Kd.C_drew ?_))); (case side2 => exact HC0.out); rintro e w8 ⟨rfl, hb⟩; refine ⟨_, rfl, ?_⟩; have n0_ := Aside0.mk (below_step (by repeat (first | (with_reducible first | exact HB.out | apply below_alloc | apply pw_below_drewN | apply below_drew1) | exact HB.out)) hb); clear HB; have HB := n0_; clear n0_; (try clear hb); (try clear hb2); (try clear hk); (try clear hi)) | (go_at_call 40; (with_reducible refine (spec_l11Deep.calls k _ _ l1 true _ ?side1 ?side2 A5.out).mono ?_); (case side1 => repeat (first | exact (Kd.C_below HR1.out HB.out) | (with_reducible refine Kd.C_alloc ?_ _) | (with_reducible refine Kd.C_drewN ?_ _) | (with_reducible refine Kd.C_drew ?_))); (case side2 => exact HC1.out); rintro e w9 ⟨rfl, hb⟩; have n0_ := Aside0.mk (below_step (by repeat (first | (with_reducible first | exact HB.out | apply below_alloc | apply pw_below_drewN | apply below_drew1) | exact HB.out)) hb); clear HB; have HB := n0_; clear n0_; (try clear hb); (try clear hb2); (try clear hk); (try clear hi)) | ((with_reducible refine gate_dst (N := 21) rfl ?_); (try (refine gate_guard (by rfl) ?_; dsimp only)); refine Kd.R_lit k50 _ 50 ?hg (N := 21) ?hd (xs := ([] : List (S50))) (inner := []) (ok := fun _ => True) (okp := fun _ => True) ?hr ?hp (fun _ hk => hk) trivial (Below.refl _ _) (Nat.le_refl _) (by simp) ?_; (case hd => rfl); (case hg => rfl); (case hr => first | (go_simp; done) | (go_simp; rfl)); (case hp => exact (Reps.none _ _)); intro v173 w10 ho11 hb hg_ hnew_; clear hg_ hnew_; (first | rw [← Ny172.out] at ho11 | (simp only [Int.reduceToNat] at ho11; rw [← Ny172.out] at ho11)); have n0_ := Aside0.mk (Kd.R_lower ho11 (below_size (by repeat (first | (with_reducible first | exact HB.out | apply below_alloc | apply pw_below_drewN | apply below_drew1) | exact HB.out)))); have n1_ := Aside0.mk (below_step (by repeat (first | (with_reducible first | exact HB.out | apply below_alloc | apply pw_below_drewN | apply below_drew1) | exact HB.out)) hb); clear HB; have HO174 := n0_; have HB := n1_; clear n0_ n1_; clear hb ho11))
    go_ret
    exact ⟨_, by first | rfl | (simp [errW_none, errW_some] <;> rfl) | (simp [*, errW_none, errW_some] <;> rfl), by (with_reducible repeat (first | apply Kd.R_alloc | apply Kd.R_drewN | apply Kd.R_drew)); exact HO174.out, by repeat (first | (with_reducible first | exact HB.out | apply below_alloc | apply pw_below_drewN | apply below_drew1) | exact HB.out)⟩
   ·rw [if_neg c7] at H
    have c7b0 : decide (200 < (wrap64 ((l0.length : Int) + (l1.length : Int)))) = false := decide_eq_false c7
    clear c7
    obtain ⟨y175, hy175⟩ : ∃ y_ : List (S50), y_ = (([] : List (S50))) := ⟨_, rfl⟩
    replace H : (if y175.length + l0.length < 3518437208883 then ((some (y175 ++ l0 : List (S50))).bind fun y178 => (if y178.length + l1.length < 3518437208883 then ((spec_l11Sort.f k (y178 ++ l1)).bind fun t184 => (some t184)) else (none))) else (none)) = some r := by first | (rw [hy175]; with_reducible exact H) | (have H2_ := (Option.bind_some _ _).symm.trans H; rw [hy175]; with_reducible exact H2_) | (have H2_ := (Option.bind_some _ _).symm.trans H; with_reducible exact H2_) | with_reducible exact H | (rw [hy175]; exact H) | exact H
    have Ny175 := Aside0.mk hy175
    clear hy175
    by_cases c12 : y175.length + l0.length < 3518437208883
    ·rw [if_pos c12] at H
     have LMc12 := Aside0.mk c12
     clear c12
     obtain ⟨y178, hy178⟩ : ∃ y_ : List (S50), y_ = (y175 ++ l0) := ⟨_, rfl⟩
     replace H : (if y178.length + l1.length < 3518437208883 then ((spec_l11Sort.f k (y178 ++ l1)).bind fun t184 => (some t184)) else (none)) = some r := by first | (rw [hy178]; with_reducible exact H) | (have H2_ := (Option.bind_some _ _).symm.trans H; rw [hy178]; with_reducible exact H2_) | (have H2_ := (Option.bind_some _ _).symm.trans H; with_reducible exact H2_) | with_reducible exact H | (rw [hy178]; exact H) | exact H
     have Ny178 := Aside0.mk hy178
     clear hy178
     by_cases c13 : y178.length + l1.length < 3518437208883
     ·rw [if_pos c13] at H
      have LMc13 := Aside0.mk c13
      clear c13
      obtain ⟨y181, hy181⟩ : ∃ y_ : List (S50), y_ = (y178 ++ l1) := ⟨_, rfl⟩
      replace H : ((spec_l11Sort.f k y181).bind fun t184 => (some t184)) = some r := by first | (rw [hy181]; with_reducible exact H) | (have H2_ := (Option.bind_some _ _).symm.trans H; rw [hy181]; with_reducible exact H2_) | (have H2_ := (Option.bind_some _ _).symm.trans H; with_reducible exact H2_) | with_reducible exact H | (rw [hy181]; exact H) | exact H
      have Ny181 := Aside0.mk hy181
      clear hy181
      replace H := Option.bind_eq_some_iff.mp H
      obtain ⟨t184, A140, H⟩ := H
      have A14 := Aside0.mk A140
      clear A140
      obtain rfl := Option.some.inj H
      go_enter Try.func23, Try.ntmps23
      go_wp2_with (first | ((with_reducible refine gate_callee (f := 40) rfl ?_); refine goesL_ (some 6) rfl rfl Try.func40 (by kernel_rfl) rfl #[.slice A0 l0.length c0] rfl (by (try simp only [List.map_toArray, List.map_cons, List.map_nil]); first | done | rfl | (simp only [List.length_drop, List.length_take]; rfl)) ?_; (with_reducible refine (spec_l11Deep.calls k _ _ l0 true _ ?side1 ?side2 A3.out).mono ?_); (case side1 => repeat (first | exact HR0.out | (with_reducible refine Kd.C_alloc ?_ _) | (with_reducible refine Kd.C_drewN ?_ _) | (with_reducible refine Kd.C_drew ?_))); (case side2 => exact HC0.out); rintro e w15 ⟨rfl, hb⟩; refine ⟨_, rfl, ?_⟩; have n0_ := Aside0.mk (below_step (by repeat (first | (with_reducible first | exact HB.out | apply below_alloc | apply pw_below_drewN | apply below_drew1) | exact HB.out)) hb); clear HB; have HB := n0_; clear n0_; (try clear hb); (try clear hb2); (try clear hk); (try clear hi)) | (go_at_call 40; (with_reducible refine (spec_l11Deep.calls k _ _ l1 true _ ?side1 ?side2 A5.out).mono ?_); (case side1 => repeat (first | exact (Kd.C_below HR1.out HB.out) | (with_reducible refine Kd.C_alloc ?_ _) | (with_reducible refine Kd.C_drewN ?_ _) | (with_reducible refine Kd.C_drew ?_))); (case side2 => exact HC1.out); rintro e w16 ⟨rfl, hb⟩; have n0_ := Aside0.mk (below_step (by repeat (first | (with_reducible first | exact HB.out | apply below_alloc | apply pw_below_drewN | apply below_drew1) | exact HB.out)) hb); clear HB; have HB := n0_; clear n0_; (try clear hb); (try clear hb2); (try clear hk); (try clear hi)) | ((with_reducible refine gate_dst (N := 22) rfl ?_); (try (refine gate_guard (by rfl) ?_; dsimp only)); refine Kd.R_lit k50 _ 50 ?hg (N := 22) ?hd (xs := ([] : List (S50))) (inner := []) (ok := fun _ => True) (okp := fun _ => True) ?hr ?hp (fun _ hk => hk) trivial (Below.refl _ _) (Nat.le_refl _) (by simp) ?_; (case hd => rfl); (case hg => rfl); (case hr => first | (go_simp; done) | (go_simp; rfl)); (case hp => exact (Reps.none _ _)); intro v176 w17 ho18 hb hg_ hnew_; clear hg_ hnew_; (first | rw [← Ny175.out] at ho18 | (simp only [Int.reduceToNat] at ho18; rw [← Ny175.out] at ho18)); have n0_ := Aside0.mk (Kd.R_lower ho18 (below_size (by repeat (first | (with_reducible first | exact HB.out | apply below_alloc | apply pw_below_drewN | apply below_drew1) | exact HB.out)))); have n1_ := Aside0.mk (below_step (by repeat (first | (with_reducible first | exact HB.out | apply below_alloc | apply pw_below_drewN | apply below_drew1) | exact HB.out)) hb); clear HB; have HO177 := n0_; have HB := n1_; clear n0_ n1_; clear hb ho18) | ((with_reducible refine gate_builtin (b := .append) (xs := #[.tmp 22, .tmp 23]) rfl ?_); (try (refine gate_guard (by rfl) ?_; dsimp only)); at_builtin; refine Kd.R_append_rows k50 (w0 := w) w.heap.size rfl (.tmp 22) (.tmp 23) 39 50 (.agg #[(.int .i64 0), (.int .i64 0), (.int .i64 0), (.int .i64 0), (.int .i64 0)]) 40 rfl Try.underlying39 info50 rfl (by decide) (by omega) v176 y175 l0 _ _ _ (fun _ => True) (fun _ => False) rfl rfl ?aO ?aR (fun _ _ h => h) (fun _ h => h.elim) ?aF ?aB ?aS ?aL ?_; (case aR => repeat (first | exact (Kd.C_below HR0.out HB.out) | (with_reducible refine Kd.C_alloc ?_ _) | (with_reducible refine Kd.C_drewN ?_ _) | (with_reducible refine Kd.C_drew ?_))); (case aB => exact (by repeat (first | (with_reducible first | exact HB.out | apply below_alloc | apply pw_below_drewN | apply below_drew1) | exact HB.out))); (case aF => exact (fun _ _ => trivial)); (case aO => exact (by (with_reducible repeat (first | apply Kd.R_alloc | apply Kd.R_drewN | apply Kd.R_drew)); exact HO177.out)); (case aS => exact (below_size (by repeat (first | (with_reducible first | exact HB.out | apply below_alloc | apply pw_below_drewN | apply below_drew1) | exact HB.out)))); (case aL => have := LMc12.out; omega); intro v179 w19 ho hb hg hat; rw [← Ny178.out] at ho; have n0_ := Aside0.mk (hb); have n1_ := Aside0.mk (ho); clear HB; clear HO177; have HB := n0_; have HO180 := n1_; clear n0_ n1_; clear ho hb hg hat) | ((with_reducible refine gate_builtin (b := .append) (xs := #[.tmp 24, .tmp 25]) rfl ?_); (try (refine gate_guard (by rfl) ?_; dsimp only)); at_builtin; refine Kd.R_append_rows k50 (w0 := w) w.heap.size rfl (.tmp 24) (.tmp 25) 39 50 (.agg #[(.int .i64 0), (.int .i64 0), (.int .i64 0), (.int .i64 0), (.int .i64 0)]) 40 rfl Try.underlying39 info50 rfl (by decide) (by omega) v179 y178 l1 _ _ _ (fun _ => True) (fun _ => False) rfl rfl ?aO ?aR (fun _ _ h => h) (fun _ h => h.elim) ?aF ?aB ?aS ?aL ?_; (case aR => repeat (first | exact (Kd.C_below HR1.out HB.out) | (with_reducible refine Kd.C_alloc ?_ _) | (with_reducible refine Kd.C_drewN ?_ _) | (with_reducible refine Kd.C_drew ?_))); (case aB => exact (by repeat (first | (with_reducible first | exact HB.out | apply below_alloc | apply pw_below_drewN | apply below_drew1) | exact HB.out))); (case aF => exact (fun _ _ => trivial)); (case aO => exact (by (with_reducible repeat (first | apply Kd.R_alloc | apply Kd.R_drewN | apply Kd.R_drew)); exact HO180.out)); (case aS => exact (below_size (by repeat (first | (with_reducible first | exact HB.out | apply below_alloc | apply pw_below_drewN | apply below_drew1) | exact HB.out)))); (case aL => have := LMc13.out; omega); intro v182 w20 ho hb hg hat; rw [← Ny181.out] at ho; have n0_ := Aside0.mk (hb); have n1_ := Aside0.mk (ho); clear HB; clear HO180; have HB := n0_; have HO183 := n1_; clear n0_ n1_; clear ho hb hg hat; obtain ⟨Ao21, co21, eo21⟩ := Kd.R_slice HO183.out; subst eo21) | ((with_reducible refine gate_callee (f := 41) rfl ?_); refine goesL_ (some 27) rfl rfl Try.func41 (by kernel_rfl) rfl #[.slice Ao21 y181.length co21] rfl (by (try simp only [List.map_toArray, List.map_cons, List.map_nil]); first | done | rfl | (simp only [List.length_drop, List.length_take]; rfl)) ?_; (with_reducible refine (spec_l11Sort.calls k _ _ y181 t184 _ ?side1 ?side2 A14.out).mono ?_); (case side1 => repeat (first | exact (Kd.R_reads' HO183.out).2.2 | (with_reducible refine Kd.C_alloc ?_ _) | (with_reducible refine Kd.C_drewN ?_ _) | (with_reducible refine Kd.C_drew ?_))); (case side2 => exact (Kd.R_reads' HO183.out).2.1); rintro e w22 ⟨v185, rfl, ho0, hb⟩; refine ⟨_, rfl, ?_⟩; have n0_ := Aside0.mk (Kd.R_elder' (by (with_reducible repeat (first | apply Kd.R_alloc | apply Kd.R_drewN | apply Kd.R_drew)); exact HO183.out) (Kd.R_base ho0) hb); have n1_ := Aside0.mk (Kd.R_lower (Kd.R_new' ho0 (Kd.R_lt (by (with_reducible repeat (first | apply Kd.R_alloc | apply Kd.R_drewN | apply Kd.R_drew)); exact HO183.out))) (below_size (by repeat (first | (with_reducible first | exact HB.out | apply below_alloc | apply pw_below_drewN | apply below_drew1) | exact HB.out)))); have n2_ := Aside0.mk (below_step (by repeat (first | (with_reducible first | exact HB.out | apply below_alloc | apply pw_below_drewN | apply below_drew1) | exact HB.out)) hb); clear HO183; clear HB; have HO183 := n0_; have HO186 := n1_; have HB := n2_; clear n0_ n1_ n2_; (try clear hb); (try clear hb2); (try clear hk); (try clear hi); (try clear ho0)))
      go_ret
      exact ⟨_, by first | rfl | (simp [errW_none, errW_some] <;> rfl) | (simp [*, errW_none, errW_some] <;> rfl), by (with_reducible repeat (first | apply Kd.R_alloc | apply Kd.R_drewN | apply Kd.R_drew)); exact Kd.R_mono HO186.out (fun _ hk => trivial), by repeat (first | (with_reducible first | exact HB.out | apply below_alloc | apply pw_below_drewN | apply below_drew1) | exact HB.out)⟩
     ·rw [if_neg c13] at H
      exact absurd H (by simp)
    ·rw [if_neg c12] at H
     exact absurd H (by simp)
  ·replace c6 := Bool.eq_false_iff.mpr c6
   subst c6
   have H1 := H; rw [if_neg (show ¬ (false = true) by decide)] at H1
   clear H
   have H := H1
   clear H1
   obtain ⟨y187, hy187⟩ : ∃ y_ : List (S50), y_ = (([] : List (S50))) := ⟨_, rfl⟩
   replace H : (some y187) = some r := by first | (rw [hy187]; with_reducible exact H) | (have H2_ := (Option.bind_some _ _).symm.trans H; rw [hy187]; with_reducible exact H2_) | (have H2_ := (Option.bind_some _ _).symm.trans H; with_reducible exact H2_) | with_reducible exact H | (rw [hy187]; exact H) | exact H
   have Ny187 := Aside0.mk hy187
   clear hy187
   obtain rfl := Option.some.inj H
   go_enter Try.func23, Try.ntmps23
   go_wp2_with (first | ((with_reducible refine gate_callee (f := 40) rfl ?_); refine goesL_ (some 6) rfl rfl Try.func40 (by kernel_rfl) rfl #[.slice A0 l0.length c0] rfl (by (try simp only [List.map_toArray, List.map_cons, List.map_nil]); first | done | rfl | (simp only [List.length_drop, List.length_take]; rfl)) ?_; (with_reducible refine (spec_l11Deep.calls k _ _ l0 true _ ?side1 ?side2 A3.out).mono ?_); (case side1 => repeat (first | exact HR0.out | (with_reducible refine Kd.C_alloc ?_ _) | (with_reducible refine Kd.C_drewN ?_ _) | (with_reducible refine Kd.C_drew ?_))); (case side2 => exact HC0.out); rintro e w23 ⟨rfl, hb⟩; refine ⟨_, rfl, ?_⟩; have n0_ := Aside0.mk (below_step (by repeat (first | (with_reducible first | exact HB.out | apply below_alloc | apply pw_below_drewN | apply below_drew1) | exact HB.out)) hb); clear HB; have HB := n0_; clear n0_; (try clear hb); (try clear hb2); (try clear hk); (try clear hi)) | (go_at_call 40; (with_reducible refine (spec_l11Deep.calls k _ _ l1 false _ ?side1 ?side2 A5.out).mono ?_); (case side1 => repeat (first | exact (Kd.C_below HR1.out HB.out) | (with_reducible refine Kd.C_alloc ?_ _) | (with_reducible refine Kd.C_drewN ?_ _) | (with_reducible refine Kd.C_drew ?_))); (case side2 => exact HC1.out); rintro e w24 ⟨rfl, hb⟩; have n0_ := Aside0.mk (below_step (by repeat (first | (with_reducible first | exact HB.out | apply below_alloc | apply pw_below_drewN | apply below_drew1) | exact HB.out)) hb); clear HB; have HB := n0_; clear n0_; (try clear hb); (try clear hb2); (try clear hk); (try clear hi)) | ((with_reducible refine gate_dst (N := 21) rfl ?_); (try (refine gate_guard (by rfl) ?_; dsimp only)); refine Kd.R_lit k50 _ 50 ?hg (N := 21) ?hd (xs := ([] : List (S50))) (inner := []) (ok := fun _ => True) (okp := fun _ => True) ?hr ?hp (fun _ hk => hk) trivial (Below.refl _ _) (Nat.le_refl _) (by simp) ?_; (case hd => rfl); (case hg => rfl); (case hr => first | (go_simp; done) | (go_simp; rfl)); (case hp => exact (Reps.none _ _)); intro v188 w25 ho26 hb hg_ hnew_; clear hg_ hnew_; (first | rw [← Ny187.out] at ho26 | (simp only [Int.reduceToNat] at ho26; rw [← Ny187.out] at ho26)); have n0_ := Aside0.mk (Kd.R_lower ho26 (below_size (by repeat (first | (with_reducible first | exact HB.out | apply below_alloc | apply pw_below_drewN | apply below_drew1) | exact HB.out)))); have n1_ := Aside0.mk (below_step (by repeat (first | (with_reducible first | exact HB.out | apply below_alloc | apply pw_below_drewN | apply below_drew1) | exact HB.out)) hb); clear HB; have HO189 := n0_; have HB := n1_; clear n0_ n1_; clear hb ho26))
   go_ret
   exact ⟨_, by first | rfl | (simp [errW_none, errW_some] <;> rfl) | (simp [*, errW_none, errW_some] <;> rfl), by (with_reducible repeat (first | apply Kd.R_alloc | apply Kd.R_drewN | apply Kd.R_drew)); exact HO189.out, by repeat (first | (with_reducible first | exact HB.out | apply below_alloc | apply pw_below_drewN | apply below_drew1) | exact HB.out)⟩
 ·replace c4 := Bool.eq_false_iff.mpr c4
  subst c4
  have H1 := H; rw [if_neg (show ¬ (false = true) by decide)] at H1
  clear H
  have H := H1
  clear H1
  obtain ⟨y190, hy190⟩ : ∃ y_ : List (S50), y_ = (([] : List (S50))) := ⟨_, rfl⟩
  replace H : (some y190) = some r := by first | (rw [hy190]; with_reducible exact H) | (have H2_ := (Option.bind_some _ _).symm.trans H; rw [hy190]; with_reducible exact H2_) | (have H2_ := (Option.bind_some _ _).symm.trans H; with_reducible exact H2_) | with_reducible exact H | (rw [hy190]; exact H) | exact H
  have Ny190 := Aside0.mk hy190
  clear hy190
  obtain rfl := Option.some.inj H
  go_enter Try.func23, Try.ntmps23
  go_wp2_with (first | ((with_reducible refine gate_callee (f := 40) rfl ?_); refine goesL_ (some 6) rfl rfl Try.func40 (by kernel_rfl) rfl #[.slice A0 l0.length c0] rfl (by (try simp only [List.map_toArray, List.map_cons, List.map_nil]); first | done | rfl | (simp only [List.length_drop, List.length_take]; rfl)) ?_; (with_reducible refine (spec_l11Deep.calls k _ _ l0 false _ ?side1 ?side2 A3.out).mono ?_); (case side1 => repeat (first | exact HR0.out | (with_reducible refine Kd.C_alloc ?_ _) | (with_reducible refine Kd.C_drewN ?_ _) | (with_reducible refine Kd.C_drew ?_))); (case side2 => exact HC0.out); rintro e w27 ⟨rfl, hb⟩; refine ⟨_, rfl, ?_⟩; have n0_ := Aside0.mk (below_step (by repeat (first | (with_reducible first | exact HB.out | apply below_alloc | apply pw_below_drewN | apply below_drew1) | exact HB.out)) hb); clear HB; have HB := n0_; clear n0_; (try clear hb); (try clear hb2); (try clear hk); (try clear hi)) | ((with_reducible refine gate_dst (N := 21) rfl ?_); (try (refine gate_guard (by rfl) ?_; dsimp only)); refine Kd.R_lit k50 _ 50 ?hg (N := 21) ?hd (xs := ([] : List (S50))) (inner := []) (ok := fun _ => True) (okp := fun _ => True) ?hr ?hp (fun _ hk => hk) trivial (Below.refl _ _) (Nat.le_refl _) (by simp) ?_; (case hd => rfl); (case hg => rfl); (case hr => first | (go_simp; done) | (go_simp; rfl)); (case hp => exact (Reps.none _ _)); intro v191 w28 ho29 hb hg_ hnew_; clear hg_ hnew_; (first | rw [← Ny190.out] at ho29 | (simp only [Int.reduceToNat] at ho29; rw [← Ny190.out] at ho29)); have n0_ := Aside0.mk (Kd.R_lower ho29 (below_size (by repeat (first | (with_reducible first | exact HB.out | apply below_alloc | apply pw_below_drewN | apply below_drew1) | exact HB.out)))); have n1_ := Aside0.mk (below_step (by repeat (first | (with_reducible first | exact HB.out | apply below_alloc | apply pw_below_drewN | apply below_drew1) | exact HB.out)) hb); clear HB; have HO192 := n0_; have HB := n1_; clear n0_ n1_; clear hb ho29))
  go_ret
  exact ⟨_, by first | rfl | (simp [errW_none, errW_some] <;> rfl) | (simp [*, errW_none, errW_some] <;> rfl), by (with_reducible repeat (first | apply Kd.R_alloc | apply Kd.R_drewN | apply Kd.R_drew)); exact HO192.out, by repeat (first | (with_reducible first | exact HB.out | apply below_alloc | apply pw_below_drewN | apply below_drew1) | exact HB.out)⟩

/-! ### impl_Deep_71: function 71 -/
def impl_Deep_71.l0 : Nat → List (S50) → GtD → Int → Int → Option (Int)
 | 0, _, _, _, _ => none
 | k + 1, x0, x1, x7, x8 => if x8 < x7 then (if 0 ≤ x8 then (if x8 < (x0.length : Int) then ((GD.f x1 ((rd_T50 x0 x8).f0) ((rd_T50 x0 x8).f1.f0) ((rd_T50 x0 x8).f1.f1) ((rd_T50 x0 x8).f1.f2) ((rd_T50 x0 x8).f1.f3)).bind fun t194 => (if t194 = true then (some x8) else (impl_Deep_71.l0 k x0 x1 x7 (wrap64 (x8 + 1))))) else (none)) else (none)) else (some (-1))
def impl_Deep_71.f (k : Nat) (l0 : List (S50)) (a1 : GtD) : Option (Int) := impl_Deep_71.l0 k l0 a1 (l0.length : Int) 0
theorem impl_Deep_71.mono_l : ∀ k, (∀ y0 y1 y2 y3, LeO (impl_Deep_71.l0 k y0 y1 y2 y3) (impl_Deep_71.l0 (k + 1) y0 y1 y2 y3))
 | 0 => fun _ _ _ _ r h => by simp [impl_Deep_71.l0] at h
 | k + 1 => by
  have ih0 := impl_Deep_71.mono_l k
  ·intro y0 y1 y2 y3
   unfold impl_Deep_71.l0
   repeat' first
   | (with_reducible exact ih0 _ _ _ _)
   | (with_reducible exact LeO.refl _)
   | (with_reducible exact LeO.none _)
   | (with_reducible refine LeO.ite ?_ ?_)
   | (with_reducible refine LeO.bind ?_ (fun _ => ?_))
   | exact ih0 _ _ _ _
   | exact LeO.none _
   | refine LeO.ite ?_ ?_
   | refine LeO.bind ?_ (fun _ => ?_)
theorem impl_Deep_71.mono : ∀ a0 a1 k, LeO (impl_Deep_71.f k a0 a1) (impl_Deep_71.f (k + 1) a0 a1) := by
 intro a0 a1 k
 have ih0 := impl_Deep_71.mono_l k
 unfold impl_Deep_71.f
 repeat' first
   | (with_reducible exact ih0 _ _ _ _)
   | (with_reducible exact LeO.refl _)
   | (with_reducible exact LeO.none _)
   | (with_reducible refine LeO.ite ?_ ?_)
   | (with_reducible refine LeO.bind ?_ (fun _ => ?_))
   | exact ih0 _ _ _ _
   | exact LeO.none _
   | refine LeO.ite ?_ ?_
   | refine LeO.bind ?_ (fun _ => ?_)
set_option maxHeartbeats 8000000 in
set_option maxRecDepth 100000 in
theorem impl_Deep_71.calls (k : Nat) (A0 : Option Addr) (c0 : Nat) (l0 : List (S50)) (a1 : GtD) (r : Int) (w : World) (hr0 : Kd.C k50 w A0 l0.length l0) (hc0 : l0.length ≤ c0) {cf1 : FuncId} {cc1 : Array Value} (ha1 : Aside0 (FnOkD w cf1 cc1 a1)) (h : impl_Deep_71.f k l0 a1 = some r) :
  Calls Try.prog 71 #[.slice A0 l0.length c0, (.func (.func cf1) #[] cc1)] w fun e w' => e = .returned (.int .i64 r) ∧ Below w.heap.size w w' := by
 have hu50 := Try.underlying50
 have HR0 := Aside0.mk hr0
 have HC0 := Aside0.mk hc0
 clear hr0 hc0
 have HB := Aside0.mk (Below.refl w.heap.size w)
 have H : (impl_Deep_71.l0 k l0 a1 (l0.length : Int) 0) = some r := h
 clear h
 have H' := Aside0.mk H
 clear H
 go_enter Try.func71, Try.ntmps71
 go_wp2
 go_loopg [8] k (fun kq v8 w' => ∃ (x8_1 : Int), v8 = .int .i64 x8_1 ∧ Aside0 (impl_Deep_71.l0 kq l0 a1 (l0.length : Int) x8_1 = some r) ∧ Aside0 (kq ≤ k) ∧ Aside0 (Below w.heap.size w w'))
 case atStart => exact ⟨(0), (by first | rfl | (simp; done) | (simp [*]; done)), H', ⟨Nat.le_refl _⟩, ⟨by repeat (first | (with_reducible first | exact HB.out | apply below_alloc | apply pw_below_drewN | apply below_drew1) | exact HB.out)⟩⟩
 case round =>
  clear H'
  obtain ⟨x8_1, rfl, HA, HK1, HB⟩ := hrel
  cases gk with
  | zero => exact absurd HA.out (by simp [impl_Deep_71.l0])
  | succ k1 =>
   have H := HA.out
   clear HA
   simp only [impl_Deep_71.l0] at H
   by_cases c3 : x8_1 < (l0.length : Int)
   ·rw [if_pos c3] at H
    have c3b0 : decide (x8_1 < (l0.length : Int)) = true := decide_eq_true c3
    clear c3
    by_cases c4 : 0 ≤ x8_1
    ·rw [if_pos c4] at H
     have c4b0 : decide (0 ≤ x8_1) = true := decide_eq_true c4
     clear c4
     by_cases c5 : x8_1 < (l0.length : Int)
     ·rw [if_pos c5] at H
      have c5b0 : decide (x8_1 < (l0.length : Int)) = true := decide_eq_true c5
      clear c5
      replace H := Option.bind_eq_some_iff.mp H
      obtain ⟨t194, A60, H⟩ := H
      have A6 := Aside0.mk A60
      clear A60
      by_cases c7 : t194 = true
      ·subst c7
       have H1 := H; rw [if_pos rfl] at H1
       clear H
       have H := H1
       clear H1
       obtain rfl := Option.some.inj H
       have p193 : 0 ≤ (x8_1 : Int) := of_decide_eq_true (by first | (with_reducible assumption) | assumption)
       have q193 : x8_1 < (l0.length : Int) := of_decide_eq_true (by first | (with_reducible assumption) | assumption)
       obtain ⟨ad193, e193, hx193_0, hx193_1, hx193_2, hx193_3, hx193_4⟩ := at_T50 HR0.out x8_1 p193 q193
       cases e193
       replace hx193_0 := (HB.out.cell (u3d w _ hx193_0)).trans hx193_0
       replace hx193_1 := (HB.out.cell (u3d w _ hx193_1)).trans hx193_1
       replace hx193_2 := (HB.out.cell (u3d w _ hx193_2)).trans hx193_2
       replace hx193_3 := (HB.out.cell (u3d w _ hx193_3)).trans hx193_3
       replace hx193_4 := (HB.out.cell (u3d w _ hx193_4)).trans hx193_4
       replace p193 := eq_true p193
       replace q193 := eq_true q193
       go_wp2_with (first | ((with_reducible refine gate_value rfl ?_); refine goesFL_ (some 16) rfl rfl ha1.out.body #[.agg #[.int .i64 ((rd_T50 l0 x8_1).f0), .int .i64 ((rd_T50 l0 x8_1).f1.f0), .int .i64 ((rd_T50 l0 x8_1).f1.f1), .int .i64 ((rd_T50 l0 x8_1).f1.f2), .int .i64 ((rd_T50 l0 x8_1).f1.f3)]] rfl rfl (by (try simp only [List.map_toArray, List.map_cons, List.map_nil]); first | done | rfl | (simp only [List.length_drop, List.length_take]; rfl)) ?_; (with_reducible refine (GD.calls ha1.out ((rd_T50 l0 x8_1).f0) ((rd_T50 l0 x8_1).f1.f0) ((rd_T50 l0 x8_1).f1.f1) ((rd_T50 l0 x8_1).f1.f2) ((rd_T50 l0 x8_1).f1.f3) true _ (by repeat (first | (with_reducible first | exact HB.out | apply below_alloc | apply pw_below_drewN | apply below_drew1) | exact HB.out | exact Below.refl _ _))  A6.out).mono ?_); rintro e w8 ⟨rfl, hb⟩; refine ⟨_, rfl, ?_⟩; have n0_ := Aside0.mk (below_step (by repeat (first | (with_reducible first | exact HB.out | apply below_alloc | apply pw_below_drewN | apply below_drew1) | exact HB.out)) hb); clear HB; have HB := n0_; clear n0_; (try clear hb); (try clear hb2); (try clear hk); (try clear hi)))
       go_ret
       exact ⟨by first | rfl | (simp [errW_none, errW_some] <;> rfl) | (simp [*, errW_none, errW_some] <;> rfl), by repeat (first | (with_reducible first | exact HB.out | apply below_alloc | apply pw_below_drewN | apply below_drew1) | exact HB.out)⟩
      ·replace c7 := Bool.eq_false_iff.mpr c7
       subst c7
       have H1 := H; rw [if_neg (show ¬ (false = true) by decide)] at H1
       clear H
       have H := H1
       clear H1
       have H' := Aside0.mk H
       clear H
       have p193 : 0 ≤ (x8_1 : Int) := of_decide_eq_true (by first | (with_reducible assumption) | assumption)
       have q193 : x8_1 < (l0.length : Int) := of_decide_eq_true (by first | (with_reducible assumption) | assumption)
       obtain ⟨ad193, e193, hx193_0, hx193_1, hx193_2, hx193_3, hx193_4⟩ := at_T50 HR0.out x8_1 p193 q193
       cases e193
       replace hx193_0 := (HB.out.cell (u3d w _ hx193_0)).trans hx193_0
       replace hx193_1 := (HB.out.cell (u3d w _ hx193_1)).trans hx193_1
       replace hx193_2 := (HB.out.cell (u3d w _ hx193_2)).trans hx193_2
       replace hx193_3 := (HB.out.cell (u3d w _ hx193_3)).trans hx193_3
       replace hx193_4 := (HB.out.cell (u3d w _ hx193_4)).trans hx193_4
       replace p193 := eq_true p193
       replace q193 := eq_true q193
       go_wp2_with (first | ((with_reducible refine gate_value rfl ?_); refine goesFL_ (some 16) rfl rfl ha1.out.body #[.agg #[.int .i64 ((rd_T50 l0 x8_1).f0), .int .i64 ((rd_T50 l0 x8_1).f1.f0), .int .i64 ((rd_T50 l0 x8_1).f1.f1), .int .i64 ((rd_T50 l0 x8_1).f1.f2), .int .i64 ((rd_T50 l0 x8_1).f1.f3)]] rfl rfl (by (try simp only [List.map_toArray, List.map_cons, List.map_nil]); first | done | rfl | (simp only [List.length_drop, List.length_take]; rfl)) ?_; (with_reducible refine (GD.calls ha1.out ((rd_T50 l0 x8_1).f0) ((rd_T50 l0 x8_1).f1.f0) ((rd_T50 l0 x8_1).f1.f1) ((rd_T50 l0 x8_1).f1.f2) ((rd_T50 l0 x8_1).f1.f3) false _ (by repeat (first | (with_reducible first | exact HB.out | apply below_alloc | apply pw_below_drewN | apply below_drew1) | exact HB.out | exact Below.refl _ _))  A6.out).mono ?_); rintro e w9 ⟨rfl, hb⟩; refine ⟨_, rfl, ?_⟩; have n0_ := Aside0.mk (below_step (by repeat (first | (with_reducible first | exact HB.out | apply below_alloc | apply pw_below_drewN | apply below_drew1) | exact HB.out)) hb); clear HB; have HB := n0_; clear n0_; (try clear hb); (try clear hb2); (try clear hk); (try clear hi)))
       go_roundg k1
       case measure => have := HK1.out; omega
       case rel => exact ⟨(wrap64 (x8_1 + 1)), (by first | rfl | (simp; done) | (simp [*]; done)), H', ⟨by have := HK1.out; omega⟩, ⟨by repeat (first | (with_reducible first | exact HB.out | apply below_alloc | apply pw_below_drewN | apply below_drew1) | exact HB.out)⟩⟩
     ·rw [if_neg c5] at H
      exact absurd H (by simp)
    ·rw [if_neg c4] at H
     exact absurd H (by simp)
   ·rw [if_neg c3] at H
    have c3b0 : decide (x8_1 < (l0.length : Int)) = false := decide_eq_false c3
    clear c3
    obtain rfl := Option.some.inj H
    go_wp2
    go_ret
    exact ⟨by first | rfl | (simp [errW_none, errW_some] <;> rfl) | (simp [*, errW_none, errW_some] <;> rfl), by repeat (first | (with_reducible first | exact HB.out | apply below_alloc | apply pw_below_drewN | apply below_drew1) | exact HB.out)⟩

/-! ### impl_Deep_57: function 57 -/
def impl_Deep_57.f (k : Nat) (l0 : List (S50)) (a1 : GtD) : Option (Bool) := (impl_Deep_71.f k l0 a1).bind fun t195 => (some (decide (t195 ≥ 0)))
theorem impl_Deep_57.mono : ∀ a0 a1 k, LeO (impl_Deep_57.f k a0 a1) (impl_Deep_57.f (k + 1) a0 a1) := by
 intro a0 a1 k
 unfold impl_Deep_57.f
 repeat' first
   | (with_reducible exact impl_Deep_71.mono _ _ _)
   | (with_reducible exact LeO.refl _)
   | (with_reducible exact LeO.none _)
   | (with_reducible refine LeO.ite ?_ ?_)
   | (with_reducible refine LeO.bind ?_ (fun _ => ?_))
   | exact impl_Deep_71.mono _ _ _
   | exact LeO.none _
   | refine LeO.ite ?_ ?_
   | refine LeO.bind ?_ (fun _ => ?_)
set_option maxHeartbeats 8000000 in
set_option maxRecDepth 100000 in
theorem impl_Deep_57.calls (k : Nat) (A0 : Option Addr) (c0 : Nat) (l0 : List (S50)) (a1 : GtD) (r : Bool) (w : World) (hr0 : Kd.C k50 w A0 l0.length l0) (hc0 : l0.length ≤ c0) {cf1 : FuncId} {cc1 : Array Value} (ha1 : Aside0 (FnOkD w cf1 cc1 a1)) (h : impl_Deep_57.f k l0 a1 = some r) :
  Calls Try.prog 57 #[.slice A0 l0.length c0, (.func (.func cf1) #[] cc1)] w fun e w' => e = .returned (.bool r) ∧ Below w.heap.size w w' := by
 have HR0 := Aside0.mk hr0
 have HC0 := Aside0.mk hc0
 clear hr0 hc0
 have HB := Aside0.mk (Below.refl w.heap.size w)
 have H : ((impl_Deep_71.f k l0 a1).bind fun t195 => (some (decide (t195 ≥ 0)))) = some r := h
 clear h
 replace H := Option.bind_eq_some_iff.mp H
 obtain ⟨t195, A30, H⟩ := H
 have A3 := Aside0.mk A30
 clear A30
 obtain rfl := Option.some.inj H
 go_enter Try.func57, Try.ntmps57
 go_wp2_with (first | ((with_reducible refine gate_callee (f := 71) rfl ?_); refine goesL_ (some 7) rfl rfl Try.func71 (by kernel_rfl) rfl #[.slice A0 l0.length c0, (.func (.func cf1) #[] cc1)] rfl (by (try simp only [List.map_toArray, List.map_cons, List.map_nil]); first | done | rfl | (simp only [List.length_drop, List.length_take]; rfl)) ?_; (with_reducible refine (impl_Deep_71.calls k _ _ l0 a1 t195 _ ?side1 ?side2 ⟨ha1.out.mono (by repeat (first | (with_reducible first | exact HB.out | apply below_alloc | apply pw_below_drewN | apply below_drew1) | exact HB.out | exact Below.refl _ _))⟩ A3.out).mono ?_); (case side1 => repeat (first | exact HR0.out | (with_reducible refine Kd.C_alloc ?_ _) | (with_reducible refine Kd.C_drewN ?_ _) | (with_reducible refine Kd.C_drew ?_))); (case side2 => exact HC0.out); rintro e w4 ⟨rfl, hb⟩; refine ⟨_, rfl, ?_⟩; have n0_ := Aside0.mk (below_step (by repeat (first | (with_reducible first | exact HB.out | apply below_alloc | apply pw_below_drewN | apply below_drew1) | exact HB.out)) hb); clear HB; have HB := n0_; clear n0_; (try clear hb); (try clear hb2); (try clear hk); (try clear hi)))
 go_ret
 exact ⟨by first | rfl | (simp [errW_none, errW_some] <;> rfl) | (simp [*, errW_none, errW_some] <;> rfl), by repeat (first | (with_reducible first | exact HB.out | apply below_alloc | apply pw_below_drewN | apply below_drew1) | exact HB.out)⟩

/-! ### impl_deepOk: function 44 -/
def impl_deepOk.f (k : Nat) (l0 : List (S50)) : Option (Bool) := if (l0.length : Int) ≤ 200 then ((impl_Deep_57.f k l0 fv58).bind fun t196 => (some (!t196))) else (some false)
theorem impl_deepOk.mono : ∀ a0 k, LeO (impl_deepOk.f k a0) (impl_deepOk.f (k + 1) a0) := by
 intro a0 k
 unfold impl_deepOk.f
 repeat' first
   | (with_reducible exact impl_Deep_57.mono _ _ _)
   | (with_reducible exact LeO.refl _)
   | (with_reducible exact LeO.none _)
   | (with_reducible refine LeO.ite ?_ ?_)
   | (with_reducible refine LeO.bind ?_ (fun _ => ?_))
   | exact impl_Deep_57.mono _ _ _
   | exact LeO.none _
   | refine LeO.ite ?_ ?_
   | refine LeO.bind ?_ (fun _ => ?_)
set_option maxHeartbeats 8000000 in
set_option maxRecDepth 100000 in
theorem impl_deepOk.calls (k : Nat) (A0 : Option Addr) (c0 : Nat) (l0 : List (S50)) (r : Bool) (w : World) (hr0 : Kd.C k50 w A0 l0.length l0) (hc0 : l0.length ≤ c0) (h : impl_deepOk.f k l0 = some r) :
  Calls Try.prog 44 #[.slice A0 l0.length c0] w fun e w' => e = .returned (.bool r) ∧ Below w.heap.size w w' := by
 have HR0 := Aside0.mk hr0
 have HC0 := Aside0.mk hc0
 clear hr0 hc0
 have HB := Aside0.mk (Below.refl w.heap.size w)
 have H : (if (l0.length : Int) ≤ 200 then ((impl_Deep_57.f k l0 fv58).bind fun t196 => (some (!t196))) else (some false)) = some r := h
 clear h
 by_cases c2 : (l0.length : Int) ≤ 200
 ·rw [if_pos c2] at H
  have c2b0 : decide ((l0.length : Int) ≤ 200) = true := decide_eq_true c2
  have c2b1 : decide (l0.length ≤ 200) = true := decide_eq_true (by omega)
  clear c2
  replace H := Option.bind_eq_some_iff.mp H
  obtain ⟨t196, A30, H⟩ := H
  have A3 := Aside0.mk A30
  clear A30
  obtain rfl := Option.some.inj H
  go_enter Try.func44, Try.ntmps44
  go_wp2_with (first | (go_at_call 57; (with_reducible refine (impl_Deep_57.calls k _ _ l0 fv58 t196 _ ?side1 ?side2 ⟨fv58_ok _⟩ A3.out).mono ?_); (case side1 => repeat (first | exact HR0.out | (with_reducible refine Kd.C_alloc ?_ _) | (with_reducible refine Kd.C_drewN ?_ _) | (with_reducible refine Kd.C_drew ?_))); (case side2 => exact HC0.out); rintro e w4 ⟨rfl, hb⟩; have n0_ := Aside0.mk (below_step (by repeat (first | (with_reducible first | exact HB.out | apply below_alloc | apply pw_below_drewN | apply below_drew1) | exact HB.out)) hb); clear HB; have HB := n0_; clear n0_; (try clear hb); (try clear hb2); (try clear hk); (try clear hi)))
  go_ret
  exact ⟨by first | rfl | (simp [errW_none, errW_some] <;> rfl) | (simp [*, errW_none, errW_some] <;> rfl), by repeat (first | (with_reducible first | exact HB.out | apply below_alloc | apply pw_below_drewN | apply below_drew1) | exact HB.out)⟩
 ·rw [if_neg c2] at H
  have c2b0 : decide ((l0.length : Int) ≤ 200) = false := decide_eq_false c2
  have c2b1 : decide (l0.length ≤ 200) = false := decide_eq_false (by omega)
  clear c2
  obtain rfl := Option.some.inj H
  go_enter Try.func44, Try.ntmps44
  go_wp2
  go_ret
  exact ⟨by first | rfl | (simp [errW_none, errW_some] <;> rfl) | (simp [*, errW_none, errW_some] <;> rfl), by repeat (first | (with_reducible first | exact HB.out | apply below_alloc | apply pw_below_drewN | apply below_drew1) | exact HB.out)⟩

/-! ### impl_Deep_61: function 61 -/
-- rounds 0 making 1
def impl_Deep_61.f (l0 : List (S50)) : Option (List (S50)) := if l0.length ≤ 1000000 then some l0 else none
set_option maxHeartbeats 8000000 in
set_option maxRecDepth 100000 in
/-- slices.Clone. -/
theorem impl_Deep_61.calls (A0 : Option Addr) (c0 : Nat) (l0 : List (S50)) (r : List (S50)) (w : World) (hr0 : Kd.C k50 w A0 l0.length l0) (hc0 : l0.length ≤ c0) (h : impl_Deep_61.f l0 = some r) :
  Calls Try.prog 61 #[.slice A0 l0.length c0] w fun e w' => ∃ v0_ : Value, e = .returned (v0_) ∧ Kd.R k50 50 w' w.heap.size (fun _ => True) v0_ r ∧ Below w.heap.size w w' := by
 unfold impl_Deep_61.f at h
 by_cases hl : l0.length ≤ 1000000
 case neg =>
  rw [if_neg hl] at h
  exact absurd h (by simp)
 rw [if_pos hl] at h
 obtain rfl := Option.some.inj h
 have hu39 := Try.underlying39
 have HB := Aside0.mk (Below.refl w.heap.size w)
 have HR0 := Aside0.mk hr0
 have HX := Aside0.mk hl
 clear hr0 hl h hc0
 cases A0 with
 | none =>
  have h0 : l0 = [] := by
   by_cases c : 0 < l0.length
   ·obtain ⟨a, ha, _⟩ := HR0.out.2.2 c
    exact absurd ha (by simp)
   ·exact List.eq_nil_of_length_eq_zero (by omega)
  subst h0
  have q39 : ∀ (w : World), (binOp .eql 39 (.slice none 0 c0) (.slice none 0 0)).run Try.prog w = .ok (.bool true) w := fun w => Lib.run_eql_slice_nil w 39 50 none 0 c0 0 0 Try.underlying39
  show Calls Try.prog 61 #[.slice none 0 c0] w _
  go_enter Try.func61, Try.ntmps61
  go_wp2
  go_ret
  exact ⟨_, rfl, Kd.R_nil _ _ _ _ _, HB.out⟩
 | some ad =>
  have q39 : ∀ (w : World), (binOp .eql 39 (.slice (some ad) l0.length c0) (.slice none 0 0)).run Try.prog w = .ok (.bool false) w := fun w => Lib.run_eql_slice_nil w 39 50 (some ad) l0.length c0 0 0 Try.underlying39
  go_enter Try.func61, Try.ntmps61
  go_wp2_with (first | ((with_reducible refine gate_dst (N := 5) rfl ?_); refine Kd.R_lit k50 w.heap.size 50 ?hg (N := 5) ?hd (xs := ([] : List (S50))) (inner := []) (ok := fun _ => True) (okp := fun _ => True) ?hr ?hp (fun _ hk => hk) trivial HB.out HB.out.size (by simp) ?_; (case hd => rfl); (case hg => rfl); (case hr => first | (go_simp; done) | (go_simp; rfl)); (case hp => exact (Reps.none _ _)); intro v5 w4 ho5 hb hg_ hnew_; replace HB := Aside0.mk hb; have HO := Aside0.mk ho5; clear hg_ hnew_ ho5 hb) | ((with_reducible refine gate_dst (N := 7) rfl ?_); at_builtin; (refine Kd.R_append_rows k50 (w0 := w) w.heap.size rfl (.tmp 5) (.tmp 6) 39 50 (.agg #[(.int .i64 0), (.int .i64 0), (.int .i64 0), (.int .i64 0), (.int .i64 0)]) 40 rfl Try.underlying39 info50 rfl (by decide) (by omega) v5 [] l0 _ _ _ (fun _ => True) (fun _ => False) rfl rfl HO.out (Kd.C_below HR0.out HB.out) (fun _ _ h => h) (fun _ h => h.elim) (fun _ _ => trivial) HB.out HB.out.size (by have := HX.out; simp only [List.length_nil]; omega) ?_; intro v7 w7 ho hb hg_ hat_; have HO7 := Aside0.mk ho; have HB7 := Aside0.mk hb; clear ho hb hg_ hat_)))
  go_ret
  exact ⟨_, rfl, HO7.out, HB7.out⟩


end Go.Proofs.Ytbafihapjbkagaa.PFnExactMerge
