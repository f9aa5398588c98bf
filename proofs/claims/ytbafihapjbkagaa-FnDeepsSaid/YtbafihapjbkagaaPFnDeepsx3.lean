/- The functions that the law reaches, as Lean functions, each with the proof that the Go code comes to just these answers. Written by a program of this session (wip/tools/handprint.py over the kit's print); by hand where the print takes no such text. -/
-- squeezed
import Derived.Test.YtbafihapjbkagaaPFnDeepsx0
namespace Go.Proofs.Ytbafihapjbkagaa.PFnDeeps
open Go.RowKit Go.Proofs.YtbafihapjbkagaaW.PrintWords Go.Proofs.YtbafihapjbkagaaW.PrintLast Go.Proofs.YtbafihapjbkagaaW.PrintMore
attribute [local go_sem] max2_int min2_int max_two min_two max_three min_three max_four min_four   -- for this text's walks alone
set_option linter.unusedVariables false
set_option linter.unusedSimpArgs false

/-! ### spec_l11Sort: function 41 -/
mutual
def spec_l11Sort.l0 : Nat → List (S50) → List (S50) → Int → Option ((List (S50)))
 | 0, _, _, _ => none
 | k + 1, x0, x3, x4 => if x4 < (x0.length : Int) then (if 0 ≤ x4 then (if x3.length < 3518437208883 then (spec_l11Sort.l1 k x0 (x3 ++ [(⟨(rd_T50 x0 x4).f0, (⟨(rd_T50 x0 x4).f1.f0, (rd_T50 x0 x4).f1.f1, (rd_T50 x0 x4).f1.f2, (rd_T50 x0 x4).f1.f3⟩ : S35)⟩ : S50)]) x4 (x3.length : Int)) else (none)) else (none)) else (some x3)
def spec_l11Sort.l1 : Nat → List (S50) → List (S50) → Int → Int → Option ((List (S50)))
 | 0, _, _, _, _ => none
 | k + 1, x0, x3, x4, x5 => if x5 > 0 then (if 0 ≤ (wrap64 (x5 - 1)) then (if (wrap64 (x5 - 1)) < (x3.length : Int) then (if 0 ≤ x4 then (if x4 < (x0.length : Int) then (if ((rd_T50 x3 (wrap64 (x5 - 1))).f0) > ((rd_T50 x0 x4).f0) then (if 0 ≤ x5 then (if x5 < (x3.length : Int) then (spec_l11Sort.l1 k x0 (x3.set (x5 : Int).toNat (⟨(rd_T50 x3 (wrap64 (x5 - 1))).f0, (⟨(rd_T50 x3 (wrap64 (x5 - 1))).f1.f0, (rd_T50 x3 (wrap64 (x5 - 1))).f1.f1, (rd_T50 x3 (wrap64 (x5 - 1))).f1.f2, (rd_T50 x3 (wrap64 (x5 - 1))).f1.f3⟩ : S35)⟩ : S50)) x4 (wrap64 (x5 - 1))) else (none)) else (none)) else (if 0 ≤ x5 then (if x5 < (x3.length : Int) then (spec_l11Sort.l0 k x0 (x3.set (x5 : Int).toNat (⟨(rd_T50 x0 x4).f0, (⟨(rd_T50 x0 x4).f1.f0, (rd_T50 x0 x4).f1.f1, (rd_T50 x0 x4).f1.f2, (rd_T50 x0 x4).f1.f3⟩ : S35)⟩ : S50)) (wrap64 (x4 + 1))) else (none)) else (none))) else (none)) else (none)) else (none)) else (none)) else (if 0 ≤ x4 then (if x4 < (x0.length : Int) then (if 0 ≤ x5 then (if x5 < (x3.length : Int) then (spec_l11Sort.l0 k x0 (x3.set (x5 : Int).toNat (⟨(rd_T50 x0 x4).f0, (⟨(rd_T50 x0 x4).f1.f0, (rd_T50 x0 x4).f1.f1, (rd_T50 x0 x4).f1.f2, (rd_T50 x0 x4).f1.f3⟩ : S35)⟩ : S50)) (wrap64 (x4 + 1))) else (none)) else (none)) else (none)) else (none))
end
def spec_l11Sort.f (k : Nat) (l0 : List (S50)) : Option ((List (S50))) := spec_l11Sort.l0 k l0 (([] : List (S50))) 0
theorem spec_l11Sort.mono_l : ∀ k, (∀ y0 y1 y2, LeO (spec_l11Sort.l0 k y0 y1 y2) (spec_l11Sort.l0 (k + 1) y0 y1 y2)) ∧ (∀ y0 y1 y2 y3, LeO (spec_l11Sort.l1 k y0 y1 y2 y3) (spec_l11Sort.l1 (k + 1) y0 y1 y2 y3))
 | 0 => ⟨fun _ _ _ r h => by simp [spec_l11Sort.l0] at h, fun _ _ _ _ r h => by simp [spec_l11Sort.l1] at h⟩
 | k + 1 => by
  obtain ⟨ih0, ih1⟩ := spec_l11Sort.mono_l k
  refine ⟨?_, ?_⟩
  ·intro y0 y1 y2
   unfold spec_l11Sort.l0
   repeat' first
   | (with_reducible exact ih0 _ _ _)
   | (with_reducible exact ih1 _ _ _ _)
   | (with_reducible exact LeO.refl _)
   | (with_reducible exact LeO.none _)
   | (with_reducible refine LeO.ite ?_ ?_)
   | (with_reducible refine LeO.bind ?_ (fun _ => ?_))
   | exact ih0 _ _ _
   | exact ih1 _ _ _ _
   | exact LeO.none _
   | refine LeO.ite ?_ ?_
   | refine LeO.bind ?_ (fun _ => ?_)
  ·intro y0 y1 y2 y3
   unfold spec_l11Sort.l1
   repeat' first
   | (with_reducible exact ih0 _ _ _)
   | (with_reducible exact ih1 _ _ _ _)
   | (with_reducible exact LeO.refl _)
   | (with_reducible exact LeO.none _)
   | (with_reducible refine LeO.ite ?_ ?_)
   | (with_reducible refine LeO.bind ?_ (fun _ => ?_))
   | exact ih0 _ _ _
   | exact ih1 _ _ _ _
   | exact LeO.none _
   | refine LeO.ite ?_ ?_
   | refine LeO.bind ?_ (fun _ => ?_)
theorem spec_l11Sort.mono : ∀ a0 k, LeO (spec_l11Sort.f k a0) (spec_l11Sort.f (k + 1) a0) := by
 intro a0 k
 obtain ⟨ih0, ih1⟩ := spec_l11Sort.mono_l k
 unfold spec_l11Sort.f
 repeat' first
   | (with_reducible exact ih0 _ _ _)
   | (with_reducible exact ih1 _ _ _ _)
   | (with_reducible exact LeO.refl _)
   | (with_reducible exact LeO.none _)
   | (with_reducible refine LeO.ite ?_ ?_)
   | (with_reducible refine LeO.bind ?_ (fun _ => ?_))
   | exact ih0 _ _ _
   | exact ih1 _ _ _ _
   | exact LeO.none _
   | refine LeO.ite ?_ ?_
   | refine LeO.bind ?_ (fun _ => ?_)
set_option maxHeartbeats 8000000 in
set_option maxRecDepth 100000 in
theorem spec_l11Sort.calls (k : Nat) (A0 : Option Addr) (c0 : Nat) (l0 : List (S50)) (r : List (S50)) (w : World) (hr0 : Kd.C k50 w A0 l0.length l0) (hc0 : l0.length ≤ c0) (h : spec_l11Sort.f k l0 = some r) :
  Calls Try.prog 41 #[.slice A0 l0.length c0] w fun e w' => ∃ v0_ : Value, e = .returned (v0_) ∧ Kd.R k50 50 w' w.heap.size (fun _ => True) v0_ r ∧ Below w.heap.size w w' := by
 have hu50 := Try.underlying50
 have HR0 := Aside0.mk hr0
 have HC0 := Aside0.mk hc0
 clear hr0 hc0
 have HB := Aside0.mk (Below.refl w.heap.size w)
 have H : (spec_l11Sort.l0 k l0 (([] : List (S50))) 0) = some r := h
 clear h
 obtain ⟨y129, hy129⟩ : ∃ y_ : List (S50), y_ = (([] : List (S50))) := ⟨_, rfl⟩
 replace H : (spec_l11Sort.l0 k l0 y129 0) = some r := by first | (rw [hy129]; with_reducible exact H) | (have H2_ := (Option.bind_some _ _).symm.trans H; rw [hy129]; with_reducible exact H2_) | (have H2_ := (Option.bind_some _ _).symm.trans H; with_reducible exact H2_) | with_reducible exact H | (rw [hy129]; exact H) | exact H
 have Ny129 := Aside0.mk hy129
 clear hy129
 have H' := Aside0.mk H
 clear H
 go_enter Try.func41, Try.ntmps41
 go_wp2_with (first | ((with_reducible refine gate_dst (N := 6) rfl ?_); refine Kd.R_lit k50 _ 50 ?hg (N := 6) ?hd (xs := ([] : List (S50))) (inner := []) (ok := fun _ => True) (okp := fun _ => True) ?hr ?hp (fun _ hk => hk) trivial (Below.refl _ _) (Nat.le_refl _) (by simp) ?_; (case hd => rfl); (case hg => rfl); (case hr => first | (go_simp; done) | (go_simp; rfl)); (case hp => exact (Reps.none _ _)); intro v130 w2 ho3 hb hg_ hnew_; clear hg_ hnew_; (first | rw [← Ny129.out] at ho3 | (simp only [Int.reduceToNat] at ho3; rw [← Ny129.out] at ho3)); have n0_ := Aside0.mk (Kd.R_lower ho3 (below_size (mB HB.out))); have n1_ := Aside0.mk (below_step (mB HB.out) hb); clear HB; have HO131 := n0_; have HB := n1_; clear n0_ n1_; clear hb ho3))
 repeat (go_quiet (fail); try go_wp2_with (fail))
 go_loopg [3, 4] k (fun kq v3 v4 w' => ∃ (x3_1 : List (S50)) (x4_1 : Int), v4 = .int .i64 x4_1 ∧ Aside0 (spec_l11Sort.l0 kq l0 x3_1 x4_1 = some r) ∧ Aside0 (kq ≤ k) ∧ Aside0 (Kd.R k50 50 w' w.heap.size (fun _ => True) v3 x3_1) ∧ Aside0 (Below w.heap.size w w'))
 case atStart => exact ⟨(y129), (0), (by first | rfl | (simp; done) | (simp [*]; done)), H', ⟨Nat.le_refl _⟩, ⟨mR HO131.out⟩, ⟨mB HB.out⟩⟩
 case round =>
  clear H'
  obtain ⟨x3_1, x4_1, rfl, HA, HK1, HO_3, HB⟩ := hrel
  cases gk with
  | zero => exact absurd HA.out (by simp [spec_l11Sort.l0])
  | succ k1 =>
   have H := HA.out
   clear HA
   simp only [spec_l11Sort.l0] at H
   by_cases c4 : x4_1 < (l0.length : Int)
   ·rw [if_pos c4] at H
    have c4b0 : decide (x4_1 < (l0.length : Int)) = true := decide_eq_true c4
    clear c4
    by_cases c5 : 0 ≤ x4_1
    ·rw [if_pos c5] at H
     have c5b0 : decide (0 ≤ x4_1) = true := decide_eq_true c5
     clear c5
     by_cases c6 : x3_1.length < 3518437208883
     ·rw [if_pos c6] at H
      have LMc6 := Aside0.mk c6
      clear c6
      obtain ⟨y133, hy133⟩ : ∃ y_ : List (S50), y_ = (x3_1 ++ [(⟨(rd_T50 l0 x4_1).f0, (⟨(rd_T50 l0 x4_1).f1.f0, (rd_T50 l0 x4_1).f1.f1, (rd_T50 l0 x4_1).f1.f2, (rd_T50 l0 x4_1).f1.f3⟩ : S35)⟩ : S50)]) := ⟨_, rfl⟩
      replace H : (spec_l11Sort.l1 k1 l0 y133 x4_1 (x3_1.length : Int)) = some r := by first | (rw [hy133]; with_reducible exact H) | (have H2_ := (Option.bind_some _ _).symm.trans H; rw [hy133]; with_reducible exact H2_) | (have H2_ := (Option.bind_some _ _).symm.trans H; with_reducible exact H2_) | with_reducible exact H | (rw [hy133]; exact H) | exact H
      have Ny133 := Aside0.mk hy133
      clear hy133
      have H' := Aside0.mk H
      clear H
      obtain ⟨Ao7, co7, eo7⟩ := Kd.R_slice HO_3.out
      subst eo7
      have p132 : 0 ≤ (x4_1 : Int) := of_decide_eq_true (by first | (with_reducible assumption) | assumption)
      have q132 : x4_1 < (l0.length : Int) := of_decide_eq_true (by first | (with_reducible assumption) | assumption)
      obtain ⟨ad132, e132, hx132_0, hx132_1, hx132_2, hx132_3, hx132_4⟩ := at_T50 HR0.out x4_1 p132 q132
      cases e132
      replace hx132_0 := (HB.out.cell (World.block_lt_of_cell? w _ hx132_0)).trans hx132_0
      replace hx132_1 := (HB.out.cell (World.block_lt_of_cell? w _ hx132_1)).trans hx132_1
      replace hx132_2 := (HB.out.cell (World.block_lt_of_cell? w _ hx132_2)).trans hx132_2
      replace hx132_3 := (HB.out.cell (World.block_lt_of_cell? w _ hx132_3)).trans hx132_3
      replace hx132_4 := (HB.out.cell (World.block_lt_of_cell? w _ hx132_4)).trans hx132_4
      replace p132 := eq_true p132
      replace q132 := eq_true q132
      go_wp2_with (first | ((with_reducible refine gate_builtin (b := .append) (xs := #[.tmp 15, .tmp 20]) rfl ?_); at_builtin; refine Kd.R_append k50 (w0 := w) w.heap.size rfl (.tmp 15) (.tmp 20) 39 50 (.agg #[(.int .i64 0), (.int .i64 0), (.int .i64 0), (.int .i64 0), (.int .i64 0)]) 40 rfl Try.underlying39 info50 rfl (by decide) (by omega) (.slice Ao7 x3_1.length co7) x3_1 (⟨(rd_T50 l0 x4_1).f0, (⟨(rd_T50 l0 x4_1).f1.f0, (rd_T50 l0 x4_1).f1.f1, (rd_T50 l0 x4_1).f1.f2, (rd_T50 l0 x4_1).f1.f3⟩ : S35)⟩ : S50) [.int .i64 ((rd_T50 l0 x4_1).f0), .int .i64 ((rd_T50 l0 x4_1).f1.f0), .int .i64 ((rd_T50 l0 x4_1).f1.f1), .int .i64 ((rd_T50 l0 x4_1).f1.f2), .int .i64 ((rd_T50 l0 x4_1).f1.f3)] (fun _ => True) (fun _ => False) rfl rfl ?aP (fun _ hk => hk.elim) ?aF ?aO ?aB ?aS ?aL ?_; (case aP => exact k50_mkM _ _ _ (⟨(rd_T50 l0 x4_1).f0, (⟨(rd_T50 l0 x4_1).f1.f0, (rd_T50 l0 x4_1).f1.f1, (rd_T50 l0 x4_1).f1.f2, (rd_T50 l0 x4_1).f1.f3⟩ : S35)⟩ : S50)); (case aB => exact (mB HB.out)); (case aF => exact (fun _ _ => trivial)); (case aO => exact (mR HO_3.out)); (case aS => exact (below_size (mB HB.out))); (case aL => have := LMc6.out; omega); intro v134 w8 ho hb hg hat; rw [← Ny133.out] at ho; have n0_ := Aside0.mk (hb); have n1_ := Aside0.mk (ho); clear HB; clear HO_3; have HB := n0_; have HO135 := n1_; clear n0_ n1_; clear ho hb hg hat))
      repeat (go_quiet (fail); try go_wp2_with (fail))
      go_loopg [5] k1 (fun kq v5 w' => ∃ (x3_2 : List (S50)) (x5_2 : Int), v5 = .int .i64 x5_2 ∧ Aside0 (spec_l11Sort.l1 kq l0 x3_2 x4_1 x5_2 = some r) ∧ Aside0 (kq ≤ k1) ∧ Aside0 (Kd.R k50 50 w' w.heap.size (fun _ => True) v134 x3_2) ∧ Aside0 (Below w.heap.size w w'))
      case atStart => exact ⟨(y133), ((x3_1.length : Int)), (by first | rfl | (simp; done) | (simp [*]; done)), H', ⟨Nat.le_refl _⟩, ⟨mR HO135.out⟩, ⟨mB HB.out⟩⟩
      case round =>
       clear H'
       try clear c4b0
       try clear c5b0
       try clear hx132_0
       try clear hx132_1
       try clear hx132_2
       try clear hx132_3
       try clear hx132_4
       try clear p132
       try clear q132
       obtain ⟨x3_2, x5_2, rfl, HA, HK2, HO_3, HB⟩ := hrel
       cases gk with
       | zero => exact absurd HA.out (by simp [spec_l11Sort.l1])
       | succ k2 =>
        have H := HA.out
        clear HA
        simp only [spec_l11Sort.l1] at H
        by_cases c9 : x5_2 > 0
        ·rw [if_pos c9] at H
         have c9b0 : decide (0 < x5_2) = true := decide_eq_true c9
         clear c9
         obtain ⟨ji10, hji10⟩ : ∃ j_ : Int, (wrap64 (x5_2 - 1)) = j_ := ⟨_, rfl⟩
         replace H : (if 0 ≤ (ji10) then (if (ji10) < (x3_2.length : Int) then (if 0 ≤ x4_1 then (if x4_1 < (l0.length : Int) then (if ((rd_T50 x3_2 (ji10)).f0) > ((rd_T50 l0 x4_1).f0) then (if 0 ≤ x5_2 then (if x5_2 < (x3_2.length : Int) then (spec_l11Sort.l1 k2 l0 (x3_2.set (x5_2 : Int).toNat (⟨(rd_T50 x3_2 (ji10)).f0, (⟨(rd_T50 x3_2 (ji10)).f1.f0, (rd_T50 x3_2 (ji10)).f1.f1, (rd_T50 x3_2 (ji10)).f1.f2, (rd_T50 x3_2 (ji10)).f1.f3⟩ : S35)⟩ : S50)) x4_1 ji10) else (none)) else (none)) else (if 0 ≤ x5_2 then (if x5_2 < (x3_2.length : Int) then (spec_l11Sort.l0 k2 l0 (x3_2.set (x5_2 : Int).toNat (⟨(rd_T50 l0 x4_1).f0, (⟨(rd_T50 l0 x4_1).f1.f0, (rd_T50 l0 x4_1).f1.f1, (rd_T50 l0 x4_1).f1.f2, (rd_T50 l0 x4_1).f1.f3⟩ : S35)⟩ : S50)) (wrap64 (x4_1 + 1))) else (none)) else (none))) else (none)) else (none)) else (none)) else (none)) = some r := by first | (rw [hji10] at H; exact H) | (simp only [hji10] at H ⊢; exact H)
         have hji10w : (IntKind.i64.wrap (x5_2 - 1)) = ji10 := (i64_w _).trans hji10
         by_cases c11 : 0 ≤ (ji10)
         ·rw [if_pos c11] at H
          have c11b0 : decide (0 ≤ (ji10)) = true := decide_eq_true c11
          clear c11
          by_cases c12 : (ji10) < (x3_2.length : Int)
          ·rw [if_pos c12] at H
           have c12b0 : decide ((ji10) < (x3_2.length : Int)) = true := decide_eq_true c12
           clear c12
           by_cases c13 : 0 ≤ x4_1
           ·rw [if_pos c13] at H
            have c13b0 : decide (0 ≤ x4_1) = true := decide_eq_true c13
            clear c13
            by_cases c14 : x4_1 < (l0.length : Int)
            ·rw [if_pos c14] at H
             have c14b0 : decide (x4_1 < (l0.length : Int)) = true := decide_eq_true c14
             clear c14
             by_cases c15 : ((rd_T50 x3_2 (ji10)).f0) > ((rd_T50 l0 x4_1).f0)
             ·rw [if_pos c15] at H
              have c15b0 : decide (((rd_T50 l0 x4_1).f0) < ((rd_T50 x3_2 (ji10)).f0)) = true := decide_eq_true c15
              clear c15
              by_cases c16 : 0 ≤ x5_2
              ·rw [if_pos c16] at H
               have c16b0 : decide (0 ≤ x5_2) = true := decide_eq_true c16
               clear c16
               by_cases c17 : x5_2 < (x3_2.length : Int)
               ·rw [if_pos c17] at H
                have c17b0 : decide (x5_2 < (x3_2.length : Int)) = true := decide_eq_true c17
                clear c17
                obtain ⟨y139, hy139⟩ : ∃ y_ : List (S50), y_ = (x3_2.set (x5_2 : Int).toNat (⟨(rd_T50 x3_2 (ji10)).f0, (⟨(rd_T50 x3_2 (ji10)).f1.f0, (rd_T50 x3_2 (ji10)).f1.f1, (rd_T50 x3_2 (ji10)).f1.f2, (rd_T50 x3_2 (ji10)).f1.f3⟩ : S35)⟩ : S50)) := ⟨_, rfl⟩
                replace H : (spec_l11Sort.l1 k2 l0 y139 x4_1 ji10) = some r := by first | (rw [hy139]; with_reducible exact H) | (have H2_ := (Option.bind_some _ _).symm.trans H; rw [hy139]; with_reducible exact H2_) | (have H2_ := (Option.bind_some _ _).symm.trans H; with_reducible exact H2_) | with_reducible exact H | (rw [hy139]; exact H) | exact H
                have Ny139 := Aside0.mk hy139
                clear hy139
                have H' := Aside0.mk H
                clear H
                obtain ⟨Ao19, co19, eo19⟩ := Kd.R_slice HO_3.out
                subst eo19
                have p136 : 0 ≤ ((ji10) : Int) := of_decide_eq_true (by first | (with_reducible assumption) | assumption)
                have q136 : (ji10) < (x3_2.length : Int) := of_decide_eq_true (by first | (with_reducible assumption) | assumption)
                obtain ⟨ad136, e136, hx136_0, hx136_1, hx136_2, hx136_3, hx136_4⟩ := at_T50 (Kd.R_reads' HO_3.out).2.2 (ji10) p136 q136
                cases e136
                replace p136 := eq_true p136
                replace q136 := eq_true q136
                have p137 : 0 ≤ (x4_1 : Int) := of_decide_eq_true (by first | (with_reducible assumption) | assumption)
                have q137 : x4_1 < (l0.length : Int) := of_decide_eq_true (by first | (with_reducible assumption) | assumption)
                obtain ⟨ad137, e137, hx137_0, hx137_1, hx137_2, hx137_3, hx137_4⟩ := at_T50 HR0.out x4_1 p137 q137
                obtain rfl : ad132 = ad137 := (by injection e137)
                replace hx137_0 := (HB.out.cell (World.block_lt_of_cell? w _ hx137_0)).trans hx137_0
                replace hx137_1 := (HB.out.cell (World.block_lt_of_cell? w _ hx137_1)).trans hx137_1
                replace hx137_2 := (HB.out.cell (World.block_lt_of_cell? w _ hx137_2)).trans hx137_2
                replace hx137_3 := (HB.out.cell (World.block_lt_of_cell? w _ hx137_3)).trans hx137_3
                replace hx137_4 := (HB.out.cell (World.block_lt_of_cell? w _ hx137_4)).trans hx137_4
                replace p137 := eq_true p137
                replace q137 := eq_true q137
                have p138 : 0 ≤ ((ji10) : Int) := of_decide_eq_true (by first | (with_reducible assumption) | assumption)
                have q138 : (ji10) < (x3_2.length : Int) := of_decide_eq_true (by first | (with_reducible assumption) | assumption)
                obtain ⟨ad138, e138, hx138_0, hx138_1, hx138_2, hx138_3, hx138_4⟩ := at_T50 (Kd.R_reads' HO_3.out).2.2 (ji10) p138 q138
                obtain rfl : ad136 = ad138 := (by injection e138)
                replace p138 := eq_true p138
                replace q138 := eq_true q138
                have p18 : 0 ≤ (x5_2 : Int) := of_decide_eq_true (by first | (with_reducible assumption) | assumption)
                have q18 : (x5_2 : Int) < ((x3_2.length : Int) : Int) := of_decide_eq_true (by first | (with_reducible assumption) | assumption)
                obtain ⟨go18, co18, eo18, gb18, gl18, cl18, HG18⟩ := Kd.R_form HO_3.out (by omega)
                (first | cases eo18 | (injection eo18 with ea_ en_ ec_; (first | subst ea_ | (injection ea_ with ea_; subst ea_)); subst ec_; clear en_))
                have GB18 := Aside0.mk gb18
                have GG18 := Aside0.mk HG18
                clear gb18 gl18 HG18
                (first | simp only [add_plain] at hx136_0 | skip)
                (first | simp only [add_plain] at hx136_1 | skip)
                (first | simp only [add_plain] at hx136_2 | skip)
                (first | simp only [add_plain] at hx136_3 | skip)
                (first | simp only [add_plain] at hx136_4 | skip)
                (first | simp only [add_plain] at hx138_0 | skip)
                (first | simp only [add_plain] at hx138_1 | skip)
                (first | simp only [add_plain] at hx138_2 | skip)
                (first | simp only [add_plain] at hx138_3 | skip)
                (first | simp only [add_plain] at hx138_4 | skip)
                obtain ⟨ce18, hcl18, hM18, hcc18, hfr18⟩ := Kd.R_elem HO_3.out z50 (x5_2 : Int) p18 q18
                obtain rfl := k50_openM hM18
                have hx18_0 : wr.cell? ⟨go18, (x5_2 : Int).toNat * 5, none⟩ = some (.int .i64 ((rd_T50 x3_2 x5_2).f0)) := hcc18 0 _ rfl
                have hx18_1 : wr.cell? ⟨go18, (x5_2 : Int).toNat * 5 + 1, none⟩ = some (.int .i64 ((rd_T50 x3_2 x5_2).f1.f0)) := hcc18 1 _ rfl
                have hx18_2 : wr.cell? ⟨go18, (x5_2 : Int).toNat * 5 + 2, none⟩ = some (.int .i64 ((rd_T50 x3_2 x5_2).f1.f1)) := hcc18 2 _ rfl
                have hx18_3 : wr.cell? ⟨go18, (x5_2 : Int).toNat * 5 + 3, none⟩ = some (.int .i64 ((rd_T50 x3_2 x5_2).f1.f2)) := hcc18 3 _ rfl
                have hx18_4 : wr.cell? ⟨go18, (x5_2 : Int).toNat * 5 + 4, none⟩ = some (.int .i64 ((rd_T50 x3_2 x5_2).f1.f3)) := hcc18 4 _ rfl
                have hf18_0 : wr.frozen? ⟨go18, (x5_2 : Int).toNat * 5, none⟩ = false := hfr18 0
                have hf18_1 : wr.frozen? ⟨go18, (x5_2 : Int).toNat * 5 + 1, none⟩ = false := hfr18 1
                have hf18_2 : wr.frozen? ⟨go18, (x5_2 : Int).toNat * 5 + 2, none⟩ = false := hfr18 2
                have hf18_3 : wr.frozen? ⟨go18, (x5_2 : Int).toNat * 5 + 3, none⟩ = false := hfr18 3
                have hf18_4 : wr.frozen? ⟨go18, (x5_2 : Int).toNat * 5 + 4, none⟩ = false := hfr18 4
                clear hcl18 hcc18 hfr18 hM18
                replace p18 := eq_true p18
                replace q18 := eq_true q18
                have HX20 := Aside0.mk (show Kd.R k50 50 wr w.heap.size (fun _ => True) (.slice (some ⟨go18, 0, none⟩) x3_2.length co19) x3_2 from (mR HO_3.out))
                obtain ⟨ce20, hcl20, hM20, hcc20, hfr20⟩ := Kd.R_elem HX20.out z50 (x5_2 : Int) (of_decide_eq_true (by first | (with_reducible assumption) | assumption)) (by have h_ : (x5_2 : Int) < ((x3_2.length : Int) : Int) := of_decide_eq_true (by first | (with_reducible assumption) | assumption); first | exact h_ | (have e_ := (Kd.R_reads' HO_3.out).1; omega) | simpa using h_)
                obtain rfl := k50_openM hM20
                have HP20 := Kd.R_seg HX20.out (x5_2 : Int) (of_decide_eq_true (by first | (with_reducible assumption) | assumption)) (by have h_ : (x5_2 : Int) < ((x3_2.length : Int) : Int) := of_decide_eq_true (by first | (with_reducible assumption) | assumption); first | exact h_ | (have e_ := (Kd.R_reads' HO_3.out).1; omega) | simpa using h_) (seg := [.int .i64 ((rd_T50 x3_2 (ji10)).f0), .int .i64 ((rd_T50 x3_2 (ji10)).f1.f0), .int .i64 ((rd_T50 x3_2 (ji10)).f1.f1), .int .i64 ((rd_T50 x3_2 (ji10)).f1.f2), .int .i64 ((rd_T50 x3_2 (ji10)).f1.f3)]) (j := 0) hcl20 hcc20 (show 5 ≤ 5 from by decide) (x' := (⟨(rd_T50 x3_2 (ji10)).f0, (⟨(rd_T50 x3_2 (ji10)).f1.f0, (rd_T50 x3_2 (ji10)).f1.f1, (rd_T50 x3_2 (ji10)).f1.f2, (rd_T50 x3_2 (ji10)).f1.f3⟩ : S35)⟩ : S50)) (k50_mkM _ _ _ (⟨(rd_T50 x3_2 (ji10)).f0, (⟨(rd_T50 x3_2 (ji10)).f1.f0, (rd_T50 x3_2 (ji10)).f1.f1, (rd_T50 x3_2 (ji10)).f1.f2, (rd_T50 x3_2 (ji10)).f1.f3⟩ : S35)⟩ : S50) ) (fun _ hk => hk)
                have hx20_0 := hcc20 0 _ rfl
                (try simp only [show (k50).sz = 5 from rfl, Nat.mul_one, Nat.add_zero] at hx20_0)
                have hf20_0 := hfr20 0
                (try simp only [show (k50).sz = 5 from rfl, Nat.mul_one, Nat.add_zero] at hf20_0)
                have hx20_1 := hcc20 1 _ rfl
                (try simp only [show (k50).sz = 5 from rfl, Nat.mul_one, Nat.add_zero] at hx20_1)
                have hf20_1 := hfr20 1
                (try simp only [show (k50).sz = 5 from rfl, Nat.mul_one, Nat.add_zero] at hf20_1)
                have hx20_2 := hcc20 2 _ rfl
                (try simp only [show (k50).sz = 5 from rfl, Nat.mul_one, Nat.add_zero] at hx20_2)
                have hf20_2 := hfr20 2
                (try simp only [show (k50).sz = 5 from rfl, Nat.mul_one, Nat.add_zero] at hf20_2)
                have hx20_3 := hcc20 3 _ rfl
                (try simp only [show (k50).sz = 5 from rfl, Nat.mul_one, Nat.add_zero] at hx20_3)
                have hf20_3 := hfr20 3
                (try simp only [show (k50).sz = 5 from rfl, Nat.mul_one, Nat.add_zero] at hf20_3)
                have hx20_4 := hcc20 4 _ rfl
                (try simp only [show (k50).sz = 5 from rfl, Nat.mul_one, Nat.add_zero] at hx20_4)
                have hf20_4 := hfr20 4
                (try simp only [show (k50).sz = 5 from rfl, Nat.mul_one, Nat.add_zero] at hf20_4)
                clear hcl20 hcc20 hfr20 hM20
                go_wp2_with (fail)
                repeat (go_quiet (fail); try go_wp2_with (first | ((with_reducible refine gate_store (t := 50) (p := 45) rfl ?_); (try (rw [drewN_self wr]; generalize hq_ : World.drewN wr _ = wr; have n0_ := Aside0.mk (Kd.R_at hq_ HO_3.out); have n1_ := Aside0.mk (below_at hq_ HB.out); clear hq_ HO_3 HB; have HO_3 := n0_; have HB := n1_; clear n0_ n1_; (try (have HX20 := Aside0.mk (show Kd.R k50 50 wr w.heap.size (fun _ => True) (.slice (some ⟨go18, 0, none⟩) x3_2.length co19) x3_2 from (mR HO_3.out)))); (try (obtain ⟨ce20, hcl20, hM20, hcc20, hfr20⟩ := Kd.R_elem HX20.out z50 (x5_2 : Int) (of_decide_eq_true (by first | (with_reducible assumption) | assumption)) (by have h_ : (x5_2 : Int) < ((x3_2.length : Int) : Int) := of_decide_eq_true (by first | (with_reducible assumption) | assumption); first | exact h_ | (have e_ := (Kd.R_reads' HO_3.out).1; omega) | simpa using h_))); (try (obtain rfl := k50_openM hM20)); (try (have HP20 := Kd.R_seg HX20.out (x5_2 : Int) (of_decide_eq_true (by first | (with_reducible assumption) | assumption)) (by have h_ : (x5_2 : Int) < ((x3_2.length : Int) : Int) := of_decide_eq_true (by first | (with_reducible assumption) | assumption); first | exact h_ | (have e_ := (Kd.R_reads' HO_3.out).1; omega) | simpa using h_) (seg := [.int .i64 ((rd_T50 x3_2 (ji10)).f0), .int .i64 ((rd_T50 x3_2 (ji10)).f1.f0), .int .i64 ((rd_T50 x3_2 (ji10)).f1.f1), .int .i64 ((rd_T50 x3_2 (ji10)).f1.f2), .int .i64 ((rd_T50 x3_2 (ji10)).f1.f3)]) (j := 0) hcl20 hcc20 (show 5 ≤ 5 from by decide) (x' := (⟨(rd_T50 x3_2 (ji10)).f0, (⟨(rd_T50 x3_2 (ji10)).f1.f0, (rd_T50 x3_2 (ji10)).f1.f1, (rd_T50 x3_2 (ji10)).f1.f2, (rd_T50 x3_2 (ji10)).f1.f3⟩ : S35)⟩ : S50)) (k50_mkM _ _ _ (⟨(rd_T50 x3_2 (ji10)).f0, (⟨(rd_T50 x3_2 (ji10)).f1.f0, (rd_T50 x3_2 (ji10)).f1.f1, (rd_T50 x3_2 (ji10)).f1.f2, (rd_T50 x3_2 (ji10)).f1.f3⟩ : S35)⟩ : S50) ) (fun _ hk => hk))); (try (have hx20_0 := hcc20 0 _ rfl)); (try (try simp only [show (k50).sz = 5 from rfl, Nat.mul_one, Nat.add_zero] at hx20_0)); (try (have hf20_0 := hfr20 0)); (try (try simp only [show (k50).sz = 5 from rfl, Nat.mul_one, Nat.add_zero] at hf20_0)); (try (have hx20_1 := hcc20 1 _ rfl)); (try (try simp only [show (k50).sz = 5 from rfl, Nat.mul_one, Nat.add_zero] at hx20_1)); (try (have hf20_1 := hfr20 1)); (try (try simp only [show (k50).sz = 5 from rfl, Nat.mul_one, Nat.add_zero] at hf20_1)); (try (have hx20_2 := hcc20 2 _ rfl)); (try (try simp only [show (k50).sz = 5 from rfl, Nat.mul_one, Nat.add_zero] at hx20_2)); (try (have hf20_2 := hfr20 2)); (try (try simp only [show (k50).sz = 5 from rfl, Nat.mul_one, Nat.add_zero] at hf20_2)); (try (have hx20_3 := hcc20 3 _ rfl)); (try (try simp only [show (k50).sz = 5 from rfl, Nat.mul_one, Nat.add_zero] at hx20_3)); (try (have hf20_3 := hfr20 3)); (try (try simp only [show (k50).sz = 5 from rfl, Nat.mul_one, Nat.add_zero] at hf20_3)); (try (have hx20_4 := hcc20 4 _ rfl)); (try (try simp only [show (k50).sz = 5 from rfl, Nat.mul_one, Nat.add_zero] at hx20_4)); (try (have hf20_4 := hfr20 4)); (try (try simp only [show (k50).sz = 5 from rfl, Nat.mul_one, Nat.add_zero] at hf20_4)); (try (clear hcl20 hcc20 hfr20 hM20)))); refine store_event (t := 50) (p := 45) (v := ?vo_w21) (w1 := (((((wr.setCell ⟨go18, (x5_2 : Int).toNat * 5, none⟩ (.int .i64 ((rd_T50 x3_2 (ji10)).f0))).setCell ⟨go18, (x5_2 : Int).toNat * 5 + 1, none⟩ (.int .i64 ((rd_T50 x3_2 (ji10)).f1.f0))).setCell ⟨go18, (x5_2 : Int).toNat * 5 + 2, none⟩ (.int .i64 ((rd_T50 x3_2 (ji10)).f1.f1))).setCell ⟨go18, (x5_2 : Int).toNat * 5 + 3, none⟩ (.int .i64 ((rd_T50 x3_2 (ji10)).f1.f2))).setCell ⟨go18, (x5_2 : Int).toNat * 5 + 4, none⟩ (.int .i64 ((rd_T50 x3_2 (ji10)).f1.f3)))) ?hg ?ho ?hn ?hr ?_; (case ho => rfl); (case hg => rfl); (case hn => rfl); (case hr => first | (go_simp; done) | (go_simp; rfl)); intro w21 hw; have hg : wr.grownBy w21 (some go18) := (by rw [hw]; exact HP20.2); have hp_ : Kd.R k50 50 w21 w.heap.size (fun _ => True) (.slice (some ⟨go18, 0, none⟩) x3_2.length co19) y139 := (by rw [hw, Ny139.out]; exact HP20.1); clear HP20; have n0_ := Aside0.mk (hp_); have n1_ := Aside0.mk ((by rw [hw]; exact below_set (below_set (below_set (below_set (below_set (HB.out) GB18.out) GB18.out) GB18.out) GB18.out) GB18.out : Below w.heap.size w w21)); clear HO_3; clear HB; have HO_3 := n0_; have HB := n1_; clear n0_ n1_; clear hg hw hp_)))
                go_roundg k2
                case measure => have := HK1.out; have := HK2.out; omega
                case rel => exact ⟨(y139), (ji10), (by first | rfl | (simp; done) | (simp only [← hji10] <;> (first | rfl | simp)) | (simp [*]; done)), H', ⟨by have := HK1.out; have := HK2.out; omega⟩, ⟨mR HO_3.out⟩, ⟨mB HB.out⟩⟩
               ·rw [if_neg c17] at H
                exact absurd H (by simp)
              ·rw [if_neg c16] at H
               exact absurd H (by simp)
             ·rw [if_neg c15] at H
              have c15b0 : decide (((rd_T50 l0 x4_1).f0) < ((rd_T50 x3_2 (ji10)).f0)) = false := decide_eq_false c15
              clear c15
              by_cases c22 : 0 ≤ x5_2
              ·rw [if_pos c22] at H
               have c22b0 : decide (0 ≤ x5_2) = true := decide_eq_true c22
               clear c22
               by_cases c23 : x5_2 < (x3_2.length : Int)
               ·rw [if_pos c23] at H
                have c23b0 : decide (x5_2 < (x3_2.length : Int)) = true := decide_eq_true c23
                clear c23
                obtain ⟨y141, hy141⟩ : ∃ y_ : List (S50), y_ = (x3_2.set (x5_2 : Int).toNat (⟨(rd_T50 l0 x4_1).f0, (⟨(rd_T50 l0 x4_1).f1.f0, (rd_T50 l0 x4_1).f1.f1, (rd_T50 l0 x4_1).f1.f2, (rd_T50 l0 x4_1).f1.f3⟩ : S35)⟩ : S50)) := ⟨_, rfl⟩
                replace H : (spec_l11Sort.l0 k2 l0 y141 (wrap64 (x4_1 + 1))) = some r := by first | (rw [hy141]; with_reducible exact H) | (have H2_ := (Option.bind_some _ _).symm.trans H; rw [hy141]; with_reducible exact H2_) | (have H2_ := (Option.bind_some _ _).symm.trans H; with_reducible exact H2_) | with_reducible exact H | (rw [hy141]; exact H) | exact H
                have Ny141 := Aside0.mk hy141
                clear hy141
                have H' := Aside0.mk H
                clear H
                obtain ⟨Ao25, co25, eo25⟩ := Kd.R_slice HO_3.out
                subst eo25
                have p136 : 0 ≤ ((ji10) : Int) := of_decide_eq_true (by first | (with_reducible assumption) | assumption)
                have q136 : (ji10) < (x3_2.length : Int) := of_decide_eq_true (by first | (with_reducible assumption) | assumption)
                obtain ⟨ad136, e136, hx136_0, hx136_1, hx136_2, hx136_3, hx136_4⟩ := at_T50 (Kd.R_reads' HO_3.out).2.2 (ji10) p136 q136
                cases e136
                replace p136 := eq_true p136
                replace q136 := eq_true q136
                have p137 : 0 ≤ (x4_1 : Int) := of_decide_eq_true (by first | (with_reducible assumption) | assumption)
                have q137 : x4_1 < (l0.length : Int) := of_decide_eq_true (by first | (with_reducible assumption) | assumption)
                obtain ⟨ad137, e137, hx137_0, hx137_1, hx137_2, hx137_3, hx137_4⟩ := at_T50 HR0.out x4_1 p137 q137
                obtain rfl : ad132 = ad137 := (by injection e137)
                replace hx137_0 := (HB.out.cell (World.block_lt_of_cell? w _ hx137_0)).trans hx137_0
                replace hx137_1 := (HB.out.cell (World.block_lt_of_cell? w _ hx137_1)).trans hx137_1
                replace hx137_2 := (HB.out.cell (World.block_lt_of_cell? w _ hx137_2)).trans hx137_2
                replace hx137_3 := (HB.out.cell (World.block_lt_of_cell? w _ hx137_3)).trans hx137_3
                replace hx137_4 := (HB.out.cell (World.block_lt_of_cell? w _ hx137_4)).trans hx137_4
                replace p137 := eq_true p137
                replace q137 := eq_true q137
                have p140 : 0 ≤ (x4_1 : Int) := of_decide_eq_true (by first | (with_reducible assumption) | assumption)
                have q140 : x4_1 < (l0.length : Int) := of_decide_eq_true (by first | (with_reducible assumption) | assumption)
                obtain ⟨ad140, e140, hx140_0, hx140_1, hx140_2, hx140_3, hx140_4⟩ := at_T50 HR0.out x4_1 p140 q140
                obtain rfl : ad132 = ad140 := (by injection e140)
                replace hx140_0 := (HB.out.cell (World.block_lt_of_cell? w _ hx140_0)).trans hx140_0
                replace hx140_1 := (HB.out.cell (World.block_lt_of_cell? w _ hx140_1)).trans hx140_1
                replace hx140_2 := (HB.out.cell (World.block_lt_of_cell? w _ hx140_2)).trans hx140_2
                replace hx140_3 := (HB.out.cell (World.block_lt_of_cell? w _ hx140_3)).trans hx140_3
                replace hx140_4 := (HB.out.cell (World.block_lt_of_cell? w _ hx140_4)).trans hx140_4
                replace p140 := eq_true p140
                replace q140 := eq_true q140
                have p24 : 0 ≤ (x5_2 : Int) := of_decide_eq_true (by first | (with_reducible assumption) | assumption)
                have q24 : (x5_2 : Int) < ((x3_2.length : Int) : Int) := of_decide_eq_true (by first | (with_reducible assumption) | assumption)
                obtain ⟨go24, co24, eo24, gb24, gl24, cl24, HG24⟩ := Kd.R_form HO_3.out (by omega)
                (first | cases eo24 | (injection eo24 with ea_ en_ ec_; (first | subst ea_ | (injection ea_ with ea_; subst ea_)); subst ec_; clear en_))
                have GB24 := Aside0.mk gb24
                have GG24 := Aside0.mk HG24
                clear gb24 gl24 HG24
                (first | simp only [add_plain] at hx136_0 | skip)
                (first | simp only [add_plain] at hx136_1 | skip)
                (first | simp only [add_plain] at hx136_2 | skip)
                (first | simp only [add_plain] at hx136_3 | skip)
                (first | simp only [add_plain] at hx136_4 | skip)
                obtain ⟨ce24, hcl24, hM24, hcc24, hfr24⟩ := Kd.R_elem HO_3.out z50 (x5_2 : Int) p24 q24
                obtain rfl := k50_openM hM24
                have hx24_0 : wr.cell? ⟨go24, (x5_2 : Int).toNat * 5, none⟩ = some (.int .i64 ((rd_T50 x3_2 x5_2).f0)) := hcc24 0 _ rfl
                have hx24_1 : wr.cell? ⟨go24, (x5_2 : Int).toNat * 5 + 1, none⟩ = some (.int .i64 ((rd_T50 x3_2 x5_2).f1.f0)) := hcc24 1 _ rfl
                have hx24_2 : wr.cell? ⟨go24, (x5_2 : Int).toNat * 5 + 2, none⟩ = some (.int .i64 ((rd_T50 x3_2 x5_2).f1.f1)) := hcc24 2 _ rfl
                have hx24_3 : wr.cell? ⟨go24, (x5_2 : Int).toNat * 5 + 3, none⟩ = some (.int .i64 ((rd_T50 x3_2 x5_2).f1.f2)) := hcc24 3 _ rfl
                have hx24_4 : wr.cell? ⟨go24, (x5_2 : Int).toNat * 5 + 4, none⟩ = some (.int .i64 ((rd_T50 x3_2 x5_2).f1.f3)) := hcc24 4 _ rfl
                have hf24_0 : wr.frozen? ⟨go24, (x5_2 : Int).toNat * 5, none⟩ = false := hfr24 0
                have hf24_1 : wr.frozen? ⟨go24, (x5_2 : Int).toNat * 5 + 1, none⟩ = false := hfr24 1
                have hf24_2 : wr.frozen? ⟨go24, (x5_2 : Int).toNat * 5 + 2, none⟩ = false := hfr24 2
                have hf24_3 : wr.frozen? ⟨go24, (x5_2 : Int).toNat * 5 + 3, none⟩ = false := hfr24 3
                have hf24_4 : wr.frozen? ⟨go24, (x5_2 : Int).toNat * 5 + 4, none⟩ = false := hfr24 4
                clear hcl24 hcc24 hfr24 hM24
                replace p24 := eq_true p24
                replace q24 := eq_true q24
                have HX26 := Aside0.mk (show Kd.R k50 50 wr w.heap.size (fun _ => True) (.slice (some ⟨go24, 0, none⟩) x3_2.length co25) x3_2 from (mR HO_3.out))
                obtain ⟨ce26, hcl26, hM26, hcc26, hfr26⟩ := Kd.R_elem HX26.out z50 (x5_2 : Int) (of_decide_eq_true (by first | (with_reducible assumption) | assumption)) (by have h_ : (x5_2 : Int) < ((x3_2.length : Int) : Int) := of_decide_eq_true (by first | (with_reducible assumption) | assumption); first | exact h_ | (have e_ := (Kd.R_reads' HO_3.out).1; omega) | simpa using h_)
                obtain rfl := k50_openM hM26
                have HP26 := Kd.R_seg HX26.out (x5_2 : Int) (of_decide_eq_true (by first | (with_reducible assumption) | assumption)) (by have h_ : (x5_2 : Int) < ((x3_2.length : Int) : Int) := of_decide_eq_true (by first | (with_reducible assumption) | assumption); first | exact h_ | (have e_ := (Kd.R_reads' HO_3.out).1; omega) | simpa using h_) (seg := [.int .i64 ((rd_T50 l0 x4_1).f0), .int .i64 ((rd_T50 l0 x4_1).f1.f0), .int .i64 ((rd_T50 l0 x4_1).f1.f1), .int .i64 ((rd_T50 l0 x4_1).f1.f2), .int .i64 ((rd_T50 l0 x4_1).f1.f3)]) (j := 0) hcl26 hcc26 (show 5 ≤ 5 from by decide) (x' := (⟨(rd_T50 l0 x4_1).f0, (⟨(rd_T50 l0 x4_1).f1.f0, (rd_T50 l0 x4_1).f1.f1, (rd_T50 l0 x4_1).f1.f2, (rd_T50 l0 x4_1).f1.f3⟩ : S35)⟩ : S50)) (k50_mkM _ _ _ (⟨(rd_T50 l0 x4_1).f0, (⟨(rd_T50 l0 x4_1).f1.f0, (rd_T50 l0 x4_1).f1.f1, (rd_T50 l0 x4_1).f1.f2, (rd_T50 l0 x4_1).f1.f3⟩ : S35)⟩ : S50) ) (fun _ hk => hk)
                have hx26_0 := hcc26 0 _ rfl
                (try simp only [show (k50).sz = 5 from rfl, Nat.mul_one, Nat.add_zero] at hx26_0)
                have hf26_0 := hfr26 0
                (try simp only [show (k50).sz = 5 from rfl, Nat.mul_one, Nat.add_zero] at hf26_0)
                have hx26_1 := hcc26 1 _ rfl
                (try simp only [show (k50).sz = 5 from rfl, Nat.mul_one, Nat.add_zero] at hx26_1)
                have hf26_1 := hfr26 1
                (try simp only [show (k50).sz = 5 from rfl, Nat.mul_one, Nat.add_zero] at hf26_1)
                have hx26_2 := hcc26 2 _ rfl
                (try simp only [show (k50).sz = 5 from rfl, Nat.mul_one, Nat.add_zero] at hx26_2)
                have hf26_2 := hfr26 2
                (try simp only [show (k50).sz = 5 from rfl, Nat.mul_one, Nat.add_zero] at hf26_2)
                have hx26_3 := hcc26 3 _ rfl
                (try simp only [show (k50).sz = 5 from rfl, Nat.mul_one, Nat.add_zero] at hx26_3)
                have hf26_3 := hfr26 3
                (try simp only [show (k50).sz = 5 from rfl, Nat.mul_one, Nat.add_zero] at hf26_3)
                have hx26_4 := hcc26 4 _ rfl
                (try simp only [show (k50).sz = 5 from rfl, Nat.mul_one, Nat.add_zero] at hx26_4)
                have hf26_4 := hfr26 4
                (try simp only [show (k50).sz = 5 from rfl, Nat.mul_one, Nat.add_zero] at hf26_4)
                clear hcl26 hcc26 hfr26 hM26
                go_wp2_with (fail)
                repeat (go_quiet (fail); try go_wp2_with (first | ((with_reducible refine gate_store (t := 50) (p := 54) rfl ?_); (try (rw [drewN_self wr]; generalize hq_ : World.drewN wr _ = wr; have n0_ := Aside0.mk (Kd.R_at hq_ HO_3.out); have n1_ := Aside0.mk (below_at hq_ HB.out); clear hq_ HO_3 HB; have HO_3 := n0_; have HB := n1_; clear n0_ n1_; (try (have HX26 := Aside0.mk (show Kd.R k50 50 wr w.heap.size (fun _ => True) (.slice (some ⟨go24, 0, none⟩) x3_2.length co25) x3_2 from (mR HO_3.out)))); (try (obtain ⟨ce26, hcl26, hM26, hcc26, hfr26⟩ := Kd.R_elem HX26.out z50 (x5_2 : Int) (of_decide_eq_true (by first | (with_reducible assumption) | assumption)) (by have h_ : (x5_2 : Int) < ((x3_2.length : Int) : Int) := of_decide_eq_true (by first | (with_reducible assumption) | assumption); first | exact h_ | (have e_ := (Kd.R_reads' HO_3.out).1; omega) | simpa using h_))); (try (obtain rfl := k50_openM hM26)); (try (have HP26 := Kd.R_seg HX26.out (x5_2 : Int) (of_decide_eq_true (by first | (with_reducible assumption) | assumption)) (by have h_ : (x5_2 : Int) < ((x3_2.length : Int) : Int) := of_decide_eq_true (by first | (with_reducible assumption) | assumption); first | exact h_ | (have e_ := (Kd.R_reads' HO_3.out).1; omega) | simpa using h_) (seg := [.int .i64 ((rd_T50 l0 x4_1).f0), .int .i64 ((rd_T50 l0 x4_1).f1.f0), .int .i64 ((rd_T50 l0 x4_1).f1.f1), .int .i64 ((rd_T50 l0 x4_1).f1.f2), .int .i64 ((rd_T50 l0 x4_1).f1.f3)]) (j := 0) hcl26 hcc26 (show 5 ≤ 5 from by decide) (x' := (⟨(rd_T50 l0 x4_1).f0, (⟨(rd_T50 l0 x4_1).f1.f0, (rd_T50 l0 x4_1).f1.f1, (rd_T50 l0 x4_1).f1.f2, (rd_T50 l0 x4_1).f1.f3⟩ : S35)⟩ : S50)) (k50_mkM _ _ _ (⟨(rd_T50 l0 x4_1).f0, (⟨(rd_T50 l0 x4_1).f1.f0, (rd_T50 l0 x4_1).f1.f1, (rd_T50 l0 x4_1).f1.f2, (rd_T50 l0 x4_1).f1.f3⟩ : S35)⟩ : S50) ) (fun _ hk => hk))); (try (have hx26_0 := hcc26 0 _ rfl)); (try (try simp only [show (k50).sz = 5 from rfl, Nat.mul_one, Nat.add_zero] at hx26_0)); (try (have hf26_0 := hfr26 0)); (try (try simp only [show (k50).sz = 5 from rfl, Nat.mul_one, Nat.add_zero] at hf26_0)); (try (have hx26_1 := hcc26 1 _ rfl)); (try (try simp only [show (k50).sz = 5 from rfl, Nat.mul_one, Nat.add_zero] at hx26_1)); (try (have hf26_1 := hfr26 1)); (try (try simp only [show (k50).sz = 5 from rfl, Nat.mul_one, Nat.add_zero] at hf26_1)); (try (have hx26_2 := hcc26 2 _ rfl)); (try (try simp only [show (k50).sz = 5 from rfl, Nat.mul_one, Nat.add_zero] at hx26_2)); (try (have hf26_2 := hfr26 2)); (try (try simp only [show (k50).sz = 5 from rfl, Nat.mul_one, Nat.add_zero] at hf26_2)); (try (have hx26_3 := hcc26 3 _ rfl)); (try (try simp only [show (k50).sz = 5 from rfl, Nat.mul_one, Nat.add_zero] at hx26_3)); (try (have hf26_3 := hfr26 3)); (try (try simp only [show (k50).sz = 5 from rfl, Nat.mul_one, Nat.add_zero] at hf26_3)); (try (have hx26_4 := hcc26 4 _ rfl)); (try (try simp only [show (k50).sz = 5 from rfl, Nat.mul_one, Nat.add_zero] at hx26_4)); (try (have hf26_4 := hfr26 4)); (try (try simp only [show (k50).sz = 5 from rfl, Nat.mul_one, Nat.add_zero] at hf26_4)); (try (clear hcl26 hcc26 hfr26 hM26)))); refine store_event (t := 50) (p := 54) (v := ?vo_w27) (w1 := (((((wr.setCell ⟨go24, (x5_2 : Int).toNat * 5, none⟩ (.int .i64 ((rd_T50 l0 x4_1).f0))).setCell ⟨go24, (x5_2 : Int).toNat * 5 + 1, none⟩ (.int .i64 ((rd_T50 l0 x4_1).f1.f0))).setCell ⟨go24, (x5_2 : Int).toNat * 5 + 2, none⟩ (.int .i64 ((rd_T50 l0 x4_1).f1.f1))).setCell ⟨go24, (x5_2 : Int).toNat * 5 + 3, none⟩ (.int .i64 ((rd_T50 l0 x4_1).f1.f2))).setCell ⟨go24, (x5_2 : Int).toNat * 5 + 4, none⟩ (.int .i64 ((rd_T50 l0 x4_1).f1.f3)))) ?hg ?ho ?hn ?hr ?_; (case ho => rfl); (case hg => rfl); (case hn => rfl); (case hr => first | (go_simp; done) | (go_simp; rfl)); intro w27 hw; have hg : wr.grownBy w27 (some go24) := (by rw [hw]; exact HP26.2); have hp_ : Kd.R k50 50 w27 w.heap.size (fun _ => True) (.slice (some ⟨go24, 0, none⟩) x3_2.length co25) y141 := (by rw [hw, Ny141.out]; exact HP26.1); clear HP26; have n0_ := Aside0.mk (hp_); have n1_ := Aside0.mk ((by rw [hw]; exact below_set (below_set (below_set (below_set (below_set (HB.out) GB24.out) GB24.out) GB24.out) GB24.out) GB24.out : Below w.heap.size w w27)); clear HO_3; clear HB; have HO_3 := n0_; have HB := n1_; clear n0_ n1_; clear hg hw hp_)))
                go_roundg k2
                case measure => have := HK1.out; have := HK2.out; omega
                case rel => exact ⟨(y141), (wrap64 (x4_1 + 1)), (by first | rfl | (simp; done) | (simp [*]; done)), H', ⟨by have := HK1.out; have := HK2.out; omega⟩, ⟨mR HO_3.out⟩, ⟨mB HB.out⟩⟩
               ·rw [if_neg c23] at H
                exact absurd H (by simp)
              ·rw [if_neg c22] at H
               exact absurd H (by simp)
            ·rw [if_neg c14] at H
             exact absurd H (by simp)
           ·rw [if_neg c13] at H
            exact absurd H (by simp)
          ·rw [if_neg c12] at H
           exact absurd H (by simp)
         ·rw [if_neg c11] at H
          exact absurd H (by simp)
        ·rw [if_neg c9] at H
         have c9b0 : decide (0 < x5_2) = false := decide_eq_false c9
         clear c9
         by_cases c28 : 0 ≤ x4_1
         ·rw [if_pos c28] at H
          have c28b0 : decide (0 ≤ x4_1) = true := decide_eq_true c28
          clear c28
          by_cases c29 : x4_1 < (l0.length : Int)
          ·rw [if_pos c29] at H
           have c29b0 : decide (x4_1 < (l0.length : Int)) = true := decide_eq_true c29
           clear c29
           by_cases c30 : 0 ≤ x5_2
           ·rw [if_pos c30] at H
            have c30b0 : decide (0 ≤ x5_2) = true := decide_eq_true c30
            clear c30
            by_cases c31 : x5_2 < (x3_2.length : Int)
            ·rw [if_pos c31] at H
             have c31b0 : decide (x5_2 < (x3_2.length : Int)) = true := decide_eq_true c31
             clear c31
             obtain ⟨y143, hy143⟩ : ∃ y_ : List (S50), y_ = (x3_2.set (x5_2 : Int).toNat (⟨(rd_T50 l0 x4_1).f0, (⟨(rd_T50 l0 x4_1).f1.f0, (rd_T50 l0 x4_1).f1.f1, (rd_T50 l0 x4_1).f1.f2, (rd_T50 l0 x4_1).f1.f3⟩ : S35)⟩ : S50)) := ⟨_, rfl⟩
             replace H : (spec_l11Sort.l0 k2 l0 y143 (wrap64 (x4_1 + 1))) = some r := by first | (rw [hy143]; with_reducible exact H) | (have H2_ := (Option.bind_some _ _).symm.trans H; rw [hy143]; with_reducible exact H2_) | (have H2_ := (Option.bind_some _ _).symm.trans H; with_reducible exact H2_) | with_reducible exact H | (rw [hy143]; exact H) | exact H
             have Ny143 := Aside0.mk hy143
             clear hy143
             have H' := Aside0.mk H
             clear H
             have p142 : 0 ≤ (x4_1 : Int) := of_decide_eq_true (by first | (with_reducible assumption) | assumption)
             have q142 : x4_1 < (l0.length : Int) := of_decide_eq_true (by first | (with_reducible assumption) | assumption)
             obtain ⟨ad142, e142, hx142_0, hx142_1, hx142_2, hx142_3, hx142_4⟩ := at_T50 HR0.out x4_1 p142 q142
             obtain rfl : ad132 = ad142 := (by injection e142)
             replace hx142_0 := (HB.out.cell (World.block_lt_of_cell? w _ hx142_0)).trans hx142_0
             replace hx142_1 := (HB.out.cell (World.block_lt_of_cell? w _ hx142_1)).trans hx142_1
             replace hx142_2 := (HB.out.cell (World.block_lt_of_cell? w _ hx142_2)).trans hx142_2
             replace hx142_3 := (HB.out.cell (World.block_lt_of_cell? w _ hx142_3)).trans hx142_3
             replace hx142_4 := (HB.out.cell (World.block_lt_of_cell? w _ hx142_4)).trans hx142_4
             replace p142 := eq_true p142
             replace q142 := eq_true q142
             have p32 : 0 ≤ (x5_2 : Int) := of_decide_eq_true (by first | (with_reducible assumption) | assumption)
             have q32 : (x5_2 : Int) < ((x3_2.length : Int) : Int) := of_decide_eq_true (by first | (with_reducible assumption) | assumption)
             obtain ⟨go32, co32, eo32, gb32, gl32, cl32, HG32⟩ := Kd.R_form HO_3.out (by omega)
             (first | cases eo32 | (injection eo32 with ea_ en_ ec_; (first | subst ea_ | (injection ea_ with ea_; subst ea_)); subst ec_; clear en_))
             have GB32 := Aside0.mk gb32
             have GG32 := Aside0.mk HG32
             clear gb32 gl32 HG32
             obtain ⟨ce32, hcl32, hM32, hcc32, hfr32⟩ := Kd.R_elem HO_3.out z50 (x5_2 : Int) p32 q32
             obtain rfl := k50_openM hM32
             have hx32_0 : wr.cell? ⟨go32, (x5_2 : Int).toNat * 5, none⟩ = some (.int .i64 ((rd_T50 x3_2 x5_2).f0)) := hcc32 0 _ rfl
             have hx32_1 : wr.cell? ⟨go32, (x5_2 : Int).toNat * 5 + 1, none⟩ = some (.int .i64 ((rd_T50 x3_2 x5_2).f1.f0)) := hcc32 1 _ rfl
             have hx32_2 : wr.cell? ⟨go32, (x5_2 : Int).toNat * 5 + 2, none⟩ = some (.int .i64 ((rd_T50 x3_2 x5_2).f1.f1)) := hcc32 2 _ rfl
             have hx32_3 : wr.cell? ⟨go32, (x5_2 : Int).toNat * 5 + 3, none⟩ = some (.int .i64 ((rd_T50 x3_2 x5_2).f1.f2)) := hcc32 3 _ rfl
             have hx32_4 : wr.cell? ⟨go32, (x5_2 : Int).toNat * 5 + 4, none⟩ = some (.int .i64 ((rd_T50 x3_2 x5_2).f1.f3)) := hcc32 4 _ rfl
             have hf32_0 : wr.frozen? ⟨go32, (x5_2 : Int).toNat * 5, none⟩ = false := hfr32 0
             have hf32_1 : wr.frozen? ⟨go32, (x5_2 : Int).toNat * 5 + 1, none⟩ = false := hfr32 1
             have hf32_2 : wr.frozen? ⟨go32, (x5_2 : Int).toNat * 5 + 2, none⟩ = false := hfr32 2
             have hf32_3 : wr.frozen? ⟨go32, (x5_2 : Int).toNat * 5 + 3, none⟩ = false := hfr32 3
             have hf32_4 : wr.frozen? ⟨go32, (x5_2 : Int).toNat * 5 + 4, none⟩ = false := hfr32 4
             clear hcl32 hcc32 hfr32 hM32
             replace p32 := eq_true p32
             replace q32 := eq_true q32
             have HX33 := Aside0.mk (show Kd.R k50 50 wr w.heap.size (fun _ => True) (.slice (some ⟨go32, 0, none⟩) x3_2.length co32) x3_2 from (mR HO_3.out))
             obtain ⟨ce33, hcl33, hM33, hcc33, hfr33⟩ := Kd.R_elem HX33.out z50 (x5_2 : Int) (of_decide_eq_true (by first | (with_reducible assumption) | assumption)) (by have h_ : (x5_2 : Int) < ((x3_2.length : Int) : Int) := of_decide_eq_true (by first | (with_reducible assumption) | assumption); first | exact h_ | (have e_ := (Kd.R_reads' HO_3.out).1; omega) | simpa using h_)
             obtain rfl := k50_openM hM33
             have HP33 := Kd.R_seg HX33.out (x5_2 : Int) (of_decide_eq_true (by first | (with_reducible assumption) | assumption)) (by have h_ : (x5_2 : Int) < ((x3_2.length : Int) : Int) := of_decide_eq_true (by first | (with_reducible assumption) | assumption); first | exact h_ | (have e_ := (Kd.R_reads' HO_3.out).1; omega) | simpa using h_) (seg := [.int .i64 ((rd_T50 l0 x4_1).f0), .int .i64 ((rd_T50 l0 x4_1).f1.f0), .int .i64 ((rd_T50 l0 x4_1).f1.f1), .int .i64 ((rd_T50 l0 x4_1).f1.f2), .int .i64 ((rd_T50 l0 x4_1).f1.f3)]) (j := 0) hcl33 hcc33 (show 5 ≤ 5 from by decide) (x' := (⟨(rd_T50 l0 x4_1).f0, (⟨(rd_T50 l0 x4_1).f1.f0, (rd_T50 l0 x4_1).f1.f1, (rd_T50 l0 x4_1).f1.f2, (rd_T50 l0 x4_1).f1.f3⟩ : S35)⟩ : S50)) (k50_mkM _ _ _ (⟨(rd_T50 l0 x4_1).f0, (⟨(rd_T50 l0 x4_1).f1.f0, (rd_T50 l0 x4_1).f1.f1, (rd_T50 l0 x4_1).f1.f2, (rd_T50 l0 x4_1).f1.f3⟩ : S35)⟩ : S50) ) (fun _ hk => hk)
             have hx33_0 := hcc33 0 _ rfl
             (try simp only [show (k50).sz = 5 from rfl, Nat.mul_one, Nat.add_zero] at hx33_0)
             have hf33_0 := hfr33 0
             (try simp only [show (k50).sz = 5 from rfl, Nat.mul_one, Nat.add_zero] at hf33_0)
             have hx33_1 := hcc33 1 _ rfl
             (try simp only [show (k50).sz = 5 from rfl, Nat.mul_one, Nat.add_zero] at hx33_1)
             have hf33_1 := hfr33 1
             (try simp only [show (k50).sz = 5 from rfl, Nat.mul_one, Nat.add_zero] at hf33_1)
             have hx33_2 := hcc33 2 _ rfl
             (try simp only [show (k50).sz = 5 from rfl, Nat.mul_one, Nat.add_zero] at hx33_2)
             have hf33_2 := hfr33 2
             (try simp only [show (k50).sz = 5 from rfl, Nat.mul_one, Nat.add_zero] at hf33_2)
             have hx33_3 := hcc33 3 _ rfl
             (try simp only [show (k50).sz = 5 from rfl, Nat.mul_one, Nat.add_zero] at hx33_3)
             have hf33_3 := hfr33 3
             (try simp only [show (k50).sz = 5 from rfl, Nat.mul_one, Nat.add_zero] at hf33_3)
             have hx33_4 := hcc33 4 _ rfl
             (try simp only [show (k50).sz = 5 from rfl, Nat.mul_one, Nat.add_zero] at hx33_4)
             have hf33_4 := hfr33 4
             (try simp only [show (k50).sz = 5 from rfl, Nat.mul_one, Nat.add_zero] at hf33_4)
             clear hcl33 hcc33 hfr33 hM33
             go_wp2_with (fail)
             repeat (go_quiet (fail); try go_wp2_with (first | ((with_reducible refine gate_store (t := 50) (p := 54) rfl ?_); (try (rw [drewN_self wr]; generalize hq_ : World.drewN wr _ = wr; have n0_ := Aside0.mk (Kd.R_at hq_ HO_3.out); have n1_ := Aside0.mk (below_at hq_ HB.out); clear hq_ HO_3 HB; have HO_3 := n0_; have HB := n1_; clear n0_ n1_; (try (have HX33 := Aside0.mk (show Kd.R k50 50 wr w.heap.size (fun _ => True) (.slice (some ⟨go32, 0, none⟩) x3_2.length co32) x3_2 from (mR HO_3.out)))); (try (obtain ⟨ce33, hcl33, hM33, hcc33, hfr33⟩ := Kd.R_elem HX33.out z50 (x5_2 : Int) (of_decide_eq_true (by first | (with_reducible assumption) | assumption)) (by have h_ : (x5_2 : Int) < ((x3_2.length : Int) : Int) := of_decide_eq_true (by first | (with_reducible assumption) | assumption); first | exact h_ | (have e_ := (Kd.R_reads' HO_3.out).1; omega) | simpa using h_))); (try (obtain rfl := k50_openM hM33)); (try (have HP33 := Kd.R_seg HX33.out (x5_2 : Int) (of_decide_eq_true (by first | (with_reducible assumption) | assumption)) (by have h_ : (x5_2 : Int) < ((x3_2.length : Int) : Int) := of_decide_eq_true (by first | (with_reducible assumption) | assumption); first | exact h_ | (have e_ := (Kd.R_reads' HO_3.out).1; omega) | simpa using h_) (seg := [.int .i64 ((rd_T50 l0 x4_1).f0), .int .i64 ((rd_T50 l0 x4_1).f1.f0), .int .i64 ((rd_T50 l0 x4_1).f1.f1), .int .i64 ((rd_T50 l0 x4_1).f1.f2), .int .i64 ((rd_T50 l0 x4_1).f1.f3)]) (j := 0) hcl33 hcc33 (show 5 ≤ 5 from by decide) (x' := (⟨(rd_T50 l0 x4_1).f0, (⟨(rd_T50 l0 x4_1).f1.f0, (rd_T50 l0 x4_1).f1.f1, (rd_T50 l0 x4_1).f1.f2, (rd_T50 l0 x4_1).f1.f3⟩ : S35)⟩ : S50)) (k50_mkM _ _ _ (⟨(rd_T50 l0 x4_1).f0, (⟨(rd_T50 l0 x4_1).f1.f0, (rd_T50 l0 x4_1).f1.f1, (rd_T50 l0 x4_1).f1.f2, (rd_T50 l0 x4_1).f1.f3⟩ : S35)⟩ : S50) ) (fun _ hk => hk))); (try (have hx33_0 := hcc33 0 _ rfl)); (try (try simp only [show (k50).sz = 5 from rfl, Nat.mul_one, Nat.add_zero] at hx33_0)); (try (have hf33_0 := hfr33 0)); (try (try simp only [show (k50).sz = 5 from rfl, Nat.mul_one, Nat.add_zero] at hf33_0)); (try (have hx33_1 := hcc33 1 _ rfl)); (try (try simp only [show (k50).sz = 5 from rfl, Nat.mul_one, Nat.add_zero] at hx33_1)); (try (have hf33_1 := hfr33 1)); (try (try simp only [show (k50).sz = 5 from rfl, Nat.mul_one, Nat.add_zero] at hf33_1)); (try (have hx33_2 := hcc33 2 _ rfl)); (try (try simp only [show (k50).sz = 5 from rfl, Nat.mul_one, Nat.add_zero] at hx33_2)); (try (have hf33_2 := hfr33 2)); (try (try simp only [show (k50).sz = 5 from rfl, Nat.mul_one, Nat.add_zero] at hf33_2)); (try (have hx33_3 := hcc33 3 _ rfl)); (try (try simp only [show (k50).sz = 5 from rfl, Nat.mul_one, Nat.add_zero] at hx33_3)); (try (have hf33_3 := hfr33 3)); (try (try simp only [show (k50).sz = 5 from rfl, Nat.mul_one, Nat.add_zero] at hf33_3)); (try (have hx33_4 := hcc33 4 _ rfl)); (try (try simp only [show (k50).sz = 5 from rfl, Nat.mul_one, Nat.add_zero] at hx33_4)); (try (have hf33_4 := hfr33 4)); (try (try simp only [show (k50).sz = 5 from rfl, Nat.mul_one, Nat.add_zero] at hf33_4)); (try (clear hcl33 hcc33 hfr33 hM33)))); refine store_event (t := 50) (p := 54) (v := ?vo_w34) (w1 := (((((wr.setCell ⟨go32, (x5_2 : Int).toNat * 5, none⟩ (.int .i64 ((rd_T50 l0 x4_1).f0))).setCell ⟨go32, (x5_2 : Int).toNat * 5 + 1, none⟩ (.int .i64 ((rd_T50 l0 x4_1).f1.f0))).setCell ⟨go32, (x5_2 : Int).toNat * 5 + 2, none⟩ (.int .i64 ((rd_T50 l0 x4_1).f1.f1))).setCell ⟨go32, (x5_2 : Int).toNat * 5 + 3, none⟩ (.int .i64 ((rd_T50 l0 x4_1).f1.f2))).setCell ⟨go32, (x5_2 : Int).toNat * 5 + 4, none⟩ (.int .i64 ((rd_T50 l0 x4_1).f1.f3)))) ?hg ?ho ?hn ?hr ?_; (case ho => rfl); (case hg => rfl); (case hn => rfl); (case hr => first | (go_simp; done) | (go_simp; rfl)); intro w34 hw; have hg : wr.grownBy w34 (some go32) := (by rw [hw]; exact HP33.2); have hp_ : Kd.R k50 50 w34 w.heap.size (fun _ => True) (.slice (some ⟨go32, 0, none⟩) x3_2.length co32) y143 := (by rw [hw, Ny143.out]; exact HP33.1); clear HP33; have n0_ := Aside0.mk (hp_); have n1_ := Aside0.mk ((by rw [hw]; exact below_set (below_set (below_set (below_set (below_set (HB.out) GB32.out) GB32.out) GB32.out) GB32.out) GB32.out : Below w.heap.size w w34)); clear HO_3; clear HB; have HO_3 := n0_; have HB := n1_; clear n0_ n1_; clear hg hw hp_)))
             go_roundg k2
             case measure => have := HK1.out; have := HK2.out; omega
             case rel => exact ⟨(y143), (wrap64 (x4_1 + 1)), (by first | rfl | (simp; done) | (simp [*]; done)), H', ⟨by have := HK1.out; have := HK2.out; omega⟩, ⟨mR HO_3.out⟩, ⟨mB HB.out⟩⟩
            ·rw [if_neg c31] at H
             exact absurd H (by simp)
           ·rw [if_neg c30] at H
            exact absurd H (by simp)
          ·rw [if_neg c29] at H
           exact absurd H (by simp)
         ·rw [if_neg c28] at H
          exact absurd H (by simp)
     ·rw [if_neg c6] at H
      exact absurd H (by simp)
    ·rw [if_neg c5] at H
     exact absurd H (by simp)
   ·rw [if_neg c4] at H
    have c4b0 : decide (x4_1 < (l0.length : Int)) = false := decide_eq_false c4
    clear c4
    obtain rfl := Option.some.inj H
    go_wp2
    repeat (go_quiet (fail); try go_wp2)
    go_ret
    exact ⟨_, mE, mR HO_3.out, mB HB.out⟩

/-! ### spec_l8Down: function 80 -/
def spec_l8Down.f (a0 : Int) (a1 : Int) : Option (Int) := if a1 = 0 then (none) else (if (Int.tmod a0 a1) < 0 then (some (wrap64 ((wrap64 (Int.tdiv a0 a1)) - 1))) else (some (wrap64 (Int.tdiv a0 a1))))
set_option maxHeartbeats 8000000 in
set_option maxRecDepth 100000 in
theorem spec_l8Down.calls (a0 : Int) (a1 : Int) (r : Int) (w : World) (h : spec_l8Down.f a0 a1 = some r) :
  Calls Try.prog 80 #[.int .i64 a0, .int .i64 a1] w fun e w' => e = .returned (.int .i64 r) ∧ Drawn0 w w' := by
 have H : (if a1 = 0 then (none) else (if (Int.tmod a0 a1) < 0 then (some (wrap64 ((wrap64 (Int.tdiv a0 a1)) - 1))) else (some (wrap64 (Int.tdiv a0 a1))))) = some r := h
 clear h
 by_cases c3 : a1 = 0
 ·rw [if_pos c3] at H
  exact absurd H (by simp)
 ·rw [if_neg c3] at H
  have c3b0 : (a1 == 0) = false := beq_eq_false_iff_ne.mpr c3
  have c3b1 : (a1 != 0) = true := bne_iff_ne.mpr c3
  by_cases c4 : (Int.tmod a0 a1) < 0
  ·rw [if_pos c4] at H
   have c4b0 : decide ((Int.tmod a0 a1) < 0) = true := decide_eq_true c4
   clear c4
   obtain rfl := Option.some.inj H
   go_enter Try.func80, Try.ntmps80
   go_wp2
   go_ret
   exact ⟨by first | rfl | (simp; done) | (simp [*]; done), by repeat (first | exact Drawn0.refl _ | apply Drawn0.step)⟩
  ·rw [if_neg c4] at H
   have c4b0 : decide ((Int.tmod a0 a1) < 0) = false := decide_eq_false c4
   clear c4
   obtain rfl := Option.some.inj H
   go_enter Try.func80, Try.ntmps80
   go_wp2
   go_ret
   exact ⟨by first | rfl | (simp; done) | (simp [*]; done), by repeat (first | exact Drawn0.refl _ | apply Drawn0.step)⟩

/-! ### spec_l9Round: function 76 -/
def spec_l9Round.f (a0 : Int) (a1 : Int) : Option (Int) := (spec_l8Down.f (wrap64 ((wrap64 (2 * a0)) + a1)) (wrap64 (2 * a1))).bind fun t144 => (some t144)
set_option maxHeartbeats 8000000 in
set_option maxRecDepth 100000 in
theorem spec_l9Round.calls (a0 : Int) (a1 : Int) (r : Int) (w : World) (h : spec_l9Round.f a0 a1 = some r) :
  Calls Try.prog 76 #[.int .i64 a0, .int .i64 a1] w fun e w' => e = .returned (.int .i64 r) ∧ Drawn0 w w' := by
 have H : ((spec_l8Down.f (wrap64 ((wrap64 (2 * a0)) + a1)) (wrap64 (2 * a1))).bind fun t144 => (some t144)) = some r := h
 clear h
 replace H := Option.bind_eq_some_iff.mp H
 obtain ⟨t144, A30, H⟩ := H
 have A3 := Aside0.mk A30
 clear A30
 obtain rfl := Option.some.inj H
 go_enter Try.func76, Try.ntmps76
 go_wp2_with (first | ((with_reducible refine gate_callee (f := 80) rfl ?_); refine goesL_ (some 11) rfl rfl Try.func80 (by kernel_rfl) rfl #[.int .i64 (wrap64 ((wrap64 (2 * a0)) + a1)), .int .i64 (wrap64 (2 * a1))] rfl mT ?_; (with_reducible refine (spec_l8Down.calls (wrap64 ((wrap64 (2 * a0)) + a1)) (wrap64 (2 * a1)) t144 _ A3.out).mono ?_); rintro e w' ⟨rfl, ⟨nd, rfl⟩⟩; refine ⟨_, rfl, ?_⟩))
 go_ret
 exact ⟨by first | rfl | (simp; done) | (simp [*]; done), by repeat (first | exact Drawn0.refl _ | apply Drawn0.step)⟩

/-! ### spec_l11Part: function 70 -/
def spec_l11Part.f (a0 : Int) (a1 : Int) : Option (Int) := (spec_l9Round.f (wrap64 (a0 * a1)) 255).bind fun t145 => (some t145)
set_option maxHeartbeats 8000000 in
set_option maxRecDepth 100000 in
theorem spec_l11Part.calls (a0 : Int) (a1 : Int) (r : Int) (w : World) (h : spec_l11Part.f a0 a1 = some r) :
  Calls Try.prog 70 #[.int .i64 a0, .int .i64 a1] w fun e w' => e = .returned (.int .i64 r) ∧ Drawn0 w w' := by
 have H : ((spec_l9Round.f (wrap64 (a0 * a1)) 255).bind fun t145 => (some t145)) = some r := h
 clear h
 replace H := Option.bind_eq_some_iff.mp H
 obtain ⟨t145, A30, H⟩ := H
 have A3 := Aside0.mk A30
 clear A30
 obtain rfl := Option.some.inj H
 go_enter Try.func70, Try.ntmps70
 go_wp2_with (first | ((with_reducible refine gate_callee (f := 76) rfl ?_); refine goesL_ (some 8) rfl rfl Try.func76 (by kernel_rfl) rfl #[.int .i64 (wrap64 (a0 * a1)), .int .i64 255] rfl mT ?_; (with_reducible refine (spec_l9Round.calls (wrap64 (a0 * a1)) 255 t145 _ A3.out).mono ?_); rintro e w' ⟨rfl, ⟨nd, rfl⟩⟩; refine ⟨_, rfl, ?_⟩))
 go_ret
 exact ⟨by first | rfl | (simp; done) | (simp [*]; done), by repeat (first | exact Drawn0.refl _ | apply Drawn0.step)⟩

/-! ### spec_l11Scale: function 56 -/
def spec_l11Scale.f (a0_0 : Int) (a0_1 : Int) (a0_2 : Int) (a0_3 : Int) (a1 : Int) : Option (Int × Int × Int × Int) := (spec_l11Part.f a0_0 a1).bind fun t148 => ((spec_l11Part.f a0_1 a1).bind fun t149 => ((spec_l11Part.f a0_2 a1).bind fun t150 => ((spec_l11Part.f a0_3 a1).bind fun t151 => (some (t148, t149, t150, t151)))))
def spec_l11Scale.T1 : Bool × List (List Nat × List Nat) := (true, [([], []), ([0], [0]), ([], []), ([1, 2], [1, 2]), ([], []), ([4], [4]), ([], []), ([5, 6, 3], [5, 6]), ([], []), ([8], [8]), ([], []), ([9, 10, 7], [9, 10]), ([], []), ([12], [12]), ([], []), ([13, 14, 11], [13, 14]), ([3, 7, 11, 15], [3, 7, 11, 15]), ([16, 15, 0, 1, 2, 3, 4, 5, 6, 7, 8, 9, 10, 11, 12, 13, 14, 15, 16], [16])])
def spec_l11Scale.B1 : List Nat := [0, 1, 0, 7, 0, 16, 0, 127, 0, 256, 0, 2047, 0, 4096, 0, 32767, 65535, 131071]
theorem spec_l11Scale.tab1 : rtab .any (opsOf Try.f56 1) = spec_l11Scale.T1 := by kernel_rfl
theorem spec_l11Scale.bits1 : waitsOk spec_l11Scale.T1.2 spec_l11Scale.B1 = true := by kernel_rfl
set_option maxHeartbeats 8000000 in
set_option maxRecDepth 100000 in
theorem spec_l11Scale.calls (a0_0 : Int) (a0_1 : Int) (a0_2 : Int) (a0_3 : Int) (a1 : Int) (r1 : Int) (r2 : Int) (r3 : Int) (r4 : Int) (w : World) (h : spec_l11Scale.f a0_0 a0_1 a0_2 a0_3 a1 = some (r1, r2, r3, r4)) :
  Calls Try.prog 56 #[.agg #[.int .i64 a0_0, .int .i64 a0_1, .int .i64 a0_2, .int .i64 a0_3], .int .i64 a1] w fun e w' => e = .returned (.agg #[.int .i64 r1, .int .i64 r2, .int .i64 r3, .int .i64 r4]) ∧ Below w.heap.size w w' := by
 have hu35 := Try.underlying35
 have HB := Aside0.mk (Below.refl w.heap.size w)
 have H : ((spec_l11Part.f a0_0 a1).bind fun t148 => ((spec_l11Part.f a0_1 a1).bind fun t149 => ((spec_l11Part.f a0_2 a1).bind fun t150 => ((spec_l11Part.f a0_3 a1).bind fun t151 => (some (t148, t149, t150, t151)))))) = some (r1, r2, r3, r4) := h
 clear h
 replace H := Option.bind_eq_some_iff.mp H
 obtain ⟨t148, A30, H⟩ := H
 have A3 := Aside0.mk A30
 clear A30
 replace H := Option.bind_eq_some_iff.mp H
 obtain ⟨t149, A40, H⟩ := H
 have A4 := Aside0.mk A40
 clear A40
 replace H := Option.bind_eq_some_iff.mp H
 obtain ⟨t150, A50, H⟩ := H
 have A5 := Aside0.mk A50
 clear A50
 replace H := Option.bind_eq_some_iff.mp H
 obtain ⟨t151, A60, H⟩ := H
 have A6 := Aside0.mk A60
 clear A60
 simp only [Option.some.injEq, Prod.mk.injEq] at H
 obtain ⟨rfl, rfl, rfl, rfl⟩ := H
 go_enter Try.func56, Try.ntmps56
 try go_wp2_with (first | ((with_reducible refine gate_dst (N := 2) rfl ?_); refine box_event ?hg (N := 2) ?hd (cs := #[.int .i64 a0_0, .int .i64 a0_1, .int .i64 a0_2, .int .i64 a0_3]) (t := 35) ?hr ?_; (case hd => rfl); (case hg => rfl); (case hr => first | (go_simp; done) | (go_simp; rfl)); intro gb146 hg w7 hbox hb; have n0_ := Aside0.mk (below_step (mB HB.out) hb); have n1_ := Aside0.mk (hbox); have n2_ := Aside0.mk ((by rw [hg]; exact (below_size (mB HB.out)) : w.heap.size ≤ gb146)); have n3_ := Aside0.mk ((by rw [hg]; exact (below_size (mB HB.out)) : w.heap.size ≤ gb146)); clear HB; have HB := n0_; have BK146 := n1_; have GW146 := n2_; have GE146 := n3_; clear n0_ n1_ n2_ n3_; clear hb hbox hg) | ((with_reducible refine gate_dst (N := 4) rfl ?_); refine box_event ?hg (N := 4) ?hd (cs := #[.int .i64 0, .int .i64 0, .int .i64 0, .int .i64 0]) (t := 35) ?hr ?_; (case hd => rfl); (case hg => rfl); (case hr => first | (go_simp; done) | (go_simp; rfl)); intro gb147 hg w8 hbox hb; have n0_ := Aside0.mk (blk_below (g := gb146) (o := .cells #[.int .i64 a0_0, .int .i64 a0_1, .int .i64 a0_2, .int .i64 a0_3] 35 (0, 0)) (mK BK146.out) hb); have n1_ := Aside0.mk (below_step (mB1 GE146.out HB.out) hb); have n2_ := Aside0.mk (hbox); have n3_ := Aside0.mk ((by rw [hg]; exact (below_size (mB1 GE146.out HB.out)) : w.heap.size ≤ gb147)); have n4_ := Aside0.mk ((by rw [hg]; exact (below_size (mB1 GE146.out HB.out)) : w.heap.size ≤ gb147)); have n5_ := Aside0.mk ((by rw [hg]; exact Nat.ne_of_lt (blk_lt (g := gb146) (o := .cells #[.int .i64 a0_0, .int .i64 a0_1, .int .i64 a0_2, .int .i64 a0_3] 35 (0, 0)) (mK BK146.out)) : gb146 ≠ gb147)); have n6_ := Aside0.mk ((by rw [hg]; exact Nat.ne_of_gt (blk_lt (g := gb146) (o := .cells #[.int .i64 a0_0, .int .i64 a0_1, .int .i64 a0_2, .int .i64 a0_3] 35 (0, 0)) (mK BK146.out)) : gb147 ≠ gb146)); clear BK146; clear HB; have BK146 := n0_; have HB := n1_; have BK147 := n2_; have GW147 := n3_; have GE147 := n4_; have NB146_147 := n5_; have NB147_146 := n6_; clear n0_ n1_ n2_ n3_ n4_ n5_ n6_; clear hb hbox hg))
 have n0_ := Aside0.mk (blk_drew BK146.out)
 have n1_ := Aside0.mk (blk_drew BK147.out)
 have n2_ := Aside0.mk (below_drew1 HB.out)
 clear BK146
 clear BK147
 clear HB
 have BK146 := n0_
 have BK147 := n1_
 have HB := n2_
 clear n0_ n1_ n2_
 refine start_ (n := 18) (S := fun w' => w'.cell? ⟨gb146, 0, none⟩ = some (.int .i64 a0_0) ∧ w'.cell? ⟨gb146, 1, none⟩ = some (.int .i64 a0_1) ∧ w'.cell? ⟨gb146, 2, none⟩ = some (.int .i64 a0_2) ∧ w'.cell? ⟨gb146, 3, none⟩ = some (.int .i64 a0_3)) (ds := []) #[false, false, false, false, false, false, false, false, false, false, false, false, false, false, false, false, false, false] (by kernel_rfl) rfl rfl ⟨(blk_cell BK146.out 0).trans rfl, (blk_cell BK146.out 1).trans rfl, (blk_cell BK146.out 2).trans rfl, (blk_cell BK146.out 3).trans rfl⟩ (fun hHeld => ?_); refine with_tabW spec_l11Scale.tab1 spec_l11Scale.bits1 (fun HT_ HW_ => ?_)
 generalize w8.drew = w9 at BK146 BK147 HB hHeld ⊢
 refine pure_ (i := 0) (N := some 5) (v := ?_) (a' := ?_) #[true, false, false, false, false, false, false, false, false, false, false, false, false, false, false, false, false, false] rfl rfl (any_of HT_.out (by kernel_rfl)) (fun _ _ _ h => h) (Or.inl ⟨by rfl, ?_⟩) ?_ ?_
 rotate_left
 ·intro w'
  go_simp
  with_reducible rfl
 rotate_left
 ·simp only [Act.put, List.setIfInBounds_toArray, List.set_cons_zero, List.set_cons_succ, i64_w, i32_w]
  rfl
 refine pure_ (i := 2) (N := some 7) (v := ?_) (a' := ?_) #[true, false, true, false, false, false, false, false, false, false, false, false, false, false, false, false, false, false] rfl rfl (any_of HT_.out (by kernel_rfl)) (fun _ _ _ h => h) (Or.inl ⟨by rfl, ?_⟩) ?_ ?_
 rotate_left
 ·intro w'
  go_simp
  with_reducible rfl
 rotate_left
 ·simp only [Act.put, List.setIfInBounds_toArray, List.set_cons_zero, List.set_cons_succ, i64_w, i32_w]
  rfl
 refine pure_ (i := 4) (N := some 9) (v := ?_) (a' := ?_) #[true, false, true, false, true, false, false, false, false, false, false, false, false, false, false, false, false, false] rfl rfl (any_of HT_.out (by kernel_rfl)) (fun _ _ _ h => h) (Or.inl ⟨by rfl, ?_⟩) ?_ ?_
 rotate_left
 ·intro w'
  go_simp
  with_reducible rfl
 rotate_left
 ·simp only [Act.put, List.setIfInBounds_toArray, List.set_cons_zero, List.set_cons_succ, i64_w, i32_w]
  rfl
 refine pure_ (i := 6) (N := some 11) (v := ?_) (a' := ?_) #[true, false, true, false, true, false, true, false, false, false, false, false, false, false, false, false, false, false] rfl rfl (any_of HT_.out (by kernel_rfl)) (fun _ _ _ h => h) (Or.inl ⟨by rfl, ?_⟩) ?_ ?_
 rotate_left
 ·intro w'
  go_simp
  with_reducible rfl
 rotate_left
 ·simp only [Act.put, List.setIfInBounds_toArray, List.set_cons_zero, List.set_cons_succ, i64_w, i32_w]
  rfl
 refine pure_ (i := 8) (N := some 13) (v := ?_) (a' := ?_) #[true, false, true, false, true, false, true, false, true, false, false, false, false, false, false, false, false, false] rfl rfl (any_of HT_.out (by kernel_rfl)) (fun _ _ _ h => h) (Or.inl ⟨by rfl, ?_⟩) ?_ ?_
 rotate_left
 ·intro w'
  go_simp
  with_reducible rfl
 rotate_left
 ·simp only [Act.put, List.setIfInBounds_toArray, List.set_cons_zero, List.set_cons_succ, i64_w, i32_w]
  rfl
 refine pure_ (i := 10) (N := some 15) (v := ?_) (a' := ?_) #[true, false, true, false, true, false, true, false, true, false, true, false, false, false, false, false, false, false] rfl rfl (any_of HT_.out (by kernel_rfl)) (fun _ _ _ h => h) (Or.inl ⟨by rfl, ?_⟩) ?_ ?_
 rotate_left
 ·intro w'
  go_simp
  with_reducible rfl
 rotate_left
 ·simp only [Act.put, List.setIfInBounds_toArray, List.set_cons_zero, List.set_cons_succ, i64_w, i32_w]
  rfl
 refine pure_ (i := 12) (N := some 17) (v := ?_) (a' := ?_) #[true, false, true, false, true, false, true, false, true, false, true, false, true, false, false, false, false, false] rfl rfl (any_of HT_.out (by kernel_rfl)) (fun _ _ _ h => h) (Or.inl ⟨by rfl, ?_⟩) ?_ ?_
 rotate_left
 ·intro w'
  go_simp
  with_reducible rfl
 rotate_left
 ·simp only [Act.put, List.setIfInBounds_toArray, List.set_cons_zero, List.set_cons_succ, i64_w, i32_w]
  rfl
 refine pure_ (i := 14) (N := some 19) (v := ?_) (a' := ?_) #[true, false, true, false, true, false, true, false, true, false, true, false, true, false, true, false, false, false] rfl rfl (any_of HT_.out (by kernel_rfl)) (fun _ _ _ h => h) (Or.inl ⟨by rfl, ?_⟩) ?_ ?_
 rotate_left
 ·intro w'
  go_simp
  with_reducible rfl
 rotate_left
 ·simp only [Act.put, List.setIfInBounds_toArray, List.set_cons_zero, List.set_cons_succ, i64_w, i32_w]
  rfl
 refine take_ (i := 1) (N := some 6) (v := ?_) (a' := ?_) #[true, true, true, false, true, false, true, false, true, false, true, false, true, false, true, false, false, false] rfl rfl (take_ofW HT_.out HW_.out (by kernel_rfl)) (fun _ _ _ h => h) (Or.inl ⟨by rfl, ?_⟩) hHeld ?_ ?_
 rotate_left
 ·rintro w' ⟨s0, s1, s2, s3⟩
  go_simp
  with_reducible rfl
 rotate_left
 ·simp only [Act.put, List.setIfInBounds_toArray, List.set_cons_zero, List.set_cons_succ, i64_w, i32_w]
  rfl
 refine take_ (i := 5) (N := some 10) (v := ?_) (a' := ?_) #[true, true, true, false, true, true, true, false, true, false, true, false, true, false, true, false, false, false] rfl rfl (take_ofW HT_.out HW_.out (by kernel_rfl)) (fun _ _ _ h => h) (Or.inl ⟨by rfl, ?_⟩) hHeld ?_ ?_
 rotate_left
 ·rintro w' ⟨s0, s1, s2, s3⟩
  go_simp
  with_reducible rfl
 rotate_left
 ·simp only [Act.put, List.setIfInBounds_toArray, List.set_cons_zero, List.set_cons_succ, i64_w, i32_w]
  rfl
 refine take_ (i := 9) (N := some 14) (v := ?_) (a' := ?_) #[true, true, true, false, true, true, true, false, true, true, true, false, true, false, true, false, false, false] rfl rfl (take_ofW HT_.out HW_.out (by kernel_rfl)) (fun _ _ _ h => h) (Or.inl ⟨by rfl, ?_⟩) hHeld ?_ ?_
 rotate_left
 ·rintro w' ⟨s0, s1, s2, s3⟩
  go_simp
  with_reducible rfl
 rotate_left
 ·simp only [Act.put, List.setIfInBounds_toArray, List.set_cons_zero, List.set_cons_succ, i64_w, i32_w]
  rfl
 refine take_ (i := 13) (N := some 18) (v := ?_) (a' := ?_) #[true, true, true, false, true, true, true, false, true, true, true, false, true, true, true, false, false, false] rfl rfl (take_ofW HT_.out HW_.out (by kernel_rfl)) (fun _ _ _ h => h) (Or.inl ⟨by rfl, ?_⟩) hHeld ?_ ?_
 rotate_left
 ·rintro w' ⟨s0, s1, s2, s3⟩
  go_simp
  with_reducible rfl
 rotate_left
 ·simp only [Act.put, List.setIfInBounds_toArray, List.set_cons_zero, List.set_cons_succ, i64_w, i32_w]
  rfl
 refine one_ (i := 3) (N := some 8) #[true, true, true, true, true, true, true, false, true, true, true, false, true, true, true, false, false, false] rfl rfl (one_of HT_.out (by kernel_rfl)) (by decide) (fun K hK => ?_)
 refine goes_ Try.func70 (by kernel_rfl) rfl #[.int .i64 a0_0, .int .i64 a1] (by rfl) rfl rfl mT ?_
 with_reducible refine (spec_l11Part.calls a0_0 a1 t148 _ A3.out).mono ?_
 rintro e w' ⟨rfl, ⟨nd, rfl⟩⟩
 refine ⟨_, rfl, ?_⟩
 refine hK.out _ _ ⟨(blk_cell BK146.out 0).trans rfl, (blk_cell BK146.out 1).trans rfl, (blk_cell BK146.out 2).trans rfl, (blk_cell BK146.out 3).trans rfl⟩ (fun hHeld => ?_)
 clear hK K
 refine norm_ (a' := ?_) ?_ ?_
 rotate_left
 ·show Act.put _ (some 8) _ = _
  simp only [Act.put, List.setIfInBounds_toArray, List.set_cons_zero, List.set_cons_succ, i64_w, i32_w]
  rfl
 refine one_ (i := 7) (N := some 12) #[true, true, true, true, true, true, true, true, true, true, true, false, true, true, true, false, false, false] rfl rfl (one_of HT_.out (by kernel_rfl)) (by decide) (fun K hK => ?_)
 refine goes_ Try.func70 (by kernel_rfl) rfl #[.int .i64 a0_1, .int .i64 a1] (by rfl) rfl rfl mT ?_
 with_reducible refine (spec_l11Part.calls a0_1 a1 t149 _ A4.out).mono ?_
 rintro e w' ⟨rfl, ⟨nd, rfl⟩⟩
 refine ⟨_, rfl, ?_⟩
 refine hK.out _ _ ⟨(blk_cell BK146.out 0).trans rfl, (blk_cell BK146.out 1).trans rfl, (blk_cell BK146.out 2).trans rfl, (blk_cell BK146.out 3).trans rfl⟩ (fun hHeld => ?_)
 clear hK K
 refine norm_ (a' := ?_) ?_ ?_
 rotate_left
 ·show Act.put _ (some 12) _ = _
  simp only [Act.put, List.setIfInBounds_toArray, List.set_cons_zero, List.set_cons_succ, i64_w, i32_w]
  rfl
 refine one_ (i := 11) (N := some 16) #[true, true, true, true, true, true, true, true, true, true, true, true, true, true, true, false, false, false] rfl rfl (one_of HT_.out (by kernel_rfl)) (by decide) (fun K hK => ?_)
 refine goes_ Try.func70 (by kernel_rfl) rfl #[.int .i64 a0_2, .int .i64 a1] (by rfl) rfl rfl mT ?_
 with_reducible refine (spec_l11Part.calls a0_2 a1 t150 _ A5.out).mono ?_
 rintro e w' ⟨rfl, ⟨nd, rfl⟩⟩
 refine ⟨_, rfl, ?_⟩
 refine hK.out _ _ ⟨(blk_cell BK146.out 0).trans rfl, (blk_cell BK146.out 1).trans rfl, (blk_cell BK146.out 2).trans rfl, (blk_cell BK146.out 3).trans rfl⟩ (fun hHeld => ?_)
 clear hK K
 refine norm_ (a' := ?_) ?_ ?_
 rotate_left
 ·show Act.put _ (some 16) _ = _
  simp only [Act.put, List.setIfInBounds_toArray, List.set_cons_zero, List.set_cons_succ, i64_w, i32_w]
  rfl
 refine one_ (i := 15) (N := some 20) #[true, true, true, true, true, true, true, true, true, true, true, true, true, true, true, true, false, false] rfl rfl (one_of HT_.out (by kernel_rfl)) (by decide) (fun K hK => ?_)
 refine goes_ Try.func70 (by kernel_rfl) rfl #[.int .i64 a0_3, .int .i64 a1] (by rfl) rfl rfl mT ?_
 with_reducible refine (spec_l11Part.calls a0_3 a1 t151 _ A6.out).mono ?_
 rintro e w' ⟨rfl, ⟨nd, rfl⟩⟩
 refine ⟨_, rfl, ?_⟩
 refine hK.out _ _ ⟨(blk_cell BK146.out 0).trans rfl, (blk_cell BK146.out 1).trans rfl, (blk_cell BK146.out 2).trans rfl, (blk_cell BK146.out 3).trans rfl⟩ (fun hHeld => ?_)
 clear hK K
 refine norm_ (a' := ?_) ?_ ?_
 rotate_left
 ·show Act.put _ (some 20) _ = _
  simp only [Act.put, List.setIfInBounds_toArray, List.set_cons_zero, List.set_cons_succ, i64_w, i32_w]
  rfl
 refine pure_ (i := 16) (N := some 21) (v := ?_) (a' := ?_) #[true, true, true, true, true, true, true, true, true, true, true, true, true, true, true, true, true, false] rfl rfl (any_of HT_.out (by kernel_rfl)) (fun _ _ _ h => h) (Or.inl ⟨by rfl, ?_⟩) ?_ ?_
 rotate_left
 ·intro w'
  go_simp
  with_reducible rfl
 rotate_left
 ·simp only [Act.put, List.setIfInBounds_toArray, List.set_cons_zero, List.set_cons_succ, i64_w, i32_w]
  rfl
 refine one_ (i := 17) (N := none) #[true, true, true, true, true, true, true, true, true, true, true, true, true, true, true, true, true, true] rfl rfl (one_of HT_.out (by kernel_rfl)) (by decide) (fun K hK => ?_)
 have hs10 : w9.cell? ⟨gb147, 0, none⟩ = some (.int .i64 0) := (blk_cell BK147.out 0).trans rfl
 have hfs10 := blk_frozen BK147.out 0
 have hns10_0 := NB146_147.out
 have hms10_0 := NB147_146.out
 have hs11 : w9.cell? ⟨gb147, 1, none⟩ = some (.int .i64 0) := (blk_cell BK147.out 1).trans rfl
 have hfs11 := blk_frozen BK147.out 1
 have hns11_0 := NB146_147.out
 have hms11_0 := NB147_146.out
 have hs12 : w9.cell? ⟨gb147, 2, none⟩ = some (.int .i64 0) := (blk_cell BK147.out 2).trans rfl
 have hfs12 := blk_frozen BK147.out 2
 have hns12_0 := NB146_147.out
 have hms12_0 := NB147_146.out
 have hs13 : w9.cell? ⟨gb147, 3, none⟩ = some (.int .i64 0) := (blk_cell BK147.out 3).trans rfl
 have hfs13 := blk_frozen BK147.out 3
 have hns13_0 := NB146_147.out
 have hms13_0 := NB147_146.out
 refine skip_ (w1 := ?_) (by rfl) rfl ?_ ?_
 rotate_left
 ·go_simp
  rfl
 refine hK.out _ _ ⟨((cell_far (p := ⟨gb147, _, none⟩) NB146_147.out _).trans (((cell_far (p := ⟨gb147, _, none⟩) NB146_147.out _).trans (((cell_far (p := ⟨gb147, _, none⟩) NB146_147.out _).trans (((cell_far (p := ⟨gb147, _, none⟩) NB146_147.out _).trans (hHeld.1)))))))), ((cell_far (p := ⟨gb147, _, none⟩) NB146_147.out _).trans (((cell_far (p := ⟨gb147, _, none⟩) NB146_147.out _).trans (((cell_far (p := ⟨gb147, _, none⟩) NB146_147.out _).trans (((cell_far (p := ⟨gb147, _, none⟩) NB146_147.out _).trans (hHeld.2.1)))))))), ((cell_far (p := ⟨gb147, _, none⟩) NB146_147.out _).trans (((cell_far (p := ⟨gb147, _, none⟩) NB146_147.out _).trans (((cell_far (p := ⟨gb147, _, none⟩) NB146_147.out _).trans (((cell_far (p := ⟨gb147, _, none⟩) NB146_147.out _).trans (hHeld.2.2.1)))))))), ((cell_far (p := ⟨gb147, _, none⟩) NB146_147.out _).trans (((cell_far (p := ⟨gb147, _, none⟩) NB146_147.out _).trans (((cell_far (p := ⟨gb147, _, none⟩) NB146_147.out _).trans (((cell_far (p := ⟨gb147, _, none⟩) NB146_147.out _).trans (hHeld.2.2.2))))))))⟩ (fun hHeld => ?_)
 clear hK K
 refine done_ (done_of HT_.out (by kernel_rfl)) ?_
 try go_wp2
 refine bodyPost_ret (results_cell_row rfl _ _ gb147 35 #[.int .i64 t148, .int .i64 t149, .int .i64 t150, .int .i64 t151] (0, 0) _ rfl (by refine mK ?_; refine blk_put (cs := #[.int .i64 t148, .int .i64 t149, .int .i64 t150, .int .i64 0]) ?_ 3 _ rfl; refine mK ?_; refine blk_put (cs := #[.int .i64 t148, .int .i64 t149, .int .i64 0, .int .i64 0]) ?_ 2 _ rfl; refine mK ?_; refine blk_put (cs := #[.int .i64 t148, .int .i64 0, .int .i64 0, .int .i64 0]) ?_ 1 _ rfl; refine mK ?_; refine blk_put (cs := #[.int .i64 0, .int .i64 0, .int .i64 0, .int .i64 0]) ?_ 0 _ rfl; refine mK ?_; exact BK147.out) Try.underlying35 rfl (by kernel_rfl)) rfl ?_
 exact ⟨mE, mB2 GE146.out GE147.out HB.out⟩

/-! ### spec_l11Over: function 42 -/
def spec_l11Over.f (a0_0 : Int) (a0_1 : Int) (a0_2 : Int) (a0_3 : Int) (a1_0 : Int) (a1_1 : Int) (a1_2 : Int) (a1_3 : Int) : Option (Int × Int × Int × Int) := (spec_l11Scale.f a1_0 a1_1 a1_2 a1_3 (wrap64 (255 - a0_3))).bind fun bt155 => (some (wrap64 (a0_0 + bt155.1), wrap64 (a0_1 + bt155.2.1), wrap64 (a0_2 + bt155.2.2.1), wrap64 (a0_3 + bt155.2.2.2)))
set_option maxHeartbeats 8000000 in
set_option maxRecDepth 100000 in
theorem spec_l11Over.calls (a0_0 : Int) (a0_1 : Int) (a0_2 : Int) (a0_3 : Int) (a1_0 : Int) (a1_1 : Int) (a1_2 : Int) (a1_3 : Int) (r1 : Int) (r2 : Int) (r3 : Int) (r4 : Int) (w : World) (h : spec_l11Over.f a0_0 a0_1 a0_2 a0_3 a1_0 a1_1 a1_2 a1_3 = some (r1, r2, r3, r4)) :
  Calls Try.prog 42 #[.agg #[.int .i64 a0_0, .int .i64 a0_1, .int .i64 a0_2, .int .i64 a0_3], .agg #[.int .i64 a1_0, .int .i64 a1_1, .int .i64 a1_2, .int .i64 a1_3]] w fun e w' => e = .returned (.agg #[.int .i64 r1, .int .i64 r2, .int .i64 r3, .int .i64 r4]) ∧ Below w.heap.size w w' := by
 have hu35 := Try.underlying35
 have HB := Aside0.mk (Below.refl w.heap.size w)
 have H : ((spec_l11Scale.f a1_0 a1_1 a1_2 a1_3 (wrap64 (255 - a0_3))).bind fun bt155 => (some (wrap64 (a0_0 + bt155.1), wrap64 (a0_1 + bt155.2.1), wrap64 (a0_2 + bt155.2.2.1), wrap64 (a0_3 + bt155.2.2.2)))) = some (r1, r2, r3, r4) := h
 clear h
 replace H := Option.bind_eq_some_iff.mp H
 obtain ⟨⟨t155, t156, t157, t158⟩, A30, H⟩ := H
 have A3 := Aside0.mk A30
 clear A30
 simp only [Option.some.injEq, Prod.mk.injEq] at H
 obtain ⟨rfl, rfl, rfl, rfl⟩ := H
 go_enter Try.func42, Try.ntmps42
 go_wp2_with (first | ((with_reducible refine gate_dst (N := 2) rfl ?_); refine box_event ?hg (N := 2) ?hd (cs := #[.int .i64 a0_0, .int .i64 a0_1, .int .i64 a0_2, .int .i64 a0_3]) (t := 35) ?hr ?_; (case hd => rfl); (case hg => rfl); (case hr => first | (go_simp; done) | (go_simp; rfl)); intro gb152 hg w4 hbox hb; have n0_ := Aside0.mk (below_step (mB HB.out) hb); have n1_ := Aside0.mk (hbox); have n2_ := Aside0.mk ((by rw [hg]; exact (below_size (mB HB.out)) : w.heap.size ≤ gb152)); have n3_ := Aside0.mk ((by rw [hg]; exact (below_size (mB HB.out)) : w.heap.size ≤ gb152)); clear HB; have HB := n0_; have BK152 := n1_; have GW152 := n2_; have GE152 := n3_; clear n0_ n1_ n2_ n3_; clear hb hbox hg) | ((with_reducible refine gate_dst (N := 3) rfl ?_); refine box_event ?hg (N := 3) ?hd (cs := #[.int .i64 a1_0, .int .i64 a1_1, .int .i64 a1_2, .int .i64 a1_3]) (t := 35) ?hr ?_; (case hd => rfl); (case hg => rfl); (case hr => first | (go_simp; done) | (go_simp; rfl)); intro gb153 hg w5 hbox hb; have n0_ := Aside0.mk (blk_below (g := gb152) (o := .cells #[.int .i64 a0_0, .int .i64 a0_1, .int .i64 a0_2, .int .i64 a0_3] 35 (0, 0)) (mK BK152.out) hb); have n1_ := Aside0.mk (below_step (mB1 GE152.out HB.out) hb); have n2_ := Aside0.mk (hbox); have n3_ := Aside0.mk ((by rw [hg]; exact (below_size (mB1 GE152.out HB.out)) : w.heap.size ≤ gb153)); have n4_ := Aside0.mk ((by rw [hg]; exact (below_size (mB1 GE152.out HB.out)) : w.heap.size ≤ gb153)); have n5_ := Aside0.mk ((by rw [hg]; exact Nat.ne_of_lt (blk_lt (g := gb152) (o := .cells #[.int .i64 a0_0, .int .i64 a0_1, .int .i64 a0_2, .int .i64 a0_3] 35 (0, 0)) (mK BK152.out)) : gb152 ≠ gb153)); have n6_ := Aside0.mk ((by rw [hg]; exact Nat.ne_of_gt (blk_lt (g := gb152) (o := .cells #[.int .i64 a0_0, .int .i64 a0_1, .int .i64 a0_2, .int .i64 a0_3] 35 (0, 0)) (mK BK152.out)) : gb153 ≠ gb152)); clear BK152; clear HB; have BK152 := n0_; have HB := n1_; have BK153 := n2_; have GW153 := n3_; have GE153 := n4_; have NB152_153 := n5_; have NB153_152 := n6_; clear n0_ n1_ n2_ n3_ n4_ n5_ n6_; clear hb hbox hg) | ((with_reducible refine gate_dst (N := 4) rfl ?_); refine box_event ?hg (N := 4) ?hd (cs := #[.int .i64 0, .int .i64 0, .int .i64 0, .int .i64 0]) (t := 35) ?hr ?_; (case hd => rfl); (case hg => rfl); (case hr => first | (go_simp; done) | (go_simp; rfl)); intro gb154 hg w6 hbox hb; have n0_ := Aside0.mk (blk_below (g := gb152) (o := .cells #[.int .i64 a0_0, .int .i64 a0_1, .int .i64 a0_2, .int .i64 a0_3] 35 (0, 0)) (mK BK152.out) hb); have n1_ := Aside0.mk (blk_below (g := gb153) (o := .cells #[.int .i64 a1_0, .int .i64 a1_1, .int .i64 a1_2, .int .i64 a1_3] 35 (0, 0)) (mK BK153.out) hb); have n2_ := Aside0.mk (below_step (mB2 GE152.out GE153.out HB.out) hb); have n3_ := Aside0.mk (hbox); have n4_ := Aside0.mk ((by rw [hg]; exact (below_size (mB2 GE152.out GE153.out HB.out)) : w.heap.size ≤ gb154)); have n5_ := Aside0.mk ((by rw [hg]; exact (below_size (mB2 GE152.out GE153.out HB.out)) : w.heap.size ≤ gb154)); have n6_ := Aside0.mk ((by rw [hg]; exact Nat.ne_of_lt (blk_lt (g := gb152) (o := .cells #[.int .i64 a0_0, .int .i64 a0_1, .int .i64 a0_2, .int .i64 a0_3] 35 (0, 0)) (mK BK152.out)) : gb152 ≠ gb154)); have n7_ := Aside0.mk ((by rw [hg]; exact Nat.ne_of_gt (blk_lt (g := gb152) (o := .cells #[.int .i64 a0_0, .int .i64 a0_1, .int .i64 a0_2, .int .i64 a0_3] 35 (0, 0)) (mK BK152.out)) : gb154 ≠ gb152)); have n8_ := Aside0.mk ((by rw [hg]; exact Nat.ne_of_lt (blk_lt (g := gb153) (o := .cells #[.int .i64 a1_0, .int .i64 a1_1, .int .i64 a1_2, .int .i64 a1_3] 35 (0, 0)) (mK BK153.out)) : gb153 ≠ gb154)); have n9_ := Aside0.mk ((by rw [hg]; exact Nat.ne_of_gt (blk_lt (g := gb153) (o := .cells #[.int .i64 a1_0, .int .i64 a1_1, .int .i64 a1_2, .int .i64 a1_3] 35 (0, 0)) (mK BK153.out)) : gb154 ≠ gb153)); clear BK152; clear BK153; clear HB; have BK152 := n0_; have BK153 := n1_; have HB := n2_; have BK154 := n3_; have GW154 := n4_; have GE154 := n5_; have NB152_154 := n6_; have NB154_152 := n7_; have NB153_154 := n8_; have NB154_153 := n9_; clear n0_ n1_ n2_ n3_ n4_ n5_ n6_ n7_ n8_ n9_; clear hb hbox hg; have hnb7 := NB153_152.out; have hnc7 := NB152_153.out; have hnb8 := NB153_154.out; have hnc8 := NB154_153.out; have hcz9_0 : w6.cell? ⟨gb153, 0, none⟩ = some (.int .i64 a1_0) := (blk_cell BK153.out 0).trans rfl; have hcz9_1 : w6.cell? ⟨gb153, 1, none⟩ = some (.int .i64 a1_1) := (blk_cell BK153.out 1).trans rfl; have hcz9_2 : w6.cell? ⟨gb153, 2, none⟩ = some (.int .i64 a1_2) := (blk_cell BK153.out 2).trans rfl; have hcz9_3 : w6.cell? ⟨gb153, 3, none⟩ = some (.int .i64 a1_3) := (blk_cell BK153.out 3).trans rfl; have hfz9_0 := blk_frozen BK153.out 0; have hfz9_1 := blk_frozen BK153.out 1; have hfz9_2 := blk_frozen BK153.out 2; have hfz9_3 := blk_frozen BK153.out 3; have hnb10 := NB152_154.out; have hnc10 := NB154_152.out; have hcz11_0 : w6.cell? ⟨gb152, 0, none⟩ = some (.int .i64 a0_0) := (blk_cell BK152.out 0).trans rfl; have hcz11_1 : w6.cell? ⟨gb152, 1, none⟩ = some (.int .i64 a0_1) := (blk_cell BK152.out 1).trans rfl; have hcz11_2 : w6.cell? ⟨gb152, 2, none⟩ = some (.int .i64 a0_2) := (blk_cell BK152.out 2).trans rfl; have hcz11_3 : w6.cell? ⟨gb152, 3, none⟩ = some (.int .i64 a0_3) := (blk_cell BK152.out 3).trans rfl; have hfz11_0 := blk_frozen BK152.out 0; have hfz11_1 := blk_frozen BK152.out 1; have hfz11_2 := blk_frozen BK152.out 2; have hfz11_3 := blk_frozen BK152.out 3) | ((with_reducible refine gate_callee (f := 56) rfl ?_); refine goesL_ (some 10) rfl rfl Try.func56 (by kernel_rfl) rfl #[.agg #[.int .i64 a1_0, .int .i64 a1_1, .int .i64 a1_2, .int .i64 a1_3], .int .i64 (wrap64 (255 - a0_3))] rfl mT ?_; (with_reducible refine (spec_l11Scale.calls a1_0 a1_1 a1_2 a1_3 (wrap64 (255 - a0_3)) t155 t156 t157 t158 _ A3.out).mono ?_); rintro e w12 ⟨rfl, hb⟩; refine ⟨_, rfl, ?_⟩; have n0_ := Aside0.mk (blk_below (g := gb152) (o := .cells #[.int .i64 a0_0, .int .i64 a0_1, .int .i64 a0_2, .int .i64 a0_3] 35 (0, 0)) (mK BK152.out) hb); have n1_ := Aside0.mk (blk_below (g := gb153) (o := .cells #[.int .i64 a1_0, .int .i64 a1_1, .int .i64 a1_2, .int .i64 a1_3] 35 (0, 0)) (mK BK153.out) hb); have n2_ := Aside0.mk (blk_below (g := gb154) (o := .cells #[.int .i64 0, .int .i64 0, .int .i64 0, .int .i64 0] 35 (0, 0)) (mK BK154.out) hb); have n3_ := Aside0.mk (below_step (mB3 GE152.out GE153.out GE154.out HB.out) hb); clear BK152; clear BK153; clear BK154; clear HB; have BK152 := n0_; have BK153 := n1_; have BK154 := n2_; have HB := n3_; clear n0_ n1_ n2_ n3_; (try clear hb)) | ((with_reducible refine gate_dst (N := 5) rfl ?_); refine box_event ?hg (N := 5) ?hd (cs := #[.int .i64 0, .int .i64 0, .int .i64 0, .int .i64 0]) (t := 35) ?hr ?_; (case hd => rfl); (case hg => rfl); (case hr => first | (go_simp; done) | (go_simp; rfl)); intro gb159 hg w13 hbox hb; have n0_ := Aside0.mk (blk_below (g := gb152) (o := .cells #[.int .i64 a0_0, .int .i64 a0_1, .int .i64 a0_2, .int .i64 a0_3] 35 (0, 0)) (mK BK152.out) hb); have n1_ := Aside0.mk (blk_below (g := gb153) (o := .cells #[.int .i64 a1_0, .int .i64 a1_1, .int .i64 a1_2, .int .i64 a1_3] 35 (0, 0)) (mK BK153.out) hb); have n2_ := Aside0.mk (blk_below (g := gb154) (o := .cells #[.int .i64 0, .int .i64 0, .int .i64 0, .int .i64 0] 35 (0, 0)) (mK BK154.out) hb); have n3_ := Aside0.mk (below_step (mB3 GE152.out GE153.out GE154.out HB.out) hb); have n4_ := Aside0.mk (hbox); have n5_ := Aside0.mk ((by rw [hg]; exact (below_size (mB3 GE152.out GE153.out GE154.out HB.out)) : w.heap.size ≤ gb159)); have n6_ := Aside0.mk ((by rw [hg]; exact (below_size (mB3 GE152.out GE153.out GE154.out HB.out)) : w.heap.size ≤ gb159)); have n7_ := Aside0.mk ((by rw [hg]; exact Nat.ne_of_lt (blk_lt (g := gb152) (o := .cells #[.int .i64 a0_0, .int .i64 a0_1, .int .i64 a0_2, .int .i64 a0_3] 35 (0, 0)) (mK BK152.out)) : gb152 ≠ gb159)); have n8_ := Aside0.mk ((by rw [hg]; exact Nat.ne_of_gt (blk_lt (g := gb152) (o := .cells #[.int .i64 a0_0, .int .i64 a0_1, .int .i64 a0_2, .int .i64 a0_3] 35 (0, 0)) (mK BK152.out)) : gb159 ≠ gb152)); have n9_ := Aside0.mk ((by rw [hg]; exact Nat.ne_of_lt (blk_lt (g := gb153) (o := .cells #[.int .i64 a1_0, .int .i64 a1_1, .int .i64 a1_2, .int .i64 a1_3] 35 (0, 0)) (mK BK153.out)) : gb153 ≠ gb159)); have n10_ := Aside0.mk ((by rw [hg]; exact Nat.ne_of_gt (blk_lt (g := gb153) (o := .cells #[.int .i64 a1_0, .int .i64 a1_1, .int .i64 a1_2, .int .i64 a1_3] 35 (0, 0)) (mK BK153.out)) : gb159 ≠ gb153)); have n11_ := Aside0.mk ((by rw [hg]; exact Nat.ne_of_lt (blk_lt (g := gb154) (o := .cells #[.int .i64 0, .int .i64 0, .int .i64 0, .int .i64 0] 35 (0, 0)) (mK BK154.out)) : gb154 ≠ gb159)); have n12_ := Aside0.mk ((by rw [hg]; exact Nat.ne_of_gt (blk_lt (g := gb154) (o := .cells #[.int .i64 0, .int .i64 0, .int .i64 0, .int .i64 0] 35 (0, 0)) (mK BK154.out)) : gb159 ≠ gb154)); clear BK152; clear BK153; clear BK154; clear HB; have BK152 := n0_; have BK153 := n1_; have BK154 := n2_; have HB := n3_; have BK159 := n4_; have GW159 := n5_; have GE159 := n6_; have NB152_159 := n7_; have NB159_152 := n8_; have NB153_159 := n9_; have NB159_153 := n10_; have NB154_159 := n11_; have NB159_154 := n12_; clear n0_ n1_ n2_ n3_ n4_ n5_ n6_ n7_ n8_ n9_ n10_ n11_ n12_; clear hb hbox hg; have hnb14 := NB159_152.out; have hnc14 := NB152_159.out; have hnb15 := NB159_153.out; have hnc15 := NB153_159.out; have hnb16 := NB159_154.out; have hnc16 := NB154_159.out; have hcz17_0 : w13.cell? ⟨gb159, 0, none⟩ = some (.int .i64 0) := (blk_cell BK159.out 0).trans rfl; have hcz17_1 : w13.cell? ⟨gb159, 1, none⟩ = some (.int .i64 0) := (blk_cell BK159.out 1).trans rfl; have hcz17_2 : w13.cell? ⟨gb159, 2, none⟩ = some (.int .i64 0) := (blk_cell BK159.out 2).trans rfl; have hcz17_3 : w13.cell? ⟨gb159, 3, none⟩ = some (.int .i64 0) := (blk_cell BK159.out 3).trans rfl; have hfz17_0 := blk_frozen BK159.out 0; have hfz17_1 := blk_frozen BK159.out 1; have hfz17_2 := blk_frozen BK159.out 2; have hfz17_3 := blk_frozen BK159.out 3; have hcz18_0 : w13.cell? ⟨gb152, 0, none⟩ = some (.int .i64 a0_0) := (blk_cell BK152.out 0).trans rfl; have hcz18_1 : w13.cell? ⟨gb152, 1, none⟩ = some (.int .i64 a0_1) := (blk_cell BK152.out 1).trans rfl; have hcz18_2 : w13.cell? ⟨gb152, 2, none⟩ = some (.int .i64 a0_2) := (blk_cell BK152.out 2).trans rfl; have hcz18_3 : w13.cell? ⟨gb152, 3, none⟩ = some (.int .i64 a0_3) := (blk_cell BK152.out 3).trans rfl; have hfz18_0 := blk_frozen BK152.out 0; have hfz18_1 := blk_frozen BK152.out 1; have hfz18_2 := blk_frozen BK152.out 2; have hfz18_3 := blk_frozen BK152.out 3; have hcz19_0 : w13.cell? ⟨gb154, 0, none⟩ = some (.int .i64 0) := (blk_cell BK154.out 0).trans rfl; have hcz19_1 : w13.cell? ⟨gb154, 1, none⟩ = some (.int .i64 0) := (blk_cell BK154.out 1).trans rfl; have hcz19_2 : w13.cell? ⟨gb154, 2, none⟩ = some (.int .i64 0) := (blk_cell BK154.out 2).trans rfl; have hcz19_3 : w13.cell? ⟨gb154, 3, none⟩ = some (.int .i64 0) := (blk_cell BK154.out 3).trans rfl; have hfz19_0 := blk_frozen BK154.out 0; have hfz19_1 := blk_frozen BK154.out 1; have hfz19_2 := blk_frozen BK154.out 2; have hfz19_3 := blk_frozen BK154.out 3))
 refine bodyPost_ret (results_cell_row rfl _ _ gb154 35 #[.int .i64 (wrap64 (a0_0 + t155)), .int .i64 (wrap64 (a0_1 + t156)), .int .i64 (wrap64 (a0_2 + t157)), .int .i64 (wrap64 (a0_3 + t158))] (0, 0) _ rfl (by refine mK ?_; refine blk_put (cs := #[.int .i64 (wrap64 (a0_0 + t155)), .int .i64 (wrap64 (a0_1 + t156)), .int .i64 (wrap64 (a0_2 + t157)), .int .i64 0]) ?_ 3 _ rfl; refine mK ?_; refine blk_put (cs := #[.int .i64 (wrap64 (a0_0 + t155)), .int .i64 (wrap64 (a0_1 + t156)), .int .i64 0, .int .i64 0]) ?_ 2 _ rfl; refine mK ?_; refine blk_put (cs := #[.int .i64 (wrap64 (a0_0 + t155)), .int .i64 0, .int .i64 0, .int .i64 0]) ?_ 1 _ rfl; refine mK ?_; refine blk_put (cs := #[.int .i64 0, .int .i64 0, .int .i64 0, .int .i64 0]) ?_ 0 _ rfl; refine mK ?_; refine blk_far ?_ NB154_159.out _; refine mK ?_; refine blk_far ?_ NB154_159.out _; refine mK ?_; refine blk_far ?_ NB154_159.out _; refine mK ?_; refine blk_far ?_ NB154_159.out _; refine mK ?_; exact BK154.out) Try.underlying35 rfl (by kernel_rfl)) rfl ?_
 exact ⟨mE, mB4 GE152.out GE153.out GE154.out GE159.out HB.out⟩

end Go.Proofs.Ytbafihapjbkagaa.PFnDeeps
