/- The functions that the law reaches, as Lean functions, each with the proof that the Go code comes to just these answers. Written by a program of this session (wip/tools/handprint.py over the kit's print); by hand where the print takes no such text. -/
-- squeezed
import Derived.Test.YtbafihapjbkagaaPFnDeepsx0
import Derived.Test.YtbafihapjbkagaaPFnDeepsx2
namespace Go.Proofs.Ytbafihapjbkagaa.PFnDeeps
open Go.RowKit Go.Proofs.YtbafihapjbkagaaW.PrintWords Go.Proofs.YtbafihapjbkagaaW.PrintLast Go.Proofs.YtbafihapjbkagaaW.PrintMore
attribute [local go_sem] max2_int min2_int max_two min_two max_three min_three max_four min_four   -- for this text's walks alone
set_option linter.unusedVariables false
set_option linter.unusedSimpArgs false

/-! ### impl_Deep_82: function 82 -/
def impl_Deep_82.l0 : Nat → List (S50) → Int → Int → Int → Int → Option ((List (S50)))
 | 0, _, _, _, _, _ => none
 | k + 1, x0, x1, x2, x3, x10 => if x10 < x3 then (if 0 ≤ (wrap64 (x2 + x10)) then (if (wrap64 (x2 + x10)) < (x0.length : Int) then (if 0 ≤ (wrap64 (x1 + x10)) then (if (wrap64 (x1 + x10)) < (x0.length : Int) then (impl_Deep_82.l0 k ((x0.set ((wrap64 (x1 + x10)) : Int).toNat (⟨(rd_T50 x0 (wrap64 (x2 + x10))).f0, (⟨(rd_T50 x0 (wrap64 (x2 + x10))).f1.f0, (rd_T50 x0 (wrap64 (x2 + x10))).f1.f1, (rd_T50 x0 (wrap64 (x2 + x10))).f1.f2, (rd_T50 x0 (wrap64 (x2 + x10))).f1.f3⟩ : S35)⟩ : S50)).set ((wrap64 (x2 + x10)) : Int).toNat (⟨(rd_T50 x0 (wrap64 (x1 + x10))).f0, (⟨(rd_T50 x0 (wrap64 (x1 + x10))).f1.f0, (rd_T50 x0 (wrap64 (x1 + x10))).f1.f1, (rd_T50 x0 (wrap64 (x1 + x10))).f1.f2, (rd_T50 x0 (wrap64 (x1 + x10))).f1.f3⟩ : S35)⟩ : S50)) x1 x2 x3 (wrap64 (x10 + 1))) else (none)) else (none)) else (none)) else (none)) else (some x0)
def impl_Deep_82.f (k : Nat) (l0 : List (S50)) (a1 : Int) (a2 : Int) (a3 : Int) (a4 : GtC) : Option ((List (S50))) := impl_Deep_82.l0 k l0 a1 a2 a3 0
theorem impl_Deep_82.mono_l : ∀ k, (∀ y0 y1 y2 y3 y4, LeO (impl_Deep_82.l0 k y0 y1 y2 y3 y4) (impl_Deep_82.l0 (k + 1) y0 y1 y2 y3 y4))
 | 0 => fun _ _ _ _ _ r h => by simp [impl_Deep_82.l0] at h
 | k + 1 => by
  have ih0 := impl_Deep_82.mono_l k
  ·intro y0 y1 y2 y3 y4
   unfold impl_Deep_82.l0
   repeat' first
   | (with_reducible exact ih0 _ _ _ _ _)
   | (with_reducible exact LeO.refl _)
   | (with_reducible exact LeO.none _)
   | (with_reducible refine LeO.ite ?_ ?_)
   | (with_reducible refine LeO.bind ?_ (fun _ => ?_))
   | exact ih0 _ _ _ _ _
   | exact LeO.none _
   | refine LeO.ite ?_ ?_
   | refine LeO.bind ?_ (fun _ => ?_)
theorem impl_Deep_82.mono : ∀ a0 a1 a2 a3 a4 k, LeO (impl_Deep_82.f k a0 a1 a2 a3 a4) (impl_Deep_82.f (k + 1) a0 a1 a2 a3 a4) := by
 intro a0 a1 a2 a3 a4 k
 have ih0 := impl_Deep_82.mono_l k
 unfold impl_Deep_82.f
 repeat' first
   | (with_reducible exact ih0 _ _ _ _ _)
   | (with_reducible exact LeO.refl _)
   | (with_reducible exact LeO.none _)
   | (with_reducible refine LeO.ite ?_ ?_)
   | (with_reducible refine LeO.bind ?_ (fun _ => ?_))
   | exact ih0 _ _ _ _ _
   | exact LeO.none _
   | refine LeO.ite ?_ ?_
   | refine LeO.bind ?_ (fun _ => ?_)
def impl_Deep_82.T3 : Bool × List (List Nat × List Nat) := (true, [([], []), ([], []), ([], []), ([1, 2], [1, 2]), ([], []), ([], []), ([], []), ([5, 6], [5, 6]), ([], []), ([], []), ([], []), ([9, 10], [9, 10]), ([8, 11], [8, 11]), ([12], [12]), ([], []), ([], []), ([], []), ([15, 16], [15, 16]), ([14, 17], [14, 17]), ([18], [18]), ([0, 3, 0, 1, 2, 3, 8, 9, 10, 11, 12, 13, 19], [0, 3]), ([20, 13, 0, 1, 2, 3, 8, 9, 10, 11, 12, 13, 19], [13, 20]), ([4, 7, 0, 1, 2, 3, 4, 5, 6, 7, 8, 9, 10, 11, 12, 13, 14, 15, 16, 17, 18, 19, 20, 21], [4, 7]), ([22, 19, 21, 0, 1, 2, 3, 4, 5, 6, 7, 8, 9, 10, 11, 12, 13, 14, 15, 16, 17, 18, 19, 20, 21], [19, 22])])
def impl_Deep_82.B3 : List Nat := [0, 0, 0, 6, 0, 0, 0, 96, 0, 0, 0, 1536, 3840, 7936, 0, 0, 0, 98304, 245760, 507904, 1048335, 2096911, 4194303, 8388607]
theorem impl_Deep_82.tab3 : rtab .any (opsOf Try.f82 3) = impl_Deep_82.T3 := by kernel_rfl
theorem impl_Deep_82.bits3 : waitsOk impl_Deep_82.T3.2 impl_Deep_82.B3 = true := by kernel_rfl
set_option maxHeartbeats 8000000 in
set_option maxRecDepth 100000 in
theorem impl_Deep_82.calls (k : Nat) (P0_ : Nat → Prop) (u9000_ : Value) (l0 : List (S50)) (a1 : Int) (a2 : Int) (a3 : Int) (a4 : GtC) (r : List (S50)) (w0 w : World) (hB : Below w0.heap.size w0 w) (ho0 : Kd.R k50 50 w w0.heap.size P0_ u9000_ l0) {cf4 : FuncId} {cc4 : Array Value} (ha4 : Aside0 (FnOkC w cf4 cc4 a4)) (h : impl_Deep_82.f k l0 a1 a2 a3 a4 = some r) :
  Calls Try.prog 82 #[u9000_, .int .i64 a1, .int .i64 a2, .int .i64 a3, (.func (.func cf4) #[] cc4)] w fun e w' => e = .returned (.tuple #[]) ∧ Kd.R k50 50 w' w0.heap.size (fun k_ => (P0_ k_ ∨ w.heap.size ≤ k_)) u9000_ r ∧ Below w0.heap.size w0 w' ∧ Kept w w' (fun k_ => P0_ k_) := by
 have hu50 := Try.underlying50
 have HO0 := Aside0.mk (show Kd.R k50 50 w w0.heap.size (fun k_ => (P0_ k_ ∨ w.heap.size ≤ k_)) u9000_ l0 from Kd.R_mono ho0 (fun k_ hk => (.inl hk)))
 have HK := Aside0.mk (Kept.refl w (fun k_ => P0_ k_))
 have HW0 := Aside0.mk hB.size
 have HB := Aside0.mk hB
 clear hB
 have H : (impl_Deep_82.l0 k l0 a1 a2 a3 0) = some r := h
 clear h
 have H' := Aside0.mk H
 clear H
 go_enter Try.func82, Try.ntmps82
 go_wp2
 go_loopg [10] k (fun kq v10 w' => ∃ (x0_1 : List (S50)) (x10_1 : Int), v10 = .int .i64 x10_1 ∧ Aside0 (impl_Deep_82.l0 kq x0_1 a1 a2 a3 x10_1 = some r) ∧ Aside0 (kq ≤ k) ∧ Aside0 (Kd.R k50 50 w' w0.heap.size (fun k_ => (P0_ k_ ∨ w.heap.size ≤ k_)) u9000_ x0_1) ∧ Aside0 (Kept w w' (fun k_ => P0_ k_)) ∧ Aside0 (Below w0.heap.size w0 w'))
 case atStart => exact ⟨(l0), (0), (by first | rfl | (simp; done) | (simp [*]; done)), H', ⟨Nat.le_refl _⟩, ⟨mR HO0.out⟩, ⟨mP HK.out⟩, ⟨mB HB.out⟩⟩
 case round =>
  clear H'
  obtain ⟨x0_1, x10_1, rfl, HA, HK1, HO_0, HK, HB⟩ := hrel
  cases gk with
  | zero => exact absurd HA.out (by simp [impl_Deep_82.l0])
  | succ k1 =>
   have H := HA.out
   clear HA
   simp only [impl_Deep_82.l0] at H
   by_cases c6 : x10_1 < a3
   ·rw [if_pos c6] at H
    have c6b0 : decide (x10_1 < a3) = true := decide_eq_true c6
    clear c6
    obtain ⟨ji7, hji7⟩ : ∃ j_ : Int, (wrap64 (a2 + x10_1)) = j_ := ⟨_, rfl⟩
    replace H : (if 0 ≤ (ji7) then (if (ji7) < (x0_1.length : Int) then (if 0 ≤ (wrap64 (a1 + x10_1)) then (if (wrap64 (a1 + x10_1)) < (x0_1.length : Int) then (impl_Deep_82.l0 k1 ((x0_1.set ((wrap64 (a1 + x10_1)) : Int).toNat (⟨(rd_T50 x0_1 (ji7)).f0, (⟨(rd_T50 x0_1 (ji7)).f1.f0, (rd_T50 x0_1 (ji7)).f1.f1, (rd_T50 x0_1 (ji7)).f1.f2, (rd_T50 x0_1 (ji7)).f1.f3⟩ : S35)⟩ : S50)).set ((ji7) : Int).toNat (⟨(rd_T50 x0_1 (wrap64 (a1 + x10_1))).f0, (⟨(rd_T50 x0_1 (wrap64 (a1 + x10_1))).f1.f0, (rd_T50 x0_1 (wrap64 (a1 + x10_1))).f1.f1, (rd_T50 x0_1 (wrap64 (a1 + x10_1))).f1.f2, (rd_T50 x0_1 (wrap64 (a1 + x10_1))).f1.f3⟩ : S35)⟩ : S50)) a1 a2 a3 (wrap64 (x10_1 + 1))) else (none)) else (none)) else (none)) else (none)) = some r := by first | (rw [hji7] at H; exact H) | (simp only [hji7] at H ⊢; exact H)
    have hji7w : (IntKind.i64.wrap (a2 + x10_1)) = ji7 := (i64_w _).trans hji7
    by_cases c8 : 0 ≤ (ji7)
    ·rw [if_pos c8] at H
     have c8b0 : decide (0 ≤ (ji7)) = true := decide_eq_true c8
     clear c8
     by_cases c9 : (ji7) < (x0_1.length : Int)
     ·rw [if_pos c9] at H
      have c9b0 : decide ((ji7) < (x0_1.length : Int)) = true := decide_eq_true c9
      clear c9
      obtain ⟨ji10, hji10⟩ : ∃ j_ : Int, (wrap64 (a1 + x10_1)) = j_ := ⟨_, rfl⟩
      replace H : (if 0 ≤ (ji10) then (if (ji10) < (x0_1.length : Int) then (impl_Deep_82.l0 k1 ((x0_1.set ((ji10) : Int).toNat (⟨(rd_T50 x0_1 (ji7)).f0, (⟨(rd_T50 x0_1 (ji7)).f1.f0, (rd_T50 x0_1 (ji7)).f1.f1, (rd_T50 x0_1 (ji7)).f1.f2, (rd_T50 x0_1 (ji7)).f1.f3⟩ : S35)⟩ : S50)).set ((ji7) : Int).toNat (⟨(rd_T50 x0_1 (ji10)).f0, (⟨(rd_T50 x0_1 (ji10)).f1.f0, (rd_T50 x0_1 (ji10)).f1.f1, (rd_T50 x0_1 (ji10)).f1.f2, (rd_T50 x0_1 (ji10)).f1.f3⟩ : S35)⟩ : S50)) a1 a2 a3 (wrap64 (x10_1 + 1))) else (none)) else (none)) = some r := by first | (rw [hji10] at H; exact H) | (simp only [hji10] at H ⊢; exact H)
      have hji10w : (IntKind.i64.wrap (a1 + x10_1)) = ji10 := (i64_w _).trans hji10
      by_cases c11 : 0 ≤ (ji10)
      ·rw [if_pos c11] at H
       have c11b0 : decide (0 ≤ (ji10)) = true := decide_eq_true c11
       clear c11
       by_cases c12 : (ji10) < (x0_1.length : Int)
       ·rw [if_pos c12] at H
        have c12b0 : decide ((ji10) < (x0_1.length : Int)) = true := decide_eq_true c12
        clear c12
        obtain ⟨y184, hy184⟩ : ∃ y_ : List (S50), y_ = (x0_1.set ((ji10) : Int).toNat (⟨(rd_T50 x0_1 (ji7)).f0, (⟨(rd_T50 x0_1 (ji7)).f1.f0, (rd_T50 x0_1 (ji7)).f1.f1, (rd_T50 x0_1 (ji7)).f1.f2, (rd_T50 x0_1 (ji7)).f1.f3⟩ : S35)⟩ : S50)) := ⟨_, rfl⟩
        replace H : (impl_Deep_82.l0 k1 (y184.set ((ji7) : Int).toNat (⟨(rd_T50 x0_1 (ji10)).f0, (⟨(rd_T50 x0_1 (ji10)).f1.f0, (rd_T50 x0_1 (ji10)).f1.f1, (rd_T50 x0_1 (ji10)).f1.f2, (rd_T50 x0_1 (ji10)).f1.f3⟩ : S35)⟩ : S50)) a1 a2 a3 (wrap64 (x10_1 + 1))) = some r := by first | (rw [hy184]; with_reducible exact H) | (have H2_ := (Option.bind_some _ _).symm.trans H; rw [hy184]; with_reducible exact H2_) | (have H2_ := (Option.bind_some _ _).symm.trans H; with_reducible exact H2_) | with_reducible exact H | (rw [hy184]; exact H) | exact H
        have Ny184 := Aside0.mk hy184
        clear hy184
        obtain ⟨y185, hy185⟩ : ∃ y_ : List (S50), y_ = (y184.set ((ji7) : Int).toNat (⟨(rd_T50 x0_1 (ji10)).f0, (⟨(rd_T50 x0_1 (ji10)).f1.f0, (rd_T50 x0_1 (ji10)).f1.f1, (rd_T50 x0_1 (ji10)).f1.f2, (rd_T50 x0_1 (ji10)).f1.f3⟩ : S35)⟩ : S50)) := ⟨_, rfl⟩
        replace H : (impl_Deep_82.l0 k1 y185 a1 a2 a3 (wrap64 (x10_1 + 1))) = some r := by first | (rw [hy185]; with_reducible exact H) | (have H2_ := (Option.bind_some _ _).symm.trans H; rw [hy185]; with_reducible exact H2_) | (have H2_ := (Option.bind_some _ _).symm.trans H; with_reducible exact H2_) | with_reducible exact H | (rw [hy185]; exact H) | exact H
        have Ny185 := Aside0.mk hy185
        clear hy185
        have H' := Aside0.mk H
        clear H
        try go_wp2
        have n0_ := Aside0.mk (Kd.R_drew HO_0.out)
        have n1_ := Aside0.mk (Kept.drew HK.out)
        have n2_ := Aside0.mk (below_drew1 HB.out)
        clear HO_0
        clear HK
        clear HB
        have HO_0 := n0_
        have HK := n1_
        have HB := n2_
        clear n0_ n1_ n2_
        obtain ⟨Ao16, co16, eo16⟩ := Kd.R_slice HO_0.out
        (first | subst eo16 | (injection eo16 with f1_ f2_ f3_; have f4_ := f1_.symm; have f5_ := f3_.symm; clear f1_ f2_ f3_; subst f4_; subst f5_))
        have p182 : 0 ≤ ((ji7) : Int) := of_decide_eq_true (by first | (with_reducible assumption) | assumption)
        have q182 : (ji7) < (x0_1.length : Int) := of_decide_eq_true (by first | (with_reducible assumption) | assumption)
        obtain ⟨ad182, e182, hx182_0, hx182_1, hx182_2, hx182_3, hx182_4⟩ := at_T50 (Kd.R_reads' HO_0.out).2.2 (ji7) p182 q182
        cases e182
        replace p182 := eq_true p182
        replace q182 := eq_true q182
        have p183 : 0 ≤ ((ji10) : Int) := of_decide_eq_true (by first | (with_reducible assumption) | assumption)
        have q183 : (ji10) < (x0_1.length : Int) := of_decide_eq_true (by first | (with_reducible assumption) | assumption)
        obtain ⟨ad183, e183, hx183_0, hx183_1, hx183_2, hx183_3, hx183_4⟩ := at_T50 (Kd.R_reads' HO_0.out).2.2 (ji10) p183 q183
        obtain rfl : ad182 = ad183 := (by injection e183)
        replace p183 := eq_true p183
        replace q183 := eq_true q183
        have p13 : 0 ≤ ((ji10) : Int) := of_decide_eq_true (by first | (with_reducible assumption) | assumption)
        have q13 : ((ji10) : Int) < ((x0_1.length : Int) : Int) := of_decide_eq_true (by first | (with_reducible assumption) | assumption)
        obtain ⟨go13, co13, eo13, gb13, gl13, cl13, HG13⟩ := Kd.R_form HO_0.out (by omega)
        (first | cases eo13 | (injection eo13 with ea_ en_ ec_; (first | subst ea_ | (injection ea_ with ea_; subst ea_)); subst ec_; clear en_))
        have GB13 := Aside0.mk gb13
        have GG13 := Aside0.mk HG13
        clear gb13 gl13 HG13
        have HMgo13 := Aside0.mk (show (P0_ go13 ∨ w.heap.size ≤ go13) from (HO_0.out.1 _ rfl))
        (first | simp only [add_plain] at hx182_0 | skip)
        (first | simp only [add_plain] at hx182_1 | skip)
        (first | simp only [add_plain] at hx182_2 | skip)
        (first | simp only [add_plain] at hx182_3 | skip)
        (first | simp only [add_plain] at hx182_4 | skip)
        (first | simp only [add_plain] at hx183_0 | skip)
        (first | simp only [add_plain] at hx183_1 | skip)
        (first | simp only [add_plain] at hx183_2 | skip)
        (first | simp only [add_plain] at hx183_3 | skip)
        (first | simp only [add_plain] at hx183_4 | skip)
        obtain ⟨ce13, hcl13, hM13, hcc13, hfr13⟩ := Kd.R_elem HO_0.out z50 ((ji10) : Int) p13 q13
        obtain rfl := k50_openM hM13
        have hx13_0 : World.cell? _ ⟨go13, ((ji10) : Int).toNat * 5, none⟩ = some (.int .i64 ((rd_T50 x0_1 (ji10)).f0)) := hcc13 0 _ rfl
        have hx13_1 : World.cell? _ ⟨go13, ((ji10) : Int).toNat * 5 + 1, none⟩ = some (.int .i64 ((rd_T50 x0_1 (ji10)).f1.f0)) := hcc13 1 _ rfl
        have hx13_2 : World.cell? _ ⟨go13, ((ji10) : Int).toNat * 5 + 2, none⟩ = some (.int .i64 ((rd_T50 x0_1 (ji10)).f1.f1)) := hcc13 2 _ rfl
        have hx13_3 : World.cell? _ ⟨go13, ((ji10) : Int).toNat * 5 + 3, none⟩ = some (.int .i64 ((rd_T50 x0_1 (ji10)).f1.f2)) := hcc13 3 _ rfl
        have hx13_4 : World.cell? _ ⟨go13, ((ji10) : Int).toNat * 5 + 4, none⟩ = some (.int .i64 ((rd_T50 x0_1 (ji10)).f1.f3)) := hcc13 4 _ rfl
        have hf13_0 : World.frozen? _ ⟨go13, ((ji10) : Int).toNat * 5, none⟩ = false := hfr13 0
        have hf13_1 : World.frozen? _ ⟨go13, ((ji10) : Int).toNat * 5 + 1, none⟩ = false := hfr13 1
        have hf13_2 : World.frozen? _ ⟨go13, ((ji10) : Int).toNat * 5 + 2, none⟩ = false := hfr13 2
        have hf13_3 : World.frozen? _ ⟨go13, ((ji10) : Int).toNat * 5 + 3, none⟩ = false := hfr13 3
        have hf13_4 : World.frozen? _ ⟨go13, ((ji10) : Int).toNat * 5 + 4, none⟩ = false := hfr13 4
        clear hcl13 hcc13 hfr13 hM13
        replace p13 := eq_true p13
        replace q13 := eq_true q13
        obtain ⟨ce17, hcl17, hM17, hcc17, hfr17⟩ := Kd.R_elem HO_0.out z50 ((ji10) : Int) (of_decide_eq_true (by first | (with_reducible assumption) | assumption)) (by have h_ : ((ji10) : Int) < ((x0_1.length : Int) : Int) := of_decide_eq_true (by first | (with_reducible assumption) | assumption); first | exact h_ | (have e_ := (Kd.R_reads' HO_0.out).1; omega) | simpa using h_)
        obtain rfl := k50_openM hM17
        have HP17 := (Kd.R_seg HO_0.out ((ji10) : Int) (of_decide_eq_true (by first | (with_reducible assumption) | assumption)) (by have h_ : ((ji10) : Int) < ((x0_1.length : Int) : Int) := of_decide_eq_true (by first | (with_reducible assumption) | assumption); first | exact h_ | (have e_ := (Kd.R_reads' HO_0.out).1; omega) | simpa using h_) (seg := [.int .i64 ((rd_T50 x0_1 (ji7)).f0), .int .i64 ((rd_T50 x0_1 (ji7)).f1.f0), .int .i64 ((rd_T50 x0_1 (ji7)).f1.f1), .int .i64 ((rd_T50 x0_1 (ji7)).f1.f2), .int .i64 ((rd_T50 x0_1 (ji7)).f1.f3)]) (j := 0) hcl17 hcc17 (show 5 ≤ 5 from by decide) (x' := (⟨(rd_T50 x0_1 (ji7)).f0, (⟨(rd_T50 x0_1 (ji7)).f1.f0, (rd_T50 x0_1 (ji7)).f1.f1, (rd_T50 x0_1 (ji7)).f1.f2, (rd_T50 x0_1 (ji7)).f1.f3⟩ : S35)⟩ : S50)) (k50_mkM _ _ _ (⟨(rd_T50 x0_1 (ji7)).f0, (⟨(rd_T50 x0_1 (ji7)).f1.f0, (rd_T50 x0_1 (ji7)).f1.f1, (rd_T50 x0_1 (ji7)).f1.f2, (rd_T50 x0_1 (ji7)).f1.f3⟩ : S35)⟩ : S50) ) (fun _ hk => hk)).1
        rw [← Ny184.out] at HP17
        have HQ17 := Aside0.mk HP17
        clear hcl17 hcc17 hfr17 hM17 HP17
        have p14 : 0 ≤ ((ji7) : Int) := of_decide_eq_true (by first | (with_reducible assumption) | assumption)
        have q14 : ((ji7) : Int) < ((x0_1.length : Int) : Int) := of_decide_eq_true (by first | (with_reducible assumption) | assumption)
        obtain ⟨ce14, hcl14, hM14, hcc14, hfr14⟩ := Kd.R_elem HQ17.out z50 ((ji7) : Int) p14 q14
        obtain rfl := k50_openM hM14
        have hx14_0 : World.cell? _ ⟨go13, ((ji7) : Int).toNat * 5, none⟩ = some (.int .i64 ((rd_T50 y184 (ji7)).f0)) := hcc14 0 _ rfl
        have hx14_1 : World.cell? _ ⟨go13, ((ji7) : Int).toNat * 5 + 1, none⟩ = some (.int .i64 ((rd_T50 y184 (ji7)).f1.f0)) := hcc14 1 _ rfl
        have hx14_2 : World.cell? _ ⟨go13, ((ji7) : Int).toNat * 5 + 2, none⟩ = some (.int .i64 ((rd_T50 y184 (ji7)).f1.f1)) := hcc14 2 _ rfl
        have hx14_3 : World.cell? _ ⟨go13, ((ji7) : Int).toNat * 5 + 3, none⟩ = some (.int .i64 ((rd_T50 y184 (ji7)).f1.f2)) := hcc14 3 _ rfl
        have hx14_4 : World.cell? _ ⟨go13, ((ji7) : Int).toNat * 5 + 4, none⟩ = some (.int .i64 ((rd_T50 y184 (ji7)).f1.f3)) := hcc14 4 _ rfl
        have hf14_0 : World.frozen? _ ⟨go13, ((ji7) : Int).toNat * 5, none⟩ = false := hfr14 0
        have hf14_1 : World.frozen? _ ⟨go13, ((ji7) : Int).toNat * 5 + 1, none⟩ = false := hfr14 1
        have hf14_2 : World.frozen? _ ⟨go13, ((ji7) : Int).toNat * 5 + 2, none⟩ = false := hfr14 2
        have hf14_3 : World.frozen? _ ⟨go13, ((ji7) : Int).toNat * 5 + 3, none⟩ = false := hfr14 3
        have hf14_4 : World.frozen? _ ⟨go13, ((ji7) : Int).toNat * 5 + 4, none⟩ = false := hfr14 4
        clear hcl14 hcc14 hfr14 hM14
        replace p14 := eq_true p14
        replace q14 := eq_true q14
        obtain ⟨ce18, hcl18, hM18, hcc18, hfr18⟩ := Kd.R_elem HQ17.out z50 ((ji7) : Int) (of_decide_eq_true (by first | (with_reducible assumption) | assumption)) (by have h_ : ((ji7) : Int) < ((x0_1.length : Int) : Int) := of_decide_eq_true (by first | (with_reducible assumption) | assumption); first | exact h_ | (have e_ := (Kd.R_reads' HO_0.out).1; omega) | simpa using h_)
        obtain rfl := k50_openM hM18
        have HP18 := (Kd.R_seg HQ17.out ((ji7) : Int) (of_decide_eq_true (by first | (with_reducible assumption) | assumption)) (by have h_ : ((ji7) : Int) < ((x0_1.length : Int) : Int) := of_decide_eq_true (by first | (with_reducible assumption) | assumption); first | exact h_ | (have e_ := (Kd.R_reads' HO_0.out).1; omega) | simpa using h_) (seg := [.int .i64 ((rd_T50 x0_1 (ji10)).f0), .int .i64 ((rd_T50 x0_1 (ji10)).f1.f0), .int .i64 ((rd_T50 x0_1 (ji10)).f1.f1), .int .i64 ((rd_T50 x0_1 (ji10)).f1.f2), .int .i64 ((rd_T50 x0_1 (ji10)).f1.f3)]) (j := 0) hcl18 hcc18 (show 5 ≤ 5 from by decide) (x' := (⟨(rd_T50 x0_1 (ji10)).f0, (⟨(rd_T50 x0_1 (ji10)).f1.f0, (rd_T50 x0_1 (ji10)).f1.f1, (rd_T50 x0_1 (ji10)).f1.f2, (rd_T50 x0_1 (ji10)).f1.f3⟩ : S35)⟩ : S50)) (k50_mkM _ _ _ (⟨(rd_T50 x0_1 (ji10)).f0, (⟨(rd_T50 x0_1 (ji10)).f1.f0, (rd_T50 x0_1 (ji10)).f1.f1, (rd_T50 x0_1 (ji10)).f1.f2, (rd_T50 x0_1 (ji10)).f1.f3⟩ : S35)⟩ : S50) ) (fun _ hk => hk)).1
        rw [← Ny185.out] at HP18
        have HQ18 := Aside0.mk HP18
        clear hcl18 hcc18 hfr18 hM18 HP18
        refine start_ (n := 24) (S := fun w' => w'.cell? ⟨go13, ((ji7)).toNat * 5, none⟩ = some (.int .i64 ((rd_T50 x0_1 (ji7)).f0)) ∧ w'.cell? ⟨go13, ((ji7)).toNat * 5 + 1, none⟩ = some (.int .i64 ((rd_T50 x0_1 (ji7)).f1.f0)) ∧ w'.cell? ⟨go13, ((ji7)).toNat * 5 + 2, none⟩ = some (.int .i64 ((rd_T50 x0_1 (ji7)).f1.f1)) ∧ w'.cell? ⟨go13, ((ji7)).toNat * 5 + 3, none⟩ = some (.int .i64 ((rd_T50 x0_1 (ji7)).f1.f2)) ∧ w'.cell? ⟨go13, ((ji7)).toNat * 5 + 4, none⟩ = some (.int .i64 ((rd_T50 x0_1 (ji7)).f1.f3)) ∧ w'.cell? ⟨go13, ((ji10)).toNat * 5, none⟩ = some (.int .i64 ((rd_T50 x0_1 (ji10)).f0)) ∧ w'.cell? ⟨go13, ((ji10)).toNat * 5 + 1, none⟩ = some (.int .i64 ((rd_T50 x0_1 (ji10)).f1.f0)) ∧ w'.cell? ⟨go13, ((ji10)).toNat * 5 + 2, none⟩ = some (.int .i64 ((rd_T50 x0_1 (ji10)).f1.f1)) ∧ w'.cell? ⟨go13, ((ji10)).toNat * 5 + 3, none⟩ = some (.int .i64 ((rd_T50 x0_1 (ji10)).f1.f2)) ∧ w'.cell? ⟨go13, ((ji10)).toNat * 5 + 4, none⟩ = some (.int .i64 ((rd_T50 x0_1 (ji10)).f1.f3))) (ds := [21, 23]) #[false, false, false, false, false, false, false, false, false, false, false, false, false, false, false, false, false, false, false, false, false, false, false, false] (by kernel_rfl) rfl rfl ⟨hx182_0, hx182_1, hx182_2, hx182_3, hx182_4, hx183_0, hx183_1, hx183_2, hx183_3, hx183_4⟩ (fun hHeld => ?_); refine with_tabW impl_Deep_82.tab3 impl_Deep_82.bits3 (fun HT_ HW_ => ?_)
        generalize wr.drew = w15 at HO_0 HK HB GG13 HQ17 HQ18 hf13_0 hf13_1 hf13_2 hf13_3 hf13_4 hf14_0 hf14_1 hf14_2 hf14_3 hf14_4 hx13_0 hx13_1 hx13_2 hx13_3 hx13_4 hx14_0 hx14_1 hx14_2 hx14_3 hx14_4 hx182_0 hx182_1 hx182_2 hx182_3 hx182_4 hx183_0 hx183_1 hx183_2 hx183_3 hx183_4 hHeld ⊢
        refine pure_ (i := 0) (N := some 16) (v := ?_) (a' := ?_) #[true, false, false, false, false, false, false, false, false, false, false, false, false, false, false, false, false, false, false, false, false, false, false, false] rfl rfl (any_of HT_.out (by kernel_rfl)) (fun _ _ _ h => h) (Or.inl ⟨by rfl, ?_⟩) ?_ ?_
        rotate_left
        ·intro w'
         go_simp
         with_reducible rfl
        rotate_left
        ·simp only [Act.put, List.setIfInBounds_toArray, List.set_cons_zero, List.set_cons_succ, i64_w, i32_w]
         rfl
        refine pure_ (i := 1) (N := some 17) (v := ?_) (a' := ?_) #[true, true, false, false, false, false, false, false, false, false, false, false, false, false, false, false, false, false, false, false, false, false, false, false] rfl rfl (any_of HT_.out (by kernel_rfl)) (fun _ _ _ h => h) (Or.inl ⟨by rfl, ?_⟩) ?_ ?_
        rotate_left
        ·intro w'
         go_simp
         with_reducible rfl
        rotate_left
        ·simp only [Act.put, List.setIfInBounds_toArray, List.set_cons_zero, List.set_cons_succ, i64_w, i32_w]
         rfl
        refine pure_ (i := 2) (N := some 18) (v := ?_) (a' := ?_) #[true, true, true, false, false, false, false, false, false, false, false, false, false, false, false, false, false, false, false, false, false, false, false, false] rfl rfl (any_of HT_.out (by kernel_rfl)) (fun _ _ _ h => h) (Or.inl ⟨by rfl, ?_⟩) ?_ ?_
        rotate_left
        ·intro w'
         go_simp
         with_reducible rfl
        rotate_left
        ·simp only [Act.put, List.setIfInBounds_toArray, List.set_cons_zero, List.set_cons_succ, i64_w, i32_w]
         rfl
        refine pure_ (i := 3) (N := some 19) (v := ?_) (a' := ?_) #[true, true, true, true, false, false, false, false, false, false, false, false, false, false, false, false, false, false, false, false, false, false, false, false] rfl rfl (any_of HT_.out (by kernel_rfl)) (fun _ _ _ h => h) (Or.inl ⟨by rfl, ?_⟩) ?_ ?_
        rotate_left
        ·intro w'
         go_simp
         with_reducible rfl
        rotate_left
        ·simp only [Act.put, List.setIfInBounds_toArray, List.set_cons_zero, List.set_cons_succ, i64_w, i32_w]
         rfl
        refine pure_ (i := 4) (N := some 20) (v := ?_) (a' := ?_) #[true, true, true, true, true, false, false, false, false, false, false, false, false, false, false, false, false, false, false, false, false, false, false, false] rfl rfl (any_of HT_.out (by kernel_rfl)) (fun _ _ _ h => h) (Or.inl ⟨by rfl, ?_⟩) ?_ ?_
        rotate_left
        ·intro w'
         go_simp
         with_reducible rfl
        rotate_left
        ·simp only [Act.put, List.setIfInBounds_toArray, List.set_cons_zero, List.set_cons_succ, i64_w, i32_w]
         rfl
        refine pure_ (i := 5) (N := some 21) (v := ?_) (a' := ?_) #[true, true, true, true, true, true, false, false, false, false, false, false, false, false, false, false, false, false, false, false, false, false, false, false] rfl rfl (any_of HT_.out (by kernel_rfl)) (fun _ _ _ h => h) (Or.inl ⟨by rfl, ?_⟩) ?_ ?_
        rotate_left
        ·intro w'
         go_simp
         with_reducible rfl
        rotate_left
        ·simp only [Act.put, List.setIfInBounds_toArray, List.set_cons_zero, List.set_cons_succ, i64_w, i32_w]
         rfl
        refine pure_ (i := 6) (N := some 22) (v := ?_) (a' := ?_) #[true, true, true, true, true, true, true, false, false, false, false, false, false, false, false, false, false, false, false, false, false, false, false, false] rfl rfl (any_of HT_.out (by kernel_rfl)) (fun _ _ _ h => h) (Or.inl ⟨by rfl, ?_⟩) ?_ ?_
        rotate_left
        ·intro w'
         go_simp
         with_reducible rfl
        rotate_left
        ·simp only [Act.put, List.setIfInBounds_toArray, List.set_cons_zero, List.set_cons_succ, i64_w, i32_w]
         rfl
        refine pure_ (i := 7) (N := some 23) (v := ?_) (a' := ?_) #[true, true, true, true, true, true, true, true, false, false, false, false, false, false, false, false, false, false, false, false, false, false, false, false] rfl rfl (any_of HT_.out (by kernel_rfl)) (fun _ _ _ h => h) (Or.inl ⟨by rfl, ?_⟩) ?_ ?_
        rotate_left
        ·intro w'
         go_simp
         with_reducible rfl
        rotate_left
        ·simp only [Act.put, List.setIfInBounds_toArray, List.set_cons_zero, List.set_cons_succ, i64_w, i32_w]
         rfl
        refine pure_ (i := 8) (N := some 24) (v := ?_) (a' := ?_) #[true, true, true, true, true, true, true, true, true, false, false, false, false, false, false, false, false, false, false, false, false, false, false, false] rfl rfl (any_of HT_.out (by kernel_rfl)) (fun _ _ _ h => h) (Or.inl ⟨by rfl, ?_⟩) ?_ ?_
        rotate_left
        ·intro w'
         go_simp
         with_reducible rfl
        rotate_left
        ·simp only [Act.put, List.setIfInBounds_toArray, List.set_cons_zero, List.set_cons_succ, i64_w, i32_w]
         rfl
        refine pure_ (i := 9) (N := some 25) (v := ?_) (a' := ?_) #[true, true, true, true, true, true, true, true, true, true, false, false, false, false, false, false, false, false, false, false, false, false, false, false] rfl rfl (any_of HT_.out (by kernel_rfl)) (fun _ _ _ h => h) (Or.inl ⟨by rfl, ?_⟩) ?_ ?_
        rotate_left
        ·intro w'
         go_simp
         with_reducible rfl
        rotate_left
        ·simp only [Act.put, List.setIfInBounds_toArray, List.set_cons_zero, List.set_cons_succ, i64_w, i32_w]
         rfl
        refine pure_ (i := 10) (N := some 26) (v := ?_) (a' := ?_) #[true, true, true, true, true, true, true, true, true, true, true, false, false, false, false, false, false, false, false, false, false, false, false, false] rfl rfl (any_of HT_.out (by kernel_rfl)) (fun _ _ _ h => h) (Or.inl ⟨by rfl, ?_⟩) ?_ ?_
        rotate_left
        ·intro w'
         go_simp
         with_reducible rfl
        rotate_left
        ·simp only [Act.put, List.setIfInBounds_toArray, List.set_cons_zero, List.set_cons_succ, i64_w, i32_w]
         rfl
        refine pure_ (i := 11) (N := some 27) (v := ?_) (a' := ?_) #[true, true, true, true, true, true, true, true, true, true, true, true, false, false, false, false, false, false, false, false, false, false, false, false] rfl rfl (any_of HT_.out (by kernel_rfl)) (fun _ _ _ h => h) (Or.inl ⟨by rfl, ?_⟩) ?_ ?_
        rotate_left
        ·intro w'
         go_simp
         with_reducible rfl
        rotate_left
        ·simp only [Act.put, List.setIfInBounds_toArray, List.set_cons_zero, List.set_cons_succ, i64_w, i32_w]
         rfl
        refine pure_ (i := 12) (N := some 28) (v := ?_) (a' := ?_) #[true, true, true, true, true, true, true, true, true, true, true, true, true, false, false, false, false, false, false, false, false, false, false, false] rfl rfl (any_of HT_.out (by kernel_rfl)) (fun _ _ _ h => h) (Or.inl ⟨by rfl, ?_⟩) ?_ ?_
        rotate_left
        ·intro w'
         go_simp
         with_reducible rfl
        rotate_left
        ·simp only [Act.put, List.setIfInBounds_toArray, List.set_cons_zero, List.set_cons_succ, i64_w, i32_w]
         rfl
        refine pure_ (i := 14) (N := some 30) (v := ?_) (a' := ?_) #[true, true, true, true, true, true, true, true, true, true, true, true, true, false, true, false, false, false, false, false, false, false, false, false] rfl rfl (any_of HT_.out (by kernel_rfl)) (fun _ _ _ h => h) (Or.inl ⟨by rfl, ?_⟩) ?_ ?_
        rotate_left
        ·intro w'
         go_simp
         with_reducible rfl
        rotate_left
        ·simp only [Act.put, List.setIfInBounds_toArray, List.set_cons_zero, List.set_cons_succ, i64_w, i32_w]
         rfl
        refine pure_ (i := 15) (N := some 31) (v := ?_) (a' := ?_) #[true, true, true, true, true, true, true, true, true, true, true, true, true, false, true, true, false, false, false, false, false, false, false, false] rfl rfl (any_of HT_.out (by kernel_rfl)) (fun _ _ _ h => h) (Or.inl ⟨by rfl, ?_⟩) ?_ ?_
        rotate_left
        ·intro w'
         go_simp
         with_reducible rfl
        rotate_left
        ·simp only [Act.put, List.setIfInBounds_toArray, List.set_cons_zero, List.set_cons_succ, i64_w, i32_w]
         rfl
        refine pure_ (i := 16) (N := some 32) (v := ?_) (a' := ?_) #[true, true, true, true, true, true, true, true, true, true, true, true, true, false, true, true, true, false, false, false, false, false, false, false] rfl rfl (any_of HT_.out (by kernel_rfl)) (fun _ _ _ h => h) (Or.inl ⟨by rfl, ?_⟩) ?_ ?_
        rotate_left
        ·intro w'
         go_simp
         with_reducible rfl
        rotate_left
        ·simp only [Act.put, List.setIfInBounds_toArray, List.set_cons_zero, List.set_cons_succ, i64_w, i32_w]
         rfl
        refine pure_ (i := 17) (N := some 33) (v := ?_) (a' := ?_) #[true, true, true, true, true, true, true, true, true, true, true, true, true, false, true, true, true, true, false, false, false, false, false, false] rfl rfl (any_of HT_.out (by kernel_rfl)) (fun _ _ _ h => h) (Or.inl ⟨by rfl, ?_⟩) ?_ ?_
        rotate_left
        ·intro w'
         go_simp
         with_reducible rfl
        rotate_left
        ·simp only [Act.put, List.setIfInBounds_toArray, List.set_cons_zero, List.set_cons_succ, i64_w, i32_w]
         rfl
        refine pure_ (i := 18) (N := some 34) (v := ?_) (a' := ?_) #[true, true, true, true, true, true, true, true, true, true, true, true, true, false, true, true, true, true, true, false, false, false, false, false] rfl rfl (any_of HT_.out (by kernel_rfl)) (fun _ _ _ h => h) (Or.inl ⟨by rfl, ?_⟩) ?_ ?_
        rotate_left
        ·intro w'
         go_simp
         with_reducible rfl
        rotate_left
        ·simp only [Act.put, List.setIfInBounds_toArray, List.set_cons_zero, List.set_cons_succ, i64_w, i32_w]
         rfl
        refine take_ (i := 13) (N := some 29) (v := ?_) (a' := ?_) #[true, true, true, true, true, true, true, true, true, true, true, true, true, true, true, true, true, true, true, false, false, false, false, false] rfl rfl (take_ofW HT_.out HW_.out (by kernel_rfl)) (fun _ _ _ h => h) (Or.inl ⟨by rfl, ?_⟩) hHeld ?_ ?_
        rotate_left
        ·rintro w' ⟨s0, s1, s2, s3, s4, s5, s6, s7, s8, s9⟩
         go_simp
         with_reducible rfl
        rotate_left
        ·simp only [Act.put, List.setIfInBounds_toArray, List.set_cons_zero, List.set_cons_succ, i64_w, i32_w]
         rfl
        refine take_ (i := 19) (N := some 35) (v := ?_) (a' := ?_) #[true, true, true, true, true, true, true, true, true, true, true, true, true, true, true, true, true, true, true, true, false, false, false, false] rfl rfl (take_ofW HT_.out HW_.out (by kernel_rfl)) (fun _ _ _ h => h) (Or.inl ⟨by rfl, ?_⟩) hHeld ?_ ?_
        rotate_left
        ·rintro w' ⟨s0, s1, s2, s3, s4, s5, s6, s7, s8, s9⟩
         go_simp
         with_reducible rfl
        rotate_left
        ·simp only [Act.put, List.setIfInBounds_toArray, List.set_cons_zero, List.set_cons_succ, i64_w, i32_w]
         rfl
        refine pure_ (i := 20) (N := some 36) (v := ?_) (a' := ?_) #[true, true, true, true, true, true, true, true, true, true, true, true, true, true, true, true, true, true, true, true, true, false, false, false] rfl rfl (any_of HT_.out (by kernel_rfl)) (fun _ _ _ h => h) (Or.inl ⟨by rfl, ?_⟩) ?_ ?_
        rotate_left
        ·intro w'
         go_simp
         with_reducible rfl
        rotate_left
        ·simp only [Act.put, List.setIfInBounds_toArray, List.set_cons_zero, List.set_cons_succ, i64_w, i32_w]
         rfl
        refine last_ (i := 21) (N := none) #[true, true, true, true, true, true, true, true, true, true, true, true, true, true, true, true, true, true, true, true, true, true, false, false] rfl rfl (one_of HT_.out (by kernel_rfl)) (by decide) (fun K hK => ?_)
        refine skip_ (w1 := (((((w15.setCell ⟨go13, ((ji10) : Int).toNat * 5, none⟩ (.int .i64 ((rd_T50 x0_1 (ji7)).f0))).setCell ⟨go13, ((ji10) : Int).toNat * 5 + 1, none⟩ (.int .i64 ((rd_T50 x0_1 (ji7)).f1.f0))).setCell ⟨go13, ((ji10) : Int).toNat * 5 + 2, none⟩ (.int .i64 ((rd_T50 x0_1 (ji7)).f1.f1))).setCell ⟨go13, ((ji10) : Int).toNat * 5 + 3, none⟩ (.int .i64 ((rd_T50 x0_1 (ji7)).f1.f2))).setCell ⟨go13, ((ji10) : Int).toNat * 5 + 4, none⟩ (.int .i64 ((rd_T50 x0_1 (ji7)).f1.f3)))) (by rfl) rfl (row_store_run k50 rfl (e := 50) (seg := [.int .i64 ((rd_T50 x0_1 (ji7)).f0), .int .i64 ((rd_T50 x0_1 (ji7)).f1.f0), .int .i64 ((rd_T50 x0_1 (ji7)).f1.f1), .int .i64 ((rd_T50 x0_1 (ji7)).f1.f2), .int .i64 ((rd_T50 x0_1 (ji7)).f1.f3)]) rfl rfl rfl (by kernel_rfl) rfl (by intro q_ hq_; simp only [List.mem_cons, List.not_mem_nil, or_false] at hq_; rcases hq_ with rfl | rfl | rfl | rfl | rfl <;> rfl) HO_0.out ((ji10) : Int) rfl (of_decide_eq_true (by first | (with_reducible assumption) | assumption)) (by have h_ : ((ji10) : Int) < ((x0_1.length : Int) : Int) := of_decide_eq_true (by first | (with_reducible assumption) | assumption); first | exact h_ | (have e_ := (Kd.R_reads' HO_0.out).1; omega) | simpa using h_)) ?_
        refine hK.out _ _ ?_
        clear hK K
        refine pure_ (i := 22) (N := some 37) (v := ?_) (a' := ?_) #[true, true, true, true, true, true, true, true, true, true, true, true, true, true, true, true, true, true, true, true, true, true, true, false] rfl rfl (any_of HT_.out (by kernel_rfl)) (fun _ _ _ h => h) (Or.inl ⟨by rfl, ?_⟩) ?_ ?_
        rotate_left
        ·intro w'
         go_simp
         with_reducible rfl
        rotate_left
        ·simp only [Act.put, List.setIfInBounds_toArray, List.set_cons_zero, List.set_cons_succ, i64_w, i32_w]
         rfl
        refine last_ (i := 23) (N := none) #[true, true, true, true, true, true, true, true, true, true, true, true, true, true, true, true, true, true, true, true, true, true, true, true] rfl rfl (one_of HT_.out (by kernel_rfl)) (by decide) (fun K hK => ?_)
        refine skip_ (w1 := ((((((((((w15.setCell ⟨go13, ((ji10) : Int).toNat * 5, none⟩ (.int .i64 ((rd_T50 x0_1 (ji7)).f0))).setCell ⟨go13, ((ji10) : Int).toNat * 5 + 1, none⟩ (.int .i64 ((rd_T50 x0_1 (ji7)).f1.f0))).setCell ⟨go13, ((ji10) : Int).toNat * 5 + 2, none⟩ (.int .i64 ((rd_T50 x0_1 (ji7)).f1.f1))).setCell ⟨go13, ((ji10) : Int).toNat * 5 + 3, none⟩ (.int .i64 ((rd_T50 x0_1 (ji7)).f1.f2))).setCell ⟨go13, ((ji10) : Int).toNat * 5 + 4, none⟩ (.int .i64 ((rd_T50 x0_1 (ji7)).f1.f3))).setCell ⟨go13, ((ji7) : Int).toNat * 5, none⟩ (.int .i64 ((rd_T50 x0_1 (ji10)).f0))).setCell ⟨go13, ((ji7) : Int).toNat * 5 + 1, none⟩ (.int .i64 ((rd_T50 x0_1 (ji10)).f1.f0))).setCell ⟨go13, ((ji7) : Int).toNat * 5 + 2, none⟩ (.int .i64 ((rd_T50 x0_1 (ji10)).f1.f1))).setCell ⟨go13, ((ji7) : Int).toNat * 5 + 3, none⟩ (.int .i64 ((rd_T50 x0_1 (ji10)).f1.f2))).setCell ⟨go13, ((ji7) : Int).toNat * 5 + 4, none⟩ (.int .i64 ((rd_T50 x0_1 (ji10)).f1.f3)))) (by rfl) rfl (row_store_run k50 rfl (e := 50) (seg := [.int .i64 ((rd_T50 x0_1 (ji10)).f0), .int .i64 ((rd_T50 x0_1 (ji10)).f1.f0), .int .i64 ((rd_T50 x0_1 (ji10)).f1.f1), .int .i64 ((rd_T50 x0_1 (ji10)).f1.f2), .int .i64 ((rd_T50 x0_1 (ji10)).f1.f3)]) rfl rfl rfl (by kernel_rfl) rfl (by intro q_ hq_; simp only [List.mem_cons, List.not_mem_nil, or_false] at hq_; rcases hq_ with rfl | rfl | rfl | rfl | rfl <;> rfl) HQ17.out ((ji7) : Int) rfl (of_decide_eq_true (by first | (with_reducible assumption) | assumption)) (by have h_ : ((ji7) : Int) < ((x0_1.length : Int) : Int) := of_decide_eq_true (by first | (with_reducible assumption) | assumption); first | exact h_ | (have e_ := (Kd.R_reads' HO_0.out).1; omega) | simpa using h_)) ?_
        refine hK.out _ _ ?_
        clear hK K
        refine done_ (done_of HT_.out (by kernel_rfl)) ?_
        try go_wp2
        go_roundg k1
        case measure => have := HK1.out; omega
        case rel => exact ⟨(y185), (wrap64 (x10_1 + 1)), (by first | rfl | (simp; done) | (simp [*]; done)), H', ⟨by have := HK1.out; omega⟩, ⟨mR HQ18.out⟩, ⟨by repeat (first | (with_reducible first | exact HK.out | apply Kept.alloc | apply Kept.drewN | apply Kept.drew | refine Kept.setCell ?_ HMgo13.out _ | refine Kept.setCell ?_ HMgo13.out _ | refine Kept.setCell ?_ HMgo13.out _ | refine Kept.setCell ?_ HMgo13.out _ | refine Kept.setCell ?_ HMgo13.out _ | refine Kept.setCell ?_ HMgo13.out _ | refine Kept.setCell ?_ HMgo13.out _ | refine Kept.setCell ?_ HMgo13.out _ | refine Kept.setCell ?_ HMgo13.out _ | refine Kept.setCell ?_ HMgo13.out _) | exact HK.out)⟩, ⟨mB10 GB13.out GB13.out GB13.out GB13.out GB13.out GB13.out GB13.out GB13.out GB13.out GB13.out HB.out⟩⟩
       ·rw [if_neg c12] at H
        exact absurd H (by simp)
      ·rw [if_neg c11] at H
       exact absurd H (by simp)
     ·rw [if_neg c9] at H
      exact absurd H (by simp)
    ·rw [if_neg c8] at H
     exact absurd H (by simp)
   ·rw [if_neg c6] at H
    have c6b0 : decide (x10_1 < a3) = false := decide_eq_false c6
    clear c6
    obtain rfl := Option.some.inj H
    go_wp2
    first | go_end0 | ((try simp only [Exit.inBlock, Exit.then]); refine bodyPost_ret (results_none rfl _ _ _) rfl ?_)
    exact ⟨mE, mR HO_0.out, mB HB.out, mP HK.out⟩

/-! ### impl_Deep_81: function 81 -/
def impl_Deep_81.l0 : Nat → List (S50) → Int → GtC → Int → Int → Option ((List (S50)))
 | 0, _, _, _, _, _ => none
 | k + 1, x0, x2, x4, x10, x11 => if x10 = x11 then ((impl_Deep_82.f k x0 (wrap64 (x2 - x10)) x2 x10 x4).bind fun t186 => (some t186)) else (if x10 > x11 then ((impl_Deep_82.f k x0 (wrap64 (x2 - x10)) x2 x11 x4).bind fun t187 => (impl_Deep_81.l0 k t187 x2 x4 (wrap64 (x10 - x11)) x11)) else ((impl_Deep_82.f k x0 (wrap64 (x2 - x10)) (wrap64 ((wrap64 (x2 + x11)) - x10)) x10 x4).bind fun t188 => (impl_Deep_81.l0 k t188 x2 x4 x10 (wrap64 (x11 - x10)))))
def impl_Deep_81.f (k : Nat) (l0 : List (S50)) (a1 : Int) (a2 : Int) (a3 : Int) (a4 : GtC) : Option ((List (S50))) := impl_Deep_81.l0 k l0 a2 a4 (wrap64 (a2 - a1)) (wrap64 (a3 - a2))
theorem impl_Deep_81.mono_l : ∀ k, (∀ y0 y1 y2 y3 y4, LeO (impl_Deep_81.l0 k y0 y1 y2 y3 y4) (impl_Deep_81.l0 (k + 1) y0 y1 y2 y3 y4))
 | 0 => fun _ _ _ _ _ r h => by simp [impl_Deep_81.l0] at h
 | k + 1 => by
  have ih0 := impl_Deep_81.mono_l k
  ·intro y0 y1 y2 y3 y4
   unfold impl_Deep_81.l0
   repeat' first
   | (with_reducible exact ih0 _ _ _ _ _)
   | (with_reducible exact impl_Deep_82.mono _ _ _ _ _ _)
   | (with_reducible exact LeO.refl _)
   | (with_reducible exact LeO.none _)
   | (with_reducible refine LeO.ite ?_ ?_)
   | (with_reducible refine LeO.bind ?_ (fun _ => ?_))
   | exact ih0 _ _ _ _ _
   | exact impl_Deep_82.mono _ _ _ _ _ _
   | exact LeO.none _
   | refine LeO.ite ?_ ?_
   | refine LeO.bind ?_ (fun _ => ?_)
theorem impl_Deep_81.mono : ∀ a0 a1 a2 a3 a4 k, LeO (impl_Deep_81.f k a0 a1 a2 a3 a4) (impl_Deep_81.f (k + 1) a0 a1 a2 a3 a4) := by
 intro a0 a1 a2 a3 a4 k
 have ih0 := impl_Deep_81.mono_l k
 unfold impl_Deep_81.f
 repeat' first
   | (with_reducible exact ih0 _ _ _ _ _)
   | (with_reducible exact impl_Deep_82.mono _ _ _ _ _ _)
   | (with_reducible exact LeO.refl _)
   | (with_reducible exact LeO.none _)
   | (with_reducible refine LeO.ite ?_ ?_)
   | (with_reducible refine LeO.bind ?_ (fun _ => ?_))
   | exact ih0 _ _ _ _ _
   | exact impl_Deep_82.mono _ _ _ _ _ _
   | exact LeO.none _
   | refine LeO.ite ?_ ?_
   | refine LeO.bind ?_ (fun _ => ?_)
set_option maxHeartbeats 8000000 in
set_option maxRecDepth 100000 in
theorem impl_Deep_81.calls (k : Nat) (P0_ : Nat → Prop) (u9000_ : Value) (l0 : List (S50)) (a1 : Int) (a2 : Int) (a3 : Int) (a4 : GtC) (r : List (S50)) (w0 w : World) (hB : Below w0.heap.size w0 w) (ho0 : Kd.R k50 50 w w0.heap.size P0_ u9000_ l0) {cf4 : FuncId} {cc4 : Array Value} (ha4 : Aside0 (FnOkC w cf4 cc4 a4)) (h : impl_Deep_81.f k l0 a1 a2 a3 a4 = some r) :
  Calls Try.prog 81 #[u9000_, .int .i64 a1, .int .i64 a2, .int .i64 a3, (.func (.func cf4) #[] cc4)] w fun e w' => e = .returned (.tuple #[]) ∧ Kd.R k50 50 w' w0.heap.size (fun k_ => (P0_ k_ ∨ w.heap.size ≤ k_)) u9000_ r ∧ Below w0.heap.size w0 w' ∧ Kept w w' (fun k_ => P0_ k_) := by
 have HO0 := Aside0.mk (show Kd.R k50 50 w w0.heap.size (fun k_ => (P0_ k_ ∨ w.heap.size ≤ k_)) u9000_ l0 from Kd.R_mono ho0 (fun k_ hk => (.inl hk)))
 have HK := Aside0.mk (Kept.refl w (fun k_ => P0_ k_))
 have HW0 := Aside0.mk hB.size
 have HB := Aside0.mk hB
 clear hB
 have H : (impl_Deep_81.l0 k l0 a2 a4 (wrap64 (a2 - a1)) (wrap64 (a3 - a2))) = some r := h
 clear h
 have H' := Aside0.mk H
 clear H
 go_enter Try.func81, Try.ntmps81
 go_wp2
 go_loopg [10, 11] k (fun kq v10 v11 w' => ∃ (x0_1 : List (S50)) (x10_1 : Int) (x11_1 : Int), v10 = .int .i64 x10_1 ∧ v11 = .int .i64 x11_1 ∧ Aside0 (impl_Deep_81.l0 kq x0_1 a2 a4 x10_1 x11_1 = some r) ∧ Aside0 (kq ≤ k) ∧ Aside0 (Kd.R k50 50 w' w0.heap.size (fun k_ => (P0_ k_ ∨ w.heap.size ≤ k_)) u9000_ x0_1) ∧ Aside0 (Kept w w' (fun k_ => P0_ k_)) ∧ Aside0 (Below w0.heap.size w0 w'))
 case atStart => exact ⟨(l0), (wrap64 (a2 - a1)), (wrap64 (a3 - a2)), (by first | rfl | (simp; done) | (simp [*]; done)), (by first | rfl | (simp; done) | (simp [*]; done)), H', ⟨Nat.le_refl _⟩, ⟨mR HO0.out⟩, ⟨mP HK.out⟩, ⟨mB HB.out⟩⟩
 case round =>
  clear H'
  obtain ⟨x0_1, x10_1, x11_1, rfl, rfl, HA, HK1, HO_0, HK, HB⟩ := hrel
  cases gk with
  | zero => exact absurd HA.out (by simp [impl_Deep_81.l0])
  | succ k1 =>
   have H := HA.out
   clear HA
   simp only [impl_Deep_81.l0] at H
   by_cases c6 : x10_1 = x11_1
   ·rw [if_pos c6] at H
    have c6b0 : (x10_1 == x11_1) = true := beq_iff_eq.mpr c6
    have c6b1 : (x10_1 != x11_1) = false := bne_eq_false_iff_eq.mpr c6
    clear c6
    replace H := Option.bind_eq_some_iff.mp H
    obtain ⟨t186, A70, H⟩ := H
    have A7 := Aside0.mk A70
    clear A70
    obtain rfl := Option.some.inj H
    obtain ⟨Ao8, co8, eo8⟩ := Kd.R_slice HO_0.out
    subst eo8
    go_wp2_with (first | ((with_reducible refine gate_callee (f := 82) rfl ?_); refine goesL_ (some 57) rfl rfl Try.func82 (by kernel_rfl) rfl #[.slice Ao8 x0_1.length co8, .int .i64 (wrap64 (a2 - x10_1)), .int .i64 a2, .int .i64 x10_1, (.func (.func cf4) #[] cc4)] rfl mT ?_; (with_reducible refine (impl_Deep_82.calls k1 (fun k_ => some k_ = (.slice Ao8 x0_1.length co8 : Value).ownBlock) (.slice Ao8 x0_1.length co8) x0_1 (wrap64 (a2 - x10_1)) a2 x10_1 a4 t186 w0 _ ?side1 ?side2 ⟨ha4.out.mono trivial⟩ A7.out).mono ?_); (case side1 => exact mB HB.out); (case side2 => exact Kd.R_tight rfl HO_0.out); rintro e w9 ⟨rfl, hy0, hb, hkp⟩; refine ⟨_, rfl, ?_⟩; have n0_ := Aside0.mk (Kd.R_reok rfl hy0 (fun k_ e_ => HO_0.out.1 k_ e_)); have n1_ := Aside0.mk (Kept.then_ (S := (fun k_ => P0_ k_)) (mP HK.out) hkp (fun k_ hs_ => (fun e_ => (HO_0.out.1 k_ e_.symm)) hs_)); have n2_ := Aside0.mk (hb); clear HO_0; clear HK; clear HB; have HO_0 := n0_; have HK := n1_; have HB := n2_; clear n0_ n1_ n2_; (try clear hb); (try clear hkp); (try clear hy0)))
    first | go_end0 | ((try simp only [Exit.inBlock, Exit.then]); refine bodyPost_ret (results_none rfl _ _ _) rfl ?_)
    exact ⟨mE, mR HO_0.out, mB HB.out, mP HK.out⟩
   ·rw [if_neg c6] at H
    have c6b0 : (x10_1 == x11_1) = false := beq_eq_false_iff_ne.mpr c6
    have c6b1 : (x10_1 != x11_1) = true := bne_iff_ne.mpr c6
    by_cases c10 : x10_1 > x11_1
    ·rw [if_pos c10] at H
     have c10b0 : decide (x11_1 < x10_1) = true := decide_eq_true c10
     clear c10
     replace H := Option.bind_eq_some_iff.mp H
     obtain ⟨t187, A110, H⟩ := H
     have A11 := Aside0.mk A110
     clear A110
     have H' := Aside0.mk H
     clear H
     obtain ⟨Ao12, co12, eo12⟩ := Kd.R_slice HO_0.out
     subst eo12
     go_wp2_with (first | ((with_reducible refine gate_callee (f := 82) rfl ?_); refine goesL_ (some 31) rfl rfl Try.func82 (by kernel_rfl) rfl #[.slice Ao12 x0_1.length co12, .int .i64 (wrap64 (a2 - x10_1)), .int .i64 a2, .int .i64 x11_1, (.func (.func cf4) #[] cc4)] rfl mT ?_; (with_reducible refine (impl_Deep_82.calls k1 (fun k_ => some k_ = (.slice Ao12 x0_1.length co12 : Value).ownBlock) (.slice Ao12 x0_1.length co12) x0_1 (wrap64 (a2 - x10_1)) a2 x11_1 a4 t187 w0 _ ?side1 ?side2 ⟨ha4.out.mono trivial⟩ A11.out).mono ?_); (case side1 => exact mB HB.out); (case side2 => exact Kd.R_tight rfl HO_0.out); rintro e w13 ⟨rfl, hy0, hb, hkp⟩; refine ⟨_, rfl, ?_⟩; have n0_ := Aside0.mk (Kd.R_reok rfl hy0 (fun k_ e_ => HO_0.out.1 k_ e_)); have n1_ := Aside0.mk (Kept.then_ (S := (fun k_ => P0_ k_)) (mP HK.out) hkp (fun k_ hs_ => (fun e_ => (HO_0.out.1 k_ e_.symm)) hs_)); have n2_ := Aside0.mk (hb); clear HO_0; clear HK; clear HB; have HO_0 := n0_; have HK := n1_; have HB := n2_; clear n0_ n1_ n2_; (try clear hb); (try clear hkp); (try clear hy0)))
     go_roundg k1
     case measure => have := HK1.out; omega
     case rel => exact ⟨(t187), (wrap64 (x10_1 - x11_1)), (x11_1), (by first | rfl | (simp; done) | (simp [*]; done)), (by first | rfl | (simp; done) | (simp [*]; done)), H', ⟨by have := HK1.out; omega⟩, ⟨mR HO_0.out⟩, ⟨mP HK.out⟩, ⟨mB HB.out⟩⟩
    ·rw [if_neg c10] at H
     have c10b0 : decide (x11_1 < x10_1) = false := decide_eq_false c10
     clear c10
     replace H := Option.bind_eq_some_iff.mp H
     obtain ⟨t188, A140, H⟩ := H
     have A14 := Aside0.mk A140
     clear A140
     have H' := Aside0.mk H
     clear H
     obtain ⟨Ao15, co15, eo15⟩ := Kd.R_slice HO_0.out
     subst eo15
     go_wp2_with (first | ((with_reducible refine gate_callee (f := 82) rfl ?_); refine goesL_ (some 46) rfl rfl Try.func82 (by kernel_rfl) rfl #[.slice Ao15 x0_1.length co15, .int .i64 (wrap64 (a2 - x10_1)), .int .i64 (wrap64 ((wrap64 (a2 + x11_1)) - x10_1)), .int .i64 x10_1, (.func (.func cf4) #[] cc4)] rfl mT ?_; (with_reducible refine (impl_Deep_82.calls k1 (fun k_ => some k_ = (.slice Ao15 x0_1.length co15 : Value).ownBlock) (.slice Ao15 x0_1.length co15) x0_1 (wrap64 (a2 - x10_1)) (wrap64 ((wrap64 (a2 + x11_1)) - x10_1)) x10_1 a4 t188 w0 _ ?side1 ?side2 ⟨ha4.out.mono trivial⟩ A14.out).mono ?_); (case side1 => exact mB HB.out); (case side2 => exact Kd.R_tight rfl HO_0.out); rintro e w16 ⟨rfl, hy0, hb, hkp⟩; refine ⟨_, rfl, ?_⟩; have n0_ := Aside0.mk (Kd.R_reok rfl hy0 (fun k_ e_ => HO_0.out.1 k_ e_)); have n1_ := Aside0.mk (Kept.then_ (S := (fun k_ => P0_ k_)) (mP HK.out) hkp (fun k_ hs_ => (fun e_ => (HO_0.out.1 k_ e_.symm)) hs_)); have n2_ := Aside0.mk (hb); clear HO_0; clear HK; clear HB; have HO_0 := n0_; have HK := n1_; have HB := n2_; clear n0_ n1_ n2_; (try clear hb); (try clear hkp); (try clear hy0)))
     go_roundg k1
     case measure => have := HK1.out; omega
     case rel => exact ⟨(t188), (x10_1), (wrap64 (x11_1 - x10_1)), (by first | rfl | (simp; done) | (simp [*]; done)), (by first | rfl | (simp; done) | (simp [*]; done)), H', ⟨by have := HK1.out; omega⟩, ⟨mR HO_0.out⟩, ⟨mP HK.out⟩, ⟨mB HB.out⟩⟩

end Go.Proofs.Ytbafihapjbkagaa.PFnDeeps
