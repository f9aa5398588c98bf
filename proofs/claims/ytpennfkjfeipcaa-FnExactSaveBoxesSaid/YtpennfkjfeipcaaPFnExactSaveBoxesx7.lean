/- The functions that the law reaches, as Lean functions, each with the proof that the Go code comes to just these answers. Written by a program of this session (wip/tools/handprint.py over the kit's print); by hand where the print takes no such text. -/
import Derived.Test.YtpennfkjfeipcaaPFnExactSaveBoxesx0
import Derived.Test.YtpennfkjfeipcaaPFnExactSaveBoxesx1
import Derived.Test.YtpennfkjfeipcaaPFnExactSaveBoxesx2
import Derived.Test.YtpennfkjfeipcaaPFnExactSaveBoxesx4
import Derived.Test.YtpennfkjfeipcaaPFnExactSaveBoxesx6
namespace Go.Proofs.Ytpennfkjfeipcaa.PFnExactSaveBoxes
open Go.RowKit Go.Proofs.YtpennfkjfeipcaaW.PrintWords Go.Proofs.YtpennfkjfeipcaaW.PrintLast Go.Proofs.YtpennfkjfeipcaaW.PrintMore
attribute [local go_sem] max2_int min2_int max_two min_two max_three min_three max_four min_four   -- for this text's walks alone
set_option linter.unusedVariables false
set_option linter.unusedSimpArgs false

/-! ### laws_FnExactSaveBoxes: function 4 -/
-- rounds 1 making 1
theorem held_S {k : Nat} {A : Option Addr} {n c base : Nat} {l : List S46} {a r : Int} {w : World} {ok : Nat → Prop} (hS : Kd.S k46 46 w base ok (.slice A n c) l) (h : laws_heldBoxS.f k l a = some r) :
    Calls Try.prog 20 #[.slice A n c, .int .i64 a] w fun e w' => e = .returned (.int .i64 r) ∧ Below w.heap.size w w' := by
  obtain ⟨h1, h2, h3⟩ := Kd.S_reads' hS
  subst h1
  exact laws_heldBoxS.calls k A c l a r w h3 h2 h
theorem eq_S {k : Nat} {A A' : Option Addr} {n c n' c' base base' : Nat} {l l' : List S46} {r : Bool} {w : World} {ok ok' : Nat → Prop} (hS : Kd.S k46 46 w base ok (.slice A n c) l) (hS' : Kd.S k46 46 w base' ok' (.slice A' n' c') l') (h : laws_eqBoxS.f k l l' = some r) :
    Calls Try.prog 13 #[.slice A n c, .slice A' n' c'] w fun e w' => e = .returned (.bool r) ∧ Below w.heap.size w w' := by
  obtain ⟨h1, h2, h3⟩ := Kd.S_reads' hS
  obtain ⟨h4, h5, h6⟩ := Kd.S_reads' hS'
  subst h1
  subst h4
  exact laws_eqBoxS.calls k A c l A' c' l' r w h3 h2 h6 h5 h
def laws_FnExactSaveBoxes.f (k : Nat) (l0 : List Int) : Option Bool := if (l0.length : Int) > 1048576 then some true else (laws_toByteS.f k l0).bind fun t => (spec_SaveBoxes.f k t).bind fun r => (impl_SaveBoxes.f k t).bind fun g => (laws_eqBoxS.f k g r).bind fun e1 => (laws_eqByteS.f k t t).bind fun e2 => (laws_markByteS.f k t 1).bind fun b1 => (markBoxS0.f k g 1).bind fun b2 => (laws_heldBoxS.f k b2.2 1).bind fun q => if t = l0 ∧ e1 = true ∧ e2 = true ∧ 0 ≤ b1.1 ∧ 0 ≤ b2.1 ∧ q = b2.1 then some true else none
set_option maxHeartbeats 8000000 in
set_option maxRecDepth 100000 in
theorem laws_FnExactSaveBoxes.calls (k : Nat) (A0 : Option Addr) (c0 : Nat) (l0 : List Int) (r : Bool) (w : World) (hr0 : Kd.C (Kd.int .u8) w A0 l0.length l0) (hc0 : l0.length ≤ c0) (h : laws_FnExactSaveBoxes.f k l0 = some r) :
    Calls Try.prog 4 #[.slice A0 l0.length c0] w fun e w' => e = .returned (.bool r) ∧ Below w.heap.size w w' := by
  have HB := Aside0.mk (Below.refl w.heap.size w)
  have HR0 := Aside0.mk hr0
  have HC0 := Aside0.mk hc0
  clear hr0 hc0
  unfold laws_FnExactSaveBoxes.f at h
  by_cases c : (l0.length : Int) > 1048576
  · rw [if_pos c] at h
    obtain rfl := Option.some.inj h
    have cb0 : decide ((1048576 : Int) < (l0.length : Int)) = true := decide_eq_true c
    have cb1 : decide (1048576 < l0.length) = true := decide_eq_true (by omega)
    clear h c
    go_enter Try.func4, Try.ntmps4
    go_wp2
    go_ret
    exact ⟨rfl, HB.out⟩
  · rw [if_neg c] at h
    have cb0 : decide ((1048576 : Int) < (l0.length : Int)) = false := decide_eq_false c
    have cb1 : decide (1048576 < l0.length) = false := decide_eq_false (by omega)
    obtain ⟨t, ht, h⟩ := Option.bind_eq_some_iff.1 h
    obtain ⟨r, hs, h⟩ := Option.bind_eq_some_iff.1 h
    obtain ⟨g, hi, h⟩ := Option.bind_eq_some_iff.1 h
    obtain ⟨e1, he, h⟩ := Option.bind_eq_some_iff.1 h
    obtain ⟨e2, heb, h⟩ := Option.bind_eq_some_iff.1 h
    obtain ⟨⟨b1, b1l⟩, hm1, h⟩ := Option.bind_eq_some_iff.1 h
    obtain ⟨⟨b2, b2l⟩, hm2, h⟩ := Option.bind_eq_some_iff.1 h
    obtain ⟨q, hh, h⟩ := Option.bind_eq_some_iff.1 h
    by_cases c2 : t = l0 ∧ e1 = true ∧ e2 = true ∧ 0 ≤ b1 ∧ 0 ≤ b2 ∧ q = b2
    case neg =>
      rw [if_neg c2] at h
      exact absurd h (by simp)
    rw [if_pos c2] at h
    obtain rfl := Option.some.inj h
    obtain ⟨ht0, rfl, rfl, c3, c4, hq0⟩ := c2
    have ht1 := ht0.symm
    have hq1_ := hq0.symm
    subst ht1
    subst hq1_
    try clear ht0 hq0
    have HT := Aside0.mk ht
    have HS := Aside0.mk hs
    have HI := Aside0.mk hi
    have HE := Aside0.mk he
    have HEB := Aside0.mk heb
    have HM1 := Aside0.mk hm1
    have HM2 := Aside0.mk hm2
    have HHD := Aside0.mk hh
    have hq1 : decide (b1 < 0) = false := decide_eq_false (by omega)
    have hq2 : decide (b2 < 0) = false := decide_eq_false (by omega)
    clear ht hs hi he heb hm1 hm2 hh h c c3 c4
    go_enter Try.func4, Try.ntmps4
    go_wp2_with (first | ((with_reducible refine gate_dst (N := 14) rfl ?_); refine goesL_ (some 14) rfl rfl Try.func15 (by kernel_rfl) rfl #[.slice A0 l0.length c0] rfl (by (try simp only [List.map_toArray, List.map_cons, List.map_nil]); first | done | rfl) ?_; (refine (laws_toByteS.calls k A0 c0 l0 l0 _ (by exact Kd.C_below HR0.out HB.out) HC0.out HT.out).mono ?_); rintro e_ W1_ ⟨v14, rfl, ho_, hb_⟩; refine ⟨_, rfl, ?_⟩; have nHB_ := Aside0.mk (below_step HB.out hb_); clear HB; have HB := nHB_; clear nHB_; have H14 := Aside0.mk ho_; obtain ⟨A14, c14, e14_⟩ := Kd.R_slice ho_; subst e14_; clear ho_ hb_) | ((with_reducible refine gate_dst (N := 15) rfl ?_); refine goesL_ (some 15) rfl rfl Try.func14 (by kernel_rfl) rfl #[.slice A14 l0.length c14] rfl (by (try simp only [List.map_toArray, List.map_cons, List.map_nil]); first | done | rfl) ?_; (refine (spec_SaveBoxes.calls k A14 c14 l0 r _ (by exact (Kd.R_reads' H14.out).2.2) (by exact (Kd.R_reads' H14.out).2.1) HS.out).mono ?_); rintro e_ W2_ ⟨v15, rfl, ho_, hb_⟩; refine ⟨_, rfl, ?_⟩; obtain ⟨n2, hn2_⟩ : ∃ n : Nat, n = W2_.heap.size := ⟨_, rfl⟩; have HN2 := Aside0.mk hn2_; have HW := Aside0.mk (Kd.S_lower (Kd.S_mono (ok' := fun k_ => k_ < n2) (Kd.S_bound ho_) (fun k_ hk_ => by rw [hn2_]; exact hk_.2.2.1)) HB.out.size); have nHB_ := Aside0.mk (below_step HB.out hb_); clear HB; have HB := nHB_; clear nHB_; obtain ⟨A15, c15, e15_⟩ := Kd.S_slice ho_; subst e15_; clear ho_ hb_ H14 hn2_) | ((with_reducible refine gate_dst (N := 17) rfl ?_); refine goesL_ (some 17) rfl rfl Try.func15 (by kernel_rfl) rfl #[.slice A0 l0.length c0] rfl (by (try simp only [List.map_toArray, List.map_cons, List.map_nil]); first | done | rfl) ?_; (refine (laws_toByteS.calls k A0 c0 l0 l0 _ (by exact Kd.C_below HR0.out HB.out) HC0.out HT.out).mono ?_); rintro e_ W3_ ⟨v17, rfl, ho_, hb_⟩; refine ⟨_, rfl, ?_⟩; have nHW_ := Aside0.mk (Kd.S_below HW.out hb_); clear HW; have HW := nHW_; clear nHW_; have HBo_ := HB; have nHB_ := Aside0.mk (below_step HB.out hb_); clear HB; have HB := nHB_; clear nHB_; obtain ⟨n3, hn3_⟩ : ∃ n : Nat, n = W3_.heap.size := ⟨_, rfl⟩; have HN3 := Aside0.mk hn3_; have HN23 : Aside0 (n2 ≤ n3) := ⟨by rw [hn3_, HN2.out]; exact hb_.size⟩; have HX := Aside0.mk (Kd.R_lower (base' := w.heap.size) (Kd.R_mono (ok' := fun k_ => n2 ≤ k_ ∧ k_ < n3) (Kd.R_bound ho_) (fun k_ hk_ => ⟨by rw [HN2.out]; exact hk_.2.1, by rw [hn3_]; exact hk_.2.2.1⟩)) HBo_.out.size); clear hn3_ HBo_; obtain ⟨A17, c17, e17_⟩ := Kd.R_slice ho_; subst e17_; clear ho_ hb_) | ((with_reducible refine gate_dst (N := 19) rfl ?_); refine goesL_ (some 19) rfl rfl Try.func16 (by kernel_rfl) rfl #[.slice A17 l0.length c17] rfl (by (try simp only [List.map_toArray, List.map_cons, List.map_nil]); first | done | rfl) ?_; (refine (impl_SaveBoxes.calls k A17 c17 l0 g _ (by exact (Kd.R_reads' HX.out).2.2) (by exact (Kd.R_reads' HX.out).2.1) HI.out).mono ?_); rintro e_ W4_ ⟨v19, rfl, ho_, hb_⟩; refine ⟨_, rfl, ?_⟩; have HG := Aside0.mk (Kd.S_lower (Kd.S_mono (ok' := fun k_ => n3 ≤ k_) (Kd.S_bound ho_) (fun k_ hk_ => by rw [HN3.out]; exact hk_.2.1)) HB.out.size); have nHW_ := Aside0.mk (Kd.S_below HW.out hb_); clear HW; have HW := nHW_; clear nHW_; have nHX_ := Aside0.mk (Kd.R_below HX.out hb_); clear HX; have HX := nHX_; clear nHX_; have nHB_ := Aside0.mk (below_step HB.out hb_); clear HB; have HB := nHB_; clear nHB_; obtain ⟨A19, c19, e19_⟩ := Kd.S_slice ho_; subst e19_; clear ho_ hb_) | ((with_reducible refine gate_dst (N := 22) rfl ?_); refine goesL_ (some 22) rfl rfl Try.func13 (by kernel_rfl) rfl #[.slice A19 g.length c19, .slice A15 r.length c15] rfl (by (try simp only [List.map_toArray, List.map_cons, List.map_nil]); first | done | rfl) ?_; (refine (eq_S HG.out HW.out HE.out).mono ?_); rintro e_ W22_ ⟨rfl, hb_⟩; refine ⟨_, rfl, ?_⟩; have nHW_ := Aside0.mk (Kd.S_below HW.out hb_); clear HW; have HW := nHW_; clear nHW_; have nHX_ := Aside0.mk (Kd.R_below HX.out hb_); clear HX; have HX := nHX_; clear nHX_; have nHG_ := Aside0.mk (Kd.S_below HG.out hb_); clear HG; have HG := nHG_; clear nHG_; have nHB_ := Aside0.mk (below_step HB.out hb_); clear HB; have HB := nHB_; clear nHB_; clear hb_) | ((with_reducible refine gate_dst (N := 26) rfl ?_); refine goesL_ (some 26) rfl rfl Try.func15 (by kernel_rfl) rfl #[.slice A0 l0.length c0] rfl (by (try simp only [List.map_toArray, List.map_cons, List.map_nil]); first | done | rfl) ?_; (refine (laws_toByteS.calls k A0 c0 l0 l0 _ (by exact Kd.C_below HR0.out HB.out) HC0.out HT.out).mono ?_); rintro e_ W6_ ⟨v26, rfl, ho_, hb_⟩; refine ⟨_, rfl, ?_⟩; have nHW_ := Aside0.mk (Kd.S_below HW.out hb_); clear HW; have HW := nHW_; clear nHW_; have nHX_ := Aside0.mk (Kd.R_below HX.out hb_); clear HX; have HX := nHX_; clear nHX_; have nHG_ := Aside0.mk (Kd.S_below HG.out hb_); clear HG; have HG := nHG_; clear nHG_; have nHB_ := Aside0.mk (below_step HB.out hb_); clear HB; have HB := nHB_; clear nHB_; have H26 := Aside0.mk ho_; obtain ⟨A26, c26, e26_⟩ := Kd.R_slice ho_; subst e26_; clear ho_ hb_) | ((with_reducible refine gate_dst (N := 27) rfl ?_); refine goesL_ (some 27) rfl rfl Try.func17 (by kernel_rfl) rfl #[.slice A17 l0.length c17, .slice A26 l0.length c26] rfl (by (try simp only [List.map_toArray, List.map_cons, List.map_nil]); first | done | rfl) ?_; (refine (laws_eqByteS.calls k A17 c17 l0 A26 c26 l0 true _ (by exact (Kd.R_reads' HX.out).2.2) (by exact (Kd.R_reads' HX.out).2.1) (by exact (Kd.R_reads' H26.out).2.2) (by exact (Kd.R_reads' H26.out).2.1) HEB.out).mono ?_); rintro e_ W27_ ⟨rfl, hd_⟩; refine ⟨_, rfl, ?_⟩; have hb_ := hd_.below; clear hd_; have nHW_ := Aside0.mk (Kd.S_below HW.out hb_); clear HW; have HW := nHW_; clear nHW_; have nHX_ := Aside0.mk (Kd.R_below HX.out hb_); clear HX; have HX := nHX_; clear nHX_; have nHG_ := Aside0.mk (Kd.S_below HG.out hb_); clear HG; have HG := nHG_; clear nHG_; have nHB_ := Aside0.mk (below_step HB.out hb_); clear HB; have HB := nHB_; clear nHB_; clear hb_ H26) | ((with_reducible refine gate_dst (N := 31) rfl ?_); refine goesL_ (some 31) rfl rfl Try.func18 (by kernel_rfl) rfl #[.slice A17 l0.length c17, .int .i64 1] rfl (by (try simp only [List.map_toArray, List.map_cons, List.map_nil]); first | done | rfl) ?_; (refine (laws_markByteS.calls k (fun k_ => n2 ≤ k_ ∧ k_ < n3) (.slice A17 l0.length c17) l0 1 b1 b1l w _ HB.out HX.out HM1.out).mono ?_); rintro e_ W8_ ⟨rfl, ho_, hb_, hk_⟩; refine ⟨_, rfl, ?_⟩; have nW_ := Aside0.mk (Kd.S_kept HW.out hk_ (fun k_ h1_ h2_ => Nat.not_lt.mpr h2_.1 h1_)); have nG_ := Aside0.mk (Kd.S_kept HG.out hk_ (fun k_ h1_ h2_ => Nat.not_lt.mpr h1_ h2_.2)); clear HW HG HB HX; have HW := nW_; have HG := nG_; have HB := Aside0.mk hb_; clear nW_ nG_ ho_ hb_ hk_) | ((with_reducible refine gate_dst (N := 37) rfl ?_); (refine gate_guard (by rfl) ?_; dsimp only); refine goesL_ (some 37) rfl rfl Try.func13 (by kernel_rfl) rfl #[.slice A19 g.length c19, .slice A15 r.length c15] rfl (by (try simp only [List.map_toArray, List.map_cons, List.map_nil]); first | done | rfl) ?_; (refine (eq_S HG.out HW.out HE.out).mono ?_); rintro e_ W37_ ⟨rfl, hb_⟩; refine ⟨_, rfl, ?_⟩; have nHW_ := Aside0.mk (Kd.S_below HW.out hb_); clear HW; have HW := nHW_; clear nHW_; have nHG_ := Aside0.mk (Kd.S_below HG.out hb_); clear HG; have HG := nHG_; clear nHG_; have nHB_ := Aside0.mk (below_step HB.out hb_); clear HB; have HB := nHB_; clear nHB_; clear hb_) | ((with_reducible refine gate_dst (N := 42) rfl ?_); refine goesL_ (some 42) rfl rfl Try.func19 (by kernel_rfl) rfl #[.slice A19 g.length c19, .int .i64 1] rfl (by (try simp only [List.map_toArray, List.map_cons, List.map_nil]); first | done | rfl) ?_; (refine (markBoxS0.calls k (fun k_ => n3 ≤ k_) (.slice A19 g.length c19) g 1 b2 b2l w _ HB.out HG.out HM2.out).mono ?_); rintro e_ W10_ ⟨rfl, ho_, hb_, hk_⟩; refine ⟨_, rfl, ?_⟩; have nW_ := Aside0.mk (Kd.S_kept HW.out hk_ (fun k_ h1_ h2_ => Nat.not_lt.mpr (Nat.le_trans HN23.out h2_) h1_)); clear HW HG HB; have HW := nW_; have HG := Aside0.mk ho_; have HB := Aside0.mk hb_; clear nW_ ho_ hb_ hk_) | ((with_reducible refine gate_dst (N := 45) rfl ?_); refine goesL_ (some 45) rfl rfl Try.func20 (by kernel_rfl) rfl #[.slice A19 g.length c19, .int .i64 1] rfl (by (try simp only [List.map_toArray, List.map_cons, List.map_nil]); first | done | rfl) ?_; (refine (held_S HG.out HHD.out).mono ?_); rintro e_ W45_ ⟨rfl, hb_⟩; refine ⟨_, rfl, ?_⟩; have nHW_ := Aside0.mk (Kd.S_below HW.out hb_); clear HW; have HW := nHW_; clear nHW_; have nHG_ := Aside0.mk (Kd.S_below HG.out hb_); clear HG; have HG := nHG_; clear nHG_; have nHB_ := Aside0.mk (below_step HB.out hb_); clear HB; have HB := nHB_; clear nHB_; clear hb_) | ((with_reducible refine gate_dst (N := 52) rfl ?_); refine goesL_ (some 52) rfl rfl Try.func15 (by kernel_rfl) rfl #[.slice A0 l0.length c0] rfl (by (try simp only [List.map_toArray, List.map_cons, List.map_nil]); first | done | rfl) ?_; (refine (laws_toByteS.calls k A0 c0 l0 l0 _ (by exact Kd.C_below HR0.out HB.out) HC0.out HT.out).mono ?_); rintro e_ W12_ ⟨v52, rfl, ho_, hb_⟩; refine ⟨_, rfl, ?_⟩; have nHW_ := Aside0.mk (Kd.S_below HW.out hb_); clear HW; have HW := nHW_; clear nHW_; have nHG_ := Aside0.mk (Kd.S_below HG.out hb_); clear HG; have HG := nHG_; clear nHG_; have nHB_ := Aside0.mk (below_step HB.out hb_); clear HB; have HB := nHB_; clear nHB_; have H52 := Aside0.mk ho_; obtain ⟨A52, c52, e52_⟩ := Kd.R_slice ho_; subst e52_; clear ho_ hb_) | ((with_reducible refine gate_dst (N := 53) rfl ?_); refine goesL_ (some 53) rfl rfl Try.func16 (by kernel_rfl) rfl #[.slice A52 l0.length c52] rfl (by (try simp only [List.map_toArray, List.map_cons, List.map_nil]); first | done | rfl) ?_; (refine (impl_SaveBoxes.calls k A52 c52 l0 g _ (by exact (Kd.R_reads' H52.out).2.2) (by exact (Kd.R_reads' H52.out).2.1) HI.out).mono ?_); rintro e_ W13_ ⟨v53, rfl, ho_, hb_⟩; refine ⟨_, rfl, ?_⟩; have HH := Aside0.mk ho_; have nHW_ := Aside0.mk (Kd.S_below HW.out hb_); clear HW; have HW := nHW_; clear nHW_; have nHG_ := Aside0.mk (Kd.S_below HG.out hb_); clear HG; have HG := nHG_; clear nHG_; have nHB_ := Aside0.mk (below_step HB.out hb_); clear HB; have HB := nHB_; clear nHB_; obtain ⟨A53, c53, e53_⟩ := Kd.S_slice ho_; subst e53_; clear ho_ hb_ H52) | ((with_reducible refine gate_dst (N := 56) rfl ?_); refine goesL_ (some 56) rfl rfl Try.func13 (by kernel_rfl) rfl #[.slice A53 g.length c53, .slice A15 r.length c15] rfl (by (try simp only [List.map_toArray, List.map_cons, List.map_nil]); first | done | rfl) ?_; (refine (eq_S HH.out HW.out HE.out).mono ?_); rintro e_ W56_ ⟨rfl, hb_⟩; refine ⟨_, rfl, ?_⟩; have nHG_ := Aside0.mk (Kd.S_below HG.out hb_); clear HG; have HG := nHG_; clear nHG_; have nHB_ := Aside0.mk (below_step HB.out hb_); clear HB; have HB := nHB_; clear nHB_; clear hb_ HH HW) | ((with_reducible refine gate_dst (N := 60) rfl ?_); refine goesL_ (some 60) rfl rfl Try.func20 (by kernel_rfl) rfl #[.slice A19 g.length c19, .int .i64 1] rfl (by (try simp only [List.map_toArray, List.map_cons, List.map_nil]); first | done | rfl) ?_; (refine (held_S HG.out HHD.out).mono ?_); rintro e_ W60_ ⟨rfl, hb_⟩; refine ⟨_, rfl, ?_⟩; have nHG_ := Aside0.mk (Kd.S_below HG.out hb_); clear HG; have HG := nHG_; clear nHG_; have nHB_ := Aside0.mk (below_step HB.out hb_); clear HB; have HB := nHB_; clear nHB_; clear hb_))
    go_ret
    exact ⟨rfl, HB.out⟩


end Go.Proofs.Ytpennfkjfeipcaa.PFnExactSaveBoxes
