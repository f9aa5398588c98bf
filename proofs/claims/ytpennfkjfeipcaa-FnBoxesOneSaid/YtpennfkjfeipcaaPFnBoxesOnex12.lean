/- The functions that the law reaches, as Lean functions, each with the proof that the Go code comes to just these answers. Written by a program of this session (wip/tools/handprint.py over the kit's print); by hand where the print takes no such text. -/
-- squeezed
import Derived.Test.YtpennfkjfeipcaaPFnBoxesOnex0
import Derived.Test.YtpennfkjfeipcaaPFnBoxesOnex2
import Derived.Test.YtpennfkjfeipcaaPFnBoxesOnex10
import Derived.Test.YtpennfkjfeipcaaPFnBoxesOnex11
import Derived.Test.YtpennfkjfeipcaaPFnBoxesOnex12d
namespace Go.Proofs.Ytpennfkjfeipcaa.PFnBoxesOne
open Go.RowKit Go.Proofs.YtpennfkjfeipcaaW.PrintWords Go.Proofs.YtpennfkjfeipcaaW.PrintLast Go.Proofs.YtpennfkjfeipcaaW.PrintMore
attribute [local go_sem] max2_int min2_int max_two min_two max_three min_three max_four min_four   -- for this text's walks alone
set_option linter.unusedVariables false
set_option linter.unusedSimpArgs false

-- short names
theorem u12a : type_of% @List.setIfInBounds_toArray := @List.setIfInBounds_toArray
theorem u12b : type_of% @List.set_cons_zero := @List.set_cons_zero
theorem u12c : type_of% @List.set_cons_succ := @List.set_cons_succ
/-! ### spec_l2DrawBoxes: its walk -/
theorem qa : type_of% @IsS69.alloc := @IsS69.alloc
theorem qb : type_of% @IsS69.drewN := @IsS69.drewN
theorem qc : type_of% @IsS69.drew := @IsS69.drew
theorem qd : type_of% @IsS69.set_1 := @IsS69.set_1
theorem qe : type_of% @IsS69.set_2 := @IsS69.set_2
theorem qf : type_of% @IsS69.far := @IsS69.far
theorem qg : type_of% @KeepBut.set_ := @KeepBut.set_
theorem qh : type_of% @keep_drewN := @keep_drewN
theorem qi : type_of% @keep_drew := @keep_drew
theorem qj : type_of% @keep_alloc := @keep_alloc
theorem qk : type_of% @keep_far := @keep_far
theorem ql : type_of% @pw_below_drewN := @pw_below_drewN
theorem qm : type_of% @below_drew1 := @below_drew1
theorem qn : type_of% @below_alloc := @below_alloc
theorem qo : type_of% @below_set := @below_set
theorem qp : type_of% @Kd.S_alloc := @Kd.S_alloc
theorem qq : type_of% @Kd.S_drewN := @Kd.S_drewN
theorem qr : type_of% @Kd.S_drew := @Kd.S_drew
theorem qs : type_of% @Kd.R_alloc := @Kd.R_alloc
theorem qt : type_of% @Kd.R_drewN := @Kd.R_drewN
theorem qu : type_of% @Kd.R_drew := @Kd.R_drew
theorem qv : type_of% @blk_drewN := @blk_drewN
theorem qw : type_of% @blk_drew := @blk_drew
theorem qx : type_of% @blk_alloc := @blk_alloc
theorem qy : type_of% @Aside0.mk := @Aside0.mk
theorem qz : type_of% @IsS69.apartS := @IsS69.apartS
theorem qA : type_of% @IsS69.apart := @IsS69.apart
theorem qB : type_of% @KeepBut.trans := @KeepBut.trans
theorem qC : type_of% @KeepBut.blk := @KeepBut.blk
theorem qE : type_of% @Kd.S_keep := @Kd.S_keep
theorem qF : type_of% @Kd.R_keep := @Kd.R_keep
theorem qG : type_of% @Kd.S_mono := @Kd.S_mono
theorem qH : type_of% @Kd.R_mono := @Kd.R_mono
theorem qI : type_of% @IsS69.ge := @IsS69.ge
theorem qJ : type_of% @Kd.R_types := @Kd.R_types
theorem qK : type_of% @Kd.R_far := @Kd.R_far
set_option maxHeartbeats 8000000 in
set_option maxRecDepth 100000 in
theorem spec_l2DrawBoxes.calls (k : Nat) (g : Nat) (s0_0 : List Int) (s0_1 : Int) (s0_2 : Int) (r1 : List (S46)) (r2 : Int) (r3 : Int) (w0 w : World) (hI : IsS69 w0 w g s0_0 s0_1 s0_2) (hB : Below w0.heap.size w0 w) (h : spec_l2DrawBoxes.f k s0_0 s0_1 s0_2 = some (r1, r2, r3)) :
  Calls Try.prog 55 #[.pointer (some ⟨g, 0, none⟩)] w fun e w' => ∃ v0_ : Value, e = .returned (v0_) ∧ Kd.S k46 46 w' w.heap.size (fun _ => True) v0_ r1 ∧ IsS69 w0 w' g s0_0 r2 r3 ∧ Below w0.heap.size w0 w' ∧ KeepBut w w' g none := by
 have hu46 := Try.underlying46
 have HI0 := qy hI
 have HK := qy (KeepBut.refl w g none)
 have HL := qy hB.size
 clear hI
 have HW0 := qy hB.size
 have HB := qy hB
 clear hB
 have H : ((spec_l1Below.f s0_0 s0_1 s0_2 12).bind fun bt159 => (spec_l2DrawBoxes.l0 k (([] : List (S46))) bt159.1 s0_0 bt159.2.1 bt159.2.2)) = some (r1, r2, r3) := h
 clear h
 obtain ⟨y156, hy156⟩ : ∃ y_ : List (S46), y_ = (([] : List (S46))) := ⟨_, rfl⟩
 replace H : ((spec_l1Below.f s0_0 s0_1 s0_2 12).bind fun bt159 => (spec_l2DrawBoxes.l0 k y156 bt159.1 s0_0 bt159.2.1 bt159.2.2)) = some (r1, r2, r3) := by first | (rw [hy156]; with_reducible exact H) | (have H2_ := (Option.bind_some _ _).symm.trans H; rw [hy156]; with_reducible exact H2_) | (have H2_ := (Option.bind_some _ _).symm.trans H; with_reducible exact H2_) | with_reducible exact H | (rw [hy156]; exact H) | exact H
 have Ny156 := qy hy156
 clear hy156
 replace H := Option.bind_eq_some_iff.mp H
 obtain ⟨⟨t159, t160, t161⟩, A20, H⟩ := H
 have A2 := qy A20
 clear A20
 have H' := qy H
 clear H
 go_enter Try.func55, Try.ntmps55
 go_wp2_with (first | ((with_reducible refine gate_dst (N := 11) rfl ?_); (try (refine gate_guard (by rfl) ?_; dsimp only)); refine Kd.S_lit k46 _ 46 ?hg (N := 11) ?hd (xs := ([] : List (S46))) (inner := []) (ok := fun _ => True) (okp := fun _ => True) ?hr ?hp (fun _ hk => hk) trivial (Below.refl _ _) (Nat.le_refl _) (by simp) ?_; (case hd => rfl); (case hg => rfl); (case hr => first | (go_simp; done) | (go_simp; rfl)); (case hp => exact (Reps.none _ _)); intro v157 w3 ho4 hb hg_ hnew_; clear hg_ hnew_; (first | rw [← Ny156.out] at ho4 | (simp only [Int.reduceToNat] at ho4; rw [← Ny156.out] at ho4)); have n0_ := qy (Kd.S_lower ho4 (keep_size (w := w) (g := g) (row := none) (by repeat (first | (with_reducible first | exact HK.out | apply qg | apply qh | apply qi | apply qj) | exact HK.out)))); have n1_ := qy (IsS69.below (by repeat (first | (with_reducible first | exact HI0.out | apply qa | apply qb | apply qc | apply qd | apply qe) | exact HI0.out)) hb); have n2_ := qy (qB (by repeat (first | (with_reducible first | exact HK.out | apply qg | apply qh | apply qi | apply qj) | exact HK.out)) (KeepBut.of_below hb g none) (.inl rfl)); have n3_ := qy (below_step (by repeat (first | (with_reducible first | exact HB.out | apply qn | apply ql | apply qm | refine qo ?_ (qI HI0.out)) | exact HB.out)) hb); clear HI0 HK HB; have HO158 := n0_; have HI0 := n1_; have HK := n2_; have HB := n3_; clear n0_ n1_ n2_ n3_ hb ho4) | ((with_reducible refine gate_callee (f := 56) rfl ?_); refine goesL_ (some 13) rfl rfl Try.func56 (by kernel_rfl) rfl #[.pointer (some ⟨g, 0, none⟩), .int .i64 12] rfl (by (try simp only [List.map_toArray, List.map_cons, List.map_nil]); first | done | rfl) ?_; (with_reducible refine (spec_l1Below.calls g s0_0 s0_1 s0_2 12 t159 t160 t161 w0 _ ?side1 ?side2 A2.out).mono ?_); (case side1 => repeat (first | (with_reducible first | exact HI0.out | apply qa | apply qb | apply qc | apply qd | apply qe) | exact HI0.out)); (case side2 => repeat (first | (with_reducible first | exact HB.out | apply qn | apply ql | apply qm | refine qo ?_ (qI HI0.out)) | exact HB.out)); rintro e w5 ⟨rfl, hi, hb, hk⟩; refine ⟨_, rfl, ?_⟩; have n0_ := qy (qG (qE (qz (show IsS69 w0 _ g s0_0 s0_1 s0_2 from by repeat (first | (with_reducible first | exact HI0.out | apply qa | apply qb | apply qc | apply qd | apply qe) | exact HI0.out)) (by (with_reducible repeat (first | apply qp | apply qq | apply qr)); exact HO158.out) (by decide)) hk (fun _ h => h.2)) (fun _ h => h.1)); have n1_ := qy (qB (by repeat (first | (with_reducible first | exact HK.out | apply qg | apply qh | apply qi | apply qj) | exact HK.out)) hk (.inl rfl)); have n2_ := qy (hb); have n3_ := qy (hi); clear HO158 HK HB HI0; have HO158 := n0_; have HK := n1_; have HB := n2_; have HI0 := n3_; clear n0_ n1_ n2_ n3_; (try clear hb hk hi)))
 go_loopg [3, 4] k (fun kq v3 v4 w' => ∃ (x3_1 : List (S46)) (x4_1 : Int) (x1001_1 : Int) (x1002_1 : Int), v4 = .int .i64 x4_1 ∧ Aside0 (spec_l2DrawBoxes.l0 kq x3_1 x4_1 s0_0 x1001_1 x1002_1 = some (r1, r2, r3)) ∧ Aside0 (kq ≤ k) ∧ Aside0 (Kd.S k46 46 w' w.heap.size (fun _ => True) v3 x3_1) ∧ Aside0 (IsS69 w0 w' g s0_0 x1001_1 x1002_1) ∧ Aside0 (KeepBut w w' g none) ∧ Aside0 (Below w0.heap.size w0 w'))
 case atStart => exact ⟨(y156), (t159), (t160), (t161), (by first | rfl | (simp; done) | (simp [*]; done)), H', ⟨Nat.le_refl _⟩, ⟨by (with_reducible repeat (first | apply qp | apply qq | apply qr)); exact HO158.out⟩, ⟨by repeat (first | (with_reducible first | exact HI0.out | apply qa | apply qb | apply qc | apply qd | apply qe) | exact HI0.out)⟩, ⟨by repeat (first | (with_reducible first | exact HK.out | apply qg | apply qh | apply qi | apply qj) | exact HK.out)⟩, ⟨by repeat (first | (with_reducible first | exact HB.out | apply qn | apply ql | apply qm | refine qo ?_ (qI HI0.out)) | exact HB.out)⟩⟩
 case round =>
  clear H'
  obtain ⟨x3_1, x4_1, x1001_1, x1002_1, rfl, HA, HK1, HO_3, HI0, HK, HB⟩ := hrel
  cases gk with
  | zero => exact absurd HA.out (by simp [spec_l2DrawBoxes.l0])
  | succ k1 =>
   have H := HA.out
   clear HA
   simp only [spec_l2DrawBoxes.l0] at H
   by_cases c6 : x4_1 > 0
   ·rw [if_pos c6] at H
    have c6b0 : decide (0 < x4_1) = true := decide_eq_true c6
    clear c6
    obtain ⟨y162, hy162⟩ : ∃ y_ : List ByteArray, y_ = (([(⟨#[77, 79, 79, 86]⟩ : ByteArray), (⟨#[84, 82, 65, 75]⟩ : ByteArray), (⟨#[109, 100, 97, 116]⟩ : ByteArray), (⟨#[101, 108, 115, 116]⟩ : ByteArray), (⟨#[102, 48, 117, 114]⟩ : ByteArray), (⟨#[69, 100, 105, 116]⟩ : ByteArray), (⟨#[48, 97, 98, 99]⟩ : ByteArray)] : List ByteArray)) := ⟨_, rfl⟩
    replace H : ((spec_l1Below.f s0_0 x1001_1 x1002_1 7).bind fun bt165 => (if 0 ≤ bt165.1 then (if bt165.1 < (y162.length : Int) then (if (x3_1.length : Int) > 0 then (if 0 ≤ (wrap64 ((x3_1.length : Int) - 1)) then (if (wrap64 ((x3_1.length : Int) - 1)) < (x3_1.length : Int) then ((spec_l1Below.f s0_0 bt165.2.1 bt165.2.2 (wrap64 (((rd_T46 x3_1 (wrap64 ((x3_1.length : Int) - 1))).f1) + 1))).bind fun bt172 => ((spec_l2Holds.f ((rd_T46 x3_1 (wrap64 ((x3_1.length : Int) - 1))).f0)).bind fun t175 => (if t175 = true then (if ((rd_T46 x3_1 (wrap64 ((x3_1.length : Int) - 1))).f1) < 8 then ((spec_l1Once.f s0_0 bt172.2.1 bt172.2.2 3).bind fun bt176 => (if bt176.1 = true then (spec_l2DrawBoxes.j1 k1 x3_1 x4_1 s0_0 bt176.2.1 bt176.2.2 (rdOf ByteArray.empty y162 bt165.1) bt172.1) else (spec_l2DrawBoxes.j1 k1 x3_1 x4_1 s0_0 bt176.2.1 bt176.2.2 (rdOf ByteArray.empty y162 bt165.1) (wrap64 (((rd_T46 x3_1 (wrap64 ((x3_1.length : Int) - 1))).f1) + 1))))) else (spec_l2DrawBoxes.j1 k1 x3_1 x4_1 s0_0 bt172.2.1 bt172.2.2 (rdOf ByteArray.empty y162 bt165.1) bt172.1)) else (spec_l2DrawBoxes.j1 k1 x3_1 x4_1 s0_0 bt172.2.1 bt172.2.2 (rdOf ByteArray.empty y162 bt165.1) bt172.1)))) else (none)) else (none)) else (spec_l2DrawBoxes.j1 k1 x3_1 x4_1 s0_0 bt165.2.1 bt165.2.2 (rdOf ByteArray.empty y162 bt165.1) 0)) else (none)) else (none))) = some (r1, r2, r3) := by first | (rw [hy162]; with_reducible exact H) | (have H2_ := (Option.bind_some _ _).symm.trans H; rw [hy162]; with_reducible exact H2_) | (have H2_ := (Option.bind_some _ _).symm.trans H; with_reducible exact H2_) | with_reducible exact H | (rw [hy162]; exact H) | exact H
    have Ny162 := qy hy162
    clear hy162
    replace H := Option.bind_eq_some_iff.mp H
    obtain ⟨⟨t165, t166, t167⟩, A70, H⟩ := H
    have A7 := qy A70
    clear A70
    by_cases c8 : 0 ≤ t165
    rotate_left
    · rw [if_neg c8] at H; exact absurd H (by simp)
    rw [if_pos c8] at H
    have c8b0 : decide (0 ≤ t165) = true := decide_eq_true c8
    clear c8
    by_cases c9 : t165 < (y162.length : Int)
    rotate_left
    · rw [if_neg c9] at H; exact absurd H (by simp)
    rw [if_pos c9] at H
    have c9b0 : decide (t165 < (y162.length : Int)) = true := decide_eq_true c9
    clear c9
    have HC10 := qy H
    clear H
    go_upto_if 26 with (first | ((with_reducible refine gate_dst (N := 18) rfl ?_); (try (refine gate_guard (by rfl) ?_; dsimp only)); refine Kd.R_lit Kd.string _ 9 ?hg (N := 18) ?hd (xs := ([(⟨#[77, 79, 79, 86]⟩ : ByteArray), (⟨#[84, 82, 65, 75]⟩ : ByteArray), (⟨#[109, 100, 97, 116]⟩ : ByteArray), (⟨#[101, 108, 115, 116]⟩ : ByteArray), (⟨#[102, 48, 117, 114]⟩ : ByteArray), (⟨#[69, 100, 105, 116]⟩ : ByteArray), (⟨#[48, 97, 98, 99]⟩ : ByteArray)] : List ByteArray)) (inner := [.string (⟨#[77, 79, 79, 86]⟩ : ByteArray), .string (⟨#[84, 82, 65, 75]⟩ : ByteArray), .string (⟨#[109, 100, 97, 116]⟩ : ByteArray), .string (⟨#[101, 108, 115, 116]⟩ : ByteArray), .string (⟨#[102, 48, 117, 114]⟩ : ByteArray), .string (⟨#[69, 100, 105, 116]⟩ : ByteArray), .string (⟨#[48, 97, 98, 99]⟩ : ByteArray)]) (ok := fun _ => True) (okp := fun _ => True) ?hr ?hp (fun _ hk => hk) trivial (Below.refl _ _) (Nat.le_refl _) (by simp) ?_; (case hd => rfl); (case hg => rfl); (case hr => first | (go_simp; done) | (go_simp; rfl)); (case hp => exact (Reps.one (show Kd.M Kd.string _ _ _ (⟨#[77, 79, 79, 86]⟩ : ByteArray) [.string (⟨#[77, 79, 79, 86]⟩ : ByteArray)] from rfl) (Reps.one (show Kd.M Kd.string _ _ _ (⟨#[84, 82, 65, 75]⟩ : ByteArray) [.string (⟨#[84, 82, 65, 75]⟩ : ByteArray)] from rfl) (Reps.one (show Kd.M Kd.string _ _ _ (⟨#[109, 100, 97, 116]⟩ : ByteArray) [.string (⟨#[109, 100, 97, 116]⟩ : ByteArray)] from rfl) (Reps.one (show Kd.M Kd.string _ _ _ (⟨#[101, 108, 115, 116]⟩ : ByteArray) [.string (⟨#[101, 108, 115, 116]⟩ : ByteArray)] from rfl) (Reps.one (show Kd.M Kd.string _ _ _ (⟨#[102, 48, 117, 114]⟩ : ByteArray) [.string (⟨#[102, 48, 117, 114]⟩ : ByteArray)] from rfl) (Reps.one (show Kd.M Kd.string _ _ _ (⟨#[69, 100, 105, 116]⟩ : ByteArray) [.string (⟨#[69, 100, 105, 116]⟩ : ByteArray)] from rfl) (Reps.one (show Kd.M Kd.string _ _ _ (⟨#[48, 97, 98, 99]⟩ : ByteArray) [.string (⟨#[48, 97, 98, 99]⟩ : ByteArray)] from rfl) (Reps.none _ _))))))))); intro v163 w11 ho12 hb hg_ hnew_; clear hg_ hnew_; (first | rw [← Ny162.out] at ho12 | (simp only [Int.reduceToNat] at ho12; rw [← Ny162.out] at ho12)); have n0_ := qy (Kd.S_below (by (with_reducible repeat (first | apply qp | apply qq | apply qr)); exact HO_3.out) hb); have n1_ := qy (Kd.R_lower ho12 (keep_size (w := w) (g := g) (row := none) (by repeat (first | (with_reducible first | exact HK.out | apply qg | apply qh | apply qi | apply qj) | exact HK.out)))); have n2_ := qy (IsS69.below (by repeat (first | (with_reducible first | exact HI0.out | apply qa | apply qb | apply qc | apply qd | apply qe) | exact HI0.out)) hb); have n3_ := qy (qB (by repeat (first | (with_reducible first | exact HK.out | apply qg | apply qh | apply qi | apply qj) | exact HK.out)) (KeepBut.of_below hb g none) (.inl rfl)); have n4_ := qy (below_step (by repeat (first | (with_reducible first | exact HB.out | apply qn | apply ql | apply qm | refine qo ?_ (qI HI0.out)) | exact HB.out)) hb); clear HO_3 HI0 HK HB; have HO_3 := n0_; have HO164 := n1_; have HI0 := n2_; have HK := n3_; have HB := n4_; clear n0_ n1_ n2_ n3_ n4_ hb ho12) | ((with_reducible refine gate_callee (f := 56) rfl ?_); refine goesL_ (some 20) rfl rfl Try.func56 (by kernel_rfl) rfl #[.pointer (some ⟨g, 0, none⟩), .int .i64 7] rfl (by (try simp only [List.map_toArray, List.map_cons, List.map_nil]); first | done | rfl) ?_; (with_reducible refine (spec_l1Below.calls g s0_0 x1001_1 x1002_1 7 t165 t166 t167 w0 _ ?side1 ?side2 A7.out).mono ?_); (case side1 => repeat (first | (with_reducible first | exact HI0.out | apply qa | apply qb | apply qc | apply qd | apply qe) | exact HI0.out)); (case side2 => repeat (first | (with_reducible first | exact HB.out | apply qn | apply ql | apply qm | refine qo ?_ (qI HI0.out)) | exact HB.out)); rintro e w13 ⟨rfl, hi, hb, hk⟩; refine ⟨_, rfl, ?_⟩; have n0_ := qy (qG (qE (qz (show IsS69 w0 _ g s0_0 x1001_1 x1002_1 from by repeat (first | (with_reducible first | exact HI0.out | apply qa | apply qb | apply qc | apply qd | apply qe) | exact HI0.out)) (by (with_reducible repeat (first | apply qp | apply qq | apply qr)); exact HO_3.out) (by decide)) hk (fun _ h => h.2)) (fun _ h => h.1)); have n1_ := qy (qH (qF (qA (show IsS69 w0 _ g s0_0 x1001_1 x1002_1 from by repeat (first | (with_reducible first | exact HI0.out | apply qa | apply qb | apply qc | apply qd | apply qe) | exact HI0.out)) (by (with_reducible repeat (first | apply qs | apply qt | apply qu)); exact HO164.out) (by decide)) hk (fun _ h => h.2)) (fun _ h => h.1)); have n2_ := qy (qB (by repeat (first | (with_reducible first | exact HK.out | apply qg | apply qh | apply qi | apply qj) | exact HK.out)) hk (.inl rfl)); have n3_ := qy (hb); have n4_ := qy (hi); clear HO_3 HO164 HK HB HI0; have HO_3 := n0_; have HO164 := n1_; have HK := n2_; have HB := n3_; have HI0 := n4_; clear n0_ n1_ n2_ n3_ n4_; (try clear hb hk hi); obtain ⟨Ao14, co14, eo14⟩ := Kd.R_slice HO164.out; subst eo14; have p168 : 0 ≤ (t165 : Int) := of_decide_eq_true (by assumption); have q168 : t165 < (y162.length : Int) := of_decide_eq_true (by assumption); obtain ⟨ad168, e168, hx168_0⟩ := Kd.at_string (Kd.R_reads' HO164.out).2.2 t165 p168 q168; cases e168; replace p168 := eq_true p168; replace q168 := eq_true q168) | ((with_reducible refine gate_dst (N := 5) rfl ?_); (try (refine gate_guard (by rfl) ?_; dsimp only)); refine box_event ?hg (N := 5) ?hd (cs := #[.string (⟨#[]⟩ : ByteArray), .int .i64 0, .slice none 0 0]) (t := 46) ?hr ?_; (case hd => rfl); (case hg => rfl); (case hr => first | (go_simp; done) | (go_simp; rfl)); intro gb169 hg w15 hbox hb; have n0_ := qy (Kd.S_below (Kd.S_elderB (by (with_reducible repeat (first | apply qp | apply qq | apply qr)); exact HO_3.out) gb169 (Nat.le_of_eq hg.symm)) hb); have n1_ := qy (Kd.R_below (by (with_reducible repeat (first | apply qs | apply qt | apply qu)); exact HO164.out) hb); have n2_ := qy (IsS69.below (by repeat (first | (with_reducible first | exact HI0.out | apply qa | apply qb | apply qc | apply qd | apply qe) | exact HI0.out)) hb); have n3_ := qy (qB (by repeat (first | (with_reducible first | exact HK.out | apply qg | apply qh | apply qi | apply qj) | exact HK.out)) (KeepBut.of_below hb g none) (.inl rfl)); have n4_ := qy (below_step (by repeat (first | (with_reducible first | exact HB.out | apply qn | apply ql | apply qm | refine qo ?_ (qI HI0.out)) | exact HB.out)) hb); have n5_ := qy (hbox); have n6_ := qy ((by rw [hg]; exact (keep_size (w := w) (g := g) (row := none) (by repeat (first | (with_reducible first | exact HK.out | apply qg | apply qh | apply qi | apply qj) | exact HK.out))) : w.heap.size ≤ gb169)); have n7_ := qy ((Nat.le_trans HW0.out (by rw [hg]; exact (keep_size (w := w) (g := g) (row := none) (by repeat (first | (with_reducible first | exact HK.out | apply qg | apply qh | apply qi | apply qj) | exact HK.out))) : w.heap.size ≤ gb169) : w0.heap.size ≤ gb169)); have n8_ := qy ((by rw [hg]; exact Nat.ne_of_lt (IsS69.lt (show IsS69 w0 _ g s0_0 t166 t167 from by repeat (first | (with_reducible first | exact HI0.out | apply qa | apply qb | apply qc | apply qd | apply qe) | exact HI0.out))) : g ≠ gb169)); have n9_ := qy ((by rw [hg]; exact Nat.ne_of_gt (IsS69.lt (show IsS69 w0 _ g s0_0 t166 t167 from by repeat (first | (with_reducible first | exact HI0.out | apply qa | apply qb | apply qc | apply qd | apply qe) | exact HI0.out))) : gb169 ≠ g)); clear HO_3 HO164 HI0 HK HB; have HO_3 := n0_; have HO164 := n1_; have HI0 := n2_; have HK := n3_; have HB := n4_; have BK169 := n5_; have GW169 := n6_; have GE169 := n7_; have NB0_169 := n8_; have NB169_0 := n9_; clear n0_ n1_ n2_ n3_ n4_ n5_ n6_ n7_ n8_ n9_ hb hbox hg; have hnb16 := NB169_0.out; have hnc16 := NB0_169.out; have hcz17_0 : w15.cell? ⟨gb169, 0, none⟩ = some (.string (⟨#[]⟩ : ByteArray)) := (blk_cell BK169.out 0).trans rfl; have hcz17_1 : w15.cell? ⟨gb169, 1, none⟩ = some (.int .i64 0) := (blk_cell BK169.out 1).trans rfl; have hcz17_2 : w15.cell? ⟨gb169, 2, none⟩ = some (.slice none 0 0) := (blk_cell BK169.out 2).trans rfl; have hfz17_0 := blk_frozen BK169.out 0; have hfz17_1 := blk_frozen BK169.out 1; have hfz17_2 := blk_frozen BK169.out 2) | ((with_reducible refine gate_store (t := 46) (p := 5) rfl ?_); refine store_event (t := 46) (p := 5) (v := ?vo_w18) (w1 := (((w15.setCell ⟨gb169, 0, none⟩ (.string (rdOf ByteArray.empty y162 t165))).setCell ⟨gb169, 1, none⟩ (.int .i64 0)).setCell ⟨gb169, 2, none⟩ (.slice none 0 0))) ?hg ?ho ?hn ?hr ?_; (case ho => rfl); (case hg => rfl); (case hn => rfl); (case hr => first | (go_simp; done) | (go_simp; rfl)); intro w18 hw; have n0_ : Aside0 (Kd.S k46 46 w18 w.heap.size (fun k_ => k_ ≠ gb169) u3 x3_1) := ⟨(by rw [hw]; exact (by (with_reducible repeat (first | apply qp | apply qq | apply qr)); exact qG (Kd.S_far (p := ⟨gb169, 2, none⟩) (Kd.S_far (p := ⟨gb169, 1, none⟩) (Kd.S_far (p := ⟨gb169, 0, none⟩) (qG HO_3.out (fun k_ hk => (⟨hk, hk.2⟩ : _ ∧ k_ ≠ gb169))) (fun _ hk => hk.2) (.string (rdOf ByteArray.empty y162 t165))) (fun _ hk => hk.2) (.int .i64 0)) (fun _ hk => hk.2) (.slice none 0 0)) (fun _ hk => hk.1.2)))⟩; have n1_ : Aside0 (Kd.R Kd.string 9 w18 w.heap.size (fun _ => True) (.slice (some ad168) y162.length co14) y162) := ⟨(by rw [hw]; exact (by (with_reducible repeat (first | apply qs | apply qt | apply qu)); exact qH (qK (p := ⟨gb169, 2, none⟩) (qK (p := ⟨gb169, 1, none⟩) (qK (p := ⟨gb169, 0, none⟩) (qJ HO164.out BK169.out (by decide)) (fun _ hk => hk.2) (.string (rdOf ByteArray.empty y162 t165))) (fun _ hk => hk.2) (.int .i64 0)) (fun _ hk => hk.2) (.slice none 0 0)) (fun _ hk => trivial)))⟩; have n2_ : Aside0 (w18.heap[gb169]? = some (.cells #[.string (rdOf ByteArray.empty y162 t165), .int .i64 0, .slice none 0 0] 46 (0, 0))) := ⟨(by rw [hw]; exact (by (with_reducible repeat (first | refine qv ?_ _ | refine qw ?_ | refine qx ?_ _)); refine blk_put (cs := #[.string (rdOf ByteArray.empty y162 t165), .int .i64 0, .slice none 0 0]) ?_ 2 _ rfl; (with_reducible repeat (first | refine qv ?_ _ | refine qw ?_ | refine qx ?_ _)); refine blk_put (cs := #[.string (rdOf ByteArray.empty y162 t165), .int .i64 0, .slice none 0 0]) ?_ 1 _ rfl; (with_reducible repeat (first | refine qv ?_ _ | refine qw ?_ | refine qx ?_ _)); refine blk_put (cs := #[.string (⟨#[]⟩ : ByteArray), .int .i64 0, .slice none 0 0]) ?_ 0 _ rfl; (with_reducible repeat (first | refine qv ?_ _ | refine qw ?_ | refine qx ?_ _)); exact BK169.out))⟩; have n3_ : Aside0 (IsS69 w0 w18 g s0_0 t166 t167) := ⟨(by rw [hw]; exact (by repeat (first | (with_reducible first | exact HI0.out | apply qa | apply qb | apply qc | apply qd | apply qe | refine qf ?_ NB0_169.out _) | exact HI0.out)))⟩; have n4_ : Aside0 (KeepBut w w18 g none) := ⟨(by rw [hw]; exact (by repeat (first | (with_reducible first | exact HK.out | apply qg | apply qh | apply qi | apply qj | refine qk ?_ GW169.out _) | exact HK.out)))⟩; have n5_ : Aside0 (Below w0.heap.size w0 w18) := ⟨(by rw [hw]; exact (by repeat (first | (with_reducible first | exact HB.out | apply qn | apply ql | apply qm | refine qo ?_ (qI HI0.out) | refine qo ?_ GE169.out) | exact HB.out)))⟩; clear hw HO_3 HO164 BK169 HI0 HK HB; have HO_3 := n0_; have HO164 := n1_; have BK169 := n2_; have HI0 := n3_; have HK := n4_; have HB := n5_; clear n0_ n1_ n2_ n3_ n4_ n5_; obtain ⟨Ao19, co19, eo19⟩ := Kd.S_slice HO_3.out; subst eo19))
    (try simp only [Act.put, u12a, u12b, u12c])
    go_cut [] (fun wc => ∃ (kq : Nat) (x1001_9 : Int) (x1002_9 : Int) (x170001_9 : Int), Aside0 (spec_l2DrawBoxes.j1 kq x3_1 x4_1 s0_0 x1001_9 x1002_9 (rdOf ByteArray.empty y162 t165) x170001_9 = some (r1, r2, r3)) ∧ Aside0 (kq ≤ k1) ∧ Aside0 (Kd.S k46 46 wc w.heap.size (fun k_ => k_ ≠ gb169) (.slice Ao19 x3_1.length co19) x3_1) ∧ Aside0 (wc.heap[gb169]? = some (.cells #[.string (rdOf ByteArray.empty y162 t165), .int .i64 x170001_9, (.slice none 0 0)] 46 (0, 0))) ∧ Aside0 (IsS69 w0 wc g s0_0 x1001_9 x1002_9) ∧ Aside0 (KeepBut w wc g none) ∧ Aside0 (Below w0.heap.size w0 wc))
    case first =>
     have H := HC10.out
     clear HC10
     by_cases c20 : (x3_1.length : Int) > 0
     ·rw [if_pos c20] at H
      have c20b0 : decide (0 < (x3_1.length : Int)) = true := decide_eq_true c20
      have c20b1 : decide (0 < x3_1.length) = true := decide_eq_true (by omega)
      clear c20
      (first | rw [c20b0] | (simp only [i64_w, i32_w]; rw [c20b0]) | rw [c20b1] | skip)
      obtain ⟨ji21, hji21⟩ : ∃ j_ : Int, (wrap64 ((x3_1.length : Int) - 1)) = j_ := ⟨_, rfl⟩
      replace H : (if 0 ≤ (ji21) then (if (ji21) < (x3_1.length : Int) then ((spec_l1Below.f s0_0 t166 t167 (wrap64 (((rd_T46 x3_1 (ji21)).f1) + 1))).bind fun bt172 => ((spec_l2Holds.f ((rd_T46 x3_1 (ji21)).f0)).bind fun t175 => (if t175 = true then (if ((rd_T46 x3_1 (ji21)).f1) < 8 then ((spec_l1Once.f s0_0 bt172.2.1 bt172.2.2 3).bind fun bt176 => (if bt176.1 = true then (spec_l2DrawBoxes.j1 k1 x3_1 x4_1 s0_0 bt176.2.1 bt176.2.2 (rdOf ByteArray.empty y162 t165) bt172.1) else (spec_l2DrawBoxes.j1 k1 x3_1 x4_1 s0_0 bt176.2.1 bt176.2.2 (rdOf ByteArray.empty y162 t165) (wrap64 (((rd_T46 x3_1 (ji21)).f1) + 1))))) else (spec_l2DrawBoxes.j1 k1 x3_1 x4_1 s0_0 bt172.2.1 bt172.2.2 (rdOf ByteArray.empty y162 t165) bt172.1)) else (spec_l2DrawBoxes.j1 k1 x3_1 x4_1 s0_0 bt172.2.1 bt172.2.2 (rdOf ByteArray.empty y162 t165) bt172.1)))) else (none)) else (none)) = some (r1, r2, r3) := by first | (rw [hji21] at H; exact H) | (simp only [hji21] at H ⊢; exact H)
      have hji21w : (IntKind.i64.wrap ((x3_1.length : Int) - 1)) = ji21 := (i64_w _).trans hji21
      by_cases c22 : 0 ≤ (ji21)
      rotate_left
      · rw [if_neg c22] at H; exact absurd H (by simp)
      rw [if_pos c22] at H
      have c22b0 : decide (0 ≤ (ji21)) = true := decide_eq_true c22
      clear c22
      by_cases c23 : (ji21) < (x3_1.length : Int)
      rotate_left
      · rw [if_neg c23] at H; exact absurd H (by simp)
      rw [if_pos c23] at H
      have c23b0 : decide ((ji21) < (x3_1.length : Int)) = true := decide_eq_true c23
      clear c23
      replace H := Option.bind_eq_some_iff.mp H
      obtain ⟨⟨t172, t173, t174⟩, A240, H⟩ := H
      have A24 := qy A240
      clear A240
      replace H := Option.bind_eq_some_iff.mp H
      obtain ⟨t175, A250, H⟩ := H
      have A25 := qy A250
      clear A250
      by_cases c26 : t175 = true
      ·subst c26
       have H1 := H; rw [if_pos rfl] at H1
       clear H
       have H := H1
       clear H1
       by_cases c27 : ((rd_T46 x3_1 (ji21)).f1) < 8
       ·rw [if_pos c27] at H
        have c27b0 : decide (((rd_T46 x3_1 (ji21)).f1) < 8) = true := decide_eq_true c27
        clear c27
        replace H := Option.bind_eq_some_iff.mp H
        obtain ⟨⟨t176, t177, t178⟩, A280, H⟩ := H
        have A28 := qy A280
        clear A280
        by_cases c29 : t176 = true
        ·subst c29
         have H1 := H; rw [if_pos rfl] at H1
         clear H
         have H := H1
         clear H1
         have H' := qy H
         clear H
         have p170 : 0 ≤ ((ji21) : Int) := of_decide_eq_true (by assumption)
         have q170 : (ji21) < (x3_1.length : Int) := of_decide_eq_true (by assumption)
         obtain ⟨ad170, A170_2, c170_2, e170, hx170_0, hx170_1, hx170_2, hl170_2, hi170_2⟩ := at_T46 (Kd.S_reads' HO_3.out).2.2 (ji21) p170 q170
         cases e170
         obtain ⟨ce170, hce170, hMe170, hcc170⟩ := Kd.S_get HO_3.out z46 (ji21) p170 (by first | exact q170 | exact of_decide_eq_true (by assumption) | (have e_ := (Kd.S_reads' HO_3.out).1; omega))
         obtain ⟨ve170_2, rfl, ge170_2⟩ := k46_openM hMe170
         have hv170_2 := hcc170 2 _ rfl
         rw [add_field _ _ 2 (by omega)] at hv170_2
         replace hv170_2 := Option.some.inj (hv170_2.symm.trans hx170_2)
         rw [hv170_2] at ge170_2
         have HL170_2 := qy (show Kd.R (Kd.int .u8) 5 _ _ _ _ ((rd_T46 x3_1 (ji21)).f2) from ge170_2)
         clear hv170_2 ge170_2
         have HX170_2 := qy hx170_2
         clear hcc170 hce170
         have HR170_2 := qy hi170_2
         have HC170_2 := qy hl170_2
         clear hi170_2 hl170_2
         replace p170 := eq_true p170
         replace q170 := eq_true q170
         go_wp2_with (first | ((with_reducible refine gate_dst (N := 6) rfl ?_); (try (refine gate_guard (by rfl) ?_; dsimp only)); refine box_event ?hg (N := 6) ?hd (cs := #[.string (⟨#[]⟩ : ByteArray), .int .i64 0, .slice none 0 0]) (t := 46) ?hr ?_; (case hd => rfl); (case hg => rfl); (case hr => first | (go_simp; done) | (go_simp; rfl)); intro gb171 hg w30 hbox hb; have n0_ := qy (Kd.S_below (Kd.S_elderB (by (with_reducible repeat (first | apply qp | apply qq | apply qr)); exact HO_3.out) gb171 (Nat.le_of_eq hg.symm)) hb); have n1_ := qy (Kd.R_below (by (with_reducible repeat (first | apply qs | apply qt | apply qu)); exact HO164.out) hb); have n2_ := qy (Kd.R_below (by (with_reducible repeat (first | apply qs | apply qt | apply qu)); exact HL170_2.out) hb); have n3_ := qy (IsS69.below (by repeat (first | (with_reducible first | exact HI0.out | apply qa | apply qb | apply qc | apply qd | apply qe | refine qf ?_ NB0_169.out _) | exact HI0.out)) hb); have n4_ := qy (blk_below (g := gb169) (o := .cells #[.string (rdOf ByteArray.empty y162 t165), .int .i64 0, .slice none 0 0] 46 (0, 0)) (by (with_reducible repeat (first | refine qv ?_ _ | refine qw ?_ | refine qx ?_ _)); exact BK169.out) hb); have n5_ := qy (Kd.C_below (by repeat (first | (with_reducible exact HR170_2.out) | (with_reducible refine Kd.C_alloc ?_ _) | (with_reducible refine Kd.C_drewN ?_ _) | (with_reducible refine Kd.C_drew ?_) | exact HR170_2.out)) hb); have n6_ := qy (pw_cell_below hb HX170_2.out); have n7_ := qy (qB (by repeat (first | (with_reducible first | exact HK.out | apply qg | apply qh | apply qi | apply qj | refine qk ?_ GW169.out _) | exact HK.out)) (KeepBut.of_below hb g none) (.inl rfl)); have n8_ := qy (below_step (by repeat (first | (with_reducible first | exact HB.out | apply qn | apply ql | apply qm | refine qo ?_ (qI HI0.out) | refine qo ?_ GE169.out) | exact HB.out)) hb); have n9_ := qy (hbox); have n10_ := qy ((by rw [hg]; exact (keep_size (w := w) (g := g) (row := none) (by repeat (first | (with_reducible first | exact HK.out | apply qg | apply qh | apply qi | apply qj | refine qk ?_ GW169.out _) | exact HK.out))) : w.heap.size ≤ gb171)); have n11_ := qy ((Nat.le_trans HW0.out (by rw [hg]; exact (keep_size (w := w) (g := g) (row := none) (by repeat (first | (with_reducible first | exact HK.out | apply qg | apply qh | apply qi | apply qj | refine qk ?_ GW169.out _) | exact HK.out))) : w.heap.size ≤ gb171) : w0.heap.size ≤ gb171)); have n12_ := qy ((by rw [hg]; exact Nat.ne_of_lt (blk_lt (g := gb169) (o := .cells #[.string (rdOf ByteArray.empty y162 t165), .int .i64 0, .slice none 0 0] 46 (0, 0)) (by (with_reducible repeat (first | refine qv ?_ _ | refine qw ?_ | refine qx ?_ _)); exact BK169.out)) : gb169 ≠ gb171)); have n13_ := qy ((by rw [hg]; exact Nat.ne_of_gt (blk_lt (g := gb169) (o := .cells #[.string (rdOf ByteArray.empty y162 t165), .int .i64 0, .slice none 0 0] 46 (0, 0)) (by (with_reducible repeat (first | refine qv ?_ _ | refine qw ?_ | refine qx ?_ _)); exact BK169.out)) : gb171 ≠ gb169)); have n14_ := qy ((by rw [hg]; exact Nat.ne_of_lt (IsS69.lt (show IsS69 w0 _ g s0_0 t166 t167 from by repeat (first | (with_reducible first | exact HI0.out | apply qa | apply qb | apply qc | apply qd | apply qe | refine qf ?_ NB0_169.out _) | exact HI0.out))) : g ≠ gb171)); have n15_ := qy ((by rw [hg]; exact Nat.ne_of_gt (IsS69.lt (show IsS69 w0 _ g s0_0 t166 t167 from by repeat (first | (with_reducible first | exact HI0.out | apply qa | apply qb | apply qc | apply qd | apply qe | refine qf ?_ NB0_169.out _) | exact HI0.out))) : gb171 ≠ g)); clear HO_3 HO164 HL170_2 HI0 BK169 HR170_2 HX170_2 HK HB; have HO_3 := n0_; have HO164 := n1_; have HL170_2 := n2_; have HI0 := n3_; have BK169 := n4_; have HR170_2 := n5_; have HX170_2 := n6_; have HK := n7_; have HB := n8_; have BK171 := n9_; have GW171 := n10_; have GE171 := n11_; have NB169_171 := n12_; have NB171_169 := n13_; have NB0_171 := n14_; have NB171_0 := n15_; clear n0_ n1_ n2_ n3_ n4_ n5_ n6_ n7_ n8_ n9_ n10_ n11_ n12_ n13_ n14_ n15_ hb hbox hg; have hnb31 := NB171_169.out; have hnc31 := NB169_171.out; have hnb32 := NB171_0.out; have hnc32 := NB0_171.out; have hcz33_0 : w30.cell? ⟨gb171, 0, none⟩ = some (.string (⟨#[]⟩ : ByteArray)) := (blk_cell BK171.out 0).trans rfl; have hcz33_1 : w30.cell? ⟨gb171, 1, none⟩ = some (.int .i64 0) := (blk_cell BK171.out 1).trans rfl; have hcz33_2 : w30.cell? ⟨gb171, 2, none⟩ = some (.slice none 0 0) := (blk_cell BK171.out 2).trans rfl; have hfz33_0 := blk_frozen BK171.out 0; have hfz33_1 := blk_frozen BK171.out 1; have hfz33_2 := blk_frozen BK171.out 2) | ((with_reducible refine gate_store (t := 46) (p := 6) rfl ?_); refine store_event (t := 46) (p := 6) (v := ?vo_w34) (w1 := (((w30.setCell ⟨gb171, 0, none⟩ (.string ((rd_T46 x3_1 (ji21)).f0))).setCell ⟨gb171, 1, none⟩ (.int .i64 ((rd_T46 x3_1 (ji21)).f1))).setCell ⟨gb171, 2, none⟩ (.slice A170_2 ((rd_T46 x3_1 (ji21)).f2).length c170_2))) ?hg ?ho ?hn ?hr ?_; (case ho => rfl); (case hg => rfl); (case hn => rfl); (case hr => first | (go_simp; done) | (go_simp; rfl)); intro w34 hw; have n0_ : Aside0 (Kd.S k46 46 w34 w.heap.size (fun k_ => k_ ≠ gb169 ∧ k_ ≠ gb171) (.slice (some ad170) x3_1.length co19) x3_1) := ⟨(by rw [hw]; exact (by (with_reducible repeat (first | apply qp | apply qq | apply qr)); exact qG (Kd.S_far (p := ⟨gb171, 2, none⟩) (Kd.S_far (p := ⟨gb171, 1, none⟩) (Kd.S_far (p := ⟨gb171, 0, none⟩) (qG HO_3.out (fun k_ hk => (⟨hk, hk.2⟩ : _ ∧ k_ ≠ gb171))) (fun _ hk => hk.2) (.string ((rd_T46 x3_1 (ji21)).f0))) (fun _ hk => hk.2) (.int .i64 ((rd_T46 x3_1 (ji21)).f1))) (fun _ hk => hk.2) (.slice A170_2 ((rd_T46 x3_1 (ji21)).f2).length c170_2)) (fun _ hk => ⟨hk.1.1, hk.1.2⟩)))⟩; have n1_ : Aside0 (Kd.R Kd.string 9 w34 w.heap.size (fun _ => True) (.slice (some ad168) y162.length co14) y162) := ⟨(by rw [hw]; exact (by (with_reducible repeat (first | apply qs | apply qt | apply qu)); exact qH (qK (p := ⟨gb171, 2, none⟩) (qK (p := ⟨gb171, 1, none⟩) (qK (p := ⟨gb171, 0, none⟩) (qJ HO164.out BK171.out (by decide)) (fun _ hk => hk.2) (.string ((rd_T46 x3_1 (ji21)).f0))) (fun _ hk => hk.2) (.int .i64 ((rd_T46 x3_1 (ji21)).f1))) (fun _ hk => hk.2) (.slice A170_2 ((rd_T46 x3_1 (ji21)).f2).length c170_2)) (fun _ hk => trivial)))⟩; have n2_ : Aside0 (Kd.R (Kd.int .u8) 5 w34 w.heap.size (fun k_ => some k_ ≠ (.slice (some ad170) x3_1.length co19 : Value).ownBlock ∧ k_ ≠ gb169) (.slice A170_2 ((rd_T46 x3_1 (ji21)).f2).length c170_2) ((rd_T46 x3_1 (ji21)).f2)) := ⟨(by rw [hw]; exact (by (with_reducible repeat (first | apply qs | apply qt | apply qu)); exact qH (qK (p := ⟨gb171, 2, none⟩) (qK (p := ⟨gb171, 1, none⟩) (qK (p := ⟨gb171, 0, none⟩) (qJ HL170_2.out BK171.out (by decide)) (fun _ hk => hk.2) (.string ((rd_T46 x3_1 (ji21)).f0))) (fun _ hk => hk.2) (.int .i64 ((rd_T46 x3_1 (ji21)).f1))) (fun _ hk => hk.2) (.slice A170_2 ((rd_T46 x3_1 (ji21)).f2).length c170_2)) (fun _ hk => ⟨hk.1.2, hk.1.1⟩)))⟩; have n3_ : Aside0 (w34.heap[gb169]? = some (.cells #[.string (rdOf ByteArray.empty y162 t165), .int .i64 0, .slice none 0 0] 46 (0, 0))) := ⟨(by rw [hw]; exact (by (with_reducible repeat (first | refine qv ?_ _ | refine qw ?_ | refine qx ?_ _)); refine blk_far ?_ NB169_171.out _; (with_reducible repeat (first | refine qv ?_ _ | refine qw ?_ | refine qx ?_ _)); refine blk_far ?_ NB169_171.out _; (with_reducible repeat (first | refine qv ?_ _ | refine qw ?_ | refine qx ?_ _)); refine blk_far ?_ NB169_171.out _; (with_reducible repeat (first | refine qv ?_ _ | refine qw ?_ | refine qx ?_ _)); exact BK169.out))⟩; have n4_ : Aside0 (w34.heap[gb171]? = some (.cells #[.string ((rd_T46 x3_1 (ji21)).f0), .int .i64 ((rd_T46 x3_1 (ji21)).f1), .slice A170_2 ((rd_T46 x3_1 (ji21)).f2).length c170_2] 46 (0, 0))) := ⟨(by rw [hw]; exact (by (with_reducible repeat (first | refine qv ?_ _ | refine qw ?_ | refine qx ?_ _)); refine blk_put (cs := #[.string ((rd_T46 x3_1 (ji21)).f0), .int .i64 ((rd_T46 x3_1 (ji21)).f1), .slice none 0 0]) ?_ 2 _ rfl; (with_reducible repeat (first | refine qv ?_ _ | refine qw ?_ | refine qx ?_ _)); refine blk_put (cs := #[.string ((rd_T46 x3_1 (ji21)).f0), .int .i64 0, .slice none 0 0]) ?_ 1 _ rfl; (with_reducible repeat (first | refine qv ?_ _ | refine qw ?_ | refine qx ?_ _)); refine blk_put (cs := #[.string (⟨#[]⟩ : ByteArray), .int .i64 0, .slice none 0 0]) ?_ 0 _ rfl; (with_reducible repeat (first | refine qv ?_ _ | refine qw ?_ | refine qx ?_ _)); exact BK171.out))⟩; have n5_ : Aside0 (IsS69 w0 w34 g s0_0 t166 t167) := ⟨(by rw [hw]; exact (by repeat (first | (with_reducible first | exact HI0.out | apply qa | apply qb | apply qc | apply qd | apply qe | refine qf ?_ NB0_169.out _ | refine qf ?_ NB0_171.out _) | exact HI0.out)))⟩; have n6_ : Aside0 (KeepBut w w34 g none) := ⟨(by rw [hw]; exact (by repeat (first | (with_reducible first | exact HK.out | apply qg | apply qh | apply qi | apply qj | refine qk ?_ GW169.out _ | refine qk ?_ GW171.out _) | exact HK.out)))⟩; have n7_ : Aside0 (Below w0.heap.size w0 w34) := ⟨(by rw [hw]; exact (by repeat (first | (with_reducible first | exact HB.out | apply qn | apply ql | apply qm | refine qo ?_ (qI HI0.out) | refine qo ?_ GE169.out | refine qo ?_ GE171.out) | exact HB.out)))⟩; clear hw HO_3 HO164 HL170_2 BK169 BK171 HI0 HK HB; have HO_3 := n0_; have HO164 := n1_; have HL170_2 := n2_; have BK169 := n3_; have BK171 := n4_; have HI0 := n5_; have HK := n6_; have HB := n7_; clear n0_ n1_ n2_ n3_ n4_ n5_ n6_ n7_; have hcz35_0 : w34.cell? ⟨gb171, 0, none⟩ = some (.string ((rd_T46 x3_1 (ji21)).f0)) := (blk_cell BK171.out 0).trans rfl; have hcz35_1 : w34.cell? ⟨gb171, 1, none⟩ = some (.int .i64 ((rd_T46 x3_1 (ji21)).f1)) := (blk_cell BK171.out 1).trans rfl; have hcz35_2 : w34.cell? ⟨gb171, 2, none⟩ = some (.slice A170_2 ((rd_T46 x3_1 (ji21)).f2).length c170_2) := (blk_cell BK171.out 2).trans rfl; have hfz35_0 := blk_frozen BK171.out 0; have hfz35_1 := blk_frozen BK171.out 1; have hfz35_2 := blk_frozen BK171.out 2) | ((with_reducible refine gate_callee (f := 56) rfl ?_); refine goesL_ (some 37) rfl rfl Try.func56 (by kernel_rfl) rfl #[.pointer (some ⟨g, 0, none⟩), .int .i64 (wrap64 (((rd_T46 x3_1 (ji21)).f1) + 1))] rfl (by (try simp only [List.map_toArray, List.map_cons, List.map_nil]); first | done | (simp only [hji21]; rfl) | rfl | (rw [← hji21]; rfl) | (simp only [List.length_drop, List.length_take]; rfl)) ?_; (with_reducible refine (spec_l1Below.calls g s0_0 t166 t167 (wrap64 (((rd_T46 x3_1 (ji21)).f1) + 1)) t172 t173 t174 w0 _ ?side1 ?side2 A24.out).mono ?_); (case side1 => repeat (first | (with_reducible first | exact HI0.out | apply qa | apply qb | apply qc | apply qd | apply qe | refine qf ?_ NB0_169.out _ | refine qf ?_ NB0_171.out _) | exact HI0.out)); (case side2 => repeat (first | (with_reducible first | exact HB.out | apply qn | apply ql | apply qm | refine qo ?_ (qI HI0.out) | refine qo ?_ GE169.out | refine qo ?_ GE171.out) | exact HB.out)); rintro e w36 ⟨rfl, hi, hb, hk⟩; refine ⟨_, rfl, ?_⟩; have n0_ := qy (qG (qE (qz (show IsS69 w0 _ g s0_0 t166 t167 from by repeat (first | (with_reducible first | exact HI0.out | apply qa | apply qb | apply qc | apply qd | apply qe | refine qf ?_ NB0_169.out _ | refine qf ?_ NB0_171.out _) | exact HI0.out)) (by (with_reducible repeat (first | apply qp | apply qq | apply qr)); exact HO_3.out) (by decide)) hk (fun _ h => h.2)) (fun _ h => h.1)); have n1_ := qy (qH (qF (qA (show IsS69 w0 _ g s0_0 t166 t167 from by repeat (first | (with_reducible first | exact HI0.out | apply qa | apply qb | apply qc | apply qd | apply qe | refine qf ?_ NB0_169.out _ | refine qf ?_ NB0_171.out _) | exact HI0.out)) (by (with_reducible repeat (first | apply qs | apply qt | apply qu)); exact HO164.out) (by decide)) hk (fun _ h => h.2)) (fun _ h => h.1)); have n2_ := qy (qC hk (g' := gb169) (o := .cells #[.string (rdOf ByteArray.empty y162 t165), .int .i64 0, .slice none 0 0] 46 (0, 0)) (by (with_reducible repeat (first | refine qv ?_ _ | refine qw ?_ | refine qx ?_ _)); exact BK169.out) NB169_0.out (by simp)); have n3_ := qy (qH (qF (qA (show IsS69 w0 _ g s0_0 t166 t167 from by repeat (first | (with_reducible first | exact HI0.out | apply qa | apply qb | apply qc | apply qd | apply qe | refine qf ?_ NB0_169.out _ | refine qf ?_ NB0_171.out _) | exact HI0.out)) (by (with_reducible repeat (first | apply qs | apply qt | apply qu)); exact HL170_2.out) (by decide)) hk (fun _ h => h.2)) (fun _ h => h.1)); have n4_ := qy (qC hk (g' := gb171) (o := .cells #[.string ((rd_T46 x3_1 (ji21)).f0), .int .i64 ((rd_T46 x3_1 (ji21)).f1), .slice A170_2 ((rd_T46 x3_1 (ji21)).f2).length c170_2] 46 (0, 0)) (by (with_reducible repeat (first | refine qv ?_ _ | refine qw ?_ | refine qx ?_ _)); exact BK171.out) NB171_0.out (by simp)); have n5_ := qy (qB (by repeat (first | (with_reducible first | exact HK.out | apply qg | apply qh | apply qi | apply qj | refine qk ?_ GW169.out _ | refine qk ?_ GW171.out _) | exact HK.out)) hk (.inl rfl)); have n6_ := qy (hb); have n7_ := qy (hi); clear HO_3 HO164 BK169 HL170_2 BK171 HK HB HI0; have HO_3 := n0_; have HO164 := n1_; have BK169 := n2_; have HL170_2 := n3_; have BK171 := n4_; have HK := n5_; have HB := n6_; have HI0 := n7_; clear n0_ n1_ n2_ n3_ n4_ n5_ n6_ n7_; (try clear hb hk hi); have hnb37 := NB169_0.out; have hnc37 := NB0_169.out; have hcz38_0 : w36.cell? ⟨gb169, 0, none⟩ = some (.string (rdOf ByteArray.empty y162 t165)) := (blk_cell BK169.out 0).trans rfl; have hcz38_1 : w36.cell? ⟨gb169, 1, none⟩ = some (.int .i64 0) := (blk_cell BK169.out 1).trans rfl; have hcz38_2 : w36.cell? ⟨gb169, 2, none⟩ = some (.slice none 0 0) := (blk_cell BK169.out 2).trans rfl; have hfz38_0 := blk_frozen BK169.out 0; have hfz38_1 := blk_frozen BK169.out 1; have hfz38_2 := blk_frozen BK169.out 2) | ((with_reducible refine gate_store (t := 2) (p := 38) rfl ?_); refine store_event (t := 2) (p := 38) (v := ?vo_w39) (w1 := (w36.setCell ⟨gb169, 1, none⟩ (.int .i64 t172))) ?hg ?ho ?hn ?hr ?_; (case ho => rfl); (case hg => rfl); (case hn => rfl); (case hr => first | (go_simp; done) | (go_simp; rfl)); intro w39 hw; have n0_ : Aside0 (Kd.S k46 46 w39 w.heap.size (fun k_ => k_ ≠ gb169 ∧ k_ ≠ gb171) (.slice (some ad170) x3_1.length co19) x3_1) := ⟨(by rw [hw]; exact (by (with_reducible repeat (first | apply qp | apply qq | apply qr)); exact qG (Kd.S_far (p := ⟨gb169, 1, none⟩) (qG HO_3.out (fun k_ hk => (⟨hk, hk.1⟩ : _ ∧ k_ ≠ gb169))) (fun _ hk => hk.2) (.int .i64 t172)) (fun _ hk => ⟨hk.1.1, hk.1.2⟩)))⟩; have n1_ : Aside0 (Kd.R Kd.string 9 w39 w.heap.size (fun _ => True) (.slice (some ad168) y162.length co14) y162) := ⟨(by rw [hw]; exact (by (with_reducible repeat (first | apply qs | apply qt | apply qu)); exact qH (qK (p := ⟨gb169, 1, none⟩) (qJ HO164.out BK169.out (by decide)) (fun _ hk => hk.2) (.int .i64 t172)) (fun _ hk => trivial)))⟩; have n2_ : Aside0 (Kd.R (Kd.int .u8) 5 w39 w.heap.size (fun k_ => some k_ ≠ (.slice (some ad170) x3_1.length co19 : Value).ownBlock ∧ k_ ≠ gb169) (.slice A170_2 ((rd_T46 x3_1 (ji21)).f2).length c170_2) ((rd_T46 x3_1 (ji21)).f2)) := ⟨(by rw [hw]; exact (by (with_reducible repeat (first | apply qs | apply qt | apply qu)); exact qH (qK (p := ⟨gb169, 1, none⟩) (qJ HL170_2.out BK169.out (by decide)) (fun _ hk => hk.2) (.int .i64 t172)) (fun _ hk => ⟨hk.1.1, hk.1.2⟩)))⟩; have n3_ : Aside0 (w39.heap[gb169]? = some (.cells #[.string (rdOf ByteArray.empty y162 t165), .int .i64 t172, .slice none 0 0] 46 (0, 0))) := ⟨(by rw [hw]; exact (by (with_reducible repeat (first | refine qv ?_ _ | refine qw ?_ | refine qx ?_ _)); refine blk_put (cs := #[.string (rdOf ByteArray.empty y162 t165), .int .i64 0, .slice none 0 0]) ?_ 1 _ rfl; (with_reducible repeat (first | refine qv ?_ _ | refine qw ?_ | refine qx ?_ _)); exact BK169.out))⟩; have n4_ : Aside0 (w39.heap[gb171]? = some (.cells #[.string ((rd_T46 x3_1 (ji21)).f0), .int .i64 ((rd_T46 x3_1 (ji21)).f1), .slice A170_2 ((rd_T46 x3_1 (ji21)).f2).length c170_2] 46 (0, 0))) := ⟨(by rw [hw]; exact (by (with_reducible repeat (first | refine qv ?_ _ | refine qw ?_ | refine qx ?_ _)); refine blk_far ?_ NB171_169.out _; (with_reducible repeat (first | refine qv ?_ _ | refine qw ?_ | refine qx ?_ _)); exact BK171.out))⟩; have n5_ : Aside0 (IsS69 w0 w39 g s0_0 t173 t174) := ⟨(by rw [hw]; exact (by repeat (first | (with_reducible first | exact HI0.out | apply qa | apply qb | apply qc | apply qd | apply qe | refine qf ?_ NB0_169.out _ | refine qf ?_ NB0_171.out _) | exact HI0.out)))⟩; have n6_ : Aside0 (KeepBut w w39 g none) := ⟨(by rw [hw]; exact (by repeat (first | (with_reducible first | exact HK.out | apply qg | apply qh | apply qi | apply qj | refine qk ?_ GW169.out _ | refine qk ?_ GW171.out _) | exact HK.out)))⟩; have n7_ : Aside0 (Below w0.heap.size w0 w39) := ⟨(by rw [hw]; exact (by repeat (first | (with_reducible first | exact HB.out | apply qn | apply ql | apply qm | refine qo ?_ (qI HI0.out) | refine qo ?_ GE169.out | refine qo ?_ GE171.out) | exact HB.out)))⟩; clear hw HO_3 HO164 HL170_2 BK169 BK171 HI0 HK HB; have HO_3 := n0_; have HO164 := n1_; have HL170_2 := n2_; have BK169 := n3_; have BK171 := n4_; have HI0 := n5_; have HK := n6_; have HB := n7_; clear n0_ n1_ n2_ n3_ n4_ n5_ n6_ n7_; have hcz40_0 : w39.cell? ⟨gb171, 0, none⟩ = some (.string ((rd_T46 x3_1 (ji21)).f0)) := (blk_cell BK171.out 0).trans rfl; have hcz40_1 : w39.cell? ⟨gb171, 1, none⟩ = some (.int .i64 ((rd_T46 x3_1 (ji21)).f1)) := (blk_cell BK171.out 1).trans rfl; have hcz40_2 : w39.cell? ⟨gb171, 2, none⟩ = some (.slice A170_2 ((rd_T46 x3_1 (ji21)).f2).length c170_2) := (blk_cell BK171.out 2).trans rfl; have hfz40_0 := blk_frozen BK171.out 0; have hfz40_1 := blk_frozen BK171.out 1; have hfz40_2 := blk_frozen BK171.out 2) | ((with_reducible refine gate_callee (f := 35) rfl ?_); refine goesL_ (some 41) rfl rfl Try.func35 (by kernel_rfl) rfl #[.string ((rd_T46 x3_1 (ji21)).f0)] rfl (by (try simp only [List.map_toArray, List.map_cons, List.map_nil]); first | done | (simp only [hji21]; rfl) | rfl | (rw [← hji21]; rfl) | (simp only [List.length_drop, List.length_take]; rfl)) ?_; (with_reducible refine (spec_l2Holds.calls ((rd_T46 x3_1 (ji21)).f0) true _ A25.out).mono ?_); rintro e w' ⟨rfl, ⟨nd, rfl⟩⟩; refine ⟨_, rfl, ?_⟩) | (go_at_call 58; (with_reducible refine (spec_l1Once.calls g s0_0 t173 t174 3 true t177 t178 w0 _ ?side1 ?side2 A28.out).mono ?_); (case side1 => repeat (first | (with_reducible first | exact HI0.out | apply qa | apply qb | apply qc | apply qd | apply qe | refine qf ?_ NB0_169.out _ | refine qf ?_ NB0_171.out _) | exact HI0.out)); (case side2 => repeat (first | (with_reducible first | exact HB.out | apply qn | apply ql | apply qm | refine qo ?_ (qI HI0.out) | refine qo ?_ GE169.out | refine qo ?_ GE171.out) | exact HB.out)); rintro e w41 ⟨rfl, hi, hb, hk⟩; have n0_ := qy (qG (qE (qz (show IsS69 w0 _ g s0_0 t173 t174 from by repeat (first | (with_reducible first | exact HI0.out | apply qa | apply qb | apply qc | apply qd | apply qe | refine qf ?_ NB0_169.out _ | refine qf ?_ NB0_171.out _) | exact HI0.out)) (by (with_reducible repeat (first | apply qp | apply qq | apply qr)); exact HO_3.out) (by decide)) hk (fun _ h => h.2)) (fun _ h => h.1)); have n1_ := qy (qH (qF (qA (show IsS69 w0 _ g s0_0 t173 t174 from by repeat (first | (with_reducible first | exact HI0.out | apply qa | apply qb | apply qc | apply qd | apply qe | refine qf ?_ NB0_169.out _ | refine qf ?_ NB0_171.out _) | exact HI0.out)) (by (with_reducible repeat (first | apply qs | apply qt | apply qu)); exact HO164.out) (by decide)) hk (fun _ h => h.2)) (fun _ h => h.1)); have n2_ := qy (qC hk (g' := gb169) (o := .cells #[.string (rdOf ByteArray.empty y162 t165), .int .i64 t172, .slice none 0 0] 46 (0, 0)) (by (with_reducible repeat (first | refine qv ?_ _ | refine qw ?_ | refine qx ?_ _)); exact BK169.out) NB169_0.out (by simp)); have n3_ := qy (qH (qF (qA (show IsS69 w0 _ g s0_0 t173 t174 from by repeat (first | (with_reducible first | exact HI0.out | apply qa | apply qb | apply qc | apply qd | apply qe | refine qf ?_ NB0_169.out _ | refine qf ?_ NB0_171.out _) | exact HI0.out)) (by (with_reducible repeat (first | apply qs | apply qt | apply qu)); exact HL170_2.out) (by decide)) hk (fun _ h => h.2)) (fun _ h => h.1)); have n4_ := qy (qC hk (g' := gb171) (o := .cells #[.string ((rd_T46 x3_1 (ji21)).f0), .int .i64 ((rd_T46 x3_1 (ji21)).f1), .slice A170_2 ((rd_T46 x3_1 (ji21)).f2).length c170_2] 46 (0, 0)) (by (with_reducible repeat (first | refine qv ?_ _ | refine qw ?_ | refine qx ?_ _)); exact BK171.out) NB171_0.out (by simp)); have n5_ := qy (qB (by repeat (first | (with_reducible first | exact HK.out | apply qg | apply qh | apply qi | apply qj | refine qk ?_ GW169.out _ | refine qk ?_ GW171.out _) | exact HK.out)) hk (.inl rfl)); have n6_ := qy (hb); have n7_ := qy (hi); clear HO_3 HO164 BK169 HL170_2 BK171 HK HB HI0; have HO_3 := n0_; have HO164 := n1_; have BK169 := n2_; have HL170_2 := n3_; have BK171 := n4_; have HK := n5_; have HB := n6_; have HI0 := n7_; clear n0_ n1_ n2_ n3_ n4_ n5_ n6_ n7_; (try clear hb hk hi)))
         go_meet
         case rel => exact ⟨_, (t177), (t178), (t172), H', ⟨by have := HK1.out; first | omega | exact Nat.le_refl _⟩, ⟨by (with_reducible repeat (first | apply qp | apply qq | apply qr)); exact qG HO_3.out (fun _ hk => hk.1)⟩, ⟨by (with_reducible repeat (first | refine qv ?_ _ | refine qw ?_ | refine qx ?_ _)); exact BK169.out⟩, ⟨by repeat (first | (with_reducible first | exact HI0.out | apply qa | apply qb | apply qc | apply qd | apply qe | refine qf ?_ NB0_169.out _ | refine qf ?_ NB0_171.out _) | exact HI0.out)⟩, ⟨by repeat (first | (with_reducible first | exact HK.out | apply qg | apply qh | apply qi | apply qj | refine qk ?_ GW169.out _ | refine qk ?_ GW171.out _) | exact HK.out)⟩, ⟨by repeat (first | (with_reducible first | exact HB.out | apply qn | apply ql | apply qm | refine qo ?_ (qI HI0.out) | refine qo ?_ GE169.out | refine qo ?_ GE171.out) | exact HB.out)⟩⟩
        ·replace c29 := Bool.eq_false_iff.mpr c29
         subst c29
         have H1 := H; rw [if_neg (show ¬ (false = true) by decide)] at H1
         clear H
         have H := H1
         clear H1
         have H' := qy H
         clear H
         have p170 : 0 ≤ ((ji21) : Int) := of_decide_eq_true (by assumption)
         have q170 : (ji21) < (x3_1.length : Int) := of_decide_eq_true (by assumption)
         obtain ⟨ad170, A170_2, c170_2, e170, hx170_0, hx170_1, hx170_2, hl170_2, hi170_2⟩ := at_T46 (Kd.S_reads' HO_3.out).2.2 (ji21) p170 q170
         cases e170
         obtain ⟨ce170, hce170, hMe170, hcc170⟩ := Kd.S_get HO_3.out z46 (ji21) p170 (by first | exact q170 | exact of_decide_eq_true (by assumption) | (have e_ := (Kd.S_reads' HO_3.out).1; omega))
         obtain ⟨ve170_2, rfl, ge170_2⟩ := k46_openM hMe170
         have hv170_2 := hcc170 2 _ rfl
         rw [add_field _ _ 2 (by omega)] at hv170_2
         replace hv170_2 := Option.some.inj (hv170_2.symm.trans hx170_2)
         rw [hv170_2] at ge170_2
         have HL170_2 := qy (show Kd.R (Kd.int .u8) 5 _ _ _ _ ((rd_T46 x3_1 (ji21)).f2) from ge170_2)
         clear hv170_2 ge170_2
         have HX170_2 := qy hx170_2
         clear hcc170 hce170
         have HR170_2 := qy hi170_2
         have HC170_2 := qy hl170_2
         clear hi170_2 hl170_2
         replace p170 := eq_true p170
         replace q170 := eq_true q170
         go_wp2_with (first | ((with_reducible refine gate_dst (N := 6) rfl ?_); (try (refine gate_guard (by rfl) ?_; dsimp only)); refine box_event ?hg (N := 6) ?hd (cs := #[.string (⟨#[]⟩ : ByteArray), .int .i64 0, .slice none 0 0]) (t := 46) ?hr ?_; (case hd => rfl); (case hg => rfl); (case hr => first | (go_simp; done) | (go_simp; rfl)); intro gb171 hg w42 hbox hb; have n0_ := qy (Kd.S_below (Kd.S_elderB (by (with_reducible repeat (first | apply qp | apply qq | apply qr)); exact HO_3.out) gb171 (Nat.le_of_eq hg.symm)) hb); have n1_ := qy (Kd.R_below (by (with_reducible repeat (first | apply qs | apply qt | apply qu)); exact HO164.out) hb); have n2_ := qy (Kd.R_below (by (with_reducible repeat (first | apply qs | apply qt | apply qu)); exact HL170_2.out) hb); have n3_ := qy (IsS69.below (by repeat (first | (with_reducible first | exact HI0.out | apply qa | apply qb | apply qc | apply qd | apply qe | refine qf ?_ NB0_169.out _) | exact HI0.out)) hb); have n4_ := qy (blk_below (g := gb169) (o := .cells #[.string (rdOf ByteArray.empty y162 t165), .int .i64 0, .slice none 0 0] 46 (0, 0)) (by (with_reducible repeat (first | refine qv ?_ _ | refine qw ?_ | refine qx ?_ _)); exact BK169.out) hb); have n5_ := qy (Kd.C_below (by repeat (first | (with_reducible exact HR170_2.out) | (with_reducible refine Kd.C_alloc ?_ _) | (with_reducible refine Kd.C_drewN ?_ _) | (with_reducible refine Kd.C_drew ?_) | exact HR170_2.out)) hb); have n6_ := qy (pw_cell_below hb HX170_2.out); have n7_ := qy (qB (by repeat (first | (with_reducible first | exact HK.out | apply qg | apply qh | apply qi | apply qj | refine qk ?_ GW169.out _) | exact HK.out)) (KeepBut.of_below hb g none) (.inl rfl)); have n8_ := qy (below_step (by repeat (first | (with_reducible first | exact HB.out | apply qn | apply ql | apply qm | refine qo ?_ (qI HI0.out) | refine qo ?_ GE169.out) | exact HB.out)) hb); have n9_ := qy (hbox); have n10_ := qy ((by rw [hg]; exact (keep_size (w := w) (g := g) (row := none) (by repeat (first | (with_reducible first | exact HK.out | apply qg | apply qh | apply qi | apply qj | refine qk ?_ GW169.out _) | exact HK.out))) : w.heap.size ≤ gb171)); have n11_ := qy ((Nat.le_trans HW0.out (by rw [hg]; exact (keep_size (w := w) (g := g) (row := none) (by repeat (first | (with_reducible first | exact HK.out | apply qg | apply qh | apply qi | apply qj | refine qk ?_ GW169.out _) | exact HK.out))) : w.heap.size ≤ gb171) : w0.heap.size ≤ gb171)); have n12_ := qy ((by rw [hg]; exact Nat.ne_of_lt (blk_lt (g := gb169) (o := .cells #[.string (rdOf ByteArray.empty y162 t165), .int .i64 0, .slice none 0 0] 46 (0, 0)) (by (with_reducible repeat (first | refine qv ?_ _ | refine qw ?_ | refine qx ?_ _)); exact BK169.out)) : gb169 ≠ gb171)); have n13_ := qy ((by rw [hg]; exact Nat.ne_of_gt (blk_lt (g := gb169) (o := .cells #[.string (rdOf ByteArray.empty y162 t165), .int .i64 0, .slice none 0 0] 46 (0, 0)) (by (with_reducible repeat (first | refine qv ?_ _ | refine qw ?_ | refine qx ?_ _)); exact BK169.out)) : gb171 ≠ gb169)); have n14_ := qy ((by rw [hg]; exact Nat.ne_of_lt (IsS69.lt (show IsS69 w0 _ g s0_0 t166 t167 from by repeat (first | (with_reducible first | exact HI0.out | apply qa | apply qb | apply qc | apply qd | apply qe | refine qf ?_ NB0_169.out _) | exact HI0.out))) : g ≠ gb171)); have n15_ := qy ((by rw [hg]; exact Nat.ne_of_gt (IsS69.lt (show IsS69 w0 _ g s0_0 t166 t167 from by repeat (first | (with_reducible first | exact HI0.out | apply qa | apply qb | apply qc | apply qd | apply qe | refine qf ?_ NB0_169.out _) | exact HI0.out))) : gb171 ≠ g)); clear HO_3 HO164 HL170_2 HI0 BK169 HR170_2 HX170_2 HK HB; have HO_3 := n0_; have HO164 := n1_; have HL170_2 := n2_; have HI0 := n3_; have BK169 := n4_; have HR170_2 := n5_; have HX170_2 := n6_; have HK := n7_; have HB := n8_; have BK171 := n9_; have GW171 := n10_; have GE171 := n11_; have NB169_171 := n12_; have NB171_169 := n13_; have NB0_171 := n14_; have NB171_0 := n15_; clear n0_ n1_ n2_ n3_ n4_ n5_ n6_ n7_ n8_ n9_ n10_ n11_ n12_ n13_ n14_ n15_ hb hbox hg; have hnb43 := NB171_169.out; have hnc43 := NB169_171.out; have hnb44 := NB171_0.out; have hnc44 := NB0_171.out; have hcz45_0 : w42.cell? ⟨gb171, 0, none⟩ = some (.string (⟨#[]⟩ : ByteArray)) := (blk_cell BK171.out 0).trans rfl; have hcz45_1 : w42.cell? ⟨gb171, 1, none⟩ = some (.int .i64 0) := (blk_cell BK171.out 1).trans rfl; have hcz45_2 : w42.cell? ⟨gb171, 2, none⟩ = some (.slice none 0 0) := (blk_cell BK171.out 2).trans rfl; have hfz45_0 := blk_frozen BK171.out 0; have hfz45_1 := blk_frozen BK171.out 1; have hfz45_2 := blk_frozen BK171.out 2) | ((with_reducible refine gate_store (t := 46) (p := 6) rfl ?_); refine store_event (t := 46) (p := 6) (v := ?vo_w46) (w1 := (((w42.setCell ⟨gb171, 0, none⟩ (.string ((rd_T46 x3_1 (ji21)).f0))).setCell ⟨gb171, 1, none⟩ (.int .i64 ((rd_T46 x3_1 (ji21)).f1))).setCell ⟨gb171, 2, none⟩ (.slice A170_2 ((rd_T46 x3_1 (ji21)).f2).length c170_2))) ?hg ?ho ?hn ?hr ?_; (case ho => rfl); (case hg => rfl); (case hn => rfl); (case hr => first | (go_simp; done) | (go_simp; rfl)); intro w46 hw; have n0_ : Aside0 (Kd.S k46 46 w46 w.heap.size (fun k_ => k_ ≠ gb169 ∧ k_ ≠ gb171) (.slice (some ad170) x3_1.length co19) x3_1) := ⟨(by rw [hw]; exact (by (with_reducible repeat (first | apply qp | apply qq | apply qr)); exact qG (Kd.S_far (p := ⟨gb171, 2, none⟩) (Kd.S_far (p := ⟨gb171, 1, none⟩) (Kd.S_far (p := ⟨gb171, 0, none⟩) (qG HO_3.out (fun k_ hk => (⟨hk, hk.2⟩ : _ ∧ k_ ≠ gb171))) (fun _ hk => hk.2) (.string ((rd_T46 x3_1 (ji21)).f0))) (fun _ hk => hk.2) (.int .i64 ((rd_T46 x3_1 (ji21)).f1))) (fun _ hk => hk.2) (.slice A170_2 ((rd_T46 x3_1 (ji21)).f2).length c170_2)) (fun _ hk => ⟨hk.1.1, hk.1.2⟩)))⟩; have n1_ : Aside0 (Kd.R Kd.string 9 w46 w.heap.size (fun _ => True) (.slice (some ad168) y162.length co14) y162) := ⟨(by rw [hw]; exact (by (with_reducible repeat (first | apply qs | apply qt | apply qu)); exact qH (qK (p := ⟨gb171, 2, none⟩) (qK (p := ⟨gb171, 1, none⟩) (qK (p := ⟨gb171, 0, none⟩) (qJ HO164.out BK171.out (by decide)) (fun _ hk => hk.2) (.string ((rd_T46 x3_1 (ji21)).f0))) (fun _ hk => hk.2) (.int .i64 ((rd_T46 x3_1 (ji21)).f1))) (fun _ hk => hk.2) (.slice A170_2 ((rd_T46 x3_1 (ji21)).f2).length c170_2)) (fun _ hk => trivial)))⟩; have n2_ : Aside0 (Kd.R (Kd.int .u8) 5 w46 w.heap.size (fun k_ => some k_ ≠ (.slice (some ad170) x3_1.length co19 : Value).ownBlock ∧ k_ ≠ gb169) (.slice A170_2 ((rd_T46 x3_1 (ji21)).f2).length c170_2) ((rd_T46 x3_1 (ji21)).f2)) := ⟨(by rw [hw]; exact (by (with_reducible repeat (first | apply qs | apply qt | apply qu)); exact qH (qK (p := ⟨gb171, 2, none⟩) (qK (p := ⟨gb171, 1, none⟩) (qK (p := ⟨gb171, 0, none⟩) (qJ HL170_2.out BK171.out (by decide)) (fun _ hk => hk.2) (.string ((rd_T46 x3_1 (ji21)).f0))) (fun _ hk => hk.2) (.int .i64 ((rd_T46 x3_1 (ji21)).f1))) (fun _ hk => hk.2) (.slice A170_2 ((rd_T46 x3_1 (ji21)).f2).length c170_2)) (fun _ hk => ⟨hk.1.2, hk.1.1⟩)))⟩; have n3_ : Aside0 (w46.heap[gb169]? = some (.cells #[.string (rdOf ByteArray.empty y162 t165), .int .i64 0, .slice none 0 0] 46 (0, 0))) := ⟨(by rw [hw]; exact (by (with_reducible repeat (first | refine qv ?_ _ | refine qw ?_ | refine qx ?_ _)); refine blk_far ?_ NB169_171.out _; (with_reducible repeat (first | refine qv ?_ _ | refine qw ?_ | refine qx ?_ _)); refine blk_far ?_ NB169_171.out _; (with_reducible repeat (first | refine qv ?_ _ | refine qw ?_ | refine qx ?_ _)); refine blk_far ?_ NB169_171.out _; (with_reducible repeat (first | refine qv ?_ _ | refine qw ?_ | refine qx ?_ _)); exact BK169.out))⟩; have n4_ : Aside0 (w46.heap[gb171]? = some (.cells #[.string ((rd_T46 x3_1 (ji21)).f0), .int .i64 ((rd_T46 x3_1 (ji21)).f1), .slice A170_2 ((rd_T46 x3_1 (ji21)).f2).length c170_2] 46 (0, 0))) := ⟨(by rw [hw]; exact (by (with_reducible repeat (first | refine qv ?_ _ | refine qw ?_ | refine qx ?_ _)); refine blk_put (cs := #[.string ((rd_T46 x3_1 (ji21)).f0), .int .i64 ((rd_T46 x3_1 (ji21)).f1), .slice none 0 0]) ?_ 2 _ rfl; (with_reducible repeat (first | refine qv ?_ _ | refine qw ?_ | refine qx ?_ _)); refine blk_put (cs := #[.string ((rd_T46 x3_1 (ji21)).f0), .int .i64 0, .slice none 0 0]) ?_ 1 _ rfl; (with_reducible repeat (first | refine qv ?_ _ | refine qw ?_ | refine qx ?_ _)); refine blk_put (cs := #[.string (⟨#[]⟩ : ByteArray), .int .i64 0, .slice none 0 0]) ?_ 0 _ rfl; (with_reducible repeat (first | refine qv ?_ _ | refine qw ?_ | refine qx ?_ _)); exact BK171.out))⟩; have n5_ : Aside0 (IsS69 w0 w46 g s0_0 t166 t167) := ⟨(by rw [hw]; exact (by repeat (first | (with_reducible first | exact HI0.out | apply qa | apply qb | apply qc | apply qd | apply qe | refine qf ?_ NB0_169.out _ | refine qf ?_ NB0_171.out _) | exact HI0.out)))⟩; have n6_ : Aside0 (KeepBut w w46 g none) := ⟨(by rw [hw]; exact (by repeat (first | (with_reducible first | exact HK.out | apply qg | apply qh | apply qi | apply qj | refine qk ?_ GW169.out _ | refine qk ?_ GW171.out _) | exact HK.out)))⟩; have n7_ : Aside0 (Below w0.heap.size w0 w46) := ⟨(by rw [hw]; exact (by repeat (first | (with_reducible first | exact HB.out | apply qn | apply ql | apply qm | refine qo ?_ (qI HI0.out) | refine qo ?_ GE169.out | refine qo ?_ GE171.out) | exact HB.out)))⟩; clear hw HO_3 HO164 HL170_2 BK169 BK171 HI0 HK HB; have HO_3 := n0_; have HO164 := n1_; have HL170_2 := n2_; have BK169 := n3_; have BK171 := n4_; have HI0 := n5_; have HK := n6_; have HB := n7_; clear n0_ n1_ n2_ n3_ n4_ n5_ n6_ n7_; have hcz47_0 : w46.cell? ⟨gb171, 0, none⟩ = some (.string ((rd_T46 x3_1 (ji21)).f0)) := (blk_cell BK171.out 0).trans rfl; have hcz47_1 : w46.cell? ⟨gb171, 1, none⟩ = some (.int .i64 ((rd_T46 x3_1 (ji21)).f1)) := (blk_cell BK171.out 1).trans rfl; have hcz47_2 : w46.cell? ⟨gb171, 2, none⟩ = some (.slice A170_2 ((rd_T46 x3_1 (ji21)).f2).length c170_2) := (blk_cell BK171.out 2).trans rfl; have hfz47_0 := blk_frozen BK171.out 0; have hfz47_1 := blk_frozen BK171.out 1; have hfz47_2 := blk_frozen BK171.out 2) | ((with_reducible refine gate_callee (f := 56) rfl ?_); refine goesL_ (some 37) rfl rfl Try.func56 (by kernel_rfl) rfl #[.pointer (some ⟨g, 0, none⟩), .int .i64 (wrap64 (((rd_T46 x3_1 (ji21)).f1) + 1))] rfl (by (try simp only [List.map_toArray, List.map_cons, List.map_nil]); first | done | (simp only [hji21]; rfl) | rfl | (rw [← hji21]; rfl) | (simp only [List.length_drop, List.length_take]; rfl)) ?_; (with_reducible refine (spec_l1Below.calls g s0_0 t166 t167 (wrap64 (((rd_T46 x3_1 (ji21)).f1) + 1)) t172 t173 t174 w0 _ ?side1 ?side2 A24.out).mono ?_); (case side1 => repeat (first | (with_reducible first | exact HI0.out | apply qa | apply qb | apply qc | apply qd | apply qe | refine qf ?_ NB0_169.out _ | refine qf ?_ NB0_171.out _) | exact HI0.out)); (case side2 => repeat (first | (with_reducible first | exact HB.out | apply qn | apply ql | apply qm | refine qo ?_ (qI HI0.out) | refine qo ?_ GE169.out | refine qo ?_ GE171.out) | exact HB.out)); rintro e w48 ⟨rfl, hi, hb, hk⟩; refine ⟨_, rfl, ?_⟩; have n0_ := qy (qG (qE (qz (show IsS69 w0 _ g s0_0 t166 t167 from by repeat (first | (with_reducible first | exact HI0.out | apply qa | apply qb | apply qc | apply qd | apply qe | refine qf ?_ NB0_169.out _ | refine qf ?_ NB0_171.out _) | exact HI0.out)) (by (with_reducible repeat (first | apply qp | apply qq | apply qr)); exact HO_3.out) (by decide)) hk (fun _ h => h.2)) (fun _ h => h.1)); have n1_ := qy (qH (qF (qA (show IsS69 w0 _ g s0_0 t166 t167 from by repeat (first | (with_reducible first | exact HI0.out | apply qa | apply qb | apply qc | apply qd | apply qe | refine qf ?_ NB0_169.out _ | refine qf ?_ NB0_171.out _) | exact HI0.out)) (by (with_reducible repeat (first | apply qs | apply qt | apply qu)); exact HO164.out) (by decide)) hk (fun _ h => h.2)) (fun _ h => h.1)); have n2_ := qy (qC hk (g' := gb169) (o := .cells #[.string (rdOf ByteArray.empty y162 t165), .int .i64 0, .slice none 0 0] 46 (0, 0)) (by (with_reducible repeat (first | refine qv ?_ _ | refine qw ?_ | refine qx ?_ _)); exact BK169.out) NB169_0.out (by simp)); have n3_ := qy (qH (qF (qA (show IsS69 w0 _ g s0_0 t166 t167 from by repeat (first | (with_reducible first | exact HI0.out | apply qa | apply qb | apply qc | apply qd | apply qe | refine qf ?_ NB0_169.out _ | refine qf ?_ NB0_171.out _) | exact HI0.out)) (by (with_reducible repeat (first | apply qs | apply qt | apply qu)); exact HL170_2.out) (by decide)) hk (fun _ h => h.2)) (fun _ h => h.1)); have n4_ := qy (qC hk (g' := gb171) (o := .cells #[.string ((rd_T46 x3_1 (ji21)).f0), .int .i64 ((rd_T46 x3_1 (ji21)).f1), .slice A170_2 ((rd_T46 x3_1 (ji21)).f2).length c170_2] 46 (0, 0)) (by (with_reducible repeat (first | refine qv ?_ _ | refine qw ?_ | refine qx ?_ _)); exact BK171.out) NB171_0.out (by simp)); have n5_ := qy (qB (by repeat (first | (with_reducible first | exact HK.out | apply qg | apply qh | apply qi | apply qj | refine qk ?_ GW169.out _ | refine qk ?_ GW171.out _) | exact HK.out)) hk (.inl rfl)); have n6_ := qy (hb); have n7_ := qy (hi); clear HO_3 HO164 BK169 HL170_2 BK171 HK HB HI0; have HO_3 := n0_; have HO164 := n1_; have BK169 := n2_; have HL170_2 := n3_; have BK171 := n4_; have HK := n5_; have HB := n6_; have HI0 := n7_; clear n0_ n1_ n2_ n3_ n4_ n5_ n6_ n7_; (try clear hb hk hi); have hnb49 := NB169_0.out; have hnc49 := NB0_169.out; have hcz50_0 : w48.cell? ⟨gb169, 0, none⟩ = some (.string (rdOf ByteArray.empty y162 t165)) := (blk_cell BK169.out 0).trans rfl; have hcz50_1 : w48.cell? ⟨gb169, 1, none⟩ = some (.int .i64 0) := (blk_cell BK169.out 1).trans rfl; have hcz50_2 : w48.cell? ⟨gb169, 2, none⟩ = some (.slice none 0 0) := (blk_cell BK169.out 2).trans rfl; have hfz50_0 := blk_frozen BK169.out 0; have hfz50_1 := blk_frozen BK169.out 1; have hfz50_2 := blk_frozen BK169.out 2) | ((with_reducible refine gate_store (t := 2) (p := 38) rfl ?_); refine store_event (t := 2) (p := 38) (v := ?vo_w51) (w1 := (w48.setCell ⟨gb169, 1, none⟩ (.int .i64 t172))) ?hg ?ho ?hn ?hr ?_; (case ho => rfl); (case hg => rfl); (case hn => rfl); (case hr => first | (go_simp; done) | (go_simp; rfl)); intro w51 hw; have n0_ : Aside0 (Kd.S k46 46 w51 w.heap.size (fun k_ => k_ ≠ gb169 ∧ k_ ≠ gb171) (.slice (some ad170) x3_1.length co19) x3_1) := ⟨(by rw [hw]; exact (by (with_reducible repeat (first | apply qp | apply qq | apply qr)); exact qG (Kd.S_far (p := ⟨gb169, 1, none⟩) (qG HO_3.out (fun k_ hk => (⟨hk, hk.1⟩ : _ ∧ k_ ≠ gb169))) (fun _ hk => hk.2) (.int .i64 t172)) (fun _ hk => ⟨hk.1.1, hk.1.2⟩)))⟩; have n1_ : Aside0 (Kd.R Kd.string 9 w51 w.heap.size (fun _ => True) (.slice (some ad168) y162.length co14) y162) := ⟨(by rw [hw]; exact (by (with_reducible repeat (first | apply qs | apply qt | apply qu)); exact qH (qK (p := ⟨gb169, 1, none⟩) (qJ HO164.out BK169.out (by decide)) (fun _ hk => hk.2) (.int .i64 t172)) (fun _ hk => trivial)))⟩; have n2_ : Aside0 (Kd.R (Kd.int .u8) 5 w51 w.heap.size (fun k_ => some k_ ≠ (.slice (some ad170) x3_1.length co19 : Value).ownBlock ∧ k_ ≠ gb169) (.slice A170_2 ((rd_T46 x3_1 (ji21)).f2).length c170_2) ((rd_T46 x3_1 (ji21)).f2)) := ⟨(by rw [hw]; exact (by (with_reducible repeat (first | apply qs | apply qt | apply qu)); exact qH (qK (p := ⟨gb169, 1, none⟩) (qJ HL170_2.out BK169.out (by decide)) (fun _ hk => hk.2) (.int .i64 t172)) (fun _ hk => ⟨hk.1.1, hk.1.2⟩)))⟩; have n3_ : Aside0 (w51.heap[gb169]? = some (.cells #[.string (rdOf ByteArray.empty y162 t165), .int .i64 t172, .slice none 0 0] 46 (0, 0))) := ⟨(by rw [hw]; exact (by (with_reducible repeat (first | refine qv ?_ _ | refine qw ?_ | refine qx ?_ _)); refine blk_put (cs := #[.string (rdOf ByteArray.empty y162 t165), .int .i64 0, .slice none 0 0]) ?_ 1 _ rfl; (with_reducible repeat (first | refine qv ?_ _ | refine qw ?_ | refine qx ?_ _)); exact BK169.out))⟩; have n4_ : Aside0 (w51.heap[gb171]? = some (.cells #[.string ((rd_T46 x3_1 (ji21)).f0), .int .i64 ((rd_T46 x3_1 (ji21)).f1), .slice A170_2 ((rd_T46 x3_1 (ji21)).f2).length c170_2] 46 (0, 0))) := ⟨(by rw [hw]; exact (by (with_reducible repeat (first | refine qv ?_ _ | refine qw ?_ | refine qx ?_ _)); refine blk_far ?_ NB171_169.out _; (with_reducible repeat (first | refine qv ?_ _ | refine qw ?_ | refine qx ?_ _)); exact BK171.out))⟩; have n5_ : Aside0 (IsS69 w0 w51 g s0_0 t173 t174) := ⟨(by rw [hw]; exact (by repeat (first | (with_reducible first | exact HI0.out | apply qa | apply qb | apply qc | apply qd | apply qe | refine qf ?_ NB0_169.out _ | refine qf ?_ NB0_171.out _) | exact HI0.out)))⟩; have n6_ : Aside0 (KeepBut w w51 g none) := ⟨(by rw [hw]; exact (by repeat (first | (with_reducible first | exact HK.out | apply qg | apply qh | apply qi | apply qj | refine qk ?_ GW169.out _ | refine qk ?_ GW171.out _) | exact HK.out)))⟩; have n7_ : Aside0 (Below w0.heap.size w0 w51) := ⟨(by rw [hw]; exact (by repeat (first | (with_reducible first | exact HB.out | apply qn | apply ql | apply qm | refine qo ?_ (qI HI0.out) | refine qo ?_ GE169.out | refine qo ?_ GE171.out) | exact HB.out)))⟩; clear hw HO_3 HO164 HL170_2 BK169 BK171 HI0 HK HB; have HO_3 := n0_; have HO164 := n1_; have HL170_2 := n2_; have BK169 := n3_; have BK171 := n4_; have HI0 := n5_; have HK := n6_; have HB := n7_; clear n0_ n1_ n2_ n3_ n4_ n5_ n6_ n7_; have hcz52_0 : w51.cell? ⟨gb171, 0, none⟩ = some (.string ((rd_T46 x3_1 (ji21)).f0)) := (blk_cell BK171.out 0).trans rfl; have hcz52_1 : w51.cell? ⟨gb171, 1, none⟩ = some (.int .i64 ((rd_T46 x3_1 (ji21)).f1)) := (blk_cell BK171.out 1).trans rfl; have hcz52_2 : w51.cell? ⟨gb171, 2, none⟩ = some (.slice A170_2 ((rd_T46 x3_1 (ji21)).f2).length c170_2) := (blk_cell BK171.out 2).trans rfl; have hfz52_0 := blk_frozen BK171.out 0; have hfz52_1 := blk_frozen BK171.out 1; have hfz52_2 := blk_frozen BK171.out 2) | ((with_reducible refine gate_callee (f := 35) rfl ?_); refine goesL_ (some 41) rfl rfl Try.func35 (by kernel_rfl) rfl #[.string ((rd_T46 x3_1 (ji21)).f0)] rfl (by (try simp only [List.map_toArray, List.map_cons, List.map_nil]); first | done | (simp only [hji21]; rfl) | rfl | (rw [← hji21]; rfl) | (simp only [List.length_drop, List.length_take]; rfl)) ?_; (with_reducible refine (spec_l2Holds.calls ((rd_T46 x3_1 (ji21)).f0) true _ A25.out).mono ?_); rintro e w' ⟨rfl, ⟨nd, rfl⟩⟩; refine ⟨_, rfl, ?_⟩; (try (rw [drewN_self w51]; generalize hq_ : World.drewN w51 _ = w51; have n0_ : Aside0 (Kd.R (Kd.int .u8) 5 w51 w.heap.size (fun k_ => some k_ ≠ (.slice (some ad170) x3_1.length co19 : Value).ownBlock ∧ k_ ≠ gb169) (.slice A170_2 ((rd_T46 x3_1 (ji21)).f2).length c170_2) ((rd_T46 x3_1 (ji21)).f2)) := ⟨by rw [← hq_]; exact (by (with_reducible repeat (first | apply qs | apply qt | apply qu)); exact HL170_2.out)⟩; have n1_ : Aside0 (Kd.R Kd.string 9 w51 w.heap.size (fun _ => True) (.slice (some ad168) y162.length co14) y162) := ⟨by rw [← hq_]; exact (by (with_reducible repeat (first | apply qs | apply qt | apply qu)); exact HO164.out)⟩; have n2_ : Aside0 (Kd.S k46 46 w51 w.heap.size (fun k_ => k_ ≠ gb169 ∧ k_ ≠ gb171) (.slice (some ad170) x3_1.length co19) x3_1) := ⟨by rw [← hq_]; exact (by (with_reducible repeat (first | apply qp | apply qq | apply qr)); exact HO_3.out)⟩; have n3_ : Aside0 (w51.heap[gb169]? = some (.cells #[.string (rdOf ByteArray.empty y162 t165), .int .i64 t172, .slice none 0 0] 46 (0, 0))) := ⟨by rw [← hq_]; exact (by (with_reducible repeat (first | refine qv ?_ _ | refine qw ?_ | refine qx ?_ _)); exact BK169.out)⟩; have n4_ : Aside0 (w51.heap[gb171]? = some (.cells #[.string ((rd_T46 x3_1 (ji21)).f0), .int .i64 ((rd_T46 x3_1 (ji21)).f1), .slice A170_2 ((rd_T46 x3_1 (ji21)).f2).length c170_2] 46 (0, 0))) := ⟨by rw [← hq_]; exact (by (with_reducible repeat (first | refine qv ?_ _ | refine qw ?_ | refine qx ?_ _)); exact BK171.out)⟩; have n5_ : Aside0 (IsS69 w0 w51 g s0_0 t173 t174) := ⟨by rw [← hq_]; exact (by repeat (first | (with_reducible first | exact HI0.out | apply qa | apply qb | apply qc | apply qd | apply qe | refine qf ?_ NB0_169.out _ | refine qf ?_ NB0_171.out _) | exact HI0.out))⟩; have n6_ : Aside0 (KeepBut w w51 g none) := ⟨by rw [← hq_]; exact (by repeat (first | (with_reducible first | exact HK.out | apply qg | apply qh | apply qi | apply qj | refine qk ?_ GW169.out _ | refine qk ?_ GW171.out _) | exact HK.out))⟩; have n7_ : Aside0 (Below w0.heap.size w0 w51) := ⟨by rw [← hq_]; exact (by repeat (first | (with_reducible first | exact HB.out | apply qn | apply ql | apply qm | refine qo ?_ (qI HI0.out) | refine qo ?_ GE169.out | refine qo ?_ GE171.out) | exact HB.out))⟩; clear HL170_2 HO164 HO_3 BK169 BK171 HI0 HK HB hq_; have HL170_2 := n0_; have HO164 := n1_; have HO_3 := n2_; have BK169 := n3_; have BK171 := n4_; have HI0 := n5_; have HK := n6_; have HB := n7_; clear n0_ n1_ n2_ n3_ n4_ n5_ n6_ n7_; have hcy1_ : w51.cell? ⟨gb169, 0, none⟩ = some (.string (rdOf ByteArray.empty y162 t165)) := (blk_cell BK169.out 0).trans rfl; have hcy2_ : w51.cell? ⟨gb169, 1, none⟩ = some (.int .i64 t172) := (blk_cell BK169.out 1).trans rfl; have hcy3_ : w51.cell? ⟨gb169, 2, none⟩ = some (.slice none 0 0) := (blk_cell BK169.out 2).trans rfl; have hcy4_ : w51.cell? ⟨gb171, 0, none⟩ = some (.string ((rd_T46 x3_1 (ji21)).f0)) := (blk_cell BK171.out 0).trans rfl; have hcy5_ : w51.cell? ⟨gb171, 1, none⟩ = some (.int .i64 ((rd_T46 x3_1 (ji21)).f1)) := (blk_cell BK171.out 1).trans rfl; have hcy6_ : w51.cell? ⟨gb171, 2, none⟩ = some (.slice A170_2 ((rd_T46 x3_1 (ji21)).f2).length c170_2) := (blk_cell BK171.out 2).trans rfl))) | (go_at_call 58; (with_reducible refine (spec_l1Once.calls g s0_0 t173 t174 3 false t177 t178 w0 _ ?side1 ?side2 A28.out).mono ?_); (case side1 => repeat (first | (with_reducible first | exact HI0.out | apply qa | apply qb | apply qc | apply qd | apply qe | refine qf ?_ NB0_169.out _ | refine qf ?_ NB0_171.out _) | exact HI0.out)); (case side2 => repeat (first | (with_reducible first | exact HB.out | apply qn | apply ql | apply qm | refine qo ?_ (qI HI0.out) | refine qo ?_ GE169.out | refine qo ?_ GE171.out) | exact HB.out)); rintro e w53 ⟨rfl, hi, hb, hk⟩; have n0_ := qy (qG (qE (qz (show IsS69 w0 _ g s0_0 t173 t174 from by repeat (first | (with_reducible first | exact HI0.out | apply qa | apply qb | apply qc | apply qd | apply qe | refine qf ?_ NB0_169.out _ | refine qf ?_ NB0_171.out _) | exact HI0.out)) (by (with_reducible repeat (first | apply qp | apply qq | apply qr)); exact HO_3.out) (by decide)) hk (fun _ h => h.2)) (fun _ h => h.1)); have n1_ := qy (qH (qF (qA (show IsS69 w0 _ g s0_0 t173 t174 from by repeat (first | (with_reducible first | exact HI0.out | apply qa | apply qb | apply qc | apply qd | apply qe | refine qf ?_ NB0_169.out _ | refine qf ?_ NB0_171.out _) | exact HI0.out)) (by (with_reducible repeat (first | apply qs | apply qt | apply qu)); exact HO164.out) (by decide)) hk (fun _ h => h.2)) (fun _ h => h.1)); have n2_ := qy (qC hk (g' := gb169) (o := .cells #[.string (rdOf ByteArray.empty y162 t165), .int .i64 t172, .slice none 0 0] 46 (0, 0)) (by (with_reducible repeat (first | refine qv ?_ _ | refine qw ?_ | refine qx ?_ _)); exact BK169.out) NB169_0.out (by simp)); have n3_ := qy (qH (qF (qA (show IsS69 w0 _ g s0_0 t173 t174 from by repeat (first | (with_reducible first | exact HI0.out | apply qa | apply qb | apply qc | apply qd | apply qe | refine qf ?_ NB0_169.out _ | refine qf ?_ NB0_171.out _) | exact HI0.out)) (by (with_reducible repeat (first | apply qs | apply qt | apply qu)); exact HL170_2.out) (by decide)) hk (fun _ h => h.2)) (fun _ h => h.1)); have n4_ := qy (qC hk (g' := gb171) (o := .cells #[.string ((rd_T46 x3_1 (ji21)).f0), .int .i64 ((rd_T46 x3_1 (ji21)).f1), .slice A170_2 ((rd_T46 x3_1 (ji21)).f2).length c170_2] 46 (0, 0)) (by (with_reducible repeat (first | refine qv ?_ _ | refine qw ?_ | refine qx ?_ _)); exact BK171.out) NB171_0.out (by simp)); have n5_ := qy (qB (by repeat (first | (with_reducible first | exact HK.out | apply qg | apply qh | apply qi | apply qj | refine qk ?_ GW169.out _ | refine qk ?_ GW171.out _) | exact HK.out)) hk (.inl rfl)); have n6_ := qy (hb); have n7_ := qy (hi); clear HO_3 HO164 BK169 HL170_2 BK171 HK HB HI0; have HO_3 := n0_; have HO164 := n1_; have BK169 := n2_; have HL170_2 := n3_; have BK171 := n4_; have HK := n5_; have HB := n6_; have HI0 := n7_; clear n0_ n1_ n2_ n3_ n4_ n5_ n6_ n7_; (try clear hb hk hi); have hcz54_0 : w53.cell? ⟨gb171, 0, none⟩ = some (.string ((rd_T46 x3_1 (ji21)).f0)) := (blk_cell BK171.out 0).trans rfl; have hcz54_1 : w53.cell? ⟨gb171, 1, none⟩ = some (.int .i64 ((rd_T46 x3_1 (ji21)).f1)) := (blk_cell BK171.out 1).trans rfl; have hcz54_2 : w53.cell? ⟨gb171, 2, none⟩ = some (.slice A170_2 ((rd_T46 x3_1 (ji21)).f2).length c170_2) := (blk_cell BK171.out 2).trans rfl; have hfz54_0 := blk_frozen BK171.out 0; have hfz54_1 := blk_frozen BK171.out 1; have hfz54_2 := blk_frozen BK171.out 2; have hcz55_0 : w53.cell? ⟨gb169, 0, none⟩ = some (.string (rdOf ByteArray.empty y162 t165)) := (blk_cell BK169.out 0).trans rfl; have hcz55_1 : w53.cell? ⟨gb169, 1, none⟩ = some (.int .i64 t172) := (blk_cell BK169.out 1).trans rfl; have hcz55_2 : w53.cell? ⟨gb169, 2, none⟩ = some (.slice none 0 0) := (blk_cell BK169.out 2).trans rfl; have hfz55_0 := blk_frozen BK169.out 0; have hfz55_1 := blk_frozen BK169.out 1; have hfz55_2 := blk_frozen BK169.out 2) | ((with_reducible refine gate_store (t := 2) (p := 55) rfl ?_); refine store_event (t := 2) (p := 55) (v := ?vo_w56) (w1 := (w53.setCell ⟨gb169, 1, none⟩ (.int .i64 (wrap64 (((rd_T46 x3_1 (ji21)).f1) + 1))))) ?hg ?ho ?hn ?hr ?_; (case ho => rfl); (case hg => rfl); (case hn => rfl); (case hr => first | (go_simp; done) | (go_simp; rfl)); intro w56 hw; have n0_ : Aside0 (Kd.S k46 46 w56 w.heap.size (fun k_ => k_ ≠ gb169 ∧ k_ ≠ gb171) (.slice (some ad170) x3_1.length co19) x3_1) := ⟨(by rw [hw]; exact (by (with_reducible repeat (first | apply qp | apply qq | apply qr)); exact qG (Kd.S_far (p := ⟨gb169, 1, none⟩) (qG HO_3.out (fun k_ hk => (⟨hk, hk.1⟩ : _ ∧ k_ ≠ gb169))) (fun _ hk => hk.2) (.int .i64 (wrap64 (((rd_T46 x3_1 (ji21)).f1) + 1)))) (fun _ hk => ⟨hk.1.1, hk.1.2⟩)))⟩; have n1_ : Aside0 (Kd.R Kd.string 9 w56 w.heap.size (fun _ => True) (.slice (some ad168) y162.length co14) y162) := ⟨(by rw [hw]; exact (by (with_reducible repeat (first | apply qs | apply qt | apply qu)); exact qH (qK (p := ⟨gb169, 1, none⟩) (qJ HO164.out BK169.out (by decide)) (fun _ hk => hk.2) (.int .i64 (wrap64 (((rd_T46 x3_1 (ji21)).f1) + 1)))) (fun _ hk => trivial)))⟩; have n2_ : Aside0 (Kd.R (Kd.int .u8) 5 w56 w.heap.size (fun k_ => some k_ ≠ (.slice (some ad170) x3_1.length co19 : Value).ownBlock ∧ k_ ≠ gb169) (.slice A170_2 ((rd_T46 x3_1 (ji21)).f2).length c170_2) ((rd_T46 x3_1 (ji21)).f2)) := ⟨(by rw [hw]; exact (by (with_reducible repeat (first | apply qs | apply qt | apply qu)); exact qH (qK (p := ⟨gb169, 1, none⟩) (qJ HL170_2.out BK169.out (by decide)) (fun _ hk => hk.2) (.int .i64 (wrap64 (((rd_T46 x3_1 (ji21)).f1) + 1)))) (fun _ hk => ⟨hk.1.1, hk.1.2⟩)))⟩; have n3_ : Aside0 (w56.heap[gb169]? = some (.cells #[.string (rdOf ByteArray.empty y162 t165), .int .i64 (wrap64 (((rd_T46 x3_1 (ji21)).f1) + 1)), .slice none 0 0] 46 (0, 0))) := ⟨(by rw [hw]; exact (by (with_reducible repeat (first | refine qv ?_ _ | refine qw ?_ | refine qx ?_ _)); refine blk_put (cs := #[.string (rdOf ByteArray.empty y162 t165), .int .i64 t172, .slice none 0 0]) ?_ 1 _ rfl; (with_reducible repeat (first | refine qv ?_ _ | refine qw ?_ | refine qx ?_ _)); exact BK169.out))⟩; have n4_ : Aside0 (w56.heap[gb171]? = some (.cells #[.string ((rd_T46 x3_1 (ji21)).f0), .int .i64 ((rd_T46 x3_1 (ji21)).f1), .slice A170_2 ((rd_T46 x3_1 (ji21)).f2).length c170_2] 46 (0, 0))) := ⟨(by rw [hw]; exact (by (with_reducible repeat (first | refine qv ?_ _ | refine qw ?_ | refine qx ?_ _)); refine blk_far ?_ NB171_169.out _; (with_reducible repeat (first | refine qv ?_ _ | refine qw ?_ | refine qx ?_ _)); exact BK171.out))⟩; have n5_ : Aside0 (IsS69 w0 w56 g s0_0 t177 t178) := ⟨(by rw [hw]; exact (by repeat (first | (with_reducible first | exact HI0.out | apply qa | apply qb | apply qc | apply qd | apply qe | refine qf ?_ NB0_169.out _ | refine qf ?_ NB0_171.out _) | exact HI0.out)))⟩; have n6_ : Aside0 (KeepBut w w56 g none) := ⟨(by rw [hw]; exact (by repeat (first | (with_reducible first | exact HK.out | apply qg | apply qh | apply qi | apply qj | refine qk ?_ GW169.out _ | refine qk ?_ GW171.out _) | exact HK.out)))⟩; have n7_ : Aside0 (Below w0.heap.size w0 w56) := ⟨(by rw [hw]; exact (by repeat (first | (with_reducible first | exact HB.out | apply qn | apply ql | apply qm | refine qo ?_ (qI HI0.out) | refine qo ?_ GE169.out | refine qo ?_ GE171.out) | exact HB.out)))⟩; clear hw HO_3 HO164 HL170_2 BK169 BK171 HI0 HK HB; have HO_3 := n0_; have HO164 := n1_; have HL170_2 := n2_; have BK169 := n3_; have BK171 := n4_; have HI0 := n5_; have HK := n6_; have HB := n7_; clear n0_ n1_ n2_ n3_ n4_ n5_ n6_ n7_))
         go_meet
         case rel => exact ⟨_, (t177), (t178), (wrap64 (((rd_T46 x3_1 (ji21)).f1) + 1)), H', ⟨by have := HK1.out; first | omega | exact Nat.le_refl _⟩, ⟨by (with_reducible repeat (first | apply qp | apply qq | apply qr)); exact qG HO_3.out (fun _ hk => hk.1)⟩, ⟨by (with_reducible repeat (first | refine qv ?_ _ | refine qw ?_ | refine qx ?_ _)); exact BK169.out⟩, ⟨by repeat (first | (with_reducible first | exact HI0.out | apply qa | apply qb | apply qc | apply qd | apply qe | refine qf ?_ NB0_169.out _ | refine qf ?_ NB0_171.out _) | exact HI0.out)⟩, ⟨by repeat (first | (with_reducible first | exact HK.out | apply qg | apply qh | apply qi | apply qj | refine qk ?_ GW169.out _ | refine qk ?_ GW171.out _) | exact HK.out)⟩, ⟨by repeat (first | (with_reducible first | exact HB.out | apply qn | apply ql | apply qm | refine qo ?_ (qI HI0.out) | refine qo ?_ GE169.out | refine qo ?_ GE171.out) | exact HB.out)⟩⟩
       ·rw [if_neg c27] at H
        have c27b0 : decide (((rd_T46 x3_1 (ji21)).f1) < 8) = false := decide_eq_false c27
        clear c27
        have H' := qy H
        clear H
        have p170 : 0 ≤ ((ji21) : Int) := of_decide_eq_true (by assumption)
        have q170 : (ji21) < (x3_1.length : Int) := of_decide_eq_true (by assumption)
        obtain ⟨ad170, A170_2, c170_2, e170, hx170_0, hx170_1, hx170_2, hl170_2, hi170_2⟩ := at_T46 (Kd.S_reads' HO_3.out).2.2 (ji21) p170 q170
        cases e170
        obtain ⟨ce170, hce170, hMe170, hcc170⟩ := Kd.S_get HO_3.out z46 (ji21) p170 (by first | exact q170 | exact of_decide_eq_true (by assumption) | (have e_ := (Kd.S_reads' HO_3.out).1; omega))
        obtain ⟨ve170_2, rfl, ge170_2⟩ := k46_openM hMe170
        have hv170_2 := hcc170 2 _ rfl
        rw [add_field _ _ 2 (by omega)] at hv170_2
        replace hv170_2 := Option.some.inj (hv170_2.symm.trans hx170_2)
        rw [hv170_2] at ge170_2
        have HL170_2 := qy (show Kd.R (Kd.int .u8) 5 _ _ _ _ ((rd_T46 x3_1 (ji21)).f2) from ge170_2)
        clear hv170_2 ge170_2
        have HX170_2 := qy hx170_2
        clear hcc170 hce170
        have HR170_2 := qy hi170_2
        have HC170_2 := qy hl170_2
        clear hi170_2 hl170_2
        replace p170 := eq_true p170
        replace q170 := eq_true q170
        go_wp2_with (first | ((with_reducible refine gate_dst (N := 6) rfl ?_); (try (refine gate_guard (by rfl) ?_; dsimp only)); refine box_event ?hg (N := 6) ?hd (cs := #[.string (⟨#[]⟩ : ByteArray), .int .i64 0, .slice none 0 0]) (t := 46) ?hr ?_; (case hd => rfl); (case hg => rfl); (case hr => first | (go_simp; done) | (go_simp; rfl)); intro gb171 hg w57 hbox hb; have n0_ := qy (Kd.S_below (Kd.S_elderB (by (with_reducible repeat (first | apply qp | apply qq | apply qr)); exact HO_3.out) gb171 (Nat.le_of_eq hg.symm)) hb); have n1_ := qy (Kd.R_below (by (with_reducible repeat (first | apply qs | apply qt | apply qu)); exact HO164.out) hb); have n2_ := qy (Kd.R_below (by (with_reducible repeat (first | apply qs | apply qt | apply qu)); exact HL170_2.out) hb); have n3_ := qy (IsS69.below (by repeat (first | (with_reducible first | exact HI0.out | apply qa | apply qb | apply qc | apply qd | apply qe | refine qf ?_ NB0_169.out _) | exact HI0.out)) hb); have n4_ := qy (blk_below (g := gb169) (o := .cells #[.string (rdOf ByteArray.empty y162 t165), .int .i64 0, .slice none 0 0] 46 (0, 0)) (by (with_reducible repeat (first | refine qv ?_ _ | refine qw ?_ | refine qx ?_ _)); exact BK169.out) hb); have n5_ := qy (Kd.C_below (by repeat (first | (with_reducible exact HR170_2.out) | (with_reducible refine Kd.C_alloc ?_ _) | (with_reducible refine Kd.C_drewN ?_ _) | (with_reducible refine Kd.C_drew ?_) | exact HR170_2.out)) hb); have n6_ := qy (pw_cell_below hb HX170_2.out); have n7_ := qy (qB (by repeat (first | (with_reducible first | exact HK.out | apply qg | apply qh | apply qi | apply qj | refine qk ?_ GW169.out _) | exact HK.out)) (KeepBut.of_below hb g none) (.inl rfl)); have n8_ := qy (below_step (by repeat (first | (with_reducible first | exact HB.out | apply qn | apply ql | apply qm | refine qo ?_ (qI HI0.out) | refine qo ?_ GE169.out) | exact HB.out)) hb); have n9_ := qy (hbox); have n10_ := qy ((by rw [hg]; exact (keep_size (w := w) (g := g) (row := none) (by repeat (first | (with_reducible first | exact HK.out | apply qg | apply qh | apply qi | apply qj | refine qk ?_ GW169.out _) | exact HK.out))) : w.heap.size ≤ gb171)); have n11_ := qy ((Nat.le_trans HW0.out (by rw [hg]; exact (keep_size (w := w) (g := g) (row := none) (by repeat (first | (with_reducible first | exact HK.out | apply qg | apply qh | apply qi | apply qj | refine qk ?_ GW169.out _) | exact HK.out))) : w.heap.size ≤ gb171) : w0.heap.size ≤ gb171)); have n12_ := qy ((by rw [hg]; exact Nat.ne_of_lt (blk_lt (g := gb169) (o := .cells #[.string (rdOf ByteArray.empty y162 t165), .int .i64 0, .slice none 0 0] 46 (0, 0)) (by (with_reducible repeat (first | refine qv ?_ _ | refine qw ?_ | refine qx ?_ _)); exact BK169.out)) : gb169 ≠ gb171)); have n13_ := qy ((by rw [hg]; exact Nat.ne_of_gt (blk_lt (g := gb169) (o := .cells #[.string (rdOf ByteArray.empty y162 t165), .int .i64 0, .slice none 0 0] 46 (0, 0)) (by (with_reducible repeat (first | refine qv ?_ _ | refine qw ?_ | refine qx ?_ _)); exact BK169.out)) : gb171 ≠ gb169)); have n14_ := qy ((by rw [hg]; exact Nat.ne_of_lt (IsS69.lt (show IsS69 w0 _ g s0_0 t166 t167 from by repeat (first | (with_reducible first | exact HI0.out | apply qa | apply qb | apply qc | apply qd | apply qe | refine qf ?_ NB0_169.out _) | exact HI0.out))) : g ≠ gb171)); have n15_ := qy ((by rw [hg]; exact Nat.ne_of_gt (IsS69.lt (show IsS69 w0 _ g s0_0 t166 t167 from by repeat (first | (with_reducible first | exact HI0.out | apply qa | apply qb | apply qc | apply qd | apply qe | refine qf ?_ NB0_169.out _) | exact HI0.out))) : gb171 ≠ g)); clear HO_3 HO164 HL170_2 HI0 BK169 HR170_2 HX170_2 HK HB; have HO_3 := n0_; have HO164 := n1_; have HL170_2 := n2_; have HI0 := n3_; have BK169 := n4_; have HR170_2 := n5_; have HX170_2 := n6_; have HK := n7_; have HB := n8_; have BK171 := n9_; have GW171 := n10_; have GE171 := n11_; have NB169_171 := n12_; have NB171_169 := n13_; have NB0_171 := n14_; have NB171_0 := n15_; clear n0_ n1_ n2_ n3_ n4_ n5_ n6_ n7_ n8_ n9_ n10_ n11_ n12_ n13_ n14_ n15_ hb hbox hg; have hnb58 := NB171_169.out; have hnc58 := NB169_171.out; have hnb59 := NB171_0.out; have hnc59 := NB0_171.out; have hcz60_0 : w57.cell? ⟨gb171, 0, none⟩ = some (.string (⟨#[]⟩ : ByteArray)) := (blk_cell BK171.out 0).trans rfl; have hcz60_1 : w57.cell? ⟨gb171, 1, none⟩ = some (.int .i64 0) := (blk_cell BK171.out 1).trans rfl; have hcz60_2 : w57.cell? ⟨gb171, 2, none⟩ = some (.slice none 0 0) := (blk_cell BK171.out 2).trans rfl; have hfz60_0 := blk_frozen BK171.out 0; have hfz60_1 := blk_frozen BK171.out 1; have hfz60_2 := blk_frozen BK171.out 2) | ((with_reducible refine gate_store (t := 46) (p := 6) rfl ?_); refine store_event (t := 46) (p := 6) (v := ?vo_w61) (w1 := (((w57.setCell ⟨gb171, 0, none⟩ (.string ((rd_T46 x3_1 (ji21)).f0))).setCell ⟨gb171, 1, none⟩ (.int .i64 ((rd_T46 x3_1 (ji21)).f1))).setCell ⟨gb171, 2, none⟩ (.slice A170_2 ((rd_T46 x3_1 (ji21)).f2).length c170_2))) ?hg ?ho ?hn ?hr ?_; (case ho => rfl); (case hg => rfl); (case hn => rfl); (case hr => first | (go_simp; done) | (go_simp; rfl)); intro w61 hw; have n0_ : Aside0 (Kd.S k46 46 w61 w.heap.size (fun k_ => k_ ≠ gb169 ∧ k_ ≠ gb171) (.slice (some ad170) x3_1.length co19) x3_1) := ⟨(by rw [hw]; exact (by (with_reducible repeat (first | apply qp | apply qq | apply qr)); exact qG (Kd.S_far (p := ⟨gb171, 2, none⟩) (Kd.S_far (p := ⟨gb171, 1, none⟩) (Kd.S_far (p := ⟨gb171, 0, none⟩) (qG HO_3.out (fun k_ hk => (⟨hk, hk.2⟩ : _ ∧ k_ ≠ gb171))) (fun _ hk => hk.2) (.string ((rd_T46 x3_1 (ji21)).f0))) (fun _ hk => hk.2) (.int .i64 ((rd_T46 x3_1 (ji21)).f1))) (fun _ hk => hk.2) (.slice A170_2 ((rd_T46 x3_1 (ji21)).f2).length c170_2)) (fun _ hk => ⟨hk.1.1, hk.1.2⟩)))⟩; have n1_ : Aside0 (Kd.R Kd.string 9 w61 w.heap.size (fun _ => True) (.slice (some ad168) y162.length co14) y162) := ⟨(by rw [hw]; exact (by (with_reducible repeat (first | apply qs | apply qt | apply qu)); exact qH (qK (p := ⟨gb171, 2, none⟩) (qK (p := ⟨gb171, 1, none⟩) (qK (p := ⟨gb171, 0, none⟩) (qJ HO164.out BK171.out (by decide)) (fun _ hk => hk.2) (.string ((rd_T46 x3_1 (ji21)).f0))) (fun _ hk => hk.2) (.int .i64 ((rd_T46 x3_1 (ji21)).f1))) (fun _ hk => hk.2) (.slice A170_2 ((rd_T46 x3_1 (ji21)).f2).length c170_2)) (fun _ hk => trivial)))⟩; have n2_ : Aside0 (Kd.R (Kd.int .u8) 5 w61 w.heap.size (fun k_ => some k_ ≠ (.slice (some ad170) x3_1.length co19 : Value).ownBlock ∧ k_ ≠ gb169) (.slice A170_2 ((rd_T46 x3_1 (ji21)).f2).length c170_2) ((rd_T46 x3_1 (ji21)).f2)) := ⟨(by rw [hw]; exact (by (with_reducible repeat (first | apply qs | apply qt | apply qu)); exact qH (qK (p := ⟨gb171, 2, none⟩) (qK (p := ⟨gb171, 1, none⟩) (qK (p := ⟨gb171, 0, none⟩) (qJ HL170_2.out BK171.out (by decide)) (fun _ hk => hk.2) (.string ((rd_T46 x3_1 (ji21)).f0))) (fun _ hk => hk.2) (.int .i64 ((rd_T46 x3_1 (ji21)).f1))) (fun _ hk => hk.2) (.slice A170_2 ((rd_T46 x3_1 (ji21)).f2).length c170_2)) (fun _ hk => ⟨hk.1.2, hk.1.1⟩)))⟩; have n3_ : Aside0 (w61.heap[gb169]? = some (.cells #[.string (rdOf ByteArray.empty y162 t165), .int .i64 0, .slice none 0 0] 46 (0, 0))) := ⟨(by rw [hw]; exact (by (with_reducible repeat (first | refine qv ?_ _ | refine qw ?_ | refine qx ?_ _)); refine blk_far ?_ NB169_171.out _; (with_reducible repeat (first | refine qv ?_ _ | refine qw ?_ | refine qx ?_ _)); refine blk_far ?_ NB169_171.out _; (with_reducible repeat (first | refine qv ?_ _ | refine qw ?_ | refine qx ?_ _)); refine blk_far ?_ NB169_171.out _; (with_reducible repeat (first | refine qv ?_ _ | refine qw ?_ | refine qx ?_ _)); exact BK169.out))⟩; have n4_ : Aside0 (w61.heap[gb171]? = some (.cells #[.string ((rd_T46 x3_1 (ji21)).f0), .int .i64 ((rd_T46 x3_1 (ji21)).f1), .slice A170_2 ((rd_T46 x3_1 (ji21)).f2).length c170_2] 46 (0, 0))) := ⟨(by rw [hw]; exact (by (with_reducible repeat (first | refine qv ?_ _ | refine qw ?_ | refine qx ?_ _)); refine blk_put (cs := #[.string ((rd_T46 x3_1 (ji21)).f0), .int .i64 ((rd_T46 x3_1 (ji21)).f1), .slice none 0 0]) ?_ 2 _ rfl; (with_reducible repeat (first | refine qv ?_ _ | refine qw ?_ | refine qx ?_ _)); refine blk_put (cs := #[.string ((rd_T46 x3_1 (ji21)).f0), .int .i64 0, .slice none 0 0]) ?_ 1 _ rfl; (with_reducible repeat (first | refine qv ?_ _ | refine qw ?_ | refine qx ?_ _)); refine blk_put (cs := #[.string (⟨#[]⟩ : ByteArray), .int .i64 0, .slice none 0 0]) ?_ 0 _ rfl; (with_reducible repeat (first | refine qv ?_ _ | refine qw ?_ | refine qx ?_ _)); exact BK171.out))⟩; have n5_ : Aside0 (IsS69 w0 w61 g s0_0 t166 t167) := ⟨(by rw [hw]; exact (by repeat (first | (with_reducible first | exact HI0.out | apply qa | apply qb | apply qc | apply qd | apply qe | refine qf ?_ NB0_169.out _ | refine qf ?_ NB0_171.out _) | exact HI0.out)))⟩; have n6_ : Aside0 (KeepBut w w61 g none) := ⟨(by rw [hw]; exact (by repeat (first | (with_reducible first | exact HK.out | apply qg | apply qh | apply qi | apply qj | refine qk ?_ GW169.out _ | refine qk ?_ GW171.out _) | exact HK.out)))⟩; have n7_ : Aside0 (Below w0.heap.size w0 w61) := ⟨(by rw [hw]; exact (by repeat (first | (with_reducible first | exact HB.out | apply qn | apply ql | apply qm | refine qo ?_ (qI HI0.out) | refine qo ?_ GE169.out | refine qo ?_ GE171.out) | exact HB.out)))⟩; clear hw HO_3 HO164 HL170_2 BK169 BK171 HI0 HK HB; have HO_3 := n0_; have HO164 := n1_; have HL170_2 := n2_; have BK169 := n3_; have BK171 := n4_; have HI0 := n5_; have HK := n6_; have HB := n7_; clear n0_ n1_ n2_ n3_ n4_ n5_ n6_ n7_; have hcz62_0 : w61.cell? ⟨gb171, 0, none⟩ = some (.string ((rd_T46 x3_1 (ji21)).f0)) := (blk_cell BK171.out 0).trans rfl; have hcz62_1 : w61.cell? ⟨gb171, 1, none⟩ = some (.int .i64 ((rd_T46 x3_1 (ji21)).f1)) := (blk_cell BK171.out 1).trans rfl; have hcz62_2 : w61.cell? ⟨gb171, 2, none⟩ = some (.slice A170_2 ((rd_T46 x3_1 (ji21)).f2).length c170_2) := (blk_cell BK171.out 2).trans rfl; have hfz62_0 := blk_frozen BK171.out 0; have hfz62_1 := blk_frozen BK171.out 1; have hfz62_2 := blk_frozen BK171.out 2) | ((with_reducible refine gate_callee (f := 56) rfl ?_); refine goesL_ (some 37) rfl rfl Try.func56 (by kernel_rfl) rfl #[.pointer (some ⟨g, 0, none⟩), .int .i64 (wrap64 (((rd_T46 x3_1 (ji21)).f1) + 1))] rfl (by (try simp only [List.map_toArray, List.map_cons, List.map_nil]); first | done | (simp only [hji21]; rfl) | rfl | (rw [← hji21]; rfl) | (simp only [List.length_drop, List.length_take]; rfl)) ?_; (with_reducible refine (spec_l1Below.calls g s0_0 t166 t167 (wrap64 (((rd_T46 x3_1 (ji21)).f1) + 1)) t172 t173 t174 w0 _ ?side1 ?side2 A24.out).mono ?_); (case side1 => repeat (first | (with_reducible first | exact HI0.out | apply qa | apply qb | apply qc | apply qd | apply qe | refine qf ?_ NB0_169.out _ | refine qf ?_ NB0_171.out _) | exact HI0.out)); (case side2 => repeat (first | (with_reducible first | exact HB.out | apply qn | apply ql | apply qm | refine qo ?_ (qI HI0.out) | refine qo ?_ GE169.out | refine qo ?_ GE171.out) | exact HB.out)); rintro e w63 ⟨rfl, hi, hb, hk⟩; refine ⟨_, rfl, ?_⟩; have n0_ := qy (qG (qE (qz (show IsS69 w0 _ g s0_0 t166 t167 from by repeat (first | (with_reducible first | exact HI0.out | apply qa | apply qb | apply qc | apply qd | apply qe | refine qf ?_ NB0_169.out _ | refine qf ?_ NB0_171.out _) | exact HI0.out)) (by (with_reducible repeat (first | apply qp | apply qq | apply qr)); exact HO_3.out) (by decide)) hk (fun _ h => h.2)) (fun _ h => h.1)); have n1_ := qy (qH (qF (qA (show IsS69 w0 _ g s0_0 t166 t167 from by repeat (first | (with_reducible first | exact HI0.out | apply qa | apply qb | apply qc | apply qd | apply qe | refine qf ?_ NB0_169.out _ | refine qf ?_ NB0_171.out _) | exact HI0.out)) (by (with_reducible repeat (first | apply qs | apply qt | apply qu)); exact HO164.out) (by decide)) hk (fun _ h => h.2)) (fun _ h => h.1)); have n2_ := qy (qC hk (g' := gb169) (o := .cells #[.string (rdOf ByteArray.empty y162 t165), .int .i64 0, .slice none 0 0] 46 (0, 0)) (by (with_reducible repeat (first | refine qv ?_ _ | refine qw ?_ | refine qx ?_ _)); exact BK169.out) NB169_0.out (by simp)); have n3_ := qy (qH (qF (qA (show IsS69 w0 _ g s0_0 t166 t167 from by repeat (first | (with_reducible first | exact HI0.out | apply qa | apply qb | apply qc | apply qd | apply qe | refine qf ?_ NB0_169.out _ | refine qf ?_ NB0_171.out _) | exact HI0.out)) (by (with_reducible repeat (first | apply qs | apply qt | apply qu)); exact HL170_2.out) (by decide)) hk (fun _ h => h.2)) (fun _ h => h.1)); have n4_ := qy (qC hk (g' := gb171) (o := .cells #[.string ((rd_T46 x3_1 (ji21)).f0), .int .i64 ((rd_T46 x3_1 (ji21)).f1), .slice A170_2 ((rd_T46 x3_1 (ji21)).f2).length c170_2] 46 (0, 0)) (by (with_reducible repeat (first | refine qv ?_ _ | refine qw ?_ | refine qx ?_ _)); exact BK171.out) NB171_0.out (by simp)); have n5_ := qy (qB (by repeat (first | (with_reducible first | exact HK.out | apply qg | apply qh | apply qi | apply qj | refine qk ?_ GW169.out _ | refine qk ?_ GW171.out _) | exact HK.out)) hk (.inl rfl)); have n6_ := qy (hb); have n7_ := qy (hi); clear HO_3 HO164 BK169 HL170_2 BK171 HK HB HI0; have HO_3 := n0_; have HO164 := n1_; have BK169 := n2_; have HL170_2 := n3_; have BK171 := n4_; have HK := n5_; have HB := n6_; have HI0 := n7_; clear n0_ n1_ n2_ n3_ n4_ n5_ n6_ n7_; (try clear hb hk hi); have hnb64 := NB169_0.out; have hnc64 := NB0_169.out; have hcz65_0 : w63.cell? ⟨gb169, 0, none⟩ = some (.string (rdOf ByteArray.empty y162 t165)) := (blk_cell BK169.out 0).trans rfl; have hcz65_1 : w63.cell? ⟨gb169, 1, none⟩ = some (.int .i64 0) := (blk_cell BK169.out 1).trans rfl; have hcz65_2 : w63.cell? ⟨gb169, 2, none⟩ = some (.slice none 0 0) := (blk_cell BK169.out 2).trans rfl; have hfz65_0 := blk_frozen BK169.out 0; have hfz65_1 := blk_frozen BK169.out 1; have hfz65_2 := blk_frozen BK169.out 2) | ((with_reducible refine gate_store (t := 2) (p := 38) rfl ?_); refine store_event (t := 2) (p := 38) (v := ?vo_w66) (w1 := (w63.setCell ⟨gb169, 1, none⟩ (.int .i64 t172))) ?hg ?ho ?hn ?hr ?_; (case ho => rfl); (case hg => rfl); (case hn => rfl); (case hr => first | (go_simp; done) | (go_simp; rfl)); intro w66 hw; have n0_ : Aside0 (Kd.S k46 46 w66 w.heap.size (fun k_ => k_ ≠ gb169 ∧ k_ ≠ gb171) (.slice (some ad170) x3_1.length co19) x3_1) := ⟨(by rw [hw]; exact (by (with_reducible repeat (first | apply qp | apply qq | apply qr)); exact qG (Kd.S_far (p := ⟨gb169, 1, none⟩) (qG HO_3.out (fun k_ hk => (⟨hk, hk.1⟩ : _ ∧ k_ ≠ gb169))) (fun _ hk => hk.2) (.int .i64 t172)) (fun _ hk => ⟨hk.1.1, hk.1.2⟩)))⟩; have n1_ : Aside0 (Kd.R Kd.string 9 w66 w.heap.size (fun _ => True) (.slice (some ad168) y162.length co14) y162) := ⟨(by rw [hw]; exact (by (with_reducible repeat (first | apply qs | apply qt | apply qu)); exact qH (qK (p := ⟨gb169, 1, none⟩) (qJ HO164.out BK169.out (by decide)) (fun _ hk => hk.2) (.int .i64 t172)) (fun _ hk => trivial)))⟩; have n2_ : Aside0 (Kd.R (Kd.int .u8) 5 w66 w.heap.size (fun k_ => some k_ ≠ (.slice (some ad170) x3_1.length co19 : Value).ownBlock ∧ k_ ≠ gb169) (.slice A170_2 ((rd_T46 x3_1 (ji21)).f2).length c170_2) ((rd_T46 x3_1 (ji21)).f2)) := ⟨(by rw [hw]; exact (by (with_reducible repeat (first | apply qs | apply qt | apply qu)); exact qH (qK (p := ⟨gb169, 1, none⟩) (qJ HL170_2.out BK169.out (by decide)) (fun _ hk => hk.2) (.int .i64 t172)) (fun _ hk => ⟨hk.1.1, hk.1.2⟩)))⟩; have n3_ : Aside0 (w66.heap[gb169]? = some (.cells #[.string (rdOf ByteArray.empty y162 t165), .int .i64 t172, .slice none 0 0] 46 (0, 0))) := ⟨(by rw [hw]; exact (by (with_reducible repeat (first | refine qv ?_ _ | refine qw ?_ | refine qx ?_ _)); refine blk_put (cs := #[.string (rdOf ByteArray.empty y162 t165), .int .i64 0, .slice none 0 0]) ?_ 1 _ rfl; (with_reducible repeat (first | refine qv ?_ _ | refine qw ?_ | refine qx ?_ _)); exact BK169.out))⟩; have n4_ : Aside0 (w66.heap[gb171]? = some (.cells #[.string ((rd_T46 x3_1 (ji21)).f0), .int .i64 ((rd_T46 x3_1 (ji21)).f1), .slice A170_2 ((rd_T46 x3_1 (ji21)).f2).length c170_2] 46 (0, 0))) := ⟨(by rw [hw]; exact (by (with_reducible repeat (first | refine qv ?_ _ | refine qw ?_ | refine qx ?_ _)); refine blk_far ?_ NB171_169.out _; (with_reducible repeat (first | refine qv ?_ _ | refine qw ?_ | refine qx ?_ _)); exact BK171.out))⟩; have n5_ : Aside0 (IsS69 w0 w66 g s0_0 t173 t174) := ⟨(by rw [hw]; exact (by repeat (first | (with_reducible first | exact HI0.out | apply qa | apply qb | apply qc | apply qd | apply qe | refine qf ?_ NB0_169.out _ | refine qf ?_ NB0_171.out _) | exact HI0.out)))⟩; have n6_ : Aside0 (KeepBut w w66 g none) := ⟨(by rw [hw]; exact (by repeat (first | (with_reducible first | exact HK.out | apply qg | apply qh | apply qi | apply qj | refine qk ?_ GW169.out _ | refine qk ?_ GW171.out _) | exact HK.out)))⟩; have n7_ : Aside0 (Below w0.heap.size w0 w66) := ⟨(by rw [hw]; exact (by repeat (first | (with_reducible first | exact HB.out | apply qn | apply ql | apply qm | refine qo ?_ (qI HI0.out) | refine qo ?_ GE169.out | refine qo ?_ GE171.out) | exact HB.out)))⟩; clear hw HO_3 HO164 HL170_2 BK169 BK171 HI0 HK HB; have HO_3 := n0_; have HO164 := n1_; have HL170_2 := n2_; have BK169 := n3_; have BK171 := n4_; have HI0 := n5_; have HK := n6_; have HB := n7_; clear n0_ n1_ n2_ n3_ n4_ n5_ n6_ n7_; have hcz67_0 : w66.cell? ⟨gb171, 0, none⟩ = some (.string ((rd_T46 x3_1 (ji21)).f0)) := (blk_cell BK171.out 0).trans rfl; have hcz67_1 : w66.cell? ⟨gb171, 1, none⟩ = some (.int .i64 ((rd_T46 x3_1 (ji21)).f1)) := (blk_cell BK171.out 1).trans rfl; have hcz67_2 : w66.cell? ⟨gb171, 2, none⟩ = some (.slice A170_2 ((rd_T46 x3_1 (ji21)).f2).length c170_2) := (blk_cell BK171.out 2).trans rfl; have hfz67_0 := blk_frozen BK171.out 0; have hfz67_1 := blk_frozen BK171.out 1; have hfz67_2 := blk_frozen BK171.out 2) | ((with_reducible refine gate_callee (f := 35) rfl ?_); refine goesL_ (some 41) rfl rfl Try.func35 (by kernel_rfl) rfl #[.string ((rd_T46 x3_1 (ji21)).f0)] rfl (by (try simp only [List.map_toArray, List.map_cons, List.map_nil]); first | done | (simp only [hji21]; rfl) | rfl | (rw [← hji21]; rfl) | (simp only [List.length_drop, List.length_take]; rfl)) ?_; (with_reducible refine (spec_l2Holds.calls ((rd_T46 x3_1 (ji21)).f0) true _ A25.out).mono ?_); rintro e w' ⟨rfl, ⟨nd, rfl⟩⟩; refine ⟨_, rfl, ?_⟩))
        go_meet
        case rel => exact ⟨_, (t173), (t174), (t172), H', ⟨by have := HK1.out; first | omega | exact Nat.le_refl _⟩, ⟨by (with_reducible repeat (first | apply qp | apply qq | apply qr)); exact qG HO_3.out (fun _ hk => hk.1)⟩, ⟨by (with_reducible repeat (first | refine qv ?_ _ | refine qw ?_ | refine qx ?_ _)); exact BK169.out⟩, ⟨by repeat (first | (with_reducible first | exact HI0.out | apply qa | apply qb | apply qc | apply qd | apply qe | refine qf ?_ NB0_169.out _ | refine qf ?_ NB0_171.out _) | exact HI0.out)⟩, ⟨by repeat (first | (with_reducible first | exact HK.out | apply qg | apply qh | apply qi | apply qj | refine qk ?_ GW169.out _ | refine qk ?_ GW171.out _) | exact HK.out)⟩, ⟨by repeat (first | (with_reducible first | exact HB.out | apply qn | apply ql | apply qm | refine qo ?_ (qI HI0.out) | refine qo ?_ GE169.out | refine qo ?_ GE171.out) | exact HB.out)⟩⟩
      ·replace c26 := Bool.eq_false_iff.mpr c26
       subst c26
       have H1 := H; rw [if_neg (show ¬ (false = true) by decide)] at H1
       clear H
       have H := H1
       clear H1
       have H' := qy H
       clear H
       have p170 : 0 ≤ ((ji21) : Int) := of_decide_eq_true (by assumption)
       have q170 : (ji21) < (x3_1.length : Int) := of_decide_eq_true (by assumption)
       obtain ⟨ad170, A170_2, c170_2, e170, hx170_0, hx170_1, hx170_2, hl170_2, hi170_2⟩ := at_T46 (Kd.S_reads' HO_3.out).2.2 (ji21) p170 q170
       cases e170
       obtain ⟨ce170, hce170, hMe170, hcc170⟩ := Kd.S_get HO_3.out z46 (ji21) p170 (by first | exact q170 | exact of_decide_eq_true (by assumption) | (have e_ := (Kd.S_reads' HO_3.out).1; omega))
       obtain ⟨ve170_2, rfl, ge170_2⟩ := k46_openM hMe170
       have hv170_2 := hcc170 2 _ rfl
       rw [add_field _ _ 2 (by omega)] at hv170_2
       replace hv170_2 := Option.some.inj (hv170_2.symm.trans hx170_2)
       rw [hv170_2] at ge170_2
       have HL170_2 := qy (show Kd.R (Kd.int .u8) 5 _ _ _ _ ((rd_T46 x3_1 (ji21)).f2) from ge170_2)
       clear hv170_2 ge170_2
       have HX170_2 := qy hx170_2
       clear hcc170 hce170
       have HR170_2 := qy hi170_2
       have HC170_2 := qy hl170_2
       clear hi170_2 hl170_2
       replace p170 := eq_true p170
       replace q170 := eq_true q170
       go_wp2_with (first | ((with_reducible refine gate_dst (N := 6) rfl ?_); (try (refine gate_guard (by rfl) ?_; dsimp only)); refine box_event ?hg (N := 6) ?hd (cs := #[.string (⟨#[]⟩ : ByteArray), .int .i64 0, .slice none 0 0]) (t := 46) ?hr ?_; (case hd => rfl); (case hg => rfl); (case hr => first | (go_simp; done) | (go_simp; rfl)); intro gb171 hg w68 hbox hb; have n0_ := qy (Kd.S_below (Kd.S_elderB (by (with_reducible repeat (first | apply qp | apply qq | apply qr)); exact HO_3.out) gb171 (Nat.le_of_eq hg.symm)) hb); have n1_ := qy (Kd.R_below (by (with_reducible repeat (first | apply qs | apply qt | apply qu)); exact HO164.out) hb); have n2_ := qy (Kd.R_below (by (with_reducible repeat (first | apply qs | apply qt | apply qu)); exact HL170_2.out) hb); have n3_ := qy (IsS69.below (by repeat (first | (with_reducible first | exact HI0.out | apply qa | apply qb | apply qc | apply qd | apply qe | refine qf ?_ NB0_169.out _) | exact HI0.out)) hb); have n4_ := qy (blk_below (g := gb169) (o := .cells #[.string (rdOf ByteArray.empty y162 t165), .int .i64 0, .slice none 0 0] 46 (0, 0)) (by (with_reducible repeat (first | refine qv ?_ _ | refine qw ?_ | refine qx ?_ _)); exact BK169.out) hb); have n5_ := qy (Kd.C_below (by repeat (first | (with_reducible exact HR170_2.out) | (with_reducible refine Kd.C_alloc ?_ _) | (with_reducible refine Kd.C_drewN ?_ _) | (with_reducible refine Kd.C_drew ?_) | exact HR170_2.out)) hb); have n6_ := qy (pw_cell_below hb HX170_2.out); have n7_ := qy (qB (by repeat (first | (with_reducible first | exact HK.out | apply qg | apply qh | apply qi | apply qj | refine qk ?_ GW169.out _) | exact HK.out)) (KeepBut.of_below hb g none) (.inl rfl)); have n8_ := qy (below_step (by repeat (first | (with_reducible first | exact HB.out | apply qn | apply ql | apply qm | refine qo ?_ (qI HI0.out) | refine qo ?_ GE169.out) | exact HB.out)) hb); have n9_ := qy (hbox); have n10_ := qy ((by rw [hg]; exact (keep_size (w := w) (g := g) (row := none) (by repeat (first | (with_reducible first | exact HK.out | apply qg | apply qh | apply qi | apply qj | refine qk ?_ GW169.out _) | exact HK.out))) : w.heap.size ≤ gb171)); have n11_ := qy ((Nat.le_trans HW0.out (by rw [hg]; exact (keep_size (w := w) (g := g) (row := none) (by repeat (first | (with_reducible first | exact HK.out | apply qg | apply qh | apply qi | apply qj | refine qk ?_ GW169.out _) | exact HK.out))) : w.heap.size ≤ gb171) : w0.heap.size ≤ gb171)); have n12_ := qy ((by rw [hg]; exact Nat.ne_of_lt (blk_lt (g := gb169) (o := .cells #[.string (rdOf ByteArray.empty y162 t165), .int .i64 0, .slice none 0 0] 46 (0, 0)) (by (with_reducible repeat (first | refine qv ?_ _ | refine qw ?_ | refine qx ?_ _)); exact BK169.out)) : gb169 ≠ gb171)); have n13_ := qy ((by rw [hg]; exact Nat.ne_of_gt (blk_lt (g := gb169) (o := .cells #[.string (rdOf ByteArray.empty y162 t165), .int .i64 0, .slice none 0 0] 46 (0, 0)) (by (with_reducible repeat (first | refine qv ?_ _ | refine qw ?_ | refine qx ?_ _)); exact BK169.out)) : gb171 ≠ gb169)); have n14_ := qy ((by rw [hg]; exact Nat.ne_of_lt (IsS69.lt (show IsS69 w0 _ g s0_0 t166 t167 from by repeat (first | (with_reducible first | exact HI0.out | apply qa | apply qb | apply qc | apply qd | apply qe | refine qf ?_ NB0_169.out _) | exact HI0.out))) : g ≠ gb171)); have n15_ := qy ((by rw [hg]; exact Nat.ne_of_gt (IsS69.lt (show IsS69 w0 _ g s0_0 t166 t167 from by repeat (first | (with_reducible first | exact HI0.out | apply qa | apply qb | apply qc | apply qd | apply qe | refine qf ?_ NB0_169.out _) | exact HI0.out))) : gb171 ≠ g)); clear HO_3 HO164 HL170_2 HI0 BK169 HR170_2 HX170_2 HK HB; have HO_3 := n0_; have HO164 := n1_; have HL170_2 := n2_; have HI0 := n3_; have BK169 := n4_; have HR170_2 := n5_; have HX170_2 := n6_; have HK := n7_; have HB := n8_; have BK171 := n9_; have GW171 := n10_; have GE171 := n11_; have NB169_171 := n12_; have NB171_169 := n13_; have NB0_171 := n14_; have NB171_0 := n15_; clear n0_ n1_ n2_ n3_ n4_ n5_ n6_ n7_ n8_ n9_ n10_ n11_ n12_ n13_ n14_ n15_ hb hbox hg; have hnb69 := NB171_169.out; have hnc69 := NB169_171.out; have hnb70 := NB171_0.out; have hnc70 := NB0_171.out; have hcz71_0 : w68.cell? ⟨gb171, 0, none⟩ = some (.string (⟨#[]⟩ : ByteArray)) := (blk_cell BK171.out 0).trans rfl; have hcz71_1 : w68.cell? ⟨gb171, 1, none⟩ = some (.int .i64 0) := (blk_cell BK171.out 1).trans rfl; have hcz71_2 : w68.cell? ⟨gb171, 2, none⟩ = some (.slice none 0 0) := (blk_cell BK171.out 2).trans rfl; have hfz71_0 := blk_frozen BK171.out 0; have hfz71_1 := blk_frozen BK171.out 1; have hfz71_2 := blk_frozen BK171.out 2) | ((with_reducible refine gate_store (t := 46) (p := 6) rfl ?_); refine store_event (t := 46) (p := 6) (v := ?vo_w72) (w1 := (((w68.setCell ⟨gb171, 0, none⟩ (.string ((rd_T46 x3_1 (ji21)).f0))).setCell ⟨gb171, 1, none⟩ (.int .i64 ((rd_T46 x3_1 (ji21)).f1))).setCell ⟨gb171, 2, none⟩ (.slice A170_2 ((rd_T46 x3_1 (ji21)).f2).length c170_2))) ?hg ?ho ?hn ?hr ?_; (case ho => rfl); (case hg => rfl); (case hn => rfl); (case hr => first | (go_simp; done) | (go_simp; rfl)); intro w72 hw; have n0_ : Aside0 (Kd.S k46 46 w72 w.heap.size (fun k_ => k_ ≠ gb169 ∧ k_ ≠ gb171) (.slice (some ad170) x3_1.length co19) x3_1) := ⟨(by rw [hw]; exact (by (with_reducible repeat (first | apply qp | apply qq | apply qr)); exact qG (Kd.S_far (p := ⟨gb171, 2, none⟩) (Kd.S_far (p := ⟨gb171, 1, none⟩) (Kd.S_far (p := ⟨gb171, 0, none⟩) (qG HO_3.out (fun k_ hk => (⟨hk, hk.2⟩ : _ ∧ k_ ≠ gb171))) (fun _ hk => hk.2) (.string ((rd_T46 x3_1 (ji21)).f0))) (fun _ hk => hk.2) (.int .i64 ((rd_T46 x3_1 (ji21)).f1))) (fun _ hk => hk.2) (.slice A170_2 ((rd_T46 x3_1 (ji21)).f2).length c170_2)) (fun _ hk => ⟨hk.1.1, hk.1.2⟩)))⟩; have n1_ : Aside0 (Kd.R Kd.string 9 w72 w.heap.size (fun _ => True) (.slice (some ad168) y162.length co14) y162) := ⟨(by rw [hw]; exact (by (with_reducible repeat (first | apply qs | apply qt | apply qu)); exact qH (qK (p := ⟨gb171, 2, none⟩) (qK (p := ⟨gb171, 1, none⟩) (qK (p := ⟨gb171, 0, none⟩) (qJ HO164.out BK171.out (by decide)) (fun _ hk => hk.2) (.string ((rd_T46 x3_1 (ji21)).f0))) (fun _ hk => hk.2) (.int .i64 ((rd_T46 x3_1 (ji21)).f1))) (fun _ hk => hk.2) (.slice A170_2 ((rd_T46 x3_1 (ji21)).f2).length c170_2)) (fun _ hk => trivial)))⟩; have n2_ : Aside0 (Kd.R (Kd.int .u8) 5 w72 w.heap.size (fun k_ => some k_ ≠ (.slice (some ad170) x3_1.length co19 : Value).ownBlock ∧ k_ ≠ gb169) (.slice A170_2 ((rd_T46 x3_1 (ji21)).f2).length c170_2) ((rd_T46 x3_1 (ji21)).f2)) := ⟨(by rw [hw]; exact (by (with_reducible repeat (first | apply qs | apply qt | apply qu)); exact qH (qK (p := ⟨gb171, 2, none⟩) (qK (p := ⟨gb171, 1, none⟩) (qK (p := ⟨gb171, 0, none⟩) (qJ HL170_2.out BK171.out (by decide)) (fun _ hk => hk.2) (.string ((rd_T46 x3_1 (ji21)).f0))) (fun _ hk => hk.2) (.int .i64 ((rd_T46 x3_1 (ji21)).f1))) (fun _ hk => hk.2) (.slice A170_2 ((rd_T46 x3_1 (ji21)).f2).length c170_2)) (fun _ hk => ⟨hk.1.2, hk.1.1⟩)))⟩; have n3_ : Aside0 (w72.heap[gb169]? = some (.cells #[.string (rdOf ByteArray.empty y162 t165), .int .i64 0, .slice none 0 0] 46 (0, 0))) := ⟨(by rw [hw]; exact (by (with_reducible repeat (first | refine qv ?_ _ | refine qw ?_ | refine qx ?_ _)); refine blk_far ?_ NB169_171.out _; (with_reducible repeat (first | refine qv ?_ _ | refine qw ?_ | refine qx ?_ _)); refine blk_far ?_ NB169_171.out _; (with_reducible repeat (first | refine qv ?_ _ | refine qw ?_ | refine qx ?_ _)); refine blk_far ?_ NB169_171.out _; (with_reducible repeat (first | refine qv ?_ _ | refine qw ?_ | refine qx ?_ _)); exact BK169.out))⟩; have n4_ : Aside0 (w72.heap[gb171]? = some (.cells #[.string ((rd_T46 x3_1 (ji21)).f0), .int .i64 ((rd_T46 x3_1 (ji21)).f1), .slice A170_2 ((rd_T46 x3_1 (ji21)).f2).length c170_2] 46 (0, 0))) := ⟨(by rw [hw]; exact (by (with_reducible repeat (first | refine qv ?_ _ | refine qw ?_ | refine qx ?_ _)); refine blk_put (cs := #[.string ((rd_T46 x3_1 (ji21)).f0), .int .i64 ((rd_T46 x3_1 (ji21)).f1), .slice none 0 0]) ?_ 2 _ rfl; (with_reducible repeat (first | refine qv ?_ _ | refine qw ?_ | refine qx ?_ _)); refine blk_put (cs := #[.string ((rd_T46 x3_1 (ji21)).f0), .int .i64 0, .slice none 0 0]) ?_ 1 _ rfl; (with_reducible repeat (first | refine qv ?_ _ | refine qw ?_ | refine qx ?_ _)); refine blk_put (cs := #[.string (⟨#[]⟩ : ByteArray), .int .i64 0, .slice none 0 0]) ?_ 0 _ rfl; (with_reducible repeat (first | refine qv ?_ _ | refine qw ?_ | refine qx ?_ _)); exact BK171.out))⟩; have n5_ : Aside0 (IsS69 w0 w72 g s0_0 t166 t167) := ⟨(by rw [hw]; exact (by repeat (first | (with_reducible first | exact HI0.out | apply qa | apply qb | apply qc | apply qd | apply qe | refine qf ?_ NB0_169.out _ | refine qf ?_ NB0_171.out _) | exact HI0.out)))⟩; have n6_ : Aside0 (KeepBut w w72 g none) := ⟨(by rw [hw]; exact (by repeat (first | (with_reducible first | exact HK.out | apply qg | apply qh | apply qi | apply qj | refine qk ?_ GW169.out _ | refine qk ?_ GW171.out _) | exact HK.out)))⟩; have n7_ : Aside0 (Below w0.heap.size w0 w72) := ⟨(by rw [hw]; exact (by repeat (first | (with_reducible first | exact HB.out | apply qn | apply ql | apply qm | refine qo ?_ (qI HI0.out) | refine qo ?_ GE169.out | refine qo ?_ GE171.out) | exact HB.out)))⟩; clear hw HO_3 HO164 HL170_2 BK169 BK171 HI0 HK HB; have HO_3 := n0_; have HO164 := n1_; have HL170_2 := n2_; have BK169 := n3_; have BK171 := n4_; have HI0 := n5_; have HK := n6_; have HB := n7_; clear n0_ n1_ n2_ n3_ n4_ n5_ n6_ n7_; have hcz73_0 : w72.cell? ⟨gb171, 0, none⟩ = some (.string ((rd_T46 x3_1 (ji21)).f0)) := (blk_cell BK171.out 0).trans rfl; have hcz73_1 : w72.cell? ⟨gb171, 1, none⟩ = some (.int .i64 ((rd_T46 x3_1 (ji21)).f1)) := (blk_cell BK171.out 1).trans rfl; have hcz73_2 : w72.cell? ⟨gb171, 2, none⟩ = some (.slice A170_2 ((rd_T46 x3_1 (ji21)).f2).length c170_2) := (blk_cell BK171.out 2).trans rfl; have hfz73_0 := blk_frozen BK171.out 0; have hfz73_1 := blk_frozen BK171.out 1; have hfz73_2 := blk_frozen BK171.out 2) | ((with_reducible refine gate_callee (f := 56) rfl ?_); refine goesL_ (some 37) rfl rfl Try.func56 (by kernel_rfl) rfl #[.pointer (some ⟨g, 0, none⟩), .int .i64 (wrap64 (((rd_T46 x3_1 (ji21)).f1) + 1))] rfl (by (try simp only [List.map_toArray, List.map_cons, List.map_nil]); first | done | (simp only [hji21]; rfl) | rfl | (rw [← hji21]; rfl) | (simp only [List.length_drop, List.length_take]; rfl)) ?_; (with_reducible refine (spec_l1Below.calls g s0_0 t166 t167 (wrap64 (((rd_T46 x3_1 (ji21)).f1) + 1)) t172 t173 t174 w0 _ ?side1 ?side2 A24.out).mono ?_); (case side1 => repeat (first | (with_reducible first | exact HI0.out | apply qa | apply qb | apply qc | apply qd | apply qe | refine qf ?_ NB0_169.out _ | refine qf ?_ NB0_171.out _) | exact HI0.out)); (case side2 => repeat (first | (with_reducible first | exact HB.out | apply qn | apply ql | apply qm | refine qo ?_ (qI HI0.out) | refine qo ?_ GE169.out | refine qo ?_ GE171.out) | exact HB.out)); rintro e w74 ⟨rfl, hi, hb, hk⟩; refine ⟨_, rfl, ?_⟩; have n0_ := qy (qG (qE (qz (show IsS69 w0 _ g s0_0 t166 t167 from by repeat (first | (with_reducible first | exact HI0.out | apply qa | apply qb | apply qc | apply qd | apply qe | refine qf ?_ NB0_169.out _ | refine qf ?_ NB0_171.out _) | exact HI0.out)) (by (with_reducible repeat (first | apply qp | apply qq | apply qr)); exact HO_3.out) (by decide)) hk (fun _ h => h.2)) (fun _ h => h.1)); have n1_ := qy (qH (qF (qA (show IsS69 w0 _ g s0_0 t166 t167 from by repeat (first | (with_reducible first | exact HI0.out | apply qa | apply qb | apply qc | apply qd | apply qe | refine qf ?_ NB0_169.out _ | refine qf ?_ NB0_171.out _) | exact HI0.out)) (by (with_reducible repeat (first | apply qs | apply qt | apply qu)); exact HO164.out) (by decide)) hk (fun _ h => h.2)) (fun _ h => h.1)); have n2_ := qy (qC hk (g' := gb169) (o := .cells #[.string (rdOf ByteArray.empty y162 t165), .int .i64 0, .slice none 0 0] 46 (0, 0)) (by (with_reducible repeat (first | refine qv ?_ _ | refine qw ?_ | refine qx ?_ _)); exact BK169.out) NB169_0.out (by simp)); have n3_ := qy (qH (qF (qA (show IsS69 w0 _ g s0_0 t166 t167 from by repeat (first | (with_reducible first | exact HI0.out | apply qa | apply qb | apply qc | apply qd | apply qe | refine qf ?_ NB0_169.out _ | refine qf ?_ NB0_171.out _) | exact HI0.out)) (by (with_reducible repeat (first | apply qs | apply qt | apply qu)); exact HL170_2.out) (by decide)) hk (fun _ h => h.2)) (fun _ h => h.1)); have n4_ := qy (qC hk (g' := gb171) (o := .cells #[.string ((rd_T46 x3_1 (ji21)).f0), .int .i64 ((rd_T46 x3_1 (ji21)).f1), .slice A170_2 ((rd_T46 x3_1 (ji21)).f2).length c170_2] 46 (0, 0)) (by (with_reducible repeat (first | refine qv ?_ _ | refine qw ?_ | refine qx ?_ _)); exact BK171.out) NB171_0.out (by simp)); have n5_ := qy (qB (by repeat (first | (with_reducible first | exact HK.out | apply qg | apply qh | apply qi | apply qj | refine qk ?_ GW169.out _ | refine qk ?_ GW171.out _) | exact HK.out)) hk (.inl rfl)); have n6_ := qy (hb); have n7_ := qy (hi); clear HO_3 HO164 BK169 HL170_2 BK171 HK HB HI0; have HO_3 := n0_; have HO164 := n1_; have BK169 := n2_; have HL170_2 := n3_; have BK171 := n4_; have HK := n5_; have HB := n6_; have HI0 := n7_; clear n0_ n1_ n2_ n3_ n4_ n5_ n6_ n7_; (try clear hb hk hi); have hnb75 := NB169_0.out; have hnc75 := NB0_169.out; have hcz76_0 : w74.cell? ⟨gb169, 0, none⟩ = some (.string (rdOf ByteArray.empty y162 t165)) := (blk_cell BK169.out 0).trans rfl; have hcz76_1 : w74.cell? ⟨gb169, 1, none⟩ = some (.int .i64 0) := (blk_cell BK169.out 1).trans rfl; have hcz76_2 : w74.cell? ⟨gb169, 2, none⟩ = some (.slice none 0 0) := (blk_cell BK169.out 2).trans rfl; have hfz76_0 := blk_frozen BK169.out 0; have hfz76_1 := blk_frozen BK169.out 1; have hfz76_2 := blk_frozen BK169.out 2) | ((with_reducible refine gate_store (t := 2) (p := 38) rfl ?_); refine store_event (t := 2) (p := 38) (v := ?vo_w77) (w1 := (w74.setCell ⟨gb169, 1, none⟩ (.int .i64 t172))) ?hg ?ho ?hn ?hr ?_; (case ho => rfl); (case hg => rfl); (case hn => rfl); (case hr => first | (go_simp; done) | (go_simp; rfl)); intro w77 hw; have n0_ : Aside0 (Kd.S k46 46 w77 w.heap.size (fun k_ => k_ ≠ gb169 ∧ k_ ≠ gb171) (.slice (some ad170) x3_1.length co19) x3_1) := ⟨(by rw [hw]; exact (by (with_reducible repeat (first | apply qp | apply qq | apply qr)); exact qG (Kd.S_far (p := ⟨gb169, 1, none⟩) (qG HO_3.out (fun k_ hk => (⟨hk, hk.1⟩ : _ ∧ k_ ≠ gb169))) (fun _ hk => hk.2) (.int .i64 t172)) (fun _ hk => ⟨hk.1.1, hk.1.2⟩)))⟩; have n1_ : Aside0 (Kd.R Kd.string 9 w77 w.heap.size (fun _ => True) (.slice (some ad168) y162.length co14) y162) := ⟨(by rw [hw]; exact (by (with_reducible repeat (first | apply qs | apply qt | apply qu)); exact qH (qK (p := ⟨gb169, 1, none⟩) (qJ HO164.out BK169.out (by decide)) (fun _ hk => hk.2) (.int .i64 t172)) (fun _ hk => trivial)))⟩; have n2_ : Aside0 (Kd.R (Kd.int .u8) 5 w77 w.heap.size (fun k_ => some k_ ≠ (.slice (some ad170) x3_1.length co19 : Value).ownBlock ∧ k_ ≠ gb169) (.slice A170_2 ((rd_T46 x3_1 (ji21)).f2).length c170_2) ((rd_T46 x3_1 (ji21)).f2)) := ⟨(by rw [hw]; exact (by (with_reducible repeat (first | apply qs | apply qt | apply qu)); exact qH (qK (p := ⟨gb169, 1, none⟩) (qJ HL170_2.out BK169.out (by decide)) (fun _ hk => hk.2) (.int .i64 t172)) (fun _ hk => ⟨hk.1.1, hk.1.2⟩)))⟩; have n3_ : Aside0 (w77.heap[gb169]? = some (.cells #[.string (rdOf ByteArray.empty y162 t165), .int .i64 t172, .slice none 0 0] 46 (0, 0))) := ⟨(by rw [hw]; exact (by (with_reducible repeat (first | refine qv ?_ _ | refine qw ?_ | refine qx ?_ _)); refine blk_put (cs := #[.string (rdOf ByteArray.empty y162 t165), .int .i64 0, .slice none 0 0]) ?_ 1 _ rfl; (with_reducible repeat (first | refine qv ?_ _ | refine qw ?_ | refine qx ?_ _)); exact BK169.out))⟩; have n4_ : Aside0 (w77.heap[gb171]? = some (.cells #[.string ((rd_T46 x3_1 (ji21)).f0), .int .i64 ((rd_T46 x3_1 (ji21)).f1), .slice A170_2 ((rd_T46 x3_1 (ji21)).f2).length c170_2] 46 (0, 0))) := ⟨(by rw [hw]; exact (by (with_reducible repeat (first | refine qv ?_ _ | refine qw ?_ | refine qx ?_ _)); refine blk_far ?_ NB171_169.out _; (with_reducible repeat (first | refine qv ?_ _ | refine qw ?_ | refine qx ?_ _)); exact BK171.out))⟩; have n5_ : Aside0 (IsS69 w0 w77 g s0_0 t173 t174) := ⟨(by rw [hw]; exact (by repeat (first | (with_reducible first | exact HI0.out | apply qa | apply qb | apply qc | apply qd | apply qe | refine qf ?_ NB0_169.out _ | refine qf ?_ NB0_171.out _) | exact HI0.out)))⟩; have n6_ : Aside0 (KeepBut w w77 g none) := ⟨(by rw [hw]; exact (by repeat (first | (with_reducible first | exact HK.out | apply qg | apply qh | apply qi | apply qj | refine qk ?_ GW169.out _ | refine qk ?_ GW171.out _) | exact HK.out)))⟩; have n7_ : Aside0 (Below w0.heap.size w0 w77) := ⟨(by rw [hw]; exact (by repeat (first | (with_reducible first | exact HB.out | apply qn | apply ql | apply qm | refine qo ?_ (qI HI0.out) | refine qo ?_ GE169.out | refine qo ?_ GE171.out) | exact HB.out)))⟩; clear hw HO_3 HO164 HL170_2 BK169 BK171 HI0 HK HB; have HO_3 := n0_; have HO164 := n1_; have HL170_2 := n2_; have BK169 := n3_; have BK171 := n4_; have HI0 := n5_; have HK := n6_; have HB := n7_; clear n0_ n1_ n2_ n3_ n4_ n5_ n6_ n7_; have hcz78_0 : w77.cell? ⟨gb171, 0, none⟩ = some (.string ((rd_T46 x3_1 (ji21)).f0)) := (blk_cell BK171.out 0).trans rfl; have hcz78_1 : w77.cell? ⟨gb171, 1, none⟩ = some (.int .i64 ((rd_T46 x3_1 (ji21)).f1)) := (blk_cell BK171.out 1).trans rfl; have hcz78_2 : w77.cell? ⟨gb171, 2, none⟩ = some (.slice A170_2 ((rd_T46 x3_1 (ji21)).f2).length c170_2) := (blk_cell BK171.out 2).trans rfl; have hfz78_0 := blk_frozen BK171.out 0; have hfz78_1 := blk_frozen BK171.out 1; have hfz78_2 := blk_frozen BK171.out 2) | ((with_reducible refine gate_callee (f := 35) rfl ?_); refine goesL_ (some 41) rfl rfl Try.func35 (by kernel_rfl) rfl #[.string ((rd_T46 x3_1 (ji21)).f0)] rfl (by (try simp only [List.map_toArray, List.map_cons, List.map_nil]); first | done | (simp only [hji21]; rfl) | rfl | (rw [← hji21]; rfl) | (simp only [List.length_drop, List.length_take]; rfl)) ?_; (with_reducible refine (spec_l2Holds.calls ((rd_T46 x3_1 (ji21)).f0) false _ A25.out).mono ?_); rintro e w' ⟨rfl, ⟨nd, rfl⟩⟩; refine ⟨_, rfl, ?_⟩))
       go_meet
       case rel => exact ⟨_, (t173), (t174), (t172), H', ⟨by have := HK1.out; first | omega | exact Nat.le_refl _⟩, ⟨by (with_reducible repeat (first | apply qp | apply qq | apply qr)); exact qG HO_3.out (fun _ hk => hk.1)⟩, ⟨by (with_reducible repeat (first | refine qv ?_ _ | refine qw ?_ | refine qx ?_ _)); exact BK169.out⟩, ⟨by repeat (first | (with_reducible first | exact HI0.out | apply qa | apply qb | apply qc | apply qd | apply qe | refine qf ?_ NB0_169.out _ | refine qf ?_ NB0_171.out _) | exact HI0.out)⟩, ⟨by repeat (first | (with_reducible first | exact HK.out | apply qg | apply qh | apply qi | apply qj | refine qk ?_ GW169.out _ | refine qk ?_ GW171.out _) | exact HK.out)⟩, ⟨by repeat (first | (with_reducible first | exact HB.out | apply qn | apply ql | apply qm | refine qo ?_ (qI HI0.out) | refine qo ?_ GE169.out | refine qo ?_ GE171.out) | exact HB.out)⟩⟩
     ·rw [if_neg c20] at H
      have c20b0 : decide (0 < (x3_1.length : Int)) = false := decide_eq_false c20
      have c20b1 : decide (0 < x3_1.length) = false := decide_eq_false (by omega)
      clear c20
      (first | rw [c20b0] | (simp only [i64_w, i32_w]; rw [c20b0]) | rw [c20b1] | skip)
      have H' := qy H
      clear H
      go_wp2
      go_meet
      case rel => exact ⟨_, (t166), (t167), (0), H', ⟨by have := HK1.out; first | omega | exact Nat.le_refl _⟩, ⟨by (with_reducible repeat (first | apply qp | apply qq | apply qr)); exact HO_3.out⟩, ⟨by (with_reducible repeat (first | refine qv ?_ _ | refine qw ?_ | refine qx ?_ _)); exact BK169.out⟩, ⟨by repeat (first | (with_reducible first | exact HI0.out | apply qa | apply qb | apply qc | apply qd | apply qe | refine qf ?_ NB0_169.out _) | exact HI0.out)⟩, ⟨by repeat (first | (with_reducible first | exact HK.out | apply qg | apply qh | apply qi | apply qj | refine qk ?_ GW169.out _) | exact HK.out)⟩, ⟨by repeat (first | (with_reducible first | exact HB.out | apply qn | apply ql | apply qm | refine qo ?_ (qI HI0.out) | refine qo ?_ GE169.out) | exact HB.out)⟩⟩
    case rest =>
     clear HC10
     try clear hcz17_0
     try clear hcz17_1
     try clear hcz17_2
     try clear hcz33_0
     try clear hcz33_1
     try clear hcz33_2
     try clear hcz35_0
     try clear hcz35_1
     try clear hcz35_2
     try clear hcz38_0
     try clear hcz38_1
     try clear hcz38_2
     try clear hcz40_0
     try clear hcz40_1
     try clear hcz40_2
     try clear hcz45_0
     try clear hcz45_1
     try clear hcz45_2
     try clear hcz47_0
     try clear hcz47_1
     try clear hcz47_2
     try clear hcz50_0
     try clear hcz50_1
     try clear hcz50_2
     try clear hcz52_0
     try clear hcz52_1
     try clear hcz52_2
     try clear hcz54_0
     try clear hcz54_1
     try clear hcz54_2
     try clear hcz55_0
     try clear hcz55_1
     try clear hcz55_2
     try clear hcz60_0
     try clear hcz60_1
     try clear hcz60_2
     try clear hcz62_0
     try clear hcz62_1
     try clear hcz62_2
     try clear hcz65_0
     try clear hcz65_1
     try clear hcz65_2
     try clear hcz67_0
     try clear hcz67_1
     try clear hcz67_2
     try clear hcz71_0
     try clear hcz71_1
     try clear hcz71_2
     try clear hcz73_0
     try clear hcz73_1
     try clear hcz73_2
     try clear hcz76_0
     try clear hcz76_1
     try clear hcz76_2
     try clear hcz78_0
     try clear hcz78_1
     try clear hcz78_2
     try clear hx168_0
     try clear hx170_0
     try clear hx170_1
     try clear hx170_2
     obtain ⟨kq, x1001_9, x1002_9, x170001_9, HA, HJ9, HO_3, BK169, HI0, HK, HB⟩ := hcut
     cases kq with
     | zero => exact absurd HA.out (by simp [spec_l2DrawBoxes.j1])
     | succ kj9 =>
      have H := HA.out
      clear HA
      simp only [spec_l2DrawBoxes.j1] at H
      replace H := Option.bind_eq_some_iff.mp H
      obtain ⟨t179, A790, H⟩ := H
      have A79 := qy A790
      clear A790
      by_cases c80 : t179 = true
      ·subst c80
       have H1 := H; rw [if_pos rfl] at H1
       clear H
       have H := H1
       clear H1
       by_cases c81 : x3_1.length < 2932031007402
       rotate_left
       · rw [if_neg c81] at H; exact absurd H (by simp)
       rw [if_pos c81] at H
       have LMc81 := qy c81
       clear c81
       obtain ⟨y180, hy180⟩ : ∃ y_ : List (S46), y_ = (x3_1 ++ [(⟨(rdOf ByteArray.empty y162 t165), x170001_9, ([] : List Int)⟩ : S46)]) := ⟨_, rfl⟩
       replace H : (spec_l2DrawBoxes.l0 kj9 y180 (wrap64 (x4_1 - 1)) s0_0 x1001_9 x1002_9) = some (r1, r2, r3) := by first | (rw [hy180]; with_reducible exact H) | (have H2_ := (Option.bind_some _ _).symm.trans H; rw [hy180]; with_reducible exact H2_) | (have H2_ := (Option.bind_some _ _).symm.trans H; with_reducible exact H2_) | with_reducible exact H | (rw [hy180]; exact H) | exact H
       have Ny180 := qy hy180
       clear hy180
       have H' := qy H
       clear H
       have hnb82 := NB169_0.out
       have hnc82 := NB0_169.out
       have hcz83_0 : wc.cell? ⟨gb169, 0, none⟩ = some (.string (rdOf ByteArray.empty y162 t165)) := (blk_cell BK169.out 0).trans rfl
       have hcz83_1 : wc.cell? ⟨gb169, 1, none⟩ = some (.int .i64 x170001_9) := (blk_cell BK169.out 1).trans rfl
       have hcz83_2 : wc.cell? ⟨gb169, 2, none⟩ = some (.slice none 0 0) := (blk_cell BK169.out 2).trans rfl
       have hfz83_0 := blk_frozen BK169.out 0
       have hfz83_1 := blk_frozen BK169.out 1
       have hfz83_2 := blk_frozen BK169.out 2
       go_wp2_with (first | ((with_reducible refine gate_callee (f := 35) rfl ?_); refine goesL_ (some 58) rfl rfl Try.func35 (by kernel_rfl) rfl #[.string (rdOf ByteArray.empty y162 t165)] rfl (by (try simp only [List.map_toArray, List.map_cons, List.map_nil]); first | done | rfl) ?_; (with_reducible refine (spec_l2Holds.calls (rdOf ByteArray.empty y162 t165) true _ A79.out).mono ?_); rintro e w' ⟨rfl, ⟨nd, rfl⟩⟩; refine ⟨_, rfl, ?_⟩) | ((with_reducible refine gate_builtin (b := .append) (xs := #[.tmp 74, .tmp 76]) rfl ?_); (try (refine gate_guard (by rfl) ?_; dsimp only)); at_builtin; refine Kd.S_append k46 w.heap.size rfl (.tmp 74) (.tmp 76) 25 46 (.agg #[(.string ⟨#[]⟩), (.int .i64 0), (.slice none 0 0)]) 48 rfl Try.underlying25 info46 rfl (by decide) (by omega) (.slice Ao19 x3_1.length co19) x3_1 (⟨(rdOf ByteArray.empty y162 t165), x170001_9, ([] : List Int)⟩ : S46) [.string (rdOf ByteArray.empty y162 t165), .int .i64 x170001_9, .slice none 0 0] (fun k_ => k_ ≠ gb169) (fun _ => False) rfl rfl ?aP (fun k_ hk_ => hk_.elim) ?aF ?aO (Below.refl _ _) ?aS ?aL ?_; (case aP => exact k46_mkM _ _ _ (⟨(rdOf ByteArray.empty y162 t165), x170001_9, ([] : List Int)⟩ : S46) (Kd.R_nil _ _ _ _ _)); (case aF => exact (fun k_ hk => Kd.freshB (g := gb169) (o := .cells #[.string (rdOf ByteArray.empty y162 t165), .int .i64 x170001_9, .slice none 0 0] 46 (0, 0)) (by (with_reducible repeat (first | refine qv ?_ _ | refine qw ?_ | refine qx ?_ _)); exact BK169.out) k_ hk)); (case aO => exact (by (with_reducible repeat (first | apply qp | apply qq | apply qr)); exact qG HO_3.out (fun k_ hk => ⟨hk, fun e_ => e_⟩))); (case aS => exact (keep_size (w := w) (g := g) (row := none) (by repeat (first | (with_reducible first | exact HK.out | apply qg | apply qh | apply qi | apply qj | refine qk ?_ GW169.out _) | exact HK.out)))); (case aL => have := LMc81.out; omega); intro v181 w84 ho hb hg hat; rw [← Ny180.out] at ho; have n0_ := qy (blk_grown (g := gb169) (o := .cells #[.string (rdOf ByteArray.empty y162 t165), .int .i64 x170001_9, .slice none 0 0] 46 (0, 0)) (by (with_reducible repeat (first | refine qv ?_ _ | refine qw ?_ | refine qx ?_ _)); exact BK169.out) hg (Kd.S_away HO_3.out (fun _ hk => hk))); have n1_ := qy (IsS69.grown (by repeat (first | (with_reducible first | exact HI0.out | apply qa | apply qb | apply qc | apply qd | apply qe | refine qf ?_ NB0_169.out _) | exact HI0.out)) hg (IsS69.own_neS HI0.out HO_3.out (by decide))); have n2_ := qy (below_weaken (by repeat (first | (with_reducible first | exact HB.out | apply qn | apply ql | apply qm | refine qo ?_ (qI HI0.out) | refine qo ?_ GE169.out) | exact HB.out)) HL.out hb); have n3_ := qy (qB (by repeat (first | (with_reducible first | exact HK.out | apply qg | apply qh | apply qi | apply qj | refine qk ?_ GW169.out _) | exact HK.out)) (KeepBut.of_grown hg g) (Kd.S_base2 HO_3.out)); have n4_ := qy (ho); clear BK169 HI0 HB HK HO_3; have BK169 := n0_; have HI0 := n1_; have HB := n2_; have HK := n3_; have HO182 := n4_; clear n0_ n1_ n2_ n3_ n4_ ho hb hg hat))
       go_roundg kj9
       case measure => have := HK1.out; have := HJ9.out; omega
       case rel => exact ⟨(y180), (wrap64 (x4_1 - 1)), (x1001_9), (x1002_9), (by first | rfl | (simp; done) | (simp [*]; done)), H', ⟨by have := HK1.out; have := HJ9.out; omega⟩, ⟨by (with_reducible repeat (first | apply qp | apply qq | apply qr)); exact qG HO182.out (fun _ hk => trivial)⟩, ⟨by repeat (first | (with_reducible first | exact HI0.out | apply qa | apply qb | apply qc | apply qd | apply qe | refine qf ?_ NB0_169.out _) | exact HI0.out)⟩, ⟨by repeat (first | (with_reducible first | exact HK.out | apply qg | apply qh | apply qi | apply qj | refine qk ?_ GW169.out _) | exact HK.out)⟩, ⟨by repeat (first | (with_reducible first | exact HB.out | apply qn | apply ql | apply qm | refine qo ?_ (qI HI0.out) | refine qo ?_ GE169.out) | exact HB.out)⟩⟩
      ·replace c80 := Bool.eq_false_iff.mpr c80
       subst c80
       have H1 := H; rw [if_neg (show ¬ (false = true) by decide)] at H1
       clear H
       have H := H1
       clear H1
       replace H := Option.bind_eq_some_iff.mp H
       obtain ⟨⟨t183, t184, t185⟩, A850, H⟩ := H
       have A85 := qy A850
       clear A850
       have H' := qy H
       clear H
       have hnb86 := NB169_0.out
       have hnc86 := NB0_169.out
       have hcz87_0 : wc.cell? ⟨gb169, 0, none⟩ = some (.string (rdOf ByteArray.empty y162 t165)) := (blk_cell BK169.out 0).trans rfl
       have hcz87_1 : wc.cell? ⟨gb169, 1, none⟩ = some (.int .i64 x170001_9) := (blk_cell BK169.out 1).trans rfl
       have hcz87_2 : wc.cell? ⟨gb169, 2, none⟩ = some (.slice none 0 0) := (blk_cell BK169.out 2).trans rfl
       have hfz87_0 := blk_frozen BK169.out 0
       have hfz87_1 := blk_frozen BK169.out 1
       have hfz87_2 := blk_frozen BK169.out 2
       go_wp2_with (first | ((with_reducible refine gate_callee (f := 35) rfl ?_); refine goesL_ (some 58) rfl rfl Try.func35 (by kernel_rfl) rfl #[.string (rdOf ByteArray.empty y162 t165)] rfl (by (try simp only [List.map_toArray, List.map_cons, List.map_nil]); first | done | rfl) ?_; (with_reducible refine (spec_l2Holds.calls (rdOf ByteArray.empty y162 t165) false _ A79.out).mono ?_); rintro e w' ⟨rfl, ⟨nd, rfl⟩⟩; refine ⟨_, rfl, ?_⟩) | ((with_reducible refine gate_callee (f := 56) rfl ?_); refine goesL_ (some 61) rfl rfl Try.func56 (by kernel_rfl) rfl #[.pointer (some ⟨g, 0, none⟩), .int .i64 6] rfl (by (try simp only [List.map_toArray, List.map_cons, List.map_nil]); first | done | rfl) ?_; (with_reducible refine (spec_l1Below.calls g s0_0 x1001_9 x1002_9 6 t183 t184 t185 w0 _ ?side1 ?side2 A85.out).mono ?_); (case side1 => repeat (first | (with_reducible first | exact HI0.out | apply qa | apply qb | apply qc | apply qd | apply qe | refine qf ?_ NB0_169.out _) | exact HI0.out)); (case side2 => repeat (first | (with_reducible first | exact HB.out | apply qn | apply ql | apply qm | refine qo ?_ (qI HI0.out) | refine qo ?_ GE169.out) | exact HB.out)); rintro e w88 ⟨rfl, hi, hb, hk⟩; refine ⟨_, rfl, ?_⟩; have n0_ := qy (qG (qE (qz (show IsS69 w0 _ g s0_0 x1001_9 x1002_9 from by repeat (first | (with_reducible first | exact HI0.out | apply qa | apply qb | apply qc | apply qd | apply qe | refine qf ?_ NB0_169.out _) | exact HI0.out)) (by (with_reducible repeat (first | apply qp | apply qq | apply qr)); exact HO_3.out) (by decide)) hk (fun _ h => h.2)) (fun _ h => h.1)); have n1_ := qy (qC hk (g' := gb169) (o := .cells #[.string (rdOf ByteArray.empty y162 t165), .int .i64 x170001_9, .slice none 0 0] 46 (0, 0)) (by (with_reducible repeat (first | refine qv ?_ _ | refine qw ?_ | refine qx ?_ _)); exact BK169.out) NB169_0.out (by simp)); have n2_ := qy (qB (by repeat (first | (with_reducible first | exact HK.out | apply qg | apply qh | apply qi | apply qj | refine qk ?_ GW169.out _) | exact HK.out)) hk (.inl rfl)); have n3_ := qy (hb); have n4_ := qy (hi); clear HO_3 BK169 HK HB HI0; have HO_3 := n0_; have BK169 := n1_; have HK := n2_; have HB := n3_; have HI0 := n4_; clear n0_ n1_ n2_ n3_ n4_; (try clear hb hk hi)))
       go_loopg [7] kj9 (fun kq v7 w' => ∃ (x7_3 : Int) (x1001_3 : Int) (x1002_3 : Int) (x170002_3 : List Int) (u170002 : Value), v7 = .int .i64 x7_3 ∧ Aside0 (spec_l2DrawBoxes.l1 kq x3_1 x4_1 x7_3 s0_0 x1001_3 x1002_3 (rdOf ByteArray.empty y162 t165) x170001_9 x170002_3 = some (r1, r2, r3)) ∧ Aside0 (kq ≤ kj9) ∧ Aside0 (Kd.S k46 46 w' w.heap.size (fun k_ => some k_ ≠ (u170002 : Value).ownBlock ∧ k_ ≠ gb169) (.slice Ao19 x3_1.length co19) x3_1) ∧ Aside0 (Kd.R (Kd.int .u8) 5 w' w.heap.size (fun _ => True) u170002 x170002_3) ∧ Aside0 (w'.heap[gb169]? = some (.cells #[.string (rdOf ByteArray.empty y162 t165), .int .i64 x170001_9, u170002] 46 (0, 0))) ∧ Aside0 (IsS69 w0 w' g s0_0 x1001_3 x1002_3) ∧ Aside0 (KeepBut w w' g none) ∧ Aside0 (Below w0.heap.size w0 w'))
       case atStart => exact ⟨(t183), (t184), (t185), (([] : List Int)), (.slice none 0 0), (by first | rfl | (simp; done) | (simp [*]; done)), H', ⟨Nat.le_refl _⟩, ⟨by (with_reducible repeat (first | apply qp | apply qq | apply qr)); exact qG HO_3.out (fun _ hk => ⟨(by simp [Value.ownBlock]), hk⟩)⟩, ⟨by first | exact Kd.R_nil _ _ _ _ _ | exact Kd.N_nil _ _ _ _ _ | exact Kd.V_nil _ _ _ _ _ | exact Kd.Q_nil _ _ _ _ _ | exact Kd.S_nil _ _ _ _ _⟩, ⟨by (with_reducible repeat (first | refine qv ?_ _ | refine qw ?_ | refine qx ?_ _)); exact BK169.out⟩, ⟨by repeat (first | (with_reducible first | exact HI0.out | apply qa | apply qb | apply qc | apply qd | apply qe | refine qf ?_ NB0_169.out _) | exact HI0.out)⟩, ⟨by repeat (first | (with_reducible first | exact HK.out | apply qg | apply qh | apply qi | apply qj | refine qk ?_ GW169.out _) | exact HK.out)⟩, ⟨by repeat (first | (with_reducible first | exact HB.out | apply qn | apply ql | apply qm | refine qo ?_ (qI HI0.out) | refine qo ?_ GE169.out) | exact HB.out)⟩⟩
       case round =>
        clear H'
        try clear hcz17_0
        try clear hcz17_1
        try clear hcz17_2
        try clear hcz33_0
        try clear hcz33_1
        try clear hcz33_2
        try clear hcz35_0
        try clear hcz35_1
        try clear hcz35_2
        try clear hcz38_0
        try clear hcz38_1
        try clear hcz38_2
        try clear hcz40_0
        try clear hcz40_1
        try clear hcz40_2
        try clear hcz45_0
        try clear hcz45_1
        try clear hcz45_2
        try clear hcz47_0
        try clear hcz47_1
        try clear hcz47_2
        try clear hcz50_0
        try clear hcz50_1
        try clear hcz50_2
        try clear hcz52_0
        try clear hcz52_1
        try clear hcz52_2
        try clear hcz54_0
        try clear hcz54_1
        try clear hcz54_2
        try clear hcz55_0
        try clear hcz55_1
        try clear hcz55_2
        try clear hcz60_0
        try clear hcz60_1
        try clear hcz60_2
        try clear hcz62_0
        try clear hcz62_1
        try clear hcz62_2
        try clear hcz65_0
        try clear hcz65_1
        try clear hcz65_2
        try clear hcz67_0
        try clear hcz67_1
        try clear hcz67_2
        try clear hcz71_0
        try clear hcz71_1
        try clear hcz71_2
        try clear hcz73_0
        try clear hcz73_1
        try clear hcz73_2
        try clear hcz76_0
        try clear hcz76_1
        try clear hcz76_2
        try clear hcz78_0
        try clear hcz78_1
        try clear hcz78_2
        try clear hcz83_0
        try clear hcz83_1
        try clear hcz83_2
        try clear hcz87_0
        try clear hcz87_1
        try clear hcz87_2
        try clear hx168_0
        try clear hx170_0
        try clear hx170_1
        try clear hx170_2
        obtain ⟨x7_3, x1001_3, x1002_3, x170002_3, u170002, rfl, HA, HK3, HO_3, HO_170002, BK169, HI0, HK, HB⟩ := hrel
        cases gk with
        | zero => exact absurd HA.out (by simp [spec_l2DrawBoxes.l1])
        | succ k3 =>
         have H := HA.out
         clear HA
         simp only [spec_l2DrawBoxes.l1] at H
         by_cases c89 : x7_3 > 0
         ·rw [if_pos c89] at H
          have c89b0 : decide (0 < x7_3) = true := decide_eq_true c89
          clear c89
          replace H := Option.bind_eq_some_iff.mp H
          obtain ⟨⟨t186, t187, t188⟩, A900, H⟩ := H
          have A90 := qy A900
          clear A900
          by_cases c91 : x170002_3.length < 140737488355328
          rotate_left
          · rw [if_neg c91] at H; exact absurd H (by simp)
          rw [if_pos c91] at H
          have LMc91 := qy c91
          clear c91
          obtain ⟨y189, hy189⟩ : ∃ y_ : List Int, y_ = (x170002_3 ++ [(t186) % 256]) := ⟨_, rfl⟩
          replace H : (spec_l2DrawBoxes.l1 k3 x3_1 x4_1 (wrap64 (x7_3 - 1)) s0_0 t187 t188 (rdOf ByteArray.empty y162 t165) x170001_9 y189) = some (r1, r2, r3) := by first | (rw [hy189]; with_reducible exact H) | (have H2_ := (Option.bind_some _ _).symm.trans H; rw [hy189]; with_reducible exact H2_) | (have H2_ := (Option.bind_some _ _).symm.trans H; with_reducible exact H2_) | with_reducible exact H | (rw [hy189]; exact H) | exact H
          have Ny189 := qy hy189
          clear hy189
          have H' := qy H
          clear H
          try go_wp2
          have n0_ := qy (qr HO_3.out)
          have n1_ := qy (qu HO_170002.out)
          have n2_ := qy (qw BK169.out)
          have n3_ := qy (qc HI0.out)
          have n4_ := qy (qi HK.out)
          have n5_ := qy (qm HB.out)
          clear HO_3 HO_170002 BK169 HI0 HK HB
          have HO_3 := n0_
          have HO_170002 := n1_
          have BK169 := n2_
          have HI0 := n3_
          have HK := n4_
          have HB := n5_
          clear n0_ n1_ n2_ n3_ n4_ n5_
          refine start_ (n := 9) (S := fun w' => w'.cell? ⟨gb169, 0, none⟩ = some (.string (rdOf ByteArray.empty y162 t165)) ∧ w'.cell? ⟨gb169, 1, none⟩ = some (.int .i64 x170001_9) ∧ w'.cell? ⟨gb169, 2, none⟩ = some (u170002)) (ds := [8]) #[false, false, false, false, false, false, false, false, false] (by kernel_rfl) rfl rfl ⟨(blk_cell BK169.out 0).trans rfl, (blk_cell BK169.out 1).trans rfl, (blk_cell BK169.out 2).trans rfl⟩ (fun hHeld => ?_); refine with_tabW spec_l2DrawBoxes.tab15 spec_l2DrawBoxes.bits15 (fun HT_ HW_ => ?_)
          generalize wr.drew = w92 at HO_3 HO_170002 BK169 HI0 HK HB hHeld ⊢
          refine pure_ (i := 0) (N := some 66) (v := ?_) (a' := ?_) #[true, false, false, false, false, false, false, false, false] rfl rfl (any_of HT_.out (by kernel_rfl)) (fun _ _ _ h => h) (Or.inl ⟨by rfl, ?_⟩) ?_ ?_
          rotate_left
          ·intro w'
           go_simp
           with_reducible rfl
          rotate_left
          ·simp only [Act.put, u12a, u12b, u12c, i64_w, i32_w]
           rfl
          refine pure_ (i := 2) (N := some 68) (v := ?_) (a' := ?_) #[true, false, true, false, false, false, false, false, false] rfl rfl (any_of HT_.out (by kernel_rfl)) (fun _ _ _ h => h) (Or.inl ⟨by rfl, ?_⟩) ?_ ?_
          rotate_left
          ·intro w'
           go_simp
           with_reducible rfl
          rotate_left
          ·simp only [Act.put, u12a, u12b, u12c, i64_w, i32_w]
           rfl
          refine take_ (i := 1) (N := some 67) (v := ?_) (a' := ?_) #[true, true, true, false, false, false, false, false, false] rfl rfl (take_ofW HT_.out HW_.out (by kernel_rfl)) (fun _ _ _ h => h) (Or.inl ⟨by rfl, ?_⟩) hHeld ?_ ?_
          rotate_left
          ·rintro w' ⟨s0, s1, s2⟩
           go_simp
           with_reducible rfl
          rotate_left
          ·simp only [Act.put, u12a, u12b, u12c, i64_w, i32_w]
           rfl
          refine one_ (i := 3) (N := some 69) #[true, true, true, true, false, false, false, false, false] rfl rfl (one_of HT_.out (by kernel_rfl)) (by decide) (fun K hK => ?_)
          refine goes_ Try.func57 (by kernel_rfl) rfl #[.pointer (some ⟨g, 0, none⟩)] (by rfl) rfl rfl (by (try simp only [List.map_toArray, List.map_cons, List.map_nil]); first | done | rfl) ?_
          with_reducible refine (spec_l1Byte.calls g s0_0 x1001_3 x1002_3 t186 t187 t188 w0 _ ?side1 ?side2 A90.out).mono ?_
          (case side1 => repeat (first | (with_reducible first | exact HI0.out | apply qa | apply qb | apply qc | apply qd | apply qe | refine qf ?_ NB0_169.out _) | exact HI0.out))
          (case side2 => repeat (first | (with_reducible first | exact HB.out | apply qn | apply ql | apply qm | refine qo ?_ (qI HI0.out) | refine qo ?_ GE169.out) | exact HB.out))
          rintro e w93 ⟨rfl, hi, hb, hk⟩
          refine ⟨_, rfl, ?_⟩
          have n0_ := qy (qG (qE (qz (show IsS69 w0 _ g s0_0 x1001_3 x1002_3 from by repeat (first | (with_reducible first | exact HI0.out | apply qa | apply qb | apply qc | apply qd | apply qe | refine qf ?_ NB0_169.out _) | exact HI0.out)) (by (with_reducible repeat (first | apply qp | apply qq | apply qr)); exact HO_3.out) (by decide)) hk (fun _ h => h.2)) (fun _ h => h.1))
          have n1_ := qy (qH (qF (qA (show IsS69 w0 _ g s0_0 x1001_3 x1002_3 from by repeat (first | (with_reducible first | exact HI0.out | apply qa | apply qb | apply qc | apply qd | apply qe | refine qf ?_ NB0_169.out _) | exact HI0.out)) (by (with_reducible repeat (first | apply qs | apply qt | apply qu)); exact HO_170002.out) (by decide)) hk (fun _ h => h.2)) (fun _ h => h.1))
          have n2_ := qy (qC hk (g' := gb169) (o := .cells #[.string (rdOf ByteArray.empty y162 t165), .int .i64 x170001_9, u170002] 46 (0, 0)) (by (with_reducible repeat (first | refine qv ?_ _ | refine qw ?_ | refine qx ?_ _)); exact BK169.out) NB169_0.out (by simp))
          have n3_ := qy (qB (by repeat (first | (with_reducible first | exact HK.out | apply qg | apply qh | apply qi | apply qj | refine qk ?_ GW169.out _) | exact HK.out)) hk (.inl rfl))
          have n4_ := qy (hb)
          have n5_ := qy (hi)
          clear HO_3 HO_170002 BK169 HK HB HI0
          have HO_3 := n0_
          have HO_170002 := n1_
          have BK169 := n2_
          have HK := n3_
          have HB := n4_
          have HI0 := n5_
          clear n0_ n1_ n2_ n3_ n4_ n5_
          (try clear hb)
          (try clear hb2)
          (try clear hk)
          (try clear hi)
          refine hK.out _ _ ⟨(blk_cell BK169.out 0).trans rfl, (blk_cell BK169.out 1).trans rfl, (blk_cell BK169.out 2).trans rfl⟩ (fun hHeld => ?_)
          clear hK K
          refine norm_ (a' := ?_) ?_ ?_
          rotate_left
          ·show Act.put _ (some 69) _ = _
           simp only [Act.put, u12a, u12b, u12c, i64_w, i32_w]
           rfl
          refine pure_ (i := 4) (N := some 70) (v := ?_) (a' := ?_) #[true, true, true, true, true, false, false, false, false] rfl rfl (any_of HT_.out (by kernel_rfl)) (fun _ _ _ h => h) (Or.inl ⟨by rfl, ?_⟩) ?_ ?_
          rotate_left
          ·intro w'
           go_simp
           with_reducible rfl
          rotate_left
          ·simp only [Act.put, u12a, u12b, u12c, i64_w, i32_w]
           rfl
          refine one_ (i := 5) (N := some 71) #[true, true, true, true, true, true, false, false, false] rfl rfl (one_of HT_.out (by kernel_rfl)) (by decide) (fun K hK => ?_)
          refine value_ (w1 := ?_) (v := ?_) (by rfl) rfl ?_ ?_
          rotate_left 2
          ·go_simp
           constructor
           ·rfl
           ·rfl
          refine hK.out _ _ ⟨(blk_cell (qx BK169.out _) 0).trans rfl, (blk_cell (qx BK169.out _) 1).trans rfl, (blk_cell (qx BK169.out _) 2).trans rfl⟩ (fun hHeld => ?_)
          clear hK K
          refine norm_ (a' := ?_) ?_ ?_
          rotate_left
          ·show Act.put _ (some 71) _ = _
           simp only [Act.put, u12a, u12b, u12c, i64_w, i32_w]
           rfl
          refine one_ (i := 6) (N := some 72) #[true, true, true, true, true, true, true, false, false] rfl rfl (one_of HT_.out (by kernel_rfl)) (by decide) (fun K hK => ?_)
          refine Kd.R_append_step (Kd.int .u8) w.heap.size (by rfl) (.tmp 67) (.tmp 71) 29 5 (.int .u8 0) 1 rfl Try.underlying29 info5 rfl (by decide) (by omega) u170002 x170002_3 ((t186) % 256) [.int .u8 ((t186) % 256)] (fun _ => True) (fun _ => False) rfl rfl ?aP (fun _ hk => hk.elim) ?aF ?aO (Below.refl _ _) ?aS ?aL ?_
          (case aP => exact rfl)
          (case aF => exact (fun _ _ => trivial))
          (case aO => exact (by (with_reducible repeat (first | apply qs | apply qt | apply qu)); exact HO_170002.out))
          (case aS => exact (keep_size (w := w) (g := g) (row := none) (by repeat (first | (with_reducible first | exact HK.out | apply qg | apply qh | apply qi | apply qj | refine qk ?_ GW169.out _) | exact HK.out))))
          (case aL => have := LMc91.out; omega)
          intro v190 w94 ho hb hg hat
          rw [← Ny189.out] at ho
          have n0_ := qy (Kd.S_after (ok := (fun k_ => k_ ≠ gb169)) (by (with_reducible repeat (first | apply qp | apply qq | apply qr)); exact qG HO_3.out (fun _ hk => ⟨hk.2, hk.1⟩)) hg hat)
          have n1_ := qy (blk_grown (g := gb169) (o := .cells #[.string (rdOf ByteArray.empty y162 t165), .int .i64 x170001_9, u170002] 46 (0, 0)) (by (with_reducible repeat (first | refine qv ?_ _ | refine qw ?_ | refine qx ?_ _)); exact BK169.out) hg (Kd.R_ne HO_170002.out BK169.out (by decide)))
          have n2_ := qy (IsS69.grown (by repeat (first | (with_reducible first | exact HI0.out | apply qa | apply qb | apply qc | apply qd | apply qe | refine qf ?_ NB0_169.out _) | exact HI0.out)) hg (IsS69.own_ne HI0.out HO_170002.out (by decide)))
          have n3_ := qy (below_weaken (by repeat (first | (with_reducible first | exact HB.out | apply qn | apply ql | apply qm | refine qo ?_ (qI HI0.out) | refine qo ?_ GE169.out) | exact HB.out)) HL.out hb)
          have n4_ := qy (qB (by repeat (first | (with_reducible first | exact HK.out | apply qg | apply qh | apply qi | apply qj | refine qk ?_ GW169.out _) | exact HK.out)) (KeepBut.of_grown hg g) (Kd.R_base2 HO_170002.out))
          have n5_ := qy (ho)
          clear HO_3 BK169 HI0 HB HK HO_170002
          have HO_3 := n0_
          have BK169 := n1_
          have HI0 := n2_
          have HB := n3_
          have HK := n4_
          have HO191 := n5_
          clear n0_ n1_ n2_ n3_ n4_ n5_ ho hb hg hat
          obtain ⟨Ao95, co95, eo95⟩ := Kd.R_slice HO191.out
          (first | subst eo95 | (injection eo95 with f1_ f2_ f3_; have f4_ := f1_.symm; have f5_ := f3_.symm; clear f1_ f2_ f3_; subst f4_; subst f5_))
          refine hK.out _ _ ⟨(blk_cell BK169.out 0).trans rfl, (blk_cell BK169.out 1).trans rfl, (blk_cell BK169.out 2).trans rfl⟩ (fun hHeld => ?_)
          clear hK K
          refine norm_ (a' := ?_) ?_ ?_
          rotate_left
          ·show Act.put _ (some 72) _ = _
           simp only [Act.put, u12a, u12b, u12c, i64_w, i32_w]
           rfl
          refine pure_ (i := 7) (N := some 73) (v := ?_) (a' := ?_) #[true, true, true, true, true, true, true, true, false] rfl rfl (any_of HT_.out (by kernel_rfl)) (fun _ _ _ h => h) (Or.inl ⟨by rfl, ?_⟩) ?_ ?_
          rotate_left
          ·intro w'
           go_simp
           with_reducible rfl
          rotate_left
          ·simp only [Act.put, u12a, u12b, u12c, i64_w, i32_w]
           rfl
          refine last_ (i := 8) (N := none) #[true, true, true, true, true, true, true, true, true] rfl rfl (one_of HT_.out (by kernel_rfl)) (by decide) (fun K hK => ?_)
          have hs96 : w94.cell? ⟨gb169, 2, none⟩ = some (u170002) := (blk_cell BK169.out 2).trans rfl
          have hfs96 := blk_frozen BK169.out 2
          refine skip_ (w1 := ?_) (by rfl) rfl ?_ ?_
          rotate_left
          ·go_simp
           rfl
          refine hK.out _ _ ?_
          clear hK K
          refine done_ (done_of HT_.out (by kernel_rfl)) ?_
          try go_wp2
          go_roundg k3
          case measure => have := HK1.out; have := HJ9.out; have := HK3.out; omega
          case rel => exact ⟨(wrap64 (x7_3 - 1)), (t187), (t188), (y189), (.slice Ao95 y189.length co95), (by first | rfl | (simp; done) | (simp [*]; done)), H', ⟨by have := HK1.out; have := HJ9.out; have := HK3.out; omega⟩, ⟨by (with_reducible repeat (first | apply qp | apply qq | apply qr)); exact qG (Kd.S_far (p := ⟨gb169, 2, none⟩) (qG HO_3.out (fun k_ hk => (⟨hk, hk.1⟩ : _ ∧ k_ ≠ gb169))) (fun _ hk => hk.2) (.slice Ao95 y189.length co95)) (fun _ hk => ⟨hk.1.2, hk.1.1⟩)⟩, ⟨by (with_reducible repeat (first | apply qs | apply qt | apply qu)); exact qH (qK (p := ⟨gb169, 2, none⟩) (qJ HO191.out BK169.out (by decide)) (fun _ hk => hk.2) (.slice Ao95 y189.length co95)) (fun _ hk => trivial)⟩, ⟨by (with_reducible repeat (first | refine qv ?_ _ | refine qw ?_ | refine qx ?_ _)); refine blk_put (cs := #[.string (rdOf ByteArray.empty y162 t165), .int .i64 x170001_9, u170002]) ?_ 2 _ rfl; (with_reducible repeat (first | refine qv ?_ _ | refine qw ?_ | refine qx ?_ _)); exact BK169.out⟩, ⟨by repeat (first | (with_reducible first | exact HI0.out | apply qa | apply qb | apply qc | apply qd | apply qe | refine qf ?_ NB0_169.out _) | exact HI0.out)⟩, ⟨by repeat (first | (with_reducible first | exact HK.out | apply qg | apply qh | apply qi | apply qj | refine qk ?_ GW169.out _) | exact HK.out)⟩, ⟨by repeat (first | (with_reducible first | exact HB.out | apply qn | apply ql | apply qm | refine qo ?_ (qI HI0.out) | refine qo ?_ GE169.out) | exact HB.out)⟩⟩
         ·rw [if_neg c89] at H
          have c89b0 : decide (0 < x7_3) = false := decide_eq_false c89
          clear c89
          by_cases c97 : x3_1.length < 2932031007402
          rotate_left
          · rw [if_neg c97] at H; exact absurd H (by simp)
          rw [if_pos c97] at H
          have LMc97 := qy c97
          clear c97
          obtain ⟨y192, hy192⟩ : ∃ y_ : List (S46), y_ = (x3_1 ++ [(⟨(rdOf ByteArray.empty y162 t165), x170001_9, x170002_3⟩ : S46)]) := ⟨_, rfl⟩
          replace H : (spec_l2DrawBoxes.l0 k3 y192 (wrap64 (x4_1 - 1)) s0_0 x1001_3 x1002_3) = some (r1, r2, r3) := by first | (rw [hy192]; with_reducible exact H) | (have H2_ := (Option.bind_some _ _).symm.trans H; rw [hy192]; with_reducible exact H2_) | (have H2_ := (Option.bind_some _ _).symm.trans H; with_reducible exact H2_) | with_reducible exact H | (rw [hy192]; exact H) | exact H
          have Ny192 := qy hy192
          clear hy192
          have H' := qy H
          clear H
          have hnb98 := NB169_0.out
          have hnc98 := NB0_169.out
          have hcz99_0 : wr.cell? ⟨gb169, 0, none⟩ = some (.string (rdOf ByteArray.empty y162 t165)) := (blk_cell BK169.out 0).trans rfl
          have hcz99_1 : wr.cell? ⟨gb169, 1, none⟩ = some (.int .i64 x170001_9) := (blk_cell BK169.out 1).trans rfl
          have hcz99_2 : wr.cell? ⟨gb169, 2, none⟩ = some (u170002) := (blk_cell BK169.out 2).trans rfl
          have hfz99_0 := blk_frozen BK169.out 0
          have hfz99_1 := blk_frozen BK169.out 1
          have hfz99_2 := blk_frozen BK169.out 2
          obtain ⟨Ao101, co101, eo101⟩ := Kd.R_slice HO_170002.out
          subst eo101
          go_wp2_with (first | ((with_reducible refine gate_builtin (b := .append) (xs := #[.tmp 74, .tmp 76]) rfl ?_); (try (refine gate_guard (by rfl) ?_; dsimp only)); at_builtin; refine Kd.S_append k46 w.heap.size rfl (.tmp 74) (.tmp 76) 25 46 (.agg #[(.string ⟨#[]⟩), (.int .i64 0), (.slice none 0 0)]) 48 rfl Try.underlying25 info46 rfl (by decide) (by omega) (.slice Ao19 x3_1.length co19) x3_1 (⟨(rdOf ByteArray.empty y162 t165), x170001_9, x170002_3⟩ : S46) [.string (rdOf ByteArray.empty y162 t165), .int .i64 x170001_9, .slice Ao101 x170002_3.length co101] (fun k_ => k_ ≠ gb169) (fun k_ => some k_ = (.slice Ao101 x170002_3.length co101 : Value).ownBlock) rfl rfl ?aP (fun k_ hk_ => ((qH (ok' := fun k_ => ((fun k_ => k_ ≠ gb169)) k_ ∧ some k_ ≠ (.slice Ao19 x3_1.length co19 : Value).ownBlock) (qJ (Kd.R_apart' (HO_170002.out) (Kd.S_typed HO_3.out) (by decide)) BK169.out (by decide)) (fun k_ hk => ⟨hk.2, hk.1.2⟩))).1 k_ hk_.symm) ?aF ?aO (Below.refl _ _) ?aS ?aL ?_; (case aP => exact k46_mkM _ _ _ (⟨(rdOf ByteArray.empty y162 t165), x170001_9, x170002_3⟩ : S46) (qH (Kd.R_tight rfl (qH (ok' := fun k_ => ((fun k_ => k_ ≠ gb169)) k_ ∧ some k_ ≠ (.slice Ao19 x3_1.length co19 : Value).ownBlock) (qJ (Kd.R_apart' (HO_170002.out) (Kd.S_typed HO_3.out) (by decide)) BK169.out (by decide)) (fun k_ hk => ⟨hk.2, hk.1.2⟩))) (fun _ h_ => h_))); (case aF => exact (fun k_ hk => Kd.freshB (g := gb169) (o := .cells #[.string (rdOf ByteArray.empty y162 t165), .int .i64 x170001_9, .slice Ao101 x170002_3.length co101] 46 (0, 0)) (by (with_reducible repeat (first | refine qv ?_ _ | refine qw ?_ | refine qx ?_ _)); exact BK169.out) k_ hk)); (case aO => exact (by (with_reducible repeat (first | apply qp | apply qq | apply qr)); exact qG HO_3.out (fun k_ hk => ⟨hk.2, fun e_ => hk.1 e_⟩))); (case aS => exact (keep_size (w := w) (g := g) (row := none) (by repeat (first | (with_reducible first | exact HK.out | apply qg | apply qh | apply qi | apply qj | refine qk ?_ GW169.out _) | exact HK.out)))); (case aL => have := LMc97.out; omega); intro v193 w100 ho hb hg hat; rw [← Ny192.out] at ho; have n0_ := qy (blk_grown (g := gb169) (o := .cells #[.string (rdOf ByteArray.empty y162 t165), .int .i64 x170001_9, .slice Ao101 x170002_3.length co101] 46 (0, 0)) (by (with_reducible repeat (first | refine qv ?_ _ | refine qw ?_ | refine qx ?_ _)); exact BK169.out) hg (Kd.S_away HO_3.out (fun _ hk => hk.2))); have n1_ := qy (IsS69.grown (by repeat (first | (with_reducible first | exact HI0.out | apply qa | apply qb | apply qc | apply qd | apply qe | refine qf ?_ NB0_169.out _) | exact HI0.out)) hg (IsS69.own_neS HI0.out HO_3.out (by decide))); have n2_ := qy (below_weaken (by repeat (first | (with_reducible first | exact HB.out | apply qn | apply ql | apply qm | refine qo ?_ (qI HI0.out) | refine qo ?_ GE169.out) | exact HB.out)) HL.out hb); have n3_ := qy (qB (by repeat (first | (with_reducible first | exact HK.out | apply qg | apply qh | apply qi | apply qj | refine qk ?_ GW169.out _) | exact HK.out)) (KeepBut.of_grown hg g) (Kd.S_base2 HO_3.out)); have n4_ := qy (ho); clear BK169 HI0 HB HK HO_3 HO_170002; have BK169 := n0_; have HI0 := n1_; have HB := n2_; have HK := n3_; have HO194 := n4_; clear n0_ n1_ n2_ n3_ n4_ ho hb hg hat))
          go_roundg k3
          case measure => have := HK1.out; have := HJ9.out; have := HK3.out; omega
          case rel => exact ⟨(y192), (wrap64 (x4_1 - 1)), (x1001_3), (x1002_3), (by first | rfl | (simp; done) | (simp [*]; done)), H', ⟨by have := HK1.out; have := HJ9.out; have := HK3.out; omega⟩, ⟨by (with_reducible repeat (first | apply qp | apply qq | apply qr)); exact qG HO194.out (fun _ hk => trivial)⟩, ⟨by repeat (first | (with_reducible first | exact HI0.out | apply qa | apply qb | apply qc | apply qd | apply qe | refine qf ?_ NB0_169.out _) | exact HI0.out)⟩, ⟨by repeat (first | (with_reducible first | exact HK.out | apply qg | apply qh | apply qi | apply qj | refine qk ?_ GW169.out _) | exact HK.out)⟩, ⟨by repeat (first | (with_reducible first | exact HB.out | apply qn | apply ql | apply qm | refine qo ?_ (qI HI0.out) | refine qo ?_ GE169.out) | exact HB.out)⟩⟩
   ·rw [if_neg c6] at H
    have c6b0 : decide (0 < x4_1) = false := decide_eq_false c6
    clear c6
    have HC102 := qy H
    clear H
    go_upto_region 17 with (fail)
    go_cut [84] (fun v84 wc => ∃ (kq : Nat) (x84_101 : Bool) (x1001_101 : Int) (x1002_101 : Int), v84 = .bool x84_101 ∧ Aside0 (spec_l2DrawBoxes.j3 kq x3_1 x84_101 s0_0 x1001_101 x1002_101 = some (r1, r2, r3)) ∧ Aside0 (kq ≤ k1) ∧ Aside0 (Kd.S k46 46 wc w.heap.size (fun _ => True) u3 x3_1) ∧ Aside0 (IsS69 w0 wc g s0_0 x1001_101 x1002_101) ∧ Aside0 (KeepBut w wc g none) ∧ Aside0 (Below w0.heap.size w0 wc))
    case first =>
     have H := HC102.out
     clear HC102
     replace H := Option.bind_eq_some_iff.mp H
     obtain ⟨⟨t195, t196, t197⟩, A1030, H⟩ := H
     have A103 := qy A1030
     clear A1030
     by_cases c104 : t195 = true
     ·subst c104
      have H1 := H; rw [if_pos rfl] at H1
      clear H
      have H := H1
      clear H1
      have H' := qy H
      clear H
      go_wp2_with (first | ((with_reducible refine gate_callee (f := 58) rfl ?_); refine goesL_ (some 79) rfl rfl Try.func58 (by kernel_rfl) rfl #[.pointer (some ⟨g, 0, none⟩), .int .i64 16] rfl (by (try simp only [List.map_toArray, List.map_cons, List.map_nil]); first | done | rfl) ?_; (with_reducible refine (spec_l1Once.calls g s0_0 x1001_1 x1002_1 16 true t196 t197 w0 _ ?side1 ?side2 A103.out).mono ?_); (case side1 => repeat (first | (with_reducible first | exact HI0.out | apply qa | apply qb | apply qc | apply qd | apply qe) | exact HI0.out)); (case side2 => repeat (first | (with_reducible first | exact HB.out | apply qn | apply ql | apply qm | refine qo ?_ (qI HI0.out)) | exact HB.out)); rintro e w105 ⟨rfl, hi, hb, hk⟩; refine ⟨_, rfl, ?_⟩; have n0_ := qy (qG (qE (qz (show IsS69 w0 _ g s0_0 x1001_1 x1002_1 from by repeat (first | (with_reducible first | exact HI0.out | apply qa | apply qb | apply qc | apply qd | apply qe) | exact HI0.out)) (by (with_reducible repeat (first | apply qp | apply qq | apply qr)); exact HO_3.out) (by decide)) hk (fun _ h => h.2)) (fun _ h => h.1)); have n1_ := qy (qB (by repeat (first | (with_reducible first | exact HK.out | apply qg | apply qh | apply qi | apply qj) | exact HK.out)) hk (.inl rfl)); have n2_ := qy (hb); have n3_ := qy (hi); clear HO_3 HK HB HI0; have HO_3 := n0_; have HK := n1_; have HB := n2_; have HI0 := n3_; clear n0_ n1_ n2_ n3_; (try clear hb hk hi); obtain ⟨Ao106, co106, eo106⟩ := Kd.S_slice HO_3.out; subst eo106))
      go_meet
      case rel => exact ⟨_, (decide ((x3_1.length : Int) > 0)), (t196), (t197), (by first | rfl | (simp; done) | (simp [*]; done)), H', ⟨by have := HK1.out; first | omega | exact Nat.le_refl _⟩, ⟨by (with_reducible repeat (first | apply qp | apply qq | apply qr)); exact HO_3.out⟩, ⟨by repeat (first | (with_reducible first | exact HI0.out | apply qa | apply qb | apply qc | apply qd | apply qe) | exact HI0.out)⟩, ⟨by repeat (first | (with_reducible first | exact HK.out | apply qg | apply qh | apply qi | apply qj) | exact HK.out)⟩, ⟨by repeat (first | (with_reducible first | exact HB.out | apply qn | apply ql | apply qm | refine qo ?_ (qI HI0.out)) | exact HB.out)⟩⟩
     ·replace c104 := Bool.eq_false_iff.mpr c104
      subst c104
      have H1 := H; rw [if_neg (show ¬ (false = true) by decide)] at H1
      clear H
      have H := H1
      clear H1
      have H' := qy H
      clear H
      go_wp2_with (first | ((with_reducible refine gate_callee (f := 58) rfl ?_); refine goesL_ (some 79) rfl rfl Try.func58 (by kernel_rfl) rfl #[.pointer (some ⟨g, 0, none⟩), .int .i64 16] rfl (by (try simp only [List.map_toArray, List.map_cons, List.map_nil]); first | done | rfl) ?_; (with_reducible refine (spec_l1Once.calls g s0_0 x1001_1 x1002_1 16 false t196 t197 w0 _ ?side1 ?side2 A103.out).mono ?_); (case side1 => repeat (first | (with_reducible first | exact HI0.out | apply qa | apply qb | apply qc | apply qd | apply qe) | exact HI0.out)); (case side2 => repeat (first | (with_reducible first | exact HB.out | apply qn | apply ql | apply qm | refine qo ?_ (qI HI0.out)) | exact HB.out)); rintro e w107 ⟨rfl, hi, hb, hk⟩; refine ⟨_, rfl, ?_⟩; have n0_ := qy (qG (qE (qz (show IsS69 w0 _ g s0_0 x1001_1 x1002_1 from by repeat (first | (with_reducible first | exact HI0.out | apply qa | apply qb | apply qc | apply qd | apply qe) | exact HI0.out)) (by (with_reducible repeat (first | apply qp | apply qq | apply qr)); exact HO_3.out) (by decide)) hk (fun _ h => h.2)) (fun _ h => h.1)); have n1_ := qy (qB (by repeat (first | (with_reducible first | exact HK.out | apply qg | apply qh | apply qi | apply qj) | exact HK.out)) hk (.inl rfl)); have n2_ := qy (hb); have n3_ := qy (hi); clear HO_3 HK HB HI0; have HO_3 := n0_; have HK := n1_; have HB := n2_; have HI0 := n3_; clear n0_ n1_ n2_ n3_; (try clear hb hk hi)))
      go_meet
      case rel => exact ⟨_, (false), (t196), (t197), (by first | rfl | (simp; done) | (simp [*]; done)), H', ⟨by have := HK1.out; first | omega | exact Nat.le_refl _⟩, ⟨by (with_reducible repeat (first | apply qp | apply qq | apply qr)); exact HO_3.out⟩, ⟨by repeat (first | (with_reducible first | exact HI0.out | apply qa | apply qb | apply qc | apply qd | apply qe) | exact HI0.out)⟩, ⟨by repeat (first | (with_reducible first | exact HK.out | apply qg | apply qh | apply qi | apply qj) | exact HK.out)⟩, ⟨by repeat (first | (with_reducible first | exact HB.out | apply qn | apply ql | apply qm | refine qo ?_ (qI HI0.out)) | exact HB.out)⟩⟩
    case rest =>
     clear HC102
     try clear hcz17_0
     try clear hcz17_1
     try clear hcz17_2
     try clear hcz33_0
     try clear hcz33_1
     try clear hcz33_2
     try clear hcz35_0
     try clear hcz35_1
     try clear hcz35_2
     try clear hcz38_0
     try clear hcz38_1
     try clear hcz38_2
     try clear hcz40_0
     try clear hcz40_1
     try clear hcz40_2
     try clear hcz45_0
     try clear hcz45_1
     try clear hcz45_2
     try clear hcz47_0
     try clear hcz47_1
     try clear hcz47_2
     try clear hcz50_0
     try clear hcz50_1
     try clear hcz50_2
     try clear hcz52_0
     try clear hcz52_1
     try clear hcz52_2
     try clear hcz54_0
     try clear hcz54_1
     try clear hcz54_2
     try clear hcz55_0
     try clear hcz55_1
     try clear hcz55_2
     try clear hcz60_0
     try clear hcz60_1
     try clear hcz60_2
     try clear hcz62_0
     try clear hcz62_1
     try clear hcz62_2
     try clear hcz65_0
     try clear hcz65_1
     try clear hcz65_2
     try clear hcz67_0
     try clear hcz67_1
     try clear hcz67_2
     try clear hcz71_0
     try clear hcz71_1
     try clear hcz71_2
     try clear hcz73_0
     try clear hcz73_1
     try clear hcz73_2
     try clear hcz76_0
     try clear hcz76_1
     try clear hcz76_2
     try clear hcz78_0
     try clear hcz78_1
     try clear hcz78_2
     try clear hcz83_0
     try clear hcz83_1
     try clear hcz83_2
     try clear hcz87_0
     try clear hcz87_1
     try clear hcz87_2
     try clear hcz99_0
     try clear hcz99_1
     try clear hcz99_2
     try clear hx168_0
     try clear hx170_0
     try clear hx170_1
     try clear hx170_2
     obtain ⟨kq, x84_101, x1001_101, x1002_101, rfl, HA, HJ101, HO_3, HI0, HK, HB⟩ := hcut
     cases kq with
     | zero => exact absurd HA.out (by simp [spec_l2DrawBoxes.j3])
     | succ kj101 =>
      have H := HA.out
      clear HA
      simp only [spec_l2DrawBoxes.j3] at H
      have HC108 := qy H
      clear H
      go_upto_if 84 with (fail)
      go_cut [] (fun wc => ∃ (kq : Nat) (x3_107 : List (S46)) (x1001_107 : Int) (x1002_107 : Int), Aside0 (spec_l2DrawBoxes.j4 kq x3_107 s0_0 x1001_107 x1002_107 = some (r1, r2, r3)) ∧ Aside0 (kq ≤ kj101) ∧ Aside0 (Kd.S k46 46 wc w.heap.size (fun _ => True) u3 x3_107) ∧ Aside0 (IsS69 w0 wc g s0_0 x1001_107 x1002_107) ∧ Aside0 (KeepBut w wc g none) ∧ Aside0 (Below w0.heap.size w0 wc))
      case first =>
       have H := HC108.out
       clear HC108
       by_cases c109 : x84_101 = true
       ·subst c109
        have H1 := H; rw [if_pos rfl] at H1
        clear H
        have H := H1
        clear H1
        replace H := Option.bind_eq_some_iff.mp H
        obtain ⟨⟨t198, t199, t200⟩, A1100, H⟩ := H
        have A110 := qy A1100
        clear A1100
        by_cases c111 : 0 ≤ t198
        rotate_left
        · rw [if_neg c111] at H; exact absurd H (by simp)
        rw [if_pos c111] at H
        have c111b0 : decide (0 ≤ t198) = true := decide_eq_true c111
        clear c111
        (first | rw [c111b0] | (simp only [i64_w, i32_w]; rw [c111b0]) | rw [c111b1] | skip)
        by_cases c112 : t198 < (x3_1.length : Int)
        rotate_left
        · rw [if_neg c112] at H; exact absurd H (by simp)
        rw [if_pos c112] at H
        have c112b0 : decide (t198 < (x3_1.length : Int)) = true := decide_eq_true c112
        clear c112
        replace H := Option.bind_eq_some_iff.mp H
        obtain ⟨⟨t201, t202, t203⟩, A1140, H⟩ := H
        have A114 := qy A1140
        clear A1140
        by_cases c115 : t201 = 0
        ·rw [if_pos c115] at H
         have c115b0 : (t201 == 0) = true := beq_iff_eq.mpr c115
         have c115b1 : (t201 != 0) = false := bne_eq_false_iff_eq.mpr c115
         clear c115
         obtain ⟨y204, hy204⟩ : ∃ y_ : List ByteArray, y_ = (([(⟨#[]⟩ : ByteArray), (⟨#[97, 98, 99]⟩ : ByteArray), (⟨#[97, 98, 45, 100]⟩ : ByteArray), (⟨#[97, 98, 99, 100, 101]⟩ : ByteArray), (⟨#[77, 79, 79, 86]⟩ : ByteArray)] : List ByteArray)) := ⟨_, rfl⟩
         replace H : ((spec_l1Below.f s0_0 t202 t203 5).bind fun bt207 => (if 0 ≤ bt207.1 then (if bt207.1 < (y204.length : Int) then (spec_l2DrawBoxes.j4 kj101 (x3_1.set (t198 : Int).toNat (⟨rdOf ByteArray.empty y204 bt207.1, (rd_T46 x3_1 t198).f1, (rd_T46 x3_1 t198).f2⟩ : S46)) s0_0 bt207.2.1 bt207.2.2) else (none)) else (none))) = some (r1, r2, r3) := by first | (rw [hy204]; with_reducible exact H) | (have H2_ := (Option.bind_some _ _).symm.trans H; rw [hy204]; with_reducible exact H2_) | (have H2_ := (Option.bind_some _ _).symm.trans H; with_reducible exact H2_) | with_reducible exact H | (rw [hy204]; exact H) | exact H
         have Ny204 := qy hy204
         clear hy204
         replace H := Option.bind_eq_some_iff.mp H
         obtain ⟨⟨t207, t208, t209⟩, A1160, H⟩ := H
         have A116 := qy A1160
         clear A1160
         by_cases c117 : 0 ≤ t207
         rotate_left
         · rw [if_neg c117] at H; exact absurd H (by simp)
         rw [if_pos c117] at H
         have c117b0 : decide (0 ≤ t207) = true := decide_eq_true c117
         clear c117
         by_cases c118 : t207 < (y204.length : Int)
         rotate_left
         · rw [if_neg c118] at H; exact absurd H (by simp)
         rw [if_pos c118] at H
         have c118b0 : decide (t207 < (y204.length : Int)) = true := decide_eq_true c118
         clear c118
         obtain ⟨y211, hy211⟩ : ∃ y_ : List (S46), y_ = (x3_1.set (t198 : Int).toNat (⟨rdOf ByteArray.empty y204 t207, (rd_T46 x3_1 t198).f1, (rd_T46 x3_1 t198).f2⟩ : S46)) := ⟨_, rfl⟩
         replace H : (spec_l2DrawBoxes.j4 kj101 y211 s0_0 t208 t209) = some (r1, r2, r3) := by first | (rw [hy211]; with_reducible exact H) | (have H2_ := (Option.bind_some _ _).symm.trans H; rw [hy211]; with_reducible exact H2_) | (have H2_ := (Option.bind_some _ _).symm.trans H; with_reducible exact H2_) | with_reducible exact H | (rw [hy211]; exact H) | exact H
         have Ny211 := qy hy211
         clear hy211
         have H' := qy H
         clear H
         obtain ⟨Ao120, co120, eo120⟩ := Kd.S_slice HO_3.out
         subst eo120
         go_wp2_with (first | ((with_reducible refine gate_callee (f := 56) rfl ?_); refine goesL_ (some 89) rfl rfl Try.func56 (by kernel_rfl) rfl #[.pointer (some ⟨g, 0, none⟩), .int .i64 (x3_1.length : Int)] rfl (by (try simp only [List.map_toArray, List.map_cons, List.map_nil]); first | done | rfl) ?_; (with_reducible refine (spec_l1Below.calls g s0_0 x1001_101 x1002_101 (x3_1.length : Int) t198 t199 t200 w0 _ ?side1 ?side2 A110.out).mono ?_); (case side1 => repeat (first | (with_reducible first | exact HI0.out | apply qa | apply qb | apply qc | apply qd | apply qe) | exact HI0.out)); (case side2 => repeat (first | (with_reducible first | exact HB.out | apply qn | apply ql | apply qm | refine qo ?_ (qI HI0.out)) | exact HB.out)); rintro e w121 ⟨rfl, hi, hb, hk⟩; refine ⟨_, rfl, ?_⟩; have n0_ := qy (qG (qE (qz (show IsS69 w0 _ g s0_0 x1001_101 x1002_101 from by repeat (first | (with_reducible first | exact HI0.out | apply qa | apply qb | apply qc | apply qd | apply qe) | exact HI0.out)) (by (with_reducible repeat (first | apply qp | apply qq | apply qr)); exact HO_3.out) (by decide)) hk (fun _ h => h.2)) (fun _ h => h.1)); have n1_ := qy (qB (by repeat (first | (with_reducible first | exact HK.out | apply qg | apply qh | apply qi | apply qj) | exact HK.out)) hk (.inl rfl)); have n2_ := qy (hb); have n3_ := qy (hi); clear HO_3 HK HB HI0; have HO_3 := n0_; have HK := n1_; have HB := n2_; have HI0 := n3_; clear n0_ n1_ n2_ n3_; (try clear hb hk hi); have p113 : 0 ≤ (t198 : Int) := of_decide_eq_true (by assumption); have q113 : (t198 : Int) < ((x3_1.length : Int) : Int) := of_decide_eq_true (by assumption); obtain ⟨go113, co113, eo113, gb113, gl113, cl113, HG113⟩ := Kd.S_form HO_3.out (by omega); (first | cases eo113 | (injection eo113 with ea_ en_ ec_; (first | subst ea_ | (injection ea_ with ea_; subst ea_)); subst ec_; clear en_)); have GB113 := qy gb113; have GG113 := qy HG113; clear gb113 gl113 HG113; obtain ⟨_, ce113, hcl113, hM113, hcc113, hfr113, _, _⟩ := Kd.S_elem HO_3.out z46 (t198 : Int) p113 q113; obtain ⟨ve113_2, rfl, ge113_2⟩ := k46_openM hM113; have hx113_0 : w121.cell? ⟨go113, (t198 : Int).toNat * 3, none⟩ = some (.string ((rd_T46 x3_1 t198).f0)) := hcc113 0 _ rfl; have hx113_1 : w121.cell? ⟨go113, (t198 : Int).toNat * 3 + 1, none⟩ = some (.int .i64 ((rd_T46 x3_1 t198).f1)) := hcc113 1 _ rfl; have hx113_2 : w121.cell? ⟨go113, (t198 : Int).toNat * 3 + 2, none⟩ = some (ve113_2) := hcc113 2 _ rfl; have hf113_0 : w121.frozen? ⟨go113, (t198 : Int).toNat * 3, none⟩ = false := hfr113 0; have hf113_1 : w121.frozen? ⟨go113, (t198 : Int).toNat * 3 + 1, none⟩ = false := hfr113 1; have hf113_2 : w121.frozen? ⟨go113, (t198 : Int).toNat * 3 + 2, none⟩ = false := hfr113 2; clear hcl113 hcc113 hfr113 hM113; replace p113 := eq_true p113; replace q113 := eq_true q113) | ((with_reducible refine gate_callee (f := 56) rfl ?_); refine goesL_ (some 92) rfl rfl Try.func56 (by kernel_rfl) rfl #[.pointer (some ⟨g, 0, none⟩), .int .i64 4] rfl (by (try simp only [List.map_toArray, List.map_cons, List.map_nil]); first | done | rfl) ?_; (with_reducible refine (spec_l1Below.calls g s0_0 t199 t200 4 t201 t202 t203 w0 _ ?side1 ?side2 A114.out).mono ?_); (case side1 => repeat (first | (with_reducible first | exact HI0.out | apply qa | apply qb | apply qc | apply qd | apply qe) | exact HI0.out)); (case side2 => repeat (first | (with_reducible first | exact HB.out | apply qn | apply ql | apply qm | refine qo ?_ (qI HI0.out)) | exact HB.out)); rintro e w122 ⟨rfl, hi, hb, hk⟩; refine ⟨_, rfl, ?_⟩; have n0_ := qy (qG (qE (qz (show IsS69 w0 _ g s0_0 t199 t200 from by repeat (first | (with_reducible first | exact HI0.out | apply qa | apply qb | apply qc | apply qd | apply qe) | exact HI0.out)) (by (with_reducible repeat (first | apply qp | apply qq | apply qr)); exact HO_3.out) (by decide)) hk (fun _ h => h.2)) (fun _ h => h.1)); have n1_ := qy (qB (by repeat (first | (with_reducible first | exact HK.out | apply qg | apply qh | apply qi | apply qj) | exact HK.out)) hk (.inl rfl)); have n2_ := qy (hb); have n3_ := qy (hi); clear HO_3 HK HB HI0; have HO_3 := n0_; have HK := n1_; have HB := n2_; have HI0 := n3_; clear n0_ n1_ n2_ n3_; (try clear hb hk hi)) | ((with_reducible refine gate_dst (N := 96) rfl ?_); (try (refine gate_guard (by rfl) ?_; dsimp only)); refine Kd.R_lit Kd.string _ 9 ?hg (N := 96) ?hd (xs := ([(⟨#[]⟩ : ByteArray), (⟨#[97, 98, 99]⟩ : ByteArray), (⟨#[97, 98, 45, 100]⟩ : ByteArray), (⟨#[97, 98, 99, 100, 101]⟩ : ByteArray), (⟨#[77, 79, 79, 86]⟩ : ByteArray)] : List ByteArray)) (inner := [.string (⟨#[]⟩ : ByteArray), .string (⟨#[97, 98, 99]⟩ : ByteArray), .string (⟨#[97, 98, 45, 100]⟩ : ByteArray), .string (⟨#[97, 98, 99, 100, 101]⟩ : ByteArray), .string (⟨#[77, 79, 79, 86]⟩ : ByteArray)]) (ok := fun _ => True) (okp := fun _ => True) ?hr ?hp (fun _ hk => hk) trivial (Below.refl _ _) (Nat.le_refl _) (by simp) ?_; (case hd => rfl); (case hg => rfl); (case hr => first | (go_simp; done) | (go_simp; rfl)); (case hp => exact (Reps.one (show Kd.M Kd.string _ _ _ (⟨#[]⟩ : ByteArray) [.string (⟨#[]⟩ : ByteArray)] from rfl) (Reps.one (show Kd.M Kd.string _ _ _ (⟨#[97, 98, 99]⟩ : ByteArray) [.string (⟨#[97, 98, 99]⟩ : ByteArray)] from rfl) (Reps.one (show Kd.M Kd.string _ _ _ (⟨#[97, 98, 45, 100]⟩ : ByteArray) [.string (⟨#[97, 98, 45, 100]⟩ : ByteArray)] from rfl) (Reps.one (show Kd.M Kd.string _ _ _ (⟨#[97, 98, 99, 100, 101]⟩ : ByteArray) [.string (⟨#[97, 98, 99, 100, 101]⟩ : ByteArray)] from rfl) (Reps.one (show Kd.M Kd.string _ _ _ (⟨#[77, 79, 79, 86]⟩ : ByteArray) [.string (⟨#[77, 79, 79, 86]⟩ : ByteArray)] from rfl) (Reps.none _ _))))))); intro v205 w123 ho124 hb hg_ hnew_; clear hg_ hnew_; (first | rw [← Ny204.out] at ho124 | (simp only [Int.reduceToNat] at ho124; rw [← Ny204.out] at ho124)); have n0_ := qy (Kd.S_below (by (with_reducible repeat (first | apply qp | apply qq | apply qr)); exact HO_3.out) hb); have n1_ := qy (Kd.R_lower ho124 (keep_size (w := w) (g := g) (row := none) (by repeat (first | (with_reducible first | exact HK.out | apply qg | apply qh | apply qi | apply qj) | exact HK.out)))); have n2_ := qy (IsS69.below (by repeat (first | (with_reducible first | exact HI0.out | apply qa | apply qb | apply qc | apply qd | apply qe) | exact HI0.out)) hb); have n3_ := qy (qB (by repeat (first | (with_reducible first | exact HK.out | apply qg | apply qh | apply qi | apply qj) | exact HK.out)) (KeepBut.of_below hb g none) (.inl rfl)); have n4_ := qy (below_step (by repeat (first | (with_reducible first | exact HB.out | apply qn | apply ql | apply qm | refine qo ?_ (qI HI0.out)) | exact HB.out)) hb); clear HO_3 HI0 HK HB; have HO_3 := n0_; have HO206 := n1_; have HI0 := n2_; have HK := n3_; have HB := n4_; clear n0_ n1_ n2_ n3_ n4_ hb ho124) | ((with_reducible refine gate_callee (f := 56) rfl ?_); refine goesL_ (some 98) rfl rfl Try.func56 (by kernel_rfl) rfl #[.pointer (some ⟨g, 0, none⟩), .int .i64 5] rfl (by (try simp only [List.map_toArray, List.map_cons, List.map_nil]); first | done | rfl) ?_; (with_reducible refine (spec_l1Below.calls g s0_0 t202 t203 5 t207 t208 t209 w0 _ ?side1 ?side2 A116.out).mono ?_); (case side1 => repeat (first | (with_reducible first | exact HI0.out | apply qa | apply qb | apply qc | apply qd | apply qe) | exact HI0.out)); (case side2 => repeat (first | (with_reducible first | exact HB.out | apply qn | apply ql | apply qm | refine qo ?_ (qI HI0.out)) | exact HB.out)); rintro e w125 ⟨rfl, hi, hb, hk⟩; refine ⟨_, rfl, ?_⟩; have n0_ := qy (qG (qE (qz (show IsS69 w0 _ g s0_0 t202 t203 from by repeat (first | (with_reducible first | exact HI0.out | apply qa | apply qb | apply qc | apply qd | apply qe) | exact HI0.out)) (by (with_reducible repeat (first | apply qp | apply qq | apply qr)); exact HO_3.out) (by decide)) hk (fun _ h => h.2)) (fun _ h => h.1)); have n1_ := qy (qH (qF (qA (show IsS69 w0 _ g s0_0 t202 t203 from by repeat (first | (with_reducible first | exact HI0.out | apply qa | apply qb | apply qc | apply qd | apply qe) | exact HI0.out)) (by (with_reducible repeat (first | apply qs | apply qt | apply qu)); exact HO206.out) (by decide)) hk (fun _ h => h.2)) (fun _ h => h.1)); have n2_ := qy (qB (by repeat (first | (with_reducible first | exact HK.out | apply qg | apply qh | apply qi | apply qj) | exact HK.out)) hk (.inl rfl)); have n3_ := qy (hb); have n4_ := qy (hi); clear HO_3 HO206 HK HB HI0; have HO_3 := n0_; have HO206 := n1_; have HK := n2_; have HB := n3_; have HI0 := n4_; clear n0_ n1_ n2_ n3_ n4_; (try clear hb hk hi); obtain ⟨Ao126, co126, eo126⟩ := Kd.R_slice HO206.out; subst eo126; have p210 : 0 ≤ (t207 : Int) := of_decide_eq_true (by assumption); have q210 : t207 < (y204.length : Int) := of_decide_eq_true (by assumption); obtain ⟨ad210, e210, hx210_0⟩ := Kd.at_string (Kd.R_reads' HO206.out).2.2 t207 p210 q210; cases e210; replace p210 := eq_true p210; replace q210 := eq_true q210; have p119 : 0 ≤ (t198 : Int) := of_decide_eq_true (by assumption); have q119 : (t198 : Int) < ((x3_1.length : Int) : Int) := of_decide_eq_true (by assumption); obtain ⟨_, ce119, hcl119, hM119, hcc119, hfr119, _, _⟩ := Kd.S_elem HO_3.out z46 (t198 : Int) p119 q119; obtain ⟨ve119_2, rfl, ge119_2⟩ := k46_openM hM119; have hx119_0 : w125.cell? ⟨go113, (t198 : Int).toNat * 3, none⟩ = some (.string ((rd_T46 x3_1 t198).f0)) := hcc119 0 _ rfl; have hx119_1 : w125.cell? ⟨go113, (t198 : Int).toNat * 3 + 1, none⟩ = some (.int .i64 ((rd_T46 x3_1 t198).f1)) := hcc119 1 _ rfl; have hx119_2 : w125.cell? ⟨go113, (t198 : Int).toNat * 3 + 2, none⟩ = some (ve119_2) := hcc119 2 _ rfl; have hf119_0 : w125.frozen? ⟨go113, (t198 : Int).toNat * 3, none⟩ = false := hfr119 0; have hf119_1 : w125.frozen? ⟨go113, (t198 : Int).toNat * 3 + 1, none⟩ = false := hfr119 1; have hf119_2 : w125.frozen? ⟨go113, (t198 : Int).toNat * 3 + 2, none⟩ = false := hfr119 2; clear hcl119 hcc119 hfr119 hM119; replace p119 := eq_true p119; replace q119 := eq_true q119; have HX127 := qy (show Kd.S k46 46 w125 w.heap.size (fun k_ => ((fun _ => True)) k_ ∧ ¬ ((fun _ => False)) k_) (.slice (some ⟨go113, 0, none⟩) x3_1.length co120) x3_1 from (by (with_reducible repeat (first | apply qp | apply qq | apply qr)); exact qG HO_3.out (fun k_ hk => ⟨trivial, fun e_ => e_⟩))); obtain ⟨oki127, ce127, hcl127, hM127, hcc127, hfr127, hoki127, hH127⟩ := Kd.S_elem HX127.out z46 (t198 : Int) (of_decide_eq_true (by assumption)) (by have h_ : (t198 : Int) < ((x3_1.length : Int) : Int) := of_decide_eq_true (by assumption); first | exact h_ | (have e_ := (Kd.S_reads' HO_3.out).1; omega) | simpa using h_); obtain ⟨ve127_2, rfl, ge127_2⟩ := k46_openM hM127; have HP127 := Kd.S_seg hH127 (of_decide_eq_true (by assumption)) (by have h_ : (t198 : Int) < ((x3_1.length : Int) : Int) := of_decide_eq_true (by assumption); first | exact h_ | (have e_ := (Kd.S_reads' HO_3.out).1; omega) | simpa using h_) (seg := [.string (rdOf ByteArray.empty y204 t207)]) (j := 0) (show 1 ≤ 3 from by decide) (x' := (⟨rdOf ByteArray.empty y204 t207, (rd_T46 x3_1 t198).f1, (rd_T46 x3_1 t198).f2⟩ : S46)) (k46_mkM _ _ _ (⟨rdOf ByteArray.empty y204 t207, (rd_T46 x3_1 t198).f1, (rd_T46 x3_1 t198).f2⟩ : S46) (qH ge127_2 (fun _ h_ => Or.inl h_))) (fun _ hk => hk) (fun k_ hk_ => hk_.elim); have hx127_0 := hcc127 0 _ rfl; (try simp only [show (k46).sz = 3 from rfl, Nat.mul_one, Nat.add_zero] at hx127_0); have hf127_0 := hfr127 0; (try simp only [show (k46).sz = 3 from rfl, Nat.mul_one, Nat.add_zero] at hf127_0); clear hcl127 hcc127 hfr127 hM127 hoki127 hH127) | ((with_reducible refine gate_store (t := 9) (p := 102) rfl ?_); refine store_event (t := 9) (p := 102) (v := ?vo_w128) (w1 := (w125.setCell ⟨go113, (t198 : Int).toNat * 3, none⟩ (.string (rdOf ByteArray.empty y204 t207)))) ?hg ?ho ?hn ?hr ?_; (case ho => rfl); (case hg => rfl); (case hn => rfl); (case hr => first | (go_simp; done) | (go_simp; rfl)); intro w128 hw; have hg : w125.grownBy w128 (some go113) := (by rw [hw]; exact HP127.2); have hp_ : Kd.S k46 46 w128 w.heap.size (fun _ => True) (.slice (some ⟨go113, 0, none⟩) x3_1.length co120) y211 := (by rw [hw, Ny211.out]; exact HP127.1); clear HP127; have n0_ := qy (hp_); have n1_ := qy (IsS69.grown (by repeat (first | (with_reducible first | exact HI0.out | apply qa | apply qb | apply qc | apply qd | apply qe) | exact HI0.out)) hg (IsS69.own_neS HI0.out HO_3.out (by decide))); have n2_ := qy (Kd.R_over' (v := (.slice (some ⟨go113, 0, none⟩) x3_1.length co120)) (by (with_reducible repeat (first | apply qs | apply qt | apply qu)); exact HO206.out) (Kd.S_typed HO_3.out) (by decide) hg); have n3_ := qy ((by rw [hw]; exact qo (HB.out) (Nat.le_trans HL.out GB113.out) : Below w0.heap.size w0 w128)); have n4_ := qy (qB (by repeat (first | (with_reducible first | exact HK.out | apply qg | apply qh | apply qi | apply qj) | exact HK.out)) (KeepBut.of_grown hg g) (Kd.S_base2 HO_3.out)); clear HO_3 HI0 HO206 HB HK; have HO_3 := n0_; have HI0 := n1_; have HO206 := n2_; have HB := n3_; have HK := n4_; clear n0_ n1_ n2_ n3_ n4_ hg hw hp_))
         go_meet
         case rel => exact ⟨_, (y211), (t208), (t209), H', ⟨by have := HK1.out; have := HJ101.out; first | omega | exact Nat.le_refl _⟩, ⟨by (with_reducible repeat (first | apply qp | apply qq | apply qr)); exact HO_3.out⟩, ⟨by repeat (first | (with_reducible first | exact HI0.out | apply qa | apply qb | apply qc | apply qd | apply qe) | exact HI0.out)⟩, ⟨by repeat (first | (with_reducible first | exact HK.out | apply qg | apply qh | apply qi | apply qj) | exact HK.out)⟩, ⟨by repeat (first | (with_reducible first | exact HB.out | apply qn | apply ql | apply qm | refine qo ?_ (qI HI0.out)) | exact HB.out)⟩⟩
        ·rw [if_neg c115] at H
         have c115b0 : (t201 == 0) = false := beq_eq_false_iff_ne.mpr c115
         have c115b1 : (t201 != 0) = true := bne_iff_ne.mpr c115
         by_cases c129 : t201 = 1
         ·rw [if_pos c129] at H
          have c129b0 : (t201 == 1) = true := beq_iff_eq.mpr c129
          have c129b1 : (t201 != 1) = false := bne_eq_false_iff_eq.mpr c129
          clear c129
          obtain ⟨y213, hy213⟩ : ∃ y_ : List Int, y_ = (([(-1), 0, 9, wrap64 (((rd_T46 x3_1 t198).f1) + 1)] : List Int)) := ⟨_, rfl⟩
          replace H : ((spec_l1Below.f s0_0 t202 t203 4).bind fun bt216 => (if 0 ≤ bt216.1 then (if bt216.1 < (y213.length : Int) then (spec_l2DrawBoxes.j4 kj101 (x3_1.set (t198 : Int).toNat (⟨(rd_T46 x3_1 t198).f0, rd y213 bt216.1, (rd_T46 x3_1 t198).f2⟩ : S46)) s0_0 bt216.2.1 bt216.2.2) else (none)) else (none))) = some (r1, r2, r3) := by first | (rw [hy213]; with_reducible exact H) | (have H2_ := (Option.bind_some _ _).symm.trans H; rw [hy213]; with_reducible exact H2_) | (have H2_ := (Option.bind_some _ _).symm.trans H; with_reducible exact H2_) | with_reducible exact H | (rw [hy213]; exact H) | exact H
          have Ny213 := qy hy213
          clear hy213
          replace H := Option.bind_eq_some_iff.mp H
          obtain ⟨⟨t216, t217, t218⟩, A1310, H⟩ := H
          have A131 := qy A1310
          clear A1310
          by_cases c132 : 0 ≤ t216
          rotate_left
          · rw [if_neg c132] at H; exact absurd H (by simp)
          rw [if_pos c132] at H
          have c132b0 : decide (0 ≤ t216) = true := decide_eq_true c132
          clear c132
          by_cases c133 : t216 < (y213.length : Int)
          rotate_left
          · rw [if_neg c133] at H; exact absurd H (by simp)
          rw [if_pos c133] at H
          have c133b0 : decide (t216 < (y213.length : Int)) = true := decide_eq_true c133
          clear c133
          obtain ⟨y220, hy220⟩ : ∃ y_ : List (S46), y_ = (x3_1.set (t198 : Int).toNat (⟨(rd_T46 x3_1 t198).f0, rd y213 t216, (rd_T46 x3_1 t198).f2⟩ : S46)) := ⟨_, rfl⟩
          replace H : (spec_l2DrawBoxes.j4 kj101 y220 s0_0 t217 t218) = some (r1, r2, r3) := by first | (rw [hy220]; with_reducible exact H) | (have H2_ := (Option.bind_some _ _).symm.trans H; rw [hy220]; with_reducible exact H2_) | (have H2_ := (Option.bind_some _ _).symm.trans H; with_reducible exact H2_) | with_reducible exact H | (rw [hy220]; exact H) | exact H
          have Ny220 := qy hy220
          clear hy220
          have H' := qy H
          clear H
          obtain ⟨Ao135, co135, eo135⟩ := Kd.S_slice HO_3.out
          subst eo135
          try go_wp2_with (first | ((with_reducible refine gate_callee (f := 56) rfl ?_); refine goesL_ (some 89) rfl rfl Try.func56 (by kernel_rfl) rfl #[.pointer (some ⟨g, 0, none⟩), .int .i64 (x3_1.length : Int)] rfl (by (try simp only [List.map_toArray, List.map_cons, List.map_nil]); first | done | rfl) ?_; (with_reducible refine (spec_l1Below.calls g s0_0 x1001_101 x1002_101 (x3_1.length : Int) t198 t199 t200 w0 _ ?side1 ?side2 A110.out).mono ?_); (case side1 => repeat (first | (with_reducible first | exact HI0.out | apply qa | apply qb | apply qc | apply qd | apply qe) | exact HI0.out)); (case side2 => repeat (first | (with_reducible first | exact HB.out | apply qn | apply ql | apply qm | refine qo ?_ (qI HI0.out)) | exact HB.out)); rintro e w136 ⟨rfl, hi, hb, hk⟩; refine ⟨_, rfl, ?_⟩; have n0_ := qy (qG (qE (qz (show IsS69 w0 _ g s0_0 x1001_101 x1002_101 from by repeat (first | (with_reducible first | exact HI0.out | apply qa | apply qb | apply qc | apply qd | apply qe) | exact HI0.out)) (by (with_reducible repeat (first | apply qp | apply qq | apply qr)); exact HO_3.out) (by decide)) hk (fun _ h => h.2)) (fun _ h => h.1)); have n1_ := qy (qB (by repeat (first | (with_reducible first | exact HK.out | apply qg | apply qh | apply qi | apply qj) | exact HK.out)) hk (.inl rfl)); have n2_ := qy (hb); have n3_ := qy (hi); clear HO_3 HK HB HI0; have HO_3 := n0_; have HK := n1_; have HB := n2_; have HI0 := n3_; clear n0_ n1_ n2_ n3_; (try clear hb hk hi); have p113 : 0 ≤ (t198 : Int) := of_decide_eq_true (by assumption); have q113 : (t198 : Int) < ((x3_1.length : Int) : Int) := of_decide_eq_true (by assumption); obtain ⟨go113, co113, eo113, gb113, gl113, cl113, HG113⟩ := Kd.S_form HO_3.out (by omega); (first | cases eo113 | (injection eo113 with ea_ en_ ec_; (first | subst ea_ | (injection ea_ with ea_; subst ea_)); subst ec_; clear en_)); have GB113 := qy gb113; have GG113 := qy HG113; clear gb113 gl113 HG113; obtain ⟨_, ce113, hcl113, hM113, hcc113, hfr113, _, _⟩ := Kd.S_elem HO_3.out z46 (t198 : Int) p113 q113; obtain ⟨ve113_2, rfl, ge113_2⟩ := k46_openM hM113; have hx113_0 : w136.cell? ⟨go113, (t198 : Int).toNat * 3, none⟩ = some (.string ((rd_T46 x3_1 t198).f0)) := hcc113 0 _ rfl; have hx113_1 : w136.cell? ⟨go113, (t198 : Int).toNat * 3 + 1, none⟩ = some (.int .i64 ((rd_T46 x3_1 t198).f1)) := hcc113 1 _ rfl; have hx113_2 : w136.cell? ⟨go113, (t198 : Int).toNat * 3 + 2, none⟩ = some (ve113_2) := hcc113 2 _ rfl; have hf113_0 : w136.frozen? ⟨go113, (t198 : Int).toNat * 3, none⟩ = false := hfr113 0; have hf113_1 : w136.frozen? ⟨go113, (t198 : Int).toNat * 3 + 1, none⟩ = false := hfr113 1; have hf113_2 : w136.frozen? ⟨go113, (t198 : Int).toNat * 3 + 2, none⟩ = false := hfr113 2; clear hcl113 hcc113 hfr113 hM113; replace p113 := eq_true p113; replace q113 := eq_true q113) | ((with_reducible refine gate_callee (f := 56) rfl ?_); refine goesL_ (some 92) rfl rfl Try.func56 (by kernel_rfl) rfl #[.pointer (some ⟨g, 0, none⟩), .int .i64 4] rfl (by (try simp only [List.map_toArray, List.map_cons, List.map_nil]); first | done | rfl) ?_; (with_reducible refine (spec_l1Below.calls g s0_0 t199 t200 4 t201 t202 t203 w0 _ ?side1 ?side2 A114.out).mono ?_); (case side1 => repeat (first | (with_reducible first | exact HI0.out | apply qa | apply qb | apply qc | apply qd | apply qe) | exact HI0.out)); (case side2 => repeat (first | (with_reducible first | exact HB.out | apply qn | apply ql | apply qm | refine qo ?_ (qI HI0.out)) | exact HB.out)); rintro e w137 ⟨rfl, hi, hb, hk⟩; refine ⟨_, rfl, ?_⟩; have n0_ := qy (qG (qE (qz (show IsS69 w0 _ g s0_0 t199 t200 from by repeat (first | (with_reducible first | exact HI0.out | apply qa | apply qb | apply qc | apply qd | apply qe) | exact HI0.out)) (by (with_reducible repeat (first | apply qp | apply qq | apply qr)); exact HO_3.out) (by decide)) hk (fun _ h => h.2)) (fun _ h => h.1)); have n1_ := qy (qB (by repeat (first | (with_reducible first | exact HK.out | apply qg | apply qh | apply qi | apply qj) | exact HK.out)) hk (.inl rfl)); have n2_ := qy (hb); have n3_ := qy (hi); clear HO_3 HK HB HI0; have HO_3 := n0_; have HK := n1_; have HB := n2_; have HI0 := n3_; clear n0_ n1_ n2_ n3_; (try clear hb hk hi)))
          have pi219 : (0 ≤ (t216 : Int)) = True := eq_true (of_decide_eq_true (by assumption))
          have qi219 : (t216 < (y213.length : Int)) = True := eq_true (of_decide_eq_true (by assumption))
          have n0_ := qy (qr HO_3.out)
          have n1_ := qy (qc HI0.out)
          have n2_ := qy (qi HK.out)
          have n3_ := qy (qm HB.out)
          clear HO_3 HI0 HK HB
          have HO_3 := n0_
          have HI0 := n1_
          have HK := n2_
          have HB := n3_
          clear n0_ n1_ n2_ n3_
          have p130 : 0 ≤ (t198 : Int) := of_decide_eq_true (by assumption)
          have q130 : (t198 : Int) < ((x3_1.length : Int) : Int) := of_decide_eq_true (by assumption)
          obtain ⟨_, ce130, hcl130, hM130, hcc130, hfr130, _, _⟩ := Kd.S_elem HO_3.out z46 (t198 : Int) p130 q130
          obtain ⟨ve130_2, rfl, ge130_2⟩ := k46_openM hM130
          have hx130_0 : World.cell? _ ⟨go113, (t198 : Int).toNat * 3, none⟩ = some (.string ((rd_T46 x3_1 t198).f0)) := hcc130 0 _ rfl
          have hx130_1 : World.cell? _ ⟨go113, (t198 : Int).toNat * 3 + 1, none⟩ = some (.int .i64 ((rd_T46 x3_1 t198).f1)) := hcc130 1 _ rfl
          have hx130_2 : World.cell? _ ⟨go113, (t198 : Int).toNat * 3 + 2, none⟩ = some (ve130_2) := hcc130 2 _ rfl
          have hf130_0 : World.frozen? _ ⟨go113, (t198 : Int).toNat * 3, none⟩ = false := hfr130 0
          have hf130_1 : World.frozen? _ ⟨go113, (t198 : Int).toNat * 3 + 1, none⟩ = false := hfr130 1
          have hf130_2 : World.frozen? _ ⟨go113, (t198 : Int).toNat * 3 + 2, none⟩ = false := hfr130 2
          clear hcl130 hcc130 hfr130 hM130
          replace p130 := eq_true p130
          replace q130 := eq_true q130
          have p212 : 0 ≤ (t198 : Int) := of_decide_eq_true (by assumption)
          have q212 : t198 < (x3_1.length : Int) := of_decide_eq_true (by assumption)
          obtain ⟨ad212, A212_2, c212_2, e212, hx212_0, hx212_1, hx212_2, hl212_2, hi212_2⟩ := at_T46 (Kd.S_reads' HO_3.out).2.2 t198 p212 q212
          obtain rfl : (⟨go113, 0, none⟩ : Addr) = ad212 := (by injection e212)
          obtain ⟨ce212, hce212, hMe212, hcc212⟩ := Kd.S_get HO_3.out z46 t198 p212 (by first | exact q212 | exact of_decide_eq_true (by assumption) | (have e_ := (Kd.S_reads' HO_3.out).1; omega))
          obtain ⟨ve212_2, rfl, ge212_2⟩ := k46_openM hMe212
          have hv212_2 := hcc212 2 _ rfl
          rw [add_field _ _ 2 (by omega)] at hv212_2
          replace hv212_2 := Option.some.inj (hv212_2.symm.trans hx212_2)
          rw [hv212_2] at ge212_2
          have HL212_2 := qy (show Kd.R (Kd.int .u8) 5 _ _ _ _ ((rd_T46 x3_1 t198).f2) from ge212_2)
          clear hv212_2 ge212_2
          have HX212_2 := qy hx212_2
          clear hcc212 hce212
          (first | simp only [add_plain] at hx212_0 | simp only [add_at] at hx212_0 | simp only [Addr.add, Nat.zero_add] at hx212_0 | skip)
          (first | simp only [add_plain] at hx212_1 | simp only [add_at] at hx212_1 | simp only [Addr.add, Nat.zero_add] at hx212_1 | skip)
          (first | simp only [add_plain] at hx212_2 | simp only [add_at] at hx212_2 | simp only [Addr.add, Nat.zero_add] at hx212_2 | skip)
          have HR212_2 := qy hi212_2
          have HC212_2 := qy hl212_2
          clear hi212_2 hl212_2
          replace p212 := eq_true p212
          replace q212 := eq_true q212
          refine start_ (n := 14) (S := fun w' => w'.cell? ⟨go113, (t198).toNat * 3, none⟩ = some (.string ((rd_T46 x3_1 t198).f0)) ∧ w'.cell? ⟨go113, (t198).toNat * 3 + 1, none⟩ = some (.int .i64 ((rd_T46 x3_1 t198).f1)) ∧ w'.cell? ⟨go113, (t198).toNat * 3 + 2, none⟩ = some (.slice A212_2 ((rd_T46 x3_1 t198).f2).length c212_2)) (ds := [13]) #[false, false, false, false, false, false, false, false, false, false, false, false, false, false] (by kernel_rfl) rfl rfl ⟨hx212_0, hx212_1, hx212_2⟩ (fun hHeld => ?_); refine with_tabW spec_l2DrawBoxes.tab23 spec_l2DrawBoxes.bits23 (fun HT_ HW_ => ?_)
          generalize w137.drew = w138 at HO_3 HI0 HK HB HL212_2 HR212_2 HX212_2 hf130_0 hf130_1 hf130_2 hx130_0 hx130_1 hx130_2 hx212_0 hx212_1 hx212_2 hHeld ⊢
          refine pure_ (i := 0) (N := some 105) (v := ?_) (a' := ?_) #[true, false, false, false, false, false, false, false, false, false, false, false, false, false] rfl rfl (any_of HT_.out (by kernel_rfl)) (fun _ _ _ h => h) (Or.inl ⟨by rfl, ?_⟩) ?_ ?_
          rotate_left
          ·intro w'
           go_simp
           with_reducible rfl
          rotate_left
          ·simp only [Act.put, u12a, u12b, u12c, i64_w, i32_w]
           rfl
          refine pure_ (i := 1) (N := some 106) (v := ?_) (a' := ?_) #[true, true, false, false, false, false, false, false, false, false, false, false, false, false] rfl rfl (any_of HT_.out (by kernel_rfl)) (fun _ _ _ h => h) (Or.inl ⟨by rfl, ?_⟩) ?_ ?_
          rotate_left
          ·intro w'
           go_simp
           with_reducible rfl
          rotate_left
          ·simp only [Act.put, u12a, u12b, u12c, i64_w, i32_w]
           rfl
          refine pure_ (i := 2) (N := some 107) (v := ?_) (a' := ?_) #[true, true, true, false, false, false, false, false, false, false, false, false, false, false] rfl rfl (any_of HT_.out (by kernel_rfl)) (fun _ _ _ h => h) (Or.inl ⟨by rfl, ?_⟩) ?_ ?_
          rotate_left
          ·intro w'
           go_simp
           with_reducible rfl
          rotate_left
          ·simp only [Act.put, u12a, u12b, u12c, i64_w, i32_w]
           rfl
          refine pure_ (i := 3) (N := some 108) (v := ?_) (a' := ?_) #[true, true, true, true, false, false, false, false, false, false, false, false, false, false] rfl rfl (any_of HT_.out (by kernel_rfl)) (fun _ _ _ h => h) (Or.inl ⟨by rfl, ?_⟩) ?_ ?_
          rotate_left
          ·intro w'
           go_simp
           with_reducible rfl
          rotate_left
          ·simp only [Act.put, u12a, u12b, u12c, i64_w, i32_w]
           rfl
          refine pure_ (i := 7) (N := some 112) (v := ?_) (a' := ?_) #[true, true, true, true, false, false, false, true, false, false, false, false, false, false] rfl rfl (any_of HT_.out (by kernel_rfl)) (fun _ _ _ h => h) (Or.inl ⟨by rfl, ?_⟩) ?_ ?_
          rotate_left
          ·intro w'
           go_simp
           with_reducible rfl
          rotate_left
          ·simp only [Act.put, u12a, u12b, u12c, i64_w, i32_w]
           rfl
          refine take_ (i := 4) (N := some 109) (v := ?_) (a' := ?_) #[true, true, true, true, true, false, false, true, false, false, false, false, false, false] rfl rfl (take_ofW HT_.out HW_.out (by kernel_rfl)) (fun _ _ _ h => h) (Or.inl ⟨by rfl, ?_⟩) hHeld ?_ ?_
          rotate_left
          ·rintro w' ⟨s0, s1, s2⟩
           go_simp
           with_reducible rfl
          rotate_left
          ·simp only [Act.put, u12a, u12b, u12c, i64_w, i32_w]
           rfl
          refine pure_ (i := 5) (N := some 110) (v := ?_) (a' := ?_) #[true, true, true, true, true, true, false, true, false, false, false, false, false, false] rfl rfl (any_of HT_.out (by kernel_rfl)) (fun _ _ _ h => h) (Or.inl ⟨by rfl, ?_⟩) ?_ ?_
          rotate_left
          ·intro w'
           go_simp
           with_reducible rfl
          rotate_left
          ·simp only [Act.put, u12a, u12b, u12c, i64_w, i32_w]
           rfl
          refine join_ (σ := Value × Addr) 5 #[true, true, true, true, true, true, true, true, true, false, false, false, false, false] (fun s_ => [(111, s_.1), (113, .int .i64 t216)]) (fun s_ w' => (w'.cell? ⟨go113, (t198).toNat * 3, none⟩ = some (.string ((rd_T46 x3_1 t198).f0)) ∧ w'.cell? ⟨go113, (t198).toNat * 3 + 1, none⟩ = some (.int .i64 ((rd_T46 x3_1 t198).f1)) ∧ w'.cell? ⟨go113, (t198).toNat * 3 + 2, none⟩ = some (.slice A212_2 ((rd_T46 x3_1 t198).f2).length c212_2)) ∧ (Kd.R (Kd.int .u8) 5 w' w.heap.size (fun k_ => some k_ ≠ (.slice (some ⟨go113, 0, none⟩) x3_1.length co135 : Value).ownBlock) (.slice A212_2 ((rd_T46 x3_1 t198).f2).length c212_2) ((rd_T46 x3_1 t198).f2)) ∧ (Kd.R (Kd.int .i64) 2 w' w.heap.size (fun _ => True) s_.1 y213) ∧ (Kd.S k46 46 w' w.heap.size (fun _ => True) (.slice (some ⟨go113, 0, none⟩) x3_1.length co135) x3_1) ∧ (∃ c_, (s_.1 : Value) = .slice (some s_.2) y213.length c_) ∧ (w'.cell? ⟨go113, ((t198).toNat * 3) + 2, none⟩ = some (.slice A212_2 ((rd_T46 x3_1 t198).f2).length c212_2)) ∧ (IsS69 w0 w' g s0_0 t217 t218) ∧ (KeepBut w w' g none) ∧ (Below w0.heap.size w0 w')) ?_ ?_
          rotate_left
          ·intro hCont
           refine two_ (i := 6) (j := 8) (Ni := some 111) (Nj := some 113) #[true, true, true, true, true, true, true, true, false, false, false, false, false, false] #[true, true, true, true, true, true, false, true, true, false, false, false, false, false] rfl rfl rfl rfl (two_of HT_.out (by kernel_rfl)) (by decide) (by decide) (fun K hK => ?_) (fun K hK => ?_)
           ·skip
            refine Kd.R_lit_step (Kd.int .i64) _ 2 ?hg (N := 111) ?hd (xs := ([(-1), 0, 9, wrap64 (((rd_T46 x3_1 t198).f1) + 1)] : List Int)) (inner := [.int .i64 (-1), .int .i64 0, .int .i64 9, .int .i64 (wrap64 (((rd_T46 x3_1 t198).f1) + 1))]) (ok := fun _ => True) (okp := fun _ => True) ?hr ?hp (fun _ hk => hk) trivial (Below.refl _ _) (Nat.le_refl _) (by simp) ?_; (case hd => rfl); (case hg => rfl); (case hr => first | (go_simp; done) | (go_simp; rfl)); (case hp => exact (Reps.one (show Kd.M (Kd.int .i64) _ _ _ (-1) [.int .i64 (-1)] from rfl) (Reps.one (show Kd.M (Kd.int .i64) _ _ _ 0 [.int .i64 0] from rfl) (Reps.one (show Kd.M (Kd.int .i64) _ _ _ 9 [.int .i64 9] from rfl) (Reps.one (show Kd.M (Kd.int .i64) _ _ _ (wrap64 (((rd_T46 x3_1 t198).f1) + 1)) [.int .i64 (wrap64 (((rd_T46 x3_1 t198).f1) + 1))] from rfl) (Reps.none _ _))))))
            intro v214 w139 ho140 hb hg_ hnew_
            have HS0_ := (hb.cell (World.block_lt_of_cell? _ _ (hHeld.1))).trans (hHeld.1)
            have HS1_ := (hb.cell (World.block_lt_of_cell? _ _ (hHeld.2.1))).trans (hHeld.2.1)
            have HS2_ := (hb.cell (World.block_lt_of_cell? _ _ (hHeld.2.2))).trans (hHeld.2.2)
            clear hg_ hnew_
            (first | rw [← Ny213.out] at ho140 | (simp only [Int.reduceToNat] at ho140; rw [← Ny213.out] at ho140))
            have n0_ := qy (Kd.S_below (by (with_reducible repeat (first | apply qp | apply qq | apply qr)); exact HO_3.out) hb)
            have n1_ := qy (Kd.R_below (by (with_reducible repeat (first | apply qs | apply qt | apply qu)); exact HL212_2.out) hb)
            have n2_ := qy (Kd.R_lower ho140 (keep_size (w := w) (g := g) (row := none) (by repeat (first | (with_reducible first | exact HK.out | apply qg | apply qh | apply qi | apply qj) | exact HK.out))))
            have n3_ := qy (IsS69.below (by repeat (first | (with_reducible first | exact HI0.out | apply qa | apply qb | apply qc | apply qd | apply qe) | exact HI0.out)) hb)
            have n4_ := qy (Kd.C_below (by repeat (first | (with_reducible exact HR212_2.out) | (with_reducible refine Kd.C_alloc ?_ _) | (with_reducible refine Kd.C_drewN ?_ _) | (with_reducible refine Kd.C_drew ?_) | exact HR212_2.out)) hb)
            have n5_ := qy (pw_cell_below hb HX212_2.out)
            have n6_ := qy (qB (by repeat (first | (with_reducible first | exact HK.out | apply qg | apply qh | apply qi | apply qj) | exact HK.out)) (KeepBut.of_below hb g none) (.inl rfl))
            have n7_ := qy (below_step (by repeat (first | (with_reducible first | exact HB.out | apply qn | apply ql | apply qm | refine qo ?_ (qI HI0.out)) | exact HB.out)) hb)
            clear HO_3 HL212_2 HI0 HR212_2 HX212_2 HK HB
            have HO_3 := n0_
            have HL212_2 := n1_
            have HO215 := n2_
            have HI0 := n3_
            have HR212_2 := n4_
            have HX212_2 := n5_
            have HK := n6_
            have HB := n7_
            clear n0_ n1_ n2_ n3_ n4_ n5_ n6_ n7_ hb ho140
            obtain ⟨Ao141, co141, eo141⟩ := Kd.R_slice HO215.out
            subst eo141
            obtain ⟨ado141, fo141, _⟩ := Kd.at_int (Kd.R_reads' HO215.out).2.2 0 (by decide) (by rw [Ny213.out]; simp)
            cases fo141
            refine hK.out _ _ ⟨HS0_, HS1_, HS2_⟩ (fun hHeld => ?_)
            clear hK K
            refine norm_ (a' := ?_) ?_ ?_
            rotate_left
            ·show Act.put _ (some 111) _ = _
             simp only [Act.put, u12a, u12b, u12c, i64_w, i32_w]
             rfl
            refine one_ (i := 8) (N := some 113) #[true, true, true, true, true, true, true, true, true, false, false, false, false, false] rfl rfl (one_of HT_.out (by kernel_rfl)) (by decide) (fun K hK => ?_)
            refine goes_ Try.func56 (by kernel_rfl) rfl #[.pointer (some ⟨g, 0, none⟩), .int .i64 4] (by rfl) rfl rfl (by (try simp only [List.map_toArray, List.map_cons, List.map_nil]); first | done | rfl) ?_
            with_reducible refine (spec_l1Below.calls g s0_0 t202 t203 4 t216 t217 t218 w0 _ ?side1 ?side2 A131.out).mono ?_
            (case side1 => repeat (first | (with_reducible first | exact HI0.out | apply qa | apply qb | apply qc | apply qd | apply qe) | exact HI0.out))
            (case side2 => repeat (first | (with_reducible first | exact HB.out | apply qn | apply ql | apply qm | refine qo ?_ (qI HI0.out)) | exact HB.out))
            rintro e w142 ⟨rfl, hi, hb, hk⟩
            have HS0_ := keep_cell hk (hHeld.1) (by first | (rw [add_block]; exact Kd.own_blk (IsS69.own_neS HI0.out HO_3.out (by decide))) | (show (Addr.add _ _).block ≠ _; rw [add_block]; exact Kd.own_blk (IsS69.own_neS HI0.out HO_3.out (by decide))) | exact Kd.own_blk (IsS69.own_neS HI0.out HO_3.out (by decide)) | (show _ ≠ _; exact Kd.own_blk (ad := ⟨_, 0, none⟩) (IsS69.own_neS HI0.out HO_3.out (by decide))))
            have HS1_ := keep_cell hk (hHeld.2.1) (by first | (rw [add_block]; exact Kd.own_blk (IsS69.own_neS HI0.out HO_3.out (by decide))) | (show (Addr.add _ _).block ≠ _; rw [add_block]; exact Kd.own_blk (IsS69.own_neS HI0.out HO_3.out (by decide))) | exact Kd.own_blk (IsS69.own_neS HI0.out HO_3.out (by decide)) | (show _ ≠ _; exact Kd.own_blk (ad := ⟨_, 0, none⟩) (IsS69.own_neS HI0.out HO_3.out (by decide))))
            have HS2_ := keep_cell hk (hHeld.2.2) (by first | (rw [add_block]; exact Kd.own_blk (IsS69.own_neS HI0.out HO_3.out (by decide))) | (show (Addr.add _ _).block ≠ _; rw [add_block]; exact Kd.own_blk (IsS69.own_neS HI0.out HO_3.out (by decide))) | exact Kd.own_blk (IsS69.own_neS HI0.out HO_3.out (by decide)) | (show _ ≠ _; exact Kd.own_blk (ad := ⟨_, 0, none⟩) (IsS69.own_neS HI0.out HO_3.out (by decide))))
            refine ⟨_, rfl, ?_⟩
            have n0_ := qy (qG (qE (qz (show IsS69 w0 _ g s0_0 t202 t203 from by repeat (first | (with_reducible first | exact HI0.out | apply qa | apply qb | apply qc | apply qd | apply qe) | exact HI0.out)) (by (with_reducible repeat (first | apply qp | apply qq | apply qr)); exact HO_3.out) (by decide)) hk (fun _ h => h.2)) (fun _ h => h.1))
            have n1_ := qy (qH (qF (qA (show IsS69 w0 _ g s0_0 t202 t203 from by repeat (first | (with_reducible first | exact HI0.out | apply qa | apply qb | apply qc | apply qd | apply qe) | exact HI0.out)) (by (with_reducible repeat (first | apply qs | apply qt | apply qu)); exact HL212_2.out) (by decide)) hk (fun _ h => h.2)) (fun _ h => h.1))
            have n2_ := qy (keep_cell hk HX212_2.out (by first | (rw [add_block]; exact Kd.own_blk (IsS69.own_neS HI0.out HO_3.out (by decide))) | (show (Addr.add _ _).block ≠ _; rw [add_block]; exact Kd.own_blk (IsS69.own_neS HI0.out HO_3.out (by decide))) | exact Kd.own_blk (IsS69.own_neS HI0.out HO_3.out (by decide)) | (dsimp only; exact Kd.own_blk (IsS69.own_neS HI0.out HO_3.out (by decide)))))
            have n3_ := qy (qH (qF (qA (show IsS69 w0 _ g s0_0 t202 t203 from by repeat (first | (with_reducible first | exact HI0.out | apply qa | apply qb | apply qc | apply qd | apply qe) | exact HI0.out)) (by (with_reducible repeat (first | apply qs | apply qt | apply qu)); exact HO215.out) (by decide)) hk (fun _ h => h.2)) (fun _ h => h.1))
            have n4_ := qy (qB (by repeat (first | (with_reducible first | exact HK.out | apply qg | apply qh | apply qi | apply qj) | exact HK.out)) hk (.inl rfl))
            have n5_ := qy (hb)
            have n6_ := qy (hi)
            clear HO_3 HL212_2 HX212_2 HO215 HK HB HI0
            have HO_3 := n0_
            have HL212_2 := n1_
            have HX212_2 := n2_
            have HO215 := n3_
            have HK := n4_
            have HB := n5_
            have HI0 := n6_
            clear n0_ n1_ n2_ n3_ n4_ n5_ n6_
            (try clear hb)
            (try clear hb2)
            (try clear hk)
            (try clear hi)
            refine hK.out _ _ ⟨HS0_, HS1_, HS2_⟩ (fun hHeld => ?_)
            clear hK K
            refine norm_ (a' := ?_) ?_ ?_
            rotate_left
            ·show Act.put _ (some 113) _ = _
             simp only [Act.put, u12a, u12b, u12c, i64_w, i32_w]
             rfl
            exact norm_ (by simp only [putAll, Act.put, u12a, u12b, u12c]) (hCont (.slice (some ado141) y213.length co141, ado141) _ ⟨hHeld, (by (with_reducible repeat (first | apply qs | apply qt | apply qu)); exact qH HL212_2.out (fun _ hk => hk.2)), (by (with_reducible repeat (first | apply qs | apply qt | apply qu)); exact HO215.out), (by (with_reducible repeat (first | apply qp | apply qq | apply qr)); exact HO_3.out), ⟨_, rfl⟩, (by have h_ := HX212_2.out; (try simp only [add_plain] at h_); exact h_), (by repeat (first | (with_reducible first | exact HI0.out | apply qa | apply qb | apply qc | apply qd | apply qe) | exact HI0.out)), (by repeat (first | (with_reducible first | exact HK.out | apply qg | apply qh | apply qi | apply qj) | exact HK.out)), (by repeat (first | (with_reducible first | exact HB.out | apply qn | apply ql | apply qm | refine qo ?_ (qI HI0.out)) | exact HB.out))⟩)
           ·skip
            refine goes_ Try.func56 (by kernel_rfl) rfl #[.pointer (some ⟨g, 0, none⟩), .int .i64 4] (by rfl) rfl rfl (by (try simp only [List.map_toArray, List.map_cons, List.map_nil]); first | done | rfl) ?_
            with_reducible refine (spec_l1Below.calls g s0_0 t202 t203 4 t216 t217 t218 w0 _ ?side1 ?side2 A131.out).mono ?_
            (case side1 => repeat (first | (with_reducible first | exact HI0.out | apply qa | apply qb | apply qc | apply qd | apply qe) | exact HI0.out))
            (case side2 => repeat (first | (with_reducible first | exact HB.out | apply qn | apply ql | apply qm | refine qo ?_ (qI HI0.out)) | exact HB.out))
            rintro e w139 ⟨rfl, hi, hb, hk⟩
            have HS0_ := keep_cell hk (hHeld.1) (by first | (rw [add_block]; exact Kd.own_blk (IsS69.own_neS HI0.out HO_3.out (by decide))) | (show (Addr.add _ _).block ≠ _; rw [add_block]; exact Kd.own_blk (IsS69.own_neS HI0.out HO_3.out (by decide))) | exact Kd.own_blk (IsS69.own_neS HI0.out HO_3.out (by decide)) | (show _ ≠ _; exact Kd.own_blk (ad := ⟨_, 0, none⟩) (IsS69.own_neS HI0.out HO_3.out (by decide))))
            have HS1_ := keep_cell hk (hHeld.2.1) (by first | (rw [add_block]; exact Kd.own_blk (IsS69.own_neS HI0.out HO_3.out (by decide))) | (show (Addr.add _ _).block ≠ _; rw [add_block]; exact Kd.own_blk (IsS69.own_neS HI0.out HO_3.out (by decide))) | exact Kd.own_blk (IsS69.own_neS HI0.out HO_3.out (by decide)) | (show _ ≠ _; exact Kd.own_blk (ad := ⟨_, 0, none⟩) (IsS69.own_neS HI0.out HO_3.out (by decide))))
            have HS2_ := keep_cell hk (hHeld.2.2) (by first | (rw [add_block]; exact Kd.own_blk (IsS69.own_neS HI0.out HO_3.out (by decide))) | (show (Addr.add _ _).block ≠ _; rw [add_block]; exact Kd.own_blk (IsS69.own_neS HI0.out HO_3.out (by decide))) | exact Kd.own_blk (IsS69.own_neS HI0.out HO_3.out (by decide)) | (show _ ≠ _; exact Kd.own_blk (ad := ⟨_, 0, none⟩) (IsS69.own_neS HI0.out HO_3.out (by decide))))
            refine ⟨_, rfl, ?_⟩
            have n0_ := qy (qG (qE (qz (show IsS69 w0 _ g s0_0 t202 t203 from by repeat (first | (with_reducible first | exact HI0.out | apply qa | apply qb | apply qc | apply qd | apply qe) | exact HI0.out)) (by (with_reducible repeat (first | apply qp | apply qq | apply qr)); exact HO_3.out) (by decide)) hk (fun _ h => h.2)) (fun _ h => h.1))
            have n1_ := qy (qH (qF (qA (show IsS69 w0 _ g s0_0 t202 t203 from by repeat (first | (with_reducible first | exact HI0.out | apply qa | apply qb | apply qc | apply qd | apply qe) | exact HI0.out)) (by (with_reducible repeat (first | apply qs | apply qt | apply qu)); exact HL212_2.out) (by decide)) hk (fun _ h => h.2)) (fun _ h => h.1))
            have n2_ := qy (keep_cell hk HX212_2.out (by first | (rw [add_block]; exact Kd.own_blk (IsS69.own_neS HI0.out HO_3.out (by decide))) | (show (Addr.add _ _).block ≠ _; rw [add_block]; exact Kd.own_blk (IsS69.own_neS HI0.out HO_3.out (by decide))) | exact Kd.own_blk (IsS69.own_neS HI0.out HO_3.out (by decide)) | (dsimp only; exact Kd.own_blk (IsS69.own_neS HI0.out HO_3.out (by decide)))))
            have n3_ := qy (qB (by repeat (first | (with_reducible first | exact HK.out | apply qg | apply qh | apply qi | apply qj) | exact HK.out)) hk (.inl rfl))
            have n4_ := qy (hb)
            have n5_ := qy (hi)
            clear HO_3 HL212_2 HX212_2 HK HB HI0
            have HO_3 := n0_
            have HL212_2 := n1_
            have HX212_2 := n2_
            have HK := n3_
            have HB := n4_
            have HI0 := n5_
            clear n0_ n1_ n2_ n3_ n4_ n5_
            (try clear hb)
            (try clear hb2)
            (try clear hk)
            (try clear hi)
            refine hK.out _ _ ⟨HS0_, HS1_, HS2_⟩ (fun hHeld => ?_)
            clear hK K
            refine norm_ (a' := ?_) ?_ ?_
            rotate_left
            ·show Act.put _ (some 113) _ = _
             simp only [Act.put, u12a, u12b, u12c, i64_w, i32_w]
             rfl
            refine one_ (i := 6) (N := some 111) #[true, true, true, true, true, true, true, true, true, false, false, false, false, false] rfl rfl (one_of HT_.out (by kernel_rfl)) (by decide) (fun K hK => ?_)
            refine Kd.R_lit_step (Kd.int .i64) _ 2 ?hg (N := 111) ?hd (xs := ([(-1), 0, 9, wrap64 (((rd_T46 x3_1 t198).f1) + 1)] : List Int)) (inner := [.int .i64 (-1), .int .i64 0, .int .i64 9, .int .i64 (wrap64 (((rd_T46 x3_1 t198).f1) + 1))]) (ok := fun _ => True) (okp := fun _ => True) ?hr ?hp (fun _ hk => hk) trivial (Below.refl _ _) (Nat.le_refl _) (by simp) ?_; (case hd => rfl); (case hg => rfl); (case hr => first | (go_simp; done) | (go_simp; rfl)); (case hp => exact (Reps.one (show Kd.M (Kd.int .i64) _ _ _ (-1) [.int .i64 (-1)] from rfl) (Reps.one (show Kd.M (Kd.int .i64) _ _ _ 0 [.int .i64 0] from rfl) (Reps.one (show Kd.M (Kd.int .i64) _ _ _ 9 [.int .i64 9] from rfl) (Reps.one (show Kd.M (Kd.int .i64) _ _ _ (wrap64 (((rd_T46 x3_1 t198).f1) + 1)) [.int .i64 (wrap64 (((rd_T46 x3_1 t198).f1) + 1))] from rfl) (Reps.none _ _))))))
            intro v214 w140 ho141 hb hg_ hnew_
            have HS0_ := (hb.cell (World.block_lt_of_cell? _ _ (hHeld.1))).trans (hHeld.1)
            have HS1_ := (hb.cell (World.block_lt_of_cell? _ _ (hHeld.2.1))).trans (hHeld.2.1)
            have HS2_ := (hb.cell (World.block_lt_of_cell? _ _ (hHeld.2.2))).trans (hHeld.2.2)
            clear hg_ hnew_
            (first | rw [← Ny213.out] at ho141 | (simp only [Int.reduceToNat] at ho141; rw [← Ny213.out] at ho141))
            have n0_ := qy (Kd.S_below (by (with_reducible repeat (first | apply qp | apply qq | apply qr)); exact HO_3.out) hb)
            have n1_ := qy (Kd.R_below (by (with_reducible repeat (first | apply qs | apply qt | apply qu)); exact HL212_2.out) hb)
            have n2_ := qy (Kd.R_lower ho141 (keep_size (w := w) (g := g) (row := none) (by repeat (first | (with_reducible first | exact HK.out | apply qg | apply qh | apply qi | apply qj) | exact HK.out))))
            have n3_ := qy (IsS69.below (by repeat (first | (with_reducible first | exact HI0.out | apply qa | apply qb | apply qc | apply qd | apply qe) | exact HI0.out)) hb)
            have n4_ := qy (pw_cell_below hb HX212_2.out)
            have n5_ := qy (qB (by repeat (first | (with_reducible first | exact HK.out | apply qg | apply qh | apply qi | apply qj) | exact HK.out)) (KeepBut.of_below hb g none) (.inl rfl))
            have n6_ := qy (below_step (by repeat (first | (with_reducible first | exact HB.out | apply qn | apply ql | apply qm | refine qo ?_ (qI HI0.out)) | exact HB.out)) hb)
            clear HO_3 HL212_2 HI0 HX212_2 HK HB
            have HO_3 := n0_
            have HL212_2 := n1_
            have HO215 := n2_
            have HI0 := n3_
            have HX212_2 := n4_
            have HK := n5_
            have HB := n6_
            clear n0_ n1_ n2_ n3_ n4_ n5_ n6_ hb ho141
            obtain ⟨Ao142, co142, eo142⟩ := Kd.R_slice HO215.out
            subst eo142
            obtain ⟨ado142, fo142, _⟩ := Kd.at_int (Kd.R_reads' HO215.out).2.2 0 (by decide) (by rw [Ny213.out]; simp)
            cases fo142
            refine hK.out _ _ ⟨HS0_, HS1_, HS2_⟩ (fun hHeld => ?_)
            clear hK K
            refine norm_ (a' := ?_) ?_ ?_
            rotate_left
            ·show Act.put _ (some 111) _ = _
             simp only [Act.put, u12a, u12b, u12c, i64_w, i32_w]
             rfl
            exact norm_ (by simp only [putAll, Act.put, u12a, u12b, u12c]) (hCont (.slice (some ado142) y213.length co142, ado142) _ ⟨hHeld, (by (with_reducible repeat (first | apply qs | apply qt | apply qu)); exact qH HL212_2.out (fun _ hk => hk.2)), (by (with_reducible repeat (first | apply qs | apply qt | apply qu)); exact HO215.out), (by (with_reducible repeat (first | apply qp | apply qq | apply qr)); exact HO_3.out), ⟨_, rfl⟩, (by have h_ := HX212_2.out; (try simp only [add_plain] at h_); exact h_), (by repeat (first | (with_reducible first | exact HI0.out | apply qa | apply qb | apply qc | apply qd | apply qe) | exact HI0.out)), (by repeat (first | (with_reducible first | exact HK.out | apply qg | apply qh | apply qi | apply qj) | exact HK.out)), (by repeat (first | (with_reducible first | exact HB.out | apply qn | apply ql | apply qm | refine qo ?_ (qI HI0.out)) | exact HB.out))⟩)
          rintro ⟨v214, adz_v214⟩ w143 ⟨hS_, h0_, h1_, h2_, h3_, h4_, h5_, h6_, h7_⟩
          have n0_ : Aside0 (Kd.R (Kd.int .u8) 5 w143 w.heap.size (fun k_ => some k_ ≠ (.slice (some ⟨go113, 0, none⟩) x3_1.length co135 : Value).ownBlock) (.slice A212_2 ((rd_T46 x3_1 t198).f2).length c212_2) ((rd_T46 x3_1 t198).f2)) := ⟨h0_⟩
          have n1_ : Aside0 (Kd.R (Kd.int .i64) 2 w143 w.heap.size (fun _ => True) v214 y213) := ⟨h1_⟩
          have n2_ : Aside0 (Kd.S k46 46 w143 w.heap.size (fun _ => True) (.slice (some ⟨go113, 0, none⟩) x3_1.length co135) x3_1) := ⟨h2_⟩
          have n3_ : Aside0 (∃ c_, (v214 : Value) = .slice (some adz_v214) y213.length c_) := ⟨h3_⟩
          have n4_ : Aside0 (w143.cell? ⟨go113, ((t198).toNat * 3) + 2, none⟩ = some (.slice A212_2 ((rd_T46 x3_1 t198).f2).length c212_2)) := ⟨h4_⟩
          have n5_ : Aside0 (IsS69 w0 w143 g s0_0 t217 t218) := ⟨h5_⟩
          have n6_ : Aside0 (KeepBut w w143 g none) := ⟨h6_⟩
          have n7_ : Aside0 (Below w0.heap.size w0 w143) := ⟨h7_⟩
          clear HO_3 HI0 HK HB h0_ h1_ h2_ h3_ h4_ h5_ h6_ h7_
          have HL212_2 := n0_
          have HO215 := n1_
          have HO_3 := n2_
          have HA_HO215 := n3_
          have HX212_2 := n4_
          have HI0 := n5_
          have HK := n6_
          have HB := n7_
          clear n0_ n1_ n2_ n3_ n4_ n5_ n6_ n7_
          have hHeld : w143.cell? ⟨go113, (t198).toNat * 3, none⟩ = some (.string ((rd_T46 x3_1 t198).f0)) ∧ w143.cell? ⟨go113, (t198).toNat * 3 + 1, none⟩ = some (.int .i64 ((rd_T46 x3_1 t198).f1)) ∧ w143.cell? ⟨go113, (t198).toNat * 3 + 2, none⟩ = some (.slice A212_2 ((rd_T46 x3_1 t198).f2).length c212_2) := hS_
          obtain ⟨co144, eo144⟩ := HA_HO215.out
          clear HA_HO215
          subst eo144
          have p134 : 0 ≤ (t198 : Int) := of_decide_eq_true (by assumption)
          have q134 : (t198 : Int) < ((x3_1.length : Int) : Int) := of_decide_eq_true (by assumption)
          obtain ⟨_, ce134, hcl134, hM134, hcc134, hfr134, _, _⟩ := Kd.S_elem HO_3.out z46 (t198 : Int) p134 q134
          obtain ⟨ve134_2, rfl, ge134_2⟩ := k46_openM hM134
          have hx134_0 : World.cell? _ ⟨go113, (t198 : Int).toNat * 3, none⟩ = some (.string ((rd_T46 x3_1 t198).f0)) := hcc134 0 _ rfl
          have hx134_1 : World.cell? _ ⟨go113, (t198 : Int).toNat * 3 + 1, none⟩ = some (.int .i64 ((rd_T46 x3_1 t198).f1)) := hcc134 1 _ rfl
          have hx134_2 : World.cell? _ ⟨go113, (t198 : Int).toNat * 3 + 2, none⟩ = some (ve134_2) := hcc134 2 _ rfl
          have hf134_0 : World.frozen? _ ⟨go113, (t198 : Int).toNat * 3, none⟩ = false := hfr134 0
          have hf134_1 : World.frozen? _ ⟨go113, (t198 : Int).toNat * 3 + 1, none⟩ = false := hfr134 1
          have hf134_2 : World.frozen? _ ⟨go113, (t198 : Int).toNat * 3 + 2, none⟩ = false := hfr134 2
          clear hcl134 hcc134 hfr134 hM134
          replace p134 := eq_true p134
          replace q134 := eq_true q134
          have HN0_go113 := qy (show g ≠ go113 from by have h_ := IsS69.own_neS HI0.out HO_3.out (by decide); intro e_; exact h_ (by rw [e_]; rfl))
          have HX145 := qy (show Kd.S k46 46 _ w.heap.size (fun k_ => ((fun _ => True)) k_ ∧ ¬ (fun _ => False) k_) (.slice (some ⟨go113, 0, none⟩) x3_1.length co135) x3_1 from (qG HO_3.out (fun k_ hk => ⟨trivial, fun e_ => e_⟩)))
          obtain ⟨oki145, ce145, hcl145, hM145, hcc145, hfr145, hoki145, hH145⟩ := Kd.S_elem HX145.out z46 (t198 : Int) (of_decide_eq_true (by assumption)) (by have h_ : (t198 : Int) < ((x3_1.length : Int) : Int) := of_decide_eq_true (by assumption); first | exact h_ | (have e_ := (Kd.S_reads' HO_3.out).1; omega) | simpa using h_)
          obtain ⟨ve145_2, rfl, ge145_2⟩ := k46_openM hM145
          have HP145 := (Kd.S_seg hH145 (of_decide_eq_true (by assumption)) (by have h_ : (t198 : Int) < ((x3_1.length : Int) : Int) := of_decide_eq_true (by assumption); first | exact h_ | (have e_ := (Kd.S_reads' HO_3.out).1; omega) | simpa using h_) (seg := [.int .i64 (rd y213 t216)]) (j := 1) (show 2 ≤ 3 from by decide) (x' := (⟨(rd_T46 x3_1 t198).f0, rd y213 t216, (rd_T46 x3_1 t198).f2⟩ : S46)) (k46_mkM _ _ _ (⟨(rd_T46 x3_1 t198).f0, rd y213 t216, (rd_T46 x3_1 t198).f2⟩ : S46) ge145_2) (fun _ hk => Or.inl hk) (fun _ hk => hk.elim)).1
          rw [← Ny220.out] at HP145
          have HQ145 := qy HP145
          clear hcl145 hcc145 hfr145 hM145 HP145
          refine norm_ (a' := ?_) ?_ ?_
          rotate_left
          ·simp only [putAll, Act.put, u12a, u12b, u12c]
           rfl
          refine pure_ (i := 9) (N := some 114) (v := ?_) (a' := ?_) #[true, true, true, true, true, true, true, true, true, true, false, false, false, false] rfl rfl (any_of HT_.out (by kernel_rfl)) (fun _ _ _ h => h) (Or.inl ⟨by rfl, ?_⟩) ?_ ?_
          rotate_left
          ·intro w'
           go_simp
           with_reducible rfl
          rotate_left
          ·simp only [Act.put, u12a, u12b, u12c, i64_w, i32_w]
           rfl
          refine one_ (i := 10) (N := some 115) #[true, true, true, true, true, true, true, true, true, true, true, false, false, false] rfl rfl (one_of HT_.out (by kernel_rfl)) (by decide) (fun K hK => ?_)
          (have p219 : 0 ≤ (t216 : Int) := of_decide_eq_true (by assumption); have q219 : t216 < (y213.length : Int) := of_decide_eq_true (by assumption); obtain ⟨ad219, e219, hx219_0⟩ := Kd.at_int (Kd.R_reads' HO215.out).2.2 t216 p219 q219; obtain rfl : adz_v214 = ad219 := (by injection e219))
          refine value_ (w1 := ?_) (v := ?_) (by rfl) rfl ?_ ?_
          rotate_left 2
          ·go_simp
           constructor
           ·rfl
           ·rfl
          clear hx219_0
          refine hK.out _ _ ⟨hHeld.1, hHeld.2.1, hHeld.2.2⟩ (fun hHeld => ?_)
          clear hK K
          refine norm_ (a' := ?_) ?_ ?_
          rotate_left
          ·show Act.put _ (some 115) _ = _
           simp only [Act.put, u12a, u12b, u12c, i64_w, i32_w]
           rfl
          refine pure_ (i := 11) (N := some 116) (v := ?_) (a' := ?_) #[true, true, true, true, true, true, true, true, true, true, true, true, false, false] rfl rfl (any_of HT_.out (by kernel_rfl)) (fun _ _ _ h => h) (Or.inl ⟨by rfl, ?_⟩) ?_ ?_
          rotate_left
          ·intro w'
           go_simp
           with_reducible rfl
          rotate_left
          ·simp only [Act.put, u12a, u12b, u12c, i64_w, i32_w]
           rfl
          refine pure_ (i := 12) (N := some 117) (v := ?_) (a' := ?_) #[true, true, true, true, true, true, true, true, true, true, true, true, true, false] rfl rfl (any_of HT_.out (by kernel_rfl)) (fun _ _ _ h => h) (Or.inl ⟨by rfl, ?_⟩) ?_ ?_
          rotate_left
          ·intro w'
           go_simp
           with_reducible rfl
          rotate_left
          ·simp only [Act.put, u12a, u12b, u12c, i64_w, i32_w]
           rfl
          refine last_ (i := 13) (N := none) #[true, true, true, true, true, true, true, true, true, true, true, true, true, true] rfl rfl (one_of HT_.out (by kernel_rfl)) (by decide) (fun K hK => ?_)
          refine skip_ (w1 := ?_) (by rfl) rfl ?_ ?_
          rotate_left
          ·go_simp
           rfl
          refine hK.out _ _ ?_
          clear hK K
          refine done_ (done_of HT_.out (by kernel_rfl)) ?_
          try go_wp2
          go_meet
          case rel => exact ⟨_, (y220), (t217), (t218), H', ⟨by have := HK1.out; have := HJ101.out; first | omega | exact Nat.le_refl _⟩, ⟨by (with_reducible repeat (first | apply qp | apply qq | apply qr)); exact HQ145.out⟩, ⟨by repeat (first | (with_reducible first | exact HI0.out | apply qa | apply qb | apply qc | apply qd | apply qe | refine qf ?_ HN0_go113.out _) | exact HI0.out)⟩, ⟨by repeat (first | (with_reducible first | exact HK.out | apply qg | apply qh | apply qi | apply qj | refine qk ?_ GB113.out _) | exact HK.out)⟩, ⟨by repeat (first | (with_reducible first | exact HB.out | apply qn | apply ql | apply qm | refine qo ?_ (Nat.le_trans HL.out GB113.out) | refine qo ?_ (qI HI0.out)) | exact HB.out)⟩⟩
         ·rw [if_neg c129] at H
          have c129b0 : (t201 == 1) = false := beq_eq_false_iff_ne.mpr c129
          have c129b1 : (t201 != 1) = true := bne_iff_ne.mpr c129
          by_cases c146 : t201 = 2
          ·rw [if_pos c146] at H
           have c146b0 : (t201 == 2) = true := beq_iff_eq.mpr c146
           have c146b1 : (t201 != 2) = false := bne_eq_false_iff_eq.mpr c146
           clear c146
           by_cases c148 : ((rd_T46 x3_1 t198).f2).length < 140737488355328
           rotate_left
           · rw [if_neg c148] at H; exact absurd H (by simp)
           rw [if_pos c148] at H
           have LMc148 := qy c148
           clear c148
           obtain ⟨y222, hy222⟩ : ∃ y_ : List Int, y_ = (((rd_T46 x3_1 t198).f2) ++ [7]) := ⟨_, rfl⟩
           replace H : (spec_l2DrawBoxes.j4 kj101 (x3_1.set (t198 : Int).toNat (⟨(rd_T46 x3_1 t198).f0, (rd_T46 x3_1 t198).f1, y222⟩ : S46)) s0_0 t202 t203) = some (r1, r2, r3) := by first | (rw [hy222]; with_reducible exact H) | (have H2_ := (Option.bind_some _ _).symm.trans H; rw [hy222]; with_reducible exact H2_) | (have H2_ := (Option.bind_some _ _).symm.trans H; with_reducible exact H2_) | with_reducible exact H | (rw [hy222]; exact H) | exact H
           have Ny222 := qy hy222
           clear hy222
           obtain ⟨y225, hy225⟩ : ∃ y_ : List (S46), y_ = (x3_1.set (t198 : Int).toNat (⟨(rd_T46 x3_1 t198).f0, (rd_T46 x3_1 t198).f1, y222⟩ : S46)) := ⟨_, rfl⟩
           replace H : (spec_l2DrawBoxes.j4 kj101 y225 s0_0 t202 t203) = some (r1, r2, r3) := by first | (rw [hy225]; with_reducible exact H) | (have H2_ := (Option.bind_some _ _).symm.trans H; rw [hy225]; with_reducible exact H2_) | (have H2_ := (Option.bind_some _ _).symm.trans H; with_reducible exact H2_) | with_reducible exact H | (rw [hy225]; exact H) | exact H
           have Ny225 := qy hy225
           clear hy225
           have H' := qy H
           clear H
           obtain ⟨Ao150, co150, eo150⟩ := Kd.S_slice HO_3.out
           subst eo150
           go_wp2_with (first | ((with_reducible refine gate_callee (f := 56) rfl ?_); refine goesL_ (some 89) rfl rfl Try.func56 (by kernel_rfl) rfl #[.pointer (some ⟨g, 0, none⟩), .int .i64 (x3_1.length : Int)] rfl (by (try simp only [List.map_toArray, List.map_cons, List.map_nil]); first | done | rfl) ?_; (with_reducible refine (spec_l1Below.calls g s0_0 x1001_101 x1002_101 (x3_1.length : Int) t198 t199 t200 w0 _ ?side1 ?side2 A110.out).mono ?_); (case side1 => repeat (first | (with_reducible first | exact HI0.out | apply qa | apply qb | apply qc | apply qd | apply qe) | exact HI0.out)); (case side2 => repeat (first | (with_reducible first | exact HB.out | apply qn | apply ql | apply qm | refine qo ?_ (qI HI0.out)) | exact HB.out)); rintro e w151 ⟨rfl, hi, hb, hk⟩; refine ⟨_, rfl, ?_⟩; have n0_ := qy (qG (qE (qz (show IsS69 w0 _ g s0_0 x1001_101 x1002_101 from by repeat (first | (with_reducible first | exact HI0.out | apply qa | apply qb | apply qc | apply qd | apply qe) | exact HI0.out)) (by (with_reducible repeat (first | apply qp | apply qq | apply qr)); exact HO_3.out) (by decide)) hk (fun _ h => h.2)) (fun _ h => h.1)); have n1_ := qy (qB (by repeat (first | (with_reducible first | exact HK.out | apply qg | apply qh | apply qi | apply qj) | exact HK.out)) hk (.inl rfl)); have n2_ := qy (hb); have n3_ := qy (hi); clear HO_3 HK HB HI0; have HO_3 := n0_; have HK := n1_; have HB := n2_; have HI0 := n3_; clear n0_ n1_ n2_ n3_; (try clear hb hk hi); have p113 : 0 ≤ (t198 : Int) := of_decide_eq_true (by assumption); have q113 : (t198 : Int) < ((x3_1.length : Int) : Int) := of_decide_eq_true (by assumption); obtain ⟨go113, co113, eo113, gb113, gl113, cl113, HG113⟩ := Kd.S_form HO_3.out (by omega); (first | cases eo113 | (injection eo113 with ea_ en_ ec_; (first | subst ea_ | (injection ea_ with ea_; subst ea_)); subst ec_; clear en_)); have GB113 := qy gb113; have GG113 := qy HG113; clear gb113 gl113 HG113; obtain ⟨_, ce113, hcl113, hM113, hcc113, hfr113, _, _⟩ := Kd.S_elem HO_3.out z46 (t198 : Int) p113 q113; obtain ⟨ve113_2, rfl, ge113_2⟩ := k46_openM hM113; have hx113_0 : w151.cell? ⟨go113, (t198 : Int).toNat * 3, none⟩ = some (.string ((rd_T46 x3_1 t198).f0)) := hcc113 0 _ rfl; have hx113_1 : w151.cell? ⟨go113, (t198 : Int).toNat * 3 + 1, none⟩ = some (.int .i64 ((rd_T46 x3_1 t198).f1)) := hcc113 1 _ rfl; have hx113_2 : w151.cell? ⟨go113, (t198 : Int).toNat * 3 + 2, none⟩ = some (ve113_2) := hcc113 2 _ rfl; have hf113_0 : w151.frozen? ⟨go113, (t198 : Int).toNat * 3, none⟩ = false := hfr113 0; have hf113_1 : w151.frozen? ⟨go113, (t198 : Int).toNat * 3 + 1, none⟩ = false := hfr113 1; have hf113_2 : w151.frozen? ⟨go113, (t198 : Int).toNat * 3 + 2, none⟩ = false := hfr113 2; clear hcl113 hcc113 hfr113 hM113; replace p113 := eq_true p113; replace q113 := eq_true q113) | ((with_reducible refine gate_callee (f := 56) rfl ?_); refine goesL_ (some 92) rfl rfl Try.func56 (by kernel_rfl) rfl #[.pointer (some ⟨g, 0, none⟩), .int .i64 4] rfl (by (try simp only [List.map_toArray, List.map_cons, List.map_nil]); first | done | rfl) ?_; (with_reducible refine (spec_l1Below.calls g s0_0 t199 t200 4 t201 t202 t203 w0 _ ?side1 ?side2 A114.out).mono ?_); (case side1 => repeat (first | (with_reducible first | exact HI0.out | apply qa | apply qb | apply qc | apply qd | apply qe) | exact HI0.out)); (case side2 => repeat (first | (with_reducible first | exact HB.out | apply qn | apply ql | apply qm | refine qo ?_ (qI HI0.out)) | exact HB.out)); rintro e w152 ⟨rfl, hi, hb, hk⟩; refine ⟨_, rfl, ?_⟩; have n0_ := qy (qG (qE (qz (show IsS69 w0 _ g s0_0 t199 t200 from by repeat (first | (with_reducible first | exact HI0.out | apply qa | apply qb | apply qc | apply qd | apply qe) | exact HI0.out)) (by (with_reducible repeat (first | apply qp | apply qq | apply qr)); exact HO_3.out) (by decide)) hk (fun _ h => h.2)) (fun _ h => h.1)); have n1_ := qy (qB (by repeat (first | (with_reducible first | exact HK.out | apply qg | apply qh | apply qi | apply qj) | exact HK.out)) hk (.inl rfl)); have n2_ := qy (hb); have n3_ := qy (hi); clear HO_3 HK HB HI0; have HO_3 := n0_; have HK := n1_; have HB := n2_; have HI0 := n3_; clear n0_ n1_ n2_ n3_; (try clear hb hk hi); have p147 : 0 ≤ (t198 : Int) := of_decide_eq_true (by assumption); have q147 : (t198 : Int) < ((x3_1.length : Int) : Int) := of_decide_eq_true (by assumption); obtain ⟨_, ce147, hcl147, hM147, hcc147, hfr147, _, _⟩ := Kd.S_elem HO_3.out z46 (t198 : Int) p147 q147; obtain ⟨ve147_2, rfl, ge147_2⟩ := k46_openM hM147; have hx147_0 : w152.cell? ⟨go113, (t198 : Int).toNat * 3, none⟩ = some (.string ((rd_T46 x3_1 t198).f0)) := hcc147 0 _ rfl; have hx147_1 : w152.cell? ⟨go113, (t198 : Int).toNat * 3 + 1, none⟩ = some (.int .i64 ((rd_T46 x3_1 t198).f1)) := hcc147 1 _ rfl; have hx147_2 : w152.cell? ⟨go113, (t198 : Int).toNat * 3 + 2, none⟩ = some (ve147_2) := hcc147 2 _ rfl; have hf147_0 : w152.frozen? ⟨go113, (t198 : Int).toNat * 3, none⟩ = false := hfr147 0; have hf147_1 : w152.frozen? ⟨go113, (t198 : Int).toNat * 3 + 1, none⟩ = false := hfr147 1; have hf147_2 : w152.frozen? ⟨go113, (t198 : Int).toNat * 3 + 2, none⟩ = false := hfr147 2; clear hcl147 hcc147 hfr147 hM147; replace p147 := eq_true p147; replace q147 := eq_true q147; have p221 : 0 ≤ (t198 : Int) := of_decide_eq_true (by assumption); have q221 : t198 < (x3_1.length : Int) := of_decide_eq_true (by assumption); obtain ⟨ad221, A221_2, c221_2, e221, hx221_0, hx221_1, hx221_2, hl221_2, hi221_2⟩ := at_T46 (Kd.S_reads' HO_3.out).2.2 t198 p221 q221; obtain rfl : (⟨go113, 0, none⟩ : Addr) = ad221 := (by injection e221); obtain ⟨ce221, hce221, hMe221, hcc221⟩ := Kd.S_get HO_3.out z46 t198 p221 (by first | exact q221 | exact of_decide_eq_true (by assumption) | (have e_ := (Kd.S_reads' HO_3.out).1; omega)); obtain ⟨ve221_2, rfl, ge221_2⟩ := k46_openM hMe221; have hv221_2 := hcc221 2 _ rfl; rw [add_field _ _ 2 (by omega)] at hv221_2; replace hv221_2 := Option.some.inj (hv221_2.symm.trans hx221_2); rw [hv221_2] at ge221_2; have HL221_2 := qy (show Kd.R (Kd.int .u8) 5 _ _ _ _ ((rd_T46 x3_1 t198).f2) from ge221_2); clear hv221_2 ge221_2; clear hx147_2; have HX221_2 := qy hx221_2; clear hcc221 hce221; (first | simp only [add_plain] at hx221_0 | simp only [add_at] at hx221_0 | simp only [Addr.add, Nat.zero_add] at hx221_0 | skip); (first | simp only [add_plain] at hx221_1 | simp only [add_at] at hx221_1 | simp only [Addr.add, Nat.zero_add] at hx221_1 | skip); (first | simp only [add_plain] at hx221_2 | simp only [add_at] at hx221_2 | simp only [Addr.add, Nat.zero_add] at hx221_2 | skip); have HR221_2 := qy hi221_2; have HC221_2 := qy hl221_2; clear hi221_2 hl221_2; replace p221 := eq_true p221; replace q221 := eq_true q221; obtain ⟨oki153, ce153, hcl153, hM153, hcc153, _, _, hH153⟩ := Kd.S_elem HO_3.out z46 (t198 : Int) (of_decide_eq_true (by assumption)) (by have h_ : (t198 : Int) < ((x3_1.length : Int) : Int) := of_decide_eq_true (by assumption); first | exact h_ | (have e_ := (Kd.S_reads' HO_3.out).1; omega) | simpa using h_); obtain ⟨ve153_2, rfl, ge153_2⟩ := k46_openM hM153; have hv153 := hcc153 2 _ rfl; have hX153 := HX221_2.out; (try simp only [add_plain] at hX153); (try simp only [Nat.add_zero] at hv153); replace hv153 := Option.some.inj (hv153.symm.trans hX153); subst hv153; clear hX153 hcc153 hcl153; have UU153 := qy (show Kd.R (Kd.int .u8) 5 _ w.heap.size oki153 (.slice A221_2 ((rd_T46 x3_1 t198).f2).length c221_2) ((rd_T46 x3_1 t198).f2) from ge153_2); have HH153 := qy hH153; have HN153 := qy (Kd.S_reads' HO_3.out).1; clear hH153 ge153_2) | ((with_reducible refine gate_builtin (b := .append) (xs := #[.tmp 124, .tmp 125]) rfl ?_); (try (refine gate_guard (by rfl) ?_; dsimp only)); at_builtin; refine Kd.R_append (Kd.int .u8) w.heap.size rfl (.tmp 124) (.tmp 125) 29 5 (.int .u8 0) 1 rfl Try.underlying29 info5 rfl (by decide) (by omega) (.slice A221_2 ((rd_T46 x3_1 t198).f2).length c221_2) ((rd_T46 x3_1 t198).f2) 7 [.int .u8 7] (fun k_ => oki153 k_ ∨ ((fun _ => True)) k_ ∧ w152.heap.size ≤ k_) (fun _ => False) rfl rfl ?aP (fun _ hk => hk.elim) ?aF ?aO (Below.refl _ _) ?aS ?aL ?_; (case aP => exact rfl); (case aF => exact (fun k_ hk => .inr ⟨trivial, hk⟩)); (case aO => exact (by (with_reducible repeat (first | apply qs | apply qt | apply qu)); exact qH UU153.out (fun _ hk => .inl hk))); (case aS => exact (keep_size (w := w) (g := g) (row := none) (by repeat (first | (with_reducible first | exact HK.out | apply qg | apply qh | apply qi | apply qj) | exact HK.out)))); (case aL => have := LMc148.out; omega); intro v223 w154 ho hb hg hat; rw [← Ny222.out] at ho; have n0_ := qy (IsS69.grown (by repeat (first | (with_reducible first | exact HI0.out | apply qa | apply qb | apply qc | apply qd | apply qe) | exact HI0.out)) hg (IsS69.own_ne HI0.out HL221_2.out (by decide))); have n1_ := qy (below_weaken (by repeat (first | (with_reducible first | exact HB.out | apply qn | apply ql | apply qm | refine qo ?_ (qI HI0.out)) | exact HB.out)) HL.out hb); have n2_ := qy (qB (by repeat (first | (with_reducible first | exact HK.out | apply qg | apply qh | apply qi | apply qj) | exact HK.out)) (KeepBut.of_grown hg g) (Kd.R_base2 HL221_2.out)); have n3_ := qy (Kd.H_grown (Kd.H_widen (by repeat (first | exact HH153.out | refine Kd.H_alloc ?_ _ | refine Kd.H_drewN ?_ _ | refine Kd.H_drew ?_))) hg (fun k_ e_ => .inl (UU153.out.1 k_ e_))); have n4_ := qy (ho); clear HI0 HB HK HH153 HO_3 UU153 HL221_2; have HI0 := n0_; have HB := n1_; have HK := n2_; have HH153 := n3_; have HO224 := n4_; clear n0_ n1_ n2_ n3_ n4_ ho hb hg hat; have p149 : 0 ≤ (t198 : Int) := of_decide_eq_true (by assumption); have q149 : (t198 : Int) < ((x3_1.length : Int) : Int) := of_decide_eq_true (by assumption); replace p149 := eq_true p149; replace q149 := eq_true q149; obtain ⟨Ao157, co157, eo157⟩ := Kd.R_slice HO224.out; subst eo157; obtain ⟨_, _, hraw155, _, _, hcc155, _⟩ := Kd.H_raw HH153.out (of_decide_eq_true (by assumption)) (by have h_ : (t198 : Int) < ((x3_1.length : Int) : Int) := of_decide_eq_true (by assumption); first | exact h_ | (have e_ := (HN153.out); omega) | simpa using h_); obtain ⟨_, hfr155⟩ := Kd.H_at HH153.out (of_decide_eq_true (by assumption)) (by have h_ : (t198 : Int) < ((x3_1.length : Int) : Int) := of_decide_eq_true (by assumption); first | exact h_ | (have e_ := (HN153.out); omega) | simpa using h_); have hx155_0 := hcc155 2 _ rfl; have hf155_0 := hfr155 2; (try rw [show (k46).sz = 3 from rfl] at hx155_0); (try rw [show (k46).sz = 3 from rfl] at hf155_0); have HP155 := Kd.S_seg0 HH153.out (of_decide_eq_true (by assumption)) (by have h_ : (t198 : Int) < ((x3_1.length : Int) : Int) := of_decide_eq_true (by assumption); first | exact h_ | (have e_ := (HN153.out); omega) | simpa using h_) (seg := [.slice Ao157 y222.length co157]) (j := 2) (show 3 ≤ 3 from by decide) (x' := (⟨(rd_T46 x3_1 t198).f0, (rd_T46 x3_1 t198).f1, y222⟩ : S46)) (k46_mkM _ _ _ (⟨(rd_T46 x3_1 t198).f0, (rd_T46 x3_1 t198).f1, y222⟩ : S46) HO224.out) (fun _ hk => hk); clear hcc155 hfr155) | ((with_reducible refine gate_store (t := 29) (p := 128) rfl ?_); refine store_event (t := 29) (p := 128) (v := ?vo_w156) (w1 := (w154.setCell ⟨go113, (t198 : Int).toNat * 3 + 2, none⟩ (.slice Ao157 y222.length co157))) ?hg ?ho ?hn ?hr ?_; (case ho => rfl); (case hg => rfl); (case hn => rfl); (case hr => first | (go_simp; done) | (go_simp; rfl)); intro w156 hw; have hg : w154.grownBy w156 (some go113) := (by rw [hw]; exact HP155.2); have hp_ : Kd.S k46 46 w156 w.heap.size (fun _ => True) (.slice (some ⟨go113, 0, none⟩) x3_1.length co150) y225 := (by rw [hw, Ny225.out]; exact HP155.1); clear HP155; have n0_ := qy (IsS69.grown (by repeat (first | (with_reducible first | exact HI0.out | apply qa | apply qb | apply qc | apply qd | apply qe) | exact HI0.out)) hg (IsS69.own_ne HI0.out hraw155 (by decide))); have n1_ := qy ((by rw [hw]; exact qo HB.out (Nat.le_trans HL.out GB113.out) : Below w0.heap.size w0 w156)); have n2_ := qy (qB (by repeat (first | (with_reducible first | exact HK.out | apply qg | apply qh | apply qi | apply qj) | exact HK.out)) (KeepBut.of_grown hg g) (Kd.R_base2 hraw155)); have n3_ := qy (hp_); clear HI0 HB HK HO224 HH153; have HI0 := n0_; have HB := n1_; have HK := n2_; have HO_3 := n3_; clear n0_ n1_ n2_ n3_ hg hw hp_ hraw155))
           go_meet
           case rel => exact ⟨_, (y225), (t202), (t203), H', ⟨by have := HK1.out; have := HJ101.out; first | omega | exact Nat.le_refl _⟩, ⟨by (with_reducible repeat (first | apply qp | apply qq | apply qr)); exact HO_3.out⟩, ⟨by repeat (first | (with_reducible first | exact HI0.out | apply qa | apply qb | apply qc | apply qd | apply qe) | exact HI0.out)⟩, ⟨by repeat (first | (with_reducible first | exact HK.out | apply qg | apply qh | apply qi | apply qj) | exact HK.out)⟩, ⟨by repeat (first | (with_reducible first | exact HB.out | apply qn | apply ql | apply qm | refine qo ?_ (qI HI0.out)) | exact HB.out)⟩⟩
          ·rw [if_neg c146] at H
           have c146b0 : (t201 == 2) = false := beq_eq_false_iff_ne.mpr c146
           have c146b1 : (t201 != 2) = true := bne_iff_ne.mpr c146
           by_cases c158 : t201 = 3
           ·rw [if_pos c158] at H
            have c158b0 : (t201 == 3) = true := beq_iff_eq.mpr c158
            have c158b1 : (t201 != 3) = false := bne_eq_false_iff_eq.mpr c158
            clear c158
            replace H := Option.bind_eq_some_iff.mp H
            obtain ⟨⟨t226, t227, t228⟩, A1590, H⟩ := H
            have A159 := qy A1590
            clear A1590
            obtain ⟨ji160, hji160⟩ : ∃ j_ : Int, (wrap64 (20000 + t226)) = j_ := ⟨_, rfl⟩
            replace H : (if 0 ≤ (ji160) then (if (ji160 : Int).toNat ≤ 281474976710656 then (spec_l2DrawBoxes.j4 kj101 (x3_1.set (t198 : Int).toNat (⟨(rd_T46 x3_1 t198).f0, (rd_T46 x3_1 t198).f1, (List.replicate (ji160 : Int).toNat 0)⟩ : S46)) s0_0 t227 t228) else (none)) else (none)) = some (r1, r2, r3) := by first | (rw [hji160] at H; exact H) | (simp only [hji160] at H ⊢; exact H)
            (try rw [hji160] at A110)
            (try rw [hji160] at A114)
            (try rw [hji160] at A159)
            have hji160w : (IntKind.i64.wrap (20000 + t226)) = ji160 := (i64_w _).trans hji160
            by_cases c161 : 0 ≤ (ji160)
            rotate_left
            · rw [if_neg c161] at H; exact absurd H (by simp)
            rw [if_pos c161] at H
            have c161b0 := eq_true c161
            have c161b1 : decide (0 ≤ (ji160)) = true := decide_eq_true c161
            clear c161
            by_cases c162 : (ji160 : Int).toNat ≤ 281474976710656
            rotate_left
            · rw [if_neg c162] at H; exact absurd H (by simp)
            rw [if_pos c162] at H
            have c162b0 := eq_true c162
            have c162b1 : decide ((ji160 : Int).toNat ≤ 281474976710656) = true := decide_eq_true c162
            clear c162
            obtain ⟨y229, hy229⟩ : ∃ y_ : List Int, y_ = (List.replicate (ji160 : Int).toNat 0) := ⟨_, rfl⟩
            replace H : (spec_l2DrawBoxes.j4 kj101 (x3_1.set (t198 : Int).toNat (⟨(rd_T46 x3_1 t198).f0, (rd_T46 x3_1 t198).f1, y229⟩ : S46)) s0_0 t227 t228) = some (r1, r2, r3) := by first | (rw [hy229]; with_reducible exact H) | (have H2_ := (Option.bind_some _ _).symm.trans H; rw [hy229]; with_reducible exact H2_) | (have H2_ := (Option.bind_some _ _).symm.trans H; with_reducible exact H2_) | with_reducible exact H | (rw [hy229]; exact H) | exact H
            have Ny229 := qy hy229
            clear hy229
            obtain ⟨y232, hy232⟩ : ∃ y_ : List (S46), y_ = (x3_1.set (t198 : Int).toNat (⟨(rd_T46 x3_1 t198).f0, (rd_T46 x3_1 t198).f1, y229⟩ : S46)) := ⟨_, rfl⟩
            replace H : (spec_l2DrawBoxes.j4 kj101 y232 s0_0 t227 t228) = some (r1, r2, r3) := by first | (rw [hy232]; with_reducible exact H) | (have H2_ := (Option.bind_some _ _).symm.trans H; rw [hy232]; with_reducible exact H2_) | (have H2_ := (Option.bind_some _ _).symm.trans H; with_reducible exact H2_) | with_reducible exact H | (rw [hy232]; exact H) | exact H
            have Ny232 := qy hy232
            clear hy232
            have H' := qy H
            clear H
            obtain ⟨Ao164, co164, eo164⟩ := Kd.S_slice HO_3.out
            subst eo164
            go_wp2_with (first | ((with_reducible refine gate_callee (f := 56) rfl ?_); refine goesL_ (some 89) rfl rfl Try.func56 (by kernel_rfl) rfl #[.pointer (some ⟨g, 0, none⟩), .int .i64 (x3_1.length : Int)] rfl (by (try simp only [List.map_toArray, List.map_cons, List.map_nil]); first | done | rfl) ?_; (with_reducible refine (spec_l1Below.calls g s0_0 x1001_101 x1002_101 (x3_1.length : Int) t198 t199 t200 w0 _ ?side1 ?side2 A110.out).mono ?_); (case side1 => repeat (first | (with_reducible first | exact HI0.out | apply qa | apply qb | apply qc | apply qd | apply qe) | exact HI0.out)); (case side2 => repeat (first | (with_reducible first | exact HB.out | apply qn | apply ql | apply qm | refine qo ?_ (qI HI0.out)) | exact HB.out)); rintro e w165 ⟨rfl, hi, hb, hk⟩; refine ⟨_, rfl, ?_⟩; have n0_ := qy (qG (qE (qz (show IsS69 w0 _ g s0_0 x1001_101 x1002_101 from by repeat (first | (with_reducible first | exact HI0.out | apply qa | apply qb | apply qc | apply qd | apply qe) | exact HI0.out)) (by (with_reducible repeat (first | apply qp | apply qq | apply qr)); exact HO_3.out) (by decide)) hk (fun _ h => h.2)) (fun _ h => h.1)); have n1_ := qy (qB (by repeat (first | (with_reducible first | exact HK.out | apply qg | apply qh | apply qi | apply qj) | exact HK.out)) hk (.inl rfl)); have n2_ := qy (hb); have n3_ := qy (hi); clear HO_3 HK HB HI0; have HO_3 := n0_; have HK := n1_; have HB := n2_; have HI0 := n3_; clear n0_ n1_ n2_ n3_; (try clear hb hk hi); have p113 : 0 ≤ (t198 : Int) := of_decide_eq_true (by assumption); have q113 : (t198 : Int) < ((x3_1.length : Int) : Int) := of_decide_eq_true (by assumption); obtain ⟨go113, co113, eo113, gb113, gl113, cl113, HG113⟩ := Kd.S_form HO_3.out (by omega); (first | cases eo113 | (injection eo113 with ea_ en_ ec_; (first | subst ea_ | (injection ea_ with ea_; subst ea_)); subst ec_; clear en_)); have GB113 := qy gb113; have GG113 := qy HG113; clear gb113 gl113 HG113; obtain ⟨_, ce113, hcl113, hM113, hcc113, hfr113, _, _⟩ := Kd.S_elem HO_3.out z46 (t198 : Int) p113 q113; obtain ⟨ve113_2, rfl, ge113_2⟩ := k46_openM hM113; have hx113_0 : w165.cell? ⟨go113, (t198 : Int).toNat * 3, none⟩ = some (.string ((rd_T46 x3_1 t198).f0)) := hcc113 0 _ rfl; have hx113_1 : w165.cell? ⟨go113, (t198 : Int).toNat * 3 + 1, none⟩ = some (.int .i64 ((rd_T46 x3_1 t198).f1)) := hcc113 1 _ rfl; have hx113_2 : w165.cell? ⟨go113, (t198 : Int).toNat * 3 + 2, none⟩ = some (ve113_2) := hcc113 2 _ rfl; have hf113_0 : w165.frozen? ⟨go113, (t198 : Int).toNat * 3, none⟩ = false := hfr113 0; have hf113_1 : w165.frozen? ⟨go113, (t198 : Int).toNat * 3 + 1, none⟩ = false := hfr113 1; have hf113_2 : w165.frozen? ⟨go113, (t198 : Int).toNat * 3 + 2, none⟩ = false := hfr113 2; clear hcl113 hcc113 hfr113 hM113; replace p113 := eq_true p113; replace q113 := eq_true q113) | ((with_reducible refine gate_callee (f := 56) rfl ?_); refine goesL_ (some 92) rfl rfl Try.func56 (by kernel_rfl) rfl #[.pointer (some ⟨g, 0, none⟩), .int .i64 4] rfl (by (try simp only [List.map_toArray, List.map_cons, List.map_nil]); first | done | rfl) ?_; (with_reducible refine (spec_l1Below.calls g s0_0 t199 t200 4 t201 t202 t203 w0 _ ?side1 ?side2 A114.out).mono ?_); (case side1 => repeat (first | (with_reducible first | exact HI0.out | apply qa | apply qb | apply qc | apply qd | apply qe) | exact HI0.out)); (case side2 => repeat (first | (with_reducible first | exact HB.out | apply qn | apply ql | apply qm | refine qo ?_ (qI HI0.out)) | exact HB.out)); rintro e w166 ⟨rfl, hi, hb, hk⟩; refine ⟨_, rfl, ?_⟩; have n0_ := qy (qG (qE (qz (show IsS69 w0 _ g s0_0 t199 t200 from by repeat (first | (with_reducible first | exact HI0.out | apply qa | apply qb | apply qc | apply qd | apply qe) | exact HI0.out)) (by (with_reducible repeat (first | apply qp | apply qq | apply qr)); exact HO_3.out) (by decide)) hk (fun _ h => h.2)) (fun _ h => h.1)); have n1_ := qy (qB (by repeat (first | (with_reducible first | exact HK.out | apply qg | apply qh | apply qi | apply qj) | exact HK.out)) hk (.inl rfl)); have n2_ := qy (hb); have n3_ := qy (hi); clear HO_3 HK HB HI0; have HO_3 := n0_; have HK := n1_; have HB := n2_; have HI0 := n3_; clear n0_ n1_ n2_ n3_; (try clear hb hk hi)) | ((with_reducible refine gate_callee (f := 56) rfl ?_); refine goesL_ (some 133) rfl rfl Try.func56 (by kernel_rfl) rfl #[.pointer (some ⟨g, 0, none⟩), .int .i64 2] rfl (by (try simp only [List.map_toArray, List.map_cons, List.map_nil]); first | done | rfl) ?_; (with_reducible refine (spec_l1Below.calls g s0_0 t202 t203 2 t226 t227 t228 w0 _ ?side1 ?side2 A159.out).mono ?_); (case side1 => repeat (first | (with_reducible first | exact HI0.out | apply qa | apply qb | apply qc | apply qd | apply qe) | exact HI0.out)); (case side2 => repeat (first | (with_reducible first | exact HB.out | apply qn | apply ql | apply qm | refine qo ?_ (qI HI0.out)) | exact HB.out)); rintro e w167 ⟨rfl, hi, hb, hk⟩; refine ⟨_, rfl, ?_⟩; have n0_ := qy (qG (qE (qz (show IsS69 w0 _ g s0_0 t202 t203 from by repeat (first | (with_reducible first | exact HI0.out | apply qa | apply qb | apply qc | apply qd | apply qe) | exact HI0.out)) (by (with_reducible repeat (first | apply qp | apply qq | apply qr)); exact HO_3.out) (by decide)) hk (fun _ h => h.2)) (fun _ h => h.1)); have n1_ := qy (qB (by repeat (first | (with_reducible first | exact HK.out | apply qg | apply qh | apply qi | apply qj) | exact HK.out)) hk (.inl rfl)); have n2_ := qy (hb); have n3_ := qy (hi); clear HO_3 HK HB HI0; have HO_3 := n0_; have HK := n1_; have HB := n2_; have HI0 := n3_; clear n0_ n1_ n2_ n3_; (try clear hb hk hi)) | ((with_reducible refine gate_dst (N := 135) rfl ?_); (try (refine gate_guard (by rfl) ?_; dsimp only)); refine Kd.R_make (Kd.int .u8) _ 5 rfl (N := 135) rfl 29 _ _ rfl ji160 rfl rfl Try.underlying29 (.int .u8 0) 1 info5 rfl (by decide) (by omega) 0 (ok := fun _ => True) (okp := fun _ => True) rfl (fun _ hk => hk) trivial (of_decide_eq_true (by assumption)) (Nat.le_trans (Nat.mul_le_mul_right _ (of_decide_eq_true (by assumption) : ji160.toNat ≤ 281474976710656)) (by omega)) (Below.refl _ _) (Nat.le_refl _) ?_; intro v230 w168 ho169 hb hg_ hnew_; clear hg_ hnew_; (first | rw [← Ny229.out] at ho169 | (simp only [Int.reduceToNat] at ho169; rw [← Ny229.out] at ho169)); have n0_ := qy (Kd.S_elder' (by (with_reducible repeat (first | apply qp | apply qq | apply qr)); exact HO_3.out) (Kd.R_base ho169) hb); have n1_ := qy (Kd.R_lower ho169 (keep_size (w := w) (g := g) (row := none) (by repeat (first | (with_reducible first | exact HK.out | apply qg | apply qh | apply qi | apply qj) | exact HK.out)))); have n2_ := qy (IsS69.below (by repeat (first | (with_reducible first | exact HI0.out | apply qa | apply qb | apply qc | apply qd | apply qe) | exact HI0.out)) hb); have n3_ := qy (qB (by repeat (first | (with_reducible first | exact HK.out | apply qg | apply qh | apply qi | apply qj) | exact HK.out)) (KeepBut.of_below hb g none) (.inl rfl)); have n4_ := qy (below_step (by repeat (first | (with_reducible first | exact HB.out | apply qn | apply ql | apply qm | refine qo ?_ (qI HI0.out)) | exact HB.out)) hb); clear HO_3 HI0 HK HB; have HO_3 := n0_; have HO231 := n1_; have HI0 := n2_; have HK := n3_; have HB := n4_; clear n0_ n1_ n2_ n3_ n4_ hb ho169; have p163 : 0 ≤ (t198 : Int) := of_decide_eq_true (by assumption); have q163 : (t198 : Int) < ((x3_1.length : Int) : Int) := of_decide_eq_true (by assumption); obtain ⟨_, ce163, hcl163, hM163, hcc163, hfr163, _, _⟩ := Kd.S_elem HO_3.out z46 (t198 : Int) p163 q163; obtain ⟨ve163_2, rfl, ge163_2⟩ := k46_openM hM163; have hx163_0 : w168.cell? ⟨go113, (t198 : Int).toNat * 3, none⟩ = some (.string ((rd_T46 x3_1 t198).f0)) := hcc163 0 _ rfl; have hx163_1 : w168.cell? ⟨go113, (t198 : Int).toNat * 3 + 1, none⟩ = some (.int .i64 ((rd_T46 x3_1 t198).f1)) := hcc163 1 _ rfl; have hx163_2 : w168.cell? ⟨go113, (t198 : Int).toNat * 3 + 2, none⟩ = some (ve163_2) := hcc163 2 _ rfl; have hf163_0 : w168.frozen? ⟨go113, (t198 : Int).toNat * 3, none⟩ = false := hfr163 0; have hf163_1 : w168.frozen? ⟨go113, (t198 : Int).toNat * 3 + 1, none⟩ = false := hfr163 1; have hf163_2 : w168.frozen? ⟨go113, (t198 : Int).toNat * 3 + 2, none⟩ = false := hfr163 2; clear hcl163 hcc163 hfr163 hM163; replace p163 := eq_true p163; replace q163 := eq_true q163; have n_ := qy (qG (ok' := (fun k_ => some k_ ≠ (v230 : Value).ownBlock)) HO_3.out (fun k_ hk => hk.2)); clear HO_3; have HO_3 := n_; clear n_; have HX170 := qy (show Kd.S k46 46 w168 w.heap.size (fun k_ => ((fun _ => True)) k_ ∧ ¬ ((fun k_ => some k_ = (v230 : Value).ownBlock)) k_) (.slice (some ⟨go113, 0, none⟩) x3_1.length co164) x3_1 from (by (with_reducible repeat (first | apply qp | apply qq | apply qr)); exact qG HO_3.out (fun k_ hk => ⟨trivial, fun e_ => hk e_⟩))); obtain ⟨oki170, ce170, hcl170, hM170, hcc170, hfr170, hoki170, hH170⟩ := Kd.S_elem HX170.out z46 (t198 : Int) (of_decide_eq_true (by assumption)) (by have h_ : (t198 : Int) < ((x3_1.length : Int) : Int) := of_decide_eq_true (by assumption); first | exact h_ | (have e_ := (Kd.S_reads' HO_3.out).1; omega) | simpa using h_); obtain ⟨ve170_2, rfl, ge170_2⟩ := k46_openM hM170; have HP170 := Kd.S_seg hH170 (of_decide_eq_true (by assumption)) (by have h_ : (t198 : Int) < ((x3_1.length : Int) : Int) := of_decide_eq_true (by assumption); first | exact h_ | (have e_ := (Kd.S_reads' HO_3.out).1; omega) | simpa using h_) (seg := [v230]) (j := 2) (show 3 ≤ 3 from by decide) (x' := (⟨(rd_T46 x3_1 t198).f0, (rd_T46 x3_1 t198).f1, y229⟩ : S46)) (k46_mkM _ _ _ (⟨(rd_T46 x3_1 t198).f0, (rd_T46 x3_1 t198).f1, y229⟩ : S46) (qH (Kd.R_tight rfl (qH (ok' := fun k_ => ((fun _ => True)) k_ ∧ k_ ≠ go113) (Kd.R_apart' (HO231.out) (Kd.S_typed HO_3.out) (by decide)) (fun k_ hk => ⟨trivial, fun e_ => (hk.2) (by rw [e_]; rfl)⟩))) (fun _ h_ => Or.inr (h_)))) (fun _ hk => hk) (fun k_ hk_ => ((qH (ok' := fun k_ => ((fun _ => True)) k_ ∧ k_ ≠ go113) (Kd.R_apart' (HO231.out) (Kd.S_typed HO_3.out) (by decide)) (fun k_ hk => ⟨trivial, fun e_ => (hk.2) (by rw [e_]; rfl)⟩))).1 k_ hk_.symm); have hx170_2 := hcc170 2 _ rfl; (try simp only [show (k46).sz = 3 from rfl, Nat.mul_one, Nat.add_zero] at hx170_2); have hf170_2 := hfr170 2; (try simp only [show (k46).sz = 3 from rfl, Nat.mul_one, Nat.add_zero] at hf170_2); clear hcl170 hcc170 hfr170 hM170 hoki170 hH170) | ((with_reducible refine gate_store (t := 29) (p := 137) rfl ?_); refine store_event (t := 29) (p := 137) (v := ?vo_w171) (w1 := (w168.setCell ⟨go113, (t198 : Int).toNat * 3 + 2, none⟩ (v230))) ?hg ?ho ?hn ?hr ?_; (case ho => rfl); (case hg => rfl); (case hn => rfl); (case hr => first | (have hs_ := run_store_own HO231.out Try.prog; go_simp; done) | (have hs_ := run_store_own HO231.out Try.prog; go_simp; rfl) | (have hs_ := run_store_own HO231.out Try.prog; go_simp; simp only [hs_]; go_simp; done) | (obtain ⟨_, _, ev_⟩ := Kd.R_slice HO231.out; subst ev_; go_simp; done) | (obtain ⟨_, _, ev_⟩ := Kd.R_slice HO231.out; subst ev_; go_simp; rfl) | (go_simp; done) | (go_simp; rfl)); intro w171 hw; have hg : w168.grownBy w171 (some go113) := (by rw [hw]; exact HP170.2); have hp_ : Kd.S k46 46 w171 w.heap.size (fun _ => True) (.slice (some ⟨go113, 0, none⟩) x3_1.length co164) y232 := (by rw [hw, Ny232.out]; exact HP170.1); clear HP170; have n0_ := qy (hp_); have n1_ := qy (IsS69.grown (by repeat (first | (with_reducible first | exact HI0.out | apply qa | apply qb | apply qc | apply qd | apply qe) | exact HI0.out)) hg (IsS69.own_neS HI0.out HO_3.out (by decide))); have n2_ := qy ((by rw [hw]; exact qo (HB.out) (Nat.le_trans HL.out GB113.out) : Below w0.heap.size w0 w171)); have n3_ := qy (qB (by repeat (first | (with_reducible first | exact HK.out | apply qg | apply qh | apply qi | apply qj) | exact HK.out)) (KeepBut.of_grown hg g) (Kd.S_base2 HO_3.out)); clear HO_3 HI0 HB HK HO231; have HO_3 := n0_; have HI0 := n1_; have HB := n2_; have HK := n3_; clear n0_ n1_ n2_ n3_ hg hw hp_))
            go_meet
            case rel => exact ⟨_, (y232), (t227), (t228), H', ⟨by have := HK1.out; have := HJ101.out; first | omega | exact Nat.le_refl _⟩, ⟨by (with_reducible repeat (first | apply qp | apply qq | apply qr)); exact HO_3.out⟩, ⟨by repeat (first | (with_reducible first | exact HI0.out | apply qa | apply qb | apply qc | apply qd | apply qe) | exact HI0.out)⟩, ⟨by repeat (first | (with_reducible first | exact HK.out | apply qg | apply qh | apply qi | apply qj) | exact HK.out)⟩, ⟨by repeat (first | (with_reducible first | exact HB.out | apply qn | apply ql | apply qm | refine qo ?_ (qI HI0.out)) | exact HB.out)⟩⟩
           ·rw [if_neg c158] at H
            have c158b0 : (t201 == 3) = false := beq_eq_false_iff_ne.mpr c158
            have c158b1 : (t201 != 3) = true := bne_iff_ne.mpr c158
            have H' := qy H
            clear H
            obtain ⟨Ao172, co172, eo172⟩ := Kd.S_slice HO_3.out
            subst eo172
            go_wp2_with (first | ((with_reducible refine gate_callee (f := 56) rfl ?_); refine goesL_ (some 89) rfl rfl Try.func56 (by kernel_rfl) rfl #[.pointer (some ⟨g, 0, none⟩), .int .i64 (x3_1.length : Int)] rfl (by (try simp only [List.map_toArray, List.map_cons, List.map_nil]); first | done | rfl) ?_; (with_reducible refine (spec_l1Below.calls g s0_0 x1001_101 x1002_101 (x3_1.length : Int) t198 t199 t200 w0 _ ?side1 ?side2 A110.out).mono ?_); (case side1 => repeat (first | (with_reducible first | exact HI0.out | apply qa | apply qb | apply qc | apply qd | apply qe) | exact HI0.out)); (case side2 => repeat (first | (with_reducible first | exact HB.out | apply qn | apply ql | apply qm | refine qo ?_ (qI HI0.out)) | exact HB.out)); rintro e w173 ⟨rfl, hi, hb, hk⟩; refine ⟨_, rfl, ?_⟩; have n0_ := qy (qG (qE (qz (show IsS69 w0 _ g s0_0 x1001_101 x1002_101 from by repeat (first | (with_reducible first | exact HI0.out | apply qa | apply qb | apply qc | apply qd | apply qe) | exact HI0.out)) (by (with_reducible repeat (first | apply qp | apply qq | apply qr)); exact HO_3.out) (by decide)) hk (fun _ h => h.2)) (fun _ h => h.1)); have n1_ := qy (qB (by repeat (first | (with_reducible first | exact HK.out | apply qg | apply qh | apply qi | apply qj) | exact HK.out)) hk (.inl rfl)); have n2_ := qy (hb); have n3_ := qy (hi); clear HO_3 HK HB HI0; have HO_3 := n0_; have HK := n1_; have HB := n2_; have HI0 := n3_; clear n0_ n1_ n2_ n3_; (try clear hb hk hi); have p113 : 0 ≤ (t198 : Int) := of_decide_eq_true (by assumption); have q113 : (t198 : Int) < ((x3_1.length : Int) : Int) := of_decide_eq_true (by assumption); obtain ⟨go113, co113, eo113, gb113, gl113, cl113, HG113⟩ := Kd.S_form HO_3.out (by omega); (first | cases eo113 | (injection eo113 with ea_ en_ ec_; (first | subst ea_ | (injection ea_ with ea_; subst ea_)); subst ec_; clear en_)); have GB113 := qy gb113; have GG113 := qy HG113; clear gb113 gl113 HG113; obtain ⟨_, ce113, hcl113, hM113, hcc113, hfr113, _, _⟩ := Kd.S_elem HO_3.out z46 (t198 : Int) p113 q113; obtain ⟨ve113_2, rfl, ge113_2⟩ := k46_openM hM113; have hx113_0 : w173.cell? ⟨go113, (t198 : Int).toNat * 3, none⟩ = some (.string ((rd_T46 x3_1 t198).f0)) := hcc113 0 _ rfl; have hx113_1 : w173.cell? ⟨go113, (t198 : Int).toNat * 3 + 1, none⟩ = some (.int .i64 ((rd_T46 x3_1 t198).f1)) := hcc113 1 _ rfl; have hx113_2 : w173.cell? ⟨go113, (t198 : Int).toNat * 3 + 2, none⟩ = some (ve113_2) := hcc113 2 _ rfl; have hf113_0 : w173.frozen? ⟨go113, (t198 : Int).toNat * 3, none⟩ = false := hfr113 0; have hf113_1 : w173.frozen? ⟨go113, (t198 : Int).toNat * 3 + 1, none⟩ = false := hfr113 1; have hf113_2 : w173.frozen? ⟨go113, (t198 : Int).toNat * 3 + 2, none⟩ = false := hfr113 2; clear hcl113 hcc113 hfr113 hM113; replace p113 := eq_true p113; replace q113 := eq_true q113) | ((with_reducible refine gate_callee (f := 56) rfl ?_); refine goesL_ (some 92) rfl rfl Try.func56 (by kernel_rfl) rfl #[.pointer (some ⟨g, 0, none⟩), .int .i64 4] rfl (by (try simp only [List.map_toArray, List.map_cons, List.map_nil]); first | done | rfl) ?_; (with_reducible refine (spec_l1Below.calls g s0_0 t199 t200 4 t201 t202 t203 w0 _ ?side1 ?side2 A114.out).mono ?_); (case side1 => repeat (first | (with_reducible first | exact HI0.out | apply qa | apply qb | apply qc | apply qd | apply qe) | exact HI0.out)); (case side2 => repeat (first | (with_reducible first | exact HB.out | apply qn | apply ql | apply qm | refine qo ?_ (qI HI0.out)) | exact HB.out)); rintro e w174 ⟨rfl, hi, hb, hk⟩; refine ⟨_, rfl, ?_⟩; have n0_ := qy (qG (qE (qz (show IsS69 w0 _ g s0_0 t199 t200 from by repeat (first | (with_reducible first | exact HI0.out | apply qa | apply qb | apply qc | apply qd | apply qe) | exact HI0.out)) (by (with_reducible repeat (first | apply qp | apply qq | apply qr)); exact HO_3.out) (by decide)) hk (fun _ h => h.2)) (fun _ h => h.1)); have n1_ := qy (qB (by repeat (first | (with_reducible first | exact HK.out | apply qg | apply qh | apply qi | apply qj) | exact HK.out)) hk (.inl rfl)); have n2_ := qy (hb); have n3_ := qy (hi); clear HO_3 HK HB HI0; have HO_3 := n0_; have HK := n1_; have HB := n2_; have HI0 := n3_; clear n0_ n1_ n2_ n3_; (try clear hb hk hi)))
            go_meet
            case rel => exact ⟨_, (x3_1), (t202), (t203), H', ⟨by have := HK1.out; have := HJ101.out; first | omega | exact Nat.le_refl _⟩, ⟨by (with_reducible repeat (first | apply qp | apply qq | apply qr)); exact HO_3.out⟩, ⟨by repeat (first | (with_reducible first | exact HI0.out | apply qa | apply qb | apply qc | apply qd | apply qe) | exact HI0.out)⟩, ⟨by repeat (first | (with_reducible first | exact HK.out | apply qg | apply qh | apply qi | apply qj) | exact HK.out)⟩, ⟨by repeat (first | (with_reducible first | exact HB.out | apply qn | apply ql | apply qm | refine qo ?_ (qI HI0.out)) | exact HB.out)⟩⟩
       ·replace c109 := Bool.eq_false_iff.mpr c109
        subst c109
        have H1 := H; rw [if_neg (show ¬ (false = true) by decide)] at H1
        clear H
        have H := H1
        clear H1
        have H' := qy H
        clear H
        go_wp2
        go_meet
        case rel => exact ⟨_, (x3_1), (x1001_101), (x1002_101), H', ⟨by have := HK1.out; have := HJ101.out; first | omega | exact Nat.le_refl _⟩, ⟨by (with_reducible repeat (first | apply qp | apply qq | apply qr)); exact HO_3.out⟩, ⟨by repeat (first | (with_reducible first | exact HI0.out | apply qa | apply qb | apply qc | apply qd | apply qe) | exact HI0.out)⟩, ⟨by repeat (first | (with_reducible first | exact HK.out | apply qg | apply qh | apply qi | apply qj) | exact HK.out)⟩, ⟨by repeat (first | (with_reducible first | exact HB.out | apply qn | apply ql | apply qm | refine qo ?_ (qI HI0.out)) | exact HB.out)⟩⟩
      case rest =>
       clear HC108
       try clear hx113_0
       try clear hx113_1
       try clear hx113_2
       try clear hx119_0
       try clear hx119_1
       try clear hx119_2
       try clear hx127_0
       try clear hx130_0
       try clear hx130_1
       try clear hx130_2
       try clear hx134_0
       try clear hx134_1
       try clear hx134_2
       try clear hx147_0
       try clear hx147_1
       try clear hx147_2
       try clear hx155_0
       try clear hx163_0
       try clear hx163_1
       try clear hx163_2
       try clear hx170_2
       try clear hx210_0
       try clear hx212_0
       try clear hx212_1
       try clear hx212_2
       try clear hx219_0
       try clear hx221_0
       try clear hx221_1
       try clear hx221_2
       obtain ⟨kq, x3_107, x1001_107, x1002_107, HA, HJ107, HO_3, HI0, HK, HB⟩ := hcut
       cases kq with
       | zero => exact absurd HA.out (by simp [spec_l2DrawBoxes.j4])
       | succ kj107 =>
        have H := HA.out
        clear HA
        simp only [spec_l2DrawBoxes.j4] at H
        replace H := Option.bind_eq_some_iff.mp H
        obtain ⟨⟨t233, t234, t235⟩, A1750, H⟩ := H
        have A175 := qy A1750
        clear A1750
        have HC176 := qy H
        clear H
        go_upto_if 139 with (first | ((with_reducible refine gate_callee (f := 58) rfl ?_); refine goesL_ (some 139) rfl rfl Try.func58 (by kernel_rfl) rfl #[.pointer (some ⟨g, 0, none⟩), .int .i64 40] rfl (by (try simp only [List.map_toArray, List.map_cons, List.map_nil]); first | done | rfl) ?_; (with_reducible refine (spec_l1Once.calls g s0_0 x1001_107 x1002_107 40 t233 t234 t235 w0 _ ?side1 ?side2 A175.out).mono ?_); (case side1 => repeat (first | (with_reducible first | exact HI0.out | apply qa | apply qb | apply qc | apply qd | apply qe) | exact HI0.out)); (case side2 => repeat (first | (with_reducible first | exact HB.out | apply qn | apply ql | apply qm | refine qo ?_ (qI HI0.out)) | exact HB.out)); rintro e w177 ⟨rfl, hi, hb, hk⟩; refine ⟨_, rfl, ?_⟩; have n0_ := qy (qG (qE (qz (show IsS69 w0 _ g s0_0 x1001_107 x1002_107 from by repeat (first | (with_reducible first | exact HI0.out | apply qa | apply qb | apply qc | apply qd | apply qe) | exact HI0.out)) (by (with_reducible repeat (first | apply qp | apply qq | apply qr)); exact HO_3.out) (by decide)) hk (fun _ h => h.2)) (fun _ h => h.1)); have n1_ := qy (qB (by repeat (first | (with_reducible first | exact HK.out | apply qg | apply qh | apply qi | apply qj) | exact HK.out)) hk (.inl rfl)); have n2_ := qy (hb); have n3_ := qy (hi); clear HO_3 HK HB HI0; have HO_3 := n0_; have HK := n1_; have HB := n2_; have HI0 := n3_; clear n0_ n1_ n2_ n3_; (try clear hb hk hi)))
        (try simp only [Act.put, u12a, u12b, u12c])
        go_cut [3] (fun v3 wc => ∃ (kq : Nat) (x3_175 : List (S46)) (x1001_175 : Int) (x1002_175 : Int), Aside0 (spec_l2DrawBoxes.j6 kq x3_175 s0_0 x1001_175 x1002_175 = some (r1, r2, r3)) ∧ Aside0 (kq ≤ kj107) ∧ Aside0 (Kd.S k46 46 wc w.heap.size (fun _ => True) v3 x3_175) ∧ Aside0 (IsS69 w0 wc g s0_0 x1001_175 x1002_175) ∧ Aside0 (KeepBut w wc g none) ∧ Aside0 (Below w0.heap.size w0 wc))
        case first =>
         have H := HC176.out
         clear HC176
         by_cases c178 : t233 = true
         ·subst c178
          have H1 := H; rw [if_pos rfl] at H1
          clear H
          have H := H1
          clear H1
          obtain ⟨y236, hy236⟩ : ∃ y_ : List (S46), y_ = (([] : List (S46))) := ⟨_, rfl⟩
          replace H : (spec_l2DrawBoxes.l2 kj107 y236 0 s0_0 t234 t235) = some (r1, r2, r3) := by first | (rw [hy236]; with_reducible exact H) | (have H2_ := (Option.bind_some _ _).symm.trans H; rw [hy236]; with_reducible exact H2_) | (have H2_ := (Option.bind_some _ _).symm.trans H; with_reducible exact H2_) | with_reducible exact H | (rw [hy236]; exact H) | exact H
          have Ny236 := qy hy236
          clear hy236
          have H' := qy H
          clear H
          go_wp2_with (first | ((with_reducible refine gate_dst (N := 140) rfl ?_); (try (refine gate_guard (by rfl) ?_; dsimp only)); refine Kd.S_lit k46 _ 46 ?hg (N := 140) ?hd (xs := ([] : List (S46))) (inner := []) (ok := fun _ => True) (okp := fun _ => True) ?hr ?hp (fun _ hk => hk) trivial (Below.refl _ _) (Nat.le_refl _) (by simp) ?_; (case hd => rfl); (case hg => rfl); (case hr => first | (go_simp; done) | (go_simp; rfl)); (case hp => exact (Reps.none _ _)); intro v237 w179 ho180 hb hg_ hnew_; clear hg_ hnew_; (first | rw [← Ny236.out] at ho180 | (simp only [Int.reduceToNat] at ho180; rw [← Ny236.out] at ho180)); have n0_ := qy (Kd.S_elder' (by (with_reducible repeat (first | apply qp | apply qq | apply qr)); exact HO_3.out) (Kd.S_base ho180) hb); have n1_ := qy (Kd.S_lower (Kd.S_new' ho180 (Kd.S_lt (by (with_reducible repeat (first | apply qp | apply qq | apply qr)); exact HO_3.out))) (keep_size (w := w) (g := g) (row := none) (by repeat (first | (with_reducible first | exact HK.out | apply qg | apply qh | apply qi | apply qj) | exact HK.out)))); have n2_ := qy (IsS69.below (by repeat (first | (with_reducible first | exact HI0.out | apply qa | apply qb | apply qc | apply qd | apply qe) | exact HI0.out)) hb); have n3_ := qy (qB (by repeat (first | (with_reducible first | exact HK.out | apply qg | apply qh | apply qi | apply qj) | exact HK.out)) (KeepBut.of_below hb g none) (.inl rfl)); have n4_ := qy (below_step (by repeat (first | (with_reducible first | exact HB.out | apply qn | apply ql | apply qm | refine qo ?_ (qI HI0.out)) | exact HB.out)) hb); clear HO_3 HI0 HK HB; have HO_3 := n0_; have HO238 := n1_; have HI0 := n2_; have HK := n3_; have HB := n4_; clear n0_ n1_ n2_ n3_ n4_ hb ho180))
          go_loopg [3, 9] kj107 (fun kq v3 v9 w' => ∃ (x3_4 : List (S46)) (x9_4 : Int) (x1001_4 : Int) (x1002_4 : Int), v9 = .int .i64 x9_4 ∧ Aside0 (spec_l2DrawBoxes.l2 kq x3_4 x9_4 s0_0 x1001_4 x1002_4 = some (r1, r2, r3)) ∧ Aside0 (kq ≤ kj107) ∧ Aside0 (Kd.S k46 46 w' w.heap.size (fun _ => True) v3 x3_4) ∧ Aside0 (IsS69 w0 w' g s0_0 x1001_4 x1002_4) ∧ Aside0 (KeepBut w w' g none) ∧ Aside0 (Below w0.heap.size w0 w'))
          case atStart => exact ⟨(y236), (0), (t234), (t235), (by first | rfl | (simp; done) | (simp [*]; done)), H', ⟨Nat.le_refl _⟩, ⟨by (with_reducible repeat (first | apply qp | apply qq | apply qr)); exact qG HO238.out (fun _ hk => trivial)⟩, ⟨by repeat (first | (with_reducible first | exact HI0.out | apply qa | apply qb | apply qc | apply qd | apply qe) | exact HI0.out)⟩, ⟨by repeat (first | (with_reducible first | exact HK.out | apply qg | apply qh | apply qi | apply qj) | exact HK.out)⟩, ⟨by repeat (first | (with_reducible first | exact HB.out | apply qn | apply ql | apply qm | refine qo ?_ (qI HI0.out)) | exact HB.out)⟩⟩
          case round =>
           clear H'
           try clear hx113_0
           try clear hx113_1
           try clear hx113_2
           try clear hx119_0
           try clear hx119_1
           try clear hx119_2
           try clear hx127_0
           try clear hx130_0
           try clear hx130_1
           try clear hx130_2
           try clear hx134_0
           try clear hx134_1
           try clear hx134_2
           try clear hx147_0
           try clear hx147_1
           try clear hx147_2
           try clear hx155_0
           try clear hx163_0
           try clear hx163_1
           try clear hx163_2
           try clear hx170_2
           try clear hx210_0
           try clear hx212_0
           try clear hx212_1
           try clear hx212_2
           try clear hx219_0
           try clear hx221_0
           try clear hx221_1
           try clear hx221_2
           obtain ⟨x3_4, x9_4, x1001_4, x1002_4, rfl, HA, HK4, HO_3, HI0, HK, HB⟩ := hrel
           cases gk with
           | zero => exact absurd HA.out (by simp [spec_l2DrawBoxes.l2])
           | succ k4 =>
            have H := HA.out
            clear HA
            simp only [spec_l2DrawBoxes.l2] at H
            replace H := Option.bind_eq_some_iff.mp H
            obtain ⟨⟨t239, t240, t241⟩, A1810, H⟩ := H
            have A181 := qy A1810
            clear A1810
            by_cases c182 : x9_4 < (wrap64 (200 + t239))
            ·rw [if_pos c182] at H
             have c182b0 : decide (x9_4 < (wrap64 (200 + t239))) = true := decide_eq_true c182
             clear c182
             (first | rw [c182b0] | (simp only [i64_w, i32_w]; rw [c182b0]) | rw [c182b1] | skip)
             by_cases c183 : x3_4.length < 2932031007402
             rotate_left
             · rw [if_neg c183] at H; exact absurd H (by simp)
             rw [if_pos c183] at H
             have LMc183 := qy c183
             clear c183
             obtain ⟨y242, hy242⟩ : ∃ y_ : List (S46), y_ = (x3_4 ++ [(⟨(⟨#[115, 107, 105, 112]⟩ : ByteArray), 0, ([] : List Int)⟩ : S46)]) := ⟨_, rfl⟩
             replace H : (spec_l2DrawBoxes.l2 k4 y242 (wrap64 (x9_4 + 1)) s0_0 t240 t241) = some (r1, r2, r3) := by first | (rw [hy242]; with_reducible exact H) | (have H2_ := (Option.bind_some _ _).symm.trans H; rw [hy242]; with_reducible exact H2_) | (have H2_ := (Option.bind_some _ _).symm.trans H; with_reducible exact H2_) | with_reducible exact H | (rw [hy242]; exact H) | exact H
             have Ny242 := qy hy242
             clear hy242
             have H' := qy H
             clear H
             go_wp2_with (first | ((with_reducible refine gate_callee (f := 56) rfl ?_); refine goesL_ (some 143) rfl rfl Try.func56 (by kernel_rfl) rfl #[.pointer (some ⟨g, 0, none⟩), .int .i64 2] rfl (by (try simp only [List.map_toArray, List.map_cons, List.map_nil]); first | done | rfl) ?_; (with_reducible refine (spec_l1Below.calls g s0_0 x1001_4 x1002_4 2 t239 t240 t241 w0 _ ?side1 ?side2 A181.out).mono ?_); (case side1 => repeat (first | (with_reducible first | exact HI0.out | apply qa | apply qb | apply qc | apply qd | apply qe) | exact HI0.out)); (case side2 => repeat (first | (with_reducible first | exact HB.out | apply qn | apply ql | apply qm | refine qo ?_ (qI HI0.out)) | exact HB.out)); rintro e w184 ⟨rfl, hi, hb, hk⟩; refine ⟨_, rfl, ?_⟩; have n0_ := qy (qG (qE (qz (show IsS69 w0 _ g s0_0 x1001_4 x1002_4 from by repeat (first | (with_reducible first | exact HI0.out | apply qa | apply qb | apply qc | apply qd | apply qe) | exact HI0.out)) (by (with_reducible repeat (first | apply qp | apply qq | apply qr)); exact HO_3.out) (by decide)) hk (fun _ h => h.2)) (fun _ h => h.1)); have n1_ := qy (qB (by repeat (first | (with_reducible first | exact HK.out | apply qg | apply qh | apply qi | apply qj) | exact HK.out)) hk (.inl rfl)); have n2_ := qy (hb); have n3_ := qy (hi); clear HO_3 HK HB HI0; have HO_3 := n0_; have HK := n1_; have HB := n2_; have HI0 := n3_; clear n0_ n1_ n2_ n3_; (try clear hb hk hi)) | ((with_reducible refine gate_builtin (b := .append) (xs := #[.tmp 148, .tmp 150]) rfl ?_); (try (refine gate_guard (by rfl) ?_; dsimp only)); at_builtin; refine Kd.S_append k46 w.heap.size rfl (.tmp 148) (.tmp 150) 25 46 (.agg #[(.string ⟨#[]⟩), (.int .i64 0), (.slice none 0 0)]) 48 rfl Try.underlying25 info46 rfl (by decide) (by omega) u3 x3_4 (⟨(⟨#[115, 107, 105, 112]⟩ : ByteArray), 0, ([] : List Int)⟩ : S46) [.string (⟨#[115, 107, 105, 112]⟩ : ByteArray), .int .i64 0, .slice none 0 0] (fun _ => True) (fun _ => False) rfl rfl ?aP (fun k_ hk_ => hk_.elim) ?aF ?aO (Below.refl _ _) ?aS ?aL ?_; (case aP => exact k46_mkM _ _ _ (⟨(⟨#[115, 107, 105, 112]⟩ : ByteArray), 0, ([] : List Int)⟩ : S46) (Kd.R_nil _ _ _ _ _)); (case aF => exact (fun _ _ => trivial)); (case aO => exact (by (with_reducible repeat (first | apply qp | apply qq | apply qr)); exact qG HO_3.out (fun k_ hk => ⟨trivial, fun e_ => e_⟩))); (case aS => exact (keep_size (w := w) (g := g) (row := none) (by repeat (first | (with_reducible first | exact HK.out | apply qg | apply qh | apply qi | apply qj) | exact HK.out)))); (case aL => have := LMc183.out; omega); intro v243 w185 ho hb hg hat; rw [← Ny242.out] at ho; have n0_ := qy (IsS69.grown (by repeat (first | (with_reducible first | exact HI0.out | apply qa | apply qb | apply qc | apply qd | apply qe) | exact HI0.out)) hg (IsS69.own_neS HI0.out HO_3.out (by decide))); have n1_ := qy (below_weaken (by repeat (first | (with_reducible first | exact HB.out | apply qn | apply ql | apply qm | refine qo ?_ (qI HI0.out)) | exact HB.out)) HL.out hb); have n2_ := qy (qB (by repeat (first | (with_reducible first | exact HK.out | apply qg | apply qh | apply qi | apply qj) | exact HK.out)) (KeepBut.of_grown hg g) (Kd.S_base2 HO_3.out)); have n3_ := qy (ho); clear HI0 HB HK HO_3; have HI0 := n0_; have HB := n1_; have HK := n2_; have HO244 := n3_; clear n0_ n1_ n2_ n3_ ho hb hg hat))
             go_roundg k4
             case measure => have := HK1.out; have := HJ101.out; have := HJ107.out; have := HK4.out; omega
             case rel => exact ⟨(y242), (wrap64 (x9_4 + 1)), (t240), (t241), (by first | rfl | (simp; done) | (simp [*]; done)), H', ⟨by have := HK1.out; have := HJ101.out; have := HJ107.out; have := HK4.out; omega⟩, ⟨by (with_reducible repeat (first | apply qp | apply qq | apply qr)); exact HO244.out⟩, ⟨by repeat (first | (with_reducible first | exact HI0.out | apply qa | apply qb | apply qc | apply qd | apply qe) | exact HI0.out)⟩, ⟨by repeat (first | (with_reducible first | exact HK.out | apply qg | apply qh | apply qi | apply qj) | exact HK.out)⟩, ⟨by repeat (first | (with_reducible first | exact HB.out | apply qn | apply ql | apply qm | refine qo ?_ (qI HI0.out)) | exact HB.out)⟩⟩
            ·rw [if_neg c182] at H
             have c182b0 : decide (x9_4 < (wrap64 (200 + t239))) = false := decide_eq_false c182
             clear c182
             (first | rw [c182b0] | (simp only [i64_w, i32_w]; rw [c182b0]) | rw [c182b1] | skip)
             have H' := qy H
             clear H
             go_wp2_with (first | ((with_reducible refine gate_callee (f := 56) rfl ?_); refine goesL_ (some 143) rfl rfl Try.func56 (by kernel_rfl) rfl #[.pointer (some ⟨g, 0, none⟩), .int .i64 2] rfl (by (try simp only [List.map_toArray, List.map_cons, List.map_nil]); first | done | rfl) ?_; (with_reducible refine (spec_l1Below.calls g s0_0 x1001_4 x1002_4 2 t239 t240 t241 w0 _ ?side1 ?side2 A181.out).mono ?_); (case side1 => repeat (first | (with_reducible first | exact HI0.out | apply qa | apply qb | apply qc | apply qd | apply qe) | exact HI0.out)); (case side2 => repeat (first | (with_reducible first | exact HB.out | apply qn | apply ql | apply qm | refine qo ?_ (qI HI0.out)) | exact HB.out)); rintro e w186 ⟨rfl, hi, hb, hk⟩; refine ⟨_, rfl, ?_⟩; have n0_ := qy (qG (qE (qz (show IsS69 w0 _ g s0_0 x1001_4 x1002_4 from by repeat (first | (with_reducible first | exact HI0.out | apply qa | apply qb | apply qc | apply qd | apply qe) | exact HI0.out)) (by (with_reducible repeat (first | apply qp | apply qq | apply qr)); exact HO_3.out) (by decide)) hk (fun _ h => h.2)) (fun _ h => h.1)); have n1_ := qy (qB (by repeat (first | (with_reducible first | exact HK.out | apply qg | apply qh | apply qi | apply qj) | exact HK.out)) hk (.inl rfl)); have n2_ := qy (hb); have n3_ := qy (hi); clear HO_3 HK HB HI0; have HO_3 := n0_; have HK := n1_; have HB := n2_; have HI0 := n3_; clear n0_ n1_ n2_ n3_; (try clear hb hk hi)))
             go_meet
             case rel => exact ⟨_, (x3_4), (t240), (t241), H', ⟨by have := HK1.out; have := HJ101.out; have := HJ107.out; have := HK4.out; first | omega | exact Nat.le_refl _⟩, ⟨by (with_reducible repeat (first | apply qp | apply qq | apply qr)); exact HO_3.out⟩, ⟨by repeat (first | (with_reducible first | exact HI0.out | apply qa | apply qb | apply qc | apply qd | apply qe) | exact HI0.out)⟩, ⟨by repeat (first | (with_reducible first | exact HK.out | apply qg | apply qh | apply qi | apply qj) | exact HK.out)⟩, ⟨by repeat (first | (with_reducible first | exact HB.out | apply qn | apply ql | apply qm | refine qo ?_ (qI HI0.out)) | exact HB.out)⟩⟩
         ·replace c178 := Bool.eq_false_iff.mpr c178
          subst c178
          have H1 := H; rw [if_neg (show ¬ (false = true) by decide)] at H1
          clear H
          have H := H1
          clear H1
          have H' := qy H
          clear H
          go_wp2
          go_meet
          case rel => exact ⟨_, (x3_107), (t234), (t235), H', ⟨by have := HK1.out; have := HJ101.out; have := HJ107.out; first | omega | exact Nat.le_refl _⟩, ⟨by (with_reducible repeat (first | apply qp | apply qq | apply qr)); exact HO_3.out⟩, ⟨by repeat (first | (with_reducible first | exact HI0.out | apply qa | apply qb | apply qc | apply qd | apply qe) | exact HI0.out)⟩, ⟨by repeat (first | (with_reducible first | exact HK.out | apply qg | apply qh | apply qi | apply qj) | exact HK.out)⟩, ⟨by repeat (first | (with_reducible first | exact HB.out | apply qn | apply ql | apply qm | refine qo ?_ (qI HI0.out)) | exact HB.out)⟩⟩
        case rest =>
         clear HC176
         try clear hx113_0
         try clear hx113_1
         try clear hx113_2
         try clear hx119_0
         try clear hx119_1
         try clear hx119_2
         try clear hx127_0
         try clear hx130_0
         try clear hx130_1
         try clear hx130_2
         try clear hx134_0
         try clear hx134_1
         try clear hx134_2
         try clear hx147_0
         try clear hx147_1
         try clear hx147_2
         try clear hx155_0
         try clear hx163_0
         try clear hx163_1
         try clear hx163_2
         try clear hx170_2
         try clear hx210_0
         try clear hx212_0
         try clear hx212_1
         try clear hx212_2
         try clear hx219_0
         try clear hx221_0
         try clear hx221_1
         try clear hx221_2
         obtain ⟨kq, x3_175, x1001_175, x1002_175, HA, HJ175, HO_3, HI0, HK, HB⟩ := hcut
         cases kq with
         | zero => exact absurd HA.out (by simp [spec_l2DrawBoxes.j6])
         | succ kj175 =>
          have H := HA.out
          clear HA
          simp only [spec_l2DrawBoxes.j6] at H
          replace H := Option.bind_eq_some_iff.mp H
          obtain ⟨⟨t245, t246, t247⟩, A1870, H⟩ := H
          have A187 := qy A1870
          clear A1870
          by_cases c188 : t245 = true
          ·subst c188
           have H1 := H; rw [if_pos rfl] at H1
           clear H
           have H := H1
           clear H1
           obtain ⟨y248, hy248⟩ : ∃ y_ : List (S46), y_ = (([] : List (S46))) := ⟨_, rfl⟩
           replace H : (spec_l2DrawBoxes.l3 kj175 y248 0 s0_0 t246 t247) = some (r1, r2, r3) := by first | (rw [hy248]; with_reducible exact H) | (have H2_ := (Option.bind_some _ _).symm.trans H; rw [hy248]; with_reducible exact H2_) | (have H2_ := (Option.bind_some _ _).symm.trans H; with_reducible exact H2_) | with_reducible exact H | (rw [hy248]; exact H) | exact H
           have Ny248 := qy hy248
           clear hy248
           have H' := qy H
           clear H
           go_wp2_with (first | ((with_reducible refine gate_callee (f := 58) rfl ?_); refine goesL_ (some 153) rfl rfl Try.func58 (by kernel_rfl) rfl #[.pointer (some ⟨g, 0, none⟩), .int .i64 40] rfl (by (try simp only [List.map_toArray, List.map_cons, List.map_nil]); first | done | rfl) ?_; (with_reducible refine (spec_l1Once.calls g s0_0 x1001_175 x1002_175 40 true t246 t247 w0 _ ?side1 ?side2 A187.out).mono ?_); (case side1 => repeat (first | (with_reducible first | exact HI0.out | apply qa | apply qb | apply qc | apply qd | apply qe) | exact HI0.out)); (case side2 => repeat (first | (with_reducible first | exact HB.out | apply qn | apply ql | apply qm | refine qo ?_ (qI HI0.out)) | exact HB.out)); rintro e w189 ⟨rfl, hi, hb, hk⟩; refine ⟨_, rfl, ?_⟩; have n0_ := qy (qG (qE (qz (show IsS69 w0 _ g s0_0 x1001_175 x1002_175 from by repeat (first | (with_reducible first | exact HI0.out | apply qa | apply qb | apply qc | apply qd | apply qe) | exact HI0.out)) (by (with_reducible repeat (first | apply qp | apply qq | apply qr)); exact HO_3.out) (by decide)) hk (fun _ h => h.2)) (fun _ h => h.1)); have n1_ := qy (qB (by repeat (first | (with_reducible first | exact HK.out | apply qg | apply qh | apply qi | apply qj) | exact HK.out)) hk (.inl rfl)); have n2_ := qy (hb); have n3_ := qy (hi); clear HO_3 HK HB HI0; have HO_3 := n0_; have HK := n1_; have HB := n2_; have HI0 := n3_; clear n0_ n1_ n2_ n3_; (try clear hb hk hi)) | ((with_reducible refine gate_dst (N := 154) rfl ?_); (try (refine gate_guard (by rfl) ?_; dsimp only)); refine Kd.S_lit k46 _ 46 ?hg (N := 154) ?hd (xs := ([] : List (S46))) (inner := []) (ok := fun _ => True) (okp := fun _ => True) ?hr ?hp (fun _ hk => hk) trivial (Below.refl _ _) (Nat.le_refl _) (by simp) ?_; (case hd => rfl); (case hg => rfl); (case hr => first | (go_simp; done) | (go_simp; rfl)); (case hp => exact (Reps.none _ _)); intro v249 w190 ho191 hb hg_ hnew_; clear hg_ hnew_; (first | rw [← Ny248.out] at ho191 | (simp only [Int.reduceToNat] at ho191; rw [← Ny248.out] at ho191)); have n0_ := qy (Kd.S_elder' (by (with_reducible repeat (first | apply qp | apply qq | apply qr)); exact HO_3.out) (Kd.S_base ho191) hb); have n1_ := qy (Kd.S_lower (Kd.S_new' ho191 (Kd.S_lt (by (with_reducible repeat (first | apply qp | apply qq | apply qr)); exact HO_3.out))) (keep_size (w := w) (g := g) (row := none) (by repeat (first | (with_reducible first | exact HK.out | apply qg | apply qh | apply qi | apply qj) | exact HK.out)))); have n2_ := qy (IsS69.below (by repeat (first | (with_reducible first | exact HI0.out | apply qa | apply qb | apply qc | apply qd | apply qe) | exact HI0.out)) hb); have n3_ := qy (qB (by repeat (first | (with_reducible first | exact HK.out | apply qg | apply qh | apply qi | apply qj) | exact HK.out)) (KeepBut.of_below hb g none) (.inl rfl)); have n4_ := qy (below_step (by repeat (first | (with_reducible first | exact HB.out | apply qn | apply ql | apply qm | refine qo ?_ (qI HI0.out)) | exact HB.out)) hb); clear HO_3 HI0 HK HB; have HO_3 := n0_; have HO250 := n1_; have HI0 := n2_; have HK := n3_; have HB := n4_; clear n0_ n1_ n2_ n3_ n4_ hb ho191))
           go_loopg [3, 10] kj175 (fun kq v3 v10 w' => ∃ (x3_5 : List (S46)) (x10_5 : Int) (x1001_5 : Int) (x1002_5 : Int), v10 = .int .i64 x10_5 ∧ Aside0 (spec_l2DrawBoxes.l3 kq x3_5 x10_5 s0_0 x1001_5 x1002_5 = some (r1, r2, r3)) ∧ Aside0 (kq ≤ kj175) ∧ Aside0 (Kd.S k46 46 w' w.heap.size (fun _ => True) v3 x3_5) ∧ Aside0 (IsS69 w0 w' g s0_0 x1001_5 x1002_5) ∧ Aside0 (KeepBut w w' g none) ∧ Aside0 (Below w0.heap.size w0 w'))
           case atStart => exact ⟨(y248), (0), (t246), (t247), (by first | rfl | (simp; done) | (simp [*]; done)), H', ⟨Nat.le_refl _⟩, ⟨by (with_reducible repeat (first | apply qp | apply qq | apply qr)); exact qG HO250.out (fun _ hk => trivial)⟩, ⟨by repeat (first | (with_reducible first | exact HI0.out | apply qa | apply qb | apply qc | apply qd | apply qe) | exact HI0.out)⟩, ⟨by repeat (first | (with_reducible first | exact HK.out | apply qg | apply qh | apply qi | apply qj) | exact HK.out)⟩, ⟨by repeat (first | (with_reducible first | exact HB.out | apply qn | apply ql | apply qm | refine qo ?_ (qI HI0.out)) | exact HB.out)⟩⟩
           case round =>
            clear H'
            try clear hx113_0
            try clear hx113_1
            try clear hx113_2
            try clear hx119_0
            try clear hx119_1
            try clear hx119_2
            try clear hx127_0
            try clear hx130_0
            try clear hx130_1
            try clear hx130_2
            try clear hx134_0
            try clear hx134_1
            try clear hx134_2
            try clear hx147_0
            try clear hx147_1
            try clear hx147_2
            try clear hx155_0
            try clear hx163_0
            try clear hx163_1
            try clear hx163_2
            try clear hx170_2
            try clear hx210_0
            try clear hx212_0
            try clear hx212_1
            try clear hx212_2
            try clear hx219_0
            try clear hx221_0
            try clear hx221_1
            try clear hx221_2
            obtain ⟨x3_5, x10_5, x1001_5, x1002_5, rfl, HA, HK5, HO_3, HI0, HK, HB⟩ := hrel
            cases gk with
            | zero => exact absurd HA.out (by simp [spec_l2DrawBoxes.l3])
            | succ k5 =>
             have H := HA.out
             clear HA
             simp only [spec_l2DrawBoxes.l3] at H
             replace H := Option.bind_eq_some_iff.mp H
             obtain ⟨⟨t251, t252, t253⟩, A1920, H⟩ := H
             have A192 := qy A1920
             clear A1920
             by_cases c193 : x10_5 < (wrap64 (9 + t251))
             ·rw [if_pos c193] at H
              have c193b0 : decide (x10_5 < (wrap64 (9 + t251))) = true := decide_eq_true c193
              clear c193
              by_cases c194 : x3_5.length < 2932031007402
              rotate_left
              · rw [if_neg c194] at H; exact absurd H (by simp)
              rw [if_pos c194] at H
              have LMc194 := qy c194
              clear c194
              obtain ⟨y254, hy254⟩ : ∃ y_ : List (S46), y_ = (x3_5 ++ [(⟨(⟨#[68, 69, 69, 80]⟩ : ByteArray), x10_5, ([] : List Int)⟩ : S46)]) := ⟨_, rfl⟩
              replace H : (spec_l2DrawBoxes.l3 k5 y254 (wrap64 (x10_5 + 1)) s0_0 t252 t253) = some (r1, r2, r3) := by first | (rw [hy254]; with_reducible exact H) | (have H2_ := (Option.bind_some _ _).symm.trans H; rw [hy254]; with_reducible exact H2_) | (have H2_ := (Option.bind_some _ _).symm.trans H; with_reducible exact H2_) | with_reducible exact H | (rw [hy254]; exact H) | exact H
              have Ny254 := qy hy254
              clear hy254
              have H' := qy H
              clear H
              go_wp2_with (first | ((with_reducible refine gate_callee (f := 56) rfl ?_); refine goesL_ (some 157) rfl rfl Try.func56 (by kernel_rfl) rfl #[.pointer (some ⟨g, 0, none⟩), .int .i64 2] rfl (by (try simp only [List.map_toArray, List.map_cons, List.map_nil]); first | done | rfl) ?_; (with_reducible refine (spec_l1Below.calls g s0_0 x1001_5 x1002_5 2 t251 t252 t253 w0 _ ?side1 ?side2 A192.out).mono ?_); (case side1 => repeat (first | (with_reducible first | exact HI0.out | apply qa | apply qb | apply qc | apply qd | apply qe) | exact HI0.out)); (case side2 => repeat (first | (with_reducible first | exact HB.out | apply qn | apply ql | apply qm | refine qo ?_ (qI HI0.out)) | exact HB.out)); rintro e w195 ⟨rfl, hi, hb, hk⟩; refine ⟨_, rfl, ?_⟩; have n0_ := qy (qG (qE (qz (show IsS69 w0 _ g s0_0 x1001_5 x1002_5 from by repeat (first | (with_reducible first | exact HI0.out | apply qa | apply qb | apply qc | apply qd | apply qe) | exact HI0.out)) (by (with_reducible repeat (first | apply qp | apply qq | apply qr)); exact HO_3.out) (by decide)) hk (fun _ h => h.2)) (fun _ h => h.1)); have n1_ := qy (qB (by repeat (first | (with_reducible first | exact HK.out | apply qg | apply qh | apply qi | apply qj) | exact HK.out)) hk (.inl rfl)); have n2_ := qy (hb); have n3_ := qy (hi); clear HO_3 HK HB HI0; have HO_3 := n0_; have HK := n1_; have HB := n2_; have HI0 := n3_; clear n0_ n1_ n2_ n3_; (try clear hb hk hi)) | ((with_reducible refine gate_builtin (b := .append) (xs := #[.tmp 162, .tmp 165]) rfl ?_); (try (refine gate_guard (by rfl) ?_; dsimp only)); at_builtin; refine Kd.S_append k46 w.heap.size rfl (.tmp 162) (.tmp 165) 25 46 (.agg #[(.string ⟨#[]⟩), (.int .i64 0), (.slice none 0 0)]) 48 rfl Try.underlying25 info46 rfl (by decide) (by omega) u3 x3_5 (⟨(⟨#[68, 69, 69, 80]⟩ : ByteArray), x10_5, ([] : List Int)⟩ : S46) [.string (⟨#[68, 69, 69, 80]⟩ : ByteArray), .int .i64 x10_5, .slice none 0 0] (fun _ => True) (fun _ => False) rfl rfl ?aP (fun k_ hk_ => hk_.elim) ?aF ?aO (Below.refl _ _) ?aS ?aL ?_; (case aP => exact k46_mkM _ _ _ (⟨(⟨#[68, 69, 69, 80]⟩ : ByteArray), x10_5, ([] : List Int)⟩ : S46) (Kd.R_nil _ _ _ _ _)); (case aF => exact (fun _ _ => trivial)); (case aO => exact (by (with_reducible repeat (first | apply qp | apply qq | apply qr)); exact qG HO_3.out (fun k_ hk => ⟨trivial, fun e_ => e_⟩))); (case aS => exact (keep_size (w := w) (g := g) (row := none) (by repeat (first | (with_reducible first | exact HK.out | apply qg | apply qh | apply qi | apply qj) | exact HK.out)))); (case aL => have := LMc194.out; omega); intro v255 w196 ho hb hg hat; rw [← Ny254.out] at ho; have n0_ := qy (IsS69.grown (by repeat (first | (with_reducible first | exact HI0.out | apply qa | apply qb | apply qc | apply qd | apply qe) | exact HI0.out)) hg (IsS69.own_neS HI0.out HO_3.out (by decide))); have n1_ := qy (below_weaken (by repeat (first | (with_reducible first | exact HB.out | apply qn | apply ql | apply qm | refine qo ?_ (qI HI0.out)) | exact HB.out)) HL.out hb); have n2_ := qy (qB (by repeat (first | (with_reducible first | exact HK.out | apply qg | apply qh | apply qi | apply qj) | exact HK.out)) (KeepBut.of_grown hg g) (Kd.S_base2 HO_3.out)); have n3_ := qy (ho); clear HI0 HB HK HO_3; have HI0 := n0_; have HB := n1_; have HK := n2_; have HO256 := n3_; clear n0_ n1_ n2_ n3_ ho hb hg hat))
              go_roundg k5
              case measure => have := HK1.out; have := HJ101.out; have := HJ107.out; have := HJ175.out; have := HK5.out; omega
              case rel => exact ⟨(y254), (wrap64 (x10_5 + 1)), (t252), (t253), (by first | rfl | (simp; done) | (simp [*]; done)), H', ⟨by have := HK1.out; have := HJ101.out; have := HJ107.out; have := HJ175.out; have := HK5.out; omega⟩, ⟨by (with_reducible repeat (first | apply qp | apply qq | apply qr)); exact HO256.out⟩, ⟨by repeat (first | (with_reducible first | exact HI0.out | apply qa | apply qb | apply qc | apply qd | apply qe) | exact HI0.out)⟩, ⟨by repeat (first | (with_reducible first | exact HK.out | apply qg | apply qh | apply qi | apply qj) | exact HK.out)⟩, ⟨by repeat (first | (with_reducible first | exact HB.out | apply qn | apply ql | apply qm | refine qo ?_ (qI HI0.out)) | exact HB.out)⟩⟩
             ·rw [if_neg c193] at H
              have c193b0 : decide (x10_5 < (wrap64 (9 + t251))) = false := decide_eq_false c193
              clear c193
              simp only [Option.some.injEq, Prod.mk.injEq] at H
              obtain ⟨rfl, rfl, rfl⟩ := H
              go_wp2_with (first | ((with_reducible refine gate_callee (f := 56) rfl ?_); refine goesL_ (some 157) rfl rfl Try.func56 (by kernel_rfl) rfl #[.pointer (some ⟨g, 0, none⟩), .int .i64 2] rfl (by (try simp only [List.map_toArray, List.map_cons, List.map_nil]); first | done | rfl) ?_; (with_reducible refine (spec_l1Below.calls g s0_0 x1001_5 x1002_5 2 t251 t252 t253 w0 _ ?side1 ?side2 A192.out).mono ?_); (case side1 => repeat (first | (with_reducible first | exact HI0.out | apply qa | apply qb | apply qc | apply qd | apply qe) | exact HI0.out)); (case side2 => repeat (first | (with_reducible first | exact HB.out | apply qn | apply ql | apply qm | refine qo ?_ (qI HI0.out)) | exact HB.out)); rintro e w197 ⟨rfl, hi, hb, hk⟩; refine ⟨_, rfl, ?_⟩; have n0_ := qy (qG (qE (qz (show IsS69 w0 _ g s0_0 x1001_5 x1002_5 from by repeat (first | (with_reducible first | exact HI0.out | apply qa | apply qb | apply qc | apply qd | apply qe) | exact HI0.out)) (by (with_reducible repeat (first | apply qp | apply qq | apply qr)); exact HO_3.out) (by decide)) hk (fun _ h => h.2)) (fun _ h => h.1)); have n1_ := qy (qB (by repeat (first | (with_reducible first | exact HK.out | apply qg | apply qh | apply qi | apply qj) | exact HK.out)) hk (.inl rfl)); have n2_ := qy (hb); have n3_ := qy (hi); clear HO_3 HK HB HI0; have HO_3 := n0_; have HK := n1_; have HB := n2_; have HI0 := n3_; clear n0_ n1_ n2_ n3_; (try clear hb hk hi)))
              go_ret
              exact ⟨_, by first | rfl | (simp [errW_none, errW_some] <;> rfl) | (simp [*, errW_none, errW_some] <;> rfl), by (with_reducible repeat (first | apply qp | apply qq | apply qr)); exact HO_3.out, by repeat (first | (with_reducible first | exact HI0.out | apply qa | apply qb | apply qc | apply qd | apply qe) | exact HI0.out), by repeat (first | (with_reducible first | exact HB.out | apply qn | apply ql | apply qm | refine qo ?_ (qI HI0.out)) | exact HB.out), by repeat (first | (with_reducible first | exact HK.out | apply qg | apply qh | apply qi | apply qj) | exact HK.out)⟩
          ·replace c188 := Bool.eq_false_iff.mpr c188
           subst c188
           have H1 := H; rw [if_neg (show ¬ (false = true) by decide)] at H1
           clear H
           have H := H1
           clear H1
           simp only [Option.some.injEq, Prod.mk.injEq] at H
           obtain ⟨rfl, rfl, rfl⟩ := H
           go_wp2_with (first | ((with_reducible refine gate_callee (f := 58) rfl ?_); refine goesL_ (some 153) rfl rfl Try.func58 (by kernel_rfl) rfl #[.pointer (some ⟨g, 0, none⟩), .int .i64 40] rfl (by (try simp only [List.map_toArray, List.map_cons, List.map_nil]); first | done | rfl) ?_; (with_reducible refine (spec_l1Once.calls g s0_0 x1001_175 x1002_175 40 false t246 t247 w0 _ ?side1 ?side2 A187.out).mono ?_); (case side1 => repeat (first | (with_reducible first | exact HI0.out | apply qa | apply qb | apply qc | apply qd | apply qe) | exact HI0.out)); (case side2 => repeat (first | (with_reducible first | exact HB.out | apply qn | apply ql | apply qm | refine qo ?_ (qI HI0.out)) | exact HB.out)); rintro e w198 ⟨rfl, hi, hb, hk⟩; refine ⟨_, rfl, ?_⟩; have n0_ := qy (qG (qE (qz (show IsS69 w0 _ g s0_0 x1001_175 x1002_175 from by repeat (first | (with_reducible first | exact HI0.out | apply qa | apply qb | apply qc | apply qd | apply qe) | exact HI0.out)) (by (with_reducible repeat (first | apply qp | apply qq | apply qr)); exact HO_3.out) (by decide)) hk (fun _ h => h.2)) (fun _ h => h.1)); have n1_ := qy (qB (by repeat (first | (with_reducible first | exact HK.out | apply qg | apply qh | apply qi | apply qj) | exact HK.out)) hk (.inl rfl)); have n2_ := qy (hb); have n3_ := qy (hi); clear HO_3 HK HB HI0; have HO_3 := n0_; have HK := n1_; have HB := n2_; have HI0 := n3_; clear n0_ n1_ n2_ n3_; (try clear hb hk hi)))
           go_ret
           exact ⟨_, by first | rfl | (simp [errW_none, errW_some] <;> rfl) | (simp [*, errW_none, errW_some] <;> rfl), by (with_reducible repeat (first | apply qp | apply qq | apply qr)); exact HO_3.out, by repeat (first | (with_reducible first | exact HI0.out | apply qa | apply qb | apply qc | apply qd | apply qe) | exact HI0.out), by repeat (first | (with_reducible first | exact HB.out | apply qn | apply ql | apply qm | refine qo ?_ (qI HI0.out)) | exact HB.out), by repeat (first | (with_reducible first | exact HK.out | apply qg | apply qh | apply qi | apply qj) | exact HK.out)⟩
end Go.Proofs.Ytpennfkjfeipcaa.PFnBoxesOne
