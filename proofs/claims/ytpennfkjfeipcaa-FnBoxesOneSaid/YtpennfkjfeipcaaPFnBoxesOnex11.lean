/- The functions that the law reaches, as Lean functions, each with the proof that the Go code comes to just these answers. Written by a program of this session (wip/tools/handprint.py over the kit's print); by hand where the print takes no such text. -/
-- squeezed
import Derived.Test.YtpennfkjfeipcaaPFnBoxesOnex0
import Derived.Test.YtpennfkjfeipcaaPFnBoxesOnex3
import Derived.Test.YtpennfkjfeipcaaPFnBoxesOnex10
namespace Go.Proofs.Ytpennfkjfeipcaa.PFnBoxesOne
open Go.RowKit Go.Proofs.YtpennfkjfeipcaaW.PrintWords Go.Proofs.YtpennfkjfeipcaaW.PrintLast Go.Proofs.YtpennfkjfeipcaaW.PrintMore
attribute [local go_sem] max2_int min2_int max_two min_two max_three min_three max_four min_four   -- for this text's walks alone
set_option linter.unusedVariables false
set_option linter.unusedSimpArgs false

theorem u11e {p : Prop} (h : p) : Aside0 p := Aside0.mk h
-- short names
theorem u11a : type_of% @List.setIfInBounds_toArray := @List.setIfInBounds_toArray
theorem u11b : type_of% @List.set_cons_zero := @List.set_cons_zero
theorem u11c : type_of% @List.set_cons_succ := @List.set_cons_succ
/-! ### spec_l2Show: function 42 -/
-- rounds 1 making 1
set_option maxHeartbeats 8000000 in
set_option maxRecDepth 100000 in
theorem l2Show_shw : ∀ (k : Nat) (A0 : Option Addr) (c0 : Nat) (l0 : List (S46)) (r : List Int) (w : World) (hr0 : Kd.C k46 w A0 l0.length l0) (hc0 : l0.length ≤ c0) (hl0 : l0.length ≤ 1000000) (h : shw k l0 [] 0 = some r),
  Calls Try.prog 42 #[.slice A0 l0.length c0] w fun e w' => ∃ v0_ : Value, e = .returned (v0_) ∧ Kd.R (Kd.int .u8) 5 w' w.heap.size (fun _ => True) v0_ r ∧ Below w.heap.size w w' := by
 intro k
 induction k using Nat.strongRecOn with
 | ind k ih =>
 intro A0 c0 l0 r w hr0 hc0 hl0 h
 have hu29 := Try.underlying29
 have hu46 := Try.underlying46
 have hu44 := Try.underlying44
 have hu25 := Try.underlying25
 have HB := u11e (Below.refl w.heap.size w)
 have HR0 := u11e hr0
 have HC0 := u11e hc0
 have HL0 := u11e hl0
 have H' := u11e h
 clear hr0 hc0 hl0 h
 go_enter Try.func42, Try.ntmps42
 go_wp2_with (first | ((with_reducible refine gate_dst (N := 8) rfl ?_); refine Kd.R_lit (Kd.int .u8) w.heap.size 5 ?hg (N := 8) ?hd (xs := ([] : List Int)) (inner := []) (ok := fun _ => True) (okp := fun _ => True) ?hr ?hp (fun _ hk => hk) trivial HB.out HB.out.size (by simp) ?_; (case hd => rfl); (case hg => rfl); (case hr => first | (go_simp; done) | (go_simp; rfl)); (case hp => exact (Reps.none _ _)); intro v103 w4 ho5 hb hg_ hnew_; replace HB := u11e hb; have HO := u11e ho5; clear hg_ hnew_ ho5 hb))
 go_loopg [3, 4] k (fun kq v3 v4 w' => ∃ (out : List Int) (at_ : Nat), v4 = .int .i64 (at_ : Int) ∧ Aside0 (shw kq l0 out at_ = some r) ∧ Aside0 (kq ≤ k) ∧ Aside0 (Kd.R (Kd.int .u8) 5 w' w.heap.size (fun _ => True) v3 out) ∧ Aside0 (Below w.heap.size w w'))
 case atStart => exact ⟨[], 0, rfl, H', ⟨Nat.le_refl _⟩, HO, HB⟩
 case round =>
  clear HB HO H'
  obtain ⟨out, at_, rfl, HA, HK, HO, HB⟩ := hrel
  obtain ⟨Ao, co, eo⟩ := Kd.R_slice HO.out
  subst eo
  cases gk with
  | zero => exact absurd HA.out (by simp [shw])
  | succ k1 =>
   have H := HA.out
   clear HA
   simp only [shw] at H
   by_cases c3 : at_ < l0.length
   ·rw [if_pos c3] at H
    have c3b : decide (at_ < l0.length) = true := decide_eq_true c3
    obtain ⟨e, HE, H⟩ := Option.bind_eq_some_iff.mp H
    by_cases c4 : (at_ : Int) + 1 ≤ e ∧ e ≤ (l0.length : Int)
    ·rw [if_pos c4] at H
     obtain ⟨sub, HS, H⟩ := Option.bind_eq_some_iff.mp H
     by_cases c5 : out.length + (rd_T46 l0 (at_ : Int)).f0.size + ((rd_T46 l0 (at_ : Int)).f2 ++ sub).length + 8 ≤ 1000000
     ·rw [if_pos c5] at H
      obtain ⟨body, hbd⟩ : ∃ b : List Int, (rd_T46 l0 (at_ : Int)).f2 ++ sub = b := ⟨_, rfl⟩
      rw [hbd] at H c5
      have HBD := u11e hbd
      clear hbd
      obtain ⟨en, rfl⟩ : ∃ n : Nat, e = (n : Int) := ⟨e.toNat, by omega⟩
      rw [Int.toNat_natCast] at H HS
      have HE2 := u11e HE
      have H2 := u11e H
      have C3 := u11e c3
      have C4 := u11e c4
      have C5 := u11e c5
      obtain ⟨ad, A2, c2, e0, hx0, hx1, hx2, hl2, hi2⟩ := at_T46 HR0.out (at_ : Int) (by omega) (by omega)
      cases e0
      have p0 : (0 ≤ (at_ : Int)) = True := eq_true (by omega)
      have q0 : ((at_ : Int) < (l0.length : Int)) = True := eq_true (by omega)
      simp only [Int.toNat_natCast] at hx0 hx1 hx2
      have HI2 := u11e hi2
      obtain ⟨a1, ha1⟩ : ∃ a1 : Nat, a1 = at_ + 1 := ⟨_, rfl⟩
      have hw1 : wrap64 ((at_ : Int) + 1) = (a1 : Int) := by have := HL0.out; unfold wrap64; omega
      have s1 : (en ≤ c0) = True := eq_true (by have := HC0.out; omega)
      have s2 : (a1 ≤ en) = True := eq_true (by omega)
      have A1 := u11e ha1
      rw [← ha1] at HS
      have HS' := u11e HS
      have HL2 := u11e hl2
      clear c3 c4 c5 HE HS H hi2 hl2 ha1
      have HW1 := u11e hw1
      clear hw1
      go_wp2
      go_loopg [5] k1 (fun kq2 v5 w' => ∃ (x5 : Int), v5 = .int .i64 x5 ∧ Aside0 (endp kq2 l0 (at_ : Int) x5 = some (en : Int)) ∧ Drawn0 wr w')
      case atStart => exact ⟨wrap64 ((at_ : Int) + 1), rfl, HE2, by repeat (first | exact Drawn0.refl _ | apply Drawn0.step)⟩
      case round =>
       clear HE2
       obtain ⟨x5, rfl, HA, ⟨m1, rfl⟩⟩ := hrel
       cases gk with
       | zero => exact absurd HA.out (by simp [endp])
       | succ k2 =>
        have H := HA.out
        clear HA
        simp only [endp] at H
        by_cases c3 : x5 < (l0.length : Int)
        ·rw [if_pos c3] at H
         by_cases c4 : 0 ≤ x5
         ·rw [if_pos c4, if_pos (show 0 ≤ (at_ : Int) by omega), if_pos (show (at_ : Int) < (l0.length : Int) by have := C3.out; omega)] at H
          have c3b0 : decide (x5 < (l0.length : Int)) = true := decide_eq_true c3
          obtain ⟨ad3, A3_2, c3_2, e3, hy0, hy1, hy2, hly, hiy⟩ := at_T46 HR0.out x5 c4 c3
          obtain rfl : ad = ad3 := (by injection e3)
          have p5 : (0 ≤ x5) = True := eq_true c4
          have q5 : (x5 < (l0.length : Int)) = True := eq_true c3
          have hz1 := (HB.out.cell (World.block_lt_of_cell? w _ hy1)).trans hy1
          have hv1 := (HB.out.cell (World.block_lt_of_cell? w _ hx1)).trans hx1
          clear hly hiy hy0 hy1 hy2
          by_cases c7 : ((rd_T46 l0 x5).f1) > ((rd_T46 l0 (at_ : Int)).f1)
          ·rw [if_pos c7] at H
           have c7b0 : decide (((rd_T46 l0 (at_ : Int)).f1) < ((rd_T46 l0 x5).f1)) = true := decide_eq_true c7
           have H' := u11e H
           clear c3 c4 c7 H
           go_wp2
           repeat (go_quiet (fail); try go_wp2)
           go_roundg k2
           case measure => omega
           case rel => exact ⟨(wrap64 (x5 + 1)), (by first | rfl | (simp; done) | (simp [*]; done)), H', by repeat (first | exact Drawn0.refl _ | apply Drawn0.step)⟩
          ·rw [if_neg c7] at H
           have c7b0 : decide (((rd_T46 l0 (at_ : Int)).f1) < ((rd_T46 l0 x5).f1)) = false := decide_eq_false c7
           have HXE := u11e (Option.some.inj H)
           clear c3 c4 c7 H
           go_wp2
           repeat (go_quiet (fail); try go_wp2)
           clear hz1 hv1 p5 q5 c3b0 c7b0
           obtain rfl := HXE.out
           refine wp_carry (S := fun W' => Kd.R (Kd.int .u8) 5 W' w.heap.size (fun _ => True) (.slice Ao out.length co) out ∧ Below w.heap.size w W') ⟨by repeat (first | exact HO.out | apply Kd.R_drewN | apply Kd.R_drew), by repeat (first | exact HB.out | apply pw_below_drewN | apply below_drew1)⟩ ?_
           clear HO HB
           rintro V0 ⟨hO0, hB0⟩
           have HB := u11e hB0
           have HO := u11e (Kd.R_drew hO0)
           clear hO0 hB0
           have hw1 := HW1.out
           refine start_ (n := 15) (S := fun w' => Below w.heap.size w w') (ds := []) #[false, false, false, false, false, false, false, false, false, false, false, false, false, false, false] (by kernel_rfl) rfl rfl (below_drew1 HB.out) (fun hHeld => ?_)
           generalize World.drew _ = V at hHeld HO ⊢
           clear HB
           refine pure_ (i := 1) (N := some 35) (v := ?_) (a' := ?_) #[false, true, false, false, false, false, false, false, false, false, false, false, false, false, false] rfl rfl (by kernel_rfl) (fun _ _ _ h => h) (Or.inl ⟨by rfl, ?_⟩) ?_ ?_
           rotate_left
           ·intro w'
            go_simp
            with_reducible rfl
           rotate_left
           ·simp only [Act.put, u11a, u11b, u11c, i64_w, i32_w]
            rfl
           refine pure_ (i := 2) (N := some 36) (v := ?_) (a' := ?_) #[false, true, true, false, false, false, false, false, false, false, false, false, false, false, false] rfl rfl (by kernel_rfl) (fun _ _ _ h => h) (Or.inl ⟨by rfl, ?_⟩) ?_ ?_
           rotate_left
           ·intro w'
            go_simp
            with_reducible rfl
           rotate_left
           ·simp only [Act.put, u11a, u11b, u11c, i64_w, i32_w]
            rfl
           refine pure_ (i := 3) (N := some 37) (v := ?_) (a' := ?_) #[false, true, true, true, false, false, false, false, false, false, false, false, false, false, false] rfl rfl (by kernel_rfl) (fun _ _ _ h => h) (Or.inl ⟨by rfl, ?_⟩) ?_ ?_
           rotate_left
           ·intro w'
            go_simp
            with_reducible rfl
           rotate_left
           ·simp only [Act.put, u11a, u11b, u11c, i64_w, i32_w]
            rfl
           refine pure_ (i := 4) (N := some 38) (v := ?_) (a' := ?_) #[false, true, true, true, true, false, false, false, false, false, false, false, false, false, false] rfl rfl (by kernel_rfl) (fun _ _ _ h => h) (Or.inl ⟨by rfl, ?_⟩) ?_ ?_
           rotate_left
           ·intro w'
            go_simp
            with_reducible rfl
           rotate_left
           ·simp only [Act.put, u11a, u11b, u11c, i64_w, i32_w]
            rfl
           refine take_ (i := 5) (N := some 39) (v := ?_) (a' := ?_) #[false, true, true, true, true, true, false, false, false, false, false, false, false, false, false] rfl rfl (by kernel_rfl) (fun _ _ _ h => h) (Or.inl ⟨by rfl, ?_⟩) hHeld ?_ ?_
           rotate_left
           ·intro w' hS
            have hc1 := (hS.cell (World.block_lt_of_cell? w _ hx2)).trans hx2
            go_simp
            with_reducible rfl
           rotate_left
           ·simp only [Act.put, u11a, u11b, u11c, i64_w, i32_w]
            rfl
           refine pure_ (i := 7) (N := some 41) (v := ?_) (a' := ?_) #[false, true, true, true, true, true, false, true, false, false, false, false, false, false, false] rfl rfl (by kernel_rfl) (fun _ _ _ h => h) (Or.inl ⟨by rfl, ?_⟩) ?_ ?_
           rotate_left
           ·intro w'
            go_simp
            with_reducible rfl
           rotate_left
           ·simp only [Act.put, u11a, u11b, u11c, i64_w, i32_w]
            rfl
           refine pure_ (i := 8) (N := some 42) (v := ?_) (a' := ?_) #[false, true, true, true, true, true, false, true, true, false, false, false, false, false, false] rfl rfl (by kernel_rfl) (fun _ _ _ h => h) (Or.inl ⟨by rfl, ?_⟩) ?_ ?_
           rotate_left
           ·intro w'
            go_simp
            with_reducible rfl
           rotate_left
           ·simp only [Act.put, u11a, u11b, u11c, i64_w, i32_w]
            rfl
           refine pure_ (i := 9) (N := some 43) (v := ?_) (a' := ?_) #[false, true, true, true, true, true, false, true, true, true, false, false, false, false, false] rfl rfl (by kernel_rfl) (fun _ _ _ h => h) (Or.inl ⟨by rfl, ?_⟩) ?_ ?_
           rotate_left
           ·intro w'
            go_simp
            with_reducible rfl
           rotate_left
           ·simp only [Act.put, u11a, u11b, u11c, i64_w, i32_w]
            rfl
           refine pure_ (i := 10) (N := some 44) (v := ?_) (a' := ?_) #[false, true, true, true, true, true, false, true, true, true, true, false, false, false, false] rfl rfl (by kernel_rfl) (fun _ _ _ h => h) (Or.inl ⟨by rfl, ?_⟩) ?_ ?_
           rotate_left
           ·intro w'
            go_simp
            with_reducible rfl
           rotate_left
           ·simp only [Act.put, u11a, u11b, u11c, i64_w, i32_w]
            rfl
           refine pure_ (i := 11) (N := some 45) (v := ?_) (a' := ?_) #[false, true, true, true, true, true, false, true, true, true, true, true, false, false, false] rfl rfl (by kernel_rfl) (fun _ _ _ h => h) (Or.inl ⟨by rfl, ?_⟩) ?_ ?_
           rotate_left
           ·intro w'
            go_simp
            with_reducible rfl
           rotate_left
           ·simp only [Act.put, u11a, u11b, u11c, i64_w, i32_w]
            rfl
           obtain ⟨AA, hAA⟩ : ∃ AA : Option Addr, AA = (if c0 = a1 then some ad else some (ad.add (a1 * 3))) := ⟨_, rfl⟩
           rw [← hAA]
           have HAA := u11e hAA
           clear hAA
           refine one_ (i := 0) (N := some 34) #[true, true, true, true, true, true, false, true, true, true, true, true, false, false, false] rfl rfl (by kernel_rfl) (by decide) (fun K hK => ?_)
           refine Kd.R_lit_step (w0 := w) (Kd.int .u8) w.heap.size 5 (by rfl) rfl (xs := ([] : List Int)) (inner := []) (ok := fun _ => True) (okp := fun _ => True) (by first | (go_simp; done) | (go_simp; rfl)) (Reps.none _ _) (fun _ hk => hk) trivial hHeld hHeld.size (by simp) ?_
           intro v34 W1 ho hb hg hnew
           have HIN := u11e ho
           replace HO := u11e (apart_next (vo := .slice none 0 0) (v1 := v34) (Kd.R_mono HO.out (fun k _ he => by simp [Value.ownBlock] at he)) hg (.inr hnew))
           replace hHeld := hb
           clear ho hb hg hnew
           refine hK.out _ _ hHeld (fun _ => ?_)
           clear hK K
           refine norm_ (a' := ?_) ?_ ?_
           rotate_left
           ·show Act.put _ (some 34) _ = _
            simp only [Act.put, u11a, u11b, u11c, i64_w, i32_w]
            rfl
           refine one_ (i := 6) (N := some 40) #[true, true, true, true, true, true, true, true, true, true, true, true, false, false, false] rfl rfl (by kernel_rfl) (by decide) (fun K hK => ?_)
           refine Kd.R_append_rows_step (w0 := w) (Kd.int .u8) (Rr := fun x cs => cs = [Value.int .u8 x]) w.heap.size (by rfl) (.tmp 34) (.tmp 39) 29 5 (.int .u8 0) 1 rfl Try.underlying29 info5 rfl (by decide) (by decide) v34 [] (rd_T46 l0 (at_ : Int)).f2 A2 (rd_T46 l0 (at_ : Int)).f2.length c2 (fun _ => True) (fun _ => False) (by rfl) (by rfl) HIN.out ?hR (fun x cs h => h) (fun _ hk => hk.elim) (fun _ _ => trivial) hHeld hHeld.size ?hl ?_
           case hR => exact Kd.C_below HI2.out hHeld
           case hl => (have := C5.out; rw [← HBD.out, List.length_append] at this; simp only [List.length_nil]; omega)
           intro v40 W40 ho hb hg hat
           replace HIN := u11e ho
           replace HO := u11e (apart_next (v1 := v40) HO.out hg hat)
           replace hHeld := hb
           clear ho hb hg hat
           refine hK.out _ _ hHeld (fun _ => ?_)
           clear hK K
           refine norm_ (a' := ?_) ?_ ?_
           rotate_left
           ·show Act.put _ (some 40) _ = _
            simp only [Act.put, u11a, u11b, u11c, i64_w, i32_w]
            rfl
           refine one_ (i := 12) (N := some 46) #[true, true, true, true, true, true, true, true, true, true, true, true, true, false, false] rfl rfl (by kernel_rfl) (by decide) (fun K hK => ?_)
           have hC := Kd.C_mid (c := c0) (lo := a1) (hi := en) (Kd.C_below HR0.out hHeld) (by simpa using s2) (by have := C4.out; omega) HC0.out
           have hlen : ((l0.take en).drop a1).length = en - a1 := by rw [List.length_drop, List.length_take]; have := C4.out; omega
           have hcall := ih k1 (by have := HK.out; omega) AA (c0 - a1) ((l0.take en).drop a1) sub _ (by rw [HAA.out]; exact hC) (by rw [hlen]; have := C4.out; have := HC0.out; omega) (by rw [hlen]; have := C4.out; have := HL0.out; omega) HS'.out
           rw [hlen] at hcall
           clear hC hlen
           refine goes_ Try.func42 (by kernel_rfl) rfl #[.slice AA (en - a1) (c0 - a1)] (by rfl) rfl rfl (by (try simp only [List.map_toArray, List.map_cons, List.map_nil]); first | done | rfl | simp) ?_
           refine hcall.mono ?_
           rintro e W46 ⟨v46, rfl, ho, hb⟩
           refine ⟨_, rfl, ?_⟩
           clear hcall
           have HSUB := u11e (Kd.R_lower ho hHeld.size)
           replace HO := u11e (Kd.R_below HO.out hb)
           replace HIN := u11e (Kd.R_below HIN.out hb)
           replace hHeld := below_step hHeld hb
           obtain ⟨A46, c46, e46⟩ := Kd.R_slice ho
           subst e46
           clear ho hb
           refine hK.out _ _ hHeld (fun _ => ?_)
           clear hK K
           refine norm_ (a' := ?_) ?_ ?_
           rotate_left
           ·show Act.put _ (some 46) _ = _
            simp only [Act.put, u11a, u11b, u11c, i64_w, i32_w]
            rfl
           refine one_ (i := 13) (N := some 47) #[true, true, true, true, true, true, true, true, true, true, true, true, true, true, false] rfl rfl (by kernel_rfl) (by decide) (fun K hK => ?_)
           refine Kd.R_append_rows_step (w0 := w) (Kd.int .u8) (Rr := fun x cs => cs = [Value.int .u8 x]) w.heap.size (by rfl) (.tmp 40) (.tmp 46) 29 5 (.int .u8 0) 1 rfl Try.underlying29 info5 rfl (by decide) (by decide) v40 ([] ++ (rd_T46 l0 (at_ : Int)).f2) sub A46 sub.length c46 (fun _ => True) (fun _ => False) (by rfl) (by rfl) HIN.out ?hR (fun x cs h => h) (fun _ hk => hk.elim) (fun _ _ => trivial) hHeld hHeld.size ?hl ?_
           case hR => exact (Kd.R_reads' HSUB.out).2.2
           case hl => (have := C5.out; rw [← HBD.out, List.length_append] at this; simp only [List.nil_append]; omega)
           intro v47 W47 ho hb hg hat
           replace HIN := u11e ho
           replace HO := u11e (apart_next (v1 := v47) HO.out hg hat)
           replace hHeld := hb
           clear ho hb hg hat
           refine hK.out _ _ hHeld (fun _ => ?_)
           clear hK K
           refine norm_ (a' := ?_) ?_ ?_
           rotate_left
           ·show Act.put _ (some 47) _ = _
            simp only [Act.put, u11a, u11b, u11c, i64_w, i32_w]
            rfl
           rw [show [] ++ (rd_T46 l0 (at_ : Int)).f2 ++ sub = body by rw [List.nil_append]; exact HBD.out] at HIN
           obtain ⟨A47, c47, e47⟩ := Kd.R_slice HIN.out
           subst e47
           clear HSUB
           refine pure_ (i := 14) (N := some 6) (v := ?_) (a' := ?_) #[true, true, true, true, true, true, true, true, true, true, true, true, true, true, true] rfl rfl (by kernel_rfl) (fun _ _ _ h => h) (Or.inl ⟨by rfl, ?_⟩) ?_ ?_
           rotate_left
           ·intro w'
            go_simp
            with_reducible rfl
           rotate_left
           ·simp only [Act.put, u11a, u11b, u11c, i64_w, i32_w]
            rfl
           refine done_ (by kernel_rfl) ?_
           have HB := u11e hHeld
           have HBODY := u11e (apart_swap HO.out HIN.out)
           replace HO := u11e (Kd.R_mono (ok' := fun _ => True) HO.out (fun _ _ => trivial))
           clear hHeld HIN HAA hw1 s1 s2
           obtain ⟨kind, hkd⟩ : ∃ s : ByteArray, (rd_T46 l0 (at_ : Int)).f0 = s := ⟨_, rfl⟩
           rw [hkd] at hx0
           have HKD := u11e hkd
           clear hkd
           obtain ⟨n8, hn8⟩ : ∃ n8 : Int, (8 + ((body.length : Nat) : Int)) = n8 := ⟨_, rfl⟩
           have hw8 : wrap64 (((body.length : Nat) : Int) + 8) = n8 := by have := C5.out; unfold wrap64; omega
           have N0 : 0 ≤ n8 ∧ n8 < 2000000 := by have := C5.out; omega
           have HN8 := u11e hn8
           clear hn8
           have d1 : wrap64 (Int.tdiv n8 16777216) = n8 / 16777216 := by rw [Int.tdiv_eq_ediv_of_nonneg N0.1]; unfold wrap64; omega
           have d2 : wrap64 (Int.tdiv n8 65536) = n8 / 65536 := by rw [Int.tdiv_eq_ediv_of_nonneg N0.1]; unfold wrap64; omega
           have d3 : wrap64 (Int.tdiv n8 256) = n8 / 256 := by rw [Int.tdiv_eq_ediv_of_nonneg N0.1]; unfold wrap64; omega
           have HKS : Aside0 (out.length + kind.size + body.length + 8 ≤ 1000000) := ⟨by have := C5.out; rw [HKD.out] at this; exact this⟩
           clear N0
           skip
           skip
           go_wp2_with (first | ((with_reducible refine gate_dst (N := 63) rfl ?_); (refine Kd.R_lit (w0 := w) (Kd.int .u8) w.heap.size 5 ?hg (N := 63) ?hd (xs := four n8) (inner := [.int .u8 ((n8 / 16777216) % 256), .int .u8 ((n8 / 65536) % 256), .int .u8 ((n8 / 256) % 256), .int .u8 (n8 % 256)]) (ok := fun _ => True) (okp := fun _ => True) ?hr ?hp (fun _ hk => hk) trivial HB.out HB.out.size (by simp [four]) ?_; (case hd => rfl); (case hg => rfl); (case hr => first | (go_simp; done) | (go_simp; rfl)); (case hp => exact (Reps.one (show Kd.M (Kd.int .u8) _ _ _ ((n8 / 16777216) % 256) [.int .u8 ((n8 / 16777216) % 256)] from rfl) (Reps.one (show Kd.M (Kd.int .u8) _ _ _ ((n8 / 65536) % 256) [.int .u8 ((n8 / 65536) % 256)] from rfl) (Reps.one (show Kd.M (Kd.int .u8) _ _ _ ((n8 / 256) % 256) [.int .u8 ((n8 / 256) % 256)] from rfl) (Reps.one (show Kd.M (Kd.int .u8) _ _ _ (n8 % 256) [.int .u8 (n8 % 256)] from rfl) (Reps.none _ _)))))); intro v63 w63 ho5 hb hg_ hnew_; have HF := u11e ho5; have HB3 := u11e hb; have HO3 := u11e (Kd.R_grown HO.out hg_ (fun _ _ he => by simp at he)); have HBD3 := u11e (Kd.R_grown HBODY.out hg_ (fun _ _ he => by simp at he)); clear HB HO HBODY; obtain ⟨A63, c63, e63⟩ := Kd.R_slice ho5; subst e63; clear hg_ hnew_ ho5 hb)) | ((with_reducible refine gate_dst (N := 64) rfl ?_); at_builtin; (refine Kd.R_append_row (Value.int .u8) (0 : Int) (h1 := fun _ => rfl) (w0 := w) w.heap.size rfl (.tmp 51) (.tmp 63) 29 5 (.int .u8 0) 1 (by rfl) Try.underlying29 info5 rfl (by decide) (.slice Ao out.length co) out (four n8) A63 (four n8).length c63 (fun _ => True) (by rfl) (by rfl) (fun _ _ => trivial) HO3.out (Kd.R_reads' HF.out).2.2 HB3.out HB3.out.size (by have h1 := HKS.out; have h2 : (four n8).length = 4 := rfl; have h3 := bytesOf_length kind; (try simp only [List.length_append]); omega) ?_; intro v64 w64 ho hb hg_ hat_; have HO4 := u11e ho; have HB4 := u11e hb; have HBD4 := u11e (apart_next (v1 := v64) HBD3.out hg_ hat_); have hz0 := (HB4.out.cell (World.block_lt_of_cell? w _ hx0)).trans hx0; clear ho hb hg_ hat_)) | ((with_reducible refine gate_dst (N := 71) rfl ?_); at_builtin; (refine R_append_str (w0 := w) w.heap.size rfl (.tmp 65) (.tmp 70) 29 9 5 (by rfl) Try.underlying29 Try.underlying9 info5 v64 (out ++ four n8) kind (by rfl) (by rfl) (fun _ => True) (fun _ _ => trivial) HO4.out HB4.out HB4.out.size (by have h1 := HKS.out; have h2 : (four n8).length = 4 := rfl; have h3 := bytesOf_length kind; (try simp only [List.length_append]); omega) ?_; intro v71 w71 ho hb hg_ hat_; have HO5 := u11e ho; have HB5 := u11e hb; have HBD5 := u11e (apart_next (v1 := v71) HBD4.out hg_ hat_); clear ho hb hg_ hat_)) | ((with_reducible refine gate_dst (N := 74) rfl ?_); at_builtin; (refine Kd.R_append_row (Value.int .u8) (0 : Int) (h1 := fun _ => rfl) (w0 := w) w.heap.size rfl (.tmp 72) (.tmp 73) 29 5 (.int .u8 0) 1 (by rfl) Try.underlying29 info5 rfl (by decide) v71 (out ++ four n8 ++ bytesOf kind) body A47 body.length c47 (fun _ => True) (by rfl) (by rfl) (fun _ _ => trivial) HO5.out (Kd.R_reads' HBD5.out).2.2 HB5.out HB5.out.size (by have h1 := HKS.out; have h2 : (four n8).length = 4 := rfl; have h3 := bytesOf_length kind; (try simp only [List.length_append]); omega) ?_; intro v74 w74 ho hb hg_ hat_; have HO6 := u11e ho; have HB6 := u11e hb; have HBD6 := u11e (apart_next (v1 := v74) HBD5.out hg_ hat_); clear ho hb hg_ hat_)))
           go_roundg k1
           case measure => have := HK.out; omega
           case rel => exact ⟨out ++ (four n8 ++ (bytesOf kind ++ body)), en, rfl, ⟨by have h := H2.out; rw [HKD.out, HN8.out] at h; exact h⟩, ⟨by have := HK.out; omega⟩, ⟨by have h := HO6.out; simp only [List.append_assoc] at h; exact h⟩, HB6⟩
         ·rw [if_neg c4] at H
          exact absurd H (by simp)
        ·rw [if_neg c3] at H
         have c3b0 : decide (x5 < (l0.length : Int)) = false := decide_eq_false c3
         have HXE := u11e (Option.some.inj H)
         clear c3 H
         go_wp2
         repeat (go_quiet (fail); try go_wp2)
         clear c3b0
         obtain rfl := HXE.out
         refine wp_carry (S := fun W' => Kd.R (Kd.int .u8) 5 W' w.heap.size (fun _ => True) (.slice Ao out.length co) out ∧ Below w.heap.size w W') ⟨by repeat (first | exact HO.out | apply Kd.R_drewN | apply Kd.R_drew), by repeat (first | exact HB.out | apply pw_below_drewN | apply below_drew1)⟩ ?_
         clear HO HB
         rintro V0 ⟨hO0, hB0⟩
         have HB := u11e hB0
         have HO := u11e (Kd.R_drew hO0)
         clear hO0 hB0
         have hw1 := HW1.out
         refine start_ (n := 15) (S := fun w' => Below w.heap.size w w') (ds := []) #[false, false, false, false, false, false, false, false, false, false, false, false, false, false, false] (by kernel_rfl) rfl rfl (below_drew1 HB.out) (fun hHeld => ?_)
         generalize World.drew _ = V at hHeld HO ⊢
         clear HB
         refine pure_ (i := 1) (N := some 35) (v := ?_) (a' := ?_) #[false, true, false, false, false, false, false, false, false, false, false, false, false, false, false] rfl rfl (by kernel_rfl) (fun _ _ _ h => h) (Or.inl ⟨by rfl, ?_⟩) ?_ ?_
         rotate_left
         ·intro w'
          go_simp
          with_reducible rfl
         rotate_left
         ·simp only [Act.put, u11a, u11b, u11c, i64_w, i32_w]
          rfl
         refine pure_ (i := 2) (N := some 36) (v := ?_) (a' := ?_) #[false, true, true, false, false, false, false, false, false, false, false, false, false, false, false] rfl rfl (by kernel_rfl) (fun _ _ _ h => h) (Or.inl ⟨by rfl, ?_⟩) ?_ ?_
         rotate_left
         ·intro w'
          go_simp
          with_reducible rfl
         rotate_left
         ·simp only [Act.put, u11a, u11b, u11c, i64_w, i32_w]
          rfl
         refine pure_ (i := 3) (N := some 37) (v := ?_) (a' := ?_) #[false, true, true, true, false, false, false, false, false, false, false, false, false, false, false] rfl rfl (by kernel_rfl) (fun _ _ _ h => h) (Or.inl ⟨by rfl, ?_⟩) ?_ ?_
         rotate_left
         ·intro w'
          go_simp
          with_reducible rfl
         rotate_left
         ·simp only [Act.put, u11a, u11b, u11c, i64_w, i32_w]
          rfl
         refine pure_ (i := 4) (N := some 38) (v := ?_) (a' := ?_) #[false, true, true, true, true, false, false, false, false, false, false, false, false, false, false] rfl rfl (by kernel_rfl) (fun _ _ _ h => h) (Or.inl ⟨by rfl, ?_⟩) ?_ ?_
         rotate_left
         ·intro w'
          go_simp
          with_reducible rfl
         rotate_left
         ·simp only [Act.put, u11a, u11b, u11c, i64_w, i32_w]
          rfl
         refine take_ (i := 5) (N := some 39) (v := ?_) (a' := ?_) #[false, true, true, true, true, true, false, false, false, false, false, false, false, false, false] rfl rfl (by kernel_rfl) (fun _ _ _ h => h) (Or.inl ⟨by rfl, ?_⟩) hHeld ?_ ?_
         rotate_left
         ·intro w' hS
          have hc1 := (hS.cell (World.block_lt_of_cell? w _ hx2)).trans hx2
          go_simp
          with_reducible rfl
         rotate_left
         ·simp only [Act.put, u11a, u11b, u11c, i64_w, i32_w]
          rfl
         refine pure_ (i := 7) (N := some 41) (v := ?_) (a' := ?_) #[false, true, true, true, true, true, false, true, false, false, false, false, false, false, false] rfl rfl (by kernel_rfl) (fun _ _ _ h => h) (Or.inl ⟨by rfl, ?_⟩) ?_ ?_
         rotate_left
         ·intro w'
          go_simp
          with_reducible rfl
         rotate_left
         ·simp only [Act.put, u11a, u11b, u11c, i64_w, i32_w]
          rfl
         refine pure_ (i := 8) (N := some 42) (v := ?_) (a' := ?_) #[false, true, true, true, true, true, false, true, true, false, false, false, false, false, false] rfl rfl (by kernel_rfl) (fun _ _ _ h => h) (Or.inl ⟨by rfl, ?_⟩) ?_ ?_
         rotate_left
         ·intro w'
          go_simp
          with_reducible rfl
         rotate_left
         ·simp only [Act.put, u11a, u11b, u11c, i64_w, i32_w]
          rfl
         refine pure_ (i := 9) (N := some 43) (v := ?_) (a' := ?_) #[false, true, true, true, true, true, false, true, true, true, false, false, false, false, false] rfl rfl (by kernel_rfl) (fun _ _ _ h => h) (Or.inl ⟨by rfl, ?_⟩) ?_ ?_
         rotate_left
         ·intro w'
          go_simp
          with_reducible rfl
         rotate_left
         ·simp only [Act.put, u11a, u11b, u11c, i64_w, i32_w]
          rfl
         refine pure_ (i := 10) (N := some 44) (v := ?_) (a' := ?_) #[false, true, true, true, true, true, false, true, true, true, true, false, false, false, false] rfl rfl (by kernel_rfl) (fun _ _ _ h => h) (Or.inl ⟨by rfl, ?_⟩) ?_ ?_
         rotate_left
         ·intro w'
          go_simp
          with_reducible rfl
         rotate_left
         ·simp only [Act.put, u11a, u11b, u11c, i64_w, i32_w]
          rfl
         refine pure_ (i := 11) (N := some 45) (v := ?_) (a' := ?_) #[false, true, true, true, true, true, false, true, true, true, true, true, false, false, false] rfl rfl (by kernel_rfl) (fun _ _ _ h => h) (Or.inl ⟨by rfl, ?_⟩) ?_ ?_
         rotate_left
         ·intro w'
          go_simp
          with_reducible rfl
         rotate_left
         ·simp only [Act.put, u11a, u11b, u11c, i64_w, i32_w]
          rfl
         obtain ⟨AA, hAA⟩ : ∃ AA : Option Addr, AA = (if c0 = a1 then some ad else some (ad.add (a1 * 3))) := ⟨_, rfl⟩
         rw [← hAA]
         have HAA := u11e hAA
         clear hAA
         refine one_ (i := 0) (N := some 34) #[true, true, true, true, true, true, false, true, true, true, true, true, false, false, false] rfl rfl (by kernel_rfl) (by decide) (fun K hK => ?_)
         refine Kd.R_lit_step (w0 := w) (Kd.int .u8) w.heap.size 5 (by rfl) rfl (xs := ([] : List Int)) (inner := []) (ok := fun _ => True) (okp := fun _ => True) (by first | (go_simp; done) | (go_simp; rfl)) (Reps.none _ _) (fun _ hk => hk) trivial hHeld hHeld.size (by simp) ?_
         intro v34 W1 ho hb hg hnew
         have HIN := u11e ho
         replace HO := u11e (apart_next (vo := .slice none 0 0) (v1 := v34) (Kd.R_mono HO.out (fun k _ he => by simp [Value.ownBlock] at he)) hg (.inr hnew))
         replace hHeld := hb
         clear ho hb hg hnew
         refine hK.out _ _ hHeld (fun _ => ?_)
         clear hK K
         refine norm_ (a' := ?_) ?_ ?_
         rotate_left
         ·show Act.put _ (some 34) _ = _
          simp only [Act.put, u11a, u11b, u11c, i64_w, i32_w]
          rfl
         refine one_ (i := 6) (N := some 40) #[true, true, true, true, true, true, true, true, true, true, true, true, false, false, false] rfl rfl (by kernel_rfl) (by decide) (fun K hK => ?_)
         refine Kd.R_append_rows_step (w0 := w) (Kd.int .u8) (Rr := fun x cs => cs = [Value.int .u8 x]) w.heap.size (by rfl) (.tmp 34) (.tmp 39) 29 5 (.int .u8 0) 1 rfl Try.underlying29 info5 rfl (by decide) (by decide) v34 [] (rd_T46 l0 (at_ : Int)).f2 A2 (rd_T46 l0 (at_ : Int)).f2.length c2 (fun _ => True) (fun _ => False) (by rfl) (by rfl) HIN.out ?hR (fun x cs h => h) (fun _ hk => hk.elim) (fun _ _ => trivial) hHeld hHeld.size ?hl ?_
         case hR => exact Kd.C_below HI2.out hHeld
         case hl => (have := C5.out; rw [← HBD.out, List.length_append] at this; simp only [List.length_nil]; omega)
         intro v40 W40 ho hb hg hat
         replace HIN := u11e ho
         replace HO := u11e (apart_next (v1 := v40) HO.out hg hat)
         replace hHeld := hb
         clear ho hb hg hat
         refine hK.out _ _ hHeld (fun _ => ?_)
         clear hK K
         refine norm_ (a' := ?_) ?_ ?_
         rotate_left
         ·show Act.put _ (some 40) _ = _
          simp only [Act.put, u11a, u11b, u11c, i64_w, i32_w]
          rfl
         refine one_ (i := 12) (N := some 46) #[true, true, true, true, true, true, true, true, true, true, true, true, true, false, false] rfl rfl (by kernel_rfl) (by decide) (fun K hK => ?_)
         have hC := Kd.C_mid (c := c0) (lo := a1) (hi := en) (Kd.C_below HR0.out hHeld) (by simpa using s2) (by have := C4.out; omega) HC0.out
         have hlen : ((l0.take en).drop a1).length = en - a1 := by rw [List.length_drop, List.length_take]; have := C4.out; omega
         have hcall := ih k1 (by have := HK.out; omega) AA (c0 - a1) ((l0.take en).drop a1) sub _ (by rw [HAA.out]; exact hC) (by rw [hlen]; have := C4.out; have := HC0.out; omega) (by rw [hlen]; have := C4.out; have := HL0.out; omega) HS'.out
         rw [hlen] at hcall
         clear hC hlen
         refine goes_ Try.func42 (by kernel_rfl) rfl #[.slice AA (en - a1) (c0 - a1)] (by rfl) rfl rfl (by (try simp only [List.map_toArray, List.map_cons, List.map_nil]); first | done | rfl | simp) ?_
         refine hcall.mono ?_
         rintro e W46 ⟨v46, rfl, ho, hb⟩
         refine ⟨_, rfl, ?_⟩
         clear hcall
         have HSUB := u11e (Kd.R_lower ho hHeld.size)
         replace HO := u11e (Kd.R_below HO.out hb)
         replace HIN := u11e (Kd.R_below HIN.out hb)
         replace hHeld := below_step hHeld hb
         obtain ⟨A46, c46, e46⟩ := Kd.R_slice ho
         subst e46
         clear ho hb
         refine hK.out _ _ hHeld (fun _ => ?_)
         clear hK K
         refine norm_ (a' := ?_) ?_ ?_
         rotate_left
         ·show Act.put _ (some 46) _ = _
          simp only [Act.put, u11a, u11b, u11c, i64_w, i32_w]
          rfl
         refine one_ (i := 13) (N := some 47) #[true, true, true, true, true, true, true, true, true, true, true, true, true, true, false] rfl rfl (by kernel_rfl) (by decide) (fun K hK => ?_)
         refine Kd.R_append_rows_step (w0 := w) (Kd.int .u8) (Rr := fun x cs => cs = [Value.int .u8 x]) w.heap.size (by rfl) (.tmp 40) (.tmp 46) 29 5 (.int .u8 0) 1 rfl Try.underlying29 info5 rfl (by decide) (by decide) v40 ([] ++ (rd_T46 l0 (at_ : Int)).f2) sub A46 sub.length c46 (fun _ => True) (fun _ => False) (by rfl) (by rfl) HIN.out ?hR (fun x cs h => h) (fun _ hk => hk.elim) (fun _ _ => trivial) hHeld hHeld.size ?hl ?_
         case hR => exact (Kd.R_reads' HSUB.out).2.2
         case hl => (have := C5.out; rw [← HBD.out, List.length_append] at this; simp only [List.nil_append]; omega)
         intro v47 W47 ho hb hg hat
         replace HIN := u11e ho
         replace HO := u11e (apart_next (v1 := v47) HO.out hg hat)
         replace hHeld := hb
         clear ho hb hg hat
         refine hK.out _ _ hHeld (fun _ => ?_)
         clear hK K
         refine norm_ (a' := ?_) ?_ ?_
         rotate_left
         ·show Act.put _ (some 47) _ = _
          simp only [Act.put, u11a, u11b, u11c, i64_w, i32_w]
          rfl
         rw [show [] ++ (rd_T46 l0 (at_ : Int)).f2 ++ sub = body by rw [List.nil_append]; exact HBD.out] at HIN
         obtain ⟨A47, c47, e47⟩ := Kd.R_slice HIN.out
         subst e47
         clear HSUB
         refine pure_ (i := 14) (N := some 6) (v := ?_) (a' := ?_) #[true, true, true, true, true, true, true, true, true, true, true, true, true, true, true] rfl rfl (by kernel_rfl) (fun _ _ _ h => h) (Or.inl ⟨by rfl, ?_⟩) ?_ ?_
         rotate_left
         ·intro w'
          go_simp
          with_reducible rfl
         rotate_left
         ·simp only [Act.put, u11a, u11b, u11c, i64_w, i32_w]
          rfl
         refine done_ (by kernel_rfl) ?_
         have HB := u11e hHeld
         have HBODY := u11e (apart_swap HO.out HIN.out)
         replace HO := u11e (Kd.R_mono (ok' := fun _ => True) HO.out (fun _ _ => trivial))
         clear hHeld HIN HAA hw1 s1 s2
         obtain ⟨kind, hkd⟩ : ∃ s : ByteArray, (rd_T46 l0 (at_ : Int)).f0 = s := ⟨_, rfl⟩
         rw [hkd] at hx0
         have HKD := u11e hkd
         clear hkd
         obtain ⟨n8, hn8⟩ : ∃ n8 : Int, (8 + ((body.length : Nat) : Int)) = n8 := ⟨_, rfl⟩
         have hw8 : wrap64 (((body.length : Nat) : Int) + 8) = n8 := by have := C5.out; unfold wrap64; omega
         have N0 : 0 ≤ n8 ∧ n8 < 2000000 := by have := C5.out; omega
         have HN8 := u11e hn8
         clear hn8
         have d1 : wrap64 (Int.tdiv n8 16777216) = n8 / 16777216 := by rw [Int.tdiv_eq_ediv_of_nonneg N0.1]; unfold wrap64; omega
         have d2 : wrap64 (Int.tdiv n8 65536) = n8 / 65536 := by rw [Int.tdiv_eq_ediv_of_nonneg N0.1]; unfold wrap64; omega
         have d3 : wrap64 (Int.tdiv n8 256) = n8 / 256 := by rw [Int.tdiv_eq_ediv_of_nonneg N0.1]; unfold wrap64; omega
         have HKS : Aside0 (out.length + kind.size + body.length + 8 ≤ 1000000) := ⟨by have := C5.out; rw [HKD.out] at this; exact this⟩
         clear N0
         skip
         skip
         go_wp2_with (first | ((with_reducible refine gate_dst (N := 63) rfl ?_); (refine Kd.R_lit (w0 := w) (Kd.int .u8) w.heap.size 5 ?hg (N := 63) ?hd (xs := four n8) (inner := [.int .u8 ((n8 / 16777216) % 256), .int .u8 ((n8 / 65536) % 256), .int .u8 ((n8 / 256) % 256), .int .u8 (n8 % 256)]) (ok := fun _ => True) (okp := fun _ => True) ?hr ?hp (fun _ hk => hk) trivial HB.out HB.out.size (by simp [four]) ?_; (case hd => rfl); (case hg => rfl); (case hr => first | (go_simp; done) | (go_simp; rfl)); (case hp => exact (Reps.one (show Kd.M (Kd.int .u8) _ _ _ ((n8 / 16777216) % 256) [.int .u8 ((n8 / 16777216) % 256)] from rfl) (Reps.one (show Kd.M (Kd.int .u8) _ _ _ ((n8 / 65536) % 256) [.int .u8 ((n8 / 65536) % 256)] from rfl) (Reps.one (show Kd.M (Kd.int .u8) _ _ _ ((n8 / 256) % 256) [.int .u8 ((n8 / 256) % 256)] from rfl) (Reps.one (show Kd.M (Kd.int .u8) _ _ _ (n8 % 256) [.int .u8 (n8 % 256)] from rfl) (Reps.none _ _)))))); intro v63 w63 ho5 hb hg_ hnew_; have HF := u11e ho5; have HB3 := u11e hb; have HO3 := u11e (Kd.R_grown HO.out hg_ (fun _ _ he => by simp at he)); have HBD3 := u11e (Kd.R_grown HBODY.out hg_ (fun _ _ he => by simp at he)); clear HB HO HBODY; obtain ⟨A63, c63, e63⟩ := Kd.R_slice ho5; subst e63; clear hg_ hnew_ ho5 hb)) | ((with_reducible refine gate_dst (N := 64) rfl ?_); at_builtin; (refine Kd.R_append_row (Value.int .u8) (0 : Int) (h1 := fun _ => rfl) (w0 := w) w.heap.size rfl (.tmp 51) (.tmp 63) 29 5 (.int .u8 0) 1 (by rfl) Try.underlying29 info5 rfl (by decide) (.slice Ao out.length co) out (four n8) A63 (four n8).length c63 (fun _ => True) (by rfl) (by rfl) (fun _ _ => trivial) HO3.out (Kd.R_reads' HF.out).2.2 HB3.out HB3.out.size (by have h1 := HKS.out; have h2 : (four n8).length = 4 := rfl; have h3 := bytesOf_length kind; (try simp only [List.length_append]); omega) ?_; intro v64 w64 ho hb hg_ hat_; have HO4 := u11e ho; have HB4 := u11e hb; have HBD4 := u11e (apart_next (v1 := v64) HBD3.out hg_ hat_); have hz0 := (HB4.out.cell (World.block_lt_of_cell? w _ hx0)).trans hx0; clear ho hb hg_ hat_)) | ((with_reducible refine gate_dst (N := 71) rfl ?_); at_builtin; (refine R_append_str (w0 := w) w.heap.size rfl (.tmp 65) (.tmp 70) 29 9 5 (by rfl) Try.underlying29 Try.underlying9 info5 v64 (out ++ four n8) kind (by rfl) (by rfl) (fun _ => True) (fun _ _ => trivial) HO4.out HB4.out HB4.out.size (by have h1 := HKS.out; have h2 : (four n8).length = 4 := rfl; have h3 := bytesOf_length kind; (try simp only [List.length_append]); omega) ?_; intro v71 w71 ho hb hg_ hat_; have HO5 := u11e ho; have HB5 := u11e hb; have HBD5 := u11e (apart_next (v1 := v71) HBD4.out hg_ hat_); clear ho hb hg_ hat_)) | ((with_reducible refine gate_dst (N := 74) rfl ?_); at_builtin; (refine Kd.R_append_row (Value.int .u8) (0 : Int) (h1 := fun _ => rfl) (w0 := w) w.heap.size rfl (.tmp 72) (.tmp 73) 29 5 (.int .u8 0) 1 (by rfl) Try.underlying29 info5 rfl (by decide) v71 (out ++ four n8 ++ bytesOf kind) body A47 body.length c47 (fun _ => True) (by rfl) (by rfl) (fun _ _ => trivial) HO5.out (Kd.R_reads' HBD5.out).2.2 HB5.out HB5.out.size (by have h1 := HKS.out; have h2 : (four n8).length = 4 := rfl; have h3 := bytesOf_length kind; (try simp only [List.length_append]); omega) ?_; intro v74 w74 ho hb hg_ hat_; have HO6 := u11e ho; have HB6 := u11e hb; have HBD6 := u11e (apart_next (v1 := v74) HBD5.out hg_ hat_); clear ho hb hg_ hat_)))
         go_roundg k1
         case measure => have := HK.out; omega
         case rel => exact ⟨out ++ (four n8 ++ (bytesOf kind ++ body)), en, rfl, ⟨by have h := H2.out; rw [HKD.out, HN8.out] at h; exact h⟩, ⟨by have := HK.out; omega⟩, ⟨by have h := HO6.out; simp only [List.append_assoc] at h; exact h⟩, HB6⟩
     ·rw [if_neg c5] at H
      exact absurd H (by simp)
    ·rw [if_neg c4] at H
     exact absurd H (by simp)
   ·rw [if_neg c3] at H
    have c3b : decide (at_ < l0.length) = false := decide_eq_false c3
    obtain rfl := Option.some.inj H
    clear H c3
    go_wp2
    go_ret
    exact ⟨_, rfl, HO.out, HB.out⟩
def spec_l2Show.f (k : Nat) (l0 : List (S46)) : Option (List Int) := if l0.length ≤ 1000000 then shw k l0 [] 0 else none
theorem spec_l2Show.mono : ∀ l0 k, LeO (spec_l2Show.f k l0) (spec_l2Show.f (k + 1) l0) := by
 intro l0 k
 unfold spec_l2Show.f
 exact LeO.ite (shw.mono k l0 [] 0) (LeO.none _)
theorem spec_l2Show.calls (k : Nat) (A0 : Option Addr) (c0 : Nat) (l0 : List (S46)) (r : List Int) (w : World) (hr0 : Kd.C k46 w A0 l0.length l0) (hc0 : l0.length ≤ c0) (h : spec_l2Show.f k l0 = some r) :
  Calls Try.prog 42 #[.slice A0 l0.length c0] w fun e w' => ∃ v0_ : Value, e = .returned (v0_) ∧ Kd.R (Kd.int .u8) 5 w' w.heap.size (fun _ => True) v0_ r ∧ Below w.heap.size w w' := by
 unfold spec_l2Show.f at h
 by_cases hl : l0.length ≤ 1000000
 ·rw [if_pos hl] at h
  exact l2Show_shw k A0 c0 l0 r w hr0 hc0 hl h
 ·rw [if_neg hl] at h
  exact absurd h (by simp)


/-! ### spec_l1Byte: function 57 -/
def spec_l1Byte.f (s0_0 : List Int) (s0_1 : Int) (s0_2 : Int) : Option (Int × Int × Int) := if s0_1 < (s0_0.length : Int) then (if 0 ≤ s0_1 then (some (Go.bits .and .i64 (wrap64 ((Go.bits .and .i64 (Go.bits .xor .i64 ((wrap64 ((wrap64 (s0_2 * 6364136223846793005)) + 1442695040888963407)) / 8589934592) ((wrap64 ((wrap64 (s0_2 * 6364136223846793005)) + 1442695040888963407)) / 35184372088832)) 255) + (wrap64 (rd s0_0 s0_1)))) 255, wrap64 (s0_1 + 1), wrap64 ((wrap64 (s0_2 * 6364136223846793005)) + 1442695040888963407))) else (none)) else (some (Go.bits .and .i64 (Go.bits .xor .i64 ((wrap64 ((wrap64 (s0_2 * 6364136223846793005)) + 1442695040888963407)) / 8589934592) ((wrap64 ((wrap64 (s0_2 * 6364136223846793005)) + 1442695040888963407)) / 35184372088832)) 255, s0_1, wrap64 ((wrap64 (s0_2 * 6364136223846793005)) + 1442695040888963407)))
set_option maxHeartbeats 8000000 in
set_option maxRecDepth 100000 in
theorem spec_l1Byte.calls (g : Nat) (s0_0 : List Int) (s0_1 : Int) (s0_2 : Int) (r1 : Int) (r2 : Int) (r3 : Int) (w0 w : World) (hI : IsS69 w0 w g s0_0 s0_1 s0_2) (hB : Below w0.heap.size w0 w) (h : spec_l1Byte.f s0_0 s0_1 s0_2 = some (r1, r2, r3)) :
  Calls Try.prog 57 #[.pointer (some ⟨g, 0, none⟩)] w fun e w' => e = .returned (.int .i64 r1) ∧ IsS69 w0 w' g s0_0 r2 r3 ∧ Below w0.heap.size w0 w' ∧ KeepBut w w' g none := by
 have HI0 := u11e hI
 have HK := u11e (KeepBut.refl w g none)
 have HL := u11e hB.size
 clear hI
 have HW0 := u11e hB.size
 have HB := u11e hB
 clear hB
 have H : (if s0_1 < (s0_0.length : Int) then (if 0 ≤ s0_1 then (some (Go.bits .and .i64 (wrap64 ((Go.bits .and .i64 (Go.bits .xor .i64 ((wrap64 ((wrap64 (s0_2 * 6364136223846793005)) + 1442695040888963407)) / 8589934592) ((wrap64 ((wrap64 (s0_2 * 6364136223846793005)) + 1442695040888963407)) / 35184372088832)) 255) + (wrap64 (rd s0_0 s0_1)))) 255, wrap64 (s0_1 + 1), wrap64 ((wrap64 (s0_2 * 6364136223846793005)) + 1442695040888963407))) else (none)) else (some (Go.bits .and .i64 (Go.bits .xor .i64 ((wrap64 ((wrap64 (s0_2 * 6364136223846793005)) + 1442695040888963407)) / 8589934592) ((wrap64 ((wrap64 (s0_2 * 6364136223846793005)) + 1442695040888963407)) / 35184372088832)) 255, s0_1, wrap64 ((wrap64 (s0_2 * 6364136223846793005)) + 1442695040888963407)))) = some (r1, r2, r3) := h
 clear h
 by_cases c2 : s0_1 < (s0_0.length : Int)
 ·rw [if_pos c2] at H
  have c2b0 : decide (s0_1 < (s0_0.length : Int)) = true := decide_eq_true c2
  clear c2
  by_cases c3 : 0 ≤ s0_1
  ·rw [if_pos c3] at H
   have c3b0 : decide (0 ≤ s0_1) = true := decide_eq_true c3
   clear c3
   simp only [Option.some.injEq, Prod.mk.injEq] at H
   obtain ⟨rfl, rfl, rfl⟩ := H
   obtain ⟨ASz4_0, cSz4_0, HGz4, hgz4, HSz4_0⟩ := HI0.out
   have hcz4_0 := cellS69_0 HGz4
   have hcz4_1 := cellS69_1 HGz4
   have hcz4_2 := cellS69_2 HGz4
   have hfz4_1 := blk_frozen HGz4 1
   have hfz4_2 := blk_frozen HGz4 2
   clear HGz4 hgz4
   have p137 : 0 ≤ (s0_1 : Int) := of_decide_eq_true (by assumption)
   have q137 : s0_1 < (s0_0.length : Int) := of_decide_eq_true (by assumption)
   obtain ⟨ad137, e137, hx137_0⟩ := Kd.at_int HSz4_0 s0_1 p137 q137
   cases e137
   have hn137_0 : ad137.block ≠ g := Nat.ne_of_lt (Nat.lt_of_lt_of_le (by have := World.block_lt_of_cell? _ _ hx137_0; first | rwa [add_block] at this | exact this) (IsS69.ge HI0.out))
   replace hx137_0 := pw_cell_below HB.out hx137_0
   replace hx137_0 := (cell_far (p := ⟨g, 2, none⟩) (by first | (rw [add_block]; exact hn137_0) | (show (Addr.add _ _).block ≠ _; rw [add_block]; exact hn137_0) | exact hn137_0) (.int .i64 (wrap64 ((wrap64 (s0_2 * 6364136223846793005)) + 1442695040888963407)))).trans hx137_0
   (try have hy137_0 := fun (n_ : Nat) => (show (((w.drewN n_).setCell ⟨g, 2, none⟩ (.int .i64 (wrap64 ((wrap64 (s0_2 * 6364136223846793005)) + 1442695040888963407))))).cell? _ = some _ from hx137_0))
   clear hn137_0
   replace p137 := eq_true p137
   replace q137 := eq_true q137
   go_enter Try.func57, Try.ntmps57
   go_wp2
   repeat (go_quiet (fail); try go_wp2)
   go_ret
   exact ⟨by first | rfl | (simp [errW_none, errW_some] <;> rfl) | (simp [*, errW_none, errW_some] <;> rfl), by repeat (first | (with_reducible first | exact HI0.out | apply IsS69.alloc | apply IsS69.drewN | apply IsS69.drew | apply IsS69.set_1 | apply IsS69.set_2) | exact HI0.out), by repeat (first | (with_reducible first | exact HB.out | apply below_alloc | apply pw_below_drewN | apply below_drew1 | refine below_set ?_ (IsS69.ge HI0.out)) | exact HB.out), by repeat (first | (with_reducible first | exact HK.out | apply KeepBut.set_ | apply keep_drewN | apply keep_drew | apply keep_alloc) | exact HK.out)⟩
  ·rw [if_neg c3] at H
   exact absurd H (by simp)
 ·rw [if_neg c2] at H
  have c2b0 : decide (s0_1 < (s0_0.length : Int)) = false := decide_eq_false c2
  clear c2
  simp only [Option.some.injEq, Prod.mk.injEq] at H
  obtain ⟨rfl, rfl, rfl⟩ := H
  obtain ⟨ASz5_0, cSz5_0, HGz5, hgz5, HSz5_0⟩ := HI0.out
  have hcz5_0 := cellS69_0 HGz5
  have hcz5_1 := cellS69_1 HGz5
  have hcz5_2 := cellS69_2 HGz5
  have hfz5_1 := blk_frozen HGz5 1
  have hfz5_2 := blk_frozen HGz5 2
  clear HGz5 hgz5
  go_enter Try.func57, Try.ntmps57
  go_wp2
  repeat (go_quiet (fail); try go_wp2)
  go_ret
  exact ⟨by first | rfl | (simp [errW_none, errW_some] <;> rfl) | (simp [*, errW_none, errW_some] <;> rfl), by repeat (first | (with_reducible first | exact HI0.out | apply IsS69.alloc | apply IsS69.drewN | apply IsS69.drew | apply IsS69.set_1 | apply IsS69.set_2) | exact HI0.out), by repeat (first | (with_reducible first | exact HB.out | apply below_alloc | apply pw_below_drewN | apply below_drew1 | refine below_set ?_ (IsS69.ge HI0.out)) | exact HB.out), by repeat (first | (with_reducible first | exact HK.out | apply KeepBut.set_ | apply keep_drewN | apply keep_drew | apply keep_alloc) | exact HK.out)⟩

/-! ### spec_l1Below: function 56 -/
def spec_l1Below.f (s0_0 : List Int) (s0_1 : Int) (s0_2 : Int) (a1 : Int) : Option (Int × Int × Int) := if a1 ≤ 0 then (some (0, s0_1, s0_2)) else (if a1 ≤ 256 then ((spec_l1Byte.f s0_0 s0_1 s0_2).bind fun bt138 => (if a1 = 0 then (none) else (some (Int.tmod bt138.1 a1, bt138.2.1, bt138.2.2)))) else ((spec_l1Byte.f s0_0 s0_1 s0_2).bind fun bt141 => ((spec_l1Byte.f s0_0 bt141.2.1 bt141.2.2).bind fun bt144 => ((spec_l1Byte.f s0_0 bt144.2.1 bt144.2.2).bind fun bt147 => ((spec_l1Byte.f s0_0 bt147.2.1 bt147.2.2).bind fun bt150 => (if a1 = 0 then (none) else (some (Int.tmod (wrap64 ((wrap64 ((wrap64 ((wrap64 (bt141.1 * 16777216)) + (wrap64 (bt144.1 * 65536)))) + (wrap64 (bt147.1 * 256)))) + bt150.1)) a1, bt150.2.1, bt150.2.2))))))))
set_option maxHeartbeats 8000000 in
set_option maxRecDepth 100000 in
theorem spec_l1Below.calls (g : Nat) (s0_0 : List Int) (s0_1 : Int) (s0_2 : Int) (a1 : Int) (r1 : Int) (r2 : Int) (r3 : Int) (w0 w : World) (hI : IsS69 w0 w g s0_0 s0_1 s0_2) (hB : Below w0.heap.size w0 w) (h : spec_l1Below.f s0_0 s0_1 s0_2 a1 = some (r1, r2, r3)) :
  Calls Try.prog 56 #[.pointer (some ⟨g, 0, none⟩), .int .i64 a1] w fun e w' => e = .returned (.int .i64 r1) ∧ IsS69 w0 w' g s0_0 r2 r3 ∧ Below w0.heap.size w0 w' ∧ KeepBut w w' g none := by
 have HI0 := u11e hI
 have HK := u11e (KeepBut.refl w g none)
 have HL := u11e hB.size
 clear hI
 have HW0 := u11e hB.size
 have HB := u11e hB
 clear hB
 have H : (if a1 ≤ 0 then (some (0, s0_1, s0_2)) else (if a1 ≤ 256 then ((spec_l1Byte.f s0_0 s0_1 s0_2).bind fun bt138 => (if a1 = 0 then (none) else (some (Int.tmod bt138.1 a1, bt138.2.1, bt138.2.2)))) else ((spec_l1Byte.f s0_0 s0_1 s0_2).bind fun bt141 => ((spec_l1Byte.f s0_0 bt141.2.1 bt141.2.2).bind fun bt144 => ((spec_l1Byte.f s0_0 bt144.2.1 bt144.2.2).bind fun bt147 => ((spec_l1Byte.f s0_0 bt147.2.1 bt147.2.2).bind fun bt150 => (if a1 = 0 then (none) else (some (Int.tmod (wrap64 ((wrap64 ((wrap64 ((wrap64 (bt141.1 * 16777216)) + (wrap64 (bt144.1 * 65536)))) + (wrap64 (bt147.1 * 256)))) + bt150.1)) a1, bt150.2.1, bt150.2.2))))))))) = some (r1, r2, r3) := h
 clear h
 by_cases c3 : a1 ≤ 0
 ·rw [if_pos c3] at H
  have c3b0 : decide (a1 ≤ 0) = true := decide_eq_true c3
  clear c3
  simp only [Option.some.injEq, Prod.mk.injEq] at H
  obtain ⟨rfl, rfl, rfl⟩ := H
  go_enter Try.func56, Try.ntmps56
  go_wp2
  go_ret
  exact ⟨by first | rfl | (simp [errW_none, errW_some] <;> rfl) | (simp [*, errW_none, errW_some] <;> rfl), by repeat (first | (with_reducible first | exact HI0.out | apply IsS69.alloc | apply IsS69.drewN | apply IsS69.drew | apply IsS69.set_1 | apply IsS69.set_2) | exact HI0.out), by repeat (first | (with_reducible first | exact HB.out | apply below_alloc | apply pw_below_drewN | apply below_drew1 | refine below_set ?_ (IsS69.ge HI0.out)) | exact HB.out), by repeat (first | (with_reducible first | exact HK.out | apply KeepBut.set_ | apply keep_drewN | apply keep_drew | apply keep_alloc) | exact HK.out)⟩
 ·rw [if_neg c3] at H
  have c3b0 : decide (a1 ≤ 0) = false := decide_eq_false c3
  clear c3
  by_cases c4 : a1 ≤ 256
  ·rw [if_pos c4] at H
   have c4b0 : decide (a1 ≤ 256) = true := decide_eq_true c4
   clear c4
   replace H := Option.bind_eq_some_iff.mp H
   obtain ⟨⟨t138, t139, t140⟩, A50, H⟩ := H
   have A5 := u11e A50
   clear A50
   by_cases c6 : a1 = 0
   ·rw [if_pos c6] at H
    exact absurd H (by simp)
   ·rw [if_neg c6] at H
    have c6b0 : (a1 == 0) = false := beq_eq_false_iff_ne.mpr c6
    have c6b1 : (a1 != 0) = true := bne_iff_ne.mpr c6
    simp only [Option.some.injEq, Prod.mk.injEq] at H
    obtain ⟨rfl, rfl, rfl⟩ := H
    go_enter Try.func56, Try.ntmps56
    go_wp2_with (first | ((with_reducible refine gate_callee (f := 57) rfl ?_); refine goesL_ (some 14) rfl rfl Try.func57 (by kernel_rfl) rfl #[.pointer (some ⟨g, 0, none⟩)] rfl (by (try simp only [List.map_toArray, List.map_cons, List.map_nil]); first | done | rfl | (simp only [List.length_drop, List.length_take]; rfl)) ?_; (with_reducible refine (spec_l1Byte.calls g s0_0 s0_1 s0_2 t138 t139 t140 w0 _ ?side1 ?side2 A5.out).mono ?_); (case side1 => repeat (first | (with_reducible first | exact HI0.out | apply IsS69.alloc | apply IsS69.drewN | apply IsS69.drew | apply IsS69.set_1 | apply IsS69.set_2) | exact HI0.out)); (case side2 => repeat (first | (with_reducible first | exact HB.out | apply below_alloc | apply pw_below_drewN | apply below_drew1 | refine below_set ?_ (IsS69.ge HI0.out)) | exact HB.out)); rintro e w7 ⟨rfl, hi, hb, hk⟩; refine ⟨_, rfl, ?_⟩; have n0_ := u11e (KeepBut.trans (by repeat (first | (with_reducible first | exact HK.out | apply KeepBut.set_ | apply keep_drewN | apply keep_drew | apply keep_alloc) | exact HK.out)) hk (.inl rfl)); have n1_ := u11e (hb); have n2_ := u11e (hi); clear HK; clear HB; clear HI0; have HK := n0_; have HB := n1_; have HI0 := n2_; clear n0_ n1_ n2_; (try clear hb); (try clear hb2); (try clear hk); (try clear hi)))
    go_ret
    exact ⟨by first | rfl | (simp [errW_none, errW_some] <;> rfl) | (simp [*, errW_none, errW_some] <;> rfl), by repeat (first | (with_reducible first | exact HI0.out | apply IsS69.alloc | apply IsS69.drewN | apply IsS69.drew | apply IsS69.set_1 | apply IsS69.set_2) | exact HI0.out), by repeat (first | (with_reducible first | exact HB.out | apply below_alloc | apply pw_below_drewN | apply below_drew1 | refine below_set ?_ (IsS69.ge HI0.out)) | exact HB.out), by repeat (first | (with_reducible first | exact HK.out | apply KeepBut.set_ | apply keep_drewN | apply keep_drew | apply keep_alloc) | exact HK.out)⟩
  ·rw [if_neg c4] at H
   have c4b0 : decide (a1 ≤ 256) = false := decide_eq_false c4
   clear c4
   replace H := Option.bind_eq_some_iff.mp H
   obtain ⟨⟨t141, t142, t143⟩, A80, H⟩ := H
   have A8 := u11e A80
   clear A80
   replace H := Option.bind_eq_some_iff.mp H
   obtain ⟨⟨t144, t145, t146⟩, A90, H⟩ := H
   have A9 := u11e A90
   clear A90
   replace H := Option.bind_eq_some_iff.mp H
   obtain ⟨⟨t147, t148, t149⟩, A100, H⟩ := H
   have A10 := u11e A100
   clear A100
   replace H := Option.bind_eq_some_iff.mp H
   obtain ⟨⟨t150, t151, t152⟩, A110, H⟩ := H
   have A11 := u11e A110
   clear A110
   by_cases c12 : a1 = 0
   ·rw [if_pos c12] at H
    exact absurd H (by simp)
   ·rw [if_neg c12] at H
    have c12b0 : (a1 == 0) = false := beq_eq_false_iff_ne.mpr c12
    have c12b1 : (a1 != 0) = true := bne_iff_ne.mpr c12
    simp only [Option.some.injEq, Prod.mk.injEq] at H
    obtain ⟨rfl, rfl, rfl⟩ := H
    go_enter Try.func56, Try.ntmps56
    go_wp2_with (first | ((with_reducible refine gate_callee (f := 57) rfl ?_); refine goesL_ (some 18) rfl rfl Try.func57 (by kernel_rfl) rfl #[.pointer (some ⟨g, 0, none⟩)] rfl (by (try simp only [List.map_toArray, List.map_cons, List.map_nil]); first | done | rfl | (simp only [List.length_drop, List.length_take]; rfl)) ?_; (with_reducible refine (spec_l1Byte.calls g s0_0 s0_1 s0_2 t141 t142 t143 w0 _ ?side1 ?side2 A8.out).mono ?_); (case side1 => repeat (first | (with_reducible first | exact HI0.out | apply IsS69.alloc | apply IsS69.drewN | apply IsS69.drew | apply IsS69.set_1 | apply IsS69.set_2) | exact HI0.out)); (case side2 => repeat (first | (with_reducible first | exact HB.out | apply below_alloc | apply pw_below_drewN | apply below_drew1 | refine below_set ?_ (IsS69.ge HI0.out)) | exact HB.out)); rintro e w13 ⟨rfl, hi, hb, hk⟩; refine ⟨_, rfl, ?_⟩; have n0_ := u11e (KeepBut.trans (by repeat (first | (with_reducible first | exact HK.out | apply KeepBut.set_ | apply keep_drewN | apply keep_drew | apply keep_alloc) | exact HK.out)) hk (.inl rfl)); have n1_ := u11e (hb); have n2_ := u11e (hi); clear HK; clear HB; clear HI0; have HK := n0_; have HB := n1_; have HI0 := n2_; clear n0_ n1_ n2_; (try clear hb); (try clear hb2); (try clear hk); (try clear hi)) | ((with_reducible refine gate_callee (f := 57) rfl ?_); refine goesL_ (some 20) rfl rfl Try.func57 (by kernel_rfl) rfl #[.pointer (some ⟨g, 0, none⟩)] rfl (by (try simp only [List.map_toArray, List.map_cons, List.map_nil]); first | done | rfl | (simp only [List.length_drop, List.length_take]; rfl)) ?_; (with_reducible refine (spec_l1Byte.calls g s0_0 t142 t143 t144 t145 t146 w0 _ ?side1 ?side2 A9.out).mono ?_); (case side1 => repeat (first | (with_reducible first | exact HI0.out | apply IsS69.alloc | apply IsS69.drewN | apply IsS69.drew | apply IsS69.set_1 | apply IsS69.set_2) | exact HI0.out)); (case side2 => repeat (first | (with_reducible first | exact HB.out | apply below_alloc | apply pw_below_drewN | apply below_drew1 | refine below_set ?_ (IsS69.ge HI0.out)) | exact HB.out)); rintro e w14 ⟨rfl, hi, hb, hk⟩; refine ⟨_, rfl, ?_⟩; have n0_ := u11e (KeepBut.trans (by repeat (first | (with_reducible first | exact HK.out | apply KeepBut.set_ | apply keep_drewN | apply keep_drew | apply keep_alloc) | exact HK.out)) hk (.inl rfl)); have n1_ := u11e (hb); have n2_ := u11e (hi); clear HK; clear HB; clear HI0; have HK := n0_; have HB := n1_; have HI0 := n2_; clear n0_ n1_ n2_; (try clear hb); (try clear hb2); (try clear hk); (try clear hi)) | ((with_reducible refine gate_callee (f := 57) rfl ?_); refine goesL_ (some 22) rfl rfl Try.func57 (by kernel_rfl) rfl #[.pointer (some ⟨g, 0, none⟩)] rfl (by (try simp only [List.map_toArray, List.map_cons, List.map_nil]); first | done | rfl | (simp only [List.length_drop, List.length_take]; rfl)) ?_; (with_reducible refine (spec_l1Byte.calls g s0_0 t145 t146 t147 t148 t149 w0 _ ?side1 ?side2 A10.out).mono ?_); (case side1 => repeat (first | (with_reducible first | exact HI0.out | apply IsS69.alloc | apply IsS69.drewN | apply IsS69.drew | apply IsS69.set_1 | apply IsS69.set_2) | exact HI0.out)); (case side2 => repeat (first | (with_reducible first | exact HB.out | apply below_alloc | apply pw_below_drewN | apply below_drew1 | refine below_set ?_ (IsS69.ge HI0.out)) | exact HB.out)); rintro e w15 ⟨rfl, hi, hb, hk⟩; refine ⟨_, rfl, ?_⟩; have n0_ := u11e (KeepBut.trans (by repeat (first | (with_reducible first | exact HK.out | apply KeepBut.set_ | apply keep_drewN | apply keep_drew | apply keep_alloc) | exact HK.out)) hk (.inl rfl)); have n1_ := u11e (hb); have n2_ := u11e (hi); clear HK; clear HB; clear HI0; have HK := n0_; have HB := n1_; have HI0 := n2_; clear n0_ n1_ n2_; (try clear hb); (try clear hb2); (try clear hk); (try clear hi)) | ((with_reducible refine gate_callee (f := 57) rfl ?_); refine goesL_ (some 24) rfl rfl Try.func57 (by kernel_rfl) rfl #[.pointer (some ⟨g, 0, none⟩)] rfl (by (try simp only [List.map_toArray, List.map_cons, List.map_nil]); first | done | rfl | (simp only [List.length_drop, List.length_take]; rfl)) ?_; (with_reducible refine (spec_l1Byte.calls g s0_0 t148 t149 t150 t151 t152 w0 _ ?side1 ?side2 A11.out).mono ?_); (case side1 => repeat (first | (with_reducible first | exact HI0.out | apply IsS69.alloc | apply IsS69.drewN | apply IsS69.drew | apply IsS69.set_1 | apply IsS69.set_2) | exact HI0.out)); (case side2 => repeat (first | (with_reducible first | exact HB.out | apply below_alloc | apply pw_below_drewN | apply below_drew1 | refine below_set ?_ (IsS69.ge HI0.out)) | exact HB.out)); rintro e w16 ⟨rfl, hi, hb, hk⟩; refine ⟨_, rfl, ?_⟩; have n0_ := u11e (KeepBut.trans (by repeat (first | (with_reducible first | exact HK.out | apply KeepBut.set_ | apply keep_drewN | apply keep_drew | apply keep_alloc) | exact HK.out)) hk (.inl rfl)); have n1_ := u11e (hb); have n2_ := u11e (hi); clear HK; clear HB; clear HI0; have HK := n0_; have HB := n1_; have HI0 := n2_; clear n0_ n1_ n2_; (try clear hb); (try clear hb2); (try clear hk); (try clear hi)))
    go_ret
    exact ⟨by first | rfl | (simp [errW_none, errW_some] <;> rfl) | (simp [*, errW_none, errW_some] <;> rfl), by repeat (first | (with_reducible first | exact HI0.out | apply IsS69.alloc | apply IsS69.drewN | apply IsS69.drew | apply IsS69.set_1 | apply IsS69.set_2) | exact HI0.out), by repeat (first | (with_reducible first | exact HB.out | apply below_alloc | apply pw_below_drewN | apply below_drew1 | refine below_set ?_ (IsS69.ge HI0.out)) | exact HB.out), by repeat (first | (with_reducible first | exact HK.out | apply KeepBut.set_ | apply keep_drewN | apply keep_drew | apply keep_alloc) | exact HK.out)⟩

/-! ### spec_l1Once: function 58 -/
def spec_l1Once.f (s0_0 : List Int) (s0_1 : Int) (s0_2 : Int) (a1 : Int) : Option (Bool × Int × Int) := (spec_l1Below.f s0_0 s0_1 s0_2 a1).bind fun bt153 => (some ((bt153.1 == 0), bt153.2.1, bt153.2.2))
set_option maxHeartbeats 8000000 in
set_option maxRecDepth 100000 in
theorem spec_l1Once.calls (g : Nat) (s0_0 : List Int) (s0_1 : Int) (s0_2 : Int) (a1 : Int) (r1 : Bool) (r2 : Int) (r3 : Int) (w0 w : World) (hI : IsS69 w0 w g s0_0 s0_1 s0_2) (hB : Below w0.heap.size w0 w) (h : spec_l1Once.f s0_0 s0_1 s0_2 a1 = some (r1, r2, r3)) :
  Calls Try.prog 58 #[.pointer (some ⟨g, 0, none⟩), .int .i64 a1] w fun e w' => e = .returned (.bool r1) ∧ IsS69 w0 w' g s0_0 r2 r3 ∧ Below w0.heap.size w0 w' ∧ KeepBut w w' g none := by
 have HI0 := u11e hI
 have HK := u11e (KeepBut.refl w g none)
 have HL := u11e hB.size
 clear hI
 have HW0 := u11e hB.size
 have HB := u11e hB
 clear hB
 have H : ((spec_l1Below.f s0_0 s0_1 s0_2 a1).bind fun bt153 => (some ((bt153.1 == 0), bt153.2.1, bt153.2.2))) = some (r1, r2, r3) := h
 clear h
 replace H := Option.bind_eq_some_iff.mp H
 obtain ⟨⟨t153, t154, t155⟩, A30, H⟩ := H
 have A3 := u11e A30
 clear A30
 simp only [Option.some.injEq, Prod.mk.injEq] at H
 obtain ⟨rfl, rfl, rfl⟩ := H
 go_enter Try.func58, Try.ntmps58
 go_wp2_with (first | ((with_reducible refine gate_callee (f := 56) rfl ?_); refine goesL_ (some 7) rfl rfl Try.func56 (by kernel_rfl) rfl #[.pointer (some ⟨g, 0, none⟩), .int .i64 a1] rfl (by (try simp only [List.map_toArray, List.map_cons, List.map_nil]); first | done | rfl | (simp only [List.length_drop, List.length_take]; rfl)) ?_; (with_reducible refine (spec_l1Below.calls g s0_0 s0_1 s0_2 a1 t153 t154 t155 w0 _ ?side1 ?side2 A3.out).mono ?_); (case side1 => repeat (first | (with_reducible first | exact HI0.out | apply IsS69.alloc | apply IsS69.drewN | apply IsS69.drew | apply IsS69.set_1 | apply IsS69.set_2) | exact HI0.out)); (case side2 => repeat (first | (with_reducible first | exact HB.out | apply below_alloc | apply pw_below_drewN | apply below_drew1 | refine below_set ?_ (IsS69.ge HI0.out)) | exact HB.out)); rintro e w4 ⟨rfl, hi, hb, hk⟩; refine ⟨_, rfl, ?_⟩; have n0_ := u11e (KeepBut.trans (by repeat (first | (with_reducible first | exact HK.out | apply KeepBut.set_ | apply keep_drewN | apply keep_drew | apply keep_alloc) | exact HK.out)) hk (.inl rfl)); have n1_ := u11e (hb); have n2_ := u11e (hi); clear HK; clear HB; clear HI0; have HK := n0_; have HB := n1_; have HI0 := n2_; clear n0_ n1_ n2_; (try clear hb); (try clear hb2); (try clear hk); (try clear hi)))
 go_ret
 exact ⟨by first | rfl | (simp [errW_none, errW_some] <;> rfl) | (simp [*, errW_none, errW_some] <;> rfl), by repeat (first | (with_reducible first | exact HI0.out | apply IsS69.alloc | apply IsS69.drewN | apply IsS69.drew | apply IsS69.set_1 | apply IsS69.set_2) | exact HI0.out), by repeat (first | (with_reducible first | exact HB.out | apply below_alloc | apply pw_below_drewN | apply below_drew1 | refine below_set ?_ (IsS69.ge HI0.out)) | exact HB.out), by repeat (first | (with_reducible first | exact HK.out | apply KeepBut.set_ | apply keep_drewN | apply keep_drew | apply keep_alloc) | exact HK.out)⟩

end Go.Proofs.Ytpennfkjfeipcaa.PFnBoxesOne
