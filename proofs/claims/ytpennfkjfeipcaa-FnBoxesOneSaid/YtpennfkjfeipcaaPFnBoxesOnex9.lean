/- The functions that the law reaches, as Lean functions, each with the proof that the Go code comes to just these answers. Written by a program of this session (wip/tools/handprint.py over the kit's print); by hand where the print takes no such text. -/
-- squeezed
import Derived.Test.YtpennfkjfeipcaaPFnBoxesOnex0
import Derived.Test.YtpennfkjfeipcaaPFnBoxesOnex2
import Derived.Test.YtpennfkjfeipcaaPFnBoxesOnex3
import Derived.Test.YtpennfkjfeipcaaPFnBoxesOnex4
namespace Go.Proofs.Ytpennfkjfeipcaa.PFnBoxesOne
open Go.RowKit Go.Proofs.YtpennfkjfeipcaaW.PrintWords Go.Proofs.YtpennfkjfeipcaaW.PrintLast Go.Proofs.YtpennfkjfeipcaaW.PrintMore
attribute [local go_sem] max2_int min2_int max_two min_two max_three min_three max_four min_four   -- for this text's walks alone
set_option linter.unusedVariables false
set_option linter.unusedSimpArgs false

theorem u9e {p : Prop} (h : p) : Aside0 p := Aside0.mk h
-- short names
theorem u9a : type_of% @List.setIfInBounds_toArray := @List.setIfInBounds_toArray
theorem u9b : type_of% @List.set_cons_zero := @List.set_cons_zero
theorem u9c : type_of% @List.set_cons_succ := @List.set_cons_succ
/-! ### impl_showBoxes: function 43 -/
-- rounds 1 making 1
-- roots loop.example/g00066/impl.endOf loop.example/g00066/impl.fourBytes
set_option maxHeartbeats 8000000 in
set_option maxRecDepth 100000 in
/-- slices.Grow of nil bytes. -/
theorem slices_Grow_any (A : Option Addr) (hA : A = none) (n : Int) (w : World) (h0 : 0 ≤ n) (hb : n ≤ 1000000000) : Calls Try.prog 63 #[.slice A 0 0, .int .i64 n] w fun e w' => ∃ v : Value, e = .returned v ∧ Kd.R (Kd.int .u8) 5 w' w.heap.size (fun _ => True) v [] ∧ Below w.heap.size w w' := by
 have HB := u9e (Below.refl w.heap.size w)
 have hu29 := Try.underlying29
 have c1 : decide (n < 0) = false := decide_eq_false (by omega)
 have hw : wrap64 n = n := by unfold wrap64; omega
 have HW := u9e hw
 have H0 := u9e h0
 have H1 := u9e hb
 have HA := u9e hA
 clear hb hA
 by_cases hp : 0 < n
 ·have c2 : decide (0 < n) = true := decide_eq_true hp
  have h64 : ((n.toNat : Nat) : Int) = n := by omega
  clear h0 hp
  go_enter Try.func63, Try.ntmps63
  go_wp2_with (first | ((with_reducible refine gate_dst (N := 22) rfl ?_); (refine Kd.R_append_zeros (Kd.int .u8) (w0 := w) w.heap.size rfl (.tmp 20) (.tmp 21) 29 3 5 (.int .u8 0) 1 (by rfl) Try.underlying29 (k := .i64) Try.underlying3 info5 rfl (by decide) (by decide) (.slice A 0 0) ([] : List Int) 0 (kx := .i64) (wrap64 n) (fun _ => True) (by rfl) (by rfl) rfl (fun _ _ => trivial) (by rw [HA.out]; exact Kd.R_nil _ _ _ _ _) (by rw [HW.out]; exact H0.out) HB.out (Nat.le_refl _) (by have h1 := H1.out; have h2 := H0.out; rw [HW.out]; simp; omega) ?_; intro v1 w1 ho hb hg_ hat_; have HO := u9e ho; have HB2 := u9e hb; obtain ⟨A1, c1, e1⟩ := Kd.R_slice ho; subst e1; rw [HW.out] at HO)))
  go_ret
  exact ⟨_, rfl, Kd.R_take (m := 0) HO.out (Nat.zero_le _), HB2.out⟩
 ·have c2 : decide (0 < n) = false := decide_eq_false hp
  obtain rfl : n = 0 := by omega
  clear h0 hp
  go_enter Try.func63, Try.ntmps63
  go_wp2
  go_ret
  exact ⟨_, rfl, (by rw [HA.out]; exact Kd.R_nil _ _ _ _ _), HB.out⟩
theorem flat_take (xs : List (List Int)) (i : Nat) (hi : i < xs.length) : (xs.take (i + 1)).flatten = (xs.take i).flatten ++ rd_L3 xs (i : Int) := by
 have h : rd_L3 xs (i : Int) = xs[i] := by
  unfold rd_L3
  rw [List.getD_eq_getElem?_getD, show ((i : Int)).toNat = i by omega, List.getElem?_eq_getElem hi]
  rfl
 rw [List.take_succ_eq_append_getElem hi, List.flatten_append, h]
 simp
theorem flat_le (xs : List (List Int)) (i : Nat) : (xs.take i).flatten.length ≤ xs.flatten.length := by
 have h : xs.flatten = (xs.take i).flatten ++ (xs.drop i).flatten := by rw [← List.flatten_append, List.take_append_drop]
 rw [h, List.length_append]
 omega
set_option maxHeartbeats 8000000 in
set_option maxRecDepth 100000 in
/-- slices.Concat of rows of bytes. -/
theorem slices_Concat.calls (A : Option Addr) (c : Nat) (xs : List (List Int)) (w : World) (hr : Kd.C (Kd.slice 5 (Kd.int .u8)) w A xs.length xs) (hx : xs.length ≤ 1000) (hs : xs.flatten.length ≤ 1000000000) :
  Calls Try.prog 53 #[.slice A xs.length c] w fun e w' => ∃ v : Value, e = .returned v ∧ Kd.R (Kd.int .u8) 5 w' w.heap.size (fun _ => True) v xs.flatten ∧ Below w.heap.size w w' := by
 have hu29 := Try.underlying29
 have hu76 := Try.underlying76
 have HB := u9e (Below.refl w.heap.size w)
 have HR0 := u9e hr
 have HX := u9e hx
 have HS := u9e hs
 clear hr hx hs
 go_enter Try.func53, Try.ntmps53
 go_wp2
 go_loopg [3, 11] xs.length (fun kq v3 v11 w' => ∃ (i s : Nat), v3 = .int .i64 (s : Int) ∧ v11 = .int .i64 (i : Int) ∧ Aside0 (s = (xs.take i).flatten.length) ∧ Aside0 (i + kq = xs.length) ∧ Aside0 (Below w.heap.size w w'))
 case atStart => exact ⟨0, 0, rfl, rfl, ⟨rfl⟩, ⟨by omega⟩, HB⟩
 case round =>
  clear HB
  obtain ⟨i, s, rfl, rfl, HSI, HK, HB⟩ := hrel
  by_cases hi : i < xs.length
  ·have hlt : decide (i < xs.length) = true := decide_eq_true hi
   obtain ⟨ad, A0, c0, e0, hcell, hl0, hi0⟩ := at_L3 HR0.out (i : Int) (by omega) (by omega)
   cases e0
   have p0 : (0 ≤ (i : Int)) = True := eq_true (by omega)
   have q0 : ((i : Int) < (xs.length : Int)) = True := eq_true (by omega)
   have HF := u9e (flat_take xs i hi)
   obtain ⟨s2, hs2⟩ : ∃ s2 : Nat, s2 = s + (rd_L3 xs (i : Int)).length := ⟨_, rfl⟩
   have HS2 : Aside0 (s2 = (xs.take (i + 1)).flatten.length) := ⟨by rw [HF.out, List.length_append, ← HSI.out]; exact hs2⟩
   have hq : wrap64 ((s : Int) + (((rd_L3 xs (i : Int)).length : Nat) : Int)) = (s2 : Int) := by
    have h1 := flat_le xs (i + 1)
    have h2 := HS.out
    rw [← HS2.out] at h1
    unfold wrap64
    omega
   have hneg : decide ((s2 : Int) < 0) = false := decide_eq_false (by omega)
   have hcell2 : wr.cell? (ad.add i) = some (.slice A0 (rd_L3 xs (i : Int)).length c0) := (HB.out.cell (World.block_lt_of_cell? w _ hcell)).trans hcell
   have HI := u9e hi
   have hw1 : wrap64 ((i : Int) + 1) = ((i + 1 : Nat) : Int) := by have := HX.out; unfold wrap64; omega
   clear hi hs2 hcell hi0
   go_wp2
   go_roundg (gk - 1)
   case measure => have := HK.out; have := HI.out; omega
   case rel => exact ⟨i + 1, s2, by first | rfl | simp [hq], by first | rfl | simp [hw1], HS2, ⟨by have := HK.out; have := HI.out; omega⟩, HB⟩
  ·have hlt : decide (i < xs.length) = false := decide_eq_false hi
   have HT : Aside0 (s = xs.flatten.length) := ⟨by have h := HSI.out; rwa [List.take_of_length_le (by omega)] at h⟩
   clear HK hi HSI
   go_wp2_with (first | ((with_reducible refine gate_dst (N := 24) rfl ?_); (refine goesL_ (some 24) rfl rfl Try.func63 (by kernel_rfl) rfl #[.slice none 0 0, .int .i64 (s : Int)] rfl (by (try simp only [List.map_toArray, List.map_cons, List.map_nil]); first | done | rfl) ?_; (with_reducible refine (slices_Grow_any none rfl (s : Int) _ (by omega) (by have := HS.out; have := HT.out; omega)).mono ?_); rintro e W1 ⟨v6, rfl, ho, hb⟩; refine ⟨_, rfl, ?_⟩; have HO := u9e (Kd.R_lower ho HB.out.size); have HB2 := u9e (below_step HB.out hb); clear ho hb)))
   clear HB
   go_loopg [6, 27] xs.length (fun kq v6 v27 w' => ∃ (j : Nat), v27 = .int .i64 (j : Int) ∧ Aside0 (j + kq = xs.length) ∧ Aside0 (Kd.R (Kd.int .u8) 5 w' w.heap.size (fun _ => True) v6 (xs.take j).flatten) ∧ Aside0 (Below w.heap.size w w'))
   case atStart => exact ⟨0, rfl, ⟨by omega⟩, ⟨HO.out⟩, HB2⟩
   case round =>
    clear HO HB2
    obtain ⟨j, rfl, HK, HO, HB⟩ := hrel
    by_cases hj : j < xs.length
    ·have hlt : decide (j < xs.length) = true := decide_eq_true hj
     obtain ⟨ad, A0, c0, e0, hcell, hl0, hi0⟩ := at_L3 HR0.out (j : Int) (by omega) (by omega)
     cases e0
     have p0 : (0 ≤ (j : Int)) = True := eq_true (by omega)
     have q0 : ((j : Int) < (xs.length : Int)) = True := eq_true (by omega)
     have HF := u9e (flat_take xs j hj)
     have HL := u9e (flat_le xs (j + 1))
     have HI := u9e (Kd.C_below hi0 HB.out)
     have hcell2 : wr.cell? (ad.add j) = some (.slice A0 (rd_L3 xs (j : Int)).length c0) := (HB.out.cell (World.block_lt_of_cell? w _ hcell)).trans hcell
     have HJ := u9e hj
     have hw1 : wrap64 ((j : Int) + 1) = ((j + 1 : Nat) : Int) := by have := HX.out; unfold wrap64; omega
     clear hj hi0 hcell
     go_wp2_with (first | ((with_reducible refine gate_dst (N := 33) rfl ?_); at_builtin; (refine Kd.R_append_row (Value.int .u8) (0 : Int) (h1 := fun _ => rfl) (w0 := w) w.heap.size rfl (.tmp 31) (.tmp 32) 29 5 (.int .u8 0) 1 (by rfl) Try.underlying29 info5 rfl (by decide) u6 (xs.take j).flatten (rd_L3 xs (j : Int)) A0 (rd_L3 xs (j : Int)).length c0 (fun _ => True) (by rfl) (by rfl) (fun _ _ => trivial) ?aO ?aR HB.out HB.out.size ?aL ?_; (case aO => exact HO.out); (case aR => exact HI.out); (case aL => (have h1 := HL.out; have h2 := HS.out; rw [HF.out, List.length_append] at h1; omega)); intro v1 w2 ho hb hg_ hat_; have HO2 := u9e ho; have HB2 := u9e hb; clear ho hb hg_ hat_)))
     go_roundg (gk - 1)
     case measure => have := HK.out; have := HJ.out; omega
     case rel => exact ⟨j + 1, by first | rfl | simp [hw1], ⟨by have := HK.out; have := HJ.out; omega⟩, ⟨by rw [HF.out]; exact HO2.out⟩, HB2⟩
    ·have hlt : decide (j < xs.length) = false := decide_eq_false hj
     have HF : Aside0 (Kd.R (Kd.int .u8) 5 wr w.heap.size (fun _ => True) u6 xs.flatten) := ⟨by
      have h := HO.out
      rwa [List.take_of_length_le (by omega)] at h⟩
     clear HK HO hj
     go_wp2
     go_ret
     exact ⟨_, rfl, HF.out, HB.out⟩
theorem endp_eq : ∀ k l a x, endp k l a x = impl_endOf.l0 k l a x := by
 intro k
 induction k with
 | zero => intro l a x; rfl
 | succ k ih =>
  intro l a x
  simp only [endp, impl_endOf.l0, ih]
set_option maxHeartbeats 8000000 in
set_option maxRecDepth 100000 in
theorem showBoxes_shw : ∀ (k : Nat) (A0 : Option Addr) (c0 : Nat) (l0 : List (S46)) (r : List Int) (w : World) (hr0 : Kd.C k46 w A0 l0.length l0) (hc0 : l0.length ≤ c0) (hl0 : l0.length ≤ 1000000) (h : shw k l0 [] 0 = some r),
  Calls Try.prog 43 #[.slice A0 l0.length c0] w fun e w' => ∃ v0_ : Value, e = .returned (v0_) ∧ Kd.R (Kd.int .u8) 5 w' w.heap.size (fun _ => True) v0_ r ∧ Below w.heap.size w w' := by
 intro k
 induction k using Nat.strongRecOn with
 | ind k ih =>
 intro A0 c0 l0 r w hr0 hc0 hl0 h
 have hu29 := Try.underlying29
 have hu46 := Try.underlying46
 have hu44 := Try.underlying44
 have hu25 := Try.underlying25
 have HB := u9e (Below.refl w.heap.size w)
 have HR0 := u9e hr0
 have HC0 := u9e hc0
 have HL0 := u9e hl0
 have H' := u9e h
 clear hr0 hc0 hl0 h
 go_enter Try.func43, Try.ntmps43
 go_wp2_with (first | ((with_reducible refine gate_dst (N := 7) rfl ?_); refine Kd.R_lit (Kd.int .u8) w.heap.size 5 ?hg (N := 7) ?hd (xs := ([] : List Int)) (inner := []) (ok := fun _ => True) (okp := fun _ => True) ?hr ?hp (fun _ hk => hk) trivial HB.out HB.out.size (by simp) ?_; (case hd => rfl); (case hg => rfl); (case hr => first | (go_simp; done) | (go_simp; rfl)); (case hp => exact (Reps.none _ _)); intro v103 w4 ho5 hb hg_ hnew_; replace HB := u9e hb; have HO := u9e ho5; clear hg_ hnew_ ho5 hb))
 go_loopg [3, 4] k (fun kq v3 v4 w' => ∃ (out : List Int) (at_ : Nat), v4 = .int .i64 (at_ : Int) ∧ Aside0 (shw kq l0 out at_ = some r) ∧ Aside0 (kq ≤ k) ∧ Aside0 (Kd.R (Kd.int .u8) 5 w' w.heap.size (fun _ => True) v3 out) ∧ Aside0 (Below w.heap.size w w'))
 case atStart => exact ⟨[], 0, rfl, H', ⟨Nat.le_refl _⟩, HO, HB⟩
 case round =>
  clear HB HO H'
  obtain ⟨out, at_, rfl, HA, HK, HO, HB⟩ := hrel
  obtain ⟨Ao, co, eo⟩ := Kd.R_slice HO.out
  subst eo
  cases gk with
  | zero => exact absurd HA.out (by simp [shw])
  | succ k1 =>
   have H := HA.out
   clear HA
   simp only [shw] at H
   by_cases c3 : at_ < l0.length
   ·rw [if_pos c3] at H
    have c3b : decide (at_ < l0.length) = true := decide_eq_true c3
    obtain ⟨e, HE, H⟩ := Option.bind_eq_some_iff.mp H
    by_cases c4 : (at_ : Int) + 1 ≤ e ∧ e ≤ (l0.length : Int)
    ·rw [if_pos c4] at H
     obtain ⟨sub, HS, H⟩ := Option.bind_eq_some_iff.mp H
     by_cases c5 : out.length + (rd_T46 l0 (at_ : Int)).f0.size + ((rd_T46 l0 (at_ : Int)).f2 ++ sub).length + 8 ≤ 1000000
     ·rw [if_pos c5] at H
      obtain ⟨body, hbd⟩ : ∃ b : List Int, (rd_T46 l0 (at_ : Int)).f2 ++ sub = b := ⟨_, rfl⟩
      rw [hbd] at H c5
      have HBD := u9e hbd
      clear hbd
      obtain ⟨en, rfl⟩ : ∃ n : Nat, e = (n : Int) := ⟨e.toNat, by omega⟩
      rw [Int.toNat_natCast] at H HS
      have HE' := u9e (show impl_endOf.f k1 l0 (at_ : Int) = some (en : Int) by unfold impl_endOf.f; rw [← endp_eq]; exact HE)
      have H2 := u9e H
      have C3 := u9e c3
      have C4 := u9e c4
      have C5 := u9e c5
      obtain ⟨ad, A2, c2, e0, hx0, hx1, hx2, hl2, hi2⟩ := at_T46 HR0.out (at_ : Int) (by omega) (by omega)
      cases e0
      have p0 : (0 ≤ (at_ : Int)) = True := eq_true (by omega)
      have q0 : ((at_ : Int) < (l0.length : Int)) = True := eq_true (by omega)
      simp only [Int.toNat_natCast] at hx0 hx1 hx2
      have HI2 := u9e hi2
      obtain ⟨a1, ha1⟩ : ∃ a1 : Nat, a1 = at_ + 1 := ⟨_, rfl⟩
      have hw1 : wrap64 ((at_ : Int) + 1) = (a1 : Int) := by have := HL0.out; unfold wrap64; omega
      have s1 : (en ≤ c0) = True := eq_true (by have := HC0.out; omega)
      have s2 : (a1 ≤ en) = True := eq_true (by omega)
      have A1 := u9e ha1
      rw [← ha1] at HS
      have HS' := u9e HS
      have HL2 := u9e hl2
      clear c3 c4 c5 HE HS H hi2 hl2 ha1
      go_wp2_with (first | ((with_reducible refine gate_dst (N := 14) rfl ?_); refine goesL_ (some 14) rfl rfl Try.func52 (by kernel_rfl) rfl #[.slice (some ad) l0.length c0, .int .i64 (at_ : Int)] rfl (by (try simp only [List.map_toArray, List.map_cons, List.map_nil]); first | done | rfl) ?_; (with_reducible refine (impl_endOf.calls k1 _ _ l0 (at_ : Int) (en : Int) _ ?s1 ?s2 HE'.out).mono ?_); (case s1 => exact Kd.C_below HR0.out HB.out); (case s2 => exact HC0.out); rintro e W1 ⟨rfl, hD⟩; refine ⟨_, rfl, ?_⟩; have hb := hD.below; have HO2 := u9e (Kd.R_below HO.out hb); have HB2 := u9e (below_step HB.out hb); clear HO HB hb hD; have HO := HO2; have HB := HB2; clear HO2 HB2))
      go_upto_region 5 with (fail)
      refine start_ (n := 14) (S := fun w' => Below w.heap.size w w') (ds := []) #[false, false, false, false, false, false, false, false, false, false, false, false, false, false] (by kernel_rfl) rfl rfl (below_drew1 HB.out) (fun hHeld => ?_)
      replace HO := u9e (Kd.R_drew HO.out)
      generalize World.drew _ = V at hHeld HO ⊢
      refine pure_ (i := 0) (N := some 15) (v := ?_) (a' := ?_) #[true, false, false, false, false, false, false, false, false, false, false, false, false, false] rfl rfl (by kernel_rfl) (fun _ _ _ h => h) (Or.inl ⟨by rfl, ?_⟩) ?_ ?_
      rotate_left
      ·intro w'
       go_simp
       with_reducible rfl
      rotate_left
      ·simp only [Act.put, u9a, u9b, u9c, i64_w, i32_w]
       rfl
      refine pure_ (i := 1) (N := some 16) (v := ?_) (a' := ?_) #[true, true, false, false, false, false, false, false, false, false, false, false, false, false] rfl rfl (by kernel_rfl) (fun _ _ _ h => h) (Or.inl ⟨by rfl, ?_⟩) ?_ ?_
      rotate_left
      ·intro w'
       go_simp
       with_reducible rfl
      rotate_left
      ·simp only [Act.put, u9a, u9b, u9c, i64_w, i32_w]
       rfl
      refine pure_ (i := 2) (N := some 17) (v := ?_) (a' := ?_) #[true, true, true, false, false, false, false, false, false, false, false, false, false, false] rfl rfl (by kernel_rfl) (fun _ _ _ h => h) (Or.inl ⟨by rfl, ?_⟩) ?_ ?_
      rotate_left
      ·intro w'
       go_simp
       with_reducible rfl
      rotate_left
      ·simp only [Act.put, u9a, u9b, u9c, i64_w, i32_w]
       rfl
      refine pure_ (i := 3) (N := some 18) (v := ?_) (a' := ?_) #[true, true, true, true, false, false, false, false, false, false, false, false, false, false] rfl rfl (by kernel_rfl) (fun _ _ _ h => h) (Or.inl ⟨by rfl, ?_⟩) ?_ ?_
      rotate_left
      ·intro w'
       go_simp
       with_reducible rfl
      rotate_left
      ·simp only [Act.put, u9a, u9b, u9c, i64_w, i32_w]
       rfl
      refine take_ (i := 4) (N := some 19) (v := ?_) (a' := ?_) #[true, true, true, true, true, false, false, false, false, false, false, false, false, false] rfl rfl (by kernel_rfl) (fun _ _ _ h => h) (Or.inl ⟨by rfl, ?_⟩) hHeld ?_ ?_
      rotate_left
      ·intro w' hS
       have hc1 := (hS.cell (World.block_lt_of_cell? w _ hx2)).trans hx2
       go_simp
       with_reducible rfl
      rotate_left
      ·simp only [Act.put, u9a, u9b, u9c, i64_w, i32_w]
       rfl
      refine pure_ (i := 5) (N := some 20) (v := ?_) (a' := ?_) #[true, true, true, true, true, true, false, false, false, false, false, false, false, false] rfl rfl (by kernel_rfl) (fun _ _ _ h => h) (Or.inl ⟨by rfl, ?_⟩) ?_ ?_
      rotate_left
      ·intro w'
       go_simp
       with_reducible rfl
      rotate_left
      ·simp only [Act.put, u9a, u9b, u9c, i64_w, i32_w]
       rfl
      refine pure_ (i := 6) (N := some 21) (v := ?_) (a' := ?_) #[true, true, true, true, true, true, true, false, false, false, false, false, false, false] rfl rfl (by kernel_rfl) (fun _ _ _ h => h) (Or.inl ⟨by rfl, ?_⟩) ?_ ?_
      rotate_left
      ·intro w'
       go_simp
       with_reducible rfl
      rotate_left
      ·simp only [Act.put, u9a, u9b, u9c, i64_w, i32_w]
       rfl
      refine pure_ (i := 7) (N := some 22) (v := ?_) (a' := ?_) #[true, true, true, true, true, true, true, true, false, false, false, false, false, false] rfl rfl (by kernel_rfl) (fun _ _ _ h => h) (Or.inl ⟨by rfl, ?_⟩) ?_ ?_
      rotate_left
      ·intro w'
       go_simp
       with_reducible rfl
      rotate_left
      ·simp only [Act.put, u9a, u9b, u9c, i64_w, i32_w]
       rfl
      refine pure_ (i := 8) (N := some 23) (v := ?_) (a' := ?_) #[true, true, true, true, true, true, true, true, true, false, false, false, false, false] rfl rfl (by kernel_rfl) (fun _ _ _ h => h) (Or.inl ⟨by rfl, ?_⟩) ?_ ?_
      rotate_left
      ·intro w'
       go_simp
       with_reducible rfl
      rotate_left
      ·simp only [Act.put, u9a, u9b, u9c, i64_w, i32_w]
       rfl
      refine pure_ (i := 9) (N := some 24) (v := ?_) (a' := ?_) #[true, true, true, true, true, true, true, true, true, true, false, false, false, false] rfl rfl (by kernel_rfl) (fun _ _ _ h => h) (Or.inl ⟨by rfl, ?_⟩) ?_ ?_
      rotate_left
      ·intro w'
       go_simp
       with_reducible rfl
      rotate_left
      ·simp only [Act.put, u9a, u9b, u9c, i64_w, i32_w]
       rfl
      refine one_ (i := 10) (N := some 25) #[true, true, true, true, true, true, true, true, true, true, true, false, false, false] rfl rfl (by kernel_rfl) (by decide) (fun K hK => ?_)
      obtain ⟨AA, hAA⟩ : ∃ AA : Option Addr, AA = (if c0 = a1 then some ad else some (ad.add (a1 * 3))) := ⟨_, rfl⟩
      rw [← hAA]
      have hC := Kd.C_mid (c := c0) (lo := a1) (hi := en) (Kd.C_below HR0.out hHeld) (by simpa using s2) (by have := C4.out; omega) HC0.out
      have hlen : ((l0.take en).drop a1).length = en - a1 := by rw [List.length_drop, List.length_take]; have := C4.out; omega
      have hcall := ih k1 (by have := HK.out; omega) AA (c0 - a1) ((l0.take en).drop a1) sub V (by rw [hAA]; exact hC) (by rw [hlen]; have := C4.out; have := HC0.out; omega) (by rw [hlen]; have := C4.out; have := HL0.out; omega) HS'.out
      rw [hlen] at hcall
      clear hC hlen hAA
      refine goes_ Try.func43 (by kernel_rfl) rfl #[.slice AA (en - a1) (c0 - a1)] (by rfl) rfl rfl (by (try simp only [List.map_toArray, List.map_cons, List.map_nil]); first | done | rfl | simp) ?_
      refine hcall.mono ?_
      rintro e W1 ⟨v25, rfl, ho, hb⟩
      refine ⟨_, rfl, ?_⟩
      clear hcall
      have HSUB := u9e (Kd.R_lower ho hHeld.size)
      replace HO := u9e (Kd.R_below HO.out hb)
      replace hHeld := below_step hHeld hb
      obtain ⟨A25, c25, e25⟩ := Kd.R_slice ho
      subst e25
      clear ho hb
      refine hK.out _ _ hHeld (fun _ => ?_)
      clear hK K
      refine norm_ (a' := ?_) ?_ ?_
      rotate_left
      ·show Act.put _ (some 25) _ = _
       simp only [Act.put, u9a, u9b, u9c, i64_w, i32_w]
       rfl
      refine one_ (i := 11) (N := some 26) #[true, true, true, true, true, true, true, true, true, true, true, true, false, false] rfl rfl (by kernel_rfl) (by decide) (fun K hK => ?_)
      refine lit_step (by rfl) rfl (vs := [.slice A2 ((rd_T46 l0 (at_ : Int)).f2).length c2, .slice A25 sub.length c25]) (n := 2) (e := 29) (by first | (go_simp; done) | (go_simp; rfl)) ?_
      intro g26 W2 hbox hb
      have HROWS := u9e (rows_C (ls := [(rd_T46 l0 (at_ : Int)).f2, sub]) hbox (by simp) (fun j l hl => by
       match j with
       | 0 =>
        obtain rfl : (rd_T46 l0 (at_ : Int)).f2 = l := by simpa using hl
        exact ⟨A2, c2, rfl, HL2.out, Kd.C_below HI2.out (below_step hHeld hb)⟩
       | 1 =>
        obtain rfl : sub = l := by simpa using hl
        have h := Kd.R_reads' (Kd.R_below HSUB.out hb)
        exact ⟨A25, c25, rfl, h.2.1, h.2.2⟩
       | n + 2 => simp at hl))
      replace HO := u9e (Kd.R_below HO.out hb)
      replace hHeld := below_step hHeld hb
      clear hb hbox HSUB
      refine hK.out _ _ hHeld (fun _ => ?_)
      clear hK K
      refine norm_ (a' := ?_) ?_ ?_
      rotate_left
      ·show Act.put _ (some 26) _ = _
       simp only [Act.put, u9a, u9b, u9c, i64_w, i32_w]
       rfl
      refine one_ (i := 12) (N := some 27) #[true, true, true, true, true, true, true, true, true, true, true, true, true, false] rfl rfl (by kernel_rfl) (by decide) (fun K hK => ?_)
      refine goes_ Try.func53 (by kernel_rfl) rfl #[.slice (some ⟨g26, 0, none⟩) 2 2] (by rfl) rfl rfl (by (try simp only [List.map_toArray, List.map_cons, List.map_nil]); first | done | rfl | simp) ?_
      refine (slices_Concat.calls (some ⟨g26, 0, none⟩) 2 [(rd_T46 l0 (at_ : Int)).f2, sub] _ HROWS.out (by simp) (by have := C5.out; rw [← HBD.out, List.length_append] at this; simp; omega)).mono ?_
      rintro e W3 ⟨v27, rfl, ho, hb⟩
      refine ⟨_, rfl, ?_⟩
      have HBODY := u9e (Kd.R_lower ho hHeld.size)
      rw [show [(rd_T46 l0 (at_ : Int)).f2, sub].flatten = body by rw [← HBD.out]; simp] at HBODY ho
      replace HO := u9e (Kd.R_below HO.out hb)
      replace hHeld := below_step hHeld hb
      obtain ⟨A27, c27, e27⟩ := Kd.R_slice ho
      subst e27
      clear ho hb HROWS
      refine hK.out _ _ hHeld (fun _ => ?_)
      clear hK K
      refine norm_ (a' := ?_) ?_ ?_
      rotate_left
      ·show Act.put _ (some 27) _ = _
       simp only [Act.put, u9a, u9b, u9c, i64_w, i32_w]
       rfl
      refine pure_ (i := 13) (N := some 6) (v := ?_) (a' := ?_) #[true, true, true, true, true, true, true, true, true, true, true, true, true, true] rfl rfl (by kernel_rfl) (fun _ _ _ h => h) (Or.inl ⟨by rfl, ?_⟩) ?_ ?_
      rotate_left
      ·intro w'
       go_simp
       with_reducible rfl
      rotate_left
      ·simp only [Act.put, u9a, u9b, u9c, i64_w, i32_w]
       rfl
      refine done_ (by kernel_rfl) ?_
      clear HB
      have HB := u9e hHeld
      clear hHeld
      go_upto_region 6 with (fail)
      obtain ⟨kind, hkd⟩ : ∃ s : ByteArray, (rd_T46 l0 (at_ : Int)).f0 = s := ⟨_, rfl⟩
      rw [hkd] at hx0
      have HKD := u9e hkd
      clear hkd
      obtain ⟨n8, hn8⟩ : ∃ n8 : Int, (8 + ((body.length : Nat) : Int)) = n8 := ⟨_, rfl⟩
      have hw8 : wrap64 (8 + ((body.length : Nat) : Int)) = n8 := by have := C5.out; unfold wrap64; omega
      have HN8 := u9e hn8
      clear hn8
      have kb := fun W => print_bytes (P := Try.prog) 9 29 5 Try.underlying9 Try.underlying29 Try.underlying5 kind W
      have HKS : Aside0 (kind.size ≤ 1000000) := ⟨by have := C5.out; rw [HKD.out] at this; omega⟩
      refine start_ (n := 15) (S := fun w' => Below w.heap.size w w') (ds := []) #[false, false, false, false, false, false, false, false, false, false, false, false, false, false, false] (by kernel_rfl) rfl rfl (below_drew1 HB.out) (fun hHeld => ?_)
      replace HO := u9e (Kd.R_drew HO.out)
      replace HBODY := u9e (Kd.R_drew HBODY.out)
      generalize World.drew _ = V at hHeld HO HBODY ⊢
      clear HB
      refine pure_ (i := 0) (N := some 28) (v := ?_) (a' := ?_) #[true, false, false, false, false, false, false, false, false, false, false, false, false, false, false] rfl rfl (by kernel_rfl) (fun _ _ _ h => h) (Or.inl ⟨by rfl, ?_⟩) ?_ ?_
      rotate_left
      ·intro w'
       go_simp
       with_reducible rfl
      rotate_left
      ·simp only [Act.put, u9a, u9b, u9c, i64_w, i32_w]
       rfl
      refine pure_ (i := 1) (N := some 29) (v := ?_) (a' := ?_) #[true, true, false, false, false, false, false, false, false, false, false, false, false, false, false] rfl rfl (by kernel_rfl) (fun _ _ _ h => h) (Or.inl ⟨by rfl, ?_⟩) ?_ ?_
      rotate_left
      ·intro w'
       go_simp
       with_reducible rfl
      rotate_left
      ·simp only [Act.put, u9a, u9b, u9c, i64_w, i32_w]
       rfl
      refine pure_ (i := 2) (N := some 30) (v := ?_) (a' := ?_) #[true, true, true, false, false, false, false, false, false, false, false, false, false, false, false] rfl rfl (by kernel_rfl) (fun _ _ _ h => h) (Or.inl ⟨by rfl, ?_⟩) ?_ ?_
      rotate_left
      ·intro w'
       go_simp
       with_reducible rfl
      rotate_left
      ·simp only [Act.put, u9a, u9b, u9c, i64_w, i32_w]
       rfl
      refine pure_ (i := 3) (N := some 31) (v := ?_) (a' := ?_) #[true, true, true, true, false, false, false, false, false, false, false, false, false, false, false] rfl rfl (by kernel_rfl) (fun _ _ _ h => h) (Or.inl ⟨by rfl, ?_⟩) ?_ ?_
      rotate_left
      ·intro w'
       go_simp
       with_reducible rfl
      rotate_left
      ·simp only [Act.put, u9a, u9b, u9c, i64_w, i32_w]
       rfl
      refine pure_ (i := 5) (N := some 33) (v := ?_) (a' := ?_) #[true, true, true, true, false, true, false, false, false, false, false, false, false, false, false] rfl rfl (by kernel_rfl) (fun _ _ _ h => h) (Or.inl ⟨by rfl, ?_⟩) ?_ ?_
      rotate_left
      ·intro w'
       go_simp
       with_reducible rfl
      rotate_left
      ·simp only [Act.put, u9a, u9b, u9c, i64_w, i32_w]
       rfl
      refine pure_ (i := 6) (N := some 34) (v := ?_) (a' := ?_) #[true, true, true, true, false, true, true, false, false, false, false, false, false, false, false] rfl rfl (by kernel_rfl) (fun _ _ _ h => h) (Or.inl ⟨by rfl, ?_⟩) ?_ ?_
      rotate_left
      ·intro w'
       go_simp
       with_reducible rfl
      rotate_left
      ·simp only [Act.put, u9a, u9b, u9c, i64_w, i32_w]
       rfl
      refine pure_ (i := 7) (N := some 35) (v := ?_) (a' := ?_) #[true, true, true, true, false, true, true, true, false, false, false, false, false, false, false] rfl rfl (by kernel_rfl) (fun _ _ _ h => h) (Or.inl ⟨by rfl, ?_⟩) ?_ ?_
      rotate_left
      ·intro w'
       go_simp
       with_reducible rfl
      rotate_left
      ·simp only [Act.put, u9a, u9b, u9c, i64_w, i32_w]
       rfl
      refine pure_ (i := 8) (N := some 36) (v := ?_) (a' := ?_) #[true, true, true, true, false, true, true, true, true, false, false, false, false, false, false] rfl rfl (by kernel_rfl) (fun _ _ _ h => h) (Or.inl ⟨by rfl, ?_⟩) ?_ ?_
      rotate_left
      ·intro w'
       go_simp
       with_reducible rfl
      rotate_left
      ·simp only [Act.put, u9a, u9b, u9c, i64_w, i32_w]
       rfl
      refine take_ (i := 9) (N := some 37) (v := ?_) (a' := ?_) #[true, true, true, true, false, true, true, true, true, true, false, false, false, false, false] rfl rfl (by kernel_rfl) (fun _ _ _ h => h) (Or.inl ⟨by rfl, ?_⟩) hHeld ?_ ?_
      rotate_left
      ·intro w' hS
       have hc1 := (hS.cell (World.block_lt_of_cell? w _ hx0)).trans hx0
       go_simp
       with_reducible rfl
      rotate_left
      ·simp only [Act.put, u9a, u9b, u9c, i64_w, i32_w]
       rfl
      refine pure_ (i := 11) (N := some 39) (v := ?_) (a' := ?_) #[true, true, true, true, false, true, true, true, true, true, false, true, false, false, false] rfl rfl (by kernel_rfl) (fun _ _ _ h => h) (Or.inl ⟨by rfl, ?_⟩) ?_ ?_
      rotate_left
      ·intro w'
       go_simp
       with_reducible rfl
      rotate_left
      ·simp only [Act.put, u9a, u9b, u9c, i64_w, i32_w]
       rfl
      refine join_ (σ := (Option Addr × Nat) × (Option Addr × Nat)) 3 #[true, true, true, true, true, true, true, true, true, true, true, true, false, false, false] (fun s_ => [(32, .slice s_.1.1 4 s_.1.2), (38, .slice s_.2.1 kind.size s_.2.2)]) (fun s_ w' => Below w.heap.size w w' ∧ (Kd.C (Kd.int .u8) w' s_.1.1 4 (four n8) ∧ 4 ≤ s_.1.2) ∧ (Kd.C (Kd.int .u8) w' s_.2.1 kind.size (bytesOf kind) ∧ kind.size ≤ s_.2.2) ∧ Kd.R (Kd.int .u8) 5 w' w.heap.size (fun _ => True) (.slice Ao out.length co) out ∧ Kd.R (Kd.int .u8) 5 w' w.heap.size (fun _ => True) (.slice A27 body.length c27) body) ?_ ?_
      rotate_left
      ·intro hCont
       refine two_ (i := 4) (j := 10) (Ni := some 32) (Nj := some 38) #[true, true, true, true, true, true, true, true, true, true, false, true, false, false, false] #[true, true, true, true, false, true, true, true, true, true, true, true, false, false, false] rfl rfl rfl rfl (by kernel_rfl) (by decide) (by decide) (fun K hK => ?_) (fun K hK => ?_)
       ·skip
        refine goes_ Try.func54 (by kernel_rfl) rfl #[.int .i64 (wrap64 (8 + ((body.length : Nat) : Int)))] (by rfl) rfl rfl (by (try simp only [List.map_toArray, List.map_cons, List.map_nil]); first | done | rfl | simp) ?_
        rw [show (#[Value.int .i64 (wrap64 (8 + ((body.length : Nat) : Int)))] : Array Value) = #[Value.int .i64 n8] by rw [hw8]]
        refine (impl_fourBytes.calls n8 (four n8) _ rfl).mono ?_
        rintro e W4 ⟨v32, rfl, ho, hb⟩
        refine ⟨_, rfl, ?_⟩
        obtain ⟨A32, c32, e32⟩ := Kd.R_slice ho
        subst e32
        have hf := Kd.R_reads' ho
        have H4 : Aside0 (Kd.C (Kd.int .u8) W4 A32 4 (four n8) ∧ 4 ≤ c32) := ⟨⟨hf.2.2, hf.2.1⟩⟩
        replace HO := u9e (Kd.R_below HO.out hb)
        replace HBODY := u9e (Kd.R_below HBODY.out hb)
        replace hHeld := below_step hHeld hb
        clear ho hb hf
        refine hK.out _ _ hHeld (fun _ => ?_)
        clear hK K
        refine norm_ (a' := ?_) ?_ ?_
        rotate_left
        ·show Act.put _ (some 32) _ = _
         simp only [Act.put, u9a, u9b, u9c, i64_w, i32_w]
         rfl
        refine one_ (i := 10) (N := some 38) #[true, true, true, true, true, true, true, true, true, true, true, true, false, false, false] rfl rfl (by kernel_rfl) (by decide) (fun K hK => ?_)
        refine event_step (W := W4) (v := .slice (some ⟨W4.heap.size, 0, none⟩) kind.size (grownCap W4 kind.size 0 5)) (w1 := Lib.bytesWorld W4 5 kind) (by rfl) (by first | (go_simp; done) | (go_simp; rfl)) ?_
        have hb := bytes_below (Below.refl _ _) (Nat.le_refl _) 5 kind (W := W4)
        replace HO := u9e (Kd.R_below HO.out hb)
        replace HBODY := u9e (Kd.R_below HBODY.out hb)
        replace hHeld := below_step hHeld hb
        have HS4 : Aside0 (Kd.C (Kd.int .u8) (Lib.bytesWorld W4 5 kind) (some ⟨W4.heap.size, 0, none⟩) kind.size (bytesOf kind) ∧ kind.size ≤ grownCap W4 kind.size 0 5) := ⟨⟨bytes_C _ 5 kind (by have := HKS.out; omega), grownCap_ge _ _ _ _⟩⟩
        have H5 : Aside0 (Kd.C (Kd.int .u8) (Lib.bytesWorld W4 5 kind) A32 4 (four n8) ∧ 4 ≤ c32) := ⟨⟨Kd.C_below H4.out.1 hb, H4.out.2⟩⟩
        clear hb
        generalize W4.heap.size = gk5 at HS4 ⊢
        generalize grownCap W4 kind.size 0 5 = ck5 at HS4 ⊢
        generalize Lib.bytesWorld W4 5 kind = V5 at hHeld HO HBODY HS4 H5 ⊢
        refine hK.out _ _ hHeld (fun _ => ?_)
        clear hK K
        refine norm_ (a' := ?_) ?_ ?_
        rotate_left
        ·show Act.put _ (some 38) _ = _
         simp only [Act.put, u9a, u9b, u9c, i64_w, i32_w]
         rfl
        exact norm_ (by (simp only [putAll, Act.put, u9a, u9b, u9c]); first | done | rfl) (hCont ((A32, c32), (some ⟨gk5, 0, none⟩, ck5)) _ ⟨hHeld, H5.out, HS4.out, HO.out, HBODY.out⟩)
       ·skip
        refine event_step (W := V) (v := .slice (some ⟨V.heap.size, 0, none⟩) kind.size (grownCap V kind.size 0 5)) (w1 := Lib.bytesWorld V 5 kind) (by rfl) (by first | (go_simp; done) | (go_simp; rfl)) ?_
        have hb := bytes_below (Below.refl _ _) (Nat.le_refl _) 5 kind (W := V)
        replace HO := u9e (Kd.R_below HO.out hb)
        replace HBODY := u9e (Kd.R_below HBODY.out hb)
        replace hHeld := below_step hHeld hb
        have HS4 : Aside0 (Kd.C (Kd.int .u8) (Lib.bytesWorld V 5 kind) (some ⟨V.heap.size, 0, none⟩) kind.size (bytesOf kind) ∧ kind.size ≤ grownCap V kind.size 0 5) := ⟨⟨bytes_C _ 5 kind (by have := HKS.out; omega), grownCap_ge _ _ _ _⟩⟩
        clear hb
        generalize V.heap.size = gk5 at HS4 ⊢
        generalize grownCap V kind.size 0 5 = ck5 at HS4 ⊢
        generalize Lib.bytesWorld V 5 kind = V5 at hHeld HO HBODY HS4 ⊢
        refine hK.out _ _ hHeld (fun _ => ?_)
        clear hK K
        refine norm_ (a' := ?_) ?_ ?_
        rotate_left
        ·show Act.put _ (some 38) _ = _
         simp only [Act.put, u9a, u9b, u9c, i64_w, i32_w]
         rfl
        refine one_ (i := 4) (N := some 32) #[true, true, true, true, true, true, true, true, true, true, true, true, false, false, false] rfl rfl (by kernel_rfl) (by decide) (fun K hK => ?_)
        refine goes_ Try.func54 (by kernel_rfl) rfl #[.int .i64 (wrap64 (8 + ((body.length : Nat) : Int)))] (by rfl) rfl rfl (by (try simp only [List.map_toArray, List.map_cons, List.map_nil]); first | done | rfl | simp) ?_
        rw [show (#[Value.int .i64 (wrap64 (8 + ((body.length : Nat) : Int)))] : Array Value) = #[Value.int .i64 n8] by rw [hw8]]
        refine (impl_fourBytes.calls n8 (four n8) _ rfl).mono ?_
        rintro e W4 ⟨v32, rfl, ho, hb⟩
        refine ⟨_, rfl, ?_⟩
        obtain ⟨A32, c32, e32⟩ := Kd.R_slice ho
        subst e32
        have hf := Kd.R_reads' ho
        have H4 : Aside0 (Kd.C (Kd.int .u8) W4 A32 4 (four n8) ∧ 4 ≤ c32) := ⟨⟨hf.2.2, hf.2.1⟩⟩
        replace HO := u9e (Kd.R_below HO.out hb)
        replace HBODY := u9e (Kd.R_below HBODY.out hb)
        replace hHeld := below_step hHeld hb
        have HS5 : Aside0 (Kd.C (Kd.int .u8) W4 (some ⟨gk5, 0, none⟩) kind.size (bytesOf kind) ∧ kind.size ≤ ck5) := ⟨⟨Kd.C_below HS4.out.1 hb, HS4.out.2⟩⟩
        clear ho hb hf
        refine hK.out _ _ hHeld (fun _ => ?_)
        clear hK K
        refine norm_ (a' := ?_) ?_ ?_
        rotate_left
        ·show Act.put _ (some 32) _ = _
         simp only [Act.put, u9a, u9b, u9c, i64_w, i32_w]
         rfl
        exact norm_ (by (simp only [putAll, Act.put, u9a, u9b, u9c]); first | done | rfl) (hCont ((A32, c32), (some ⟨gk5, 0, none⟩, ck5)) _ ⟨hHeld, H4.out, HS5.out, HO.out, HBODY.out⟩)
      clear HO HBODY hHeld
      rintro ⟨⟨A32, c32⟩, ⟨A38, c38⟩⟩ U6 ⟨hHeld, h4, h5, h6, h7⟩
      dsimp only at h4 h5 ⊢
      have H4 := u9e h4
      have H5 := u9e h5
      have HO := u9e h6
      have HBODY := u9e h7
      clear h4 h5 h6 h7
      refine norm_ (a' := ?_) ?_ ?_
      rotate_left
      ·simp only [putAll, Act.put, u9a, u9b, u9c]
       rfl
      refine one_ (i := 12) (N := some 40) #[true, true, true, true, true, true, true, true, true, true, true, true, true, false, false] rfl rfl (by kernel_rfl) (by decide) (fun K hK => ?_)
      refine lit_step (by rfl) rfl (vs := [.slice Ao out.length co, .slice A32 4 c32, .slice A38 kind.size c38, .slice A27 body.length c27]) (n := 4) (e := 29) (by first | (go_simp; done) | (go_simp; rfl)) ?_
      intro g40 W7 hbox hb
      have HROWS := u9e (rows_C (ls := [out, four n8, bytesOf kind, body]) hbox (by simp) (fun j l hl => by
       match j with
       | 0 =>
        obtain rfl : out = l := by simpa using hl
        have h := Kd.R_reads' (Kd.R_below HO.out hb)
        exact ⟨Ao, co, rfl, h.2.1, h.2.2⟩
       | 1 =>
        obtain rfl : four n8 = l := by simpa using hl
        exact ⟨A32, c32, rfl, H4.out.2, Kd.C_below H4.out.1 hb⟩
       | 2 =>
        obtain rfl : bytesOf kind = l := by simpa using hl
        rw [bytesOf_length]
        exact ⟨A38, c38, rfl, H5.out.2, Kd.C_below H5.out.1 hb⟩
       | 3 =>
        obtain rfl : body = l := by simpa using hl
        have h := Kd.R_reads' (Kd.R_below HBODY.out hb)
        exact ⟨A27, c27, rfl, h.2.1, h.2.2⟩
       | n + 4 => simp at hl))
      replace hHeld := below_step hHeld hb
      clear hb hbox HO HBODY H4 H5
      refine hK.out _ _ hHeld (fun _ => ?_)
      clear hK K
      refine norm_ (a' := ?_) ?_ ?_
      rotate_left
      ·show Act.put _ (some 40) _ = _
       simp only [Act.put, u9a, u9b, u9c, i64_w, i32_w]
       rfl
      refine one_ (i := 13) (N := some 41) #[true, true, true, true, true, true, true, true, true, true, true, true, true, true, false] rfl rfl (by kernel_rfl) (by decide) (fun K hK => ?_)
      refine goes_ Try.func53 (by kernel_rfl) rfl #[.slice (some ⟨g40, 0, none⟩) 4 4] (by rfl) rfl rfl (by (try simp only [List.map_toArray, List.map_cons, List.map_nil]); first | done | rfl | simp) ?_
      refine (slices_Concat.calls (some ⟨g40, 0, none⟩) 4 [out, four n8, bytesOf kind, body] _ HROWS.out (by simp) (by have := C5.out; rw [HKD.out] at this; have h2 := bytesOf_length kind; have h3 : (four n8).length = 4 := rfl; rw [show [out, four n8, bytesOf kind, body].flatten = out ++ (four n8 ++ (bytesOf kind ++ body)) by simp, List.length_append, List.length_append, List.length_append]; omega)).mono ?_
      rintro e W8 ⟨v41, rfl, ho, hb⟩
      refine ⟨_, rfl, ?_⟩
      have HO := u9e (Kd.R_lower ho hHeld.size)
      rw [show [out, four n8, bytesOf kind, body].flatten = out ++ (four n8 ++ (bytesOf kind ++ body)) by simp] at HO
      replace hHeld := below_step hHeld hb
      clear ho hb HROWS
      refine hK.out _ _ hHeld (fun _ => ?_)
      clear hK K
      refine norm_ (a' := ?_) ?_ ?_
      rotate_left
      ·show Act.put _ (some 41) _ = _
       simp only [Act.put, u9a, u9b, u9c, i64_w, i32_w]
       rfl
      refine pure_ (i := 14) (N := some 3) (v := ?_) (a' := ?_) #[true, true, true, true, true, true, true, true, true, true, true, true, true, true, true] rfl rfl (by kernel_rfl) (fun _ _ _ h => h) (Or.inl ⟨by rfl, ?_⟩) ?_ ?_
      rotate_left
      ·intro w'
       go_simp
       with_reducible rfl
      rotate_left
      ·simp only [Act.put, u9a, u9b, u9c, i64_w, i32_w]
       rfl
      refine done_ (by kernel_rfl) ?_
      have HB := u9e hHeld
      clear hHeld
      go_wp2
      go_roundg k1
      case measure => have := HK.out; omega
      case rel => exact ⟨out ++ (four n8 ++ (bytesOf kind ++ body)), en, rfl, ⟨by have h := H2.out; rw [HKD.out, HN8.out] at h; exact h⟩, ⟨by have := HK.out; omega⟩, HO, HB⟩
     ·rw [if_neg c5] at H
      exact absurd H (by simp)
    ·rw [if_neg c4] at H
     exact absurd H (by simp)
   ·rw [if_neg c3] at H
    have c3b : decide (at_ < l0.length) = false := decide_eq_false c3
    obtain rfl := Option.some.inj H
    clear H c3
    go_wp2
    go_ret
    exact ⟨_, rfl, HO.out, HB.out⟩
def impl_showBoxes.f (k : Nat) (l0 : List (S46)) : Option (List Int) := if l0.length ≤ 1000000 then shw k l0 [] 0 else none
theorem impl_showBoxes.mono : ∀ l0 k, LeO (impl_showBoxes.f k l0) (impl_showBoxes.f (k + 1) l0) := by
 intro l0 k
 unfold impl_showBoxes.f
 exact LeO.ite (shw.mono k l0 [] 0) (LeO.none _)
theorem impl_showBoxes.calls (k : Nat) (A0 : Option Addr) (c0 : Nat) (l0 : List (S46)) (r : List Int) (w : World) (hr0 : Kd.C k46 w A0 l0.length l0) (hc0 : l0.length ≤ c0) (h : impl_showBoxes.f k l0 = some r) :
  Calls Try.prog 43 #[.slice A0 l0.length c0] w fun e w' => ∃ v0_ : Value, e = .returned (v0_) ∧ Kd.R (Kd.int .u8) 5 w' w.heap.size (fun _ => True) v0_ r ∧ Below w.heap.size w w' := by
 unfold impl_showBoxes.f at h
 by_cases hl : l0.length ≤ 1000000
 ·rw [if_pos hl] at h
  exact showBoxes_shw k A0 c0 l0 r w hr0 hc0 hl h
 ·rw [if_neg hl] at h
  exact absurd h (by simp)


/-! ### impl_ShowBoxes: function 25 -/
def impl_ShowBoxes.f (k : Nat) (l0 : List (S46)) : Option (List Int) := (impl_BoxesOk.f k l0).bind fun t125 => (if t125 = true then ((impl_showBoxes.f k l0).bind fun t126 => (some t126)) else (some ([] : List Int)))
theorem impl_ShowBoxes.mono : ∀ a0 k, LeO (impl_ShowBoxes.f k a0) (impl_ShowBoxes.f (k + 1) a0) := by
 intro a0 k
 unfold impl_ShowBoxes.f
 repeat' first
   | (with_reducible exact impl_BoxesOk.mono _ _)
   | (with_reducible exact impl_showBoxes.mono _ _)
   | (with_reducible exact LeO.refl _)
   | (with_reducible exact LeO.none _)
   | (with_reducible refine LeO.ite ?_ ?_)
   | (with_reducible refine LeO.bind ?_ (fun _ => ?_))
   | exact impl_BoxesOk.mono _ _
   | exact impl_showBoxes.mono _ _
   | exact LeO.none _
   | refine LeO.ite ?_ ?_
   | refine LeO.bind ?_ (fun _ => ?_)
set_option maxHeartbeats 8000000 in
set_option maxRecDepth 100000 in
theorem impl_ShowBoxes.calls (k : Nat) (A0 : Option Addr) (c0 : Nat) (l0 : List (S46)) (r : List Int) (w : World) (hr0 : Kd.C k46 w A0 l0.length l0) (hc0 : l0.length ≤ c0) (h : impl_ShowBoxes.f k l0 = some r) :
  Calls Try.prog 25 #[.slice A0 l0.length c0] w fun e w' => ∃ v0_ : Value, e = .returned (v0_) ∧ Kd.R (Kd.int .u8) 5 w' w.heap.size (fun _ => True) v0_ r ∧ Below w.heap.size w w' := by
 have HR0 := u9e hr0
 have HC0 := u9e hc0
 clear hr0 hc0
 have HB := u9e (Below.refl w.heap.size w)
 have H : ((impl_BoxesOk.f k l0).bind fun t125 => (if t125 = true then ((impl_showBoxes.f k l0).bind fun t126 => (some t126)) else (some ([] : List Int)))) = some r := h
 clear h
 replace H := Option.bind_eq_some_iff.mp H
 obtain ⟨t125, A20, H⟩ := H
 have A2 := u9e A20
 clear A20
 by_cases c3 : t125 = true
 ·subst c3
  have H1 := H; rw [if_pos rfl] at H1
  clear H
  have H := H1
  clear H1
  replace H := Option.bind_eq_some_iff.mp H
  obtain ⟨t126, A40, H⟩ := H
  have A4 := u9e A40
  clear A40
  obtain rfl := Option.some.inj H
  go_enter Try.func25, Try.ntmps25
  go_wp2_with (first | ((with_reducible refine gate_callee (f := 12) rfl ?_); refine goesL_ (some 4) rfl rfl Try.func12 (by kernel_rfl) rfl #[.slice A0 l0.length c0] rfl (by (try simp only [List.map_toArray, List.map_cons, List.map_nil]); first | done | rfl | (simp only [List.length_drop, List.length_take]; rfl)) ?_; (with_reducible refine (impl_BoxesOk.calls k _ _ l0 true _ ?side1 ?side2 A2.out).mono ?_); (case side1 => repeat (first | exact HR0.out | (with_reducible refine Kd.C_alloc ?_ _) | (with_reducible refine Kd.C_drewN ?_ _) | (with_reducible refine Kd.C_drew ?_))); (case side2 => exact HC0.out); rintro e w5 ⟨rfl, hb⟩; refine ⟨_, rfl, ?_⟩; have n0_ := u9e (below_step (by repeat (first | (with_reducible first | exact HB.out | apply below_alloc | apply pw_below_drewN | apply below_drew1) | exact HB.out)) hb); clear HB; have HB := n0_; clear n0_; (try clear hb); (try clear hb2); (try clear hk); (try clear hi)) | ((with_reducible refine gate_callee (f := 43) rfl ?_); refine goesL_ (some 7) rfl rfl Try.func43 (by kernel_rfl) rfl #[.slice A0 l0.length c0] rfl (by (try simp only [List.map_toArray, List.map_cons, List.map_nil]); first | done | rfl | (simp only [List.length_drop, List.length_take]; rfl)) ?_; (with_reducible refine (impl_showBoxes.calls k _ _ l0 t126 _ ?side1 ?side2 A4.out).mono ?_); (case side1 => repeat (first | exact (Kd.C_below HR0.out HB.out) | (with_reducible refine Kd.C_alloc ?_ _) | (with_reducible refine Kd.C_drewN ?_ _) | (with_reducible refine Kd.C_drew ?_))); (case side2 => exact HC0.out); rintro e w6 ⟨v127, rfl, ho0, hb⟩; refine ⟨_, rfl, ?_⟩; have n0_ := u9e (Kd.R_lower ho0 (below_size (by repeat (first | (with_reducible first | exact HB.out | apply below_alloc | apply pw_below_drewN | apply below_drew1) | exact HB.out)))); have n1_ := u9e (below_step (by repeat (first | (with_reducible first | exact HB.out | apply below_alloc | apply pw_below_drewN | apply below_drew1) | exact HB.out)) hb); clear HB; have HO128 := n0_; have HB := n1_; clear n0_ n1_; (try clear hb); (try clear hb2); (try clear hk); (try clear hi); (try clear ho0)))
  go_ret
  exact ⟨_, by first | rfl | (simp [errW_none, errW_some] <;> rfl) | (simp [*, errW_none, errW_some] <;> rfl), by (with_reducible repeat (first | apply Kd.R_alloc | apply Kd.R_drewN | apply Kd.R_drew)); exact HO128.out, by repeat (first | (with_reducible first | exact HB.out | apply below_alloc | apply pw_below_drewN | apply below_drew1) | exact HB.out)⟩
 ·replace c3 := Bool.eq_false_iff.mpr c3
  subst c3
  have H1 := H; rw [if_neg (show ¬ (false = true) by decide)] at H1
  clear H
  have H := H1
  clear H1
  obtain rfl := Option.some.inj H
  go_enter Try.func25, Try.ntmps25
  go_wp2_with (first | ((with_reducible refine gate_callee (f := 12) rfl ?_); refine goesL_ (some 4) rfl rfl Try.func12 (by kernel_rfl) rfl #[.slice A0 l0.length c0] rfl (by (try simp only [List.map_toArray, List.map_cons, List.map_nil]); first | done | rfl | (simp only [List.length_drop, List.length_take]; rfl)) ?_; (with_reducible refine (impl_BoxesOk.calls k _ _ l0 false _ ?side1 ?side2 A2.out).mono ?_); (case side1 => repeat (first | exact HR0.out | (with_reducible refine Kd.C_alloc ?_ _) | (with_reducible refine Kd.C_drewN ?_ _) | (with_reducible refine Kd.C_drew ?_))); (case side2 => exact HC0.out); rintro e w7 ⟨rfl, hb⟩; refine ⟨_, rfl, ?_⟩; have n0_ := u9e (below_step (by repeat (first | (with_reducible first | exact HB.out | apply below_alloc | apply pw_below_drewN | apply below_drew1) | exact HB.out)) hb); clear HB; have HB := n0_; clear n0_; (try clear hb); (try clear hb2); (try clear hk); (try clear hi)))
  go_ret
  exact ⟨_, by first | rfl | (simp [errW_none, errW_some] <;> rfl) | (simp [*, errW_none, errW_some] <;> rfl), by first | exact Kd.R_nil _ _ _ _ _ | exact Kd.N_nil _ _ _ _ _ | exact Kd.V_nil _ _ _ _ _ | exact Kd.Q_nil _ _ _ _ _ | exact Kd.S_nil _ _ _ _ _, by repeat (first | (with_reducible first | exact HB.out | apply below_alloc | apply pw_below_drewN | apply below_drew1) | exact HB.out)⟩

/-! ### laws_big: function 27 -/
def laws_big.f (l0 : List Int) : Option (Bool) := some (decide ((l0.length : Int) > 4096))
set_option maxHeartbeats 8000000 in
set_option maxRecDepth 100000 in
theorem laws_big.calls (A0 : Option Addr) (c0 : Nat) (l0 : List Int) (r : Bool) (w : World) (hr0 : Kd.C (Kd.int .u8) w A0 l0.length l0) (hc0 : l0.length ≤ c0) (h : laws_big.f l0 = some r) :
  Calls Try.prog 27 #[.slice A0 l0.length c0] w fun e w' => e = .returned (.bool r) ∧ Drawn0 w w' := by
 have HR0 := u9e hr0
 have HC0 := u9e hc0
 clear hr0 hc0
 have H : (some (decide ((l0.length : Int) > 4096))) = some r := h
 clear h
 obtain rfl := Option.some.inj H
 go_enter Try.func27, Try.ntmps27
 go_wp2
 go_ret
 exact ⟨by first | rfl | (simp; done) | (simp [*]; done), by repeat (first | exact Drawn0.refl _ | apply Drawn0.step)⟩

end Go.Proofs.Ytpennfkjfeipcaa.PFnBoxesOne
