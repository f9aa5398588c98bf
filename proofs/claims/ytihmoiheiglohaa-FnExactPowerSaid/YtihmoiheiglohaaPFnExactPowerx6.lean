/- FnExactPower: the walks, floats told up to NaN. Written by wip/wave/gen_power.py. -/
import Derived.Test.YtihmoiheiglohaaPFnExactPowerx5
import Derived.Outline
import Derived.LoopN
import Derived.RegionTactic
import Derived.BigRegion
namespace Go.Proofs.Ytihmoiheiglohaa.PFnExactPower
open Go.RowKit Go.Proofs.Ytihmoiheiglohaa.PFnExactAgree Go.Proofs.YtihmoiheiglohaaW.PrintWords Go.Proofs.YtihmoiheiglohaaW.PrintLast Go.Proofs.YtihmoiheiglohaaW.PrintMore Go.Proofs.Ytihmoiheiglohaa.Fl Go.Proofs.Ytihmoiheiglohaa.PFnExactProduct
attribute [local go_sem] run_store_float
set_option linter.unusedVariables false
set_option linter.unusedSimpArgs false
attribute [local go_sem] max2_int min2_int max_two min_two max_three min_three max_four min_four
set_option maxHeartbeats 8000000 in
set_option maxRecDepth 100000 in
theorem spec_Power.calls (A : Option Addr) (cap : Nat) (xs : List (Nat × Nat)) (w : World) (hr : Aside0 (RC w A xs)) :
    Calls Try.prog 28 #[.slice A xs.length cap] w fun e w' => ∃ B c rs, e = .returned (.slice B rs.length c) ∧ Row w' w.heap.size B rs.length 22 rs ∧ SL rs (pws xs) ∧ Below w.heap.size w w' := by
  have hu46 := Try.underlying46
  have hu36 := Try.underlying36
  have hu25 := Try.underlying25
  have hu22 := Try.underlying22
  have HB := Aside0.mk (Below.refl w.heap.size w)
  go_enter Try.func28, Try.ntmps28
  go_wp2
  have HO : Aside0 ((w.alloc (.cells #[] 22)).ownsRow w.heap.size 22 1 (.slice (some ⟨w.heap.size, 0, none⟩) 0 0) 0 (VF [])) := ⟨by simpa [VF] using World.ownsRow_lit (base := w.heap.size) (e := 22) (size := 1) w #[] 0 (Nat.le_refl _) (by decide) rfl⟩
  replace HB : Aside0 (Below w.heap.size w (w.alloc (.cells #[] 22))) := ⟨below_alloc HB.out _⟩
  generalize w.alloc (.cells #[] 22) = w1 at HO HB ⊢
  go_loopg [3, 4] xs.length (fun kq v3 v4 w' => ∃ (i : Nat) (rs : List Nat), v4 = .int .i64 (i : Int) ∧ Aside0 (i + kq = xs.length ∧ rs.length = i) ∧ Aside0 (w'.ownsRow w.heap.size 22 1 v3 i (VF rs)) ∧ Aside0 (SL rs ((xs.map pw).take i)) ∧ Aside0 (0 < i → xs.length ≤ 4096) ∧ Aside0 (Below w.heap.size w w'))
  case atStart => exact ⟨0, [], rfl, ⟨by omega, rfl⟩, HO, ⟨rfl, fun _ => Same.rfl⟩, ⟨fun h => absurd h (by omega)⟩, HB⟩
  case round =>
    clear HB HO
    obtain ⟨i, rs, rfl, HK, HO, HS, H4, HB⟩ := hrel
    by_cases hi : i < xs.length
    · by_cases hl : xs.length ≤ 4096
      · obtain ⟨ad, ea, hc, hd⟩ := hr.out.below HB.out i hi
        have HT := Aside0.mk (take_snoc xs i hi)
        generalize xs.getD i (0, 0) = X at hc hd HT
        obtain ⟨X, Y⟩ := X
        have HI := Aside0.mk hi
        have HL := Aside0.mk hl
        have hl2 : decide ((xs.length : Int) ≤ (4096 : Int)) = true := decide_eq_true (by omega)
        have p0 : (0 ≤ (i : Int)) = True := eq_true (by omega)
        have p1 : ((i : Int) < (xs.length : Int)) = True := eq_true (by omega)
        have Hw : Aside0 (wrap64 ((i : Int) + 1) = ((i + 1 : Nat) : Int)) := ⟨by have := HL.out; unfold wrap64; omega⟩
        clear hi
        cases ea
        have HC := Aside0.mk hc
        have HD := Aside0.mk hd
        clear hc hd
        try go_wp2
        refine start_ (n := 12) (S := fun w' => w'.cell? (ad.add (i * 2)) = some (.float .f64 X) ∧ w'.cell? ⟨(ad.add (i * 2)).block, (ad.add (i * 2)).off + 1, none⟩ = some (.float .f64 Y) ∧ w'.ownsRow w.heap.size 22 1 u3 i (VF rs)) (ds := []) #[false, false, false, false, false, false, false, false, false, false, false, false] (by kernel_rfl) rfl rfl ⟨HC.out, HD.out, HO.out⟩ (fun hHeld => ?_)
        replace HB := Aside0.mk (below_drew1 HB.out)
        clear HC HD HO
        generalize World.drew _ = V at HB hHeld ⊢
        refine pure_ (i := 0) (N := some 19) (v := ?_) (a' := ?_) #[true, false, false, false, false, false, false, false, false, false, false, false] rfl rfl (by kernel_rfl) (fun _ _ _ h => h) (Or.inl ⟨by rfl, ?_⟩) ?_ ?_
        rotate_left
        · intro w'
          go_simp
          with_reducible rfl
        rotate_left
        · simp only [Act.put, List.setIfInBounds_toArray, List.set_cons_zero, List.set_cons_succ, i64_w, i32_w]
          rfl
        refine pure_ (i := 1) (N := some 20) (v := ?_) (a' := ?_) #[true, true, false, false, false, false, false, false, false, false, false, false] rfl rfl (by kernel_rfl) (fun _ _ _ h => h) (Or.inl ⟨by rfl, ?_⟩) ?_ ?_
        rotate_left
        · intro w'
          go_simp
          with_reducible rfl
        rotate_left
        · simp only [Act.put, List.setIfInBounds_toArray, List.set_cons_zero, List.set_cons_succ, i64_w, i32_w]
          rfl
        refine pure_ (i := 2) (N := some 21) (v := ?_) (a' := ?_) #[true, true, true, false, false, false, false, false, false, false, false, false] rfl rfl (by kernel_rfl) (fun _ _ _ h => h) (Or.inl ⟨by rfl, ?_⟩) ?_ ?_
        rotate_left
        · intro w'
          go_simp
          with_reducible rfl
        rotate_left
        · simp only [Act.put, List.setIfInBounds_toArray, List.set_cons_zero, List.set_cons_succ, i64_w, i32_w]
          rfl
        refine pure_ (i := 3) (N := some 22) (v := ?_) (a' := ?_) #[true, true, true, true, false, false, false, false, false, false, false, false] rfl rfl (by kernel_rfl) (fun _ _ _ h => h) (Or.inl ⟨by rfl, ?_⟩) ?_ ?_
        rotate_left
        · intro w'
          go_simp
          with_reducible rfl
        rotate_left
        · simp only [Act.put, List.setIfInBounds_toArray, List.set_cons_zero, List.set_cons_succ, i64_w, i32_w]
          rfl
        refine take_ (i := 4) (N := some 23) (v := ?_) (a' := ?_) #[true, true, true, true, true, false, false, false, false, false, false, false] rfl rfl (by kernel_rfl) (fun _ _ _ h => h) (Or.inl ⟨by rfl, ?_⟩) hHeld ?_ ?_
        rotate_left
        · rintro w' ⟨s0, s1, s2⟩
          go_simp
          with_reducible rfl
        rotate_left
        · simp only [Act.put, List.setIfInBounds_toArray, List.set_cons_zero, List.set_cons_succ, i64_w, i32_w]
          rfl
        refine pure_ (i := 5) (N := some 24) (v := ?_) (a' := ?_) #[true, true, true, true, true, true, false, false, false, false, false, false] rfl rfl (by kernel_rfl) (fun _ _ _ h => h) (Or.inl ⟨by rfl, ?_⟩) ?_ ?_
        rotate_left
        · intro w'
          go_simp
          with_reducible rfl
        rotate_left
        · simp only [Act.put, List.setIfInBounds_toArray, List.set_cons_zero, List.set_cons_succ, i64_w, i32_w]
          rfl
        refine pure_ (i := 6) (N := some 25) (v := ?_) (a' := ?_) #[true, true, true, true, true, true, true, false, false, false, false, false] rfl rfl (by kernel_rfl) (fun _ _ _ h => h) (Or.inl ⟨by rfl, ?_⟩) ?_ ?_
        rotate_left
        · intro w'
          go_simp
          with_reducible rfl
        rotate_left
        · simp only [Act.put, List.setIfInBounds_toArray, List.set_cons_zero, List.set_cons_succ, i64_w, i32_w]
          rfl
        refine pure_ (i := 7) (N := some 26) (v := ?_) (a' := ?_) #[true, true, true, true, true, true, true, true, false, false, false, false] rfl rfl (by kernel_rfl) (fun _ _ _ h => h) (Or.inl ⟨by rfl, ?_⟩) ?_ ?_
        rotate_left
        · intro w'
          go_simp
          with_reducible rfl
        rotate_left
        · simp only [Act.put, List.setIfInBounds_toArray, List.set_cons_zero, List.set_cons_succ, i64_w, i32_w]
          rfl
        refine pure_ (i := 8) (N := some 27) (v := ?_) (a' := ?_) #[true, true, true, true, true, true, true, true, true, false, false, false] rfl rfl (by kernel_rfl) (fun _ _ _ h => h) (Or.inl ⟨by rfl, ?_⟩) ?_ ?_
        rotate_left
        · intro w'
          go_simp
          with_reducible rfl
        rotate_left
        · simp only [Act.put, List.setIfInBounds_toArray, List.set_cons_zero, List.set_cons_succ, i64_w, i32_w]
          rfl
        refine take_ (i := 9) (N := some 28) (v := ?_) (a' := ?_) #[true, true, true, true, true, true, true, true, true, true, false, false] rfl rfl (by kernel_rfl) (fun _ _ _ h => h) (Or.inl ⟨by rfl, ?_⟩) hHeld ?_ ?_
        rotate_left
        · rintro w' ⟨s0, s1, s2⟩
          go_simp
          with_reducible rfl
        rotate_left
        · simp only [Act.put, List.setIfInBounds_toArray, List.set_cons_zero, List.set_cons_succ, i64_w, i32_w]
          rfl
        refine one_ (i := 10) (N := some 29) #[true, true, true, true, true, true, true, true, true, true, true, false] rfl rfl (by kernel_rfl) (by decide) (fun K hK => ?_)
        refine one_op (by rfl) .mul 22 _ _ 22 rfl rfl (Aside0.mk (Same.rfl (x := X))).out (Aside0.mk (Same.rfl (x := X))).out rfl rfl ?_
        intro r1 n1 hs1
        have hr1 := Aside0.mk hs1
        clear hs1
        replace HB := Aside0.mk (pw_below_drewN HB.out n1)
        refine hK.out _ _ hHeld (fun _ => ?_)
        clear hK K
        refine norm_ (a' := ?_) ?_ ?_
        rotate_left
        · show Act.put _ (some 29) _ = _
          simp only [Act.put, List.setIfInBounds_toArray, List.set_cons_zero, List.set_cons_succ, i64_w, i32_w]
          rfl
        refine pure_ (i := 11) (N := some 5) (v := ?_) (a' := ?_) #[true, true, true, true, true, true, true, true, true, true, true, true] rfl rfl (by kernel_rfl) (fun _ _ _ h => h) (Or.inl ⟨by rfl, ?_⟩) ?_ ?_
        rotate_left
        · intro w'
          go_simp
          with_reducible rfl
        rotate_left
        · simp only [Act.put, List.setIfInBounds_toArray, List.set_cons_zero, List.set_cons_succ, i64_w, i32_w]
          rfl
        refine done_ (by kernel_rfl) ?_
        have HC := Aside0.mk hHeld.1
        have HD := Aside0.mk hHeld.2.1
        have HO := Aside0.mk hHeld.2.2
        clear hHeld
        try go_wp2
        refine start_ (n := 12) (S := fun w' => w'.cell? (ad.add (i * 2)) = some (.float .f64 X) ∧ w'.cell? ⟨(ad.add (i * 2)).block, (ad.add (i * 2)).off + 1, none⟩ = some (.float .f64 Y) ∧ w'.ownsRow w.heap.size 22 1 u3 i (VF rs)) (ds := []) #[false, false, false, false, false, false, false, false, false, false, false, false] (by kernel_rfl) rfl rfl ⟨HC.out, HD.out, HO.out⟩ (fun hHeld => ?_)
        replace HB := Aside0.mk (below_drew1 HB.out)
        clear HC HD HO
        generalize World.drew _ = V2 at HB hHeld ⊢
        refine pure_ (i := 0) (N := some 30) (v := ?_) (a' := ?_) #[true, false, false, false, false, false, false, false, false, false, false, false] rfl rfl (by kernel_rfl) (fun _ _ _ h => h) (Or.inl ⟨by rfl, ?_⟩) ?_ ?_
        rotate_left
        · intro w'
          go_simp
          with_reducible rfl
        rotate_left
        · simp only [Act.put, List.setIfInBounds_toArray, List.set_cons_zero, List.set_cons_succ, i64_w, i32_w]
          rfl
        refine pure_ (i := 1) (N := some 31) (v := ?_) (a' := ?_) #[true, true, false, false, false, false, false, false, false, false, false, false] rfl rfl (by kernel_rfl) (fun _ _ _ h => h) (Or.inl ⟨by rfl, ?_⟩) ?_ ?_
        rotate_left
        · intro w'
          go_simp
          with_reducible rfl
        rotate_left
        · simp only [Act.put, List.setIfInBounds_toArray, List.set_cons_zero, List.set_cons_succ, i64_w, i32_w]
          rfl
        refine pure_ (i := 2) (N := some 32) (v := ?_) (a' := ?_) #[true, true, true, false, false, false, false, false, false, false, false, false] rfl rfl (by kernel_rfl) (fun _ _ _ h => h) (Or.inl ⟨by rfl, ?_⟩) ?_ ?_
        rotate_left
        · intro w'
          go_simp
          with_reducible rfl
        rotate_left
        · simp only [Act.put, List.setIfInBounds_toArray, List.set_cons_zero, List.set_cons_succ, i64_w, i32_w]
          rfl
        refine pure_ (i := 3) (N := some 33) (v := ?_) (a' := ?_) #[true, true, true, true, false, false, false, false, false, false, false, false] rfl rfl (by kernel_rfl) (fun _ _ _ h => h) (Or.inl ⟨by rfl, ?_⟩) ?_ ?_
        rotate_left
        · intro w'
          go_simp
          with_reducible rfl
        rotate_left
        · simp only [Act.put, List.setIfInBounds_toArray, List.set_cons_zero, List.set_cons_succ, i64_w, i32_w]
          rfl
        refine take_ (i := 4) (N := some 34) (v := ?_) (a' := ?_) #[true, true, true, true, true, false, false, false, false, false, false, false] rfl rfl (by kernel_rfl) (fun _ _ _ h => h) (Or.inl ⟨by rfl, ?_⟩) hHeld ?_ ?_
        rotate_left
        · rintro w' ⟨s0, s1, s2⟩
          go_simp
          with_reducible rfl
        rotate_left
        · simp only [Act.put, List.setIfInBounds_toArray, List.set_cons_zero, List.set_cons_succ, i64_w, i32_w]
          rfl
        refine pure_ (i := 5) (N := some 35) (v := ?_) (a' := ?_) #[true, true, true, true, true, true, false, false, false, false, false, false] rfl rfl (by kernel_rfl) (fun _ _ _ h => h) (Or.inl ⟨by rfl, ?_⟩) ?_ ?_
        rotate_left
        · intro w'
          go_simp
          with_reducible rfl
        rotate_left
        · simp only [Act.put, List.setIfInBounds_toArray, List.set_cons_zero, List.set_cons_succ, i64_w, i32_w]
          rfl
        refine pure_ (i := 6) (N := some 36) (v := ?_) (a' := ?_) #[true, true, true, true, true, true, true, false, false, false, false, false] rfl rfl (by kernel_rfl) (fun _ _ _ h => h) (Or.inl ⟨by rfl, ?_⟩) ?_ ?_
        rotate_left
        · intro w'
          go_simp
          with_reducible rfl
        rotate_left
        · simp only [Act.put, List.setIfInBounds_toArray, List.set_cons_zero, List.set_cons_succ, i64_w, i32_w]
          rfl
        refine pure_ (i := 7) (N := some 37) (v := ?_) (a' := ?_) #[true, true, true, true, true, true, true, true, false, false, false, false] rfl rfl (by kernel_rfl) (fun _ _ _ h => h) (Or.inl ⟨by rfl, ?_⟩) ?_ ?_
        rotate_left
        · intro w'
          go_simp
          with_reducible rfl
        rotate_left
        · simp only [Act.put, List.setIfInBounds_toArray, List.set_cons_zero, List.set_cons_succ, i64_w, i32_w]
          rfl
        refine pure_ (i := 8) (N := some 38) (v := ?_) (a' := ?_) #[true, true, true, true, true, true, true, true, true, false, false, false] rfl rfl (by kernel_rfl) (fun _ _ _ h => h) (Or.inl ⟨by rfl, ?_⟩) ?_ ?_
        rotate_left
        · intro w'
          go_simp
          with_reducible rfl
        rotate_left
        · simp only [Act.put, List.setIfInBounds_toArray, List.set_cons_zero, List.set_cons_succ, i64_w, i32_w]
          rfl
        refine take_ (i := 9) (N := some 39) (v := ?_) (a' := ?_) #[true, true, true, true, true, true, true, true, true, true, false, false] rfl rfl (by kernel_rfl) (fun _ _ _ h => h) (Or.inl ⟨by rfl, ?_⟩) hHeld ?_ ?_
        rotate_left
        · rintro w' ⟨s0, s1, s2⟩
          go_simp
          with_reducible rfl
        rotate_left
        · simp only [Act.put, List.setIfInBounds_toArray, List.set_cons_zero, List.set_cons_succ, i64_w, i32_w]
          rfl
        refine one_ (i := 10) (N := some 40) #[true, true, true, true, true, true, true, true, true, true, true, false] rfl rfl (by kernel_rfl) (by decide) (fun K hK => ?_)
        refine one_op (by rfl) .mul 22 _ _ 22 rfl rfl (Aside0.mk (Same.rfl (x := Y))).out (Aside0.mk (Same.rfl (x := Y))).out rfl rfl ?_
        intro r2 n2 hs2
        have hr2 := Aside0.mk hs2
        clear hs2
        replace HB := Aside0.mk (pw_below_drewN HB.out n2)
        refine hK.out _ _ hHeld (fun _ => ?_)
        clear hK K
        refine norm_ (a' := ?_) ?_ ?_
        rotate_left
        · show Act.put _ (some 40) _ = _
          simp only [Act.put, List.setIfInBounds_toArray, List.set_cons_zero, List.set_cons_succ, i64_w, i32_w]
          rfl
        refine pure_ (i := 11) (N := some 6) (v := ?_) (a' := ?_) #[true, true, true, true, true, true, true, true, true, true, true, true] rfl rfl (by kernel_rfl) (fun _ _ _ h => h) (Or.inl ⟨by rfl, ?_⟩) ?_ ?_
        rotate_left
        · intro w'
          go_simp
          with_reducible rfl
        rotate_left
        · simp only [Act.put, List.setIfInBounds_toArray, List.set_cons_zero, List.set_cons_succ, i64_w, i32_w]
          rfl
        refine done_ (by kernel_rfl) ?_
        have HO := Aside0.mk hHeld.2.2
        clear hHeld
        go_wp2_with (first | ((with_reducible refine gate_ (.binOp .add 22 (.tmp 42) (.tmp 43) 22) rfl ?_); refine step_op rfl .add 22 _ _ 22 rfl rfl hr1.out hr2.out rfl rfl ?_; intro r3 n3 hs3; have hr3 := Aside0.mk hs3; clear hs3) | ((with_reducible refine gate_dst (N := 46) rfl ?_); at_builtin; refine print_append (w0 := w) w.heap.size rfl (.tmp 41) (.tmp 45) 36 22 (.float .f64 0) 8 (by rfl) Try.underlying36 (by kernel_rfl) rfl (by decide) u3 (VF rs) (.float .f64 r3) (by rfl) (by first | rfl | (refine Eq.trans (b := Value.slice (some ⟨wr.heap.size + 1, 0, none⟩) 1 1) rfl ?_; simp)) (by rfl) ?h1 ?h2 ?h3 ?h4 ?_; (case h1 => (rw [show (VF rs).length = i by simp [VF, HK.out.2]]; exact HO.out)); (case h2 => exact (by first | exact pw_below_drewN HB.out _ | (rw [← World.drewN_drewN]; exact pw_below_drewN HB.out _))); (case h3 => exact (by first | exact below_size HB.out | exact below_size (pw_below_drewN HB.out _) | (rw [← World.drewN_drewN]; exact below_size (pw_below_drewN HB.out _)))); (case h4 => (rw [show (VF rs).length = i by simp [VF, HK.out.2]]; have := HL.out; have := HI.out; omega)); intro v1 w2 ho hbel hgr hat; have HO2 := Aside0.mk ho; have HB2 := Aside0.mk hbel; clear hgr hat ho hbel))
        go_roundg (gk - 1)
        case measure => have := HK.out; have := HI.out; omega
        case rel => exact ⟨i + 1, rs ++ [r3], by first | rfl | rw [Hw.out], ⟨by have := HK.out; have := HI.out; omega, by rw [List.length_append, HK.out.2]; rfl⟩, ⟨by have h := HO2.out; rw [show (VF rs ++ [Value.float .f64 r3]).length = i + 1 by simp [VF, HK.out.2]] at h; simpa [VF] using h⟩, ⟨by rw [HT.out]; exact HS.out.snoc hr3.out⟩, ⟨fun _ => HL.out⟩, HB2⟩
      · have hl2 : decide ((xs.length : Int) ≤ (4096 : Int)) = false := decide_eq_false (by omega)
        have i0 : i = 0 := by
          by_cases e : i = 0
          · exact e
          · exact absurd (H4.out (by omega)) hl
        have HF : Aside0 (∃ B c, u3 = .slice B 0 c ∧ Row wr w.heap.size B 0 22 rs ∧ rs.length = 0 ∧ SL rs (pws xs)) := ⟨by
          have h := HO.out
          rw [i0] at h
          obtain ⟨B, c, h1, h2⟩ := Row.of_own h
          obtain rfl : rs = [] := List.eq_nil_of_length_eq_zero (by rw [HK.out.2, i0])
          exact ⟨B, c, h1, h2, rfl, by rw [show pws xs = [] from if_neg hl]; exact ⟨rfl, fun _ => Same.rfl⟩⟩⟩
        clear i0 hl HK HO HS
        obtain ⟨B, c, rfl, h2⟩ := HF.out
        clear HF
        have HF := Aside0.mk h2
        clear h2
        go_wp2
        go_ret
        exact ⟨B, c, rs, by rw [HF.out.2.1] <;> rfl, by rw [HF.out.2.1]; exact HF.out.1, HF.out.2.2, HB.out⟩
    · have e : i = xs.length := by have := HK.out; omega
      have HF : Aside0 (∃ B c, u3 = .slice B xs.length c ∧ Row wr w.heap.size B xs.length 22 rs ∧ rs.length = xs.length ∧ SL rs (pws xs)) := ⟨by
        have hl : xs.length ≤ 4096 := by
          by_cases e0 : 0 < i
          · exact H4.out e0
          · omega
        rw [← e, show pws xs = (xs.map pw).take i by rw [pws, if_pos hl, List.take_of_length_le (by simp; omega)]]
        obtain ⟨B, c, h1, h2⟩ := Row.of_own HO.out
        exact ⟨B, c, h1, h2, HK.out.2, HS.out⟩⟩
      clear e HK HO HS
      obtain ⟨B, c, rfl, h2⟩ := HF.out
      clear HF
      have HF := Aside0.mk h2
      clear h2
      go_wp2
      go_ret
      exact ⟨B, c, rs, by rw [HF.out.2.1] <;> rfl, by rw [HF.out.2.1]; exact HF.out.1, HF.out.2.2, HB.out⟩
end Go.Proofs.Ytihmoiheiglohaa.PFnExactPower
