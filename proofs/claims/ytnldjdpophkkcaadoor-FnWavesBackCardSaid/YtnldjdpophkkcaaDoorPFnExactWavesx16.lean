/- FnExactWaves, FnExactBack, FnWavesBack: walks, floats told up to NaN. Written by wip/barred/gen_turned.py. -/
import Derived.Test.YtnldjdpophkkcaaDoorPFnExactWavesx15
import Derived.Outline
import Derived.LoopN
import Derived.RegionTactic
import Derived.BigRegion
namespace Go.Proofs.YtnldjdpophkkcaaDoor.PFnExactWaves
open Go.RowKit Go.Proofs.YtnldjdpophkkcaaDoorW.PrintWords Go.Proofs.YtnldjdpophkkcaaDoorW.PrintLast Go.Proofs.YtnldjdpophkkcaaDoorW.PrintMore Go.Proofs.YtnldjdpophkkcaaDoor.Fl
attribute [local go_sem] run_store_float
set_option linter.unusedVariables false
set_option linter.unusedSimpArgs false
attribute [local go_sem] max2_int min2_int max_two min_two max_three min_three max_four min_four
set_option maxHeartbeats 8000000 in
set_option maxRecDepth 100000 in
theorem impl_Back.calls (A : Option Addr) (cap : Nat) (xs : List (Nat × Nat)) (w : World) (hr : Aside0 (RC w A xs)) (hm : Aside0 (Mx w)) :
    Calls Tryd.prog 9 #[.slice A xs.length cap] w fun e w' => ∃ B c zs, e = .returned (.slice B zs.length c) ∧ Row w' w.heap.size B zs.length 28 (flat zs) ∧ SP zs (wvs true xs) ∧ Below w.heap.size w w' := by
  have hu2 := Tryd.underlying2
  have hu3 := Tryd.underlying3
  have hu25 := Tryd.underlying25
  have hu26 := Tryd.underlying26
  have hu28 := Tryd.underlying28
  have hu30 := Tryd.underlying30
  have hu42 := Tryd.underlying42
  go_enter Tryd.func9, Tryd.ntmps9
  go_wp2_with (first | ((with_reducible refine gate_dst (N := 7) rfl ?_); refine goesL_ (some 7) rfl rfl Tryd.func17 (by kernel_rfl) rfl #[.slice A xs.length cap, .bool true] rfl (by (try simp only [List.map_toArray, List.map_cons, List.map_nil]); first | done | rfl) ?_; (with_reducible refine (impl_turned.calls A cap true xs _ hr hm).mono ?_); rintro e W1 ⟨B, c, zs, rfl, hR, hs, hb⟩; refine ⟨_, rfl, ?_⟩; have HR := Aside0.mk (And.intro hR (And.intro hs hb)); clear hR hs hb))
  generalize hN : zs.length = n at HR ⊢
  have HN := Aside0.mk hN
  clear hN
  go_loopg [13] n (fun kq v13 w' => ∃ (i : Nat) (ys : List (Nat × Nat)), v13 = .int .i64 (i : Int) ∧ Aside0 (i + kq = n) ∧ Aside0 (DV xs.length i ys (trn true xs)) ∧ Aside0 (Row w' w.heap.size B n 28 (flat ys)) ∧ Aside0 (Below w.heap.size w w'))
  case atStart => exact ⟨0, zs, rfl, ⟨by omega⟩, ⟨DV.zero HR.out.2.1⟩, ⟨HR.out.1⟩, ⟨HR.out.2.2⟩⟩
  case round =>
    have HTL : Aside0 ((trn true xs).length = n ∧ n ≤ 8) := ⟨by
      have h1 := HR.out.2.1.len
      have h2 := HN.out
      have h3 := trn_length_le true xs
      omega⟩
    clear HR HN
    obtain ⟨i, ys, rfl, HK, HD, HRW, HB⟩ := hrel
    by_cases hi : i < n
    case neg =>
      have hlt : decide (i < n) = false := decide_eq_false hi
      have e : i = n := by have := HK.out; omega
      have HF : Aside0 (ys.length = n ∧ SP ys (wvs true xs)) := ⟨by
        have h := HD.out
        rw [e, ← HTL.out.1] at h
        exact ⟨by rw [h.1, HTL.out.1], by rw [wvs_dv]; exact h.full⟩⟩
      clear e HD HK hi
      go_wp2
      go_ret
      exact ⟨B, c, ys, by rw [HF.out.1] <;> rfl, by rw [HF.out.1]; exact HRW.out, HF.out.2, HB.out⟩
    have HI := Aside0.mk hi
    obtain ⟨g, rfl, hg, hO⟩ := HRW.out.resolve_left (by omega)
    have HGG := Aside0.mk hg
    have HOB := Aside0.mk hO
    have HYL : Aside0 (ys.length = n) := ⟨by rw [HD.out.1, HTL.out.1]⟩
    have hc : wr.cell? ⟨g, i * 2, none⟩ = some (.float .f64 (ys.getD i (0, 0)).1) := by rw [← flat_fst]; exact hO.cell (i * 2) (by rw [flat_length, HYL.out]; omega)
    have hd : wr.cell? ⟨g, i * 2 + 1, none⟩ = some (.float .f64 (ys.getD i (0, 0)).2) := by rw [← flat_snd]; exact hO.cell (i * 2 + 1) (by rw [flat_length, HYL.out]; omega)
    have HSX := Aside0.mk (HD.out.at_ (by rw [HTL.out.1]; exact hi))
    clear hg hO HRW
    generalize ys.getD i (0, 0) = X at hc hd HSX
    obtain ⟨X, Y⟩ := X
    have q1 := Aside0.mk HSX.out.1
    have q2 := Aside0.mk HSX.out.2
    have Hwi : Aside0 (wrap64 ((i : Int) + 1) = ((i + 1 : Nat) : Int)) := ⟨by have := HTL.out; unfold wrap64; omega⟩
    have p0 : (0 ≤ (i : Int)) = True := eq_true (by omega)
    have p1 : ((i : Int) < (n : Int)) = True := eq_true (by omega)
    have hlt : decide (i < n) = true := decide_eq_true hi
    clear hi
    go_upto_region 6 with (fail)
    refine start_ (n := 19) (S := fun w' => w'.cell? ⟨g, i * 2, none⟩ = some (.float .f64 X) ∧ w'.cell? ⟨g, i * 2 + 1, none⟩ = some (.float .f64 Y) ∧ Below wr.heap.size wr w') (ds := [18]) #[false, false, false, false, false, false, false, false, false, false, false, false, false, false, false, false, false, false, false] (by kernel_rfl) rfl rfl ⟨hc, hd, below_drew1 (Below.refl _ _)⟩ (fun hHeld => ?_)
    clear hc hd
    generalize World.drew _ = V2 at hHeld ⊢
    refine pure_ (i := 0) (N := some 16) (v := ?_) (a' := ?_) #[true, false, false, false, false, false, false, false, false, false, false, false, false, false, false, false, false, false, false] rfl rfl (by kernel_rfl) (fun _ _ _ h => h) (Or.inl ⟨by rfl, ?_⟩) ?_ ?_
    rotate_left
    · intro w'
      go_simp
      with_reducible rfl
    rotate_left
    · simp only [Act.put, List.setIfInBounds_toArray, List.set_cons_zero, List.set_cons_succ, i64_w, i32_w]
      rfl
    refine pure_ (i := 1) (N := some 17) (v := ?_) (a' := ?_) #[true, true, false, false, false, false, false, false, false, false, false, false, false, false, false, false, false, false, false] rfl rfl (by kernel_rfl) (fun _ _ _ h => h) (Or.inl ⟨by rfl, ?_⟩) ?_ ?_
    rotate_left
    · intro w'
      go_simp
      with_reducible rfl
    rotate_left
    · simp only [Act.put, List.setIfInBounds_toArray, List.set_cons_zero, List.set_cons_succ, i64_w, i32_w]
      rfl
    refine pure_ (i := 2) (N := some 18) (v := ?_) (a' := ?_) #[true, true, true, false, false, false, false, false, false, false, false, false, false, false, false, false, false, false, false] rfl rfl (by kernel_rfl) (fun _ _ _ h => h) (Or.inl ⟨by rfl, ?_⟩) ?_ ?_
    rotate_left
    · intro w'
      go_simp
      with_reducible rfl
    rotate_left
    · simp only [Act.put, List.setIfInBounds_toArray, List.set_cons_zero, List.set_cons_succ, i64_w, i32_w]
      rfl
    refine pure_ (i := 3) (N := some 19) (v := ?_) (a' := ?_) #[true, true, true, true, false, false, false, false, false, false, false, false, false, false, false, false, false, false, false] rfl rfl (by kernel_rfl) (fun _ _ _ h => h) (Or.inl ⟨by rfl, ?_⟩) ?_ ?_
    rotate_left
    · intro w'
      go_simp
      with_reducible rfl
    rotate_left
    · simp only [Act.put, List.setIfInBounds_toArray, List.set_cons_zero, List.set_cons_succ, i64_w, i32_w]
      rfl
    refine pure_ (i := 4) (N := some 20) (v := ?_) (a' := ?_) #[true, true, true, true, true, false, false, false, false, false, false, false, false, false, false, false, false, false, false] rfl rfl (by kernel_rfl) (fun _ _ _ h => h) (Or.inl ⟨by rfl, ?_⟩) ?_ ?_
    rotate_left
    · intro w'
      go_simp
      with_reducible rfl
    rotate_left
    · simp only [Act.put, List.setIfInBounds_toArray, List.set_cons_zero, List.set_cons_succ, i64_w, i32_w]
      rfl
    refine pure_ (i := 5) (N := some 21) (v := ?_) (a' := ?_) #[true, true, true, true, true, true, false, false, false, false, false, false, false, false, false, false, false, false, false] rfl rfl (by kernel_rfl) (fun _ _ _ h => h) (Or.inl ⟨by rfl, ?_⟩) ?_ ?_
    rotate_left
    · intro w'
      go_simp
      with_reducible rfl
    rotate_left
    · simp only [Act.put, List.setIfInBounds_toArray, List.set_cons_zero, List.set_cons_succ, i64_w, i32_w]
      rfl
    refine take_ (i := 6) (N := some 22) (v := ?_) (a' := ?_) #[true, true, true, true, true, true, true, false, false, false, false, false, false, false, false, false, false, false, false] rfl rfl (by kernel_rfl) (fun _ _ _ h => h) (Or.inl ⟨by rfl, ?_⟩) hHeld ?_ ?_
    rotate_left
    · rintro w' ⟨s0, s1, s2⟩
      go_simp
      with_reducible rfl
    rotate_left
    · simp only [Act.put, List.setIfInBounds_toArray, List.set_cons_zero, List.set_cons_succ, i64_w, i32_w]
      rfl
    refine pure_ (i := 7) (N := some 23) (v := ?_) (a' := ?_) #[true, true, true, true, true, true, true, true, false, false, false, false, false, false, false, false, false, false, false] rfl rfl (by kernel_rfl) (fun _ _ _ h => h) (Or.inl ⟨by rfl, ?_⟩) ?_ ?_
    rotate_left
    · intro w'
      go_simp
      with_reducible rfl
    rotate_left
    · simp only [Act.put, List.setIfInBounds_toArray, List.set_cons_zero, List.set_cons_succ, i64_w, i32_w]
      rfl
    refine pure_ (i := 9) (N := some 25) (v := ?_) (a' := ?_) #[true, true, true, true, true, true, true, true, false, true, false, false, false, false, false, false, false, false, false] rfl rfl (by kernel_rfl) (fun _ _ _ h => h) (Or.inl ⟨by rfl, ?_⟩) ?_ ?_
    rotate_left
    · intro w'
      go_simp
      with_reducible rfl
    rotate_left
    · simp only [Act.put, List.setIfInBounds_toArray, List.set_cons_zero, List.set_cons_succ, i64_w, i32_w]
      rfl
    refine pure_ (i := 10) (N := some 26) (v := ?_) (a' := ?_) #[true, true, true, true, true, true, true, true, false, true, true, false, false, false, false, false, false, false, false] rfl rfl (by kernel_rfl) (fun _ _ _ h => h) (Or.inl ⟨by rfl, ?_⟩) ?_ ?_
    rotate_left
    · intro w'
      go_simp
      with_reducible rfl
    rotate_left
    · simp only [Act.put, List.setIfInBounds_toArray, List.set_cons_zero, List.set_cons_succ, i64_w, i32_w]
      rfl
    refine pure_ (i := 11) (N := some 27) (v := ?_) (a' := ?_) #[true, true, true, true, true, true, true, true, false, true, true, true, false, false, false, false, false, false, false] rfl rfl (by kernel_rfl) (fun _ _ _ h => h) (Or.inl ⟨by rfl, ?_⟩) ?_ ?_
    rotate_left
    · intro w'
      go_simp
      with_reducible rfl
    rotate_left
    · simp only [Act.put, List.setIfInBounds_toArray, List.set_cons_zero, List.set_cons_succ, i64_w, i32_w]
      rfl
    refine pure_ (i := 12) (N := some 28) (v := ?_) (a' := ?_) #[true, true, true, true, true, true, true, true, false, true, true, true, true, false, false, false, false, false, false] rfl rfl (by kernel_rfl) (fun _ _ _ h => h) (Or.inl ⟨by rfl, ?_⟩) ?_ ?_
    rotate_left
    · intro w'
      go_simp
      with_reducible rfl
    rotate_left
    · simp only [Act.put, List.setIfInBounds_toArray, List.set_cons_zero, List.set_cons_succ, i64_w, i32_w]
      rfl
    refine take_ (i := 13) (N := some 29) (v := ?_) (a' := ?_) #[true, true, true, true, true, true, true, true, false, true, true, true, true, true, false, false, false, false, false] rfl rfl (by kernel_rfl) (fun _ _ _ h => h) (Or.inl ⟨by rfl, ?_⟩) hHeld ?_ ?_
    rotate_left
    · rintro w' ⟨s0, s1, s2⟩
      go_simp
      with_reducible rfl
    rotate_left
    · simp only [Act.put, List.setIfInBounds_toArray, List.set_cons_zero, List.set_cons_succ, i64_w, i32_w]
      rfl
    refine pure_ (i := 14) (N := some 30) (v := ?_) (a' := ?_) #[true, true, true, true, true, true, true, true, false, true, true, true, true, true, true, false, false, false, false] rfl rfl (by kernel_rfl) (fun _ _ _ h => h) (Or.inl ⟨by rfl, ?_⟩) ?_ ?_
    rotate_left
    · intro w'
      go_simp
      with_reducible rfl
    rotate_left
    · simp only [Act.put, List.setIfInBounds_toArray, List.set_cons_zero, List.set_cons_succ, i64_w, i32_w]
      rfl
    refine join_ (σ := Nat × Nat) 3 #[true, true, true, true, true, true, true, true, true, true, true, true, true, true, true, true, false, false, false] (fun s_ => [(24, .float .f64 s_.1), (31, .float .f64 s_.2)]) (fun s_ w' => Below wr.heap.size wr w' ∧ S2 (s_.1, s_.2) (dv xs.length ((trn true xs).getD i (0, 0)))) ?_ ?_
    rotate_left
    · intro hCont
      refine two_ (i := 8) (j := 15) (Ni := some 24) (Nj := some 31) #[true, true, true, true, true, true, true, true, true, true, true, true, true, true, true, false, false, false, false] #[true, true, true, true, true, true, true, true, false, true, true, true, true, true, true, true, false, false, false] rfl rfl rfl rfl (by kernel_rfl) (by decide) (by decide) (fun K hK => ?_) (fun K hK => ?_)
      · skip
        refine one_op (by rfl) .quo 26 _ _ 26 rfl rfl q1.out (Same.rfl (x := floatOfInt .f64 (xs.length : Int))) rfl rfl ?_
        intro r1 n1 hs1
        replace hHeld := And.intro hHeld.1 (And.intro hHeld.2.1 (pw_below_drewN hHeld.2.2 n1))
        refine hK.out _ _ hHeld (fun _ => ?_)
        clear hK K
        refine norm_ (a' := ?_) ?_ ?_
        rotate_left
        · show Act.put _ (some 24) _ = _
          simp only [Act.put, List.setIfInBounds_toArray, List.set_cons_zero, List.set_cons_succ, i64_w, i32_w]
          rfl
        refine one_ (i := 15) (N := some 31) #[true, true, true, true, true, true, true, true, true, true, true, true, true, true, true, true, false, false, false] rfl rfl (by kernel_rfl) (by decide) (fun K hK => ?_)
        refine one_op (by rfl) .quo 26 _ _ 26 rfl rfl q2.out (Same.rfl (x := floatOfInt .f64 (xs.length : Int))) rfl rfl ?_
        intro r2 n2 hs2
        replace hHeld := And.intro hHeld.1 (And.intro hHeld.2.1 (pw_below_drewN hHeld.2.2 n2))
        refine hK.out _ _ hHeld (fun _ => ?_)
        clear hK K
        refine norm_ (a' := ?_) ?_ ?_
        rotate_left
        · show Act.put _ (some 31) _ = _
          simp only [Act.put, List.setIfInBounds_toArray, List.set_cons_zero, List.set_cons_succ, i64_w, i32_w]
          rfl
        exact norm_ (by simp only [putAll, Act.put, List.setIfInBounds_toArray, List.set_cons_zero, List.set_cons_succ]) (hCont (r1, r2) _ ⟨hHeld.2.2, ⟨hs1, hs2⟩⟩)
      · skip
        refine one_op (by rfl) .quo 26 _ _ 26 rfl rfl q2.out (Same.rfl (x := floatOfInt .f64 (xs.length : Int))) rfl rfl ?_
        intro r2 n2 hs2
        replace hHeld := And.intro hHeld.1 (And.intro hHeld.2.1 (pw_below_drewN hHeld.2.2 n2))
        refine hK.out _ _ hHeld (fun _ => ?_)
        clear hK K
        refine norm_ (a' := ?_) ?_ ?_
        rotate_left
        · show Act.put _ (some 31) _ = _
          simp only [Act.put, List.setIfInBounds_toArray, List.set_cons_zero, List.set_cons_succ, i64_w, i32_w]
          rfl
        refine one_ (i := 8) (N := some 24) #[true, true, true, true, true, true, true, true, true, true, true, true, true, true, true, true, false, false, false] rfl rfl (by kernel_rfl) (by decide) (fun K hK => ?_)
        refine one_op (by rfl) .quo 26 _ _ 26 rfl rfl q1.out (Same.rfl (x := floatOfInt .f64 (xs.length : Int))) rfl rfl ?_
        intro r1 n1 hs1
        replace hHeld := And.intro hHeld.1 (And.intro hHeld.2.1 (pw_below_drewN hHeld.2.2 n1))
        refine hK.out _ _ hHeld (fun _ => ?_)
        clear hK K
        refine norm_ (a' := ?_) ?_ ?_
        rotate_left
        · show Act.put _ (some 24) _ = _
          simp only [Act.put, List.setIfInBounds_toArray, List.set_cons_zero, List.set_cons_succ, i64_w, i32_w]
          rfl
        exact norm_ (by simp only [putAll, Act.put, List.setIfInBounds_toArray, List.set_cons_zero, List.set_cons_succ]) (hCont (r1, r2) _ ⟨hHeld.2.2, ⟨hs1, hs2⟩⟩)
    rintro ⟨r1, r2⟩ W9 ⟨hB9, hs2⟩
    clear hHeld
    have HB9 := Aside0.mk hB9
    have HS2 := Aside0.mk hs2
    clear hB9 hs2
    replace HOB := Aside0.mk (HOB.out.below HB9.out)
    replace HB := Aside0.mk (below_step HB.out HB9.out)
    clear HB9
    refine norm_ (a' := ?_) ?_ ?_
    rotate_left
    · simp only [putAll, Act.put, List.setIfInBounds_toArray, List.set_cons_zero, List.set_cons_succ]
      rfl
    refine pure_ (i := 16) (N := some 32) (v := ?_) (a' := ?_) #[true, true, true, true, true, true, true, true, true, true, true, true, true, true, true, true, true, false, false] rfl rfl (by kernel_rfl) (fun _ _ _ h => h) (Or.inl ⟨by rfl, ?_⟩) ?_ ?_
    rotate_left
    · intro w'
      go_simp
      with_reducible rfl
    rotate_left
    · simp only [Act.put, List.setIfInBounds_toArray, List.set_cons_zero, List.set_cons_succ, i64_w, i32_w]
      rfl
    refine pure_ (i := 17) (N := some 33) (v := ?_) (a' := ?_) #[true, true, true, true, true, true, true, true, true, true, true, true, true, true, true, true, true, true, false] rfl rfl (by kernel_rfl) (fun _ _ _ h => h) (Or.inl ⟨by rfl, ?_⟩) ?_ ?_
    rotate_left
    · intro w'
      go_simp
      with_reducible rfl
    rotate_left
    · simp only [Act.put, List.setIfInBounds_toArray, List.set_cons_zero, List.set_cons_succ, i64_w, i32_w]
      rfl
    refine last_ (i := 18) (N := none) #[true, true, true, true, true, true, true, true, true, true, true, true, true, true, true, true, true, true, true] rfl rfl (by kernel_rfl) (by decide) (fun K hK => ?_)
    have e0 := HOB.out.cell (i * 2) (by rw [flat_length, HYL.out]; have := HI.out; omega)
    have e1 := HOB.out.cell (i * 2 + 1) (by rw [flat_length, HYL.out]; have := HI.out; omega)
    have e2 := HOB.out.frozen (i * 2)
    have e3 := HOB.out.frozen (i * 2 + 1)
    refine skip_ (w1 := ?_) (by rfl) rfl ?_ ?_
    rotate_left
    · go_simp
      rfl
    refine hK.out _ _ ?_
    clear hK K e0 e1 e2 e3
    refine done_ (by kernel_rfl) ?_
    replace HOB := Aside0.mk ((HOB.out.set (i * 2) r1).set (i * 2 + 1) r2)
    replace HB := Aside0.mk (below_set (g := g) (j := i * 2 + 1) (v := .float .f64 r2) (below_set (g := g) (j := i * 2) (v := .float .f64 r1) HB.out HGG.out) HGG.out)
    generalize World.setCell _ _ _ = V3 at HOB HB ⊢
    go_wp2
    go_roundg (gk - 1)
    case measure => have := HK.out; have := HI.out; omega
    case rel => exact ⟨i + 1, ys.set i (r1, r2), by first | rfl | rw [Hwi.out], ⟨by have := HK.out; have := HI.out; omega⟩, ⟨HD.out.step (by rw [HTL.out.1]; exact HI.out) HS2.out⟩, ⟨Row.put (by rw [flat_set]; exact HOB.out) HGG.out⟩, HB⟩
end Go.Proofs.YtnldjdpophkkcaaDoor.PFnExactWaves
