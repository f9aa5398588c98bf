/- FnExactAgree: the walks, floats told up to NaN. Written by wip/wave/gen_agree.py. -/
import Derived.Test.YtihmoiheiglohaaPFnExactAgreex3
namespace Go.Proofs.Ytihmoiheiglohaa.PFnExactAgree
open Go.RowKit Go.Proofs.YtihmoiheiglohaaW.PrintWords Go.Proofs.YtihmoiheiglohaaW.PrintLast Go.Proofs.YtihmoiheiglohaaW.PrintMore Go.Proofs.Ytihmoiheiglohaa.Fl Go.Proofs.Ytihmoiheiglohaa.PFnExactProduct
attribute [local go_sem] run_store_float
set_option linter.unusedVariables false
set_option linter.unusedSimpArgs false
attribute [local go_sem] max2_int min2_int max_two min_two max_three min_three max_four min_four
set_option maxHeartbeats 8000000 in
set_option maxRecDepth 100000 in
theorem impl_agree.calls (A B : Option Addr) (ca cb : Nat) (xs ys : List Nat) (lag : Int) (w : World) (hx : Aside0 (RF w A xs)) (hy : Aside0 (RF w B ys)) (q1 : xs.length ≤ 4096) (q2 : ys.length ≤ 4096) (q3 : -4096 ≤ lag) (q4 : lag ≤ 4096) :
    Calls Try.prog 41 #[.slice A xs.length ca, .slice B ys.length cb, .int .i64 lag] w fun e w' => ∃ r, e = .returned (.float .f64 r) ∧ Same r (acc xs ys lag xs.length) ∧ Below w.heap.size w w' := by
  have hu36 := Try.underlying36
  have hu22 := Try.underlying22
  have HB := Aside0.mk (Below.refl w.heap.size w)
  have Q := Aside0.mk (And.intro q1 (And.intro q2 (And.intro q3 q4)))
  have hneg : wrap64 (-lag) = -lag := by unfold wrap64; omega
  obtain ⟨st, hst⟩ : ∃ st : Nat, (if lag < 0 then -lag else 0) = (st : Int) := ⟨(if lag < 0 then -lag else 0).toNat, by split <;> omega⟩
  have HST : Aside0 ((lag < 0 ∧ (st : Int) = -lag) ∨ (0 ≤ lag ∧ st = 0)) := ⟨by split at hst <;> omega⟩
  clear q1 q2 q3 q4
  go_enter Try.func41, Try.ntmps41
  go_wp2
  clear hst hneg
  go_loopg [7, 8] xs.length (fun kq v7 v8 w' => ∃ (s : Nat) (i : Nat), v7 = .float .f64 s ∧ v8 = .int .i64 (i : Int) ∧ Aside0 (Same s (acc xs ys lag i)) ∧ Aside0 (i + kq = xs.length + st ∧ st ≤ i ∧ (i = st ∨ i ≤ xs.length)) ∧ Aside0 (Below w.heap.size w w'))
  case atStart => exact ⟨0, st, rfl, rfl, ⟨.inl (acc_skip (i := 0) (j := st) (by omega) (fun m _ h2 => by have := HST.out; omega)).symm⟩, ⟨by omega, by omega, by omega⟩, HB⟩
  case round =>
    clear HB
    obtain ⟨s, i, rfl, rfl, HS, HK, HB⟩ := hrel
    have hwl : wrap64 ((i : Int) + lag) = (i : Int) + lag := by have := Q.out; have := HK.out; have := HST.out; unfold wrap64; omega
    have hw : wrap64 ((i : Int) + 1) = ((i + 1 : Nat) : Int) := by have := Q.out; have := HK.out; have := HST.out; unfold wrap64; omega
    have hj0 : 0 ≤ (i : Int) + lag := by have := HK.out; have := HST.out; omega
    by_cases hi : i < xs.length
    · by_cases hj1 : (i : Int) + lag < (ys.length : Int)
      · have HI := Aside0.mk hi
        have p0 : (0 ≤ (i : Int)) = True := eq_true (by omega)
        have p1 : ((i : Int) < (xs.length : Int)) = True := eq_true (by omega)
        obtain ⟨j, hj⟩ : ∃ j : Nat, (i : Int) + lag = (j : Int) := ⟨((i : Int) + lag).toNat, by omega⟩
        have hjl : j < ys.length := by omega
        have HS2 : acc xs ys lag (i + 1) = fo .add (acc xs ys lag i) (fo .mul (xs.getD i 0) (ys.getD j 0)) := by rw [acc, if_pos ⟨hj0, hj1⟩, hj]; rfl
        obtain ⟨ad, ea, hc⟩ := hx.out.below HB.out i hi
        obtain ⟨bd, eb, hd⟩ := hy.out.below HB.out j hjl
        generalize xs.getD i 0 = X at HS2 hc
        generalize ys.getD j 0 = Y at HS2 hd
        replace hwl : wrap64 ((i : Int) + lag) = (j : Int) := by rw [hwl, hj]
        clear hj0 hj1
        have p2 : (0 ≤ (j : Int)) = True := eq_true (by omega)
        have p3 : ((j : Int) < (ys.length : Int)) = True := eq_true (by omega)
        have HS3 := Aside0.mk HS2
        have HJ := Aside0.mk hj
        clear HS2 hj
        cases ea
        cases eb
        try go_wp2
        refine start_ (n := 14) (S := fun w' => w'.cell? (ad.add i) = some (.float .f64 X) ∧ w'.cell? (bd.add j) = some (.float .f64 Y)) (ds := []) #[false, false, false, false, false, false, false, false, false, false, false, false, false, false] (by kernel_rfl) rfl rfl ⟨hc, hd⟩ (fun hHeld => ?_)
        replace HB := Aside0.mk (below_drew1 HB.out)
        clear hc hd
        generalize World.drew _ = V at HB hHeld ⊢
        refine pure_ (i := 0) (N := some 26) (v := ?_) (a' := ?_) #[true, false, false, false, false, false, false, false, false, false, false, false, false, false] rfl rfl (by kernel_rfl) (fun _ _ _ h => h) (Or.inl ⟨by rfl, ?_⟩) ?_ ?_
        rotate_left
        · intro w'
          go_simp
          with_reducible rfl
        rotate_left
        · simp only [Act.put, List.setIfInBounds_toArray, List.set_cons_zero, List.set_cons_succ, i64_w, i32_w]
          rfl
        refine pure_ (i := 1) (N := some 27) (v := ?_) (a' := ?_) #[true, true, false, false, false, false, false, false, false, false, false, false, false, false] rfl rfl (by kernel_rfl) (fun _ _ _ h => h) (Or.inl ⟨by rfl, ?_⟩) ?_ ?_
        rotate_left
        · intro w'
          go_simp
          with_reducible rfl
        rotate_left
        · simp only [Act.put, List.setIfInBounds_toArray, List.set_cons_zero, List.set_cons_succ, i64_w, i32_w]
          rfl
        refine pure_ (i := 2) (N := some 28) (v := ?_) (a' := ?_) #[true, true, true, false, false, false, false, false, false, false, false, false, false, false] rfl rfl (by kernel_rfl) (fun _ _ _ h => h) (Or.inl ⟨by rfl, ?_⟩) ?_ ?_
        rotate_left
        · intro w'
          go_simp
          with_reducible rfl
        rotate_left
        · simp only [Act.put, List.setIfInBounds_toArray, List.set_cons_zero, List.set_cons_succ, i64_w, i32_w]
          rfl
        refine pure_ (i := 3) (N := some 29) (v := ?_) (a' := ?_) #[true, true, true, true, false, false, false, false, false, false, false, false, false, false] rfl rfl (by kernel_rfl) (fun _ _ _ h => h) (Or.inl ⟨by rfl, ?_⟩) ?_ ?_
        rotate_left
        · intro w'
          go_simp
          with_reducible rfl
        rotate_left
        · simp only [Act.put, List.setIfInBounds_toArray, List.set_cons_zero, List.set_cons_succ, i64_w, i32_w]
          rfl
        refine take_ (i := 4) (N := some 30) (v := ?_) (a' := ?_) #[true, true, true, true, true, false, false, false, false, false, false, false, false, false] rfl rfl (by kernel_rfl) (fun _ _ _ h => h) (Or.inl ⟨by rfl, ?_⟩) hHeld ?_ ?_
        rotate_left
        · rintro w' ⟨s0, s1⟩
          go_simp
          with_reducible rfl
        rotate_left
        · simp only [Act.put, List.setIfInBounds_toArray, List.set_cons_zero, List.set_cons_succ, i64_w, i32_w]
          rfl
        refine pure_ (i := 5) (N := some 31) (v := ?_) (a' := ?_) #[true, true, true, true, true, true, false, false, false, false, false, false, false, false] rfl rfl (by kernel_rfl) (fun _ _ _ h => h) (Or.inl ⟨by rfl, ?_⟩) ?_ ?_
        rotate_left
        · intro w'
          go_simp
          with_reducible rfl
        rotate_left
        · simp only [Act.put, List.setIfInBounds_toArray, List.set_cons_zero, List.set_cons_succ, i64_w, i32_w]
          rfl
        refine pure_ (i := 6) (N := some 32) (v := ?_) (a' := ?_) #[true, true, true, true, true, true, true, false, false, false, false, false, false, false] rfl rfl (by kernel_rfl) (fun _ _ _ h => h) (Or.inl ⟨by rfl, ?_⟩) ?_ ?_
        rotate_left
        · intro w'
          go_simp
          with_reducible rfl
        rotate_left
        · simp only [Act.put, List.setIfInBounds_toArray, List.set_cons_zero, List.set_cons_succ, i64_w, i32_w]
          rfl
        refine pure_ (i := 7) (N := some 33) (v := ?_) (a' := ?_) #[true, true, true, true, true, true, true, true, false, false, false, false, false, false] rfl rfl (by kernel_rfl) (fun _ _ _ h => h) (Or.inl ⟨by rfl, ?_⟩) ?_ ?_
        rotate_left
        · intro w'
          go_simp
          with_reducible rfl
        rotate_left
        · simp only [Act.put, List.setIfInBounds_toArray, List.set_cons_zero, List.set_cons_succ, i64_w, i32_w]
          rfl
        refine pure_ (i := 8) (N := some 34) (v := ?_) (a' := ?_) #[true, true, true, true, true, true, true, true, true, false, false, false, false, false] rfl rfl (by kernel_rfl) (fun _ _ _ h => h) (Or.inl ⟨by rfl, ?_⟩) ?_ ?_
        rotate_left
        · intro w'
          go_simp
          with_reducible rfl
        rotate_left
        · simp only [Act.put, List.setIfInBounds_toArray, List.set_cons_zero, List.set_cons_succ, i64_w, i32_w]
          rfl
        refine pure_ (i := 9) (N := some 35) (v := ?_) (a' := ?_) #[true, true, true, true, true, true, true, true, true, true, false, false, false, false] rfl rfl (by kernel_rfl) (fun _ _ _ h => h) (Or.inl ⟨by rfl, ?_⟩) ?_ ?_
        rotate_left
        · intro w'
          go_simp
          with_reducible rfl
        rotate_left
        · simp only [Act.put, List.setIfInBounds_toArray, List.set_cons_zero, List.set_cons_succ, i64_w, i32_w]
          rfl
        refine take_ (i := 10) (N := some 36) (v := ?_) (a' := ?_) #[true, true, true, true, true, true, true, true, true, true, true, false, false, false] rfl rfl (by kernel_rfl) (fun _ _ _ h => h) (Or.inl ⟨by rfl, ?_⟩) hHeld ?_ ?_
        rotate_left
        · rintro w' ⟨s0, s1⟩
          go_simp
          with_reducible rfl
        rotate_left
        · simp only [Act.put, List.setIfInBounds_toArray, List.set_cons_zero, List.set_cons_succ, i64_w, i32_w]
          rfl
        refine one_ (i := 11) (N := some 37) #[true, true, true, true, true, true, true, true, true, true, true, true, false, false] rfl rfl (by kernel_rfl) (by decide) (fun K hK => ?_)
        refine one_op (by rfl) .mul 22 _ _ 22 rfl rfl (Aside0.mk (Same.rfl (x := X))).out (Aside0.mk (Same.rfl (x := Y))).out rfl rfl ?_
        intro r1 n1 hs1
        have hr1 := Aside0.mk hs1
        clear hs1
        replace HB := Aside0.mk (pw_below_drewN HB.out n1)
        refine hK.out _ _ hHeld (fun _ => ?_)
        clear hK K
        refine norm_ (a' := ?_) ?_ ?_
        rotate_left
        · show Act.put _ (some 37) _ = _
          simp only [Act.put, List.setIfInBounds_toArray, List.set_cons_zero, List.set_cons_succ, i64_w, i32_w]
          rfl
        refine one_ (i := 12) (N := some 38) #[true, true, true, true, true, true, true, true, true, true, true, true, true, false] rfl rfl (by kernel_rfl) (by decide) (fun K hK => ?_)
        refine one_op (by rfl) .add 22 _ _ 22 rfl rfl HS.out hr1.out rfl rfl ?_
        intro r2 n2 hs2
        have hr2 := Aside0.mk hs2
        clear hs2
        replace HB := Aside0.mk (pw_below_drewN HB.out n2)
        refine hK.out _ _ hHeld (fun _ => ?_)
        clear hK K
        refine norm_ (a' := ?_) ?_ ?_
        rotate_left
        · show Act.put _ (some 38) _ = _
          simp only [Act.put, List.setIfInBounds_toArray, List.set_cons_zero, List.set_cons_succ, i64_w, i32_w]
          rfl
        refine pure_ (i := 13) (N := some 7) (v := ?_) (a' := ?_) #[true, true, true, true, true, true, true, true, true, true, true, true, true, true] rfl rfl (by kernel_rfl) (fun _ _ _ h => h) (Or.inl ⟨by rfl, ?_⟩) ?_ ?_
        rotate_left
        · intro w'
          go_simp
          with_reducible rfl
        rotate_left
        · simp only [Act.put, List.setIfInBounds_toArray, List.set_cons_zero, List.set_cons_succ, i64_w, i32_w]
          rfl
        refine done_ (by kernel_rfl) ?_
        clear hHeld
        try go_wp2
        go_roundg (gk - 1)
        case measure => have := HK.out; have := HI.out; omega
        case rel => exact ⟨r2, i + 1, rfl, by first | rfl | rw [hw], ⟨by rw [HS3.out]; exact hr2.out⟩, ⟨by have := HK.out; have := HI.out; omega⟩, ⟨by rw [← World.drewN_drewN]; exact HB.out⟩⟩
      · have HS4 : Aside0 (Same s (acc xs ys lag xs.length)) := ⟨by rw [acc_skip (i := i) (j := xs.length) (by omega) (fun m h1 h2 => by omega)]; exact HS.out⟩
        have n0 : ((i : Int) + lag < (ys.length : Int)) = False := eq_false hj1
        clear HK HS
        go_wp2
        go_ret
        exact ⟨_, rfl, HS4.out, HB.out⟩
    · have HS4 : Aside0 (Same s (acc xs ys lag xs.length)) := ⟨by
        have h := HK.out
        by_cases e : i = xs.length
        · rw [← e]; exact HS.out
        · have e2 : acc xs ys lag i = acc xs ys lag 0 := acc_skip (by omega) (fun m _ h2 => by have := HST.out; omega)
          have e3 : acc xs ys lag xs.length = acc xs ys lag 0 := acc_skip (by omega) (fun m _ h2 => by have := HST.out; omega)
          rw [e3, ← e2]; exact HS.out⟩
      clear HK HS
      go_wp2
      go_ret
      exact ⟨_, rfl, HS4.out, HB.out⟩
set_option maxHeartbeats 8000000 in
set_option maxRecDepth 100000 in
theorem impl_Agree.calls (A B : Option Addr) (ca cb : Nat) (xs ys : List Nat) (lag : Int) (w : World) (hx : Aside0 (RF w A xs)) (hy : Aside0 (RF w B ys)) :
    Calls Try.prog 21 #[.slice A xs.length ca, .slice B ys.length cb, .int .i64 lag] w fun e w' => ∃ r, e = .returned (.float .f64 r) ∧ Same r (agr xs ys lag) ∧ Below w.heap.size w w' := by
  have hu36 := Try.underlying36
  have hu22 := Try.underlying22
  by_cases q1 : 4096 < xs.length
  · go_enter Try.func21, Try.ntmps21
    go_wp2
    go_ret
    exact ⟨_, rfl, .inl (by rw [agr, if_neg (by omega)]), Below.refl _ _⟩
  by_cases q2 : 4096 < ys.length
  · go_enter Try.func21, Try.ntmps21
    go_wp2
    go_ret
    exact ⟨_, rfl, .inl (by rw [agr, if_neg (by omega)]), Below.refl _ _⟩
  have d1 : decide ((4096 : Int) < (xs.length : Int)) = false := decide_eq_false (by omega)
  have d2 : decide ((4096 : Int) < (ys.length : Int)) = false := decide_eq_false (by omega)
  by_cases q3 : -4096 ≤ lag
  case neg =>
    go_enter Try.func21, Try.ntmps21
    go_wp2_with (first | ((with_reducible refine gate_dst (N := 17) rfl ?_); (try (refine gate_guard (by rfl) ?_; dsimp only)); refine goesL_ (some 17) rfl rfl Try.func40 (by kernel_rfl) rfl #[.int .i64 lag, .int .i64 (-4096), .int .i64 4096] rfl (by (try simp only [List.map_toArray, List.map_cons, List.map_nil]); first | done | rfl) ?_; (with_reducible refine (impl_in.calls lag false ⟨by simp [q3]⟩ _).mono ?_); rintro e W1 ⟨rfl, hW⟩; obtain rfl := hW.symm; refine ⟨_, rfl, ?_⟩))
    go_ret
    exact ⟨_, rfl, .inl (by rw [agr, if_neg (by omega)]), Below.refl _ _⟩
  by_cases q4 : lag ≤ 4096
  case neg =>
    go_enter Try.func21, Try.ntmps21
    go_wp2_with (first | ((with_reducible refine gate_dst (N := 17) rfl ?_); (try (refine gate_guard (by rfl) ?_; dsimp only)); refine goesL_ (some 17) rfl rfl Try.func40 (by kernel_rfl) rfl #[.int .i64 lag, .int .i64 (-4096), .int .i64 4096] rfl (by (try simp only [List.map_toArray, List.map_cons, List.map_nil]); first | done | rfl) ?_; (with_reducible refine (impl_in.calls lag false ⟨by simp [q3, q4]⟩ _).mono ?_); rintro e W1 ⟨rfl, hW⟩; obtain rfl := hW.symm; refine ⟨_, rfl, ?_⟩))
    go_ret
    exact ⟨_, rfl, .inl (by rw [agr, if_neg (by omega)]), Below.refl _ _⟩
  have HA : Aside0 (agr xs ys lag = acc xs ys lag xs.length) := ⟨by rw [agr, if_pos (by omega)]⟩
  have Q := Aside0.mk (And.intro (show xs.length ≤ 4096 by omega) (And.intro (show ys.length ≤ 4096 by omega) (And.intro q3 q4)))
  go_enter Try.func21, Try.ntmps21
  go_wp2_with (first | ((with_reducible refine gate_dst (N := 17) rfl ?_); (try (refine gate_guard (by rfl) ?_; dsimp only)); refine goesL_ (some 17) rfl rfl Try.func40 (by kernel_rfl) rfl #[.int .i64 lag, .int .i64 (-4096), .int .i64 4096] rfl (by (try simp only [List.map_toArray, List.map_cons, List.map_nil]); first | done | rfl) ?_; (with_reducible refine (impl_in.calls lag true ⟨by simp [q3, q4]⟩ _).mono ?_); rintro e W1 ⟨rfl, hW⟩; obtain rfl := hW.symm; refine ⟨_, rfl, ?_⟩) | ((with_reducible refine gate_dst (N := 23) rfl ?_); refine goesL_ (some 23) rfl rfl Try.func41 (by kernel_rfl) rfl #[.slice A xs.length ca, .slice B ys.length cb, .int .i64 lag] rfl (by (try simp only [List.map_toArray, List.map_cons, List.map_nil]); first | done | rfl) ?_; (with_reducible refine (impl_agree.calls A B ca cb xs ys lag _ hx hy Q.out.1 Q.out.2.1 Q.out.2.2.1 Q.out.2.2.2).mono ?_); rintro e W1 ⟨r, rfl, hs, hb⟩; refine ⟨_, rfl, ?_⟩; have HS := Aside0.mk hs; have HB := Aside0.mk hb; clear hs hb))
  go_ret
  exact ⟨_, rfl, by rw [HA.out]; exact HS.out, HB.out⟩
end Go.Proofs.Ytihmoiheiglohaa.PFnExactAgree
