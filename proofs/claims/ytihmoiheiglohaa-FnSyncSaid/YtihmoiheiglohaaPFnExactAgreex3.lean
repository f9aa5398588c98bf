/- FnExactAgree: the walks, floats told up to NaN. Written by wip/wave/gen_agree.py. -/
import Derived.Test.YtihmoiheiglohaaPFnExactAgreex2
namespace Go.Proofs.Ytihmoiheiglohaa.PFnExactAgree
open Go.RowKit Go.Proofs.YtihmoiheiglohaaW.PrintWords Go.Proofs.YtihmoiheiglohaaW.PrintLast Go.Proofs.YtihmoiheiglohaaW.PrintMore Go.Proofs.Ytihmoiheiglohaa.Fl Go.Proofs.Ytihmoiheiglohaa.PFnExactProduct
attribute [local go_sem] run_store_float
set_option linter.unusedVariables false
set_option linter.unusedSimpArgs false
/-- What has been summed before round i. -/
def acc (xs ys : List Nat) (lag : Int) : Nat → Nat
  | 0 => 0
  | i + 1 => if 0 ≤ (i : Int) + lag ∧ (i : Int) + lag < (ys.length : Int) then fo .add (acc xs ys lag i) (fo .mul (xs.getD i 0) (ys.getD ((i : Int) + lag).toNat 0)) else acc xs ys lag i
theorem acc_skip {xs ys : List Nat} {lag : Int} {i j : Nat} (hij : i ≤ j) (h : ∀ m : Nat, i ≤ m → m < j → ¬ (0 ≤ (m : Int) + lag ∧ (m : Int) + lag < (ys.length : Int))) : acc xs ys lag j = acc xs ys lag i := by
  induction j with
  | zero => obtain rfl : i = 0 := by omega
            rfl
  | succ j ih =>
    by_cases e : i = j + 1
    · rw [e]
    · rw [acc, if_neg (h j (by omega) (by omega))]
      exact ih (by omega) fun m h1 h2 => h m h1 (by omega)
/-- What Agree comes to, a NaN standing for all. -/
def agr (xs ys : List Nat) (lag : Int) : Nat := if xs.length ≤ 4096 ∧ ys.length ≤ 4096 ∧ -4096 ≤ lag ∧ lag ≤ 4096 then acc xs ys lag xs.length else 0
set_option maxHeartbeats 8000000 in
set_option maxRecDepth 100000 in
theorem spec_l1In.calls (x : Int) (b : Bool) (hb : Aside0 (b = (decide (-4096 ≤ x) && decide (x ≤ 4096)))) (w : World) : Calls Try.prog 39 #[.int .i64 x, .int .i64 (-4096), .int .i64 4096] w fun e w' => e = .returned (.bool b) ∧ w' = w := by
  obtain ⟨hb⟩ := hb
  by_cases h1 : -4096 ≤ x <;> by_cases h2 : x ≤ 4096 <;> simp only [h1, h2, decide_true, decide_false, Bool.and_true, Bool.and_false, Bool.true_and, Bool.false_and] at hb <;> subst hb
  all_goals (go_enter Try.func39, Try.ntmps39; go_wp2)
  all_goals (go_ret; exact ⟨by first | rfl | simp [h1, h2], rfl⟩)
set_option maxHeartbeats 8000000 in
set_option maxRecDepth 100000 in
theorem impl_in.calls (x : Int) (b : Bool) (hb : Aside0 (b = (decide (-4096 ≤ x) && decide (x ≤ 4096)))) (w : World) : Calls Try.prog 40 #[.int .i64 x, .int .i64 (-4096), .int .i64 4096] w fun e w' => e = .returned (.bool b) ∧ w' = w := by
  obtain ⟨hb⟩ := hb
  by_cases h1 : -4096 ≤ x <;> by_cases h2 : x ≤ 4096 <;> simp only [h1, h2, decide_true, decide_false, Bool.and_true, Bool.and_false, Bool.true_and, Bool.false_and] at hb <;> subst hb
  all_goals (go_enter Try.func40, Try.ntmps40; go_wp2)
  all_goals (go_ret; exact ⟨by first | rfl | simp [h1, h2], rfl⟩)
set_option maxHeartbeats 8000000 in
set_option maxRecDepth 100000 in
theorem spec_Agree.calls (A B : Option Addr) (ca cb : Nat) (xs ys : List Nat) (lag : Int) (w : World) (hx : Aside0 (RF w A xs)) (hy : Aside0 (RF w B ys)) :
    Calls Try.prog 19 #[.slice A xs.length ca, .slice B ys.length cb, .int .i64 lag] w fun e w' => ∃ r, e = .returned (.float .f64 r) ∧ Same r (agr xs ys lag) ∧ Below w.heap.size w w' := by
  have hu36 := Try.underlying36
  have hu22 := Try.underlying22
  by_cases q1 : 4096 < xs.length
  · go_enter Try.func19, Try.ntmps19
    go_wp2
    go_ret
    exact ⟨_, rfl, .inl (by rw [agr, if_neg (by omega)]), Below.refl _ _⟩
  by_cases q2 : 4096 < ys.length
  · go_enter Try.func19, Try.ntmps19
    go_wp2
    go_ret
    exact ⟨_, rfl, .inl (by rw [agr, if_neg (by omega)]), Below.refl _ _⟩
  have d1 : decide ((4096 : Int) < (xs.length : Int)) = false := decide_eq_false (by omega)
  have d2 : decide ((4096 : Int) < (ys.length : Int)) = false := decide_eq_false (by omega)
  by_cases q3 : -4096 ≤ lag
  case neg =>
    go_enter Try.func19, Try.ntmps19
    go_wp2_with (first | ((with_reducible refine gate_dst (N := 20) rfl ?_); (try (refine gate_guard (by rfl) ?_; dsimp only)); refine goesL_ (some 20) rfl rfl Try.func39 (by kernel_rfl) rfl #[.int .i64 lag, .int .i64 (-4096), .int .i64 4096] rfl (by (try simp only [List.map_toArray, List.map_cons, List.map_nil]); first | done | rfl) ?_; (with_reducible refine (spec_l1In.calls lag false ⟨by simp [q3]⟩ _).mono ?_); rintro e W1 ⟨rfl, hW⟩; obtain rfl := hW.symm; refine ⟨_, rfl, ?_⟩))
    go_ret
    exact ⟨_, rfl, .inl (by rw [agr, if_neg (by omega)]), Below.refl _ _⟩
  by_cases q4 : lag ≤ 4096
  case neg =>
    go_enter Try.func19, Try.ntmps19
    go_wp2_with (first | ((with_reducible refine gate_dst (N := 20) rfl ?_); (try (refine gate_guard (by rfl) ?_; dsimp only)); refine goesL_ (some 20) rfl rfl Try.func39 (by kernel_rfl) rfl #[.int .i64 lag, .int .i64 (-4096), .int .i64 4096] rfl (by (try simp only [List.map_toArray, List.map_cons, List.map_nil]); first | done | rfl) ?_; (with_reducible refine (spec_l1In.calls lag false ⟨by simp [q3, q4]⟩ _).mono ?_); rintro e W1 ⟨rfl, hW⟩; obtain rfl := hW.symm; refine ⟨_, rfl, ?_⟩))
    go_ret
    exact ⟨_, rfl, .inl (by rw [agr, if_neg (by omega)]), Below.refl _ _⟩
  have HB := Aside0.mk (Below.refl w.heap.size w)
  go_enter Try.func19, Try.ntmps19
  go_wp2_with (first | ((with_reducible refine gate_dst (N := 20) rfl ?_); (try (refine gate_guard (by rfl) ?_; dsimp only)); refine goesL_ (some 20) rfl rfl Try.func39 (by kernel_rfl) rfl #[.int .i64 lag, .int .i64 (-4096), .int .i64 4096] rfl (by (try simp only [List.map_toArray, List.map_cons, List.map_nil]); first | done | rfl) ?_; (with_reducible refine (spec_l1In.calls lag true ⟨by simp [q3, q4]⟩ _).mono ?_); rintro e W1 ⟨rfl, hW⟩; obtain rfl := hW.symm; refine ⟨_, rfl, ?_⟩))
  have Q := Aside0.mk (And.intro q1 (And.intro q2 (And.intro q3 q4)))
  clear q1 q2 q3 q4
  go_loopg [7, 8] xs.length (fun kq v7 v8 w' => ∃ (s : Nat) (i : Nat), v7 = .float .f64 s ∧ v8 = .int .i64 (i : Int) ∧ Aside0 (Same s (acc xs ys lag i)) ∧ Aside0 (i + kq = xs.length) ∧ Aside0 (Below w.heap.size w w'))
  case atStart => exact ⟨0, 0, rfl, rfl, ⟨Same.rfl⟩, ⟨by omega⟩, HB⟩
  case round =>
    clear HB
    obtain ⟨s, i, rfl, rfl, HS, HK, HB⟩ := hrel
    by_cases hi : i < xs.length
    · have HI := Aside0.mk hi
      have p0 : (0 ≤ (i : Int)) = True := eq_true (by omega)
      have p1 : ((i : Int) < (xs.length : Int)) = True := eq_true (by omega)
      have hw : wrap64 ((i : Int) + 1) = ((i + 1 : Nat) : Int) := by have := Q.out; unfold wrap64; omega
      have hwl : wrap64 ((i : Int) + lag) = (i : Int) + lag := by have := Q.out; unfold wrap64; omega
      by_cases hj0 : 0 ≤ (i : Int) + lag
      · by_cases hj1 : (i : Int) + lag < (ys.length : Int)
        · obtain ⟨j, hj⟩ : ∃ j : Nat, (i : Int) + lag = (j : Int) := ⟨((i : Int) + lag).toNat, by omega⟩
          have hjl : j < ys.length := by omega
          have HS2 : acc xs ys lag (i + 1) = fo .add (acc xs ys lag i) (fo .mul (xs.getD i 0) (ys.getD j 0)) := by rw [acc, if_pos ⟨hj0, hj1⟩, hj]; rfl
          obtain ⟨ad, ea, hc⟩ := hx.out.below HB.out i hi
          obtain ⟨bd, eb, hd⟩ := hy.out.below HB.out j hjl
          generalize xs.getD i 0 = X at HS2 hc
          generalize ys.getD j 0 = Y at HS2 hd
          replace hwl : wrap64 ((i : Int) + lag) = (j : Int) := by rw [hwl, hj]
          clear hj0 hj1
          have p2 : (0 ≤ (j : Int)) = True := eq_true (by omega)
          have p3 : ((j : Int) < (ys.length : Int)) = True := eq_true (by omega)
          have HS3 := Aside0.mk HS2
          have HJ := Aside0.mk hj
          clear HS2 hj
          cases ea
          cases eb
          try go_wp2
          refine start_ (n := 12) (S := fun w' => w'.cell? (ad.add i) = some (.float .f64 X) ∧ w'.cell? (bd.add j) = some (.float .f64 Y)) (ds := []) #[false, false, false, false, false, false, false, false, false, false, false, false] (by kernel_rfl) rfl rfl ⟨hc, hd⟩ (fun hHeld => ?_)
          replace HB := Aside0.mk (below_drew1 HB.out)
          clear hc hd
          generalize World.drew _ = V at HB hHeld ⊢
          refine pure_ (i := 0) (N := some 42) (v := ?_) (a' := ?_) #[true, false, false, false, false, false, false, false, false, false, false, false] rfl rfl (by kernel_rfl) (fun _ _ _ h => h) (Or.inl ⟨by rfl, ?_⟩) ?_ ?_
          rotate_left
          · intro w'
            go_simp
            with_reducible rfl
          rotate_left
          · simp only [Act.put, List.setIfInBounds_toArray, List.set_cons_zero, List.set_cons_succ, i64_w, i32_w]
            rfl
          refine pure_ (i := 1) (N := some 43) (v := ?_) (a' := ?_) #[true, true, false, false, false, false, false, false, false, false, false, false] rfl rfl (by kernel_rfl) (fun _ _ _ h => h) (Or.inl ⟨by rfl, ?_⟩) ?_ ?_
          rotate_left
          · intro w'
            go_simp
            with_reducible rfl
          rotate_left
          · simp only [Act.put, List.setIfInBounds_toArray, List.set_cons_zero, List.set_cons_succ, i64_w, i32_w]
            rfl
          refine pure_ (i := 2) (N := some 44) (v := ?_) (a' := ?_) #[true, true, true, false, false, false, false, false, false, false, false, false] rfl rfl (by kernel_rfl) (fun _ _ _ h => h) (Or.inl ⟨by rfl, ?_⟩) ?_ ?_
          rotate_left
          · intro w'
            go_simp
            with_reducible rfl
          rotate_left
          · simp only [Act.put, List.setIfInBounds_toArray, List.set_cons_zero, List.set_cons_succ, i64_w, i32_w]
            rfl
          refine take_ (i := 3) (N := some 45) (v := ?_) (a' := ?_) #[true, true, true, true, false, false, false, false, false, false, false, false] rfl rfl (by kernel_rfl) (fun _ _ _ h => h) (Or.inl ⟨by rfl, ?_⟩) hHeld ?_ ?_
          rotate_left
          · rintro w' ⟨s0, s1⟩
            go_simp
            with_reducible rfl
          rotate_left
          · simp only [Act.put, List.setIfInBounds_toArray, List.set_cons_zero, List.set_cons_succ, i64_w, i32_w]
            rfl
          refine pure_ (i := 4) (N := some 46) (v := ?_) (a' := ?_) #[true, true, true, true, true, false, false, false, false, false, false, false] rfl rfl (by kernel_rfl) (fun _ _ _ h => h) (Or.inl ⟨by rfl, ?_⟩) ?_ ?_
          rotate_left
          · intro w'
            go_simp
            with_reducible rfl
          rotate_left
          · simp only [Act.put, List.setIfInBounds_toArray, List.set_cons_zero, List.set_cons_succ, i64_w, i32_w]
            rfl
          refine pure_ (i := 5) (N := some 47) (v := ?_) (a' := ?_) #[true, true, true, true, true, true, false, false, false, false, false, false] rfl rfl (by kernel_rfl) (fun _ _ _ h => h) (Or.inl ⟨by rfl, ?_⟩) ?_ ?_
          rotate_left
          · intro w'
            go_simp
            with_reducible rfl
          rotate_left
          · simp only [Act.put, List.setIfInBounds_toArray, List.set_cons_zero, List.set_cons_succ, i64_w, i32_w]
            rfl
          refine pure_ (i := 6) (N := some 48) (v := ?_) (a' := ?_) #[true, true, true, true, true, true, true, false, false, false, false, false] rfl rfl (by kernel_rfl) (fun _ _ _ h => h) (Or.inl ⟨by rfl, ?_⟩) ?_ ?_
          rotate_left
          · intro w'
            go_simp
            with_reducible rfl
          rotate_left
          · simp only [Act.put, List.setIfInBounds_toArray, List.set_cons_zero, List.set_cons_succ, i64_w, i32_w]
            rfl
          refine pure_ (i := 7) (N := some 49) (v := ?_) (a' := ?_) #[true, true, true, true, true, true, true, true, false, false, false, false] rfl rfl (by kernel_rfl) (fun _ _ _ h => h) (Or.inl ⟨by rfl, ?_⟩) ?_ ?_
          rotate_left
          · intro w'
            go_simp
            with_reducible rfl
          rotate_left
          · simp only [Act.put, List.setIfInBounds_toArray, List.set_cons_zero, List.set_cons_succ, i64_w, i32_w]
            rfl
          refine pure_ (i := 8) (N := some 50) (v := ?_) (a' := ?_) #[true, true, true, true, true, true, true, true, true, false, false, false] rfl rfl (by kernel_rfl) (fun _ _ _ h => h) (Or.inl ⟨by rfl, ?_⟩) ?_ ?_
          rotate_left
          · intro w'
            go_simp
            with_reducible rfl
          rotate_left
          · simp only [Act.put, List.setIfInBounds_toArray, List.set_cons_zero, List.set_cons_succ, i64_w, i32_w]
            rfl
          refine take_ (i := 9) (N := some 51) (v := ?_) (a' := ?_) #[true, true, true, true, true, true, true, true, true, true, false, false] rfl rfl (by kernel_rfl) (fun _ _ _ h => h) (Or.inl ⟨by rfl, ?_⟩) hHeld ?_ ?_
          rotate_left
          · rintro w' ⟨s0, s1⟩
            go_simp
            with_reducible rfl
          rotate_left
          · simp only [Act.put, List.setIfInBounds_toArray, List.set_cons_zero, List.set_cons_succ, i64_w, i32_w]
            rfl
          refine one_ (i := 10) (N := some 52) #[true, true, true, true, true, true, true, true, true, true, true, false] rfl rfl (by kernel_rfl) (by decide) (fun K hK => ?_)
          refine one_op (by rfl) .mul 22 _ _ 22 rfl rfl (Aside0.mk (Same.rfl (x := X))).out (Aside0.mk (Same.rfl (x := Y))).out rfl rfl ?_
          intro r1 n1 hs1
          have hr1 := Aside0.mk hs1
          clear hs1
          replace HB := Aside0.mk (pw_below_drewN HB.out n1)
          refine hK.out _ _ hHeld (fun _ => ?_)
          clear hK K
          refine norm_ (a' := ?_) ?_ ?_
          rotate_left
          · show Act.put _ (some 52) _ = _
            simp only [Act.put, List.setIfInBounds_toArray, List.set_cons_zero, List.set_cons_succ, i64_w, i32_w]
            rfl
          refine pure_ (i := 11) (N := some 9) (v := ?_) (a' := ?_) #[true, true, true, true, true, true, true, true, true, true, true, true] rfl rfl (by kernel_rfl) (fun _ _ _ h => h) (Or.inl ⟨by rfl, ?_⟩) ?_ ?_
          rotate_left
          · intro w'
            go_simp
            with_reducible rfl
          rotate_left
          · simp only [Act.put, List.setIfInBounds_toArray, List.set_cons_zero, List.set_cons_succ, i64_w, i32_w]
            rfl
          refine done_ (by kernel_rfl) ?_
          clear hHeld
          go_wp2_with (first | ((with_reducible refine gate_ (.binOp .add 22 (.tmp 53) (.tmp 54) 22) rfl ?_); refine step_op rfl .add 22 _ _ 22 rfl rfl HS.out hr1.out rfl rfl ?_; intro r2 n2 hs2; have hr2 := Aside0.mk hs2; clear hs2))
          go_roundg (gk - 1)
          case measure => have := HK.out; have := HI.out; omega
          case rel => exact ⟨r2, i + 1, rfl, by first | rfl | rw [hw], ⟨by rw [HS3.out]; exact hr2.out⟩, ⟨by have := HK.out; have := HI.out; omega⟩, ⟨by rw [← World.drewN_drewN]; exact pw_below_drewN HB.out _⟩⟩
        · have HS3 : Aside0 (acc xs ys lag (i + 1) = acc xs ys lag i) := ⟨by rw [acc, if_neg (by omega)]⟩
          go_wp2
          go_roundg (gk - 1)
          case measure => have := HK.out; have := HI.out; omega
          case rel => exact ⟨s, i + 1, rfl, by first | rfl | rw [hw], ⟨by rw [HS3.out]; exact HS.out⟩, ⟨by have := HK.out; have := HI.out; omega⟩, HB⟩
      · have HS3 : Aside0 (acc xs ys lag (i + 1) = acc xs ys lag i) := ⟨by rw [acc, if_neg (by omega)]⟩
        go_wp2
        go_roundg (gk - 1)
        case measure => have := HK.out; have := HI.out; omega
        case rel => exact ⟨s, i + 1, rfl, by first | rfl | rw [hw], ⟨by rw [HS3.out]; exact HS.out⟩, ⟨by have := HK.out; have := HI.out; omega⟩, HB⟩
    · have e : i = xs.length := by have := HK.out; omega
      have HS4 : Aside0 (Same s (agr xs ys lag)) := ⟨by have := Q.out; rw [agr, if_pos (by omega), ← e]; exact HS.out⟩
      clear e HK HS
      go_wp2
      go_ret
      exact ⟨_, rfl, HS4.out, HB.out⟩
end Go.Proofs.Ytihmoiheiglohaa.PFnExactAgree
