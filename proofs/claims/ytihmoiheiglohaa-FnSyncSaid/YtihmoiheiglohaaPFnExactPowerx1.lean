/- FnExactPower: the walks, floats told up to NaN. Written by wip/wave/gen_power.py. -/
import Derived.Test.YtihmoiheiglohaaPFnExactAgreex2
namespace Go.Proofs.Ytihmoiheiglohaa.PFnExactPower
open Go.RowKit Go.Proofs.Ytihmoiheiglohaa.PFnExactAgree Go.Proofs.YtihmoiheiglohaaW.PrintWords Go.Proofs.YtihmoiheiglohaaW.PrintLast Go.Proofs.YtihmoiheiglohaaW.PrintMore Go.Proofs.Ytihmoiheiglohaa.Fl Go.Proofs.Ytihmoiheiglohaa.PFnExactProduct
attribute [local go_sem] run_store_float
set_option linter.unusedVariables false
set_option linter.unusedSimpArgs false
attribute [local go_sem] max2_int min2_int max_two min_two max_three min_three max_four min_four
/-- The marks k, k + 1, .. -/
def marks (k : Int) (n : Nat) : List Nat := (List.range n).map fun (i : Nat) => floatOfInt .f64 (k + (i : Int))
theorem marks_length (k : Int) (n : Nat) : (marks k n).length = n := by simp [marks]
theorem marks_at (k : Int) (n i : Nat) (hi : i < n) : (marks k n).getD i 0 = floatOfInt .f64 (k + (i : Int)) := by simp [marks, hi]
/-- i elements marked. -/
def FM (xs : List Nat) (k : Int) (i : Nat) : List Nat := marks k i ++ xs.drop i
theorem FM_length (xs : List Nat) (k : Int) (i : Nat) (hi : i ≤ xs.length) : (FM xs k i).length = xs.length := by simp [FM, marks_length]; omega
theorem FM_full (xs : List Nat) (k : Int) : FM xs k xs.length = marks k xs.length := by simp [FM]
theorem FM_step (xs : List Nat) (k : Int) (i : Nat) (hi : i < xs.length) : (FM xs k i).set i (floatOfInt .f64 (k + (i : Int))) = FM xs k (i + 1) := by
  unfold FM
  rw [List.set_append_right _ _ (by rw [marks_length]; exact Nat.le_refl _), marks_length, Nat.sub_self, List.drop_eq_getElem_cons hi, List.set_cons_zero]
  simp [marks, List.range_succ]
theorem floatOfInt_num (n : Int) : ¬ NaN (floatOfInt .f64 n) := by
  unfold NaN floatOfInt FloatKind.nearest FloatKind.encode FloatKind.format Ieee.Format.write
  simp only
  have hb : Ieee.double.binade = 2 ^ 52 := by decide +kernel
  have hi : Ieee.double.infRung = 0x7ff0000000000000 := by decide +kernel
  have hs : Ieee.double.signWeight = 2 ^ 63 := by decide +kernel
  have key : ∀ (b : Bool) (r : Nat), r ≤ Ieee.double.infRung → ¬ (Ieee.double.read (Ieee.double.word b r)).isNaN = true := by
    intro b r hr h
    unfold Ieee.Format.read Ieee.Format.word at h
    rw [hs, hb, hi] at h
    rw [hi] at hr
    have e : (if b = true then 2 ^ 63 + r else r) % 2 ^ 63 = r := by cases b <;> simp <;> omega
    simp only [e] at h
    split at h
    · simp [Ieee.Datum.isNaN] at h
    · split at h
      · simp [Ieee.Datum.isNaN] at h
      · split at h
        · simp [Ieee.Datum.isNaN] at h
        · omega
  unfold Ieee.Format.nearest
  split
  · exact key _ _ (Nat.zero_le _)
  · exact key _ _ (Nat.min_le_right _ _)
set_option maxHeartbeats 8000000 in
set_option maxRecDepth 100000 in
theorem laws_eqFloat64S.calls2 (A B : Option Addr) (ca cb : Nat) (xs ys : List Nat) (w : World) (hx : Aside0 (RF w A xs)) (hy : Aside0 (RF w B ys)) (hl : xs.length ≤ 1048576) (hyl : ys.length = xs.length) (hsame : Aside0 (∀ i, Same (xs.getD i 0) (ys.getD i 0))) :
    Calls Try.prog 23 #[.slice A xs.length ca, .slice B ys.length cb] w fun e w' => e = .returned (.bool true) ∧ Below w.heap.size w w' := by
  have hu36 := Try.underlying36
  have hu22 := Try.underlying22
  have HB := Aside0.mk (Below.refl w.heap.size w)
  have HL := Aside0.mk hl
  have HYL := Aside0.mk hyl
  rw [hyl]
  clear hl hyl
  go_enter Try.func23, Try.ntmps23
  go_wp2
  go_loopg [5] xs.length (fun kq v5 w' => ∃ i : Nat, v5 = .int .i64 (i : Int) ∧ Aside0 (i + kq = xs.length) ∧ Aside0 (Below w.heap.size w w'))
  case atStart => exact ⟨0, rfl, ⟨by omega⟩, HB⟩
  case round =>
    clear HB
    obtain ⟨i, rfl, HK, HB⟩ := hrel
    by_cases hi : i < xs.length
    · have c0 : decide ((i : Int) < (xs.length : Int)) = true := decide_eq_true (by omega)
      obtain ⟨ad, ea, hc⟩ := hx.out.below HB.out i hi
      obtain ⟨bd, eb, hd⟩ := hy.out.below HB.out i (by rw [HYL.out]; exact hi)
      have HI := Aside0.mk hi
      have p0 : (0 ≤ (i : Int)) = True := eq_true (by omega)
      have p1 : ((i : Int) < (xs.length : Int)) = True := eq_true (by omega)
      have hw : wrap64 ((i : Int) + 1) = ((i + 1 : Nat) : Int) := by have := HL.out; unfold wrap64; omega
      have HSI := Aside0.mk (hsame.out i)
      generalize xs.getD i 0 = X at hc HSI
      generalize ys.getD i 0 = Y at hd HSI
      clear hi
      cases ea
      cases eb
      try go_wp2
      refine start_ (n := 10) (S := fun w' => w'.cell? (ad.add i) = some (.float .f64 X) ∧ w'.cell? (bd.add i) = some (.float .f64 Y)) (ds := []) #[false, false, false, false, false, false, false, false, false, false] (by kernel_rfl) rfl rfl ⟨hc, hd⟩ (fun hHeld => ?_)
      replace HB := Aside0.mk (below_drew1 HB.out)
      clear hc hd
      generalize World.drew _ = V at HB hHeld ⊢
      refine pure_ (i := 0) (N := some 17) (v := ?_) (a' := ?_) #[true, false, false, false, false, false, false, false, false, false] rfl rfl (by kernel_rfl) (fun _ _ _ h => h) (Or.inl ⟨by rfl, ?_⟩) ?_ ?_
      rotate_left
      · intro w'
        go_simp
        with_reducible rfl
      rotate_left
      · simp only [Act.put, List.setIfInBounds_toArray, List.set_cons_zero, List.set_cons_succ, i64_w, i32_w]
        rfl
      refine pure_ (i := 1) (N := some 18) (v := ?_) (a' := ?_) #[true, true, false, false, false, false, false, false, false, false] rfl rfl (by kernel_rfl) (fun _ _ _ h => h) (Or.inl ⟨by rfl, ?_⟩) ?_ ?_
      rotate_left
      · intro w'
        go_simp
        with_reducible rfl
      rotate_left
      · simp only [Act.put, List.setIfInBounds_toArray, List.set_cons_zero, List.set_cons_succ, i64_w, i32_w]
        rfl
      refine pure_ (i := 2) (N := some 19) (v := ?_) (a' := ?_) #[true, true, true, false, false, false, false, false, false, false] rfl rfl (by kernel_rfl) (fun _ _ _ h => h) (Or.inl ⟨by rfl, ?_⟩) ?_ ?_
      rotate_left
      · intro w'
        go_simp
        with_reducible rfl
      rotate_left
      · simp only [Act.put, List.setIfInBounds_toArray, List.set_cons_zero, List.set_cons_succ, i64_w, i32_w]
        rfl
      refine take_ (i := 3) (N := some 20) (v := ?_) (a' := ?_) #[true, true, true, true, false, false, false, false, false, false] rfl rfl (by kernel_rfl) (fun _ _ _ h => h) (Or.inl ⟨by rfl, ?_⟩) hHeld ?_ ?_
      rotate_left
      · rintro w' ⟨s0, s1⟩
        go_simp
        with_reducible rfl
      rotate_left
      · simp only [Act.put, List.setIfInBounds_toArray, List.set_cons_zero, List.set_cons_succ, i64_w, i32_w]
        rfl
      refine pure_ (i := 4) (N := some 21) (v := ?_) (a' := ?_) #[true, true, true, true, true, false, false, false, false, false] rfl rfl (by kernel_rfl) (fun _ _ _ h => h) (Or.inl ⟨by rfl, ?_⟩) ?_ ?_
      rotate_left
      · intro w'
        go_simp
        with_reducible rfl
      rotate_left
      · simp only [Act.put, List.setIfInBounds_toArray, List.set_cons_zero, List.set_cons_succ, i64_w, i32_w]
        rfl
      refine pure_ (i := 5) (N := some 22) (v := ?_) (a' := ?_) #[true, true, true, true, true, true, false, false, false, false] rfl rfl (by kernel_rfl) (fun _ _ _ h => h) (Or.inl ⟨by rfl, ?_⟩) ?_ ?_
      rotate_left
      · intro w'
        go_simp
        with_reducible rfl
      rotate_left
      · simp only [Act.put, List.setIfInBounds_toArray, List.set_cons_zero, List.set_cons_succ, i64_w, i32_w]
        rfl
      refine pure_ (i := 6) (N := some 23) (v := ?_) (a' := ?_) #[true, true, true, true, true, true, true, false, false, false] rfl rfl (by kernel_rfl) (fun _ _ _ h => h) (Or.inl ⟨by rfl, ?_⟩) ?_ ?_
      rotate_left
      · intro w'
        go_simp
        with_reducible rfl
      rotate_left
      · simp only [Act.put, List.setIfInBounds_toArray, List.set_cons_zero, List.set_cons_succ, i64_w, i32_w]
        rfl
      refine take_ (i := 7) (N := some 24) (v := ?_) (a' := ?_) #[true, true, true, true, true, true, true, true, false, false] rfl rfl (by kernel_rfl) (fun _ _ _ h => h) (Or.inl ⟨by rfl, ?_⟩) hHeld ?_ ?_
      rotate_left
      · rintro w' ⟨s0, s1⟩
        go_simp
        with_reducible rfl
      rotate_left
      · simp only [Act.put, List.setIfInBounds_toArray, List.set_cons_zero, List.set_cons_succ, i64_w, i32_w]
        rfl
      refine one_ (i := 8) (N := some 25) #[true, true, true, true, true, true, true, true, true, false] rfl rfl (by kernel_rfl) (by decide) (fun K hK => ?_)
      refine goes_ Try.func22 (by kernel_rfl) rfl #[.float .f64 X, .float .f64 Y] (by rfl) rfl rfl (by (try simp only [List.map_toArray, List.map_cons, List.map_nil]); first | done | rfl | simp) ?_
      with_reducible refine (laws_sameFloat.calls _ _ HSI _).mono ?_
      rintro e W1 ⟨rfl, rfl⟩
      refine ⟨_, rfl, ?_⟩
      refine hK.out _ _ hHeld (fun _ => ?_)
      clear hK K
      refine norm_ (a' := ?_) ?_ ?_
      rotate_left
      · show Act.put _ (some 25) _ = _
        simp only [Act.put, List.setIfInBounds_toArray, List.set_cons_zero, List.set_cons_succ, i64_w, i32_w]
        rfl
      refine pure_ (i := 9) (N := some 26) (v := ?_) (a' := ?_) #[true, true, true, true, true, true, true, true, true, true] rfl rfl (by kernel_rfl) (fun _ _ _ h => h) (Or.inl ⟨by rfl, ?_⟩) ?_ ?_
      rotate_left
      · intro w'
        go_simp
        with_reducible rfl
      rotate_left
      · simp only [Act.put, List.setIfInBounds_toArray, List.set_cons_zero, List.set_cons_succ, i64_w, i32_w]
        rfl
      refine done_ (by kernel_rfl) ?_
      clear hHeld
      try go_wp2
      go_roundg (gk - 1)
      case measure => have := HK.out; have := HI.out; omega
      case rel => exact ⟨i + 1, by rw [hw], ⟨by have := HK.out; have := HI.out; omega⟩, HB⟩
    · have c0 : decide ((i : Int) < (xs.length : Int)) = false := decide_eq_false (by omega)
      clear c0 HK
      go_wp2
      go_ret
      exact ⟨rfl, HB.out⟩
set_option maxHeartbeats 8000000 in
set_option maxRecDepth 100000 in
theorem laws_markFloat64S.calls (w0 : World) (g cap : Nat) (xs : List Nat) (k : Int) (w : World) (hb : Aside0 (w.heap[g]? = some (.cells (FA xs) 22 (0, 0)))) (hB : Aside0 (Below w0.heap.size w0 w)) (hg : Aside0 (w0.heap.size ≤ g)) (hl : xs.length ≤ 1048576) (h0 : 0 ≤ k) (h1 : k ≤ 1048577) :
    Calls Try.prog 33 #[.slice (some ⟨g, 0, none⟩) xs.length cap, .int .i64 k] w fun e w' => e = .returned (.int .i64 (k + xs.length)) ∧ w'.heap[g]? = some (.cells (FA (marks k xs.length)) 22 (0, 0)) ∧ Below w0.heap.size w0 w' ∧ (∀ q cs t, q ≠ g → w.heap[q]? = some (.cells cs t (0, 0)) → w'.heap[q]? = some (.cells cs t (0, 0))) := by
  have hu36 := Try.underlying36
  have hu22 := Try.underlying22
  have hu3 := Try.underlying3
  have Q := Aside0.mk (And.intro hl (And.intro h0 h1))
  clear hl h0 h1
  go_enter Try.func33, Try.ntmps33
  go_wp2
  go_loopg [1, 5] xs.length (fun kq v1 v5 w' => ∃ (i : Nat) (c : Int), v1 = .int .i64 c ∧ v5 = .int .i64 (i : Int) ∧ Aside0 (c = k + i) ∧ Aside0 (i + kq = xs.length) ∧ Aside0 (w'.heap[g]? = some (.cells (FA (FM xs k i)) 22 (0, 0))) ∧ Aside0 (Below w0.heap.size w0 w') ∧ Aside0 (∀ q cs t, q ≠ g → w.heap[q]? = some (.cells cs t (0, 0)) → w'.heap[q]? = some (.cells cs t (0, 0))))
  case atStart => exact ⟨0, k, rfl, rfl, ⟨by simp⟩, ⟨by omega⟩, ⟨by have := hb.out; simpa [FM, marks] using this⟩, hB, ⟨fun _ _ _ _ h => h⟩⟩
  case round =>
    clear hb hB
    obtain ⟨i, c, rfl, rfl, HC, HK, BK, HB, HO⟩ := hrel
    by_cases hi : i < xs.length
    · have hc2 : wr.cell? ⟨g, i, none⟩ = some (.float .f64 ((FM xs k i).getD i 0)) := (blk_cell BK.out i).trans (FA_at _ _ (by rw [FM_length _ _ _ (by omega)]; exact hi))
      have hf2 := blk_frozen BK.out i
      have HI := Aside0.mk hi
      have p0 : (0 ≤ (i : Int)) = True := eq_true (by omega)
      have p1 : ((i : Int) < (xs.length : Int)) = True := eq_true (by omega)
      have Hw : Aside0 (wrap64 ((i : Int) + 1) = ((i + 1 : Nat) : Int)) := ⟨by have := Q.out; unfold wrap64; omega⟩
      have Hwc : Aside0 (wrap64 (c + 1) = c + 1) := ⟨by have := Q.out; have := HC.out; unfold wrap64; omega⟩
      clear hi
      go_wp2
      go_roundg (gk - 1)
      case measure => have := HK.out; have := HI.out; omega
      case rel => exact ⟨i + 1, c + 1, by rw [Hwc.out], by first | rfl | rw [Hw.out], ⟨by have := HC.out; omega⟩, ⟨by have := HK.out; have := HI.out; omega⟩, ⟨by have h := blk_set BK.out i (.float .f64 (floatOfInt .f64 (k + (i : Int)))); rw [FA_set, FM_step xs k i HI.out] at h; rw [HC.out]; exact h⟩, ⟨below_set HB.out hg.out⟩, ⟨fun q cs t hq h => blk_far (HO.out q cs t hq h) hq _⟩⟩
    · have e : i = xs.length := by have := HK.out; omega
      have BK2 : Aside0 (wr.heap[g]? = some (.cells (FA (marks k xs.length)) 22 (0, 0))) := ⟨by have := BK.out; rw [e, FM_full] at this; exact this⟩
      have HC2 : Aside0 (c = k + xs.length) := ⟨by rw [HC.out, e]⟩
      clear e BK HK HC
      go_wp2
      go_ret
      exact ⟨by rw [← HC2.out] <;> rfl, BK2.out, HB.out, HO.out⟩
set_option maxHeartbeats 8000000 in
set_option maxRecDepth 100000 in
theorem laws_heldFloat64S.calls (A : Option Addr) (cap n : Nat) (k : Int) (w : World) (hx : Aside0 (RF w A (marks k n))) (hl : n ≤ 1048576) (h0 : 0 ≤ k) (h1 : k ≤ 1048577) :
    Calls Try.prog 34 #[.slice A n cap, .int .i64 k] w fun e w' => e = .returned (.int .i64 (k + n)) ∧ w' = w := by
  have hu36 := Try.underlying36
  have hu22 := Try.underlying22
  have hu3 := Try.underlying3
  have Q := Aside0.mk (And.intro hl (And.intro h0 h1))
  clear hl h0 h1
  go_enter Try.func34, Try.ntmps34
  go_wp2
  go_loopg [1, 5] n (fun kq v1 v5 w' => ∃ (i : Nat) (c : Int), v1 = .int .i64 c ∧ v5 = .int .i64 (i : Int) ∧ Aside0 (c = k + i) ∧ Aside0 (i + kq = n) ∧ w = w')
  case atStart => exact ⟨0, k, rfl, rfl, ⟨by simp⟩, ⟨by omega⟩, rfl⟩
  case round =>
    obtain ⟨i, c, rfl, rfl, HC, HK, rfl⟩ := hrel
    by_cases hi : i < n
    · obtain ⟨ad, ea, hc⟩ := hx.out i (by rw [marks_length]; exact hi)
      rw [marks_at k n i hi, ← HC.out] at hc
      have ho : FloatKind.f64.format.order (floatOfInt .f64 c) (floatOfInt .f64 c) = some .eq := order_self (floatOfInt_num c)
      have HI := Aside0.mk hi
      have p0 : (0 ≤ (i : Int)) = True := eq_true (by omega)
      have p1 : ((i : Int) < (n : Int)) = True := eq_true (by omega)
      have Hw : Aside0 (wrap64 ((i : Int) + 1) = ((i + 1 : Nat) : Int)) := ⟨by have := Q.out; unfold wrap64; omega⟩
      have Hwc : Aside0 (wrap64 (c + 1) = c + 1) := ⟨by have := Q.out; have := HC.out; unfold wrap64; omega⟩
      clear hi
      cases ea
      go_wp2
      go_roundg (gk - 1)
      case measure => have := HK.out; have := HI.out; omega
      case rel => exact ⟨i + 1, c + 1, by rw [Hwc.out], by first | rfl | rw [Hw.out], ⟨by have := HC.out; omega⟩, ⟨by have := HK.out; have := HI.out; omega⟩, rfl⟩
    · have e : i = n := by have := HK.out; omega
      have HC2 : Aside0 (c = k + n) := ⟨by rw [HC.out, e]⟩
      clear e HK HC
      go_wp2
      go_ret
      exact ⟨by rw [← HC2.out] <;> rfl, rfl⟩
end Go.Proofs.Ytihmoiheiglohaa.PFnExactPower
