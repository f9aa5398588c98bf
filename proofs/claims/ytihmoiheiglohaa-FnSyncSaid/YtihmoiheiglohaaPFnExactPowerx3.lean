/- FnExactPower: the walks, floats told up to NaN. Written by wip/wave/gen_power.py. -/
import Derived.Test.YtihmoiheiglohaaPFnExactPowerx2
namespace Go.Proofs.Ytihmoiheiglohaa.PFnExactPower
open Go.RowKit Go.Proofs.Ytihmoiheiglohaa.PFnExactAgree Go.Proofs.YtihmoiheiglohaaW.PrintWords Go.Proofs.YtihmoiheiglohaaW.PrintLast Go.Proofs.YtihmoiheiglohaaW.PrintMore Go.Proofs.Ytihmoiheiglohaa.Fl Go.Proofs.Ytihmoiheiglohaa.PFnExactProduct
attribute [local go_sem] run_store_float
set_option linter.unusedVariables false
set_option linter.unusedSimpArgs false
attribute [local go_sem] max2_int min2_int max_two min_two max_three min_three max_four min_four
/-- The pairs' numbers in a row. -/
def flat : List (Nat × Nat) → List Nat
  | [] => []
  | p :: l => p.1 :: p.2 :: flat l
theorem flat_length (xs : List (Nat × Nat)) : (flat xs).length = xs.length * 2 := by induction xs with
  | nil => rfl
  | cons p l ih => simp only [flat, List.length_cons, ih]; omega
theorem flat_fst (xs : List (Nat × Nat)) (i : Nat) : (flat xs).getD (i * 2) 0 = (xs.getD i (0, 0)).1 := by induction xs generalizing i with
  | nil => simp [flat]
  | cons p l ih =>
    cases i with
    | zero => simp [flat]
    | succ i => rw [show (i + 1) * 2 = i * 2 + 1 + 1 by omega, flat, List.getD_cons_succ, List.getD_cons_succ, List.getD_cons_succ, ih]
theorem flat_snd (xs : List (Nat × Nat)) (i : Nat) : (flat xs).getD (i * 2 + 1) 0 = (xs.getD i (0, 0)).2 := by induction xs generalizing i with
  | nil => simp [flat]
  | cons p l ih =>
    cases i with
    | zero => simp [flat]
    | succ i => rw [show (i + 1) * 2 + 1 = (i * 2 + 1) + 1 + 1 by omega, flat, List.getD_cons_succ, List.getD_cons_succ, List.getD_cons_succ, ih]
theorem RC.of_blk {w : World} {g : Nat} {xs : List (Nat × Nat)} (h : w.heap[g]? = some (.cells (FA (flat xs)) 25 (0, 0))) : RC w (some ⟨g, 0, none⟩) xs := fun i hi => by
  refine ⟨_, rfl, ?_, ?_⟩
  · rw [add_plain, ← flat_fst]; exact (blk_cell h _).trans (FA_at _ _ (by rw [flat_length]; omega))
  · rw [add_plain, ← flat_snd]; show w.cell? ⟨g, i * 2 + 1, none⟩ = _; exact (blk_cell h (i * 2 + 1)).trans (FA_at _ _ (by rw [flat_length]; omega))
theorem made_FA2 (n : Nat) : madeCells #[.float .f64 0, .float .f64 0] (n * 2) = FA (List.replicate (n * 2) 0) := by
  apply Array.ext
  · simp [madeCells, FA]
  · intro i h1 h2
    simp [madeCells, FA]
    have : i % 2 = 0 ∨ i % 2 = 1 := by omega
    rcases this with e | e <;> rw [e] <;> rfl
set_option maxHeartbeats 8000000 in
set_option maxRecDepth 100000 in
theorem laws_toCxS.calls (A : Option Addr) (cap : Nat) (xs : List (Nat × Nat)) (w : World) (hr : Aside0 (RC w A xs)) (hl : xs.length ≤ 1048576) :
    Calls Try.prog 29 #[.slice A xs.length cap] w fun e w' => ∃ g, e = .returned (.slice (some ⟨g, 0, none⟩) xs.length xs.length) ∧ w'.heap[g]? = some (.cells (FA (flat xs)) 25 (0, 0)) ∧ w.heap.size ≤ g ∧ Below w.heap.size w w' := by
  have hu43 := Try.underlying43
  have hu46 := Try.underlying46
  have hu24 := Try.underlying24
  have hu25 := Try.underlying25
  have hu22 := Try.underlying22
  have HB := Aside0.mk (Below.refl w.heap.size w)
  have HL := Aside0.mk hl
  have hmk : ∀ W : World, (Instr.makeSlice 46 (.int .i64 (xs.length : Int)) (.int .i64 (xs.length : Int))).run Try.prog W = .ok (.slice (some ⟨W.heap.size, 0, none⟩) xs.length xs.length) (W.alloc (.cells (FA (List.replicate (xs.length * 2) 0)) 25)) := by
    intro W
    have hinfo : (Try.prog.info? 25).map (fun i => (i.zero, i.size, i.bytes)) = some (some (Value.agg #[.float .f64 0, .float .f64 0]), 2, 16) := by kernel_rfl
    obtain ⟨i, hi, hz⟩ := Option.map_eq_some_iff.1 hinfo
    simp only [Prod.mk.injEq] at hz
    obtain ⟨hz0, hz1, hz2⟩ := hz
    have h := run_make W 46 25 i (Value.agg #[.float .f64 0, .float .f64 0]) Try.underlying46 hi hz0 .i64 .i64 (xs.length : Int) (xs.length : Int) (by omega) (by omega) (by rw [hz2]; omega) (by omega)
    rw [hz1] at h
    simp only [Int.toNat_natCast] at h
    rw [h, ← made_FA2]
    rfl
  clear hl
  go_enter Try.func29, Try.ntmps29
  go_wp2
  clear hmk
  have BK : Aside0 ((w.alloc (.cells (FA (List.replicate (xs.length * 2) 0)) 25)).heap[w.heap.size]? = some (.cells (FA (FB (flat xs) (0 * 2))) 25 (0, 0))) := ⟨by rw [FB_zero, flat_length]; exact blk_new w _⟩
  replace HB : Aside0 (Below w.heap.size w (w.alloc (.cells (FA (List.replicate (xs.length * 2) 0)) 25))) := ⟨below_alloc HB.out _⟩
  generalize w.alloc (.cells (FA (List.replicate (xs.length * 2) 0)) 25) = w1 at BK HB ⊢
  go_loopg [4] xs.length (fun kq v4 w' => ∃ i : Nat, v4 = .int .i64 (i : Int) ∧ Aside0 (i + kq = xs.length) ∧ Aside0 (w'.heap[w.heap.size]? = some (.cells (FA (FB (flat xs) (i * 2))) 25 (0, 0))) ∧ Aside0 (Below w.heap.size w w'))
  case atStart => exact ⟨0, rfl, ⟨by omega⟩, BK, HB⟩
  case round =>
    clear BK HB
    obtain ⟨i, rfl, HK, BK, HB⟩ := hrel
    by_cases hi : i < xs.length
    · obtain ⟨ad, ea, hc, hd⟩ := hr.out.below HB.out i hi
      have HX0 := Aside0.mk (flat_fst xs i)
      have HX1 := Aside0.mk (flat_snd xs i)
      generalize xs.getD i (0, 0) = X at hc hd HX0 HX1
      obtain ⟨X, Y⟩ := X
      have HI := Aside0.mk hi
      have p0 : (0 ≤ (i : Int)) = True := eq_true (by omega)
      have p1 : ((i : Int) < (xs.length : Int)) = True := eq_true (by omega)
      have Hw : Aside0 (wrap64 ((i : Int) + 1) = ((i + 1 : Nat) : Int)) := ⟨by have := HL.out; unfold wrap64; omega⟩
      clear hi
      cases ea
      go_wp2_with (first | ((with_reducible refine gate_dst (N := 20) rfl ?_); refine goesL_ (some 20) rfl rfl Try.func11 (by kernel_rfl) rfl #[.agg #[.float .f64 X, .float .f64 Y]] rfl (by (try simp only [List.map_toArray, List.map_cons, List.map_nil]); first | done | rfl) ?_; (with_reducible refine (laws_toCx.calls X Y _).mono ?_); rintro e W1 ⟨rfl, hb⟩; refine ⟨_, rfl, ?_⟩; replace BK := Aside0.mk (blk_below BK.out hb); replace HB := Aside0.mk (below_step HB.out hb); clear hb hc hd; have c20 : W1.cell? ⟨w.heap.size, i * 2, none⟩ = some (.float .f64 ((FB (flat xs) (i * 2)).getD (i * 2) 0)) := (blk_cell BK.out (i * 2)).trans (FA_at _ _ (by rw [FB_length _ _ (by rw [flat_length]; have := HI.out; omega), flat_length]; have := HI.out; omega)); have c21 : W1.cell? ⟨w.heap.size, i * 2 + 1, none⟩ = some (.float .f64 ((FB (flat xs) (i * 2)).getD (i * 2 + 1) 0)) := (blk_cell BK.out (i * 2 + 1)).trans (FA_at _ _ (by rw [FB_length _ _ (by rw [flat_length]; have := HI.out; omega), flat_length]; have := HI.out; omega)); have f20 := blk_frozen BK.out (i * 2); have f21 := blk_frozen BK.out (i * 2 + 1)))
      go_roundg (gk - 1)
      case measure => have := HK.out; have := HI.out; omega
      case rel => exact ⟨i + 1, by first | rfl | rw [Hw.out], ⟨by have := HK.out; have := HI.out; omega⟩, ⟨by
        have h := blk_set (blk_set BK.out (i * 2) (.float .f64 X)) (i * 2 + 1) (.float .f64 Y)
        have h0 : X = (flat xs).getD (i * 2) 0 := HX0.out.symm
        have h1 : Y = (flat xs).getD (i * 2 + 1) 0 := HX1.out.symm
        rw [FA_set, FA_set] at h
        rw [show (i + 1) * 2 = i * 2 + 1 + 1 by omega, ← FB_step (flat xs) (i * 2 + 1) (by rw [flat_length]; have := HI.out; omega), ← FB_step (flat xs) (i * 2) (by rw [flat_length]; have := HI.out; omega), ← h0, ← h1]
        exact h⟩, ⟨below_set (below_set HB.out (Nat.le_refl _)) (Nat.le_refl _)⟩⟩
    · have e : i = xs.length := by have := HK.out; omega
      have BK2 : Aside0 (wr.heap[w.heap.size]? = some (.cells (FA (flat xs)) 25 (0, 0))) := ⟨by have := BK.out; rw [e, ← flat_length, FB_full] at this; exact this⟩
      clear e BK HK
      go_wp2
      go_ret
      exact ⟨_, rfl, BK2.out, Nat.le_refl _, HB.out⟩
end Go.Proofs.Ytihmoiheiglohaa.PFnExactPower
