/- FnExactAgree: the walks, floats told up to NaN. -/
import Derived.Test.YtihmoiheiglohaaPFnExactProductx1
namespace Go.Proofs.Ytihmoiheiglohaa.PFnExactAgree
open Go.RowKit Go.Proofs.YtihmoiheiglohaaW.PrintWords Go.Proofs.YtihmoiheiglohaaW.PrintLast Go.Proofs.YtihmoiheiglohaaW.PrintMore Go.Proofs.Ytihmoiheiglohaa.Fl Go.Proofs.Ytihmoiheiglohaa.PFnExactProduct
attribute [local go_sem] run_store_float
set_option linter.unusedVariables false
set_option linter.unusedSimpArgs false
/-- A slice of floats that reads as xs. -/
def RF (w : World) (A : Option Addr) (xs : List Nat) : Prop := ∀ i, i < xs.length → ∃ ad, A = some ad ∧ w.cell? (ad.add i) = some (.float .f64 (xs.getD i 0))
theorem RF.below {w w' : World} {A : Option Addr} {xs : List Nat} (h : RF w A xs) (hb : Below w.heap.size w w') : RF w' A xs := fun i hi => by
  obtain ⟨ad, e, hc⟩ := h i hi
  exact ⟨ad, e, (hb.cell (World.block_lt_of_cell? w _ hc)).trans hc⟩
def FA (xs : List Nat) : Array Value := (xs.map fun x => Value.float .f64 x).toArray
theorem FA_at (xs : List Nat) (i : Nat) (hi : i < xs.length) : (FA xs)[i]? = some (.float .f64 (xs.getD i 0)) := by simp [FA, hi]
theorem FA_set (xs : List Nat) (i x : Nat) : (FA xs).setIfInBounds i (.float .f64 x) = FA (xs.set i x) := by
  unfold FA
  rw [List.setIfInBounds_toArray, List.map_set]
theorem RF.of_blk {w : World} {g : Nat} {xs : List Nat} (h : w.heap[g]? = some (.cells (FA xs) 22 (0, 0))) : RF w (some ⟨g, 0, none⟩) xs := fun i hi => ⟨_, rfl, by rw [add_plain]; exact (blk_cell h i).trans (FA_at xs i hi)⟩
/-- i elements written. -/
def FB (xs : List Nat) (i : Nat) : List Nat := xs.take i ++ List.replicate (xs.length - i) 0
theorem FB_length (xs : List Nat) (i : Nat) (hi : i ≤ xs.length) : (FB xs i).length = xs.length := by simp [FB]; omega
theorem FB_zero (xs : List Nat) : FB xs 0 = List.replicate xs.length 0 := by simp [FB]
theorem FB_full (xs : List Nat) : FB xs xs.length = xs := by simp [FB]
theorem FB_step (xs : List Nat) (i : Nat) (hi : i < xs.length) : (FB xs i).set i (xs.getD i 0) = FB xs (i + 1) := by
  unfold FB
  obtain ⟨m, hm⟩ : ∃ m, xs.length - i = m + 1 := ⟨xs.length - i - 1, by omega⟩
  have hm' : xs.length - (i + 1) = m := by omega
  rw [hm, hm', List.replicate_succ, List.set_append_right _ _ (by simp; omega)]
  rw [show i - (xs.take i).length = 0 by simp; omega, List.set_cons_zero]
  rw [List.take_add_one, List.append_assoc]
  congr 1
  simp [hi]
theorem made_FA (n : Nat) : madeCells #[.float .f64 0] n = FA (List.replicate n 0) := by
  apply Array.ext
  · simp [madeCells, FA]
  · intro i h1 h2
    simp [madeCells, FA]
    rw [Nat.mod_one]
    rfl
set_option maxHeartbeats 8000000 in
set_option maxRecDepth 100000 in
theorem laws_toFloat64S.calls (A : Option Addr) (cap : Nat) (xs : List Nat) (w : World) (hr : Aside0 (RF w A xs)) (hl : xs.length ≤ 1048576) :
    Calls Try.prog 20 #[.slice A xs.length cap] w fun e w' => ∃ g, e = .returned (.slice (some ⟨g, 0, none⟩) xs.length xs.length) ∧ w'.heap[g]? = some (.cells (FA xs) 22 (0, 0)) ∧ w.heap.size ≤ g ∧ Below w.heap.size w w' := by
  have hu36 := Try.underlying36
  have hu22 := Try.underlying22
  have HB := Aside0.mk (Below.refl w.heap.size w)
  have HL := Aside0.mk hl
  have hmk : ∀ W : World, (Instr.makeSlice 36 (.int .i64 (xs.length : Int)) (.int .i64 (xs.length : Int))).run Try.prog W = .ok (.slice (some ⟨W.heap.size, 0, none⟩) xs.length xs.length) (W.alloc (.cells (madeCells #[.float .f64 0] xs.length) 22)) :=
    fun W => run_make_row' 36 22 (.float .f64 0) 8 Try.underlying36 (by kernel_rfl) rfl .i64 .i64 xs.length (by omega) (by omega) W
  clear hl
  rw [made_FA] at hmk
  go_enter Try.func20, Try.ntmps20
  go_wp2
  clear hmk
  have BK : Aside0 ((w.alloc (.cells (FA (List.replicate xs.length 0)) 22)).heap[w.heap.size]? = some (.cells (FA (FB xs 0)) 22 (0, 0))) := ⟨by rw [FB_zero]; exact blk_new w _⟩
  replace HB : Aside0 (Below w.heap.size w (w.alloc (.cells (FA (List.replicate xs.length 0)) 22))) := ⟨below_alloc HB.out _⟩
  generalize w.alloc (.cells (FA (List.replicate xs.length 0)) 22) = w1 at BK HB ⊢
  go_loopg [4] xs.length (fun kq v4 w' => ∃ i : Nat, v4 = .int .i64 (i : Int) ∧ Aside0 (i + kq = xs.length) ∧ Aside0 (w'.heap[w.heap.size]? = some (.cells (FA (FB xs i)) 22 (0, 0))) ∧ Aside0 (Below w.heap.size w w'))
  case atStart => exact ⟨0, rfl, ⟨by omega⟩, BK, HB⟩
  case round =>
    clear BK HB
    obtain ⟨i, rfl, HK, BK, HB⟩ := hrel
    by_cases hi : i < xs.length
    · have c0 : decide ((i : Int) < (xs.length : Int)) = true := decide_eq_true (by omega)
      obtain ⟨ad, ea, hc⟩ := hr.out.below HB.out i hi
      have hc2 : wr.cell? ⟨w.heap.size, i, none⟩ = some (.float .f64 ((FB xs i).getD i 0)) := (blk_cell BK.out i).trans (FA_at _ _ (by rw [FB_length _ _ (by omega)]; exact hi))
      have hf2 := blk_frozen BK.out i
      have HI := Aside0.mk hi
      have p0 : (0 ≤ (i : Int)) = True := eq_true (by omega)
      have p1 : ((i : Int) < (xs.length : Int)) = True := eq_true (by omega)
      have hw : wrap64 ((i : Int) + 1) = ((i + 1 : Nat) : Int) := by have := HL.out; unfold wrap64; omega
      clear hi
      cases ea
      go_wp2
      go_roundg (gk - 1)
      case measure => have := HK.out; have := HI.out; omega
      case rel => exact ⟨i + 1, by rw [hw], ⟨by have := HK.out; have := HI.out; omega⟩, ⟨by have := blk_set BK.out i (.float .f64 (xs.getD i 0)); rw [FA_set, FB_step xs i HI.out] at this; simpa using this⟩, ⟨below_set HB.out (Nat.le_refl _)⟩⟩
    · have c0 : decide ((i : Int) < (xs.length : Int)) = false := decide_eq_false (by omega)
      have e : i = xs.length := by have := HK.out; omega
      have BK2 : Aside0 (wr.heap[w.heap.size]? = some (.cells (FA xs) 22 (0, 0))) := ⟨by have := BK.out; rw [e, FB_full] at this; exact this⟩
      clear e BK HK c0
      go_wp2
      go_ret
      exact ⟨_, rfl, BK2.out, Nat.le_refl _, HB.out⟩
end Go.Proofs.Ytihmoiheiglohaa.PFnExactAgree
