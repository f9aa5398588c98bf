/- FnWavesBack: pick's answers. Written by wip/barred/gen_wavesback.py. -/
import Derived.Test.YtnldjdpophkkcaaDoorPFnWavesBackx1
import Derived.Test.YtnldjdpophkkcaaDoorPFnExactWavesx4
import Derived.Outline
import Derived.LoopN
import Derived.RegionTactic
import Derived.BigRegion
import Derived.Deep.QuietTactic
import Derived.BigQuiet
namespace Go.Proofs.YtnldjdpophkkcaaDoor.PFnWavesBack
open Go.RowKit Go.Proofs.YtnldjdpophkkcaaDoorW.PrintWords Go.Proofs.YtnldjdpophkkcaaDoorW.PrintLast Go.Proofs.YtnldjdpophkkcaaDoorW.PrintMore Go.Proofs.YtnldjdpophkkcaaDoor.Fl Go.Proofs.YtnldjdpophkkcaaDoor.PFnExactWaves
attribute [local go_sem] run_store_float
set_option linter.unusedVariables false
set_option linter.unusedSimpArgs false
attribute [local go_sem] max2_int min2_int max_two min_two max_three min_three max_four min_four
/-- Small numbers, each a byte. -/
def Bytes (l : List Int) : Prop := ∀ i : Nat, i < l.length → 0 ≤ l.getD i 0 ∧ l.getD i 0 ≤ 255
theorem Bytes.cons {l : List Int} (h : Bytes l) (x : Int) (h0 : 0 ≤ x) (h1 : x ≤ 255) : Bytes ([x] ++ l) := by
  intro i hi
  cases i with
  | zero => exact ⟨h0, h1⟩
  | succ i => exact h i (by simpa using hi)
theorem pick_l0 (l : List Int) (n : Int) (hn : 0 < n) (hb : Bytes l) : ∀ (m j : Nat) (x5 : Int), j + m = l.length → 0 ≤ x5 → x5 ≤ 1000003 → l.length ≤ 5000 → ∃ r : Nat, (r : Int) < n ∧ laws_pick.l0 (m + 1) l n x5 j = some (r : Int)
  | 0, j, x5, hj, h0, h1, hl => by
    refine ⟨(x5 % n).toNat, ?_, ?_⟩
    · have := Int.emod_lt_of_pos x5 hn
      have := Int.emod_nonneg x5 (by omega : n ≠ 0)
      omega
    · unfold laws_pick.l0
      rw [if_neg (by omega), if_neg (by omega), Int.tmod_eq_emod_of_nonneg h0]
      have := Int.emod_nonneg x5 (by omega : n ≠ 0)
      congr 1
      omega
  | m + 1, j, x5, hj, h0, h1, hl => by
    unfold laws_pick.l0
    rw [if_pos (by omega), if_pos (by omega)]
    have hx := hb j (by omega)
    have e : rd l (j : Int) = l.getD j 0 := by simp [rd]
    rw [e]
    generalize l.getD j 0 = b at hx
    have w1 : wrap64 (x5 * 43) = x5 * 43 := by unfold wrap64; omega
    have w2 : wrap64 b = b := by unfold wrap64; omega
    have w3 : wrap64 (x5 * 43 + b) = x5 * 43 + b := by unfold wrap64; omega
    have w4 : wrap64 ((j : Int) + 1) = ((j + 1 : Nat) : Int) := by unfold wrap64; omega
    rw [w1, w2, w3, w4, Int.tmod_eq_emod_of_nonneg (by omega)]
    exact pick_l0 l n hn hb m (j + 1) _ (by omega) (by omega) (by omega) hl
theorem pick_some (l : List Int) (n : Int) (hn : 0 < n) (hb : Bytes l) (hl : l.length ≤ 5000) : ∃ (k r : Nat), (r : Int) < n ∧ laws_pick.f k l n = some (r : Int) := by
  obtain ⟨r, h1, h2⟩ := pick_l0 l n hn hb l.length 0 (l.length : Int) (by omega) (by omega) (by omega) hl
  exact ⟨l.length + 1, r, h1, h2⟩
/-- append of one byte ahead of a row that came in. -/
theorem lit_byte (W : World) (base : Nat) (x : Int) (hb : base ≤ W.heap.size) : (W.alloc (.cells #[.int .u8 x] 5)).ownsRow base 5 1 (.slice (some ⟨W.heap.size, 0, none⟩) 1 1) 1 (nums .u8 [x]) := own_lit W base 5 .u8 [x] hb (by simp)
theorem lit_two (W : World) (base : Nat) (x y : Int) (hb : base ≤ W.heap.size) : (W.alloc (.cells #[.int .u8 x, .int .u8 y] 5)).ownsRow base 5 1 (.slice (some ⟨W.heap.size, 0, none⟩) 2 2) 2 (nums .u8 [x, y]) := own_lit W base 5 .u8 [x, y] hb (by simp)
end Go.Proofs.YtnldjdpophkkcaaDoor.PFnWavesBack
