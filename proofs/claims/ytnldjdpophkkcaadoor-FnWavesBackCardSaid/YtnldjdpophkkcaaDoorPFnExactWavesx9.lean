/- FnExactWaves, FnExactBack, FnWavesBack: walks, floats told up to NaN. Written by wip/barred/gen_waves.py. -/
import Derived.Test.YtnldjdpophkkcaaDoorPFnExactWavesx6
import Derived.Test.YtnldjdpophkkcaaDoorPFnExactWavesx7
import Derived.Test.YtnldjdpophkkcaaDoorPFnExactWavesx8
import Derived.Outline
import Derived.LoopN
import Derived.RegionTactic
import Derived.BigRegion
namespace Go.Proofs.YtnldjdpophkkcaaDoor.PFnExactWaves
open Go.RowKit Go.Proofs.YtnldjdpophkkcaaDoorW.PrintWords Go.Proofs.YtnldjdpophkkcaaDoorW.PrintLast Go.Proofs.YtnldjdpophkkcaaDoorW.PrintMore Go.Proofs.YtnldjdpophkkcaaDoor.Fl
attribute [local go_sem] run_store_float
set_option linter.unusedVariables false
set_option linter.unusedSimpArgs false
attribute [local go_sem] max2_int min2_int max_two min_two max_three min_three max_four min_four
theorem spec_l3Sum.calls (A : Option Addr) (cap : Nat) (back : Bool) (xs : List (Nat × Nat)) (w : World) (hr : Aside0 (RC w A xs)) :
    Calls Tryd.prog 18 #[.slice A xs.length cap, .bool back] w fun e w' => ∃ B c zs, e = .returned (.slice B zs.length c) ∧ Row w' w.heap.size B zs.length 28 (flat zs) ∧ SP zs (wvs back xs) ∧ Below w.heap.size w w' := by
  cases hg : good xs.length with
  | false =>
    refine (spec_l3Sum.no A cap back xs w hg).mono ?_
    rintro e w' ⟨g, rfl, hge, hb⟩
    exact ⟨_, _, [], rfl, .inl rfl, by rw [wvs, hg]; exact SP.nil, hb⟩
  | true =>
    have key : ∀ n, xs.length = n → (Calls Tryd.prog 18 #[.slice A n cap, .bool back] w fun e w' => ∃ B c zs, e = .returned (.slice B n c) ∧ zs.length = n ∧ Row w' w.heap.size B n 28 (flat zs) ∧ SP zs ((List.range n).map (fin back xs)) ∧ Below w.heap.size w w') → Calls Tryd.prog 18 #[.slice A xs.length cap, .bool back] w fun e w' => ∃ B c zs, e = .returned (.slice B zs.length c) ∧ Row w' w.heap.size B zs.length 28 (flat zs) ∧ SP zs (wvs back xs) ∧ Below w.heap.size w w' := by
      intro n hn h
      rw [hn]
      refine h.mono ?_
      rintro e w' ⟨B, c, zs, rfl, hl, h1, h2, h3⟩
      refine ⟨B, c, zs, by rw [hl], by rw [hl]; exact h1, ?_, h3⟩
      rw [wvs, hg, if_pos rfl, hn]
      exact h2
    rcases good_cases hg with h | h | h | h
    · exact key 1 h (spec_l3Sum.yes1 A cap back xs w hr ⟨h⟩)
    · exact key 2 h (spec_l3Sum.yes2 A cap back xs w hr ⟨h⟩)
    · exact key 4 h (spec_l3Sum.yes4 A cap back xs w hr ⟨h⟩)
    · exact key 8 h (spec_l3Sum.yes8 A cap back xs w hr ⟨h⟩)
end Go.Proofs.YtnldjdpophkkcaaDoor.PFnExactWaves
