/- FnExactWaves, FnExactBack, FnWavesBack: walks, floats told up to NaN. Written by wip/barred/gen_turned.py. -/
import Derived.Test.YtnldjdpophkkcaaDoorPFnExactWavesx14
import Derived.Test.YtnldjdpophkkcaaDoorPFnExactWavesx9
import Derived.Outline
import Derived.LoopN
import Derived.RegionTactic
import Derived.BigRegion
namespace Go.Proofs.YtnldjdpophkkcaaDoor.PFnExactWaves
open Go.RowKit Go.Proofs.YtnldjdpophkkcaaDoorW.PrintWords Go.Proofs.YtnldjdpophkkcaaDoorW.PrintLast Go.Proofs.YtnldjdpophkkcaaDoorW.PrintMore Go.Proofs.YtnldjdpophkkcaaDoor.Fl
attribute [local go_sem] run_store_float
set_option linter.unusedVariables false
set_option linter.unusedSimpArgs false
attribute [local go_sem] max2_int min2_int max_two min_two max_three min_three max_four min_four
theorem flat_set (zs : List (Nat × Nat)) (i : Nat) (p : Nat × Nat) : flat (zs.set i p) = ((flat zs).set (i * 2) p.1).set (i * 2 + 1) p.2 := by
  induction zs generalizing i with
  | nil => simp [flat]
  | cons x l ih =>
    cases i with
    | zero => simp [flat]
    | succ i => rw [List.set_cons_succ, flat, ih, flat, show (i + 1) * 2 = i * 2 + 1 + 1 by omega]; rfl
theorem wvs_dv (xs : List (Nat × Nat)) : wvs true xs = (trn true xs).map (dv xs.length) := by
  unfold wvs trn
  split
  · rw [List.map_map]; congr 1
  · rfl
theorem wvs_trn (xs : List (Nat × Nat)) : wvs false xs = trn false xs := by
  unfold wvs trn
  split <;> rfl
/-- The first i pairs are divided. -/
def DV (n i : Nat) (ys T : List (Nat × Nat)) : Prop := ys.length = T.length ∧ ∀ m, m < T.length → S2 (ys.getD m (0, 0)) (if m < i then dv n (T.getD m (0, 0)) else T.getD m (0, 0))
theorem DV.zero {n : Nat} {ys T : List (Nat × Nat)} (h : SP ys T) : DV n 0 ys T := ⟨h.1, fun m _ => by rw [if_neg (by omega)]; exact h.2 m⟩
theorem DV.step {n i : Nat} {ys T : List (Nat × Nat)} {p : Nat × Nat} (h : DV n i ys T) (hi : i < T.length) (hp : S2 p (dv n (T.getD i (0, 0)))) : DV n (i + 1) (ys.set i p) T := by
  refine ⟨by rw [List.length_set]; exact h.1, fun m hm => ?_⟩
  by_cases e : i = m
  · subst e
    rw [if_pos (by omega), List.getD_eq_getElem?_getD, List.getElem?_set_self (by rw [h.1]; exact hi)]
    exact hp
  · rw [List.getD_eq_getElem?_getD, List.getElem?_set_ne e, ← List.getD_eq_getElem?_getD]
    have h2 := h.2 m hm
    by_cases h3 : m < i
    · rw [if_pos (by omega)]; rw [if_pos h3] at h2; exact h2
    · rw [if_neg (by omega)]; rw [if_neg h3] at h2; exact h2
theorem DV.at_ {n i : Nat} {ys T : List (Nat × Nat)} (h : DV n i ys T) (hi : i < T.length) : S2 (ys.getD i (0, 0)) (T.getD i (0, 0)) := by
  have h2 := h.2 i hi
  rwa [if_neg (by omega)] at h2
theorem DV.full {n : Nat} {ys T : List (Nat × Nat)} (h : DV n T.length ys T) : SP ys (T.map (dv n)) := by
  refine ⟨by rw [List.length_map]; exact h.1, fun m => ?_⟩
  by_cases hm : m < T.length
  · have h2 := h.2 m hm
    rw [if_pos hm] at h2
    rw [show (T.map (dv n)).getD m (0, 0) = dv n (T.getD m (0, 0)) by simp [hm]]
    exact h2
  · rw [List.getD_eq_getElem?_getD, List.getD_eq_getElem?_getD, List.getElem?_eq_none (by rw [h.1]; omega), List.getElem?_eq_none (by rw [List.length_map]; omega)]
    exact S2.rfl
theorem Row.put {w : World} {base g n t : Nat} {zs : List Nat} (h : OB w g t zs) (hg : base ≤ g) : Row w base (some ⟨g, 0, none⟩) n t zs := .inr ⟨g, rfl, hg, h⟩
set_option maxHeartbeats 8000000 in
set_option maxRecDepth 100000 in
theorem spec_Waves.calls (A : Option Addr) (cap : Nat) (xs : List (Nat × Nat)) (w : World) (hr : Aside0 (RC w A xs)) :
    Calls Tryd.prog 11 #[.slice A xs.length cap] w fun e w' => ∃ B c zs, e = .returned (.slice B zs.length c) ∧ Row w' w.heap.size B zs.length 28 (flat zs) ∧ SP zs (wvs false xs) ∧ Below w.heap.size w w' := by
  have hu25 := Tryd.underlying25
  go_enter Tryd.func11, Tryd.ntmps11
  go_wp2_with (first | ((with_reducible refine gate_dst (N := 4) rfl ?_); refine goesL_ (some 4) rfl rfl Tryd.func18 (by kernel_rfl) rfl #[.slice A xs.length cap, .bool false] rfl (by (try simp only [List.map_toArray, List.map_cons, List.map_nil]); first | done | rfl) ?_; (with_reducible refine (spec_l3Sum.calls A cap false xs _ hr).mono ?_); rintro e W1 ⟨B, c, zs, rfl, hR, hs, hb⟩; refine ⟨_, rfl, ?_⟩; have HR := Aside0.mk (And.intro hR (And.intro hs hb)); clear hR hs hb))
  go_ret
  exact ⟨B, c, zs, rfl, HR.out.1, HR.out.2.1, HR.out.2.2⟩
set_option maxHeartbeats 8000000 in
set_option maxRecDepth 100000 in
theorem spec_Back.calls (A : Option Addr) (cap : Nat) (xs : List (Nat × Nat)) (w : World) (hr : Aside0 (RC w A xs)) :
    Calls Tryd.prog 16 #[.slice A xs.length cap] w fun e w' => ∃ B c zs, e = .returned (.slice B zs.length c) ∧ Row w' w.heap.size B zs.length 28 (flat zs) ∧ SP zs (wvs true xs) ∧ Below w.heap.size w w' := by
  have hu25 := Tryd.underlying25
  go_enter Tryd.func16, Tryd.ntmps16
  go_wp2_with (first | ((with_reducible refine gate_dst (N := 4) rfl ?_); refine goesL_ (some 4) rfl rfl Tryd.func18 (by kernel_rfl) rfl #[.slice A xs.length cap, .bool true] rfl (by (try simp only [List.map_toArray, List.map_cons, List.map_nil]); first | done | rfl) ?_; (with_reducible refine (spec_l3Sum.calls A cap true xs _ hr).mono ?_); rintro e W1 ⟨B, c, zs, rfl, hR, hs, hb⟩; refine ⟨_, rfl, ?_⟩; have HR := Aside0.mk (And.intro hR (And.intro hs hb)); clear hR hs hb))
  go_ret
  exact ⟨B, c, zs, rfl, HR.out.1, HR.out.2.1, HR.out.2.2⟩
set_option maxHeartbeats 8000000 in
set_option maxRecDepth 100000 in
theorem impl_Waves.calls (A : Option Addr) (cap : Nat) (xs : List (Nat × Nat)) (w : World) (hr : Aside0 (RC w A xs)) (hm : Aside0 (Mx w)) :
    Calls Tryd.prog 8 #[.slice A xs.length cap] w fun e w' => ∃ B c zs, e = .returned (.slice B zs.length c) ∧ Row w' w.heap.size B zs.length 28 (flat zs) ∧ SP zs (trn false xs) ∧ Below w.heap.size w w' := by
  have hu25 := Tryd.underlying25
  go_enter Tryd.func8, Tryd.ntmps8
  go_wp2_with (first | ((with_reducible refine gate_dst (N := 4) rfl ?_); refine goesL_ (some 4) rfl rfl Tryd.func17 (by kernel_rfl) rfl #[.slice A xs.length cap, .bool false] rfl (by (try simp only [List.map_toArray, List.map_cons, List.map_nil]); first | done | rfl) ?_; (with_reducible refine (impl_turned.calls A cap false xs _ hr hm).mono ?_); rintro e W1 ⟨B, c, zs, rfl, hR, hs, hb⟩; refine ⟨_, rfl, ?_⟩; have HR := Aside0.mk (And.intro hR (And.intro hs hb)); clear hR hs hb))
  go_ret
  exact ⟨B, c, zs, rfl, HR.out.1, HR.out.2.1, HR.out.2.2⟩
end Go.Proofs.YtnldjdpophkkcaaDoor.PFnExactWaves
