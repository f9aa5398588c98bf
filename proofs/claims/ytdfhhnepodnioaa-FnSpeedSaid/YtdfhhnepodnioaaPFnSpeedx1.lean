/- The functions that the law reaches, as Lean functions, each with the proof that the Go code comes to just these answers. Written by a program of this session (wip/tools/handprint.py over the kit's print); by hand where the print takes no such text. -/
import Derived.Test.YtdfhhnepodnioaaPFnSpeedx0
namespace Go.Proofs.Ytdfhhnepodnioaa.PFnSpeed
open Go.RowKit Go.Proofs.YtdfhhnepodnioaaW.PrintWords Go.Proofs.YtdfhhnepodnioaaW.PrintLast Go.Proofs.YtdfhhnepodnioaaW.PrintMore
attribute [local go_sem] max2_int min2_int max_two min_two max_three min_three max_four min_four   -- for this text's walks alone
set_option linter.unusedVariables false
set_option linter.unusedSimpArgs false

/-! ### function values of the kind I -/
abbrev GtI := Int → Option (Bool)
def GI.f (fv : GtI) (x0 : Int) : Option (Bool) := fv x0
/-- The closure (its function's number, what it captured) has a body, and answers as 'fv' in every later world. -/
structure FnOkI (W : World) (f : FuncId) (cap : Array Value) (fv : GtI) : Prop where
  body : HasBody Try.prog f
  ok : ∀ (w : World), Below W.heap.size W w → ∀ (x0 : Int) (r0 : Bool), fv x0 = some r0 → Calls Try.prog f (#[.int .i64 x0] ++ cap) w fun e w' => e = .returned (.bool r0) ∧ Below w.heap.size w w'
theorem FnOkI.mono {W W' : World} {f : FuncId} {cap : Array Value} {fv : GtI} (h : FnOkI W f cap fv) (hb : Below W.heap.size W W') : FnOkI W' f cap fv := ⟨h.body, fun w hw => h.ok w (below_step hb hw)⟩
theorem GI.calls {W : World} {f : FuncId} {cap : Array Value} {fv : GtI} (ha : FnOkI W f cap fv) (x0 : Int) (r0 : Bool) (w : World) (hb : Below W.heap.size W w) (h : GI.f fv x0 = some r0) : Calls Try.prog f (#[.int .i64 x0] ++ cap) w fun e w' => e = .returned (.bool r0) ∧ Below w.heap.size w w' := ha.ok w hb _ _ h

/-! ### function values of the kind K -/
abbrev GtK := Int → Int → Option (Bool)
def GK.f (fv : GtK) (x0 : Int) (x1 : Int) : Option (Bool) := fv x0 x1
/-- The closure (its function's number, what it captured) has a body, and answers as 'fv' in every later world. -/
structure FnOkK (W : World) (f : FuncId) (cap : Array Value) (fv : GtK) : Prop where
  body : HasBody Try.prog f
  ok : ∀ (w : World), Below W.heap.size W w → ∀ (x0 : Int) (x1 : Int) (r0 : Bool), fv x0 x1 = some r0 → Calls Try.prog f (#[.agg #[.int .i64 x0, .int .i64 x1]] ++ cap) w fun e w' => e = .returned (.bool r0) ∧ Below w.heap.size w w'
theorem FnOkK.mono {W W' : World} {f : FuncId} {cap : Array Value} {fv : GtK} (h : FnOkK W f cap fv) (hb : Below W.heap.size W W') : FnOkK W' f cap fv := ⟨h.body, fun w hw => h.ok w (below_step hb hw)⟩
theorem GK.calls {W : World} {f : FuncId} {cap : Array Value} {fv : GtK} (ha : FnOkK W f cap fv) (x0 : Int) (x1 : Int) (r0 : Bool) (w : World) (hb : Below W.heap.size W w) (h : GK.f fv x0 x1 = some r0) : Calls Try.prog f (#[.agg #[.int .i64 x0, .int .i64 x1]] ++ cap) w fun e w' => e = .returned (.bool r0) ∧ Below w.heap.size w w' := ha.ok w hb _ _ _ h

/-! ### impl_between_1: function 54 -/
-- the closure that asks whether a key is not ahead of t
def impl_between_1.g (t : Int) (x0 x1 : Int) : Option Bool := some (decide (t ≤ x0))
set_option maxHeartbeats 4000000 in
set_option maxRecDepth 100000 in
theorem impl_between_1.ok {W : World} {gb : Nat} {t : Int} (hb : W.heap[gb]? = some (.cells #[.int .i64 t] 2 (0, 0))) :
    FnOkK W 54 #[.pointer (some ⟨gb, 0, none⟩)] (impl_between_1.g t) := by
  refine ⟨⟨_, Try.func54, by kernel_rfl, rfl⟩, fun w hw x0 x1 r h => ?_⟩
  have hc : w.cell? ⟨gb, 0, none⟩ = some (.int .i64 t) := (blk_cell (blk_below hb hw) 0).trans rfl
  have hlt : gb < w.heap.size := blk_lt (blk_below hb hw)
  obtain rfl : decide (t ≤ x0) = r := Option.some.inj h
  show Calls Try.prog 54 #[.agg #[.int .i64 x0, .int .i64 x1], .pointer (some ⟨gb, 0, none⟩)] w _
  clear hb hw h
  have HB := Aside0.mk (Below.refl w.heap.size w)
  have hu := Try.underlying38
  have hc2 : ∀ o, (w.alloc o).cell? ⟨gb, 0, none⟩ = some (.int .i64 t) := fun o => (World.cell?_alloc_past o _ _ hlt).trans hc
  go_enter Try.func54, Try.ntmps54
  go_wp2
  go_ret
  exact ⟨rfl, by repeat (first | exact HB.out | apply pw_below_drewN | apply below_drew1 | apply below_alloc)⟩


/-! ### spec_l1In: function 49 -/
def spec_l1In.f (a0 : Int) (a1 : Int) (a2 : Int) : Option (Bool) := if a0 ≥ a1 then (some (decide (a0 ≤ a2))) else (some false)
set_option maxHeartbeats 8000000 in
set_option maxRecDepth 100000 in
theorem spec_l1In.calls (a0 : Int) (a1 : Int) (a2 : Int) (r : Bool) (w : World) (h : spec_l1In.f a0 a1 a2 = some r) :
    Calls Try.prog 49 #[.int .i64 a0, .int .i64 a1, .int .i64 a2] w fun e w' => e = .returned (.bool r) ∧ Drawn0 w w' := by
  have H : (if a0 ≥ a1 then (some (decide (a0 ≤ a2))) else (some false)) = some r := h
  clear h
  by_cases c4 : a0 ≥ a1
  · rw [if_pos c4] at H
    have c4b0 : decide (a1 ≤ a0) = true := decide_eq_true c4
    clear c4
    obtain rfl := Option.some.inj H
    go_enter Try.func49, Try.ntmps49
    go_wp2
    go_ret
    exact ⟨by first | rfl | (simp; done) | (simp [*]; done), by repeat (first | exact Drawn0.refl _ | apply Drawn0.step)⟩
  · rw [if_neg c4] at H
    have c4b0 : decide (a1 ≤ a0) = false := decide_eq_false c4
    clear c4
    obtain rfl := Option.some.inj H
    go_enter Try.func49, Try.ntmps49
    go_wp2
    go_ret
    exact ⟨by first | rfl | (simp; done) | (simp [*]; done), by repeat (first | exact Drawn0.refl _ | apply Drawn0.step)⟩

/-! ### spec_l1Frame: function 29 -/
def spec_l1Frame.f (a0 : Int) : Option (Bool) := (spec_l1In.f a0 0 10000000).bind fun t101 => (some t101)
set_option maxHeartbeats 8000000 in
set_option maxRecDepth 100000 in
theorem spec_l1Frame.calls (a0 : Int) (r : Bool) (w : World) (h : spec_l1Frame.f a0 = some r) :
    Calls Try.prog 29 #[.int .i64 a0] w fun e w' => e = .returned (.bool r) ∧ Drawn0 w w' := by
  have H : ((spec_l1In.f a0 0 10000000).bind fun t101 => (some t101)) = some r := h
  clear h
  replace H := Option.bind_eq_some_iff.mp H
  obtain ⟨t101, A20, H⟩ := H
  replace H : (some t101) = some r := H
  have A2 := Aside0.mk A20
  clear A20
  obtain rfl := Option.some.inj H
  go_enter Try.func29, Try.ntmps29
  go_wp2_with (first | ((with_reducible refine gate_callee (f := 49) rfl ?_); refine goesL_ (some 4) rfl rfl Try.func49 (by kernel_rfl) rfl #[.int .i64 a0, .int .i64 0, .int .i64 10000000] rfl (by (try simp only [List.map_toArray, List.map_cons, List.map_nil]); first | done | rfl | (simp only [List.length_drop, List.length_take]; rfl)) ?_; (with_reducible refine (spec_l1In.calls a0 0 10000000 t101 _ A2.out).mono ?_); rintro e w' ⟨rfl, ⟨nd, rfl⟩⟩; refine ⟨_, rfl, ?_⟩))
  go_ret
  exact ⟨by first | rfl | (simp; done) | (simp [*]; done), by repeat (first | exact Drawn0.refl _ | apply Drawn0.step)⟩

end Go.Proofs.Ytdfhhnepodnioaa.PFnSpeed
