/- How an argument of any plain shape is opened, over the kinds that the print uses (whole numbers, bools, strings, floats, structs, slices of these). No condition. -/
import Derived.Test.YtbafihapjbkagaaVFnExactFlatWWords
import Derived.Deep.Slices
import Derived.ProofKit
import Derived.Carry
namespace Go.Proofs.Ytbafihapjbkagaa.Mine
set_option linter.unusedVariables false
open Go.ChangeShapes Go.WideShapes Go.ChangeAt Go.RowKit Go.Deep
 Go.Proofs.YtbafihapjbkagaaW.PrintWords

/-- What reads at type t is of kind d, and as wf says. -/
def Opens {α : Type} (P : Program) (W : World) (t : TypeId) (d : Kd α) (wf : α → Prop) : Prop :=
  ∀ (H : Type) (enc : TypeId × Value → H) (fuel : Nat) (cs : List Value) (y : DataW H × List MemPlace),
    DataW.trod enc P W 0 (fun _ => true) true fuel t cs = some y → ∃ x, d.K W x cs ∧ wf x

section
variable {P : Program} {W : World}

theorem opens_int {t : TypeId} {k : IntKind} (hu : P.underlying t = some (.int k)) : Opens P W t (Kd.int k) (fun x => (Lit.int k x).wf = true) := by
  intro H enc fuel cs y h
  obtain ⟨n, rfl, rfl, hw⟩ := DataW.trod_int hu h
  exact ⟨n, rfl, hw⟩

/-- The fields of a struct from place o on. -/
def OpensFs {α : Type} (P : Program) (W : World) (fs : List Field) (o : Nat) (d : Kd α) (wf : α → Prop) : Prop :=
  ∀ (H : Type) (enc : TypeId × Value → H) (fuel : Nat) (cs : List Value) (xs : List (DataW H × List MemPlace)), cs.length = o + d.sz →
    (∀ (i : Nat) (f : Field), fs[i]? = some f → ∃ x, DataW.trod enc P W 0 (fun _ => true) true fuel f.type ((cs.drop f.offset).take (P.cellsOf f.type)) = some x) → ∃ x, d.K W x (cs.drop o) ∧ wf x

theorem opens_one {α : Type} {d : Kd α} {wf : α → Prop} {f : Field} {o : Nat} (ho : f.offset = o) (hc : P.cellsOf f.type = d.sz) (h : Opens P W f.type d wf) : OpensFs P W [f] o d wf := by
  intro H enc fuel cs xs hl hx
  obtain ⟨x, hx⟩ := hx 0 f rfl
  rw [ho, hc, List.take_of_length_le (by rw [List.length_drop]; omega)] at hx
  exact h H enc fuel _ _ hx

theorem opens_cons {α β : Type} {d : Kd α} {e : Kd β} {wf : α → Prop} {wf' : β → Prop} {f : Field} {fs : List Field} {o : Nat} (ho : f.offset = o) (hc : P.cellsOf f.type = d.sz) (h : Opens P W f.type d wf)
    (hs : OpensFs P W fs (o + d.sz) e wf') : OpensFs P W (f :: fs) o (Kd.pair d e) (fun x => wf x.1 ∧ wf' x.2) := by
  intro H enc fuel cs xs hl hx
  have hl' : cs.length = o + (d.sz + e.sz) := hl
  obtain ⟨x, hx0⟩ := hx 0 f rfl
  rw [ho, hc] at hx0
  obtain ⟨a, ha, hwa⟩ := h H enc fuel _ _ hx0
  obtain ⟨b, hb, hwb⟩ := hs H enc fuel cs xs (by omega) (fun i g hg => hx (i + 1) g (by simpa using hg))
  refine ⟨(a, b), ⟨_, _, ?_, ha, hb⟩, hwa, hwb⟩
  rw [← List.drop_drop, List.take_append_drop]

theorem opens_struct {α : Type} {d : Kd α} {wf : α → Prop} {t : TypeId} {fs : Array Field} (hu : P.underlying t = some (.struct fs)) (hc : P.cellsOf t = d.sz) (h : OpensFs P W fs.toList 0 d wf) : Opens P W t d wf := by
  intro H enc fuel cs y hy
  obtain ⟨xs, n, rfl, rfl, hl, hn, hf⟩ := DataW.trod_struct hu hy
  have := h H enc n cs xs (by omega) (fun i f hi => by
    have hi' : fs[i]? = some f := by simpa using hi
    have e := hf i f hi'
    have hlt : i < xs.length := by
      have := (Array.getElem?_eq_some_iff.1 hi').1
      omega
    rw [List.getElem?_eq_getElem hlt] at e
    exact ⟨_, e⟩)
  simpa using this

theorem opens_iso {α β : Type} {d : Kd α} {wf : α → Prop} {wf' : β → Prop} {t : TypeId} (f : β → α) (g : α → β) (hfg : ∀ x, f (g x) = x) (hw : ∀ x, wf x → wf' (g x)) (h : Opens P W t d wf) : Opens P W t (Kd.iso d f) wf' := by
  intro H enc fuel cs y hy
  obtain ⟨x, hx, hwx⟩ := h H enc fuel cs y hy
  exact ⟨g x, show d.K W (f (g x)) cs by rw [hfg]; exact hx, hw x hwx⟩

theorem opens_slice {α : Type} [Inhabited α] {d : Kd α} {wf : α → Prop} {t e : TypeId} (q : Nat) (hu : P.underlying t = some (.slice e)) (hc : P.cellsOf e = d.sz) (h : Opens P W e d wf) :
    Opens P W t (Kd.slice q d) (fun xs => xs.length ≤ maxLen ∧ ∀ x ∈ xs, wf x) := by
  intro H enc fuel cs y hy
  rcases open_slice hu hy with ⟨rfl, _⟩ | ⟨a, len, cap, m, n, D, Pl, rfl, _, hl, hm, hmm, _, hx⟩
  · exact ⟨[], ⟨none, 0, rfl, Nat.le_refl _, rfl, by simp, fun h => absurd h (by simp)⟩, by simp [maxLen], by simp⟩
  · have hlen : len ≤ m := by rw [hmm]; simpa using hl
    obtain ⟨f, hf⟩ := choose_lt (α := α) (n := len) (p := fun i x => ∃ c, W.cells? 0 (a.add (i * P.cellsOf e)) (P.cellsOf e) = some c ∧ d.K W x c ∧ wf x) (fun i hi => by
      obtain ⟨c, h1, h2⟩ := hx i (by omega)
      obtain ⟨x, hk, hw⟩ := h H enc n c _ h2
      exact ⟨x, c, h1, hk, hw⟩)
    have hll : ((List.range len).map f).length = len := by simp
    refine ⟨(List.range len).map f, ⟨some a, cap, by rw [hll], by rw [hll]; exact hl, rfl, by rw [hll]; unfold maxLen at hm; omega, fun _ => ⟨a, rfl, fun j p hj => ?_⟩⟩, by rw [hll]; omega, fun x hx => ?_⟩
    · have hj2 : j < len := by
        have := (List.getElem?_eq_some_iff.1 hj).1
        omega
      have hp : f j = p := by
        rw [List.getElem?_map, List.getElem?_range hj2] at hj
        simpa using hj
      obtain ⟨c, h1, hk, hw⟩ := hf j hj2
      obtain ⟨_, h3, h4⟩ := World.cells?_some h1
      rw [hp] at hk
      refine ⟨c, by rw [h3, hc], hk, fun i u hi => ?_⟩
      have hil : i < P.cellsOf e := by
        have := (List.getElem?_eq_some_iff.1 hi).1
        omega
      have h5 := h4 i hil
      rw [Addr.add_add, hc] at h5
      rw [h5, hi]
    · obtain ⟨j, hj, rfl⟩ := List.mem_map.1 hx
      obtain ⟨c, _, _, hw⟩ := hf j (by simpa using hj)
      exact hw
end

end Go.Proofs.Ytbafihapjbkagaa.Mine
