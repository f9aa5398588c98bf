/- How an argument of any plain shape is opened, over the kinds that the print uses (whole numbers, bools, strings, floats, structs, slices of these). No condition. -/
import Derived.Test.YtpennfkjfeipcaaDoorVFnFoundWWords
import Derived.Deep.Slices
import Derived.ProofKit
import Derived.Carry
namespace Go.Proofs.YtpennfkjfeipcaaDoor.Mine
set_option linter.unusedVariables false
open Go.ChangeShapes Go.WideShapes Go.ChangeAt Go.RowKit Go.Deep
 Go.Proofs.YtpennfkjfeipcaaDoorW.PrintWords

/-- What reads at type t is of kind d, and as wf says. -/
def Opens {α : Type} (P : Program) (W : World) (t : TypeId) (d : Kd α) (wf : α → Prop) : Prop :=
  ∀ (H : Type) (enc : TypeId × Value → H) (fuel : Nat) (cs : List Value) (y : DataW H × List MemPlace),
    DataW.trod enc P W 0 (fun _ => true) true fuel t cs = some y → ∃ x, d.K W x cs ∧ wf x

section
variable {P : Program} {W : World}

theorem opens_int {t : TypeId} {k : IntKind} (hu : P.underlying t = some (.int k)) : Opens P W t (Kd.int k) (fun x => (Lit.int k x).wf = true) := by
  intro H enc fuel cs y h
  obtain ⟨n, rfl, rfl, hw⟩ := DataW.trod_int hu h
  exact ⟨n, rfl, hw⟩

theorem opens_slice {α : Type} [Inhabited α] {d : Kd α} {wf : α → Prop} {t e : TypeId} (q : Nat) (hu : P.underlying t = some (.slice e)) (hc : P.cellsOf e = d.sz) (h : Opens P W e d wf) :
    Opens P W t (Kd.slice q d) (fun xs => xs.length ≤ maxLen ∧ ∀ x ∈ xs, wf x) := by
  intro H enc fuel cs y hy
  rcases open_slice hu hy with ⟨rfl, _⟩ | ⟨a, len, cap, m, n, D, Pl, rfl, _, hl, hm, hmm, _, hx⟩
  · exact ⟨[], ⟨none, 0, rfl, Nat.le_refl _, rfl, by simp, fun h => absurd h (by simp)⟩, by simp [maxLen], by simp⟩
  · have hlen : len ≤ m := by rw [hmm]; simpa using hl
    obtain ⟨f, hf⟩ := choose_lt (α := α) (n := len) (p := fun i x => ∃ c, W.cells? 0 (a.add (i * P.cellsOf e)) (P.cellsOf e) = some c ∧ d.K W x c ∧ wf x) (fun i hi => by
      obtain ⟨c, h1, h2⟩ := hx i (by omega)
      obtain ⟨x, hk, hw⟩ := h H enc n c _ h2
      exact ⟨x, c, h1, hk, hw⟩)
    have hll : ((List.range len).map f).length = len := by simp
    refine ⟨(List.range len).map f, ⟨some a, cap, by rw [hll], by rw [hll]; exact hl, rfl, by rw [hll]; unfold maxLen at hm; omega, fun _ => ⟨a, rfl, fun j p hj => ?_⟩⟩, by rw [hll]; omega, fun x hx => ?_⟩
    · have hj2 : j < len := by
        have := (List.getElem?_eq_some_iff.1 hj).1
        omega
      have hp : f j = p := by
        rw [List.getElem?_map, List.getElem?_range hj2] at hj
        simpa using hj
      obtain ⟨c, h1, hk, hw⟩ := hf j hj2
      obtain ⟨_, h3, h4⟩ := World.cells?_some h1
      rw [hp] at hk
      refine ⟨c, by rw [h3, hc], hk, fun i u hi => ?_⟩
      have hil : i < P.cellsOf e := by
        have := (List.getElem?_eq_some_iff.1 hi).1
        omega
      have h5 := h4 i hil
      rw [Addr.add_add, hc] at h5
      rw [h5, hi]
    · obtain ⟨j, hj, rfl⟩ := List.mem_map.1 hx
      obtain ⟨c, _, _, hw⟩ := hf j (by simpa using hj)
      exact hw
end

end Go.Proofs.YtpennfkjfeipcaaDoor.Mine
