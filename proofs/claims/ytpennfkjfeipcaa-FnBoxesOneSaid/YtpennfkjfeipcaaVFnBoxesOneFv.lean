/- How a call through a function value goes, as one step of a walk: laws over any program, no condition. -/
import Derived.Test.YtpennfkjfeipcaaVFnBoxesOneWMore
import Derived.Test.YtpennfkjfeipcaaVFnBoxesOneWNEv
import Derived.Test.YtpennfkjfeipcaaVFnBoxesOneWLast
import Derived.Test.YtpennfkjfeipcaaVFnBoxesOneWGuard
namespace Go.Proofs.YtpennfkjfeipcaaW.PrintWords
open Go.RowKit Go.Proofs.YtpennfkjfeipcaaW.PrintLast
set_option linter.unusedVariables false
section
variable {P : Program} {ops : Array Oper} {Q : Exit → Act → World → Prop}
/-- A store into a box of the call's own: the world behind it as a letter. -/
theorem put_blk_event {rest : List Oper} {o : Oper} {a : Act} {W : World} (hgd : o.guard = none) {t : TypeId} {p : Tmp} {v : Operand} (ho : o.op = .store t (.tmp p) v) (hN : o.dst = none) {g off e : Nat} {cur cur' : Array Value} {u : Value} {seg : List Value}
    (haddr : a.eval (.tmp p) = .pointer (some ⟨g, off, none⟩)) (hx : a.eval v = u) (hh : W.heap[g]? = some (.cells cur e (0, 0))) (hu : u.cells.toList = seg) (ht : (P.info? t).map (·.size) = some seg.length)
    (hfit : off + seg.length ≤ cur.size) (h1 : ∀ q ∈ seg, q.oneCell' = true)
    (hcur : (cur.toList.take off ++ seg ++ cur.toList.drop (off + seg.length)).toArray = cur')
    (h : ∀ w1, w1.heap[g]? = some (.cells cur' e (0, 0)) → (∀ i, i ≠ g → w1.heap[i]? = W.heap[i]?) → (∀ (B : Nat) (W0 : World), B ≤ g → Below B W0 W → Below B W0 w1) → wpList P ops Q rest a w1) : wpList P ops Q (o :: rest) a W := by
  have hrun0 := run_store_run (P := P) t u seg hh hu ht hfit h1
  have hrun : (execOp a.eval o).run P W = .ok .skip (W.setCells g off seg) := by
    unfold execOp
    simp [ho, haddr, hx, hrun0]
  obtain ⟨cur2, hc2, _, hl2⟩ := setCells_row seg off W cur hh hfit
  refine store_event hgd ho hN hrun fun w' hw' => ?_
  subst hw'
  refine h _ ?_ (fun i hi => setCells_far seg off i hi) (fun B W0 hB hb => ?_)
  · rw [hc2, ← hcur, ← hl2]
  · obtain ⟨s1, s2, s3, s4⟩ := setCells_same g seg off W
    exact hb.trans ⟨s1, s2, s3, by rw [s4]; exact Nat.le_refl _, fun k hk => setCells_far seg off k (by omega)⟩
end
/-- A row of the call's own is one cell's value: its store is told. -/
theorem run_store_own {α : Type} {d : Kd α} {e : Nat} {w0 : World} {base : Nat} {ok : Nat → Prop} {v : Value} {xs : List α} (h : d.R e w0 base ok v xs) (P : Program) (w : World) (a : Addr) (m : Mode) : (store a v m).run P w = stored P w a v m := by
  obtain ⟨_, inner, ho, _⟩ := h
  rcases ho.2 with ⟨rfl, _⟩ | ⟨g, cap, cur, rfl, _⟩
  · exact run_store P w a _ m rfl
  · exact run_store P w a _ m rfl
end Go.Proofs.YtpennfkjfeipcaaW.PrintWords
