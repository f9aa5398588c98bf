/- How a call through a function value goes, as one step of a walk: laws over any program, no condition. -/
import Derived.Test.YtbafihapjbkagaaVFnDeepsWMore
import Derived.Test.YtbafihapjbkagaaVFnDeepsWNEv
import Derived.Test.YtbafihapjbkagaaVFnDeepsWLast
import Derived.Test.YtbafihapjbkagaaVFnDeepsWGuard
namespace Go.Proofs.YtbafihapjbkagaaW.PrintWords
open Go.RowKit Go.Proofs.YtbafihapjbkagaaW.PrintLast
set_option linter.unusedVariables false
/-- A function with a body, whatever its number. -/
def HasBody (P : Program) (f : FuncId) : Prop := ∃ fn : Func, P.funcs[f]? = some fn ∧ (fn.name == "runtime.NumGoroutine") = false ∧ fn.body.isSome = true
section
variable {P : Program} {ops : Array Oper} {Q : Exit → Act → World → Prop}
theorem enters_any {f : FuncId} (hf : HasBody P f) (args : Array Value) (w : World) : (callFunc f args).run P w = .ok (.enter f args) w := by
  obtain ⟨fn, h1, h2, h3⟩ := hf
  exact enters_ h1 h2 h3 args w
/-- A call through a function value in a region that draws its order. -/
theorem goesF_ {oi : Oper} {N : Option Tmp} {a : Act} {w : World} {K : Act → World → Prop} {f : FuncId} {cap : Array Value} {c : Operand} {as : Array Operand} {ts : Array TypeId} (hf : HasBody P f) (args : Array Value)
    (hw : Region.wanted oi (yielded ops a.tmps) = true) (hN : oi.dst = N) (hop : oi.op = .call { callee := .value c, args := as, argTypes := ts }) (hc : a.eval c = .func (.func f) #[] cap) (hargs : as.map a.eval = args)
    (h : Calls P f (args ++ cap) w fun e w' => ∃ v, e = .returned v ∧ K (a.put N v) w') : if Region.wanted oi (yielded ops a.tmps) = true then Oper.wp P oi a w K Q else K (a.put N undef) w := by
  refine call_ f (args ++ cap) hw hN ?_ h
  have he := enters_any hf (args ++ cap) w
  unfold execOp
  simp [hop, resolve, hc, Deferred.ofValue, invoke, hargs, he]
/-- The same in a plain region. -/
theorem goesFL_ {rest : List Oper} {oi : Oper} {a : Act} {w : World} (N : Option Tmp) (hd : oi.dst = N) (hg : oi.guard = none) {f : FuncId} {cap : Array Value} {c : Operand} {as : Array Operand} {ts : Array TypeId} (hf : HasBody P f) (args : Array Value)
    (hop : oi.op = .call { callee := .value c, args := as, argTypes := ts }) (hc : a.eval c = .func (.func f) #[] cap) (hargs : as.map a.eval = args)
    (h : Calls P f (args ++ cap) w fun e w' => ∃ v, e = .returned v ∧ wpList P ops Q rest (a.put N v) w') : wpList P ops Q (oi :: rest) a w := by
  refine wpList_plain hg fun K hK => ?_
  have he := enters_any hf (args ++ cap) w
  have hrun : (execOp a.eval oi).run P w = .ok (.enter f (args ++ cap)) w := by
    unfold execOp
    simp [hop, resolve, hc, Deferred.ofValue, invoke, hargs, he]
  unfold Oper.wp
  rw [hrun, Oper.upon_enter]
  refine h.mono fun e w'' hh => ?_
  obtain ⟨v, rfl, hk⟩ := hh
  subst hd
  exact hK _ _ hk
/-- It fails at once at another operation than a call through a value. -/
theorem gate_value {rest : List Oper} {o : Oper} {a : Act} {W : World} {t : Tmp} {as : Array Operand} {ts : Array TypeId} (_ho : o.op = .call { callee := .value (.tmp t), args := as, argTypes := ts }) (h : wpList P ops Q (o :: rest) a W) : wpList P ops Q (o :: rest) a W := h
/-- A store of an element into a row of one's own, as what it comes to (no go_simp). -/
theorem row_store_run {α : Type} (d : Kd α) {o : Oper} {a : Act} {W : World} {t : TypeId} {p x : Operand} (ho : o.op = .store t p x) {e : TypeId} {base g n cap o' : Nat} {ok : Nat → Prop} {xs : List α} {u : Value} {seg : List Value}
    (haddr : a.eval p = .pointer (some ⟨g, o', none⟩)) (hx : a.eval x = u) (hu : u.cells.toList = seg) (ht : (P.info? t).map (·.size) = some seg.length) (hs : seg.length = d.sz) (h1 : ∀ q ∈ seg, q.oneCell' = true)
    (h : d.R e W base ok (.slice (some ⟨g, 0, none⟩) n cap) xs) (i : Int) (hoff : o' = i.toNat * d.sz) (h0 : 0 ≤ i) (hi : i < n) : (execOp a.eval o).run P W = .ok .skip (W.setCells g o' seg) := by
  have hnx : n = xs.length := (Kd.R_reads' h).1
  obtain ⟨_, inner, hown, hr⟩ := h
  have hil : i.toNat < n := by omega
  have hrun : (Instr.storeAt t (.pointer (some ⟨g, o', none⟩)) u).run P W = .ok () (W.setCells g o' seg) := by
    rcases hown.2 with ⟨hv, _⟩ | ⟨g', cap', cur, hv, hb, hh, hnc, hcm, hcs, _⟩
    · cases hv
    injection hv with ha _ hc
    injection ha with ha
    injection ha with hg'
    subst hg'; subst hc
    refine run_store_run t u seg hh hu ht ?_ h1
    have h2 : i.toNat * d.sz + d.sz ≤ n * d.sz := by rw [← Nat.succ_mul]; exact Nat.mul_le_mul_right _ hil
    have h3 : n * d.sz ≤ cap * d.sz := Nat.mul_le_mul_right _ (by omega)
    omega
  unfold execOp
  simp [ho, haddr, hx, hrun]
end
end Go.Proofs.YtbafihapjbkagaaW.PrintWords
