/- How a call through a function value goes, as one step of a walk: laws over any program, no condition. -/
import Derived.Test.YtpennfkjfeipcaaDoorVFnFoundWMore
import Derived.Test.YtpennfkjfeipcaaDoorVFnFoundWNEv
import Derived.Test.YtpennfkjfeipcaaDoorVFnFoundWLast
import Derived.Test.YtpennfkjfeipcaaDoorVFnFoundWGuard
namespace Go.Proofs.YtpennfkjfeipcaaDoorW.PrintWords
open Go.RowKit Go.Proofs.YtpennfkjfeipcaaDoorW.PrintLast
set_option linter.unusedVariables false
/-- A function with a body, whatever its number. -/
def HasBody (P : Program) (f : FuncId) : Prop := ∃ fn : Func, P.funcs[f]? = some fn ∧ (fn.name == "runtime.NumGoroutine") = false ∧ fn.body.isSome = true
section
variable {P : Program} {ops : Array Oper} {Q : Exit → Act → World → Prop}
theorem enters_any {f : FuncId} (hf : HasBody P f) (args : Array Value) (w : World) : (callFunc f args).run P w = .ok (.enter f args) w := by
  obtain ⟨fn, h1, h2, h3⟩ := hf
  exact enters_ h1 h2 h3 args w
/-- The same in a plain region. -/
theorem goesFL_ {rest : List Oper} {oi : Oper} {a : Act} {w : World} (N : Option Tmp) (hd : oi.dst = N) (hg : oi.guard = none) {f : FuncId} {cap : Array Value} {c : Operand} {as : Array Operand} {ts : Array TypeId} (hf : HasBody P f) (args : Array Value)
    (hop : oi.op = .call { callee := .value c, args := as, argTypes := ts }) (hc : a.eval c = .func (.func f) #[] cap) (hargs : as.map a.eval = args)
    (h : Calls P f (args ++ cap) w fun e w' => ∃ v, e = .returned v ∧ wpList P ops Q rest (a.put N v) w') : wpList P ops Q (oi :: rest) a w := by
  refine wpList_plain hg fun K hK => ?_
  have he := enters_any hf (args ++ cap) w
  have hrun : (execOp a.eval oi).run P w = .ok (.enter f (args ++ cap)) w := by
    unfold execOp
    simp [hop, resolve, hc, Deferred.ofValue, invoke, hargs, he]
  unfold Oper.wp
  rw [hrun, Oper.upon_enter]
  refine h.mono fun e w'' hh => ?_
  obtain ⟨v, rfl, hk⟩ := hh
  subst hd
  exact hK _ _ hk
/-- It fails at once at another operation than a call through a value. -/
theorem gate_value {rest : List Oper} {o : Oper} {a : Act} {W : World} {t : Tmp} {as : Array Operand} {ts : Array TypeId} (_ho : o.op = .call { callee := .value (.tmp t), args := as, argTypes := ts }) (h : wpList P ops Q (o :: rest) a W) : wpList P ops Q (o :: rest) a W := h
end
/-- A row of the call's own is one cell's value: its store is told. -/
theorem run_store_own {α : Type} {d : Kd α} {e : Nat} {w0 : World} {base : Nat} {ok : Nat → Prop} {v : Value} {xs : List α} (h : d.R e w0 base ok v xs) (P : Program) (w : World) (a : Addr) (m : Mode) : (store a v m).run P w = stored P w a v m := by
  obtain ⟨_, inner, ho, _⟩ := h
  rcases ho.2 with ⟨rfl, _⟩ | ⟨g, cap, cur, rfl, _⟩
  · exact run_store P w a _ m rfl
  · exact run_store P w a _ m rfl
end Go.Proofs.YtpennfkjfeipcaaDoorW.PrintWords
