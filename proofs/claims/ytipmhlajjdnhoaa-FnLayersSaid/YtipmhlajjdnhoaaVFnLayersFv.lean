/- How a call through a function value goes, as one step of a walk: laws over any program, no condition. -/
import Derived.Test.YtipmhlajjdnhoaaVFnLayersWMore
import Derived.Test.YtipmhlajjdnhoaaVFnLayersWNEv
import Derived.Test.YtipmhlajjdnhoaaVFnLayersWLast
import Derived.Test.YtipmhlajjdnhoaaVFnLayersWGuard
namespace Go.Proofs.YtipmhlajjdnhoaaW.PrintWords
open Go.RowKit Go.Proofs.YtipmhlajjdnhoaaW.PrintLast
set_option linter.unusedVariables false
/-- A function with a body, whatever its number. -/
def HasBody (P : Program) (f : FuncId) : Prop := ∃ fn : Func, P.funcs[f]? = some fn ∧ (fn.name == "runtime.NumGoroutine") = false ∧ fn.body.isSome = true
section
variable {P : Program} {ops : Array Oper} {Q : Exit → Act → World → Prop}
theorem enters_any {f : FuncId} (hf : HasBody P f) (args : Array Value) (w : World) : (callFunc f args).run P w = .ok (.enter f args) w := by
  obtain ⟨fn, h1, h2, h3⟩ := hf
  exact enters_ h1 h2 h3 args w
/-- A call through a function value in a region that draws its order. -/
theorem goesF_ {oi : Oper} {N : Option Tmp} {a : Act} {w : World} {K : Act → World → Prop} {f : FuncId} {cap : Array Value} {c : Operand} {as : Array Operand} {ts : Array TypeId} (hf : HasBody P f) (args : Array Value)
    (hw : Region.wanted oi (yielded ops a.tmps) = true) (hN : oi.dst = N) (hop : oi.op = .call { callee := .value c, args := as, argTypes := ts }) (hc : a.eval c = .func (.func f) #[] cap) (hargs : as.map a.eval = args)
    (h : Calls P f (args ++ cap) w fun e w' => ∃ v, e = .returned v ∧ K (a.put N v) w') : if Region.wanted oi (yielded ops a.tmps) = true then Oper.wp P oi a w K Q else K (a.put N undef) w := by
  refine call_ f (args ++ cap) hw hN ?_ h
  have he := enters_any hf (args ++ cap) w
  unfold execOp
  simp [hop, resolve, hc, Deferred.ofValue, invoke, hargs, he]
end
end Go.Proofs.YtipmhlajjdnhoaaW.PrintWords
