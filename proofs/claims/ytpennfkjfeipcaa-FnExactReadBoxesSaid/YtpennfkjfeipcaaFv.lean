/- How a call through a function value goes, as one step of a walk: laws over any program, no condition. -/
import Derived.Test.YtpennfkjfeipcaaWMore
import Derived.Test.YtpennfkjfeipcaaWNEv
import Derived.Test.YtpennfkjfeipcaaWLast
import Derived.Test.YtpennfkjfeipcaaWGuard
namespace Go.Proofs.YtpennfkjfeipcaaW.PrintWords
open Go.RowKit Go.Proofs.YtpennfkjfeipcaaW.PrintLast
set_option linter.unusedVariables false
/-- A function with a body, whatever its number. -/
def HasBody (P : Program) (f : FuncId) : Prop := ∃ fn : Func, P.funcs[f]? = some fn ∧ (fn.name == "runtime.NumGoroutine") = false ∧ fn.body.isSome = true
section
variable {P : Program} {ops : Array Oper} {Q : Exit → Act → World → Prop}
theorem enters_any {f : FuncId} (hf : HasBody P f) (args : Array Value) (w : World) : (callFunc f args).run P w = .ok (.enter f args) w := by
  obtain ⟨fn, h1, h2, h3⟩ := hf
  exact enters_ h1 h2 h3 args w
theorem gate_calls {f : FuncId} {args : Array Value} {w : World} {R : Ending → World → Prop} (h : Calls P f args w R) : Calls P f args w R := h
/-- A call through a function value in a region that draws its order. -/
theorem goesF_ {oi : Oper} {N : Option Tmp} {a : Act} {w : World} {K : Act → World → Prop} {f : FuncId} {cap : Array Value} {c : Operand} {as : Array Operand} {ts : Array TypeId} (hf : HasBody P f) (args : Array Value)
    (hw : Region.wanted oi (yielded ops a.tmps) = true) (hN : oi.dst = N) (hop : oi.op = .call { callee := .value c, args := as, argTypes := ts }) (hc : a.eval c = .func (.func f) #[] cap) (hargs : as.map a.eval = args)
    (h : Calls P f (args ++ cap) w fun e w' => ∃ v, e = .returned v ∧ K (a.put N v) w') : if Region.wanted oi (yielded ops a.tmps) = true then Oper.wp P oi a w K Q else K (a.put N undef) w := by
  refine call_ f (args ++ cap) hw hN ?_ h
  have he := enters_any hf (args ++ cap) w
  unfold execOp
  simp [hop, resolve, hc, Deferred.ofValue, invoke, hargs, he]
/-- The same in a plain region. -/
theorem goesFL_ {rest : List Oper} {oi : Oper} {a : Act} {w : World} (N : Option Tmp) (hd : oi.dst = N) (hg : oi.guard = none) {f : FuncId} {cap : Array Value} {c : Operand} {as : Array Operand} {ts : Array TypeId} (hf : HasBody P f) (args : Array Value)
    (hop : oi.op = .call { callee := .value c, args := as, argTypes := ts }) (hc : a.eval c = .func (.func f) #[] cap) (hargs : as.map a.eval = args)
    (h : Calls P f (args ++ cap) w fun e w' => ∃ v, e = .returned v ∧ wpList P ops Q rest (a.put N v) w') : wpList P ops Q (oi :: rest) a w := by
  refine wpList_plain hg fun K hK => ?_
  have he := enters_any hf (args ++ cap) w
  have hrun : (execOp a.eval oi).run P w = .ok (.enter f (args ++ cap)) w := by
    unfold execOp
    simp [hop, resolve, hc, Deferred.ofValue, invoke, hargs, he]
  unfold Oper.wp
  rw [hrun, Oper.upon_enter]
  refine h.mono fun e w'' hh => ?_
  obtain ⟨v, rfl, hk⟩ := hh
  subst hd
  exact hK _ _ hk
/-- It fails at once at another operation than a call through a value. -/
theorem gate_value {rest : List Oper} {o : Oper} {a : Act} {W : World} {t : Tmp} {as : Array Operand} {ts : Array TypeId} (_ho : o.op = .call { callee := .value (.tmp t), args := as, argTypes := ts }) (h : wpList P ops Q (o :: rest) a W) : wpList P ops Q (o :: rest) a W := h
/-- A store into a box of the call's own: the world behind it as a letter. -/
theorem put_blk_event {rest : List Oper} {o : Oper} {a : Act} {W : World} (hgd : o.guard = none) {t : TypeId} {p : Tmp} {v : Operand} (ho : o.op = .store t (.tmp p) v) (hN : o.dst = none) {g off e : Nat} {cur cur' : Array Value} {u : Value} {seg : List Value}
    (haddr : a.eval (.tmp p) = .pointer (some ⟨g, off, none⟩)) (hx : a.eval v = u) (hh : W.heap[g]? = some (.cells cur e (0, 0))) (hu : u.cells.toList = seg) (ht : (P.info? t).map (·.size) = some seg.length)
    (hfit : off + seg.length ≤ cur.size) (h1 : ∀ q ∈ seg, q.oneCell' = true)
    (hcur : (cur.toList.take off ++ seg ++ cur.toList.drop (off + seg.length)).toArray = cur')
    (h : ∀ w1, w1.heap[g]? = some (.cells cur' e (0, 0)) → (∀ i, i ≠ g → w1.heap[i]? = W.heap[i]?) → (∀ (B : Nat) (W0 : World), B ≤ g → Below B W0 W → Below B W0 w1) → wpList P ops Q rest a w1) : wpList P ops Q (o :: rest) a W := by
  have hrun0 := run_store_run (P := P) t u seg hh hu ht hfit h1
  have hrun : (execOp a.eval o).run P W = .ok .skip (W.setCells g off seg) := by
    unfold execOp
    simp [ho, haddr, hx, hrun0]
  obtain ⟨cur2, hc2, _, hl2⟩ := setCells_row seg off W cur hh hfit
  refine store_event hgd ho hN hrun fun w' hw' => ?_
  subst hw'
  refine h _ ?_ (fun i hi => setCells_far seg off i hi) (fun B W0 hB hb => ?_)
  · rw [hc2, ← hcur, ← hl2]
  · obtain ⟨s1, s2, s3, s4⟩ := setCells_same g seg off W
    exact hb.trans ⟨s1, s2, s3, by rw [s4]; exact Nat.le_refl _, fun k hk => setCells_far seg off k (by omega)⟩
end
/-- A row of the call's own is one cell's value: its store is told. -/
theorem run_store_own {α : Type} {d : Kd α} {e : Nat} {w0 : World} {base : Nat} {ok : Nat → Prop} {v : Value} {xs : List α} (h : d.R e w0 base ok v xs) (P : Program) (w : World) (a : Addr) (m : Mode) : (store a v m).run P w = stored P w a v m := by
  obtain ⟨_, inner, ho, _⟩ := h
  rcases ho.2 with ⟨rfl, _⟩ | ⟨g, cap, cur, rfl, _⟩
  · exact run_store P w a _ m rfl
  · exact run_store P w a _ m rfl
/-- A row of the call's own behind a change of one block that is none of its own. -/
theorem R_step_far {α : Type} {d : Kd α} {e : Nat} {W w1 : World} {base g : Nat} {ok : Nat → Prop} {v : Value} {xs : List α} (ho : ∀ i, i ≠ g → w1.heap[i]? = W.heap[i]?) (h : d.R e W base ok v xs) (hk : ∀ k, ok k → k ≠ g) : d.R e w1 base ok v xs :=
  Kd.R_step h (fun k h1 _ => ho k (hk k h1))
end Go.Proofs.YtpennfkjfeipcaaW.PrintWords
