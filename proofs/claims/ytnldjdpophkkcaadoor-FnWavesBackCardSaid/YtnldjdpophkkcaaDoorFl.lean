/- Floats up to NaN: what an arithmetic operation answers, told by a relation on bits. -/
import Derived.Test.YtnldjdpophkkcaaDoorProg
import Derived.Laws.FloatArith
import Derived.WalkKit
import Derived.Deep.Draws
import Derived.Laws.NewFold
import Derived.Laws.Entries
import Derived.Laws.Pointers
import Derived.Laws.Small
import Derived.KernelRfl
import Derived.RowKit
namespace Go.Proofs.YtnldjdpophkkcaaDoor.Fl
/-- The bits stand for a NaN. -/
def NaN (x : Nat) : Prop := (Ieee.double.read x).isNaN = true
/-- One value: the same bits, or both NaN. -/
def Same (x y : Nat) : Prop := x = y ∨ (NaN x ∧ NaN y)
/-- A NaN that stands for all. -/
def C : Nat := 9221120237041090560
theorem NaN_C : NaN C := by unfold NaN C; decide +kernel
theorem Same.rfl {x : Nat} : Same x x := .inl (Eq.refl _)
theorem Same.symm {x y : Nat} (h : Same x y) : Same y x := by
  rcases h with h | ⟨a, b⟩
  · exact .inl h.symm
  · exact .inr ⟨b, a⟩
theorem Same.trans {x y z : Nat} (h : Same x y) (k : Same y z) : Same x z := by
  rcases h with rfl | ⟨a, b⟩
  · exact k
  · rcases k with rfl | ⟨_, d⟩
    · exact .inr ⟨a, b⟩
    · exact .inr ⟨a, d⟩
def arith : BinOp → Bool
  | .add | .sub | .mul | .quo => true
  | _ => false
theorem bits_nan_left {op : BinOp} {x y : Nat} (h : NaN x) : floatBits op .f64 x y = none := by
  unfold NaN at h
  unfold floatBits
  cases hd : Ieee.double.read x <;> rw [hd] at h <;> simp [Ieee.Datum.isNaN] at h
  split <;> simp [FloatKind.format, Ieee.Format.add, Ieee.Format.sub, Ieee.Format.mul, Ieee.Format.div, hd, Ieee.Datum.sum, Ieee.Datum.product, Ieee.Datum.quotient]
theorem bits_nan_right {op : BinOp} {x y : Nat} (h : NaN y) : floatBits op .f64 x y = none := by
  unfold NaN at h
  unfold floatBits
  cases hd : Ieee.double.read y <;> rw [hd] at h <;> simp [Ieee.Datum.isNaN] at h
  cases hx : Ieee.double.read x <;>
  split <;> simp [FloatKind.format, Ieee.Format.add, Ieee.Format.sub, Ieee.Format.mul, Ieee.Format.div, hd, hx, Ieee.Datum.sum, Ieee.Datum.product, Ieee.Datum.quotient, Ieee.Datum.opposite]
theorem bits_same {op : BinOp} {x y X Y : Nat} (hx : Same x X) (hy : Same y Y) : floatBits op .f64 x y = floatBits op .f64 X Y := by
  rcases hx with rfl | ⟨a, b⟩
  · rcases hy with rfl | ⟨c, d⟩
    · rfl
    · rw [bits_nan_right c, bits_nan_right d]
  · rw [bits_nan_left a, bits_nan_left b]
/-- The operation's answer, a NaN being C. -/
def fo (op : BinOp) (x y : Nat) : Nat := (floatBits op .f64 x y).getD C
theorem cut_nan (x y t : Nat) : NaN ((Question.nanBits .f64 x y).cut t) := by
  have hs : Ieee.double.signWeight = 2 ^ 63 := by decide +kernel
  have hb : Ieee.double.binade = 2 ^ 52 := by decide +kernel
  have hi : Ieee.double.infRung = 0x7ff0000000000000 := by decide +kernel
  have h2 : (t / 2) % (2 ^ 52 - 1) < 2 ^ 52 - 1 := Nat.mod_lt _ (by decide)
  have h1 : t % 2 < 2 := Nat.mod_lt _ (by decide)
  generalize hc : (Question.nanBits .f64 x y).cut t = c
  simp only [Question.cut] at hc
  have hm : c % 2 ^ 63 = 0x7ff0000000000000 + 1 + (t / 2) % (2 ^ 52 - 1) := by omega
  unfold NaN Ieee.Format.read
  rw [hs, hb, hi, hm]
  simp only
  rw [if_neg (by omega), if_neg (by omega), if_neg (by omega)]
  rfl
section
variable {P : Program}
theorem run_op (op : BinOp) (ha : arith op = true) (t : TypeId) {x y X Y : Nat} (hx : Same x X) (hy : Same y Y) (w : World) :
    ∃ r n, (binOp op t (.float .f64 x) (.float .f64 y)).run P w = .ok (.float .f64 r) (w.drewN n) ∧ Same r (fo op X Y) := by
  have hs := bits_same (op := op) hx hy
  cases h : floatBits op .f64 x y with
  | some r => exact ⟨r, 0, run_float_arith w op t .f64 x y r h, .inl (by unfold fo; rw [← hs, h]; rfl)⟩
  | none =>
    refine ⟨(Question.nanBits .f64 x y).cut (w.tape w.drawn (.nanBits .f64 x y)), 1, ?_, .inr ⟨cut_nan .., ?_⟩⟩
    · unfold floatBits at h
      cases op <;> simp [arith] at ha <;> simp only at h <;> simp [binOp, Op.floatArith, h, Question.forced] <;> rfl
    · unfold fo; rw [← hs, h]; exact NaN_C
theorem op_same {op : BinOp} {x y X Y : Nat} (hx : Same x X) (hy : Same y Y) : fo op x y = fo op X Y := by unfold fo; rw [bits_same hx hy]
/-- The walk's step. -/
theorem step_op {ops : Array Oper} {rest : List Oper} {o : Oper} {a : Act} {Q : Exit → Act → World → Prop} {w : World} (hgd : o.guard = none) (op : BinOp) (t : TypeId) (p q : Operand) (t' : TypeId)
    (ho : o.op = .binOp op t p q t') (ha : arith op = true) {x y X Y : Nat} (hx : Same x X) (hy : Same y Y) (hp : a.eval p = .float .f64 x) (hq : a.eval q = .float .f64 y)
    (h : ∀ r n, Same r (fo op X Y) → wpList P ops Q rest (a.put o.dst (.float .f64 r)) (w.drewN n)) : wpList P ops Q (o :: rest) a w := by
  refine wpList_plain hgd fun K hK => ?_
  obtain ⟨r, n, hrun, hs⟩ := run_op (P := P) op ha t hx hy w
  have hg : eqGuard op t p q (.float .f64 x) (.float .f64 y) = pure () := by cases op <;> simp [arith] at ha <;> rfl
  unfold Oper.wp
  simp [execOp, ho, hp, hq, hg, hrun, Result.andThen]
  exact hK _ _ (h r n hs)
end
/-! Order. -/
theorem order_nan_left {x y : Nat} (h : NaN x) : Ieee.double.order x y = none := by
  unfold NaN at h
  cases hd : Ieee.double.read x <;> rw [hd] at h <;> simp [Ieee.Datum.isNaN] at h
  simp [Ieee.Format.order, hd, Ieee.Datum.order]
theorem order_nan_right {x y : Nat} (h : NaN y) : Ieee.double.order x y = none := by
  unfold NaN at h
  cases hd : Ieee.double.read y <;> rw [hd] at h <;> simp [Ieee.Datum.isNaN] at h
  cases hx : Ieee.double.read x <;> simp [Ieee.Format.order, hd, hx, Ieee.Datum.order]
theorem order_self {x : Nat} (h : ¬ NaN x) : Ieee.double.order x x = some .eq := by
  unfold NaN at h
  cases hd : Ieee.double.read x <;> rw [hd] at h <;> simp [Ieee.Datum.isNaN] at h <;> simp [Ieee.Format.order, hd, Ieee.Datum.order]
theorem order_same {x y X Y : Nat} (hx : Same x X) (hy : Same y Y) : Ieee.double.order x y = Ieee.double.order X Y := by
  rcases hx with rfl | ⟨a, b⟩
  · rcases hy with rfl | ⟨c, d⟩
    · rfl
    · rw [order_nan_right c, order_nan_right d]
  · rw [order_nan_left a, order_nan_left b]
theorem run_store_float (P : Program) (w : World) (a : Addr) (m : Mode) (k : FloatKind) (b : Nat) : (store a (.float k b) m).run P w = stored P w a (.float k b) m := run_store P w a _ m (Eq.refl _)
end Go.Proofs.YtnldjdpophkkcaaDoor.Fl
