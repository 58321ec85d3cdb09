/-
  More laws of operations: min and max under a closed name.
-/
import Derived.Test.YtmkigejhgpoleaaOps
import Derived.Test.YtmkigejhgpoleaaEq
namespace Go.Proofs.Ytmkigejhgpoleaa
set_option linter.unusedSimpArgs false
set_option linter.unusedVariables false
open Go Go.RowKit
/-- the Bool says whether it holds -/
def EqIs (B : Bool) (p : Prop) : Prop := B = true ↔ p
def minI (i j : Int) : Int := if j < i then j else i
def maxI (i j : Int) : Int := if i < j then j else i
section
variable {P : Program} {a : Act} {W : World} {K : Act → World → Prop} {Q : Exit → Act → World → Prop} {o : Oper}
theorem wp_minO {x y : Operand} {ats : Array TypeId} {k : IntKind} {i j : Int} (ho : o.op = .call { callee := .builtin .min, args := #[x, y], argTypes := ats }) (hx : a.eval x = .int k i) (hy : a.eval y = .int k j) (h : K (a.put o.dst (.int k (minI i j))) W) : o.wp P a W K Q := wp_min ho hx hy h
theorem wp_maxO {x y : Operand} {ats : Array TypeId} {k : IntKind} {i j : Int} (ho : o.op = .call { callee := .builtin .max, args := #[x, y], argTypes := ats }) (hx : a.eval x = .int k i) (hy : a.eval y = .int k j) (h : K (a.put o.dst (.int k (maxI i j))) W) : o.wp P a W K Q := wp_max ho hx hy h

theorem beq_bytes {p q : ByteArray} {B : Bool} (hB : B = true ↔ p = q) : (p.toList == q.toList) = B := by
  rw [Bool.eq_iff_iff, hB, beq_iff_eq]
  constructor
  · intro h
    simp only [ByteArray.toList_eq] at h
    have hd : p.data = q.data := by rw [← Array.toArray_toList (xs := p.data), h]
    cases p; cases q; simpa using hd
  · intro h; rw [h]
theorem wp_eqlS {x y : Operand} {t t' : TypeId} {p q : ByteArray} {B : Bool} (ho : o.op = .binOp .eql t x y t') (hx : a.eval x = .string p) (hy : a.eval y = .string q) (hB : EqIs B (p = q)) (h : K (a.put o.dst (.bool B)) W) : o.wp P a W K Q := by
  unfold Oper.wp execOp
  simp [ho, hx, hy, eqGuard, binOp, Op.stringOp, beq_bytes hB]
  exact h
theorem wp_neqS {x y : Operand} {t t' : TypeId} {p q : ByteArray} {B : Bool} (ho : o.op = .binOp .neq t x y t') (hx : a.eval x = .string p) (hy : a.eval y = .string q) (hB : EqIs B (p = q)) (h : K (a.put o.dst (.bool (!B))) W) : o.wp P a W K Q := by
  unfold Oper.wp execOp
  simp [ho, hx, hy, eqGuard, binOp, Op.stringOp, beq_bytes hB]
  exact h

theorem results_1 {fn : Func} {t : Tmp} (h : fn.results = #[.tmp t]) {tmps : Array Value} {v : Value} (ht : lookL tmps.toList t = some v) : (results fn tmps).run P W = .ok v W := by
  have ht' : tmps[t]?.getD undef = v := by rw [← Array.getElem?_toList, ← lookL_eq, ht]; rfl
  simp [results, h, ht']
theorem results_2 {fn : Func} {t u : Tmp} (h : fn.results = #[.tmp t, .tmp u]) {tmps : Array Value} {v x : Value} (ht : lookL tmps.toList t = some v) (hu : lookL tmps.toList u = some x) : (results fn tmps).run P W = .ok (.tuple #[v, x]) W := by
  have ht' : tmps[t]?.getD undef = v := by rw [← Array.getElem?_toList, ← lookL_eq, ht]; rfl
  have hu' : tmps[u]?.getD undef = x := by rw [← Array.getElem?_toList, ← lookL_eq, hu]; rfl
  simp [results, h, ht', hu']
theorem results_3 {fn : Func} {t u r : Tmp} (h : fn.results = #[.tmp t, .tmp u, .tmp r]) {tmps : Array Value} {v x y : Value} (ht : lookL tmps.toList t = some v) (hu : lookL tmps.toList u = some x) (hr : lookL tmps.toList r = some y) : (results fn tmps).run P W = .ok (.tuple #[v, x, y]) W := by
  have ht' : tmps[t]?.getD undef = v := by rw [← Array.getElem?_toList, ← lookL_eq, ht]; rfl
  have hu' : tmps[u]?.getD undef = x := by rw [← Array.getElem?_toList, ← lookL_eq, hu]; rfl
  have hr' : tmps[r]?.getD undef = y := by rw [← Array.getElem?_toList, ← lookL_eq, hr]; rfl
  simp [results, h, ht', hu', hr']

theorem wp_eqlH {x y : Operand} {t t' : TypeId} {l : List CK} {xs ys : Array Value} {B : Bool} (ho : o.op = .binOp .eql t x y t') (hx : a.eval x = .agg xs) (hy : a.eval y = .agg ys) (hB : EqIs B (xs = ys)) (hk : Hid (kindsT P 20 t = some l)) (hr : rowOf P t = some true) (hg : P.eqGuardType P.depth t = false)
    (fx : Hid (fits l xs.toList = true)) (fy : Hid (fits l ys.toList = true)) (h : K (a.put o.dst (.bool B)) W) : o.wp P a W K Q := wp_eql ho hx hy hk.out hr hg fx.out fy.out hB h
theorem wp_neqH {x y : Operand} {t t' : TypeId} {l : List CK} {xs ys : Array Value} {B : Bool} (ho : o.op = .binOp .neq t x y t') (hx : a.eval x = .agg xs) (hy : a.eval y = .agg ys) (hB : EqIs B (xs = ys)) (hk : Hid (kindsT P 20 t = some l)) (hr : rowOf P t = some true) (hg : P.eqGuardType P.depth t = false)
    (fx : Hid (fits l xs.toList = true)) (fy : Hid (fits l ys.toList = true)) (h : K (a.put o.dst (.bool (!B))) W) : o.wp P a W K Q := wp_neq ho hx hy hk.out hr hg fx.out fy.out hB h
end
end Go.Proofs.Ytmkigejhgpoleaa
