/-
  Laws: a value is equal to itself; a pick; an operation under a guard.
-/
import Derived.Test.YtmkigejhgpoleaaAny2
import Derived.Test.YtmkigejhgpoleaaOps3
namespace Go.Proofs.Ytmkigejhgpoleaa
set_option linter.unusedSimpArgs false
set_option linter.unusedVariables false
open Go Go.RowKit
section
variable {P : Program} {a : Act} {W : World} {K : Act → World → Prop} {Q : Exit → Act → World → Prop} {o : Oper}
theorem wp_same_int {x y : Operand} {t t' : TypeId} {k : IntKind} {n : Int} (ho : o.op = .binOp .eql t x y t') (hx : a.eval x = .int k n) (hy : a.eval y = .int k n) (h : K (a.put o.dst (.bool true)) W) : o.wp P a W K Q := by
  unfold Oper.wp execOp
  simp [ho, hx, hy, eqGuard, binOp, Op.intArith, Op.intCmp]
  exact h
theorem wp_same_bool {x y : Operand} {t t' : TypeId} {n : Bool} (ho : o.op = .binOp .eql t x y t') (hx : a.eval x = .bool n) (hy : a.eval y = .bool n) (hk : kindsT P 20 t = some [.b]) (hr : rowOf P t = some false) (h : K (a.put o.dst (.bool true)) W) : o.wp P a W K Q := by
  obtain ⟨r, hrun, hiff⟩ := eq_kinds (P := P) 9980 20 t [.b] hk W (.bool n) (.bool n) [.bool n] [.bool n] (by simp [shaped, hr]) (by simp [shaped, hr]) rfl rfl
  obtain rfl := hiff.2 rfl
  have hrun' : (Op.equal t (.bool n) (.bool n)).run P W = .ok (true : Bool) W := hrun
  unfold Oper.wp execOp
  simp [ho, hx, hy, eqGuard, binOp, hrun']
  exact h
theorem wp_pick_true {x y z : Operand} (ho : o.op = .pick x y z) (hx : a.eval x = .bool true) {v : Value} (hy : a.eval y = v) (h : K (a.put o.dst v) W) : o.wp P a W K Q := by
  unfold Oper.wp execOp
  simp [ho, hx, hy]
  exact h
theorem wp_pick_false {x y z : Operand} (ho : o.op = .pick x y z) (hx : a.eval x = .bool false) {v : Value} (hy : a.eval z = v) (h : K (a.put o.dst v) W) : o.wp P a W K Q := by
  unfold Oper.wp execOp
  simp [ho, hx, hy]
  exact h
end
/-- an operation whose guard holds -/
theorem opOb_guard {P : Program} {l : List Oper} {Q : Exit → Act → World → Prop} {a0 : Act} {spec : Nat → Value → World → Prop} {F : World → Prop} {stp : World → World → Prop} {i : Nat} {o : Oper} {g d : Nat} {want : Bool} (hg : o.guard = some (g, want)) (hd : dstOf l.toArray g = some d)
    (he : (o.after.any fun e => e.on == g && Region.binds .any e) = true) (hs : ∀ v W, spec g v W → v = .bool want)
    (h : ∀ (b : Act) (W : World) (K : Act → World → Prop), (∀ t, notDst l t = true → b.eval (.tmp t) = a0.eval (.tmp t)) →
      (∀ e ∈ o.after, Region.binds .any e = true → ∀ d, dstOf l.toArray e.on = some d → spec e.on (b.eval (.tmp d)) W) → F W →
      (∀ v W', (o.dst ≠ none → spec i v W') → F W' → stp W W' → K (b.put o.dst v) W') → o.wp P b W K Q) : OpOb P l Q a0 spec F stp i o := fun b W K h1 h2 h3 h4 => by
  obtain ⟨e, hm, hx⟩ := Array.any_eq_true'.1 he
  simp only [Bool.and_eq_true, beq_iff_eq] at hx
  obtain ⟨rfl, hb⟩ := hx
  have hv := hs _ _ (h2 e hm hb d hd)
  have hy : yielded l.toArray b.tmps e.on = some want := by
    unfold yielded
    have hd' : ((l.toArray[e.on]?).bind (·.dst)) = some d := hd
    rw [hd']
    have hv' : b.tmps.getD d undef = .bool want := hv
    rw [Option.bind_some]
    rw [Array.getD_eq_getD_getElem?] at hv'
    cases hq : b.tmps[d]? with
    | none => rw [hq] at hv'; simp [undef] at hv'
    | some u =>
      rw [hq] at hv'
      obtain rfl : u = .bool want := hv'
      rfl
  rw [if_pos (by rw [Region.wanted, hg]; simp [hy])]
  exact h b W K h1 h2 h3 h4
end Go.Proofs.Ytmkigejhgpoleaa
