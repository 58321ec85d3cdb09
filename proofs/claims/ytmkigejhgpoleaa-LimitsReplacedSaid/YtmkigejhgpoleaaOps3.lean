/-
  More laws of operations: make, extract.
-/
import Derived.Test.YtmkigejhgpoleaaOps2
import Derived.Laws.MakeOwn
namespace Go.Proofs.Ytmkigejhgpoleaa
set_option linter.unusedSimpArgs false
set_option linter.unusedVariables false
open Go Go.RowKit
def bytesOf (P : Program) (t : TypeId) : Option Nat := (P.info? t).map (·.bytes)
theorem eqIs_refl (x : Array Value) : EqIs true (x = x) := by simp [EqIs]
section
variable {P : Program} {a : Act} {w0 : Org} {W : World} {K : Act → World → Prop} {Q : Exit → Act → World → Prop} {o : Oper} {hs : List Ch} {os : List Ow} {ps : List (World → Prop)}
theorem wp_extract {x : Operand} {i : Nat} {vs : Array Value} {v : Value} (ho : o.op = .extract x i) (hx : a.eval x = .tuple vs) (hv : lookL vs.toList i = some v) (h : K (a.put o.dst v) W) : o.wp P a W K Q := by
  have hv' : vs[i]? = some v := by rw [← Array.getElem?_toList, ← lookL_eq]; exact hv
  unfold Oper.wp execOp
  simp [ho, hx, Instr.extract, hv']
  exact h
theorem wp_makeS {t e : TypeId} {l c : Operand} {kl kc : IntKind} {L C : Int} {sz by' : Nat} {z : Value} (ho : o.op = .makeSlice t l c) (hl : a.eval l = .int kl L) (hc : a.eval c = .int kc C) (hu : P.underlying t = some (.slice e)) (hsz : szOf P e = some sz) (hz : zeroOf P e = some z) (hb : bytesOf P e = some by')
    (h0 : 0 ≤ L) (h1 : L ≤ C) (h2 : (by' : Int) * C ≤ 281474976710656) (h3 : C ≤ 9223372036854775807) (hS : St w0 hs os ps W)
    (h : ∀ k W', St w0 (⟨k, madeCells z.cells (C.toNat * sz), e⟩ :: hs) os ps W' → Below W.heap.size W W' → W.heap.size ≤ k → K (a.put o.dst (.slice (some ⟨k, 0, none⟩) L.toNat C.toNat)) W') : o.wp P a W K Q := by
  cases hie : P.info? e with
  | none => simp [szOf, hie] at hsz
  | some i =>
    have hz' : i.zero = some z := by simpa [zeroOf, hie] using hz
    have hs' : i.size = sz := by simpa [szOf, hie] using hsz
    have hb' : i.bytes = by' := by simpa [bytesOf, hie] using hb
    have hrun := run_make (P := P) W t e i z hu hie hz' kl kc L C h0 h1 (by rw [hb']; exact h2) h3
    rw [hs'] at hrun
    unfold Oper.wp execOp
    simp only [ho, hl, hc, Sem.run_bind, hrun, Result.andThen_ok]
    exact h _ _ (hS.new _ e) (St.below_alloc _ _) (Nat.le_refl _)
theorem wp_buildS3 {t e : TypeId} {sz : Nat} {x y y' : Operand} (ho : o.op = .buildSlice t 3 #[(0, x), (1, y), (2, y')]) {v u u' : Value} (hx : a.eval x = v) (hy : a.eval y = u) (hy' : a.eval y' = u') (hu : P.underlying t = some (.slice e)) (hsz : szOf P e = some sz) {z : Value} (hz : zeroOf P e = some z)
    (hv : v.cells.size = sz) (hv' : u.cells.size = sz) (hv'' : u'.cells.size = sz) (h24 : 3 * sz ≤ 16777216) (h0 : 0 < 3 * sz) (hS : St w0 hs os ps W) (h : ∀ k W', St w0 (⟨k, (v.cells.toList ++ (u.cells.toList ++ u'.cells.toList)).toArray, e⟩ :: hs) os ps W' → Below W.heap.size W W' → W.heap.size ≤ k → K (a.put o.dst (.slice (some ⟨k, 0, none⟩) 3 3)) W') : o.wp P a W K Q :=
  wp_buildS ho hu hsz hz [v, u, u'] (by simp [hx, hy, hy']) rfl (by simp [hv, hv', hv'']) h24 h0 hS (by simpa [flatL] using h)
end
end Go.Proofs.Ytmkigejhgpoleaa
