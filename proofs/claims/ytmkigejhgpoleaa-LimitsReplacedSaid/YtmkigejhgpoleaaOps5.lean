/-
  Laws: append of a slice, both ways: into the room that is there, into a new row.
-/
import Derived.Test.YtmkigejhgpoleaaOps4
import Derived.Deep.AppendSrc
import Derived.Deep.DeepAppendWide
namespace Go.Proofs.Ytmkigejhgpoleaa
set_option linter.unusedSimpArgs false
set_option linter.unusedVariables false
open Go Go.RowKit
section
variable {P : Program} {a : Act} {w0 : Org} {W : World} {K : Act → World → Prop} {Q : Exit → Act → World → Prop} {o : Oper} {hs hs' : List Ch} {os : List Ow} {ps : List (World → Prop)}
/-- what is appended -/
theorem Rd.src {size m c : Nat} {A : Option Addr} {news : List Value} {t e : TypeId} (hr : Rd W size A m news) (hm : 0 < m) (hu : P.underlying t = some (.slice e)) (h1 : ∀ u ∈ news, u.oneCell' = true) : Src P size t (.slice A m c) m news W := by
  obtain ⟨ad, rfl, _, hc⟩ := hr.2 hm
  exact Src.ofSlice W hu ad m c news hr.1 hc h1
/-- no room: a new row, known whole -/
theorem wp_append_grow {t e : TypeId} {x y : Operand} {size by' : Nat} {z : Value} (ho : o.op = .call { callee := .builtin .append, args := #[x, y], argTypes := #[t, t] }) {ad : Addr} {n c : Nat} {olds : List Value} (hx : a.eval x = .slice (some ad) n c) (hro : Rd W size (some ad) n olds)
    {A : Option Addr} {m d : Nat} {news : List Value} (hy : a.eval y = .slice A m d) (hrn : Rd W size A m news) (hm : 0 < m) (hu : P.underlying t = some (.slice e)) (hsz : szOf P e = some size) (hz : zeroOf P e = some z) (hb : bytesOf P e = some by')
    (h1 : ∀ u ∈ news, u.oneCell' = true) (hg : c < n + m) (hfit : (n + m + (n + m) / 4 + 192) * by' ≤ 281474976710656) (h63 : n + m ≤ 281474976710656) (hS : St w0 hs os ps W)
    (h : ∀ k cap Z W', St w0 (⟨k, ((olds ++ news).toArray ++ Z), e⟩ :: hs) os ps W' → Below W.heap.size W W' → W.heap.size ≤ k → n + m ≤ cap → K (a.put o.dst (.slice (some ⟨k, 0, none⟩) (n + m) cap)) W') : o.wp P a W K Q := by
  cases hie : P.info? e with
  | none => simp [szOf, hie] at hsz
  | some i =>
    have hz' : i.zero = some z := by simpa [zeroOf, hie] using hz
    have hs' : i.size = size := by simpa [szOf, hie] using hsz
    have hb' : i.bytes = by' := by simpa [bytesOf, hie] using hb
    subst hs'
    have hold : (Builtin.firstCells i.size n (.slice (some ad) n c)).run P W.drew = .ok olds.toArray W.drew := by
      refine run_firstCells_some W.drew i.size n ad n c olds hro.1 fun j u hj => ?_
      by_cases h0 : 0 < n
      · obtain ⟨ad', he, _, hc⟩ := hro.2 h0
        cases he
        simpa using hc j u hj
      · have : olds = [] := List.eq_nil_of_length_eq_zero (hro.1.trans (by rw [Nat.eq_zero_of_not_pos h0, Nat.zero_mul]))
        rw [this] at hj
        simp at hj
    have hrun := run_append_grow_src (P := P) W t t o.type e i z hu hie hz' (some ad) n c olds hold (.slice A m d) m news (hrn.src hm hu h1) hg (by omega) (by rw [hb']; exact growslice_fits_wide hg hfit)
    unfold Oper.wp execOp
    simp only [ho, resolve, invoke, builtin, Sem.run_bind, Sem.run_pure, Result.andThen_ok, List.map_toArray, List.map_cons, List.map_nil, hx, hy, hrun]
    exact h _ _ _ _ (hS.drew.new _ e) ((Below.refl _ _).drew.alloc (Nat.le_refl _) _) (Nat.le_refl _) (grownCap_ge W (n + m) c e)
/-- room: into one's own row behind the length -/
theorem wp_append_room {t e t' : TypeId} {x y : Operand} {size : Nat} (ho : o.op = .call { callee := .builtin .append, args := #[x, y], argTypes := #[t, t] }) {k n c : Nat} (hx : a.eval x = .slice (some ⟨k, 0, none⟩) n c)
    {A : Option Addr} {m d : Nat} {news : List Value} (hy : a.eval y = .slice A m d) (hrn : Rd W size A m news) (hm : 0 < m) (hu : P.underlying t = some (.slice e)) (hsz : szOf P e = some size)
    (h1 : ∀ u ∈ news, u.oneCell' = true) (hg : n + m ≤ c) {cs : Array Value} (hS : St w0 hs os ps W) (hup : Upd k cs t' (splice cs (n * size) news.toArray) hs hs') (hcs : n * size + m * size ≤ cs.size)
    (h : ∀ W', St w0 hs' os ps W' → W'.heap.size = W.heap.size → K (a.put o.dst (.slice (some ⟨k, 0, none⟩) (n + m) c)) W') : o.wp P a W K Q := by
  cases hie : P.info? e with
  | none => simp [szOf, hie] at hsz
  | some i =>
    have hs' : i.size = size := by simpa [szOf, hie] using hsz
    subst hs'
    have hst := run_storeCells_at (P := P) k (n * i.size) t' news 0 cs W (hS.at_ hup.mem) (by rw [hrn.1]; omega) h1
    simp only [Nat.add_zero] at hst
    have hsrc : Src P i.size t (.slice A m d) m news W := hrn.src hm hu h1
    have hrun : (Builtin.append_ #[t, t] o.type #[.slice (some ⟨k, 0, none⟩) n c, .slice A m d]).run P W = .ok (.slice (some ⟨k, 0, none⟩) (n + m) c) (W.setRow k (splice cs (n * i.size) news.toArray)) := by
      simp [Builtin.append_, run_underlying hu, sizeOf, typeInfo, hie, hsrc.len, hg, hsrc.cells, Addr.add_lit, hst, splice]
    unfold Oper.wp execOp
    simp only [ho, resolve, invoke, builtin, Sem.run_bind, Sem.run_pure, Result.andThen_ok, List.map_toArray, List.map_cons, List.map_nil, hx, hy, hrun]
    exact h _ (hS.put hup) (by simp [World.setRow])
end
end Go.Proofs.Ytmkigejhgpoleaa
