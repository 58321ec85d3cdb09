/-
  Laws: append, whatever the room.
-/
import Derived.Test.YtockbjpldlopiaaDoorOps5
namespace Go.Proofs.YtockbjpldlopiaaDoor
set_option linter.unusedSimpArgs false
set_option linter.unusedVariables false
open Go Go.RowKit
section
variable {P : Program} {a : Act} {w0 : Org} {W : World} {K : Act → World → Prop} {Q : Exit → Act → World → Prop} {o : Oper} {hs hs' : List Ch} {os : List Ow} {ps : List (World → Prop)}
theorem zero_size {P : Program} {e : TypeId} {z : Value} {sz : Nat} (hz : zeroOf P e = some z) (hsz : szOf P e = some sz) (h : z.cells.size = sz) (n : Nat) : (Builtin.zeroCells z.cells n).size = n * sz := by simp [Builtin.zeroCells, h]
/-- no room: a new row, known whole -/
theorem wp_app_grow {t e : TypeId} {x y : Operand} {size by' : Nat} {z : Value} (ho : o.op = .call { callee := .builtin .append, args := #[x, y], argTypes := #[t, t] }) {A0 : Option Addr} {n c : Nat} {olds : List Value} (hx : a.eval x = .slice A0 n c) (hold : (Builtin.firstCells size n (.slice A0 n c)).run P W.drew = .ok olds.toArray W.drew) (holen : olds.length = n * size)
    {yv : Value} {m : Nat} {news : List Value} (hy : a.eval y = yv) (hsrc : Src P size t yv m news W) (hu : P.underlying t = some (.slice e)) (hsz : szOf P e = some size) (hz : zeroOf P e = some z) (hzs : z.cells.size = size) (hb : bytesOf P e = some by')
    (hg : c < n + m) (hby : by' ≤ 1000000) (hfit : (n + m) * by' ≤ 140737488355328) (h63 : n + m ≤ 140737488355328) (hS : St w0 hs os ps W)
    (h : ∀ k cap Z W', W.heap.size ≤ k → St w0 (⟨k, (olds ++ news ++ Z).toArray, e⟩ :: hs) os ps W' → (olds ++ news ++ Z).length = cap * size → n + m ≤ cap → cap ≤ maxLen → K (a.put o.dst (.slice (some ⟨k, 0, none⟩) (n + m) cap)) W') : o.wp P a W K Q := by
  cases hie : P.info? e with
  | none => simp [szOf, hie] at hsz
  | some i =>
    have hz' : i.zero = some z := by simpa [zeroOf, hie] using hz
    have hs' : i.size = size := by simpa [szOf, hie] using hsz
    have hb' : i.bytes = by' := by simpa [bytesOf, hie] using hb
    subst hs'
    subst hb'
    have hfit' : (n + m + (n + m) / 4 + 192) * i.bytes ≤ 281474976710656 := by
      have h1 : (n + m + (n + m) / 4 + 192) * i.bytes = (n + m) * i.bytes + (n + m) / 4 * i.bytes + 192 * i.bytes := by rw [Nat.add_mul, Nat.add_mul]
      have h2 : (n + m) / 4 * i.bytes * 4 ≤ (n + m) * i.bytes := by
        rw [Nat.mul_right_comm]
        exact Nat.mul_le_mul_right _ (Nat.div_mul_le_self _ _)
      omega
    have hrun := run_append_grow_src (P := P) W t t o.type e i z hu hie hz' A0 n c olds hold yv m news hsrc hg (by omega) (growslice_fits_wide hg hfit')
    have hcap := grownCap_ge W (n + m) c e
    unfold Oper.wp execOp
    simp only [ho, resolve, invoke, builtin, Sem.run_bind, Sem.run_pure, Result.andThen_ok, List.map_toArray, List.map_cons, List.map_nil, hx, hy, hrun]
    have hZ := hS.drew.new ((olds ++ news).toArray ++ Builtin.zeroCells z.cells (grownCap W (n + m) c e - (n + m))) e
    refine h _ _ (Builtin.zeroCells z.cells (grownCap W (n + m) c e - (n + m))).toList _ (Nat.le_refl _) ?_ ?_ hcap (grownCap_le_maxLen W (n + m) c e (by unfold maxLen; omega))
    · have e1 : (olds ++ news ++ (Builtin.zeroCells z.cells (grownCap W (n + m) c e - (n + m))).toList).toArray = (olds ++ news).toArray ++ Builtin.zeroCells z.cells (grownCap W (n + m) c e - (n + m)) := by
        apply Array.ext'; simp
      rw [e1]
      exact hZ
    · have h3 := zero_size hz hsz hzs (grownCap W (n + m) c e - (n + m))
      have h4 := hsrc.newsLen
      simp only [List.length_append, Array.length_toList, h3, holen, h4, ← Nat.add_mul]
      congr 1
      omega
/-- room: behind one's own row's length -/
theorem wp_app_room {t e t' : TypeId} {x y : Operand} {size : Nat} (ho : o.op = .call { callee := .builtin .append, args := #[x, y], argTypes := #[t, t] }) {k n c : Nat} (hx : a.eval x = .slice (some ⟨k, 0, none⟩) n c)
    {yv : Value} {m : Nat} {news : List Value} (hy : a.eval y = yv) (hsrc : Src P size t yv m news W) (hu : P.underlying t = some (.slice e)) (hsz : szOf P e = some size)
    (hg : n + m ≤ c) {cs : Array Value} (hS : St w0 hs os ps W) (hup : Upd k cs t' (splice cs (n * size) news.toArray) hs hs') (hcs : n * size + m * size ≤ cs.size)
    (h : ∀ W', St w0 hs' os ps W' → K (a.put o.dst (.slice (some ⟨k, 0, none⟩) (n + m) c)) W') : o.wp P a W K Q := by
  cases hie : P.info? e with
  | none => simp [szOf, hie] at hsz
  | some i =>
    have hs' : i.size = size := by simpa [szOf, hie] using hsz
    subst hs'
    have hst := run_storeCells_at (P := P) k (n * i.size) t' news 0 cs W (hS.at_ hup.mem) (by rw [hsrc.newsLen]; omega) hsrc.one
    simp only [Nat.add_zero] at hst
    have hrun : (Builtin.append_ #[t, t] o.type #[.slice (some ⟨k, 0, none⟩) n c, yv]).run P W = .ok (.slice (some ⟨k, 0, none⟩) (n + m) c) (W.setRow k (splice cs (n * i.size) news.toArray)) := by
      simp [Builtin.append_, run_underlying hu, sizeOf, typeInfo, hie, hsrc.len, hg, hsrc.cells, Addr.add_lit, hst, splice]
    unfold Oper.wp execOp
    simp only [ho, resolve, invoke, builtin, Sem.run_bind, Sem.run_pure, Result.andThen_ok, List.map_toArray, List.map_cons, List.map_nil, hx, hy, hrun]
    exact h _ (hS.put hup)
/-- nothing, to a slice that lies somewhere -/
theorem wp_app_zero {t e : TypeId} {x y : Operand} {size : Nat} (ho : o.op = .call { callee := .builtin .append, args := #[x, y], argTypes := #[t, t] }) {ad : Addr} {n c : Nat} (hx : a.eval x = .slice (some ad) n c) (hc : n ≤ c)
    {yv : Value} {news : List Value} (hy : a.eval y = yv) (hsrc : Src P size t yv 0 news W) (hu : P.underlying t = some (.slice e)) (hsz : szOf P e = some size)
    (h : K (a.put o.dst (.slice (some ad) n c)) W) : o.wp P a W K Q := by
  cases hie : P.info? e with
  | none => simp [szOf, hie] at hsz
  | some i =>
    have hs' : i.size = size := by simpa [szOf, hie] using hsz
    subst hs'
    have hn : news = [] := List.eq_nil_of_length_eq_zero (by simpa using hsrc.newsLen)
    subst hn
    have hrun : (Builtin.append_ #[t, t] o.type #[.slice (some ad) n c, yv]).run P W = .ok (.slice (some ad) n c) W := by
      simp [Builtin.append_, run_underlying hu, sizeOf, typeInfo, hie, hsrc.len, hsrc.cells, hc, storeCells]
    unfold Oper.wp execOp
    simp only [ho, resolve, invoke, builtin, Sem.run_bind, Sem.run_pure, Result.andThen_ok, List.map_toArray, List.map_cons, List.map_nil, hx, hy, hrun]
    exact h
/-- nothing, to nothing -/
theorem wp_app_nil {t e : TypeId} {x y : Operand} {size : Nat} (ho : o.op = .call { callee := .builtin .append, args := #[x, y], argTypes := #[t, t] }) (hx : a.eval x = .slice none 0 0)
    {yv : Value} {news : List Value} (hy : a.eval y = yv) (hsrc : Src P size t yv 0 news W) (hu : P.underlying t = some (.slice e)) (hsz : szOf P e = some size)
    (h : K (a.put o.dst (.slice none 0 0)) W) : o.wp P a W K Q := by
  cases hie : P.info? e with
  | none => simp [szOf, hie] at hsz
  | some i =>
    have hs' : i.size = size := by simpa [szOf, hie] using hsz
    subst hs'
    have hrun : (Builtin.append_ #[t, t] o.type #[.slice none 0 0, yv]).run P W = .ok (.slice none 0 0) W := by
      simp [Builtin.append_, run_underlying hu, sizeOf, typeInfo, hie, hsrc.len, hsrc.cells]
    unfold Oper.wp execOp
    simp only [ho, resolve, invoke, builtin, Sem.run_bind, Sem.run_pure, Result.andThen_ok, List.map_toArray, List.map_cons, List.map_nil, hx, hy, hrun]
    exact h
end
end Go.Proofs.YtockbjpldlopiaaDoor
