/-
  Laws: append, whatever the room.
-/
import Derived.Test.YtmkigejhgpoleaaOps5
namespace Go.Proofs.Ytmkigejhgpoleaa
set_option linter.unusedSimpArgs false
set_option linter.unusedVariables false
open Go Go.RowKit
section
variable {P : Program} {a : Act} {w0 : Org} {W : World} {K : Act → World → Prop} {Q : Exit → Act → World → Prop} {o : Oper} {hs hs' : List Ch} {os : List Ow} {ps : List (World → Prop)}
theorem zero_size {P : Program} {e : TypeId} {z : Value} {sz : Nat} (hz : zeroOf P e = some z) (hsz : szOf P e = some sz) (h : z.cells.size = sz) (n : Nat) : (Builtin.zeroCells z.cells n).size = n * sz := by simp [Builtin.zeroCells, h]
/-- no room: a new row, known whole -/
theorem wp_app_grow {t tx e : TypeId} {x y : Operand} {size by' : Nat} {z : Value} (ho : o.op = .call { callee := .builtin .append, args := #[x, y], argTypes := #[t, tx] }) {A0 : Option Addr} {n c : Nat} {olds : List Value} (hx : a.eval x = .slice A0 n c) (hold : (Builtin.firstCells size n (.slice A0 n c)).run P W.drew = .ok olds.toArray W.drew) (holen : olds.length = n * size)
    {yv : Value} {m : Nat} {news : List Value} (hy : a.eval y = yv) (hsrc : Src P size tx yv m news W) (hu : P.underlying t = some (.slice e)) (hsz : szOf P e = some size) (hz : zeroOf P e = some z) (hzs : z.cells.size = size) (hb : bytesOf P e = some by')
    (hg : c < n + m) (hby : by' ≤ 1000000) (hfit : (n + m) * by' ≤ 140737488355328) (h63 : n + m ≤ 140737488355328) (hS : St w0 hs os ps W)
    (h : ∀ k cap Z W', W.heap.size ≤ k → St w0 (⟨k, (olds ++ news ++ Z).toArray, e⟩ :: hs) os ps W' → (olds ++ news ++ Z).length = cap * size → n + m ≤ cap → cap ≤ maxLen → K (a.put o.dst (.slice (some ⟨k, 0, none⟩) (n + m) cap)) W') : o.wp P a W K Q := by
  cases hie : P.info? e with
  | none => simp [szOf, hie] at hsz
  | some i =>
    have hz' : i.zero = some z := by simpa [zeroOf, hie] using hz
    have hs' : i.size = size := by simpa [szOf, hie] using hsz
    have hb' : i.bytes = by' := by simpa [bytesOf, hie] using hb
    subst hs'
    subst hb'
    have hfit' : (n + m + (n + m) / 4 + 192) * i.bytes ≤ 281474976710656 := by
      have h1 : (n + m + (n + m) / 4 + 192) * i.bytes = (n + m) * i.bytes + (n + m) / 4 * i.bytes + 192 * i.bytes := by rw [Nat.add_mul, Nat.add_mul]
      have h2 : (n + m) / 4 * i.bytes * 4 ≤ (n + m) * i.bytes := by
        rw [Nat.mul_right_comm]
        exact Nat.mul_le_mul_right _ (Nat.div_mul_le_self _ _)
      omega
    have hrun := run_append_grow_src (P := P) W t tx o.type e i z hu hie hz' A0 n c olds hold yv m news hsrc hg (by omega) (growslice_fits_wide hg hfit')
    have hcap := grownCap_ge W (n + m) c e
    unfold Oper.wp execOp
    simp only [ho, resolve, invoke, builtin, Sem.run_bind, Sem.run_pure, Result.andThen_ok, List.map_toArray, List.map_cons, List.map_nil, hx, hy, hrun]
    have hZ := hS.drew.new ((olds ++ news).toArray ++ Builtin.zeroCells z.cells (grownCap W (n + m) c e - (n + m))) e
    refine h _ _ (Builtin.zeroCells z.cells (grownCap W (n + m) c e - (n + m))).toList _ (Nat.le_refl _) ?_ ?_ hcap (grownCap_le_maxLen W (n + m) c e (by unfold maxLen; omega))
    · have e1 : (olds ++ news ++ (Builtin.zeroCells z.cells (grownCap W (n + m) c e - (n + m))).toList).toArray = (olds ++ news).toArray ++ Builtin.zeroCells z.cells (grownCap W (n + m) c e - (n + m)) := by
        apply Array.ext'; simp
      rw [e1]
      exact hZ
    · have h3 := zero_size hz hsz hzs (grownCap W (n + m) c e - (n + m))
      have h4 := hsrc.newsLen
      simp only [List.length_append, Array.length_toList, h3, holen, h4, ← Nat.add_mul]
      congr 1
      omega
/-- room: behind one's own row's length -/
theorem wp_app_room {t tx e t' : TypeId} {x y : Operand} {size : Nat} (ho : o.op = .call { callee := .builtin .append, args := #[x, y], argTypes := #[t, tx] }) {k n c : Nat} (hx : a.eval x = .slice (some ⟨k, 0, none⟩) n c)
    {yv : Value} {m : Nat} {news : List Value} (hy : a.eval y = yv) (hsrc : Src P size tx yv m news W) (hu : P.underlying t = some (.slice e)) (hsz : szOf P e = some size)
    (hg : n + m ≤ c) {cs : Array Value} (hS : St w0 hs os ps W) (hup : Upd k cs t' (splice cs (n * size) news.toArray) hs hs') (hcs : n * size + m * size ≤ cs.size)
    (h : ∀ W', St w0 hs' os ps W' → K (a.put o.dst (.slice (some ⟨k, 0, none⟩) (n + m) c)) W') : o.wp P a W K Q := by
  cases hie : P.info? e with
  | none => simp [szOf, hie] at hsz
  | some i =>
    have hs' : i.size = size := by simpa [szOf, hie] using hsz
    subst hs'
    have hst := run_storeCells_at (P := P) k (n * i.size) t' news 0 cs W (hS.at_ hup.mem) (by rw [hsrc.newsLen]; omega) hsrc.one
    simp only [Nat.add_zero] at hst
    have hrun : (Builtin.append_ #[t, tx] o.type #[.slice (some ⟨k, 0, none⟩) n c, yv]).run P W = .ok (.slice (some ⟨k, 0, none⟩) (n + m) c) (W.setRow k (splice cs (n * i.size) news.toArray)) := by
      rcases hsrc.kind with ⟨e', hk⟩ | hk <;> simp [Builtin.append_, run_underlying hu, sizeOf, typeInfo, hie, run_underlying hk, hsrc.len, hg, hsrc.cells, Addr.add_lit, hst, splice]
    unfold Oper.wp execOp
    simp only [ho, resolve, invoke, builtin, Sem.run_bind, Sem.run_pure, Result.andThen_ok, List.map_toArray, List.map_cons, List.map_nil, hx, hy, hrun]
    exact h _ (hS.put hup)
/-- nothing, to a slice that lies somewhere -/
theorem wp_app_zero {t tx e : TypeId} {x y : Operand} {size : Nat} (ho : o.op = .call { callee := .builtin .append, args := #[x, y], argTypes := #[t, tx] }) {ad : Addr} {n c : Nat} (hx : a.eval x = .slice (some ad) n c) (hc : n ≤ c)
    {yv : Value} {news : List Value} (hy : a.eval y = yv) (hsrc : Src P size tx yv 0 news W) (hu : P.underlying t = some (.slice e)) (hsz : szOf P e = some size)
    (h : K (a.put o.dst (.slice (some ad) n c)) W) : o.wp P a W K Q := by
  cases hie : P.info? e with
  | none => simp [szOf, hie] at hsz
  | some i =>
    have hs' : i.size = size := by simpa [szOf, hie] using hsz
    subst hs'
    have hn : news = [] := List.eq_nil_of_length_eq_zero (by simpa using hsrc.newsLen)
    subst hn
    have hrun : (Builtin.append_ #[t, tx] o.type #[.slice (some ad) n c, yv]).run P W = .ok (.slice (some ad) n c) W := by
      rcases hsrc.kind with ⟨e', hk⟩ | hk <;> simp [Builtin.append_, run_underlying hu, sizeOf, typeInfo, hie, run_underlying hk, hsrc.len, hsrc.cells, hc, storeCells]
    unfold Oper.wp execOp
    simp only [ho, resolve, invoke, builtin, Sem.run_bind, Sem.run_pure, Result.andThen_ok, List.map_toArray, List.map_cons, List.map_nil, hx, hy, hrun]
    exact h
/-- nothing, to nothing -/
theorem wp_app_nil {t tx e : TypeId} {x y : Operand} {size : Nat} (ho : o.op = .call { callee := .builtin .append, args := #[x, y], argTypes := #[t, tx] }) (hx : a.eval x = .slice none 0 0)
    {yv : Value} {news : List Value} (hy : a.eval y = yv) (hsrc : Src P size tx yv 0 news W) (hu : P.underlying t = some (.slice e)) (hsz : szOf P e = some size)
    (h : K (a.put o.dst (.slice none 0 0)) W) : o.wp P a W K Q := by
  cases hie : P.info? e with
  | none => simp [szOf, hie] at hsz
  | some i =>
    have hs' : i.size = size := by simpa [szOf, hie] using hsz
    subst hs'
    have hrun : (Builtin.append_ #[t, tx] o.type #[.slice none 0 0, yv]).run P W = .ok (.slice none 0 0) W := by
      rcases hsrc.kind with ⟨e', hk⟩ | hk <;> simp [Builtin.append_, run_underlying hu, sizeOf, typeInfo, hie, run_underlying hk, hsrc.len, hsrc.cells]
    unfold Oper.wp execOp
    simp only [ho, resolve, invoke, builtin, Sem.run_bind, Sem.run_pure, Result.andThen_ok, List.map_toArray, List.map_cons, List.map_nil, hx, hy, hrun]
    exact h
end
/-- a row of one's own: nothing, or a block's first cells -/
def RowAt (sz : Nat) (h : Value) (b : Nat) (t : TypeId) (cells tl : List Value) (W : World) : Prop :=
  (h = .slice none 0 0 ∧ cells = []) ∨ ∃ len cap, h = .slice (some ⟨b, 0, none⟩) len cap ∧ cells.length = len * sz ∧ (cells ++ tl).length = cap * sz ∧ len ≤ cap ∧ cap ≤ maxLen ∧ W.heap[b]? = some (.cells (cells ++ tl).toArray t (0, 0))
/-- the block of a slice -/
def ownB : Value → List Nat
  | .slice (some a) _ _ => [a.block]
  | _ => []
/-- a block is given up, another one (or the same, written) is there -/
theorem St.took {w0 : Org} {W W' : World} {e : Ch} {hs : List Ch} {os : List Ow} {ps : List (World → Prop)} (h : St w0 (e :: hs) os ps W) (ho : W'.os = W.os) (ht : W'.tape = W.tape) (hu : W'.output = W.output) (hs' : Same [e.id] W W') {k : Nat} {c : Array Value} {t : TypeId} (hk : W'.heap[k]? = some (.cells c t (0, 0))) (hn : k = e.id ∨ W.heap.size ≤ k) : St w0 (⟨k, c, t⟩ :: hs) os ps W' := by
  have hnd : e.id ∉ muts hs os ∧ (muts hs os).Nodup := List.nodup_cons.1 (show (e.id :: muts hs os).Nodup from h.nodup)
  have he := h.blk e (List.mem_cons_self ..)
  have hlt : ∀ b ∈ muts hs os, b < W.heap.size := fun b hb => (h.mut_lt (List.mem_cons_of_mem _ hb : b ∈ e.id :: muts hs os)).2
  have hkn : k ∉ muts hs os := fun hm => by
    rcases hn with rfl | hn
    · exact hnd.1 hm
    · have := hlt _ hm; omega
  refine ⟨⟨ho.trans h.old.os, ht.trans h.old.tape, hu.trans h.old.output, Nat.le_trans h.old.size hs'.size, fun b h1 h2 => (hs'.block b (Nat.lt_of_lt_of_le h1 h.old.size) ?_).trans (h.old.block b h1 h2)⟩, fun x hx => ?_, fun x hx => ?_, ?_, fun p hp W2 h2 => h.pers p hp W2 ?_⟩
  · intro hm
    obtain rfl := List.mem_singleton.1 hm
    rcases he.1 with h3 | h3
    · omega
    · exact h2 h3
  · rcases List.mem_cons.1 hx with rfl | hx
    · refine ⟨?_, hk⟩
      rcases hn with rfl | hn
      · exact he.1
      · exact .inl (Nat.le_trans h.old.size hn)
    · have hx2 := h.blk x (List.mem_cons_of_mem _ hx)
      refine ⟨hx2.1, (hs'.block x.id (Array.getElem?_eq_some_iff.1 hx2.2).1 ?_).trans hx2.2⟩
      intro hm
      have := List.mem_singleton.1 hm
      exact hnd.1 (this ▸ List.mem_append.2 (.inl (List.mem_map.2 ⟨x, hx, rfl⟩)))
  · have hx2 := h.own x hx
    refine ⟨hx2.1, (hs'.block x.id (Array.getElem?_eq_some_iff.1 hx2.2).1 ?_).trans hx2.2⟩
    intro hm
    have := List.mem_singleton.1 hm
    exact hnd.1 (this ▸ List.mem_append.2 (.inr (List.mem_flatMap.2 ⟨x, hx, by simp [Ow.blk]⟩)))
  · show (k :: muts hs os).Nodup
    exact List.nodup_cons.2 ⟨hkn, hnd.2⟩
  · refine ⟨Nat.le_trans hs'.size h2.size, fun b hb hm => (h2.block b (Nat.lt_of_lt_of_le hb hs'.size) ?_).trans (hs'.block b hb ?_)⟩
    · intro hm2
      have hm2' : b ∈ k :: muts hs os := hm2
      rcases List.mem_cons.1 hm2' with rfl | hm2'
      · rcases hn with rfl | hn
        · exact hm (List.mem_cons_self ..)
        · omega
      · exact hm (List.mem_cons_of_mem _ hm2')
    · intro hm2
      obtain rfl := List.mem_singleton.1 hm2
      exact hm (List.mem_cons_self ..)
/-- a block is given up -/
theorem St.gave {w0 : Org} {W W' : World} {e : Ch} {hs : List Ch} {os : List Ow} {ps : List (World → Prop)} (h : St w0 (e :: hs) os ps W) (ho : W'.os = W.os) (ht : W'.tape = W.tape) (hu : W'.output = W.output) (hs' : Same [e.id] W W') : St w0 hs os ps W' := by
  have hnd : e.id ∉ muts hs os ∧ (muts hs os).Nodup := List.nodup_cons.1 (show (e.id :: muts hs os).Nodup from h.nodup)
  have he := h.blk e (List.mem_cons_self ..)
  refine ⟨⟨ho.trans h.old.os, ht.trans h.old.tape, hu.trans h.old.output, Nat.le_trans h.old.size hs'.size, fun b h1 h2 => (hs'.block b (Nat.lt_of_lt_of_le h1 h.old.size) ?_).trans (h.old.block b h1 h2)⟩, fun x hx => ?_, fun x hx => ?_, hnd.2, fun p hp W2 h2 => h.pers p hp W2 ?_⟩
  · intro hm
    obtain rfl := List.mem_singleton.1 hm
    rcases he.1 with h3 | h3
    · omega
    · exact h2 h3
  · have hx2 := h.blk x (List.mem_cons_of_mem _ hx)
    refine ⟨hx2.1, (hs'.block x.id (Array.getElem?_eq_some_iff.1 hx2.2).1 ?_).trans hx2.2⟩
    intro hm
    have := List.mem_singleton.1 hm
    exact hnd.1 (this ▸ List.mem_append.2 (.inl (List.mem_map.2 ⟨x, hx, rfl⟩)))
  · have hx2 := h.own x hx
    refine ⟨hx2.1, (hs'.block x.id (Array.getElem?_eq_some_iff.1 hx2.2).1 ?_).trans hx2.2⟩
    intro hm
    have := List.mem_singleton.1 hm
    exact hnd.1 (this ▸ List.mem_append.2 (.inr (List.mem_flatMap.2 ⟨x, hx, by simp [Ow.blk]⟩)))
  · refine ⟨Nat.le_trans hs'.size h2.size, fun b hb hm => (h2.block b (Nat.lt_of_lt_of_le hb hs'.size) fun hm2 => hm (List.mem_cons_of_mem _ hm2)).trans (hs'.block b hb ?_)⟩
    intro hm2
    obtain rfl := List.mem_singleton.1 hm2
    exact hm (List.mem_cons_self ..)
end Go.Proofs.Ytmkigejhgpoleaa
