/-
  One law an operation, over the state of a call's own memory.
-/
import Derived.Test.YtmkigejhgpoleaaSt
import Derived.Laws.Rows
import Derived.Laws.Tables
import Derived.Laws.CopyRow
import Derived.Great.BuildSlice
namespace Go.Proofs.Ytmkigejhgpoleaa
set_option linter.unusedSimpArgs false
set_option linter.unusedVariables false
open Go Go.RowKit

def zeroOf (P : Program) (t : TypeId) : Option Value := (P.info? t).bind (·.zero)
def szOf (P : Program) (t : TypeId) : Option Nat := (P.info? t).map (·.size)
def rowOf (P : Program) (t : TypeId) : Option Bool := (P.underlying t).map fun d => match d with | .struct _ | .array _ _ => true | _ => false

section
variable {P : Program}
theorem run_zeroOf {t : TypeId} {z : Value} (h : zeroOf P t = some z) (w : World) : (zeroValue t).run P w = .ok z w := by
  unfold zeroOf at h
  cases hq : P.info? t with
  | none => simp [hq] at h
  | some i =>
    have hz : i.zero = some z := by simpa [hq] using h
    simp [zeroValue, typeInfo, hq, hz]
theorem run_szOf {t : TypeId} {n : Nat} (h : szOf P t = some n) (w : World) : (sizeOf t).run P w = .ok n w := by
  unfold szOf at h
  cases hq : P.info? t with
  | none => simp [hq] at h
  | some i =>
    have hz : i.size = n := by simpa [hq] using h
    simp [sizeOf, typeInfo, hq, hz]
theorem run_rowOf {t : TypeId} {b : Bool} (h : rowOf P t = some b) (w : World) : (isAgg t).run P w = .ok b w := by
  unfold rowOf at h
  cases hq : P.underlying t with
  | none => simp [hq] at h
  | some d =>
    rw [hq] at h
    unfold isAgg
    rw [Sem.run_bind, run_underlying hq w]
    cases d <;> simp_all

theorem add_zero_addr (k j i : Nat) : (⟨k, j, none⟩ : Addr).add i = ⟨k, j + i, none⟩ := by unfold Addr.add; split <;> simp_all

/-- the cells from a place on, out of a block known whole -/
theorem run_load_sub {w : World} {k off n : Nat} {c : Array Value} {t ty : TypeId} (hg : w.heap[k]? = some (.cells c t (0, 0))) (hr : rowOf P ty = some true) (hs : szOf P ty = some n) (hlt : off + n ≤ c.size) :
    (loadVar ty ⟨k, off, none⟩).run P w = .ok (.agg (c.extract off (off + n))) w := by
  have hl := run_loadCells_list (P := P) w ⟨k, off, none⟩ (c.extract off (off + n)).toList (fun j v hv => by
    rw [add_zero_addr, cell_of_row w k _ c t (0, 0) hg]
    have : (c.extract off (off + n))[j]? = some v := by rw [← hv, Array.getElem?_toList]
    rw [Array.getElem?_extract] at this
    split at this
    · exact this
    · cases this)
  have he : (c.extract off (off + n)).toList.length = n := by simp; omega
  rw [he] at hl
  simp only [Array.toArray_toList] at hl
  simp [loadVar, Sem.run_bind, run_rowOf hr, run_szOf hs, hl]

theorem run_load_one {w : World} {k off : Nat} {c : Array Value} {v : Value} {t ty : TypeId} (hg : w.heap[k]? = some (.cells c t (0, 0))) (hr : rowOf P ty = some false) (hv : c[off]? = some v) :
    (loadVar ty ⟨k, off, none⟩).run P w = .ok v w := by
  have hc : w.cell? ⟨k, off, none⟩ = some v := by rw [cell_of_row w k off c t (0, 0) hg, hv]
  simp [loadVar, Sem.run_bind, run_rowOf hr, hc]

theorem run_load_cell {w : World} {ad : Addr} {v : Value} {ty : TypeId} (hr : rowOf P ty = some false) (hc : w.cell? ad = some v) : (loadVar ty ad).run P w = .ok v w := by
  simp [loadVar, Sem.run_bind, run_rowOf hr, hc]

/-- a row stored from a place on -/
def splice (c : Array Value) (off : Nat) (cs : Array Value) : Array Value := (c.toList.take off ++ cs.toList ++ c.toList.drop (off + cs.size)).toArray
theorem splice_all {c cs : Array Value} (h : c.size = cs.size) : splice c 0 cs = cs := by
  unfold splice
  rw [List.drop_eq_nil_of_le (by simp; omega)]
  simp
theorem splice_size {c cs : Array Value} {off : Nat} (h : off + cs.size ≤ c.size) : (splice c off cs).size = c.size := by
  unfold splice
  simp
  omega

theorem run_store_sub {w : World} {k off : Nat} {c cs : Array Value} {t ty : TypeId} (hg : w.heap[k]? = some (.cells c t (0, 0))) (hs : szOf P ty = some cs.size) (hlt : off + cs.size ≤ c.size) (h1 : cs.all (·.oneCell') = true) :
    (storeVar ty ⟨k, off, none⟩ (.agg cs)).run P w = .ok () (w.setRow k (splice c off cs)) := by
  have := run_storeCells_at (P := P) k off t cs.toList 0 c w hg (by simp; omega) (fun v hv => (Array.all_eq_true_iff_forall_mem.1 h1) v (by simpa using hv))
  simp only [Nat.add_zero, Array.length_toList] at this
  simp [storeVar, Sem.run_bind, run_szOf hs, Value.cells, this, splice]

theorem run_store_one {w : World} {k off : Nat} {c : Array Value} {v : Value} {t ty : TypeId} (hg : w.heap[k]? = some (.cells c t (0, 0))) (hs : szOf P ty = some 1) (hlt : off < c.size) (h1 : v.oneCell' = true) :
    (storeVar ty ⟨k, off, none⟩ v).run P w = .ok () (w.setRow k (c.setIfInBounds off v)) := by
  have hc : w.cell? ⟨k, off, none⟩ = some c[off] := by rw [cell_of_row w k off c t (0, 0) hg]; simp [hlt]
  have hf : w.frozen? ⟨k, off, none⟩ = false := frozen_of_row w k off c t hg
  have hcells : v.cells = #[v] := by cases v <;> first | rfl | simp [Value.oneCell'] at h1
  have hst : (store ⟨k, off, none⟩ v).run P w = .ok () (w.setRow k (c.setIfInBounds off v)) := by
    rw [run_store P w _ v _ h1, hc]
    simp [hf, setCell_eq_setRow w k off c t (0, 0) v hg]
  have hst' : (store ((⟨k, off, none⟩ : Addr).add 0) v).run P w = .ok () (w.setRow k (c.setIfInBounds off v)) := hst
  simp [storeVar, Sem.run_bind, run_szOf hs, hcells, storeCells, hst']
end

def lookL : List Value → Nat → Option Value
  | [], _ => none
  | x :: _, 0 => some x
  | _ :: l, n + 1 => lookL l n
theorem lookL_eq : ∀ (l : List Value) (n : Nat), lookL l n = l[n]?
  | [], _ => rfl
  | x :: _, 0 => rfl
  | _ :: l, n + 1 => by simpa [lookL] using lookL_eq l n
def setL : List Value → Nat → Value → List Value
  | [], _, _ => []
  | _ :: l, 0, v => v :: l
  | x :: l, n + 1, v => x :: setL l n v
theorem setL_eq : ∀ (l : List Value) (n : Nat) (v : Value), setL l n v = l.set n v
  | [], _, _ => rfl
  | x :: _, 0, _ => rfl
  | x :: l, n + 1, v => by simp [setL, setL_eq l n v]

/-- block number k, of contents c and type t, is in the list; with c' in its place the list is hs' -/
inductive Upd (k : Nat) (c : Array Value) (t : CT) (c' : Array Value) : List Ch → List Ch → Prop
  | here {hs : List Ch} : Upd k c t c' (⟨k, c, t⟩ :: hs) (⟨k, c', t⟩ :: hs)
  | there {e : Ch} {hs hs' : List Ch} : Upd k c t c' hs hs' → Upd k c t c' (e :: hs) (e :: hs')

theorem Upd.app {k : Nat} {c c' : Array Value} {t : CT} {hs hs' : List Ch} (h : Upd k c t c' hs hs') : ∀ X : List Ch, Upd k c t c' (X ++ hs) (X ++ hs')
  | [] => h
  | _ :: X => .there (Upd.app h X)
theorem Upd.mem {k : Nat} {c c' : Array Value} {t : CT} {hs hs' : List Ch} (h : Upd k c t c' hs hs') : (⟨k, c, t⟩ : Ch) ∈ hs := by
  induction h with
  | here => exact List.mem_cons_self ..
  | there _ ih => exact List.mem_cons_of_mem _ ih
theorem Upd.ids {k : Nat} {c c' : Array Value} {t : CT} {hs hs' : List Ch} (h : Upd k c t c' hs hs') : hs'.map (·.id) = hs.map (·.id) := by
  induction h with
  | here => rfl
  | there _ ih => simp [ih]
theorem Upd.of {k : Nat} {c c' : Array Value} {t : CT} {hs hs' : List Ch} (h : Upd k c t c' hs hs') (hn : (hs.map (·.id)).Nodup) : ∀ e ∈ hs', (e = ⟨k, c', t⟩) ∨ (e ∈ hs ∧ e.id ≠ k) := by
  induction h with
  | here =>
    intro e he
    simp only [List.map_cons, List.nodup_cons] at hn
    rcases List.mem_cons.1 he with rfl | he
    · exact .inl rfl
    · exact .inr ⟨List.mem_cons_of_mem _ he, fun h => hn.1 (h ▸ List.mem_map_of_mem he)⟩
  | there hu ih =>
    intro e he
    simp only [List.map_cons, List.nodup_cons] at hn
    rcases List.mem_cons.1 he with rfl | he
    · exact .inr ⟨List.mem_cons_self .., fun h => hn.1 (by rw [h]; exact List.mem_map_of_mem (f := (·.id)) hu.mem)⟩
    · rcases ih hn.2 e he with h | ⟨h, h'⟩
      · exact .inl h
      · exact .inr ⟨List.mem_cons_of_mem _ h, h'⟩

theorem heap_setRow_other (W : World) (k b : Nat) (c : Array Value) (h : b ≠ k) : (W.setRow k c).heap[b]? = W.heap[b]? := by
  unfold World.setRow
  rw [Array.getElem?_modify, if_neg (fun e => h e.symm)]

theorem below_setRow {B k : Nat} {W0 W : World} (h : Below B W0 W) (hk : B ≤ k) (c : Array Value) : Below B W0 (W.setRow k c) :=
  h.trans ⟨rfl, rfl, rfl, by simp, fun b hb => heap_setRow_other W k b c (by omega)⟩

theorem Old.row {w0 : Org} {W : World} (h : Old w0 W) {k : Nat} (hk : w0.w.heap.size ≤ k ∨ k ∈ w0.ms) (c : Array Value) : Old w0 (W.setRow k c) := by
  refine ⟨h.os, h.tape, h.output, by simpa using h.size, fun b h1 h2 => ?_⟩
  have hne : b ≠ k := by
    intro e
    subst e
    rcases hk with hk | hk
    · omega
    · exact h2 hk
  exact (heap_setRow_other W k b c hne).trans (h.block b h1 h2)
theorem St.put {w0 : Org} {W : World} {hs hs' : List Ch} {os : List Ow} {ps : List (World → Prop)} (h : St w0 hs os ps W) {k : Nat} {c c' : Array Value} {t : TypeId} (hu : Upd k c t c' hs hs') : St w0 hs' os ps (W.setRow k c') := by
  have hm : muts hs' os = muts hs os := by unfold muts; rw [hu.ids]
  have hat := h.at_ hu.mem
  have hn : (hs.map (·.id)).Nodup := (List.nodup_append.1 h.nodup).1
  have hkm : k ∈ hs.map (·.id) := List.mem_map_of_mem (f := (·.id)) hu.mem
  have hko : k ∉ os.flatMap Ow.blk := fun h2 => (List.nodup_append.1 h.nodup).2.2 k hkm k h2 rfl
  have hblk : (W.setRow k c').heap[k]? = some (.cells c' t (0, 0)) := setRow_heap W k c c' t _ hat
  refine ⟨h.old.row (h.ge_ hu.mem) c', fun e he => ?_, fun o ho => ?_, by rw [hm]; exact h.nodup, fun p hp W2 h2 => h.pers p hp W2 ?_⟩
  · rcases hu.of hn e he with rfl | ⟨he, hne⟩
    · exact ⟨h.ge_ hu.mem, hblk⟩
    · exact ⟨(h.blk e he).1, (heap_setRow_other W k _ c' hne).trans (h.blk e he).2⟩
  · exact ⟨(h.own o ho).1, (heap_setRow_other W k _ c' fun e => hko (e ▸ List.mem_flatMap.2 ⟨o, ho, by simp [Ow.blk]⟩)).trans (h.own o ho).2⟩
  · rw [hm] at h2
    refine Same.trans ⟨by simp, fun b hb hnb => heap_setRow_other W k b c' fun e => hnb ?_⟩ h2
    subst e
    exact List.mem_append.2 (.inl hkm)

/-- a block of one's own is laid anew, whatever it holds -/
theorem St.putO {w0 : Org} {W : World} {hs hs' : List Ch} {os : List Ow} {ps : List (World → Prop)} (h : St w0 hs os ps W) {k : Nat} {c c' : Array Value} {t : CT} (hu : Upd k c t c' hs hs') : St w0 hs' os ps { W with heap := W.heap.setIfInBounds k (Ch.obj ⟨k, c', t⟩) } := by
  have hm : muts hs' os = muts hs os := by unfold muts; rw [hu.ids]
  have hat := h.atO hu.mem
  have hlt : k < W.heap.size := (Array.getElem?_eq_some_iff.1 hat).1
  have hn : (hs.map (·.id)).Nodup := (List.nodup_append.1 h.nodup).1
  have hkm : k ∈ hs.map (·.id) := List.mem_map_of_mem (f := (·.id)) hu.mem
  have hko : k ∉ os.flatMap Ow.blk := fun h2 => (List.nodup_append.1 h.nodup).2.2 k hkm k h2 rfl
  have hsame : (W.heap.setIfInBounds k (Ch.obj ⟨k, c', t⟩))[k]? = some (Ch.obj ⟨k, c', t⟩) := by
    rw [Array.getElem?_setIfInBounds]; simp [hlt]
  have hoth : ∀ b, b ≠ k → (W.heap.setIfInBounds k (Ch.obj ⟨k, c', t⟩))[b]? = W.heap[b]? := fun b hb => by
    rw [Array.getElem?_setIfInBounds, if_neg (fun e => hb e.symm)]
  have hge := (h.blk _ hu.mem).1
  refine ⟨⟨h.old.os, h.old.tape, h.old.output, by simpa using h.old.size, fun b h1 h2 => ?_⟩, fun e he => ?_, fun o ho => ?_, by rw [hm]; exact h.nodup, fun p hp W2 h2 => h.pers p hp W2 ?_⟩
  · have hne : b ≠ k := by
      intro e
      subst e
      rcases hge with hge | hge
      · exact absurd h1 (by simp only at hge; omega)
      · exact h2 hge
    exact (hoth b hne).trans (h.old.block b h1 h2)
  · rcases hu.of hn e he with rfl | ⟨he, hne⟩
    · exact ⟨hge, hsame⟩
    · exact ⟨(h.blk e he).1, (hoth _ hne).trans (h.blk e he).2⟩
  · exact ⟨(h.own o ho).1, (hoth _ fun e => hko (e ▸ List.mem_flatMap.2 ⟨o, ho, by simp [Ow.blk]⟩)).trans (h.own o ho).2⟩
  · rw [hm] at h2
    refine Same.trans ⟨by simp, fun b hb hnb => hoth b fun e => hnb ?_⟩ h2
    subst e
    exact List.mem_append.2 (.inl hkm)

def ev? (a : Act) : Operand → Option Value
  | .tmp t => lookL a.tmps.toList t
  | .const v => some v
  | .global g => some (.pointer (some ⟨g, 0, none⟩))
  | .func f => some (.func (.func f) #[] #[])
theorem ev_eq {a : Act} {x : Operand} {v : Value} (h : ev? a x = some v) : a.eval x = v := by
  cases x with
  | tmp t =>
    simp only [ev?, lookL_eq, Array.getElem?_toList] at h
    simp [Act.eval, Array.getD_eq_getD_getElem?, h]
  | _ => simpa [ev?, Act.eval] using h

section
variable {P : Program} {a : Act} {w0 : Org} {W : World} {K : Act → World → Prop} {Q : Exit → Act → World → Prop} {o : Oper} {hs hs' : List Ch} {os : List Ow} {ps : List (World → Prop)}

theorem wp_box_row {t : TypeId} {x : Operand} (ho : o.op = .box t x) {c : Array Value} (hx : a.eval x = .agg c) (hS : St w0 hs os ps W)
    (h : ∀ k W', St w0 (⟨k, c, t⟩ :: hs) os ps W' → Below W.heap.size W W' → W.heap.size ≤ k → K (a.put o.dst (.pointer (some ⟨k, 0, none⟩))) W') : o.wp P a W K Q := by
  unfold Oper.wp execOp
  simp only [ho, hx, Instr.box, newVar, newRow, Value.cells]
  simp [go_sem]
  exact h _ _ (hS.new c t) (St.below_alloc _ _) (Nat.le_refl _)

theorem wp_box_one {t : TypeId} {x : Operand} (ho : o.op = .box t x) {v : Value} (hx : a.eval x = v) (h1 : v.oneCell' = true) (hS : St w0 hs os ps W)
    (h : ∀ k W', St w0 (⟨k, #[v], t⟩ :: hs) os ps W' → Below W.heap.size W W' → W.heap.size ≤ k → K (a.put o.dst (.pointer (some ⟨k, 0, none⟩))) W') : o.wp P a W K Q := by
  have hcells : v.cells = #[v] := by cases v <;> first | rfl | simp [Value.oneCell'] at h1
  unfold Oper.wp execOp
  simp only [ho, hx, Instr.box, newVar, newRow, hcells]
  simp [go_sem]
  exact h _ _ (hS.new #[v] t) (St.below_alloc _ _) (Nat.le_refl _)

theorem wp_alloc_row {t : TypeId} (ho : o.op = .alloc t) {c : Array Value} (hz : zeroOf P t = some (.agg c)) (hS : St w0 hs os ps W)
    (h : ∀ k W', St w0 (⟨k, c, t⟩ :: hs) os ps W' → Below W.heap.size W W' → W.heap.size ≤ k → K (a.put o.dst (.pointer (some ⟨k, 0, none⟩))) W') : o.wp P a W K Q := by
  unfold Oper.wp execOp
  simp only [ho]
  simp [go_sem, run_zeroOf hz]
  exact h _ _ (hS.new c t) (St.below_alloc _ _) (Nat.le_refl _)

theorem wp_alloc_one {t : TypeId} (ho : o.op = .alloc t) {v : Value} (hz : zeroOf P t = some v) (h1 : v.oneCell' = true) (hS : St w0 hs os ps W)
    (h : ∀ k W', St w0 (⟨k, #[v], t⟩ :: hs) os ps W' → Below W.heap.size W W' → W.heap.size ≤ k → K (a.put o.dst (.pointer (some ⟨k, 0, none⟩))) W') : o.wp P a W K Q := by
  unfold Oper.wp execOp
  simp only [ho]
  simp only [go_sem, Instr.alloc, newVar, newRow, Sem.run_bind, run_zeroOf hz, Result.andThen_ok]
  cases v <;> first | exact h _ _ (hS.new _ t) (St.below_alloc _ _) (Nat.le_refl _) | exact absurd h1 (by simp [Value.oneCell'])

theorem wp_load_row' {ty : TypeId} {x : Operand} (ho : o.op = .load ty x) {k : Nat} (hx : a.eval x = .pointer (some ⟨k, 0, none⟩)) (hS : St w0 hs os ps W) {c : Array Value} {t : TypeId} (hm : (⟨k, c, t⟩ : Ch) ∈ hs)
    (hr : rowOf P ty = some true) (hs' : szOf P ty = some c.size) (h : K (a.put o.dst (.agg c)) W) : o.wp P a W K Q := by
  have hl := run_load_sub (P := P) (off := 0) (n := c.size) (hS.at_ hm) hr hs' (by omega)
  unfold Oper.wp execOp
  simp only [ho, hx, Instr.loadAt, Instr.sureAddr, Sem.run_bind, Sem.run_pure, Result.andThen_ok, hl]
  have he : c.extract 0 (0 + c.size) = c := by simp
  rw [he]
  exact h

theorem wp_load_sub {ty : TypeId} {x : Operand} (ho : o.op = .load ty x) {k off : Nat} (hx : a.eval x = .pointer (some ⟨k, off, none⟩)) (hS : St w0 hs os ps W) {c : Array Value} {t : TypeId} (hm : (⟨k, c, t⟩ : Ch) ∈ hs)
    (hr : rowOf P ty = some true) {n : Nat} (hs' : szOf P ty = some n) (hlt : off + n ≤ c.size) {cs : Array Value} (hcs : c.extract off (off + n) = cs) (h : K (a.put o.dst (.agg cs)) W) : o.wp P a W K Q := by
  subst hcs
  have hl := run_load_sub (P := P) (hS.at_ hm) hr hs' hlt
  unfold Oper.wp execOp
  simp only [ho, hx, Instr.loadAt, Instr.sureAddr, Sem.run_bind, Sem.run_pure, Result.andThen_ok, hl]
  exact h

theorem wp_load_one {ty : TypeId} {x : Operand} (ho : o.op = .load ty x) {k off : Nat} (hx : a.eval x = .pointer (some ⟨k, off, none⟩)) (hS : St w0 hs os ps W) {c : Array Value} {t : TypeId} (hm : (⟨k, c, t⟩ : Ch) ∈ hs)
    (hr : rowOf P ty = some false) {v : Value} (hv : lookL c.toList off = some v) (h : K (a.put o.dst v) W) : o.wp P a W K Q := by
  have hl := run_load_one (P := P) (hS.at_ hm) hr (by rw [← Array.getElem?_toList, ← lookL_eq]; exact hv)
  unfold Oper.wp execOp
  simp only [ho, hx, Instr.loadAt, Instr.sureAddr, Sem.run_bind, Sem.run_pure, Result.andThen_ok, hl]
  exact h

theorem wp_load_cell {ty : TypeId} {x : Operand} (ho : o.op = .load ty x) {ad : Addr} (hx : a.eval x = .pointer (some ad)) (hr : rowOf P ty = some false) {v : Value} (hv : W.cell? ad = some v) (h : K (a.put o.dst v) W) : o.wp P a W K Q := by
  have hl := run_load_cell (P := P) hr hv
  unfold Oper.wp execOp
  simp only [ho, hx, Instr.loadAt, Instr.sureAddr, Sem.run_bind, Sem.run_pure, Result.andThen_ok, hl]
  exact h

theorem wp_store_row' {ty : TypeId} {x y : Operand} (ho : o.op = .store ty x y) {k : Nat} (hx : a.eval x = .pointer (some ⟨k, 0, none⟩)) {cs : Array Value} (hy : a.eval y = .agg cs) (hS : St w0 hs os ps W) {c : Array Value} {t : TypeId} (hu : Upd k c t cs hs hs')
    (hsz : szOf P ty = some cs.size) (hc : c.size = cs.size) (h1 : cs.all (·.oneCell') = true) (h : ∀ W', St w0 hs' os ps W' → K (a.put o.dst undef) W') : o.wp P a W K Q := by
  have hl := run_store_sub (P := P) (off := 0) (hS.at_ hu.mem) hsz (by omega) h1
  rw [splice_all hc] at hl
  unfold Oper.wp execOp
  simp only [ho, hx, hy, Instr.storeAt, Instr.sureAddr, Sem.run_bind, Sem.run_pure, Result.andThen_ok, hl]
  exact h _ (hS.put hu)

theorem wp_store_sub {ty : TypeId} {x y : Operand} (ho : o.op = .store ty x y) {k off : Nat} (hx : a.eval x = .pointer (some ⟨k, off, none⟩)) {cs : Array Value} (hy : a.eval y = .agg cs) (hS : St w0 hs os ps W) {c : Array Value} {t : TypeId} (hu : Upd k c t (splice c off cs) hs hs')
    (hsz : szOf P ty = some cs.size) (hc : off + cs.size ≤ c.size) (h1 : cs.all (·.oneCell') = true) (h : ∀ W', St w0 hs' os ps W' → K (a.put o.dst undef) W') : o.wp P a W K Q := by
  have hl := run_store_sub (P := P) (hS.at_ hu.mem) hsz hc h1
  unfold Oper.wp execOp
  simp only [ho, hx, hy, Instr.storeAt, Instr.sureAddr, Sem.run_bind, Sem.run_pure, Result.andThen_ok, hl]
  exact h _ (hS.put hu)

theorem wp_store_one {ty : TypeId} {x y : Operand} (ho : o.op = .store ty x y) {k off : Nat} (hx : a.eval x = .pointer (some ⟨k, off, none⟩)) {v : Value} (hy : a.eval y = v) (hS : St w0 hs os ps W) {c c' : Array Value} {t : TypeId} (hu : Upd k c t c' hs hs')
    (hc' : (setL c.toList off v).toArray = c') (hsz : szOf P ty = some 1) (hc : off < c.size) (h1 : v.oneCell' = true) (h : ∀ W', St w0 hs' os ps W' → K (a.put o.dst undef) W') : o.wp P a W K Q := by
  have hc'' : c.setIfInBounds off v = c' := by rw [← hc', setL_eq, ← Array.toList_setIfInBounds]
  subst hc''
  have hl := run_store_one (P := P) (hS.at_ hu.mem) hsz hc h1
  unfold Oper.wp execOp
  simp only [ho, hx, hy, Instr.storeAt, Instr.sureAddr, Sem.run_bind, Sem.run_pure, Result.andThen_ok, hl]
  exact h _ (hS.put hu)

theorem fold_size (off : Nat) : ∀ (l : List Value) (k : Nat) (c : Array Value), ((l.zipIdx k).foldl (fun cs p => cs.setIfInBounds (off + p.2) p.1) c).size = c.size
  | [], _, _ => rfl
  | v :: l, k, c => by
    simp only [List.zipIdx_cons, List.foldl_cons]
    rw [fold_size off l (k + 1)]
    simp
theorem fold_get (off i : Nat) : ∀ (l : List Value) (k : Nat) (c : Array Value), ((l.zipIdx k).foldl (fun cs p => cs.setIfInBounds (off + p.2) p.1) c)[i]? = if off + k ≤ i ∧ i < off + k + l.length ∧ i < c.size then l[i - (off + k)]? else c[i]?
  | [], k, c => by simp; intro h1 h2; omega
  | v :: l, k, c => by
    simp only [List.zipIdx_cons, List.foldl_cons]
    rw [fold_get off i l (k + 1)]
    simp only [Array.size_setIfInBounds, List.length_cons]
    by_cases h1 : i = off + k
    · subst h1
      rw [if_neg (by omega)]
      by_cases h2 : off + k < c.size
      · rw [if_pos ⟨by omega, by omega, h2⟩]; simp [h2]
      · rw [if_neg (by omega)]; simp [h2]
    · rw [Array.getElem?_setIfInBounds_ne (by omega)]
      by_cases h2 : off + (k + 1) ≤ i ∧ i < off + (k + 1) + l.length ∧ i < c.size
      · rw [if_pos h2, if_pos ⟨by omega, by omega, h2.2.2⟩, show i - (off + k) = (i - (off + (k + 1))) + 1 by omega, List.getElem?_cons_succ]
      · rw [if_neg h2, if_neg (by omega)]
theorem fold_splice (off : Nat) (c cs : Array Value) (h : off + cs.size ≤ c.size) : (cs.zipIdx.foldl (fun a p => a.setIfInBounds (off + p.2) p.1) c) = splice c off cs := by
  rw [← Array.foldl_toList, Array.toList_zipIdx]
  apply Array.ext_getElem?
  intro i
  rw [fold_get]
  unfold splice
  simp only [Nat.add_zero, Array.length_toList, Array.getElem?_toList, List.getElem?_toArray, List.getElem?_append, List.length_append, List.length_take]
  by_cases h1 : i < off
  · rw [if_neg (by omega), if_pos (by omega), if_pos (by omega)]
    simp [h1]
  · by_cases h2 : i < off + cs.size
    · rw [if_pos ⟨by omega, h2, by omega⟩, if_pos (by omega), if_neg (by omega), show i - min off c.size = i - off by omega]
    · rw [if_neg (by omega), if_neg (by omega), List.getElem?_drop, show off + cs.size + (i - (min off c.size + cs.size)) = i by omega, Array.getElem?_toList]
theorem fill_splice {place : Nat → Option (Nat × Nat)} {c : Array Value} {i off : Nat} {v : Value} {rest : List (Nat × Value)} (hp : place i = some (off, v.cells.size)) (h : off + v.cells.size ≤ c.size) :
    Instr.fill place c ((i, v) :: rest) = Instr.fill place (splice c off v.cells) rest := by
  simp only [Instr.fill, hp]
  rw [if_neg (by simp; omega), fold_splice _ _ _ h]

def placesOf (P : Program) (t : TypeId) : Option (List (Nat × Nat)) := match P.underlying t with
  | some (.struct fs) => fs.toList.mapM (fun f => (P.info? f.type).map fun i => (f.offset, i.size))
  | _ => none
theorem built_struct {t : TypeId} {ps : List (Nat × Nat)} {z : Value} {parts : List (Nat × Value)} (hps : placesOf P t = some ps) (hz : zeroOf P t = some z) : P.built t parts = Instr.fill (ps.toArray[·]?) z.cells parts := by
  unfold placesOf at hps
  unfold zeroOf at hz
  unfold Program.built
  cases hq : P.info? t with
  | none => simp [hq] at hz
  | some i =>
    have hz' : i.zero = some z := by simpa [hq] using hz
    cases hu : P.underlying t with
    | none => simp [hu] at hps
    | some d =>
      rw [hu] at hps
      cases d <;> simp at hps ⊢
      simp [hz', hps]
/-- a struct of one part that is the whole -/
theorem built_one {t : TypeId} {c z : Array Value} {n : Nat} (hps : placesOf P t = some [(0, n)]) (hz : zeroOf P t = some (.agg z)) (hn : c.size = n) (hzs : z.size = n) : P.built t [(0, .agg c)] = some c := by
  rw [built_struct hps hz, fill_splice (off := 0) (by simp [Value.cells, hn]) (by simp [Value.cells]; omega)]
  simp only [Instr.fill, Value.cells]
  rw [splice_all (by omega)]

theorem wp_build {t : TypeId} {parts : Array (Nat × Operand)} (ho : o.op = .build t parts) {cs : Array Value} (hf : P.built t (parts.map fun (i, x) => (i, a.eval x)).toList = some cs) (h : K (a.put o.dst (.agg cs)) W) : o.wp P a W K Q :=
  Go.wp_build t parts ho (by rw [hf]; rfl) (by rw [hf]; exact h)
theorem wp_build_one {t : TypeId} {x : Operand} (ho : o.op = .build t #[(0, x)]) {c z : Array Value} {n : Nat} (hx : a.eval x = .agg c) (hps : placesOf P t = some [(0, n)]) (hz : zeroOf P t = some (.agg z)) (hn : c.size = n) (hzs : z.size = n) (h : K (a.put o.dst (.agg c)) W) : o.wp P a W K Q :=
  wp_build ho (by simp only [List.map_toArray, List.map_cons, List.map_nil, hx]; exact built_one hps hz hn hzs) h

def flatL : List Value → List Value
  | [] => []
  | v :: l => v.cells.toList ++ flatL l
theorem flatL_len {sz : Nat} : ∀ {vs : List Value}, (∀ v ∈ vs, v.cells.size = sz) → (flatL vs).length = vs.length * sz
  | [], _ => by simp [flatL]
  | v :: l, h => by
    have h1 := h v (List.mem_cons_self ..)
    have h2 := flatL_len (vs := l) fun u hu => h u (List.mem_cons_of_mem _ hu)
    simp only [flatL, List.length_append, Array.length_toList, List.length_cons, h1, h2, Nat.succ_mul]
    omega
theorem splice_list {l m : List Value} {off : Nat} (h : off = l.length) (cs : Array Value) (_hm : cs.size ≤ m.length) : splice (l ++ m).toArray off cs = (l ++ cs.toList ++ m.drop cs.size).toArray := by
  subst h
  unfold splice
  simp
theorem fill_seq {sz : Nat} : ∀ (vs : List Value) (k : Nat) (l m : List Value), (∀ v ∈ vs, v.cells.size = sz) → l.length = k * sz → m.length = vs.length * sz →
    Instr.fill (fun i => some (i * sz, sz)) (l ++ m).toArray (vs.zipIdx k |>.map fun p => (p.2, p.1)) = some (l ++ flatL vs).toArray
  | [], k, l, m, _, _, hm => by
    have : m = [] := List.eq_nil_of_length_eq_zero (by simpa using hm)
    subst this
    simp [Instr.fill, flatL]
  | v :: vs, k, l, m, h, hl, hm => by
    have h1 := h v (List.mem_cons_self ..)
    have hm' : sz + vs.length * sz = m.length := by rw [hm, List.length_cons, Nat.succ_mul]; omega
    simp only [List.zipIdx_cons, List.map_cons]
    rw [fill_splice (off := k * sz) (by rw [h1]) (by simp; omega), splice_list hl.symm _ (by omega)]
    have := fill_seq vs (k + 1) (l ++ v.cells.toList) (m.drop v.cells.size) (fun u hu => h u (List.mem_cons_of_mem _ hu)) (by simp [hl, h1, Nat.succ_mul]) (by simp; omega)
    rw [this]
    simp [flatL]

theorem wp_buildS {t e : TypeId} {n sz : Nat} {parts : Array (Nat × Operand)} (ho : o.op = .buildSlice t n parts) (hu : P.underlying t = some (.slice e)) (hsz : szOf P e = some sz) {z : Value} (hz : zeroOf P e = some z) (vs : List Value)
    (hp : (parts.map fun (i, x) => (i, a.eval x)).toList = (vs.zipIdx 0).map fun p => (p.2, p.1)) (hn : vs.length = n) (hv : ∀ v ∈ vs, v.cells.size = sz) (h24 : n * sz ≤ 16777216) (h0 : 0 < n * sz) (hS : St w0 hs os ps W)
    (h : ∀ k W', St w0 (⟨k, (flatL vs).toArray, e⟩ :: hs) os ps W' → Below W.heap.size W W' → W.heap.size ≤ k → K (a.put o.dst (.slice (some ⟨k, 0, none⟩) n n)) W') : o.wp P a W K Q := by
  cases hie : P.info? e with
  | none => simp [szOf, hie] at hsz
  | some ie =>
    have hz' : ie.zero = some z := by simpa [zeroOf, hie] using hz
    have hs' : ie.size = sz := by simpa [szOf, hie] using hsz
    refine Go.wp_buildSlice t e n parts ho (flatL vs).toArray ie z hu hie hz' (by rw [hs']; omega) (by rw [hs']; omega) ?_ (h _ _ (hS.new _ e) (St.below_alloc _ _) (Nat.le_refl _))
    rw [hp, hs']
    have := fill_seq (sz := sz) vs 0 [] ((Array.range (n * sz)).map (z.cells[· % z.cells.size]!)).toList hv (by simp) (by simp [hn])
    simpa only [List.nil_append, Array.toArray_toList] using this
theorem wp_buildS1 {t e : TypeId} {sz : Nat} {x : Operand} (ho : o.op = .buildSlice t 1 #[(0, x)]) {v : Value} (hx : a.eval x = v) (hu : P.underlying t = some (.slice e)) (hsz : szOf P e = some sz) {z : Value} (hz : zeroOf P e = some z)
    (hv : v.cells.size = sz) (h24 : 1 * sz ≤ 16777216) (h0 : 0 < 1 * sz) (hS : St w0 hs os ps W) (h : ∀ k W', St w0 (⟨k, v.cells, e⟩ :: hs) os ps W' → Below W.heap.size W W' → W.heap.size ≤ k → K (a.put o.dst (.slice (some ⟨k, 0, none⟩) 1 1)) W') : o.wp P a W K Q :=
  wp_buildS ho hu hsz hz [v] (by simp [hx]) rfl (by simpa using hv) h24 h0 hS (by simpa [flatL] using h)
theorem wp_buildS2 {t e : TypeId} {sz : Nat} {x y : Operand} (ho : o.op = .buildSlice t 2 #[(0, x), (1, y)]) {v u : Value} (hx : a.eval x = v) (hy : a.eval y = u) (hu : P.underlying t = some (.slice e)) (hsz : szOf P e = some sz) {z : Value} (hz : zeroOf P e = some z)
    (hv : v.cells.size = sz) (hv' : u.cells.size = sz) (h24 : 2 * sz ≤ 16777216) (h0 : 0 < 2 * sz) (hS : St w0 hs os ps W) (h : ∀ k W', St w0 (⟨k, (v.cells.toList ++ u.cells.toList).toArray, e⟩ :: hs) os ps W' → Below W.heap.size W W' → W.heap.size ≤ k → K (a.put o.dst (.slice (some ⟨k, 0, none⟩) 2 2)) W') : o.wp P a W K Q :=
  wp_buildS ho hu hsz hz [v, u] (by simp [hx, hy]) rfl (by simp [hv, hv']) h24 h0 hS (by simpa [flatL] using h)

theorem wp_move {x : Operand} {v : Value} (ho : o.op = .move x) (hx : a.eval x = v) (h : K (a.put o.dst v) W) : o.wp P a W K Q := by
  unfold Oper.wp execOp
  simp only [ho, hx, Sem.run_pure]
  exact h
theorem wp_assign {x : Operand} {v : Value} (ho : o.op = .assign x) (hx : a.eval x = v) (h : K (a.put o.dst v) W) : o.wp P a W K Q := by
  unfold Oper.wp execOp
  simp only [ho, hx, Sem.run_pure]
  exact h
theorem wp_nil {x : Operand} {ad : Addr} (ho : o.op = .nilCheck x) (hx : a.eval x = .pointer (some ad)) (h : K (a.put o.dst (.pointer (some ad))) W) : o.wp P a W K Q := by
  unfold Oper.wp execOp
  simp only [ho, hx, Sem.run_pure]
  exact h
theorem wp_not {x : Operand} {t : TypeId} {b : Bool} (ho : o.op = .unOp .not t x) (hx : a.eval x = .bool b) (h : K (a.put o.dst (.bool !b)) W) : o.wp P a W K Q := by
  unfold Oper.wp execOp
  simp only [ho, hx, Op.unary, Sem.run_bind, Sem.run_pure, Result.andThen_ok]
  exact h
/-- the place of a field of more than no cells -/
def fieldOff (P : Program) (t : TypeId) (f : Nat) : Option Nat := match P.underlying t with
  | some (.struct fs) => match fs[f]? with
    | some fd => match szOf P fd.type with
      | some (_ + 1) => some fd.offset
      | _ => none
    | none => none
  | _ => none
theorem wp_fieldAddr {x : Operand} {t : TypeId} {f d k off : Nat} (ho : o.op = .fieldAddr t x f) (hx : a.eval x = .pointer (some ⟨k, off, none⟩)) (hd : fieldOff P t f = some d) (h : K (a.put o.dst (.pointer (some ⟨k, off + d, none⟩))) W) : o.wp P a W K Q := by
  unfold fieldOff at hd
  cases hu : P.underlying t with
  | none => simp [hu] at hd
  | some ds =>
    rw [hu] at hd
    cases ds <;> simp at hd
    rename_i fs
    cases hf : fs[f]? with
    | none => simp [hf] at hd
    | some fd =>
      simp only [hf] at hd
      cases hz : szOf P fd.type with
      | none => simp [hz] at hd
      | some n =>
        rw [hz] at hd
        cases n with
        | zero => simp at hd
        | succ n =>
          obtain rfl : fd.offset = d := by simpa using hd
          unfold Oper.wp execOp
          simp only [ho, hx, Instr.fieldAt, Instr.sureAddr, Sem.run_bind, run_underlying hu, Result.andThen_ok, hf, Sem.run_pure, fieldPlace, run_szOf hz]
          simp only [Nat.add_one_ne_zero, if_false, Sem.run_pure, Result.andThen_ok, add_zero_addr]
          exact h
theorem wp_callF {f : Operand} {args : Array Operand} {ats : Array TypeId} {g : FuncId} {vs cap : Array Value} (ho : o.op = .call { callee := .value f, args, argTypes := ats }) (hf : a.eval f = .func (.func g) #[] cap) (hargs : args.map a.eval ++ cap = vs)
    (hc : (callFunc g vs).run P W = .ok (.enter g vs) W) {R : Value → World → Prop} (h : Calls P g vs W fun e W' => ∃ v, e = .returned v ∧ R v W') (hk : ∀ v W', R v W' → K (a.put o.dst v) W') : o.wp P a W K Q := by
  subst hargs
  unfold Oper.wp execOp
  simp only [ho, resolve, Deferred.ofValue, hf, invoke, Sem.run_bind, Sem.run_pure, Result.andThen_ok, Array.empty_append, hc, Oper.upon]
  refine h.mono fun e W' ⟨v, he, hR⟩ => ?_
  subst he
  exact hk v W' hR

def arrOf (P : Program) (t : TypeId) : Option (Nat × TypeId) := match P.underlying t with
  | some (.array n e) => some (n, e)
  | _ => none
theorem arrOf_eq {t e : TypeId} {n : Nat} (h : arrOf P t = some (n, e)) : P.underlying t = some (.array n e) := by
  unfold arrOf at h
  split at h
  · rename_i hu
    simp only [Option.some.injEq, Prod.mk.injEq] at h
    obtain ⟨rfl, rfl⟩ := h
    exact hu
  · cases h
theorem wp_indexAddr_arr {x ix : Operand} {t e : TypeId} {len n kk off q : Nat} {k : IntKind} {i : Int} (ho : o.op = .indexAddr t x ix) (hx : a.eval x = .pointer (some ⟨kk, off, none⟩)) (hi : a.eval ix = .int k i) (hu : arrOf P t = some (len, e)) (h0 : 0 ≤ i) (h1 : i < len)
    (hs : szOf P e = some n) (hq : off + i.toNat * n = q) (h : K (a.put o.dst (.pointer (some ⟨kk, q, none⟩))) W) : o.wp P a W K Q := by
  subst hq
  unfold Oper.wp execOp
  simp only [ho, hx, hi, Instr.indexAt, Instr.sureAddr, asIntOf, Sem.run_bind, Sem.run_pure, Result.andThen_ok, run_underlying (arrOf_eq hu), if_pos (And.intro h0 h1), run_szOf hs, add_zero_addr]
  exact h
/-- the address of an element of a slice -/
theorem wp_indexAddr_sl {x ix : Operand} {t e : TypeId} {n len cap : Nat} {ad ad' : Addr} {k : IntKind} {i : Int} (ho : o.op = .indexAddr t x ix) (hx : a.eval x = .slice (some ad) len cap) (hi : a.eval ix = .int k i) (hu : P.underlying t = some (.slice e)) (h0 : 0 ≤ i) (h1 : i < len)
    (hs : szOf P e = some n) (hq : ad.add (i.toNat * n) = ad') (h : K (a.put o.dst (.pointer (some ad'))) W) : o.wp P a W K Q := by
  subst hq
  unfold Oper.wp execOp
  simp only [ho, hx, hi, Instr.indexAt, asIntOf, Sem.run_bind, Sem.run_pure, Result.andThen_ok, run_underlying hu, if_pos (And.intro h0 h1), run_szOf hs]
  exact h
theorem wp_index_row {x ix : Operand} {t e : TypeId} {len n : Nat} {c cs : Array Value} {k : IntKind} {i : Int} (ho : o.op = .index t x ix) (hx : a.eval x = .agg c) (hi : a.eval ix = .int k i) (hu : arrOf P t = some (len, e)) (h0 : 0 ≤ i) (h1 : i < len)
    (hr : rowOf P e = some true) (hs : szOf P e = some n) (hcs : c.extract (i.toNat * n) (i.toNat * n + n) = cs) (h : K (a.put o.dst (.agg cs)) W) : o.wp P a W K Q := by
  unfold Oper.wp execOp
  simp only [ho, hx, hi, Instr.index, asIntOf, Sem.run_bind, Sem.run_pure, Result.andThen_ok, run_underlying (arrOf_eq hu), if_pos (And.intro h0 h1), run_szOf hs, part, run_rowOf hr, if_true, hcs]
  exact h
theorem wp_index_one {x ix : Operand} {t e : TypeId} {len : Nat} {c : Array Value} {k : IntKind} {i : Int} {v : Value} (ho : o.op = .index t x ix) (hx : a.eval x = .agg c) (hi : a.eval ix = .int k i) (hu : arrOf P t = some (len, e)) (h0 : 0 ≤ i) (h1 : i < len)
    (hr : rowOf P e = some false) (hs : szOf P e = some 1) (hv : lookL c.toList i.toNat = some v) (h : K (a.put o.dst v) W) : o.wp P a W K Q := by
  have hv' : c[i.toNat * 1]? = some v := by rw [Nat.mul_one, ← Array.getElem?_toList, ← lookL_eq]; exact hv
  unfold Oper.wp execOp
  simp only [ho, hx, hi, Instr.index, asIntOf, Sem.run_bind, Sem.run_pure, Result.andThen_ok, run_underlying (arrOf_eq hu), if_pos (And.intro h0 h1), run_szOf hs, part, run_rowOf hr, Bool.false_eq_true, if_false, hv']
  exact h
def fldOf (P : Program) (t : TypeId) (f : Nat) : Option (Nat × TypeId) := match P.underlying t with
  | some (.struct fs) => fs[f]?.map fun d => (d.offset, d.type)
  | _ => none
theorem fldOf_eq {t e : TypeId} {f off : Nat} (h : fldOf P t f = some (off, e)) : ∃ fs d, P.underlying t = some (.struct fs) ∧ fs[f]? = some d ∧ d.offset = off ∧ d.type = e := by
  unfold fldOf at h
  split at h
  · rename_i fs hu
    cases hf : fs[f]? with
    | none => rw [hf] at h; cases h
    | some d =>
      rw [hf] at h
      simp at h
      exact ⟨fs, d, hu, hf, h.1, h.2⟩
  · cases h
theorem wp_field_one {x : Operand} {t e : TypeId} {f off : Nat} {c : Array Value} {v : Value} (ho : o.op = .field t x f) (hx : a.eval x = .agg c) (hu : fldOf P t f = some (off, e)) (hr : rowOf P e = some false) (hv : lookL c.toList off = some v) (h : K (a.put o.dst v) W) : o.wp P a W K Q := by
  obtain ⟨fs, d, h1, h2, rfl, rfl⟩ := fldOf_eq hu
  have hv' : c[d.offset]? = some v := by rw [← Array.getElem?_toList, ← lookL_eq]; exact hv
  unfold Oper.wp execOp
  simp only [ho, hx, Instr.field, asAgg, Sem.run_bind, Sem.run_pure, Result.andThen_ok, run_underlying h1, h2, part, run_rowOf hr, Bool.false_eq_true, if_false, hv']
  exact h
theorem wp_field_row {x : Operand} {t e : TypeId} {f off n : Nat} {c cs : Array Value} (ho : o.op = .field t x f) (hx : a.eval x = .agg c) (hu : fldOf P t f = some (off, e)) (hr : rowOf P e = some true) (hs : szOf P e = some n) (hcs : c.extract off (off + n) = cs) (h : K (a.put o.dst (.agg cs)) W) : o.wp P a W K Q := by
  obtain ⟨fs, d, h1, h2, rfl, rfl⟩ := fldOf_eq hu
  unfold Oper.wp execOp
  simp only [ho, hx, Instr.field, asAgg, Sem.run_bind, Sem.run_pure, Result.andThen_ok, run_underlying h1, h2, part, run_rowOf hr, if_true, run_szOf hs, hcs]
  exact h
theorem wp_min {x y : Operand} {ats : Array TypeId} {k : IntKind} {i j : Int} (ho : o.op = .call { callee := .builtin .min, args := #[x, y], argTypes := ats }) (hx : a.eval x = .int k i) (hy : a.eval y = .int k j) (h : K (a.put o.dst (.int k (if j < i then j else i))) W) : o.wp P a W K Q := by
  unfold Oper.wp execOp
  simp only [ho, resolve, invoke, builtin, Sem.run_bind, Sem.run_pure, Result.andThen_ok, List.map_toArray, List.map_cons, List.map_nil, hx, hy, Builtin.min_, Builtin.min2, List.foldlM]
  exact h
theorem wp_max {x y : Operand} {ats : Array TypeId} {k : IntKind} {i j : Int} (ho : o.op = .call { callee := .builtin .max, args := #[x, y], argTypes := ats }) (hx : a.eval x = .int k i) (hy : a.eval y = .int k j) (h : K (a.put o.dst (.int k (if i < j then j else i))) W) : o.wp P a W K Q := by
  unfold Oper.wp execOp
  simp only [ho, resolve, invoke, builtin, Sem.run_bind, Sem.run_pure, Result.andThen_ok, List.map_toArray, List.map_cons, List.map_nil, hx, hy, Builtin.max_, Builtin.max2, List.foldlM]
  exact h
def binI (op : BinOp) (k : IntKind) (i j : Int) : Option Value := match op with
  | .add => some (.int k (k.wrap (i + j))) | .sub => some (.int k (k.wrap (i - j))) | .mul => some (.int k (k.wrap (i * j)))
  | .eql => some (.bool (i == j)) | .neq => some (.bool (i != j)) | .lss => some (.bool (decide (i < j))) | .leq => some (.bool (decide (i ≤ j))) | .gtr => some (.bool (decide (i > j))) | .geq => some (.bool (decide (i ≥ j)))
  | _ => none
theorem wp_binI {x y : Operand} {t t' : TypeId} {op : BinOp} {k : IntKind} {i j : Int} {v : Value} (ho : o.op = .binOp op t x y t') (hx : a.eval x = .int k i) (hy : a.eval y = .int k j) (hv : binI op k i j = some v) (h : K (a.put o.dst v) W) : o.wp P a W K Q := by
  unfold Oper.wp execOp
  cases op <;> simp only [binI, Option.some.injEq, reduceCtorEq] at hv <;> subst hv <;>
    (simp [ho, hx, hy, eqGuard, binOp, Op.intArith, Op.intCmp]; exact h)

/-- the cells from an address on -/
def Cells (W : World) (ad : Addr) (cs : Array Value) : Prop := ∀ (j : Nat) (u : Value), cs[j]? = some u → W.cell? (ad.add j) = some u
theorem run_load_cells {W : World} {ad : Addr} {cs : Array Value} {ty : TypeId} (hr : rowOf P ty = some true) (hs : szOf P ty = some cs.size) (hc : Cells W ad cs) : (loadVar ty ad).run P W = .ok (.agg cs) W := by
  have hl := run_loadCells_list (P := P) W ad cs.toList (fun j v hv => hc j v (by simpa using hv))
  simp only [Array.length_toList, Array.toArray_toList] at hl
  simp [loadVar, Sem.run_bind, run_rowOf hr, run_szOf hs, hl]
theorem wp_load_at {ty : TypeId} {x : Operand} (ho : o.op = .load ty x) {ad : Addr} (hx : a.eval x = .pointer (some ad)) (hr : rowOf P ty = some true) {cs : Array Value} (hc : Cells W ad cs) (hs : szOf P ty = some cs.size) (h : K (a.put o.dst (.agg cs)) W) : o.wp P a W K Q := by
  have hl := run_load_cells (P := P) hr hs hc
  unfold Oper.wp execOp
  simp only [ho, hx, Instr.loadAt, Instr.sureAddr, Sem.run_bind, Sem.run_pure, Result.andThen_ok, hl]
  exact h
/-- element number k of a slice of rows -/
theorem Rd.elem {size n k : Nat} {A : Option Addr} {xs : List Value} (h : Rd W size A n xs) (hk : k < n) {cs : Array Value} (hcs : (xs.drop (k * size)).take size = cs.toList) : ∃ ad, A = some ad ∧ Cells W (ad.add (k * size)) cs := by
  obtain ⟨ad, e, _, hc⟩ := h.2 (by omega)
  refine ⟨ad, e, fun j u hu => ?_⟩
  rw [add_of_add]
  refine hc _ u ?_
  have : cs.toList[j]? = some u := by simpa using hu
  rw [← hcs, List.getElem?_take] at this
  split at this
  · rw [List.getElem?_drop] at this; exact this
  · cases this
theorem flat_elem {α : Type} {f : α → List Value} {size : Nat} : ∀ {l : List α} {k : Nat} {x : α}, (∀ y, (f y).length = size) → l[k]? = some x → ((l.flatMap f).drop (k * size)).take size = f x
  | [], _, _, _, h => by simp at h
  | y :: l, 0, x, hf, h => by
    obtain rfl : y = x := by simpa using h
    simp only [Nat.zero_mul, List.drop_zero, List.flatMap_cons]
    rw [List.take_append_of_le_length (by rw [hf]; omega), List.take_of_length_le (by rw [hf]; omega)]
  | y :: l, k + 1, x, hf, h => by
    rw [List.flatMap_cons, Nat.succ_mul, Nat.add_comm, ← List.drop_drop, List.drop_left' (hf y)]
    exact flat_elem hf (by simpa using h)
theorem flat_len {α : Type} {f : α → List Value} {size : Nat} (hf : ∀ y, (f y).length = size) : ∀ (l : List α), (l.flatMap f).length = l.length * size
  | [] => by simp
  | y :: l => by rw [List.flatMap_cons, List.length_append, hf, flat_len hf l, List.length_cons, Nat.succ_mul]; omega

/-- results: a variable of more cells, and a temporary -/
theorem results_row_tmp {fn : Func} {p t : Tmp} {ty : TypeId} (h : fn.results = #[.cell p ty, .tmp t]) {tmps : Array Value} {k : Nat} {c : Array Value} {tt : TypeId} (hp : lookL tmps.toList p = some (.pointer (some ⟨k, 0, none⟩))) (hb : W.heap[k]? = some (.cells c tt (0, 0)))
    (hr : rowOf P ty = some true) (hs : szOf P ty = some c.size) {v : Value} (ht : lookL tmps.toList t = some v) : (results fn tmps).run P W = .ok (.tuple #[.agg c, v]) W := by
  have hl := run_load_sub (P := P) (off := 0) (n := c.size) hb hr hs (by omega)
  have he : c.extract 0 (0 + c.size) = c := by simp
  rw [he] at hl
  have hp' : tmps[p]?.getD undef = .pointer (some ⟨k, 0, none⟩) := by rw [← Array.getElem?_toList, ← lookL_eq, hp]; rfl
  have ht' : tmps[t]?.getD undef = v := by rw [← Array.getElem?_toList, ← lookL_eq, ht]; rfl
  simp [results, h, hp', ht', asAddr, hl]
theorem results_row {fn : Func} {p : Tmp} {ty : TypeId} (h : fn.results = #[.cell p ty]) {tmps : Array Value} {k : Nat} {c : Array Value} {tt : TypeId} (hp : lookL tmps.toList p = some (.pointer (some ⟨k, 0, none⟩))) (hb : W.heap[k]? = some (.cells c tt (0, 0)))
    (hr : rowOf P ty = some true) (hs : szOf P ty = some c.size) : (results fn tmps).run P W = .ok (.agg c) W := by
  have hl := run_load_sub (P := P) (off := 0) (n := c.size) hb hr hs (by omega)
  have he : c.extract 0 (0 + c.size) = c := by simp
  rw [he] at hl
  have hp' : tmps[p]?.getD undef = .pointer (some ⟨k, 0, none⟩) := by rw [← Array.getElem?_toList, ← lookL_eq, hp]; rfl
  simp [results, h, hp', asAddr, hl]

variable {e0 e1 e2 e3 e4 e5 e6 e7 e8 e9 : Ch}
theorem st_one0 {ty : TypeId} {x y : Operand} (ho : o.op = .store ty x y) {k off : Nat} (hx : a.eval x = .pointer (some ⟨k, off, none⟩)) {v : Value} (hy : a.eval y = v) {c : Array Value} {t : TypeId} (hS : St w0 (⟨k, c, t⟩ :: hs) os ps W) {c' : Array Value}
    (hc' : (setL c.toList off v).toArray = c') (hsz : szOf P ty = some 1) (hc : off < c.size) (h1 : v.oneCell' = true) (h : ∀ W', St w0 (⟨k, c', t⟩ :: hs) os ps W' → K (a.put o.dst undef) W') : o.wp P a W K Q :=
  wp_store_one ho hx hy hS .here hc' hsz hc h1 h
theorem st_row0 {ty : TypeId} {x y : Operand} (ho : o.op = .store ty x y) {k : Nat} (hx : a.eval x = .pointer (some ⟨k, 0, none⟩)) {cs : Array Value} (hy : a.eval y = .agg cs) {c : Array Value} {t : TypeId} (hS : St w0 (⟨k, c, t⟩ :: hs) os ps W)
    (hsz : szOf P ty = some cs.size) (hc : c.size = cs.size) (h1 : cs.all (·.oneCell') = true) (h : ∀ W', St w0 (⟨k, cs, t⟩ :: hs) os ps W' → K (a.put o.dst undef) W') : o.wp P a W K Q :=
  wp_store_row' ho hx hy hS .here hsz hc h1 h
theorem st_sub0 {ty : TypeId} {x y : Operand} (ho : o.op = .store ty x y) {k off : Nat} (hx : a.eval x = .pointer (some ⟨k, off, none⟩)) {cs : Array Value} (hy : a.eval y = .agg cs) {c : Array Value} {t : TypeId} (hS : St w0 (⟨k, c, t⟩ :: hs) os ps W) {c' : Array Value}
    (hc' : splice c off cs = c') (hsz : szOf P ty = some cs.size) (hc : off + cs.size ≤ c.size) (h1 : cs.all (·.oneCell') = true) (h : ∀ W', St w0 (⟨k, c', t⟩ :: hs) os ps W' → K (a.put o.dst undef) W') : o.wp P a W K Q :=
  wp_store_sub ho hx hy hS .here hsz hc h1 (by subst hc'; exact h)
theorem st_one1 {ty : TypeId} {x y : Operand} (ho : o.op = .store ty x y) {k off : Nat} (hx : a.eval x = .pointer (some ⟨k, off, none⟩)) {v : Value} (hy : a.eval y = v) {c : Array Value} {t : TypeId} (hS : St w0 (e0 :: ⟨k, c, t⟩ :: hs) os ps W) {c' : Array Value}
    (hc' : (setL c.toList off v).toArray = c') (hsz : szOf P ty = some 1) (hc : off < c.size) (h1 : v.oneCell' = true) (h : ∀ W', St w0 (e0 :: ⟨k, c', t⟩ :: hs) os ps W' → K (a.put o.dst undef) W') : o.wp P a W K Q :=
  wp_store_one ho hx hy hS (.there .here) hc' hsz hc h1 h
theorem st_row1 {ty : TypeId} {x y : Operand} (ho : o.op = .store ty x y) {k : Nat} (hx : a.eval x = .pointer (some ⟨k, 0, none⟩)) {cs : Array Value} (hy : a.eval y = .agg cs) {c : Array Value} {t : TypeId} (hS : St w0 (e0 :: ⟨k, c, t⟩ :: hs) os ps W)
    (hsz : szOf P ty = some cs.size) (hc : c.size = cs.size) (h1 : cs.all (·.oneCell') = true) (h : ∀ W', St w0 (e0 :: ⟨k, cs, t⟩ :: hs) os ps W' → K (a.put o.dst undef) W') : o.wp P a W K Q :=
  wp_store_row' ho hx hy hS (.there .here) hsz hc h1 h
theorem st_sub1 {ty : TypeId} {x y : Operand} (ho : o.op = .store ty x y) {k off : Nat} (hx : a.eval x = .pointer (some ⟨k, off, none⟩)) {cs : Array Value} (hy : a.eval y = .agg cs) {c : Array Value} {t : TypeId} (hS : St w0 (e0 :: ⟨k, c, t⟩ :: hs) os ps W) {c' : Array Value}
    (hc' : splice c off cs = c') (hsz : szOf P ty = some cs.size) (hc : off + cs.size ≤ c.size) (h1 : cs.all (·.oneCell') = true) (h : ∀ W', St w0 (e0 :: ⟨k, c', t⟩ :: hs) os ps W' → K (a.put o.dst undef) W') : o.wp P a W K Q :=
  wp_store_sub ho hx hy hS (.there .here) hsz hc h1 (by subst hc'; exact h)
theorem st_one2 {ty : TypeId} {x y : Operand} (ho : o.op = .store ty x y) {k off : Nat} (hx : a.eval x = .pointer (some ⟨k, off, none⟩)) {v : Value} (hy : a.eval y = v) {c : Array Value} {t : TypeId} (hS : St w0 (e0 :: e1 :: ⟨k, c, t⟩ :: hs) os ps W) {c' : Array Value}
    (hc' : (setL c.toList off v).toArray = c') (hsz : szOf P ty = some 1) (hc : off < c.size) (h1 : v.oneCell' = true) (h : ∀ W', St w0 (e0 :: e1 :: ⟨k, c', t⟩ :: hs) os ps W' → K (a.put o.dst undef) W') : o.wp P a W K Q :=
  wp_store_one ho hx hy hS (.there (.there .here)) hc' hsz hc h1 h
theorem st_row2 {ty : TypeId} {x y : Operand} (ho : o.op = .store ty x y) {k : Nat} (hx : a.eval x = .pointer (some ⟨k, 0, none⟩)) {cs : Array Value} (hy : a.eval y = .agg cs) {c : Array Value} {t : TypeId} (hS : St w0 (e0 :: e1 :: ⟨k, c, t⟩ :: hs) os ps W)
    (hsz : szOf P ty = some cs.size) (hc : c.size = cs.size) (h1 : cs.all (·.oneCell') = true) (h : ∀ W', St w0 (e0 :: e1 :: ⟨k, cs, t⟩ :: hs) os ps W' → K (a.put o.dst undef) W') : o.wp P a W K Q :=
  wp_store_row' ho hx hy hS (.there (.there .here)) hsz hc h1 h
theorem st_sub2 {ty : TypeId} {x y : Operand} (ho : o.op = .store ty x y) {k off : Nat} (hx : a.eval x = .pointer (some ⟨k, off, none⟩)) {cs : Array Value} (hy : a.eval y = .agg cs) {c : Array Value} {t : TypeId} (hS : St w0 (e0 :: e1 :: ⟨k, c, t⟩ :: hs) os ps W) {c' : Array Value}
    (hc' : splice c off cs = c') (hsz : szOf P ty = some cs.size) (hc : off + cs.size ≤ c.size) (h1 : cs.all (·.oneCell') = true) (h : ∀ W', St w0 (e0 :: e1 :: ⟨k, c', t⟩ :: hs) os ps W' → K (a.put o.dst undef) W') : o.wp P a W K Q :=
  wp_store_sub ho hx hy hS (.there (.there .here)) hsz hc h1 (by subst hc'; exact h)
theorem st_one3 {ty : TypeId} {x y : Operand} (ho : o.op = .store ty x y) {k off : Nat} (hx : a.eval x = .pointer (some ⟨k, off, none⟩)) {v : Value} (hy : a.eval y = v) {c : Array Value} {t : TypeId} (hS : St w0 (e0 :: e1 :: e2 :: ⟨k, c, t⟩ :: hs) os ps W) {c' : Array Value}
    (hc' : (setL c.toList off v).toArray = c') (hsz : szOf P ty = some 1) (hc : off < c.size) (h1 : v.oneCell' = true) (h : ∀ W', St w0 (e0 :: e1 :: e2 :: ⟨k, c', t⟩ :: hs) os ps W' → K (a.put o.dst undef) W') : o.wp P a W K Q :=
  wp_store_one ho hx hy hS (.there (.there (.there .here))) hc' hsz hc h1 h
theorem st_row3 {ty : TypeId} {x y : Operand} (ho : o.op = .store ty x y) {k : Nat} (hx : a.eval x = .pointer (some ⟨k, 0, none⟩)) {cs : Array Value} (hy : a.eval y = .agg cs) {c : Array Value} {t : TypeId} (hS : St w0 (e0 :: e1 :: e2 :: ⟨k, c, t⟩ :: hs) os ps W)
    (hsz : szOf P ty = some cs.size) (hc : c.size = cs.size) (h1 : cs.all (·.oneCell') = true) (h : ∀ W', St w0 (e0 :: e1 :: e2 :: ⟨k, cs, t⟩ :: hs) os ps W' → K (a.put o.dst undef) W') : o.wp P a W K Q :=
  wp_store_row' ho hx hy hS (.there (.there (.there .here))) hsz hc h1 h
theorem st_sub3 {ty : TypeId} {x y : Operand} (ho : o.op = .store ty x y) {k off : Nat} (hx : a.eval x = .pointer (some ⟨k, off, none⟩)) {cs : Array Value} (hy : a.eval y = .agg cs) {c : Array Value} {t : TypeId} (hS : St w0 (e0 :: e1 :: e2 :: ⟨k, c, t⟩ :: hs) os ps W) {c' : Array Value}
    (hc' : splice c off cs = c') (hsz : szOf P ty = some cs.size) (hc : off + cs.size ≤ c.size) (h1 : cs.all (·.oneCell') = true) (h : ∀ W', St w0 (e0 :: e1 :: e2 :: ⟨k, c', t⟩ :: hs) os ps W' → K (a.put o.dst undef) W') : o.wp P a W K Q :=
  wp_store_sub ho hx hy hS (.there (.there (.there .here))) hsz hc h1 (by subst hc'; exact h)
theorem st_one4 {ty : TypeId} {x y : Operand} (ho : o.op = .store ty x y) {k off : Nat} (hx : a.eval x = .pointer (some ⟨k, off, none⟩)) {v : Value} (hy : a.eval y = v) {c : Array Value} {t : TypeId} (hS : St w0 (e0 :: e1 :: e2 :: e3 :: ⟨k, c, t⟩ :: hs) os ps W) {c' : Array Value}
    (hc' : (setL c.toList off v).toArray = c') (hsz : szOf P ty = some 1) (hc : off < c.size) (h1 : v.oneCell' = true) (h : ∀ W', St w0 (e0 :: e1 :: e2 :: e3 :: ⟨k, c', t⟩ :: hs) os ps W' → K (a.put o.dst undef) W') : o.wp P a W K Q :=
  wp_store_one ho hx hy hS (.there (.there (.there (.there .here)))) hc' hsz hc h1 h
theorem st_row4 {ty : TypeId} {x y : Operand} (ho : o.op = .store ty x y) {k : Nat} (hx : a.eval x = .pointer (some ⟨k, 0, none⟩)) {cs : Array Value} (hy : a.eval y = .agg cs) {c : Array Value} {t : TypeId} (hS : St w0 (e0 :: e1 :: e2 :: e3 :: ⟨k, c, t⟩ :: hs) os ps W)
    (hsz : szOf P ty = some cs.size) (hc : c.size = cs.size) (h1 : cs.all (·.oneCell') = true) (h : ∀ W', St w0 (e0 :: e1 :: e2 :: e3 :: ⟨k, cs, t⟩ :: hs) os ps W' → K (a.put o.dst undef) W') : o.wp P a W K Q :=
  wp_store_row' ho hx hy hS (.there (.there (.there (.there .here)))) hsz hc h1 h
theorem st_sub4 {ty : TypeId} {x y : Operand} (ho : o.op = .store ty x y) {k off : Nat} (hx : a.eval x = .pointer (some ⟨k, off, none⟩)) {cs : Array Value} (hy : a.eval y = .agg cs) {c : Array Value} {t : TypeId} (hS : St w0 (e0 :: e1 :: e2 :: e3 :: ⟨k, c, t⟩ :: hs) os ps W) {c' : Array Value}
    (hc' : splice c off cs = c') (hsz : szOf P ty = some cs.size) (hc : off + cs.size ≤ c.size) (h1 : cs.all (·.oneCell') = true) (h : ∀ W', St w0 (e0 :: e1 :: e2 :: e3 :: ⟨k, c', t⟩ :: hs) os ps W' → K (a.put o.dst undef) W') : o.wp P a W K Q :=
  wp_store_sub ho hx hy hS (.there (.there (.there (.there .here)))) hsz hc h1 (by subst hc'; exact h)
theorem st_one5 {ty : TypeId} {x y : Operand} (ho : o.op = .store ty x y) {k off : Nat} (hx : a.eval x = .pointer (some ⟨k, off, none⟩)) {v : Value} (hy : a.eval y = v) {c : Array Value} {t : TypeId} (hS : St w0 (e0 :: e1 :: e2 :: e3 :: e4 :: ⟨k, c, t⟩ :: hs) os ps W) {c' : Array Value}
    (hc' : (setL c.toList off v).toArray = c') (hsz : szOf P ty = some 1) (hc : off < c.size) (h1 : v.oneCell' = true) (h : ∀ W', St w0 (e0 :: e1 :: e2 :: e3 :: e4 :: ⟨k, c', t⟩ :: hs) os ps W' → K (a.put o.dst undef) W') : o.wp P a W K Q :=
  wp_store_one ho hx hy hS (.there (.there (.there (.there (.there .here))))) hc' hsz hc h1 h
theorem st_row5 {ty : TypeId} {x y : Operand} (ho : o.op = .store ty x y) {k : Nat} (hx : a.eval x = .pointer (some ⟨k, 0, none⟩)) {cs : Array Value} (hy : a.eval y = .agg cs) {c : Array Value} {t : TypeId} (hS : St w0 (e0 :: e1 :: e2 :: e3 :: e4 :: ⟨k, c, t⟩ :: hs) os ps W)
    (hsz : szOf P ty = some cs.size) (hc : c.size = cs.size) (h1 : cs.all (·.oneCell') = true) (h : ∀ W', St w0 (e0 :: e1 :: e2 :: e3 :: e4 :: ⟨k, cs, t⟩ :: hs) os ps W' → K (a.put o.dst undef) W') : o.wp P a W K Q :=
  wp_store_row' ho hx hy hS (.there (.there (.there (.there (.there .here))))) hsz hc h1 h
theorem st_sub5 {ty : TypeId} {x y : Operand} (ho : o.op = .store ty x y) {k off : Nat} (hx : a.eval x = .pointer (some ⟨k, off, none⟩)) {cs : Array Value} (hy : a.eval y = .agg cs) {c : Array Value} {t : TypeId} (hS : St w0 (e0 :: e1 :: e2 :: e3 :: e4 :: ⟨k, c, t⟩ :: hs) os ps W) {c' : Array Value}
    (hc' : splice c off cs = c') (hsz : szOf P ty = some cs.size) (hc : off + cs.size ≤ c.size) (h1 : cs.all (·.oneCell') = true) (h : ∀ W', St w0 (e0 :: e1 :: e2 :: e3 :: e4 :: ⟨k, c', t⟩ :: hs) os ps W' → K (a.put o.dst undef) W') : o.wp P a W K Q :=
  wp_store_sub ho hx hy hS (.there (.there (.there (.there (.there .here))))) hsz hc h1 (by subst hc'; exact h)
theorem st_one6 {ty : TypeId} {x y : Operand} (ho : o.op = .store ty x y) {k off : Nat} (hx : a.eval x = .pointer (some ⟨k, off, none⟩)) {v : Value} (hy : a.eval y = v) {c : Array Value} {t : TypeId} (hS : St w0 (e0 :: e1 :: e2 :: e3 :: e4 :: e5 :: ⟨k, c, t⟩ :: hs) os ps W) {c' : Array Value}
    (hc' : (setL c.toList off v).toArray = c') (hsz : szOf P ty = some 1) (hc : off < c.size) (h1 : v.oneCell' = true) (h : ∀ W', St w0 (e0 :: e1 :: e2 :: e3 :: e4 :: e5 :: ⟨k, c', t⟩ :: hs) os ps W' → K (a.put o.dst undef) W') : o.wp P a W K Q :=
  wp_store_one ho hx hy hS (.there (.there (.there (.there (.there (.there .here)))))) hc' hsz hc h1 h
theorem st_row6 {ty : TypeId} {x y : Operand} (ho : o.op = .store ty x y) {k : Nat} (hx : a.eval x = .pointer (some ⟨k, 0, none⟩)) {cs : Array Value} (hy : a.eval y = .agg cs) {c : Array Value} {t : TypeId} (hS : St w0 (e0 :: e1 :: e2 :: e3 :: e4 :: e5 :: ⟨k, c, t⟩ :: hs) os ps W)
    (hsz : szOf P ty = some cs.size) (hc : c.size = cs.size) (h1 : cs.all (·.oneCell') = true) (h : ∀ W', St w0 (e0 :: e1 :: e2 :: e3 :: e4 :: e5 :: ⟨k, cs, t⟩ :: hs) os ps W' → K (a.put o.dst undef) W') : o.wp P a W K Q :=
  wp_store_row' ho hx hy hS (.there (.there (.there (.there (.there (.there .here)))))) hsz hc h1 h
theorem st_sub6 {ty : TypeId} {x y : Operand} (ho : o.op = .store ty x y) {k off : Nat} (hx : a.eval x = .pointer (some ⟨k, off, none⟩)) {cs : Array Value} (hy : a.eval y = .agg cs) {c : Array Value} {t : TypeId} (hS : St w0 (e0 :: e1 :: e2 :: e3 :: e4 :: e5 :: ⟨k, c, t⟩ :: hs) os ps W) {c' : Array Value}
    (hc' : splice c off cs = c') (hsz : szOf P ty = some cs.size) (hc : off + cs.size ≤ c.size) (h1 : cs.all (·.oneCell') = true) (h : ∀ W', St w0 (e0 :: e1 :: e2 :: e3 :: e4 :: e5 :: ⟨k, c', t⟩ :: hs) os ps W' → K (a.put o.dst undef) W') : o.wp P a W K Q :=
  wp_store_sub ho hx hy hS (.there (.there (.there (.there (.there (.there .here)))))) hsz hc h1 (by subst hc'; exact h)
theorem st_one7 {ty : TypeId} {x y : Operand} (ho : o.op = .store ty x y) {k off : Nat} (hx : a.eval x = .pointer (some ⟨k, off, none⟩)) {v : Value} (hy : a.eval y = v) {c : Array Value} {t : TypeId} (hS : St w0 (e0 :: e1 :: e2 :: e3 :: e4 :: e5 :: e6 :: ⟨k, c, t⟩ :: hs) os ps W) {c' : Array Value}
    (hc' : (setL c.toList off v).toArray = c') (hsz : szOf P ty = some 1) (hc : off < c.size) (h1 : v.oneCell' = true) (h : ∀ W', St w0 (e0 :: e1 :: e2 :: e3 :: e4 :: e5 :: e6 :: ⟨k, c', t⟩ :: hs) os ps W' → K (a.put o.dst undef) W') : o.wp P a W K Q :=
  wp_store_one ho hx hy hS (.there (.there (.there (.there (.there (.there (.there .here))))))) hc' hsz hc h1 h
theorem st_row7 {ty : TypeId} {x y : Operand} (ho : o.op = .store ty x y) {k : Nat} (hx : a.eval x = .pointer (some ⟨k, 0, none⟩)) {cs : Array Value} (hy : a.eval y = .agg cs) {c : Array Value} {t : TypeId} (hS : St w0 (e0 :: e1 :: e2 :: e3 :: e4 :: e5 :: e6 :: ⟨k, c, t⟩ :: hs) os ps W)
    (hsz : szOf P ty = some cs.size) (hc : c.size = cs.size) (h1 : cs.all (·.oneCell') = true) (h : ∀ W', St w0 (e0 :: e1 :: e2 :: e3 :: e4 :: e5 :: e6 :: ⟨k, cs, t⟩ :: hs) os ps W' → K (a.put o.dst undef) W') : o.wp P a W K Q :=
  wp_store_row' ho hx hy hS (.there (.there (.there (.there (.there (.there (.there .here))))))) hsz hc h1 h
theorem st_sub7 {ty : TypeId} {x y : Operand} (ho : o.op = .store ty x y) {k off : Nat} (hx : a.eval x = .pointer (some ⟨k, off, none⟩)) {cs : Array Value} (hy : a.eval y = .agg cs) {c : Array Value} {t : TypeId} (hS : St w0 (e0 :: e1 :: e2 :: e3 :: e4 :: e5 :: e6 :: ⟨k, c, t⟩ :: hs) os ps W) {c' : Array Value}
    (hc' : splice c off cs = c') (hsz : szOf P ty = some cs.size) (hc : off + cs.size ≤ c.size) (h1 : cs.all (·.oneCell') = true) (h : ∀ W', St w0 (e0 :: e1 :: e2 :: e3 :: e4 :: e5 :: e6 :: ⟨k, c', t⟩ :: hs) os ps W' → K (a.put o.dst undef) W') : o.wp P a W K Q :=
  wp_store_sub ho hx hy hS (.there (.there (.there (.there (.there (.there (.there .here))))))) hsz hc h1 (by subst hc'; exact h)
theorem st_one8 {ty : TypeId} {x y : Operand} (ho : o.op = .store ty x y) {k off : Nat} (hx : a.eval x = .pointer (some ⟨k, off, none⟩)) {v : Value} (hy : a.eval y = v) {c : Array Value} {t : TypeId} (hS : St w0 (e0 :: e1 :: e2 :: e3 :: e4 :: e5 :: e6 :: e7 :: ⟨k, c, t⟩ :: hs) os ps W) {c' : Array Value}
    (hc' : (setL c.toList off v).toArray = c') (hsz : szOf P ty = some 1) (hc : off < c.size) (h1 : v.oneCell' = true) (h : ∀ W', St w0 (e0 :: e1 :: e2 :: e3 :: e4 :: e5 :: e6 :: e7 :: ⟨k, c', t⟩ :: hs) os ps W' → K (a.put o.dst undef) W') : o.wp P a W K Q :=
  wp_store_one ho hx hy hS (.there (.there (.there (.there (.there (.there (.there (.there .here)))))))) hc' hsz hc h1 h
theorem st_row8 {ty : TypeId} {x y : Operand} (ho : o.op = .store ty x y) {k : Nat} (hx : a.eval x = .pointer (some ⟨k, 0, none⟩)) {cs : Array Value} (hy : a.eval y = .agg cs) {c : Array Value} {t : TypeId} (hS : St w0 (e0 :: e1 :: e2 :: e3 :: e4 :: e5 :: e6 :: e7 :: ⟨k, c, t⟩ :: hs) os ps W)
    (hsz : szOf P ty = some cs.size) (hc : c.size = cs.size) (h1 : cs.all (·.oneCell') = true) (h : ∀ W', St w0 (e0 :: e1 :: e2 :: e3 :: e4 :: e5 :: e6 :: e7 :: ⟨k, cs, t⟩ :: hs) os ps W' → K (a.put o.dst undef) W') : o.wp P a W K Q :=
  wp_store_row' ho hx hy hS (.there (.there (.there (.there (.there (.there (.there (.there .here)))))))) hsz hc h1 h
theorem st_sub8 {ty : TypeId} {x y : Operand} (ho : o.op = .store ty x y) {k off : Nat} (hx : a.eval x = .pointer (some ⟨k, off, none⟩)) {cs : Array Value} (hy : a.eval y = .agg cs) {c : Array Value} {t : TypeId} (hS : St w0 (e0 :: e1 :: e2 :: e3 :: e4 :: e5 :: e6 :: e7 :: ⟨k, c, t⟩ :: hs) os ps W) {c' : Array Value}
    (hc' : splice c off cs = c') (hsz : szOf P ty = some cs.size) (hc : off + cs.size ≤ c.size) (h1 : cs.all (·.oneCell') = true) (h : ∀ W', St w0 (e0 :: e1 :: e2 :: e3 :: e4 :: e5 :: e6 :: e7 :: ⟨k, c', t⟩ :: hs) os ps W' → K (a.put o.dst undef) W') : o.wp P a W K Q :=
  wp_store_sub ho hx hy hS (.there (.there (.there (.there (.there (.there (.there (.there .here)))))))) hsz hc h1 (by subst hc'; exact h)
end
end Go.Proofs.Ytmkigejhgpoleaa
