/-
  Records of loops over functions in the state of a call's own memory: a new one, one that is written, marks that are taken.
-/
import Derived.Test.YtmkigejhgpoleaaWpr
import Derived.Test.YtmkigejhgpoleaaOps
namespace Go.Proofs.Ytmkigejhgpoleaa
set_option linter.unusedSimpArgs false
set_option linter.unusedVariables false
open Go Go.RowKit
namespace St
variable {w0 : Org} {W W' : World} {hs hs' : List Ch} {os os' : List Ow} {ps ps' : List (World → Prop)}

theorem muts_rec (hs : List Ch) (os : List Ow) (l : Nat) (o : Obj) : (muts hs (⟨l, o⟩ :: os)).Perm (l :: muts hs os) := by
  unfold muts
  simp only [List.flatMap_cons, Ow.blk, List.singleton_append]
  exact List.perm_middle

/-- a new record -/
theorem rec_ (h : St w0 hs os ps W) (o : Obj) : St w0 hs (⟨W.heap.size, o⟩ :: os) ps (W.alloc o) := by
  have h' := h.step (below_alloc W o)
  have hp := muts_rec hs os W.heap.size o
  refine ⟨h'.old, h'.blk, fun e he => ?_, hp.nodup_iff.2 (List.nodup_cons.2 ⟨fun hm => by have := (h.mut_lt hm).2; omega, h.nodup⟩), fun p hpp W2 h2 => h.pers p hpp W2 ?_⟩
  · rcases List.mem_cons.1 he with rfl | he
    · exact ⟨h.old.size, heap_alloc_last W _⟩
    · exact h'.own e he
  · refine (Same.below (below_alloc W o)).trans' h2 fun b hb hn hm => ?_
    rcases List.mem_cons.1 (hp.mem_iff.1 hm) with rfl | hm'
    · omega
    · exact hn hm'

theorem heap_put_other {l k : Nat} {o : Obj} (h : k ≠ l) : (W.putObj l o).heap[k]? = W.heap[k]? := World.putObj_heap_other h

/-- a record is written -/
theorem put_ {l : Nat} {o o' : Obj} {a b : List Ow} (h : St w0 hs (a ++ ⟨l, o⟩ :: b) ps W) : St w0 hs (a ++ ⟨l, o'⟩ :: b) ps (W.putObj l o') := by
  have hm : muts hs (a ++ ⟨l, o'⟩ :: b) = muts hs (a ++ ⟨l, o⟩ :: b) := by simp [muts, Ow.blk]
  have hl : l ∈ muts hs (a ++ ⟨l, o⟩ :: b) := List.mem_append.2 (.inr (List.mem_flatMap.2 ⟨⟨l, o⟩, by simp, by simp [Ow.blk]⟩))
  have h0 := h.own ⟨l, o⟩ (by simp)
  have hlt := (Array.getElem?_eq_some_iff.1 h0.2).1
  have hnd := h.nodup
  refine ⟨⟨h.old.os, h.old.tape, h.old.output, by have := h.old.size; simpa using this, fun k h1 h2 => ?_⟩, fun e he => ?_, fun e he => ?_, by rw [hm]; exact hnd, fun p hp W2 h2 => h.pers p hp W2 ?_⟩
  · rw [heap_put_other (by have h9 : w0.w.heap.size ≤ l := h0.1; omega)]
    exact h.old.block k h1 h2
  · refine ⟨(h.blk e he).1, ?_⟩
    rw [heap_put_other ?_]
    · exact (h.blk e he).2
    · intro hk
      have h1 := (List.nodup_append.1 hnd).2.2 e.id (List.mem_map.2 ⟨e, he, rfl⟩) l (List.mem_flatMap.2 ⟨⟨l, o⟩, by simp, by simp [Ow.blk]⟩)
      exact h1 hk
  · have hnd2 := (List.nodup_append.1 hnd).2.1
    rw [List.flatMap_append, List.flatMap_cons] at hnd2
    rcases List.mem_append.1 he with he | he
    · have h1 := h.own e (List.mem_append.2 (.inl he))
      refine ⟨h1.1, ?_⟩
      rw [heap_put_other ?_]
      · exact h1.2
      · exact (List.nodup_append.1 hnd2).2.2 e.id (List.mem_flatMap.2 ⟨e, he, by simp [Ow.blk]⟩) l (List.mem_append.2 (.inl (by simp [Ow.blk])))
    · rcases List.mem_cons.1 he with rfl | he
      · exact ⟨h0.1, World.putObj_heap_same hlt⟩
      · have h1 := h.own e (List.mem_append.2 (.inr (List.mem_cons_of_mem _ he)))
        refine ⟨h1.1, ?_⟩
        rw [heap_put_other ?_]
        · exact h1.2
        · intro hk
          exact (List.nodup_append.1 (List.nodup_append.1 hnd2).2.1).2.2 l (by simp [Ow.blk]) e.id (List.mem_flatMap.2 ⟨e, he, by simp [Ow.blk]⟩) hk.symm
  · rw [hm] at h2
    refine Same.trans ⟨by simp, fun b hb hnb => heap_put_other fun e => hnb ?_⟩ h2
    subst e
    exact hl
/-- a record is let go -/
theorem drop_ {l : Nat} {o : Obj} (h : St w0 hs (⟨l, o⟩ :: os) ps W) : St w0 hs os ps W := h.weak (List.Sublist.refl _) (List.sublist_cons_self _ _) fun _ h => h
theorem perm_os (h : St w0 hs os ps W) (hp : os.Perm os') : St w0 hs os' ps W := by
  have hm : (muts hs os).Perm (muts hs os') := List.Perm.append_left _ (List.Perm.flatMap_right _ hp)
  exact ⟨h.old, h.blk, fun e he => h.own e (hp.mem_iff.2 he), hm.nodup_iff.1 h.nodup, fun p hpp W' hW => h.pers p hpp W' ⟨hW.size, fun b hb hn => hW.block b hb fun hq => hn (hm.mem_iff.2 hq)⟩⟩
end St
/-- the blocks of marks -/
def markOs : List Deferred → List Ow
  | [] => []
  | d :: ds => match d.target with
    | .collected D => ⟨D, .deferred (some [])⟩ :: markOs ds
    | _ => markOs ds
/-- marks, and nothing else -/
def Marks (ds : List Deferred) : Prop := ∀ d ∈ ds, ∃ D, d = { target := .collected D, args := #[] }
theorem take_ok {w0 : Org} {hs : List Ch} {os : List Ow} {ps : List (World → Prop)} : ∀ (ds : List Deferred) (W : World), Marks ds → St w0 hs (markOs ds ++ os) ps W → ∃ W', takeM ds W = some W' ∧ St w0 hs os ps W'
  | [], W, _, h => ⟨W, rfl, h⟩
  | d :: ds, W, hm, h => by
    obtain ⟨D, rfl⟩ := hm d (by simp)
    have h0 : St w0 hs (⟨D, .deferred (some [])⟩ :: (markOs ds ++ os)) ps W := h
    have hD : W.heap[D]? = some (.deferred (some [])) := (h0.own ⟨D, .deferred (some [])⟩ (List.mem_cons_self ..)).2
    obtain ⟨W', h1, h2⟩ := take_ok ds (W.putObj D (.deferred none)) (fun d hd => hm d (by simp [hd])) (St.put_ (a := []) h0).drop_
    exact ⟨W', by simp only [takeM, hD]; exact h1, h2⟩
end Go.Proofs.Ytmkigejhgpoleaa
