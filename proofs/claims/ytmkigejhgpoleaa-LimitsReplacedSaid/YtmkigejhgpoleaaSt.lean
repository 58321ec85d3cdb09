/-
  The state of a call's own memory: blocks known whole, rows appended to, and facts on memory that nobody writes. One hypothesis in a walk, one law an operation.
-/
import Derived.WalkKit
import Derived.Deep.WholeRow
import Derived.Laws.EntriesVeiled
import Derived.Lib.Hide
import Derived.Maps.AppendAt
namespace Go.Proofs.Ytmkigejhgpoleaa
set_option linter.unusedSimpArgs false
set_option linter.unusedVariables false
open Go Go.RowKit

/-- what a block holds: cells of a type; a map's entries, each a key and k cells of an element (a struct or not) -/
inductive CT where
  | cells (t : TypeId)
  | map (k : Nat) (ag : Bool)
instance : Coe TypeId CT := ⟨CT.cells⟩
/-- a block known whole -/
structure Ch where
  id : Nat
  c : Array Value
  t : CT
def mapEs (k : Nat) (ag : Bool) : Nat → Nat → List Value → List MapEntry
  | 0, _, _ => []
  | n + 1, i, xs => ⟨xs.headD undef, if ag then .agg ((xs.drop 1).take k).toArray else xs.getD 1 undef, i⟩ :: mapEs k ag n (i + 1) (xs.drop (k + 1))
def mapObj (k : Nat) (ag : Bool) (c : Array Value) : Obj := .map (mapEs k ag (c.size / (k + 1)) 0 c.toList).toArray (c.size / (k + 1))
def Ch.obj (e : Ch) : Obj := match e.t with
  | .cells t => .cells e.c t (0, 0)
  | .map k ag => mapObj k ag e.c
/-- a record of a loop over a function, or of deferred calls -/
structure Ow where
  id : Nat
  o : Obj
def Ow.blk (o : Ow) : List Nat := [o.id]
/-- the blocks that may be written -/
def muts (hs : List Ch) (os : List Ow) : List Nat := hs.map (·.id) ++ os.flatMap Ow.blk

/-- all blocks but those listed are as they were -/
structure Same (ids : List Nat) (W W' : World) : Prop where
  size : W.heap.size ≤ W'.heap.size
  block : ∀ b, b < W.heap.size → b ∉ ids → W'.heap[b]? = W.heap[b]?

theorem Same.refl (ids : List Nat) (W : World) : Same ids W W := ⟨Nat.le_refl _, fun _ _ _ => rfl⟩
theorem Same.trans' {ids ids' : List Nat} {W W1 W2 : World} (h : Same ids W W1) (h' : Same ids' W1 W2) (hi : ∀ b, b < W.heap.size → b ∉ ids → b ∉ ids') : Same ids W W2 :=
  ⟨Nat.le_trans h.size h'.size, fun b hb hn => (h'.block b (Nat.lt_of_lt_of_le hb h.size) (hi b hb hn)).trans (h.block b hb hn)⟩
theorem Same.trans {ids : List Nat} {W W1 W2 : World} (h : Same ids W W1) (h' : Same ids W1 W2) : Same ids W W2 := h.trans' h' fun _ _ h => h
theorem Same.below {ids : List Nat} {W W' : World} (h : Below W.heap.size W W') : Same ids W W' := ⟨h.size, fun b hb _ => h.block b hb⟩
theorem Same.cell {ids : List Nat} {W W' : World} (h : Same ids W W') {p : Addr} (hp : p.block < W.heap.size) (hn : p.block ∉ ids) : W'.cell? p = W.cell? p :=
  World.cell?_of_block (h.block p.block hp hn)

/-- where a call began: the world, those of its blocks that the call may write, and what it asks of what it hands on -/
structure Org where
  w : World
  ms : List Nat
  rt : World → Prop
  rf : Nat → Prop
instance : Coe World Org := ⟨fun w => ⟨w, [], fun _ => False, fun _ => False⟩⟩
/-- the old blocks are as they were, but for those that the call may write -/
structure Old (w0 : Org) (W : World) : Prop where
  os : W.os = w0.w.os
  tape : W.tape = w0.w.tape
  output : W.output = w0.w.output
  size : w0.w.heap.size ≤ W.heap.size
  block : ∀ b, b < w0.w.heap.size → b ∉ w0.ms → W.heap[b]? = w0.w.heap[b]?
theorem Old.trans {w0 : Org} {W W' : World} (h : Old w0 W) {B : Nat} (hb : Below B W W') (hB : w0.w.heap.size ≤ B) : Old w0 W' :=
  ⟨hb.os.trans h.os, hb.tape.trans h.tape, hb.output.trans h.output, Nat.le_trans h.size hb.size, fun b h1 h2 => (hb.block b (by omega)).trans (h.block b h1 h2)⟩

structure St (w0 : Org) (hs : List Ch) (os : List Ow) (ps : List (World → Prop)) (W : World) : Prop where
  old : Old w0 W
  blk : ∀ e ∈ hs, (w0.w.heap.size ≤ e.id ∨ e.id ∈ w0.ms) ∧ W.heap[e.id]? = some e.obj
  own : ∀ o ∈ os, w0.w.heap.size ≤ o.id ∧ W.heap[o.id]? = some o.o
  nodup : (muts hs os).Nodup
  pers : ∀ p ∈ ps, ∀ W', Same (muts hs os) W W' → p W'

namespace St
variable {w0 : Org} {W W' : World} {hs hs' : List Ch} {os os' : List Ow} {ps ps' : List (World → Prop)}

theorem below {w : World} {rt : World → Prop} {rf : Nat → Prop} (h : St ⟨w, [], rt, rf⟩ hs os ps W) : Below w.heap.size w W := ⟨h.old.os, h.old.tape, h.old.output, h.old.size, fun b hb => h.old.block b hb (by simp)⟩
theorem start (W : World) : St W [] [] [] W := ⟨⟨rfl, rfl, rfl, Nat.le_refl _, fun _ _ _ => rfl⟩, (fun _ h => nomatch h), (fun _ h => nomatch h), (by simp [muts]), (fun _ h => nomatch h)⟩

theorem mut_lt (h : St w0 hs os ps W) {b : Nat} (hb : b ∈ muts hs os) : (w0.w.heap.size ≤ b ∨ b ∈ w0.ms) ∧ b < W.heap.size := by
  rcases List.mem_append.1 hb with hb | hb
  · obtain ⟨e, he, rfl⟩ := List.mem_map.1 hb
    have := h.blk e he
    exact ⟨this.1, (Array.getElem?_eq_some_iff.1 this.2).1⟩
  · obtain ⟨o, ho, hb⟩ := List.mem_flatMap.1 hb
    obtain rfl : b = o.id := by simpa [Ow.blk] using hb
    have := h.own o ho
    exact ⟨.inl this.1, (Array.getElem?_eq_some_iff.1 this.2).1⟩

theorem atO (h : St w0 hs os ps W) {e : Ch} (he : e ∈ hs) : W.heap[e.id]? = some e.obj := (h.blk _ he).2
theorem at_ (h : St w0 hs os ps W) {k : Nat} {c : Array Value} {t : TypeId} (he : (⟨k, c, t⟩ : Ch) ∈ hs) : W.heap[k]? = some (.cells c t (0, 0)) := (h.blk _ he).2
theorem lt_ (h : St w0 hs os ps W) {k : Nat} {c : Array Value} {t : TypeId} (he : (⟨k, c, t⟩ : Ch) ∈ hs) : k < W.heap.size := (Array.getElem?_eq_some_iff.1 (h.at_ he)).1
theorem ge_ (h : St w0 hs os ps W) {k : Nat} {c : Array Value} {t : TypeId} (he : (⟨k, c, t⟩ : Ch) ∈ hs) : w0.w.heap.size ≤ k ∨ k ∈ w0.ms := (h.blk _ he).1
theorem cell (h : St w0 hs os ps W) {k : Nat} {c : Array Value} {t : TypeId} (he : (⟨k, c, t⟩ : Ch) ∈ hs) {j : Nat} {v : Value} (hv : c[j]? = some v) : W.cell? ⟨k, j, none⟩ = some v := by
  rw [cell_of_row W k j c t (0, 0) (h.at_ he), hv]
theorem free (h : St w0 hs os ps W) {k : Nat} {c : Array Value} {t : TypeId} (he : (⟨k, c, t⟩ : Ch) ∈ hs) (j : Nat) : W.frozen? ⟨k, j, none⟩ = false := frozen_of_row W k j c t (h.at_ he)
theorem fact (h : St w0 hs os ps W) {p : World → Prop} (hp : p ∈ ps) : p W := h.pers p hp W (.refl _ _)

/-- the world goes on, nothing of what may be written is written -/
theorem step (h : St w0 hs os ps W) (hb : Below W.heap.size W W') : St w0 hs os ps W' where
  old := h.old.trans hb h.old.size
  blk e he := ⟨(h.blk e he).1, (hb.block _ (Array.getElem?_eq_some_iff.1 (h.blk e he).2).1).trans (h.blk e he).2⟩
  own o ho := ⟨(h.own o ho).1, (hb.block _ (Array.getElem?_eq_some_iff.1 (h.own o ho).2).1).trans (h.own o ho).2⟩
  nodup := h.nodup
  pers p hp W2 h2 := h.pers p hp W2 ((Same.below hb).trans h2)

theorem drew (h : St w0 hs os ps W) : St w0 hs os ps W.drew := h.step (Below.refl _ _).drew

theorem below_alloc (W : World) (o : Obj) : Below W.heap.size W (W.alloc o) := (Below.refl _ _).alloc (Nat.le_refl _) _

/-- a new block -/
theorem new (h : St w0 hs os ps W) (c : Array Value) (t : TypeId) : St w0 (⟨W.heap.size, c, t⟩ :: hs) os ps (W.alloc (.cells c t)) := by
  have h' := h.step (below_alloc W (.cells c t))
  refine ⟨h'.old, fun e he => ?_, h'.own, ?_, fun p hp W2 h2 => h.pers p hp W2 ?_⟩
  · rcases List.mem_cons.1 he with rfl | he
    · exact ⟨.inl h.old.size, heap_alloc_last W _⟩
    · exact h'.blk e he
  · show (W.heap.size :: muts hs os).Nodup
    exact List.nodup_cons.2 ⟨fun hm => by have := (h.mut_lt hm).2; omega, h.nodup⟩
  · refine (Same.below (below_alloc W (.cells c t))).trans' h2 fun b hb hn hm => ?_
    have hm' : b ∈ W.heap.size :: muts hs os := hm
    rcases List.mem_cons.1 hm' with rfl | hm'
    · omega
    · exact hn hm'

/-- a new block, whatever it holds -/
theorem newO (h : St w0 hs os ps W) (c : Array Value) (t : CT) : St w0 (⟨W.heap.size, c, t⟩ :: hs) os ps (W.alloc (Ch.obj ⟨W.heap.size, c, t⟩)) := by
  have h' := h.step (below_alloc W (Ch.obj ⟨W.heap.size, c, t⟩))
  refine ⟨h'.old, fun e he => ?_, h'.own, ?_, fun p hp W2 h2 => h.pers p hp W2 ?_⟩
  · rcases List.mem_cons.1 he with rfl | he
    · exact ⟨.inl h.old.size, heap_alloc_last W _⟩
    · exact h'.blk e he
  · show (W.heap.size :: muts hs os).Nodup
    exact List.nodup_cons.2 ⟨fun hm => by have := (h.mut_lt hm).2; omega, h.nodup⟩
  · refine (Same.below (below_alloc W (Ch.obj ⟨W.heap.size, c, t⟩))).trans' h2 fun b hb hn hm => ?_
    have hm' : b ∈ W.heap.size :: muts hs os := hm
    rcases List.mem_cons.1 hm' with rfl | hm'
    · omega
    · exact hn hm'

/-- a block that lies there already becomes one of ours -/
theorem adopt (h : St w0 hs os ps W) {k : Nat} {c : Array Value} {t : TypeId} (hk : W.heap[k]? = some (.cells c t (0, 0))) (h0 : w0.w.heap.size ≤ k ∨ k ∈ w0.ms) (hn : k ∉ muts hs os) (hps : ∀ p ∈ ps, ∀ W', Same (k :: muts hs os) W W' → p W') :
    St w0 (⟨k, c, t⟩ :: hs) os ps W := by
  refine ⟨h.old, fun e he => ?_, h.own, ?_, hps⟩
  · rcases List.mem_cons.1 he with rfl | he
    · exact ⟨h0, hk⟩
    · exact h.blk e he
  · show (k :: muts hs os).Nodup
    exact List.nodup_cons.2 ⟨hn, h.nodup⟩

/-- a call made a block; it is one of ours -/
theorem made (h : St w0 hs os ps W) (hb : Below W.heap.size W W') {k : Nat} {c : Array Value} {t : TypeId} (hk : W'.heap[k]? = some (.cells c t (0, 0))) (hn : W.heap.size ≤ k) : St w0 (⟨k, c, t⟩ :: hs) os ps W' := by
  refine (h.step hb).adopt hk (.inl (Nat.le_trans h.old.size hn)) (fun hm => by have := (h.mut_lt hm).2; omega) fun p hp W2 h2 => h.pers p hp W2 ?_
  refine (Same.below hb).trans' h2 fun b hb' hn' hm => ?_
  rcases List.mem_cons.1 hm with rfl | hm
  · omega
  · exact hn' hm

/-- a fact for good -/
theorem keep (h : St w0 hs os ps W) {p : World → Prop} (hp : ∀ W', Same (muts hs os) W W' → p W') : St w0 hs os (p :: ps) W :=
  ⟨h.old, h.blk, h.own, h.nodup, fun q hq => by
    rcases List.mem_cons.1 hq with rfl | hq
    · exact hp
    · exact h.pers q hq⟩
/-- a fact on what was there when the call began -/
theorem keep0 (h : St w0 hs os ps W) {p : World → Prop} (hp : ∀ W', Same w0.ms w0.w W' → p W') : St w0 hs os (p :: ps) W :=
  h.keep fun W' hW => hp W' ⟨Nat.le_trans h.old.size hW.size, fun k hk hkm =>
    (hW.block k (Nat.lt_of_lt_of_le hk h.old.size) (fun hm => by rcases (h.mut_lt hm).1 with h1 | h1; · omega
                                                                 · exact hkm h1)).trans (h.old.block k hk hkm)⟩

theorem sub_flat {α β : Type} (f : α → List β) {l l' : List α} (h : List.Sublist l' l) : List.Sublist (l'.flatMap f) (l.flatMap f) := by
  induction h with
  | slnil => simp
  | cons a _ ih => simpa using ih.trans (List.sublist_append_right _ _)
  | cons_cons a _ ih => simpa using (List.Sublist.refl (f a)).append ih

/-- less is known -/
theorem weak (h : St w0 hs os ps W) (hh : List.Sublist hs' hs) (ho : List.Sublist os' os) (hp : ∀ p ∈ ps', p ∈ ps) : St w0 hs' os' ps' W := by
  have hsub : List.Sublist (muts hs' os') (muts hs os) := (hh.map _).append (sub_flat _ ho)
  exact ⟨h.old, fun e he => h.blk e (hh.subset he), fun o he => h.own o (ho.subset he), h.nodup.sublist hsub, fun p hpp W' hW => h.pers p (hp p hpp) W' ⟨hW.size, fun b hb hn => hW.block b hb fun hm => hn (hsub.subset hm)⟩⟩
theorem perm (h : St w0 hs os ps W) (hp : hs.Perm hs') : St w0 hs' os ps W := by
  have hm : (muts hs os).Perm (muts hs' os) := (hp.map _).append_right _
  exact ⟨h.old, fun e he => h.blk e (hp.mem_iff.2 he), h.own, hm.nodup_iff.1 h.nodup, fun p hpp W' hW => h.pers p hpp W' ⟨hW.size, fun b hb hn => hW.block b hb fun hq => hn (hm.mem_iff.2 hq)⟩⟩
end St

theorem block_of_add (a : Addr) (n : Nat) : (a.add n).block = a.block := by unfold Addr.add; split <;> rfl
theorem add_of_add (a : Addr) (i j : Nat) : (a.add i).add j = a.add (i + j) := by
  unfold Addr.add
  by_cases hi : i = 0 <;> by_cases hj : j = 0 <;> simp [hi, hj, Nat.add_assoc]

/-- the n elements of a slice at A, of 'size' cells each, read as the cells xs -/
def Rd (W : World) (size : Nat) (A : Option Addr) (n : Nat) (xs : List Value) : Prop :=
  xs.length = n * size ∧ (0 < n → ∃ ad, A = some ad ∧ ad.block < W.heap.size ∧ ∀ j u, xs[j]? = some u → W.cell? (ad.add j) = some u)
section
variable {W W' : World} {size n : Nat} {A : Option Addr} {xs : List Value}
theorem Rd.none_ : Rd W size A 0 [] := ⟨by simp, fun h => absurd h (by omega)⟩
theorem Rd.at_ {k : Nat} (h : Rd W 1 A n xs) (hk : k < n) : ∃ ad u, A = some ad ∧ xs[k]? = some u ∧ W.cell? (ad.add k) = some u := by
  obtain ⟨ad, e, hb, hc⟩ := h.2 (by omega)
  have hl : k < xs.length := by have := h.1; omega
  exact ⟨ad, xs[k], e, List.getElem?_eq_getElem hl, hc k _ (List.getElem?_eq_getElem hl)⟩
theorem Rd.same {ids : List Nat} (h : Rd W size A n xs) (hs : Same ids W W') (hn : ∀ ad, A = some ad → ad.block ∉ ids) : Rd W' size A n xs :=
  ⟨h.1, fun h0 => by
    obtain ⟨ad, e, hb, hc⟩ := h.2 h0
    exact ⟨ad, e, Nat.lt_of_lt_of_le hb hs.size, fun j u hu => (hs.cell (p := ad.add j) (by rw [block_of_add]; exact hb) (by rw [block_of_add]; exact hn ad e)).trans (hc j u hu)⟩⟩
theorem Rd.same0 (h : Rd W size A n xs) (hs : Same [] W W') : Rd W' size A n xs := h.same hs fun _ _ h => nomatch h
theorem Rd.below (h : Rd W size A n xs) (hb : Below W.heap.size W W') : Rd W' size A n xs := h.same0 (.below hb)
theorem Rd.cut (h : Rd W size A n xs) {k cap : Nat} (hk : k ≤ n) (hc : n ≤ cap) :
    Rd W size (if cap = k then A else A.map (·.add (k * size))) (n - k) (xs.drop (k * size)) := by
  refine ⟨by rw [List.length_drop, h.1, Nat.sub_mul], fun hn => ?_⟩
  obtain ⟨ad, rfl, hb, hcell⟩ := h.2 (by omega)
  rw [if_neg (by omega)]
  refine ⟨ad.add (k * size), rfl, by rw [block_of_add]; exact hb, fun j u hu => ?_⟩
  rw [add_of_add]
  exact hcell _ u (by rw [← hu, List.getElem?_drop])
theorem Rd.take (h : Rd W size A n xs) {k : Nat} (hk : k ≤ n) : Rd W size A k (xs.take (k * size)) := by
  refine ⟨by rw [List.length_take, h.1]; exact Nat.min_eq_left (Nat.mul_le_mul_right _ hk), fun hn => ?_⟩
  obtain ⟨ad, rfl, hb, hcell⟩ := h.2 (by omega)
  refine ⟨ad, rfl, hb, fun j u hu => hcell j u ?_⟩
  rw [List.getElem?_take] at hu
  split at hu
  · exact hu
  · cases hu
/-- the cells of a block known whole, from a place on -/
theorem Rd.of_blk {b off : Nat} {c : Array Value} {t : TypeId} (h : W.heap[b]? = some (.cells c t (0, 0))) {xs : List Value} (hl : xs.length = n * size) (hx : ∀ j u, xs[j]? = some u → c[off + j]? = some u) : Rd W size (some ⟨b, off, none⟩) n xs :=
  ⟨hl, fun _ => ⟨_, rfl, (Array.getElem?_eq_some_iff.1 h).1, fun j u hu => by
    have hadd : (⟨b, off, none⟩ : Addr).add j = ⟨b, off + j, none⟩ := by unfold Addr.add; split <;> simp_all
    rw [hadd, cell_of_row W b _ c t (0, 0) h]
    exact hx j u hu⟩⟩
theorem Rd.of_all {b n : Nat} {c : Array Value} {t : TypeId} (h : W.heap[b]? = some (.cells c t (0, 0))) {xs : List Value} (hc : c.toList = xs) (hl : xs.length = n * size) : Rd W size (some ⟨b, 0, none⟩) n xs :=
  Rd.of_blk h hl fun j u hu => by rw [Nat.zero_add, ← Array.getElem?_toList, hc]; exact hu
theorem Rd.of_part {b n off : Nat} {c : Array Value} {t : TypeId} (h : W.heap[b]? = some (.cells c t (0, 0))) {xs : List Value} (hc : (c.toList.drop off).take (n * size) = xs) (hl : xs.length = n * size) : Rd W size (some ⟨b, off, none⟩) n xs :=
  Rd.of_blk h hl fun j u hu => by
    rw [← hc, List.getElem?_take] at hu
    split at hu
    · rw [List.getElem?_drop] at hu
      rw [← Array.getElem?_toList]; exact hu
    · cases hu
end
end Go.Proofs.Ytmkigejhgpoleaa
