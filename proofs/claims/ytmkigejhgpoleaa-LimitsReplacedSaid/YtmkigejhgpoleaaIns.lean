/-
  Walk: slices.Insert at a slice of limits, into a row of one's own: what stood ahead of the place, what is inserted, what stood behind it.
-/
import Derived.Test.YtmkigejhgpoleaaOps6
import Derived.Shelf.RegionOpenPlain
import Derived.WalkKit
import Derived.Lib.Walk
import Derived.Lib.SliceRun
import Derived.Lib.JoinLaws
import Derived.Lib.AppendZeros
import Derived.Lib.AppendZerosOnto
import Derived.Lib.Overlaps
import Derived.Laws.Externs
import Derived.Laws.IdiomCopy
import Derived.Test.YtmkigejhgpoleaaProg
namespace Go.Proofs.Ytmkigejhgpoleaa
set_option linter.unusedSimpArgs false
set_option linter.unusedVariables false
open Go Go.RowKit
section
variable {P : Program}
/-- the operation 'copy' where its run is known -/
theorem wp_cpI (w : World) {o : Oper} {a : Act} {K : Act → World → Prop} {Q : Exit → Act → World → Prop} (d s : Operand) (t t' : TypeId)
    (ho : o.op = .call { callee := .builtin .copy, args := #[d, s], argTypes := #[t, t'] }) (v u : Value) (hd : a.eval d = v) (hs : a.eval s = u) {v' : Value} {w' : World}
    (hr : (Builtin.copy_ #[t, t'] o.type #[v, u]).run P w = .ok v' w') (h : K (a.put o.dst v') w') : o.wp P a w K Q := by
  unfold Oper.wp execOp
  simp only [ho, resolve, invoke, builtin, Sem.run_bind, Sem.run_pure, Result.andThen_ok, List.map_toArray, List.map_cons, List.map_nil, hd, hs, hr]
  exact h
theorem wpList_cpI (w : World) {ops : Array Oper} {rest : List Oper} {o : Oper} {a : Act} {Q : Exit → Act → World → Prop} (hgd : o.guard = none) (d s : Operand) (t t' : TypeId)
    (ho : o.op = .call { callee := .builtin .copy, args := #[d, s], argTypes := #[t, t'] }) (v u : Value) (hd : a.eval d = v) (hs : a.eval s = u) {v' : Value} {w' : World}
    (hr : (Builtin.copy_ #[t, t'] o.type #[v, u]).run P w = .ok v' w') (h : wpList P ops Q rest (a.put o.dst v') w') : wpList P ops Q (o :: rest) a w :=
  wpList_plain hgd fun _ hK => wp_cpI w d s t t' ho v u hd hs hr (hK _ _ h)
theorem step_cpI {ops : Array Oper} {o : Oper} {a : Act} {w : World} {K : Act → World → Prop} {Q : Exit → Act → World → Prop} {E : Prop}
    (hg : o.guard = none) (d x : Operand) (dT sT : TypeId) (hop : o.op = Op.call { callee := Callee.builtin Builtin.copy, args := #[d, x], argTypes := #[dT, sT] })
    (v u : Value) (hd : a.eval d = v) (hx : a.eval x = u) {v' : Value} {w' : World} (hr : (Builtin.copy_ #[dT, sT] o.type #[v, u]).run P w = .ok v' w') (hK : K (a.put o.dst v') w') :
    if Region.wanted o (yielded ops a.tmps) = true then Oper.wp P o a w K Q else E := by
  have hw : Region.wanted o (yielded ops a.tmps) = true := by simp [Region.wanted, hg]
  rw [if_pos hw]
  unfold Oper.wp
  simp [execOp, hop, resolve, invoke, builtin, hd, hx, hr, Result.andThen]
  exact hK
/-- copy into a block known whole -/
theorem run_copy_at (w : World) (dT sT ty elem : TypeId) (size b o dLen dCap : Nat) (t : TypeId) (cur : Array Value) (a : Addr) (sLen sCap k : Nat) (cs : List Value)
    (hu : P.underlying dT = some (.slice elem)) (hs : szOf P elem = some size) (hn : Nat.min sLen dLen = k) (hl : cs.length = k * size)
    (hsrc : ∀ j v, cs[j]? = some v → w.cell? (a.add j) = some v) (hb : w.heap[b]? = some (.cells cur t (0, 0))) (hf : o + cs.length ≤ cur.size) (h1 : ∀ v ∈ cs, v.oneCell' = true) :
    (Builtin.copy_ #[dT, sT] ty #[.slice (some ⟨b, o, none⟩) dLen dCap, .slice (some a) sLen sCap]).run P w = .ok (goInt k) (w.setRow b (splice cur o cs.toArray)) := by
  have hl' := run_loadCells_list (P := P) w a cs hsrc
  have hst := run_storeCells_at (P := P) b o t cs 0 cur w hb (by omega) h1
  simp only [Nat.add_zero] at hst
  cases hq : P.info? elem with
  | none => simp [szOf, hq] at hs
  | some i =>
    have hi : i.size = size := by simpa [szOf, hq] using hs
    simp [Builtin.copy_, run_underlying hu, Builtin.lenOf, Builtin.firstCells, sizeOf, typeInfo, hq, hi, hn, ← hl, hl', hst, splice]
end
theorem size_splice {c cs : Array Value} {o : Nat} (h : o + cs.size ≤ c.size) : (splice c o cs).size = c.size := by
  simp [splice]; omega

set_option maxHeartbeats 4000000 in
set_option maxRecDepth 100000 in
/-- there is room behind the place: in place -/
theorem ins_shift (b n c i vb voff m mc : Nat) (old tl xs : List Value) (vcs : Array Value) (vt : TypeId) (w : World) (hi : i < n) (hm : 0 < m) (hroom : n + m ≤ c) (hc63 : c ≤ maxLen) (hvb : vb ≠ b)
    (hol : old.length = n * 9) (hcl : (old ++ tl).length = c * 9) (hxl : xs.length = m * 9)
    (hb : w.heap[b]? = some (.cells (old ++ tl).toArray 26 (0, 0))) (hv : ∀ j u, xs[j]? = some u → w.cell? ⟨vb, voff + j, none⟩ = some u)
    (hvo : w.heap[vb]? = some (.cells vcs vt (0, 0))) (h1c : ∀ u ∈ old, u.oneCell' = true) (h1v : ∀ u ∈ xs, u.oneCell' = true) :
    Calls Try.prog 27 #[.slice (some ⟨b, 0, none⟩) n c, .int .i64 i, .slice (some ⟨vb, voff, none⟩) m mc] w fun e w' =>
      e = .returned (.slice (some ⟨b, 0, none⟩) (n + m) c) ∧ w' = (w.drew.setRow b (splice (old ++ tl).toArray ((i + m) * 9) (old.drop (i * 9)).toArray)).setRow b (splice (splice (old ++ tl).toArray ((i + m) * 9) (old.drop (i * 9)).toArray) (i * 9) xs.toArray) := by
  unfold maxLen at hc63
  have mixed : Try.prog.follows Departure.mixedOrders = true := by kernel_rfl
  have hz1 : ¬ ((m : Int) = 0) := by omega
  have hz2 : ¬ ((i : Int) = (n : Int)) := by omega
  have hdl : (old.drop (i * 9)).length = (n - i) * 9 := by rw [List.length_drop, hol]; omega
  have hsz : szOf Try.prog 26 = some 9 := by kernel_rfl
  have hu : Try.prog.underlying 22 = some (.slice 26) := by kernel_rfl
  have hszr : ∀ w, (sizeOf 26).run Try.prog w = .ok 9 w := fun w => by
    have : ∃ i, Try.prog.info? 26 = some i ∧ i.size = 9 := by
      cases hq : Try.prog.info? 26 with
      | none => simp [szOf, hq] at hsz
      | some i => exact ⟨i, rfl, by simpa [szOf, hq] using hsz⟩
    obtain ⟨i, h1, h2⟩ := this
    simp [sizeOf, typeInfo, h1, h2]
  have hov : ∀ lb cb, (callFunc 50 #[.slice (some ⟨vb, voff, none⟩) m mc, .slice (some ⟨b, (i + m) * 9, none⟩) lb cb]).run Try.prog w = .ok (.value (.bool false)) w := fun lb cb => by
    rw [run_callFunc_extern (f := 50) Try.func50 (by kernel_rfl) (by kernel_rfl) (by kernel_rfl) (e := Extern.SlicesOverlaps.overlaps #[22, 22] #[4]) (by kernel_rfl),
      Lib.run_overlaps_apart w 22 4 26 hu 9 hszr ⟨vb, voff, none⟩ ⟨b, (i + m) * 9, none⟩ m mc lb cb hvb vt 26 vcs.size (old ++ tl).toArray.size (by simp [World.shape?, hvo]) (by simp [World.shape?, hb]) (by simp only [List.size_toArray, hcl]; omega) (frozen_of_row w vb voff vcs vt hvo) (frozen_of_row w vb vcs.size vcs vt hvo)]
    rfl
  have hw1 : IntKind.i64.wrap ((i : Int) + (m : Int)) = (i : Int) + (m : Int) := by rw [IntKind.wrap_i64]; omega
  have hb1 : (0 : Int) ≤ (i : Int) + (m : Int) := by omega
  have hin : i ≤ n := by omega
  have htn : ((i : Int) + (m : Int)).toNat = i + m := by omega
  have hb2 : ¬ (c = i + m) := by omega
  have hb3 : (i : Int) ≤ (n : Int) + (m : Int) := by omega
  have hb4 : ¬ (c = i) := by omega
  obtain ⟨R1, hR1⟩ : ∃ R1, R1 = splice (old ++ tl).toArray ((i + m) * 9) (old.drop (i * 9)).toArray := ⟨_, rfl⟩
  have hcs : ((i + m) * 9 + (old.drop (i * 9)).toArray.size) ≤ (old ++ tl).toArray.size := by simp only [List.size_toArray, hdl, hcl]; omega
  have hR1s : R1.size = c * 9 := by rw [hR1, size_splice hcs]; simpa using hcl
  have hcp1 : ∀ ty dc sc, (Builtin.copy_ #[22, 22] ty #[.slice (some ⟨b, (i + m) * 9, none⟩) (n + m - (i + m)) dc, .slice (some ⟨b, i * 9, none⟩) (n + m - i) sc]).run Try.prog w.drew = .ok (goInt (n - i : Nat)) (w.drew.setRow b R1) := fun ty dc sc => by
    rw [hR1]
    refine run_copy_at w.drew _ _ ty _ 9 b _ _ dc 26 _ _ _ sc (n - i) (old.drop (i * 9)) hu hsz (by simp only [Nat.min_def]; split <;> omega) hdl (fun j v hj => ?_) hb (by simpa using hcs) (fun v hv => h1c v (List.mem_of_mem_drop hv))
    rw [Addr.add_lit]
    rw [List.getElem?_drop] at hj
    refine (cell_of_row w b _ _ _ (0, 0) hb).trans ?_
    have hlt := (List.getElem?_eq_some_iff.1 hj).1
    simp only [List.getElem?_toArray]
    rw [List.getElem?_append_left hlt]; exact hj
  have hcp2 : ∀ (W : World), (∀ x, W.cell? x = (w.drew.setRow b R1).cell? x) → (W.heap[b]? = (w.drew.setRow b R1).heap[b]?) → ∀ ty dc, (Builtin.copy_ #[22, 22] ty #[.slice (some ⟨b, i * 9, none⟩) (n + m - i) dc, .slice (some ⟨vb, voff, none⟩) m mc]).run Try.prog W = .ok (goInt m) (W.setRow b (splice R1 (i * 9) xs.toArray)) := fun W hWc hWh ty dc => by
    refine run_copy_at W _ _ ty _ 9 b _ _ dc 26 _ _ _ mc m xs hu hsz (by simp only [Nat.min_def]; split <;> omega) hxl (fun j v hj => ?_) (hWh.trans (setRow_heap w.drew b _ R1 _ _ hb)) (by rw [hR1s, hxl]; omega) h1v
    rw [Addr.add_lit, hWc, cell_setRow_other _ _ _ _ hvb]
    exact hv j v hj
  rw [← hR1]
  clear hR1 hR1s hcs hdl hol hcl hxl h1c h1v hszr
  go_enter Try.func27, Try.ntmps27
  go_wp2_with (simp only [hov])
  go_region_law_o (refine step_cpI rfl _ _ 22 22 rfl _ _ (by simp [Act.eval, Act.put]) (by simp [Act.eval, Act.put]) (hcp1 _ _ _) ?_)
  go_wp2_with (at_builtin; refine wpList_cpI _ rfl _ _ 22 22 rfl _ _ rfl rfl (hcp2 _ (fun _ => rfl) rfl _ _) ?_)
  go_ret
  exact ⟨rfl, rfl⟩
set_option maxHeartbeats 4000000 in
set_option maxRecDepth 100000 in
/-- at the end, there is room: in place -/
theorem ins_end_room (b n c vb voff m mc : Nat) (old tl xs : List Value) (w : World) (hm : 0 < m) (hroom : n + m ≤ c) (hc63 : c ≤ maxLen)
    (hol : old.length = n * 9) (hcl : (old ++ tl).length = c * 9) (hxl : xs.length = m * 9)
    (hb : w.heap[b]? = some (.cells (old ++ tl).toArray 26 (0, 0))) (hv : ∀ j u, xs[j]? = some u → w.cell? ⟨vb, voff + j, none⟩ = some u) (h1v : ∀ u ∈ xs, u.oneCell' = true) :
    Calls Try.prog 27 #[.slice (some ⟨b, 0, none⟩) n c, .int .i64 n, .slice (some ⟨vb, voff, none⟩) m mc] w fun e w' =>
      e = .returned (.slice (some ⟨b, 0, none⟩) (n + m) c) ∧ w' = w.setRow b (splice (old ++ tl).toArray (n * 9) xs.toArray) := by
  unfold maxLen at hc63
  have mixed : Try.prog.follows Departure.mixedOrders = true := by kernel_rfl
  have hz1 : ¬ ((m : Int) = 0) := by omega
  have hsz : szOf Try.prog 26 = some 9 := by kernel_rfl
  have hu : Try.prog.underlying 22 = some (.slice 26) := by kernel_rfl
  have hsrc : Src Try.prog 9 22 (.slice (some ⟨vb, voff, none⟩) m mc) m xs w := Src.ofSlice w hu ⟨vb, voff, none⟩ m mc xs hxl (fun j u hj => by rw [Addr.add_lit]; exact hv j u hj) h1v
  have hrun : ∀ ty, (Builtin.append_ #[22, 22] ty #[.slice (some ⟨b, 0, none⟩) n c, .slice (some ⟨vb, voff, none⟩) m mc]).run Try.prog w = .ok (.slice (some ⟨b, 0, none⟩) (n + m) c) (w.setRow b (splice (old ++ tl).toArray (n * 9) xs.toArray)) := fun ty => by
    have hst := run_storeCells_at (P := Try.prog) b (n * 9) 26 xs 0 (old ++ tl).toArray w hb (by simp only [List.size_toArray, hcl, hxl]; omega) h1v
    simp only [Nat.add_zero] at hst
    cases hie : Try.prog.info? 26 with
    | none => simp [szOf, hie] at hsz
    | some i =>
      have hs' : i.size = 9 := by simpa [szOf, hie] using hsz
      simp [Builtin.append_, run_underlying hu, sizeOf, typeInfo, hie, hs', hsrc.len, hroom, hsrc.cells, Addr.add_lit, hst, splice]
  clear hol hcl hxl hsrc hsz h1v hv
  go_enter Try.func27, Try.ntmps27
  go_wp2_with (at_builtin; refine Lib.wpList_append_run _ rfl _ _ _ _ rfl _ _ rfl rfl _ _ (hrun _) ?_)
  go_ret
  exact ⟨rfl, rfl⟩

/-- a new row -/
def InsNew (k : Nat) (cells : List Value) (w : World) (e : Ending) (w' : World) : Prop :=
  ∃ cap Z, k ≤ cap ∧ cap ≤ maxLen ∧ Z.length = (cap - k) * 9 ∧ e = .returned (.slice (some ⟨w.heap.size, 0, none⟩) k cap) ∧ w'.os = w.os ∧ w'.tape = w.tape ∧ w'.output = w.output ∧ Same [] w w' ∧ w'.heap[w.heap.size]? = some (.cells (cells ++ Z).toArray 26 (0, 0))
theorem insNew_alloc {k cap : Nat} {cells Z : List Value} {w : World} (h1 : k ≤ cap) (h2 : cap ≤ maxLen) (h3 : Z.length = (cap - k) * 9) : InsNew k cells w (.returned (.slice (some ⟨w.heap.size, 0, none⟩) k cap)) (w.drew.alloc (.cells (cells ++ Z).toArray 26)) :=
  have hb : Below w.heap.size w (w.drew.alloc (.cells (cells ++ Z).toArray 26)) := (Below.refl _ _).drew.alloc (Nat.le_refl _) _
  ⟨cap, Z, h1, h2, h3, rfl, hb.os, hb.tape, hb.output, .below hb, heap_alloc_last w.drew _⟩

set_option maxHeartbeats 4000000 in
set_option maxRecDepth 100000 in
/-- at the end, no room: a new row -/
theorem ins_end_grow (base : Option Nat) (n c vb voff m mc : Nat) (old xs : List Value) (w : World) (hm : 0 < m) (hnc : n ≤ c) (hroom : c < n + m) (hbig : (n + m) * 1000 ≤ 140737488355328)
    (hol : old.length = n * 9) (hxl : xs.length = m * 9) (hnil : base = none → n = 0)
    (hcs : ∀ b, base = some b → ∀ j u, old[j]? = some u → w.cell? ⟨b, j, none⟩ = some u)
    (hv : ∀ j u, xs[j]? = some u → w.cell? ⟨vb, voff + j, none⟩ = some u) (h1v : ∀ u ∈ xs, u.oneCell' = true) :
    Calls Try.prog 27 #[.slice (base.map fun b => ⟨b, 0, none⟩) n c, .int .i64 n, .slice (some ⟨vb, voff, none⟩) m mc] w fun e w' =>
      InsNew (n + m) (old ++ xs) w e w' := by
  have mixed : Try.prog.follows Departure.mixedOrders = true := by kernel_rfl
  have hz1 : ¬ ((m : Int) = 0) := by omega
  have hsz : szOf Try.prog 26 = some 9 := by kernel_rfl
  have hby : ∃ by', bytesOf Try.prog 26 = some by' ∧ by' ≤ 1000 := ⟨_, rfl, by decide⟩
  have hzz : ∃ z, zeroOf Try.prog 26 = some z ∧ z.cells.size = 9 := ⟨_, rfl, by kernel_rfl⟩
  have hu : Try.prog.underlying 22 = some (.slice 26) := by kernel_rfl
  have hsrc : Src Try.prog 9 22 (.slice (some ⟨vb, voff, none⟩) m mc) m xs w := Src.ofSlice w hu ⟨vb, voff, none⟩ m mc xs hxl (fun j u hj => by rw [Addr.add_lit]; exact hv j u hj) h1v
  have hold : (Builtin.firstCells 9 n (.slice (base.map fun b => (⟨b, 0, none⟩ : Addr)) n c)).run Try.prog w.drew = .ok old.toArray w.drew := by
    cases base with
    | none =>
      have h0 := hnil rfl
      subst h0
      have h0' : old = [] := List.length_eq_zero_iff.1 (by simpa using hol)
      rw [h0']
      exact run_firstCells_none w.drew 9 0 0 c
    | some b => exact run_firstCells_some w.drew 9 n ⟨b, 0, none⟩ n c old hol (fun j v hj => by rw [Addr.add_lit, Nat.zero_add]; exact hcs b rfl j v hj)
  obtain ⟨by', hby1, hby2⟩ := hby
  obtain ⟨z, hz1', hz2'⟩ := hzz
  have hrun : ∃ cap Z, n + m ≤ cap ∧ cap ≤ maxLen ∧ Z.length = (cap - (n + m)) * 9 ∧ ∀ ty, (Builtin.append_ #[22, 22] ty #[.slice (base.map fun b => ⟨b, 0, none⟩) n c, .slice (some ⟨vb, voff, none⟩) m mc]).run Try.prog w = .ok (.slice (some ⟨w.heap.size, 0, none⟩) (n + m) cap) (w.drew.alloc (.cells (old ++ xs ++ Z).toArray 26)) := by
    cases hie : Try.prog.info? 26 with
    | none => simp [szOf, hie] at hsz
    | some i =>
      have hs' : i.size = 9 := by simpa [szOf, hie] using hsz
      have hz' : i.zero = some z := by simpa [zeroOf, hie] using hz1'
      have hb' : i.bytes = by' := by simpa [bytesOf, hie] using hby1
      have hfit : (n + m) * i.bytes ≤ 140737488355328 := Nat.le_trans (Nat.mul_le_mul_left _ (by omega)) hbig
      refine ⟨grownCap w (n + m) c 26, (Builtin.zeroCells z.cells (grownCap w (n + m) c 26 - (n + m))).toList, grownCap_ge .., grownCap_le_maxLen w _ _ _ (by unfold maxLen; omega), by simp [Builtin.zeroCells, hz2'], fun ty => ?_⟩
      have h := run_append_grow_src (P := Try.prog) w 22 22 ty 26 i z hu hie hz' (base.map fun b => ⟨b, 0, none⟩) n c old (by rw [hs']; exact hold) _ m xs (by rw [hs']; exact hsrc) hroom (by omega) (growslice_fits hroom hfit)
      rw [h]
      congr 3
      apply Array.ext'; simp
  obtain ⟨cap, Z, h1, h2, h3, hrun⟩ := hrun
  have HN0 : InsNew (n + m) (old ++ xs) w (.returned (.slice (some ⟨w.heap.size, 0, none⟩) (n + m) cap)) (w.drew.alloc (.cells (old ++ xs ++ Z).toArray 26)) := insNew_alloc h1 h2 h3
  obtain ⟨ROW, hROW⟩ : ∃ ROW : Array Value, ROW = (old ++ xs ++ Z).toArray := ⟨_, rfl⟩
  rw [← hROW] at hrun HN0
  clear hsrc hsz h1v hv hold hcs
  cases base with
  | none =>
    have h0 := hnil rfl
    subst h0
    simp only [Option.map_none] at hrun ⊢
    have HN := Lib.hid HN0
    clear HN0 hROW
    go_enter Try.func27, Try.ntmps27
    go_wp2_with (at_builtin; refine Lib.wpList_append_run _ rfl _ _ _ _ rfl _ _ rfl rfl _ _ (hrun _) ?_)
    all_goals
      go_ret
      first | exact HN.out | (rw [Nat.zero_add] at HN; exact HN.out)
  | some b =>
    simp only [Option.map_some] at hrun ⊢
    have HN := Lib.hid HN0
    clear HN0 hROW
    go_enter Try.func27, Try.ntmps27
    go_wp2_with (at_builtin; refine Lib.wpList_append_run _ rfl _ _ _ _ rfl _ _ rfl rfl _ _ (hrun _) ?_)
    all_goals
      go_ret
      first | exact HN.out | (rw [Nat.zero_add] at HN; exact HN.out)
theorem splice_ins {A Z0 xs B : List Value} {p q r : Nat} (h1 : A.length = p) (h2 : xs.length = q) (h3 : B.length = r) (h4 : q + r ≤ Z0.length) :
    splice (splice (A ++ Z0).toArray p xs.toArray) (p + q) B.toArray = (A ++ xs ++ B ++ Z0.drop (q + r)).toArray := by
  have e1 : splice (A ++ Z0).toArray p xs.toArray = (A ++ xs ++ Z0.drop q).toArray := by
    rw [splice_list h1.symm _ (by simp; omega)]
    simp [h2]
  rw [e1, splice_list (by simp [h1, h2]) _ (by simp; omega)]
  simp [h3, List.drop_drop]

set_option maxHeartbeats 4000000 in
set_option maxRecDepth 100000 in
/-- something stands behind the place, no room: a new row -/
theorem ins_grow (b n c i vb voff m mc : Nat) (old xs : List Value) (w : World) (hi : i < n) (hm : 0 < m) (hnc : n ≤ c) (hroom : c < n + m) (hbig : (n + m) * 1000 ≤ 140737488355328)
    (hol : old.length = n * 9) (hxl : xs.length = m * 9)
    (hcs : ∀ j u, old[j]? = some u → w.cell? ⟨b, j, none⟩ = some u) (h1c : ∀ u ∈ old, u.oneCell' = true)
    (hv : ∀ j u, xs[j]? = some u → w.cell? ⟨vb, voff + j, none⟩ = some u) (h1v : ∀ u ∈ xs, u.oneCell' = true) :
    Calls Try.prog 27 #[.slice (some ⟨b, 0, none⟩) n c, .int .i64 i, .slice (some ⟨vb, voff, none⟩) m mc] w fun e w' =>
      InsNew (n + m) (old.take (i * 9) ++ xs ++ old.drop (i * 9)) w e w' := by
  have mixed : Try.prog.follows Departure.mixedOrders = true := by kernel_rfl
  have hz1 : ¬ ((m : Int) = 0) := by omega
  have hz2 : ¬ ((i : Int) = (n : Int)) := by omega
  have hz3 : (c : Int) < (n : Int) + (m : Int) := by omega
  have hsz : szOf Try.prog 26 = some 9 := by kernel_rfl
  have hby : ∃ by', bytesOf Try.prog 26 = some by' ∧ by' ≤ 1000 := ⟨_, rfl, by decide⟩
  have hzz : ∃ z, zeroOf Try.prog 26 = some z ∧ z.cells.size = 9 := ⟨_, rfl, by kernel_rfl⟩
  have hu : Try.prog.underlying 22 = some (.slice 26) := by kernel_rfl
  have hui : Try.prog.underlying 3 = some (.int .i64) := by kernel_rfl
  have hbw : b < w.heap.size := block_lt_of_cell (hcs 0 _ (List.getElem?_eq_getElem (by omega)))
  have hvw : vb < w.heap.size := block_lt_of_cell (hv 0 _ (List.getElem?_eq_getElem (by omega)))
  have hkk : (n : Int) + (m : Int) - (i : Int) = ((n + m - i : Nat) : Int) := by omega
  have hik : i + (n + m - i) = n + m := by omega
  have hdl : (old.drop (i * 9)).length = (n - i) * 9 := by rw [List.length_drop, hol]; omega
  have htl : (old.take (i * 9)).length = i * 9 := by rw [List.length_take, hol]; omega
  have hold : (Builtin.firstCells 9 i (.slice (some ⟨b, 0, none⟩) i c)).run Try.prog w.drew = .ok (old.take (i * 9)).toArray w.drew :=
    run_firstCells_some w.drew 9 i ⟨b, 0, none⟩ i c (old.take (i * 9)) htl (fun j v hj => by
      rw [Addr.add_lit, Nat.zero_add]
      rw [List.getElem?_take] at hj
      split at hj
      · exact hcs j v hj
      · cases hj)
  obtain ⟨by', hby1, hby2⟩ := hby
  obtain ⟨z, hz1', hz2'⟩ := hzz
  have hrz : ∃ G Z0, n + m ≤ G ∧ G ≤ maxLen ∧ Z0.length = (G - i) * 9 ∧ ∀ ty, (Builtin.append_ #[22, 3] ty #[.slice (some ⟨b, 0, none⟩) i c, .int .i64 ((n : Int) + (m : Int) - (i : Int))]).run Try.prog w =
      .ok (.slice (some ⟨w.heap.size, 0, none⟩) (n + m) G) (w.drew.alloc (.cells (old.take (i * 9) ++ Z0).toArray 26)) := by
    cases hie : Try.prog.info? 26 with
    | none => simp [szOf, hie] at hsz
    | some q =>
      have hs' : q.size = 9 := by simpa [szOf, hie] using hsz
      have hz' : q.zero = some z := by simpa [zeroOf, hie] using hz1'
      have hb' : q.bytes = by' := by simpa [bytesOf, hie] using hby1
      have hfit : (n + m) * q.bytes ≤ 140737488355328 := Nat.le_trans (Nat.mul_le_mul_left _ (by omega)) hbig
      have hfit2 : (n + m - i) * q.bytes ≤ 281474976710656 := Nat.le_trans (Nat.mul_le_mul_right _ (by omega)) (Nat.le_trans hfit (by omega))
      have hge := grownCap_ge w (n + m) c 26
      refine ⟨grownCap w (n + m) c 26, (Builtin.zeroCells z.cells (n + m - i) ++ Builtin.zeroCells z.cells (grownCap w (n + m) c 26 - (n + m))).toList, hge, grownCap_le_maxLen w _ _ _ (by unfold maxLen; omega), by simp [Builtin.zeroCells, hz2']; omega, fun ty => ?_⟩
      have h := Lib.run_append_grow_zeros (P := Try.prog) w 22 3 ty 26 q z .i64 .i64 hu hui hie hz' (some ⟨b, 0, none⟩) i c (old.take (i * 9)) (by rw [hs']; exact hold) (n + m - i) (by omega) (by omega) (by omega) (by omega) hfit2 (by rw [hik]; exact growslice_fits hroom hfit)
      rw [hik] at h
      rw [hkk, h]
      congr 3
      apply Array.ext'; simp
  obtain ⟨G, Z0, hG1, hG2, hZ0, hrz⟩ := hrz
  obtain ⟨ROW, hROW⟩ : ∃ ROW : Array Value, ROW = (old.take (i * 9) ++ Z0).toArray := ⟨_, rfl⟩
  have hRs : ROW.size = G * 9 := by rw [hROW]; simp only [List.size_toArray, List.length_append, htl, hZ0]; omega
  have hsp : splice (splice ROW (i * 9) xs.toArray) ((i + m) * 9) (old.drop (i * 9)).toArray = (old.take (i * 9) ++ xs ++ old.drop (i * 9) ++ Z0.drop (m * 9 + (n - i) * 9)).toArray := by
    rw [hROW, Nat.add_mul]
    exact splice_ins htl hxl hdl (by rw [hZ0]; omega)
  rw [← hROW] at hrz
  have hWh : ∀ (W : World), W.heap = (w.drew.alloc (.cells ROW 26)).heap → W.heap[w.heap.size]? = some (.cells ROW 26 (0, 0)) := fun W h => by rw [h]; exact heap_alloc_last w.drew _
  have hR1s : (splice ROW (i * 9) xs.toArray).size = G * 9 := by rw [size_splice (by rw [hRs, List.size_toArray, hxl]; omega), hRs]
  have hcA : ∀ (W : World), W.heap = (w.drew.alloc (.cells ROW 26)).heap → ∀ ty dc, (Builtin.copy_ #[22, 22] ty #[.slice (some ⟨w.heap.size, i * 9, none⟩) (n + m - i) dc, .slice (some ⟨vb, voff, none⟩) m mc]).run Try.prog W = .ok (goInt m) (W.setRow w.heap.size (splice ROW (i * 9) xs.toArray)) := fun W hW ty dc => by
    refine run_copy_at W _ _ ty _ 9 w.heap.size _ _ dc 26 _ _ _ mc m xs hu hsz (by simp only [Nat.min_def]; split <;> omega) hxl (fun j v hj => ?_) (hWh W hW) (by rw [hRs, hxl]; omega) h1v
    rw [Addr.add_lit]
    have := hv j v hj
    rw [← this]
    refine World.cell?_of_block ?_
    rw [hW]
    exact heap_alloc_old w.drew _ hvw
  have hcB : ∀ (W : World), W.heap = ((w.drew.alloc (.cells ROW 26)).setRow w.heap.size (splice ROW (i * 9) xs.toArray)).heap → ∀ ty dc sc, (Builtin.copy_ #[22, 22] ty #[.slice (some ⟨w.heap.size, (i + m) * 9, none⟩) (n + m - (i + m)) dc, .slice (some ⟨b, i * 9, none⟩) (n - i) sc]).run Try.prog W = .ok (goInt (n - i : Nat)) (W.setRow w.heap.size (splice (splice ROW (i * 9) xs.toArray) ((i + m) * 9) (old.drop (i * 9)).toArray)) := fun W hW ty dc sc => by
    refine run_copy_at W _ _ ty _ 9 w.heap.size _ _ dc 26 _ _ _ sc (n - i) (old.drop (i * 9)) hu hsz (by simp only [Nat.min_def]; split <;> omega) hdl (fun j v hj => ?_) (by rw [hW]; exact setRow_heap _ _ _ _ _ _ (heap_alloc_last w.drew _)) (by rw [hR1s, hdl]; omega) (fun v hv => h1c v (List.mem_of_mem_drop hv))
    rw [Addr.add_lit]
    rw [List.getElem?_drop] at hj
    rw [← hcs _ v hj]
    refine World.cell?_of_block ?_
    rw [hW, setRow_other _ _ _ _ (by show b ≠ w.heap.size; omega)]
    exact heap_alloc_old w.drew _ hbw
  have hGi : ¬ (G = i) := by omega
  have hGim : ¬ (G = i + m) := by omega
  have hci : ¬ (c = i) := by omega
  have hw1 : IntKind.i64.wrap ((i : Int) + (m : Int)) = (i : Int) + (m : Int) := by rw [IntKind.wrap_i64]; omega
  have hb1 : (0 : Int) ≤ (i : Int) + (m : Int) := by omega
  have hin : i ≤ n := by omega
  have htn : ((i : Int) + (m : Int)).toNat = i + m := by omega
  have hb3 : (i : Int) ≤ (n : Int) := by omega
  have hG63 : G ≤ 9223372036854775807 := by unfold maxLen at hG2; omega
  have HN : ∀ W1 : World, W1.os = w.os → W1.tape = w.tape → W1.output = w.output → W1.heap = (w.drew.alloc (.cells ROW 26)).heap → InsNew (n + m) (old.take (i * 9) ++ xs ++ old.drop (i * 9)) w (.returned (.slice (some ⟨w.heap.size, 0, none⟩) (n + m) G)) ((W1.setRow w.heap.size (splice ROW (i * 9) xs.toArray)).drew.setRow w.heap.size (splice (splice ROW (i * 9) xs.toArray) ((i + m) * 9) (old.drop (i * 9)).toArray)) := fun W1 e1 e2 e3 hW1 => by
    have hs1 : W1.heap.size = w.heap.size + 1 := by rw [hW1]; show (w.heap.push _).size = _; simp
    refine ⟨G, Z0.drop (m * 9 + (n - i) * 9), hG1, hG2, by rw [List.length_drop, hZ0]; omega, rfl, e1, e2, e3, ⟨?_, fun k hk _ => ?_⟩, ?_⟩
    · rw [size_setRow]
      show w.heap.size ≤ (W1.setRow _ _).heap.size
      rw [size_setRow]; omega
    · rw [setRow_other _ _ _ _ (by omega)]
      show (W1.setRow _ _).heap[k]? = _
      rw [setRow_other _ _ _ _ (by omega), hW1]
      exact heap_alloc_old w.drew _ hk
    · rw [← hsp]
      refine setRow_heap _ _ (splice ROW (i * 9) xs.toArray) _ 26 (0, 0) ?_
      show (W1.setRow _ _).heap[w.heap.size]? = _
      exact setRow_heap _ _ _ _ _ _ (hWh W1 hW1)
  have HN' := Lib.hid HN
  have hE1 : ((w.alloc (.cells ROW 26)).drew).heap = (w.drew.alloc (.cells ROW 26)).heap := rfl
  have hF1 : (((w.alloc (.cells ROW 26)).drew.setRow w.heap.size (splice ROW (i * 9) xs.toArray)).drew).heap = ((w.drew.alloc (.cells ROW 26)).setRow w.heap.size (splice ROW (i * 9) xs.toArray)).heap := rfl
  clear HN hkk hik hold hROW hRs hsp hdl htl hZ0 hR1s hol hxl hWh h1c h1v hcs hv hsz hz1' hz2'
  go_enter Try.func27, Try.ntmps27
  go_wp2_with (first
    | (at_builtin; refine Lib.wpList_append_run _ rfl _ _ _ _ rfl _ _ rfl rfl _ _ (hrz _) ?_)
    | (at_builtin; refine wpList_cpI _ rfl _ _ 22 22 rfl _ _ rfl rfl (hcA _ hE1 _ _) ?_))
  go_region_law_o (refine step_cpI rfl _ _ 22 22 rfl (.slice (some ⟨w.heap.size, (i + m) * 9, none⟩) (n + m - (i + m)) (G - (i + m))) (.slice (some ⟨b, i * 9, none⟩) (n - i) (c - i)) (by simp [Act.eval, Act.put]) (by simp [Act.eval, Act.put]) (hcB _ hF1 3 (G - (i + m)) (c - i)) ?_)
  go_wp2
  go_ret
  exact HN'.out _ rfl rfl rfl rfl
end Go.Proofs.Ytmkigejhgpoleaa
