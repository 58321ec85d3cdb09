/-
  The any-order region rule where an edge that does not bind may go forward.
-/
import Derived.Test.YtmkigejhgpoleaaAny
import Derived.Test.YtmkigejhgpoleaaOps
namespace Go.Proofs.Ytmkigejhgpoleaa.Lax
set_option linter.unusedSimpArgs false
set_option linter.unusedVariables false
open Go Go.RowKit
/-- every edge goes back; no two operations write one temporary; each is in the frame -/
def anyOkB (ops : Array Oper) (n : Nat) : Bool :=
  (List.range ops.size).all fun i => ((ops[i]?).map fun o => o.after.all fun e => !Region.binds .any e || decide (e.on < i)).getD true &&
    (match dstOf ops i with | some d => decide (d < n) && (List.range ops.size).all fun j => i == j || dstOf ops j != some d | none => true)

section
variable {P : Program} {ops : Array Oper} {Q : Exit → Act → World → Prop}
theorem anyOk_edge {n i : Nat} {o : Oper} {e : Edge} (h : anyOkB ops n = true) (ho : ops[i]? = some o) (he : e ∈ o.after) (hb : Region.binds .any e = true) : e.on < i := by
  have hi : i < ops.size := (Array.getElem?_eq_some_iff.1 ho).1
  have := List.all_eq_true.1 h i (by simpa using hi)
  simp only [Bool.and_eq_true, ho, Option.map_some, Option.getD_some] at this
  have h2 := Array.all_eq_true_iff_forall_mem.1 this.1 e he
  simpa [hb] using h2

theorem anyOk_dst {n i j d : Nat} (h : anyOkB ops n = true) (hi : dstOf ops i = some d) (hj : dstOf ops j = some d) : i = j ∧ d < n := by
  have hlt : ∀ k, dstOf ops k = some d → k < ops.size := fun k hk => by
    unfold dstOf at hk
    cases ho : ops[k]? with
    | none => rw [ho] at hk; cases hk
    | some o => exact (Array.getElem?_eq_some_iff.1 ho).1
  have := List.all_eq_true.1 h i (by simpa using hlt i hi)
  simp only [Bool.and_eq_true, hi] at this
  obtain ⟨_, h1, h2⟩ := this
  have h3 := List.all_eq_true.1 h2 j (by simpa using hlt j hj)
  rw [hj] at h3
  simp only [bne_self_eq_false, Bool.or_false, beq_iff_eq] at h3
  exact ⟨h3, by simpa using h1⟩

theorem all_listed {n : Nat} (h : anyOkB ops n = true) {listed : Array Bool} (hs : listed.size = ops.size) (hr : Region.ready .any ops listed = []) :
    ∀ i, i < ops.size → listed.getD i false = true := by
  intro i
  induction i using Nat.strongRecOn with
  | ind i ih =>
    intro hi
    cases hb : listed.getD i false with
    | true => rfl
    | false =>
      exfalso
      have hm : i ∈ Region.ready .any ops listed := by
        rw [Region.ready, List.mem_filter]
        refine ⟨by simpa using hi, ?_⟩
        have h1 : listed.getD i true = false := by
          simp only [Array.getD, show i < listed.size by omega, dif_pos] at hb ⊢
          exact hb
        have ho : ops[i]? = some ops[i] := Array.getElem?_eq_getElem hi
        rw [h1, ho]
        simp only [Bool.not_false, Option.map_some, Option.getD_some, Bool.true_and]
        rw [Array.all_eq_true_iff_forall_mem]
        intro e he
        cases hbd : Region.binds .any e with
        | false => simp
        | true =>
          have := anyOk_edge h ho he hbd
          rw [ih e.on this (by omega)]
          simp
      rw [hr] at hm
      cases hm

/-- **ONE OBLIGATION AN OPERATION, WHATEVER THE ORDER.** -/
theorem wp_region_spec {id : Nat} {a0 : Act} {w : World} (hm : P.follows .mixedOrders = true) (hok : anyOkB ops a0.tmps.size = true)
    (spec : Nat → Value → World → Prop) (F : World → Prop) (stp : World → World → Prop) (hst : ∀ j v W W', stp W W' → spec j v W → spec j v W') (hF0 : F w.drew)
    (hop : ∀ i o, ops[i]? = some o → ∀ (b : Act) (W : World) (K : Act → World → Prop), b.defers = a0.defers → b.tmps.size = a0.tmps.size →
      (∀ t, (∀ j, dstOf ops j ≠ some t) → b.tmps.getD t undef = a0.tmps.getD t undef) →
      (∀ e ∈ o.after, Region.binds .any e = true → ∀ d, dstOf ops e.on = some d → spec e.on (b.tmps.getD d undef) W) → F W →
      (∀ v W', (o.dst ≠ none → spec i v W') → F W' → stp W W' → K (b.put o.dst v) W') →
      if Region.wanted o (yielded ops b.tmps) = true then o.wp P b W K Q else K (b.put o.dst undef) W)
    (hend : ∀ (vs : Nat → Value) (W : World), (∀ i d, dstOf ops i = some d → spec i (vs i) W) → F W → Q .normal { tmps := putAll vs ops.toList 0 a0.tmps, defers := a0.defers } W) :
    (Code.region id ops true).wp P Q a0 w := by
  refine wp_region_any hm (wpAny_inv (AnyInv ops spec F a0) ?_ ?_ ops.size _ _ _ (by simp) ?_ ?_)
  · intro listed b W i hs hI hi
    obtain ⟨h1, h2, h3, h4, h5⟩ := hI
    rw [Region.ready, List.mem_filter] at hi
    have hilt : i < ops.size := by simpa using hi.1
    have ho : ops[i]? = some ops[i] := Array.getElem?_eq_getElem hilt
    have hpre := hi.2
    rw [ho] at hpre
    simp only [Option.map_some, Option.getD_some, Bool.and_eq_true, Bool.not_eq_true'] at hpre
    have hob := hop i ops[i] ho b W (AnyInv ops spec F a0 (listed.setIfInBounds i true)) h1 h2 h3 (fun e he hbd d hd => by
      have := Array.all_eq_true_iff_forall_mem.1 hpre.2 e he
      rw [hbd] at this
      exact h4 e.on d (by simpa using this) hd) h5 (fun v W' hv hF' hs' => by
        refine ⟨(put_defers ..).trans h1, (put_size ..).trans h2, fun t ht => ?_, fun j d hj hd => ?_, hF'⟩
        · rw [put_other _ _ _ _ (fun e => ht i (by unfold dstOf; rw [ho]; exact e))]
          exact h3 t ht
        · by_cases e : i = j
          · subst e
            have hd' : ops[i].dst = some d := by unfold dstOf at hd; rw [ho] at hd; exact hd
            rw [hd', put_same _ _ _ (by rw [h2]; exact (anyOk_dst hok hd hd).2)]
            exact hv (by rw [hd']; simp)
          · rw [put_other _ _ _ _ (fun e' => e (anyOk_dst hok (i := i) (j := j) (d := d) (by unfold dstOf; rw [ho]; exact e') hd).1)]
            refine hst _ _ _ _ hs' (h4 j d ?_ hd)
            simp only [Array.getD_eq_getD_getElem?, Array.getElem?_setIfInBounds_ne e] at hj ⊢
            exact hj)
    unfold wpOp
    rw [ho]
    dsimp only
    split
    · rename_i hw; rw [if_pos hw] at hob; exact .inl hob
    · rename_i hw; rw [if_neg hw] at hob; exact hob
  · intro listed b W hs hI hr
    obtain ⟨h1, h2, h3, h4, h5⟩ := hI
    have hall := all_listed hok hs hr
    have hlt : ∀ k d, dstOf ops k = some d → k < ops.size := fun k d hk => by
      unfold dstOf at hk
      cases ho : ops[k]? with
      | none => rw [ho] at hk; cases hk
      | some o => exact (Array.getElem?_eq_some_iff.1 ho).1
    have he := hend (fun i => match dstOf ops i with | some d => b.tmps.getD d undef | none => undef) W (fun i d hd => by rw [hd]; exact h4 i d (hall i (hlt i d hd)) hd) h5
    have hb : b = { tmps := putAll (fun i => match dstOf ops i with | some d => b.tmps.getD d undef | none => undef) ops.toList 0 a0.tmps, defers := a0.defers } := by
      cases b with
      | mk bt bd =>
        dsimp only at h1 h2 h3 h4 ⊢
        subst h1
        congr 1
        apply Array.ext_getElem?
        intro x
        by_cases hx : x < bt.size
        · by_cases hd : ∃ j, dstOf ops j = some x
          · obtain ⟨j, hj⟩ := hd
            have hj' := hj
            unfold dstOf at hj'
            cases ho : ops[j]? with
            | none => rw [ho] at hj'; cases hj'
            | some o =>
              rw [ho] at hj'
              rw [putAll_at _ x ops.toList 0 j _ o (by simpa using ho) hj' (by omega) (fun j' o' hj2 he2 => (anyOk_dst hok (i := j') (j := j) (d := x) (by unfold dstOf; rw [show ops[j']? = some o' by simpa using hj2]; exact he2) hj).1)]
              rw [Nat.zero_add, hj]
              simp [hx]
          · rw [putAll_other _ x ops.toList 0 _ (fun o ho hd' => by
              obtain ⟨j, hj, rfl⟩ := List.mem_iff_getElem.1 ho
              exact hd ⟨j, by unfold dstOf; rw [show ops[j]? = some ops.toList[j] by simp [Array.getElem?_eq_getElem (show j < ops.size by simpa using hj)]]; exact hd'⟩)]
            have := h3 x (fun j hj => hd ⟨j, hj⟩)
            simp only [Array.getD_eq_getD_getElem?] at this
            rw [Array.getElem?_eq_getElem hx, Array.getElem?_eq_getElem (by omega)] at this ⊢
            simpa using this
        · rw [Array.getElem?_eq_none (by omega), Array.getElem?_eq_none (by rw [putAll_size]; omega)]
    rw [hb]
    exact he
  · rw [Array.toList_replicate]; exact Nat.le_trans (List.length_filter_le _ _) (by simp)
  · exact ⟨rfl, rfl, fun _ _ => rfl, fun j d hj _ => by simp [Array.getD_eq_getD_getElem?, Array.getElem?_replicate] at hj; split at hj <;> simp at hj, hF0⟩
end
/-- one obligation an operation; behind the region each value has its property -/
theorem wp_region_obs {P : Program} {l : List Oper} {Q : Exit → Act → World → Prop} {id : Nat} {a0 : Act} {w : World} (hm : P.follows .mixedOrders = true) (hok : anyOkB l.toArray a0.tmps.size = true)
    (spec : Nat → Value → World → Prop) (F : World → Prop) (stp : World → World → Prop) (hst : ∀ j v W W', stp W W' → spec j v W → spec j v W') (hF0 : F w.drew)
    (hop : OpsOb P l Q a0 spec F stp 0 l)
    (hend : ∀ (vs : Nat → Value) (W : World), (∀ i d, dstOf l.toArray i = some d → spec i (vs i) W) → F W → Q .normal { tmps := putAll vs l 0 a0.tmps, defers := a0.defers } W) :
    (Code.region id l.toArray true).wp P Q a0 w := by
  refine wp_region_spec hm hok spec F stp hst hF0 (fun i o ho b W K _ _ hf hdep hF hK => ?_) (by simpa using hend)
  have := hop.get (j := i) (o := o) (by simpa using ho)
  rw [Nat.zero_add] at this
  exact this b W K (fun t ht => hf t (notDst_spec ht)) hdep hF hK
section
variable {P : Program} {a : Act} {W : World} {K : Act → World → Prop} {Q : Exit → Act → World → Prop} {o : Oper}
/-- a store of what is there already leaves the world as it was -/
theorem wp_store_same {ty : TypeId} {x y : Operand} (ho : o.op = .store ty x y) {k : Nat} (hx : a.eval x = .pointer (some ⟨k, 0, none⟩)) {cs : Array Value} (hy : a.eval y = .agg cs) {t : TypeId} (hS : W.heap[k]? = some (.cells cs t (0, 0)))
    (hsz : szOf P ty = some cs.size) (h1 : cs.all (·.oneCell') = true) (h : K (a.put o.dst undef) W) : o.wp P a W K Q := by
  have hl := run_store_sub (P := P) (off := 0) hS hsz (by omega) h1
  rw [splice_all rfl] at hl
  have hW : W.setRow k cs = W := by
    unfold World.setRow
    have : (W.heap.modify k fun | .cells _ e f => .cells cs e f | o => o) = W.heap := by
      apply Array.ext_getElem?
      intro x
      rw [Array.getElem?_modify]
      split
      · subst_vars
        rw [hS]
        rfl
      · rfl
    cases W
    congr
  rw [hW] at hl
  unfold Oper.wp execOp
  simp only [ho, hx, hy, Instr.storeAt, Instr.sureAddr, Sem.run_bind, Sem.run_pure, Result.andThen_ok, hl]
  exact h
end
end Go.Proofs.Ytmkigejhgpoleaa.Lax
