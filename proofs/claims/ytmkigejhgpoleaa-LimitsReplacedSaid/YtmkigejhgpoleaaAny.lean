/-
  A region that draws its order: one obligation for each operation, whatever the order: each operation's value is described by a property that later operations do not disturb.
-/
import Derived.WalkKit
import Derived.Orders
import Derived.StillTail
namespace Go.Proofs.Ytmkigejhgpoleaa
set_option linter.unusedSimpArgs false
set_option linter.unusedVariables false
open Go Go.RowKit

def dstOf (ops : Array Oper) (i : Nat) : Option Tmp := (ops[i]?).bind (·.dst)

/-- every edge goes back; no two operations write one temporary; each is in the frame -/
def anyOkB (ops : Array Oper) (n : Nat) : Bool :=
  (List.range ops.size).all fun i => ((ops[i]?).map fun o => o.after.all fun e => decide (e.on < i)).getD true &&
    (match dstOf ops i with | some d => decide (d < n) && (List.range ops.size).all fun j => i == j || dstOf ops j != some d | none => true)

def putAll (vs : Nat → Value) : List Oper → Nat → Array Value → Array Value
  | [], _, t => t
  | o :: l, i, t => putAll vs l (i + 1) (match o.dst with | some d => t.setIfInBounds d (vs i) | none => t)

theorem count_set : ∀ (l : List Bool) (i : Nat) (h : i < l.length), l[i] = false → ((l.set i true).filter (! ·)).length + 1 = (l.filter (! ·)).length
  | [], _, h, _ => by simp at h
  | b :: l, 0, _, hb => by
    have : b = false := hb
    subst this
    simp
  | b :: l, i + 1, h, hb => by
    have ih := count_set l i (by simpa using h) (by simpa using hb)
    cases b <;> simp_all

section
variable {P : Program} {ops : Array Oper} {Q : Exit → Act → World → Prop}

theorem wpAny_inv {md : Region.Mode} (I : Array Bool → Act → World → Prop)
    (hstep : ∀ listed a w i, listed.size = ops.size → I listed a w → i ∈ Region.ready md ops listed → wpOp P ops Q i (fun a' w' => I (listed.setIfInBounds i true) a' w') a w)
    (hend : ∀ listed a w, listed.size = ops.size → I listed a w → Region.ready md ops listed = [] → Q .normal a w) :
    ∀ fuel listed a w, listed.size = ops.size → (listed.toList.filter (! ·)).length ≤ fuel → I listed a w → wpAny P md ops Q fuel listed a w := by
  intro fuel
  induction fuel with
  | zero =>
    intro listed a w hs hc hI
    have hr : Region.ready md ops listed = [] := by
      rw [Region.ready, List.filter_eq_nil_iff]
      intro i hi
      have hi' : i < listed.size := by rw [hs]; simpa using hi
      have : listed[i] = true := by
        cases hb : listed[i] with
        | true => rfl
        | false =>
          exfalso
          have hm : false ∈ listed.toList.filter (! ·) := by
            rw [List.mem_filter]
            exact ⟨by rw [← hb]; exact Array.getElem_mem_toList hi', rfl⟩
          have := List.length_pos_of_mem hm
          omega
      simp [Array.getD, hi', this]
    exact ⟨hr, hend _ _ _ hs hI hr⟩
  | succ fuel ih =>
    intro listed a w hs hc hI
    refine ⟨fun h0 => hend _ _ _ hs hI h0, fun i hi => wpOp_mono (fun a' w' h' => ?_) (hstep listed a w i hs hI hi)⟩
    refine ih _ _ _ (by simpa using hs) ?_ h'
    have hi1 : i < ops.size ∧ listed.getD i true = false := by
      rw [Region.ready, List.mem_filter] at hi
      exact ⟨by simpa using hi.1, by have := hi.2; simp only [Bool.and_eq_true, Bool.not_eq_true'] at this; exact this.1⟩
    have hlt : i < listed.toList.length := by simp [hs, hi1.1]
    have hf : listed.toList[i] = false := by
      have h2 := hi1.2
      simp only [Array.getD, show i < listed.size by omega, dif_pos] at h2
      simpa using h2
    have := count_set listed.toList i hlt hf
    rw [Array.toList_setIfInBounds]
    omega

/-- every operation listed holds its property; all else in the frame is as at the start -/
def AnyInv (ops : Array Oper) (spec : Nat → Value → World → Prop) (F : World → Prop) (a0 : Act) (listed : Array Bool) (b : Act) (W : World) : Prop :=
  b.defers = a0.defers ∧ b.tmps.size = a0.tmps.size ∧ (∀ t, (∀ j, dstOf ops j ≠ some t) → b.tmps.getD t undef = a0.tmps.getD t undef) ∧
  (∀ j d, listed.getD j false = true → dstOf ops j = some d → spec j (b.tmps.getD d undef) W) ∧ F W

theorem anyOk_edge {n i : Nat} {o : Oper} {e : Edge} (h : anyOkB ops n = true) (ho : ops[i]? = some o) (he : e ∈ o.after) : e.on < i := by
  have hi : i < ops.size := (Array.getElem?_eq_some_iff.1 ho).1
  have := List.all_eq_true.1 h i (by simpa using hi)
  simp only [Bool.and_eq_true, ho, Option.map_some, Option.getD_some] at this
  have h2 := Array.all_eq_true_iff_forall_mem.1 this.1 e he
  simpa using h2

theorem anyOk_dst {n i j d : Nat} (h : anyOkB ops n = true) (hi : dstOf ops i = some d) (hj : dstOf ops j = some d) : i = j ∧ d < n := by
  have hlt : ∀ k, dstOf ops k = some d → k < ops.size := fun k hk => by
    unfold dstOf at hk
    cases ho : ops[k]? with
    | none => rw [ho] at hk; cases hk
    | some o => exact (Array.getElem?_eq_some_iff.1 ho).1
  have := List.all_eq_true.1 h i (by simpa using hlt i hi)
  simp only [Bool.and_eq_true, hi] at this
  obtain ⟨_, h1, h2⟩ := this
  have h3 := List.all_eq_true.1 h2 j (by simpa using hlt j hj)
  rw [hj] at h3
  simp only [bne_self_eq_false, Bool.or_false, beq_iff_eq] at h3
  exact ⟨h3, by simpa using h1⟩

theorem all_listed {md : Region.Mode} {n : Nat} (h : anyOkB ops n = true) {listed : Array Bool} (hs : listed.size = ops.size) (hr : Region.ready md ops listed = []) :
    ∀ i, i < ops.size → listed.getD i false = true := by
  intro i
  induction i using Nat.strongRecOn with
  | ind i ih =>
    intro hi
    cases hb : listed.getD i false with
    | true => rfl
    | false =>
      exfalso
      have hm : i ∈ Region.ready md ops listed := by
        rw [Region.ready, List.mem_filter]
        refine ⟨by simpa using hi, ?_⟩
        have h1 : listed.getD i true = false := by
          simp only [Array.getD, show i < listed.size by omega, dif_pos] at hb ⊢
          exact hb
        have ho : ops[i]? = some ops[i] := Array.getElem?_eq_getElem hi
        rw [h1, ho]
        simp only [Bool.not_false, Option.map_some, Option.getD_some, Bool.true_and]
        rw [Array.all_eq_true_iff_forall_mem]
        intro e he
        have := anyOk_edge h ho he
        rw [ih e.on this (by omega)]
        simp
      rw [hr] at hm
      cases hm

theorem putAll_size (vs : Nat → Value) : ∀ (l : List Oper) (k : Nat) (t : Array Value), (putAll vs l k t).size = t.size
  | [], _, _ => rfl
  | o :: l, k, t => by
    unfold putAll
    rw [putAll_size vs l]
    cases o.dst <;> simp

theorem putAll_other (vs : Nat → Value) (x : Nat) : ∀ (l : List Oper) (k : Nat) (t : Array Value), (∀ o ∈ l, o.dst ≠ some x) → (putAll vs l k t)[x]? = t[x]?
  | [], _, _, _ => rfl
  | o :: l, k, t, h => by
    unfold putAll
    rw [putAll_other vs x l (k + 1) _ (fun o' ho' => h o' (List.mem_cons_of_mem _ ho'))]
    cases hd : o.dst with
    | none => rfl
    | some d =>
      have : d ≠ x := fun e => h o (List.mem_cons_self ..) (by rw [hd, e])
      simp only [Array.getElem?_setIfInBounds_ne this]

theorem putAll_at (vs : Nat → Value) (x : Nat) : ∀ (l : List Oper) (k j : Nat) (t : Array Value) (o : Oper), l[j]? = some o → o.dst = some x → x < t.size →
    (∀ j' o', l[j']? = some o' → o'.dst = some x → j' = j) → (putAll vs l k t)[x]? = some (vs (k + j))
  | [], _, _, _, _, h, _, _, _ => by simp at h
  | o :: l, k, 0, t, o1, h, hd, hx, hu => by
    obtain rfl : o = o1 := by simpa using h
    unfold putAll
    rw [putAll_other vs x l (k + 1) _ (fun o' ho' e => by
      obtain ⟨j', hj', rfl⟩ := List.mem_iff_getElem.1 ho'
      have := hu (j' + 1) _ (by simp [hj']) e
      omega), hd]
    simp [hx]
  | o :: l, k, j + 1, t, o1, h, hd, hx, hu => by
    unfold putAll
    rw [putAll_at vs x l (k + 1) j _ o1 (by simpa using h) hd (by cases o.dst <;> simp [hx]) (fun j' o' hj' he => by
      have := hu (j' + 1) o' (by simpa using hj') he
      omega)]
    congr 2; omega

theorem put_defers (b : Act) (d : Option Tmp) (v : Value) : (b.put d v).defers = b.defers := by cases d <;> rfl
theorem put_size (b : Act) (d : Option Tmp) (v : Value) : (b.put d v).tmps.size = b.tmps.size := by cases d <;> simp [Act.put]
theorem put_other (b : Act) (d : Option Tmp) (v : Value) (t : Nat) (h : d ≠ some t) : (b.put d v).tmps.getD t undef = b.tmps.getD t undef := by
  cases d with
  | none => rfl
  | some x =>
    have : x ≠ t := fun e => h (by rw [e])
    simp [Act.put, Array.getD_eq_getD_getElem?, Array.getElem?_setIfInBounds_ne this]
theorem put_same (b : Act) (t : Nat) (v : Value) (h : t < b.tmps.size) : (b.put (some t) v).tmps.getD t undef = v := by
  simp [Act.put, Array.getD_eq_getD_getElem?, h]

/-- **ONE OBLIGATION AN OPERATION, WHATEVER THE ORDER.** -/
theorem wp_region_spec {id : Nat} {a0 : Act} {w : World} (hm : P.follows .mixedOrders = true) (hok : anyOkB ops a0.tmps.size = true)
    (spec : Nat → Value → World → Prop) (F : World → Prop) (stp : World → World → Prop) (hst : ∀ j v W W', stp W W' → spec j v W → spec j v W') (hF0 : F w.drew)
    (hop : ∀ i o, ops[i]? = some o → ∀ (b : Act) (W : World) (K : Act → World → Prop), b.defers = a0.defers → b.tmps.size = a0.tmps.size →
      (∀ t, (∀ j, dstOf ops j ≠ some t) → b.tmps.getD t undef = a0.tmps.getD t undef) →
      (∀ e ∈ o.after, Region.binds .any e = true → ∀ d, dstOf ops e.on = some d → spec e.on (b.tmps.getD d undef) W) → F W →
      (∀ v W', (o.dst ≠ none → spec i v W') → F W' → stp W W' → K (b.put o.dst v) W') →
      if Region.wanted o (yielded ops b.tmps) = true then o.wp P b W K Q else K (b.put o.dst undef) W)
    (hend : ∀ (vs : Nat → Value) (W : World), (∀ i d, dstOf ops i = some d → spec i (vs i) W) → F W → Q .normal { tmps := putAll vs ops.toList 0 a0.tmps, defers := a0.defers } W) :
    (Code.region id ops true).wp P Q a0 w := by
  refine wp_region_any hm (wpAny_inv (AnyInv ops spec F a0) ?_ ?_ ops.size _ _ _ (by simp) ?_ ?_)
  · intro listed b W i hs hI hi
    obtain ⟨h1, h2, h3, h4, h5⟩ := hI
    rw [Region.ready, List.mem_filter] at hi
    have hilt : i < ops.size := by simpa using hi.1
    have ho : ops[i]? = some ops[i] := Array.getElem?_eq_getElem hilt
    have hpre := hi.2
    rw [ho] at hpre
    simp only [Option.map_some, Option.getD_some, Bool.and_eq_true, Bool.not_eq_true'] at hpre
    have hob := hop i ops[i] ho b W (AnyInv ops spec F a0 (listed.setIfInBounds i true)) h1 h2 h3 (fun e he hbd d hd => by
      have := Array.all_eq_true_iff_forall_mem.1 hpre.2 e he
      rw [hbd] at this
      exact h4 e.on d (by simpa using this) hd) h5 (fun v W' hv hF' hs' => by
        refine ⟨(put_defers ..).trans h1, (put_size ..).trans h2, fun t ht => ?_, fun j d hj hd => ?_, hF'⟩
        · rw [put_other _ _ _ _ (fun e => ht i (by unfold dstOf; rw [ho]; exact e))]
          exact h3 t ht
        · by_cases e : i = j
          · subst e
            have hd' : ops[i].dst = some d := by unfold dstOf at hd; rw [ho] at hd; exact hd
            rw [hd', put_same _ _ _ (by rw [h2]; exact (anyOk_dst hok hd hd).2)]
            exact hv (by rw [hd']; simp)
          · rw [put_other _ _ _ _ (fun e' => e (anyOk_dst hok (i := i) (j := j) (d := d) (by unfold dstOf; rw [ho]; exact e') hd).1)]
            refine hst _ _ _ _ hs' (h4 j d ?_ hd)
            simp only [Array.getD_eq_getD_getElem?, Array.getElem?_setIfInBounds_ne e] at hj ⊢
            exact hj)
    unfold wpOp
    rw [ho]
    dsimp only
    split
    · rename_i hw; rw [if_pos hw] at hob; exact .inl hob
    · rename_i hw; rw [if_neg hw] at hob; exact hob
  · intro listed b W hs hI hr
    obtain ⟨h1, h2, h3, h4, h5⟩ := hI
    have hall := all_listed hok hs hr
    have hlt : ∀ k d, dstOf ops k = some d → k < ops.size := fun k d hk => by
      unfold dstOf at hk
      cases ho : ops[k]? with
      | none => rw [ho] at hk; cases hk
      | some o => exact (Array.getElem?_eq_some_iff.1 ho).1
    have he := hend (fun i => match dstOf ops i with | some d => b.tmps.getD d undef | none => undef) W (fun i d hd => by rw [hd]; exact h4 i d (hall i (hlt i d hd)) hd) h5
    have hb : b = { tmps := putAll (fun i => match dstOf ops i with | some d => b.tmps.getD d undef | none => undef) ops.toList 0 a0.tmps, defers := a0.defers } := by
      cases b with
      | mk bt bd =>
        dsimp only at h1 h2 h3 h4 ⊢
        subst h1
        congr 1
        apply Array.ext_getElem?
        intro x
        by_cases hx : x < bt.size
        · by_cases hd : ∃ j, dstOf ops j = some x
          · obtain ⟨j, hj⟩ := hd
            have hj' := hj
            unfold dstOf at hj'
            cases ho : ops[j]? with
            | none => rw [ho] at hj'; cases hj'
            | some o =>
              rw [ho] at hj'
              rw [putAll_at _ x ops.toList 0 j _ o (by simpa using ho) hj' (by omega) (fun j' o' hj2 he2 => (anyOk_dst hok (i := j') (j := j) (d := x) (by unfold dstOf; rw [show ops[j']? = some o' by simpa using hj2]; exact he2) hj).1)]
              rw [Nat.zero_add, hj]
              simp [hx]
          · rw [putAll_other _ x ops.toList 0 _ (fun o ho hd' => by
              obtain ⟨j, hj, rfl⟩ := List.mem_iff_getElem.1 ho
              exact hd ⟨j, by unfold dstOf; rw [show ops[j]? = some ops.toList[j] by simp [Array.getElem?_eq_getElem (show j < ops.size by simpa using hj)]]; exact hd'⟩)]
            have := h3 x (fun j hj => hd ⟨j, hj⟩)
            simp only [Array.getD_eq_getD_getElem?] at this
            rw [Array.getElem?_eq_getElem hx, Array.getElem?_eq_getElem (by omega)] at this ⊢
            simpa using this
        · rw [Array.getElem?_eq_none (by omega), Array.getElem?_eq_none (by rw [putAll_size]; omega)]
    rw [hb]
    exact he
  · rw [Array.toList_replicate]; exact Nat.le_trans (List.length_filter_le _ _) (by simp)
  · exact ⟨rfl, rfl, fun _ _ => rfl, fun j d hj _ => by simp [Array.getD_eq_getD_getElem?, Array.getElem?_replicate] at hj; split at hj <;> simp at hj, hF0⟩
end

def notDst (ops : List Oper) (t : Nat) : Bool := ops.all fun o => o.dst != some t
theorem notDst_spec {l : List Oper} {t : Nat} (h : notDst l t = true) : ∀ j, dstOf l.toArray j ≠ some t := fun j hj => by
  unfold dstOf at hj
  cases ho : l.toArray[j]? with
  | none => rw [ho] at hj; cases hj
  | some o =>
    rw [ho] at hj
    have hm : o ∈ l := by
      have : l[j]? = some o := by simpa using ho
      exact List.mem_of_getElem? this
    have := List.all_eq_true.1 h o hm
    simp only [Option.bind_some] at hj
    rw [hj] at this
    simp at this

/-- one operation's obligation -/
def OpOb (P : Program) (l : List Oper) (Q : Exit → Act → World → Prop) (a0 : Act) (spec : Nat → Value → World → Prop) (F : World → Prop) (stp : World → World → Prop) (i : Nat) (o : Oper) : Prop :=
  ∀ (b : Act) (W : World) (K : Act → World → Prop), (∀ t, notDst l t = true → b.eval (.tmp t) = a0.eval (.tmp t)) →
    (∀ e ∈ o.after, Region.binds .any e = true → ∀ d, dstOf l.toArray e.on = some d → spec e.on (b.eval (.tmp d)) W) → F W →
    (∀ v W', (o.dst ≠ none → spec i v W') → F W' → stp W W' → K (b.put o.dst v) W') →
    if Region.wanted o (yielded l.toArray b.tmps) = true then o.wp P b W K Q else K (b.put o.dst undef) W
def OpsOb (P : Program) (l : List Oper) (Q : Exit → Act → World → Prop) (a0 : Act) (spec : Nat → Value → World → Prop) (F : World → Prop) (stp : World → World → Prop) : Nat → List Oper → Prop
  | _, [] => True
  | i, o :: r => OpOb P l Q a0 spec F stp i o ∧ OpsOb P l Q a0 spec F stp (i + 1) r
theorem OpsOb.get {P : Program} {l : List Oper} {Q : Exit → Act → World → Prop} {a0 : Act} {spec : Nat → Value → World → Prop} {F : World → Prop} {stp : World → World → Prop} :
    ∀ {r : List Oper} {k j : Nat} {o : Oper}, OpsOb P l Q a0 spec F stp k r → r[j]? = some o → OpOb P l Q a0 spec F stp (k + j) o
  | [], _, _, _, _, h => by simp at h
  | _ :: _, _, 0, _, h, ho => by
    obtain rfl := by simpa using ho
    exact h.1
  | _ :: r, k, j + 1, _, h, ho => by
    have := OpsOb.get (r := r) (k := k + 1) (j := j) h.2 (by simpa using ho)
    rwa [show k + 1 + j = k + (j + 1) by omega] at this

/-- one obligation an operation; behind the region each value has its property -/
theorem wp_region_obs {P : Program} {l : List Oper} {Q : Exit → Act → World → Prop} {id : Nat} {a0 : Act} {w : World} (hm : P.follows .mixedOrders = true) (hok : anyOkB l.toArray a0.tmps.size = true)
    (spec : Nat → Value → World → Prop) (F : World → Prop) (stp : World → World → Prop) (hst : ∀ j v W W', stp W W' → spec j v W → spec j v W') (hF0 : F w.drew)
    (hop : OpsOb P l Q a0 spec F stp 0 l)
    (hend : ∀ (vs : Nat → Value) (W : World), (∀ i d, dstOf l.toArray i = some d → spec i (vs i) W) → F W → Q .normal { tmps := putAll vs l 0 a0.tmps, defers := a0.defers } W) :
    (Code.region id l.toArray true).wp P Q a0 w := by
  refine wp_region_spec hm hok spec F stp hst hF0 (fun i o ho b W K _ _ hf hdep hF hK => ?_) (by simpa using hend)
  have := hop.get (j := i) (o := o) (by simpa using ho)
  rw [Nat.zero_add] at this
  exact this b W K (fun t ht => hf t (notDst_spec ht)) hdep hF hK
/-- an operation without a guard -/
theorem opOb_plain {P : Program} {l : List Oper} {Q : Exit → Act → World → Prop} {a0 : Act} {spec : Nat → Value → World → Prop} {F : World → Prop} {stp : World → World → Prop} {i : Nat} {o : Oper} (hg : o.guard = none)
    (h : ∀ (b : Act) (W : World) (K : Act → World → Prop), (∀ t, notDst l t = true → b.eval (.tmp t) = a0.eval (.tmp t)) →
      (∀ e ∈ o.after, Region.binds .any e = true → ∀ d, dstOf l.toArray e.on = some d → spec e.on (b.eval (.tmp d)) W) → F W →
      (∀ v W', (o.dst ≠ none → spec i v W') → F W' → stp W W' → K (b.put o.dst v) W') → o.wp P b W K Q) : OpOb P l Q a0 spec F stp i o := fun b W K h1 h2 h3 h4 => by
  rw [if_pos (by simp [Region.wanted, hg])]
  exact h b W K h1 h2 h3 h4

/-! ### A head in whatever order, a tail in its own -/
def headL (n s : Nat) : Array Bool := (List.replicate n true ++ List.replicate (s - n) false).toArray

theorem headL_eq {n : Nat} {listed : Array Bool} (hn : n ≤ listed.size) (h1 : ∀ i, i < n → listed.getD i false = true) (h2 : ∀ i, n ≤ i → i < listed.size → listed.getD i true = false) : listed = headL n listed.size := by
  apply Array.ext_getElem?
  intro i
  unfold headL
  simp only [List.getElem?_toArray, List.getElem?_append, List.length_replicate, List.getElem?_replicate]
  by_cases hi : i < n
  · have := h1 i hi
    simp only [Array.getD, show i < listed.size by omega, dif_pos] at this
    rw [if_pos hi, if_pos hi, Array.getElem?_eq_getElem (by omega)]
    exact congrArg some this
  · rw [if_neg hi]
    by_cases hs : i < listed.size
    · have := h2 i (by omega) hs
      simp only [Array.getD, hs, dif_pos] at this
      rw [if_pos (by omega), Array.getElem?_eq_getElem hs]
      exact congrArg some this
    · rw [if_neg (by omega), Array.getElem?_eq_none (by omega)]

theorem count_pos {listed : Array Bool} {i : Nat} (h : listed.getD i true = false) : 0 < (listed.toList.filter (! ·)).length := by
  by_cases hi : i < listed.size
  · simp only [Array.getD, hi, dif_pos] at h
    have hm : false ∈ listed.toList.filter (! ·) := by
      rw [List.mem_filter]
      exact ⟨by rw [← h]; exact Array.getElem_mem_toList hi, rfl⟩
    exact List.length_pos_of_mem hm
  · simp [Array.getD, hi] at h

theorem headL_count (n s : Nat) : ((headL n s).toList.filter (! ·)).length = s - n := by
  unfold headL
  simp [List.filter_append]

section
variable {P : Program} {ops : Array Oper} {Q : Exit → Act → World → Prop}
theorem ready_least {md : Region.Mode} {m : Nat} (h : anyOkB ops m = true) {listed : Array Bool} (hs : listed.size = ops.size) : ∀ i, i < ops.size → listed.getD i true = false → Region.ready md ops listed ≠ [] := by
  intro i
  induction i using Nat.strongRecOn with
  | ind i ih =>
    intro hi hu
    by_cases hall : ∀ j, j < i → listed.getD j true = true
    · have ho : ops[i]? = some ops[i] := Array.getElem?_eq_getElem hi
      have hm : i ∈ Region.ready md ops listed := by
        rw [Region.ready, List.mem_filter]
        refine ⟨by simpa using hi, ?_⟩
        rw [hu, ho]
        simp only [Bool.not_false, Option.map_some, Option.getD_some, Bool.true_and]
        rw [Array.all_eq_true_iff_forall_mem]
        intro e he
        have hlt := anyOk_edge h ho he
        have h3 := hall e.on hlt
        have hlt' : e.on < listed.size := by omega
        have h4 : listed.getD e.on false = true := by
          simp only [Array.getD_eq_getD_getElem?, Array.getElem?_eq_getElem hlt', Option.getD_some] at h3 ⊢
          exact h3
        rw [h4]
        simp
      intro h0
      rw [h0] at hm
      cases hm
    · have ⟨j, hj⟩ := Classical.not_forall.1 hall
      have ⟨hj1, hj2⟩ := Classical.not_imp.1 hj
      exact ih j hj1 (by omega) (by simpa using hj2)

theorem wpAny_head {md : Region.Mode} {n m : Nat} (hok : anyOkB ops m = true) (hs : Region.sinkB md ops n = true) (hc : Region.chainB md ops n = true) (hn : n < ops.size) (hseq : Region.seqB md ops (ops.size - n) n (headL n ops.size) = true)
    (I : Array Bool → Act → World → Prop)
    (hstep : ∀ listed a w i, listed.size = ops.size → I listed a w → i < n → i ∈ Region.ready md ops listed → wpOp P ops Q i (fun a' w' => I (listed.setIfInBounds i true) a' w') a w)
    (hend : ∀ a w, I (headL n ops.size) a w → wpList P ops Q (ops.toList.drop n) a w) :
    ∀ fuel listed a w, HeadInv md ops n listed → (listed.toList.filter (! ·)).length = fuel → I listed a w → wpAny P md ops Q fuel listed a w := by
  intro fuel
  induction fuel with
  | zero =>
    intro listed a w inv hf hI
    have := count_pos (inv.tail n (Nat.le_refl _) hn)
    omega
  | succ fuel ih =>
    intro listed a w inv hf hI
    by_cases hall : ∀ i, i < n → listed.getD i false = true
    · have he := headL_eq (n := n) (by rw [inv.size]; omega) hall (fun i h1 h2 => inv.tail i h1 (by rw [← inv.size]; exact h2))
      rw [inv.size] at he
      have hlen : fuel + 1 = (ops.toList.drop n).length := by
        rw [← hf, he, headL_count]; simp
      rw [hlen]
      subst he
      exact wpAny_of_seq (ops.toList.drop n) n _ a w (fun j => by simp [List.getElem?_drop]) (by simpa using hseq) (hend a w hI)
    · have ⟨i, hi⟩ := Classical.not_forall.1 hall
      have ⟨hin, hif⟩ := Classical.not_imp.1 hi
      have hu : listed.getD i true = false := getD_in (by rw [inv.size]; omega) (by simpa using hif)
      refine ⟨fun h0 => absurd h0 (ready_least hok inv.size i (by omega) hu), fun j hj => ?_⟩
      have hjn : j < n := by
        rcases Nat.lt_or_ge j n with h | h
        · exact h
        · exact absurd hj (tail_waits hs hc hn inv _ i rfl hin hu j h)
      refine wpOp_mono (fun a' w' h' => ih _ a' w' (inv.set hj hjn) ?_ h') (hstep listed a w j inv.size hI hjn hj)
      have hjs : j < listed.toList.length := by rw [Array.length_toList, inv.size]; omega
      have hju := (mem_ready.1 hj).1
      have hjf : listed.toList[j] = false := by
        simp only [Array.getD, show j < listed.size by rw [inv.size]; omega, dif_pos] at hju
        simpa using hju
      have := count_set listed.toList j hjs hjf
      rw [Array.toList_setIfInBounds]
      omega

/-- one obligation an operation of the head; the tail in its own order -/
theorem wp_region_tail {l : List Oper} {id : Nat} {a0 : Act} {w : World} (n : Nat) (hm : P.follows .mixedOrders = true) (hok : anyOkB l.toArray a0.tmps.size = true)
    (hB : (Region.sinkB .any l.toArray n && Region.chainB .any l.toArray n && decide (n < l.length) && Region.seqB .any l.toArray (l.length - n) n (headL n l.length)) = true)
    (spec : Nat → Value → World → Prop) (F : World → Prop) (stp : World → World → Prop) (hst : ∀ j v W W', stp W W' → spec j v W → spec j v W') (hF0 : F w.drew)
    (hop : OpsOb P l Q a0 spec F stp 0 (l.take n))
    (hend : ∀ (vs : Nat → Value) (W : World), (∀ i d, dstOf (l.take n).toArray i = some d → spec i (vs i) W) → F W → wpList P l.toArray Q (l.drop n) { tmps := putAll vs (l.take n) 0 a0.tmps, defers := a0.defers } W) :
    (Code.region id l.toArray true).wp P Q a0 w := by
  simp only [Bool.and_eq_true, decide_eq_true_eq] at hB
  obtain ⟨⟨⟨hs, hc⟩, hn⟩, hseq⟩ := hB
  have hsz : l.toArray.size = l.length := by simp
  have hd1 : ∀ i d, dstOf (l.take n).toArray i = some d → dstOf l.toArray i = some d ∧ i < n := fun i d h => by
    unfold dstOf at h ⊢
    simp only [List.getElem?_toArray, List.getElem?_take] at h ⊢
    split at h
    · rename_i hi; exact ⟨h, hi⟩
    · cases h
  have hd2 : ∀ i d, i < n → dstOf l.toArray i = some d → dstOf (l.take n).toArray i = some d := fun i d hi h => by
    unfold dstOf at h ⊢
    simp only [List.getElem?_toArray, List.getElem?_take, if_pos hi] at h ⊢
    exact h
  refine wp_region_any hm (wpAny_head (n := n) hok hs hc (by rw [hsz]; exact hn) (by rw [hsz]; exact hseq) (AnyInv (l.take n).toArray spec F a0) ?_ ?_ _ _ _ _ ?_ (by simp) ?_)
  · intro listed b W i hss hI hin hi
    obtain ⟨h1, h2, h3, h4, h5⟩ := hI
    obtain ⟨hu, o, ho, hpre⟩ := mem_ready.1 hi
    have hol : l[i]? = some o := by simpa using ho
    have hob := hop.get (j := i) (o := o) (by rw [List.getElem?_take, if_pos hin]; exact hol)
    rw [Nat.zero_add] at hob
    have hilt : i < l.length := (List.getElem?_eq_some_iff.1 hol).1
    have hob' := hob b W (AnyInv (l.take n).toArray spec F a0 (listed.setIfInBounds i true)) (fun t ht => h3 t fun j hj => notDst_spec ht j (hd1 j t hj).1) (fun e he hbd d hd => by
      have hlt := anyOk_edge hok ho he
      refine h4 e.on d ?_ (hd2 e.on d (by omega) hd)
      have h6 := hpre e he hbd
      have : e.on < listed.size := by omega
      simp only [Array.getD, this, dif_pos] at h6 ⊢
      exact h6) h5 (fun v W' hv hF' hs' => by
        refine ⟨(put_defers ..).trans h1, (put_size ..).trans h2, fun t ht => ?_, fun j d hj hd => ?_, hF'⟩
        · rw [put_other _ _ _ _ (fun e => ht i (hd2 i t hin (by unfold dstOf; rw [ho]; exact e)))]
          exact h3 t ht
        · obtain ⟨hdj, hjn⟩ := hd1 j d hd
          by_cases e : i = j
          · subst e
            have hd' : o.dst = some d := by unfold dstOf at hdj; rw [ho] at hdj; exact hdj
            rw [hd', put_same _ _ _ (by rw [h2]; exact (anyOk_dst hok hdj hdj).2)]
            exact hv (by rw [hd']; simp)
          · rw [put_other _ _ _ _ (fun e' => e (anyOk_dst hok (i := i) (j := j) (d := d) (by unfold dstOf; rw [ho]; exact e') hdj).1)]
            refine hst _ _ _ _ hs' (h4 j d ?_ hd)
            simp only [Array.getD_eq_getD_getElem?, Array.getElem?_setIfInBounds_ne e] at hj ⊢
            exact hj)
    unfold wpOp
    rw [ho]
    dsimp only
    split
    · rename_i hw; rw [if_pos hw] at hob'; exact .inl hob'
    · rename_i hw; rw [if_neg hw] at hob'; exact hob'
  · intro b W hI
    obtain ⟨h1, h2, h3, h4, h5⟩ := hI
    have hall : ∀ i, i < n → (headL n l.toArray.size).getD i false = true := fun i hi => by
      unfold headL
      simp [Array.getD_eq_getD_getElem?, List.getElem?_append, hi]
    have he := hend (fun i => match dstOf (l.take n).toArray i with | some d => b.tmps.getD d undef | none => undef) W (fun i d hd => by rw [hd]; exact h4 i d (hall i (hd1 i d hd).2) hd) h5
    have hb : b = { tmps := putAll (fun i => match dstOf (l.take n).toArray i with | some d => b.tmps.getD d undef | none => undef) (l.take n) 0 a0.tmps, defers := a0.defers } := by
      cases b with
      | mk bt bd =>
        dsimp only at h1 h2 h3 h4 ⊢
        subst h1
        congr 1
        apply Array.ext_getElem?
        intro x
        by_cases hx : x < bt.size
        · by_cases hd : ∃ j, dstOf (l.take n).toArray j = some x
          · obtain ⟨j, hj⟩ := hd
            have hj' := hj
            unfold dstOf at hj'
            cases ho : (l.take n).toArray[j]? with
            | none => rw [ho] at hj'; cases hj'
            | some o =>
              rw [ho] at hj'
              rw [putAll_at _ x (l.take n) 0 j _ o (by simpa using ho) hj' (by omega) (fun j' o' hj2 he2 => (anyOk_dst hok (i := j') (j := j) (d := x) (hd1 j' x (by unfold dstOf; rw [show (l.take n).toArray[j']? = some o' by simpa using hj2]; exact he2)).1 (hd1 j x hj).1).1)]
              rw [Nat.zero_add, hj]
              simp [hx]
          · rw [putAll_other _ x (l.take n) 0 _ (fun o ho hd' => by
              obtain ⟨j, hj, rfl⟩ := List.mem_iff_getElem.1 ho
              exact hd ⟨j, by unfold dstOf; rw [show (l.take n).toArray[j]? = some (l.take n)[j] by simp [List.getElem?_eq_getElem hj]]; exact hd'⟩)]
            have := h3 x (fun j hj => hd ⟨j, hj⟩)
            simp only [Array.getD_eq_getD_getElem?] at this
            rw [Array.getElem?_eq_getElem hx, Array.getElem?_eq_getElem (by omega)] at this ⊢
            simpa using this
        · rw [Array.getElem?_eq_none (by omega), Array.getElem?_eq_none (by rw [putAll_size]; omega)]
    rw [hb]
    simpa using he
  · exact ⟨(by simp), (fun j oj _ hl => by rw [getD_replicate_false] at hl; cases hl), fun t _ ht => getD_in (by simpa using ht) (getD_replicate_false _ _)⟩
  · exact ⟨rfl, rfl, (fun _ _ => rfl), (fun j d hj _ => by rw [getD_replicate_false] at hj; cases hj), hF0⟩
end

/-! ### A property of the whole frame, as far as the operations have come up -/
def upd (c : Nat → Bool) (i : Nat) : Nat → Bool := fun j => if j = i then true else c j
theorem frame_all {ops : Array Oper} {a0 b : Act} (hok : anyOkB ops a0.tmps.size = true) (h1 : b.defers = a0.defers) (h2 : b.tmps.size = a0.tmps.size) (h3 : ∀ t, (∀ j, dstOf ops j ≠ some t) → b.tmps.getD t undef = a0.tmps.getD t undef) :
    b = { tmps := putAll (fun i => match dstOf ops i with | some d => b.tmps.getD d undef | none => undef) ops.toList 0 a0.tmps, defers := a0.defers } := by
  cases b with
  | mk bt bd =>
    dsimp only at h1 h2 h3 ⊢
    subst h1
    congr 1
    apply Array.ext_getElem?
    intro x
    by_cases hx : x < bt.size
    · by_cases hd : ∃ j, dstOf ops j = some x
      · obtain ⟨j, hj⟩ := hd
        have hj' := hj
        unfold dstOf at hj'
        cases ho : ops[j]? with
        | none => rw [ho] at hj'; cases hj'
        | some o =>
          rw [ho] at hj'
          rw [putAll_at _ x ops.toList 0 j _ o (by simpa using ho) hj' (by omega) (fun j' o' hj2 he2 => (anyOk_dst hok (i := j') (j := j) (d := x) (by unfold dstOf; rw [show ops[j']? = some o' by simpa using hj2]; exact he2) hj).1)]
          rw [Nat.zero_add, hj]
          simp [hx]
      · rw [putAll_other _ x ops.toList 0 _ (fun o ho hd' => by
          obtain ⟨j, hj, rfl⟩ := List.mem_iff_getElem.1 ho
          exact hd ⟨j, by unfold dstOf; rw [show ops[j]? = some ops.toList[j] by simp [Array.getElem?_eq_getElem (show j < ops.size by simpa using hj)]]; exact hd'⟩)]
        have := h3 x (fun j hj => hd ⟨j, hj⟩)
        simp only [Array.getD_eq_getD_getElem?] at this
        rw [Array.getElem?_eq_getElem hx, Array.getElem?_eq_getElem (by omega)] at this ⊢
        simpa using this
    · rw [Array.getElem?_eq_none (by omega), Array.getElem?_eq_none (by rw [putAll_size]; omega)]

/-- one operation's obligation: the property goes on -/
def JOb (P : Program) (l : List Oper) (Q : Exit → Act → World → Prop) (a0 : Act) (J : (Nat → Bool) → Act → World → Prop) (i : Nat) (o : Oper) : Prop :=
  ∀ (c : Nat → Bool) (b : Act) (W : World) (K : Act → World → Prop), (∀ t, notDst l t = true → b.eval (.tmp t) = a0.eval (.tmp t)) → b.tmps.size = a0.tmps.size → J c b W → c i = false → (∀ e ∈ o.after, Region.binds .any e = true → c e.on = true) →
    (∀ v W', J (upd c i) (b.put o.dst v) W' → K (b.put o.dst v) W') → if Region.wanted o (yielded l.toArray b.tmps) = true then o.wp P b W K Q else K (b.put o.dst undef) W
def JObs (P : Program) (l : List Oper) (Q : Exit → Act → World → Prop) (a0 : Act) (J : (Nat → Bool) → Act → World → Prop) : Nat → List Oper → Prop
  | _, [] => True
  | i, o :: r => JOb P l Q a0 J i o ∧ JObs P l Q a0 J (i + 1) r
theorem JObs.get {P : Program} {l : List Oper} {Q : Exit → Act → World → Prop} {a0 : Act} {J : (Nat → Bool) → Act → World → Prop} :
    ∀ {r : List Oper} {k j : Nat} {o : Oper}, JObs P l Q a0 J k r → r[j]? = some o → JOb P l Q a0 J (k + j) o
  | [], _, _, _, _, h => by simp at h
  | _ :: _, _, 0, _, h, ho => by
    obtain rfl := by simpa using ho
    exact h.1
  | _ :: r, k, j + 1, _, h, ho => by
    have := JObs.get (r := r) (k := k + 1) (j := j) h.2 (by simpa using ho)
    rwa [show k + 1 + j = k + (j + 1) by omega] at this

theorem wp_region_joint {P : Program} {l : List Oper} {Q : Exit → Act → World → Prop} {id : Nat} {a0 : Act} {w : World} (hm : P.follows .mixedOrders = true) (hok : anyOkB l.toArray a0.tmps.size = true)
    (J : (Nat → Bool) → Act → World → Prop) (hJ0 : J (fun _ => false) a0 w.drew) (hop : JObs P l Q a0 J 0 l) (hJc : ∀ c c' b W, (∀ i, i < l.length → c i = c' i) → J c b W → J c' b W)
    (hend : ∀ (vs : Nat → Value) (W : World), J (fun _ => true) { tmps := putAll vs l 0 a0.tmps, defers := a0.defers } W → Q .normal { tmps := putAll vs l 0 a0.tmps, defers := a0.defers } W) :
    (Code.region id l.toArray true).wp P Q a0 w := by
  refine wp_region_any hm (wpAny_inv (fun listed b W => (b.defers = a0.defers ∧ b.tmps.size = a0.tmps.size ∧ ∀ t, (∀ j, dstOf l.toArray j ≠ some t) → b.tmps.getD t undef = a0.tmps.getD t undef) ∧ J (fun i => listed.getD i false) b W) ?_ ?_ l.toArray.size _ _ _ (by simp) ?_ ?_)
  · rintro listed b W i hs ⟨⟨h1, h2, h3⟩, hJ⟩ hi
    obtain ⟨hu, o, ho, hpre⟩ := mem_ready.1 hi
    have hol : l[i]? = some o := by simpa using ho
    have hob := hop.get (j := i) (o := o) hol
    rw [Nat.zero_add] at hob
    have hob' := hob _ b W (fun a' w' => (a'.defers = a0.defers ∧ a'.tmps.size = a0.tmps.size ∧ ∀ t, (∀ j, dstOf l.toArray j ≠ some t) → a'.tmps.getD t undef = a0.tmps.getD t undef) ∧ J (fun j => (listed.setIfInBounds i true).getD j false) a' w')
      (fun t ht => h3 t (notDst_spec ht)) h2 hJ (getD_both hu) hpre (fun v W' hJ' => by
        refine ⟨⟨(put_defers ..).trans h1, (put_size ..).trans h2, fun t ht => ?_⟩, hJc _ _ _ _ (fun j hj => ?_) hJ'⟩
        · rw [put_other _ _ _ _ (fun e => ht i (by unfold dstOf; rw [ho]; exact e))]
          exact h3 t ht
        · by_cases e : j = i
          · subst e
            have : j < listed.size := by rw [hs]; simpa using hj
            simp [upd, Array.getD_eq_getD_getElem?, this]
          · simp only [upd, if_neg e]
            rw [getD_set_ne false (fun h => e h.symm)])
    unfold wpOp
    rw [ho]
    dsimp only
    split
    · rename_i hw; rw [if_pos hw] at hob'; exact .inl hob'
    · rename_i hw; rw [if_neg hw] at hob'; exact hob'
  · rintro listed b W hs ⟨⟨h1, h2, h3⟩, hJ⟩ hr
    have hall := all_listed hok hs hr
    have hb := frame_all hok h1 h2 h3
    have hJ' := hJc _ (fun _ => true) _ _ (fun i hi => hall i (by simpa using hi)) hJ
    rw [hb] at hJ' ⊢
    exact hend _ W (by simpa using hJ')
  · rw [Array.toList_replicate]; exact Nat.le_trans (List.length_filter_le _ _) (by simp)
  · refine ⟨⟨rfl, rfl, fun _ _ => rfl⟩, hJc _ _ _ _ (fun i hi => ?_) hJ0⟩
    rw [getD_replicate_false]
theorem cell_stays {W W' : World} {a : Addr} {v : Value} (hb : Below W.heap.size W W') (h : W.cell? a = some v) : W'.cell? a = some v :=
  (hb.cell (block_lt_of_cell h)).trans h
end Go.Proofs.Ytmkigejhgpoleaa
