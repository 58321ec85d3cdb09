/-
  Plain facts: a limit that is replaced.
-/
import Derived.Test.YtmkigejhgpoleaaLx
namespace Go.Proofs.Ytmkigejhgpoleaa
set_option linter.unusedSimpArgs false
set_option linter.unusedVariables false
open Go Go.RowKit
theorem okL_mem {l : List Lim} (h : okL l) {z : Lim} (hz : z ∈ l) : elemOk z := by
  obtain ⟨i, hi⟩ := List.mem_iff_getElem?.1 hz
  exact (h i z hi).1
theorem okL_ref {l : List Lim} (h : okL l) {z : Lim} (hz : z ∈ l) (h0 : z.of_ ≠ 0) : ∃ y ∈ l, y.no + 1 = z.of_ ∧ y.person = z.person ∧ y.known ≤ z.known ∧ y.no < z.no := by
  obtain ⟨i, hi⟩ := List.mem_iff_getElem?.1 hz
  obtain ⟨h1, h2, h3⟩ := h i z hi
  rcases h3 with h3 | ⟨_, y, hy, h4, h5, h6⟩
  · exact absurd h3 h0
  · exact ⟨y, List.mem_of_mem_take hy, h4, h5, h6, h2 y hy⟩
theorem okL_rise {l : List Lim} (h : okL l) : l.Pairwise (fun a b => a.no < b.no) := by
  rw [List.pairwise_iff_getElem]
  intro i j hi hj hij
  exact (h j l[j] (List.getElem?_eq_getElem hj)).2.1 _ (mem_takeI (List.getElem?_eq_getElem hi) hij)
theorem mem_stand {ls : List Lim} {p d t : Int} {z : Lim} : z ∈ standL ls p d t ↔ z ∈ ls ∧ standE ls p d t z := by
  unfold standL
  rw [List.mem_filter, decide_eq_true_eq]
theorem standR_ok {ls : List Lim} {p d t : Int} (h : (standR ls p d t).2 = 0) : chkL ls = 0 ∧ inR p d t ∧ (standR ls p d t).1 = standL ls p d t := by
  unfold standR at h ⊢
  split at h
  · rename_i h1; exact absurd h h1
  · rename_i h1
    split at h
    · cases h
    · rename_i h2
      rw [if_neg h1, if_neg h2]
      exact ⟨by simpa using h1, by simpa using h2, rfl⟩
theorem standR_mk {ls : List Lim} {p d t : Int} (h : chkL ls = 0) (h2 : inR p d t) : standR ls p d t = (standL ls p d t, 0) := by
  rw [standR, if_neg (by omega), if_neg (by simpa using h2)]
theorem standR_out {ls : List Lim} {p d t : Int} (h : chkL ls = 0) (h2 : ¬ inR p d t) : standR ls p d t = ([], 1) := by
  rw [standR, if_neg (by omega), if_pos h2]
theorem standR_no {ls : List Lim} {p d t : Int} (h : (standR ls p d t).2 ≠ 0) : (standR ls p d t).1 = [] := by
  unfold standR at h ⊢
  split at h
  · rename_i h1; rw [if_pos h1]
  · rename_i h1
    split at h
    · rename_i h2; rw [if_neg h1, if_pos h2]
    · exact absurd rfl h
/-- whom nothing can replace: what was not there before -/
theorem not_repl {ls : List Lim} {x : Lim} (hk : okL ls) (hm : ¬ ∃ y ∈ ls, y.no = x.no) (h0 : 0 ≤ x.no) {y : Lim} (hy : y ∈ ls) : y.of_ ≠ x.no + 1 := by
  intro he
  obtain ⟨q, hq, h1, _⟩ := okL_ref hk hy (by omega)
  exact hm ⟨q, hq, by omega⟩
theorem mem_add {ls : List Lim} {x z : Lim} (hx : (addR ls x).2 = 0) : z ∈ (addR ls x).1 ↔ z = x ∨ z ∈ ls := by
  rw [(addR_ok hx).2.2.2, addL_eq, mem_insR]
theorem add_elem {ls : List Lim} {x : Lim} (hx : (addR ls x).2 = 0) : elemOk x := by
  obtain ⟨_, _, h, he⟩ := addR_ok hx
  exact okL_mem (chkL_zero h).2 (by rw [← he]; exact (mem_add hx).2 (.inl rfl))
section
variable {ls : List Lim} {x : Lim} {p d t : Int}
theorem further_stand (hx : (addR ls x).2 = 0) : (standR (addR ls x).1 p d t).2 = (standR ls p d t).2 := by
  obtain ⟨h1, _, h2, he⟩ := addR_ok hx
  rw [he]
  by_cases hr : inR p d t
  · rw [standR_mk h1 hr, standR_mk h2 hr]
  · rw [standR_out h1 hr, standR_out h2 hr]
end
/-- what a law on a replaced limit expects -/
def wantR (x : Lim) (o : Int) : Bool → List Lim → List Lim
  | put, [] => if put then [] else [x]
  | put, z :: l => (if (!put && decide (x.no < z.no)) then [x] else []) ++ ((if z.no ≠ o then [z] else []) ++ wantR x o (put || decide (x.no < z.no)) l)
theorem want_hi {x : Lim} {o : Int} : ∀ {l : List Lim} (put : Bool), (∀ z ∈ l, x.no < z.no) → wantR x o put l = (if put then [] else [x]) ++ l.filter (fun z => decide (z.no ≠ o))
  | [], put, _ => by simp [wantR]
  | z :: l, put, h => by
    have h1 : x.no < z.no := h z (by simp)
    have ih := want_hi (x := x) (o := o) (l := l) true fun q hq => h q (by simp [hq])
    unfold wantR
    rw [decide_eq_true h1, Bool.or_true, ih, List.filter_cons]
    cases put <;> by_cases h2 : z.no = o <;> simp [h2]
theorem filter_ins_no {x : Lim} {P : Lim → Bool} (hP : P x = false) : ∀ l : List Lim, (insR x l).filter P = l.filter P
  | [] => by simp [insR, hP]
  | z :: l => by
    unfold insR
    split
    · rw [List.filter_cons, List.filter_cons, filter_ins_no hP l]
    · rw [List.filter_cons, hP]; simp
theorem filter_want {x : Lim} {o : Int} {P Q : Lim → Bool} (put : Bool) (hx : P x = !put) : ∀ {l : List Lim}, l.Pairwise (fun a b => a.no < b.no) → (∀ z ∈ l, z.no ≠ x.no) → (∀ z ∈ l, P z = (Q z && decide (z.no ≠ o))) → (insR x l).filter P = wantR x o put (l.filter Q)
  | [], _, _, _ => by cases put <;> simp [insR, wantR, hx]
  | z :: l, hl, hne, hPQ => by
    obtain ⟨hl1, hl2⟩ := List.pairwise_cons.1 hl
    have ih := filter_want put hx hl2 (fun q hq => hne q (by simp [hq])) (fun q hq => hPQ q (by simp [hq]))
    have hz := hPQ z (by simp)
    have hzn := hne z (by simp)
    unfold insR
    split
    · rename_i h
      rw [List.filter_cons, List.filter_cons, ih, hz]
      cases hq : Q z
      · simp
      · have h3 : decide (x.no < z.no) = false := by simp; omega
        simp only [if_true, wantR, h3, Bool.and_false, Bool.or_false, Bool.true_and]
        by_cases h2 : z.no = o <;> simp [h2]
    · rename_i h
      rw [want_hi put]
      · rw [List.filter_cons, hx, List.filter_filter]
        have : List.filter P (z :: l) = List.filter (fun a => decide (a.no ≠ o) && Q a) (z :: l) := List.filter_congr fun a ha => by rw [hPQ a ha, Bool.and_comm]
        rw [this]
        cases put <;> simp
      · intro q hq
        have hq := (List.mem_filter.1 hq).1
        rcases List.mem_cons.1 hq with rfl | hq
        · omega
        · have := hl1 q hq; omega
/-- a limit that replaces another one -/
def replOf (x old : Lim) : Lim := ⟨x.no, old.person, old.no + 1, x.from_, x.to_, x.known, x.kind, x.limb, x.n⟩
section
variable {ls : List Lim} {x old : Lim} {d t : Int}
theorem repl_cond (hx : (addR ls (replOf x old)).2 = 0) (ho : old ∈ ls) {z : Lim} (hz : z ∈ ls) : standE (addR ls (replOf x old)).1 old.person d t z ↔ standE ls old.person d t z ∧ ¬ (z.no = old.no ∧ x.known ≤ t) := by
  rw [standE_iff, standE_iff]
  constructor
  · rintro ⟨h1, h2, h3, h4, h5, h6⟩
    refine ⟨⟨h1, h2, h3, h4, h5, fun ⟨y, hy, hq⟩ => h6 ⟨y, (mem_add hx).2 (.inr hy), hq⟩⟩, fun ⟨hq, hr⟩ => h6 ⟨_, (mem_add hx).2 (.inl rfl), ?_, hr⟩⟩
    show old.no + 1 = z.no + 1
    omega
  · rintro ⟨⟨h1, h2, h3, h4, h5, h6⟩, h7⟩
    refine ⟨h1, h2, h3, h4, h5, ?_⟩
    rintro ⟨y, hy, hq, hr⟩
    rcases (mem_add hx).1 hy with rfl | hy
    · have hq : old.no + 1 = z.no + 1 := hq
      exact h7 ⟨by omega, hr⟩
    · exact h6 ⟨y, hy, hq, hr⟩
end
section
variable {ls : List Lim} {x old : Lim} {d t : Int}
theorem repl_new (hx : (addR ls (replOf x old)).2 = 0) (ho : old ∈ ls) : standE (addR ls (replOf x old)).1 old.person d t (replOf x old) ↔ x.known ≤ t ∧ x.from_ ≤ d ∧ d ≤ x.to_ ∧ (x.kind, x.limb, x.n) ≠ (0, 0, 0) := by
  obtain ⟨hk0, hnm, _, _⟩ := addR_ok hx
  have hk := (chkL_zero hk0).2
  have hxe := elemOk_iff.1 (add_elem hx)
  rw [standE_iff]
  constructor
  · rintro ⟨_, h2, h3, h4, h5, _⟩
    exact ⟨h2, h3, h4, h5⟩
  · rintro ⟨h2, h3, h4, h5⟩
    refine ⟨rfl, h2, h3, h4, h5, ?_⟩
    rintro ⟨y, hy, hq, hr⟩
    rcases (mem_add hx).1 hy with rfl | hy
    · have hq : old.no + 1 = x.no + 1 := hq
      exact hnm ⟨old, ho, by show old.no = x.no; omega⟩
    · exact not_repl hk hnm (by have := hxe.1; exact this.1) hy hq
end
section
variable {ls : List Lim} {x old : Lim} {d t : Int}
theorem repl_early (hx : (addR ls (replOf x old)).2 = 0) (ho : old ∈ ls) (hr : (standR ls old.person d t).2 ≠ 0 ∨ t < x.known) : (standR ls old.person d t).1 = (standR (addR ls (replOf x old)).1 old.person d t).1 := by
  have hs := further_stand (p := old.person) (d := d) (t := t) hx
  by_cases h0 : (standR ls old.person d t).2 = 0
  · have ht : t < x.known := by rcases hr with hr | hr; exact absurd h0 hr; exact hr
    rw [(standR_ok h0).2.2, (standR_ok (hs.trans h0)).2.2]
    unfold standL
    have he : (addR ls (replOf x old)).1 = insR (replOf x old) ls := by rw [(addR_ok hx).2.2.2, addL_eq]
    generalize hP : (fun z => decide (standE (addR ls (replOf x old)).1 old.person d t z)) = P
    rw [he, filter_ins_no]
    · refine List.filter_congr fun z hz => ?_
      rw [← hP, Bool.eq_iff_iff, decide_eq_true_eq, decide_eq_true_eq, repl_cond hx ho hz]
      exact ⟨fun h => ⟨h, fun hq => by omega⟩, fun h => h.1⟩
    · rw [← hP]
      show decide _ = false
      rw [decide_eq_false_iff_not, repl_new hx ho]
      omega
  · rw [standR_no h0, standR_no (by rw [hs]; exact h0)]
end
section
variable {ls : List Lim} {x old : Lim} {d t : Int}
theorem repl_want (hx : (addR ls (replOf x old)).2 = 0) (ho : old ∈ ls) (h0 : (standR ls old.person d t).2 = 0) (ht : x.known ≤ t) (put : Bool) (hp : put = true ↔ (x.kind, x.limb, x.n) = (0, 0, 0) ∨ d < x.from_ ∨ x.to_ < d) : (standR (addR ls (replOf x old)).1 old.person d t).1 = wantR (replOf x old) old.no put (standR ls old.person d t).1 := by
  have hs := further_stand (p := old.person) (d := d) (t := t) hx
  obtain ⟨hk0, hnm, _, _⟩ := addR_ok hx
  rw [(standR_ok h0).2.2, (standR_ok (hs.trans h0)).2.2]
  unfold standL
  have he : (addR ls (replOf x old)).1 = insR (replOf x old) ls := by rw [(addR_ok hx).2.2.2, addL_eq]
  generalize hP : (fun z => decide (standE (addR ls (replOf x old)).1 old.person d t z)) = P
  rw [he]
  refine filter_want put ?_ (okL_rise (chkL_zero hk0).2) (fun z hz hq => hnm ⟨z, hz, hq⟩) fun z hz => ?_
  · rw [← hP, Bool.eq_iff_iff]
    show decide _ = true ↔ _
    rw [decide_eq_true_eq, repl_new hx ho]
    cases put
    · simp only [Bool.not_false, iff_true]
      have : ¬ ((x.kind, x.limb, x.n) = (0, 0, 0) ∨ d < x.from_ ∨ x.to_ < d) := fun h => by simpa using hp.2 h
      exact ⟨ht, by omega, by omega, fun h => this (.inl h)⟩
    · simp only [Bool.not_true, Bool.false_eq_true, iff_false]
      rintro ⟨h1, h2, h3, h4⟩
      rcases hp.1 rfl with h | h
      · exact h4 h
      · omega
  · rw [← hP, Bool.eq_iff_iff, Bool.and_eq_true]
    show decide _ = true ↔ _
    rw [decide_eq_true_eq, decide_eq_true_eq, decide_eq_true_eq, repl_cond hx ho hz]
    exact ⟨fun h => ⟨h.1, fun hq => h.2 ⟨hq, ht⟩⟩, fun h => ⟨h.1, fun hq => h.2 hq.1⟩⟩
end
end Go.Proofs.Ytmkigejhgpoleaa
