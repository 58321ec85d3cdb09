/-
  Plain law: what becomes known later, and limits of other people, do not change what stands.
-/
import Derived.Test.YtmkigejhgpoleaaLe
namespace Go.Proofs.Ytmkigejhgpoleaa
set_option linter.unusedSimpArgs false
set_option linter.unusedVariables false
theorem okL_split {l : List Lim} : okL l ↔ ∀ a z b, l = a ++ z :: b → elemOk z ∧ (∀ y ∈ a, y.no < z.no) ∧ refOk a z := by
  constructor
  · rintro h a z b rfl
    have := h a.length z (by simp)
    unfold okAt at this
    rwa [List.take_left] at this
  · intro h i z hz
    obtain ⟨hi, hz⟩ := List.getElem?_eq_some_iff.1 hz
    subst hz
    exact h (l.take i) l[i] (l.drop (i + 1)) (by rw [← List.drop_eq_getElem_cons hi, List.take_append_drop])
/-- what is a person's own and known -/
def ownT (p t : Int) (x : Lim) : Bool := decide (x.person = p) && decide (x.known ≤ t)
def ownL (l : List Lim) (p t : Int) : List Lim := l.filter (ownT p t)
theorem ownB_iff {p t : Int} {x : Lim} : ownT p t x = true ↔ x.person = p ∧ x.known ≤ t := by simp [ownT]
theorem mem_own {l : List Lim} {p t : Int} {x : Lim} : x ∈ ownL l p t ↔ x ∈ l ∧ x.person = p ∧ x.known ≤ t := by simp [ownL, ownT]
theorem okL_own {l : List Lim} (h : okL l) (p t : Int) : okL (ownL l p t) := by
  rw [okL_split] at h ⊢
  intro a' z b' he
  obtain ⟨a, c, hl, ha, hc⟩ := List.filter_eq_append_iff.1 he
  obtain ⟨u, b, hu, hn, hz, hb⟩ := List.filter_eq_cons_iff.1 hc
  have hz := ownB_iff.1 hz
  obtain ⟨h1, h2, h3⟩ := h (a ++ u) z b (by rw [hl, hu, List.append_assoc])
  have ha2 : a' = (a ++ u).filter (ownT p t) := by
    rw [List.filter_append, ha, List.filter_eq_nil_iff.2 hn, List.append_nil]
  subst ha2
  refine ⟨h1, fun y hy => h2 y ((List.mem_filter.1 hy).1), ?_⟩
  rcases h3 with h3 | ⟨h3, y, hy, h4, h5, h6⟩
  · exact .inl h3
  · exact .inr ⟨fun y hy => h3 y ((List.mem_filter.1 hy).1), y, List.mem_filter.2 ⟨hy, ownB_iff.2 ⟨by omega, by omega⟩⟩, h4, h5, h6⟩
/-- what replaces a limit is of the same person -/
theorem repl_person {l : List Lim} (h : okL l) {x y : Lim} (hx : x ∈ l) (hy : y ∈ l) (he : y.of_ = x.no + 1) : y.person = x.person ∧ x.known ≤ y.known := by
  obtain ⟨j, hj⟩ := List.mem_iff_getElem?.1 hy
  obtain ⟨i, hi⟩ := List.mem_iff_getElem?.1 hx
  have h0 := (elemOk_iff.1 (h i x hi).1).1
  rcases (h j y hj).2.2 with h3 | ⟨-, y', hy', h4, h5, h6⟩
  · omega
  · have hy2 : y' ∈ l.take l.length := by rw [List.take_length]; exact List.mem_of_mem_take hy'
    have := uniqL (okL_to h l.length) (y := x) (y' := y') (by rw [List.take_length]; exact hx) hy2 (by omega)
    subst this
    exact ⟨h5.symm, h6⟩
theorem standL_own {l : List Lim} (h : okL l) (p d t : Int) : standL (ownL l p t) p d t = standL l p d t := by
  unfold standL
  rw [ownL, List.filter_filter]
  apply List.filter_congr
  intro x hx
  rw [Bool.eq_iff_iff, Bool.and_eq_true, decide_eq_true_eq, decide_eq_true_eq, ownB_iff]
  have key : x.person = p → ((∃ y ∈ l.filter (ownT p t), y.of_ = x.no + 1 ∧ y.known ≤ t) ↔ ∃ y ∈ l, y.of_ = x.no + 1 ∧ y.known ≤ t) := by
    intro hp
    constructor
    · rintro ⟨y, hy, h1, h2⟩
      exact ⟨y, (List.mem_filter.1 hy).1, h1, h2⟩
    · rintro ⟨y, hy, h1, h2⟩
      exact ⟨y, List.mem_filter.2 ⟨hy, ownB_iff.2 ⟨by rw [(repl_person h hx hy h1).1, hp], h2⟩⟩, h1, h2⟩
  constructor
  · rintro ⟨h1, h2⟩
    rw [standE_iff] at h1 ⊢
    exact ⟨h1.1, h1.2.1, h1.2.2.1, h1.2.2.2.1, h1.2.2.2.2.1, fun hk => h1.2.2.2.2.2 ((key h1.1).2 hk)⟩
  · intro h1
    rw [standE_iff] at h1
    refine ⟨?_, h1.1, h1.2.1⟩
    rw [standE_iff]
    exact ⟨h1.1, h1.2.1, h1.2.2.1, h1.2.2.2.1, h1.2.2.2.2.1, fun hk => h1.2.2.2.2.2 ((key h1.1).1 hk)⟩
theorem ownL_le (l : List Lim) (p t : Int) : (ownL l p t).length ≤ l.length := List.length_filter_le _ _
theorem chkL_own {l : List Lim} (h : chkL l = 0) (p t : Int) : chkL (ownL l p t) = 0 := by
  obtain ⟨h1, h2⟩ := chkL_zero h
  have := ownL_le l p t
  rw [chkL, if_neg (by omega), if_pos (okL_own h2 p t)]
theorem standR_own {l : List Lim} (h : chkL l = 0) (p d t : Int) : standR (ownL l p t) p d t = standR l p d t := by
  simp only [standR, chkL_own h, h, standL_own (chkL_zero h).2]
theorem fitLm_own {l : List Lim} (h : fitLm l) (p t : Int) : fitLm (ownL l p t) := fun z hz => h z (mem_own.1 hz).1
end Go.Proofs.Ytmkigejhgpoleaa
