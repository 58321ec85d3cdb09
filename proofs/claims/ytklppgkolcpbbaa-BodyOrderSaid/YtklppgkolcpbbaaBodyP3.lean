/-
  Plain facts: neither the order nor the repetition of caps matters; more caps lower more; a weaker body stays weaker.
-/
import Derived.Test.YtklppgkolcpbbaaBodyP2
namespace Go.Proofs.Ytklppgkolcpbbaa
set_option linter.unusedSimpArgs false
set_option linter.unusedVariables false
theorem keeps_sub {o : Bod.Bd} {l l' : List Bod.Cp} (h : keepsV o l' = true) (hs : ∀ c, c ∈ l → c ∈ l') : keepsV o l = true := by
  unfold keepsV at *
  exact List.all_eq_true.2 fun c hc => List.all_eq_true.1 h c (hs c hc)
theorem ok_sub {l l' : List Bod.Cp} (h : l'.all Bod.Cp.ok = true) (hs : ∀ c, c ∈ l → c ∈ l') : l.all Bod.Cp.ok = true :=
  List.all_eq_true.2 fun c hc => List.all_eq_true.1 h c (hs c hc)
theorem meets_sub {b : Bod.Bd} {l l' : List Bod.Cp} (h' : l'.all Bod.Cp.ok = true) (hs : ∀ c, c ∈ l → c ∈ l') : bodyLe (b.meets l') (b.meets l) :=
  meets_great l (b.meets l') b (ok_sub h' hs) (meets_le l' b h') (keeps_sub (meets_keeps l' b h') hs)
theorem meets_same {b : Bod.Bd} {l l' : List Bod.Cp} (h : l.all Bod.Cp.ok = true) (hs : ∀ c, c ∈ l ↔ c ∈ l') : b.meets l = b.meets l' :=
  bodyLe_anti (meets_sub h fun c hc => (hs c).2 hc) (meets_sub (ok_sub h fun c hc => (hs c).2 hc) fun c hc => (hs c).1 hc)
theorem meets_mono {a b : Bod.Bd} {l : List Bod.Cp} (h : l.all Bod.Cp.ok = true) (hab : bodyLe a b) : bodyLe (a.meets l) (b.meets l) :=
  meets_great l (a.meets l) b h (bodyLe_trans (meets_le l a h) hab) (meets_keeps l a h)
theorem allE_same {b : Bod.Bd} {l l' : List Bod.Cp} (h1 : l.length ≤ 64) (h2 : l'.length ≤ 64) (hs : ∀ c, c ∈ l ↔ c ∈ l') : b.allE l = b.allE l' := by
  have hall : l.all Bod.Cp.ok = l'.all Bod.Cp.ok := by
    rw [Bool.eq_iff_iff]
    exact ⟨fun h => ok_sub h fun c hc => (hs c).2 hc, fun h => ok_sub h fun c hc => (hs c).1 hc⟩
  unfold Bod.Bd.allE
  rw [if_neg (show ¬ 64 < l.length by omega), if_neg (show ¬ 64 < l'.length by omega), hall]
theorem allB_same {b : Bod.Bd} {l l' : List Bod.Cp} (h1 : l.length ≤ 64) (h2 : l'.length ≤ 64) (hs : ∀ c, c ∈ l ↔ c ∈ l') : b.allB l = b.allB l' := by
  have he := allE_same (b := b) h1 h2 hs
  rcases all_cases b l with ⟨h, hz⟩ | ⟨h, hz, _, hok, _⟩
  · rw [hz]
    rcases all_cases b l' with ⟨_, hz'⟩ | ⟨h', _⟩
    · exact hz'.symm
    · exact absurd (he.trans h') h
  · rw [hz]
    rcases all_cases b l' with ⟨h', _⟩ | ⟨_, hz', _⟩
    · exact absurd (he.symm.trans h) h'
    · rw [hz']
      exact meets_same hok hs
/-- the walk of Meet with one after the other -/
theorem allE_more {b : Bod.Bd} {l m : List Bod.Cp} (h1 : l.length ≤ 30) (h2 : m.length ≤ 30) (h : b.allE (l ++ m) = 0) : b.allE l = 0 := by
  rcases all_cases b (l ++ m) with ⟨h', _⟩ | ⟨_, _, hb, hok, _⟩
  · exact absurd h h'
  · unfold Bod.Bd.allE
    rw [if_pos hb, if_neg (show ¬ 64 < l.length by omega), if_pos (ok_sub hok fun c hc => List.mem_append.2 (.inl hc))]
/-- two elements of a list change places -/
theorem swap_mem {l : List Bod.Cp} {i k : Nat} {x y : Bod.Cp} (hi : l[i]? = some x) (hk : l[k]? = some y) (c : Bod.Cp) : c ∈ (l.set i y).set k x ↔ c ∈ l := by
  simp only [List.mem_iff_getElem?, List.getElem?_set, List.length_set]
  have hil := (List.getElem?_eq_some_iff.1 hi).1
  have hkl := (List.getElem?_eq_some_iff.1 hk).1
  constructor
  · rintro ⟨j, hj⟩
    by_cases h1 : k = j
    · subst h1; simp [hkl] at hj; exact ⟨i, by rw [hi, hj]⟩
    · rw [if_neg h1] at hj
      by_cases h2 : i = j
      · subst h2; simp [hil] at hj; exact ⟨k, by rw [hk, hj]⟩
      · rw [if_neg h2] at hj; exact ⟨j, hj⟩
  · rintro ⟨j, hj⟩
    by_cases h1 : j = i
    · subst h1
      refine ⟨k, ?_⟩
      rw [if_pos rfl, if_pos hkl]
      rw [← hj, hi]
    · by_cases h2 : j = k
      · subst h2
        refine ⟨i, ?_⟩
        rw [if_neg (by omega), if_pos rfl, if_pos hil]
        rw [← hj, hk]
      · refine ⟨j, ?_⟩
        rw [if_neg (by omega), if_neg (by omega)]
        exact hj
end Go.Proofs.Ytklppgkolcpbbaa
