/-
  Plain facts: what All returns is valid, weaker than the body, and keeps all caps; and it is the greatest such body.
-/
import Derived.Test.YtklppgkolcpbbaaBodyP
import Derived.Test.YtklppgkolcpbbaaBodyKeep
namespace Go.Proofs.Ytklppgkolcpbbaa
set_option linter.unusedSimpArgs false
set_option linter.unusedVariables false

/-- what caps do not concern -/
def sameRest (a b : Bod.Bd) : Prop := a.name = b.name ∧ a.weight = b.weight ∧ a.girth = b.girth ∧ a.r0 = b.r0 ∧ a.r1 = b.r1 ∧ a.r2 = b.r2 ∧ a.recover = b.recover
theorem bodyLe_iff (a b : Bod.Bd) : bodyLe a b ↔ sameRest a b ∧ ∀ j l, j < 6 → l ≤ Bod.rlimb j → a.fld j l ≤ b.fld j l := by
  constructor
  · rintro ⟨h1, h2, h3, h4, h5, h6, h7, g1, g2, g3, g4, g5, g6, g7, g8, g9, g10⟩
    refine ⟨⟨h1, h2, h3, h4, h5, h6, h7⟩, fun j l hj hl => ?_⟩
    have hc : j = 0 ∨ j = 1 ∨ j = 2 ∨ j = 3 ∨ j = 4 ∨ j = 5 := by omega
    rcases hc with rfl | rfl | rfl | rfl | rfl | rfl
    · have : l = 0 ∨ l = 1 ∨ l = 2 := by have : l ≤ 2 := hl; omega
      rcases this with rfl | rfl | rfl <;> assumption
    · have : l = 0 ∨ l = 1 ∨ l = 2 := by have : l ≤ 2 := hl; omega
      rcases this with rfl | rfl | rfl <;> assumption
    · assumption
    · assumption
    · assumption
    · assumption
  · rintro ⟨⟨h1, h2, h3, h4, h5, h6, h7⟩, h⟩
    exact ⟨h1, h2, h3, h4, h5, h6, h7, h 4 0 (by decide) (by decide), h 2 0 (by decide) (by decide), h 3 0 (by decide) (by decide), h 1 0 (by decide) (by decide), h 1 1 (by decide) (by decide), h 1 2 (by decide) (by decide), h 0 0 (by decide) (by decide), h 0 1 (by decide) (by decide), h 0 2 (by decide) (by decide), h 5 0 (by decide) (by decide)⟩
theorem set_rest (b : Bod.Bd) {j l : Nat} (hj : j < 6) (hl : l ≤ Bod.rlimb j) (v : Int) : sameRest (b.set j l v) b ∧ (b.set j l v).fld j l = v ∧ ∀ j' l', j' < 6 → l' ≤ Bod.rlimb j' → (j' ≠ j ∨ l' ≠ l) → (b.set j l v).fld j' l' = b.fld j' l' := by
  have key : ∀ (j l : Nat), j < 6 → l ≤ Bod.rlimb j → (j = 0 ∧ (l = 0 ∨ l = 1 ∨ l = 2)) ∨ (j = 1 ∧ (l = 0 ∨ l = 1 ∨ l = 2)) ∨ (j = 2 ∧ l = 0) ∨ (j = 3 ∧ l = 0) ∨ (j = 4 ∧ l = 0) ∨ (j = 5 ∧ l = 0) := fun j l hj hl => by
    have hc : j = 0 ∨ j = 1 ∨ j = 2 ∨ j = 3 ∨ j = 4 ∨ j = 5 := by omega
    rcases hc with rfl | rfl | rfl | rfl | rfl | rfl
    · have h : l ≤ 2 := hl; omega
    · have h : l ≤ 2 := hl; omega
    · have h : l ≤ 0 := hl; omega
    · have h : l ≤ 0 := hl; omega
    · have h : l ≤ 0 := hl; omega
    · have h : l ≤ 0 := hl; omega
  refine ⟨?_, ?_, fun j' l' hj' hl' hne => ?_⟩
  · rcases key j l hj hl with ⟨rfl, rfl | rfl | rfl⟩ | ⟨rfl, rfl | rfl | rfl⟩ | ⟨rfl, rfl⟩ | ⟨rfl, rfl⟩ | ⟨rfl, rfl⟩ | ⟨rfl, rfl⟩ <;> exact ⟨rfl, rfl, rfl, rfl, rfl, rfl, rfl⟩
  · rcases key j l hj hl with ⟨rfl, rfl | rfl | rfl⟩ | ⟨rfl, rfl | rfl | rfl⟩ | ⟨rfl, rfl⟩ | ⟨rfl, rfl⟩ | ⟨rfl, rfl⟩ | ⟨rfl, rfl⟩ <;> rfl
  · rcases key j l hj hl with ⟨rfl, rfl | rfl | rfl⟩ | ⟨rfl, rfl | rfl | rfl⟩ | ⟨rfl, rfl⟩ | ⟨rfl, rfl⟩ | ⟨rfl, rfl⟩ | ⟨rfl, rfl⟩ <;>
    rcases key j' l' hj' hl' with ⟨rfl, rfl | rfl | rfl⟩ | ⟨rfl, rfl | rfl | rfl⟩ | ⟨rfl, rfl⟩ | ⟨rfl, rfl⟩ | ⟨rfl, rfl⟩ | ⟨rfl, rfl⟩ <;> first | rfl | (exfalso; revert hne; decide)
theorem sameRest.trans {a b c : Bod.Bd} (h : sameRest a b) (k : sameRest b c) : sameRest a c := by
  obtain ⟨h1, h2, h3, h4, h5, h6, h7⟩ := h
  obtain ⟨k1, k2, k3, k4, k5, k6, k7⟩ := k
  exact ⟨h1.trans k1, h2.trans k2, h3.trans k3, h4.trans k4, h5.trans k5, h6.trans k6, h7.trans k7⟩
/-- in range: each field that caps concern -/
theorem okB_iff (b : Bod.Bd) : b.okB = true ↔ b.baseB = true ∧ ∀ j l, j < 6 → l ≤ Bod.rlimb j → Bod.rlo j ≤ b.fld j l ∧ b.fld j l ≤ Bod.rhi j := by
  unfold Bod.Bd.okB
  rw [Bool.and_eq_true, Bod.Bd.capsB_eq, List.all_eq_true]
  refine and_congr_right fun _ => ⟨fun h j l hj hl => ?_, fun h j hj => ?_⟩
  · have h1 := h j (List.mem_range.2 hj)
    unfold Bod.Bd.ruleB at h1
    have h2 := List.all_eq_true.1 h1 l (List.mem_range.2 (by omega))
    simpa [Bod.inB] using h2
  · unfold Bod.Bd.ruleB
    rw [List.all_eq_true]
    intro l hl
    have := h j l (List.mem_range.1 hj) (by have := List.mem_range.1 hl; omega)
    simpa [Bod.inB] using this
theorem base_same {a b : Bod.Bd} (h : sameRest a b) (hb : b.baseB = true) : a.baseB = true := by
  obtain ⟨h1, h2, h3, h4, h5, h6, h7⟩ := h
  unfold Bod.Bd.baseB at *
  rw [h1, h2, h3, h4, h5, h6, h7]
  exact hb
theorem cap_range {c : Bod.Cp} (h : c.ok = true) : Bod.rlo c.r ≤ c.n ∧ c.n ≤ Bod.rhi c.r := by
  unfold Bod.Cp.ok Bod.Cp.inR Bod.inB at h
  simp only [Bool.and_eq_true, decide_eq_true_eq] at h
  exact h.2.2
theorem limb_le {c : Bod.Cp} (h : c.ok = true) : c.limb.toNat ≤ Bod.rlimb c.r := by
  obtain ⟨_, _, _, h3, h4⟩ := cap_facts h
  omega
theorem meet_le (b : Bod.Bd) {c : Bod.Cp} (h : c.ok = true) : bodyLe (b.meet c) b := by
  obtain ⟨_, _, hr, _, _⟩ := cap_facts h
  obtain ⟨s1, s2, s3⟩ := set_rest b hr (limb_le h) (Bod.least (b.fld c.r c.limb.toNat) c.n)
  refine (bodyLe_iff _ _).2 ⟨s1, fun j l hj hl => ?_⟩
  by_cases he : j = c.r ∧ l = c.limb.toNat
  · obtain ⟨rfl, rfl⟩ := he
    have := (Bod.least_lo (b.fld c.r c.limb.toNat) c.n).1
    unfold Bod.Bd.meet
    omega
  · have := s3 j l hj hl (by omega)
    unfold Bod.Bd.meet
    omega
theorem meet_keep (b : Bod.Bd) {c : Bod.Cp} (h : c.ok = true) : keepV (b.meet c) c = true := by
  obtain ⟨_, _, hr, _, _⟩ := cap_facts h
  obtain ⟨s1, s2, s3⟩ := set_rest b hr (limb_le h) (Bod.least (b.fld c.r c.limb.toNat) c.n)
  unfold keepV Bod.Bd.meet
  rw [h, s2]
  simp [(Bod.least_lo (b.fld c.r c.limb.toNat) c.n).2.1]
theorem meet_ok {b : Bod.Bd} {c : Bod.Cp} (hb : b.okB = true) (h : c.ok = true) : (b.meet c).okB = true := by
  obtain ⟨_, _, hr, _, _⟩ := cap_facts h
  obtain ⟨s1, s2, s3⟩ := set_rest b hr (limb_le h) (Bod.least (b.fld c.r c.limb.toNat) c.n)
  obtain ⟨h1, h2⟩ := (okB_iff b).1 hb
  refine (okB_iff _).2 ⟨base_same s1 h1, fun j l hj hl => ?_⟩
  by_cases he : j = c.r ∧ l = c.limb.toNat
  · obtain ⟨rfl, rfl⟩ := he
    have := h2 c.r c.limb.toNat hr (limb_le h)
    have := cap_range h
    unfold Bod.Bd.meet
    rw [s2]
    rcases (Bod.least_lo (b.fld c.r c.limb.toNat) c.n).2.2 with e | e <;> rw [e] <;> omega
  · have := s3 j l hj hl (by omega)
    unfold Bod.Bd.meet
    rw [this]
    exact h2 j l hj hl
theorem meet_great {o b : Bod.Bd} {c : Bod.Cp} (h : c.ok = true) (ho : bodyLe o b) (hk : keepV o c = true) : bodyLe o (b.meet c) := by
  obtain ⟨_, _, hr, _, _⟩ := cap_facts h
  obtain ⟨s1, s2, s3⟩ := set_rest b hr (limb_le h) (Bod.least (b.fld c.r c.limb.toNat) c.n)
  obtain ⟨o1, o2⟩ := (bodyLe_iff _ _).1 ho
  unfold keepV at hk
  rw [h, Bool.true_and, decide_eq_true_iff] at hk
  have hback : sameRest b (b.meet c) := by
    obtain ⟨k1, k2, k3, k4, k5, k6, k7⟩ := s1
    exact ⟨k1.symm, k2.symm, k3.symm, k4.symm, k5.symm, k6.symm, k7.symm⟩
  refine (bodyLe_iff _ _).2 ⟨o1.trans hback, fun j l hj hl => ?_⟩
  by_cases he : j = c.r ∧ l = c.limb.toNat
  · obtain ⟨rfl, rfl⟩ := he
    have := o2 c.r c.limb.toNat hr (limb_le h)
    unfold Bod.Bd.meet
    rw [s2]
    rcases (Bod.least_lo (b.fld c.r c.limb.toNat) c.n).2.2 with e | e <;> rw [e] <;> omega
  · have := s3 j l hj hl (by omega)
    have := o2 j l hj hl
    unfold Bod.Bd.meet
    omega
theorem keep_le {a b : Bod.Bd} {c : Bod.Cp} (h : bodyLe a b) (hk : keepV b c = true) : keepV a c = true := by
  unfold keepV at *
  rw [Bool.and_eq_true, decide_eq_true_iff] at *
  obtain ⟨hok, hk⟩ := hk
  obtain ⟨_, _, hr, _, _⟩ := cap_facts hok
  have := ((bodyLe_iff _ _).1 h).2 c.r c.limb.toNat hr (limb_le hok)
  exact ⟨hok, by omega⟩
theorem meets_le : ∀ (l : List Bod.Cp) (b : Bod.Bd), l.all Bod.Cp.ok = true → bodyLe (b.meets l) b
  | [], b, _ => bodyLe_refl b
  | c :: l, b, h => by
    rw [List.all_cons, Bool.and_eq_true] at h
    exact bodyLe_trans (meets_le l (b.meet c) h.2) (meet_le b h.1)
theorem meets_ok : ∀ (l : List Bod.Cp) (b : Bod.Bd), b.okB = true → l.all Bod.Cp.ok = true → (b.meets l).okB = true
  | [], b, hb, _ => hb
  | c :: l, b, hb, h => by
    rw [List.all_cons, Bool.and_eq_true] at h
    exact meets_ok l (b.meet c) (meet_ok hb h.1) h.2
theorem meets_keeps : ∀ (l : List Bod.Cp) (b : Bod.Bd), l.all Bod.Cp.ok = true → keepsV (b.meets l) l = true
  | [], b, _ => rfl
  | c :: l, b, h => by
    rw [List.all_cons, Bool.and_eq_true] at h
    unfold keepsV
    rw [List.all_cons, Bool.and_eq_true]
    exact ⟨keep_le (meets_le l (b.meet c) h.2) (meet_keep b h.1), meets_keeps l (b.meet c) h.2⟩
theorem meets_great : ∀ (l : List Bod.Cp) (o b : Bod.Bd), l.all Bod.Cp.ok = true → bodyLe o b → keepsV o l = true → bodyLe o (b.meets l)
  | [], o, b, _, ho, _ => ho
  | c :: l, o, b, h, ho, hk => by
    rw [List.all_cons, Bool.and_eq_true] at h
    unfold keepsV at hk
    rw [List.all_cons, Bool.and_eq_true] at hk
    exact meets_great l o (b.meet c) h.2 (meet_great h.1 ho hk.1) hk.2
/-- All: an error and no body, or the lowered body -/
theorem all_cases (b : Bod.Bd) (l : List Bod.Cp) : (b.allE l ≠ 0 ∧ b.allB l = Bod.Bd.zero) ∨ (b.allE l = 0 ∧ b.allB l = b.meets l ∧ b.okB = true ∧ l.all Bod.Cp.ok = true ∧ l.length ≤ 64) := by
  by_cases h : b.allE l = 0
  · refine .inr ⟨h, by unfold Bod.Bd.allB; rw [if_pos h], ?_⟩
    unfold Bod.Bd.allE at h
    split at h
    · rename_i h1
      split at h
      · omega
      · rename_i h2
        split at h
        · rename_i h3
          exact ⟨h1, h3, by omega⟩
        · omega
    · omega
  · exact .inl ⟨h, Bod.Bd.all_no rfl h⟩
end Go.Proofs.Ytklppgkolcpbbaa
