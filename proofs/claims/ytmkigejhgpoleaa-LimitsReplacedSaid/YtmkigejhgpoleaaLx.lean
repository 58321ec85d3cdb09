/-
  Plain facts: limits put into their places, one after the other; what stands then.
-/
import Derived.Test.YtmkigejhgpoleaaLj
namespace Go.Proofs.Ytmkigejhgpoleaa
set_option linter.unusedSimpArgs false
set_option linter.unusedVariables false
open Go Go.RowKit
def insR (x : Lim) : List Lim → List Lim
  | [] => [x]
  | z :: l => if z.no < x.no then z :: insR x l else x :: z :: l
theorem addL_eq (ls : List Lim) (x : Lim) : addL ls x = insR x ls := by
  induction ls with
  | nil => rfl
  | cons z l ih =>
    by_cases h : z.no < x.no
    · have hp : posL (z :: l) x.no = posL l x.no + 1 := by simp [posL, List.takeWhile_cons, h]
      rw [insR, if_pos h, ← ih, addL, hp]
      simp [insL, addL]
    · have hp : posL (z :: l) x.no = 0 := by simp [posL, List.takeWhile_cons, h]
      rw [insR, if_neg h, addL, hp]
      simp [insL]
theorem mem_insR {x z : Lim} : ∀ {l : List Lim}, z ∈ insR x l ↔ z = x ∨ z ∈ l
  | [] => by simp [insR]
  | y :: l => by
    unfold insR
    split
    · simp only [List.mem_cons, mem_insR (l := l)]
      constructor
      · rintro (h | h | h)
        · exact .inr (.inl h)
        · exact .inl h
        · exact .inr (.inr h)
      · rintro (h | h | h)
        · exact .inr (.inl h)
        · exact .inl h
        · exact .inr (.inr h)
    · simp
theorem insR_comm {x y : Lim} (h : x.no ≠ y.no) : ∀ l : List Lim, insR y (insR x l) = insR x (insR y l)
  | [] => by
    by_cases h1 : x.no < y.no
    · have h4 : ¬ y.no < x.no := by omega
      simp only [insR, if_pos h1, if_neg h4]
    · have h4 : y.no < x.no := by omega
      simp only [insR, if_neg h1, if_pos h4]
  | z :: l => by
    have ih := insR_comm h l
    by_cases h1 : z.no < x.no
    · by_cases h2 : z.no < y.no
      · simp only [insR, if_pos h1, if_pos h2, ih]
      · have h3 : y.no < x.no := by omega
        simp only [insR, if_pos h1, if_neg h2, if_pos h3]
    · by_cases h2 : z.no < y.no
      · have h3 : x.no < y.no := by omega
        simp only [insR, if_neg h1, if_pos h2, if_pos h3]
      · by_cases h3 : x.no < y.no
        · have h4 : ¬ y.no < x.no := by omega
          simp only [insR, if_neg h1, if_neg h2, if_pos h3, if_neg h4]
        · have h4 : y.no < x.no := by omega
          simp only [insR, if_neg h1, if_neg h2, if_neg h3, if_pos h4]
theorem addR_ok {ls : List Lim} {x : Lim} (h : (addR ls x).2 = 0) : chkL ls = 0 ∧ (¬ ∃ y ∈ ls, y.no = x.no) ∧ chkL (addL ls x) = 0 ∧ (addR ls x).1 = addL ls x := by
  unfold addR at h ⊢
  split at h
  · rename_i h1; exact absurd h h1
  · rename_i h1
    split at h
    · cases h
    · rename_i h2
      split at h
      · rename_i h3; exact absurd h h3
      · rename_i h3
        rw [if_neg h1, if_neg h2, if_neg h3]
        exact ⟨by simpa using h1, h2, by simpa using h3, rfl⟩
theorem addR_no {ls : List Lim} {x : Lim} (h : (addR ls x).2 ≠ 0) : (addR ls x).1 = [] := by
  unfold addR at h ⊢
  split at h
  · rename_i h1; rw [if_pos h1]
  · rename_i h1
    split at h
    · rename_i h2; rw [if_neg h1, if_pos h2]
    · rename_i h2
      split at h
      · rename_i h3; rw [if_neg h1, if_neg h2, if_pos h3]
      · exact absurd rfl h
theorem addR_le (ls : List Lim) (x : Lim) : (addR ls x).1.length ≤ 512 := by
  by_cases h : (addR ls x).2 = 0
  · obtain ⟨_, _, h1, h2⟩ := addR_ok h
    rw [h2]; exact (chkL_zero h1).1
  · rw [addR_no h]; simp
theorem addR_fit {ls : List Lim} {x : Lim} (h : fitLm ls) (hx : -9223372036854775808 ≤ x.of_ ∧ x.of_ ≤ 9223372036854775807) : fitLm (addR ls x).1 := by
  by_cases h0 : (addR ls x).2 = 0
  · rw [(addR_ok h0).2.2.2]; exact insL_fit h hx
  · rw [addR_no h0]; exact fun z hz => nomatch hz
theorem addR_mk {ls : List Lim} {x : Lim} (h1 : chkL ls = 0) (h2 : ¬ ∃ y ∈ ls, y.no = x.no) (h3 : chkL (addL ls x) = 0) : addR ls x = (addL ls x, 0) := by
  rw [addR, if_neg (by omega), if_neg h2, if_neg (by omega)]
/-- the order in which two limits are added does not matter -/
theorem addR_swap {ls : List Lim} {x y : Lim} (hx : (addR ls x).2 = 0) (hy : (addR ls y).2 = 0) (hxy : (addR (addR ls x).1 y).2 = 0) : addR (addR ls y).1 x = addR (addR ls x).1 y := by
  obtain ⟨a1, a2, a3, a4⟩ := addR_ok hx
  obtain ⟨b1, b2, b3, b4⟩ := addR_ok hy
  rw [a4] at hxy ⊢
  rw [b4]
  obtain ⟨c1, c2, c3, c4⟩ := addR_ok hxy
  have hne : x.no ≠ y.no := fun e => c2 ⟨x, by rw [addL_eq]; exact mem_insR.2 (.inl rfl), e⟩
  have he : addL (addL ls y) x = addL (addL ls x) y := by rw [addL_eq, addL_eq, addL_eq, addL_eq, insR_comm hne]
  rw [addR_mk c1 c2 c3, addR_mk b3 ?_ (by rw [he]; exact c3), he]
  rintro ⟨z, hz, e⟩
  rw [addL_eq] at hz
  rcases mem_insR.1 hz with rfl | hz
  · exact hne e.symm
  · exact a2 ⟨z, hz, e⟩
theorem addR_len {ls : List Lim} {x : Lim} (hx : (addR ls x).2 = 0) : (addR ls x).1.length = ls.length + 1 := by
  rw [(addR_ok hx).2.2.2]
  have : posL ls x.no ≤ ls.length := by
    unfold posL
    exact List.Sublist.length_le (List.takeWhile_sublist _)
  exact insL_len this
/-- what lies at the place -/
theorem addR_at {ls : List Lim} {x : Lim} {i : Nat} (hx : (addR ls x).2 = 0) (hi : posL ls x.no = i) (hl : i ≤ ls.length) : (addR ls x).1[i]? = some x ∧ (addR ls x).1.take i ++ (addR ls x).1.drop (i + 1) = ls := by
  rw [(addR_ok hx).2.2.2, addL, hi]
  have h1 : (ls.take i).length = i := by rw [List.length_take]; omega
  unfold insL
  refine ⟨?_, ?_⟩
  · rw [List.getElem?_append_right (by omega), h1]; simp
  · have h2 : (ls.take i ++ x :: ls.drop i).drop (i + 1) = ls.drop i := by rw [← List.drop_drop, List.drop_left' h1]; rfl
    rw [List.take_left' h1, h2, List.take_append_drop]
theorem lm_take (L : List Lim) (i : Nat) : (lmL L).take (i * 9) = lmL (L.take i) := SX.flat_take (f := cellsLm) (sz := 9) (fun _ => rfl) L i
theorem lm_drop (L : List Lim) (i : Nat) : (lmL L).drop (i * 9) = lmL (L.drop i) := SX.flat_drop (f := cellsLm) (sz := 9) (fun _ => rfl) L i
section
variable {C : SX.Cx} {ρ : List Value} {α : Nat → SX.AV}
theorem slcx_hi {cc iv : SX.V} {L : List Lim} {i : Nat} (hc : SX.cellsV (cc.den ρ α) = lmL L) (hi : iv.den ρ α = .int .i64 (i : Int)) (hl : i ≤ L.length) : SX.Opq.rel C ρ α (.slcx 9 false true) [cc, iv] (.agg (lmL (L.take i)).toArray) := by
  refine ⟨0, i, L.length, none, some (.int .i64 (i : Int)), by simp [SX.denL, SX.optsV, hi], ?_, ?_⟩
  · rw [hc, lmL_len, Nat.mul_div_cancel _ (by decide)]
    simp [SX.boundsV, SX.bndV, hl]
  · rw [hc]
    simp only [Nat.zero_mul, List.drop_zero, Nat.sub_zero]
    rw [lm_take]
theorem slcx_lo {cc iv : SX.V} {L : List Lim} {i : Nat} (hc : SX.cellsV (cc.den ρ α) = lmL L) (hi : iv.den ρ α = .int .i64 (i : Int)) (hl : i ≤ L.length) : SX.Opq.rel C ρ α (.slcx 9 true false) [cc, iv] (.agg (lmL (L.drop i)).toArray) := by
  refine ⟨i, L.length, L.length, some (.int .i64 (i : Int)), none, by simp [SX.denL, SX.optsV, hi], ?_, ?_⟩
  · rw [hc, lmL_len, Nat.mul_div_cancel _ (by decide)]
    simp [SX.boundsV, SX.bndV, hl]
  · rw [hc, lm_drop, List.take_of_length_le (by rw [lmL_len, List.length_drop]; exact Nat.le_refl _)]
theorem src_row1 {y : SX.V} {l : List Value} {j sz : Nat} (h : ρ.getD j undef = .agg l.toArray) : SX.srcRel C ρ α sz (.row sz [.x j []]) y l := ⟨⟨y.den ρ α, sz, l⟩, ⟨by rw [← SX.cat1 (α := α) h]; simp [SX.V.den, SX.cellsV], trivial⟩, rfl, rfl⟩
theorem src_row {y : SX.V} {xs : List Value} {cs : List SX.V} {sz : Nat} (h : (SX.denL ρ α cs).flatMap SX.cellsV = xs) : SX.srcRel C ρ α sz (.row sz cs) y xs := ⟨⟨y.den ρ α, sz, xs⟩, ⟨by rw [← h], trivial⟩, rfl, rfl⟩
end
end Go.Proofs.Ytmkigejhgpoleaa
