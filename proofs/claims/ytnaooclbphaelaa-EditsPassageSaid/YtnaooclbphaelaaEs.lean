/-
  Plain facts: what an edit of a passage leaves as it is.
-/
import Derived.Test.YtnaooclbphaelaaEn
namespace Go.Proofs.Ytnaooclbphaelaa
set_option linter.unusedSimpArgs false
set_option linter.unusedVariables false
open Go Go.RowKit
theorem apply_ok_of {e : Ed} {ss : List Sg} (h : chkS ss = 0) (h2 : (applyE e ss).2 = 0) : okE e ∧ accE e ss = some (applyE e ss).1 := by
  by_cases h3 : okE e
  · cases h4 : accE e ss with
    | none => rw [applyE_fail h h3 h4] at h2; exact absurd h2 (by decide)
    | some y =>
      by_cases h5 : chkS y = 0
      · rw [applyE_ok h h3 h4 h5]; exact ⟨h3, rfl⟩
      · rw [applyE_out h h3 h4 h5] at h2; exact absurd h2 h5
  · rw [applyE_no h h3] at h2; exact absurd h2 (by decide)
theorem apply_err {e : Ed} {ss : List Sg} (h2 : ¬ (applyE e ss).2 = 0) : (applyE e ss).1 = [] := by
  by_cases h : chkS ss = 0
  · by_cases h3 : okE e
    · cases h4 : accE e ss with
      | none => rw [applyE_fail h h3 h4]
      | some y =>
        by_cases h5 : chkS y = 0
        · rw [applyE_ok h h3 h4 h5] at h2; exact absurd rfl h2
        · rw [applyE_out h h3 h4 h5]
    · rw [applyE_no h h3]
  · rw [applyE_chk h]
/-- what a cut makes of a sign -/
def cutS (x : Ed) (k : Sg) : List Sg := if x.fr ≤ k.bar ∧ k.bar ≤ x.to then [] else if x.to < k.bar then [{ k with bar := k.bar - (x.to - x.fr + 1) }] else [k]
theorem cut_all {x : Ed} {ss : List Sg} (h : chkS ss = 0) (h2 : (applyE x ss).2 = 0) (h3 : x.kind = 3) : (applyE x ss).1 = ss.flatMap (cutS x) ∧ 0 ≤ x.fr ∧ x.fr ≤ x.to ∧ x.to ≤ 4095 := by
  obtain ⟨h4, h5⟩ := apply_ok_of h h2
  have h6 : accE x ss = some (ss.flatMap (cutS x)) := by
    unfold accE
    rw [acc_flat (c := cutS x) fun k _ => ?_, List.nil_append]
    unfold workE cutS
    rw [if_neg (by omega), if_neg (by omega), if_pos h3]
    split
    · rfl
    · split <;> rfl
  rw [h6] at h5
  refine ⟨(Option.some.inj h5).symm, ?_⟩
  have := h4.2.2.2
  unfold rightE at this
  rw [if_neg (by omega), if_neg (by omega), if_pos h3] at this
  exact this
theorem cut_step {x : Ed} {ss cur m : List Sg} {i : Nat} {z : Sg} (hc : cur = (ss.take i).flatMap (cutS x)) (hz : ss[i]? = some z) (hm : cutS x z = m) : cur ++ m = (ss.take (i + 1)).flatMap (cutS x) := by
  rw [List.take_add_one, hz, Option.toList_some, List.flatMap_append, ← hc, List.flatMap_cons, List.flatMap_nil, List.append_nil, hm]
/-- the other edits go sign by sign -/
theorem each_all {x : Ed} {ss : List Sg} (h : chkS ss = 0) (h2 : (applyE x ss).2 = 0) (h3 : x.kind ≠ 3) : (applyE x ss).1 = ss.map (gE x) ∧ (∀ k ∈ ss, workE x k = some [gE x k]) ∧ 1 ≤ x.kind ∧ x.kind ≤ 7 := by
  obtain ⟨h4, h5⟩ := apply_ok_of h h2
  have hw : ∀ k ∈ ss, workE x k = some [gE x k] := fun k hk => by
    have h6 : workE x k ≠ none := fun hn => by rw [acc_nil ⟨k, hk, hn⟩] at h5; cases h5
    cases h7 : workE x k with
    | none => exact absurd h7 h6
    | some m =>
      have : ∃ z, m = [z] := by
        unfold workE at h7
        rw [if_neg h3] at h7
        (repeat' split at h7) <;> first | (cases h7; done) | (cases h7; exact ⟨_, rfl⟩)
      obtain ⟨z, rfl⟩ := this
      rw [gE_of h7]
  rw [acc_map hw] at h5
  exact ⟨(Option.some.inj h5).symm, hw, h4.1, h4.2.1⟩
theorem role_of {x : Ed} {ss : List Sg} (h : chkS ss = 0) (h2 : (applyE x ss).2 = 0) (h3 : x.kind ≠ 3) (h4 : x.kind ≠ 4) (h5 : x.kind ≠ 5) : 0 ≤ x.role ∧ x.role ≤ 64 := by
  obtain ⟨g, _⟩ := apply_ok_of h h2
  have := g.2.2.2
  unfold rightE roleE at this
  rw [if_neg h3, if_neg h4, if_neg h5] at this
  (repeat' split at this) <;> omega
theorem pass_in {x : Ed} {z : Sg} (h3 : x.kind ≠ 3) (h4 : x.kind ≠ 4) (hr : 0 ≤ x.role) (hw : workE x z = some [gE x z]) :
    (z.bar < x.fr ∨ x.to < z.bar ∨ (x.kind ≠ 6 ∧ 0 < x.role ∧ z.role ≠ x.role - 1) → gE x z = z) ∧ (x.kind = 1 → (⟨(gE x z).id, (gE x z).role, (gE x z).bar, (gE x z).mark, (gE x z).kind, z.side, z.dir, (gE x z).level, z.size, (gE x z).with_, (gE x z).fn, (gE x z).fd, (gE x z).tn, (gE x z).td⟩ : Sg) = z) ∧
    (x.kind = 2 → (⟨(gE x z).id, (gE x z).role, (gE x z).bar, (gE x z).mark, (gE x z).kind, (gE x z).side, z.dir, (gE x z).level, (gE x z).size, (gE x z).with_, (gE x z).fn, (gE x z).fd, (gE x z).tn, (gE x z).td⟩ : Sg) = z) ∧
    (x.kind = 6 → (⟨(gE x z).id, z.role, (gE x z).bar, (gE x z).mark, (gE x z).kind, (gE x z).side, (gE x z).dir, (gE x z).level, (gE x z).size, z.with_, (gE x z).fn, (gE x z).fd, (gE x z).tn, (gE x z).td⟩ : Sg) = z) ∧
    (x.kind = 7 → (⟨(gE x z).id, (gE x z).role, (gE x z).bar, (gE x z).mark, (gE x z).kind, (gE x z).side, (gE x z).dir, (gE x z).level, (gE x z).size, (gE x z).with_, z.fn, z.fd, z.tn, z.td⟩ : Sg) = z) := by
  generalize gE x z = g at hw ⊢
  have key : g = z ∨ (inP x z ∧ x.kind = 1 ∧ g = mirrorS z) ∨ (inP x z ∧ x.kind = 2 ∧ g = { z with dir := (z.dir - 1 + x.n) % 8 + 1 }) ∨ (x.fr ≤ z.bar ∧ z.bar ≤ x.to ∧ x.kind = 6 ∧ ∃ a b, g = { z with role := a, with_ := b }) ∨ (inP x z ∧ x.kind = 7 ∧ ∃ a b c d, g = { z with fn := a, fd := b, tn := c, td := d }) := by
    unfold workE at hw
    rw [if_neg h3, if_neg h4] at hw
    split at hw
    · rename_i hk
      split at hw
      · rename_i hp
        exact .inr (.inl ⟨hp, hk, by simpa using hw.symm⟩)
      · exact .inl (by simpa using hw.symm)
    · split at hw
      · rename_i hk
        split at hw
        · rename_i hp
          exact .inr (.inr (.inl ⟨hp.1, hk, by simpa using hw.symm⟩))
        · exact .inl (by simpa using hw.symm)
      · split at hw
        · rename_i hk
          split at hw
          · rename_i hp
            exact .inr (.inr (.inr (.inl ⟨hp.1, hp.2, hk, _, _, by simpa using hw.symm⟩)))
          · exact .inl (by simpa using hw.symm)
        · split at hw
          · rename_i hk
            split at hw
            · rename_i hp
              split at hw
              · exact .inr (.inr (.inr (.inr ⟨hp, hk, _, _, _, _, by simpa using hw.symm⟩)))
              · cases hw
            · exact .inl (by simpa using hw.symm)
          · cases hw
  rcases key with rfl | ⟨hp, hk, rfl⟩ | ⟨hp, hk, rfl⟩ | ⟨hp, hp2, hk, a, b, rfl⟩ | ⟨hp, hk, a, b, c, d, rfl⟩
  · exact ⟨fun _ => rfl, fun _ => rfl, fun _ => rfl, fun _ => rfl, fun _ => rfl⟩
  · obtain ⟨p1, p2, p3⟩ := hp
    exact ⟨fun h => absurd h (by omega), fun _ => rfl, fun h => absurd h (by omega), fun h => absurd h (by omega), fun h => absurd h (by omega)⟩
  · obtain ⟨p1, p2, p3⟩ := hp
    exact ⟨fun h => absurd h (by omega), fun h => absurd h (by omega), fun _ => rfl, fun h => absurd h (by omega), fun h => absurd h (by omega)⟩
  · exact ⟨fun h => absurd h (by omega), fun h => absurd h (by omega), fun h => absurd h (by omega), fun _ => rfl, fun h => absurd h (by omega)⟩
  · obtain ⟨p1, p2, p3⟩ := hp
    exact ⟨fun h => absurd h (by omega), fun h => absurd h (by omega), fun h => absurd h (by omega), fun h => absurd h (by omega), fun _ => rfl⟩
end Go.Proofs.Ytnaooclbphaelaa
