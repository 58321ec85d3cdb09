/-
  Plain facts: to be weaker is a partial order.
-/
import Derived.Test.YtklppgkolcpbbaaBody2
namespace Go.Proofs.Ytklppgkolcpbbaa
set_option linter.unusedSimpArgs false
set_option linter.unusedVariables false
def bodyLe (a b : Bod.Bd) : Prop := a.name = b.name ∧ a.weight = b.weight ∧ a.girth = b.girth ∧ a.r0 = b.r0 ∧ a.r1 = b.r1 ∧ a.r2 = b.r2 ∧ a.recover = b.recover ∧
  a.lift ≤ b.lift ∧ a.step ≤ b.step ∧ a.jump ≤ b.jump ∧ a.s0 ≤ b.s0 ∧ a.s1 ≤ b.s1 ∧ a.s2 ≤ b.s2 ∧ a.t0 ≤ b.t0 ∧ a.t1 ≤ b.t1 ∧ a.t2 ≤ b.t2 ∧ a.effort ≤ b.effort
theorem weakB_iff (a b : Bod.Bd) : Bod.weakB a b = true ↔ bodyLe a b := by
  unfold Bod.weakB Bod.eqBase bodyLe
  rw [Bool.and_eq_true, decide_eq_true_iff]
  simp only [Bod.mostB, List.range, List.range.loop, Bod.rlimb, Bod.Bd.fld, List.all_cons, List.all_nil, Bool.and_true, Bool.and_eq_true, decide_eq_true_iff, Nat.reduceAdd]
  constructor
  · rintro ⟨⟨h1, h2, h3, h4, h5, h6, h7⟩, h⟩
    simp_all
  · rintro ⟨h1, h2, h3, h4, h5, h6, h7, h⟩
    simp_all
theorem weakV_iff {a b : Bod.Bd} (ha : a.okB = true) (hb : b.okB = true) : Bod.weakV a b = true ↔ bodyLe a b := by
  unfold Bod.weakV
  rw [ha, hb, Bool.and_true, Bool.true_and, weakB_iff]
theorem bodyLe_refl (a : Bod.Bd) : bodyLe a a := by simp [bodyLe]
theorem bodyLe_trans {a b c : Bod.Bd} (h : bodyLe a b) (k : bodyLe b c) : bodyLe a c := by
  obtain ⟨h1, h2, h3, h4, h5, h6, h7, g1, g2, g3, g4, g5, g6, g7, g8, g9, g10⟩ := h
  obtain ⟨k1, k2, k3, k4, k5, k6, k7, l1, l2, l3, l4, l5, l6, l7, l8, l9, l10⟩ := k
  refine ⟨h1.trans k1, h2.trans k2, h3.trans k3, h4.trans k4, h5.trans k5, h6.trans k6, h7.trans k7, ?_, ?_, ?_, ?_, ?_, ?_, ?_, ?_, ?_, ?_⟩ <;> omega
theorem bodyLe_anti {a b : Bod.Bd} (h : bodyLe a b) (k : bodyLe b a) : a = b := by
  obtain ⟨h1, h2, h3, h4, h5, h6, h7, g1, g2, g3, g4, g5, g6, g7, g8, g9, g10⟩ := h
  obtain ⟨k1, k2, k3, k4, k5, k6, k7, l1, l2, l3, l4, l5, l6, l7, l8, l9, l10⟩ := k
  have e1 := Int.le_antisymm g1 l1
  have e2 := Int.le_antisymm g2 l2
  have e3 := Int.le_antisymm g3 l3
  have e4 := Int.le_antisymm g4 l4
  have e5 := Int.le_antisymm g5 l5
  have e6 := Int.le_antisymm g6 l6
  have e7 := Int.le_antisymm g7 l7
  have e8 := Int.le_antisymm g8 l8
  have e9 := Int.le_antisymm g9 l9
  have e10 := Int.le_antisymm g10 l10
  cases a; cases b
  simp_all
theorem weak_self {a : Bod.Bd} (ha : a.okB = true) : Bod.weakV a a = true := (weakV_iff ha ha).2 (bodyLe_refl a)
theorem weak_anti {a b : Bod.Bd} (ha : a.okB = true) (hb : b.okB = true) (h : Bod.weakV a b = true) (k : Bod.weakV b a = true) : a = b := bodyLe_anti ((weakV_iff ha hb).1 h) ((weakV_iff hb ha).1 k)
theorem weak_trans {a b c : Bod.Bd} (ha : a.okB = true) (hb : b.okB = true) (hc : c.okB = true) (h : Bod.weakV a b = true) (k : Bod.weakV b c = true) : Bod.weakV a c = true := (weakV_iff ha hc).2 (bodyLe_trans ((weakV_iff ha hb).1 h) ((weakV_iff hb hc).1 k))
theorem weakE_ok {a b : Bod.Bd} (ha : a.okB = true) (hb : b.okB = true) : Bod.weakE a b = 0 := by
  unfold Bod.weakE Bod.Bd.chk
  rw [if_pos ha, if_pos hb]
end Go.Proofs.Ytklppgkolcpbbaa
