/-
  Plain facts: caps met one after the other; a cap of a list of caps replaced.
-/
import Derived.Test.YtklppgkolcpbbaaBodyP3
namespace Go.Proofs.Ytklppgkolcpbbaa
set_option linter.unusedSimpArgs false
set_option linter.unusedVariables false
open Go Go.RowKit
def stepC (p : Bod.Bd × Int) (c : Bod.Cp) : Bod.Bd × Int := if p.2 = 0 then (p.1.allB [c], p.1.allE [c]) else p
def chainC (b : Bod.Bd) (l : List Bod.Cp) : Bod.Bd × Int := l.foldl stepC (b, b.chk)
theorem chain_snoc (b : Bod.Bd) (l : List Bod.Cp) (c : Bod.Cp) : chainC b (l ++ [c]) = stepC (chainC b l) c := by simp [chainC]
theorem chain_rev (b : Bod.Bd) : ∀ m : List Bod.Cp, m.length ≤ 64 → (chainC b m.reverse).2 = b.allE m.reverse ∧ (b.allE m.reverse = 0 → (chainC b m.reverse).1 = b.meets m.reverse)
  | [], _ => by
    refine ⟨?_, fun _ => rfl⟩
    show b.chk = _
    unfold Bod.Bd.chk Bod.Bd.allE
    split <;> simp
  | c :: m, h => by
    obtain ⟨h1, h2⟩ := chain_rev b m (by simp at h; omega)
    rw [List.reverse_cons, chain_snoc]
    have hl : ¬ 64 < m.reverse.length := by simp at h ⊢; omega
    have hl2 : ¬ 64 < (m.reverse ++ [c]).length := by simp at h ⊢; omega
    unfold stepC
    by_cases h0 : b.allE m.reverse = 0
    · rw [if_pos (h1.trans h0)]
      obtain ⟨_, _, hb, hok, _⟩ := (all_cases b m.reverse).resolve_left fun h => h.1 h0
      have hm := meets_ok m.reverse b hb hok
      rw [h2 h0]
      have e1 : (b.meets m.reverse).allE [c] = b.allE (m.reverse ++ [c]) := by
        unfold Bod.Bd.allE
        rw [if_pos hm, if_pos hb, if_neg hl2, List.all_append, hok]
        simp
      refine ⟨e1, fun hz => ?_⟩
      show (b.meets m.reverse).allB [c] = _
      unfold Bod.Bd.allB
      rw [if_pos (e1.trans hz)]
      simp [Bod.Bd.meets]
    · rw [if_neg (fun e => h0 (h1.symm.trans e))]
      have e1 : b.allE (m.reverse ++ [c]) = b.allE m.reverse := by
        unfold Bod.Bd.allE at *
        by_cases hb : b.okB = true
        · rw [if_pos hb, if_neg hl] at h0 ⊢
          rw [if_pos hb, if_neg hl2, List.all_append]
          by_cases hok : m.reverse.all Bod.Cp.ok = true
          · rw [if_pos hok] at h0; exact absurd rfl h0
          · simp only [Bool.not_eq_true] at hok
            rw [hok]; simp
        · rw [if_neg hb, if_neg hb]
      exact ⟨h1.trans e1.symm, fun hz => absurd (e1.symm.trans hz) h0⟩
theorem chain_eq (b : Bod.Bd) (l : List Bod.Cp) (h : l.length ≤ 64) : (chainC b l).2 = b.allE l ∧ (b.allE l = 0 → (chainC b l).1 = b.meets l) := by
  have := chain_rev b l.reverse (by simpa using h)
  simpa using this
theorem chain_succ {b : Bod.Bd} {l : List Bod.Cp} {k : Nat} {c : Bod.Cp} (h : l[k]? = some c) : chainC b (l.take (k + 1)) = stepC (chainC b (l.take k)) c := by
  rw [List.take_add_one, h]
  exact chain_snoc _ _ _
theorem capsL_set {c : Bod.Cp} : ∀ {l : List Bod.Cp} {k : Nat}, k < l.length → (capsL l).take (k * 3) ++ (cellsC c).toList ++ (capsL l).drop (k * 3 + 3) = capsL (l.set k c)
  | [], k, h => by simp at h
  | x :: l, 0, h => by simp [capsL, cellsC]
  | x :: l, k + 1, h => by
    have ih := capsL_set (c := c) (l := l) (k := k) (by simpa using h)
    have e : capsL (x :: l) = (cellsC x).toList ++ capsL l := rfl
    have e2 : capsL ((x :: l).set (k + 1) c) = (cellsC x).toList ++ capsL (l.set k c) := rfl
    have hx : (cellsC x).toList.length = 3 := rfl
    rw [e, e2, ← ih, List.take_append, List.drop_append, hx, show (k + 1) * 3 - 3 = k * 3 by omega, show (k + 1) * 3 + 3 - 3 = k * 3 + 3 by omega, List.take_of_length_le (by rw [hx]; omega), List.drop_of_length_le (by rw [hx]; omega)]
    simp
end Go.Proofs.Ytklppgkolcpbbaa
