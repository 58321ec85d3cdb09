/-
  Walk: the law GroupInverse: it answers true at every two ints; what was there stays as it was.
-/
import Derived.Test.YtockbjpldlopiaaGroupL2
namespace Go.Proofs.Ytockbjpldlopiaa
open Go Go.RowKit

theorem elE_in {n : Int} (h1 : 1 ≤ n) (h2 : n ≤ 1073741789) : Jac.elE n = 0 := by unfold Jac.elE; rw [if_neg (by omega)]
theorem elE_out {n : Int} (h : n < 1 ∨ 1073741789 < n) : Jac.elE n = 1 := by unfold Jac.elE; rw [if_pos h]
theorem elV_out {n : Int} (h : n < 1 ∨ 1073741789 < n) : Jac.elV n = 0 := by unfold Jac.elV; rw [if_pos h]
theorem nuV_out {n : Int} (h : Jac.vld n = false) : Jac.nuV n = 0 := by unfold Jac.nuV; rw [h]; rfl

/-- the second part of the law: numbers of elements; a: the outcome of the first part is true -/
theorem elV_inj {n m : Int} (h1 : 1 ≤ n) (h2 : n ≤ 1073741789) (h3 : 1 ≤ m) (h4 : m ≤ 1073741789) : (Jac.elV n == Jac.elV m) = (n == m) := by
  by_cases h : n = m
  · subst h; simp
  · rw [beq_eq_false_iff_ne.2 h, beq_eq_false_iff_ne]
    intro e
    have a := Jac.nuV_elV h1 h2
    rw [e, Jac.nuV_elV h3 h4] at a
    exact h a.symm

set_option maxRecDepth 100000 in
set_option maxHeartbeats 2000000 in
theorem groupInverse_walk (n m : Int) (_ : (Lit.int .i64 n).wf = true) (_ : (Lit.int .i64 m).wf = true) (w : World) :
    Calls Try.prog 7 #[.int .i64 n, .int .i64 m] w fun e w' => e = .returned (.bool true) ∧ Below w.heap.size w w' := by
  by_cases hn : n < 1 ∨ 1073741789 < n
  · have e1 := elE_out hn
    have e2 := elV_out hn
    cases hv : Jac.vld n with
    | true =>
      have e3 := mulE_yes hv hv
      obtain ⟨e4, k1, k2⟩ := Jac.elV_nuV hv
      have e5 := elE_in k1 k2
      go_enter Try.func7, Try.ntmps7
      go_wp2_with fail
      refine (sane_any _).mono ?_
      rintro e W1 ⟨rfl, hb⟩
      go_wp2_with (first | (go_at_call 15; refine (lelement_any _ _).mono ?_; rintro e w' ⟨rfl, rfl⟩) | (go_at_call 13; refine (valid_any _ _).mono ?_; rintro e w' ⟨rfl, rfl⟩) | (go_at_call 18; refine (element_any _ _).mono ?_; rintro e w' ⟨rfl, rfl⟩) | (go_at_call 19; refine (number_any _ _).mono ?_; rintro e w' ⟨rfl, rfl⟩) | (go_at_call 16; refine (carry (hb.alloc hb.size _) (lmul_at _ _ _)).mono ?_; clear hb; rintro e w' ⟨rfl, hb⟩) | (go_at_call 17; refine (carry hb (lpow_any _ _ _)).mono ?_; clear hb; rintro e w' ⟨rfl, hb⟩))
      all_goals (go_ret; exact ⟨rfl, hb⟩)
    | false =>
      have e3 := mulE_no1 (b := n) hv
      have e4 := nuV_out hv
      go_enter Try.func7, Try.ntmps7
      go_wp2_with fail
      refine (sane_any _).mono ?_
      rintro e W1 ⟨rfl, hb⟩
      go_wp2_with (first | (go_at_call 15; refine (lelement_any _ _).mono ?_; rintro e w' ⟨rfl, rfl⟩) | (go_at_call 13; refine (valid_any _ _).mono ?_; rintro e w' ⟨rfl, rfl⟩) | (go_at_call 18; refine (element_any _ _).mono ?_; rintro e w' ⟨rfl, rfl⟩) | (go_at_call 19; refine (number_any _ _).mono ?_; rintro e w' ⟨rfl, rfl⟩) | (go_at_call 16; refine (carry (hb.alloc hb.size _) (lmul_at _ _ _)).mono ?_; clear hb; rintro e w' ⟨rfl, hb⟩) | (go_at_call 17; refine (carry hb (lpow_any _ _ _)).mono ?_; clear hb; rintro e w' ⟨rfl, hb⟩))
      all_goals (go_ret; exact ⟨rfl, hb⟩)
  · have h1 : 1 ≤ n := by omega
    have h2 : n ≤ 1073741789 := by omega
    clear hn
    have e1 := elE_in h1 h2
    have v1 := Jac.elV_vld h1 h2
    have m1 := mulE_yes v1 v1
    have n1 := Jac.nuV_elV h1 h2
    have hx : (Jac.elV n != n && Jac.elV n != 2147483579 - n) = false := by
      rcases Jac.elV_cases h1 h2 with h | h
      · rw [h]; simp
      · rw [h]; simp
    by_cases hm : m < 1 ∨ 1073741789 < m
    · have f1 := elE_out hm
      clear hm
      rcases Jac.elV_cases h1 h2 with hq | hq
      all_goals
        rw [hq] at v1 m1 n1 hx
        cases hv : Jac.vld n with
        | true =>
          have e3 := mulE_yes hv hv
          obtain ⟨e4, k1, k2⟩ := Jac.elV_nuV hv
          have e5 := elE_in k1 k2
          go_enter Try.func7, Try.ntmps7
          go_wp2_with fail
          refine (sane_any _).mono ?_
          rintro e W1 ⟨rfl, hb⟩
          go_wp2_with (first | (go_at_call 15; refine (lelement_any _ _).mono ?_; rintro e w' ⟨rfl, rfl⟩) | (go_at_call 13; refine (valid_any _ _).mono ?_; rintro e w' ⟨rfl, rfl⟩) | (go_at_call 18; refine (element_any _ _).mono ?_; rintro e w' ⟨rfl, rfl⟩) | (go_at_call 19; refine (number_any _ _).mono ?_; rintro e w' ⟨rfl, rfl⟩) | (go_at_call 16; refine (carry (hb.alloc hb.size _) (lmul_at _ _ _)).mono ?_; clear hb; rintro e w' ⟨rfl, hb⟩) | (go_at_call 17; refine (carry hb (lpow_any _ _ _)).mono ?_; clear hb; rintro e w' ⟨rfl, hb⟩))
          all_goals (go_ret; exact ⟨rfl, hb⟩)
        | false =>
          have e3 := mulE_no1 (b := n) hv
          have e4 := nuV_out hv
          go_enter Try.func7, Try.ntmps7
          go_wp2_with fail
          refine (sane_any _).mono ?_
          rintro e W1 ⟨rfl, hb⟩
          go_wp2_with (first | (go_at_call 15; refine (lelement_any _ _).mono ?_; rintro e w' ⟨rfl, rfl⟩) | (go_at_call 13; refine (valid_any _ _).mono ?_; rintro e w' ⟨rfl, rfl⟩) | (go_at_call 18; refine (element_any _ _).mono ?_; rintro e w' ⟨rfl, rfl⟩) | (go_at_call 19; refine (number_any _ _).mono ?_; rintro e w' ⟨rfl, rfl⟩) | (go_at_call 16; refine (carry (hb.alloc hb.size _) (lmul_at _ _ _)).mono ?_; clear hb; rintro e w' ⟨rfl, hb⟩) | (go_at_call 17; refine (carry hb (lpow_any _ _ _)).mono ?_; clear hb; rintro e w' ⟨rfl, hb⟩))
          all_goals (go_ret; exact ⟨rfl, hb⟩)
    · have h3 : 1 ≤ m := by omega
      have h4 : m ≤ 1073741789 := by omega
      clear hm
      have f1 := elE_in h3 h4
      have hi := elV_inj h1 h2 h3 h4
      rcases Jac.elV_cases h1 h2 with hq | hq
      all_goals
        rw [hq] at v1 m1 n1 hx hi
        by_cases hnm : n = m
        · subst hnm
          clear hi
          cases hv : Jac.vld n with
          | true =>
            have e3 := mulE_yes hv hv
            obtain ⟨e4, k1, k2⟩ := Jac.elV_nuV hv
            have e5 := elE_in k1 k2
            go_enter Try.func7, Try.ntmps7
            go_wp2_with fail
            refine (sane_any _).mono ?_
            rintro e W1 ⟨rfl, hb⟩
            go_wp2_with (first | (go_at_call 15; refine (lelement_any _ _).mono ?_; rintro e w' ⟨rfl, rfl⟩) | (go_at_call 13; refine (valid_any _ _).mono ?_; rintro e w' ⟨rfl, rfl⟩) | (go_at_call 18; refine (element_any _ _).mono ?_; rintro e w' ⟨rfl, rfl⟩) | (go_at_call 19; refine (number_any _ _).mono ?_; rintro e w' ⟨rfl, rfl⟩) | (go_at_call 16; refine (carry (hb.alloc hb.size _) (lmul_at _ _ _)).mono ?_; clear hb; rintro e w' ⟨rfl, hb⟩) | (go_at_call 17; refine (carry hb (lpow_any _ _ _)).mono ?_; clear hb; rintro e w' ⟨rfl, hb⟩))
            all_goals (go_ret; exact ⟨rfl, hb⟩)
          | false =>
            have e3 := mulE_no1 (b := n) hv
            have e4 := nuV_out hv
            go_enter Try.func7, Try.ntmps7
            go_wp2_with fail
            refine (sane_any _).mono ?_
            rintro e W1 ⟨rfl, hb⟩
            go_wp2_with (first | (go_at_call 15; refine (lelement_any _ _).mono ?_; rintro e w' ⟨rfl, rfl⟩) | (go_at_call 13; refine (valid_any _ _).mono ?_; rintro e w' ⟨rfl, rfl⟩) | (go_at_call 18; refine (element_any _ _).mono ?_; rintro e w' ⟨rfl, rfl⟩) | (go_at_call 19; refine (number_any _ _).mono ?_; rintro e w' ⟨rfl, rfl⟩) | (go_at_call 16; refine (carry (hb.alloc hb.size _) (lmul_at _ _ _)).mono ?_; clear hb; rintro e w' ⟨rfl, hb⟩) | (go_at_call 17; refine (carry hb (lpow_any _ _ _)).mono ?_; clear hb; rintro e w' ⟨rfl, hb⟩))
            all_goals (go_ret; exact ⟨rfl, hb⟩)
        · have hnm1 : (n == m) = false := beq_eq_false_iff_ne.2 hnm
          rw [hnm1] at hi
          cases hv : Jac.vld n with
          | true =>
            have e3 := mulE_yes hv hv
            obtain ⟨e4, k1, k2⟩ := Jac.elV_nuV hv
            have e5 := elE_in k1 k2
            go_enter Try.func7, Try.ntmps7
            go_wp2_with fail
            refine (sane_any _).mono ?_
            rintro e W1 ⟨rfl, hb⟩
            go_wp2_with (first | (go_at_call 15; refine (lelement_any _ _).mono ?_; rintro e w' ⟨rfl, rfl⟩) | (go_at_call 13; refine (valid_any _ _).mono ?_; rintro e w' ⟨rfl, rfl⟩) | (go_at_call 18; refine (element_any _ _).mono ?_; rintro e w' ⟨rfl, rfl⟩) | (go_at_call 19; refine (number_any _ _).mono ?_; rintro e w' ⟨rfl, rfl⟩) | (go_at_call 16; refine (carry (hb.alloc hb.size _) (lmul_at _ _ _)).mono ?_; clear hb; rintro e w' ⟨rfl, hb⟩) | (go_at_call 17; refine (carry hb (lpow_any _ _ _)).mono ?_; clear hb; rintro e w' ⟨rfl, hb⟩))
            all_goals (go_ret; exact ⟨rfl, hb⟩)
          | false =>
            have e3 := mulE_no1 (b := n) hv
            have e4 := nuV_out hv
            go_enter Try.func7, Try.ntmps7
            go_wp2_with fail
            refine (sane_any _).mono ?_
            rintro e W1 ⟨rfl, hb⟩
            go_wp2_with (first | (go_at_call 15; refine (lelement_any _ _).mono ?_; rintro e w' ⟨rfl, rfl⟩) | (go_at_call 13; refine (valid_any _ _).mono ?_; rintro e w' ⟨rfl, rfl⟩) | (go_at_call 18; refine (element_any _ _).mono ?_; rintro e w' ⟨rfl, rfl⟩) | (go_at_call 19; refine (number_any _ _).mono ?_; rintro e w' ⟨rfl, rfl⟩) | (go_at_call 16; refine (carry (hb.alloc hb.size _) (lmul_at _ _ _)).mono ?_; clear hb; rintro e w' ⟨rfl, hb⟩) | (go_at_call 17; refine (carry hb (lpow_any _ _ _)).mono ?_; clear hb; rintro e w' ⟨rfl, hb⟩))
            all_goals (go_ret; exact ⟨rfl, hb⟩)
end Go.Proofs.Ytockbjpldlopiaa
