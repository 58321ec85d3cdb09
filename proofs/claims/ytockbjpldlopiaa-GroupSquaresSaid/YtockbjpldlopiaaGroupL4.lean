/-
  Walk: the law GroupSquares: it answers true at every int; what was there stays as it was.
-/
import Derived.Test.YtockbjpldlopiaaGroupL2
namespace Go.Proofs.Ytockbjpldlopiaa
open Go Go.RowKit

theorem rem_lo (n : Int) : -2147483579 < n.tmod 2147483579 := by
  rcases Int.le_total 0 n with h | h
  · have := Int.tmod_nonneg 2147483579 h; omega
  · rw [show n = -(-n) by omega, Int.neg_tmod]
    have := Int.tmod_lt_of_pos (-n) (b := 2147483579) (by omega); omega

set_option maxRecDepth 100000 in
set_option maxHeartbeats 2000000 in
theorem groupSquares_walk (x : Int) (_ : (Lit.int .i64 x).wf = true) (w : World) :
    Calls Try.prog 6 #[.int .i64 x] w fun e w' => e = .returned (.bool true) ∧ Below w.heap.size w w' := by
  have t1 := Int.tmod_lt_of_pos x (b := 2147483579) (by omega)
  have t2 := rem_lo x
  have t3 := Int.mul_tdiv_add_tmod x 2147483579
  have v0 : Jac.vld 0 = false := Jac.vld_out (by omega)
  have vP : Jac.vld 2147483579 = false := Jac.vld_out (by omega)
  have v4 : Jac.vld (-4) = false := Jac.vld_out (by omega)
  rcases Int.lt_trichotomy (x.tmod 2147483579) 0 with h | h | h
  · -- a negative remainder
    have hx : x < 0 := by
      rcases Int.lt_or_le x 0 with hx | hx
      · exact hx
      · have := Int.tmod_nonneg 2147483579 hx; omega
    have vx : Jac.vld x = false := Jac.vld_out (by omega)
    obtain ⟨r, hr⟩ : ∃ r, x.tmod 2147483579 = r := ⟨_, rfl⟩
    rw [hr] at t1 t2 t3 h
    have hne : (r + 2147483579 == 0) = false := by simp; omega
    have hnx : (r + 2147483579 != x) = true := by simp; omega
    have vn := Jac.vld_neg (n := r + 2147483579) (by omega) (by omega)
    have vs := Jac.vld_square (n := r + 2147483579) (by omega) (by omega)
    have b1 := Int.mul_nonneg (a := r + 2147483579) (b := r + 2147483579) (by omega) (by omega)
    have b2 := Int.mul_le_mul (a := r + 2147483579) (b := r + 2147483579) (c := 2147483579) (d := 2147483579) (by omega) (by omega) (by omega) (by omega)
    clear t3
    cases hv : Jac.vld (r + 2147483579) with
    | true =>
      rw [hv] at vn
      have vr := Jac.powV_root hv
      go_enter Try.func6, Try.ntmps6
      go_wp2_with fail
      refine (sane_any _).mono ?_
      rintro e W1 ⟨rfl, hb⟩
      go_wp2_with (first | (go_at_call 15; refine (lelement_any _ _).mono ?_; rintro e w' ⟨rfl, rfl⟩) | (go_at_call 13; refine (valid_any _ _).mono ?_; rintro e w' ⟨rfl, rfl⟩) | (go_at_call 18; refine (element_any _ _).mono ?_; rintro e w' ⟨rfl, rfl⟩) | (go_at_call 19; refine (number_any _ _).mono ?_; rintro e w' ⟨rfl, rfl⟩) | (go_at_call 16; refine (carry (hb.alloc hb.size _) (lmul_at _ _ _)).mono ?_; clear hb; rintro e w' ⟨rfl, hb⟩) | (go_at_call 17; refine (carry hb (lpow_any _ _ _)).mono ?_; clear hb; rintro e w' ⟨rfl, hb⟩))
      go_ret
      exact ⟨rfl, hb⟩
    | false =>
      rw [hv] at vn
      go_enter Try.func6, Try.ntmps6
      go_wp2_with fail
      refine (sane_any _).mono ?_
      rintro e W1 ⟨rfl, hb⟩
      go_wp2_with (first | (go_at_call 15; refine (lelement_any _ _).mono ?_; rintro e w' ⟨rfl, rfl⟩) | (go_at_call 13; refine (valid_any _ _).mono ?_; rintro e w' ⟨rfl, rfl⟩) | (go_at_call 18; refine (element_any _ _).mono ?_; rintro e w' ⟨rfl, rfl⟩) | (go_at_call 19; refine (number_any _ _).mono ?_; rintro e w' ⟨rfl, rfl⟩) | (go_at_call 16; refine (carry (hb.alloc hb.size _) (lmul_at _ _ _)).mono ?_; clear hb; rintro e w' ⟨rfl, hb⟩) | (go_at_call 17; refine (carry hb (lpow_any _ _ _)).mono ?_; clear hb; rintro e w' ⟨rfl, hb⟩))
      go_ret
      exact ⟨rfl, hb⟩
  · rw [h] at t3
    have hx : x.tmod 2147483579 = 0 := h
    clear t1 t2 t3 h
    go_enter Try.func6, Try.ntmps6
    go_wp2_with fail
    refine (sane_any _).mono ?_
    rintro e W1 ⟨rfl, hb⟩
    go_wp2_with (first | (go_at_call 15; refine (lelement_any _ _).mono ?_; rintro e w' ⟨rfl, rfl⟩) | (go_at_call 13; refine (valid_any _ _).mono ?_; rintro e w' ⟨rfl, rfl⟩) | (go_at_call 18; refine (element_any _ _).mono ?_; rintro e w' ⟨rfl, rfl⟩) | (go_at_call 19; refine (number_any _ _).mono ?_; rintro e w' ⟨rfl, rfl⟩) | (go_at_call 16; refine (carry (hb.alloc hb.size _) (lmul_at _ _ _)).mono ?_; clear hb; rintro e w' ⟨rfl, hb⟩) | (go_at_call 17; refine (carry hb (lpow_any _ _ _)).mono ?_; clear hb; rintro e w' ⟨rfl, hb⟩))
    go_ret
    exact ⟨rfl, hb⟩
  · have hx : 0 < x := by
      rcases Int.lt_or_le 0 x with hx | hx
      · exact hx
      · have : x.tmod 2147483579 ≤ 0 := by
          rw [show x = -(-x) by omega, Int.neg_tmod]
          have := Int.tmod_nonneg 2147483579 (show 0 ≤ -x by omega); omega
        omega
    by_cases hs : x < 2147483579
    · have hr : x.tmod 2147483579 = x := by rw [Int.tmod_eq_emod_of_nonneg (by omega), Int.emod_eq_of_lt (by omega) hs]
      rw [hr] at t1 t2 h
      have hne : (x == 0) = false := by simp; omega
      have vn := Jac.vld_neg (n := x) (by omega) (by omega)
      have vs := Jac.vld_square (n := x) (by omega) (by omega)
      have b1 := Int.mul_nonneg (a := x) (b := x) (by omega) (by omega)
      have b2 := Int.mul_le_mul (a := x) (b := x) (c := 2147483579) (d := 2147483579) (by omega) (by omega) (by omega) (by omega)
      clear t3
      cases hv : Jac.vld x with
      | true =>
        rw [hv] at vn
        have vr := Jac.powV_root hv
        go_enter Try.func6, Try.ntmps6
        go_wp2_with fail
        refine (sane_any _).mono ?_
        rintro e W1 ⟨rfl, hb⟩
        go_wp2_with (first | (go_at_call 15; refine (lelement_any _ _).mono ?_; rintro e w' ⟨rfl, rfl⟩) | (go_at_call 13; refine (valid_any _ _).mono ?_; rintro e w' ⟨rfl, rfl⟩) | (go_at_call 18; refine (element_any _ _).mono ?_; rintro e w' ⟨rfl, rfl⟩) | (go_at_call 19; refine (number_any _ _).mono ?_; rintro e w' ⟨rfl, rfl⟩) | (go_at_call 16; refine (carry (hb.alloc hb.size _) (lmul_at _ _ _)).mono ?_; clear hb; rintro e w' ⟨rfl, hb⟩) | (go_at_call 17; refine (carry hb (lpow_any _ _ _)).mono ?_; clear hb; rintro e w' ⟨rfl, hb⟩))
        go_ret
        exact ⟨rfl, hb⟩
      | false =>
        rw [hv] at vn
        go_enter Try.func6, Try.ntmps6
        go_wp2_with fail
        refine (sane_any _).mono ?_
        rintro e W1 ⟨rfl, hb⟩
        go_wp2_with (first | (go_at_call 15; refine (lelement_any _ _).mono ?_; rintro e w' ⟨rfl, rfl⟩) | (go_at_call 13; refine (valid_any _ _).mono ?_; rintro e w' ⟨rfl, rfl⟩) | (go_at_call 18; refine (element_any _ _).mono ?_; rintro e w' ⟨rfl, rfl⟩) | (go_at_call 19; refine (number_any _ _).mono ?_; rintro e w' ⟨rfl, rfl⟩) | (go_at_call 16; refine (carry (hb.alloc hb.size _) (lmul_at _ _ _)).mono ?_; clear hb; rintro e w' ⟨rfl, hb⟩) | (go_at_call 17; refine (carry hb (lpow_any _ _ _)).mono ?_; clear hb; rintro e w' ⟨rfl, hb⟩))
        go_ret
        exact ⟨rfl, hb⟩
    · have vx : Jac.vld x = false := Jac.vld_out (by omega)
      obtain ⟨r, hr⟩ : ∃ r, x.tmod 2147483579 = r := ⟨_, rfl⟩
      rw [hr] at t1 t2 t3 h
      have hne : (r == 0) = false := by simp; omega
      have hnx : (r != x) = true := by simp; omega
      have vn := Jac.vld_neg (n := r) (by omega) (by omega)
      have vs := Jac.vld_square (n := r) (by omega) (by omega)
      have b1 := Int.mul_nonneg (a := r) (b := r) (by omega) (by omega)
      have b2 := Int.mul_le_mul (a := r) (b := r) (c := 2147483579) (d := 2147483579) (by omega) (by omega) (by omega) (by omega)
      clear t3
      cases hv : Jac.vld r with
      | true =>
        rw [hv] at vn
        have vr := Jac.powV_root hv
        go_enter Try.func6, Try.ntmps6
        go_wp2_with fail
        refine (sane_any _).mono ?_
        rintro e W1 ⟨rfl, hb⟩
        go_wp2_with (first | (go_at_call 15; refine (lelement_any _ _).mono ?_; rintro e w' ⟨rfl, rfl⟩) | (go_at_call 13; refine (valid_any _ _).mono ?_; rintro e w' ⟨rfl, rfl⟩) | (go_at_call 18; refine (element_any _ _).mono ?_; rintro e w' ⟨rfl, rfl⟩) | (go_at_call 19; refine (number_any _ _).mono ?_; rintro e w' ⟨rfl, rfl⟩) | (go_at_call 16; refine (carry (hb.alloc hb.size _) (lmul_at _ _ _)).mono ?_; clear hb; rintro e w' ⟨rfl, hb⟩) | (go_at_call 17; refine (carry hb (lpow_any _ _ _)).mono ?_; clear hb; rintro e w' ⟨rfl, hb⟩))
        go_ret
        exact ⟨rfl, hb⟩
      | false =>
        rw [hv] at vn
        go_enter Try.func6, Try.ntmps6
        go_wp2_with fail
        refine (sane_any _).mono ?_
        rintro e W1 ⟨rfl, hb⟩
        go_wp2_with (first | (go_at_call 15; refine (lelement_any _ _).mono ?_; rintro e w' ⟨rfl, rfl⟩) | (go_at_call 13; refine (valid_any _ _).mono ?_; rintro e w' ⟨rfl, rfl⟩) | (go_at_call 18; refine (element_any _ _).mono ?_; rintro e w' ⟨rfl, rfl⟩) | (go_at_call 19; refine (number_any _ _).mono ?_; rintro e w' ⟨rfl, rfl⟩) | (go_at_call 16; refine (carry (hb.alloc hb.size _) (lmul_at _ _ _)).mono ?_; clear hb; rintro e w' ⟨rfl, hb⟩) | (go_at_call 17; refine (carry hb (lpow_any _ _ _)).mono ?_; clear hb; rintro e w' ⟨rfl, hb⟩))
        go_ret
        exact ⟨rfl, hb⟩
end Go.Proofs.Ytockbjpldlopiaa
