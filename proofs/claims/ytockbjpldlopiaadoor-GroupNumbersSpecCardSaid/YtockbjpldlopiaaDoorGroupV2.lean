/-
  Walks: power, exponent and Valid of the reference; Mul, Element, Number of the program and of the reference. None of them changes the world.
-/
import Derived.Test.YtockbjpldlopiaaDoorGroupW1
namespace Go.Proofs.YtockbjpldlopiaaDoor
open Go.RowKit

theorem ret_int {k : IntKind} {a b : Int} (h : a = b) : Ending.returned (.int k a) = .returned (.int k b) := by rw [h]

def PwRel (a n : Nat) (x m c : Value) : Prop := ∃ x' m' c' : Nat, Jac.PInv a n c' x' m' ∧ m' ≤ n ∧ x = .int .i64 x' ∧ m = .int .i64 m' ∧ c = .int .i64 c'

set_option maxHeartbeats 400000 in
theorem power_any (a n : Nat) (w : World) (h : a < 2147483579) (hn : n ≤ 9223372036854775807) :
    Calls Tryd.prog 22 #[.int .i64 a, .int .i64 n] w fun e w' => e = .returned (.int .i64 (Jac.pm a n)) ∧ w = w' := by
  go_enter Tryd.func22, Tryd.ntmps22
  go_wp2
  go_loop [0, 1, 5] (fun u v z => PwRel a n u v z) (fun _ v _ => (intOf v).toNat)
  case atStart => exact ⟨a, n, 1, Jac.pinv_start h, Nat.le_refl _, rfl, rfl, rfl⟩
  case round =>
    obtain ⟨x, m, c, hi, hmn, rfl, rfl, rfl⟩ := hrel
    have hc := hi.1
    have hx := hi.2.1
    have HI := Lib.hid hi
    clear hi
    have b1 : c * x ≤ 2147483578 * 2147483578 := Nat.mul_le_mul (by omega) (by omega)
    have b2 : x * x ≤ 2147483578 * 2147483578 := Nat.mul_le_mul (by omega) (by omega)
    by_cases h0 : 0 < m
    · go_wp2
      all_goals simp only [beq_iff_eq, beq_eq_false_iff_ne, ne_eq] at *
      · exact ⟨⟨_, _, _, Jac.pinv_odd HI.out (by omega), by omega, rfl, rfl, rfl⟩, by simp [intOf]; omega⟩
      · exact ⟨⟨_, _, _, Jac.pinv_even HI.out (by omega), by omega, rfl, rfl, rfl⟩, by simp [intOf]; omega⟩
    · go_wp2
      obtain rfl : m = 0 := by omega
      go_ret
      exact ⟨ret_int (by rw [Jac.pinv_end HI.out]), rfl⟩

theorem power_int (a n : Int) (w : World) (h0 : 0 ≤ a) (h : a < 2147483579) (hn : 0 ≤ n) (hn' : n ≤ 9223372036854775807) :
    Calls Tryd.prog 22 #[.int .i64 a, .int .i64 n] w fun e w' => e = .returned (.int .i64 (Jac.pm a.toNat n.toNat)) ∧ w = w' := by
  have := power_any a.toNat n.toNat w (by omega) (by omega)
  rwa [Int.toNat_of_nonneg h0, Int.toNat_of_nonneg hn] at this

theorem rvalid_any (x : Int) (w : World) :
    Calls Tryd.prog 16 #[.int .i64 x] w fun e w' => e = .returned (.bool (Jac.vld x)) ∧ w = w' := by
  by_cases h : x < 1 ∨ 2147483579 ≤ x
  · have hv : Hid (Jac.vld x = false) := Lib.hid (Jac.vld_out (by omega))
    rcases h with h | h
    · go_enter Tryd.func16, Tryd.ntmps16
      go_wp2
      go_ret
      exact ⟨ret_bool hv.out.symm, rfl⟩
    · go_enter Tryd.func16, Tryd.ntmps16
      go_wp2
      go_ret
      exact ⟨ret_bool hv.out.symm, rfl⟩
  · have hv := Lib.hid (Jac.vld_iff' (x := x) (by omega) (by omega))
    go_enter Tryd.func16, Tryd.ntmps16
    go_wp2_with (go_at_call 22; refine (power_int _ _ _ (by omega) (by omega) (by omega) (by omega)).mono ?_; rintro e w' ⟨rfl, rfl⟩)
    go_ret
    exact ⟨ret_bool (by rw [hv.out]; rfl), rfl⟩

theorem ret_ii {a b c d : Int} (h : a = b) (h' : c = d) : Ending.returned (.tuple #[.int .i64 a, .int .i64 c]) = .returned (.tuple #[.int .i64 b, .int .i64 d]) := by rw [h, h']

theorem mul_any (a b : Int) (w : World) :
    Calls Tryd.prog 14 #[.int .i64 a, .int .i64 b] w fun e w' => e = .returned (.tuple #[.int .i64 (Jac.mulV a b), .int .i64 (Jac.mulE a b)]) ∧ w = w' := by
  rcases Jac.mul_cases a b with ⟨ha, hm⟩ | ⟨ha, hb, hm⟩ | ⟨ha, hb, ba, bb, bm, hm⟩
  all_goals
    have HM := Lib.hid hm
    clear hm
    try (have ba1 := ba.1; have ba2 := ba.2; have bb1 := bb.1; have bb2 := bb.2)
    go_enter Tryd.func14, Tryd.ntmps14
    go_wp2_with (go_at_call 15; refine (valid_any _ _).mono ?_; rintro e w' ⟨rfl, rfl⟩)
    go_ret2
    exact ⟨ret_ii HM.out.1.symm HM.out.2.symm, rfl⟩

theorem element_any (n : Int) (w : World) :
    Calls Tryd.prog 6 #[.int .i64 n] w fun e w' => e = .returned (.tuple #[.int .i64 (Jac.elV n), .int .i64 (Jac.elE n)]) ∧ w = w' := by
  rcases Jac.el_cases n with ⟨hn, hm⟩ | ⟨hn, hm⟩ | ⟨hn1, hn2, hv, hm⟩ | ⟨hn1, hn2, hv, hm⟩
  all_goals
    have HM := Lib.hid hm
    clear hm
    go_enter Tryd.func6, Tryd.ntmps6
    go_wp2_with (go_at_call 15; refine (valid_any _ _).mono ?_; rintro e w' ⟨rfl, rfl⟩)
    go_ret2
    exact ⟨ret_ii HM.out.1.symm HM.out.2.symm, rfl⟩

theorem number_any (n : Int) (w : World) :
    Calls Tryd.prog 8 #[.int .i64 n] w fun e w' => e = .returned (.tuple #[.int .i64 (Jac.nuV n), .int .i64 (Jac.mulE n n)]) ∧ w = w' := by
  rcases Jac.nu_cases n with ⟨hv, hm⟩ | ⟨hv, h1, h2, h3, hm⟩ | ⟨hv, h1, h2, h3, hm⟩
  all_goals
    have HM := Lib.hid hm
    clear hm
    go_enter Tryd.func8, Tryd.ntmps8
    go_wp2_with (go_at_call 15; refine (valid_any _ _).mono ?_; rintro e w' ⟨rfl, rfl⟩)
    go_ret2
    exact ⟨ret_ii HM.out.1.symm HM.out.2.symm, rfl⟩
end Go.Proofs.YtockbjpldlopiaaDoor
