/-
  The walk through group.Valid: for every int it answers whether the number is an element (vld). It leaves the world alone.
-/
import Derived.Test.YtockbjpldlopiaaDoorRows
import Derived.Test.YtockbjpldlopiaaDoorGrp
import Derived.WalkKit
import Derived.Lib.Hide
import Derived.WalkSpells
import Derived.WalkLawsBesides
namespace Go.Proofs.YtockbjpldlopiaaDoor
open Go.RowKit

def VRel (x0 : Nat) (x n s : Value) : Prop := ∃ (a m : Nat) (q : Bool), Jac.Inv x0 a m q ∧ x = .int .i64 a ∧ n = .int .i64 m ∧ s = .bool q
def VRel2 (x0 m a1 : Nat) (x s : Value) : Prop := ∃ (a : Nat) (q : Bool), Jac.Inv x0 a m q ∧ a ≤ a1 ∧ x = .int .i64 a ∧ s = .bool q

theorem ret_bool {a b : Bool} (h : a = b) : Ending.returned (.bool a) = .returned (.bool b) := by rw [h]

theorem valid_out (x : Int) (w : World) (h : x < 1 ∨ 2147483579 ≤ x) :
    Calls Tryd.prog 15 #[.int .i64 x] w fun e w' => e = .returned (.bool (Jac.vld x)) ∧ w = w' := by
  have hv : Hid (Jac.vld x = false) := Lib.hid (Jac.vld_out (by omega))
  rcases h with h | h
  · go_enter Tryd.func15, Tryd.ntmps15
    go_wp2; go_step3
    go_wp2
    rw [Exit.noGoto_ret]
    go_ret
    exact ⟨ret_bool hv.out.symm, rfl⟩
  · have h' : ¬ x < 1 := by omega
    go_enter Tryd.func15, Tryd.ntmps15
    go_wp2; go_step3
    go_wp2
    rw [Exit.noGoto_ret]
    go_ret
    exact ⟨ret_bool hv.out.symm, rfl⟩

set_option maxHeartbeats 400000 in
theorem valid_in (x : Nat) (w : World) (h : 1 ≤ x) (h0 : x < 2147483579) :
    Calls Tryd.prog 15 #[.int .i64 x] w fun e w' => e = .returned (.bool (Jac.vld x)) ∧ w = w' := by
  go_enter Tryd.func15, Tryd.ntmps15
  go_wp2; go_step3
  go_wp2; go_step3; go_wp2
  go_loop [0, 3, 4] (fun a b c => VRel x a b c) (fun a _ _ => (intOf a).toNat)
  case atStart => exact ⟨x, 2147483579, true, Jac.inv_start h h0, rfl, rfl, rfl⟩
  case round =>
    obtain ⟨a, m, q, hi, rfl, rfl, rfl⟩ := hrel
    have hi1 := hi.1
    have hi2 := hi.2.1
    have hi3 := hi.2.2.2.1
    have HI := Lib.hid hi
    clear hi
    by_cases hc : 1 < a
    · go_wp2
      go_loop [0, 4] (fun u v => VRel2 x m a u v) (fun u _ => (intOf u).toNat)
      case atStart => exact ⟨a, q, HI.out, Nat.le_refl _, rfl, rfl⟩
      case round =>
        obtain ⟨b, r, hj, hba, rfl, rfl⟩ := hrel
        have hj1 := hj.1
        have HJ := Lib.hid hj
        clear hj
        go_wp2
        all_goals simp only [beq_iff_eq, beq_eq_false_iff_ne, ne_eq] at *
        · exact ⟨⟨b / 2, _, Jac.inv_even HJ.out (by omega) _ (if_pos (by omega)).symm, by omega, rfl, rfl⟩, by simp [intOf]; omega⟩
        · exact ⟨⟨b / 2, _, Jac.inv_even HJ.out (by omega) _ (if_pos (by omega)).symm, by omega, rfl, rfl⟩, by simp [intOf]; omega⟩
        · exact ⟨⟨b / 2, _, Jac.inv_even HJ.out (by omega) _ (if_neg (by omega)).symm, by omega, rfl, rfl⟩, by simp [intOf]; omega⟩
        · obtain rfl : b = 1 := by omega
          have he := Jac.inv_end HJ.out
          go_ret
          exact ⟨ret_bool he, rfl⟩
        · exact ⟨⟨m % b, b, _, Jac.inv_odd HJ.out (by omega) (by omega) _ (if_pos (by omega)).symm, rfl, rfl, rfl⟩, by simp [intOf]; have := Nat.mod_lt m hj1; omega⟩
        · exact ⟨⟨m % b, b, _, Jac.inv_odd HJ.out (by omega) (by omega) _ (if_neg (by omega)).symm, rfl, rfl, rfl⟩, by simp [intOf]; have := Nat.mod_lt m hj1; omega⟩
        · exact ⟨⟨m % b, b, _, Jac.inv_odd HJ.out (by omega) (by omega) _ (if_neg (by omega)).symm, rfl, rfl, rfl⟩, by simp [intOf]; have := Nat.mod_lt m hj1; omega⟩
    · go_wp2
      obtain rfl : a = 1 := by omega
      have he := Jac.inv_end HI.out
      go_ret
      exact ⟨ret_bool he, rfl⟩

theorem valid_any (x : Int) (w : World) :
    Calls Tryd.prog 15 #[.int .i64 x] w fun e w' => e = .returned (.bool (Jac.vld x)) ∧ w = w' := by
  by_cases h : x < 1 ∨ 2147483579 ≤ x
  · exact valid_out x w h
  · obtain ⟨n, rfl⟩ : ∃ n : Nat, x = n := ⟨x.toNat, by omega⟩
    exact valid_in n w (by omega) (by omega)
end Go.Proofs.YtockbjpldlopiaaDoor
