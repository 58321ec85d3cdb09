/-
  Walk: least, at one number: the number modulo the order.
-/
import Derived.Test.YtockbjpldlopiaaDoorGroupV2
namespace Go.Proofs.YtockbjpldlopiaaDoor
open Go.RowKit

theorem least_one (x : Int) (b : Nat) (w : World) (hc : w.cell? ⟨b, 0, none⟩ = some (.int .i64 x)) :
    Calls Tryd.prog 21 #[.slice (some ⟨b, 0, none⟩) 1 1] w fun e w' => e = .returned (.int .i64 (Jac.red x)) ∧ w = w' := by
  have h1 := Int.tmod_lt_of_pos x (b := 1073741789) (by omega)
  have h2 := Jac.tmod_lo x
  have HR := Lib.hid (Jac.red_least x)
  have hr := Jac.red_bounds x
  have hr1 := hr.1
  have hr2 := hr.2
  clear hr
  go_enter Tryd.func21, Tryd.ntmps21
  go_wp2
  go_loop [3, 8] (fun m i => (m = .int .i64 1 ∧ i = .int .i64 0) ∨ (m = .int .i64 (Jac.red x) ∧ i = .int .i64 1)) (fun _ i => 1 - (intOf i).toNat)
  case atStart => exact .inl ⟨rfl, rfl⟩
  case round =>
    rcases hrel with ⟨rfl, rfl⟩ | ⟨rfl, rfl⟩
    · go_wp2
      go_round
      case rel => exact .inr ⟨by rw [HR.out], rfl⟩
      case measure => simp [intOf]
    · go_wp2
      go_ret
      exact ⟨rfl, rfl⟩
end Go.Proofs.YtockbjpldlopiaaDoor
