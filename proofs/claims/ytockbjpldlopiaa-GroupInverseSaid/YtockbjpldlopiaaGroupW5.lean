/-
  Walks: the helpers of the statements about the group: element, mul at two numbers, pow.
-/
import Derived.Test.YtockbjpldlopiaaGroupW4
import Derived.Test.YtockbjpldlopiaaGrpLaw
namespace Go.Proofs.Ytockbjpldlopiaa
open Go Go.RowKit

theorem lelement_any (x : Int) (w : World) :
    Calls Try.prog 15 #[.int .i64 x] w fun e w' => e = .returned (.int .i64 (Jac.elV (Jac.red x + 1))) ∧ w = w' := by
  have h1 := Int.tmod_lt_of_pos x (b := 1073741789) (by omega)
  have h2 := Jac.tmod_lo x
  have HR := Lib.hid (Jac.red_eq x)
  go_enter Try.func15, Try.ntmps15
  go_wp2_with (go_at_call 18; refine (element_any _ _).mono ?_; rintro e w' ⟨rfl, rfl⟩)
  · go_ret
    exact ⟨ret_int (by rw [HR.out, if_pos (by assumption)]), rfl⟩
  · go_ret
    exact ⟨ret_int (by rw [HR.out, if_neg (by omega)]), rfl⟩

theorem lpow_any (a n : Int) (w : World) :
    Calls Try.prog 17 #[.int .i64 a, .int .i64 n] w fun e w' => e = .returned (.int .i64 (Jac.powV a n)) ∧ Below w.heap.size w w' := by
  rcases Jac.pow_cases a n with ⟨ha, hm⟩ | ⟨ha, ba1, ba2, hm⟩
  all_goals
    have HM := Lib.hid hm.1
    have hm2 := hm.2
    clear hm
    go_enter Try.func17, Try.ntmps17
    go_wp2_with (go_at_call 11; refine (pow_any _ _ _).mono ?_; rintro e w' ⟨rfl, hb⟩)
    go_ret
  · exact ⟨ret_int HM.out.symm, by assumption⟩
  · exact ⟨rfl, by assumption⟩

theorem lmul_any (a b : Int) (bl : Nat) (w : World) (c0 : w.cell? ⟨bl, 0, none⟩ = some (.int .i64 a)) (c1 : w.cell? ⟨bl, 1, none⟩ = some (.int .i64 b)) :
    Calls Try.prog 16 #[.slice (some ⟨bl, 0, none⟩) 2 2] w fun e w' => e = .returned (.int .i64 (Jac.mulV a b)) ∧ w = w' := by
  go_enter Try.func16, Try.ntmps16
  go_wp2
  go_loop [3, 10] (fun m i => (m = .int .i64 1 ∧ i = .int .i64 0) ∨ (Jac.vld a = true ∧ m = .int .i64 a ∧ i = .int .i64 1) ∨ (m = .int .i64 (Jac.mulV a b) ∧ i = .int .i64 2)) (fun _ i => 2 - (intOf i).toNat)
  case atStart => exact .inl ⟨rfl, rfl⟩
  case round =>
    rcases hrel with ⟨rfl, rfl⟩ | ⟨hv, rfl, rfl⟩ | ⟨rfl, rfl⟩
    · rcases Jac.mul_cases 1 a with ⟨h, _⟩ | ⟨_, ha, hm⟩ | ⟨_, ha, _, _, _, hm⟩
      · rw [Jac.vld_one] at h; cases h
      · have he := hm.2
        have hz := Lib.hid (Jac.mulV_no (a := a) (b := b) (by rw [ha]; simp))
        clear hm
        go_wp2_with (go_at_call 9; refine (mul_any _ _ _).mono ?_; rintro e w' ⟨rfl, rfl⟩)
        go_ret
        exact ⟨ret_int hz.out.symm, rfl⟩
      · have he := hm.2
        have hz := Lib.hid (Jac.one_mulV ha)
        clear hm
        go_wp2_with (go_at_call 9; refine (mul_any _ _ _).mono ?_; rintro e w' ⟨rfl, rfl⟩)
        go_round
        case rel => exact .inr (.inl ⟨ha, by rw [hz.out], rfl⟩)
        case measure => simp [intOf]
    · rcases Jac.mul_cases a b with ⟨h, _⟩ | ⟨_, ha, hm⟩ | ⟨_, ha, _, _, _, hm⟩
      · rw [hv] at h; cases h
      · have he := hm.2
        have hz := Lib.hid hm.1
        clear hm
        go_wp2_with (go_at_call 9; refine (mul_any _ _ _).mono ?_; rintro e w' ⟨rfl, rfl⟩)
        go_ret
        exact ⟨ret_int hz.out.symm, rfl⟩
      · have he := hm.2
        clear hm
        go_wp2_with (go_at_call 9; refine (mul_any _ _ _).mono ?_; rintro e w' ⟨rfl, rfl⟩)
        go_round
        case rel => exact .inr (.inr ⟨rfl, rfl⟩)
        case measure => simp [intOf]
    · go_wp2
      go_ret
      exact ⟨rfl, rfl⟩
end Go.Proofs.Ytockbjpldlopiaa
