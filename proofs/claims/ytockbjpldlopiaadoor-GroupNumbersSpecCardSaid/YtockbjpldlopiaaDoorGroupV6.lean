/-
  Walk: sane of the statements about the group: it answers true; it makes memory and changes nothing that was there.
-/
import Derived.Test.YtockbjpldlopiaaDoorGroupV4
import Derived.Test.YtockbjpldlopiaaDoorGrpLaw
namespace Go.Proofs.YtockbjpldlopiaaDoor
open Go Go.RowKit

theorem mulE_yes {a b : Int} (ha : Jac.vld a = true) (hb : Jac.vld b = true) : Jac.mulE a b = 0 := by simp [Jac.mulE, ha, hb]
theorem mulE_no1 {a b : Int} (ha : Jac.vld a = false) : Jac.mulE a b = 100 := by simp [Jac.mulE, ha]
theorem mulE_no2 {a b : Int} (hb : Jac.vld b = false) : Jac.mulE a b = 100 := by simp [Jac.mulE, hb]

set_option maxRecDepth 100000 in
set_option maxHeartbeats 1000000 in
theorem sane_any (w : World) :
    Calls Tryd.prog 5 #[] w fun e w' => e = .returned (.bool true) ∧ Below w.heap.size w w' := by
  have v1 := Jac.vld_one
  have v2 := Jac.vld_two
  have v4 := Jac.vld_four
  have v0 : Jac.vld 0 = false := Jac.vld_out (by omega)
  have vP : Jac.vld 2147483579 = false := Jac.vld_out (by omega)
  have vm := Jac.vld_minus
  have vq : Jac.vld 2147483577 = true := by
    have := Jac.vld_neg (n := 2) (by omega) (by omega)
    rw [v2] at this
    exact this
  have e1 : Jac.powV 4 2 = 16 := by rw [Jac.powV_two v4, Jac.mulV_ok v4 v4]; rfl
  have e2 := Jac.powV_q v4
  have e3 := Jac.pow_four
  have e4 : Jac.mulV 4 4 = 16 := by rw [Jac.mulV_ok v4 v4]; rfl
  have e5 : Jac.elV 2 = 2147483577 := by unfold Jac.elV; rw [if_neg (by omega), v2]; rfl
  have e6 : Jac.elE 2 = 0 := by unfold Jac.elE; rw [if_neg (by omega)]
  have e7 : Jac.elE 0 = 1 := by unfold Jac.elE; rw [if_pos (by omega)]
  have e8 : Jac.elE 1073741790 = 1 := by unfold Jac.elE; rw [if_pos (by omega)]
  have e9 : Jac.nuV 2147483577 = 2 := by unfold Jac.nuV; rw [if_pos vq, if_neg (by omega)]; rfl
  have m1 := mulE_yes v4 v4
  have m2 := mulE_no1 (b := 0) v0
  have m3 := mulE_no2 (a := 4) v2
  have m4 := mulE_yes vq vq
  have m5 := mulE_no2 (a := 2) v2
  go_enter Tryd.func5, Tryd.ntmps5
  go_wp2_with fail
  refine (pow_any _ _ _).mono ?_
  rintro e W1 ⟨rfl, hb1⟩
  go_wp2_with fail
  refine (pow_any _ _ _).mono ?_
  rintro e W2 ⟨rfl, hb2⟩
  go_wp2_with fail
  refine (pow_any _ _ _).mono ?_
  rintro e W3 ⟨rfl, hb3⟩
  go_wp2_with fail
  refine (pow_any _ _ _).mono ?_
  rintro e W4 ⟨rfl, hb4⟩
  have hb : Below w.heap.size w W4 := hb1.trans ((hb2.mono hb1.size).trans ((hb3.mono (Nat.le_trans hb1.size hb2.size)).trans (hb4.mono (Nat.le_trans hb1.size (Nat.le_trans hb2.size hb3.size)))))
  clear hb1 hb2 hb3 hb4
  go_wp2_with (first | (go_at_call 14; refine (mul_any _ _ _).mono ?_; rintro e w' ⟨rfl, rfl⟩) | (go_at_call 6; refine (element_any _ _).mono ?_; rintro e w' ⟨rfl, rfl⟩) | (go_at_call 8; refine (number_any _ _).mono ?_; rintro e w' ⟨rfl, rfl⟩) | (go_at_call 15; refine (valid_any _ _).mono ?_; rintro e w' ⟨rfl, rfl⟩))
  go_ret
  exact ⟨rfl, hb⟩
end Go.Proofs.YtockbjpldlopiaaDoor
