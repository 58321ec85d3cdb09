/-
  Walk: the law GroupPowers: it answers true at every two ints and two int32s; what was there stays as it was.
-/
import Derived.Test.YtockbjpldlopiaaGroupL2
import Derived.OpenShut
namespace Go.Proofs.Ytockbjpldlopiaa
open Go Go.RowKit

set_option maxRecDepth 100000 in
set_option maxHeartbeats 2000000 in
theorem groupPowers_walk (x y m n : Int) (_ : (Lit.int .i64 x).wf = true) (_ : (Lit.int .i64 y).wf = true) (wm : (Lit.int .i32 m).wf = true) (wn : (Lit.int .i32 n).wf = true) (w : World) :
    Calls Try.prog 5 #[.int .i64 x, .int .i64 y, .int .i32 m, .int .i32 n] w fun e w' => e = .returned (.bool true) ∧ Below w.heap.size w w' := by
  have bm := bounds_i32 wm
  have bn := bounds_i32 wn
  have bm1 := bm.1
  have bm2 := bm.2
  have bn1 := bn.1
  have bn2 := bn.2
  clear bm bn wm wn
  have bmn := Jac.mul_bounds bm1 bm2 bn1 bn2
  have bmn1 := bmn.1
  have bmn2 := bmn.2
  clear bmn
  obtain ⟨a, ha⟩ : ∃ a, Jac.elV (Jac.red x + 1) = a := ⟨_, rfl⟩
  obtain ⟨b, hb⟩ : ∃ a, Jac.elV (Jac.red y + 1) = a := ⟨_, rfl⟩
  have va := el_vld x
  have vb := el_vld y
  rw [ha] at va
  rw [hb] at vb
  have e0 := Jac.powV_zero va
  have e1 := Jac.powV_one va
  have e2 := Jac.powV_two va
  have e3 := Jac.powV_q va
  have e4 := Jac.powV_period (a := a) m
  have e5 := Jac.powV_period' (a := a) m
  have e6 := Jac.powV_add (m := m) (n := n) va
  have e7 := Jac.powV_powV (m := m) (n := n) va
  have e8 := Jac.powV_mulV (n := m) va vb
  go_enter Try.func5, Try.ntmps5
  go_wp2_with fail
  refine (sane_any _).mono ?_
  rintro e W1 ⟨rfl, hb⟩
  go_wp2_with (first | (go_at_call 15; refine (lelement_any _ _).mono ?_; rintro e w' ⟨rfl, rfl⟩) | (go_at_call 13; refine (valid_any _ _).mono ?_; rintro e w' ⟨rfl, rfl⟩) | (go_at_call 18; refine (element_any _ _).mono ?_; rintro e w' ⟨rfl, rfl⟩) | (go_at_call 19; refine (number_any _ _).mono ?_; rintro e w' ⟨rfl, rfl⟩) | (go_at_call 16; refine (carry (hb.alloc hb.size _) (lmul_at _ _ _)).mono ?_; clear hb; rintro e w' ⟨rfl, hb⟩) | (go_at_call 17; refine (carry hb (lpow_any _ _ _)).mono ?_; clear hb; rintro e w' ⟨rfl, hb⟩))
  go_ret
  exact ⟨rfl, hb⟩
end Go.Proofs.Ytockbjpldlopiaa
