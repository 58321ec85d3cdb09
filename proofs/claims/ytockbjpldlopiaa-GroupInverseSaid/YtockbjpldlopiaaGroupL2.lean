/-
  Walk: the law GroupLaws: it answers true at every three ints; what was there stays as it was.
-/
import Derived.Test.YtockbjpldlopiaaGroupW6
import Derived.Test.YtockbjpldlopiaaKit
namespace Go.Proofs.Ytockbjpldlopiaa
open Go Go.RowKit

theorem lmul_at (a b : Int) (w : World) :
    Calls Try.prog 16 #[.slice (some ⟨w.heap.size, 0, none⟩) 2 2] (w.alloc (.cells #[.int .i64 a, .int .i64 b] 3))
      fun e w' => e = .returned (.int .i64 (Jac.mulV a b)) ∧ Below (w.alloc (.cells #[.int .i64 a, .int .i64 b] 3)).heap.size (w.alloc (.cells #[.int .i64 a, .int .i64 b] 3)) w' :=
  (lmul_any a b _ _ (by simp) (by simp)).mono fun _ _ ⟨h, h'⟩ => ⟨h, h' ▸ Below.refl _ _⟩

theorem el_vld (x : Int) : Jac.vld (Jac.elV (Jac.red x + 1)) = true := by
  have := Jac.red_bounds x
  exact Jac.elV_vld (by omega) (by omega)

set_option maxRecDepth 100000 in
set_option maxHeartbeats 1000000 in
theorem groupLaws_walk (x y z : Int) (_ : (Lit.int .i64 x).wf = true) (_ : (Lit.int .i64 y).wf = true) (_ : (Lit.int .i64 z).wf = true) (w : World) :
    Calls Try.prog 4 #[.int .i64 x, .int .i64 y, .int .i64 z] w fun e w' => e = .returned (.bool true) ∧ Below w.heap.size w w' := by
  obtain ⟨a, ha⟩ : ∃ a, Jac.elV (Jac.red x + 1) = a := ⟨_, rfl⟩
  obtain ⟨b, hb⟩ : ∃ a, Jac.elV (Jac.red y + 1) = a := ⟨_, rfl⟩
  obtain ⟨c, hc⟩ : ∃ a, Jac.elV (Jac.red z + 1) = a := ⟨_, rfl⟩
  have va := el_vld x
  have vb := el_vld y
  have vc := el_vld z
  rw [ha] at va
  rw [hb] at vb
  rw [hc] at vc
  obtain ⟨d, hd⟩ : ∃ d, Jac.mulV a b = d := ⟨_, rfl⟩
  have vd := Jac.vld_mulV va vb
  have e1 : Jac.mulV b a = d := by rw [Jac.mulV_comm, hd]
  have e2 : Jac.mulV a (Jac.mulV b c) = Jac.mulV d c := by rw [← Jac.mulV_assoc va vb vc, hd]
  have e3 := Jac.mulV_one va
  have e4 := Jac.powV_inv va
  have e5 : Jac.mulV d (Jac.powV b (-1)) = a := by
    rw [← hd, Jac.mulV_assoc va vb (Jac.vld_powV vb), Jac.powV_inv vb, Jac.mulV_one va]
  have e6 : Jac.mulV (Jac.powV a (-1)) (Jac.powV b (-1)) = Jac.powV d (-1) := by rw [← hd, Jac.powV_mulV va vb]
  rw [hd] at vd
  go_enter Try.func4, Try.ntmps4
  go_wp2_with fail
  refine (sane_any _).mono ?_
  rintro e W1 ⟨rfl, hb⟩
  go_wp2_with (first | (go_at_call 15; refine (lelement_any _ _).mono ?_; rintro e w' ⟨rfl, rfl⟩) | (go_at_call 13; refine (valid_any _ _).mono ?_; rintro e w' ⟨rfl, rfl⟩) | (go_at_call 16; refine (carry (hb.alloc hb.size _) (lmul_at _ _ _)).mono ?_; clear hb; rintro e w' ⟨rfl, hb⟩) | (go_at_call 17; refine (carry hb (lpow_any _ _ _)).mono ?_; clear hb; rintro e w' ⟨rfl, hb⟩))
  go_ret
  exact ⟨rfl, hb⟩
end Go.Proofs.Ytockbjpldlopiaa
