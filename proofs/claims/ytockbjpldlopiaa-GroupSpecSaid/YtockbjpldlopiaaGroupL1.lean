/-
  Walk: the law GroupSpec: it answers true at every three ints; what was there stays as it was.
-/
import Derived.Test.YtockbjpldlopiaaGroupW6
namespace Go.Proofs.Ytockbjpldlopiaa
open Go Go.RowKit

set_option maxRecDepth 100000 in
theorem groupSpec_walk (a b n : Int) (_ : (Lit.int .i64 a).wf = true) (_ : (Lit.int .i64 b).wf = true) (_ : (Lit.int .i64 n).wf = true) (w : World) :
    Calls Try.prog 3 #[.int .i64 a, .int .i64 b, .int .i64 n] w fun e w' => e = .returned (.bool true) ∧ Below w.heap.size w w' := by
  go_enter Try.func3, Try.ntmps3
  go_wp2_with fail
  refine (sane_any _).mono ?_
  rintro e W1 ⟨rfl, hb1⟩
  go_wp2_with (first | (go_at_call 9; refine (mul_any _ _ _).mono ?_; rintro e w' ⟨rfl, rfl⟩) | (go_at_call 10; refine (rmul_any _ _ _).mono ?_; rintro e w' ⟨rfl, rfl⟩))
  refine (pow_any _ _ _).mono ?_
  rintro e W2 ⟨rfl, hb2⟩
  have hb := hb1.trans (hb2.mono hb1.size)
  clear hb1 hb2
  go_wp2_with (first | (go_at_call 12; refine (rpow_any _ _ _).mono ?_; rintro e w' ⟨rfl, rfl⟩) | (go_at_call 13; refine (valid_any _ _).mono ?_; rintro e w' ⟨rfl, rfl⟩) | (go_at_call 14; refine (rvalid_any _ _).mono ?_; rintro e w' ⟨rfl, rfl⟩))
  go_ret
  exact ⟨by simp, hb⟩
end Go.Proofs.Ytockbjpldlopiaa
