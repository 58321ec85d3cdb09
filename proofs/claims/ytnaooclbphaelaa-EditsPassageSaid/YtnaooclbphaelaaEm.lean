/-
  Is an edit local.
-/
import Derived.Test.YtnaooclbphaelaaEl
namespace Go.Proofs.Ytnaooclbphaelaa
set_option linter.unusedSimpArgs false
set_option linter.unusedVariables false
open Go Go.RowKit
def tree_localE : SX.Tree :=
(.df (.bin .eql 3) [(.x 0 []), (.k (.int .i64 1))] .one 
(.br 22 [] 
(.ret (.k (.bool true)) [] []) 
(.df (.bin .eql 3) [(.x 0 []), (.k (.int .i64 2))] .one 
(.br 23 [] 
(.ret (.k (.bool true)) [] []) 
(.df (.bin .eql 3) [(.x 0 []), (.k (.int .i64 7))] .one 
(.ret (.x 24 []) [] []))))))
def args_localE : List SX.V := [.a ((List.range 22).map fun j => .x j [])]
set_option maxRecDepth 100000 in
theorem run_localE (K A : Value → Nat → List Value → Prop) : (SX.run (cx0 K A) ⟨fun f => true, [], 0, 100⟩ 100000 0 (SX.door 24 Try.f24 args_localE (List.replicate 22 .one)) [.code (Try.f24.body.getD .skip), .top Try.f24]).strip = tree_localE := by kernel_rfl
set_option maxRecDepth 100000 in
set_option maxHeartbeats 4000000 in
theorem localE_any (d : Ed) (w : World)  : Calls Try.prog 24 #[valE d] w fun e w' => e = .returned (.bool (decide (d.kind = 1 ∨ d.kind = 2 ∨ d.kind = 7))) ∧ Below w.heap.size w w' := by
  refine SX.calls_of_run (C := cx0 (fun _ _ _ => False) (fun _ _ _ => False)) (G := ⟨fun f => true, [], 0, 100⟩) (args := args_localE) (sh := (List.replicate 22 .one)) (ρ := (cellsE d)) 100000 tree_localE (cx0_ok _ _) Try.func24 rfl (run_localE _ _) (by kernel_rfl) (by kernel_rfl) (by kernel_rfl) ?_ ?_
  · exact fun W _ => SX.Kf_none (fun _ _ _ h => h) W
  unfold tree_localE
  refine SX.VC_df (.bool ((d.kind : Int) == 1)) (by intro α; show _ = _; kernel_rfl) (by kernel_rfl) ?_
  refine SX.VC_br ((d.kind : Int) == 1) (by kernel_rfl) (fun h22 => ?_) (fun h22 => ?_)
  · try simp only [NRM] at h22
    exact SX.VC_ret fun α W _ _ hS => SX.ret_of hS (x := .bool true) (by kernel_rfl) (by congr 1; first | (symm; rw [decide_eq_true_eq]; omega) | (rw [Bool.eq_iff_iff]; simp only [decide_eq_true_eq, beq_iff_eq]; omega))
  · try simp only [NRM] at h22
    refine SX.VC_df (.bool ((d.kind : Int) == 2)) (by intro α; show _ = _; kernel_rfl) (by kernel_rfl) ?_
    refine SX.VC_br ((d.kind : Int) == 2) (by kernel_rfl) (fun h23 => ?_) (fun h23 => ?_)
    · try simp only [NRM] at h23
      exact SX.VC_ret fun α W _ _ hS => SX.ret_of hS (x := .bool true) (by kernel_rfl) (by congr 1; first | (symm; rw [decide_eq_true_eq]; omega) | (rw [Bool.eq_iff_iff]; simp only [decide_eq_true_eq, beq_iff_eq]; omega))
    · try simp only [NRM] at h23
      refine SX.VC_df (.bool ((d.kind : Int) == 7)) (by intro α; show _ = _; kernel_rfl) (by kernel_rfl) ?_
      exact SX.VC_ret fun α W _ _ hS => SX.ret_of hS (x := .bool ((d.kind : Int) == 7)) (by kernel_rfl) (by congr 1; first | (symm; rw [decide_eq_true_eq]; omega) | (rw [Bool.eq_iff_iff]; simp only [decide_eq_true_eq, beq_iff_eq]; omega))
end Go.Proofs.Ytnaooclbphaelaa
