/-
  Limits: what they are, and when a cap is in form, in the program and in the specification.
-/
import Derived.Test.YtmkigejhgpoleaaSy
import Derived.Test.YtmkigejhgpoleaaSz
import Derived.Test.YtmkigejhgpoleaaMp
import Derived.Test.YtmkigejhgpoleaaProg
namespace Go.Proofs.Ytmkigejhgpoleaa
set_option linter.unusedSimpArgs false
set_option linter.unusedVariables false
open Go Go.RowKit
noncomputable def cx0 (K A : Value → Nat → List Value → Prop) : SX.Cx := { P := Try.prog, R := fun _ _ _ _ => False, shp := fun _ => none, K := K, A := A, trm := true }
theorem cx0_ok (K A : Value → Nat → List Value → Prop) : (cx0 K A).Ok := SX.Cx.ok_of (fun _ => rfl) fun _ f xs v W h => h.elim
/-- is a cap in form -/
def capOk (k l n : Int) : Prop := (k = 1 ∧ 0 ≤ l ∧ l ≤ 2 ∧ 1 ≤ n ∧ n ≤ 3) ∨ (k = 2 ∧ 0 ≤ l ∧ l ≤ 2 ∧ 1 ≤ n ∧ n ≤ 1048576) ∨ (k = 3 ∧ l = 0 ∧ 1 ≤ n ∧ n ≤ 16) ∨ (k = 4 ∧ l = 0 ∧ 0 ≤ n ∧ n ≤ 16) ∨ (k = 5 ∧ l = 0 ∧ 0 ≤ n ∧ n ≤ 500) ∨ (k = 6 ∧ l = 0 ∧ 0 ≤ n ∧ n ≤ 1048576)
instance (k l n : Int) : Decidable (capOk k l n) := by unfold capOk; infer_instance
/-- a limit -/
structure Lim where
  (no person of_ from_ to_ known kind limb n : Int)
  deriving DecidableEq, Inhabited
def cellsLm (s : Lim) : List Value := [.int .i64 s.no, .int .i64 s.person, .int .i64 s.of_, .int .i64 s.from_, .int .i64 s.to_, .int .i64 s.known, .int .i64 s.kind, .int .i64 s.limb, .int .i64 s.n]
def valLm (s : Lim) : Value := .agg (cellsLm s).toArray
theorem cellsLm_inj (a b : Lim) (h : cellsLm a = cellsLm b) : a = b := by
  cases a; cases b
  simpa [cellsLm] using h
theorem cellsLm_one (a : Lim) : ∀ u ∈ cellsLm a, u.oneCell' = true := by
  intro u hu
  simp only [cellsLm, List.mem_cons, List.not_mem_nil, or_false] at hu
  rcases hu with rfl | rfl | rfl | rfl | rfl | rfl | rfl | rfl | rfl <;> rfl
def lmL (l : List Lim) : List Value := l.flatMap cellsLm
theorem lmL_len (l : List Lim) : (lmL l).length = l.length * 9 := SX.flat_len (f := cellsLm) (fun _ => rfl) l
def tree_cvalid : SX.Tree :=
(.df (.bin .lss 3) [(.x 0 []), (.k (.int .i64 1))] .one 
(.br 3 [] 
(.ret (.k (.bool false)) [] []) 
(.df (.bin .gtr 3) [(.x 0 []), (.k (.int .i64 6))] .one 
(.br 4 [] 
(.ret (.k (.bool false)) [] []) 
(.sp 0 [] [
(.df (.bin .lss 3) [(.x 1 []), (.k (.int .i64 0))] .one 
(.br 5 [] 
(.ret (.k (.bool false)) [] []) 
(.df (.bin .gtr 3) [(.x 1 []), (.k (.int .i64 0))] .one 
(.br 6 [] 
(.ret (.k (.bool false)) [] []) 
(.df (.bin .lss 3) [(.x 2 []), (.k (.int .i64 0))] .one 
(.br 7 [] 
(.ret (.k (.bool false)) [] []) 
(.df (.bin .gtr 3) [(.x 2 []), (.k (.int .i64 0))] .one 
(.br 8 [] 
(.ret (.k (.bool false)) [] []) 
(.ret (.k (.bool true)) [] []))))))))), 
(.df (.bin .lss 3) [(.x 1 []), (.k (.int .i64 0))] .one 
(.br 5 [] 
(.ret (.k (.bool false)) [] []) 
(.df (.bin .gtr 3) [(.x 1 []), (.k (.int .i64 2))] .one 
(.br 6 [] 
(.ret (.k (.bool false)) [] []) 
(.df (.bin .lss 3) [(.x 2 []), (.k (.int .i64 1))] .one 
(.br 7 [] 
(.ret (.k (.bool false)) [] []) 
(.df (.bin .gtr 3) [(.x 2 []), (.k (.int .i64 3))] .one 
(.br 8 [] 
(.ret (.k (.bool false)) [] []) 
(.ret (.k (.bool true)) [] []))))))))), 
(.df (.bin .lss 3) [(.x 1 []), (.k (.int .i64 0))] .one 
(.br 5 [] 
(.ret (.k (.bool false)) [] []) 
(.df (.bin .gtr 3) [(.x 1 []), (.k (.int .i64 2))] .one 
(.br 6 [] 
(.ret (.k (.bool false)) [] []) 
(.df (.bin .lss 3) [(.x 2 []), (.k (.int .i64 1))] .one 
(.br 7 [] 
(.ret (.k (.bool false)) [] []) 
(.df (.bin .gtr 3) [(.x 2 []), (.k (.int .i64 1048576))] .one 
(.br 8 [] 
(.ret (.k (.bool false)) [] []) 
(.ret (.k (.bool true)) [] []))))))))), 
(.df (.bin .lss 3) [(.x 1 []), (.k (.int .i64 0))] .one 
(.br 5 [] 
(.ret (.k (.bool false)) [] []) 
(.df (.bin .gtr 3) [(.x 1 []), (.k (.int .i64 0))] .one 
(.br 6 [] 
(.ret (.k (.bool false)) [] []) 
(.df (.bin .lss 3) [(.x 2 []), (.k (.int .i64 1))] .one 
(.br 7 [] 
(.ret (.k (.bool false)) [] []) 
(.df (.bin .gtr 3) [(.x 2 []), (.k (.int .i64 16))] .one 
(.br 8 [] 
(.ret (.k (.bool false)) [] []) 
(.ret (.k (.bool true)) [] []))))))))), 
(.df (.bin .lss 3) [(.x 1 []), (.k (.int .i64 0))] .one 
(.br 5 [] 
(.ret (.k (.bool false)) [] []) 
(.df (.bin .gtr 3) [(.x 1 []), (.k (.int .i64 0))] .one 
(.br 6 [] 
(.ret (.k (.bool false)) [] []) 
(.df (.bin .lss 3) [(.x 2 []), (.k (.int .i64 0))] .one 
(.br 7 [] 
(.ret (.k (.bool false)) [] []) 
(.df (.bin .gtr 3) [(.x 2 []), (.k (.int .i64 16))] .one 
(.br 8 [] 
(.ret (.k (.bool false)) [] []) 
(.ret (.k (.bool true)) [] []))))))))), 
(.df (.bin .lss 3) [(.x 1 []), (.k (.int .i64 0))] .one 
(.br 5 [] 
(.ret (.k (.bool false)) [] []) 
(.df (.bin .gtr 3) [(.x 1 []), (.k (.int .i64 0))] .one 
(.br 6 [] 
(.ret (.k (.bool false)) [] []) 
(.df (.bin .lss 3) [(.x 2 []), (.k (.int .i64 0))] .one 
(.br 7 [] 
(.ret (.k (.bool false)) [] []) 
(.df (.bin .gtr 3) [(.x 2 []), (.k (.int .i64 500))] .one 
(.br 8 [] 
(.ret (.k (.bool false)) [] []) 
(.ret (.k (.bool true)) [] []))))))))), 
(.df (.bin .lss 3) [(.x 1 []), (.k (.int .i64 0))] .one 
(.br 5 [] 
(.ret (.k (.bool false)) [] []) 
(.df (.bin .gtr 3) [(.x 1 []), (.k (.int .i64 0))] .one 
(.br 6 [] 
(.ret (.k (.bool false)) [] []) 
(.df (.bin .lss 3) [(.x 2 []), (.k (.int .i64 0))] .one 
(.br 7 [] 
(.ret (.k (.bool false)) [] []) 
(.df (.bin .gtr 3) [(.x 2 []), (.k (.int .i64 1048576))] .one 
(.br 8 [] 
(.ret (.k (.bool false)) [] []) 
(.ret (.k (.bool true)) [] [])))))))))])))))
def args_cvalid : List SX.V := [.a [.x 0 [], .x 1 [], .x 2 []]]
set_option maxRecDepth 100000 in
theorem run_cvalid (K A : Value → Nat → List Value → Prop) : (SX.run (cx0 K A) ⟨fun _ => true, [], 0, 100⟩ 100000 0 (SX.door 33 Try.f33 args_cvalid [.one, .one, .one]) [.code (Try.f33.body.getD .skip), .top Try.f33]).strip = tree_cvalid := by kernel_rfl
set_option maxRecDepth 100000 in
set_option maxHeartbeats 4000000 in
theorem cvalid_any (k l n : Int) (w : World)  : Calls Try.prog 33 #[.agg #[.int .i64 k, .int .i64 l, .int .i64 n]] w fun e w' => e = .returned (.bool (decide (capOk k l n))) ∧ Below w.heap.size w w' := by
  refine SX.calls_of_run (C := cx0 (fun _ _ _ => False) (fun _ _ _ => False)) (G := ⟨fun _ => true, [], 0, 100⟩) (args := args_cvalid) (sh := [.one, .one, .one]) (ρ := [.int .i64 k, .int .i64 l, .int .i64 n]) 100000 tree_cvalid (cx0_ok _ _) Try.func33 rfl (run_cvalid _ _) (by kernel_rfl) (by kernel_rfl) (by kernel_rfl) ?_ ?_
  · exact fun W _ => SX.Kf_none (fun _ _ _ h => h) W
  unfold tree_cvalid
  refine SX.VC_df (.bool (decide (k < 1))) (by intro α; show _ = _; kernel_rfl) (by kernel_rfl) ?_
  refine SX.VC_br (decide (k < 1)) (by kernel_rfl) (fun h3 => ?_) (fun h3 => ?_)
  · try simp only [NRM] at h3
    exact SX.VC_ret fun α W _ _ hS => SX.ret_of hS (x := .bool false) (by kernel_rfl) (by congr 1; rw [Bool.eq_iff_iff]; simp only [decide_eq_true_eq, Bool.false_eq_true, true_iff, false_iff, iff_true, iff_false]; unfold capOk; omega)
  · try simp only [NRM] at h3
    refine SX.VC_df (.bool (decide (k > 6))) (by intro α; show _ = _; kernel_rfl) (by kernel_rfl) ?_
    refine SX.VC_br (decide (k > 6)) (by kernel_rfl) (fun h4 => ?_) (fun h4 => ?_)
    · try simp only [NRM] at h4
      exact SX.VC_ret fun α W _ _ hS => SX.ret_of hS (x := .bool false) (by kernel_rfl) (by congr 1; rw [Bool.eq_iff_iff]; simp only [decide_eq_true_eq, Bool.false_eq_true, true_iff, false_iff, iff_true, iff_false]; unfold capOk; omega)
    · try simp only [NRM] at h4
      obtain ⟨j, rfl⟩ : ∃ j : Nat, k = j := ⟨k.toNat, by omega⟩
      refine SX.VC_sp j (by show j < 7; omega) (by kernel_rfl) fun t ht => ?_
      have hk : j = 1 ∨ j = 2 ∨ j = 3 ∨ j = 4 ∨ j = 5 ∨ j = 6 := by omega
      rcases hk with rfl | rfl | rfl | rfl | rfl | rfl
      · cases (Option.some.inj ht)
        refine SX.VC_df (.bool (decide (l < 0))) (by intro α; show _ = _; kernel_rfl) (by kernel_rfl) ?_
        refine SX.VC_br (decide (l < 0)) (by kernel_rfl) (fun h5 => ?_) (fun h5 => ?_)
        · try simp only [NRM] at h5
          exact SX.VC_ret fun α W _ _ hS => SX.ret_of hS (x := .bool false) (by kernel_rfl) (by congr 1; rw [Bool.eq_iff_iff]; simp only [decide_eq_true_eq, Bool.false_eq_true, true_iff, false_iff, iff_true, iff_false]; unfold capOk; omega)
        · try simp only [NRM] at h5
          refine SX.VC_df (.bool (decide (l > 2))) (by intro α; show _ = _; kernel_rfl) (by kernel_rfl) ?_
          refine SX.VC_br (decide (l > 2)) (by kernel_rfl) (fun h6 => ?_) (fun h6 => ?_)
          · try simp only [NRM] at h6
            exact SX.VC_ret fun α W _ _ hS => SX.ret_of hS (x := .bool false) (by kernel_rfl) (by congr 1; rw [Bool.eq_iff_iff]; simp only [decide_eq_true_eq, Bool.false_eq_true, true_iff, false_iff, iff_true, iff_false]; unfold capOk; omega)
          · try simp only [NRM] at h6
            refine SX.VC_df (.bool (decide (n < 1))) (by intro α; show _ = _; kernel_rfl) (by kernel_rfl) ?_
            refine SX.VC_br (decide (n < 1)) (by kernel_rfl) (fun h7 => ?_) (fun h7 => ?_)
            · try simp only [NRM] at h7
              exact SX.VC_ret fun α W _ _ hS => SX.ret_of hS (x := .bool false) (by kernel_rfl) (by congr 1; rw [Bool.eq_iff_iff]; simp only [decide_eq_true_eq, Bool.false_eq_true, true_iff, false_iff, iff_true, iff_false]; unfold capOk; omega)
            · try simp only [NRM] at h7
              refine SX.VC_df (.bool (decide (n > 3))) (by intro α; show _ = _; kernel_rfl) (by kernel_rfl) ?_
              refine SX.VC_br (decide (n > 3)) (by kernel_rfl) (fun h8 => ?_) (fun h8 => ?_)
              · try simp only [NRM] at h8
                exact SX.VC_ret fun α W _ _ hS => SX.ret_of hS (x := .bool false) (by kernel_rfl) (by congr 1; rw [Bool.eq_iff_iff]; simp only [decide_eq_true_eq, Bool.false_eq_true, true_iff, false_iff, iff_true, iff_false]; unfold capOk; omega)
              · try simp only [NRM] at h8
                exact SX.VC_ret fun α W _ _ hS => SX.ret_of hS (x := .bool true) (by kernel_rfl) (by congr 1; rw [Bool.eq_iff_iff]; simp only [decide_eq_true_eq, Bool.false_eq_true, true_iff, false_iff, iff_true, iff_false]; unfold capOk; omega)
      · cases (Option.some.inj ht)
        refine SX.VC_df (.bool (decide (l < 0))) (by intro α; show _ = _; kernel_rfl) (by kernel_rfl) ?_
        refine SX.VC_br (decide (l < 0)) (by kernel_rfl) (fun h5 => ?_) (fun h5 => ?_)
        · try simp only [NRM] at h5
          exact SX.VC_ret fun α W _ _ hS => SX.ret_of hS (x := .bool false) (by kernel_rfl) (by congr 1; rw [Bool.eq_iff_iff]; simp only [decide_eq_true_eq, Bool.false_eq_true, true_iff, false_iff, iff_true, iff_false]; unfold capOk; omega)
        · try simp only [NRM] at h5
          refine SX.VC_df (.bool (decide (l > 2))) (by intro α; show _ = _; kernel_rfl) (by kernel_rfl) ?_
          refine SX.VC_br (decide (l > 2)) (by kernel_rfl) (fun h6 => ?_) (fun h6 => ?_)
          · try simp only [NRM] at h6
            exact SX.VC_ret fun α W _ _ hS => SX.ret_of hS (x := .bool false) (by kernel_rfl) (by congr 1; rw [Bool.eq_iff_iff]; simp only [decide_eq_true_eq, Bool.false_eq_true, true_iff, false_iff, iff_true, iff_false]; unfold capOk; omega)
          · try simp only [NRM] at h6
            refine SX.VC_df (.bool (decide (n < 1))) (by intro α; show _ = _; kernel_rfl) (by kernel_rfl) ?_
            refine SX.VC_br (decide (n < 1)) (by kernel_rfl) (fun h7 => ?_) (fun h7 => ?_)
            · try simp only [NRM] at h7
              exact SX.VC_ret fun α W _ _ hS => SX.ret_of hS (x := .bool false) (by kernel_rfl) (by congr 1; rw [Bool.eq_iff_iff]; simp only [decide_eq_true_eq, Bool.false_eq_true, true_iff, false_iff, iff_true, iff_false]; unfold capOk; omega)
            · try simp only [NRM] at h7
              refine SX.VC_df (.bool (decide (n > 1048576))) (by intro α; show _ = _; kernel_rfl) (by kernel_rfl) ?_
              refine SX.VC_br (decide (n > 1048576)) (by kernel_rfl) (fun h8 => ?_) (fun h8 => ?_)
              · try simp only [NRM] at h8
                exact SX.VC_ret fun α W _ _ hS => SX.ret_of hS (x := .bool false) (by kernel_rfl) (by congr 1; rw [Bool.eq_iff_iff]; simp only [decide_eq_true_eq, Bool.false_eq_true, true_iff, false_iff, iff_true, iff_false]; unfold capOk; omega)
              · try simp only [NRM] at h8
                exact SX.VC_ret fun α W _ _ hS => SX.ret_of hS (x := .bool true) (by kernel_rfl) (by congr 1; rw [Bool.eq_iff_iff]; simp only [decide_eq_true_eq, Bool.false_eq_true, true_iff, false_iff, iff_true, iff_false]; unfold capOk; omega)
      · cases (Option.some.inj ht)
        refine SX.VC_df (.bool (decide (l < 0))) (by intro α; show _ = _; kernel_rfl) (by kernel_rfl) ?_
        refine SX.VC_br (decide (l < 0)) (by kernel_rfl) (fun h5 => ?_) (fun h5 => ?_)
        · try simp only [NRM] at h5
          exact SX.VC_ret fun α W _ _ hS => SX.ret_of hS (x := .bool false) (by kernel_rfl) (by congr 1; rw [Bool.eq_iff_iff]; simp only [decide_eq_true_eq, Bool.false_eq_true, true_iff, false_iff, iff_true, iff_false]; unfold capOk; omega)
        · try simp only [NRM] at h5
          refine SX.VC_df (.bool (decide (l > 0))) (by intro α; show _ = _; kernel_rfl) (by kernel_rfl) ?_
          refine SX.VC_br (decide (l > 0)) (by kernel_rfl) (fun h6 => ?_) (fun h6 => ?_)
          · try simp only [NRM] at h6
            exact SX.VC_ret fun α W _ _ hS => SX.ret_of hS (x := .bool false) (by kernel_rfl) (by congr 1; rw [Bool.eq_iff_iff]; simp only [decide_eq_true_eq, Bool.false_eq_true, true_iff, false_iff, iff_true, iff_false]; unfold capOk; omega)
          · try simp only [NRM] at h6
            refine SX.VC_df (.bool (decide (n < 1))) (by intro α; show _ = _; kernel_rfl) (by kernel_rfl) ?_
            refine SX.VC_br (decide (n < 1)) (by kernel_rfl) (fun h7 => ?_) (fun h7 => ?_)
            · try simp only [NRM] at h7
              exact SX.VC_ret fun α W _ _ hS => SX.ret_of hS (x := .bool false) (by kernel_rfl) (by congr 1; rw [Bool.eq_iff_iff]; simp only [decide_eq_true_eq, Bool.false_eq_true, true_iff, false_iff, iff_true, iff_false]; unfold capOk; omega)
            · try simp only [NRM] at h7
              refine SX.VC_df (.bool (decide (n > 16))) (by intro α; show _ = _; kernel_rfl) (by kernel_rfl) ?_
              refine SX.VC_br (decide (n > 16)) (by kernel_rfl) (fun h8 => ?_) (fun h8 => ?_)
              · try simp only [NRM] at h8
                exact SX.VC_ret fun α W _ _ hS => SX.ret_of hS (x := .bool false) (by kernel_rfl) (by congr 1; rw [Bool.eq_iff_iff]; simp only [decide_eq_true_eq, Bool.false_eq_true, true_iff, false_iff, iff_true, iff_false]; unfold capOk; omega)
              · try simp only [NRM] at h8
                exact SX.VC_ret fun α W _ _ hS => SX.ret_of hS (x := .bool true) (by kernel_rfl) (by congr 1; rw [Bool.eq_iff_iff]; simp only [decide_eq_true_eq, Bool.false_eq_true, true_iff, false_iff, iff_true, iff_false]; unfold capOk; omega)
      · cases (Option.some.inj ht)
        refine SX.VC_df (.bool (decide (l < 0))) (by intro α; show _ = _; kernel_rfl) (by kernel_rfl) ?_
        refine SX.VC_br (decide (l < 0)) (by kernel_rfl) (fun h5 => ?_) (fun h5 => ?_)
        · try simp only [NRM] at h5
          exact SX.VC_ret fun α W _ _ hS => SX.ret_of hS (x := .bool false) (by kernel_rfl) (by congr 1; rw [Bool.eq_iff_iff]; simp only [decide_eq_true_eq, Bool.false_eq_true, true_iff, false_iff, iff_true, iff_false]; unfold capOk; omega)
        · try simp only [NRM] at h5
          refine SX.VC_df (.bool (decide (l > 0))) (by intro α; show _ = _; kernel_rfl) (by kernel_rfl) ?_
          refine SX.VC_br (decide (l > 0)) (by kernel_rfl) (fun h6 => ?_) (fun h6 => ?_)
          · try simp only [NRM] at h6
            exact SX.VC_ret fun α W _ _ hS => SX.ret_of hS (x := .bool false) (by kernel_rfl) (by congr 1; rw [Bool.eq_iff_iff]; simp only [decide_eq_true_eq, Bool.false_eq_true, true_iff, false_iff, iff_true, iff_false]; unfold capOk; omega)
          · try simp only [NRM] at h6
            refine SX.VC_df (.bool (decide (n < 0))) (by intro α; show _ = _; kernel_rfl) (by kernel_rfl) ?_
            refine SX.VC_br (decide (n < 0)) (by kernel_rfl) (fun h7 => ?_) (fun h7 => ?_)
            · try simp only [NRM] at h7
              exact SX.VC_ret fun α W _ _ hS => SX.ret_of hS (x := .bool false) (by kernel_rfl) (by congr 1; rw [Bool.eq_iff_iff]; simp only [decide_eq_true_eq, Bool.false_eq_true, true_iff, false_iff, iff_true, iff_false]; unfold capOk; omega)
            · try simp only [NRM] at h7
              refine SX.VC_df (.bool (decide (n > 16))) (by intro α; show _ = _; kernel_rfl) (by kernel_rfl) ?_
              refine SX.VC_br (decide (n > 16)) (by kernel_rfl) (fun h8 => ?_) (fun h8 => ?_)
              · try simp only [NRM] at h8
                exact SX.VC_ret fun α W _ _ hS => SX.ret_of hS (x := .bool false) (by kernel_rfl) (by congr 1; rw [Bool.eq_iff_iff]; simp only [decide_eq_true_eq, Bool.false_eq_true, true_iff, false_iff, iff_true, iff_false]; unfold capOk; omega)
              · try simp only [NRM] at h8
                exact SX.VC_ret fun α W _ _ hS => SX.ret_of hS (x := .bool true) (by kernel_rfl) (by congr 1; rw [Bool.eq_iff_iff]; simp only [decide_eq_true_eq, Bool.false_eq_true, true_iff, false_iff, iff_true, iff_false]; unfold capOk; omega)
      · cases (Option.some.inj ht)
        refine SX.VC_df (.bool (decide (l < 0))) (by intro α; show _ = _; kernel_rfl) (by kernel_rfl) ?_
        refine SX.VC_br (decide (l < 0)) (by kernel_rfl) (fun h5 => ?_) (fun h5 => ?_)
        · try simp only [NRM] at h5
          exact SX.VC_ret fun α W _ _ hS => SX.ret_of hS (x := .bool false) (by kernel_rfl) (by congr 1; rw [Bool.eq_iff_iff]; simp only [decide_eq_true_eq, Bool.false_eq_true, true_iff, false_iff, iff_true, iff_false]; unfold capOk; omega)
        · try simp only [NRM] at h5
          refine SX.VC_df (.bool (decide (l > 0))) (by intro α; show _ = _; kernel_rfl) (by kernel_rfl) ?_
          refine SX.VC_br (decide (l > 0)) (by kernel_rfl) (fun h6 => ?_) (fun h6 => ?_)
          · try simp only [NRM] at h6
            exact SX.VC_ret fun α W _ _ hS => SX.ret_of hS (x := .bool false) (by kernel_rfl) (by congr 1; rw [Bool.eq_iff_iff]; simp only [decide_eq_true_eq, Bool.false_eq_true, true_iff, false_iff, iff_true, iff_false]; unfold capOk; omega)
          · try simp only [NRM] at h6
            refine SX.VC_df (.bool (decide (n < 0))) (by intro α; show _ = _; kernel_rfl) (by kernel_rfl) ?_
            refine SX.VC_br (decide (n < 0)) (by kernel_rfl) (fun h7 => ?_) (fun h7 => ?_)
            · try simp only [NRM] at h7
              exact SX.VC_ret fun α W _ _ hS => SX.ret_of hS (x := .bool false) (by kernel_rfl) (by congr 1; rw [Bool.eq_iff_iff]; simp only [decide_eq_true_eq, Bool.false_eq_true, true_iff, false_iff, iff_true, iff_false]; unfold capOk; omega)
            · try simp only [NRM] at h7
              refine SX.VC_df (.bool (decide (n > 500))) (by intro α; show _ = _; kernel_rfl) (by kernel_rfl) ?_
              refine SX.VC_br (decide (n > 500)) (by kernel_rfl) (fun h8 => ?_) (fun h8 => ?_)
              · try simp only [NRM] at h8
                exact SX.VC_ret fun α W _ _ hS => SX.ret_of hS (x := .bool false) (by kernel_rfl) (by congr 1; rw [Bool.eq_iff_iff]; simp only [decide_eq_true_eq, Bool.false_eq_true, true_iff, false_iff, iff_true, iff_false]; unfold capOk; omega)
              · try simp only [NRM] at h8
                exact SX.VC_ret fun α W _ _ hS => SX.ret_of hS (x := .bool true) (by kernel_rfl) (by congr 1; rw [Bool.eq_iff_iff]; simp only [decide_eq_true_eq, Bool.false_eq_true, true_iff, false_iff, iff_true, iff_false]; unfold capOk; omega)
      · cases (Option.some.inj ht)
        refine SX.VC_df (.bool (decide (l < 0))) (by intro α; show _ = _; kernel_rfl) (by kernel_rfl) ?_
        refine SX.VC_br (decide (l < 0)) (by kernel_rfl) (fun h5 => ?_) (fun h5 => ?_)
        · try simp only [NRM] at h5
          exact SX.VC_ret fun α W _ _ hS => SX.ret_of hS (x := .bool false) (by kernel_rfl) (by congr 1; rw [Bool.eq_iff_iff]; simp only [decide_eq_true_eq, Bool.false_eq_true, true_iff, false_iff, iff_true, iff_false]; unfold capOk; omega)
        · try simp only [NRM] at h5
          refine SX.VC_df (.bool (decide (l > 0))) (by intro α; show _ = _; kernel_rfl) (by kernel_rfl) ?_
          refine SX.VC_br (decide (l > 0)) (by kernel_rfl) (fun h6 => ?_) (fun h6 => ?_)
          · try simp only [NRM] at h6
            exact SX.VC_ret fun α W _ _ hS => SX.ret_of hS (x := .bool false) (by kernel_rfl) (by congr 1; rw [Bool.eq_iff_iff]; simp only [decide_eq_true_eq, Bool.false_eq_true, true_iff, false_iff, iff_true, iff_false]; unfold capOk; omega)
          · try simp only [NRM] at h6
            refine SX.VC_df (.bool (decide (n < 0))) (by intro α; show _ = _; kernel_rfl) (by kernel_rfl) ?_
            refine SX.VC_br (decide (n < 0)) (by kernel_rfl) (fun h7 => ?_) (fun h7 => ?_)
            · try simp only [NRM] at h7
              exact SX.VC_ret fun α W _ _ hS => SX.ret_of hS (x := .bool false) (by kernel_rfl) (by congr 1; rw [Bool.eq_iff_iff]; simp only [decide_eq_true_eq, Bool.false_eq_true, true_iff, false_iff, iff_true, iff_false]; unfold capOk; omega)
            · try simp only [NRM] at h7
              refine SX.VC_df (.bool (decide (n > 1048576))) (by intro α; show _ = _; kernel_rfl) (by kernel_rfl) ?_
              refine SX.VC_br (decide (n > 1048576)) (by kernel_rfl) (fun h8 => ?_) (fun h8 => ?_)
              · try simp only [NRM] at h8
                exact SX.VC_ret fun α W _ _ hS => SX.ret_of hS (x := .bool false) (by kernel_rfl) (by congr 1; rw [Bool.eq_iff_iff]; simp only [decide_eq_true_eq, Bool.false_eq_true, true_iff, false_iff, iff_true, iff_false]; unfold capOk; omega)
              · try simp only [NRM] at h8
                exact SX.VC_ret fun α W _ _ hS => SX.ret_of hS (x := .bool true) (by kernel_rfl) (by congr 1; rw [Bool.eq_iff_iff]; simp only [decide_eq_true_eq, Bool.false_eq_true, true_iff, false_iff, iff_true, iff_false]; unfold capOk; omega)
def tree_rvalid : SX.Tree :=
(.df (.bin .eql 3) [(.x 0 []), (.k (.int .i64 1))] .one 
(.br 3 [] 
(.df (.bin .geq 3) [(.x 1 []), (.k (.int .i64 0))] .one 
(.br 4 [] 
(.df (.bin .leq 3) [(.x 1 []), (.k (.int .i64 2))] .one 
(.br 5 [] 
(.df (.bin .geq 3) [(.x 2 []), (.k (.int .i64 1))] .one 
(.br 6 [] 
(.df (.bin .leq 3) [(.x 2 []), (.k (.int .i64 3))] .one 
(.ret (.x 7 []) [] [])) 
(.ret (.k (.bool false)) [] []))) 
(.ret (.k (.bool false)) [] []))) 
(.ret (.k (.bool false)) [] []))) 
(.df (.bin .eql 3) [(.x 0 []), (.k (.int .i64 2))] .one 
(.br 4 [] 
(.df (.bin .geq 3) [(.x 1 []), (.k (.int .i64 0))] .one 
(.br 5 [] 
(.df (.bin .leq 3) [(.x 1 []), (.k (.int .i64 2))] .one 
(.br 6 [] 
(.df (.bin .geq 3) [(.x 2 []), (.k (.int .i64 1))] .one 
(.br 7 [] 
(.df (.bin .leq 3) [(.x 2 []), (.k (.int .i64 1048576))] .one 
(.ret (.x 8 []) [] [])) 
(.ret (.k (.bool false)) [] []))) 
(.ret (.k (.bool false)) [] []))) 
(.ret (.k (.bool false)) [] []))) 
(.df (.bin .eql 3) [(.x 0 []), (.k (.int .i64 3))] .one 
(.br 5 [] 
(.df (.bin .eql 3) [(.x 1 []), (.k (.int .i64 0))] .one 
(.br 6 [] 
(.df (.bin .geq 3) [(.x 2 []), (.k (.int .i64 1))] .one 
(.br 7 [] 
(.df (.bin .leq 3) [(.x 2 []), (.k (.int .i64 16))] .one 
(.ret (.x 8 []) [] [])) 
(.ret (.k (.bool false)) [] []))) 
(.ret (.k (.bool false)) [] []))) 
(.df (.bin .eql 3) [(.x 0 []), (.k (.int .i64 4))] .one 
(.br 6 [] 
(.df (.bin .eql 3) [(.x 1 []), (.k (.int .i64 0))] .one 
(.br 7 [] 
(.df (.bin .geq 3) [(.x 2 []), (.k (.int .i64 0))] .one 
(.br 8 [] 
(.df (.bin .leq 3) [(.x 2 []), (.k (.int .i64 16))] .one 
(.ret (.x 9 []) [] [])) 
(.ret (.k (.bool false)) [] []))) 
(.ret (.k (.bool false)) [] []))) 
(.df (.bin .eql 3) [(.x 0 []), (.k (.int .i64 5))] .one 
(.br 7 [] 
(.df (.bin .eql 3) [(.x 1 []), (.k (.int .i64 0))] .one 
(.br 8 [] 
(.df (.bin .geq 3) [(.x 2 []), (.k (.int .i64 0))] .one 
(.br 9 [] 
(.df (.bin .leq 3) [(.x 2 []), (.k (.int .i64 500))] .one 
(.ret (.x 10 []) [] [])) 
(.ret (.k (.bool false)) [] []))) 
(.ret (.k (.bool false)) [] []))) 
(.df (.bin .eql 3) [(.x 0 []), (.k (.int .i64 6))] .one 
(.br 8 [] 
(.df (.bin .eql 3) [(.x 1 []), (.k (.int .i64 0))] .one 
(.br 9 [] 
(.df (.bin .geq 3) [(.x 2 []), (.k (.int .i64 0))] .one 
(.br 10 [] 
(.df (.bin .leq 3) [(.x 2 []), (.k (.int .i64 1048576))] .one 
(.ret (.x 11 []) [] [])) 
(.ret (.k (.bool false)) [] []))) 
(.ret (.k (.bool false)) [] []))) 
(.ret (.k (.bool false)) [] [])))))))))))))
def args_rvalid : List SX.V := [.a [.x 0 [], .x 1 [], .x 2 []]]
set_option maxRecDepth 100000 in
theorem run_rvalid (K A : Value → Nat → List Value → Prop) : (SX.run (cx0 K A) ⟨fun _ => true, [], 0, 100⟩ 100000 0 (SX.door 36 Try.f36 args_rvalid [.one, .one, .one]) [.code (Try.f36.body.getD .skip), .top Try.f36]).strip = tree_rvalid := by kernel_rfl
set_option maxRecDepth 100000 in
set_option maxHeartbeats 4000000 in
theorem rvalid_any (k l n : Int) (w : World)  : Calls Try.prog 36 #[.agg #[.int .i64 k, .int .i64 l, .int .i64 n]] w fun e w' => e = .returned (.bool (decide (capOk k l n))) ∧ Below w.heap.size w w' := by
  refine SX.calls_of_run (C := cx0 (fun _ _ _ => False) (fun _ _ _ => False)) (G := ⟨fun _ => true, [], 0, 100⟩) (args := args_rvalid) (sh := [.one, .one, .one]) (ρ := [.int .i64 k, .int .i64 l, .int .i64 n]) 100000 tree_rvalid (cx0_ok _ _) Try.func36 rfl (run_rvalid _ _) (by kernel_rfl) (by kernel_rfl) (by kernel_rfl) ?_ ?_
  · exact fun W _ => SX.Kf_none (fun _ _ _ h => h) W
  unfold tree_rvalid
  refine SX.VC_df (.bool ((k : Int) == 1)) (by intro α; show _ = _; kernel_rfl) (by kernel_rfl) ?_
  refine SX.VC_br ((k : Int) == 1) (by kernel_rfl) (fun h3 => ?_) (fun h3 => ?_)
  · try simp only [NRM] at h3
    refine SX.VC_df (.bool (decide (l ≥ 0))) (by intro α; show _ = _; kernel_rfl) (by kernel_rfl) ?_
    refine SX.VC_br (decide (l ≥ 0)) (by kernel_rfl) (fun h4 => ?_) (fun h4 => ?_)
    · try simp only [NRM] at h4
      refine SX.VC_df (.bool (decide (l ≤ 2))) (by intro α; show _ = _; kernel_rfl) (by kernel_rfl) ?_
      refine SX.VC_br (decide (l ≤ 2)) (by kernel_rfl) (fun h5 => ?_) (fun h5 => ?_)
      · try simp only [NRM] at h5
        refine SX.VC_df (.bool (decide (n ≥ 1))) (by intro α; show _ = _; kernel_rfl) (by kernel_rfl) ?_
        refine SX.VC_br (decide (n ≥ 1)) (by kernel_rfl) (fun h6 => ?_) (fun h6 => ?_)
        · try simp only [NRM] at h6
          refine SX.VC_df (.bool (decide (n ≤ 3))) (by intro α; show _ = _; kernel_rfl) (by kernel_rfl) ?_
          exact SX.VC_ret fun α W _ _ hS => SX.ret_of hS (x := .bool (decide (n ≤ 3))) (by kernel_rfl) (by congr 1; rw [Bool.eq_iff_iff]; simp only [decide_eq_true_eq, Bool.false_eq_true, true_iff, false_iff, iff_true, iff_false]; unfold capOk; omega)
        · try simp only [NRM] at h6
          exact SX.VC_ret fun α W _ _ hS => SX.ret_of hS (x := .bool false) (by kernel_rfl) (by congr 1; rw [Bool.eq_iff_iff]; simp only [decide_eq_true_eq, Bool.false_eq_true, true_iff, false_iff, iff_true, iff_false]; unfold capOk; omega)
      · try simp only [NRM] at h5
        exact SX.VC_ret fun α W _ _ hS => SX.ret_of hS (x := .bool false) (by kernel_rfl) (by congr 1; rw [Bool.eq_iff_iff]; simp only [decide_eq_true_eq, Bool.false_eq_true, true_iff, false_iff, iff_true, iff_false]; unfold capOk; omega)
    · try simp only [NRM] at h4
      exact SX.VC_ret fun α W _ _ hS => SX.ret_of hS (x := .bool false) (by kernel_rfl) (by congr 1; rw [Bool.eq_iff_iff]; simp only [decide_eq_true_eq, Bool.false_eq_true, true_iff, false_iff, iff_true, iff_false]; unfold capOk; omega)
  · try simp only [NRM] at h3
    refine SX.VC_df (.bool ((k : Int) == 2)) (by intro α; show _ = _; kernel_rfl) (by kernel_rfl) ?_
    refine SX.VC_br ((k : Int) == 2) (by kernel_rfl) (fun h4 => ?_) (fun h4 => ?_)
    · try simp only [NRM] at h4
      refine SX.VC_df (.bool (decide (l ≥ 0))) (by intro α; show _ = _; kernel_rfl) (by kernel_rfl) ?_
      refine SX.VC_br (decide (l ≥ 0)) (by kernel_rfl) (fun h5 => ?_) (fun h5 => ?_)
      · try simp only [NRM] at h5
        refine SX.VC_df (.bool (decide (l ≤ 2))) (by intro α; show _ = _; kernel_rfl) (by kernel_rfl) ?_
        refine SX.VC_br (decide (l ≤ 2)) (by kernel_rfl) (fun h6 => ?_) (fun h6 => ?_)
        · try simp only [NRM] at h6
          refine SX.VC_df (.bool (decide (n ≥ 1))) (by intro α; show _ = _; kernel_rfl) (by kernel_rfl) ?_
          refine SX.VC_br (decide (n ≥ 1)) (by kernel_rfl) (fun h7 => ?_) (fun h7 => ?_)
          · try simp only [NRM] at h7
            refine SX.VC_df (.bool (decide (n ≤ 1048576))) (by intro α; show _ = _; kernel_rfl) (by kernel_rfl) ?_
            exact SX.VC_ret fun α W _ _ hS => SX.ret_of hS (x := .bool (decide (n ≤ 1048576))) (by kernel_rfl) (by congr 1; rw [Bool.eq_iff_iff]; simp only [decide_eq_true_eq, Bool.false_eq_true, true_iff, false_iff, iff_true, iff_false]; unfold capOk; omega)
          · try simp only [NRM] at h7
            exact SX.VC_ret fun α W _ _ hS => SX.ret_of hS (x := .bool false) (by kernel_rfl) (by congr 1; rw [Bool.eq_iff_iff]; simp only [decide_eq_true_eq, Bool.false_eq_true, true_iff, false_iff, iff_true, iff_false]; unfold capOk; omega)
        · try simp only [NRM] at h6
          exact SX.VC_ret fun α W _ _ hS => SX.ret_of hS (x := .bool false) (by kernel_rfl) (by congr 1; rw [Bool.eq_iff_iff]; simp only [decide_eq_true_eq, Bool.false_eq_true, true_iff, false_iff, iff_true, iff_false]; unfold capOk; omega)
      · try simp only [NRM] at h5
        exact SX.VC_ret fun α W _ _ hS => SX.ret_of hS (x := .bool false) (by kernel_rfl) (by congr 1; rw [Bool.eq_iff_iff]; simp only [decide_eq_true_eq, Bool.false_eq_true, true_iff, false_iff, iff_true, iff_false]; unfold capOk; omega)
    · try simp only [NRM] at h4
      refine SX.VC_df (.bool ((k : Int) == 3)) (by intro α; show _ = _; kernel_rfl) (by kernel_rfl) ?_
      refine SX.VC_br ((k : Int) == 3) (by kernel_rfl) (fun h5 => ?_) (fun h5 => ?_)
      · try simp only [NRM] at h5
        refine SX.VC_df (.bool ((l : Int) == 0)) (by intro α; show _ = _; kernel_rfl) (by kernel_rfl) ?_
        refine SX.VC_br ((l : Int) == 0) (by kernel_rfl) (fun h6 => ?_) (fun h6 => ?_)
        · try simp only [NRM] at h6
          refine SX.VC_df (.bool (decide (n ≥ 1))) (by intro α; show _ = _; kernel_rfl) (by kernel_rfl) ?_
          refine SX.VC_br (decide (n ≥ 1)) (by kernel_rfl) (fun h7 => ?_) (fun h7 => ?_)
          · try simp only [NRM] at h7
            refine SX.VC_df (.bool (decide (n ≤ 16))) (by intro α; show _ = _; kernel_rfl) (by kernel_rfl) ?_
            exact SX.VC_ret fun α W _ _ hS => SX.ret_of hS (x := .bool (decide (n ≤ 16))) (by kernel_rfl) (by congr 1; rw [Bool.eq_iff_iff]; simp only [decide_eq_true_eq, Bool.false_eq_true, true_iff, false_iff, iff_true, iff_false]; unfold capOk; omega)
          · try simp only [NRM] at h7
            exact SX.VC_ret fun α W _ _ hS => SX.ret_of hS (x := .bool false) (by kernel_rfl) (by congr 1; rw [Bool.eq_iff_iff]; simp only [decide_eq_true_eq, Bool.false_eq_true, true_iff, false_iff, iff_true, iff_false]; unfold capOk; omega)
        · try simp only [NRM] at h6
          exact SX.VC_ret fun α W _ _ hS => SX.ret_of hS (x := .bool false) (by kernel_rfl) (by congr 1; rw [Bool.eq_iff_iff]; simp only [decide_eq_true_eq, Bool.false_eq_true, true_iff, false_iff, iff_true, iff_false]; unfold capOk; omega)
      · try simp only [NRM] at h5
        refine SX.VC_df (.bool ((k : Int) == 4)) (by intro α; show _ = _; kernel_rfl) (by kernel_rfl) ?_
        refine SX.VC_br ((k : Int) == 4) (by kernel_rfl) (fun h6 => ?_) (fun h6 => ?_)
        · try simp only [NRM] at h6
          refine SX.VC_df (.bool ((l : Int) == 0)) (by intro α; show _ = _; kernel_rfl) (by kernel_rfl) ?_
          refine SX.VC_br ((l : Int) == 0) (by kernel_rfl) (fun h7 => ?_) (fun h7 => ?_)
          · try simp only [NRM] at h7
            refine SX.VC_df (.bool (decide (n ≥ 0))) (by intro α; show _ = _; kernel_rfl) (by kernel_rfl) ?_
            refine SX.VC_br (decide (n ≥ 0)) (by kernel_rfl) (fun h8 => ?_) (fun h8 => ?_)
            · try simp only [NRM] at h8
              refine SX.VC_df (.bool (decide (n ≤ 16))) (by intro α; show _ = _; kernel_rfl) (by kernel_rfl) ?_
              exact SX.VC_ret fun α W _ _ hS => SX.ret_of hS (x := .bool (decide (n ≤ 16))) (by kernel_rfl) (by congr 1; rw [Bool.eq_iff_iff]; simp only [decide_eq_true_eq, Bool.false_eq_true, true_iff, false_iff, iff_true, iff_false]; unfold capOk; omega)
            · try simp only [NRM] at h8
              exact SX.VC_ret fun α W _ _ hS => SX.ret_of hS (x := .bool false) (by kernel_rfl) (by congr 1; rw [Bool.eq_iff_iff]; simp only [decide_eq_true_eq, Bool.false_eq_true, true_iff, false_iff, iff_true, iff_false]; unfold capOk; omega)
          · try simp only [NRM] at h7
            exact SX.VC_ret fun α W _ _ hS => SX.ret_of hS (x := .bool false) (by kernel_rfl) (by congr 1; rw [Bool.eq_iff_iff]; simp only [decide_eq_true_eq, Bool.false_eq_true, true_iff, false_iff, iff_true, iff_false]; unfold capOk; omega)
        · try simp only [NRM] at h6
          refine SX.VC_df (.bool ((k : Int) == 5)) (by intro α; show _ = _; kernel_rfl) (by kernel_rfl) ?_
          refine SX.VC_br ((k : Int) == 5) (by kernel_rfl) (fun h7 => ?_) (fun h7 => ?_)
          · try simp only [NRM] at h7
            refine SX.VC_df (.bool ((l : Int) == 0)) (by intro α; show _ = _; kernel_rfl) (by kernel_rfl) ?_
            refine SX.VC_br ((l : Int) == 0) (by kernel_rfl) (fun h8 => ?_) (fun h8 => ?_)
            · try simp only [NRM] at h8
              refine SX.VC_df (.bool (decide (n ≥ 0))) (by intro α; show _ = _; kernel_rfl) (by kernel_rfl) ?_
              refine SX.VC_br (decide (n ≥ 0)) (by kernel_rfl) (fun h9 => ?_) (fun h9 => ?_)
              · try simp only [NRM] at h9
                refine SX.VC_df (.bool (decide (n ≤ 500))) (by intro α; show _ = _; kernel_rfl) (by kernel_rfl) ?_
                exact SX.VC_ret fun α W _ _ hS => SX.ret_of hS (x := .bool (decide (n ≤ 500))) (by kernel_rfl) (by congr 1; rw [Bool.eq_iff_iff]; simp only [decide_eq_true_eq, Bool.false_eq_true, true_iff, false_iff, iff_true, iff_false]; unfold capOk; omega)
              · try simp only [NRM] at h9
                exact SX.VC_ret fun α W _ _ hS => SX.ret_of hS (x := .bool false) (by kernel_rfl) (by congr 1; rw [Bool.eq_iff_iff]; simp only [decide_eq_true_eq, Bool.false_eq_true, true_iff, false_iff, iff_true, iff_false]; unfold capOk; omega)
            · try simp only [NRM] at h8
              exact SX.VC_ret fun α W _ _ hS => SX.ret_of hS (x := .bool false) (by kernel_rfl) (by congr 1; rw [Bool.eq_iff_iff]; simp only [decide_eq_true_eq, Bool.false_eq_true, true_iff, false_iff, iff_true, iff_false]; unfold capOk; omega)
          · try simp only [NRM] at h7
            refine SX.VC_df (.bool ((k : Int) == 6)) (by intro α; show _ = _; kernel_rfl) (by kernel_rfl) ?_
            refine SX.VC_br ((k : Int) == 6) (by kernel_rfl) (fun h8 => ?_) (fun h8 => ?_)
            · try simp only [NRM] at h8
              refine SX.VC_df (.bool ((l : Int) == 0)) (by intro α; show _ = _; kernel_rfl) (by kernel_rfl) ?_
              refine SX.VC_br ((l : Int) == 0) (by kernel_rfl) (fun h9 => ?_) (fun h9 => ?_)
              · try simp only [NRM] at h9
                refine SX.VC_df (.bool (decide (n ≥ 0))) (by intro α; show _ = _; kernel_rfl) (by kernel_rfl) ?_
                refine SX.VC_br (decide (n ≥ 0)) (by kernel_rfl) (fun h10 => ?_) (fun h10 => ?_)
                · try simp only [NRM] at h10
                  refine SX.VC_df (.bool (decide (n ≤ 1048576))) (by intro α; show _ = _; kernel_rfl) (by kernel_rfl) ?_
                  exact SX.VC_ret fun α W _ _ hS => SX.ret_of hS (x := .bool (decide (n ≤ 1048576))) (by kernel_rfl) (by congr 1; rw [Bool.eq_iff_iff]; simp only [decide_eq_true_eq, Bool.false_eq_true, true_iff, false_iff, iff_true, iff_false]; unfold capOk; omega)
                · try simp only [NRM] at h10
                  exact SX.VC_ret fun α W _ _ hS => SX.ret_of hS (x := .bool false) (by kernel_rfl) (by congr 1; rw [Bool.eq_iff_iff]; simp only [decide_eq_true_eq, Bool.false_eq_true, true_iff, false_iff, iff_true, iff_false]; unfold capOk; omega)
              · try simp only [NRM] at h9
                exact SX.VC_ret fun α W _ _ hS => SX.ret_of hS (x := .bool false) (by kernel_rfl) (by congr 1; rw [Bool.eq_iff_iff]; simp only [decide_eq_true_eq, Bool.false_eq_true, true_iff, false_iff, iff_true, iff_false]; unfold capOk; omega)
            · try simp only [NRM] at h8
              exact SX.VC_ret fun α W _ _ hS => SX.ret_of hS (x := .bool false) (by kernel_rfl) (by congr 1; rw [Bool.eq_iff_iff]; simp only [decide_eq_true_eq, Bool.false_eq_true, true_iff, false_iff, iff_true, iff_false]; unfold capOk; omega)
def tree_rwithin : SX.Tree :=
(.df (.bin .geq 3) [(.x 0 []), (.x 1 [])] .one 
(.br 3 [] 
(.df (.bin .leq 3) [(.x 0 []), (.x 2 [])] .one 
(.ret (.x 4 []) [] [])) 
(.ret (.k (.bool false)) [] [])))
def args_rwithin : List SX.V := [.x 0 [], .x 1 [], .x 2 []]
set_option maxRecDepth 100000 in
theorem run_rwithin (K A : Value → Nat → List Value → Prop) : (SX.run (cx0 K A) ⟨fun _ => true, [], 0, 100⟩ 100000 0 (SX.door 35 Try.f35 args_rwithin [.one, .one, .one]) [.code (Try.f35.body.getD .skip), .top Try.f35]).strip = tree_rwithin := by kernel_rfl
set_option maxRecDepth 100000 in
set_option maxHeartbeats 4000000 in
theorem rwithin_any (v a b : Int) (w : World)  : Calls Try.prog 35 #[.int .i64 v, .int .i64 a, .int .i64 b] w fun e w' => e = .returned (.bool (decide (a ≤ v ∧ v ≤ b))) ∧ Below w.heap.size w w' := by
  refine SX.calls_of_run (C := cx0 (fun _ _ _ => False) (fun _ _ _ => False)) (G := ⟨fun _ => true, [], 0, 100⟩) (args := args_rwithin) (sh := [.one, .one, .one]) (ρ := [.int .i64 v, .int .i64 a, .int .i64 b]) 100000 tree_rwithin (cx0_ok _ _) Try.func35 rfl (run_rwithin _ _) (by kernel_rfl) (by kernel_rfl) (by kernel_rfl) ?_ ?_
  · exact fun W _ => SX.Kf_none (fun _ _ _ h => h) W
  unfold tree_rwithin
  refine SX.VC_df (.bool (decide (v ≥ a))) (by intro α; show _ = _; kernel_rfl) (by kernel_rfl) ?_
  refine SX.VC_br (decide (v ≥ a)) (by kernel_rfl) (fun h3 => ?_) (fun h3 => ?_)
  · try simp only [NRM] at h3
    refine SX.VC_df (.bool (decide (v ≤ b))) (by intro α; show _ = _; kernel_rfl) (by kernel_rfl) ?_
    exact SX.VC_ret fun α W _ _ hS => SX.ret_of hS (x := .bool (decide (v ≤ b))) (by kernel_rfl) (by congr 1; rw [Bool.eq_iff_iff]; simp only [decide_eq_true_eq, Bool.false_eq_true, false_iff, iff_false]; omega)
  · try simp only [NRM] at h3
    exact SX.VC_ret fun α W _ _ hS => SX.ret_of hS (x := .bool false) (by kernel_rfl) (by congr 1; rw [Bool.eq_iff_iff]; simp only [decide_eq_true_eq, Bool.false_eq_true, false_iff, iff_false]; omega)
end Go.Proofs.Ytmkigejhgpoleaa
