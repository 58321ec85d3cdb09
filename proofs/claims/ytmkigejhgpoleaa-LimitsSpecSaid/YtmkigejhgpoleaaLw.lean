/-
  Check and Add match the specification: the walk.
-/
import Derived.Test.YtmkigejhgpoleaaLq
import Derived.Test.YtmkigejhgpoleaaLr
import Derived.Test.YtmkigejhgpoleaaLx
namespace Go.Proofs.Ytmkigejhgpoleaa
set_option linter.unusedSimpArgs false
set_option linter.unusedVariables false
open Go Go.RowKit
/-- what is known for the laws on the specification -/
def RW1 (f : FuncId) (xs : List SX.Arg) (v : Value) : Prop :=
  (f = 14 ∧ ∃ (u : Value) (ls : List Lim), xs = [⟨u, 9, lmL ls⟩] ∧ ls.length ≤ 9223372036854775807 ∧ fitLm ls ∧ v = .int .i64 (chkL ls)) ∨
  (f = 16 ∧ ∃ (u u2 : Value) (ls ms : List Lim), xs = [⟨u, 9, lmL ls⟩, ⟨u2, 9, lmL ms⟩] ∧ ls.length ≤ 9223372036854775807 ∧ ms.length ≤ 9223372036854775807 ∧ v = .bool (decide (ls = ms))) ∨
  (f = 12 ∧ ∃ (u : Value) (ls : List Lim) (x : Lim), xs = [⟨u, 9, lmL ls⟩, ⟨valLm x, 0, []⟩] ∧ ls.length ≤ 9223372036854775807 ∧ fitLm ls ∧ fitI x.of_ ∧ v = .tuple #[.agg (lmL (addR ls x).1).toArray, .int .i64 (addR ls x).2]) ∨
  (f = 17 ∧ ∃ (u : Value) (ls : List Lim) (p d t : Int), xs = [⟨u, 9, lmL ls⟩, ⟨.int .i64 p, 0, []⟩, ⟨.int .i64 d, 0, []⟩, ⟨.int .i64 t, 0, []⟩] ∧ ls.length ≤ 9223372036854775807 ∧ fitLm ls ∧ v = .tuple #[.agg (lmL (standR ls p d t).1).toArray, .int .i64 (standR ls p d t).2]) ∨
  (f = 19 ∧ ∃ (b : Bod.Bd) (u : Value) (ls : List Lim) (p d t : Int), xs = [⟨valBd b, 0, []⟩, ⟨u, 9, lmL ls⟩, ⟨.int .i64 p, 0, []⟩, ⟨.int .i64 d, 0, []⟩, ⟨.int .i64 t, 0, []⟩] ∧ b.name.size ≤ maxLen ∧ ls.length ≤ 9223372036854775807 ∧ fitLm ls ∧ v = .tuple #[valBd (inForceR b ls p d t).1, .int .i64 (inForceR b ls p d t).2]) ∨
  (f = 10 ∧ xs = [] ∧ v = .bool true) ∨
  (f = 15 ∧ ∃ (u : Value) (ls : List Lim), xs = [⟨u, 9, lmL ls⟩] ∧ ls.length ≤ 9223372036854775807 ∧ v = .int .i64 (chkL ls)) ∨
  (f = 13 ∧ ∃ (u : Value) (ls : List Lim) (x : Lim), xs = [⟨u, 9, lmL ls⟩, ⟨valLm x, 0, []⟩] ∧ ls.length ≤ 9223372036854775807 ∧ v = .tuple #[.agg (lmL (addR ls x).1).toArray, .int .i64 (addR ls x).2])
def shpW1 : FuncId → Option SX.Sh := fun f => if f = 14 then some .one else if f = 16 then some .one else if f = 12 then some (.tp [.sl 9, .one]) else if f = 17 then some (.tp [.sl 9, .one]) else if f = 19 then some (.tp [.ag 17, .one]) else if f = 10 then some .one else if f = 15 then some .one else if f = 13 then some (.tp [.sl 9, .one]) else none
noncomputable def cxW1 (K A : Value → Nat → List Value → Prop) : SX.Cx := { P := Try.prog, R := fun _ => RW1, shp := shpW1, K := K, A := A, trm := true }
theorem okW1 (K A : Value → Nat → List Value → Prop) : (cxW1 K A).Ok := by
  refine SX.Cx.ok_of (fun _ => rfl) ?_
  intro K f xs v W hR hrd hKf
  rcases hR with ⟨rfl, u, ls, rfl, hl, hf, rfl⟩ | ⟨rfl, u, u2, ls, ms, rfl, hl, hl2, rfl⟩ | ⟨rfl, u, ls, x, rfl, hl, hf, hx, rfl⟩ | ⟨rfl, u, ls, p, d, t, rfl, hl, hf, rfl⟩ | ⟨rfl, b, u, ls, p, d, t, rfl, hs, hl, hf, rfl⟩ | ⟨rfl, rfl, rfl⟩ | ⟨rfl, u, ls, rfl, hl, rfl⟩ | ⟨rfl, u, ls, x, rfl, hl, rfl⟩
  · obtain ⟨A, n, c, rfl, h2, h3, h4⟩ := lms_arg (hrd ⟨u, 9, lmL ls⟩ (by simp))
    exact (lCheck_any ls A n c W h2 (by omega) h3 hf).mono fun e w' h => SX.plainOk rfl h
  · obtain ⟨A, n, c, rfl, h2, h3, h4⟩ := lms_arg (hrd ⟨u, 9, lmL ls⟩ (by simp))
    obtain ⟨A', n', c', rfl, h2', h3', h4'⟩ := lms_arg (hrd ⟨u2, 9, lmL ms⟩ (by simp))
    exact (same_any ls ms A A' n c n' c' W h2 (by omega) h3 h2' (by omega) h3').mono fun e w' h => SX.plainOk rfl h
  · refine Calls.mono ?_ fun e w' h => SX.SlRet.ok0 rfl h
    obtain ⟨A, n, c, rfl, h2, h3, h4⟩ := lms_arg (hrd ⟨u, 9, lmL ls⟩ (by simp))
    exact lAdd_any ls A n c x W h2 (by omega) h3 hf hx
  · refine Calls.mono ?_ fun e w' h => SX.SlRet.ok0 rfl h
    obtain ⟨A, n, c, rfl, h2, h3, h4⟩ := lms_arg (hrd ⟨u, 9, lmL ls⟩ (by simp))
    exact lStand_any ls A n c p d t W h2 (by omega) h3 hf
  · obtain ⟨A, n, c, rfl, h2, h3, h4⟩ := lms_arg (hrd ⟨u, 9, lmL ls⟩ (by simp))
    exact (inForce_any b ls A n c p d t W hs h2 (by omega) h3 hf).mono fun e w' h => SX.plainOk rfl h
  · exact (lSane_any W).mono fun e w' h => SX.plainOk rfl h
  · obtain ⟨A, n, c, rfl, h2, h3, h4⟩ := lms_arg (hrd ⟨u, 9, lmL ls⟩ (by simp))
    exact (rCheck_any ls A n c W h2 (by omega) h3).mono fun e w' h => SX.plainOk rfl h
  · refine Calls.mono ?_ fun e w' h => SX.SlRet.ok0 rfl h
    obtain ⟨A, n, c, rfl, h2, h3, h4⟩ := lms_arg (hrd ⟨u, 9, lmL ls⟩ (by simp))
    exact rAdd_any ls A n c x W h2 (by omega) h3
def tree_spec : SX.Tree :=
(.df (.call 10 []) [] .one 
(.df .not [(.x 10 [])] .one 
(.br 11 [] 
(.ret (.k (.bool false)) [] []) 
(.df (.len false) [(.x 0 [])] .one 
(.df (.bin .leq 3) [(.x 12 []), (.k (.int .i64 120))] .one 
(.br 13 [] 
(.df (.call 12 [(.ext 9), .no]) [(.x 0 []), (.a [(.x 1 []), (.x 2 []), (.x 3 []), (.x 4 []), (.x 5 []), (.x 6 []), (.x 7 []), (.x 8 []), (.x 9 [])])] (.tp [(.sl 9), .one]) 
(.df (.call 13 [(.ext 9), .no]) [(.x 0 []), (.a [(.x 1 []), (.x 2 []), (.x 3 []), (.x 4 []), (.x 5 []), (.x 6 []), (.x 7 []), (.x 8 []), (.x 9 [])])] (.tp [(.sl 9), .one]) 
(.df (.call 14 [(.ext 9)]) [(.x 0 [])] .one 
(.df (.call 15 [(.ext 9)]) [(.x 0 [])] .one 
(.df (.bin .eql 29) [(.x 16 []), (.x 17 [])] .one 
(.br 18 [] 
(.df (.call 16 [(.row 9 [(.x 14 [0])]), (.row 9 [(.x 15 [0])])]) [(.row 1), (.row 2)] .one 
(.br 19 [] 
(.df (.bin .eql 29) [(.x 14 [1]), (.x 15 [1])] .one 
(.ret (.x 20 []) [] [])) 
(.ret (.k (.bool false)) [] []))) 
(.ret (.k (.bool false)) [] []))))))) 
(.df (.len false) [(.x 0 [])] .one 
(.df (.bin .gtr 3) [(.x 14 []), (.k (.int .i64 512))] .one 
(.br 15 [] 
(.df (.len false) [(.x 0 [])] .one 
(.df (.bin .leq 3) [(.x 16 []), (.k (.int .i64 600))] .one 
(.df .not [(.x 17 [])] .one 
(.br 18 [] 
(.ret (.k (.bool true)) [] []) 
(.df (.call 12 [(.ext 9), .no]) [(.x 0 []), (.a [(.x 1 []), (.x 2 []), (.x 3 []), (.x 4 []), (.x 5 []), (.x 6 []), (.x 7 []), (.x 8 []), (.x 9 [])])] (.tp [(.sl 9), .one]) 
(.df (.call 13 [(.ext 9), .no]) [(.x 0 []), (.a [(.x 1 []), (.x 2 []), (.x 3 []), (.x 4 []), (.x 5 []), (.x 6 []), (.x 7 []), (.x 8 []), (.x 9 [])])] (.tp [(.sl 9), .one]) 
(.df (.call 14 [(.ext 9)]) [(.x 0 [])] .one 
(.df (.call 15 [(.ext 9)]) [(.x 0 [])] .one 
(.df (.bin .eql 29) [(.x 21 []), (.x 22 [])] .one 
(.br 23 [] 
(.df (.call 16 [(.row 9 [(.x 19 [0])]), (.row 9 [(.x 20 [0])])]) [(.row 1), (.row 2)] .one 
(.br 24 [] 
(.df (.bin .eql 29) [(.x 19 [1]), (.x 20 [1])] .one 
(.ret (.x 25 []) [] [])) 
(.ret (.k (.bool false)) [] []))) 
(.ret (.k (.bool false)) [] []))))))))))) 
(.ret (.k (.bool true)) [] []))))))))))
def args_spec : List SX.V := [.x 0 [], .a ((List.range 9).map fun j => .x (1 + j) [])]
set_option maxRecDepth 100000 in
theorem run_spec (K A : Value → Nat → List Value → Prop) : (SX.run (cxW1 K A) ⟨fun f => true, [], 0, 100⟩ 100000 0 (SX.door 3 Try.f3 args_spec (List.replicate 10 .one)) [.code (Try.f3.body.getD .skip), .top Try.f3]).strip = tree_spec := by kernel_rfl
set_option maxRecDepth 100000 in
set_option maxHeartbeats 4000000 in
theorem spec_any (ls : List Lim) (A : Option Addr) (n c : Nat) (x : Lim) (w : World) (hr : Rd w 9 A n (lmL ls)) (hn : n ≤ 9223372036854775807) (hc : n ≤ c) (hfit : fitLm ls) (hx : fitI x.of_) : Calls Try.prog 3 #[.slice A n c, valLm x] w fun e w' => e = .returned (.bool true) ∧ Below w.heap.size w w' := by
  refine SX.calls_of_run (C := cxW1 (fun s sz cells => s = .slice A n c ∧ sz = 9 ∧ cells = lmL ls) (fun _ _ _ => False)) (G := ⟨fun f => true, [], 0, 100⟩) (args := args_spec) (sh := (List.replicate 10 .one)) (ρ := (.slice A n c :: cellsLm x)) 100000 tree_spec (okW1 _ _) Try.func3 rfl (run_spec _ _) (by kernel_rfl) (by kernel_rfl) (by kernel_rfl) ?_ ?_
  · rintro W hW s sz cells ⟨rfl, rfl, rfl⟩; exact ⟨hr.same0 hW, hc⟩
  have hA := SX.rd_some hr
  have hln : ls.length = n := by have := hr.1; rw [lmL_len] at this; omega
  unfold tree_spec
  refine SX.VC_df (.bool true) (fun α => ⟨[], trivial, .inr (.inr (.inr (.inr (.inr (.inl ⟨rfl, rfl, rfl⟩))))), SX.noAli rfl⟩) (by kernel_rfl) ?_
  refine SX.VC_df (.bool (!(true))) (by intro α; show _ = _; kernel_rfl) (by kernel_rfl) ?_
  refine SX.VC_br (!(true)) (by kernel_rfl) (fun h11 => absurd h11 (by simp)) (fun h11 => ?_)
  try simp only [NRM] at h11
  refine SX.VC_df (.int .i64 (((n : Nat) : Int))) (by intro α; show _ = _; kernel_rfl) (by kernel_rfl) ?_
  refine SX.VC_df (.bool (decide (((n : Nat) : Int) ≤ 120))) (by intro α; show _ = _; kernel_rfl) (by kernel_rfl) ?_
  refine SX.VC_br (decide (((n : Nat) : Int) ≤ 120)) (by kernel_rfl) (fun h13 => ?_) (fun h13 => ?_)
  · try simp only [NRM] at h13
    refine SX.VC_df (.tuple #[Value.agg (lmL (addR ls x).1).toArray, .int .i64 ((addR ls x).2)]) (fun α => ⟨[⟨.slice A n c, 9, lmL ls⟩, ⟨valLm x, 0, []⟩], ⟨by kernel_rfl, rfl, ⟨by kernel_rfl, rfl, rfl⟩, by kernel_rfl, by kernel_rfl, trivial⟩, .inr (.inr (.inl ⟨rfl, _, ls, x, rfl, by omega, hfit, hx, rfl⟩)), SX.noAli rfl⟩) (lms_fit _ _) ?_
    refine SX.VC_df (.tuple #[Value.agg (lmL (addR ls x).1).toArray, .int .i64 ((addR ls x).2)]) (fun α => ⟨[⟨.slice A n c, 9, lmL ls⟩, ⟨valLm x, 0, []⟩], ⟨by kernel_rfl, rfl, ⟨by kernel_rfl, rfl, rfl⟩, by kernel_rfl, by kernel_rfl, trivial⟩, .inr (.inr (.inr (.inr (.inr (.inr (.inr (⟨rfl, _, ls, x, rfl, by omega, rfl⟩))))))), SX.noAli rfl⟩) (lms_fit _ _) ?_
    refine SX.VC_df (.int .i64 ((chkL ls))) (fun α => ⟨[⟨.slice A n c, 9, lmL ls⟩], ⟨by kernel_rfl, rfl, ⟨by kernel_rfl, rfl, rfl⟩, trivial⟩, .inl ⟨rfl, _, ls, rfl, by omega, hfit, rfl⟩, SX.noAli rfl⟩) (by kernel_rfl) ?_
    refine SX.VC_df (.int .i64 ((chkL ls))) (fun α => ⟨[⟨.slice A n c, 9, lmL ls⟩], ⟨by kernel_rfl, rfl, ⟨by kernel_rfl, rfl, rfl⟩, trivial⟩, .inr (.inr (.inr (.inr (.inr (.inr (.inl ⟨rfl, _, ls, rfl, by omega, rfl⟩)))))), SX.noAli rfl⟩) (by kernel_rfl) ?_
    refine SX.VC_df (.bool (((chkL ls) : Int) == (chkL ls))) (by intro α; show _ = _; kernel_rfl) (by kernel_rfl) ?_
    refine SX.VC_br (((chkL ls) : Int) == (chkL ls)) (by kernel_rfl) (fun h18 => ?_) (fun h18 => absurd h18 (by simp))
    try simp only [NRM] at h18
    refine SX.VC_df (.bool true) (fun α => ⟨[⟨(α 1).h, 9, lmL ((addR ls x).1)⟩, ⟨(α 2).h, 9, lmL ((addR ls x).1)⟩], ⟨Eq.trans (b := (⟨(α 1).h, 9, [Value.agg (lmL ((addR ls x).1)).toArray].flatMap SX.cellsV⟩ : SX.Arg)) (by simp [SX.cellsV]) (by kernel_rfl), Eq.trans (b := (⟨(α 2).h, 9, [Value.agg (lmL ((addR ls x).1)).toArray].flatMap SX.cellsV⟩ : SX.Arg)) (by simp [SX.cellsV]) (by kernel_rfl), trivial⟩, .inr (.inl ⟨rfl, _, _, _, _, rfl, Nat.le_trans (addR_le _ _) (by omega), Nat.le_trans (addR_le _ _) (by omega), by simp⟩), SX.noAli rfl⟩) (by kernel_rfl) ?_
    refine SX.VC_br true (by kernel_rfl) (fun h19 => ?_) (fun h19 => absurd h19 (by simp))
    try simp only [NRM] at h19
    refine SX.VC_df (.bool (((addR ls x).2 : Int) == (addR ls x).2)) (by intro α; show _ = _; kernel_rfl) (by kernel_rfl) ?_
    exact SX.VC_ret fun α W _ _ hS => SX.ret_of hS (x := .bool (((addR ls x).2 : Int) == (addR ls x).2)) (by kernel_rfl) (by simp)
  · try simp only [NRM] at h13
    refine SX.VC_df (.int .i64 (((n : Nat) : Int))) (by intro α; show _ = _; kernel_rfl) (by kernel_rfl) ?_
    refine SX.VC_df (.bool (decide (((n : Nat) : Int) > 512))) (by intro α; show _ = _; kernel_rfl) (by kernel_rfl) ?_
    refine SX.VC_br (decide (((n : Nat) : Int) > 512)) (by kernel_rfl) (fun h15 => ?_) (fun h15 => ?_)
    · try simp only [NRM] at h15
      refine SX.VC_df (.int .i64 (((n : Nat) : Int))) (by intro α; show _ = _; kernel_rfl) (by kernel_rfl) ?_
      refine SX.VC_df (.bool (decide (((n : Nat) : Int) ≤ 600))) (by intro α; show _ = _; kernel_rfl) (by kernel_rfl) ?_
      refine SX.VC_df (.bool (!(decide (((n : Nat) : Int) ≤ 600)))) (by intro α; show _ = _; kernel_rfl) (by kernel_rfl) ?_
      refine SX.VC_br (!(decide (((n : Nat) : Int) ≤ 600))) (by kernel_rfl) (fun h18 => ?_) (fun h18 => ?_)
      · try simp only [NRM] at h18
        exact SX.VC_ret fun α W _ _ hS => SX.ret_of hS (x := .bool true) (by kernel_rfl) (by simp)
      · try simp only [NRM] at h18
        refine SX.VC_df (.tuple #[Value.agg (lmL (addR ls x).1).toArray, .int .i64 ((addR ls x).2)]) (fun α => ⟨[⟨.slice A n c, 9, lmL ls⟩, ⟨valLm x, 0, []⟩], ⟨by kernel_rfl, rfl, ⟨by kernel_rfl, rfl, rfl⟩, by kernel_rfl, by kernel_rfl, trivial⟩, .inr (.inr (.inl ⟨rfl, _, ls, x, rfl, by omega, hfit, hx, rfl⟩)), SX.noAli rfl⟩) (lms_fit _ _) ?_
        refine SX.VC_df (.tuple #[Value.agg (lmL (addR ls x).1).toArray, .int .i64 ((addR ls x).2)]) (fun α => ⟨[⟨.slice A n c, 9, lmL ls⟩, ⟨valLm x, 0, []⟩], ⟨by kernel_rfl, rfl, ⟨by kernel_rfl, rfl, rfl⟩, by kernel_rfl, by kernel_rfl, trivial⟩, .inr (.inr (.inr (.inr (.inr (.inr (.inr (⟨rfl, _, ls, x, rfl, by omega, rfl⟩))))))), SX.noAli rfl⟩) (lms_fit _ _) ?_
        refine SX.VC_df (.int .i64 ((chkL ls))) (fun α => ⟨[⟨.slice A n c, 9, lmL ls⟩], ⟨by kernel_rfl, rfl, ⟨by kernel_rfl, rfl, rfl⟩, trivial⟩, .inl ⟨rfl, _, ls, rfl, by omega, hfit, rfl⟩, SX.noAli rfl⟩) (by kernel_rfl) ?_
        refine SX.VC_df (.int .i64 ((chkL ls))) (fun α => ⟨[⟨.slice A n c, 9, lmL ls⟩], ⟨by kernel_rfl, rfl, ⟨by kernel_rfl, rfl, rfl⟩, trivial⟩, .inr (.inr (.inr (.inr (.inr (.inr (.inl ⟨rfl, _, ls, rfl, by omega, rfl⟩)))))), SX.noAli rfl⟩) (by kernel_rfl) ?_
        refine SX.VC_df (.bool (((chkL ls) : Int) == (chkL ls))) (by intro α; show _ = _; kernel_rfl) (by kernel_rfl) ?_
        refine SX.VC_br (((chkL ls) : Int) == (chkL ls)) (by kernel_rfl) (fun h23 => ?_) (fun h23 => absurd h23 (by simp))
        try simp only [NRM] at h23
        refine SX.VC_df (.bool true) (fun α => ⟨[⟨(α 1).h, 9, lmL ((addR ls x).1)⟩, ⟨(α 2).h, 9, lmL ((addR ls x).1)⟩], ⟨Eq.trans (b := (⟨(α 1).h, 9, [Value.agg (lmL ((addR ls x).1)).toArray].flatMap SX.cellsV⟩ : SX.Arg)) (by simp [SX.cellsV]) (by kernel_rfl), Eq.trans (b := (⟨(α 2).h, 9, [Value.agg (lmL ((addR ls x).1)).toArray].flatMap SX.cellsV⟩ : SX.Arg)) (by simp [SX.cellsV]) (by kernel_rfl), trivial⟩, .inr (.inl ⟨rfl, _, _, _, _, rfl, Nat.le_trans (addR_le _ _) (by omega), Nat.le_trans (addR_le _ _) (by omega), by simp⟩), SX.noAli rfl⟩) (by kernel_rfl) ?_
        refine SX.VC_br true (by kernel_rfl) (fun h24 => ?_) (fun h24 => absurd h24 (by simp))
        try simp only [NRM] at h24
        refine SX.VC_df (.bool (((addR ls x).2 : Int) == (addR ls x).2)) (by intro α; show _ = _; kernel_rfl) (by kernel_rfl) ?_
        exact SX.VC_ret fun α W _ _ hS => SX.ret_of hS (x := .bool (((addR ls x).2 : Int) == (addR ls x).2)) (by kernel_rfl) (by simp)
    · try simp only [NRM] at h15
      exact SX.VC_ret fun α W _ _ hS => SX.ret_of hS (x := .bool true) (by kernel_rfl) (by simp)
end Go.Proofs.Ytmkigejhgpoleaa
