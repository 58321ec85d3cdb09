/-
  A limit that is replaced: the walk.
-/
import Derived.Test.YtmkigejhgpoleaaLq
import Derived.Test.YtmkigejhgpoleaaLfe
namespace Go.Proofs.Ytmkigejhgpoleaa
set_option linter.unusedSimpArgs false
set_option linter.unusedVariables false
open Go Go.RowKit
def tree_replLaw : SX.Tree :=
(.df (.call 10 []) [] .one 
(.df .not [(.x 13 [])] .one 
(.br 14 [] 
(.ret (.k (.bool false)) [] []) 
(.df (.len false) [(.x 0 [])] .one 
(.df (.bin .eql 3) [(.x 15 []), (.k (.int .i64 0))] .one 
(.br 16 [] 
(.ret (.k (.bool true)) [] []) 
(.df (.len false) [(.x 0 [])] .one 
(.df (.bin .gtr 3) [(.x 17 []), (.k (.int .i64 120))] .one 
(.br 18 [] 
(.ret (.k (.bool true)) [] []) 
(.df (.call 14 [(.ext 9)]) [(.x 0 [])] .one 
(.df (.bin .neq 29) [(.x 19 []), (.k (.int .i64 0))] .one 
(.br 20 [] 
(.ret (.k (.bool true)) [] []) 
(.df (.conv .i64) [(.x 1 [])] .one 
(.df (.len false) [(.x 0 [])] .one 
(.df (.bin .rem 3) [(.x 21 []), (.x 22 [])] .one 
(.df .bnd [(.x 0 []), (.x 23 [])] .one 
(.df (.elems 9 0 9) [(.x 0 []), (.x 23 [])] (.ag 9) 
(.df (.bin .add 3) [(.x 25 [0]), (.k (.int .i64 1))] .one 
(.df (.call 12 [(.ext 9), .no]) [(.x 0 []), (.a [(.x 2 []), (.x 25 [1]), (.x 26 []), (.x 5 []), (.x 6 []), (.x 7 []), (.x 8 []), (.x 9 []), (.x 10 [])])] (.tp [(.sl 9), .one]) 
(.df (.bin .neq 29) [(.x 27 [1]), (.k (.int .i64 0))] .one 
(.br 28 [] 
(.ret (.k (.bool true)) [] []) 
(.df (.call 17 [(.ext 9), .no, .no, .no]) [(.x 0 []), (.x 25 [1]), (.x 11 []), (.x 12 [])] (.tp [(.sl 9), .one]) 
(.df (.call 17 [(.row 9 [(.x 27 [0])]), .no, .no, .no]) [(.row 2), (.x 25 [1]), (.x 11 []), (.x 12 [])] (.tp [(.sl 9), .one]) 
(.df (.bin .neq 29) [(.x 29 [1]), (.x 30 [1])] .one 
(.br 31 [] 
(.ret (.k (.bool false)) [] []) 
(.df (.bin .neq 29) [(.x 29 [1]), (.k (.int .i64 0))] .one 
(.br 32 [] 
(.df (.call 16 [(.row 9 [(.x 29 [0])]), (.row 9 [(.x 30 [0])])]) [(.row 3), (.row 4)] .one 
(.ret (.x 33 []) [] [])) 
(.df (.bin .lss 3) [(.x 12 []), (.x 7 [])] .one 
(.br 33 [] 
(.df (.call 16 [(.row 9 [(.x 29 [0])]), (.row 9 [(.x 30 [0])])]) [(.row 3), (.row 4)] .one 
(.ret (.x 34 []) [] [])) 
(.df (.eqr false 3 [(.i .i64), (.i .i64), (.i .i64)]) [(.x 8 []), (.x 9 []), (.x 10 []), (.k (.int .i64 0)), (.k (.int .i64 0)), (.k (.int .i64 0))] .one 
(.br 34 [] 
(.df (.rlen 9) [(.cat [(.x 29 [0])])] .one 
(.loop [(.k (.int .i64 0)), (.k (.bool true)), (.cat [])] [.one, .one, .any] 
(.df (.bin .lss 3) [(.x 36 []), (.x 35 [])] .one 
(.br 39 [] 
(.df (.rbnd 9) [(.cat [(.x 29 [0])]), (.x 36 [])] .one 
(.df (.relems 9 0 9) [(.cat [(.x 29 [0])]), (.x 36 [])] (.ag 9) 
(.df .not [(.x 37 [])] .one 
(.br 42 [] 
(.df (.bin .gtr 3) [(.x 41 [0]), (.x 2 [])] .one 
(.br 43 [] 
(.df (.app 9 72 (.own 9 [(.x 2 []), (.x 25 [1]), (.x 26 []), (.x 5 []), (.x 6 []), (.x 7 []), (.x 8 []), (.x 9 []), (.x 10 [])])) [(.cat [(.x 38 [])]), (.sl 10 0 1 1)] .any 
(.df (.bin .neq 3) [(.x 41 [0]), (.x 25 [0])] .one 
(.br 45 [] 
(.df (.app 9 72 (.own 9 [(.x 41 [0]), (.x 41 [1]), (.x 41 [2]), (.x 41 [3]), (.x 41 [4]), (.x 41 [5]), (.x 41 [6]), (.x 41 [7]), (.x 41 [8])])) [(.cat [(.x 38 []), (.x 44 [])]), (.sl 12 0 1 1)] .any 
(.df (.bin .add 3) [(.x 36 []), (.k (.int .i64 1))] .one 
(.again 0 [(.x 47 []), (.k (.bool true)), (.cat [(.x 38 []), (.x 44 []), (.x 46 [])])]))) 
(.df (.bin .add 3) [(.x 36 []), (.k (.int .i64 1))] .one 
(.again 0 [(.x 46 []), (.k (.bool true)), (.cat [(.x 38 []), (.x 44 [])])]))))) 
(.df (.bin .neq 3) [(.x 41 [0]), (.x 25 [0])] .one 
(.br 44 [] 
(.df (.app 9 72 (.own 9 [(.x 41 [0]), (.x 41 [1]), (.x 41 [2]), (.x 41 [3]), (.x 41 [4]), (.x 41 [5]), (.x 41 [6]), (.x 41 [7]), (.x 41 [8])])) [(.cat [(.x 38 [])]), (.sl 10 0 1 1)] .any 
(.df (.bin .add 3) [(.x 36 []), (.k (.int .i64 1))] .one 
(.again 0 [(.x 46 []), (.x 37 []), (.cat [(.x 38 []), (.x 45 [])])]))) 
(.df (.bin .add 3) [(.x 36 []), (.k (.int .i64 1))] .one 
(.again 0 [(.x 45 []), (.x 37 []), (.cat [(.x 38 [])])])))))) 
(.df (.bin .neq 3) [(.x 41 [0]), (.x 25 [0])] .one 
(.br 43 [] 
(.df (.app 9 72 (.own 9 [(.x 41 [0]), (.x 41 [1]), (.x 41 [2]), (.x 41 [3]), (.x 41 [4]), (.x 41 [5]), (.x 41 [6]), (.x 41 [7]), (.x 41 [8])])) [(.cat [(.x 38 [])]), (.sl 10 0 1 1)] .any 
(.df (.bin .add 3) [(.x 36 []), (.k (.int .i64 1))] .one 
(.again 0 [(.x 45 []), (.x 37 []), (.cat [(.x 38 []), (.x 44 [])])]))) 
(.df (.bin .add 3) [(.x 36 []), (.k (.int .i64 1))] .one 
(.again 0 [(.x 44 []), (.x 37 []), (.cat [(.x 38 [])])])))))))) 
(.df .not [(.x 37 [])] .one 
(.br 40 [] 
(.df (.app 9 72 (.own 9 [(.x 2 []), (.x 25 [1]), (.x 26 []), (.x 5 []), (.x 6 []), (.x 7 []), (.x 8 []), (.x 9 []), (.x 10 [])])) [(.cat [(.x 38 [])]), (.sl 9 0 1 1)] .any 
(.df (.call 16 [(.row 9 [(.x 30 [0])]), (.row 9 [(.x 38 []), (.x 41 [])])]) [(.row 4), (.row 10)] .one 
(.ret (.x 42 []) [] []))) 
(.df (.call 16 [(.row 9 [(.x 30 [0])]), (.row 9 [(.x 38 [])])]) [(.row 4), (.row 8)] .one 
(.ret (.x 41 []) [] [])))))))) 
(.df (.bin .lss 3) [(.x 11 []), (.x 5 [])] .one 
(.br 35 [] 
(.df (.rlen 9) [(.cat [(.x 29 [0])])] .one 
(.loop [(.k (.int .i64 0)), (.k (.bool true)), (.cat [])] [.one, .one, .any] 
(.df (.bin .lss 3) [(.x 37 []), (.x 36 [])] .one 
(.br 40 [] 
(.df (.rbnd 9) [(.cat [(.x 29 [0])]), (.x 37 [])] .one 
(.df (.relems 9 0 9) [(.cat [(.x 29 [0])]), (.x 37 [])] (.ag 9) 
(.df .not [(.x 38 [])] .one 
(.br 43 [] 
(.df (.bin .gtr 3) [(.x 42 [0]), (.x 2 [])] .one 
(.br 44 [] 
(.df (.app 9 72 (.own 9 [(.x 2 []), (.x 25 [1]), (.x 26 []), (.x 5 []), (.x 6 []), (.x 7 []), (.x 8 []), (.x 9 []), (.x 10 [])])) [(.cat [(.x 39 [])]), (.sl 10 0 1 1)] .any 
(.df (.bin .neq 3) [(.x 42 [0]), (.x 25 [0])] .one 
(.br 46 [] 
(.df (.app 9 72 (.own 9 [(.x 42 [0]), (.x 42 [1]), (.x 42 [2]), (.x 42 [3]), (.x 42 [4]), (.x 42 [5]), (.x 42 [6]), (.x 42 [7]), (.x 42 [8])])) [(.cat [(.x 39 []), (.x 45 [])]), (.sl 12 0 1 1)] .any 
(.df (.bin .add 3) [(.x 37 []), (.k (.int .i64 1))] .one 
(.again 0 [(.x 48 []), (.k (.bool true)), (.cat [(.x 39 []), (.x 45 []), (.x 47 [])])]))) 
(.df (.bin .add 3) [(.x 37 []), (.k (.int .i64 1))] .one 
(.again 0 [(.x 47 []), (.k (.bool true)), (.cat [(.x 39 []), (.x 45 [])])]))))) 
(.df (.bin .neq 3) [(.x 42 [0]), (.x 25 [0])] .one 
(.br 45 [] 
(.df (.app 9 72 (.own 9 [(.x 42 [0]), (.x 42 [1]), (.x 42 [2]), (.x 42 [3]), (.x 42 [4]), (.x 42 [5]), (.x 42 [6]), (.x 42 [7]), (.x 42 [8])])) [(.cat [(.x 39 [])]), (.sl 10 0 1 1)] .any 
(.df (.bin .add 3) [(.x 37 []), (.k (.int .i64 1))] .one 
(.again 0 [(.x 47 []), (.x 38 []), (.cat [(.x 39 []), (.x 46 [])])]))) 
(.df (.bin .add 3) [(.x 37 []), (.k (.int .i64 1))] .one 
(.again 0 [(.x 46 []), (.x 38 []), (.cat [(.x 39 [])])])))))) 
(.df (.bin .neq 3) [(.x 42 [0]), (.x 25 [0])] .one 
(.br 44 [] 
(.df (.app 9 72 (.own 9 [(.x 42 [0]), (.x 42 [1]), (.x 42 [2]), (.x 42 [3]), (.x 42 [4]), (.x 42 [5]), (.x 42 [6]), (.x 42 [7]), (.x 42 [8])])) [(.cat [(.x 39 [])]), (.sl 10 0 1 1)] .any 
(.df (.bin .add 3) [(.x 37 []), (.k (.int .i64 1))] .one 
(.again 0 [(.x 46 []), (.x 38 []), (.cat [(.x 39 []), (.x 45 [])])]))) 
(.df (.bin .add 3) [(.x 37 []), (.k (.int .i64 1))] .one 
(.again 0 [(.x 45 []), (.x 38 []), (.cat [(.x 39 [])])])))))))) 
(.df .not [(.x 38 [])] .one 
(.br 41 [] 
(.df (.app 9 72 (.own 9 [(.x 2 []), (.x 25 [1]), (.x 26 []), (.x 5 []), (.x 6 []), (.x 7 []), (.x 8 []), (.x 9 []), (.x 10 [])])) [(.cat [(.x 39 [])]), (.sl 9 0 1 1)] .any 
(.df (.call 16 [(.row 9 [(.x 30 [0])]), (.row 9 [(.x 39 []), (.x 42 [])])]) [(.row 4), (.row 10)] .one 
(.ret (.x 43 []) [] []))) 
(.df (.call 16 [(.row 9 [(.x 30 [0])]), (.row 9 [(.x 39 [])])]) [(.row 4), (.row 8)] .one 
(.ret (.x 42 []) [] [])))))))) 
(.df (.bin .gtr 3) [(.x 11 []), (.x 6 [])] .one 
(.df (.rlen 9) [(.cat [(.x 29 [0])])] .one 
(.loop [(.k (.int .i64 0)), (.x 36 []), (.cat [])] [.one, .one, .any] 
(.df (.bin .lss 3) [(.x 38 []), (.x 37 [])] .one 
(.br 41 [] 
(.df (.rbnd 9) [(.cat [(.x 29 [0])]), (.x 38 [])] .one 
(.df (.relems 9 0 9) [(.cat [(.x 29 [0])]), (.x 38 [])] (.ag 9) 
(.df .not [(.x 39 [])] .one 
(.br 44 [] 
(.df (.bin .gtr 3) [(.x 43 [0]), (.x 2 [])] .one 
(.br 45 [] 
(.df (.app 9 72 (.own 9 [(.x 2 []), (.x 25 [1]), (.x 26 []), (.x 5 []), (.x 6 []), (.x 7 []), (.x 8 []), (.x 9 []), (.x 10 [])])) [(.cat [(.x 40 [])]), (.sl 10 0 1 1)] .any 
(.df (.bin .neq 3) [(.x 43 [0]), (.x 25 [0])] .one 
(.br 47 [] 
(.df (.app 9 72 (.own 9 [(.x 43 [0]), (.x 43 [1]), (.x 43 [2]), (.x 43 [3]), (.x 43 [4]), (.x 43 [5]), (.x 43 [6]), (.x 43 [7]), (.x 43 [8])])) [(.cat [(.x 40 []), (.x 46 [])]), (.sl 12 0 1 1)] .any 
(.df (.bin .add 3) [(.x 38 []), (.k (.int .i64 1))] .one 
(.again 0 [(.x 49 []), (.k (.bool true)), (.cat [(.x 40 []), (.x 46 []), (.x 48 [])])]))) 
(.df (.bin .add 3) [(.x 38 []), (.k (.int .i64 1))] .one 
(.again 0 [(.x 48 []), (.k (.bool true)), (.cat [(.x 40 []), (.x 46 [])])]))))) 
(.df (.bin .neq 3) [(.x 43 [0]), (.x 25 [0])] .one 
(.br 46 [] 
(.df (.app 9 72 (.own 9 [(.x 43 [0]), (.x 43 [1]), (.x 43 [2]), (.x 43 [3]), (.x 43 [4]), (.x 43 [5]), (.x 43 [6]), (.x 43 [7]), (.x 43 [8])])) [(.cat [(.x 40 [])]), (.sl 10 0 1 1)] .any 
(.df (.bin .add 3) [(.x 38 []), (.k (.int .i64 1))] .one 
(.again 0 [(.x 48 []), (.x 39 []), (.cat [(.x 40 []), (.x 47 [])])]))) 
(.df (.bin .add 3) [(.x 38 []), (.k (.int .i64 1))] .one 
(.again 0 [(.x 47 []), (.x 39 []), (.cat [(.x 40 [])])])))))) 
(.df (.bin .neq 3) [(.x 43 [0]), (.x 25 [0])] .one 
(.br 45 [] 
(.df (.app 9 72 (.own 9 [(.x 43 [0]), (.x 43 [1]), (.x 43 [2]), (.x 43 [3]), (.x 43 [4]), (.x 43 [5]), (.x 43 [6]), (.x 43 [7]), (.x 43 [8])])) [(.cat [(.x 40 [])]), (.sl 10 0 1 1)] .any 
(.df (.bin .add 3) [(.x 38 []), (.k (.int .i64 1))] .one 
(.again 0 [(.x 47 []), (.x 39 []), (.cat [(.x 40 []), (.x 46 [])])]))) 
(.df (.bin .add 3) [(.x 38 []), (.k (.int .i64 1))] .one 
(.again 0 [(.x 46 []), (.x 39 []), (.cat [(.x 40 [])])])))))))) 
(.df .not [(.x 39 [])] .one 
(.br 42 [] 
(.df (.app 9 72 (.own 9 [(.x 2 []), (.x 25 [1]), (.x 26 []), (.x 5 []), (.x 6 []), (.x 7 []), (.x 8 []), (.x 9 []), (.x 10 [])])) [(.cat [(.x 40 [])]), (.sl 9 0 1 1)] .any 
(.df (.call 16 [(.row 9 [(.x 30 [0])]), (.row 9 [(.x 40 []), (.x 43 [])])]) [(.row 4), (.row 10)] .one 
(.ret (.x 44 []) [] []))) 
(.df (.call 16 [(.row 9 [(.x 30 [0])]), (.row 9 [(.x 40 [])])]) [(.row 4), (.row 8)] .one 
(.ret (.x 43 []) [] []))))))))))))))))))))))))))))))))))))))))))
def args_replLaw : List SX.V := [.x 0 [], .x 1 [], .a ((List.range 9).map fun j => .x (2 + j) []), .x 11 [], .x 12 []]
set_option maxRecDepth 100000 in
theorem run_replLaw (K A : Value → Nat → List Value → Prop) : (SX.run (cxLT K A) ⟨fun f => true, [⟨6, 19, [(.s 110, .one), (.s 19, .one), (.s 18, .row 9 26)]⟩], 0, 100⟩ 100000 0 (SX.door 6 Try.f6 args_replLaw (List.replicate 13 .one)) [.code (Try.f6.body.getD .skip), .top Try.f6]).strip = tree_replLaw := by kernel_rfl
set_option maxRecDepth 100000 in
set_option maxHeartbeats 4000000 in
theorem replLaw_any (ls : List Lim) (A : Option Addr) (n c : Nat) (wh : Int) (x : Lim) (d t : Int) (w : World) (hr : Rd w 9 A n (lmL ls)) (hn : n ≤ 9223372036854775807) (hc : n ≤ c) (hfit : fitLm ls) (hw0 : 0 ≤ wh) (hw1 : wh ≤ 255) : Calls Try.prog 6 #[.slice A n c, .int .u8 wh, valLm x, .int .i64 d, .int .i64 t] w fun e w' => e = .returned (.bool true) ∧ Below w.heap.size w w' := by
  refine SX.calls_of_run (C := cxLT (fun s sz cells => s = .slice A n c ∧ sz = 9 ∧ cells = lmL ls) (fun _ _ _ => False)) (G := ⟨fun f => true, [⟨6, 19, [(.s 110, .one), (.s 19, .one), (.s 18, .row 9 26)]⟩], 0, 100⟩) (args := args_replLaw) (sh := (List.replicate 13 .one)) (ρ := (.slice A n c :: .int .u8 wh :: (cellsLm x ++ [.int .i64 d, .int .i64 t]))) 100000 tree_replLaw (okLT _ _) Try.func6 rfl (run_replLaw _ _) (by kernel_rfl) (by kernel_rfl) (by kernel_rfl) ?_ ?_
  · rintro W hW s sz cells ⟨rfl, rfl, rfl⟩; exact ⟨hr.same0 hW, hc⟩
  have hA := SX.rd_some hr
  have hln : ls.length = n := by have := hr.1; rw [lmL_len] at this; omega
  obtain ⟨m, rfl⟩ : ∃ m : Nat, wh = m := ⟨wh.toNat, by omega⟩
  unfold tree_replLaw
  refine SX.VC_df (.bool true) (fun α => ⟨[], trivial, .inr (.inr (.inr (.inr (.inr (⟨rfl, rfl, rfl⟩))))), SX.noAli rfl⟩) (by kernel_rfl) ?_
  refine SX.VC_df (.bool (!(true))) (by intro α; show _ = _; kernel_rfl) (by kernel_rfl) ?_
  refine SX.VC_br (!(true)) (by kernel_rfl) (fun h14 => absurd h14 (by simp)) (fun h14 => ?_)
  try simp only [NRM] at h14
  refine SX.VC_df (.int .i64 (((n : Nat) : Int))) (by intro α; show _ = _; kernel_rfl) (by kernel_rfl) ?_
  refine SX.VC_df (.bool ((((n : Nat) : Int) : Int) == 0)) (by intro α; show _ = _; kernel_rfl) (by kernel_rfl) ?_
  refine SX.VC_br ((((n : Nat) : Int) : Int) == 0) (by kernel_rfl) (fun h16 => ?_) (fun h16 => ?_)
  · try simp only [NRM] at h16
    exact SX.VC_ret fun α W _ _ hS => SX.ret_of hS (x := .bool true) (by kernel_rfl) (by simp)
  · try simp only [NRM] at h16
    refine SX.VC_df (.int .i64 (((n : Nat) : Int))) (by intro α; show _ = _; kernel_rfl) (by kernel_rfl) ?_
    refine SX.VC_df (.bool (decide (((n : Nat) : Int) > 120))) (by intro α; show _ = _; kernel_rfl) (by kernel_rfl) ?_
    refine SX.VC_br (decide (((n : Nat) : Int) > 120)) (by kernel_rfl) (fun h18 => ?_) (fun h18 => ?_)
    · try simp only [NRM] at h18
      exact SX.VC_ret fun α W _ _ hS => SX.ret_of hS (x := .bool true) (by kernel_rfl) (by simp)
    · try simp only [NRM] at h18
      refine SX.VC_df (.int .i64 ((chkL ls))) (fun α => ⟨[⟨.slice A n c, 9, lmL ls⟩], ⟨by kernel_rfl, rfl, ⟨by kernel_rfl, rfl, rfl⟩, trivial⟩, .inl ⟨rfl, _, ls, rfl, by omega, hfit, rfl⟩, SX.noAli rfl⟩) (by kernel_rfl) ?_
      refine SX.VC_df (.bool (((chkL ls) : Int) != 0)) (by intro α; show _ = _; kernel_rfl) (by kernel_rfl) ?_
      refine SX.VC_br (((chkL ls) : Int) != 0) (by kernel_rfl) (fun h20 => ?_) (fun h20 => ?_)
      · try simp only [NRM] at h20
        exact SX.VC_ret fun α W _ _ hS => SX.ret_of hS (x := .bool true) (by kernel_rfl) (by simp)
      · try simp only [NRM] at h20
        refine SX.VC_df (.int .i64 ((m : Int))) (fun α => Eq.trans (b := some (.int .i64 (IntKind.i64.wrap (m : Int)))) (by kernel_rfl) (by rw [wrap_i64 (by omega) (by omega)])) (by kernel_rfl) ?_
        refine SX.VC_df (.int .i64 (((n : Nat) : Int))) (by intro α; show _ = _; kernel_rfl) (by kernel_rfl) ?_
        refine SX.VC_df (.int .i64 (((m % n : Nat) : Int))) (fun α => Eq.trans (b := SX.binV .rem (.int .i64 (m : Int)) (.int .i64 (n : Int))) (by kernel_rfl) (SX.rem_nat (by omega))) (by kernel_rfl) ?_
        have hk0 : chkL ls = 0 := by simpa using h20
        have hmn : m % n < n := Nat.mod_lt _ (by omega)
        obtain ⟨old, hold⟩ : ∃ z, ls[m % n]? = some z := ⟨_, List.getElem?_eq_getElem (by omega)⟩
        have hom := List.mem_of_getElem? hold
        have hoe := (elemOk_iff.1 (okL_mem (chkL_zero hk0).2 hom)).1
        have hof : fitI (replOf x old).of_ := by show fitI (old.no + 1); unfold fitI; omega
        refine SX.VC_df (.bool true) (fun α => SX.extBnd (A := A) (n := n) (c := c) (j := m % n) hA (by kernel_rfl) (by kernel_rfl) (by omega)) (by kernel_rfl) ?_
        refine SX.VC_df (.agg (cellsLm old).toArray) (fun α => SX.extElems (f := cellsLm) (l := ls) (A := A) (n := n) (c := c) (j := m % n) (z := old) (fun _ => rfl) hA (by kernel_rfl) (by kernel_rfl) (by omega) ⟨rfl, rfl, rfl⟩ hold) (by kernel_rfl) ?_
        refine SX.VC_df (.int .i64 (old.no + 1)) (fun α => Eq.trans (b := some (.int .i64 (IntKind.i64.wrap (old.no + 1)))) (by kernel_rfl) (by rw [wrap_i64 (by omega) (by omega)])) (by kernel_rfl) ?_
        refine SX.VC_df (.tuple #[Value.agg (lmL (addR ls (replOf x old)).1).toArray, .int .i64 ((addR ls (replOf x old)).2)]) (fun α => ⟨[⟨.slice A n c, 9, lmL ls⟩, ⟨valLm (replOf x old), 0, []⟩], ⟨by kernel_rfl, rfl, ⟨by kernel_rfl, rfl, rfl⟩, by kernel_rfl, by kernel_rfl, trivial⟩, .inr (.inr (.inl ⟨rfl, _, ls, (replOf x old), rfl, by omega, hfit, hof, rfl⟩)), SX.noAli rfl⟩) (lms_fit _ _) ?_
        refine SX.VC_df (.bool (((addR ls (replOf x old)).2 : Int) != 0)) (by intro α; show _ = _; kernel_rfl) (by kernel_rfl) ?_
        refine SX.VC_br (((addR ls (replOf x old)).2 : Int) != 0) (by kernel_rfl) (fun h28 => ?_) (fun h28 => ?_)
        · try simp only [NRM] at h28
          exact SX.VC_ret fun α W _ _ hS => SX.ret_of hS (x := .bool true) (by kernel_rfl) (by simp)
        · try simp only [NRM] at h28
          have hx0 : (addR ls (replOf x old)).2 = 0 := by simpa using h28
          have hsq := further_stand (p := old.person) (d := d) (t := t) hx0
          refine SX.VC_df (.tuple #[Value.agg (lmL (standR ls old.person d t).1).toArray, .int .i64 ((standR ls old.person d t).2)]) (fun α => ⟨[⟨.slice A n c, 9, lmL ls⟩, ⟨.int .i64 old.person, 0, []⟩, ⟨.int .i64 d, 0, []⟩, ⟨.int .i64 t, 0, []⟩], ⟨by kernel_rfl, rfl, ⟨by kernel_rfl, rfl, rfl⟩, by kernel_rfl, by kernel_rfl, by kernel_rfl, by kernel_rfl, by kernel_rfl, by kernel_rfl, trivial⟩, .inr (.inr (.inr (.inl ⟨rfl, _, ls, old.person, d, t, rfl, by omega, hfit, rfl⟩))), SX.noAli rfl⟩) (lms_fit _ _) ?_
          refine SX.VC_df (.tuple #[Value.agg (lmL (standR (addR ls (replOf x old)).1 old.person d t).1).toArray, .int .i64 ((standR (addR ls (replOf x old)).1 old.person d t).2)]) (fun α => ⟨[⟨(α 2).h, 9, lmL ((addR ls (replOf x old)).1)⟩, ⟨.int .i64 old.person, 0, []⟩, ⟨.int .i64 d, 0, []⟩, ⟨.int .i64 t, 0, []⟩], ⟨Eq.trans (b := (⟨(α 2).h, 9, [Value.agg (lmL ((addR ls (replOf x old)).1)).toArray].flatMap SX.cellsV⟩ : SX.Arg)) (by simp [SX.cellsV]) (by kernel_rfl), by kernel_rfl, by kernel_rfl, by kernel_rfl, by kernel_rfl, by kernel_rfl, by kernel_rfl, trivial⟩, .inr (.inr (.inr (.inl ⟨rfl, _, (addR ls (replOf x old)).1, old.person, d, t, rfl, Nat.le_trans (addR_le _ _) (by omega), addR_fit hfit hof, rfl⟩))), SX.noAli rfl⟩) (lms_fit _ _) ?_
          refine SX.VC_df (.bool (((standR ls old.person d t).2 : Int) != (standR (addR ls (replOf x old)).1 old.person d t).2)) (by intro α; show _ = _; kernel_rfl) (by kernel_rfl) ?_
          refine SX.VC_br (((standR ls old.person d t).2 : Int) != (standR (addR ls (replOf x old)).1 old.person d t).2) (by kernel_rfl) (fun h31 => absurd h31 (by rw [hsq]; simp)) (fun h31 => ?_)
          try simp only [NRM] at h31
          refine SX.VC_df (.bool (((standR ls old.person d t).2 : Int) != 0)) (by intro α; show _ = _; kernel_rfl) (by kernel_rfl) ?_
          refine SX.VC_br (((standR ls old.person d t).2 : Int) != 0) (by kernel_rfl) (fun h32 => ?_) (fun h32 => ?_)
          · try simp only [NRM] at h32
            refine SX.VC_df (.bool true) (fun α => ⟨[⟨(α 3).h, 9, lmL ((standR ls old.person d t).1)⟩, ⟨(α 4).h, 9, lmL ((standR (addR ls (replOf x old)).1 old.person d t).1)⟩], ⟨Eq.trans (b := (⟨(α 3).h, 9, [Value.agg (lmL ((standR ls old.person d t).1)).toArray].flatMap SX.cellsV⟩ : SX.Arg)) (by simp [SX.cellsV]) (by kernel_rfl), Eq.trans (b := (⟨(α 4).h, 9, [Value.agg (lmL ((standR (addR ls (replOf x old)).1 old.person d t).1)).toArray].flatMap SX.cellsV⟩ : SX.Arg)) (by simp [SX.cellsV]) (by kernel_rfl), trivial⟩, .inr (.inl ⟨rfl, _, _, _, _, rfl, Nat.le_trans (standR_le _ _ _ _) (by omega), Nat.le_trans (standR_le _ _ _ _) (by omega), by rw [← repl_early hx0 hom (.inl (by simpa using h32))]; simp⟩), SX.noAli rfl⟩) (by kernel_rfl) ?_
            exact SX.VC_ret fun α W _ _ hS => SX.ret_of hS (x := .bool true) (by kernel_rfl) (by simp)
          · try simp only [NRM] at h32
            refine SX.VC_df (.bool (decide (t < x.known))) (by intro α; show _ = _; kernel_rfl) (by kernel_rfl) ?_
            refine SX.VC_br (decide (t < x.known)) (by kernel_rfl) (fun h33 => ?_) (fun h33 => ?_)
            · try simp only [NRM] at h33
              refine SX.VC_df (.bool true) (fun α => ⟨[⟨(α 3).h, 9, lmL ((standR ls old.person d t).1)⟩, ⟨(α 4).h, 9, lmL ((standR (addR ls (replOf x old)).1 old.person d t).1)⟩], ⟨Eq.trans (b := (⟨(α 3).h, 9, [Value.agg (lmL ((standR ls old.person d t).1)).toArray].flatMap SX.cellsV⟩ : SX.Arg)) (by simp [SX.cellsV]) (by kernel_rfl), Eq.trans (b := (⟨(α 4).h, 9, [Value.agg (lmL ((standR (addR ls (replOf x old)).1 old.person d t).1)).toArray].flatMap SX.cellsV⟩ : SX.Arg)) (by simp [SX.cellsV]) (by kernel_rfl), trivial⟩, .inr (.inl ⟨rfl, _, _, _, _, rfl, Nat.le_trans (standR_le _ _ _ _) (by omega), Nat.le_trans (standR_le _ _ _ _) (by omega), by rw [← repl_early hx0 hom (.inr (by omega))]; simp⟩), SX.noAli rfl⟩) (by kernel_rfl) ?_
              exact SX.VC_ret fun α W _ _ hS => SX.ret_of hS (x := .bool true) (by kernel_rfl) (by simp)
            · try simp only [NRM] at h33
              have hst0 : (standR ls old.person d t).2 = 0 := by simpa using h32
              refine SX.VC_df (.bool (false ^^ decide ((x.kind, x.limb, x.n) = ((0 : Int), (0 : Int), (0 : Int))))) (fun α => SX.eqr_rel (f := cellsCap) cellsCap_inj (y := (x.kind, x.limb, x.n)) (z := ((0 : Int), (0 : Int), (0 : Int))) (by kernel_rfl) (by kernel_rfl) (by kernel_rfl)) (by kernel_rfl) ?_
              refine SX.VC_br (false ^^ decide ((x.kind, x.limb, x.n) = ((0 : Int), (0 : Int), (0 : Int)))) (by kernel_rfl) (fun h34 => ?_) (fun h34 => ?_)
              · try simp only [NRM] at h34
                refine SX.VC_df (.int .i64 ((((standR ls old.person d t).1.length : Nat) : Int))) (fun α => rlen_of (f := cellsLm) (l := (standR ls old.person d t).1) (fun _ => rfl) (by decide) (Eq.trans (b := [Value.agg (lmL ((standR ls old.person d t).1)).toArray].flatMap SX.cellsV) (by kernel_rfl) (by simp [SX.cellsV, lmL]))) (by kernel_rfl) ?_
                have hwant := repl_want hx0 hom hst0 (show x.known ≤ t by omega) (true) ⟨fun _ => .inl (by simpa using h34), fun _ => rfl⟩
                have hble := standR_le ls old.person d t
                refine SX.VC_loop (fun xs => ∃ (i : Nat) (put : Bool) (acc : List Lim), xs = [.int .i64 (i : Int), .bool put, .agg (lmL acc).toArray] ∧ i ≤ (standR ls old.person d t).1.length ∧ acc.length ≤ 2 * i ∧ acc ++ wantR (replOf x old) old.no put ((standR ls old.person d t).1.drop i) = wantR (replOf x old) old.no (true) (standR ls old.person d t).1) (fun xs => match xs with | (.int _ i) :: _ => (standR ls old.person d t).1.length - i.toNat | _ => 0) (fun α => ⟨0, true, [], Eq.trans (b := [.int .i64 0, .bool (true), .agg #[]]) (by kernel_rfl) (by simp [lmL]), by omega, by simp, by simp⟩) ?_
                rintro xs - ⟨i, put, acc, rfl, hin, hal, hacc⟩
                refine SX.VC_df (.bool (decide (((i : Nat) : Int) < (((standR ls old.person d t).1.length : Nat) : Int)))) (by intro α; show _ = _; kernel_rfl) (by kernel_rfl) ?_
                refine SX.VC_br (decide (((i : Nat) : Int) < (((standR ls old.person d t).1.length : Nat) : Int))) (by kernel_rfl) (fun h39 => ?_) (fun h39 => ?_)
                · try simp only [NRM] at h39
                  obtain ⟨z, hz⟩ : ∃ z, (standR ls old.person d t).1[i]? = some z := ⟨_, List.getElem?_eq_getElem (by omega)⟩
                  have hdr : (standR ls old.person d t).1.drop i = z :: (standR ls old.person d t).1.drop (i + 1) := by have h1 := List.getElem?_eq_some_iff.1 hz; obtain ⟨h1, h2⟩ := h1; rw [← h2]; exact List.drop_eq_getElem_cons h1
                  refine SX.VC_df (.bool true) (fun α => SX.row_bnd (f := cellsLm) (l := (standR ls old.person d t).1) (k := i) (fun _ => rfl) (by decide) (Eq.trans (b := [Value.agg (lmL ((standR ls old.person d t).1)).toArray].flatMap SX.cellsV) (by kernel_rfl) (by simp [SX.cellsV, lmL])) (by kernel_rfl) (by omega)) (by kernel_rfl) ?_
                  refine SX.VC_df (.agg (cellsLm z).toArray) (fun α => SX.row_elems (f := cellsLm) (l := (standR ls old.person d t).1) (k := i) (z := z) (fun _ => rfl) (by decide) (Eq.trans (b := [Value.agg (lmL ((standR ls old.person d t).1)).toArray].flatMap SX.cellsV) (by kernel_rfl) (by simp [SX.cellsV, lmL])) (by kernel_rfl) hz) (by kernel_rfl) ?_
                  refine SX.VC_df (.bool (!(put))) (by intro α; show _ = _; kernel_rfl) (by kernel_rfl) ?_
                  refine SX.VC_br (!(put)) (by kernel_rfl) (fun h42 => ?_) (fun h42 => ?_)
                  · try simp only [NRM] at h42
                    refine SX.VC_df (.bool (decide (z.no > x.no))) (by intro α; show _ = _; kernel_rfl) (by kernel_rfl) ?_
                    refine SX.VC_br (decide (z.no > x.no)) (by kernel_rfl) (fun h43 => ?_) (fun h43 => ?_)
                    · try simp only [NRM] at h43
                      refine SX.VC_df (Value.agg (([(replOf x old)]).flatMap cellsLm).toArray) (fun α => SX.app_rel (f := cellsLm) (l1 := acc) (l2 := [(replOf x old)]) (fun _ => rfl) cellsLm_one (by decide) (Eq.trans (b := [Value.agg (lmL acc).toArray].flatMap SX.cellsV) (by kernel_rfl) (by simp [SX.cellsV, lmL])) (SX.src_own (by kernel_rfl)) (by (try simp only [List.length_append, List.length_cons, List.length_nil]); omega) (by (try simp only [List.length_append, List.length_cons, List.length_nil]); omega)) (by kernel_rfl) ?_
                      refine SX.VC_df (.bool ((z.no : Int) != old.no)) (by intro α; show _ = _; kernel_rfl) (by kernel_rfl) ?_
                      refine SX.VC_br ((z.no : Int) != old.no) (by kernel_rfl) (fun h45 => ?_) (fun h45 => ?_)
                      · try simp only [NRM] at h45
                        refine SX.VC_df (Value.agg (([z]).flatMap cellsLm).toArray) (fun α => SX.app_rel (f := cellsLm) (l1 := acc ++ [(replOf x old)]) (l2 := [z]) (fun _ => rfl) cellsLm_one (by decide) (Eq.trans (b := [Value.agg (lmL acc).toArray, Value.agg (([(replOf x old)]).flatMap cellsLm).toArray].flatMap SX.cellsV) (by kernel_rfl) (by simp [SX.cellsV, lmL])) (SX.src_own (by kernel_rfl)) (by (try simp only [List.length_append, List.length_cons, List.length_nil]); omega) (by (try simp only [List.length_append, List.length_cons, List.length_nil]); omega)) (by kernel_rfl) ?_
                        refine SX.VC_df (.int .i64 (((i + 1 : Nat) : Int))) (fun α => Eq.trans (b := some (.int .i64 (IntKind.i64.wrap ((i : Int) + 1)))) (by kernel_rfl) (by rw [show ((i + 1 : Nat) : Int) = (i : Int) + 1 by omega, wrap_i64 (by omega) (by omega)])) (by kernel_rfl) ?_
                        have e1 : (!put && decide (x.no < z.no)) = true := (by first | (simp_all; done) | (cases put <;> simp_all <;> omega))
                        have e2 : (put || decide (x.no < z.no)) = true := (by first | (simp_all; done) | (cases put <;> simp_all <;> omega))
                        have e3 : z.no ≠ old.no := (by first | assumption | (simp_all; done) | omega)
                        have hac2 : (acc ++ [(replOf x old)] ++ [z]) ++ wantR (replOf x old) old.no true ((standR ls old.person d t).1.drop (i + 1)) = wantR (replOf x old) old.no (true) (standR ls old.person d t).1 := by
                          rw [← hacc, hdr, wantR]
                          show _ = acc ++ ((if (!put && decide (x.no < z.no)) then [(replOf x old)] else []) ++ ((if z.no ≠ old.no then [z] else []) ++ wantR (replOf x old) old.no (put || decide (x.no < z.no)) ((standR ls old.person d t).1.drop (i + 1))))
                          rw [e1, e2, if_pos e3]
                          simp
                        exact SX.VC_again fun α => ⟨⟨i + 1, true, acc ++ [(replOf x old)] ++ [z], Eq.trans (b := [.int .i64 ((i + 1 : Nat) : Int), .bool true, .agg ([Value.agg (lmL acc).toArray, Value.agg (([(replOf x old)]).flatMap cellsLm).toArray, Value.agg (([z]).flatMap cellsLm).toArray].flatMap SX.cellsV).toArray]) (by kernel_rfl) (by simp [SX.cellsV, lmL]), by omega, by (try simp only [List.length_append, List.length_cons, List.length_nil]); omega, hac2⟩, cast (by kernel_rfl) (show (standR ls old.person d t).1.length - ((i + 1 : Nat) : Int).toNat < (standR ls old.person d t).1.length - (i : Int).toNat by omega)⟩
                      · try simp only [NRM] at h45
                        refine SX.VC_df (.int .i64 (((i + 1 : Nat) : Int))) (fun α => Eq.trans (b := some (.int .i64 (IntKind.i64.wrap ((i : Int) + 1)))) (by kernel_rfl) (by rw [show ((i + 1 : Nat) : Int) = (i : Int) + 1 by omega, wrap_i64 (by omega) (by omega)])) (by kernel_rfl) ?_
                        have e1 : (!put && decide (x.no < z.no)) = true := (by first | (simp_all; done) | (cases put <;> simp_all <;> omega))
                        have e2 : (put || decide (x.no < z.no)) = true := (by first | (simp_all; done) | (cases put <;> simp_all <;> omega))
                        have e3 : z.no = old.no := (by first | assumption | (simp_all; done) | omega)
                        have hac2 : (acc ++ [(replOf x old)]) ++ wantR (replOf x old) old.no true ((standR ls old.person d t).1.drop (i + 1)) = wantR (replOf x old) old.no (true) (standR ls old.person d t).1 := by
                          rw [← hacc, hdr, wantR]
                          show _ = acc ++ ((if (!put && decide (x.no < z.no)) then [(replOf x old)] else []) ++ ((if z.no ≠ old.no then [z] else []) ++ wantR (replOf x old) old.no (put || decide (x.no < z.no)) ((standR ls old.person d t).1.drop (i + 1))))
                          rw [e1, e2, if_neg (not_not_intro e3)]
                          simp
                        exact SX.VC_again fun α => ⟨⟨i + 1, true, acc ++ [(replOf x old)], Eq.trans (b := [.int .i64 ((i + 1 : Nat) : Int), .bool true, .agg ([Value.agg (lmL acc).toArray, Value.agg (([(replOf x old)]).flatMap cellsLm).toArray].flatMap SX.cellsV).toArray]) (by kernel_rfl) (by simp [SX.cellsV, lmL]), by omega, by (try simp only [List.length_append, List.length_cons, List.length_nil]); omega, hac2⟩, cast (by kernel_rfl) (show (standR ls old.person d t).1.length - ((i + 1 : Nat) : Int).toNat < (standR ls old.person d t).1.length - (i : Int).toNat by omega)⟩
                    · try simp only [NRM] at h43
                      refine SX.VC_df (.bool ((z.no : Int) != old.no)) (by intro α; show _ = _; kernel_rfl) (by kernel_rfl) ?_
                      refine SX.VC_br ((z.no : Int) != old.no) (by kernel_rfl) (fun h44 => ?_) (fun h44 => ?_)
                      · try simp only [NRM] at h44
                        refine SX.VC_df (Value.agg (([z]).flatMap cellsLm).toArray) (fun α => SX.app_rel (f := cellsLm) (l1 := acc) (l2 := [z]) (fun _ => rfl) cellsLm_one (by decide) (Eq.trans (b := [Value.agg (lmL acc).toArray].flatMap SX.cellsV) (by kernel_rfl) (by simp [SX.cellsV, lmL])) (SX.src_own (by kernel_rfl)) (by (try simp only [List.length_append, List.length_cons, List.length_nil]); omega) (by (try simp only [List.length_append, List.length_cons, List.length_nil]); omega)) (by kernel_rfl) ?_
                        refine SX.VC_df (.int .i64 (((i + 1 : Nat) : Int))) (fun α => Eq.trans (b := some (.int .i64 (IntKind.i64.wrap ((i : Int) + 1)))) (by kernel_rfl) (by rw [show ((i + 1 : Nat) : Int) = (i : Int) + 1 by omega, wrap_i64 (by omega) (by omega)])) (by kernel_rfl) ?_
                        have e1 : (!put && decide (x.no < z.no)) = false := (by first | (simp_all; done) | (cases put <;> simp_all <;> omega))
                        have e2 : (put || decide (x.no < z.no)) = put := (by first | (simp_all; done) | (cases put <;> simp_all <;> omega))
                        have e3 : z.no ≠ old.no := (by first | assumption | (simp_all; done) | omega)
                        have hac2 : (acc ++ [z]) ++ wantR (replOf x old) old.no put ((standR ls old.person d t).1.drop (i + 1)) = wantR (replOf x old) old.no (true) (standR ls old.person d t).1 := by
                          rw [← hacc, hdr, wantR]
                          show _ = acc ++ ((if (!put && decide (x.no < z.no)) then [(replOf x old)] else []) ++ ((if z.no ≠ old.no then [z] else []) ++ wantR (replOf x old) old.no (put || decide (x.no < z.no)) ((standR ls old.person d t).1.drop (i + 1))))
                          rw [e1, e2, if_pos e3]
                          simp
                        exact SX.VC_again fun α => ⟨⟨i + 1, put, acc ++ [z], Eq.trans (b := [.int .i64 ((i + 1 : Nat) : Int), .bool put, .agg ([Value.agg (lmL acc).toArray, Value.agg (([z]).flatMap cellsLm).toArray].flatMap SX.cellsV).toArray]) (by kernel_rfl) (by simp [SX.cellsV, lmL]), by omega, by (try simp only [List.length_append, List.length_cons, List.length_nil]); omega, hac2⟩, cast (by kernel_rfl) (show (standR ls old.person d t).1.length - ((i + 1 : Nat) : Int).toNat < (standR ls old.person d t).1.length - (i : Int).toNat by omega)⟩
                      · try simp only [NRM] at h44
                        refine SX.VC_df (.int .i64 (((i + 1 : Nat) : Int))) (fun α => Eq.trans (b := some (.int .i64 (IntKind.i64.wrap ((i : Int) + 1)))) (by kernel_rfl) (by rw [show ((i + 1 : Nat) : Int) = (i : Int) + 1 by omega, wrap_i64 (by omega) (by omega)])) (by kernel_rfl) ?_
                        have e1 : (!put && decide (x.no < z.no)) = false := (by first | (simp_all; done) | (cases put <;> simp_all <;> omega))
                        have e2 : (put || decide (x.no < z.no)) = put := (by first | (simp_all; done) | (cases put <;> simp_all <;> omega))
                        have e3 : z.no = old.no := (by first | assumption | (simp_all; done) | omega)
                        have hac2 : (acc) ++ wantR (replOf x old) old.no put ((standR ls old.person d t).1.drop (i + 1)) = wantR (replOf x old) old.no (true) (standR ls old.person d t).1 := by
                          rw [← hacc, hdr, wantR]
                          show _ = acc ++ ((if (!put && decide (x.no < z.no)) then [(replOf x old)] else []) ++ ((if z.no ≠ old.no then [z] else []) ++ wantR (replOf x old) old.no (put || decide (x.no < z.no)) ((standR ls old.person d t).1.drop (i + 1))))
                          rw [e1, e2, if_neg (not_not_intro e3)]
                          simp
                        exact SX.VC_again fun α => ⟨⟨i + 1, put, acc, Eq.trans (b := [.int .i64 ((i + 1 : Nat) : Int), .bool put, .agg ([Value.agg (lmL acc).toArray].flatMap SX.cellsV).toArray]) (by kernel_rfl) (by simp [SX.cellsV, lmL]), by omega, by (try simp only [List.length_append, List.length_cons, List.length_nil]); omega, hac2⟩, cast (by kernel_rfl) (show (standR ls old.person d t).1.length - ((i + 1 : Nat) : Int).toNat < (standR ls old.person d t).1.length - (i : Int).toNat by omega)⟩
                  · try simp only [NRM] at h42
                    refine SX.VC_df (.bool ((z.no : Int) != old.no)) (by intro α; show _ = _; kernel_rfl) (by kernel_rfl) ?_
                    refine SX.VC_br ((z.no : Int) != old.no) (by kernel_rfl) (fun h43 => ?_) (fun h43 => ?_)
                    · try simp only [NRM] at h43
                      refine SX.VC_df (Value.agg (([z]).flatMap cellsLm).toArray) (fun α => SX.app_rel (f := cellsLm) (l1 := acc) (l2 := [z]) (fun _ => rfl) cellsLm_one (by decide) (Eq.trans (b := [Value.agg (lmL acc).toArray].flatMap SX.cellsV) (by kernel_rfl) (by simp [SX.cellsV, lmL])) (SX.src_own (by kernel_rfl)) (by (try simp only [List.length_append, List.length_cons, List.length_nil]); omega) (by (try simp only [List.length_append, List.length_cons, List.length_nil]); omega)) (by kernel_rfl) ?_
                      refine SX.VC_df (.int .i64 (((i + 1 : Nat) : Int))) (fun α => Eq.trans (b := some (.int .i64 (IntKind.i64.wrap ((i : Int) + 1)))) (by kernel_rfl) (by rw [show ((i + 1 : Nat) : Int) = (i : Int) + 1 by omega, wrap_i64 (by omega) (by omega)])) (by kernel_rfl) ?_
                      have e1 : (!put && decide (x.no < z.no)) = false := (by first | (simp_all; done) | (cases put <;> simp_all <;> omega))
                      have e2 : (put || decide (x.no < z.no)) = put := (by first | (simp_all; done) | (cases put <;> simp_all <;> omega))
                      have e3 : z.no ≠ old.no := (by first | assumption | (simp_all; done) | omega)
                      have hac2 : (acc ++ [z]) ++ wantR (replOf x old) old.no put ((standR ls old.person d t).1.drop (i + 1)) = wantR (replOf x old) old.no (true) (standR ls old.person d t).1 := by
                        rw [← hacc, hdr, wantR]
                        show _ = acc ++ ((if (!put && decide (x.no < z.no)) then [(replOf x old)] else []) ++ ((if z.no ≠ old.no then [z] else []) ++ wantR (replOf x old) old.no (put || decide (x.no < z.no)) ((standR ls old.person d t).1.drop (i + 1))))
                        rw [e1, e2, if_pos e3]
                        simp
                      exact SX.VC_again fun α => ⟨⟨i + 1, put, acc ++ [z], Eq.trans (b := [.int .i64 ((i + 1 : Nat) : Int), .bool put, .agg ([Value.agg (lmL acc).toArray, Value.agg (([z]).flatMap cellsLm).toArray].flatMap SX.cellsV).toArray]) (by kernel_rfl) (by simp [SX.cellsV, lmL]), by omega, by (try simp only [List.length_append, List.length_cons, List.length_nil]); omega, hac2⟩, cast (by kernel_rfl) (show (standR ls old.person d t).1.length - ((i + 1 : Nat) : Int).toNat < (standR ls old.person d t).1.length - (i : Int).toNat by omega)⟩
                    · try simp only [NRM] at h43
                      refine SX.VC_df (.int .i64 (((i + 1 : Nat) : Int))) (fun α => Eq.trans (b := some (.int .i64 (IntKind.i64.wrap ((i : Int) + 1)))) (by kernel_rfl) (by rw [show ((i + 1 : Nat) : Int) = (i : Int) + 1 by omega, wrap_i64 (by omega) (by omega)])) (by kernel_rfl) ?_
                      have e1 : (!put && decide (x.no < z.no)) = false := (by first | (simp_all; done) | (cases put <;> simp_all <;> omega))
                      have e2 : (put || decide (x.no < z.no)) = put := (by first | (simp_all; done) | (cases put <;> simp_all <;> omega))
                      have e3 : z.no = old.no := (by first | assumption | (simp_all; done) | omega)
                      have hac2 : (acc) ++ wantR (replOf x old) old.no put ((standR ls old.person d t).1.drop (i + 1)) = wantR (replOf x old) old.no (true) (standR ls old.person d t).1 := by
                        rw [← hacc, hdr, wantR]
                        show _ = acc ++ ((if (!put && decide (x.no < z.no)) then [(replOf x old)] else []) ++ ((if z.no ≠ old.no then [z] else []) ++ wantR (replOf x old) old.no (put || decide (x.no < z.no)) ((standR ls old.person d t).1.drop (i + 1))))
                        rw [e1, e2, if_neg (not_not_intro e3)]
                        simp
                      exact SX.VC_again fun α => ⟨⟨i + 1, put, acc, Eq.trans (b := [.int .i64 ((i + 1 : Nat) : Int), .bool put, .agg ([Value.agg (lmL acc).toArray].flatMap SX.cellsV).toArray]) (by kernel_rfl) (by simp [SX.cellsV, lmL]), by omega, by (try simp only [List.length_append, List.length_cons, List.length_nil]); omega, hac2⟩, cast (by kernel_rfl) (show (standR ls old.person d t).1.length - ((i + 1 : Nat) : Int).toNat < (standR ls old.person d t).1.length - (i : Int).toNat by omega)⟩
                · try simp only [NRM] at h39
                  refine SX.VC_df (.bool (!(put))) (by intro α; show _ = _; kernel_rfl) (by kernel_rfl) ?_
                  refine SX.VC_br (!(put)) (by kernel_rfl) (fun h40 => ?_) (fun h40 => ?_)
                  · try simp only [NRM] at h40
                    refine SX.VC_df (Value.agg (([(replOf x old)]).flatMap cellsLm).toArray) (fun α => SX.app_rel (f := cellsLm) (l1 := acc) (l2 := [(replOf x old)]) (fun _ => rfl) cellsLm_one (by decide) (Eq.trans (b := [Value.agg (lmL acc).toArray].flatMap SX.cellsV) (by kernel_rfl) (by simp [SX.cellsV, lmL])) (SX.src_own (by kernel_rfl)) (by (try simp only [List.length_append, List.length_cons, List.length_nil]); omega) (by (try simp only [List.length_append, List.length_cons, List.length_nil]); omega)) (by kernel_rfl) ?_
                    refine SX.VC_df (.bool true) (fun α => ⟨[⟨(α 4).h, 9, lmL ((standR (addR ls (replOf x old)).1 old.person d t).1)⟩, ⟨(α 10).h, 9, lmL (acc ++ [(replOf x old)])⟩], ⟨Eq.trans (b := (⟨(α 4).h, 9, [Value.agg (lmL ((standR (addR ls (replOf x old)).1 old.person d t).1)).toArray].flatMap SX.cellsV⟩ : SX.Arg)) (by simp [SX.cellsV]) (by kernel_rfl), Eq.trans (b := (⟨(α 10).h, 9, [Value.agg (lmL acc).toArray, Value.agg (([(replOf x old)]).flatMap cellsLm).toArray].flatMap SX.cellsV⟩ : SX.Arg)) (by simp [SX.cellsV, lmL]) (by kernel_rfl), trivial⟩, .inr (.inl ⟨rfl, _, _, _, _, rfl, Nat.le_trans (standR_le _ _ _ _) (by omega), by (try simp only [List.length_append, List.length_cons, List.length_nil]); omega, by have ha := hacc; rw [List.drop_eq_nil_of_le (by omega)] at ha; have hput : put = false := (by simpa using h40); rw [hput] at ha; rw [hwant, ← ha]; simp [wantR]⟩), SX.noAli rfl⟩) (by kernel_rfl) ?_
                    exact SX.VC_ret fun α W _ _ hS => SX.ret_of hS (x := .bool true) (by kernel_rfl) (by simp)
                  · try simp only [NRM] at h40
                    refine SX.VC_df (.bool true) (fun α => ⟨[⟨(α 4).h, 9, lmL ((standR (addR ls (replOf x old)).1 old.person d t).1)⟩, ⟨(α 8).h, 9, lmL acc⟩], ⟨Eq.trans (b := (⟨(α 4).h, 9, [Value.agg (lmL ((standR (addR ls (replOf x old)).1 old.person d t).1)).toArray].flatMap SX.cellsV⟩ : SX.Arg)) (by simp [SX.cellsV]) (by kernel_rfl), Eq.trans (b := (⟨(α 8).h, 9, [Value.agg (lmL acc).toArray].flatMap SX.cellsV⟩ : SX.Arg)) (by simp [SX.cellsV, lmL]) (by kernel_rfl), trivial⟩, .inr (.inl ⟨rfl, _, _, _, _, rfl, Nat.le_trans (standR_le _ _ _ _) (by omega), by (try simp only [List.length_append, List.length_cons, List.length_nil]); omega, by have ha := hacc; rw [List.drop_eq_nil_of_le (by omega)] at ha; have hput : put = true := (by simpa using h40); rw [hput] at ha; rw [hwant, ← ha]; simp [wantR]⟩), SX.noAli rfl⟩) (by kernel_rfl) ?_
                    exact SX.VC_ret fun α W _ _ hS => SX.ret_of hS (x := .bool true) (by kernel_rfl) (by simp)
              · try simp only [NRM] at h34
                refine SX.VC_df (.bool (decide (d < x.from_))) (by intro α; show _ = _; kernel_rfl) (by kernel_rfl) ?_
                refine SX.VC_br (decide (d < x.from_)) (by kernel_rfl) (fun h35 => ?_) (fun h35 => ?_)
                · try simp only [NRM] at h35
                  refine SX.VC_df (.int .i64 ((((standR ls old.person d t).1.length : Nat) : Int))) (fun α => rlen_of (f := cellsLm) (l := (standR ls old.person d t).1) (fun _ => rfl) (by decide) (Eq.trans (b := [Value.agg (lmL ((standR ls old.person d t).1)).toArray].flatMap SX.cellsV) (by kernel_rfl) (by simp [SX.cellsV, lmL]))) (by kernel_rfl) ?_
                  have hwant := repl_want hx0 hom hst0 (show x.known ≤ t by omega) (true) ⟨fun _ => .inr (.inl (by omega)), fun _ => rfl⟩
                  have hble := standR_le ls old.person d t
                  refine SX.VC_loop (fun xs => ∃ (i : Nat) (put : Bool) (acc : List Lim), xs = [.int .i64 (i : Int), .bool put, .agg (lmL acc).toArray] ∧ i ≤ (standR ls old.person d t).1.length ∧ acc.length ≤ 2 * i ∧ acc ++ wantR (replOf x old) old.no put ((standR ls old.person d t).1.drop i) = wantR (replOf x old) old.no (true) (standR ls old.person d t).1) (fun xs => match xs with | (.int _ i) :: _ => (standR ls old.person d t).1.length - i.toNat | _ => 0) (fun α => ⟨0, true, [], Eq.trans (b := [.int .i64 0, .bool (true), .agg #[]]) (by kernel_rfl) (by simp [lmL]), by omega, by simp, by simp⟩) ?_
                  rintro xs - ⟨i, put, acc, rfl, hin, hal, hacc⟩
                  refine SX.VC_df (.bool (decide (((i : Nat) : Int) < (((standR ls old.person d t).1.length : Nat) : Int)))) (by intro α; show _ = _; kernel_rfl) (by kernel_rfl) ?_
                  refine SX.VC_br (decide (((i : Nat) : Int) < (((standR ls old.person d t).1.length : Nat) : Int))) (by kernel_rfl) (fun h40 => ?_) (fun h40 => ?_)
                  · try simp only [NRM] at h40
                    obtain ⟨z, hz⟩ : ∃ z, (standR ls old.person d t).1[i]? = some z := ⟨_, List.getElem?_eq_getElem (by omega)⟩
                    have hdr : (standR ls old.person d t).1.drop i = z :: (standR ls old.person d t).1.drop (i + 1) := by have h1 := List.getElem?_eq_some_iff.1 hz; obtain ⟨h1, h2⟩ := h1; rw [← h2]; exact List.drop_eq_getElem_cons h1
                    refine SX.VC_df (.bool true) (fun α => SX.row_bnd (f := cellsLm) (l := (standR ls old.person d t).1) (k := i) (fun _ => rfl) (by decide) (Eq.trans (b := [Value.agg (lmL ((standR ls old.person d t).1)).toArray].flatMap SX.cellsV) (by kernel_rfl) (by simp [SX.cellsV, lmL])) (by kernel_rfl) (by omega)) (by kernel_rfl) ?_
                    refine SX.VC_df (.agg (cellsLm z).toArray) (fun α => SX.row_elems (f := cellsLm) (l := (standR ls old.person d t).1) (k := i) (z := z) (fun _ => rfl) (by decide) (Eq.trans (b := [Value.agg (lmL ((standR ls old.person d t).1)).toArray].flatMap SX.cellsV) (by kernel_rfl) (by simp [SX.cellsV, lmL])) (by kernel_rfl) hz) (by kernel_rfl) ?_
                    refine SX.VC_df (.bool (!(put))) (by intro α; show _ = _; kernel_rfl) (by kernel_rfl) ?_
                    refine SX.VC_br (!(put)) (by kernel_rfl) (fun h43 => ?_) (fun h43 => ?_)
                    · try simp only [NRM] at h43
                      refine SX.VC_df (.bool (decide (z.no > x.no))) (by intro α; show _ = _; kernel_rfl) (by kernel_rfl) ?_
                      refine SX.VC_br (decide (z.no > x.no)) (by kernel_rfl) (fun h44 => ?_) (fun h44 => ?_)
                      · try simp only [NRM] at h44
                        refine SX.VC_df (Value.agg (([(replOf x old)]).flatMap cellsLm).toArray) (fun α => SX.app_rel (f := cellsLm) (l1 := acc) (l2 := [(replOf x old)]) (fun _ => rfl) cellsLm_one (by decide) (Eq.trans (b := [Value.agg (lmL acc).toArray].flatMap SX.cellsV) (by kernel_rfl) (by simp [SX.cellsV, lmL])) (SX.src_own (by kernel_rfl)) (by (try simp only [List.length_append, List.length_cons, List.length_nil]); omega) (by (try simp only [List.length_append, List.length_cons, List.length_nil]); omega)) (by kernel_rfl) ?_
                        refine SX.VC_df (.bool ((z.no : Int) != old.no)) (by intro α; show _ = _; kernel_rfl) (by kernel_rfl) ?_
                        refine SX.VC_br ((z.no : Int) != old.no) (by kernel_rfl) (fun h46 => ?_) (fun h46 => ?_)
                        · try simp only [NRM] at h46
                          refine SX.VC_df (Value.agg (([z]).flatMap cellsLm).toArray) (fun α => SX.app_rel (f := cellsLm) (l1 := acc ++ [(replOf x old)]) (l2 := [z]) (fun _ => rfl) cellsLm_one (by decide) (Eq.trans (b := [Value.agg (lmL acc).toArray, Value.agg (([(replOf x old)]).flatMap cellsLm).toArray].flatMap SX.cellsV) (by kernel_rfl) (by simp [SX.cellsV, lmL])) (SX.src_own (by kernel_rfl)) (by (try simp only [List.length_append, List.length_cons, List.length_nil]); omega) (by (try simp only [List.length_append, List.length_cons, List.length_nil]); omega)) (by kernel_rfl) ?_
                          refine SX.VC_df (.int .i64 (((i + 1 : Nat) : Int))) (fun α => Eq.trans (b := some (.int .i64 (IntKind.i64.wrap ((i : Int) + 1)))) (by kernel_rfl) (by rw [show ((i + 1 : Nat) : Int) = (i : Int) + 1 by omega, wrap_i64 (by omega) (by omega)])) (by kernel_rfl) ?_
                          have e1 : (!put && decide (x.no < z.no)) = true := (by first | (simp_all; done) | (cases put <;> simp_all <;> omega))
                          have e2 : (put || decide (x.no < z.no)) = true := (by first | (simp_all; done) | (cases put <;> simp_all <;> omega))
                          have e3 : z.no ≠ old.no := (by first | assumption | (simp_all; done) | omega)
                          have hac2 : (acc ++ [(replOf x old)] ++ [z]) ++ wantR (replOf x old) old.no true ((standR ls old.person d t).1.drop (i + 1)) = wantR (replOf x old) old.no (true) (standR ls old.person d t).1 := by
                            rw [← hacc, hdr, wantR]
                            show _ = acc ++ ((if (!put && decide (x.no < z.no)) then [(replOf x old)] else []) ++ ((if z.no ≠ old.no then [z] else []) ++ wantR (replOf x old) old.no (put || decide (x.no < z.no)) ((standR ls old.person d t).1.drop (i + 1))))
                            rw [e1, e2, if_pos e3]
                            simp
                          exact SX.VC_again fun α => ⟨⟨i + 1, true, acc ++ [(replOf x old)] ++ [z], Eq.trans (b := [.int .i64 ((i + 1 : Nat) : Int), .bool true, .agg ([Value.agg (lmL acc).toArray, Value.agg (([(replOf x old)]).flatMap cellsLm).toArray, Value.agg (([z]).flatMap cellsLm).toArray].flatMap SX.cellsV).toArray]) (by kernel_rfl) (by simp [SX.cellsV, lmL]), by omega, by (try simp only [List.length_append, List.length_cons, List.length_nil]); omega, hac2⟩, cast (by kernel_rfl) (show (standR ls old.person d t).1.length - ((i + 1 : Nat) : Int).toNat < (standR ls old.person d t).1.length - (i : Int).toNat by omega)⟩
                        · try simp only [NRM] at h46
                          refine SX.VC_df (.int .i64 (((i + 1 : Nat) : Int))) (fun α => Eq.trans (b := some (.int .i64 (IntKind.i64.wrap ((i : Int) + 1)))) (by kernel_rfl) (by rw [show ((i + 1 : Nat) : Int) = (i : Int) + 1 by omega, wrap_i64 (by omega) (by omega)])) (by kernel_rfl) ?_
                          have e1 : (!put && decide (x.no < z.no)) = true := (by first | (simp_all; done) | (cases put <;> simp_all <;> omega))
                          have e2 : (put || decide (x.no < z.no)) = true := (by first | (simp_all; done) | (cases put <;> simp_all <;> omega))
                          have e3 : z.no = old.no := (by first | assumption | (simp_all; done) | omega)
                          have hac2 : (acc ++ [(replOf x old)]) ++ wantR (replOf x old) old.no true ((standR ls old.person d t).1.drop (i + 1)) = wantR (replOf x old) old.no (true) (standR ls old.person d t).1 := by
                            rw [← hacc, hdr, wantR]
                            show _ = acc ++ ((if (!put && decide (x.no < z.no)) then [(replOf x old)] else []) ++ ((if z.no ≠ old.no then [z] else []) ++ wantR (replOf x old) old.no (put || decide (x.no < z.no)) ((standR ls old.person d t).1.drop (i + 1))))
                            rw [e1, e2, if_neg (not_not_intro e3)]
                            simp
                          exact SX.VC_again fun α => ⟨⟨i + 1, true, acc ++ [(replOf x old)], Eq.trans (b := [.int .i64 ((i + 1 : Nat) : Int), .bool true, .agg ([Value.agg (lmL acc).toArray, Value.agg (([(replOf x old)]).flatMap cellsLm).toArray].flatMap SX.cellsV).toArray]) (by kernel_rfl) (by simp [SX.cellsV, lmL]), by omega, by (try simp only [List.length_append, List.length_cons, List.length_nil]); omega, hac2⟩, cast (by kernel_rfl) (show (standR ls old.person d t).1.length - ((i + 1 : Nat) : Int).toNat < (standR ls old.person d t).1.length - (i : Int).toNat by omega)⟩
                      · try simp only [NRM] at h44
                        refine SX.VC_df (.bool ((z.no : Int) != old.no)) (by intro α; show _ = _; kernel_rfl) (by kernel_rfl) ?_
                        refine SX.VC_br ((z.no : Int) != old.no) (by kernel_rfl) (fun h45 => ?_) (fun h45 => ?_)
                        · try simp only [NRM] at h45
                          refine SX.VC_df (Value.agg (([z]).flatMap cellsLm).toArray) (fun α => SX.app_rel (f := cellsLm) (l1 := acc) (l2 := [z]) (fun _ => rfl) cellsLm_one (by decide) (Eq.trans (b := [Value.agg (lmL acc).toArray].flatMap SX.cellsV) (by kernel_rfl) (by simp [SX.cellsV, lmL])) (SX.src_own (by kernel_rfl)) (by (try simp only [List.length_append, List.length_cons, List.length_nil]); omega) (by (try simp only [List.length_append, List.length_cons, List.length_nil]); omega)) (by kernel_rfl) ?_
                          refine SX.VC_df (.int .i64 (((i + 1 : Nat) : Int))) (fun α => Eq.trans (b := some (.int .i64 (IntKind.i64.wrap ((i : Int) + 1)))) (by kernel_rfl) (by rw [show ((i + 1 : Nat) : Int) = (i : Int) + 1 by omega, wrap_i64 (by omega) (by omega)])) (by kernel_rfl) ?_
                          have e1 : (!put && decide (x.no < z.no)) = false := (by first | (simp_all; done) | (cases put <;> simp_all <;> omega))
                          have e2 : (put || decide (x.no < z.no)) = put := (by first | (simp_all; done) | (cases put <;> simp_all <;> omega))
                          have e3 : z.no ≠ old.no := (by first | assumption | (simp_all; done) | omega)
                          have hac2 : (acc ++ [z]) ++ wantR (replOf x old) old.no put ((standR ls old.person d t).1.drop (i + 1)) = wantR (replOf x old) old.no (true) (standR ls old.person d t).1 := by
                            rw [← hacc, hdr, wantR]
                            show _ = acc ++ ((if (!put && decide (x.no < z.no)) then [(replOf x old)] else []) ++ ((if z.no ≠ old.no then [z] else []) ++ wantR (replOf x old) old.no (put || decide (x.no < z.no)) ((standR ls old.person d t).1.drop (i + 1))))
                            rw [e1, e2, if_pos e3]
                            simp
                          exact SX.VC_again fun α => ⟨⟨i + 1, put, acc ++ [z], Eq.trans (b := [.int .i64 ((i + 1 : Nat) : Int), .bool put, .agg ([Value.agg (lmL acc).toArray, Value.agg (([z]).flatMap cellsLm).toArray].flatMap SX.cellsV).toArray]) (by kernel_rfl) (by simp [SX.cellsV, lmL]), by omega, by (try simp only [List.length_append, List.length_cons, List.length_nil]); omega, hac2⟩, cast (by kernel_rfl) (show (standR ls old.person d t).1.length - ((i + 1 : Nat) : Int).toNat < (standR ls old.person d t).1.length - (i : Int).toNat by omega)⟩
                        · try simp only [NRM] at h45
                          refine SX.VC_df (.int .i64 (((i + 1 : Nat) : Int))) (fun α => Eq.trans (b := some (.int .i64 (IntKind.i64.wrap ((i : Int) + 1)))) (by kernel_rfl) (by rw [show ((i + 1 : Nat) : Int) = (i : Int) + 1 by omega, wrap_i64 (by omega) (by omega)])) (by kernel_rfl) ?_
                          have e1 : (!put && decide (x.no < z.no)) = false := (by first | (simp_all; done) | (cases put <;> simp_all <;> omega))
                          have e2 : (put || decide (x.no < z.no)) = put := (by first | (simp_all; done) | (cases put <;> simp_all <;> omega))
                          have e3 : z.no = old.no := (by first | assumption | (simp_all; done) | omega)
                          have hac2 : (acc) ++ wantR (replOf x old) old.no put ((standR ls old.person d t).1.drop (i + 1)) = wantR (replOf x old) old.no (true) (standR ls old.person d t).1 := by
                            rw [← hacc, hdr, wantR]
                            show _ = acc ++ ((if (!put && decide (x.no < z.no)) then [(replOf x old)] else []) ++ ((if z.no ≠ old.no then [z] else []) ++ wantR (replOf x old) old.no (put || decide (x.no < z.no)) ((standR ls old.person d t).1.drop (i + 1))))
                            rw [e1, e2, if_neg (not_not_intro e3)]
                            simp
                          exact SX.VC_again fun α => ⟨⟨i + 1, put, acc, Eq.trans (b := [.int .i64 ((i + 1 : Nat) : Int), .bool put, .agg ([Value.agg (lmL acc).toArray].flatMap SX.cellsV).toArray]) (by kernel_rfl) (by simp [SX.cellsV, lmL]), by omega, by (try simp only [List.length_append, List.length_cons, List.length_nil]); omega, hac2⟩, cast (by kernel_rfl) (show (standR ls old.person d t).1.length - ((i + 1 : Nat) : Int).toNat < (standR ls old.person d t).1.length - (i : Int).toNat by omega)⟩
                    · try simp only [NRM] at h43
                      refine SX.VC_df (.bool ((z.no : Int) != old.no)) (by intro α; show _ = _; kernel_rfl) (by kernel_rfl) ?_
                      refine SX.VC_br ((z.no : Int) != old.no) (by kernel_rfl) (fun h44 => ?_) (fun h44 => ?_)
                      · try simp only [NRM] at h44
                        refine SX.VC_df (Value.agg (([z]).flatMap cellsLm).toArray) (fun α => SX.app_rel (f := cellsLm) (l1 := acc) (l2 := [z]) (fun _ => rfl) cellsLm_one (by decide) (Eq.trans (b := [Value.agg (lmL acc).toArray].flatMap SX.cellsV) (by kernel_rfl) (by simp [SX.cellsV, lmL])) (SX.src_own (by kernel_rfl)) (by (try simp only [List.length_append, List.length_cons, List.length_nil]); omega) (by (try simp only [List.length_append, List.length_cons, List.length_nil]); omega)) (by kernel_rfl) ?_
                        refine SX.VC_df (.int .i64 (((i + 1 : Nat) : Int))) (fun α => Eq.trans (b := some (.int .i64 (IntKind.i64.wrap ((i : Int) + 1)))) (by kernel_rfl) (by rw [show ((i + 1 : Nat) : Int) = (i : Int) + 1 by omega, wrap_i64 (by omega) (by omega)])) (by kernel_rfl) ?_
                        have e1 : (!put && decide (x.no < z.no)) = false := (by first | (simp_all; done) | (cases put <;> simp_all <;> omega))
                        have e2 : (put || decide (x.no < z.no)) = put := (by first | (simp_all; done) | (cases put <;> simp_all <;> omega))
                        have e3 : z.no ≠ old.no := (by first | assumption | (simp_all; done) | omega)
                        have hac2 : (acc ++ [z]) ++ wantR (replOf x old) old.no put ((standR ls old.person d t).1.drop (i + 1)) = wantR (replOf x old) old.no (true) (standR ls old.person d t).1 := by
                          rw [← hacc, hdr, wantR]
                          show _ = acc ++ ((if (!put && decide (x.no < z.no)) then [(replOf x old)] else []) ++ ((if z.no ≠ old.no then [z] else []) ++ wantR (replOf x old) old.no (put || decide (x.no < z.no)) ((standR ls old.person d t).1.drop (i + 1))))
                          rw [e1, e2, if_pos e3]
                          simp
                        exact SX.VC_again fun α => ⟨⟨i + 1, put, acc ++ [z], Eq.trans (b := [.int .i64 ((i + 1 : Nat) : Int), .bool put, .agg ([Value.agg (lmL acc).toArray, Value.agg (([z]).flatMap cellsLm).toArray].flatMap SX.cellsV).toArray]) (by kernel_rfl) (by simp [SX.cellsV, lmL]), by omega, by (try simp only [List.length_append, List.length_cons, List.length_nil]); omega, hac2⟩, cast (by kernel_rfl) (show (standR ls old.person d t).1.length - ((i + 1 : Nat) : Int).toNat < (standR ls old.person d t).1.length - (i : Int).toNat by omega)⟩
                      · try simp only [NRM] at h44
                        refine SX.VC_df (.int .i64 (((i + 1 : Nat) : Int))) (fun α => Eq.trans (b := some (.int .i64 (IntKind.i64.wrap ((i : Int) + 1)))) (by kernel_rfl) (by rw [show ((i + 1 : Nat) : Int) = (i : Int) + 1 by omega, wrap_i64 (by omega) (by omega)])) (by kernel_rfl) ?_
                        have e1 : (!put && decide (x.no < z.no)) = false := (by first | (simp_all; done) | (cases put <;> simp_all <;> omega))
                        have e2 : (put || decide (x.no < z.no)) = put := (by first | (simp_all; done) | (cases put <;> simp_all <;> omega))
                        have e3 : z.no = old.no := (by first | assumption | (simp_all; done) | omega)
                        have hac2 : (acc) ++ wantR (replOf x old) old.no put ((standR ls old.person d t).1.drop (i + 1)) = wantR (replOf x old) old.no (true) (standR ls old.person d t).1 := by
                          rw [← hacc, hdr, wantR]
                          show _ = acc ++ ((if (!put && decide (x.no < z.no)) then [(replOf x old)] else []) ++ ((if z.no ≠ old.no then [z] else []) ++ wantR (replOf x old) old.no (put || decide (x.no < z.no)) ((standR ls old.person d t).1.drop (i + 1))))
                          rw [e1, e2, if_neg (not_not_intro e3)]
                          simp
                        exact SX.VC_again fun α => ⟨⟨i + 1, put, acc, Eq.trans (b := [.int .i64 ((i + 1 : Nat) : Int), .bool put, .agg ([Value.agg (lmL acc).toArray].flatMap SX.cellsV).toArray]) (by kernel_rfl) (by simp [SX.cellsV, lmL]), by omega, by (try simp only [List.length_append, List.length_cons, List.length_nil]); omega, hac2⟩, cast (by kernel_rfl) (show (standR ls old.person d t).1.length - ((i + 1 : Nat) : Int).toNat < (standR ls old.person d t).1.length - (i : Int).toNat by omega)⟩
                  · try simp only [NRM] at h40
                    refine SX.VC_df (.bool (!(put))) (by intro α; show _ = _; kernel_rfl) (by kernel_rfl) ?_
                    refine SX.VC_br (!(put)) (by kernel_rfl) (fun h41 => ?_) (fun h41 => ?_)
                    · try simp only [NRM] at h41
                      refine SX.VC_df (Value.agg (([(replOf x old)]).flatMap cellsLm).toArray) (fun α => SX.app_rel (f := cellsLm) (l1 := acc) (l2 := [(replOf x old)]) (fun _ => rfl) cellsLm_one (by decide) (Eq.trans (b := [Value.agg (lmL acc).toArray].flatMap SX.cellsV) (by kernel_rfl) (by simp [SX.cellsV, lmL])) (SX.src_own (by kernel_rfl)) (by (try simp only [List.length_append, List.length_cons, List.length_nil]); omega) (by (try simp only [List.length_append, List.length_cons, List.length_nil]); omega)) (by kernel_rfl) ?_
                      refine SX.VC_df (.bool true) (fun α => ⟨[⟨(α 4).h, 9, lmL ((standR (addR ls (replOf x old)).1 old.person d t).1)⟩, ⟨(α 10).h, 9, lmL (acc ++ [(replOf x old)])⟩], ⟨Eq.trans (b := (⟨(α 4).h, 9, [Value.agg (lmL ((standR (addR ls (replOf x old)).1 old.person d t).1)).toArray].flatMap SX.cellsV⟩ : SX.Arg)) (by simp [SX.cellsV]) (by kernel_rfl), Eq.trans (b := (⟨(α 10).h, 9, [Value.agg (lmL acc).toArray, Value.agg (([(replOf x old)]).flatMap cellsLm).toArray].flatMap SX.cellsV⟩ : SX.Arg)) (by simp [SX.cellsV, lmL]) (by kernel_rfl), trivial⟩, .inr (.inl ⟨rfl, _, _, _, _, rfl, Nat.le_trans (standR_le _ _ _ _) (by omega), by (try simp only [List.length_append, List.length_cons, List.length_nil]); omega, by have ha := hacc; rw [List.drop_eq_nil_of_le (by omega)] at ha; have hput : put = false := (by simpa using h41); rw [hput] at ha; rw [hwant, ← ha]; simp [wantR]⟩), SX.noAli rfl⟩) (by kernel_rfl) ?_
                      exact SX.VC_ret fun α W _ _ hS => SX.ret_of hS (x := .bool true) (by kernel_rfl) (by simp)
                    · try simp only [NRM] at h41
                      refine SX.VC_df (.bool true) (fun α => ⟨[⟨(α 4).h, 9, lmL ((standR (addR ls (replOf x old)).1 old.person d t).1)⟩, ⟨(α 8).h, 9, lmL acc⟩], ⟨Eq.trans (b := (⟨(α 4).h, 9, [Value.agg (lmL ((standR (addR ls (replOf x old)).1 old.person d t).1)).toArray].flatMap SX.cellsV⟩ : SX.Arg)) (by simp [SX.cellsV]) (by kernel_rfl), Eq.trans (b := (⟨(α 8).h, 9, [Value.agg (lmL acc).toArray].flatMap SX.cellsV⟩ : SX.Arg)) (by simp [SX.cellsV, lmL]) (by kernel_rfl), trivial⟩, .inr (.inl ⟨rfl, _, _, _, _, rfl, Nat.le_trans (standR_le _ _ _ _) (by omega), by (try simp only [List.length_append, List.length_cons, List.length_nil]); omega, by have ha := hacc; rw [List.drop_eq_nil_of_le (by omega)] at ha; have hput : put = true := (by simpa using h41); rw [hput] at ha; rw [hwant, ← ha]; simp [wantR]⟩), SX.noAli rfl⟩) (by kernel_rfl) ?_
                      exact SX.VC_ret fun α W _ _ hS => SX.ret_of hS (x := .bool true) (by kernel_rfl) (by simp)
                · try simp only [NRM] at h35
                  refine SX.VC_df (.bool (decide (d > x.to_))) (by intro α; show _ = _; kernel_rfl) (by kernel_rfl) ?_
                  refine SX.VC_df (.int .i64 ((((standR ls old.person d t).1.length : Nat) : Int))) (fun α => rlen_of (f := cellsLm) (l := (standR ls old.person d t).1) (fun _ => rfl) (by decide) (Eq.trans (b := [Value.agg (lmL ((standR ls old.person d t).1)).toArray].flatMap SX.cellsV) (by kernel_rfl) (by simp [SX.cellsV, lmL]))) (by kernel_rfl) ?_
                  have hwant := repl_want hx0 hom hst0 (show x.known ≤ t by omega) (decide (d > x.to_)) ⟨fun h => .inr (.inr (by simpa using h)), fun h => h.elim (fun h => absurd h (by simpa using h34)) (fun h => by have : x.to_ < d := (by omega); simpa using this)⟩
                  have hble := standR_le ls old.person d t
                  refine SX.VC_loop (fun xs => ∃ (i : Nat) (put : Bool) (acc : List Lim), xs = [.int .i64 (i : Int), .bool put, .agg (lmL acc).toArray] ∧ i ≤ (standR ls old.person d t).1.length ∧ acc.length ≤ 2 * i ∧ acc ++ wantR (replOf x old) old.no put ((standR ls old.person d t).1.drop i) = wantR (replOf x old) old.no (decide (d > x.to_)) (standR ls old.person d t).1) (fun xs => match xs with | (.int _ i) :: _ => (standR ls old.person d t).1.length - i.toNat | _ => 0) (fun α => ⟨0, decide (d > x.to_), [], Eq.trans (b := [.int .i64 0, .bool (decide (d > x.to_)), .agg #[]]) (by kernel_rfl) (by simp [lmL]), by omega, by simp, by simp⟩) ?_
                  rintro xs - ⟨i, put, acc, rfl, hin, hal, hacc⟩
                  refine SX.VC_df (.bool (decide (((i : Nat) : Int) < (((standR ls old.person d t).1.length : Nat) : Int)))) (by intro α; show _ = _; kernel_rfl) (by kernel_rfl) ?_
                  refine SX.VC_br (decide (((i : Nat) : Int) < (((standR ls old.person d t).1.length : Nat) : Int))) (by kernel_rfl) (fun h41 => ?_) (fun h41 => ?_)
                  · try simp only [NRM] at h41
                    obtain ⟨z, hz⟩ : ∃ z, (standR ls old.person d t).1[i]? = some z := ⟨_, List.getElem?_eq_getElem (by omega)⟩
                    have hdr : (standR ls old.person d t).1.drop i = z :: (standR ls old.person d t).1.drop (i + 1) := by have h1 := List.getElem?_eq_some_iff.1 hz; obtain ⟨h1, h2⟩ := h1; rw [← h2]; exact List.drop_eq_getElem_cons h1
                    refine SX.VC_df (.bool true) (fun α => SX.row_bnd (f := cellsLm) (l := (standR ls old.person d t).1) (k := i) (fun _ => rfl) (by decide) (Eq.trans (b := [Value.agg (lmL ((standR ls old.person d t).1)).toArray].flatMap SX.cellsV) (by kernel_rfl) (by simp [SX.cellsV, lmL])) (by kernel_rfl) (by omega)) (by kernel_rfl) ?_
                    refine SX.VC_df (.agg (cellsLm z).toArray) (fun α => SX.row_elems (f := cellsLm) (l := (standR ls old.person d t).1) (k := i) (z := z) (fun _ => rfl) (by decide) (Eq.trans (b := [Value.agg (lmL ((standR ls old.person d t).1)).toArray].flatMap SX.cellsV) (by kernel_rfl) (by simp [SX.cellsV, lmL])) (by kernel_rfl) hz) (by kernel_rfl) ?_
                    refine SX.VC_df (.bool (!(put))) (by intro α; show _ = _; kernel_rfl) (by kernel_rfl) ?_
                    refine SX.VC_br (!(put)) (by kernel_rfl) (fun h44 => ?_) (fun h44 => ?_)
                    · try simp only [NRM] at h44
                      refine SX.VC_df (.bool (decide (z.no > x.no))) (by intro α; show _ = _; kernel_rfl) (by kernel_rfl) ?_
                      refine SX.VC_br (decide (z.no > x.no)) (by kernel_rfl) (fun h45 => ?_) (fun h45 => ?_)
                      · try simp only [NRM] at h45
                        refine SX.VC_df (Value.agg (([(replOf x old)]).flatMap cellsLm).toArray) (fun α => SX.app_rel (f := cellsLm) (l1 := acc) (l2 := [(replOf x old)]) (fun _ => rfl) cellsLm_one (by decide) (Eq.trans (b := [Value.agg (lmL acc).toArray].flatMap SX.cellsV) (by kernel_rfl) (by simp [SX.cellsV, lmL])) (SX.src_own (by kernel_rfl)) (by (try simp only [List.length_append, List.length_cons, List.length_nil]); omega) (by (try simp only [List.length_append, List.length_cons, List.length_nil]); omega)) (by kernel_rfl) ?_
                        refine SX.VC_df (.bool ((z.no : Int) != old.no)) (by intro α; show _ = _; kernel_rfl) (by kernel_rfl) ?_
                        refine SX.VC_br ((z.no : Int) != old.no) (by kernel_rfl) (fun h47 => ?_) (fun h47 => ?_)
                        · try simp only [NRM] at h47
                          refine SX.VC_df (Value.agg (([z]).flatMap cellsLm).toArray) (fun α => SX.app_rel (f := cellsLm) (l1 := acc ++ [(replOf x old)]) (l2 := [z]) (fun _ => rfl) cellsLm_one (by decide) (Eq.trans (b := [Value.agg (lmL acc).toArray, Value.agg (([(replOf x old)]).flatMap cellsLm).toArray].flatMap SX.cellsV) (by kernel_rfl) (by simp [SX.cellsV, lmL])) (SX.src_own (by kernel_rfl)) (by (try simp only [List.length_append, List.length_cons, List.length_nil]); omega) (by (try simp only [List.length_append, List.length_cons, List.length_nil]); omega)) (by kernel_rfl) ?_
                          refine SX.VC_df (.int .i64 (((i + 1 : Nat) : Int))) (fun α => Eq.trans (b := some (.int .i64 (IntKind.i64.wrap ((i : Int) + 1)))) (by kernel_rfl) (by rw [show ((i + 1 : Nat) : Int) = (i : Int) + 1 by omega, wrap_i64 (by omega) (by omega)])) (by kernel_rfl) ?_
                          have e1 : (!put && decide (x.no < z.no)) = true := (by first | (simp_all; done) | (cases put <;> simp_all <;> omega))
                          have e2 : (put || decide (x.no < z.no)) = true := (by first | (simp_all; done) | (cases put <;> simp_all <;> omega))
                          have e3 : z.no ≠ old.no := (by first | assumption | (simp_all; done) | omega)
                          have hac2 : (acc ++ [(replOf x old)] ++ [z]) ++ wantR (replOf x old) old.no true ((standR ls old.person d t).1.drop (i + 1)) = wantR (replOf x old) old.no (decide (d > x.to_)) (standR ls old.person d t).1 := by
                            rw [← hacc, hdr, wantR]
                            show _ = acc ++ ((if (!put && decide (x.no < z.no)) then [(replOf x old)] else []) ++ ((if z.no ≠ old.no then [z] else []) ++ wantR (replOf x old) old.no (put || decide (x.no < z.no)) ((standR ls old.person d t).1.drop (i + 1))))
                            rw [e1, e2, if_pos e3]
                            simp
                          exact SX.VC_again fun α => ⟨⟨i + 1, true, acc ++ [(replOf x old)] ++ [z], Eq.trans (b := [.int .i64 ((i + 1 : Nat) : Int), .bool true, .agg ([Value.agg (lmL acc).toArray, Value.agg (([(replOf x old)]).flatMap cellsLm).toArray, Value.agg (([z]).flatMap cellsLm).toArray].flatMap SX.cellsV).toArray]) (by kernel_rfl) (by simp [SX.cellsV, lmL]), by omega, by (try simp only [List.length_append, List.length_cons, List.length_nil]); omega, hac2⟩, cast (by kernel_rfl) (show (standR ls old.person d t).1.length - ((i + 1 : Nat) : Int).toNat < (standR ls old.person d t).1.length - (i : Int).toNat by omega)⟩
                        · try simp only [NRM] at h47
                          refine SX.VC_df (.int .i64 (((i + 1 : Nat) : Int))) (fun α => Eq.trans (b := some (.int .i64 (IntKind.i64.wrap ((i : Int) + 1)))) (by kernel_rfl) (by rw [show ((i + 1 : Nat) : Int) = (i : Int) + 1 by omega, wrap_i64 (by omega) (by omega)])) (by kernel_rfl) ?_
                          have e1 : (!put && decide (x.no < z.no)) = true := (by first | (simp_all; done) | (cases put <;> simp_all <;> omega))
                          have e2 : (put || decide (x.no < z.no)) = true := (by first | (simp_all; done) | (cases put <;> simp_all <;> omega))
                          have e3 : z.no = old.no := (by first | assumption | (simp_all; done) | omega)
                          have hac2 : (acc ++ [(replOf x old)]) ++ wantR (replOf x old) old.no true ((standR ls old.person d t).1.drop (i + 1)) = wantR (replOf x old) old.no (decide (d > x.to_)) (standR ls old.person d t).1 := by
                            rw [← hacc, hdr, wantR]
                            show _ = acc ++ ((if (!put && decide (x.no < z.no)) then [(replOf x old)] else []) ++ ((if z.no ≠ old.no then [z] else []) ++ wantR (replOf x old) old.no (put || decide (x.no < z.no)) ((standR ls old.person d t).1.drop (i + 1))))
                            rw [e1, e2, if_neg (not_not_intro e3)]
                            simp
                          exact SX.VC_again fun α => ⟨⟨i + 1, true, acc ++ [(replOf x old)], Eq.trans (b := [.int .i64 ((i + 1 : Nat) : Int), .bool true, .agg ([Value.agg (lmL acc).toArray, Value.agg (([(replOf x old)]).flatMap cellsLm).toArray].flatMap SX.cellsV).toArray]) (by kernel_rfl) (by simp [SX.cellsV, lmL]), by omega, by (try simp only [List.length_append, List.length_cons, List.length_nil]); omega, hac2⟩, cast (by kernel_rfl) (show (standR ls old.person d t).1.length - ((i + 1 : Nat) : Int).toNat < (standR ls old.person d t).1.length - (i : Int).toNat by omega)⟩
                      · try simp only [NRM] at h45
                        refine SX.VC_df (.bool ((z.no : Int) != old.no)) (by intro α; show _ = _; kernel_rfl) (by kernel_rfl) ?_
                        refine SX.VC_br ((z.no : Int) != old.no) (by kernel_rfl) (fun h46 => ?_) (fun h46 => ?_)
                        · try simp only [NRM] at h46
                          refine SX.VC_df (Value.agg (([z]).flatMap cellsLm).toArray) (fun α => SX.app_rel (f := cellsLm) (l1 := acc) (l2 := [z]) (fun _ => rfl) cellsLm_one (by decide) (Eq.trans (b := [Value.agg (lmL acc).toArray].flatMap SX.cellsV) (by kernel_rfl) (by simp [SX.cellsV, lmL])) (SX.src_own (by kernel_rfl)) (by (try simp only [List.length_append, List.length_cons, List.length_nil]); omega) (by (try simp only [List.length_append, List.length_cons, List.length_nil]); omega)) (by kernel_rfl) ?_
                          refine SX.VC_df (.int .i64 (((i + 1 : Nat) : Int))) (fun α => Eq.trans (b := some (.int .i64 (IntKind.i64.wrap ((i : Int) + 1)))) (by kernel_rfl) (by rw [show ((i + 1 : Nat) : Int) = (i : Int) + 1 by omega, wrap_i64 (by omega) (by omega)])) (by kernel_rfl) ?_
                          have e1 : (!put && decide (x.no < z.no)) = false := (by first | (simp_all; done) | (cases put <;> simp_all <;> omega))
                          have e2 : (put || decide (x.no < z.no)) = put := (by first | (simp_all; done) | (cases put <;> simp_all <;> omega))
                          have e3 : z.no ≠ old.no := (by first | assumption | (simp_all; done) | omega)
                          have hac2 : (acc ++ [z]) ++ wantR (replOf x old) old.no put ((standR ls old.person d t).1.drop (i + 1)) = wantR (replOf x old) old.no (decide (d > x.to_)) (standR ls old.person d t).1 := by
                            rw [← hacc, hdr, wantR]
                            show _ = acc ++ ((if (!put && decide (x.no < z.no)) then [(replOf x old)] else []) ++ ((if z.no ≠ old.no then [z] else []) ++ wantR (replOf x old) old.no (put || decide (x.no < z.no)) ((standR ls old.person d t).1.drop (i + 1))))
                            rw [e1, e2, if_pos e3]
                            simp
                          exact SX.VC_again fun α => ⟨⟨i + 1, put, acc ++ [z], Eq.trans (b := [.int .i64 ((i + 1 : Nat) : Int), .bool put, .agg ([Value.agg (lmL acc).toArray, Value.agg (([z]).flatMap cellsLm).toArray].flatMap SX.cellsV).toArray]) (by kernel_rfl) (by simp [SX.cellsV, lmL]), by omega, by (try simp only [List.length_append, List.length_cons, List.length_nil]); omega, hac2⟩, cast (by kernel_rfl) (show (standR ls old.person d t).1.length - ((i + 1 : Nat) : Int).toNat < (standR ls old.person d t).1.length - (i : Int).toNat by omega)⟩
                        · try simp only [NRM] at h46
                          refine SX.VC_df (.int .i64 (((i + 1 : Nat) : Int))) (fun α => Eq.trans (b := some (.int .i64 (IntKind.i64.wrap ((i : Int) + 1)))) (by kernel_rfl) (by rw [show ((i + 1 : Nat) : Int) = (i : Int) + 1 by omega, wrap_i64 (by omega) (by omega)])) (by kernel_rfl) ?_
                          have e1 : (!put && decide (x.no < z.no)) = false := (by first | (simp_all; done) | (cases put <;> simp_all <;> omega))
                          have e2 : (put || decide (x.no < z.no)) = put := (by first | (simp_all; done) | (cases put <;> simp_all <;> omega))
                          have e3 : z.no = old.no := (by first | assumption | (simp_all; done) | omega)
                          have hac2 : (acc) ++ wantR (replOf x old) old.no put ((standR ls old.person d t).1.drop (i + 1)) = wantR (replOf x old) old.no (decide (d > x.to_)) (standR ls old.person d t).1 := by
                            rw [← hacc, hdr, wantR]
                            show _ = acc ++ ((if (!put && decide (x.no < z.no)) then [(replOf x old)] else []) ++ ((if z.no ≠ old.no then [z] else []) ++ wantR (replOf x old) old.no (put || decide (x.no < z.no)) ((standR ls old.person d t).1.drop (i + 1))))
                            rw [e1, e2, if_neg (not_not_intro e3)]
                            simp
                          exact SX.VC_again fun α => ⟨⟨i + 1, put, acc, Eq.trans (b := [.int .i64 ((i + 1 : Nat) : Int), .bool put, .agg ([Value.agg (lmL acc).toArray].flatMap SX.cellsV).toArray]) (by kernel_rfl) (by simp [SX.cellsV, lmL]), by omega, by (try simp only [List.length_append, List.length_cons, List.length_nil]); omega, hac2⟩, cast (by kernel_rfl) (show (standR ls old.person d t).1.length - ((i + 1 : Nat) : Int).toNat < (standR ls old.person d t).1.length - (i : Int).toNat by omega)⟩
                    · try simp only [NRM] at h44
                      refine SX.VC_df (.bool ((z.no : Int) != old.no)) (by intro α; show _ = _; kernel_rfl) (by kernel_rfl) ?_
                      refine SX.VC_br ((z.no : Int) != old.no) (by kernel_rfl) (fun h45 => ?_) (fun h45 => ?_)
                      · try simp only [NRM] at h45
                        refine SX.VC_df (Value.agg (([z]).flatMap cellsLm).toArray) (fun α => SX.app_rel (f := cellsLm) (l1 := acc) (l2 := [z]) (fun _ => rfl) cellsLm_one (by decide) (Eq.trans (b := [Value.agg (lmL acc).toArray].flatMap SX.cellsV) (by kernel_rfl) (by simp [SX.cellsV, lmL])) (SX.src_own (by kernel_rfl)) (by (try simp only [List.length_append, List.length_cons, List.length_nil]); omega) (by (try simp only [List.length_append, List.length_cons, List.length_nil]); omega)) (by kernel_rfl) ?_
                        refine SX.VC_df (.int .i64 (((i + 1 : Nat) : Int))) (fun α => Eq.trans (b := some (.int .i64 (IntKind.i64.wrap ((i : Int) + 1)))) (by kernel_rfl) (by rw [show ((i + 1 : Nat) : Int) = (i : Int) + 1 by omega, wrap_i64 (by omega) (by omega)])) (by kernel_rfl) ?_
                        have e1 : (!put && decide (x.no < z.no)) = false := (by first | (simp_all; done) | (cases put <;> simp_all <;> omega))
                        have e2 : (put || decide (x.no < z.no)) = put := (by first | (simp_all; done) | (cases put <;> simp_all <;> omega))
                        have e3 : z.no ≠ old.no := (by first | assumption | (simp_all; done) | omega)
                        have hac2 : (acc ++ [z]) ++ wantR (replOf x old) old.no put ((standR ls old.person d t).1.drop (i + 1)) = wantR (replOf x old) old.no (decide (d > x.to_)) (standR ls old.person d t).1 := by
                          rw [← hacc, hdr, wantR]
                          show _ = acc ++ ((if (!put && decide (x.no < z.no)) then [(replOf x old)] else []) ++ ((if z.no ≠ old.no then [z] else []) ++ wantR (replOf x old) old.no (put || decide (x.no < z.no)) ((standR ls old.person d t).1.drop (i + 1))))
                          rw [e1, e2, if_pos e3]
                          simp
                        exact SX.VC_again fun α => ⟨⟨i + 1, put, acc ++ [z], Eq.trans (b := [.int .i64 ((i + 1 : Nat) : Int), .bool put, .agg ([Value.agg (lmL acc).toArray, Value.agg (([z]).flatMap cellsLm).toArray].flatMap SX.cellsV).toArray]) (by kernel_rfl) (by simp [SX.cellsV, lmL]), by omega, by (try simp only [List.length_append, List.length_cons, List.length_nil]); omega, hac2⟩, cast (by kernel_rfl) (show (standR ls old.person d t).1.length - ((i + 1 : Nat) : Int).toNat < (standR ls old.person d t).1.length - (i : Int).toNat by omega)⟩
                      · try simp only [NRM] at h45
                        refine SX.VC_df (.int .i64 (((i + 1 : Nat) : Int))) (fun α => Eq.trans (b := some (.int .i64 (IntKind.i64.wrap ((i : Int) + 1)))) (by kernel_rfl) (by rw [show ((i + 1 : Nat) : Int) = (i : Int) + 1 by omega, wrap_i64 (by omega) (by omega)])) (by kernel_rfl) ?_
                        have e1 : (!put && decide (x.no < z.no)) = false := (by first | (simp_all; done) | (cases put <;> simp_all <;> omega))
                        have e2 : (put || decide (x.no < z.no)) = put := (by first | (simp_all; done) | (cases put <;> simp_all <;> omega))
                        have e3 : z.no = old.no := (by first | assumption | (simp_all; done) | omega)
                        have hac2 : (acc) ++ wantR (replOf x old) old.no put ((standR ls old.person d t).1.drop (i + 1)) = wantR (replOf x old) old.no (decide (d > x.to_)) (standR ls old.person d t).1 := by
                          rw [← hacc, hdr, wantR]
                          show _ = acc ++ ((if (!put && decide (x.no < z.no)) then [(replOf x old)] else []) ++ ((if z.no ≠ old.no then [z] else []) ++ wantR (replOf x old) old.no (put || decide (x.no < z.no)) ((standR ls old.person d t).1.drop (i + 1))))
                          rw [e1, e2, if_neg (not_not_intro e3)]
                          simp
                        exact SX.VC_again fun α => ⟨⟨i + 1, put, acc, Eq.trans (b := [.int .i64 ((i + 1 : Nat) : Int), .bool put, .agg ([Value.agg (lmL acc).toArray].flatMap SX.cellsV).toArray]) (by kernel_rfl) (by simp [SX.cellsV, lmL]), by omega, by (try simp only [List.length_append, List.length_cons, List.length_nil]); omega, hac2⟩, cast (by kernel_rfl) (show (standR ls old.person d t).1.length - ((i + 1 : Nat) : Int).toNat < (standR ls old.person d t).1.length - (i : Int).toNat by omega)⟩
                  · try simp only [NRM] at h41
                    refine SX.VC_df (.bool (!(put))) (by intro α; show _ = _; kernel_rfl) (by kernel_rfl) ?_
                    refine SX.VC_br (!(put)) (by kernel_rfl) (fun h42 => ?_) (fun h42 => ?_)
                    · try simp only [NRM] at h42
                      refine SX.VC_df (Value.agg (([(replOf x old)]).flatMap cellsLm).toArray) (fun α => SX.app_rel (f := cellsLm) (l1 := acc) (l2 := [(replOf x old)]) (fun _ => rfl) cellsLm_one (by decide) (Eq.trans (b := [Value.agg (lmL acc).toArray].flatMap SX.cellsV) (by kernel_rfl) (by simp [SX.cellsV, lmL])) (SX.src_own (by kernel_rfl)) (by (try simp only [List.length_append, List.length_cons, List.length_nil]); omega) (by (try simp only [List.length_append, List.length_cons, List.length_nil]); omega)) (by kernel_rfl) ?_
                      refine SX.VC_df (.bool true) (fun α => ⟨[⟨(α 4).h, 9, lmL ((standR (addR ls (replOf x old)).1 old.person d t).1)⟩, ⟨(α 10).h, 9, lmL (acc ++ [(replOf x old)])⟩], ⟨Eq.trans (b := (⟨(α 4).h, 9, [Value.agg (lmL ((standR (addR ls (replOf x old)).1 old.person d t).1)).toArray].flatMap SX.cellsV⟩ : SX.Arg)) (by simp [SX.cellsV]) (by kernel_rfl), Eq.trans (b := (⟨(α 10).h, 9, [Value.agg (lmL acc).toArray, Value.agg (([(replOf x old)]).flatMap cellsLm).toArray].flatMap SX.cellsV⟩ : SX.Arg)) (by simp [SX.cellsV, lmL]) (by kernel_rfl), trivial⟩, .inr (.inl ⟨rfl, _, _, _, _, rfl, Nat.le_trans (standR_le _ _ _ _) (by omega), by (try simp only [List.length_append, List.length_cons, List.length_nil]); omega, by have ha := hacc; rw [List.drop_eq_nil_of_le (by omega)] at ha; have hput : put = false := (by simpa using h42); rw [hput] at ha; rw [hwant, ← ha]; simp [wantR]⟩), SX.noAli rfl⟩) (by kernel_rfl) ?_
                      exact SX.VC_ret fun α W _ _ hS => SX.ret_of hS (x := .bool true) (by kernel_rfl) (by simp)
                    · try simp only [NRM] at h42
                      refine SX.VC_df (.bool true) (fun α => ⟨[⟨(α 4).h, 9, lmL ((standR (addR ls (replOf x old)).1 old.person d t).1)⟩, ⟨(α 8).h, 9, lmL acc⟩], ⟨Eq.trans (b := (⟨(α 4).h, 9, [Value.agg (lmL ((standR (addR ls (replOf x old)).1 old.person d t).1)).toArray].flatMap SX.cellsV⟩ : SX.Arg)) (by simp [SX.cellsV]) (by kernel_rfl), Eq.trans (b := (⟨(α 8).h, 9, [Value.agg (lmL acc).toArray].flatMap SX.cellsV⟩ : SX.Arg)) (by simp [SX.cellsV, lmL]) (by kernel_rfl), trivial⟩, .inr (.inl ⟨rfl, _, _, _, _, rfl, Nat.le_trans (standR_le _ _ _ _) (by omega), by (try simp only [List.length_append, List.length_cons, List.length_nil]); omega, by have ha := hacc; rw [List.drop_eq_nil_of_le (by omega)] at ha; have hput : put = true := (by simpa using h42); rw [hput] at ha; rw [hwant, ← ha]; simp [wantR]⟩), SX.noAli rfl⟩) (by kernel_rfl) ?_
                      exact SX.VC_ret fun α W _ _ hS => SX.ret_of hS (x := .bool true) (by kernel_rfl) (by simp)
end Go.Proofs.Ytmkigejhgpoleaa
