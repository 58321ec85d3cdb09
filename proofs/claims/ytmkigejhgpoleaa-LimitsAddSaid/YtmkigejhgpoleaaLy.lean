/-
  The order in which limits are added does not matter: the walk.
-/
import Derived.Test.YtmkigejhgpoleaaLq
import Derived.Test.YtmkigejhgpoleaaLr
import Derived.Test.YtmkigejhgpoleaaLx
namespace Go.Proofs.Ytmkigejhgpoleaa
set_option linter.unusedSimpArgs false
set_option linter.unusedVariables false
open Go Go.RowKit
def tree_adds : SX.Tree :=
(.df (.call 10 []) [] .one 
(.df .not [(.x 19 [])] .one 
(.br 20 [] 
(.ret (.k (.bool false)) [] []) 
(.df (.len false) [(.x 0 [])] .one 
(.df (.bin .gtr 3) [(.x 21 []), (.k (.int .i64 120))] .one 
(.br 22 [] 
(.ret (.k (.bool true)) [] []) 
(.df (.call 12 [(.ext 9), .no]) [(.x 0 []), (.a [(.x 1 []), (.x 2 []), (.x 3 []), (.x 4 []), (.x 5 []), (.x 6 []), (.x 7 []), (.x 8 []), (.x 9 [])])] (.tp [(.sl 9), .one]) 
(.df (.bin .neq 29) [(.x 23 [1]), (.k (.int .i64 0))] .one 
(.br 24 [] 
(.df (.rlen 9) [(.cat [(.x 23 [0])])] .one 
(.df (.bin .eql 3) [(.x 25 []), (.k (.int .i64 0))] .one 
(.ret (.x 26 []) [] []))) 
(.df (.call 14 [(.row 9 [(.x 23 [0])])]) [(.row 2)] .one 
(.df (.bin .neq 29) [(.x 25 []), (.k (.int .i64 0))] .one 
(.br 26 [] 
(.ret (.k (.bool false)) [] []) 
(.df (.rlen 9) [(.cat [(.x 23 [0])])] .one 
(.df (.len false) [(.x 0 [])] .one 
(.df (.bin .add 3) [(.x 28 []), (.k (.int .i64 1))] .one 
(.df (.bin .neq 3) [(.x 27 []), (.x 29 [])] .one 
(.br 30 [] 
(.ret (.k (.bool false)) [] []) 
(.loop [(.k (.int .i64 0))] [.one] 
(.df (.len false) [(.x 0 [])] .one 
(.df (.bin .lss 3) [(.x 31 []), (.x 32 [])] .one 
(.br 33 [] 
(.df .bnd [(.x 0 []), (.x 31 [])] .one 
(.df .bnd [(.x 0 []), (.x 31 [])] .one 
(.df (.elem 9 0) [(.x 0 []), (.x 31 [])] .one 
(.df (.bin .lss 3) [(.x 36 []), (.x 1 [])] .one 
(.br 37 [] 
(.df (.bin .add 3) [(.x 31 []), (.k (.int .i64 1))] .one 
(.again 0 [(.x 38 [])])) 
(.df (.rbnd 9) [(.cat [(.x 23 [0])]), (.x 31 [])] .one 
(.df (.relems 9 0 9) [(.cat [(.x 23 [0])]), (.x 31 [])] (.ag 9) 
(.df (.eqr true 9 [(.i .i64), (.i .i64), (.i .i64), (.i .i64), (.i .i64), (.i .i64), (.i .i64), (.i .i64), (.i .i64)]) [(.x 39 [0]), (.x 39 [1]), (.x 39 [2]), (.x 39 [3]), (.x 39 [4]), (.x 39 [5]), (.x 39 [6]), (.x 39 [7]), (.x 39 [8]), (.x 1 []), (.x 2 []), (.x 3 []), (.x 4 []), (.x 5 []), (.x 6 []), (.x 7 []), (.x 8 []), (.x 9 [])] .one 
(.br 40 [] 
(.ret (.k (.bool false)) [] []) 
(.df (.slcx 9 false true) [(.cat [(.x 23 [0])]), (.x 31 [])] .any 
(.df (.app 9 72 (.row 9 [(.x 41 [])])) [(.cat []), (.row 14)] .any 
(.df (.bin .add 3) [(.x 31 []), (.k (.int .i64 1))] .one 
(.df (.slcx 9 true false) [(.cat [(.x 23 [0])]), (.x 43 [])] .any 
(.df (.app 9 72 (.row 9 [(.x 44 [])])) [(.cat [(.x 42 [])]), (.row 19)] .any 
(.df (.call 16 [(.row 9 [(.x 42 []), (.x 45 [])]), (.ext 9)]) [(.row 20), (.x 0 [])] .one 
(.df .not [(.x 46 [])] .one 
(.br 47 [] 
(.ret (.k (.bool false)) [] []) 
(.df (.call 12 [(.ext 9), .no]) [(.x 0 []), (.a [(.x 10 []), (.x 11 []), (.x 12 []), (.x 13 []), (.x 14 []), (.x 15 []), (.x 16 []), (.x 17 []), (.x 18 [])])] (.tp [(.sl 9), .one]) 
(.df (.call 12 [(.row 9 [(.x 23 [0])]), .no]) [(.row 2), (.a [(.x 10 []), (.x 11 []), (.x 12 []), (.x 13 []), (.x 14 []), (.x 15 []), (.x 16 []), (.x 17 []), (.x 18 [])])] (.tp [(.sl 9), .one]) 
(.df (.bin .neq 29) [(.x 48 [1]), (.k (.int .i64 0))] .one 
(.br 50 [] 
(.df (.bin .eql 29) [(.x 48 [1]), (.k (.int .i64 0))] .one 
(.br 51 [] 
(.df (.bin .eql 29) [(.x 49 [1]), (.k (.int .i64 0))] .one 
(.br 52 [] 
(.ret (.k (.bool true)) [] []) 
(.df (.rlen 9) [(.cat [(.x 49 [0])])] .one 
(.df (.bin .eql 3) [(.x 53 []), (.k (.int .i64 0))] .one 
(.ret (.x 54 []) [] []))))) 
(.df (.rlen 9) [(.cat [(.x 48 [0])])] .one 
(.df (.bin .eql 3) [(.x 52 []), (.k (.int .i64 0))] .one 
(.br 53 [] 
(.df (.bin .eql 29) [(.x 49 [1]), (.k (.int .i64 0))] .one 
(.br 54 [] 
(.ret (.k (.bool true)) [] []) 
(.df (.rlen 9) [(.cat [(.x 49 [0])])] .one 
(.df (.bin .eql 3) [(.x 55 []), (.k (.int .i64 0))] .one 
(.ret (.x 56 []) [] []))))) 
(.ret (.k (.bool false)) [] [])))))) 
(.df (.bin .neq 29) [(.x 49 [1]), (.k (.int .i64 0))] .one 
(.br 51 [] 
(.df (.bin .eql 29) [(.x 48 [1]), (.k (.int .i64 0))] .one 
(.br 52 [] 
(.df (.bin .eql 29) [(.x 49 [1]), (.k (.int .i64 0))] .one 
(.br 53 [] 
(.ret (.k (.bool true)) [] []) 
(.df (.rlen 9) [(.cat [(.x 49 [0])])] .one 
(.df (.bin .eql 3) [(.x 54 []), (.k (.int .i64 0))] .one 
(.ret (.x 55 []) [] []))))) 
(.df (.rlen 9) [(.cat [(.x 48 [0])])] .one 
(.df (.bin .eql 3) [(.x 53 []), (.k (.int .i64 0))] .one 
(.br 54 [] 
(.df (.bin .eql 29) [(.x 49 [1]), (.k (.int .i64 0))] .one 
(.br 55 [] 
(.ret (.k (.bool true)) [] []) 
(.df (.rlen 9) [(.cat [(.x 49 [0])])] .one 
(.df (.bin .eql 3) [(.x 56 []), (.k (.int .i64 0))] .one 
(.ret (.x 57 []) [] []))))) 
(.ret (.k (.bool false)) [] [])))))) 
(.df (.call 12 [(.row 9 [(.x 48 [0])]), .no]) [(.row 21), (.a [(.x 1 []), (.x 2 []), (.x 3 []), (.x 4 []), (.x 5 []), (.x 6 []), (.x 7 []), (.x 8 []), (.x 9 [])])] (.tp [(.sl 9), .one]) 
(.df (.bin .eql 29) [(.x 52 [1]), (.k (.int .i64 0))] .one 
(.br 53 [] 
(.df (.call 16 [(.row 9 [(.x 49 [0])]), (.row 9 [(.x 52 [0])])]) [(.row 22), (.row 23)] .one 
(.ret (.x 54 []) [] [])) 
(.ret (.k (.bool false)) [] []))))))))))))))))))))))))))) 
(.df (.rbnd 9) [(.cat [(.x 23 [0])]), (.x 31 [])] .one 
(.df (.relems 9 0 9) [(.cat [(.x 23 [0])]), (.x 31 [])] (.ag 9) 
(.df (.eqr true 9 [(.i .i64), (.i .i64), (.i .i64), (.i .i64), (.i .i64), (.i .i64), (.i .i64), (.i .i64), (.i .i64)]) [(.x 35 [0]), (.x 35 [1]), (.x 35 [2]), (.x 35 [3]), (.x 35 [4]), (.x 35 [5]), (.x 35 [6]), (.x 35 [7]), (.x 35 [8]), (.x 1 []), (.x 2 []), (.x 3 []), (.x 4 []), (.x 5 []), (.x 6 []), (.x 7 []), (.x 8 []), (.x 9 [])] .one 
(.br 36 [] 
(.ret (.k (.bool false)) [] []) 
(.df (.slcx 9 false true) [(.cat [(.x 23 [0])]), (.x 31 [])] .any 
(.df (.app 9 72 (.row 9 [(.x 37 [])])) [(.cat []), (.row 14)] .any 
(.df (.bin .add 3) [(.x 31 []), (.k (.int .i64 1))] .one 
(.df (.slcx 9 true false) [(.cat [(.x 23 [0])]), (.x 39 [])] .any 
(.df (.app 9 72 (.row 9 [(.x 40 [])])) [(.cat [(.x 38 [])]), (.row 19)] .any 
(.df (.call 16 [(.row 9 [(.x 38 []), (.x 41 [])]), (.ext 9)]) [(.row 20), (.x 0 [])] .one 
(.df .not [(.x 42 [])] .one 
(.br 43 [] 
(.ret (.k (.bool false)) [] []) 
(.df (.call 12 [(.ext 9), .no]) [(.x 0 []), (.a [(.x 10 []), (.x 11 []), (.x 12 []), (.x 13 []), (.x 14 []), (.x 15 []), (.x 16 []), (.x 17 []), (.x 18 [])])] (.tp [(.sl 9), .one]) 
(.df (.call 12 [(.row 9 [(.x 23 [0])]), .no]) [(.row 2), (.a [(.x 10 []), (.x 11 []), (.x 12 []), (.x 13 []), (.x 14 []), (.x 15 []), (.x 16 []), (.x 17 []), (.x 18 [])])] (.tp [(.sl 9), .one]) 
(.df (.bin .neq 29) [(.x 44 [1]), (.k (.int .i64 0))] .one 
(.br 46 [] 
(.df (.bin .eql 29) [(.x 44 [1]), (.k (.int .i64 0))] .one 
(.br 47 [] 
(.df (.bin .eql 29) [(.x 45 [1]), (.k (.int .i64 0))] .one 
(.br 48 [] 
(.ret (.k (.bool true)) [] []) 
(.df (.rlen 9) [(.cat [(.x 45 [0])])] .one 
(.df (.bin .eql 3) [(.x 49 []), (.k (.int .i64 0))] .one 
(.ret (.x 50 []) [] []))))) 
(.df (.rlen 9) [(.cat [(.x 44 [0])])] .one 
(.df (.bin .eql 3) [(.x 48 []), (.k (.int .i64 0))] .one 
(.br 49 [] 
(.df (.bin .eql 29) [(.x 45 [1]), (.k (.int .i64 0))] .one 
(.br 50 [] 
(.ret (.k (.bool true)) [] []) 
(.df (.rlen 9) [(.cat [(.x 45 [0])])] .one 
(.df (.bin .eql 3) [(.x 51 []), (.k (.int .i64 0))] .one 
(.ret (.x 52 []) [] []))))) 
(.ret (.k (.bool false)) [] [])))))) 
(.df (.bin .neq 29) [(.x 45 [1]), (.k (.int .i64 0))] .one 
(.br 47 [] 
(.df (.bin .eql 29) [(.x 44 [1]), (.k (.int .i64 0))] .one 
(.br 48 [] 
(.df (.bin .eql 29) [(.x 45 [1]), (.k (.int .i64 0))] .one 
(.br 49 [] 
(.ret (.k (.bool true)) [] []) 
(.df (.rlen 9) [(.cat [(.x 45 [0])])] .one 
(.df (.bin .eql 3) [(.x 50 []), (.k (.int .i64 0))] .one 
(.ret (.x 51 []) [] []))))) 
(.df (.rlen 9) [(.cat [(.x 44 [0])])] .one 
(.df (.bin .eql 3) [(.x 49 []), (.k (.int .i64 0))] .one 
(.br 50 [] 
(.df (.bin .eql 29) [(.x 45 [1]), (.k (.int .i64 0))] .one 
(.br 51 [] 
(.ret (.k (.bool true)) [] []) 
(.df (.rlen 9) [(.cat [(.x 45 [0])])] .one 
(.df (.bin .eql 3) [(.x 52 []), (.k (.int .i64 0))] .one 
(.ret (.x 53 []) [] []))))) 
(.ret (.k (.bool false)) [] [])))))) 
(.df (.call 12 [(.row 9 [(.x 44 [0])]), .no]) [(.row 21), (.a [(.x 1 []), (.x 2 []), (.x 3 []), (.x 4 []), (.x 5 []), (.x 6 []), (.x 7 []), (.x 8 []), (.x 9 [])])] (.tp [(.sl 9), .one]) 
(.df (.bin .eql 29) [(.x 48 [1]), (.k (.int .i64 0))] .one 
(.br 49 [] 
(.df (.call 16 [(.row 9 [(.x 45 [0])]), (.row 9 [(.x 48 [0])])]) [(.row 22), (.row 23)] .one 
(.ret (.x 50 []) [] [])) 
(.ret (.k (.bool false)) [] [])))))))))))))))))))))))))))))))))))))))))))
def args_adds : List SX.V := [.x 0 [], .a ((List.range 9).map fun j => .x (1 + j) []), .a ((List.range 9).map fun j => .x (10 + j) [])]
set_option maxRecDepth 100000 in
theorem run_adds (K A : Value → Nat → List Value → Prop) : (SX.run (cxLT K A) ⟨fun f => true, [⟨7, 11, [(.s 9, .one)]⟩], 0, 100⟩ 100000 0 (SX.door 7 Try.f7 args_adds (List.replicate 19 .one)) [.code (Try.f7.body.getD .skip), .top Try.f7]).strip = tree_adds := by kernel_rfl
set_option maxRecDepth 100000 in
set_option maxHeartbeats 4000000 in
theorem adds_any (ls : List Lim) (A : Option Addr) (n c : Nat) (x y : Lim) (w : World) (hr : Rd w 9 A n (lmL ls)) (hn : n ≤ 9223372036854775807) (hc : n ≤ c) (hfit : fitLm ls) (hx : fitI x.of_) (hy : fitI y.of_) : Calls Try.prog 7 #[.slice A n c, valLm x, valLm y] w fun e w' => e = .returned (.bool true) ∧ Below w.heap.size w w' := by
  refine SX.calls_of_run (C := cxLT (fun s sz cells => s = .slice A n c ∧ sz = 9 ∧ cells = lmL ls) (fun _ _ _ => False)) (G := ⟨fun f => true, [⟨7, 11, [(.s 9, .one)]⟩], 0, 100⟩) (args := args_adds) (sh := (List.replicate 19 .one)) (ρ := (.slice A n c :: (cellsLm x ++ cellsLm y))) 100000 tree_adds (okLT _ _) Try.func7 rfl (run_adds _ _) (by kernel_rfl) (by kernel_rfl) (by kernel_rfl) ?_ ?_
  · rintro W hW s sz cells ⟨rfl, rfl, rfl⟩; exact ⟨hr.same0 hW, hc⟩
  have hA := SX.rd_some hr
  have hln : ls.length = n := by have := hr.1; rw [lmL_len] at this; omega
  unfold tree_adds
  refine SX.VC_df (.bool true) (fun α => ⟨[], trivial, .inr (.inr (.inr (.inr (.inr (⟨rfl, rfl, rfl⟩))))), SX.noAli rfl⟩) (by kernel_rfl) ?_
  refine SX.VC_df (.bool (!(true))) (by intro α; show _ = _; kernel_rfl) (by kernel_rfl) ?_
  refine SX.VC_br (!(true)) (by kernel_rfl) (fun h20 => absurd h20 (by simp)) (fun h20 => ?_)
  try simp only [NRM] at h20
  refine SX.VC_df (.int .i64 (((n : Nat) : Int))) (by intro α; show _ = _; kernel_rfl) (by kernel_rfl) ?_
  refine SX.VC_df (.bool (decide (((n : Nat) : Int) > 120))) (by intro α; show _ = _; kernel_rfl) (by kernel_rfl) ?_
  refine SX.VC_br (decide (((n : Nat) : Int) > 120)) (by kernel_rfl) (fun h22 => ?_) (fun h22 => ?_)
  · try simp only [NRM] at h22
    exact SX.VC_ret fun α W _ _ hS => SX.ret_of hS (x := .bool true) (by kernel_rfl) (by simp)
  · try simp only [NRM] at h22
    refine SX.VC_df (.tuple #[Value.agg (lmL (addR ls x).1).toArray, .int .i64 ((addR ls x).2)]) (fun α => ⟨[⟨.slice A n c, 9, lmL ls⟩, ⟨valLm x, 0, []⟩], ⟨by kernel_rfl, rfl, ⟨by kernel_rfl, rfl, rfl⟩, by kernel_rfl, by kernel_rfl, trivial⟩, .inr (.inr (.inl ⟨rfl, _, ls, x, rfl, by omega, hfit, hx, rfl⟩)), SX.noAli rfl⟩) (lms_fit _ _) ?_
    refine SX.VC_df (.bool (((addR ls x).2 : Int) != 0)) (by intro α; show _ = _; kernel_rfl) (by kernel_rfl) ?_
    refine SX.VC_br (((addR ls x).2 : Int) != 0) (by kernel_rfl) (fun h24 => ?_) (fun h24 => ?_)
    · try simp only [NRM] at h24
      refine SX.VC_df (.int .i64 ((((addR ls x).1.length : Nat) : Int))) (fun α => rlen_of (f := cellsLm) (l := (addR ls x).1) (fun _ => rfl) (by decide) (Eq.trans (b := [Value.agg (lmL ((addR ls x).1)).toArray].flatMap SX.cellsV) (by kernel_rfl) (by simp [SX.cellsV, lmL]))) (by kernel_rfl) ?_
      refine SX.VC_df (.bool (((((addR ls x).1.length : Nat) : Int) : Int) == 0)) (by intro α; show _ = _; kernel_rfl) (by kernel_rfl) ?_
      exact SX.VC_ret fun α W _ _ hS => SX.ret_of hS (x := .bool (((((addR ls x).1.length : Nat) : Int) : Int) == 0)) (by kernel_rfl) (by rw [addR_no (ls := ls) (x := x) (by simpa using h24)]; simp)
    · try simp only [NRM] at h24
      obtain ⟨hk0, hnm, hka, hax⟩ := addR_ok (show (addR ls x).2 = 0 by simpa using h24)
      have hal := addR_len (show (addR ls x).2 = 0 by simpa using h24)
      have h512 := addR_le ls x
      obtain ⟨hl512, hokl⟩ := chkL_zero hk0
      refine SX.VC_df (.int .i64 ((chkL (addR ls x).1))) (fun α => ⟨[⟨(α 2).h, 9, lmL ((addR ls x).1)⟩], ⟨Eq.trans (b := (⟨(α 2).h, 9, [Value.agg (lmL ((addR ls x).1)).toArray].flatMap SX.cellsV⟩ : SX.Arg)) (by simp [SX.cellsV]) (by kernel_rfl), trivial⟩, .inl ⟨rfl, _, (addR ls x).1, rfl, Nat.le_trans (addR_le _ _) (by omega), addR_fit hfit hx, rfl⟩, SX.noAli rfl⟩) (by kernel_rfl) ?_
      refine SX.VC_df (.bool (((chkL (addR ls x).1) : Int) != 0)) (by intro α; show _ = _; kernel_rfl) (by kernel_rfl) ?_
      refine SX.VC_br (((chkL (addR ls x).1) : Int) != 0) (by kernel_rfl) (fun h26 => absurd h26 (by rw [hax, hka]; simp)) (fun h26 => ?_)
      try simp only [NRM] at h26
      refine SX.VC_df (.int .i64 ((((addR ls x).1.length : Nat) : Int))) (fun α => rlen_of (f := cellsLm) (l := (addR ls x).1) (fun _ => rfl) (by decide) (Eq.trans (b := [Value.agg (lmL ((addR ls x).1)).toArray].flatMap SX.cellsV) (by kernel_rfl) (by simp [SX.cellsV, lmL]))) (by kernel_rfl) ?_
      refine SX.VC_df (.int .i64 (((n : Nat) : Int))) (by intro α; show _ = _; kernel_rfl) (by kernel_rfl) ?_
      refine SX.VC_df (.int .i64 (((n + 1 : Nat) : Int))) (fun α => Eq.trans (b := some (.int .i64 (IntKind.i64.wrap ((n : Nat) + 1)))) (by kernel_rfl) (by rw [show ((n + 1 : Nat) : Int) = ((n : Nat) : Int) + 1 by omega, wrap_i64 (by omega) (by omega)])) (by kernel_rfl) ?_
      refine SX.VC_df (.bool (((((addR ls x).1.length : Nat) : Int) : Int) != ((n + 1 : Nat) : Int))) (by intro α; show _ = _; kernel_rfl) (by kernel_rfl) ?_
      refine SX.VC_br (((((addR ls x).1.length : Nat) : Int) : Int) != ((n + 1 : Nat) : Int)) (by kernel_rfl) (fun h30 => absurd h30 (by rw [hal, hln]; simp)) (fun h30 => ?_)
      try simp only [NRM] at h30
      refine SX.VC_loop (fun xs => ∃ (i : Nat), xs = [.int .i64 (i : Int)] ∧ i ≤ n ∧ ∀ y ∈ ls.take i, y.no < x.no) (fun xs => match xs with | [.int _ i] => n - i.toNat | _ => 0) (fun α => ⟨0, by kernel_rfl, by omega, by simp⟩) ?_
      rintro xs - ⟨i, rfl, hin, hlo⟩
      refine SX.VC_df (.int .i64 (((n : Nat) : Int))) (by intro α; show _ = _; kernel_rfl) (by kernel_rfl) ?_
      refine SX.VC_df (.bool (decide (((i : Nat) : Int) < ((n : Nat) : Int)))) (by intro α; show _ = _; kernel_rfl) (by kernel_rfl) ?_
      refine SX.VC_br (decide (((i : Nat) : Int) < ((n : Nat) : Int))) (by kernel_rfl) (fun h33 => ?_) (fun h33 => ?_)
      · try simp only [NRM] at h33
        obtain ⟨z, hz⟩ : ∃ z, ls[i]? = some z := ⟨_, List.getElem?_eq_getElem (by omega)⟩
        refine SX.VC_df (.bool true) (fun α => SX.extBnd (A := A) (n := n) (c := c) (j := i) hA (by kernel_rfl) (by kernel_rfl) (by omega)) (by kernel_rfl) ?_
        refine SX.VC_df (.bool true) (fun α => SX.extBnd (A := A) (n := n) (c := c) (j := i) hA (by kernel_rfl) (by kernel_rfl) (by omega)) (by kernel_rfl) ?_
        refine SX.VC_df (.int .i64 z.no) (fun α => SX.extElem (o := 0) (v := .int .i64 z.no) (f := cellsLm) (l := ls) (A := A) (n := n) (c := c) (j := i) (z := z) (fun _ => rfl) hA (by kernel_rfl) (by kernel_rfl) (by omega) ⟨rfl, rfl, rfl⟩ hz (by decide) (by kernel_rfl)) (by kernel_rfl) ?_
        refine SX.VC_df (.bool (decide (z.no < x.no))) (by intro α; show _ = _; kernel_rfl) (by kernel_rfl) ?_
        refine SX.VC_br (decide (z.no < x.no)) (by kernel_rfl) (fun h37 => ?_) (fun h37 => ?_)
        · try simp only [NRM] at h37
          refine SX.VC_df (.int .i64 (((i + 1 : Nat) : Int))) (fun α => Eq.trans (b := some (.int .i64 (IntKind.i64.wrap ((i : Nat) + 1)))) (by kernel_rfl) (by rw [show ((i + 1 : Nat) : Int) = ((i : Nat) : Int) + 1 by omega, wrap_i64 (by omega) (by omega)])) (by kernel_rfl) ?_
          exact SX.VC_again fun α => ⟨⟨i + 1, by kernel_rfl, by omega, (all_take1 hz).2 ⟨hlo, by omega⟩⟩, cast (by kernel_rfl) (show n - ((i + 1 : Nat) : Int).toNat < n - (i : Int).toNat by omega)⟩
        · try simp only [NRM] at h37
          have hpos := half_pos (half_at hokl hlo hz (by omega)) (Int.le_refl _)
          obtain ⟨hat1, hat2⟩ := addR_at (show (addR ls x).2 = 0 by simpa using h24) hpos (by omega)
          refine SX.VC_df (.bool true) (fun α => SX.row_bnd (f := cellsLm) (l := (addR ls x).1) (k := i) (fun _ => rfl) (by decide) (Eq.trans (b := [Value.agg (lmL ((addR ls x).1)).toArray].flatMap SX.cellsV) (by kernel_rfl) (by simp [SX.cellsV, lmL])) (by kernel_rfl) (by omega)) (by kernel_rfl) ?_
          refine SX.VC_df (.agg (cellsLm x).toArray) (fun α => SX.row_elems (f := cellsLm) (l := (addR ls x).1) (k := i) (z := x) (fun _ => rfl) (by decide) (Eq.trans (b := [Value.agg (lmL ((addR ls x).1)).toArray].flatMap SX.cellsV) (by kernel_rfl) (by simp [SX.cellsV, lmL])) (by kernel_rfl) hat1) (by kernel_rfl) ?_
          refine SX.VC_df (.bool (true ^^ decide (x = x))) (fun α => SX.eqr_rel (f := cellsLm) cellsLm_inj (y := x) (z := x) (by kernel_rfl) (by kernel_rfl) (by kernel_rfl)) (by kernel_rfl) ?_
          refine SX.VC_br (true ^^ decide (x = x)) (by kernel_rfl) (fun h40 => absurd h40 (by simp)) (fun h40 => ?_)
          try simp only [NRM] at h40
          refine SX.VC_df (Value.agg (((addR ls x).1.take i).flatMap cellsLm).toArray) (fun α => slcx_hi (L := (addR ls x).1) (Eq.trans (b := [Value.agg (lmL ((addR ls x).1)).toArray].flatMap SX.cellsV) (by kernel_rfl) (by simp [SX.cellsV, lmL])) (by kernel_rfl) (by omega)) (by kernel_rfl) ?_
          refine SX.VC_df (Value.agg (((addR ls x).1.take i).flatMap cellsLm).toArray) (fun α => SX.app_rel (f := cellsLm) (l1 := []) (l2 := (addR ls x).1.take i) (fun _ => rfl) cellsLm_one (by decide) (by kernel_rfl) (src_row1 (by kernel_rfl)) (by simp only [List.length_nil, List.length_take, List.length_drop]; omega) (by simp only [List.length_nil, List.length_take, List.length_drop]; omega)) (by kernel_rfl) ?_
          refine SX.VC_df (.int .i64 (((i + 1 : Nat) : Int))) (fun α => Eq.trans (b := some (.int .i64 (IntKind.i64.wrap ((i : Int) + 1)))) (by kernel_rfl) (by rw [show ((i + 1 : Nat) : Int) = (i : Int) + 1 by omega, wrap_i64 (by omega) (by omega)])) (by kernel_rfl) ?_
          refine SX.VC_df (Value.agg (((addR ls x).1.drop (i + 1)).flatMap cellsLm).toArray) (fun α => slcx_lo (L := (addR ls x).1) (i := i + 1) (Eq.trans (b := [Value.agg (lmL ((addR ls x).1)).toArray].flatMap SX.cellsV) (by kernel_rfl) (by simp [SX.cellsV, lmL])) (by kernel_rfl) (by omega)) (by kernel_rfl) ?_
          refine SX.VC_df (Value.agg (((addR ls x).1.drop (i + 1)).flatMap cellsLm).toArray) (fun α => SX.app_rel (f := cellsLm) (l1 := (addR ls x).1.take i) (l2 := (addR ls x).1.drop (i + 1)) (fun _ => rfl) cellsLm_one (by decide) (SX.cat1 (by kernel_rfl)) (src_row1 (by kernel_rfl)) (by simp only [List.length_nil, List.length_take, List.length_drop]; omega) (by simp only [List.length_nil, List.length_take, List.length_drop]; omega)) (by kernel_rfl) ?_
          refine SX.VC_df (.bool true) (fun α => ⟨[⟨(α 20).h, 9, lmL ((addR ls x).1.take i ++ (addR ls x).1.drop (i + 1))⟩, ⟨.slice A n c, 9, lmL ls⟩], ⟨Eq.trans (b := (⟨(α 20).h, 9, [Value.agg (((addR ls x).1.take i).flatMap cellsLm).toArray, Value.agg (((addR ls x).1.drop (i + 1)).flatMap cellsLm).toArray].flatMap SX.cellsV⟩ : SX.Arg)) (by simp [SX.cellsV, lmL]) (by kernel_rfl), by kernel_rfl, rfl, ⟨by kernel_rfl, rfl, rfl⟩, trivial⟩, .inr (.inl ⟨rfl, _, _, _, _, rfl, by rw [hat2]; omega, by omega, by rw [hat2]; simp⟩), SX.noAli rfl⟩) (by kernel_rfl) ?_
          refine SX.VC_df (.bool (!(true))) (by intro α; show _ = _; kernel_rfl) (by kernel_rfl) ?_
          refine SX.VC_br (!(true)) (by kernel_rfl) (fun h47 => absurd h47 (by simp)) (fun h47 => ?_)
          try simp only [NRM] at h47
          refine SX.VC_df (.tuple #[Value.agg (lmL (addR ls y).1).toArray, .int .i64 ((addR ls y).2)]) (fun α => ⟨[⟨.slice A n c, 9, lmL ls⟩, ⟨valLm y, 0, []⟩], ⟨by kernel_rfl, rfl, ⟨by kernel_rfl, rfl, rfl⟩, by kernel_rfl, by kernel_rfl, trivial⟩, .inr (.inr (.inl ⟨rfl, _, ls, y, rfl, by omega, hfit, hy, rfl⟩)), SX.noAli rfl⟩) (lms_fit _ _) ?_
          refine SX.VC_df (.tuple #[Value.agg (lmL (addR (addR ls x).1 y).1).toArray, .int .i64 ((addR (addR ls x).1 y).2)]) (fun α => ⟨[⟨(α 2).h, 9, lmL ((addR ls x).1)⟩, ⟨valLm y, 0, []⟩], ⟨Eq.trans (b := (⟨(α 2).h, 9, [Value.agg (lmL ((addR ls x).1)).toArray].flatMap SX.cellsV⟩ : SX.Arg)) (by simp [SX.cellsV]) (by kernel_rfl), by kernel_rfl, by kernel_rfl, trivial⟩, .inr (.inr (.inl ⟨rfl, _, (addR ls x).1, y, rfl, Nat.le_trans (addR_le _ _) (by omega), addR_fit hfit hx, hy, rfl⟩)), SX.noAli rfl⟩) (lms_fit _ _) ?_
          refine SX.VC_df (.bool (((addR ls y).2 : Int) != 0)) (by intro α; show _ = _; kernel_rfl) (by kernel_rfl) ?_
          refine SX.VC_br (((addR ls y).2 : Int) != 0) (by kernel_rfl) (fun h50 => ?_) (fun h50 => ?_)
          · try simp only [NRM] at h50
            refine SX.VC_df (.bool (((addR ls y).2 : Int) == 0)) (by intro α; show _ = _; kernel_rfl) (by kernel_rfl) ?_
            refine SX.VC_br (((addR ls y).2 : Int) == 0) (by kernel_rfl) (fun h51 => ?_) (fun h51 => ?_)
            · try simp only [NRM] at h51
              refine SX.VC_df (.bool (((addR (addR ls x).1 y).2 : Int) == 0)) (by intro α; show _ = _; kernel_rfl) (by kernel_rfl) ?_
              refine SX.VC_br (((addR (addR ls x).1 y).2 : Int) == 0) (by kernel_rfl) (fun h52 => ?_) (fun h52 => ?_)
              · try simp only [NRM] at h52
                exact SX.VC_ret fun α W _ _ hS => SX.ret_of hS (x := .bool true) (by kernel_rfl) (by simp)
              · try simp only [NRM] at h52
                refine SX.VC_df (.int .i64 ((((addR (addR ls x).1 y).1.length : Nat) : Int))) (fun α => rlen_of (f := cellsLm) (l := (addR (addR ls x).1 y).1) (fun _ => rfl) (by decide) (Eq.trans (b := [Value.agg (lmL ((addR (addR ls x).1 y).1)).toArray].flatMap SX.cellsV) (by kernel_rfl) (by simp [SX.cellsV, lmL]))) (by kernel_rfl) ?_
                refine SX.VC_df (.bool (((((addR (addR ls x).1 y).1.length : Nat) : Int) : Int) == 0)) (by intro α; show _ = _; kernel_rfl) (by kernel_rfl) ?_
                exact SX.VC_ret fun α W _ _ hS => SX.ret_of hS (x := .bool (((((addR (addR ls x).1 y).1.length : Nat) : Int) : Int) == 0)) (by kernel_rfl) (by rw [addR_no (ls := (addR ls x).1) (x := y) (by simpa using h52)]; simp)
            · try simp only [NRM] at h51
              refine SX.VC_df (.int .i64 ((((addR ls y).1.length : Nat) : Int))) (fun α => rlen_of (f := cellsLm) (l := (addR ls y).1) (fun _ => rfl) (by decide) (Eq.trans (b := [Value.agg (lmL ((addR ls y).1)).toArray].flatMap SX.cellsV) (by kernel_rfl) (by simp [SX.cellsV, lmL]))) (by kernel_rfl) ?_
              refine SX.VC_df (.bool (((((addR ls y).1.length : Nat) : Int) : Int) == 0)) (by intro α; show _ = _; kernel_rfl) (by kernel_rfl) ?_
              refine SX.VC_br (((((addR ls y).1.length : Nat) : Int) : Int) == 0) (by kernel_rfl) (fun h53 => ?_) (fun h53 => absurd h53 (by rw [addR_no (ls := ls) (x := y) (by simpa using h51)]; simp))
              try simp only [NRM] at h53
              refine SX.VC_df (.bool (((addR (addR ls x).1 y).2 : Int) == 0)) (by intro α; show _ = _; kernel_rfl) (by kernel_rfl) ?_
              refine SX.VC_br (((addR (addR ls x).1 y).2 : Int) == 0) (by kernel_rfl) (fun h54 => ?_) (fun h54 => ?_)
              · try simp only [NRM] at h54
                exact SX.VC_ret fun α W _ _ hS => SX.ret_of hS (x := .bool true) (by kernel_rfl) (by simp)
              · try simp only [NRM] at h54
                refine SX.VC_df (.int .i64 ((((addR (addR ls x).1 y).1.length : Nat) : Int))) (fun α => rlen_of (f := cellsLm) (l := (addR (addR ls x).1 y).1) (fun _ => rfl) (by decide) (Eq.trans (b := [Value.agg (lmL ((addR (addR ls x).1 y).1)).toArray].flatMap SX.cellsV) (by kernel_rfl) (by simp [SX.cellsV, lmL]))) (by kernel_rfl) ?_
                refine SX.VC_df (.bool (((((addR (addR ls x).1 y).1.length : Nat) : Int) : Int) == 0)) (by intro α; show _ = _; kernel_rfl) (by kernel_rfl) ?_
                exact SX.VC_ret fun α W _ _ hS => SX.ret_of hS (x := .bool (((((addR (addR ls x).1 y).1.length : Nat) : Int) : Int) == 0)) (by kernel_rfl) (by rw [addR_no (ls := (addR ls x).1) (x := y) (by simpa using h54)]; simp)
          · try simp only [NRM] at h50
            refine SX.VC_df (.bool (((addR (addR ls x).1 y).2 : Int) != 0)) (by intro α; show _ = _; kernel_rfl) (by kernel_rfl) ?_
            refine SX.VC_br (((addR (addR ls x).1 y).2 : Int) != 0) (by kernel_rfl) (fun h51 => ?_) (fun h51 => ?_)
            · try simp only [NRM] at h51
              refine SX.VC_df (.bool (((addR ls y).2 : Int) == 0)) (by intro α; show _ = _; kernel_rfl) (by kernel_rfl) ?_
              refine SX.VC_br (((addR ls y).2 : Int) == 0) (by kernel_rfl) (fun h52 => ?_) (fun h52 => ?_)
              · try simp only [NRM] at h52
                refine SX.VC_df (.bool (((addR (addR ls x).1 y).2 : Int) == 0)) (by intro α; show _ = _; kernel_rfl) (by kernel_rfl) ?_
                refine SX.VC_br (((addR (addR ls x).1 y).2 : Int) == 0) (by kernel_rfl) (fun h53 => ?_) (fun h53 => ?_)
                · try simp only [NRM] at h53
                  exact SX.VC_ret fun α W _ _ hS => SX.ret_of hS (x := .bool true) (by kernel_rfl) (by simp)
                · try simp only [NRM] at h53
                  refine SX.VC_df (.int .i64 ((((addR (addR ls x).1 y).1.length : Nat) : Int))) (fun α => rlen_of (f := cellsLm) (l := (addR (addR ls x).1 y).1) (fun _ => rfl) (by decide) (Eq.trans (b := [Value.agg (lmL ((addR (addR ls x).1 y).1)).toArray].flatMap SX.cellsV) (by kernel_rfl) (by simp [SX.cellsV, lmL]))) (by kernel_rfl) ?_
                  refine SX.VC_df (.bool (((((addR (addR ls x).1 y).1.length : Nat) : Int) : Int) == 0)) (by intro α; show _ = _; kernel_rfl) (by kernel_rfl) ?_
                  exact SX.VC_ret fun α W _ _ hS => SX.ret_of hS (x := .bool (((((addR (addR ls x).1 y).1.length : Nat) : Int) : Int) == 0)) (by kernel_rfl) (by rw [addR_no (ls := (addR ls x).1) (x := y) (by simpa using h53)]; simp)
              · try simp only [NRM] at h52
                refine SX.VC_df (.int .i64 ((((addR ls y).1.length : Nat) : Int))) (fun α => rlen_of (f := cellsLm) (l := (addR ls y).1) (fun _ => rfl) (by decide) (Eq.trans (b := [Value.agg (lmL ((addR ls y).1)).toArray].flatMap SX.cellsV) (by kernel_rfl) (by simp [SX.cellsV, lmL]))) (by kernel_rfl) ?_
                refine SX.VC_df (.bool (((((addR ls y).1.length : Nat) : Int) : Int) == 0)) (by intro α; show _ = _; kernel_rfl) (by kernel_rfl) ?_
                refine SX.VC_br (((((addR ls y).1.length : Nat) : Int) : Int) == 0) (by kernel_rfl) (fun h54 => ?_) (fun h54 => absurd h54 (by rw [addR_no (ls := ls) (x := y) (by simpa using h52)]; simp))
                try simp only [NRM] at h54
                refine SX.VC_df (.bool (((addR (addR ls x).1 y).2 : Int) == 0)) (by intro α; show _ = _; kernel_rfl) (by kernel_rfl) ?_
                refine SX.VC_br (((addR (addR ls x).1 y).2 : Int) == 0) (by kernel_rfl) (fun h55 => ?_) (fun h55 => ?_)
                · try simp only [NRM] at h55
                  exact SX.VC_ret fun α W _ _ hS => SX.ret_of hS (x := .bool true) (by kernel_rfl) (by simp)
                · try simp only [NRM] at h55
                  refine SX.VC_df (.int .i64 ((((addR (addR ls x).1 y).1.length : Nat) : Int))) (fun α => rlen_of (f := cellsLm) (l := (addR (addR ls x).1 y).1) (fun _ => rfl) (by decide) (Eq.trans (b := [Value.agg (lmL ((addR (addR ls x).1 y).1)).toArray].flatMap SX.cellsV) (by kernel_rfl) (by simp [SX.cellsV, lmL]))) (by kernel_rfl) ?_
                  refine SX.VC_df (.bool (((((addR (addR ls x).1 y).1.length : Nat) : Int) : Int) == 0)) (by intro α; show _ = _; kernel_rfl) (by kernel_rfl) ?_
                  exact SX.VC_ret fun α W _ _ hS => SX.ret_of hS (x := .bool (((((addR (addR ls x).1 y).1.length : Nat) : Int) : Int) == 0)) (by kernel_rfl) (by rw [addR_no (ls := (addR ls x).1) (x := y) (by simpa using h55)]; simp)
            · try simp only [NRM] at h51
              have hsw : (addR (addR ls y).1 x) = (addR (addR ls x).1 y) := addR_swap (show (addR ls x).2 = 0 by simpa using h24) (show (addR ls y).2 = 0 by simpa using h50) (show (addR (addR ls x).1 y).2 = 0 by simpa using h51)
              refine SX.VC_df (.tuple #[Value.agg (lmL (addR (addR ls y).1 x).1).toArray, .int .i64 ((addR (addR ls y).1 x).2)]) (fun α => ⟨[⟨(α 21).h, 9, lmL ((addR ls y).1)⟩, ⟨valLm x, 0, []⟩], ⟨Eq.trans (b := (⟨(α 21).h, 9, [Value.agg (lmL ((addR ls y).1)).toArray].flatMap SX.cellsV⟩ : SX.Arg)) (by simp [SX.cellsV]) (by kernel_rfl), by kernel_rfl, by kernel_rfl, trivial⟩, .inr (.inr (.inl ⟨rfl, _, (addR ls y).1, x, rfl, Nat.le_trans (addR_le _ _) (by omega), addR_fit hfit hy, hx, rfl⟩)), SX.noAli rfl⟩) (lms_fit _ _) ?_
              refine SX.VC_df (.bool (((addR (addR ls y).1 x).2 : Int) == 0)) (by intro α; show _ = _; kernel_rfl) (by kernel_rfl) ?_
              refine SX.VC_br (((addR (addR ls y).1 x).2 : Int) == 0) (by kernel_rfl) (fun h53 => ?_) (fun h53 => absurd h53 (by rw [hsw]; simp; simpa using h51))
              try simp only [NRM] at h53
              refine SX.VC_df (.bool true) (fun α => ⟨[⟨(α 22).h, 9, lmL ((addR (addR ls x).1 y).1)⟩, ⟨(α 23).h, 9, lmL ((addR (addR ls y).1 x).1)⟩], ⟨Eq.trans (b := (⟨(α 22).h, 9, [Value.agg (lmL ((addR (addR ls x).1 y).1)).toArray].flatMap SX.cellsV⟩ : SX.Arg)) (by simp [SX.cellsV]) (by kernel_rfl), Eq.trans (b := (⟨(α 23).h, 9, [Value.agg (lmL ((addR (addR ls y).1 x).1)).toArray].flatMap SX.cellsV⟩ : SX.Arg)) (by simp [SX.cellsV]) (by kernel_rfl), trivial⟩, .inr (.inl ⟨rfl, _, _, _, _, rfl, Nat.le_trans (addR_le _ _) (by omega), Nat.le_trans (addR_le _ _) (by omega), by rw [hsw]; simp⟩), SX.noAli rfl⟩) (by kernel_rfl) ?_
              exact SX.VC_ret fun α W _ _ hS => SX.ret_of hS (x := .bool true) (by kernel_rfl) (by simp)
      · try simp only [NRM] at h33
        have hpos := half_pos (half_end hlo (by omega)) (Int.le_refl _)
        obtain ⟨hat1, hat2⟩ := addR_at (show (addR ls x).2 = 0 by simpa using h24) hpos (by omega)
        refine SX.VC_df (.bool true) (fun α => SX.row_bnd (f := cellsLm) (l := (addR ls x).1) (k := i) (fun _ => rfl) (by decide) (Eq.trans (b := [Value.agg (lmL ((addR ls x).1)).toArray].flatMap SX.cellsV) (by kernel_rfl) (by simp [SX.cellsV, lmL])) (by kernel_rfl) (by omega)) (by kernel_rfl) ?_
        refine SX.VC_df (.agg (cellsLm x).toArray) (fun α => SX.row_elems (f := cellsLm) (l := (addR ls x).1) (k := i) (z := x) (fun _ => rfl) (by decide) (Eq.trans (b := [Value.agg (lmL ((addR ls x).1)).toArray].flatMap SX.cellsV) (by kernel_rfl) (by simp [SX.cellsV, lmL])) (by kernel_rfl) hat1) (by kernel_rfl) ?_
        refine SX.VC_df (.bool (true ^^ decide (x = x))) (fun α => SX.eqr_rel (f := cellsLm) cellsLm_inj (y := x) (z := x) (by kernel_rfl) (by kernel_rfl) (by kernel_rfl)) (by kernel_rfl) ?_
        refine SX.VC_br (true ^^ decide (x = x)) (by kernel_rfl) (fun h36 => absurd h36 (by simp)) (fun h36 => ?_)
        try simp only [NRM] at h36
        refine SX.VC_df (Value.agg (((addR ls x).1.take i).flatMap cellsLm).toArray) (fun α => slcx_hi (L := (addR ls x).1) (Eq.trans (b := [Value.agg (lmL ((addR ls x).1)).toArray].flatMap SX.cellsV) (by kernel_rfl) (by simp [SX.cellsV, lmL])) (by kernel_rfl) (by omega)) (by kernel_rfl) ?_
        refine SX.VC_df (Value.agg (((addR ls x).1.take i).flatMap cellsLm).toArray) (fun α => SX.app_rel (f := cellsLm) (l1 := []) (l2 := (addR ls x).1.take i) (fun _ => rfl) cellsLm_one (by decide) (by kernel_rfl) (src_row1 (by kernel_rfl)) (by simp only [List.length_nil, List.length_take, List.length_drop]; omega) (by simp only [List.length_nil, List.length_take, List.length_drop]; omega)) (by kernel_rfl) ?_
        refine SX.VC_df (.int .i64 (((i + 1 : Nat) : Int))) (fun α => Eq.trans (b := some (.int .i64 (IntKind.i64.wrap ((i : Int) + 1)))) (by kernel_rfl) (by rw [show ((i + 1 : Nat) : Int) = (i : Int) + 1 by omega, wrap_i64 (by omega) (by omega)])) (by kernel_rfl) ?_
        refine SX.VC_df (Value.agg (((addR ls x).1.drop (i + 1)).flatMap cellsLm).toArray) (fun α => slcx_lo (L := (addR ls x).1) (i := i + 1) (Eq.trans (b := [Value.agg (lmL ((addR ls x).1)).toArray].flatMap SX.cellsV) (by kernel_rfl) (by simp [SX.cellsV, lmL])) (by kernel_rfl) (by omega)) (by kernel_rfl) ?_
        refine SX.VC_df (Value.agg (((addR ls x).1.drop (i + 1)).flatMap cellsLm).toArray) (fun α => SX.app_rel (f := cellsLm) (l1 := (addR ls x).1.take i) (l2 := (addR ls x).1.drop (i + 1)) (fun _ => rfl) cellsLm_one (by decide) (SX.cat1 (by kernel_rfl)) (src_row1 (by kernel_rfl)) (by simp only [List.length_nil, List.length_take, List.length_drop]; omega) (by simp only [List.length_nil, List.length_take, List.length_drop]; omega)) (by kernel_rfl) ?_
        refine SX.VC_df (.bool true) (fun α => ⟨[⟨(α 20).h, 9, lmL ((addR ls x).1.take i ++ (addR ls x).1.drop (i + 1))⟩, ⟨.slice A n c, 9, lmL ls⟩], ⟨Eq.trans (b := (⟨(α 20).h, 9, [Value.agg (((addR ls x).1.take i).flatMap cellsLm).toArray, Value.agg (((addR ls x).1.drop (i + 1)).flatMap cellsLm).toArray].flatMap SX.cellsV⟩ : SX.Arg)) (by simp [SX.cellsV, lmL]) (by kernel_rfl), by kernel_rfl, rfl, ⟨by kernel_rfl, rfl, rfl⟩, trivial⟩, .inr (.inl ⟨rfl, _, _, _, _, rfl, by rw [hat2]; omega, by omega, by rw [hat2]; simp⟩), SX.noAli rfl⟩) (by kernel_rfl) ?_
        refine SX.VC_df (.bool (!(true))) (by intro α; show _ = _; kernel_rfl) (by kernel_rfl) ?_
        refine SX.VC_br (!(true)) (by kernel_rfl) (fun h43 => absurd h43 (by simp)) (fun h43 => ?_)
        try simp only [NRM] at h43
        refine SX.VC_df (.tuple #[Value.agg (lmL (addR ls y).1).toArray, .int .i64 ((addR ls y).2)]) (fun α => ⟨[⟨.slice A n c, 9, lmL ls⟩, ⟨valLm y, 0, []⟩], ⟨by kernel_rfl, rfl, ⟨by kernel_rfl, rfl, rfl⟩, by kernel_rfl, by kernel_rfl, trivial⟩, .inr (.inr (.inl ⟨rfl, _, ls, y, rfl, by omega, hfit, hy, rfl⟩)), SX.noAli rfl⟩) (lms_fit _ _) ?_
        refine SX.VC_df (.tuple #[Value.agg (lmL (addR (addR ls x).1 y).1).toArray, .int .i64 ((addR (addR ls x).1 y).2)]) (fun α => ⟨[⟨(α 2).h, 9, lmL ((addR ls x).1)⟩, ⟨valLm y, 0, []⟩], ⟨Eq.trans (b := (⟨(α 2).h, 9, [Value.agg (lmL ((addR ls x).1)).toArray].flatMap SX.cellsV⟩ : SX.Arg)) (by simp [SX.cellsV]) (by kernel_rfl), by kernel_rfl, by kernel_rfl, trivial⟩, .inr (.inr (.inl ⟨rfl, _, (addR ls x).1, y, rfl, Nat.le_trans (addR_le _ _) (by omega), addR_fit hfit hx, hy, rfl⟩)), SX.noAli rfl⟩) (lms_fit _ _) ?_
        refine SX.VC_df (.bool (((addR ls y).2 : Int) != 0)) (by intro α; show _ = _; kernel_rfl) (by kernel_rfl) ?_
        refine SX.VC_br (((addR ls y).2 : Int) != 0) (by kernel_rfl) (fun h46 => ?_) (fun h46 => ?_)
        · try simp only [NRM] at h46
          refine SX.VC_df (.bool (((addR ls y).2 : Int) == 0)) (by intro α; show _ = _; kernel_rfl) (by kernel_rfl) ?_
          refine SX.VC_br (((addR ls y).2 : Int) == 0) (by kernel_rfl) (fun h47 => ?_) (fun h47 => ?_)
          · try simp only [NRM] at h47
            refine SX.VC_df (.bool (((addR (addR ls x).1 y).2 : Int) == 0)) (by intro α; show _ = _; kernel_rfl) (by kernel_rfl) ?_
            refine SX.VC_br (((addR (addR ls x).1 y).2 : Int) == 0) (by kernel_rfl) (fun h48 => ?_) (fun h48 => ?_)
            · try simp only [NRM] at h48
              exact SX.VC_ret fun α W _ _ hS => SX.ret_of hS (x := .bool true) (by kernel_rfl) (by simp)
            · try simp only [NRM] at h48
              refine SX.VC_df (.int .i64 ((((addR (addR ls x).1 y).1.length : Nat) : Int))) (fun α => rlen_of (f := cellsLm) (l := (addR (addR ls x).1 y).1) (fun _ => rfl) (by decide) (Eq.trans (b := [Value.agg (lmL ((addR (addR ls x).1 y).1)).toArray].flatMap SX.cellsV) (by kernel_rfl) (by simp [SX.cellsV, lmL]))) (by kernel_rfl) ?_
              refine SX.VC_df (.bool (((((addR (addR ls x).1 y).1.length : Nat) : Int) : Int) == 0)) (by intro α; show _ = _; kernel_rfl) (by kernel_rfl) ?_
              exact SX.VC_ret fun α W _ _ hS => SX.ret_of hS (x := .bool (((((addR (addR ls x).1 y).1.length : Nat) : Int) : Int) == 0)) (by kernel_rfl) (by rw [addR_no (ls := (addR ls x).1) (x := y) (by simpa using h48)]; simp)
          · try simp only [NRM] at h47
            refine SX.VC_df (.int .i64 ((((addR ls y).1.length : Nat) : Int))) (fun α => rlen_of (f := cellsLm) (l := (addR ls y).1) (fun _ => rfl) (by decide) (Eq.trans (b := [Value.agg (lmL ((addR ls y).1)).toArray].flatMap SX.cellsV) (by kernel_rfl) (by simp [SX.cellsV, lmL]))) (by kernel_rfl) ?_
            refine SX.VC_df (.bool (((((addR ls y).1.length : Nat) : Int) : Int) == 0)) (by intro α; show _ = _; kernel_rfl) (by kernel_rfl) ?_
            refine SX.VC_br (((((addR ls y).1.length : Nat) : Int) : Int) == 0) (by kernel_rfl) (fun h49 => ?_) (fun h49 => absurd h49 (by rw [addR_no (ls := ls) (x := y) (by simpa using h47)]; simp))
            try simp only [NRM] at h49
            refine SX.VC_df (.bool (((addR (addR ls x).1 y).2 : Int) == 0)) (by intro α; show _ = _; kernel_rfl) (by kernel_rfl) ?_
            refine SX.VC_br (((addR (addR ls x).1 y).2 : Int) == 0) (by kernel_rfl) (fun h50 => ?_) (fun h50 => ?_)
            · try simp only [NRM] at h50
              exact SX.VC_ret fun α W _ _ hS => SX.ret_of hS (x := .bool true) (by kernel_rfl) (by simp)
            · try simp only [NRM] at h50
              refine SX.VC_df (.int .i64 ((((addR (addR ls x).1 y).1.length : Nat) : Int))) (fun α => rlen_of (f := cellsLm) (l := (addR (addR ls x).1 y).1) (fun _ => rfl) (by decide) (Eq.trans (b := [Value.agg (lmL ((addR (addR ls x).1 y).1)).toArray].flatMap SX.cellsV) (by kernel_rfl) (by simp [SX.cellsV, lmL]))) (by kernel_rfl) ?_
              refine SX.VC_df (.bool (((((addR (addR ls x).1 y).1.length : Nat) : Int) : Int) == 0)) (by intro α; show _ = _; kernel_rfl) (by kernel_rfl) ?_
              exact SX.VC_ret fun α W _ _ hS => SX.ret_of hS (x := .bool (((((addR (addR ls x).1 y).1.length : Nat) : Int) : Int) == 0)) (by kernel_rfl) (by rw [addR_no (ls := (addR ls x).1) (x := y) (by simpa using h50)]; simp)
        · try simp only [NRM] at h46
          refine SX.VC_df (.bool (((addR (addR ls x).1 y).2 : Int) != 0)) (by intro α; show _ = _; kernel_rfl) (by kernel_rfl) ?_
          refine SX.VC_br (((addR (addR ls x).1 y).2 : Int) != 0) (by kernel_rfl) (fun h47 => ?_) (fun h47 => ?_)
          · try simp only [NRM] at h47
            refine SX.VC_df (.bool (((addR ls y).2 : Int) == 0)) (by intro α; show _ = _; kernel_rfl) (by kernel_rfl) ?_
            refine SX.VC_br (((addR ls y).2 : Int) == 0) (by kernel_rfl) (fun h48 => ?_) (fun h48 => ?_)
            · try simp only [NRM] at h48
              refine SX.VC_df (.bool (((addR (addR ls x).1 y).2 : Int) == 0)) (by intro α; show _ = _; kernel_rfl) (by kernel_rfl) ?_
              refine SX.VC_br (((addR (addR ls x).1 y).2 : Int) == 0) (by kernel_rfl) (fun h49 => ?_) (fun h49 => ?_)
              · try simp only [NRM] at h49
                exact SX.VC_ret fun α W _ _ hS => SX.ret_of hS (x := .bool true) (by kernel_rfl) (by simp)
              · try simp only [NRM] at h49
                refine SX.VC_df (.int .i64 ((((addR (addR ls x).1 y).1.length : Nat) : Int))) (fun α => rlen_of (f := cellsLm) (l := (addR (addR ls x).1 y).1) (fun _ => rfl) (by decide) (Eq.trans (b := [Value.agg (lmL ((addR (addR ls x).1 y).1)).toArray].flatMap SX.cellsV) (by kernel_rfl) (by simp [SX.cellsV, lmL]))) (by kernel_rfl) ?_
                refine SX.VC_df (.bool (((((addR (addR ls x).1 y).1.length : Nat) : Int) : Int) == 0)) (by intro α; show _ = _; kernel_rfl) (by kernel_rfl) ?_
                exact SX.VC_ret fun α W _ _ hS => SX.ret_of hS (x := .bool (((((addR (addR ls x).1 y).1.length : Nat) : Int) : Int) == 0)) (by kernel_rfl) (by rw [addR_no (ls := (addR ls x).1) (x := y) (by simpa using h49)]; simp)
            · try simp only [NRM] at h48
              refine SX.VC_df (.int .i64 ((((addR ls y).1.length : Nat) : Int))) (fun α => rlen_of (f := cellsLm) (l := (addR ls y).1) (fun _ => rfl) (by decide) (Eq.trans (b := [Value.agg (lmL ((addR ls y).1)).toArray].flatMap SX.cellsV) (by kernel_rfl) (by simp [SX.cellsV, lmL]))) (by kernel_rfl) ?_
              refine SX.VC_df (.bool (((((addR ls y).1.length : Nat) : Int) : Int) == 0)) (by intro α; show _ = _; kernel_rfl) (by kernel_rfl) ?_
              refine SX.VC_br (((((addR ls y).1.length : Nat) : Int) : Int) == 0) (by kernel_rfl) (fun h50 => ?_) (fun h50 => absurd h50 (by rw [addR_no (ls := ls) (x := y) (by simpa using h48)]; simp))
              try simp only [NRM] at h50
              refine SX.VC_df (.bool (((addR (addR ls x).1 y).2 : Int) == 0)) (by intro α; show _ = _; kernel_rfl) (by kernel_rfl) ?_
              refine SX.VC_br (((addR (addR ls x).1 y).2 : Int) == 0) (by kernel_rfl) (fun h51 => ?_) (fun h51 => ?_)
              · try simp only [NRM] at h51
                exact SX.VC_ret fun α W _ _ hS => SX.ret_of hS (x := .bool true) (by kernel_rfl) (by simp)
              · try simp only [NRM] at h51
                refine SX.VC_df (.int .i64 ((((addR (addR ls x).1 y).1.length : Nat) : Int))) (fun α => rlen_of (f := cellsLm) (l := (addR (addR ls x).1 y).1) (fun _ => rfl) (by decide) (Eq.trans (b := [Value.agg (lmL ((addR (addR ls x).1 y).1)).toArray].flatMap SX.cellsV) (by kernel_rfl) (by simp [SX.cellsV, lmL]))) (by kernel_rfl) ?_
                refine SX.VC_df (.bool (((((addR (addR ls x).1 y).1.length : Nat) : Int) : Int) == 0)) (by intro α; show _ = _; kernel_rfl) (by kernel_rfl) ?_
                exact SX.VC_ret fun α W _ _ hS => SX.ret_of hS (x := .bool (((((addR (addR ls x).1 y).1.length : Nat) : Int) : Int) == 0)) (by kernel_rfl) (by rw [addR_no (ls := (addR ls x).1) (x := y) (by simpa using h51)]; simp)
          · try simp only [NRM] at h47
            have hsw : (addR (addR ls y).1 x) = (addR (addR ls x).1 y) := addR_swap (show (addR ls x).2 = 0 by simpa using h24) (show (addR ls y).2 = 0 by simpa using h46) (show (addR (addR ls x).1 y).2 = 0 by simpa using h47)
            refine SX.VC_df (.tuple #[Value.agg (lmL (addR (addR ls y).1 x).1).toArray, .int .i64 ((addR (addR ls y).1 x).2)]) (fun α => ⟨[⟨(α 21).h, 9, lmL ((addR ls y).1)⟩, ⟨valLm x, 0, []⟩], ⟨Eq.trans (b := (⟨(α 21).h, 9, [Value.agg (lmL ((addR ls y).1)).toArray].flatMap SX.cellsV⟩ : SX.Arg)) (by simp [SX.cellsV]) (by kernel_rfl), by kernel_rfl, by kernel_rfl, trivial⟩, .inr (.inr (.inl ⟨rfl, _, (addR ls y).1, x, rfl, Nat.le_trans (addR_le _ _) (by omega), addR_fit hfit hy, hx, rfl⟩)), SX.noAli rfl⟩) (lms_fit _ _) ?_
            refine SX.VC_df (.bool (((addR (addR ls y).1 x).2 : Int) == 0)) (by intro α; show _ = _; kernel_rfl) (by kernel_rfl) ?_
            refine SX.VC_br (((addR (addR ls y).1 x).2 : Int) == 0) (by kernel_rfl) (fun h49 => ?_) (fun h49 => absurd h49 (by rw [hsw]; simp; simpa using h47))
            try simp only [NRM] at h49
            refine SX.VC_df (.bool true) (fun α => ⟨[⟨(α 22).h, 9, lmL ((addR (addR ls x).1 y).1)⟩, ⟨(α 23).h, 9, lmL ((addR (addR ls y).1 x).1)⟩], ⟨Eq.trans (b := (⟨(α 22).h, 9, [Value.agg (lmL ((addR (addR ls x).1 y).1)).toArray].flatMap SX.cellsV⟩ : SX.Arg)) (by simp [SX.cellsV]) (by kernel_rfl), Eq.trans (b := (⟨(α 23).h, 9, [Value.agg (lmL ((addR (addR ls y).1 x).1)).toArray].flatMap SX.cellsV⟩ : SX.Arg)) (by simp [SX.cellsV]) (by kernel_rfl), trivial⟩, .inr (.inl ⟨rfl, _, _, _, _, rfl, Nat.le_trans (addR_le _ _) (by omega), Nat.le_trans (addR_le _ _) (by omega), by rw [hsw]; simp⟩), SX.noAli rfl⟩) (by kernel_rfl) ?_
            exact SX.VC_ret fun α W _ _ hS => SX.ret_of hS (x := .bool true) (by kernel_rfl) (by simp)
end Go.Proofs.Ytmkigejhgpoleaa
