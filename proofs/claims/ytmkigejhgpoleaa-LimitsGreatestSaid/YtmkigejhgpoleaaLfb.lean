/-
  The body in force is the greatest one that keeps what stands: the walk.
-/
import Derived.Test.YtmkigejhgpoleaaLfa
namespace Go.Proofs.Ytmkigejhgpoleaa
set_option linter.unusedSimpArgs false
set_option linter.unusedVariables false
open Go Go.RowKit
def tree_great : SX.Tree :=
(.df (.call 10 []) [] .one 
(.df .not [(.x 38 [])] .one 
(.br 39 [] 
(.ret (.k (.bool false)) [] []) 
(.df (.len false) [(.x 34 [])] .one 
(.df (.bin .gtr 3) [(.x 40 []), (.k (.int .i64 120))] .one 
(.br 41 [] 
(.ret (.k (.bool true)) [] []) 
(.df (.call 19 [.no, (.ext 9), .no, .no, .no]) [(.a [(.x 0 []), (.x 1 []), (.x 2 []), (.x 3 []), (.x 4 []), (.x 5 []), (.x 6 []), (.x 7 []), (.x 8 []), (.x 9 []), (.x 10 []), (.x 11 []), (.x 12 []), (.x 13 []), (.x 14 []), (.x 15 []), (.x 16 [])]), (.x 34 []), (.x 35 []), (.x 36 []), (.x 37 [])] (.tp [(.ag 17), .one]) 
(.df (.call 17 [(.ext 9), .no, .no, .no]) [(.x 34 []), (.x 35 []), (.x 36 []), (.x 37 [])] (.tp [(.sl 9), .one]) 
(.df (.bin .neq 29) [(.x 42 [1]), (.k (.int .i64 0))] .one 
(.br 44 [] 
(.df (.call 21 [.no]) [(.a [(.x 0 []), (.x 1 []), (.x 2 []), (.x 3 []), (.x 4 []), (.x 5 []), (.x 6 []), (.x 7 []), (.x 8 []), (.x 9 []), (.x 10 []), (.x 11 []), (.x 12 []), (.x 13 []), (.x 14 []), (.x 15 []), (.x 16 [])])] .one 
(.df (.bin .eql 29) [(.x 42 [1]), (.x 45 [])] .one 
(.br 46 [] 
(.ret (.k (.bool true)) [] []) 
(.df (.bin .eql 29) [(.x 42 [1]), (.x 43 [1])] .one 
(.br 47 [] 
(.ret (.k (.bool true)) [] []) 
(.df (.bin .eql 29) [(.x 42 [1]), (.k (.int .i64 2))] .one 
(.br 48 [] 
(.df (.rlen 9) [(.cat [(.x 43 [0])])] .one 
(.df (.bin .gtr 3) [(.x 49 []), (.k (.int .i64 64))] .one 
(.ret (.x 50 []) [] []))) 
(.ret (.k (.bool false)) [] [])))))))) 
(.df (.call 22 [.no, .no]) [(.a [(.x 42 [0, 0]), (.x 42 [0, 1]), (.x 42 [0, 2]), (.x 42 [0, 3]), (.x 42 [0, 4]), (.x 42 [0, 5]), (.x 42 [0, 6]), (.x 42 [0, 7]), (.x 42 [0, 8]), (.x 42 [0, 9]), (.x 42 [0, 10]), (.x 42 [0, 11]), (.x 42 [0, 12]), (.x 42 [0, 13]), (.x 42 [0, 14]), (.x 42 [0, 15]), (.x 42 [0, 16])]), (.a [(.x 0 []), (.x 1 []), (.x 2 []), (.x 3 []), (.x 4 []), (.x 5 []), (.x 6 []), (.x 7 []), (.x 8 []), (.x 9 []), (.x 10 []), (.x 11 []), (.x 12 []), (.x 13 []), (.x 14 []), (.x 15 []), (.x 16 [])])] (.tp [.one, .one]) 
(.df (.bin .neq 29) [(.x 43 [1]), (.k (.int .i64 0))] .one 
(.br 46 [] 
(.ret (.k (.bool false)) [] []) 
(.df (.bin .neq 29) [(.x 45 [1]), (.k (.int .i64 0))] .one 
(.br 47 [] 
(.ret (.k (.bool false)) [] []) 
(.df .not [(.x 45 [0])] .one 
(.br 48 [] 
(.ret (.k (.bool false)) [] []) 
(.df (.rlen 9) [(.cat [(.x 43 [0])])] .one 
(.loop [(.k (.int .i64 0))] [.one] 
(.df (.bin .lss 3) [(.x 50 []), (.x 49 [])] .one 
(.br 51 [] 
(.df (.rbnd 9) [(.cat [(.x 43 [0])]), (.x 50 [])] .one 
(.df (.relems 9 0 9) [(.cat [(.x 43 [0])]), (.x 50 [])] (.ag 9) 
(.df (.call 23 [.no, .no]) [(.a [(.x 42 [0, 0]), (.x 42 [0, 1]), (.x 42 [0, 2]), (.x 42 [0, 3]), (.x 42 [0, 4]), (.x 42 [0, 5]), (.x 42 [0, 6]), (.x 42 [0, 7]), (.x 42 [0, 8]), (.x 42 [0, 9]), (.x 42 [0, 10]), (.x 42 [0, 11]), (.x 42 [0, 12]), (.x 42 [0, 13]), (.x 42 [0, 14]), (.x 42 [0, 15]), (.x 42 [0, 16])]), (.a [(.x 53 [6]), (.x 53 [7]), (.x 53 [8])])] .one 
(.df .not [(.x 54 [])] .one 
(.br 55 [] 
(.ret (.k (.bool false)) [] []) 
(.df (.bin .add 3) [(.x 50 []), (.k (.int .i64 1))] .one 
(.again 0 [(.x 56 [])]))))))) 
(.df (.call 22 [.no, .no]) [(.a [(.x 17 []), (.x 18 []), (.x 19 []), (.x 20 []), (.x 21 []), (.x 22 []), (.x 23 []), (.x 24 []), (.x 25 []), (.x 26 []), (.x 27 []), (.x 28 []), (.x 29 []), (.x 30 []), (.x 31 []), (.x 32 []), (.x 33 [])]), (.a [(.x 0 []), (.x 1 []), (.x 2 []), (.x 3 []), (.x 4 []), (.x 5 []), (.x 6 []), (.x 7 []), (.x 8 []), (.x 9 []), (.x 10 []), (.x 11 []), (.x 12 []), (.x 13 []), (.x 14 []), (.x 15 []), (.x 16 [])])] (.tp [.one, .one]) 
(.df (.bin .neq 29) [(.x 52 [1]), (.k (.int .i64 0))] .one 
(.br 53 [] 
(.ret (.k (.bool true)) [] []) 
(.df .not [(.x 52 [0])] .one 
(.br 54 [] 
(.ret (.k (.bool true)) [] []) 
(.df (.rlen 9) [(.cat [(.x 43 [0])])] .one 
(.loop [(.k (.int .i64 0))] [.one] 
(.df (.bin .lss 3) [(.x 56 []), (.x 55 [])] .one 
(.br 57 [] 
(.df (.rbnd 9) [(.cat [(.x 43 [0])]), (.x 56 [])] .one 
(.df (.relems 9 0 9) [(.cat [(.x 43 [0])]), (.x 56 [])] (.ag 9) 
(.df (.call 23 [.no, .no]) [(.a [(.x 17 []), (.x 18 []), (.x 19 []), (.x 20 []), (.x 21 []), (.x 22 []), (.x 23 []), (.x 24 []), (.x 25 []), (.x 26 []), (.x 27 []), (.x 28 []), (.x 29 []), (.x 30 []), (.x 31 []), (.x 32 []), (.x 33 [])]), (.a [(.x 59 [6]), (.x 59 [7]), (.x 59 [8])])] .one 
(.df .not [(.x 60 [])] .one 
(.br 61 [] 
(.ret (.k (.bool true)) [] []) 
(.df (.bin .add 3) [(.x 56 []), (.k (.int .i64 1))] .one 
(.again 1 [(.x 62 [])]))))))) 
(.df (.call 22 [.no, .no]) [(.a [(.x 17 []), (.x 18 []), (.x 19 []), (.x 20 []), (.x 21 []), (.x 22 []), (.x 23 []), (.x 24 []), (.x 25 []), (.x 26 []), (.x 27 []), (.x 28 []), (.x 29 []), (.x 30 []), (.x 31 []), (.x 32 []), (.x 33 [])]), (.a [(.x 42 [0, 0]), (.x 42 [0, 1]), (.x 42 [0, 2]), (.x 42 [0, 3]), (.x 42 [0, 4]), (.x 42 [0, 5]), (.x 42 [0, 6]), (.x 42 [0, 7]), (.x 42 [0, 8]), (.x 42 [0, 9]), (.x 42 [0, 10]), (.x 42 [0, 11]), (.x 42 [0, 12]), (.x 42 [0, 13]), (.x 42 [0, 14]), (.x 42 [0, 15]), (.x 42 [0, 16])])] (.tp [.one, .one]) 
(.df (.bin .eql 29) [(.x 58 [1]), (.k (.int .i64 0))] .one 
(.br 59 [] 
(.ret (.x 58 [0]) [] []) 
(.ret (.k (.bool false)) [] []))))))))))))))))))))))))))))))))))
def args_great : List SX.V := [.a ((List.range 17).map fun j => .x (0 + j) []), .a ((List.range 17).map fun j => .x (17 + j) []), .x 34 [], .x 35 [], .x 36 [], .x 37 []]
set_option maxRecDepth 100000 in
theorem run_great (K A : Value → Nat → List Value → Prop) : (SX.run (cxG K A) ⟨fun f => true, [⟨8, 13, [(.s 87, .one)]⟩, ⟨8, 22, [(.s 111, .one)]⟩], 0, 100⟩ 100000 0 (SX.door 8 Try.f8 args_great (List.replicate 38 .one)) [.code (Try.f8.body.getD .skip), .top Try.f8]).strip = tree_great := by kernel_rfl
set_option maxRecDepth 100000 in
set_option maxHeartbeats 4000000 in
theorem great_any (b o : Bod.Bd) (ls : List Lim) (A : Option Addr) (n c : Nat) (p d t : Int) (w : World) (hs : b.name.size ≤ maxLen) (ho : o.name.size ≤ maxLen) (hr : Rd w 9 A n (lmL ls)) (hn : n ≤ 9223372036854775807) (hc : n ≤ c) (hfit : fitLm ls) : Calls Try.prog 8 #[valBd b, valBd o, .slice A n c, .int .i64 p, .int .i64 d, .int .i64 t] w fun e w' => e = .returned (.bool true) ∧ Below w.heap.size w w' := by
  refine SX.calls_of_run (C := cxG (fun s sz cells => s = .slice A n c ∧ sz = 9 ∧ cells = lmL ls) (fun _ _ _ => False)) (G := ⟨fun f => true, [⟨8, 13, [(.s 87, .one)]⟩, ⟨8, 22, [(.s 111, .one)]⟩], 0, 100⟩) (args := args_great) (sh := (List.replicate 38 .one)) (ρ := (cellsBd b ++ cellsBd o ++ [.slice A n c, .int .i64 p, .int .i64 d, .int .i64 t])) 100000 tree_great (okG _ _) Try.func8 rfl (run_great _ _) (by kernel_rfl) (by kernel_rfl) (by kernel_rfl) ?_ ?_
  · rintro W hW s sz cells ⟨rfl, rfl, rfl⟩; exact ⟨hr.same0 hW, hc⟩
  have hA := SX.rd_some hr
  have hln : ls.length = n := by have := hr.1; rw [lmL_len] at this; omega
  unfold tree_great
  refine SX.VC_df (.bool true) (fun α => ⟨[], trivial, .inr (.inr (.inr (.inr (.inr (.inl ⟨rfl, rfl, rfl⟩))))), SX.noAli rfl⟩) (by kernel_rfl) ?_
  refine SX.VC_df (.bool (!(true))) (by intro α; show _ = _; kernel_rfl) (by kernel_rfl) ?_
  refine SX.VC_br (!(true)) (by kernel_rfl) (fun h39 => absurd h39 (by simp)) (fun h39 => ?_)
  try simp only [NRM] at h39
  refine SX.VC_df (.int .i64 (((n : Nat) : Int))) (by intro α; show _ = _; kernel_rfl) (by kernel_rfl) ?_
  refine SX.VC_df (.bool (decide (((n : Nat) : Int) > 120))) (by intro α; show _ = _; kernel_rfl) (by kernel_rfl) ?_
  refine SX.VC_br (decide (((n : Nat) : Int) > 120)) (by kernel_rfl) (fun h41 => ?_) (fun h41 => ?_)
  · try simp only [NRM] at h41
    exact SX.VC_ret fun α W _ _ hS => SX.ret_of hS (x := .bool true) (by kernel_rfl) (by simp)
  · try simp only [NRM] at h41
    refine SX.VC_df (.tuple #[(valBd (inForceR b ls p d t).1), .int .i64 ((inForceR b ls p d t).2)]) (fun α => ⟨[⟨valBd b, 0, []⟩, ⟨.slice A n c, 9, lmL ls⟩, ⟨.int .i64 p, 0, []⟩, ⟨.int .i64 d, 0, []⟩, ⟨.int .i64 t, 0, []⟩], ⟨by kernel_rfl, by kernel_rfl, by kernel_rfl, rfl, ⟨by kernel_rfl, rfl, rfl⟩, by kernel_rfl, by kernel_rfl, by kernel_rfl, by kernel_rfl, by kernel_rfl, by kernel_rfl, trivial⟩, .inr (.inr (.inr (.inr (.inl ⟨rfl, b, _, ls, p, d, t, rfl, hs, by omega, hfit, rfl⟩)))), SX.noAli rfl⟩) (by kernel_rfl) ?_
    have hle := standR_le ls p d t
    refine SX.VC_df (.tuple #[Value.agg (lmL (standR ls p d t).1).toArray, .int .i64 ((standR ls p d t).2)]) (fun α => ⟨[⟨.slice A n c, 9, lmL ls⟩, ⟨.int .i64 p, 0, []⟩, ⟨.int .i64 d, 0, []⟩, ⟨.int .i64 t, 0, []⟩], ⟨by kernel_rfl, rfl, ⟨by kernel_rfl, rfl, rfl⟩, by kernel_rfl, by kernel_rfl, by kernel_rfl, by kernel_rfl, by kernel_rfl, by kernel_rfl, trivial⟩, .inr (.inr (.inr (.inl ⟨rfl, _, ls, p, d, t, rfl, by omega, hfit, rfl⟩))), SX.noAli rfl⟩) (lms_fit _ _) ?_
    refine SX.VC_df (.bool (((inForceR b ls p d t).2 : Int) != 0)) (by intro α; show _ = _; kernel_rfl) (by kernel_rfl) ?_
    refine SX.VC_br (((inForceR b ls p d t).2 : Int) != 0) (by kernel_rfl) (fun h44 => ?_) (fun h44 => ?_)
    · try simp only [NRM] at h44
      have hie := inf_err (show (inForceR b ls p d t).2 ≠ 0 by simpa using h44)
      refine SX.VC_df (.int .i64 b.chk) (fun α => ⟨[⟨valBd b, 0, []⟩], ⟨by kernel_rfl, by kernel_rfl, trivial⟩, .inr (.inr (.inr (.inr (.inr (.inr (.inl ⟨rfl, _, rfl, hs, rfl⟩)))))), SX.noAli rfl⟩) (by kernel_rfl) ?_
      refine SX.VC_df (.bool (((inForceR b ls p d t).2 : Int) == b.chk)) (by intro α; show _ = _; kernel_rfl) (by kernel_rfl) ?_
      refine SX.VC_br (((inForceR b ls p d t).2 : Int) == b.chk) (by kernel_rfl) (fun h46 => ?_) (fun h46 => ?_)
      · try simp only [NRM] at h46
        exact SX.VC_ret fun α W _ _ hS => SX.ret_of hS (x := .bool true) (by kernel_rfl) (by simp)
      · try simp only [NRM] at h46
        refine SX.VC_df (.bool (((inForceR b ls p d t).2 : Int) == (standR ls p d t).2)) (by intro α; show _ = _; kernel_rfl) (by kernel_rfl) ?_
        refine SX.VC_br (((inForceR b ls p d t).2 : Int) == (standR ls p d t).2) (by kernel_rfl) (fun h47 => ?_) (fun h47 => ?_)
        · try simp only [NRM] at h47
          exact SX.VC_ret fun α W _ _ hS => SX.ret_of hS (x := .bool true) (by kernel_rfl) (by simp)
        · try simp only [NRM] at h47
          refine SX.VC_df (.bool (((inForceR b ls p d t).2 : Int) == 2)) (by intro α; show _ = _; kernel_rfl) (by kernel_rfl) ?_
          refine SX.VC_br (((inForceR b ls p d t).2 : Int) == 2) (by kernel_rfl) (fun h48 => ?_) (fun h48 => absurd h48 (by rcases hie with q | q | q <;> first | exact absurd q (by simpa using h46) | exact absurd q (by simpa using h47) | simp [q.1]))
          try simp only [NRM] at h48
          refine SX.VC_df (.int .i64 ((((standR ls p d t).1.length : Nat) : Int))) (fun α => rlen_of (f := cellsLm) (l := (standR ls p d t).1) (fun _ => rfl) (by decide) (Eq.trans (b := [Value.agg (lmL ((standR ls p d t).1)).toArray].flatMap SX.cellsV) (by kernel_rfl) (by simp [SX.cellsV, lmL]))) (by kernel_rfl) ?_
          refine SX.VC_df (.bool (decide ((((standR ls p d t).1.length : Nat) : Int) > 64))) (by intro α; show _ = _; kernel_rfl) (by kernel_rfl) ?_
          exact SX.VC_ret fun α W _ _ hS => SX.ret_of hS (x := .bool (decide ((((standR ls p d t).1.length : Nat) : Int) > 64))) (by kernel_rfl) (by rcases hie with q | q | q <;> first | exact absurd q (by simpa using h46) | exact absurd q (by simpa using h47) | (have q2 := q.2; congr 1; rw [decide_eq_true_eq]; omega))
    · try simp only [NRM] at h44
      have hi0 : (inForceR b ls p d t).2 = 0 := by simpa using h44
      obtain ⟨hbok, hst0, hieq⟩ := inf_ok hi0
      have hin1 : (inForceR b ls p d t).1.name.size ≤ maxLen := by rw [inf_name hi0]; exact hs
      refine SX.VC_df (.tuple #[.bool ((weakR (inForceR b ls p d t).1 b).1), .int .i64 ((weakR (inForceR b ls p d t).1 b).2)]) (fun α => ⟨[⟨valBd (inForceR b ls p d t).1, 0, []⟩, ⟨valBd b, 0, []⟩], ⟨by kernel_rfl, by kernel_rfl, by kernel_rfl, by kernel_rfl, trivial⟩, .inr (.inr (.inr (.inr (.inr (.inr (.inr (.inl ⟨rfl, _, _, rfl, hin1, hs, rfl⟩))))))), SX.noAli rfl⟩) (by kernel_rfl) ?_
      refine SX.VC_df (.bool (((standR ls p d t).2 : Int) != 0)) (by intro α; show _ = _; kernel_rfl) (by kernel_rfl) ?_
      refine SX.VC_br (((standR ls p d t).2 : Int) != 0) (by kernel_rfl) (fun h46 => absurd h46 (by rw [hst0]; simp)) (fun h46 => ?_)
      try simp only [NRM] at h46
      refine SX.VC_df (.bool (((weakR (inForceR b ls p d t).1 b).2 : Int) != 0)) (by intro α; show _ = _; kernel_rfl) (by kernel_rfl) ?_
      refine SX.VC_br (((weakR (inForceR b ls p d t).1 b).2 : Int) != 0) (by kernel_rfl) (fun h47 => absurd h47 (by rw [great_weak hi0]; simp)) (fun h47 => ?_)
      try simp only [NRM] at h47
      refine SX.VC_df (.bool (!((weakR (inForceR b ls p d t).1 b).1))) (by intro α; show _ = _; kernel_rfl) (by kernel_rfl) ?_
      refine SX.VC_br (!((weakR (inForceR b ls p d t).1 b).1)) (by kernel_rfl) (fun h48 => absurd h48 (by rw [great_weak hi0]; simp)) (fun h48 => ?_)
      try simp only [NRM] at h48
      refine SX.VC_df (.int .i64 ((((standR ls p d t).1.length : Nat) : Int))) (fun α => rlen_of (f := cellsLm) (l := (standR ls p d t).1) (fun _ => rfl) (by decide) (Eq.trans (b := [Value.agg (lmL ((standR ls p d t).1)).toArray].flatMap SX.cellsV) (by kernel_rfl) (by simp [SX.cellsV, lmL]))) (by kernel_rfl) ?_
      refine SX.VC_loop (fun xs => ∃ (i : Nat), xs = [.int .i64 (i : Int)] ∧ i ≤ (standR ls p d t).1.length) (fun xs => match xs with | [.int _ i] => (standR ls p d t).1.length - i.toNat | _ => 0) (fun α => ⟨0, by kernel_rfl, by omega⟩) ?_
      rintro xs - ⟨i, rfl, hin⟩
      refine SX.VC_df (.bool (decide (((i : Nat) : Int) < (((standR ls p d t).1.length : Nat) : Int)))) (by intro α; show _ = _; kernel_rfl) (by kernel_rfl) ?_
      refine SX.VC_br (decide (((i : Nat) : Int) < (((standR ls p d t).1.length : Nat) : Int))) (by kernel_rfl) (fun h51 => ?_) (fun h51 => ?_)
      · try simp only [NRM] at h51
        obtain ⟨z, hz⟩ : ∃ z, (standR ls p d t).1[i]? = some z := ⟨_, List.getElem?_eq_getElem (by omega)⟩
        refine SX.VC_df (.bool true) (fun α => SX.row_bnd (f := cellsLm) (l := (standR ls p d t).1) (k := i) (fun _ => rfl) (by decide) (Eq.trans (b := [Value.agg (lmL ((standR ls p d t).1)).toArray].flatMap SX.cellsV) (by kernel_rfl) (by simp [SX.cellsV, lmL])) (by kernel_rfl) (by omega)) (by kernel_rfl) ?_
        refine SX.VC_df (.agg (cellsLm z).toArray) (fun α => SX.row_elems (f := cellsLm) (l := (standR ls p d t).1) (k := i) (z := z) (fun _ => rfl) (by decide) (Eq.trans (b := [Value.agg (lmL ((standR ls p d t).1)).toArray].flatMap SX.cellsV) (by kernel_rfl) (by simp [SX.cellsV, lmL])) (by kernel_rfl) hz) (by kernel_rfl) ?_
        refine SX.VC_df (.bool (keepV (inForceR b ls p d t).1 (capOf z))) (fun α => ⟨[⟨valBd (inForceR b ls p d t).1, 0, []⟩, ⟨valCp (capOf z), 0, []⟩], ⟨by kernel_rfl, by kernel_rfl, by kernel_rfl, by kernel_rfl, trivial⟩, .inr (.inr (.inr (.inr (.inr (.inr (.inr (.inr (⟨rfl, _, z, rfl, standR_cap (List.mem_of_getElem? hz), rfl⟩)))))))), SX.noAli rfl⟩) (by kernel_rfl) ?_
        refine SX.VC_df (.bool (!(keepV (inForceR b ls p d t).1 (capOf z)))) (by intro α; show _ = _; kernel_rfl) (by kernel_rfl) ?_
        refine SX.VC_br (!(keepV (inForceR b ls p d t).1 (capOf z))) (by kernel_rfl) (fun h55 => absurd h55 (by rw [great_keep hi0 (List.mem_of_getElem? hz)]; simp)) (fun h55 => ?_)
        try simp only [NRM] at h55
        refine SX.VC_df (.int .i64 (((i + 1 : Nat) : Int))) (fun α => Eq.trans (b := some (.int .i64 (IntKind.i64.wrap ((i : Int) + 1)))) (by kernel_rfl) (by rw [show ((i + 1 : Nat) : Int) = (i : Int) + 1 by omega, wrap_i64 (by omega) (by omega)])) (by kernel_rfl) ?_
        exact SX.VC_again fun α => ⟨⟨i + 1, by kernel_rfl, by omega⟩, cast (by kernel_rfl) (show (standR ls p d t).1.length - ((i + 1 : Nat) : Int).toNat < (standR ls p d t).1.length - (i : Int).toNat by omega)⟩
      · try simp only [NRM] at h51
        refine SX.VC_df (.tuple #[.bool ((weakR o b).1), .int .i64 ((weakR o b).2)]) (fun α => ⟨[⟨valBd o, 0, []⟩, ⟨valBd b, 0, []⟩], ⟨by kernel_rfl, by kernel_rfl, by kernel_rfl, by kernel_rfl, trivial⟩, .inr (.inr (.inr (.inr (.inr (.inr (.inr (.inl ⟨rfl, _, _, rfl, ho, hs, rfl⟩))))))), SX.noAli rfl⟩) (by kernel_rfl) ?_
        refine SX.VC_df (.bool (((weakR o b).2 : Int) != 0)) (by intro α; show _ = _; kernel_rfl) (by kernel_rfl) ?_
        refine SX.VC_br (((weakR o b).2 : Int) != 0) (by kernel_rfl) (fun h53 => ?_) (fun h53 => ?_)
        · try simp only [NRM] at h53
          exact SX.VC_ret fun α W _ _ hS => SX.ret_of hS (x := .bool true) (by kernel_rfl) (by simp)
        · try simp only [NRM] at h53
          refine SX.VC_df (.bool (!((weakR o b).1))) (by intro α; show _ = _; kernel_rfl) (by kernel_rfl) ?_
          refine SX.VC_br (!((weakR o b).1)) (by kernel_rfl) (fun h54 => ?_) (fun h54 => ?_)
          · try simp only [NRM] at h54
            exact SX.VC_ret fun α W _ _ hS => SX.ret_of hS (x := .bool true) (by kernel_rfl) (by simp)
          · try simp only [NRM] at h54
            refine SX.VC_df (.int .i64 ((((standR ls p d t).1.length : Nat) : Int))) (fun α => rlen_of (f := cellsLm) (l := (standR ls p d t).1) (fun _ => rfl) (by decide) (Eq.trans (b := [Value.agg (lmL ((standR ls p d t).1)).toArray].flatMap SX.cellsV) (by kernel_rfl) (by simp [SX.cellsV, lmL]))) (by kernel_rfl) ?_
            refine SX.VC_loop (fun xs => ∃ (i : Nat), xs = [.int .i64 (i : Int)] ∧ i ≤ (standR ls p d t).1.length ∧ ∀ z ∈ (standR ls p d t).1.take i, keepV o (capOf z) = true) (fun xs => match xs with | [.int _ i] => (standR ls p d t).1.length - i.toNat | _ => 0) (fun α => ⟨0, by kernel_rfl, by omega, by simp⟩) ?_
            rintro xs - ⟨i, rfl, hin, hall⟩
            refine SX.VC_df (.bool (decide (((i : Nat) : Int) < (((standR ls p d t).1.length : Nat) : Int)))) (by intro α; show _ = _; kernel_rfl) (by kernel_rfl) ?_
            refine SX.VC_br (decide (((i : Nat) : Int) < (((standR ls p d t).1.length : Nat) : Int))) (by kernel_rfl) (fun h57 => ?_) (fun h57 => ?_)
            · try simp only [NRM] at h57
              obtain ⟨z, hz⟩ : ∃ z, (standR ls p d t).1[i]? = some z := ⟨_, List.getElem?_eq_getElem (by omega)⟩
              refine SX.VC_df (.bool true) (fun α => SX.row_bnd (f := cellsLm) (l := (standR ls p d t).1) (k := i) (fun _ => rfl) (by decide) (Eq.trans (b := [Value.agg (lmL ((standR ls p d t).1)).toArray].flatMap SX.cellsV) (by kernel_rfl) (by simp [SX.cellsV, lmL])) (by kernel_rfl) (by omega)) (by kernel_rfl) ?_
              refine SX.VC_df (.agg (cellsLm z).toArray) (fun α => SX.row_elems (f := cellsLm) (l := (standR ls p d t).1) (k := i) (z := z) (fun _ => rfl) (by decide) (Eq.trans (b := [Value.agg (lmL ((standR ls p d t).1)).toArray].flatMap SX.cellsV) (by kernel_rfl) (by simp [SX.cellsV, lmL])) (by kernel_rfl) hz) (by kernel_rfl) ?_
              refine SX.VC_df (.bool (keepV o (capOf z))) (fun α => ⟨[⟨valBd o, 0, []⟩, ⟨valCp (capOf z), 0, []⟩], ⟨by kernel_rfl, by kernel_rfl, by kernel_rfl, by kernel_rfl, trivial⟩, .inr (.inr (.inr (.inr (.inr (.inr (.inr (.inr (⟨rfl, _, z, rfl, standR_cap (List.mem_of_getElem? hz), rfl⟩)))))))), SX.noAli rfl⟩) (by kernel_rfl) ?_
              refine SX.VC_df (.bool (!(keepV o (capOf z)))) (by intro α; show _ = _; kernel_rfl) (by kernel_rfl) ?_
              refine SX.VC_br (!(keepV o (capOf z))) (by kernel_rfl) (fun h61 => ?_) (fun h61 => ?_)
              · try simp only [NRM] at h61
                exact SX.VC_ret fun α W _ _ hS => SX.ret_of hS (x := .bool true) (by kernel_rfl) (by simp)
              · try simp only [NRM] at h61
                refine SX.VC_df (.int .i64 (((i + 1 : Nat) : Int))) (fun α => Eq.trans (b := some (.int .i64 (IntKind.i64.wrap ((i : Int) + 1)))) (by kernel_rfl) (by rw [show ((i + 1 : Nat) : Int) = (i : Int) + 1 by omega, wrap_i64 (by omega) (by omega)])) (by kernel_rfl) ?_
                exact SX.VC_again fun α => ⟨⟨i + 1, by kernel_rfl, by omega, (all_take1 hz).2 ⟨hall, by simpa using h61⟩⟩, cast (by kernel_rfl) (show (standR ls p d t).1.length - ((i + 1 : Nat) : Int).toNat < (standR ls p d t).1.length - (i : Int).toNat by omega)⟩
            · try simp only [NRM] at h57
              have hmost := great_most hi0 (by simpa using h53) (by simpa using h54) (by rw [List.take_of_length_le (by omega)] at hall; exact hall)
              refine SX.VC_df (.tuple #[.bool ((weakR o (inForceR b ls p d t).1).1), .int .i64 ((weakR o (inForceR b ls p d t).1).2)]) (fun α => ⟨[⟨valBd o, 0, []⟩, ⟨valBd (inForceR b ls p d t).1, 0, []⟩], ⟨by kernel_rfl, by kernel_rfl, by kernel_rfl, by kernel_rfl, trivial⟩, .inr (.inr (.inr (.inr (.inr (.inr (.inr (.inl ⟨rfl, _, _, rfl, ho, hin1, rfl⟩))))))), SX.noAli rfl⟩) (by kernel_rfl) ?_
              refine SX.VC_df (.bool (((weakR o (inForceR b ls p d t).1).2 : Int) == 0)) (by intro α; show _ = _; kernel_rfl) (by kernel_rfl) ?_
              refine SX.VC_br (((weakR o (inForceR b ls p d t).1).2 : Int) == 0) (by kernel_rfl) (fun h59 => ?_) (fun h59 => absurd h59 (by rw [hmost]; simp))
              try simp only [NRM] at h59
              exact SX.VC_ret fun α W _ _ hS => SX.ret_of hS (x := .bool ((weakR o (inForceR b ls p d t).1).1)) (by kernel_rfl) (by rw [hmost])
end Go.Proofs.Ytmkigejhgpoleaa
