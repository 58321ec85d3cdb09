/-
  PatchAlone: the walk.
-/
import Derived.Test.YtodlcjhefojibaaPr
namespace Go.Proofs.Ytodlcjhefojibaa
set_option linter.unusedSimpArgs false
set_option linter.unusedVariables false
open Go Go.RowKit
def tree_lalone : SX.Tree :=
(.df (.call 10 []) [] .one 
(.df .not [(.x 21 [])] .one 
(.br 22 [] 
(.ret (.k (.bool false)) [] []) 
(.df (.len false) [(.x 0 [])] .one 
(.df (.bin .gtr 3) [(.x 23 []), (.k (.int .i64 1000))] .one 
(.br 24 [] 
(.ret (.k (.bool true)) [] []) 
(.df (.call 12 [(.ext 14), .no]) [(.x 0 []), (.a [(.x 1 []), (.x 2 []), (.x 3 []), (.x 4 []), (.x 5 []), (.x 6 []), (.x 7 []), (.x 8 []), (.x 9 []), (.x 10 []), (.x 11 []), (.x 12 []), (.x 13 []), (.x 14 []), (.x 15 []), (.x 16 []), (.x 17 []), (.x 18 []), (.x 19 [])])] (.tp [(.sl 14), .one]) 
(.df (.bin .neq 32) [(.x 25 [1]), (.k (.int .i64 0))] .one 
(.br 26 [] 
(.df (.rlen 14) [(.cat [(.x 25 [0])])] .one 
(.df (.bin .eql 3) [(.x 27 []), (.k (.int .i64 0))] .one 
(.ret (.x 28 []) [] []))) 
(.df (.call 27 [(.row 14 [(.x 25 [0])])]) [(.row 1)] .one 
(.df (.bin .neq 32) [(.x 27 []), (.k (.int .i64 0))] .one 
(.br 28 [] 
(.ret (.k (.bool false)) [] []) 
(.df (.call 28 [(.ext 14), .no]) [(.x 0 []), (.x 20 [])] (.tp [(.ag 14), .one]) 
(.df (.call 28 [(.row 14 [(.x 25 [0])]), .no]) [(.row 1), (.x 20 [])] (.tp [(.ag 14), .one]) 
(.df (.bin .neq 3) [(.x 20 []), (.x 3 [])] .one 
(.br 31 [] 
(.df (.binb .neq) [(.x 29 [1]), (.x 30 [1])] .one 
(.br 32 [] 
(.ret (.k (.bool false)) [] []) 
(.df (.eqr true 14 [(.i .i64), (.i .i64), (.i .i64), (.i .i64), (.i .i64), (.i .i64), (.i .i64), (.i .i64), (.i .i64), (.i .i64), (.i .i64), (.i .i64), (.i .i64), (.i .i64)]) [(.x 29 [0, 0]), (.x 29 [0, 1]), (.x 29 [0, 2]), (.x 29 [0, 3]), (.x 29 [0, 4]), (.x 29 [0, 5]), (.x 29 [0, 6]), (.x 29 [0, 7]), (.x 29 [0, 8]), (.x 29 [0, 9]), (.x 29 [0, 10]), (.x 29 [0, 11]), (.x 29 [0, 12]), (.x 29 [0, 13]), (.x 30 [0, 0]), (.x 30 [0, 1]), (.x 30 [0, 2]), (.x 30 [0, 3]), (.x 30 [0, 4]), (.x 30 [0, 5]), (.x 30 [0, 6]), (.x 30 [0, 7]), (.x 30 [0, 8]), (.x 30 [0, 9]), (.x 30 [0, 10]), (.x 30 [0, 11]), (.x 30 [0, 12]), (.x 30 [0, 13])] .one 
(.br 33 [] 
(.ret (.k (.bool false)) [] []) 
(.df (.call 28 [(.ext 14), .no]) [(.x 0 []), (.x 3 [])] (.tp [(.ag 14), .one]) 
(.df (.call 28 [(.row 14 [(.x 25 [0])]), .no]) [(.row 1), (.x 3 [])] (.tp [(.ag 14), .one]) 
(.df (.bin .eql 3) [(.x 2 []), (.k (.int .i64 2))] .one 
(.br 36 [] 
(.df .not [(.x 34 [1])] .one 
(.br 37 [] 
(.br 35 [1] 
(.df (.eqr false 14 [(.i .i64), (.i .i64), (.i .i64), (.i .i64), (.i .i64), (.i .i64), (.i .i64), (.i .i64), (.i .i64), (.i .i64), (.i .i64), (.i .i64), (.i .i64), (.i .i64)]) [(.x 35 [0, 0]), (.x 35 [0, 1]), (.x 35 [0, 2]), (.x 35 [0, 3]), (.x 35 [0, 4]), (.x 35 [0, 5]), (.x 35 [0, 6]), (.x 35 [0, 7]), (.x 35 [0, 8]), (.x 35 [0, 9]), (.x 35 [0, 10]), (.x 35 [0, 11]), (.x 35 [0, 12]), (.x 35 [0, 13]), (.x 5 []), (.x 6 []), (.x 7 []), (.x 8 []), (.x 9 []), (.x 10 []), (.x 11 []), (.x 12 []), (.x 13 []), (.x 14 []), (.x 15 []), (.x 16 []), (.x 17 []), (.x 18 [])] .one 
(.br 38 [] 
(.df (.rlen 14) [(.cat [(.x 25 [0])])] .one 
(.df (.len false) [(.x 0 [])] .one 
(.df (.bin .add 3) [(.x 40 []), (.k (.int .i64 1))] .one 
(.df (.bin .eql 3) [(.x 39 []), (.x 41 [])] .one 
(.ret (.x 42 []) [] []))))) 
(.ret (.k (.bool false)) [] []))) 
(.ret (.k (.bool false)) [] [])) 
(.ret (.k (.bool false)) [] []))) 
(.df (.call 12 [(.row 14 [(.x 25 [0])]), .no]) [(.row 1), (.a [(.x 1 []), (.x 2 []), (.x 3 []), (.x 4 []), (.x 5 []), (.x 6 []), (.x 7 []), (.x 8 []), (.x 9 []), (.x 10 []), (.x 11 []), (.x 12 []), (.x 13 []), (.x 14 []), (.x 15 []), (.x 16 []), (.x 17 []), (.x 18 []), (.x 19 [])])] (.tp [(.sl 14), .one]) 
(.df (.bin .neq 32) [(.x 37 [1]), (.k (.int .i64 0))] .one 
(.br 38 [] 
(.ret (.k (.bool false)) [] []) 
(.df (.call 16 [(.row 14 [(.x 37 [0])]), (.row 14 [(.x 25 [0])])]) [(.row 4), (.row 1)] .one 
(.df .not [(.x 39 [])] .one 
(.br 40 [] 
(.ret (.k (.bool false)) [] []) 
(.df (.bin .eql 3) [(.x 2 []), (.k (.int .i64 3))] .one 
(.br 41 [] 
(.df .not [(.x 35 [1])] .one 
(.ret (.x 42 []) [] [])) 
(.br 34 [1] 
(.br 35 [1] 
(.df (.call 29 [.no, .no, .no]) [(.a [(.x 34 [0, 0]), (.x 34 [0, 1]), (.x 34 [0, 2]), (.x 34 [0, 3]), (.x 34 [0, 4]), (.x 34 [0, 5]), (.x 34 [0, 6]), (.x 34 [0, 7]), (.x 34 [0, 8]), (.x 34 [0, 9]), (.x 34 [0, 10]), (.x 34 [0, 11]), (.x 34 [0, 12]), (.x 34 [0, 13])]), (.x 4 []), (.a [(.x 5 []), (.x 6 []), (.x 7 []), (.x 8 []), (.x 9 []), (.x 10 []), (.x 11 []), (.x 12 []), (.x 13 []), (.x 14 []), (.x 15 []), (.x 16 []), (.x 17 []), (.x 18 [])])] (.ag 14) 
(.df (.eqr false 14 [(.i .i64), (.i .i64), (.i .i64), (.i .i64), (.i .i64), (.i .i64), (.i .i64), (.i .i64), (.i .i64), (.i .i64), (.i .i64), (.i .i64), (.i .i64), (.i .i64)]) [(.x 35 [0, 0]), (.x 35 [0, 1]), (.x 35 [0, 2]), (.x 35 [0, 3]), (.x 35 [0, 4]), (.x 35 [0, 5]), (.x 35 [0, 6]), (.x 35 [0, 7]), (.x 35 [0, 8]), (.x 35 [0, 9]), (.x 35 [0, 10]), (.x 35 [0, 11]), (.x 35 [0, 12]), (.x 35 [0, 13]), (.x 42 [0]), (.x 42 [1]), (.x 42 [2]), (.x 42 [3]), (.x 42 [4]), (.x 42 [5]), (.x 42 [6]), (.x 42 [7]), (.x 42 [8]), (.x 42 [9]), (.x 42 [10]), (.x 42 [11]), (.x 42 [12]), (.x 42 [13])] .one 
(.br 43 [] 
(.df (.rlen 14) [(.cat [(.x 25 [0])])] .one 
(.df (.len false) [(.x 0 [])] .one 
(.df (.bin .eql 3) [(.x 44 []), (.x 45 [])] .one 
(.ret (.x 46 []) [] [])))) 
(.ret (.k (.bool false)) [] [])))) 
(.ret (.k (.bool false)) [] [])) 
(.ret (.k (.bool false)) [] [])))))))))))))))))) 
(.df (.call 28 [(.ext 14), .no]) [(.x 0 []), (.x 3 [])] (.tp [(.ag 14), .one]) 
(.df (.call 28 [(.row 14 [(.x 25 [0])]), .no]) [(.row 1), (.x 3 [])] (.tp [(.ag 14), .one]) 
(.df (.bin .eql 3) [(.x 2 []), (.k (.int .i64 2))] .one 
(.br 34 [] 
(.df .not [(.x 32 [1])] .one 
(.br 35 [] 
(.br 33 [1] 
(.df (.eqr false 14 [(.i .i64), (.i .i64), (.i .i64), (.i .i64), (.i .i64), (.i .i64), (.i .i64), (.i .i64), (.i .i64), (.i .i64), (.i .i64), (.i .i64), (.i .i64), (.i .i64)]) [(.x 33 [0, 0]), (.x 33 [0, 1]), (.x 33 [0, 2]), (.x 33 [0, 3]), (.x 33 [0, 4]), (.x 33 [0, 5]), (.x 33 [0, 6]), (.x 33 [0, 7]), (.x 33 [0, 8]), (.x 33 [0, 9]), (.x 33 [0, 10]), (.x 33 [0, 11]), (.x 33 [0, 12]), (.x 33 [0, 13]), (.x 5 []), (.x 6 []), (.x 7 []), (.x 8 []), (.x 9 []), (.x 10 []), (.x 11 []), (.x 12 []), (.x 13 []), (.x 14 []), (.x 15 []), (.x 16 []), (.x 17 []), (.x 18 [])] .one 
(.br 36 [] 
(.df (.rlen 14) [(.cat [(.x 25 [0])])] .one 
(.df (.len false) [(.x 0 [])] .one 
(.df (.bin .add 3) [(.x 38 []), (.k (.int .i64 1))] .one 
(.df (.bin .eql 3) [(.x 37 []), (.x 39 [])] .one 
(.ret (.x 40 []) [] []))))) 
(.ret (.k (.bool false)) [] []))) 
(.ret (.k (.bool false)) [] [])) 
(.ret (.k (.bool false)) [] []))) 
(.df (.call 12 [(.row 14 [(.x 25 [0])]), .no]) [(.row 1), (.a [(.x 1 []), (.x 2 []), (.x 3 []), (.x 4 []), (.x 5 []), (.x 6 []), (.x 7 []), (.x 8 []), (.x 9 []), (.x 10 []), (.x 11 []), (.x 12 []), (.x 13 []), (.x 14 []), (.x 15 []), (.x 16 []), (.x 17 []), (.x 18 []), (.x 19 [])])] (.tp [(.sl 14), .one]) 
(.df (.bin .neq 32) [(.x 35 [1]), (.k (.int .i64 0))] .one 
(.br 36 [] 
(.ret (.k (.bool false)) [] []) 
(.df (.call 16 [(.row 14 [(.x 35 [0])]), (.row 14 [(.x 25 [0])])]) [(.row 4), (.row 1)] .one 
(.df .not [(.x 37 [])] .one 
(.br 38 [] 
(.ret (.k (.bool false)) [] []) 
(.df (.bin .eql 3) [(.x 2 []), (.k (.int .i64 3))] .one 
(.br 39 [] 
(.df .not [(.x 33 [1])] .one 
(.ret (.x 40 []) [] [])) 
(.br 32 [1] 
(.br 33 [1] 
(.df (.call 29 [.no, .no, .no]) [(.a [(.x 32 [0, 0]), (.x 32 [0, 1]), (.x 32 [0, 2]), (.x 32 [0, 3]), (.x 32 [0, 4]), (.x 32 [0, 5]), (.x 32 [0, 6]), (.x 32 [0, 7]), (.x 32 [0, 8]), (.x 32 [0, 9]), (.x 32 [0, 10]), (.x 32 [0, 11]), (.x 32 [0, 12]), (.x 32 [0, 13])]), (.x 4 []), (.a [(.x 5 []), (.x 6 []), (.x 7 []), (.x 8 []), (.x 9 []), (.x 10 []), (.x 11 []), (.x 12 []), (.x 13 []), (.x 14 []), (.x 15 []), (.x 16 []), (.x 17 []), (.x 18 [])])] (.ag 14) 
(.df (.eqr false 14 [(.i .i64), (.i .i64), (.i .i64), (.i .i64), (.i .i64), (.i .i64), (.i .i64), (.i .i64), (.i .i64), (.i .i64), (.i .i64), (.i .i64), (.i .i64), (.i .i64)]) [(.x 33 [0, 0]), (.x 33 [0, 1]), (.x 33 [0, 2]), (.x 33 [0, 3]), (.x 33 [0, 4]), (.x 33 [0, 5]), (.x 33 [0, 6]), (.x 33 [0, 7]), (.x 33 [0, 8]), (.x 33 [0, 9]), (.x 33 [0, 10]), (.x 33 [0, 11]), (.x 33 [0, 12]), (.x 33 [0, 13]), (.x 40 [0]), (.x 40 [1]), (.x 40 [2]), (.x 40 [3]), (.x 40 [4]), (.x 40 [5]), (.x 40 [6]), (.x 40 [7]), (.x 40 [8]), (.x 40 [9]), (.x 40 [10]), (.x 40 [11]), (.x 40 [12]), (.x 40 [13])] .one 
(.br 41 [] 
(.df (.rlen 14) [(.cat [(.x 25 [0])])] .one 
(.df (.len false) [(.x 0 [])] .one 
(.df (.bin .eql 3) [(.x 42 []), (.x 43 [])] .one 
(.ret (.x 44 []) [] [])))) 
(.ret (.k (.bool false)) [] [])))) 
(.ret (.k (.bool false)) [] [])) 
(.ret (.k (.bool false)) [] []))))))))))))))))))))))))))))))
def args_lalone : List SX.V := [.x 0 [], .a ((List.range 19).map fun j => .x (1 + j) []), .x 20 []]
set_option maxRecDepth 100000 in
theorem run_lalone (K A : Value → Nat → List Value → Prop) : (SX.run (cxQ K A) ⟨fun _ => false, [], 0, 100⟩ 100000 0 (SX.door 8 Try.f8 args_lalone (List.replicate 21 .one)) [.code (Try.f8.body.getD .skip), .top Try.f8]).strip = tree_lalone := by kernel_rfl
set_option maxRecDepth 100000 in
set_option maxHeartbeats 4000000 in
theorem lalone_any (ss : List Sg) (A : Option Addr) (n c : Nat) (p : Pt) (B : Option Addr) (m d : Nat) (id : Int) (w : World) (hr : Rd w 14 A n (sgsL ss)) (hn : n ≤ 9223372036854775807) (hc : n ≤ c) (hp : Rd w 1 B m (intsL p.needs)) (hm : m ≤ 9223372036854775807) (hmd : m ≤ d) : Calls Try.prog 8 #[.slice A n c, valP p (.slice B m d), .int .i64 id] w fun e w' => e = .returned (.bool true) ∧ Below w.heap.size w w' := by
  refine SX.calls_of_run (C := cxQ (apK A n c ss p (.slice B m d)) (runA A n c ss)) (G := ⟨fun _ => false, [], 0, 100⟩) (args := args_lalone) (sh := (List.replicate 21 .one)) (ρ := ([.slice A n c] ++ cellsP p (.slice B m d) ++ [.int .i64 id])) 100000 tree_lalone (okQ _ _) Try.func8 rfl (run_lalone _ _) (by kernel_rfl) (by kernel_rfl) (by kernel_rfl) ?_ ?_
  · rintro W hW s sz cells (⟨rfl, rfl, rfl⟩ | ⟨rfl, rfl, rfl⟩)
    · exact ⟨hr.same0 hW, hc⟩
    · exact ⟨hp.same0 hW, hmd⟩
  have hln : ss.length = n := by have := hr.1; rw [sgsL_len] at this; omega
  have hlm : p.needs.length = m := by have := hp.1; rw [intsL_len] at this; omega
  have k1 : apK A n c ss p (.slice B m d) (.slice A n c) 14 (sgsL ss) := .inl ⟨rfl, rfl, rfl⟩
  have kp : apK A n c ss p (.slice B m d) (.slice B m d) 1 (intsL p.needs) := .inr ⟨rfl, rfl, rfl⟩
  have a1 : runA A n c ss (.slice A n c) 14 (sgsL ss) := ⟨rfl, rfl, rfl⟩
  unfold tree_lalone
  refine SX.VC_df (.bool true) (fun α => ⟨[], trivial, .inr (.inr (.inr (.inr (.inr (.inr (.inr (.inr (.inr (.inr (.inr (.inr (.inr (.inr (.inr (.inr (.inr (.inl ⟨rfl, rfl, rfl⟩))))))))))))))))), SX.noAli rfl⟩) (by kernel_rfl) ?_
  refine SX.VC_df (.bool (!(true))) (by intro α; show _ = _; kernel_rfl) (by kernel_rfl) ?_
  refine SX.VC_br (!(true)) (by kernel_rfl) (fun h22 => absurd h22 (by simp)) (fun h22 => ?_)
  try simp only [NRM] at h22
  refine SX.VC_df (.int .i64 (((n : Nat) : Int))) (by intro α; show _ = _; kernel_rfl) (by kernel_rfl) ?_
  refine SX.VC_df (.bool (decide (((n : Nat) : Int) > 1000))) (by intro α; show _ = _; kernel_rfl) (by kernel_rfl) ?_
  refine SX.VC_br (decide (((n : Nat) : Int) > 1000)) (by kernel_rfl) (fun h24 => ?_) (fun h24 => ?_)
  · try simp only [NRM] at h24
    exact SX.VC_ret fun α W _ _ hS => SX.ret_of hS (x := .bool true) (by kernel_rfl) rfl
  · try simp only [NRM] at h24
    refine SX.VC_df (.tuple #[Value.agg (sgsL (runS ss [p]).1).toArray, .int .i64 ((runS ss [p]).2)]) (fun α => ⟨[⟨.slice A n c, 14, sgsL ss⟩, ⟨valP p (.slice B m d), 0, []⟩], ⟨by kernel_rfl, rfl, cast (by kernel_rfl) k1, by kernel_rfl, by kernel_rfl, trivial⟩, .inl ⟨rfl, _, _, p, (.slice B m d), rfl, by omega, kp, by omega, rfl⟩, fun j hj x sz hx h => (by (obtain rfl : j = 0 := by simpa using (show j ∈ [0] from hj)); cases hx; exact cast (by kernel_rfl) a1)⟩) (sgs_fit _ _) ?_
    refine SX.VC_df (.bool (((runS ss [p]).2 : Int) != 0)) (by intro α; show _ = _; kernel_rfl) (by kernel_rfl) ?_
    refine SX.VC_br (((runS ss [p]).2 : Int) != 0) (by kernel_rfl) (fun h26 => ?_) (fun h26 => ?_)
    · try simp only [NRM] at h26
      refine SX.VC_df (.int .i64 (((((runS ss [p]).1).length : Nat) : Int))) (fun α => SX.row_rlen (f := cellsSg) (l := (runS ss [p]).1) (fun _ => rfl) (by decide) (Eq.trans (b := SX.cellsV (.agg ([Value.agg (sgsL ((runS ss [p]).1)).toArray].flatMap SX.cellsV).toArray)) (by kernel_rfl) (by simp [SX.cellsV, sgsL]))) (by kernel_rfl) ?_
      refine SX.VC_df (.bool ((((((runS ss [p]).1).length : Nat) : Int) : Int) == 0)) (by intro α; show _ = _; kernel_rfl) (by kernel_rfl) ?_
      have hz := runS_err h26
      exact SX.VC_ret fun α W _ _ hS => SX.ret_of hS (x := .bool ((((((runS ss [p]).1).length : Nat) : Int) : Int) == 0)) (by kernel_rfl) (by rw [hz]; rfl)
    · try simp only [NRM] at h26
      obtain ⟨al1, al2, al3, al4, al5, al6⟩ := alone (by omega) h26
      have hxl := runS_len ss [p] (by omega)
      refine SX.VC_df (.int .i64 ((chkS ((runS ss [p]).1)))) (fun α => ⟨[⟨(α 1).h, 14, sgsL ((runS ss [p]).1)⟩], ⟨Eq.trans (b := ⟨(α 1).h, 14, [Value.agg (sgsL ((runS ss [p]).1)).toArray].flatMap SX.cellsV⟩) (by simp [SX.cellsV]) (by kernel_rfl), trivial⟩, .inr (.inr (.inr (.inr (.inr (.inr (.inr (.inr (.inr (.inr (.inr (.inr (.inr (.inr (.inr (.inl ⟨rfl, _, _, rfl, hxl, rfl⟩))))))))))))))), SX.noAli rfl⟩) (by kernel_rfl) ?_
      refine SX.VC_df (.bool (((chkS ((runS ss [p]).1)) : Int) != 0)) (by intro α; show _ = _; kernel_rfl) (by kernel_rfl) ?_
      refine SX.VC_br (((chkS ((runS ss [p]).1)) : Int) != 0) (by kernel_rfl) (fun h28 => absurd h28 (by simp [al1])) (fun h28 => ?_)
      try simp only [NRM] at h28
      refine SX.VC_df (.tuple #[valSg (findS ss id), .bool ((isS ss id))]) (fun α => ⟨[⟨.slice A n c, 14, sgsL ss⟩, ⟨.int .i64 id, 0, []⟩], ⟨by kernel_rfl, rfl, cast (by kernel_rfl) k1, by kernel_rfl, by kernel_rfl, trivial⟩, .inr (.inr (.inr (.inr (.inr (.inr (.inr (.inr (.inr (.inr (.inr (.inr (.inr (.inr (.inr (.inr (.inr (.inr (.inr (⟨rfl, _, _, id, rfl, by omega, rfl⟩))))))))))))))))))), SX.noAli rfl⟩) (by kernel_rfl) ?_
      refine SX.VC_df (.tuple #[valSg (findS ((runS ss [p]).1) id), .bool ((isS ((runS ss [p]).1) id))]) (fun α => ⟨[⟨(α 1).h, 14, sgsL ((runS ss [p]).1)⟩, ⟨.int .i64 id, 0, []⟩], ⟨Eq.trans (b := ⟨(α 1).h, 14, [Value.agg (sgsL ((runS ss [p]).1)).toArray].flatMap SX.cellsV⟩) (by simp [SX.cellsV]) (by kernel_rfl), by kernel_rfl, by kernel_rfl, trivial⟩, .inr (.inr (.inr (.inr (.inr (.inr (.inr (.inr (.inr (.inr (.inr (.inr (.inr (.inr (.inr (.inr (.inr (.inr (.inr (⟨rfl, _, _, id, rfl, hxl, rfl⟩))))))))))))))))))), SX.noAli rfl⟩) (by kernel_rfl) ?_
      refine SX.VC_df (.bool ((id : Int) != p.sign)) (by intro α; show _ = _; kernel_rfl) (by kernel_rfl) ?_
      refine SX.VC_br ((id : Int) != p.sign) (by kernel_rfl) (fun h31 => ?_) (fun h31 => ?_)
      · try simp only [NRM] at h31
        refine SX.VC_df (.bool (!((isS ss id) == (isS ((runS ss [p]).1) id)))) (by intro α; show _ = _; kernel_rfl) (by kernel_rfl) ?_
        refine SX.VC_br (!((isS ss id) == (isS ((runS ss [p]).1) id))) (by kernel_rfl) (fun h32 => absurd h32 (by simp [(al2 id h31).1])) (fun h32 => ?_)
        try simp only [NRM] at h32
        refine SX.VC_df (.bool (true ^^ decide ((findS ss id) = (findS ((runS ss [p]).1) id)))) (fun α => SX.eqr_rel (f := cellsSg) cellsSg_inj (y := (findS ss id)) (z := (findS ((runS ss [p]).1) id)) (by kernel_rfl) (by kernel_rfl) (by kernel_rfl)) (by kernel_rfl) ?_
        refine SX.VC_br (true ^^ decide ((findS ss id) = (findS ((runS ss [p]).1) id))) (by kernel_rfl) (fun h33 => absurd h33 (by simp [(al2 id h31).2])) (fun h33 => ?_)
        try simp only [NRM] at h33
        refine SX.VC_df (.tuple #[valSg (findS ss p.sign), .bool ((isS ss p.sign))]) (fun α => ⟨[⟨.slice A n c, 14, sgsL ss⟩, ⟨.int .i64 p.sign, 0, []⟩], ⟨by kernel_rfl, rfl, cast (by kernel_rfl) k1, by kernel_rfl, by kernel_rfl, trivial⟩, .inr (.inr (.inr (.inr (.inr (.inr (.inr (.inr (.inr (.inr (.inr (.inr (.inr (.inr (.inr (.inr (.inr (.inr (.inr (⟨rfl, _, _, p.sign, rfl, by omega, rfl⟩))))))))))))))))))), SX.noAli rfl⟩) (by kernel_rfl) ?_
        refine SX.VC_df (.tuple #[valSg (findS ((runS ss [p]).1) p.sign), .bool ((isS ((runS ss [p]).1) p.sign))]) (fun α => ⟨[⟨(α 1).h, 14, sgsL ((runS ss [p]).1)⟩, ⟨.int .i64 p.sign, 0, []⟩], ⟨Eq.trans (b := ⟨(α 1).h, 14, [Value.agg (sgsL ((runS ss [p]).1)).toArray].flatMap SX.cellsV⟩) (by simp [SX.cellsV]) (by kernel_rfl), by kernel_rfl, by kernel_rfl, trivial⟩, .inr (.inr (.inr (.inr (.inr (.inr (.inr (.inr (.inr (.inr (.inr (.inr (.inr (.inr (.inr (.inr (.inr (.inr (.inr (⟨rfl, _, _, p.sign, rfl, hxl, rfl⟩))))))))))))))))))), SX.noAli rfl⟩) (by kernel_rfl) ?_
        refine SX.VC_df (.bool ((p.kind : Int) == 2)) (by intro α; show _ = _; kernel_rfl) (by kernel_rfl) ?_
        refine SX.VC_br ((p.kind : Int) == 2) (by kernel_rfl) (fun h36 => ?_) (fun h36 => ?_)
        · try simp only [NRM] at h36
          refine SX.VC_df (.bool (!((isS ss p.sign)))) (by intro α; show _ = _; kernel_rfl) (by kernel_rfl) ?_
          refine SX.VC_br (!((isS ss p.sign))) (by kernel_rfl) (fun h37 => ?_) (fun h37 => absurd h37 (by simp [(al3 h36).1]))
          try simp only [NRM] at h37
          refine SX.VC_br ((isS ((runS ss [p]).1) p.sign)) (by kernel_rfl) (fun h35_1 => ?_) (fun h35_1 => absurd h35_1 (by simp [(al3 h36).2.1]))
          try simp only [NRM] at h35_1
          refine SX.VC_df (.bool (false ^^ decide ((findS ((runS ss [p]).1) p.sign) = p.new))) (fun α => SX.eqr_rel (f := cellsSg) cellsSg_inj (y := (findS ((runS ss [p]).1) p.sign)) (z := p.new) (by kernel_rfl) (by kernel_rfl) (by kernel_rfl)) (by kernel_rfl) ?_
          refine SX.VC_br (false ^^ decide ((findS ((runS ss [p]).1) p.sign) = p.new)) (by kernel_rfl) (fun h38 => ?_) (fun h38 => absurd h38 (by simp [(al3 h36).2.2.1]))
          try simp only [NRM] at h38
          refine SX.VC_df (.int .i64 (((((runS ss [p]).1).length : Nat) : Int))) (fun α => SX.row_rlen (f := cellsSg) (l := (runS ss [p]).1) (fun _ => rfl) (by decide) (Eq.trans (b := SX.cellsV (.agg ([Value.agg (sgsL ((runS ss [p]).1)).toArray].flatMap SX.cellsV).toArray)) (by kernel_rfl) (by simp [SX.cellsV, sgsL]))) (by kernel_rfl) ?_
          refine SX.VC_df (.int .i64 (((n : Nat) : Int))) (by intro α; show _ = _; kernel_rfl) (by kernel_rfl) ?_
          refine SX.VC_df (.int .i64 (((n + 1 : Nat) : Int))) (fun α => Eq.trans (b := some (.int .i64 (IntKind.i64.wrap ((n : Nat) + 1)))) (by kernel_rfl) (by rw [show ((n + 1 : Nat) : Int) = ((n : Nat) : Int) + 1 by omega, wrap_i64 (by omega) (by omega)])) (by kernel_rfl) ?_
          refine SX.VC_df (.bool ((((((runS ss [p]).1).length : Nat) : Int) : Int) == ((n + 1 : Nat) : Int))) (by intro α; show _ = _; kernel_rfl) (by kernel_rfl) ?_
          exact SX.VC_ret fun α W _ _ hS => SX.ret_of hS (x := .bool ((((((runS ss [p]).1).length : Nat) : Int) : Int) == ((n + 1 : Nat) : Int))) (by kernel_rfl) (by congr 1; have := (al3 h36).2.2.2; simp; omega)
        · try simp only [NRM] at h36
          refine SX.VC_df (.tuple #[Value.agg (sgsL (runS ((runS ss [p]).1) [p]).1).toArray, .int .i64 ((runS ((runS ss [p]).1) [p]).2)]) (fun α => ⟨[⟨(α 1).h, 14, sgsL ((runS ss [p]).1)⟩, ⟨valP p (.slice B m d), 0, []⟩], ⟨Eq.trans (b := ⟨(α 1).h, 14, [Value.agg (sgsL ((runS ss [p]).1)).toArray].flatMap SX.cellsV⟩) (by simp [SX.cellsV]) (by kernel_rfl), by kernel_rfl, by kernel_rfl, trivial⟩, .inl ⟨rfl, _, _, p, (.slice B m d), rfl, hxl, kp, by omega, rfl⟩, SX.aliNo rfl (fun _ => nofun)⟩) (sgs_fit _ _) ?_
          refine SX.VC_df (.bool (((runS ((runS ss [p]).1) [p]).2 : Int) != 0)) (by intro α; show _ = _; kernel_rfl) (by kernel_rfl) ?_
          refine SX.VC_br (((runS ((runS ss [p]).1) [p]).2 : Int) != 0) (by kernel_rfl) (fun h38 => absurd h38 (by simp [(al4 h36).1])) (fun h38 => ?_)
          try simp only [NRM] at h38
          refine SX.VC_df (.bool ((decide (((runS ((runS ss [p]).1) [p]).1) = ((runS ss [p]).1))))) (fun α => ⟨[⟨(α 4).h, 14, sgsL ((runS ((runS ss [p]).1) [p]).1)⟩, ⟨(α 1).h, 14, sgsL ((runS ss [p]).1)⟩], ⟨Eq.trans (b := ⟨(α 4).h, 14, [Value.agg (sgsL ((runS ((runS ss [p]).1) [p]).1)).toArray].flatMap SX.cellsV⟩) (by simp [SX.cellsV]) (by kernel_rfl), Eq.trans (b := ⟨(α 1).h, 14, [Value.agg (sgsL ((runS ss [p]).1)).toArray].flatMap SX.cellsV⟩) (by simp [SX.cellsV]) (by kernel_rfl), trivial⟩, .inr (.inr (.inr (.inr (.inr (.inr (.inr (.inr (.inr (.inr (.inr (.inr (.inl ⟨rfl, _, _, _, _, rfl, runS_len _ _ (by omega), hxl, rfl⟩)))))))))))), SX.noAli rfl⟩) (by kernel_rfl) ?_
          refine SX.VC_df (.bool (!((decide (((runS ((runS ss [p]).1) [p]).1) = ((runS ss [p]).1)))))) (by intro α; show _ = _; kernel_rfl) (by kernel_rfl) ?_
          refine SX.VC_br (!((decide (((runS ((runS ss [p]).1) [p]).1) = ((runS ss [p]).1))))) (by kernel_rfl) (fun h40 => absurd h40 (by simp [(al4 h36).2])) (fun h40 => ?_)
          try simp only [NRM] at h40
          refine SX.VC_df (.bool ((p.kind : Int) == 3)) (by intro α; show _ = _; kernel_rfl) (by kernel_rfl) ?_
          refine SX.VC_br ((p.kind : Int) == 3) (by kernel_rfl) (fun h41 => ?_) (fun h41 => ?_)
          · try simp only [NRM] at h41
            refine SX.VC_df (.bool (!((isS ((runS ss [p]).1) p.sign)))) (by intro α; show _ = _; kernel_rfl) (by kernel_rfl) ?_
            exact SX.VC_ret fun α W _ _ hS => SX.ret_of hS (x := .bool (!((isS ((runS ss [p]).1) p.sign)))) (by kernel_rfl) (by rw [al5 (by omega)]; rfl)
          · try simp only [NRM] at h41
            refine SX.VC_br ((isS ss p.sign)) (by kernel_rfl) (fun h34_1 => ?_) (fun h34_1 => absurd h34_1 (by simp [(al6 h36 h41).1]))
            try simp only [NRM] at h34_1
            refine SX.VC_br ((isS ((runS ss [p]).1) p.sign)) (by kernel_rfl) (fun h35_1 => ?_) (fun h35_1 => absurd h35_1 (by simp [(al6 h36 h41).2.1]))
            try simp only [NRM] at h35_1
            refine SX.VC_df (valSg (setF (findS ss p.sign) p.field p.new)) (fun α => ⟨[⟨valSg (findS ss p.sign), 0, []⟩, ⟨.int .i64 p.field, 0, []⟩, ⟨valSg p.new, 0, []⟩], ⟨by kernel_rfl, by kernel_rfl, by kernel_rfl, by kernel_rfl, by kernel_rfl, by kernel_rfl, trivial⟩, .inr (.inr (.inr (.inr (.inr (.inr (.inr (.inr (.inr (.inr (.inr (.inr (.inr (.inr (.inr (.inr (.inl ⟨rfl, (findS ss p.sign), p.new, p.field, rfl, rfl⟩)))))))))))))))), SX.noAli rfl⟩) (by kernel_rfl) ?_
            refine SX.VC_df (.bool (false ^^ decide ((findS ((runS ss [p]).1) p.sign) = (setF (findS ss p.sign) p.field p.new)))) (fun α => SX.eqr_rel (f := cellsSg) cellsSg_inj (y := (findS ((runS ss [p]).1) p.sign)) (z := (setF (findS ss p.sign) p.field p.new)) (by kernel_rfl) (by kernel_rfl) (by kernel_rfl)) (by kernel_rfl) ?_
            refine SX.VC_br (false ^^ decide ((findS ((runS ss [p]).1) p.sign) = (setF (findS ss p.sign) p.field p.new))) (by kernel_rfl) (fun h43 => ?_) (fun h43 => absurd h43 (by simp [(al6 h36 h41).2.2.1]))
            try simp only [NRM] at h43
            refine SX.VC_df (.int .i64 (((((runS ss [p]).1).length : Nat) : Int))) (fun α => SX.row_rlen (f := cellsSg) (l := (runS ss [p]).1) (fun _ => rfl) (by decide) (Eq.trans (b := SX.cellsV (.agg ([Value.agg (sgsL ((runS ss [p]).1)).toArray].flatMap SX.cellsV).toArray)) (by kernel_rfl) (by simp [SX.cellsV, sgsL]))) (by kernel_rfl) ?_
            refine SX.VC_df (.int .i64 (((n : Nat) : Int))) (by intro α; show _ = _; kernel_rfl) (by kernel_rfl) ?_
            refine SX.VC_df (.bool ((((((runS ss [p]).1).length : Nat) : Int) : Int) == ((n : Nat) : Int))) (by intro α; show _ = _; kernel_rfl) (by kernel_rfl) ?_
            exact SX.VC_ret fun α W _ _ hS => SX.ret_of hS (x := .bool ((((((runS ss [p]).1).length : Nat) : Int) : Int) == ((n : Nat) : Int))) (by kernel_rfl) (by congr 1; have := (al6 h36 h41).2.2.2; simp; omega)
      · try simp only [NRM] at h31
        refine SX.VC_df (.tuple #[valSg (findS ss p.sign), .bool ((isS ss p.sign))]) (fun α => ⟨[⟨.slice A n c, 14, sgsL ss⟩, ⟨.int .i64 p.sign, 0, []⟩], ⟨by kernel_rfl, rfl, cast (by kernel_rfl) k1, by kernel_rfl, by kernel_rfl, trivial⟩, .inr (.inr (.inr (.inr (.inr (.inr (.inr (.inr (.inr (.inr (.inr (.inr (.inr (.inr (.inr (.inr (.inr (.inr (.inr (⟨rfl, _, _, p.sign, rfl, by omega, rfl⟩))))))))))))))))))), SX.noAli rfl⟩) (by kernel_rfl) ?_
        refine SX.VC_df (.tuple #[valSg (findS ((runS ss [p]).1) p.sign), .bool ((isS ((runS ss [p]).1) p.sign))]) (fun α => ⟨[⟨(α 1).h, 14, sgsL ((runS ss [p]).1)⟩, ⟨.int .i64 p.sign, 0, []⟩], ⟨Eq.trans (b := ⟨(α 1).h, 14, [Value.agg (sgsL ((runS ss [p]).1)).toArray].flatMap SX.cellsV⟩) (by simp [SX.cellsV]) (by kernel_rfl), by kernel_rfl, by kernel_rfl, trivial⟩, .inr (.inr (.inr (.inr (.inr (.inr (.inr (.inr (.inr (.inr (.inr (.inr (.inr (.inr (.inr (.inr (.inr (.inr (.inr (⟨rfl, _, _, p.sign, rfl, hxl, rfl⟩))))))))))))))))))), SX.noAli rfl⟩) (by kernel_rfl) ?_
        refine SX.VC_df (.bool ((p.kind : Int) == 2)) (by intro α; show _ = _; kernel_rfl) (by kernel_rfl) ?_
        refine SX.VC_br ((p.kind : Int) == 2) (by kernel_rfl) (fun h34 => ?_) (fun h34 => ?_)
        · try simp only [NRM] at h34
          refine SX.VC_df (.bool (!((isS ss p.sign)))) (by intro α; show _ = _; kernel_rfl) (by kernel_rfl) ?_
          refine SX.VC_br (!((isS ss p.sign))) (by kernel_rfl) (fun h35 => ?_) (fun h35 => absurd h35 (by simp [(al3 h34).1]))
          try simp only [NRM] at h35
          refine SX.VC_br ((isS ((runS ss [p]).1) p.sign)) (by kernel_rfl) (fun h33_1 => ?_) (fun h33_1 => absurd h33_1 (by simp [(al3 h34).2.1]))
          try simp only [NRM] at h33_1
          refine SX.VC_df (.bool (false ^^ decide ((findS ((runS ss [p]).1) p.sign) = p.new))) (fun α => SX.eqr_rel (f := cellsSg) cellsSg_inj (y := (findS ((runS ss [p]).1) p.sign)) (z := p.new) (by kernel_rfl) (by kernel_rfl) (by kernel_rfl)) (by kernel_rfl) ?_
          refine SX.VC_br (false ^^ decide ((findS ((runS ss [p]).1) p.sign) = p.new)) (by kernel_rfl) (fun h36 => ?_) (fun h36 => absurd h36 (by simp [(al3 h34).2.2.1]))
          try simp only [NRM] at h36
          refine SX.VC_df (.int .i64 (((((runS ss [p]).1).length : Nat) : Int))) (fun α => SX.row_rlen (f := cellsSg) (l := (runS ss [p]).1) (fun _ => rfl) (by decide) (Eq.trans (b := SX.cellsV (.agg ([Value.agg (sgsL ((runS ss [p]).1)).toArray].flatMap SX.cellsV).toArray)) (by kernel_rfl) (by simp [SX.cellsV, sgsL]))) (by kernel_rfl) ?_
          refine SX.VC_df (.int .i64 (((n : Nat) : Int))) (by intro α; show _ = _; kernel_rfl) (by kernel_rfl) ?_
          refine SX.VC_df (.int .i64 (((n + 1 : Nat) : Int))) (fun α => Eq.trans (b := some (.int .i64 (IntKind.i64.wrap ((n : Nat) + 1)))) (by kernel_rfl) (by rw [show ((n + 1 : Nat) : Int) = ((n : Nat) : Int) + 1 by omega, wrap_i64 (by omega) (by omega)])) (by kernel_rfl) ?_
          refine SX.VC_df (.bool ((((((runS ss [p]).1).length : Nat) : Int) : Int) == ((n + 1 : Nat) : Int))) (by intro α; show _ = _; kernel_rfl) (by kernel_rfl) ?_
          exact SX.VC_ret fun α W _ _ hS => SX.ret_of hS (x := .bool ((((((runS ss [p]).1).length : Nat) : Int) : Int) == ((n + 1 : Nat) : Int))) (by kernel_rfl) (by congr 1; have := (al3 h34).2.2.2; simp; omega)
        · try simp only [NRM] at h34
          refine SX.VC_df (.tuple #[Value.agg (sgsL (runS ((runS ss [p]).1) [p]).1).toArray, .int .i64 ((runS ((runS ss [p]).1) [p]).2)]) (fun α => ⟨[⟨(α 1).h, 14, sgsL ((runS ss [p]).1)⟩, ⟨valP p (.slice B m d), 0, []⟩], ⟨Eq.trans (b := ⟨(α 1).h, 14, [Value.agg (sgsL ((runS ss [p]).1)).toArray].flatMap SX.cellsV⟩) (by simp [SX.cellsV]) (by kernel_rfl), by kernel_rfl, by kernel_rfl, trivial⟩, .inl ⟨rfl, _, _, p, (.slice B m d), rfl, hxl, kp, by omega, rfl⟩, SX.aliNo rfl (fun _ => nofun)⟩) (sgs_fit _ _) ?_
          refine SX.VC_df (.bool (((runS ((runS ss [p]).1) [p]).2 : Int) != 0)) (by intro α; show _ = _; kernel_rfl) (by kernel_rfl) ?_
          refine SX.VC_br (((runS ((runS ss [p]).1) [p]).2 : Int) != 0) (by kernel_rfl) (fun h36 => absurd h36 (by simp [(al4 h34).1])) (fun h36 => ?_)
          try simp only [NRM] at h36
          refine SX.VC_df (.bool ((decide (((runS ((runS ss [p]).1) [p]).1) = ((runS ss [p]).1))))) (fun α => ⟨[⟨(α 4).h, 14, sgsL ((runS ((runS ss [p]).1) [p]).1)⟩, ⟨(α 1).h, 14, sgsL ((runS ss [p]).1)⟩], ⟨Eq.trans (b := ⟨(α 4).h, 14, [Value.agg (sgsL ((runS ((runS ss [p]).1) [p]).1)).toArray].flatMap SX.cellsV⟩) (by simp [SX.cellsV]) (by kernel_rfl), Eq.trans (b := ⟨(α 1).h, 14, [Value.agg (sgsL ((runS ss [p]).1)).toArray].flatMap SX.cellsV⟩) (by simp [SX.cellsV]) (by kernel_rfl), trivial⟩, .inr (.inr (.inr (.inr (.inr (.inr (.inr (.inr (.inr (.inr (.inr (.inr (.inl ⟨rfl, _, _, _, _, rfl, runS_len _ _ (by omega), hxl, rfl⟩)))))))))))), SX.noAli rfl⟩) (by kernel_rfl) ?_
          refine SX.VC_df (.bool (!((decide (((runS ((runS ss [p]).1) [p]).1) = ((runS ss [p]).1)))))) (by intro α; show _ = _; kernel_rfl) (by kernel_rfl) ?_
          refine SX.VC_br (!((decide (((runS ((runS ss [p]).1) [p]).1) = ((runS ss [p]).1))))) (by kernel_rfl) (fun h38 => absurd h38 (by simp [(al4 h34).2])) (fun h38 => ?_)
          try simp only [NRM] at h38
          refine SX.VC_df (.bool ((p.kind : Int) == 3)) (by intro α; show _ = _; kernel_rfl) (by kernel_rfl) ?_
          refine SX.VC_br ((p.kind : Int) == 3) (by kernel_rfl) (fun h39 => ?_) (fun h39 => ?_)
          · try simp only [NRM] at h39
            refine SX.VC_df (.bool (!((isS ((runS ss [p]).1) p.sign)))) (by intro α; show _ = _; kernel_rfl) (by kernel_rfl) ?_
            exact SX.VC_ret fun α W _ _ hS => SX.ret_of hS (x := .bool (!((isS ((runS ss [p]).1) p.sign)))) (by kernel_rfl) (by rw [al5 (by omega)]; rfl)
          · try simp only [NRM] at h39
            refine SX.VC_br ((isS ss p.sign)) (by kernel_rfl) (fun h32_1 => ?_) (fun h32_1 => absurd h32_1 (by simp [(al6 h34 h39).1]))
            try simp only [NRM] at h32_1
            refine SX.VC_br ((isS ((runS ss [p]).1) p.sign)) (by kernel_rfl) (fun h33_1 => ?_) (fun h33_1 => absurd h33_1 (by simp [(al6 h34 h39).2.1]))
            try simp only [NRM] at h33_1
            refine SX.VC_df (valSg (setF (findS ss p.sign) p.field p.new)) (fun α => ⟨[⟨valSg (findS ss p.sign), 0, []⟩, ⟨.int .i64 p.field, 0, []⟩, ⟨valSg p.new, 0, []⟩], ⟨by kernel_rfl, by kernel_rfl, by kernel_rfl, by kernel_rfl, by kernel_rfl, by kernel_rfl, trivial⟩, .inr (.inr (.inr (.inr (.inr (.inr (.inr (.inr (.inr (.inr (.inr (.inr (.inr (.inr (.inr (.inr (.inl ⟨rfl, (findS ss p.sign), p.new, p.field, rfl, rfl⟩)))))))))))))))), SX.noAli rfl⟩) (by kernel_rfl) ?_
            refine SX.VC_df (.bool (false ^^ decide ((findS ((runS ss [p]).1) p.sign) = (setF (findS ss p.sign) p.field p.new)))) (fun α => SX.eqr_rel (f := cellsSg) cellsSg_inj (y := (findS ((runS ss [p]).1) p.sign)) (z := (setF (findS ss p.sign) p.field p.new)) (by kernel_rfl) (by kernel_rfl) (by kernel_rfl)) (by kernel_rfl) ?_
            refine SX.VC_br (false ^^ decide ((findS ((runS ss [p]).1) p.sign) = (setF (findS ss p.sign) p.field p.new))) (by kernel_rfl) (fun h41 => ?_) (fun h41 => absurd h41 (by simp [(al6 h34 h39).2.2.1]))
            try simp only [NRM] at h41
            refine SX.VC_df (.int .i64 (((((runS ss [p]).1).length : Nat) : Int))) (fun α => SX.row_rlen (f := cellsSg) (l := (runS ss [p]).1) (fun _ => rfl) (by decide) (Eq.trans (b := SX.cellsV (.agg ([Value.agg (sgsL ((runS ss [p]).1)).toArray].flatMap SX.cellsV).toArray)) (by kernel_rfl) (by simp [SX.cellsV, sgsL]))) (by kernel_rfl) ?_
            refine SX.VC_df (.int .i64 (((n : Nat) : Int))) (by intro α; show _ = _; kernel_rfl) (by kernel_rfl) ?_
            refine SX.VC_df (.bool ((((((runS ss [p]).1).length : Nat) : Int) : Int) == ((n : Nat) : Int))) (by intro α; show _ = _; kernel_rfl) (by kernel_rfl) ?_
            exact SX.VC_ret fun α W _ _ hS => SX.ret_of hS (x := .bool ((((((runS ss [p]).1).length : Nat) : Int) : Int) == ((n : Nat) : Int))) (by kernel_rfl) (by congr 1; have := (al6 h34 h39).2.2.2; simp; omega)
end Go.Proofs.Ytodlcjhefojibaa
