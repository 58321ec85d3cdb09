/-
  PatchUndone: the walk.
-/
import Derived.Test.YtodlcjhefojibaaPr
namespace Go.Proofs.Ytodlcjhefojibaa
set_option linter.unusedSimpArgs false
set_option linter.unusedVariables false
open Go Go.RowKit
def undK (A : Option Addr) (n c : Nat) (ss : List Sg) (p : Pt) (h : Value) (s : Value) (sz : Nat) (cells : List Value) : Prop :=
  (s = .slice A n c ∧ sz = 14 ∧ cells = sgsL ss) ∨ (s = h ∧ sz = 1 ∧ cells = intsL p.needs) ∨ (s = .slice none 0 0 ∧ sz = 1 ∧ cells = [])
def tree_lundone : SX.Tree :=
(.df (.call 10 []) [] .one 
(.df .not [(.x 21 [])] .one 
(.br 22 [] 
(.ret (.k (.bool false)) [] []) 
(.df (.len false) [(.x 0 [])] .one 
(.df (.bin .gtr 3) [(.x 23 []), (.k (.int .i64 1000))] .one 
(.br 24 [] 
(.ret (.k (.bool true)) [] []) 
(.df (.call 20 [(.ext 14), .no, .no]) [(.x 0 []), (.a [(.x 1 []), (.x 2 []), (.x 3 []), (.x 4 []), (.x 5 []), (.x 6 []), (.x 7 []), (.x 8 []), (.x 9 []), (.x 10 []), (.x 11 []), (.x 12 []), (.x 13 []), (.x 14 []), (.x 15 []), (.x 16 []), (.x 17 []), (.x 18 []), (.x 19 [])]), (.x 20 [])] (.tp [(.agl [.one, .one, .one, .one, .one, .one, .one, .one, .one, .one, .one, .one, .one, .one, .one, .one, .one, .one, (.sl 1)]), .one]) 
(.df (.bin .neq 32) [(.x 25 [1]), (.k (.int .i64 0))] .one 
(.br 26 [] 
(.df (.callg 26 [.no, .no] [(.row 1 [(.x 25 [0, 18])])]) [(.a [(.x 25 [0, 0]), (.x 25 [0, 1]), (.x 25 [0, 2]), (.x 25 [0, 3]), (.x 25 [0, 4]), (.x 25 [0, 5]), (.x 25 [0, 6]), (.x 25 [0, 7]), (.x 25 [0, 8]), (.x 25 [0, 9]), (.x 25 [0, 10]), (.x 25 [0, 11]), (.x 25 [0, 12]), (.x 25 [0, 13]), (.x 25 [0, 14]), (.x 25 [0, 15]), (.x 25 [0, 16]), (.x 25 [0, 17]), (.row 1)]), (.a [(.k (.int .i64 0)), (.k (.int .i64 0)), (.k (.int .i64 0)), (.k (.int .i64 0)), (.k (.int .i64 0)), (.k (.int .i64 0)), (.k (.int .i64 0)), (.k (.int .i64 0)), (.k (.int .i64 0)), (.k (.int .i64 0)), (.k (.int .i64 0)), (.k (.int .i64 0)), (.k (.int .i64 0)), (.k (.int .i64 0)), (.k (.int .i64 0)), (.k (.int .i64 0)), (.k (.int .i64 0)), (.k (.int .i64 0)), (.k (.slice none 0 0))]), (.row 1)] .one 
(.ret (.x 27 []) [] [])) 
(.df (.call 12 [(.ext 14), .no]) [(.x 0 []), (.a [(.x 1 []), (.x 2 []), (.x 3 []), (.x 4 []), (.x 5 []), (.x 6 []), (.x 7 []), (.x 8 []), (.x 9 []), (.x 10 []), (.x 11 []), (.x 12 []), (.x 13 []), (.x 14 []), (.x 15 []), (.x 16 []), (.x 17 []), (.x 18 []), (.x 19 [])])] (.tp [(.sl 14), .one]) 
(.df (.callg 18 [(.ext 14), (.own 19 [(.x 1 []), (.x 2 []), (.x 3 []), (.x 4 []), (.x 5 []), (.x 6 []), (.x 7 []), (.x 8 []), (.x 9 []), (.x 10 []), (.x 11 []), (.x 12 []), (.x 13 []), (.x 14 []), (.x 15 []), (.x 16 []), (.x 17 []), (.x 18 []), (.x 19 []), (.x 25 [0, 0]), (.x 25 [0, 1]), (.x 25 [0, 2]), (.x 25 [0, 3]), (.x 25 [0, 4]), (.x 25 [0, 5]), (.x 25 [0, 6]), (.x 25 [0, 7]), (.x 25 [0, 8]), (.x 25 [0, 9]), (.x 25 [0, 10]), (.x 25 [0, 11]), (.x 25 [0, 12]), (.x 25 [0, 13]), (.x 25 [0, 14]), (.x 25 [0, 15]), (.x 25 [0, 16]), (.x 25 [0, 17]), (.row 1)])] [(.row 1 [(.x 25 [0, 18])])]) [(.x 0 []), (.sl 4 0 2 2), (.row 1)] (.tp [(.sl 14), .one]) 
(.df (.bin .neq 32) [(.x 27 [1]), (.k (.int .i64 0))] .one 
(.br 29 [] 
(.ret (.k (.bool false)) [] []) 
(.df (.bin .neq 32) [(.x 28 [1]), (.k (.int .i64 0))] .one 
(.br 30 [] 
(.ret (.k (.bool false)) [] []) 
(.df (.callg 14 [.no] [(.row 1 [(.x 25 [0, 18])])]) [(.a [(.x 25 [0, 0]), (.x 25 [0, 1]), (.x 25 [0, 2]), (.x 25 [0, 3]), (.x 25 [0, 4]), (.x 25 [0, 5]), (.x 25 [0, 6]), (.x 25 [0, 7]), (.x 25 [0, 8]), (.x 25 [0, 9]), (.x 25 [0, 10]), (.x 25 [0, 11]), (.x 25 [0, 12]), (.x 25 [0, 13]), (.x 25 [0, 14]), (.x 25 [0, 15]), (.x 25 [0, 16]), (.x 25 [0, 17]), (.row 1)]), (.row 1)] .one 
(.df (.bin .neq 32) [(.x 31 []), (.k (.int .i64 0))] .one 
(.br 32 [] 
(.ret (.k (.bool false)) [] []) 
(.df (.call 16 [(.row 14 [(.x 28 [0])]), (.ext 14)]) [(.row 5), (.x 0 [])] .one 
(.df .not [(.x 33 [])] .one 
(.br 34 [] 
(.ret (.k (.bool false)) [] []) 
(.df (.bin .neq 3) [(.x 25 [0, 0]), (.x 20 [])] .one 
(.br 35 [] 
(.ret (.k (.bool false)) [] []) 
(.df (.rlen 1) [(.cat [(.x 25 [0, 18])])] .one 
(.df (.bin .neq 3) [(.x 36 []), (.k (.int .i64 1))] .one 
(.br 37 [] 
(.ret (.k (.bool false)) [] []) 
(.df (.rbnd 1) [(.cat [(.x 25 [0, 18])]), (.k (.int .i64 0))] .one 
(.df (.relem 1 0) [(.cat [(.x 25 [0, 18])]), (.k (.int .i64 0))] .one 
(.df (.bin .neq 3) [(.x 39 []), (.x 1 [])] .one 
(.br 40 [] 
(.ret (.k (.bool false)) [] []) 
(.df (.bin .eql 3) [(.x 20 []), (.k (.int .i64 1048576))] .one 
(.br 41 [] 
(.ret (.k (.bool true)) [] []) 
(.df (.bin .add 3) [(.x 20 []), (.k (.int .i64 1))] .one 
(.df (.callg 20 [(.row 14 [(.x 27 [0])]), .no, .no] [(.row 1 [(.x 25 [0, 18])])]) [(.row 3), (.a [(.x 25 [0, 0]), (.x 25 [0, 1]), (.x 25 [0, 2]), (.x 25 [0, 3]), (.x 25 [0, 4]), (.x 25 [0, 5]), (.x 25 [0, 6]), (.x 25 [0, 7]), (.x 25 [0, 8]), (.x 25 [0, 9]), (.x 25 [0, 10]), (.x 25 [0, 11]), (.x 25 [0, 12]), (.x 25 [0, 13]), (.x 25 [0, 14]), (.x 25 [0, 15]), (.x 25 [0, 16]), (.x 25 [0, 17]), (.row 1)]), (.x 42 []), (.row 1)] (.tp [(.agl [.one, .one, .one, .one, .one, .one, .one, .one, .one, .one, .one, .one, .one, .one, .one, .one, .one, .one, (.sl 1)]), .one]) 
(.df (.bin .neq 32) [(.x 43 [1]), (.k (.int .i64 0))] .one 
(.br 44 [] 
(.ret (.k (.bool false)) [] []) 
(.df (.call 26 [.no, .no]) [(.a [(.x 1 []), (.x 43 [0, 1]), (.x 43 [0, 2]), (.x 43 [0, 3]), (.x 43 [0, 4]), (.x 43 [0, 5]), (.x 43 [0, 6]), (.x 43 [0, 7]), (.x 43 [0, 8]), (.x 43 [0, 9]), (.x 43 [0, 10]), (.x 43 [0, 11]), (.x 43 [0, 12]), (.x 43 [0, 13]), (.x 43 [0, 14]), (.x 43 [0, 15]), (.x 43 [0, 16]), (.x 43 [0, 17]), (.x 19 [])]), (.a [(.x 1 []), (.x 2 []), (.x 3 []), (.x 4 []), (.x 5 []), (.x 6 []), (.x 7 []), (.x 8 []), (.x 9 []), (.x 10 []), (.x 11 []), (.x 12 []), (.x 13 []), (.x 14 []), (.x 15 []), (.x 16 []), (.x 17 []), (.x 18 []), (.x 19 [])])] .one 
(.ret (.x 45 []) [] []))))))))))))))))))))))))))))))))))))))
def args_lundone : List SX.V := [.x 0 [], .a ((List.range 19).map fun j => .x (1 + j) []), .x 20 []]
set_option maxRecDepth 100000 in
theorem run_lundone (K A : Value → Nat → List Value → Prop) : (SX.run (cxQ K A) ⟨fun _ => false, [], 0, 100⟩ 100000 0 (SX.door 6 Try.f6 args_lundone (List.replicate 21 .one)) [.code (Try.f6.body.getD .skip), .top Try.f6]).strip = tree_lundone := by kernel_rfl
set_option maxRecDepth 100000 in
set_option maxHeartbeats 4000000 in
theorem lundone_any (ss : List Sg) (A : Option Addr) (n c : Nat) (p : Pt) (B : Option Addr) (m d : Nat) (id : Int) (w : World) (hr : Rd w 14 A n (sgsL ss)) (hn : n ≤ 9223372036854775807) (hc : n ≤ c) (hp : Rd w 1 B m (intsL p.needs)) (hm : m ≤ 9223372036854775807) (hmd : m ≤ d) : Calls Try.prog 6 #[.slice A n c, valP p (.slice B m d), .int .i64 id] w fun e w' => e = .returned (.bool true) ∧ Below w.heap.size w w' := by
  refine SX.calls_of_run (C := cxQ (undK A n c ss p (.slice B m d)) (runA A n c ss)) (G := ⟨fun _ => false, [], 0, 100⟩) (args := args_lundone) (sh := (List.replicate 21 .one)) (ρ := ([.slice A n c] ++ cellsP p (.slice B m d) ++ [.int .i64 id])) 100000 tree_lundone (okQ _ _) Try.func6 rfl (run_lundone _ _) (by kernel_rfl) (by kernel_rfl) (by kernel_rfl) ?_ ?_
  · rintro W hW s sz cells (⟨rfl, rfl, rfl⟩ | ⟨rfl, rfl, rfl⟩ | ⟨rfl, rfl, rfl⟩)
    · exact ⟨hr.same0 hW, hc⟩
    · exact ⟨hp.same0 hW, hmd⟩
    · exact SX.rd_empty
  have hln : ss.length = n := by have := hr.1; rw [sgsL_len] at this; omega
  have hlm : p.needs.length = m := by have := hp.1; rw [intsL_len] at this; omega
  have k1 : undK A n c ss p (.slice B m d) (.slice A n c) 14 (sgsL ss) := .inl ⟨rfl, rfl, rfl⟩
  have kp : undK A n c ss p (.slice B m d) (.slice B m d) 1 (intsL p.needs) := .inr (.inl ⟨rfl, rfl, rfl⟩)
  have kz : undK A n c ss p (.slice B m d) (.slice none 0 0) 1 (intsL zeroPt.needs) := .inr (.inr ⟨rfl, rfl, rfl⟩)
  have a1 : runA A n c ss (.slice A n c) 14 (sgsL ss) := ⟨rfl, rfl, rfl⟩
  unfold tree_lundone
  refine SX.VC_df (.bool true) (fun α => ⟨[], trivial, .inr (.inr (.inr (.inr (.inr (.inr (.inr (.inr (.inr (.inr (.inr (.inr (.inr (.inr (.inr (.inr (.inr (.inl ⟨rfl, rfl, rfl⟩))))))))))))))))), SX.noAli rfl⟩) (by kernel_rfl) ?_
  refine SX.VC_df (.bool (!(true))) (by intro α; show _ = _; kernel_rfl) (by kernel_rfl) ?_
  refine SX.VC_br (!(true)) (by kernel_rfl) (fun h22 => absurd h22 (by simp)) (fun h22 => ?_)
  try simp only [NRM] at h22
  refine SX.VC_df (.int .i64 (((n : Nat) : Int))) (by intro α; show _ = _; kernel_rfl) (by kernel_rfl) ?_
  refine SX.VC_df (.bool (decide (((n : Nat) : Int) > 1000))) (by intro α; show _ = _; kernel_rfl) (by kernel_rfl) ?_
  refine SX.VC_br (decide (((n : Nat) : Int) > 1000)) (by kernel_rfl) (fun h24 => ?_) (fun h24 => ?_)
  · try simp only [NRM] at h24
    exact SX.VC_ret fun α W _ _ hS => SX.ret_of hS (x := .bool true) (by kernel_rfl) rfl
  · try simp only [NRM] at h24
    refine SX.VC_df (.tuple #[ptV (invS ss p id).1, .int .i64 ((invS ss p id).2)]) (fun α => ⟨[⟨.slice A n c, 14, sgsL ss⟩, ⟨valP p (.slice B m d), 0, []⟩, ⟨.int .i64 id, 0, []⟩], ⟨by kernel_rfl, rfl, cast (by kernel_rfl) k1, by kernel_rfl, by kernel_rfl, by kernel_rfl, by kernel_rfl, trivial⟩, .inr (.inr (.inr (.inr (.inr (.inr (.inr (.inr (.inr (.inr (.inl ⟨rfl, _, _, p, _, id, rfl, by omega, kp, by omega, rfl⟩)))))))))), SX.noAli rfl⟩) (ptV_fit _ _) ?_
    refine SX.VC_df (.bool (((invS ss p id).2 : Int) != 0)) (by intro α; show _ = _; kernel_rfl) (by kernel_rfl) ?_
    refine SX.VC_br (((invS ss p id).2 : Int) != 0) (by kernel_rfl) (fun h26 => ?_) (fun h26 => ?_)
    · try simp only [NRM] at h26
      refine SX.VC_df (.bool ((decide ((invS ss p id).1 = zeroPt)))) (fun α => ⟨[⟨valP (invS ss p id).1 (α 1).h, 0, []⟩, ⟨valP zeroPt (.slice none 0 0), 0, []⟩], [⟨(α 1).h, 1, intsL (invS ss p id).1.needs⟩], ⟨by kernel_rfl, by kernel_rfl, by kernel_rfl, by kernel_rfl, trivial⟩, ⟨Eq.trans (b := ⟨(α 1).h, 1, [Value.agg (intsL (invS ss p id).1.needs).toArray].flatMap SX.cellsV⟩) (by simp [SX.cellsV]) (by kernel_rfl), trivial⟩, .inr (.inr (.inr (.inr (.inr (.inr (.inr (.inr (.inr (.inr (.inr (.inr (.inr (.inl ⟨rfl, (invS ss p id).1, zeroPt, _, _, rfl, .inr (by simp), .inl kz, inv_len _ _ _, by decide, rfl⟩))))))))))))), SX.noAli rfl⟩) (by kernel_rfl) ?_
      exact SX.VC_ret fun α W _ _ hS => SX.ret_of hS (x := .bool ((decide ((invS ss p id).1 = zeroPt)))) (by kernel_rfl) (by rw [undone_no h26]; rfl)
    · try simp only [NRM] at h26
      obtain ⟨u1, u2, u3, u4, u5, u6, u7, u8, u9⟩ := undone (by omega) h26
      have u0 : (p.id : Int) = p.id := rfl
      refine SX.VC_df (.tuple #[Value.agg (sgsL (runS ss [p]).1).toArray, .int .i64 ((runS ss [p]).2)]) (fun α => ⟨[⟨.slice A n c, 14, sgsL ss⟩, ⟨valP p (.slice B m d), 0, []⟩], ⟨by kernel_rfl, rfl, cast (by kernel_rfl) k1, by kernel_rfl, by kernel_rfl, trivial⟩, .inl ⟨rfl, _, _, p, (.slice B m d), rfl, by omega, kp, by omega, rfl⟩, fun j hj x sz hx h => (by (obtain rfl : j = 0 := by simpa using (show j ∈ [0] from hj)); cases hx; exact cast (by kernel_rfl) a1)⟩) (sgs_fit _ _) ?_
      refine SX.VC_df (.tuple #[Value.agg (sgsL (runS ss [p, (invS ss p id).1]).1).toArray, .int .i64 ((runS ss [p, (invS ss p id).1]).2)]) (fun α => ⟨[⟨.slice A n c, 14, sgsL ss⟩, ⟨(.slice (some ⟨(α 4).b, 0, none⟩) 2 2), 19, pvL [(p, (.slice B m d)), ((invS ss p id).1, (α 1).h)]⟩], [⟨(α 1).h, 1, intsL (invS ss p id).1.needs⟩], ⟨by kernel_rfl, rfl, cast (by kernel_rfl) k1, by kernel_rfl, trivial⟩, ⟨Eq.trans (b := ⟨(α 1).h, 1, [Value.agg (intsL (invS ss p id).1.needs).toArray].flatMap SX.cellsV⟩) (by simp [SX.cellsV]) (by kernel_rfl), trivial⟩, .inr (.inr (.inl ⟨rfl, _, _, _, [(p, (.slice B m d)), ((invS ss p id).1, (α 1).h)], rfl, by omega, by simp, (by intro x hx; simp only [List.mem_cons, List.not_mem_nil, or_false] at hx; rcases hx with rfl | rfl; exact ⟨.inl kp, by show p.needs.length ≤ _; omega⟩; exact ⟨.inr (by simp), inv_len _ _ _⟩), rfl⟩)), fun j hj x sz hx h => (by (obtain rfl : j = 0 := by simpa using (show j ∈ [0] from hj)); cases hx; exact cast (by kernel_rfl) a1)⟩) (sgs_fit _ _) ?_
      refine SX.VC_df (.bool (((runS ss [p]).2 : Int) != 0)) (by intro α; show _ = _; kernel_rfl) (by kernel_rfl) ?_
      refine SX.VC_br (((runS ss [p]).2 : Int) != 0) (by kernel_rfl) (fun h29 => absurd h29 (by simp [u1])) (fun h29 => ?_)
      try simp only [NRM] at h29
      refine SX.VC_df (.bool (((runS ss [p, (invS ss p id).1]).2 : Int) != 0)) (by intro α; show _ = _; kernel_rfl) (by kernel_rfl) ?_
      refine SX.VC_br (((runS ss [p, (invS ss p id).1]).2 : Int) != 0) (by kernel_rfl) (fun h30 => absurd h30 (by simp [u2])) (fun h30 => ?_)
      try simp only [NRM] at h30
      refine SX.VC_df (.int .i64 ((chkP ((invS ss p id).1)))) (fun α => ⟨[⟨valP (invS ss p id).1 (α 1).h, 0, []⟩], [⟨(α 1).h, 1, intsL (invS ss p id).1.needs⟩], ⟨by kernel_rfl, by kernel_rfl, trivial⟩, ⟨Eq.trans (b := ⟨(α 1).h, 1, [Value.agg (intsL (invS ss p id).1.needs).toArray].flatMap SX.cellsV⟩) (by simp [SX.cellsV]) (by kernel_rfl), trivial⟩, .inr (.inr (.inr (.inr (.inl ⟨rfl, (invS ss p id).1, (α 1).h, rfl, .inr (by simp), inv_len _ _ _, rfl⟩)))), SX.noAli rfl⟩) (by kernel_rfl) ?_
      refine SX.VC_df (.bool (((chkP ((invS ss p id).1)) : Int) != 0)) (by intro α; show _ = _; kernel_rfl) (by kernel_rfl) ?_
      refine SX.VC_br (((chkP ((invS ss p id).1)) : Int) != 0) (by kernel_rfl) (fun h32 => absurd h32 (by simp [u3])) (fun h32 => ?_)
      try simp only [NRM] at h32
      refine SX.VC_df (.bool ((decide (((runS ss [p, (invS ss p id).1]).1) = ss)))) (fun α => ⟨[⟨(α 5).h, 14, sgsL ((runS ss [p, (invS ss p id).1]).1)⟩, ⟨.slice A n c, 14, sgsL ss⟩], ⟨Eq.trans (b := ⟨(α 5).h, 14, [Value.agg (sgsL ((runS ss [p, (invS ss p id).1]).1)).toArray].flatMap SX.cellsV⟩) (by simp [SX.cellsV]) (by kernel_rfl), by kernel_rfl, rfl, cast (by kernel_rfl) k1, trivial⟩, .inr (.inr (.inr (.inr (.inr (.inr (.inr (.inr (.inr (.inr (.inr (.inr (.inl ⟨rfl, _, _, _, _, rfl, runS_len _ _ (by omega), by omega, rfl⟩)))))))))))), SX.noAli rfl⟩) (by kernel_rfl) ?_
      refine SX.VC_df (.bool (!((decide (((runS ss [p, (invS ss p id).1]).1) = ss))))) (by intro α; show _ = _; kernel_rfl) (by kernel_rfl) ?_
      refine SX.VC_br (!((decide (((runS ss [p, (invS ss p id).1]).1) = ss)))) (by kernel_rfl) (fun h34 => absurd h34 (by simp [u4])) (fun h34 => ?_)
      try simp only [NRM] at h34
      refine SX.VC_df (.bool (((invS ss p id).1.id : Int) != id)) (by intro α; show _ = _; kernel_rfl) (by kernel_rfl) ?_
      refine SX.VC_br (((invS ss p id).1.id : Int) != id) (by kernel_rfl) (fun h35 => absurd h35 (by simp [u5])) (fun h35 => ?_)
      try simp only [NRM] at h35
      refine SX.VC_df (.int .i64 (((((invS ss p id).1.needs).length : Nat) : Int))) (fun α => SX.row_rlen (f := cellsI) (l := (invS ss p id).1.needs) (fun _ => rfl) (by decide) (Eq.trans (b := SX.cellsV (.agg ([Value.agg (intsL ((invS ss p id).1.needs)).toArray].flatMap SX.cellsV).toArray)) (by kernel_rfl) (by simp [SX.cellsV, intsL]))) (by kernel_rfl) ?_
      refine SX.VC_df (.bool ((((((invS ss p id).1.needs).length : Nat) : Int) : Int) != 1)) (by intro α; show _ = _; kernel_rfl) (by kernel_rfl) ?_
      refine SX.VC_br ((((((invS ss p id).1.needs).length : Nat) : Int) : Int) != 1) (by kernel_rfl) (fun h37 => absurd h37 (by simp [u6])) (fun h37 => ?_)
      try simp only [NRM] at h37
      refine SX.VC_df (.bool true) (fun α => SX.row_bnd (f := cellsI) (l := (invS ss p id).1.needs) (k := 0) (fun _ => rfl) (by decide) (Eq.trans (b := SX.cellsV (.agg ([Value.agg (intsL ((invS ss p id).1.needs)).toArray].flatMap SX.cellsV).toArray)) (by kernel_rfl) (by simp [SX.cellsV, intsL])) (by kernel_rfl) (by rw [u6]; exact Nat.zero_lt_one)) (by kernel_rfl) ?_
      refine SX.VC_df (.int .i64 p.id) (fun α => SX.row_relem (f := cellsI) (l := (invS ss p id).1.needs) (k := 0) (o := 0) (z := p.id) (fun _ => rfl) (by decide) (Eq.trans (b := SX.cellsV (.agg ([Value.agg (intsL ((invS ss p id).1.needs)).toArray].flatMap SX.cellsV).toArray)) (by kernel_rfl) (by simp [SX.cellsV, intsL])) (by kernel_rfl) (by rw [u6]; rfl) (by decide) (by kernel_rfl)) (by kernel_rfl) ?_
      refine SX.VC_df (.bool ((p.id : Int) != p.id)) (by intro α; show _ = _; kernel_rfl) (by kernel_rfl) ?_
      refine SX.VC_br ((p.id : Int) != p.id) (by kernel_rfl) (fun h40 => absurd h40 (by simp [u0])) (fun h40 => ?_)
      try simp only [NRM] at h40
      refine SX.VC_df (.bool ((id : Int) == 1048576)) (by intro α; show _ = _; kernel_rfl) (by kernel_rfl) ?_
      refine SX.VC_br ((id : Int) == 1048576) (by kernel_rfl) (fun h41 => ?_) (fun h41 => ?_)
      · try simp only [NRM] at h41
        exact SX.VC_ret fun α W _ _ hS => SX.ret_of hS (x := .bool true) (by kernel_rfl) rfl
      · try simp only [NRM] at h41
        refine SX.VC_df (.int .i64 (id + 1)) (fun α => Eq.trans (b := some (.int .i64 (IntKind.i64.wrap (id + 1)))) (by kernel_rfl) (by rw [wrap_i64 (by omega) (by omega)])) (by kernel_rfl) ?_
        refine SX.VC_df (.tuple #[ptV (invS ((runS ss [p]).1) ((invS ss p id).1) (id + 1)).1, .int .i64 ((invS ((runS ss [p]).1) ((invS ss p id).1) (id + 1)).2)]) (fun α => ⟨[⟨(α 3).h, 14, sgsL ((runS ss [p]).1)⟩, ⟨valP (invS ss p id).1 (α 1).h, 0, []⟩, ⟨.int .i64 (id + 1), 0, []⟩], [⟨(α 1).h, 1, intsL (invS ss p id).1.needs⟩], ⟨Eq.trans (b := ⟨(α 3).h, 14, [Value.agg (sgsL ((runS ss [p]).1)).toArray].flatMap SX.cellsV⟩) (by simp [SX.cellsV]) (by kernel_rfl), by kernel_rfl, by kernel_rfl, by kernel_rfl, by kernel_rfl, trivial⟩, ⟨Eq.trans (b := ⟨(α 1).h, 1, [Value.agg (intsL (invS ss p id).1.needs).toArray].flatMap SX.cellsV⟩) (by simp [SX.cellsV]) (by kernel_rfl), trivial⟩, .inr (.inr (.inr (.inr (.inr (.inr (.inr (.inr (.inr (.inr (.inl ⟨rfl, _, _, (invS ss p id).1, _, id + 1, rfl, runS_len _ _ (by omega), .inr (by simp), inv_len _ _ _, rfl⟩)))))))))), SX.noAli rfl⟩) (ptV_fit _ _) ?_
        refine SX.VC_df (.bool (((invS ((runS ss [p]).1) ((invS ss p id).1) (id + 1)).2 : Int) != 0)) (by intro α; show _ = _; kernel_rfl) (by kernel_rfl) ?_
        refine SX.VC_br (((invS ((runS ss [p]).1) ((invS ss p id).1) (id + 1)).2 : Int) != 0) (by kernel_rfl) (fun h44 => absurd h44 (by simp [(u9 (by omega)).1])) (fun h44 => ?_)
        try simp only [NRM] at h44
        refine SX.VC_df (.bool ((decide ((⟨p.id, (invS ((runS ss [p]).1) ((invS ss p id).1) (id + 1)).1.kind, (invS ((runS ss [p]).1) ((invS ss p id).1) (id + 1)).1.sign, (invS ((runS ss [p]).1) ((invS ss p id).1) (id + 1)).1.field, (invS ((runS ss [p]).1) ((invS ss p id).1) (id + 1)).1.new, p.needs⟩ : Pt) = p)))) (fun α => ⟨[⟨valP (⟨p.id, (invS ((runS ss [p]).1) ((invS ss p id).1) (id + 1)).1.kind, (invS ((runS ss [p]).1) ((invS ss p id).1) (id + 1)).1.sign, (invS ((runS ss [p]).1) ((invS ss p id).1) (id + 1)).1.field, (invS ((runS ss [p]).1) ((invS ss p id).1) (id + 1)).1.new, p.needs⟩ : Pt) (.slice B m d), 0, []⟩, ⟨valP p (.slice B m d), 0, []⟩], ⟨by kernel_rfl, by kernel_rfl, by kernel_rfl, by kernel_rfl, trivial⟩, .inr (.inr (.inr (.inr (.inr (.inr (.inr (.inr (.inr (.inr (.inr (.inr (.inr (.inl ⟨rfl, (⟨p.id, (invS ((runS ss [p]).1) ((invS ss p id).1) (id + 1)).1.kind, (invS ((runS ss [p]).1) ((invS ss p id).1) (id + 1)).1.sign, (invS ((runS ss [p]).1) ((invS ss p id).1) (id + 1)).1.field, (invS ((runS ss [p]).1) ((invS ss p id).1) (id + 1)).1.new, p.needs⟩ : Pt), p, _, _, rfl, kp, kp, by show p.needs.length ≤ _; omega, by omega, rfl⟩))))))))))))), SX.noAli rfl⟩) (by kernel_rfl) ?_
        exact SX.VC_ret fun α W _ _ hS => SX.ret_of hS (x := .bool ((decide ((⟨p.id, (invS ((runS ss [p]).1) ((invS ss p id).1) (id + 1)).1.kind, (invS ((runS ss [p]).1) ((invS ss p id).1) (id + 1)).1.sign, (invS ((runS ss [p]).1) ((invS ss p id).1) (id + 1)).1.field, (invS ((runS ss [p]).1) ((invS ss p id).1) (id + 1)).1.new, p.needs⟩ : Pt) = p)))) (by kernel_rfl) (by congr 1; rw [decide_eq_true_eq]; exact (u9 (by omega)).2)
end Go.Proofs.Ytodlcjhefojibaa
