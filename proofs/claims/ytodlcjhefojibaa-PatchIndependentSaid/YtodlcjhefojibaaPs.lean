/-
  PatchIndependent: the walk.
-/
import Derived.Test.YtodlcjhefojibaaPr
namespace Go.Proofs.Ytodlcjhefojibaa
set_option linter.unusedSimpArgs false
set_option linter.unusedVariables false
open Go Go.RowKit
def tree_lind : SX.Tree :=
(.df (.call 10 []) [] .one 
(.df .not [(.x 39 [])] .one 
(.br 40 [] 
(.ret (.k (.bool false)) [] []) 
(.df (.len false) [(.x 0 [])] .one 
(.df (.bin .gtr 3) [(.x 41 []), (.k (.int .i64 1000))] .one 
(.br 42 [] 
(.ret (.k (.bool true)) [] []) 
(.df (.call 12 [(.ext 14), .no]) [(.x 0 []), (.a [(.x 1 []), (.x 2 []), (.x 3 []), (.x 4 []), (.x 5 []), (.x 6 []), (.x 7 []), (.x 8 []), (.x 9 []), (.x 10 []), (.x 11 []), (.x 12 []), (.x 13 []), (.x 14 []), (.x 15 []), (.x 16 []), (.x 17 []), (.x 18 []), (.x 19 [])])] (.tp [(.sl 14), .one]) 
(.df (.call 12 [(.ext 14), .no]) [(.x 0 []), (.a [(.x 20 []), (.x 21 []), (.x 22 []), (.x 23 []), (.x 24 []), (.x 25 []), (.x 26 []), (.x 27 []), (.x 28 []), (.x 29 []), (.x 30 []), (.x 31 []), (.x 32 []), (.x 33 []), (.x 34 []), (.x 35 []), (.x 36 []), (.x 37 []), (.x 38 [])])] (.tp [(.sl 14), .one]) 
(.df (.call 22 [.no, .no]) [(.a [(.x 1 []), (.x 2 []), (.x 3 []), (.x 4 []), (.x 5 []), (.x 6 []), (.x 7 []), (.x 8 []), (.x 9 []), (.x 10 []), (.x 11 []), (.x 12 []), (.x 13 []), (.x 14 []), (.x 15 []), (.x 16 []), (.x 17 []), (.x 18 []), (.x 19 [])]), (.a [(.x 20 []), (.x 21 []), (.x 22 []), (.x 23 []), (.x 24 []), (.x 25 []), (.x 26 []), (.x 27 []), (.x 28 []), (.x 29 []), (.x 30 []), (.x 31 []), (.x 32 []), (.x 33 []), (.x 34 []), (.x 35 []), (.x 36 []), (.x 37 []), (.x 38 [])])] (.tp [.one, .one]) 
(.df (.bin .neq 32) [(.x 43 [1]), (.k (.int .i64 0))] .one 
(.br 46 [] 
(.ret (.k (.bool true)) [] []) 
(.df (.bin .neq 32) [(.x 44 [1]), (.k (.int .i64 0))] .one 
(.br 47 [] 
(.ret (.k (.bool true)) [] []) 
(.br 45 [0] 
(.ret (.k (.bool true)) [] []) 
(.df (.call 24 [(.ext 14), .no, .no]) [(.x 0 []), (.a [(.x 1 []), (.x 2 []), (.x 3 []), (.x 4 []), (.x 5 []), (.x 6 []), (.x 7 []), (.x 8 []), (.x 9 []), (.x 10 []), (.x 11 []), (.x 12 []), (.x 13 []), (.x 14 []), (.x 15 []), (.x 16 []), (.x 17 []), (.x 18 []), (.x 19 [])]), (.a [(.x 20 []), (.x 21 []), (.x 22 []), (.x 23 []), (.x 24 []), (.x 25 []), (.x 26 []), (.x 27 []), (.x 28 []), (.x 29 []), (.x 30 []), (.x 31 []), (.x 32 []), (.x 33 []), (.x 34 []), (.x 35 []), (.x 36 []), (.x 37 []), (.x 38 [])])] (.tp [.one, .one]) 
(.df (.call 18 [(.ext 14), (.own 19 [(.x 1 []), (.x 2 []), (.x 3 []), (.x 4 []), (.x 5 []), (.x 6 []), (.x 7 []), (.x 8 []), (.x 9 []), (.x 10 []), (.x 11 []), (.x 12 []), (.x 13 []), (.x 14 []), (.x 15 []), (.x 16 []), (.x 17 []), (.x 18 []), (.x 19 []), (.x 20 []), (.x 21 []), (.x 22 []), (.x 23 []), (.x 24 []), (.x 25 []), (.x 26 []), (.x 27 []), (.x 28 []), (.x 29 []), (.x 30 []), (.x 31 []), (.x 32 []), (.x 33 []), (.x 34 []), (.x 35 []), (.x 36 []), (.x 37 []), (.x 38 [])])]) [(.x 0 []), (.sl 4 0 2 2)] (.tp [(.sl 14), .one]) 
(.df (.call 18 [(.ext 14), (.own 19 [(.x 20 []), (.x 21 []), (.x 22 []), (.x 23 []), (.x 24 []), (.x 25 []), (.x 26 []), (.x 27 []), (.x 28 []), (.x 29 []), (.x 30 []), (.x 31 []), (.x 32 []), (.x 33 []), (.x 34 []), (.x 35 []), (.x 36 []), (.x 37 []), (.x 38 []), (.x 1 []), (.x 2 []), (.x 3 []), (.x 4 []), (.x 5 []), (.x 6 []), (.x 7 []), (.x 8 []), (.x 9 []), (.x 10 []), (.x 11 []), (.x 12 []), (.x 13 []), (.x 14 []), (.x 15 []), (.x 16 []), (.x 17 []), (.x 18 []), (.x 19 [])])]) [(.x 0 []), (.sl 6 0 2 2)] (.tp [(.sl 14), .one]) 
(.df (.bin .eql 32) [(.x 45 [1]), (.k (.int .i64 0))] .one 
(.br 51 [] 
(.df (.bin .eql 32) [(.x 48 [1]), (.k (.int .i64 0))] .one 
(.br 52 [] 
(.br 48 [0] 
(.df (.bin .eql 32) [(.x 49 [1]), (.k (.int .i64 0))] .one 
(.br 53 [] 
(.df (.bin .eql 32) [(.x 50 [1]), (.k (.int .i64 0))] .one 
(.br 54 [] 
(.df (.call 16 [(.row 14 [(.x 49 [0])]), (.row 14 [(.x 50 [0])])]) [(.row 5), (.row 7)] .one 
(.ret (.x 55 []) [] [])) 
(.ret (.k (.bool false)) [] []))) 
(.ret (.k (.bool false)) [] []))) 
(.ret (.k (.bool false)) [] [])) 
(.ret (.k (.bool false)) [] []))) 
(.ret (.k (.bool false)) [] []))))))))))))))))))))
def args_lind : List SX.V := [.x 0 [], .a ((List.range 19).map fun j => .x (1 + j) []), .a ((List.range 19).map fun j => .x (20 + j) [])]
set_option maxRecDepth 100000 in
theorem run_lind (K A : Value → Nat → List Value → Prop) : (SX.run (cxQ K A) ⟨fun _ => false, [], 0, 100⟩ 100000 0 (SX.door 7 Try.f7 args_lind (List.replicate 39 .one)) [.code (Try.f7.body.getD .skip), .top Try.f7]).strip = tree_lind := by kernel_rfl
set_option maxRecDepth 100000 in
set_option maxHeartbeats 4000000 in
theorem lind_any (ss : List Sg) (A : Option Addr) (n c : Nat) (p : Pt) (B : Option Addr) (m d : Nat) (q : Pt) (B' : Option Addr) (m' d' : Nat)  (w : World) (hr : Rd w 14 A n (sgsL ss)) (hn : n ≤ 9223372036854775807) (hc : n ≤ c) (hp : Rd w 1 B m (intsL p.needs)) (hm : m ≤ 9223372036854775807) (hmd : m ≤ d) (hp' : Rd w 1 B' m' (intsL q.needs)) (hm' : m' ≤ 9223372036854775807) (hmd' : m' ≤ d') : Calls Try.prog 7 #[.slice A n c, valP p (.slice B m d), valP q (.slice B' m' d')] w fun e w' => e = .returned (.bool true) ∧ Below w.heap.size w w' := by
  refine SX.calls_of_run (C := cxQ (comK A n c ss p (.slice B m d) q (.slice B' m' d')) (runA A n c ss)) (G := ⟨fun _ => false, [], 0, 100⟩) (args := args_lind) (sh := (List.replicate 39 .one)) (ρ := ([.slice A n c] ++ cellsP p (.slice B m d) ++ cellsP q (.slice B' m' d'))) 100000 tree_lind (okQ _ _) Try.func7 rfl (run_lind _ _) (by kernel_rfl) (by kernel_rfl) (by kernel_rfl) ?_ ?_
  · rintro W hW s sz cells (⟨rfl, rfl, rfl⟩ | ⟨rfl, rfl, rfl⟩ | ⟨rfl, rfl, rfl⟩)
    · exact ⟨hr.same0 hW, hc⟩
    · exact ⟨hp.same0 hW, hmd⟩
    · exact ⟨hp'.same0 hW, hmd'⟩
  have hln : ss.length = n := by have := hr.1; rw [sgsL_len] at this; omega
  have hlm : p.needs.length = m := by have := hp.1; rw [intsL_len] at this; omega
  have hlm' : q.needs.length = m' := by have := hp'.1; rw [intsL_len] at this; omega
  have k1 : comK A n c ss p (.slice B m d) q (.slice B' m' d') (.slice A n c) 14 (sgsL ss) := .inl ⟨rfl, rfl, rfl⟩
  have kp : comK A n c ss p (.slice B m d) q (.slice B' m' d') (.slice B m d) 1 (intsL p.needs) := .inr (.inl ⟨rfl, rfl, rfl⟩)
  have kq : comK A n c ss p (.slice B m d) q (.slice B' m' d') (.slice B' m' d') 1 (intsL q.needs) := .inr (.inr ⟨rfl, rfl, rfl⟩)
  have a1 : runA A n c ss (.slice A n c) 14 (sgsL ss) := ⟨rfl, rfl, rfl⟩
  unfold tree_lind
  refine SX.VC_df (.bool true) (fun α => ⟨[], trivial, .inr (.inr (.inr (.inr (.inr (.inr (.inr (.inr (.inr (.inr (.inr (.inr (.inr (.inr (.inr (.inr (.inr (.inl ⟨rfl, rfl, rfl⟩))))))))))))))))), SX.noAli rfl⟩) (by kernel_rfl) ?_
  refine SX.VC_df (.bool (!(true))) (by intro α; show _ = _; kernel_rfl) (by kernel_rfl) ?_
  refine SX.VC_br (!(true)) (by kernel_rfl) (fun h40 => absurd h40 (by simp)) (fun h40 => ?_)
  try simp only [NRM] at h40
  refine SX.VC_df (.int .i64 (((n : Nat) : Int))) (by intro α; show _ = _; kernel_rfl) (by kernel_rfl) ?_
  refine SX.VC_df (.bool (decide (((n : Nat) : Int) > 1000))) (by intro α; show _ = _; kernel_rfl) (by kernel_rfl) ?_
  refine SX.VC_br (decide (((n : Nat) : Int) > 1000)) (by kernel_rfl) (fun h42 => ?_) (fun h42 => ?_)
  · try simp only [NRM] at h42
    exact SX.VC_ret fun α W _ _ hS => SX.ret_of hS (x := .bool true) (by kernel_rfl) (by first | rfl | (rw [i5]; simp))
  · try simp only [NRM] at h42
    refine SX.VC_df (.tuple #[Value.agg (sgsL (runS ss [p]).1).toArray, .int .i64 ((runS ss [p]).2)]) (fun α => ⟨[⟨.slice A n c, 14, sgsL ss⟩, ⟨valP p (.slice B m d), 0, []⟩], ⟨by kernel_rfl, rfl, cast (by kernel_rfl) k1, by kernel_rfl, by kernel_rfl, trivial⟩, .inl ⟨rfl, _, _, p, (.slice B m d), rfl, by omega, kp, by omega, rfl⟩, fun j hj x sz hx h => (by (obtain rfl : j = 0 := by simpa using (show j ∈ [0] from hj)); cases hx; exact cast (by kernel_rfl) a1)⟩) (sgs_fit _ _) ?_
    refine SX.VC_df (.tuple #[Value.agg (sgsL (runS ss [q]).1).toArray, .int .i64 ((runS ss [q]).2)]) (fun α => ⟨[⟨.slice A n c, 14, sgsL ss⟩, ⟨valP q (.slice B' m' d'), 0, []⟩], ⟨by kernel_rfl, rfl, cast (by kernel_rfl) k1, by kernel_rfl, by kernel_rfl, trivial⟩, .inl ⟨rfl, _, _, q, (.slice B' m' d'), rfl, by omega, kq, by omega, rfl⟩, fun j hj x sz hx h => (by (obtain rfl : j = 0 := by simpa using (show j ∈ [0] from hj)); cases hx; exact cast (by kernel_rfl) a1)⟩) (sgs_fit _ _) ?_
    refine SX.VC_df (.tuple #[.bool ((ovV p q)), .int .i64 ((ovE p q))]) (fun α => ⟨[⟨valP p (.slice B m d), 0, []⟩, ⟨valP q (.slice B' m' d'), 0, []⟩], ⟨by kernel_rfl, by kernel_rfl, by kernel_rfl, by kernel_rfl, trivial⟩, .inr (.inr (.inr (.inr (.inr (.inr (.inl ⟨rfl, p, q, _, _, rfl, kp, kq, by omega, by omega, rfl⟩)))))), SX.noAli rfl⟩) (by kernel_rfl) ?_
    refine SX.VC_df (.bool (((runS ss [p]).2 : Int) != 0)) (by intro α; show _ = _; kernel_rfl) (by kernel_rfl) ?_
    refine SX.VC_br (((runS ss [p]).2 : Int) != 0) (by kernel_rfl) (fun h46 => ?_) (fun h46 => ?_)
    · try simp only [NRM] at h46
      exact SX.VC_ret fun α W _ _ hS => SX.ret_of hS (x := .bool true) (by kernel_rfl) (by first | rfl | (rw [i5]; simp))
    · try simp only [NRM] at h46
      refine SX.VC_df (.bool (((runS ss [q]).2 : Int) != 0)) (by intro α; show _ = _; kernel_rfl) (by kernel_rfl) ?_
      refine SX.VC_br (((runS ss [q]).2 : Int) != 0) (by kernel_rfl) (fun h47 => ?_) (fun h47 => ?_)
      · try simp only [NRM] at h47
        exact SX.VC_ret fun α W _ _ hS => SX.ret_of hS (x := .bool true) (by kernel_rfl) (by first | rfl | (rw [i5]; simp))
      · try simp only [NRM] at h47
        refine SX.VC_br ((ovV p q)) (by kernel_rfl) (fun h45_0 => ?_) (fun h45_0 => ?_)
        · try simp only [NRM] at h45_0
          exact SX.VC_ret fun α W _ _ hS => SX.ret_of hS (x := .bool true) (by kernel_rfl) (by first | rfl | (rw [i5]; simp))
        · try simp only [NRM] at h45_0
          obtain ⟨i1, i2, i3, i4, i5⟩ := indep (by omega) h46 h47 h45_0
          refine SX.VC_df (.tuple #[.bool ((comS ss p q).1), .int .i64 ((comS ss p q).2)]) (fun α => ⟨[⟨.slice A n c, 14, sgsL ss⟩, ⟨valP p (.slice B m d), 0, []⟩, ⟨valP q (.slice B' m' d'), 0, []⟩], ⟨by kernel_rfl, rfl, cast (by kernel_rfl) k1, by kernel_rfl, by kernel_rfl, by kernel_rfl, by kernel_rfl, trivial⟩, .inr (.inr (.inr (.inr (.inr (.inr (.inr (.inr (.inl ⟨rfl, _, _, p, q, _, _, rfl, by omega, kp, kq, by omega, by omega, rfl⟩)))))))), SX.noAli rfl⟩) (by kernel_rfl) ?_
          refine SX.VC_df (.tuple #[Value.agg (sgsL (runS ss [p, q]).1).toArray, .int .i64 ((runS ss [p, q]).2)]) (fun α => ⟨[⟨.slice A n c, 14, sgsL ss⟩, ⟨(.slice (some ⟨(α 4).b, 0, none⟩) 2 2), 19, pvL [(p, (.slice B m d)), (q, (.slice B' m' d'))]⟩], ⟨by kernel_rfl, rfl, cast (by kernel_rfl) k1, by kernel_rfl, trivial⟩, .inr (.inr (.inl ⟨rfl, _, _, _, [(p, (.slice B m d)), (q, (.slice B' m' d'))], rfl, by omega, by simp, (by intro x hx; simp only [List.mem_cons, List.not_mem_nil, or_false] at hx; rcases hx with rfl | rfl; exact ⟨kp, by show p.needs.length ≤ _; omega⟩; exact ⟨kq, by show q.needs.length ≤ _; omega⟩), rfl⟩)), fun j hj x sz hx h => (by (obtain rfl : j = 0 := by simpa using (show j ∈ [0] from hj)); cases hx; exact cast (by kernel_rfl) a1)⟩) (sgs_fit _ _) ?_
          refine SX.VC_df (.tuple #[Value.agg (sgsL (runS ss [q, p]).1).toArray, .int .i64 ((runS ss [q, p]).2)]) (fun α => ⟨[⟨.slice A n c, 14, sgsL ss⟩, ⟨(.slice (some ⟨(α 6).b, 0, none⟩) 2 2), 19, pvL [(q, (.slice B' m' d')), (p, (.slice B m d))]⟩], ⟨by kernel_rfl, rfl, cast (by kernel_rfl) k1, by kernel_rfl, trivial⟩, .inr (.inr (.inl ⟨rfl, _, _, _, [(q, (.slice B' m' d')), (p, (.slice B m d))], rfl, by omega, by simp, (by intro x hx; simp only [List.mem_cons, List.not_mem_nil, or_false] at hx; rcases hx with rfl | rfl; exact ⟨kq, by show q.needs.length ≤ _; omega⟩; exact ⟨kp, by show p.needs.length ≤ _; omega⟩), rfl⟩)), fun j hj x sz hx h => (by (obtain rfl : j = 0 := by simpa using (show j ∈ [0] from hj)); cases hx; exact cast (by kernel_rfl) a1)⟩) (sgs_fit _ _) ?_
          refine SX.VC_df (.bool (((ovE p q) : Int) == 0)) (by intro α; show _ = _; kernel_rfl) (by kernel_rfl) ?_
          refine SX.VC_br (((ovE p q) : Int) == 0) (by kernel_rfl) (fun h51 => ?_) (fun h51 => absurd h51 (by simp [i1]))
          try simp only [NRM] at h51
          refine SX.VC_df (.bool (((comS ss p q).2 : Int) == 0)) (by intro α; show _ = _; kernel_rfl) (by kernel_rfl) ?_
          refine SX.VC_br (((comS ss p q).2 : Int) == 0) (by kernel_rfl) (fun h52 => ?_) (fun h52 => absurd h52 (by simp [i2]))
          try simp only [NRM] at h52
          refine SX.VC_br ((comS ss p q).1) (by kernel_rfl) (fun h48_0 => ?_) (fun h48_0 => absurd h48_0 (by simp [i2]))
          try simp only [NRM] at h48_0
          refine SX.VC_df (.bool (((runS ss [p, q]).2 : Int) == 0)) (by intro α; show _ = _; kernel_rfl) (by kernel_rfl) ?_
          refine SX.VC_br (((runS ss [p, q]).2 : Int) == 0) (by kernel_rfl) (fun h53 => ?_) (fun h53 => absurd h53 (by simp [i3]))
          try simp only [NRM] at h53
          refine SX.VC_df (.bool (((runS ss [q, p]).2 : Int) == 0)) (by intro α; show _ = _; kernel_rfl) (by kernel_rfl) ?_
          refine SX.VC_br (((runS ss [q, p]).2 : Int) == 0) (by kernel_rfl) (fun h54 => ?_) (fun h54 => absurd h54 (by simp [i4]))
          try simp only [NRM] at h54
          refine SX.VC_df (.bool ((decide (((runS ss [p, q]).1) = ((runS ss [q, p]).1))))) (fun α => ⟨[⟨(α 5).h, 14, sgsL ((runS ss [p, q]).1)⟩, ⟨(α 7).h, 14, sgsL ((runS ss [q, p]).1)⟩], ⟨Eq.trans (b := ⟨(α 5).h, 14, [Value.agg (sgsL ((runS ss [p, q]).1)).toArray].flatMap SX.cellsV⟩) (by simp [SX.cellsV]) (by kernel_rfl), Eq.trans (b := ⟨(α 7).h, 14, [Value.agg (sgsL ((runS ss [q, p]).1)).toArray].flatMap SX.cellsV⟩) (by simp [SX.cellsV]) (by kernel_rfl), trivial⟩, .inr (.inr (.inr (.inr (.inr (.inr (.inr (.inr (.inr (.inr (.inr (.inr (.inl ⟨rfl, _, _, _, _, rfl, runS_len _ _ (by omega), runS_len _ _ (by omega), rfl⟩)))))))))))), SX.noAli rfl⟩) (by kernel_rfl) ?_
          exact SX.VC_ret fun α W _ _ hS => SX.ret_of hS (x := .bool ((decide (((runS ss [p, q]).1) = ((runS ss [q, p]).1))))) (by kernel_rfl) (by first | rfl | (rw [i5]; simp))
end Go.Proofs.Ytodlcjhefojibaa
