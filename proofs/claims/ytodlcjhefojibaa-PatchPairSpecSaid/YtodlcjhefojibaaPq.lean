/-
  PatchSpec, PatchRunSpec, PatchPairSpec: the walks.
-/
import Derived.Test.YtodlcjhefojibaaPp
namespace Go.Proofs.Ytodlcjhefojibaa
set_option linter.unusedSimpArgs false
set_option linter.unusedVariables false
open Go Go.RowKit
theorem inv_len (ss : List Sg) (p : Pt) (id : Int) : (invS ss p id).1.needs.length ≤ 9223372036854775807 := by
  unfold invS
  split
  · split
    · simp [zeroPt]
    · unfold invP
      split
      · simp
      · split <;> simp
  · simp [zeroPt]
theorem ptV_fit (p : Pt) (k : Int) : SX.Sh.fit (.tp [.agl (List.replicate 18 .one ++ [.sl 1]), .one]) (.tuple #[ptV p, .int .i64 k]) = true := by
  have h2 : (intsL p.needs).all (·.oneCell') = true := by
    rw [List.all_eq_true]
    intro u hu
    obtain ⟨a, _, h⟩ := List.mem_flatMap.1 hu
    obtain rfl : u = .int .i64 a := by simpa [cellsI] using h
    rfl
  have h3 : SX.Sh.fit (.sl 1) (.agg (intsL p.needs).toArray) = true := by
    simp only [SX.Sh.fit, h2, Nat.mod_one]
    rfl
  have h4 : SX.Sh.fit (.agl (List.replicate 18 .one ++ [.sl 1])) (ptV p) = true := by
    show SX.Sh.fitL (List.replicate 18 .one ++ [.sl 1]) ([Value.int .i64 p.id, Value.int .i64 p.kind, Value.int .i64 p.sign, Value.int .i64 p.field] ++ cellsSg p.new ++ [Value.agg (intsL p.needs).toArray]) = true
    simp only [List.replicate, List.cons_append, List.nil_append, cellsSg, SX.Sh.fitL, h3]
    rfl
  show (SX.Sh.fit (.agl (List.replicate 18 .one ++ [.sl 1])) (ptV p) && (SX.Sh.fit .one (Value.int .i64 k) && true)) = true
  rw [h4]
  rfl
def tree_lspec : SX.Tree :=
(.df (.call 10 []) [] .one 
(.df .not [(.x 20 [])] .one 
(.br 21 [] 
(.ret (.k (.bool false)) [] []) 
(.df (.call 11 [(.ext 14)]) [(.x 0 [])] .one 
(.df .not [(.x 22 [])] .one 
(.br 23 [] 
(.ret (.k (.bool true)) [] []) 
(.df (.len false) [(.x 19 [])] .one 
(.df (.bin .gtr 3) [(.x 24 []), (.k (.int .i64 100))] .one 
(.br 25 [] 
(.ret (.k (.bool true)) [] []) 
(.df (.call 12 [(.ext 14), .no]) [(.x 0 []), (.a [(.x 1 []), (.x 2 []), (.x 3 []), (.x 4 []), (.x 5 []), (.x 6 []), (.x 7 []), (.x 8 []), (.x 9 []), (.x 10 []), (.x 11 []), (.x 12 []), (.x 13 []), (.x 14 []), (.x 15 []), (.x 16 []), (.x 17 []), (.x 18 []), (.x 19 [])])] (.tp [(.sl 14), .one]) 
(.df (.call 13 [(.ext 14), .no]) [(.x 0 []), (.a [(.x 1 []), (.x 2 []), (.x 3 []), (.x 4 []), (.x 5 []), (.x 6 []), (.x 7 []), (.x 8 []), (.x 9 []), (.x 10 []), (.x 11 []), (.x 12 []), (.x 13 []), (.x 14 []), (.x 15 []), (.x 16 []), (.x 17 []), (.x 18 []), (.x 19 [])])] (.tp [(.sl 14), .one]) 
(.df (.call 14 [.no]) [(.a [(.x 1 []), (.x 2 []), (.x 3 []), (.x 4 []), (.x 5 []), (.x 6 []), (.x 7 []), (.x 8 []), (.x 9 []), (.x 10 []), (.x 11 []), (.x 12 []), (.x 13 []), (.x 14 []), (.x 15 []), (.x 16 []), (.x 17 []), (.x 18 []), (.x 19 [])])] .one 
(.df (.call 15 [.no]) [(.a [(.x 1 []), (.x 2 []), (.x 3 []), (.x 4 []), (.x 5 []), (.x 6 []), (.x 7 []), (.x 8 []), (.x 9 []), (.x 10 []), (.x 11 []), (.x 12 []), (.x 13 []), (.x 14 []), (.x 15 []), (.x 16 []), (.x 17 []), (.x 18 []), (.x 19 [])])] .one 
(.df (.bin .eql 32) [(.x 28 []), (.x 29 [])] .one 
(.br 30 [] 
(.df (.call 16 [(.row 14 [(.x 26 [0])]), (.row 14 [(.x 27 [0])])]) [(.row 1), (.row 2)] .one 
(.br 31 [] 
(.df (.bin .eql 32) [(.x 26 [1]), (.x 27 [1])] .one 
(.ret (.x 32 []) [] [])) 
(.ret (.k (.bool false)) [] []))) 
(.ret (.k (.bool false)) [] []))))))))))))))))
def args_lspec : List SX.V := [.x 0 [], .a ((List.range 19).map fun j => .x (1 + j) [])]
set_option maxRecDepth 100000 in
theorem run_lspec (K A : Value → Nat → List Value → Prop) : (SX.run (cxQ K A) ⟨fun _ => false, [], 0, 100⟩ 100000 0 (SX.door 3 Try.f3 args_lspec (List.replicate 20 .one)) [.code (Try.f3.body.getD .skip), .top Try.f3]).strip = tree_lspec := by kernel_rfl
set_option maxRecDepth 100000 in
set_option maxHeartbeats 4000000 in
theorem lspec_any (ss : List Sg) (A : Option Addr) (n c : Nat) (p : Pt) (B : Option Addr) (m d : Nat)  (w : World) (hr : Rd w 14 A n (sgsL ss)) (hn : n ≤ 9223372036854775807) (hc : n ≤ c) (hp : Rd w 1 B m (intsL p.needs)) (hm : m ≤ 9223372036854775807) (hmd : m ≤ d) : Calls Try.prog 3 #[.slice A n c, valP p (.slice B m d)] w fun e w' => e = .returned (.bool true) ∧ Below w.heap.size w w' := by
  refine SX.calls_of_run (C := cxQ (apK A n c ss p (.slice B m d)) (runA A n c ss)) (G := ⟨fun _ => false, [], 0, 100⟩) (args := args_lspec) (sh := (List.replicate 20 .one)) (ρ := ([.slice A n c] ++ cellsP p (.slice B m d))) 100000 tree_lspec (okQ _ _) Try.func3 rfl (run_lspec _ _) (by kernel_rfl) (by kernel_rfl) (by kernel_rfl) ?_ ?_
  · rintro W hW s sz cells (⟨rfl, rfl, rfl⟩ | ⟨rfl, rfl, rfl⟩)
    · exact ⟨hr.same0 hW, hc⟩
    · exact ⟨hp.same0 hW, hmd⟩
  have hln : ss.length = n := by have := hr.1; rw [sgsL_len] at this; omega
  have hlm : p.needs.length = m := by have := hp.1; rw [intsL_len] at this; omega
  have k1 : apK A n c ss p (.slice B m d) (.slice A n c) 14 (sgsL ss) := .inl ⟨rfl, rfl, rfl⟩
  have kp : apK A n c ss p (.slice B m d) (.slice B m d) 1 (intsL p.needs) := .inr ⟨rfl, rfl, rfl⟩
  have a1 : runA A n c ss (.slice A n c) 14 (sgsL ss) := ⟨rfl, rfl, rfl⟩
  unfold tree_lspec
  refine SX.VC_df (.bool true) (fun α => ⟨[], trivial, .inr (.inr (.inr (.inr (.inr (.inr (.inr (.inr (.inr (.inr (.inr (.inr (.inr (.inr (.inr (.inr (.inr (.inl ⟨rfl, rfl, rfl⟩))))))))))))))))), SX.noAli rfl⟩) (by kernel_rfl) ?_
  refine SX.VC_df (.bool (!(true))) (by intro α; show _ = _; kernel_rfl) (by kernel_rfl) ?_
  refine SX.VC_br (!(true)) (by kernel_rfl) (fun h21 => absurd h21 (by simp)) (fun h21 => ?_)
  try simp only [Bool.true_bne, Bool.false_bne, Bool.true_xor, Bool.false_xor, Bool.not_eq_true', Bool.not_eq_false', decide_eq_true_eq, decide_eq_false_iff_not, beq_iff_eq, bne_iff_ne, ne_eq, beq_eq_false_iff_ne, bne_eq_false_iff_eq, Int.not_lt, Int.not_le, gt_iff_lt, ge_iff_le] at h21
  refine SX.VC_df (.bool ((fewS ss))) (fun α => ⟨[⟨.slice A n c, 14, sgsL ss⟩], ⟨by kernel_rfl, rfl, cast (by kernel_rfl) k1, trivial⟩, .inr (.inr (.inr (.inr (.inr (.inr (.inr (.inr (.inr (.inr (.inr (.inr (.inr (.inr (.inl ⟨rfl, _, _, rfl, by omega, rfl⟩)))))))))))))), SX.noAli rfl⟩) (by kernel_rfl) ?_
  refine SX.VC_df (.bool (!((fewS ss)))) (by intro α; show _ = _; kernel_rfl) (by kernel_rfl) ?_
  refine SX.VC_br (!((fewS ss))) (by kernel_rfl) (fun h23 => ?_) (fun h23 => ?_)
  · try simp only [Bool.true_bne, Bool.false_bne, Bool.true_xor, Bool.false_xor, Bool.not_eq_true', Bool.not_eq_false', decide_eq_true_eq, decide_eq_false_iff_not, beq_iff_eq, bne_iff_ne, ne_eq, beq_eq_false_iff_ne, bne_eq_false_iff_eq, Int.not_lt, Int.not_le, gt_iff_lt, ge_iff_le] at h23
    exact SX.VC_ret fun α W _ _ hS => SX.ret_of hS (x := .bool true) (by kernel_rfl) (by simp)
  · try simp only [Bool.true_bne, Bool.false_bne, Bool.true_xor, Bool.false_xor, Bool.not_eq_true', Bool.not_eq_false', decide_eq_true_eq, decide_eq_false_iff_not, beq_iff_eq, bne_iff_ne, ne_eq, beq_eq_false_iff_ne, bne_eq_false_iff_eq, Int.not_lt, Int.not_le, gt_iff_lt, ge_iff_le] at h23
    refine SX.VC_df (.int .i64 (((m : Nat) : Int))) (by intro α; show _ = _; kernel_rfl) (by kernel_rfl) ?_
    refine SX.VC_df (.bool (decide (((m : Nat) : Int) > 100))) (by intro α; show _ = _; kernel_rfl) (by kernel_rfl) ?_
    refine SX.VC_br (decide (((m : Nat) : Int) > 100)) (by kernel_rfl) (fun h25 => ?_) (fun h25 => ?_)
    · try simp only [Bool.true_bne, Bool.false_bne, Bool.true_xor, Bool.false_xor, Bool.not_eq_true', Bool.not_eq_false', decide_eq_true_eq, decide_eq_false_iff_not, beq_iff_eq, bne_iff_ne, ne_eq, beq_eq_false_iff_ne, bne_eq_false_iff_eq, Int.not_lt, Int.not_le, gt_iff_lt, ge_iff_le] at h25
      exact SX.VC_ret fun α W _ _ hS => SX.ret_of hS (x := .bool true) (by kernel_rfl) (by simp)
    · try simp only [Bool.true_bne, Bool.false_bne, Bool.true_xor, Bool.false_xor, Bool.not_eq_true', Bool.not_eq_false', decide_eq_true_eq, decide_eq_false_iff_not, beq_iff_eq, bne_iff_ne, ne_eq, beq_eq_false_iff_ne, bne_eq_false_iff_eq, Int.not_lt, Int.not_le, gt_iff_lt, ge_iff_le] at h25
      refine SX.VC_df (.tuple #[Value.agg (sgsL (runS ss [p]).1).toArray, .int .i64 ((runS ss [p]).2)]) (fun α => ⟨[⟨.slice A n c, 14, sgsL ss⟩, ⟨valP p (.slice B m d), 0, []⟩], ⟨by kernel_rfl, rfl, cast (by kernel_rfl) k1, by kernel_rfl, by kernel_rfl, trivial⟩, .inl ⟨rfl, _, _, p, (.slice B m d), rfl, by omega, kp, by omega, rfl⟩, fun j hj x sz hx h => (by (obtain rfl : j = 0 := by simpa using (show j ∈ [0] from hj)); cases hx; exact cast (by kernel_rfl) a1)⟩) (sgs_fit _ _) ?_
      refine SX.VC_df (.tuple #[Value.agg (sgsL (runS ss [p]).1).toArray, .int .i64 ((runS ss [p]).2)]) (fun α => ⟨[⟨.slice A n c, 14, sgsL ss⟩, ⟨valP p (.slice B m d), 0, []⟩], ⟨by kernel_rfl, rfl, cast (by kernel_rfl) k1, by kernel_rfl, by kernel_rfl, trivial⟩, .inr (.inl ⟨rfl, _, _, p, (.slice B m d), rfl, by omega, kp, by omega, rfl⟩), fun j hj x sz hx h => (by (obtain rfl : j = 0 := by simpa using (show j ∈ [0] from hj)); cases hx; exact cast (by kernel_rfl) a1)⟩) (sgs_fit _ _) ?_
      refine SX.VC_df (.int .i64 ((chkP p))) (fun α => ⟨[⟨valP p (.slice B m d), 0, []⟩], ⟨by kernel_rfl, by kernel_rfl, trivial⟩, .inr (.inr (.inr (.inr (.inl ⟨rfl, p, (.slice B m d), rfl, kp, by omega, rfl⟩)))), SX.noAli rfl⟩) (by kernel_rfl) ?_
      refine SX.VC_df (.int .i64 ((chkP p))) (fun α => ⟨[⟨valP p (.slice B m d), 0, []⟩], ⟨by kernel_rfl, by kernel_rfl, trivial⟩, .inr (.inr (.inr (.inr (.inr (.inl ⟨rfl, p, (.slice B m d), rfl, kp, by omega, rfl⟩))))), SX.noAli rfl⟩) (by kernel_rfl) ?_
      refine SX.VC_df (.bool (((chkP p) : Int) == (chkP p))) (by intro α; show _ = _; kernel_rfl) (by kernel_rfl) ?_
      refine SX.VC_br (((chkP p) : Int) == (chkP p)) (by kernel_rfl) (fun h30 => ?_) (fun h30 => absurd h30 (by simp))
      try simp only [Bool.true_bne, Bool.false_bne, Bool.true_xor, Bool.false_xor, Bool.not_eq_true', Bool.not_eq_false', decide_eq_true_eq, decide_eq_false_iff_not, beq_iff_eq, bne_iff_ne, ne_eq, beq_eq_false_iff_ne, bne_eq_false_iff_eq, Int.not_lt, Int.not_le, gt_iff_lt, ge_iff_le] at h30
      refine SX.VC_df (.bool ((decide (((runS ss [p]).1) = ((runS ss [p]).1))))) (fun α => ⟨[⟨(α 1).h, 14, sgsL ((runS ss [p]).1)⟩, ⟨(α 2).h, 14, sgsL ((runS ss [p]).1)⟩], ⟨Eq.trans (b := ⟨(α 1).h, 14, [Value.agg (sgsL ((runS ss [p]).1)).toArray].flatMap SX.cellsV⟩) (by simp [SX.cellsV]) (by kernel_rfl), Eq.trans (b := ⟨(α 2).h, 14, [Value.agg (sgsL ((runS ss [p]).1)).toArray].flatMap SX.cellsV⟩) (by simp [SX.cellsV]) (by kernel_rfl), trivial⟩, .inr (.inr (.inr (.inr (.inr (.inr (.inr (.inr (.inr (.inr (.inr (.inr (.inl ⟨rfl, _, _, _, _, rfl, runS_len _ _ (by omega), runS_len _ _ (by omega), rfl⟩)))))))))))), SX.noAli rfl⟩) (by kernel_rfl) ?_
      refine SX.VC_br ((decide (((runS ss [p]).1) = ((runS ss [p]).1)))) (by kernel_rfl) (fun h31 => ?_) (fun h31 => absurd h31 (by simp))
      try simp only [Bool.true_bne, Bool.false_bne, Bool.true_xor, Bool.false_xor, Bool.not_eq_true', Bool.not_eq_false', decide_eq_true_eq, decide_eq_false_iff_not, beq_iff_eq, bne_iff_ne, ne_eq, beq_eq_false_iff_ne, bne_eq_false_iff_eq, Int.not_lt, Int.not_le, gt_iff_lt, ge_iff_le] at h31
      refine SX.VC_df (.bool (((runS ss [p]).2 : Int) == (runS ss [p]).2)) (by intro α; show _ = _; kernel_rfl) (by kernel_rfl) ?_
      exact SX.VC_ret fun α W _ _ hS => SX.ret_of hS (x := .bool (((runS ss [p]).2 : Int) == (runS ss [p]).2)) (by kernel_rfl) (by simp)
def runsK (A : Option Addr) (n c : Nat) (ss : List Sg) (A' : Option Addr) (n' c' : Nat) (pl : List Ph) (s : Value) (sz : Nat) (cells : List Value) : Prop :=
  (s = .slice A n c ∧ sz = 14 ∧ cells = sgsL ss) ∨ (s = .slice A' n' c' ∧ sz = 19 ∧ cells = pvL (pl.map ofPh)) ∨ ∃ q ∈ pl, s = Ph.h q ∧ sz = 1 ∧ cells = intsL q.1.needs
def tree_lrun : SX.Tree :=
(.df (.call 10 []) [] .one 
(.df .not [(.x 2 [])] .one 
(.br 3 [] 
(.ret (.k (.bool false)) [] []) 
(.df (.call 11 [(.ext 14)]) [(.x 0 [])] .one 
(.df .not [(.x 4 [])] .one 
(.br 5 [] 
(.ret (.k (.bool true)) [] []) 
(.df (.call 17 [(.ext 19)]) [(.x 1 [])] .one 
(.df .not [(.x 6 [])] .one 
(.br 7 [] 
(.ret (.k (.bool true)) [] []) 
(.df (.call 18 [(.ext 14), (.ext 19)]) [(.x 0 []), (.x 1 [])] (.tp [(.sl 14), .one]) 
(.df (.call 19 [(.ext 14), (.ext 19)]) [(.x 0 []), (.x 1 [])] (.tp [(.sl 14), .one]) 
(.df (.call 16 [(.row 14 [(.x 8 [0])]), (.row 14 [(.x 9 [0])])]) [(.row 0), (.row 1)] .one 
(.br 10 [] 
(.df (.bin .eql 32) [(.x 8 [1]), (.x 9 [1])] .one 
(.ret (.x 11 []) [] [])) 
(.ret (.k (.bool false)) [] []))))))))))))))
def args_lrun : List SX.V := [.x 0 [], .x 1 []]
set_option maxRecDepth 100000 in
theorem run_lrun (K A : Value → Nat → List Value → Prop) : (SX.run (cxQ K A) ⟨fun _ => false, [], 0, 100⟩ 100000 0 (SX.door 4 Try.f4 args_lrun (List.replicate 2 .one)) [.code (Try.f4.body.getD .skip), .top Try.f4]).strip = tree_lrun := by kernel_rfl
set_option maxRecDepth 100000 in
set_option maxHeartbeats 4000000 in
theorem lrun_any (ss : List Sg) (A : Option Addr) (n c : Nat) (pl : List Ph) (A' : Option Addr) (n' c' : Nat) (w : World) (hr : Rd w 14 A n (sgsL ss)) (hn : n ≤ 9223372036854775807) (hc : n ≤ c) (hr' : Rd w 19 A' n' (phL pl)) (hn' : n' ≤ 9223372036854775807) (hc' : n' ≤ c') (hq : ∀ q ∈ pl, Rd w 1 q.2.1 q.2.2.1 (intsL q.1.needs) ∧ q.2.2.1 ≤ q.2.2.2 ∧ q.2.2.1 ≤ 9223372036854775807) : Calls Try.prog 4 #[.slice A n c, .slice A' n' c'] w fun e w' => e = .returned (.bool true) ∧ Below w.heap.size w w' := by
  refine SX.calls_of_run (C := cxQ (runsK A n c ss A' n' c' pl) (runA A n c ss)) (G := ⟨fun _ => false, [], 0, 100⟩) (args := args_lrun) (sh := (List.replicate 2 .one)) (ρ := [.slice A n c, .slice A' n' c']) 100000 tree_lrun (okQ _ _) Try.func4 rfl (run_lrun _ _) (by kernel_rfl) (by kernel_rfl) (by kernel_rfl) ?_ ?_
  · rintro W hW s sz cells (⟨rfl, rfl, rfl⟩ | ⟨rfl, rfl, rfl⟩ | ⟨q, hqm, rfl, rfl, rfl⟩)
    · exact ⟨hr.same0 hW, hc⟩
    · exact ⟨by rw [pv_of]; exact hr'.same0 hW, hc'⟩
    · exact ⟨(hq q hqm).1.same0 hW, (hq q hqm).2.1⟩
  have hln : ss.length = n := by have := hr.1; rw [sgsL_len] at this; omega
  have hlp : pl.length = n' := by have := hr'.1; rw [phL_len] at this; omega
  have hqn : ∀ q ∈ pl, q.1.needs.length = q.2.2.1 ∧ q.2.2.1 ≤ 9223372036854775807 := fun q hqm => by
    have := hq q hqm
    have h9 := this.1.1
    simp only [intsL_len] at h9
    exact ⟨by omega, this.2.2⟩
  have hpm : (pl.map ofPh).map (·.1) = pl.map (·.1) := by rw [List.map_map]; rfl
  have k1 : runsK A n c ss A' n' c' pl (.slice A n c) 14 (sgsL ss) := .inl ⟨rfl, rfl, rfl⟩
  have k2 : runsK A n c ss A' n' c' pl (.slice A' n' c') 19 (pvL (pl.map ofPh)) := .inr (.inl ⟨rfl, rfl, rfl⟩)
  have kpl : ∀ q ∈ pl.map ofPh, runsK A n c ss A' n' c' pl q.2 1 (intsL q.1.needs) ∧ q.1.needs.length ≤ 9223372036854775807 := fun q hqm => by
    obtain ⟨x, hx, rfl⟩ := List.mem_map.1 hqm
    exact ⟨.inr (.inr ⟨x, hx, rfl, rfl, rfl⟩), by have := hqn x hx; show x.1.needs.length ≤ _; omega⟩
  have a1 : runA A n c ss (.slice A n c) 14 (sgsL ss) := ⟨rfl, rfl, rfl⟩
  unfold tree_lrun
  refine SX.VC_df (.bool true) (fun α => ⟨[], trivial, .inr (.inr (.inr (.inr (.inr (.inr (.inr (.inr (.inr (.inr (.inr (.inr (.inr (.inr (.inr (.inr (.inr (.inl ⟨rfl, rfl, rfl⟩))))))))))))))))), SX.noAli rfl⟩) (by kernel_rfl) ?_
  refine SX.VC_df (.bool (!(true))) (by intro α; show _ = _; kernel_rfl) (by kernel_rfl) ?_
  refine SX.VC_br (!(true)) (by kernel_rfl) (fun h3 => absurd h3 (by simp)) (fun h3 => ?_)
  try simp only [Bool.true_bne, Bool.false_bne, Bool.true_xor, Bool.false_xor, Bool.not_eq_true', Bool.not_eq_false', decide_eq_true_eq, decide_eq_false_iff_not, beq_iff_eq, bne_iff_ne, ne_eq, beq_eq_false_iff_ne, bne_eq_false_iff_eq, Int.not_lt, Int.not_le, gt_iff_lt, ge_iff_le] at h3
  refine SX.VC_df (.bool ((fewS ss))) (fun α => ⟨[⟨.slice A n c, 14, sgsL ss⟩], ⟨by kernel_rfl, rfl, cast (by kernel_rfl) k1, trivial⟩, .inr (.inr (.inr (.inr (.inr (.inr (.inr (.inr (.inr (.inr (.inr (.inr (.inr (.inr (.inl ⟨rfl, _, _, rfl, by omega, rfl⟩)))))))))))))), SX.noAli rfl⟩) (by kernel_rfl) ?_
  refine SX.VC_df (.bool (!((fewS ss)))) (by intro α; show _ = _; kernel_rfl) (by kernel_rfl) ?_
  refine SX.VC_br (!((fewS ss))) (by kernel_rfl) (fun h5 => ?_) (fun h5 => ?_)
  · try simp only [Bool.true_bne, Bool.false_bne, Bool.true_xor, Bool.false_xor, Bool.not_eq_true', Bool.not_eq_false', decide_eq_true_eq, decide_eq_false_iff_not, beq_iff_eq, bne_iff_ne, ne_eq, beq_eq_false_iff_ne, bne_eq_false_iff_eq, Int.not_lt, Int.not_le, gt_iff_lt, ge_iff_le] at h5
    exact SX.VC_ret fun α W _ _ hS => SX.ret_of hS (x := .bool true) (by kernel_rfl) (by simp)
  · try simp only [Bool.true_bne, Bool.false_bne, Bool.true_xor, Bool.false_xor, Bool.not_eq_true', Bool.not_eq_false', decide_eq_true_eq, decide_eq_false_iff_not, beq_iff_eq, bne_iff_ne, ne_eq, beq_eq_false_iff_ne, bne_eq_false_iff_eq, Int.not_lt, Int.not_le, gt_iff_lt, ge_iff_le] at h5
    refine SX.VC_df (.bool ((smallS pl))) (fun α => ⟨[⟨.slice A' n' c', 19, pvL (pl.map ofPh)⟩], ⟨by kernel_rfl, rfl, cast (by kernel_rfl) k2, trivial⟩, .inr (.inr (.inr (.inr (.inr (.inr (.inr (.inr (.inr (.inr (.inr (.inr (.inr (.inr (.inr (.inr (.inr (.inr (.inl ⟨rfl, _, pl, rfl, by omega, hqn, rfl⟩)))))))))))))))))), SX.noAli rfl⟩) (by kernel_rfl) ?_
    refine SX.VC_df (.bool (!((smallS pl)))) (by intro α; show _ = _; kernel_rfl) (by kernel_rfl) ?_
    refine SX.VC_br (!((smallS pl))) (by kernel_rfl) (fun h7 => ?_) (fun h7 => ?_)
    · try simp only [Bool.true_bne, Bool.false_bne, Bool.true_xor, Bool.false_xor, Bool.not_eq_true', Bool.not_eq_false', decide_eq_true_eq, decide_eq_false_iff_not, beq_iff_eq, bne_iff_ne, ne_eq, beq_eq_false_iff_ne, bne_eq_false_iff_eq, Int.not_lt, Int.not_le, gt_iff_lt, ge_iff_le] at h7
      exact SX.VC_ret fun α W _ _ hS => SX.ret_of hS (x := .bool true) (by kernel_rfl) (by simp)
    · try simp only [Bool.true_bne, Bool.false_bne, Bool.true_xor, Bool.false_xor, Bool.not_eq_true', Bool.not_eq_false', decide_eq_true_eq, decide_eq_false_iff_not, beq_iff_eq, bne_iff_ne, ne_eq, beq_eq_false_iff_ne, bne_eq_false_iff_eq, Int.not_lt, Int.not_le, gt_iff_lt, ge_iff_le] at h7
      refine SX.VC_df (.tuple #[Value.agg (sgsL (runS ss (pl.map (·.1))).1).toArray, .int .i64 ((runS ss (pl.map (·.1))).2)]) (fun α => ⟨[⟨.slice A n c, 14, sgsL ss⟩, ⟨.slice A' n' c', 19, pvL (pl.map ofPh)⟩], ⟨by kernel_rfl, rfl, cast (by kernel_rfl) k1, by kernel_rfl, rfl, cast (by kernel_rfl) k2, trivial⟩, .inr (.inr (.inl ⟨rfl, _, _, _, pl.map ofPh, rfl, by omega, by simp; omega, kpl, by rw [hpm]⟩)), fun j hj x sz hx h => (by (obtain rfl : j = 0 := by simpa using (show j ∈ [0] from hj)); cases hx; exact cast (by kernel_rfl) a1)⟩) (sgs_fit _ _) ?_
      refine SX.VC_df (.tuple #[Value.agg (sgsL (runS ss (pl.map (·.1))).1).toArray, .int .i64 ((runS ss (pl.map (·.1))).2)]) (fun α => ⟨[⟨.slice A n c, 14, sgsL ss⟩, ⟨.slice A' n' c', 19, pvL (pl.map ofPh)⟩], ⟨by kernel_rfl, rfl, cast (by kernel_rfl) k1, by kernel_rfl, rfl, cast (by kernel_rfl) k2, trivial⟩, .inr (.inr (.inr (.inl ⟨rfl, _, _, _, pl.map ofPh, rfl, by omega, by simp; omega, kpl, by rw [hpm]⟩))), fun j hj x sz hx h => (by (obtain rfl : j = 0 := by simpa using (show j ∈ [0] from hj)); cases hx; exact cast (by kernel_rfl) a1)⟩) (sgs_fit _ _) ?_
      refine SX.VC_df (.bool ((decide (((runS ss (pl.map (·.1))).1) = ((runS ss (pl.map (·.1))).1))))) (fun α => ⟨[⟨(α 0).h, 14, sgsL ((runS ss (pl.map (·.1))).1)⟩, ⟨(α 1).h, 14, sgsL ((runS ss (pl.map (·.1))).1)⟩], ⟨Eq.trans (b := ⟨(α 0).h, 14, [Value.agg (sgsL ((runS ss (pl.map (·.1))).1)).toArray].flatMap SX.cellsV⟩) (by simp [SX.cellsV]) (by kernel_rfl), Eq.trans (b := ⟨(α 1).h, 14, [Value.agg (sgsL ((runS ss (pl.map (·.1))).1)).toArray].flatMap SX.cellsV⟩) (by simp [SX.cellsV]) (by kernel_rfl), trivial⟩, .inr (.inr (.inr (.inr (.inr (.inr (.inr (.inr (.inr (.inr (.inr (.inr (.inl ⟨rfl, _, _, _, _, rfl, runS_len _ _ (by omega), runS_len _ _ (by omega), rfl⟩)))))))))))), SX.noAli rfl⟩) (by kernel_rfl) ?_
      refine SX.VC_br ((decide (((runS ss (pl.map (·.1))).1) = ((runS ss (pl.map (·.1))).1)))) (by kernel_rfl) (fun h10 => ?_) (fun h10 => absurd h10 (by simp))
      try simp only [Bool.true_bne, Bool.false_bne, Bool.true_xor, Bool.false_xor, Bool.not_eq_true', Bool.not_eq_false', decide_eq_true_eq, decide_eq_false_iff_not, beq_iff_eq, bne_iff_ne, ne_eq, beq_eq_false_iff_ne, bne_eq_false_iff_eq, Int.not_lt, Int.not_le, gt_iff_lt, ge_iff_le] at h10
      refine SX.VC_df (.bool (((runS ss (pl.map (·.1))).2 : Int) == (runS ss (pl.map (·.1))).2)) (by intro α; show _ = _; kernel_rfl) (by kernel_rfl) ?_
      exact SX.VC_ret fun α W _ _ hS => SX.ret_of hS (x := .bool (((runS ss (pl.map (·.1))).2 : Int) == (runS ss (pl.map (·.1))).2)) (by kernel_rfl) (by simp)
def tree_lpair : SX.Tree :=
(.df (.call 10 []) [] .one 
(.df .not [(.x 40 [])] .one 
(.br 41 [] 
(.ret (.k (.bool false)) [] []) 
(.df (.call 11 [(.ext 14)]) [(.x 0 [])] .one 
(.df .not [(.x 42 [])] .one 
(.br 43 [] 
(.ret (.k (.bool true)) [] []) 
(.df (.len false) [(.x 19 [])] .one 
(.df (.bin .gtr 3) [(.x 44 []), (.k (.int .i64 100))] .one 
(.br 45 [] 
(.ret (.k (.bool true)) [] []) 
(.df (.len false) [(.x 38 [])] .one 
(.df (.bin .gtr 3) [(.x 46 []), (.k (.int .i64 100))] .one 
(.br 47 [] 
(.ret (.k (.bool true)) [] []) 
(.df (.call 20 [(.ext 14), .no, .no]) [(.x 0 []), (.a [(.x 1 []), (.x 2 []), (.x 3 []), (.x 4 []), (.x 5 []), (.x 6 []), (.x 7 []), (.x 8 []), (.x 9 []), (.x 10 []), (.x 11 []), (.x 12 []), (.x 13 []), (.x 14 []), (.x 15 []), (.x 16 []), (.x 17 []), (.x 18 []), (.x 19 [])]), (.x 39 [])] (.tp [(.agl [.one, .one, .one, .one, .one, .one, .one, .one, .one, .one, .one, .one, .one, .one, .one, .one, .one, .one, (.sl 1)]), .one]) 
(.df (.call 21 [(.ext 14), .no, .no]) [(.x 0 []), (.a [(.x 1 []), (.x 2 []), (.x 3 []), (.x 4 []), (.x 5 []), (.x 6 []), (.x 7 []), (.x 8 []), (.x 9 []), (.x 10 []), (.x 11 []), (.x 12 []), (.x 13 []), (.x 14 []), (.x 15 []), (.x 16 []), (.x 17 []), (.x 18 []), (.x 19 [])]), (.x 39 [])] (.tp [(.agl [.one, .one, .one, .one, .one, .one, .one, .one, .one, .one, .one, .one, .one, .one, .one, .one, .one, .one, (.sl 1)]), .one]) 
(.df (.call 22 [.no, .no]) [(.a [(.x 1 []), (.x 2 []), (.x 3 []), (.x 4 []), (.x 5 []), (.x 6 []), (.x 7 []), (.x 8 []), (.x 9 []), (.x 10 []), (.x 11 []), (.x 12 []), (.x 13 []), (.x 14 []), (.x 15 []), (.x 16 []), (.x 17 []), (.x 18 []), (.x 19 [])]), (.a [(.x 20 []), (.x 21 []), (.x 22 []), (.x 23 []), (.x 24 []), (.x 25 []), (.x 26 []), (.x 27 []), (.x 28 []), (.x 29 []), (.x 30 []), (.x 31 []), (.x 32 []), (.x 33 []), (.x 34 []), (.x 35 []), (.x 36 []), (.x 37 []), (.x 38 [])])] (.tp [.one, .one]) 
(.df (.call 23 [.no, .no]) [(.a [(.x 1 []), (.x 2 []), (.x 3 []), (.x 4 []), (.x 5 []), (.x 6 []), (.x 7 []), (.x 8 []), (.x 9 []), (.x 10 []), (.x 11 []), (.x 12 []), (.x 13 []), (.x 14 []), (.x 15 []), (.x 16 []), (.x 17 []), (.x 18 []), (.x 19 [])]), (.a [(.x 20 []), (.x 21 []), (.x 22 []), (.x 23 []), (.x 24 []), (.x 25 []), (.x 26 []), (.x 27 []), (.x 28 []), (.x 29 []), (.x 30 []), (.x 31 []), (.x 32 []), (.x 33 []), (.x 34 []), (.x 35 []), (.x 36 []), (.x 37 []), (.x 38 [])])] (.tp [.one, .one]) 
(.df (.call 24 [(.ext 14), .no, .no]) [(.x 0 []), (.a [(.x 1 []), (.x 2 []), (.x 3 []), (.x 4 []), (.x 5 []), (.x 6 []), (.x 7 []), (.x 8 []), (.x 9 []), (.x 10 []), (.x 11 []), (.x 12 []), (.x 13 []), (.x 14 []), (.x 15 []), (.x 16 []), (.x 17 []), (.x 18 []), (.x 19 [])]), (.a [(.x 20 []), (.x 21 []), (.x 22 []), (.x 23 []), (.x 24 []), (.x 25 []), (.x 26 []), (.x 27 []), (.x 28 []), (.x 29 []), (.x 30 []), (.x 31 []), (.x 32 []), (.x 33 []), (.x 34 []), (.x 35 []), (.x 36 []), (.x 37 []), (.x 38 [])])] (.tp [.one, .one]) 
(.df (.call 25 [(.ext 14), .no, .no]) [(.x 0 []), (.a [(.x 1 []), (.x 2 []), (.x 3 []), (.x 4 []), (.x 5 []), (.x 6 []), (.x 7 []), (.x 8 []), (.x 9 []), (.x 10 []), (.x 11 []), (.x 12 []), (.x 13 []), (.x 14 []), (.x 15 []), (.x 16 []), (.x 17 []), (.x 18 []), (.x 19 [])]), (.a [(.x 20 []), (.x 21 []), (.x 22 []), (.x 23 []), (.x 24 []), (.x 25 []), (.x 26 []), (.x 27 []), (.x 28 []), (.x 29 []), (.x 30 []), (.x 31 []), (.x 32 []), (.x 33 []), (.x 34 []), (.x 35 []), (.x 36 []), (.x 37 []), (.x 38 [])])] (.tp [.one, .one]) 
(.df (.callg 26 [.no, .no] [(.row 1 [(.x 48 [0, 18])]), (.row 1 [(.x 49 [0, 18])])]) [(.a [(.x 48 [0, 0]), (.x 48 [0, 1]), (.x 48 [0, 2]), (.x 48 [0, 3]), (.x 48 [0, 4]), (.x 48 [0, 5]), (.x 48 [0, 6]), (.x 48 [0, 7]), (.x 48 [0, 8]), (.x 48 [0, 9]), (.x 48 [0, 10]), (.x 48 [0, 11]), (.x 48 [0, 12]), (.x 48 [0, 13]), (.x 48 [0, 14]), (.x 48 [0, 15]), (.x 48 [0, 16]), (.x 48 [0, 17]), (.row 2)]), (.a [(.x 49 [0, 0]), (.x 49 [0, 1]), (.x 49 [0, 2]), (.x 49 [0, 3]), (.x 49 [0, 4]), (.x 49 [0, 5]), (.x 49 [0, 6]), (.x 49 [0, 7]), (.x 49 [0, 8]), (.x 49 [0, 9]), (.x 49 [0, 10]), (.x 49 [0, 11]), (.x 49 [0, 12]), (.x 49 [0, 13]), (.x 49 [0, 14]), (.x 49 [0, 15]), (.x 49 [0, 16]), (.x 49 [0, 17]), (.row 4)]), (.row 2), (.row 4)] .one 
(.br 54 [] 
(.df (.bin .eql 32) [(.x 48 [1]), (.x 49 [1])] .one 
(.br 55 [] 
(.df (.binb .eql) [(.x 50 [0]), (.x 51 [0])] .one 
(.br 56 [] 
(.df (.bin .eql 32) [(.x 50 [1]), (.x 51 [1])] .one 
(.br 57 [] 
(.df (.binb .eql) [(.x 52 [0]), (.x 53 [0])] .one 
(.br 58 [] 
(.df (.bin .eql 32) [(.x 52 [1]), (.x 53 [1])] .one 
(.ret (.x 59 []) [] [])) 
(.ret (.k (.bool false)) [] []))) 
(.ret (.k (.bool false)) [] []))) 
(.ret (.k (.bool false)) [] []))) 
(.ret (.k (.bool false)) [] []))) 
(.ret (.k (.bool false)) [] [])))))))))))))))))))))
def args_lpair : List SX.V := [.x 0 [], .a ((List.range 19).map fun j => .x (1 + j) []), .a ((List.range 19).map fun j => .x (20 + j) []), .x 39 []]
set_option maxRecDepth 100000 in
theorem run_lpair (K A : Value → Nat → List Value → Prop) : (SX.run (cxQ K A) ⟨fun _ => false, [], 0, 100⟩ 100000 0 (SX.door 5 Try.f5 args_lpair (List.replicate 40 .one)) [.code (Try.f5.body.getD .skip), .top Try.f5]).strip = tree_lpair := by kernel_rfl
set_option maxRecDepth 100000 in
set_option maxHeartbeats 4000000 in
theorem lpair_any (ss : List Sg) (A : Option Addr) (n c : Nat) (p : Pt) (B : Option Addr) (m d : Nat) (q : Pt) (B' : Option Addr) (m' d' : Nat) (id : Int) (w : World) (hr : Rd w 14 A n (sgsL ss)) (hn : n ≤ 9223372036854775807) (hc : n ≤ c) (hp : Rd w 1 B m (intsL p.needs)) (hm : m ≤ 9223372036854775807) (hmd : m ≤ d) (hp' : Rd w 1 B' m' (intsL q.needs)) (hm' : m' ≤ 9223372036854775807) (hmd' : m' ≤ d') : Calls Try.prog 5 #[.slice A n c, valP p (.slice B m d), valP q (.slice B' m' d'), .int .i64 id] w fun e w' => e = .returned (.bool true) ∧ Below w.heap.size w w' := by
  refine SX.calls_of_run (C := cxQ (comK A n c ss p (.slice B m d) q (.slice B' m' d')) (runA A n c ss)) (G := ⟨fun _ => false, [], 0, 100⟩) (args := args_lpair) (sh := (List.replicate 40 .one)) (ρ := ([.slice A n c] ++ cellsP p (.slice B m d) ++ cellsP q (.slice B' m' d') ++ [.int .i64 id])) 100000 tree_lpair (okQ _ _) Try.func5 rfl (run_lpair _ _) (by kernel_rfl) (by kernel_rfl) (by kernel_rfl) ?_ ?_
  · rintro W hW s sz cells (⟨rfl, rfl, rfl⟩ | ⟨rfl, rfl, rfl⟩ | ⟨rfl, rfl, rfl⟩)
    · exact ⟨hr.same0 hW, hc⟩
    · exact ⟨hp.same0 hW, hmd⟩
    · exact ⟨hp'.same0 hW, hmd'⟩
  have hln : ss.length = n := by have := hr.1; rw [sgsL_len] at this; omega
  have hlm : p.needs.length = m := by have := hp.1; rw [intsL_len] at this; omega
  have hlm' : q.needs.length = m' := by have := hp'.1; rw [intsL_len] at this; omega
  have k1 : comK A n c ss p (.slice B m d) q (.slice B' m' d') (.slice A n c) 14 (sgsL ss) := .inl ⟨rfl, rfl, rfl⟩
  have kp : comK A n c ss p (.slice B m d) q (.slice B' m' d') (.slice B m d) 1 (intsL p.needs) := .inr (.inl ⟨rfl, rfl, rfl⟩)
  have kq : comK A n c ss p (.slice B m d) q (.slice B' m' d') (.slice B' m' d') 1 (intsL q.needs) := .inr (.inr ⟨rfl, rfl, rfl⟩)
  have a1 : runA A n c ss (.slice A n c) 14 (sgsL ss) := ⟨rfl, rfl, rfl⟩
  unfold tree_lpair
  refine SX.VC_df (.bool true) (fun α => ⟨[], trivial, .inr (.inr (.inr (.inr (.inr (.inr (.inr (.inr (.inr (.inr (.inr (.inr (.inr (.inr (.inr (.inr (.inr (.inl ⟨rfl, rfl, rfl⟩))))))))))))))))), SX.noAli rfl⟩) (by kernel_rfl) ?_
  refine SX.VC_df (.bool (!(true))) (by intro α; show _ = _; kernel_rfl) (by kernel_rfl) ?_
  refine SX.VC_br (!(true)) (by kernel_rfl) (fun h41 => absurd h41 (by simp)) (fun h41 => ?_)
  try simp only [Bool.true_bne, Bool.false_bne, Bool.true_xor, Bool.false_xor, Bool.not_eq_true', Bool.not_eq_false', decide_eq_true_eq, decide_eq_false_iff_not, beq_iff_eq, bne_iff_ne, ne_eq, beq_eq_false_iff_ne, bne_eq_false_iff_eq, Int.not_lt, Int.not_le, gt_iff_lt, ge_iff_le] at h41
  refine SX.VC_df (.bool ((fewS ss))) (fun α => ⟨[⟨.slice A n c, 14, sgsL ss⟩], ⟨by kernel_rfl, rfl, cast (by kernel_rfl) k1, trivial⟩, .inr (.inr (.inr (.inr (.inr (.inr (.inr (.inr (.inr (.inr (.inr (.inr (.inr (.inr (.inl ⟨rfl, _, _, rfl, by omega, rfl⟩)))))))))))))), SX.noAli rfl⟩) (by kernel_rfl) ?_
  refine SX.VC_df (.bool (!((fewS ss)))) (by intro α; show _ = _; kernel_rfl) (by kernel_rfl) ?_
  refine SX.VC_br (!((fewS ss))) (by kernel_rfl) (fun h43 => ?_) (fun h43 => ?_)
  · try simp only [Bool.true_bne, Bool.false_bne, Bool.true_xor, Bool.false_xor, Bool.not_eq_true', Bool.not_eq_false', decide_eq_true_eq, decide_eq_false_iff_not, beq_iff_eq, bne_iff_ne, ne_eq, beq_eq_false_iff_ne, bne_eq_false_iff_eq, Int.not_lt, Int.not_le, gt_iff_lt, ge_iff_le] at h43
    exact SX.VC_ret fun α W _ _ hS => SX.ret_of hS (x := .bool true) (by kernel_rfl) (by simp)
  · try simp only [Bool.true_bne, Bool.false_bne, Bool.true_xor, Bool.false_xor, Bool.not_eq_true', Bool.not_eq_false', decide_eq_true_eq, decide_eq_false_iff_not, beq_iff_eq, bne_iff_ne, ne_eq, beq_eq_false_iff_ne, bne_eq_false_iff_eq, Int.not_lt, Int.not_le, gt_iff_lt, ge_iff_le] at h43
    refine SX.VC_df (.int .i64 (((m : Nat) : Int))) (by intro α; show _ = _; kernel_rfl) (by kernel_rfl) ?_
    refine SX.VC_df (.bool (decide (((m : Nat) : Int) > 100))) (by intro α; show _ = _; kernel_rfl) (by kernel_rfl) ?_
    refine SX.VC_br (decide (((m : Nat) : Int) > 100)) (by kernel_rfl) (fun h45 => ?_) (fun h45 => ?_)
    · try simp only [Bool.true_bne, Bool.false_bne, Bool.true_xor, Bool.false_xor, Bool.not_eq_true', Bool.not_eq_false', decide_eq_true_eq, decide_eq_false_iff_not, beq_iff_eq, bne_iff_ne, ne_eq, beq_eq_false_iff_ne, bne_eq_false_iff_eq, Int.not_lt, Int.not_le, gt_iff_lt, ge_iff_le] at h45
      exact SX.VC_ret fun α W _ _ hS => SX.ret_of hS (x := .bool true) (by kernel_rfl) (by simp)
    · try simp only [Bool.true_bne, Bool.false_bne, Bool.true_xor, Bool.false_xor, Bool.not_eq_true', Bool.not_eq_false', decide_eq_true_eq, decide_eq_false_iff_not, beq_iff_eq, bne_iff_ne, ne_eq, beq_eq_false_iff_ne, bne_eq_false_iff_eq, Int.not_lt, Int.not_le, gt_iff_lt, ge_iff_le] at h45
      refine SX.VC_df (.int .i64 (((m' : Nat) : Int))) (by intro α; show _ = _; kernel_rfl) (by kernel_rfl) ?_
      refine SX.VC_df (.bool (decide (((m' : Nat) : Int) > 100))) (by intro α; show _ = _; kernel_rfl) (by kernel_rfl) ?_
      refine SX.VC_br (decide (((m' : Nat) : Int) > 100)) (by kernel_rfl) (fun h47 => ?_) (fun h47 => ?_)
      · try simp only [Bool.true_bne, Bool.false_bne, Bool.true_xor, Bool.false_xor, Bool.not_eq_true', Bool.not_eq_false', decide_eq_true_eq, decide_eq_false_iff_not, beq_iff_eq, bne_iff_ne, ne_eq, beq_eq_false_iff_ne, bne_eq_false_iff_eq, Int.not_lt, Int.not_le, gt_iff_lt, ge_iff_le] at h47
        exact SX.VC_ret fun α W _ _ hS => SX.ret_of hS (x := .bool true) (by kernel_rfl) (by simp)
      · try simp only [Bool.true_bne, Bool.false_bne, Bool.true_xor, Bool.false_xor, Bool.not_eq_true', Bool.not_eq_false', decide_eq_true_eq, decide_eq_false_iff_not, beq_iff_eq, bne_iff_ne, ne_eq, beq_eq_false_iff_ne, bne_eq_false_iff_eq, Int.not_lt, Int.not_le, gt_iff_lt, ge_iff_le] at h47
        refine SX.VC_df (.tuple #[ptV (invS ss p id).1, .int .i64 ((invS ss p id).2)]) (fun α => ⟨[⟨.slice A n c, 14, sgsL ss⟩, ⟨valP p (.slice B m d), 0, []⟩, ⟨.int .i64 id, 0, []⟩], ⟨by kernel_rfl, rfl, cast (by kernel_rfl) k1, by kernel_rfl, by kernel_rfl, by kernel_rfl, by kernel_rfl, trivial⟩, .inr (.inr (.inr (.inr (.inr (.inr (.inr (.inr (.inr (.inr (.inl ⟨rfl, _, _, p, _, id, rfl, by omega, kp, by omega, rfl⟩)))))))))), SX.noAli rfl⟩) (ptV_fit _ _) ?_
        refine SX.VC_df (.tuple #[ptV (invS ss p id).1, .int .i64 ((invS ss p id).2)]) (fun α => ⟨[⟨.slice A n c, 14, sgsL ss⟩, ⟨valP p (.slice B m d), 0, []⟩, ⟨.int .i64 id, 0, []⟩], ⟨by kernel_rfl, rfl, cast (by kernel_rfl) k1, by kernel_rfl, by kernel_rfl, by kernel_rfl, by kernel_rfl, trivial⟩, .inr (.inr (.inr (.inr (.inr (.inr (.inr (.inr (.inr (.inr (.inr (.inl ⟨rfl, _, _, p, _, id, rfl, by omega, kp, by omega, rfl⟩))))))))))), SX.noAli rfl⟩) (ptV_fit _ _) ?_
        refine SX.VC_df (.tuple #[.bool ((ovV p q)), .int .i64 ((ovE p q))]) (fun α => ⟨[⟨valP p (.slice B m d), 0, []⟩, ⟨valP q (.slice B' m' d'), 0, []⟩], ⟨by kernel_rfl, by kernel_rfl, by kernel_rfl, by kernel_rfl, trivial⟩, .inr (.inr (.inr (.inr (.inr (.inr (.inl ⟨rfl, p, q, _, _, rfl, kp, kq, by omega, by omega, rfl⟩)))))), SX.noAli rfl⟩) (by kernel_rfl) ?_
        refine SX.VC_df (.tuple #[.bool ((ovV p q)), .int .i64 ((ovE p q))]) (fun α => ⟨[⟨valP p (.slice B m d), 0, []⟩, ⟨valP q (.slice B' m' d'), 0, []⟩], ⟨by kernel_rfl, by kernel_rfl, by kernel_rfl, by kernel_rfl, trivial⟩, .inr (.inr (.inr (.inr (.inr (.inr (.inr (.inl ⟨rfl, p, q, _, _, rfl, kp, kq, by omega, by omega, rfl⟩))))))), SX.noAli rfl⟩) (by kernel_rfl) ?_
        refine SX.VC_df (.tuple #[.bool ((comS ss p q).1), .int .i64 ((comS ss p q).2)]) (fun α => ⟨[⟨.slice A n c, 14, sgsL ss⟩, ⟨valP p (.slice B m d), 0, []⟩, ⟨valP q (.slice B' m' d'), 0, []⟩], ⟨by kernel_rfl, rfl, cast (by kernel_rfl) k1, by kernel_rfl, by kernel_rfl, by kernel_rfl, by kernel_rfl, trivial⟩, .inr (.inr (.inr (.inr (.inr (.inr (.inr (.inr (.inl ⟨rfl, _, _, p, q, _, _, rfl, by omega, kp, kq, by omega, by omega, rfl⟩)))))))), SX.noAli rfl⟩) (by kernel_rfl) ?_
        refine SX.VC_df (.tuple #[.bool ((comS ss p q).1), .int .i64 ((comS ss p q).2)]) (fun α => ⟨[⟨.slice A n c, 14, sgsL ss⟩, ⟨valP p (.slice B m d), 0, []⟩, ⟨valP q (.slice B' m' d'), 0, []⟩], ⟨by kernel_rfl, rfl, cast (by kernel_rfl) k1, by kernel_rfl, by kernel_rfl, by kernel_rfl, by kernel_rfl, trivial⟩, .inr (.inr (.inr (.inr (.inr (.inr (.inr (.inr (.inr (.inl ⟨rfl, _, _, p, q, _, _, rfl, by omega, kp, kq, by omega, by omega, rfl⟩))))))))), SX.noAli rfl⟩) (by kernel_rfl) ?_
        refine SX.VC_df (.bool ((decide ((invS ss p id).1 = (invS ss p id).1)))) (fun α => ⟨[⟨valP (invS ss p id).1 (α 2).h, 0, []⟩, ⟨valP (invS ss p id).1 (α 4).h, 0, []⟩], [⟨(α 2).h, 1, intsL (invS ss p id).1.needs⟩, ⟨(α 4).h, 1, intsL (invS ss p id).1.needs⟩], ⟨by kernel_rfl, by kernel_rfl, by kernel_rfl, by kernel_rfl, trivial⟩, ⟨Eq.trans (b := ⟨(α 2).h, 1, [Value.agg (intsL (invS ss p id).1.needs).toArray].flatMap SX.cellsV⟩) (by simp [SX.cellsV]) (by kernel_rfl), Eq.trans (b := ⟨(α 4).h, 1, [Value.agg (intsL (invS ss p id).1.needs).toArray].flatMap SX.cellsV⟩) (by simp [SX.cellsV]) (by kernel_rfl), trivial⟩, .inr (.inr (.inr (.inr (.inr (.inr (.inr (.inr (.inr (.inr (.inr (.inr (.inr (.inl ⟨rfl, (invS ss p id).1, (invS ss p id).1, _, _, rfl, .inr (by simp), .inr (by simp), inv_len _ _ _, inv_len _ _ _, rfl⟩))))))))))))), SX.noAli rfl⟩) (by kernel_rfl) ?_
        refine SX.VC_br ((decide ((invS ss p id).1 = (invS ss p id).1))) (by kernel_rfl) (fun h54 => ?_) (fun h54 => absurd h54 (by simp))
        try simp only [Bool.true_bne, Bool.false_bne, Bool.true_xor, Bool.false_xor, Bool.not_eq_true', Bool.not_eq_false', decide_eq_true_eq, decide_eq_false_iff_not, beq_iff_eq, bne_iff_ne, ne_eq, beq_eq_false_iff_ne, bne_eq_false_iff_eq, Int.not_lt, Int.not_le, gt_iff_lt, ge_iff_le] at h54
        refine SX.VC_df (.bool (((invS ss p id).2 : Int) == (invS ss p id).2)) (by intro α; show _ = _; kernel_rfl) (by kernel_rfl) ?_
        refine SX.VC_br (((invS ss p id).2 : Int) == (invS ss p id).2) (by kernel_rfl) (fun h55 => ?_) (fun h55 => absurd h55 (by simp))
        try simp only [Bool.true_bne, Bool.false_bne, Bool.true_xor, Bool.false_xor, Bool.not_eq_true', Bool.not_eq_false', decide_eq_true_eq, decide_eq_false_iff_not, beq_iff_eq, bne_iff_ne, ne_eq, beq_eq_false_iff_ne, bne_eq_false_iff_eq, Int.not_lt, Int.not_le, gt_iff_lt, ge_iff_le] at h55
        refine SX.VC_df (.bool (((ovV p q) == (ovV p q)))) (by intro α; show _ = _; kernel_rfl) (by kernel_rfl) ?_
        refine SX.VC_br (((ovV p q) == (ovV p q))) (by kernel_rfl) (fun h56 => ?_) (fun h56 => absurd h56 (by simp))
        try simp only [Bool.true_bne, Bool.false_bne, Bool.true_xor, Bool.false_xor, Bool.not_eq_true', Bool.not_eq_false', decide_eq_true_eq, decide_eq_false_iff_not, beq_iff_eq, bne_iff_ne, ne_eq, beq_eq_false_iff_ne, bne_eq_false_iff_eq, Int.not_lt, Int.not_le, gt_iff_lt, ge_iff_le] at h56
        refine SX.VC_df (.bool (((ovE p q) : Int) == (ovE p q))) (by intro α; show _ = _; kernel_rfl) (by kernel_rfl) ?_
        refine SX.VC_br (((ovE p q) : Int) == (ovE p q)) (by kernel_rfl) (fun h57 => ?_) (fun h57 => absurd h57 (by simp))
        try simp only [Bool.true_bne, Bool.false_bne, Bool.true_xor, Bool.false_xor, Bool.not_eq_true', Bool.not_eq_false', decide_eq_true_eq, decide_eq_false_iff_not, beq_iff_eq, bne_iff_ne, ne_eq, beq_eq_false_iff_ne, bne_eq_false_iff_eq, Int.not_lt, Int.not_le, gt_iff_lt, ge_iff_le] at h57
        refine SX.VC_df (.bool (((comS ss p q).1 == (comS ss p q).1))) (by intro α; show _ = _; kernel_rfl) (by kernel_rfl) ?_
        refine SX.VC_br (((comS ss p q).1 == (comS ss p q).1)) (by kernel_rfl) (fun h58 => ?_) (fun h58 => absurd h58 (by simp))
        try simp only [Bool.true_bne, Bool.false_bne, Bool.true_xor, Bool.false_xor, Bool.not_eq_true', Bool.not_eq_false', decide_eq_true_eq, decide_eq_false_iff_not, beq_iff_eq, bne_iff_ne, ne_eq, beq_eq_false_iff_ne, bne_eq_false_iff_eq, Int.not_lt, Int.not_le, gt_iff_lt, ge_iff_le] at h58
        refine SX.VC_df (.bool (((comS ss p q).2 : Int) == (comS ss p q).2)) (by intro α; show _ = _; kernel_rfl) (by kernel_rfl) ?_
        exact SX.VC_ret fun α W _ _ hS => SX.ret_of hS (x := .bool (((comS ss p q).2 : Int) == (comS ss p q).2)) (by kernel_rfl) (by simp)
end Go.Proofs.Ytodlcjhefojibaa
