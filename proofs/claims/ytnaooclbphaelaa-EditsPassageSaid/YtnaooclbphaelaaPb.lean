/-
  Ratios and signs in form: the program and the specification.
-/
import Derived.Test.YtnaooclbphaelaaPdiv
namespace Go.Proofs.Ytnaooclbphaelaa
set_option linter.unusedSimpArgs false
set_option linter.unusedVariables false
open Go Go.RowKit
/-- what the functions of ratios answer -/
def RA (f : FuncId) (xs : List SX.Arg) (v : Value) : Prop :=
  (f = 119 ∧ ∃ n : Int, xs = [⟨.int .i64 n, 0, []⟩] ∧ -1073741824 ≤ n ∧ n ≤ 1073741824 ∧ v = .int .i64 n.natAbs) ∨
  (f = 100 ∧ ∃ n : Int, xs = [⟨.int .i64 n, 0, []⟩] ∧ -1073741824 ≤ n ∧ n ≤ 1073741824 ∧ v = .int .u64 n.natAbs) ∨
  (f = 118 ∧ ∃ a b : Nat, xs = [⟨.int .i64 a, 0, []⟩, ⟨.int .i64 b, 0, []⟩] ∧ a ≤ 1073741824 ∧ b ≤ 1073741824 ∧ v = .int .i64 (Nat.gcd a b)) ∨
  (f = 99 ∧ ∃ a b : Nat, xs = [⟨.int .u64 a, 0, []⟩, ⟨.int .u64 b, 0, []⟩] ∧ a ≤ 1073741824 ∧ b ≤ 1073741824 ∧ v = .int .u64 (Nat.gcd a b))
def shpA : FuncId → Option SX.Sh := fun f => if f = 119 then some .one else if f = 100 then some .one else if f = 118 then some .one else if f = 99 then some .one else none
noncomputable def cxA (K A : Value → Nat → List Value → Prop) : SX.Cx := { P := Try.prog, R := fun _ => RA, shp := shpA, K := K, A := A }
theorem okA (K A : Value → Nat → List Value → Prop) : (cxA K A).Ok := by
  refine SX.Cx.ok_of (fun _ => rfl) ?_
  intro K f xs v W hR hrd hKf
  rcases hR with ⟨rfl, n, rfl, h1, h2, rfl⟩ | ⟨rfl, n, rfl, h1, h2, rfl⟩ | ⟨rfl, a, b, rfl, h1, h2, rfl⟩ | ⟨rfl, a, b, rfl, h1, h2, rfl⟩
  · exact (size_any n W h1 h2).mono fun e w' h => SX.plainOk rfl h
  · exact (mag_any n W (by omega) (by omega)).mono fun e w' h => SX.plainOk rfl h
  · exact (rdiv_any a b W h1 h2).mono fun e w' h => SX.plainOk rfl h
  · exact (pdiv_any a b W (by omega) (by omega)).mono fun e w' h => SX.plainOk rfl h
def tree_valid : SX.Tree :=
(.df (.bin .geq 3) [(.x 1 []), (.k (.int .i64 1))] .one 
(.br 2 [] 
(.df (.bin .leq 3) [(.x 1 []), (.k (.int .i64 1073741824))] .one 
(.br 3 [] 
(.df (.bin .geq 3) [(.x 0 []), (.k (.int .i64 (-1073741824)))] .one 
(.br 4 [] 
(.df (.bin .leq 3) [(.x 0 []), (.k (.int .i64 1073741824))] .one 
(.br 5 [] 
(.df (.call 119 [.no]) [(.x 0 [])] .one 
(.df (.call 118 [.no, .no]) [(.x 6 []), (.x 1 [])] .one 
(.df (.bin .eql 3) [(.x 7 []), (.k (.int .i64 1))] .one 
(.ret (.x 8 []) [] [])))) 
(.ret (.k (.bool false)) [] []))) 
(.ret (.k (.bool false)) [] []))) 
(.ret (.k (.bool false)) [] []))) 
(.ret (.k (.bool false)) [] [])))
def args_valid : List SX.V := [.a [.x 0 [], .x 1 []]]
set_option maxRecDepth 100000 in
theorem run_valid (K A : Value → Nat → List Value → Prop) : (SX.run (cxA K A) ⟨fun _ => false, [], 0, 100⟩ 100000 0 (SX.door 103 Try.f103 args_valid [.one, .one]) [.code (Try.f103.body.getD .skip), .top Try.f103]).strip = tree_valid := by kernel_rfl
set_option maxRecDepth 100000 in
set_option maxHeartbeats 4000000 in
theorem valid_any (n d : Int) (w : World)  : Calls Try.prog 103 #[.agg #[.int .i64 n, .int .i64 d]] w fun e w' => e = .returned (.bool (decide (okR n d))) ∧ Below w.heap.size w w' := by
  refine SX.calls_of_run (C := cxA (fun _ _ _ => False) (fun _ _ _ => False)) (G := ⟨fun _ => false, [], 0, 100⟩) (args := args_valid) (sh := [.one, .one]) (ρ := [.int .i64 n, .int .i64 d]) 100000 tree_valid (okA _ _) Try.func103 rfl (run_valid _ _) (by kernel_rfl) (by kernel_rfl) (by kernel_rfl) ?_ ?_
  · exact fun W _ => SX.Kf_none (fun _ _ _ h => h) W
  unfold tree_valid
  refine SX.VC_df (.bool (decide (d ≥ 1))) (by intro α; show _ = _; kernel_rfl) (by kernel_rfl) ?_
  refine SX.VC_br (decide (d ≥ 1)) (by kernel_rfl) (fun h2 => ?_) (fun h2 => ?_)
  · try simp only [NRM] at h2
    refine SX.VC_df (.bool (decide (d ≤ 1073741824))) (by intro α; show _ = _; kernel_rfl) (by kernel_rfl) ?_
    refine SX.VC_br (decide (d ≤ 1073741824)) (by kernel_rfl) (fun h3 => ?_) (fun h3 => ?_)
    · try simp only [NRM] at h3
      refine SX.VC_df (.bool (decide (n ≥ (-1073741824)))) (by intro α; show _ = _; kernel_rfl) (by kernel_rfl) ?_
      refine SX.VC_br (decide (n ≥ (-1073741824))) (by kernel_rfl) (fun h4 => ?_) (fun h4 => ?_)
      · try simp only [NRM] at h4
        refine SX.VC_df (.bool (decide (n ≤ 1073741824))) (by intro α; show _ = _; kernel_rfl) (by kernel_rfl) ?_
        refine SX.VC_br (decide (n ≤ 1073741824)) (by kernel_rfl) (fun h5 => ?_) (fun h5 => ?_)
        · try simp only [NRM] at h5
          obtain ⟨m, rfl⟩ : ∃ m : Nat, d = m := ⟨d.toNat, by omega⟩
          refine SX.VC_df (.int .i64 ((n.natAbs : Int))) (fun α => ⟨[⟨.int .i64 n, 0, []⟩], ⟨by kernel_rfl, by kernel_rfl, trivial⟩, .inl ⟨rfl, n, rfl, by omega, by omega, rfl⟩, SX.noAli rfl⟩) (by kernel_rfl) ?_
          refine SX.VC_df (.int .i64 (((Nat.gcd n.natAbs m : Nat) : Int))) (fun α => ⟨[⟨.int .i64 n.natAbs, 0, []⟩, ⟨.int .i64 m, 0, []⟩], ⟨by kernel_rfl, by kernel_rfl, by kernel_rfl, by kernel_rfl, trivial⟩, .inr (.inr (.inl ⟨rfl, n.natAbs, m, rfl, by omega, by omega, rfl⟩)), SX.noAli rfl⟩) (by kernel_rfl) ?_
          refine SX.VC_df (.bool ((((Nat.gcd n.natAbs m : Nat) : Int) : Int) == 1)) (by intro α; show _ = _; kernel_rfl) (by kernel_rfl) ?_
          exact SX.VC_ret fun α W _ _ hS => SX.ret_of hS (x := .bool ((((Nat.gcd n.natAbs m : Nat) : Int) : Int) == 1)) (by kernel_rfl) (by congr 1; first | (symm; rw [decide_eq_false_iff_not, okR_iff]; omega) | (rw [Bool.eq_iff_iff]; simp only [decide_eq_true_eq, beq_iff_eq, okR_iff, Int.toNat_natCast]; omega))
        · try simp only [NRM] at h5
          exact SX.VC_ret fun α W _ _ hS => SX.ret_of hS (x := .bool false) (by kernel_rfl) (by congr 1; first | (symm; rw [decide_eq_false_iff_not, okR_iff]; omega) | (rw [Bool.eq_iff_iff]; simp only [decide_eq_true_eq, beq_iff_eq, okR_iff, Int.toNat_natCast]; omega))
      · try simp only [NRM] at h4
        exact SX.VC_ret fun α W _ _ hS => SX.ret_of hS (x := .bool false) (by kernel_rfl) (by congr 1; first | (symm; rw [decide_eq_false_iff_not, okR_iff]; omega) | (rw [Bool.eq_iff_iff]; simp only [decide_eq_true_eq, beq_iff_eq, okR_iff, Int.toNat_natCast]; omega))
    · try simp only [NRM] at h3
      exact SX.VC_ret fun α W _ _ hS => SX.ret_of hS (x := .bool false) (by kernel_rfl) (by congr 1; first | (symm; rw [decide_eq_false_iff_not, okR_iff]; omega) | (rw [Bool.eq_iff_iff]; simp only [decide_eq_true_eq, beq_iff_eq, okR_iff, Int.toNat_natCast]; omega))
  · try simp only [NRM] at h2
    exact SX.VC_ret fun α W _ _ hS => SX.ret_of hS (x := .bool false) (by kernel_rfl) (by congr 1; first | (symm; rw [decide_eq_false_iff_not, okR_iff]; omega) | (rw [Bool.eq_iff_iff]; simp only [decide_eq_true_eq, beq_iff_eq, okR_iff, Int.toNat_natCast]; omega))
def tree_rcheck : SX.Tree :=
(.df (.bin .lss 3) [(.x 1 []), (.k (.int .i64 1))] .one 
(.br 2 [] 
(.ret (.k (.int .i64 120)) [] []) 
(.df (.bin .gtr 3) [(.x 1 []), (.k (.int .i64 1073741824))] .one 
(.br 3 [] 
(.ret (.k (.int .i64 120)) [] []) 
(.df (.bin .lss 3) [(.x 0 []), (.k (.int .i64 (-1073741824)))] .one 
(.br 4 [] 
(.ret (.k (.int .i64 120)) [] []) 
(.df (.bin .gtr 3) [(.x 0 []), (.k (.int .i64 1073741824))] .one 
(.br 5 [] 
(.ret (.k (.int .i64 120)) [] []) 
(.df (.call 100 [.no]) [(.x 0 [])] .one 
(.df (.conv .u64) [(.x 1 [])] .one 
(.df (.call 99 [.no, .no]) [(.x 6 []), (.x 7 [])] .one 
(.df (.bin .neq 101) [(.x 8 []), (.k (.int .u64 1))] .one 
(.br 9 [] 
(.ret (.k (.int .i64 120)) [] []) 
(.ret (.k (.int .i64 0)) [] []))))))))))))))
def args_rcheck : List SX.V := [.a [.x 0 [], .x 1 []]]
set_option maxRecDepth 100000 in
theorem run_rcheck (K A : Value → Nat → List Value → Prop) : (SX.run (cxA K A) ⟨fun _ => false, [], 0, 100⟩ 100000 0 (SX.door 79 Try.f79 args_rcheck [.one, .one]) [.code (Try.f79.body.getD .skip), .top Try.f79]).strip = tree_rcheck := by kernel_rfl
set_option maxRecDepth 100000 in
set_option maxHeartbeats 4000000 in
theorem rcheck_any (n d : Int) (w : World)  : Calls Try.prog 79 #[.agg #[.int .i64 n, .int .i64 d]] w fun e w' => e = .returned (.int .i64 (if okR n d then 0 else 120)) ∧ Below w.heap.size w w' := by
  refine SX.calls_of_run (C := cxA (fun _ _ _ => False) (fun _ _ _ => False)) (G := ⟨fun _ => false, [], 0, 100⟩) (args := args_rcheck) (sh := [.one, .one]) (ρ := [.int .i64 n, .int .i64 d]) 100000 tree_rcheck (okA _ _) Try.func79 rfl (run_rcheck _ _) (by kernel_rfl) (by kernel_rfl) (by kernel_rfl) ?_ ?_
  · exact fun W _ => SX.Kf_none (fun _ _ _ h => h) W
  unfold tree_rcheck
  refine SX.VC_df (.bool (decide (d < 1))) (by intro α; show _ = _; kernel_rfl) (by kernel_rfl) ?_
  refine SX.VC_br (decide (d < 1)) (by kernel_rfl) (fun h2 => ?_) (fun h2 => ?_)
  · try simp only [NRM] at h2
    exact SX.VC_ret fun α W _ _ hS => SX.ret_of hS (x := .int .i64 120) (by kernel_rfl) (by first | (rw [if_neg (fun hk => by rw [okR_iff] at hk; (try simp only [Int.toNat_natCast] at hk); omega)]) | (rw [if_pos (by rw [okR_iff]; simp only [Int.toNat_natCast]; omega)]))
  · try simp only [NRM] at h2
    refine SX.VC_df (.bool (decide (d > 1073741824))) (by intro α; show _ = _; kernel_rfl) (by kernel_rfl) ?_
    refine SX.VC_br (decide (d > 1073741824)) (by kernel_rfl) (fun h3 => ?_) (fun h3 => ?_)
    · try simp only [NRM] at h3
      exact SX.VC_ret fun α W _ _ hS => SX.ret_of hS (x := .int .i64 120) (by kernel_rfl) (by first | (rw [if_neg (fun hk => by rw [okR_iff] at hk; (try simp only [Int.toNat_natCast] at hk); omega)]) | (rw [if_pos (by rw [okR_iff]; simp only [Int.toNat_natCast]; omega)]))
    · try simp only [NRM] at h3
      refine SX.VC_df (.bool (decide (n < (-1073741824)))) (by intro α; show _ = _; kernel_rfl) (by kernel_rfl) ?_
      refine SX.VC_br (decide (n < (-1073741824))) (by kernel_rfl) (fun h4 => ?_) (fun h4 => ?_)
      · try simp only [NRM] at h4
        exact SX.VC_ret fun α W _ _ hS => SX.ret_of hS (x := .int .i64 120) (by kernel_rfl) (by first | (rw [if_neg (fun hk => by rw [okR_iff] at hk; (try simp only [Int.toNat_natCast] at hk); omega)]) | (rw [if_pos (by rw [okR_iff]; simp only [Int.toNat_natCast]; omega)]))
      · try simp only [NRM] at h4
        refine SX.VC_df (.bool (decide (n > 1073741824))) (by intro α; show _ = _; kernel_rfl) (by kernel_rfl) ?_
        refine SX.VC_br (decide (n > 1073741824)) (by kernel_rfl) (fun h5 => ?_) (fun h5 => ?_)
        · try simp only [NRM] at h5
          exact SX.VC_ret fun α W _ _ hS => SX.ret_of hS (x := .int .i64 120) (by kernel_rfl) (by first | (rw [if_neg (fun hk => by rw [okR_iff] at hk; (try simp only [Int.toNat_natCast] at hk); omega)]) | (rw [if_pos (by rw [okR_iff]; simp only [Int.toNat_natCast]; omega)]))
        · try simp only [NRM] at h5
          obtain ⟨m, rfl⟩ : ∃ m : Nat, d = m := ⟨d.toNat, by omega⟩
          refine SX.VC_df (.int .u64 ((n.natAbs : Int))) (fun α => ⟨[⟨.int .i64 n, 0, []⟩], ⟨by kernel_rfl, by kernel_rfl, trivial⟩, .inr (.inl ⟨rfl, n, rfl, by omega, by omega, rfl⟩), SX.noAli rfl⟩) (by kernel_rfl) ?_
          refine SX.VC_df (.int .u64 ((m : Int))) (fun α => Eq.trans (b := some (.int .u64 (IntKind.u64.wrap (m : Int)))) (by kernel_rfl) (by rw [wrap_u64 (by omega) (by omega)])) (by kernel_rfl) ?_
          refine SX.VC_df (.int .u64 (((Nat.gcd n.natAbs m : Nat) : Int))) (fun α => ⟨[⟨.int .u64 n.natAbs, 0, []⟩, ⟨.int .u64 m, 0, []⟩], ⟨by kernel_rfl, by kernel_rfl, by kernel_rfl, by kernel_rfl, trivial⟩, .inr (.inr (.inr (⟨rfl, n.natAbs, m, rfl, by omega, by omega, rfl⟩))), SX.noAli rfl⟩) (by kernel_rfl) ?_
          refine SX.VC_df (.bool ((((Nat.gcd n.natAbs m : Nat) : Int) : Int) != 1)) (by intro α; show _ = _; kernel_rfl) (by kernel_rfl) ?_
          refine SX.VC_br ((((Nat.gcd n.natAbs m : Nat) : Int) : Int) != 1) (by kernel_rfl) (fun h9 => ?_) (fun h9 => ?_)
          · try simp only [NRM] at h9
            exact SX.VC_ret fun α W _ _ hS => SX.ret_of hS (x := .int .i64 120) (by kernel_rfl) (by first | (rw [if_neg (fun hk => by rw [okR_iff] at hk; (try simp only [Int.toNat_natCast] at hk); omega)]) | (rw [if_pos (by rw [okR_iff]; simp only [Int.toNat_natCast]; omega)]))
          · try simp only [NRM] at h9
            exact SX.VC_ret fun α W _ _ hS => SX.ret_of hS (x := .int .i64 0) (by kernel_rfl) (by first | (rw [if_neg (fun hk => by rw [okR_iff] at hk; (try simp only [Int.toNat_natCast] at hk); omega)]) | (rw [if_pos (by rw [okR_iff]; simp only [Int.toNat_natCast]; omega)]))
/-- a sign -/
structure Sg where
  (id role bar mark kind side dir level size with_ fn fd tn td : Int)
  deriving DecidableEq, Inhabited
def cellsSg (s : Sg) : List Value := [.int .i64 s.id, .int .i64 s.role, .int .i64 s.bar, .int .i64 s.mark, .int .i64 s.kind, .int .i64 s.side, .int .i64 s.dir, .int .i64 s.level, .int .i64 s.size, .int .i64 s.with_, .int .i64 s.fn, .int .i64 s.fd, .int .i64 s.tn, .int .i64 s.td]
def valSg (s : Sg) : Value := .agg (cellsSg s).toArray
/-- may a sign last from one ratio to another one -/
def okS (fn fd tn td : Int) : Prop := okR fn fd ∧ okR tn td ∧ 0 ≤ fn ∧ fn * td < tn * fd ∧ tn ≤ td
theorem okS_iff {fn fd tn td : Int} : okS fn fd tn td ↔ okR fn fd ∧ okR tn td ∧ 0 ≤ fn ∧ fn * td < tn * fd ∧ tn ≤ td := Iff.rfl
instance (fn fd tn td : Int) : Decidable (okS fn fd tn td) := by unfold okS; infer_instance
/-- is a sign in form -/
def Sg.ok (s : Sg) : Prop := (0 ≤ s.id ∧ s.id ≤ 1048576) ∧ (0 ≤ s.role ∧ s.role ≤ 63) ∧ (0 ≤ s.bar ∧ s.bar ≤ 4095) ∧ (1 ≤ s.kind ∧ s.kind ≤ 9) ∧ (1 ≤ s.mark ∧ s.mark ≤ 3) ∧ (0 ≤ s.side ∧ s.side ≤ 2) ∧ (0 ≤ s.dir ∧ s.dir ≤ 8) ∧ (0 ≤ s.level ∧ s.level ≤ 3) ∧ (0 ≤ s.size ∧ s.size ≤ 255) ∧ (0 ≤ s.with_ ∧ s.with_ ≤ 64) ∧ okS s.fn s.fd s.tn s.td
theorem Sg.ok_iff {s : Sg} : s.ok ↔ (0 ≤ s.id ∧ s.id ≤ 1048576) ∧ (0 ≤ s.role ∧ s.role ≤ 63) ∧ (0 ≤ s.bar ∧ s.bar ≤ 4095) ∧ (1 ≤ s.kind ∧ s.kind ≤ 9) ∧ (1 ≤ s.mark ∧ s.mark ≤ 3) ∧ (0 ≤ s.side ∧ s.side ≤ 2) ∧ (0 ≤ s.dir ∧ s.dir ≤ 8) ∧ (0 ≤ s.level ∧ s.level ≤ 3) ∧ (0 ≤ s.size ∧ s.size ≤ 255) ∧ (0 ≤ s.with_ ∧ s.with_ ≤ 64) ∧ okS s.fn s.fd s.tn s.td := Iff.rfl
instance (s : Sg) : Decidable s.ok := by unfold Sg.ok; infer_instance
theorem mul_small {a b : Int} (h1 : -1073741824 ≤ a) (h2 : a ≤ 1073741824) (h3 : -1073741824 ≤ b) (h4 : b ≤ 1073741824) : -1152921504606846976 ≤ a * b ∧ a * b ≤ 1152921504606846976 := by
  have h := Int.natAbs_mul a b
  have h5 : a.natAbs * b.natAbs ≤ 1073741824 * 1073741824 := Nat.mul_le_mul (by omega) (by omega)
  omega
/-- what is known of ratios -/
def RB (f : FuncId) (xs : List SX.Arg) (v : Value) : Prop :=
  (f = 103 ∧ ∃ n d : Int, xs = [⟨.agg #[.int .i64 n, .int .i64 d], 0, []⟩] ∧ v = .bool (decide (okR n d))) ∨
  (f = 79 ∧ ∃ n d : Int, xs = [⟨.agg #[.int .i64 n, .int .i64 d], 0, []⟩] ∧ v = .int .i64 (if okR n d then 0 else 120))
def shpB : FuncId → Option SX.Sh := fun f => if f = 103 then some .one else if f = 79 then some .one else none
noncomputable def cxB (K A : Value → Nat → List Value → Prop) : SX.Cx := { P := Try.prog, R := fun _ => RB, shp := shpB, K := K, A := A }
theorem okB (K A : Value → Nat → List Value → Prop) : (cxB K A).Ok := by
  refine SX.Cx.ok_of (fun _ => rfl) ?_
  intro K f xs v W hR hrd hKf
  rcases hR with ⟨rfl, n, d, rfl, rfl⟩ | ⟨rfl, n, d, rfl, rfl⟩
  · exact (valid_any n d W).mono fun e w' h => SX.plainOk rfl h
  · exact (rcheck_any n d W).mono fun e w' h => SX.plainOk rfl h
def tree_Form : SX.Tree :=
(.df (.bin .geq 3) [(.x 0 []), (.k (.int .i64 0))] .one 
(.br 14 [] 
(.df (.bin .leq 3) [(.x 0 []), (.k (.int .i64 1048576))] .one 
(.df .not [(.x 15 [])] .one 
(.br 16 [] 
(.ret (.k (.bool false)) [] []) 
(.df (.bin .geq 3) [(.x 1 []), (.k (.int .i64 0))] .one 
(.br 17 [] 
(.df (.bin .leq 3) [(.x 1 []), (.k (.int .i64 63))] .one 
(.df .not [(.x 18 [])] .one 
(.br 19 [] 
(.ret (.k (.bool false)) [] []) 
(.df (.bin .geq 3) [(.x 2 []), (.k (.int .i64 0))] .one 
(.br 20 [] 
(.df (.bin .leq 3) [(.x 2 []), (.k (.int .i64 4095))] .one 
(.df .not [(.x 21 [])] .one 
(.br 22 [] 
(.ret (.k (.bool false)) [] []) 
(.df (.bin .geq 3) [(.x 4 []), (.k (.int .i64 1))] .one 
(.br 23 [] 
(.df (.bin .leq 3) [(.x 4 []), (.k (.int .i64 9))] .one 
(.df .not [(.x 24 [])] .one 
(.br 25 [] 
(.ret (.k (.bool false)) [] []) 
(.df (.bin .geq 3) [(.x 3 []), (.k (.int .i64 1))] .one 
(.br 26 [] 
(.df (.bin .leq 3) [(.x 3 []), (.k (.int .i64 3))] .one 
(.df .not [(.x 27 [])] .one 
(.br 28 [] 
(.ret (.k (.bool false)) [] []) 
(.df (.bin .geq 3) [(.x 5 []), (.k (.int .i64 0))] .one 
(.br 29 [] 
(.df (.bin .leq 3) [(.x 5 []), (.k (.int .i64 2))] .one 
(.df .not [(.x 30 [])] .one 
(.br 31 [] 
(.ret (.k (.bool false)) [] []) 
(.df (.bin .geq 3) [(.x 6 []), (.k (.int .i64 0))] .one 
(.br 32 [] 
(.df (.bin .leq 3) [(.x 6 []), (.k (.int .i64 8))] .one 
(.df .not [(.x 33 [])] .one 
(.br 34 [] 
(.ret (.k (.bool false)) [] []) 
(.df (.bin .geq 3) [(.x 7 []), (.k (.int .i64 0))] .one 
(.br 35 [] 
(.df (.bin .leq 3) [(.x 7 []), (.k (.int .i64 3))] .one 
(.df .not [(.x 36 [])] .one 
(.br 37 [] 
(.ret (.k (.bool false)) [] []) 
(.df (.bin .geq 3) [(.x 8 []), (.k (.int .i64 0))] .one 
(.br 38 [] 
(.df (.bin .leq 3) [(.x 8 []), (.k (.int .i64 255))] .one 
(.df .not [(.x 39 [])] .one 
(.br 40 [] 
(.ret (.k (.bool false)) [] []) 
(.df (.bin .geq 3) [(.x 9 []), (.k (.int .i64 0))] .one 
(.br 41 [] 
(.df (.bin .leq 3) [(.x 9 []), (.k (.int .i64 64))] .one 
(.df .not [(.x 42 [])] .one 
(.br 43 [] 
(.ret (.k (.bool false)) [] []) 
(.df (.call 103 [.no]) [(.a [(.x 10 []), (.x 11 [])])] .one 
(.br 44 [] 
(.df (.call 103 [.no]) [(.a [(.x 12 []), (.x 13 [])])] .one 
(.br 45 [] 
(.df (.bin .geq 3) [(.x 10 []), (.k (.int .i64 0))] .one 
(.br 46 [] 
(.df (.bin .mul 3) [(.x 10 []), (.x 13 [])] .one 
(.df (.bin .mul 3) [(.x 12 []), (.x 11 [])] .one 
(.df (.bin .lss 3) [(.x 47 []), (.x 48 [])] .one 
(.br 49 [] 
(.df (.bin .leq 3) [(.x 12 []), (.x 13 [])] .one 
(.ret (.x 50 []) [] [])) 
(.ret (.k (.bool false)) [] []))))) 
(.ret (.k (.bool false)) [] []))) 
(.ret (.k (.bool false)) [] []))) 
(.ret (.k (.bool false)) [] [])))))) 
(.ret (.k (.bool false)) [] [])))))) 
(.ret (.k (.bool false)) [] [])))))) 
(.ret (.k (.bool false)) [] [])))))) 
(.ret (.k (.bool false)) [] [])))))) 
(.ret (.k (.bool false)) [] [])))))) 
(.ret (.k (.bool false)) [] [])))))) 
(.ret (.k (.bool false)) [] [])))))) 
(.ret (.k (.bool false)) [] [])))))) 
(.ret (.k (.bool false)) [] [])))))) 
(.ret (.k (.bool false)) [] [])))
def args_Form : List SX.V := [.a ((List.range 14).map fun j => .x j [])]
set_option maxRecDepth 100000 in
theorem run_Form (K A : Value → Nat → List Value → Prop) : (SX.run (cxB K A) ⟨fun f => f != 103, [], 0, 100⟩ 100000 0 (SX.door 86 Try.f86 args_Form (List.replicate 14 .one)) [.code (Try.f86.body.getD .skip), .top Try.f86]).strip = tree_Form := by kernel_rfl
set_option maxRecDepth 100000 in
set_option maxHeartbeats 4000000 in
theorem Form_any (s : Sg) (w : World)  : Calls Try.prog 86 #[valSg s] w fun e w' => e = .returned (.bool (decide s.ok)) ∧ Below w.heap.size w w' := by
  refine SX.calls_of_run (C := cxB (fun _ _ _ => False) (fun _ _ _ => False)) (G := ⟨fun f => f != 103, [], 0, 100⟩) (args := args_Form) (sh := (List.replicate 14 .one)) (ρ := (cellsSg s)) 100000 tree_Form (okB _ _) Try.func86 rfl (run_Form _ _) (by kernel_rfl) (by kernel_rfl) (by kernel_rfl) ?_ ?_
  · exact fun W _ => SX.Kf_none (fun _ _ _ h => h) W
  unfold tree_Form
  refine SX.VC_df (.bool (decide (s.id ≥ 0))) (by intro α; show _ = _; kernel_rfl) (by kernel_rfl) ?_
  refine SX.VC_br (decide (s.id ≥ 0)) (by kernel_rfl) (fun h14 => ?_) (fun h14 => ?_)
  · try simp only [NRM] at h14
    refine SX.VC_df (.bool (decide (s.id ≤ 1048576))) (by intro α; show _ = _; kernel_rfl) (by kernel_rfl) ?_
    refine SX.VC_df (.bool (!(decide (s.id ≤ 1048576)))) (by intro α; show _ = _; kernel_rfl) (by kernel_rfl) ?_
    refine SX.VC_br (!(decide (s.id ≤ 1048576))) (by kernel_rfl) (fun h16 => ?_) (fun h16 => ?_)
    · try simp only [NRM] at h16
      exact SX.VC_ret fun α W _ _ hS => SX.ret_of hS (x := .bool false) (by kernel_rfl) (by congr 1; first | (symm; rw [decide_eq_false_iff_not]; intro hk; simp only [Sg.ok_iff, okS_iff] at hk; first | omega | simp_all) | (rw [Bool.eq_iff_iff]; simp only [decide_eq_true_eq, Sg.ok_iff, okS_iff, h44, h45, true_and]; omega))
    · try simp only [NRM] at h16
      refine SX.VC_df (.bool (decide (s.role ≥ 0))) (by intro α; show _ = _; kernel_rfl) (by kernel_rfl) ?_
      refine SX.VC_br (decide (s.role ≥ 0)) (by kernel_rfl) (fun h17 => ?_) (fun h17 => ?_)
      · try simp only [NRM] at h17
        refine SX.VC_df (.bool (decide (s.role ≤ 63))) (by intro α; show _ = _; kernel_rfl) (by kernel_rfl) ?_
        refine SX.VC_df (.bool (!(decide (s.role ≤ 63)))) (by intro α; show _ = _; kernel_rfl) (by kernel_rfl) ?_
        refine SX.VC_br (!(decide (s.role ≤ 63))) (by kernel_rfl) (fun h19 => ?_) (fun h19 => ?_)
        · try simp only [NRM] at h19
          exact SX.VC_ret fun α W _ _ hS => SX.ret_of hS (x := .bool false) (by kernel_rfl) (by congr 1; first | (symm; rw [decide_eq_false_iff_not]; intro hk; simp only [Sg.ok_iff, okS_iff] at hk; first | omega | simp_all) | (rw [Bool.eq_iff_iff]; simp only [decide_eq_true_eq, Sg.ok_iff, okS_iff, h44, h45, true_and]; omega))
        · try simp only [NRM] at h19
          refine SX.VC_df (.bool (decide (s.bar ≥ 0))) (by intro α; show _ = _; kernel_rfl) (by kernel_rfl) ?_
          refine SX.VC_br (decide (s.bar ≥ 0)) (by kernel_rfl) (fun h20 => ?_) (fun h20 => ?_)
          · try simp only [NRM] at h20
            refine SX.VC_df (.bool (decide (s.bar ≤ 4095))) (by intro α; show _ = _; kernel_rfl) (by kernel_rfl) ?_
            refine SX.VC_df (.bool (!(decide (s.bar ≤ 4095)))) (by intro α; show _ = _; kernel_rfl) (by kernel_rfl) ?_
            refine SX.VC_br (!(decide (s.bar ≤ 4095))) (by kernel_rfl) (fun h22 => ?_) (fun h22 => ?_)
            · try simp only [NRM] at h22
              exact SX.VC_ret fun α W _ _ hS => SX.ret_of hS (x := .bool false) (by kernel_rfl) (by congr 1; first | (symm; rw [decide_eq_false_iff_not]; intro hk; simp only [Sg.ok_iff, okS_iff] at hk; first | omega | simp_all) | (rw [Bool.eq_iff_iff]; simp only [decide_eq_true_eq, Sg.ok_iff, okS_iff, h44, h45, true_and]; omega))
            · try simp only [NRM] at h22
              refine SX.VC_df (.bool (decide (s.kind ≥ 1))) (by intro α; show _ = _; kernel_rfl) (by kernel_rfl) ?_
              refine SX.VC_br (decide (s.kind ≥ 1)) (by kernel_rfl) (fun h23 => ?_) (fun h23 => ?_)
              · try simp only [NRM] at h23
                refine SX.VC_df (.bool (decide (s.kind ≤ 9))) (by intro α; show _ = _; kernel_rfl) (by kernel_rfl) ?_
                refine SX.VC_df (.bool (!(decide (s.kind ≤ 9)))) (by intro α; show _ = _; kernel_rfl) (by kernel_rfl) ?_
                refine SX.VC_br (!(decide (s.kind ≤ 9))) (by kernel_rfl) (fun h25 => ?_) (fun h25 => ?_)
                · try simp only [NRM] at h25
                  exact SX.VC_ret fun α W _ _ hS => SX.ret_of hS (x := .bool false) (by kernel_rfl) (by congr 1; first | (symm; rw [decide_eq_false_iff_not]; intro hk; simp only [Sg.ok_iff, okS_iff] at hk; first | omega | simp_all) | (rw [Bool.eq_iff_iff]; simp only [decide_eq_true_eq, Sg.ok_iff, okS_iff, h44, h45, true_and]; omega))
                · try simp only [NRM] at h25
                  refine SX.VC_df (.bool (decide (s.mark ≥ 1))) (by intro α; show _ = _; kernel_rfl) (by kernel_rfl) ?_
                  refine SX.VC_br (decide (s.mark ≥ 1)) (by kernel_rfl) (fun h26 => ?_) (fun h26 => ?_)
                  · try simp only [NRM] at h26
                    refine SX.VC_df (.bool (decide (s.mark ≤ 3))) (by intro α; show _ = _; kernel_rfl) (by kernel_rfl) ?_
                    refine SX.VC_df (.bool (!(decide (s.mark ≤ 3)))) (by intro α; show _ = _; kernel_rfl) (by kernel_rfl) ?_
                    refine SX.VC_br (!(decide (s.mark ≤ 3))) (by kernel_rfl) (fun h28 => ?_) (fun h28 => ?_)
                    · try simp only [NRM] at h28
                      exact SX.VC_ret fun α W _ _ hS => SX.ret_of hS (x := .bool false) (by kernel_rfl) (by congr 1; first | (symm; rw [decide_eq_false_iff_not]; intro hk; simp only [Sg.ok_iff, okS_iff] at hk; first | omega | simp_all) | (rw [Bool.eq_iff_iff]; simp only [decide_eq_true_eq, Sg.ok_iff, okS_iff, h44, h45, true_and]; omega))
                    · try simp only [NRM] at h28
                      refine SX.VC_df (.bool (decide (s.side ≥ 0))) (by intro α; show _ = _; kernel_rfl) (by kernel_rfl) ?_
                      refine SX.VC_br (decide (s.side ≥ 0)) (by kernel_rfl) (fun h29 => ?_) (fun h29 => ?_)
                      · try simp only [NRM] at h29
                        refine SX.VC_df (.bool (decide (s.side ≤ 2))) (by intro α; show _ = _; kernel_rfl) (by kernel_rfl) ?_
                        refine SX.VC_df (.bool (!(decide (s.side ≤ 2)))) (by intro α; show _ = _; kernel_rfl) (by kernel_rfl) ?_
                        refine SX.VC_br (!(decide (s.side ≤ 2))) (by kernel_rfl) (fun h31 => ?_) (fun h31 => ?_)
                        · try simp only [NRM] at h31
                          exact SX.VC_ret fun α W _ _ hS => SX.ret_of hS (x := .bool false) (by kernel_rfl) (by congr 1; first | (symm; rw [decide_eq_false_iff_not]; intro hk; simp only [Sg.ok_iff, okS_iff] at hk; first | omega | simp_all) | (rw [Bool.eq_iff_iff]; simp only [decide_eq_true_eq, Sg.ok_iff, okS_iff, h44, h45, true_and]; omega))
                        · try simp only [NRM] at h31
                          refine SX.VC_df (.bool (decide (s.dir ≥ 0))) (by intro α; show _ = _; kernel_rfl) (by kernel_rfl) ?_
                          refine SX.VC_br (decide (s.dir ≥ 0)) (by kernel_rfl) (fun h32 => ?_) (fun h32 => ?_)
                          · try simp only [NRM] at h32
                            refine SX.VC_df (.bool (decide (s.dir ≤ 8))) (by intro α; show _ = _; kernel_rfl) (by kernel_rfl) ?_
                            refine SX.VC_df (.bool (!(decide (s.dir ≤ 8)))) (by intro α; show _ = _; kernel_rfl) (by kernel_rfl) ?_
                            refine SX.VC_br (!(decide (s.dir ≤ 8))) (by kernel_rfl) (fun h34 => ?_) (fun h34 => ?_)
                            · try simp only [NRM] at h34
                              exact SX.VC_ret fun α W _ _ hS => SX.ret_of hS (x := .bool false) (by kernel_rfl) (by congr 1; first | (symm; rw [decide_eq_false_iff_not]; intro hk; simp only [Sg.ok_iff, okS_iff] at hk; first | omega | simp_all) | (rw [Bool.eq_iff_iff]; simp only [decide_eq_true_eq, Sg.ok_iff, okS_iff, h44, h45, true_and]; omega))
                            · try simp only [NRM] at h34
                              refine SX.VC_df (.bool (decide (s.level ≥ 0))) (by intro α; show _ = _; kernel_rfl) (by kernel_rfl) ?_
                              refine SX.VC_br (decide (s.level ≥ 0)) (by kernel_rfl) (fun h35 => ?_) (fun h35 => ?_)
                              · try simp only [NRM] at h35
                                refine SX.VC_df (.bool (decide (s.level ≤ 3))) (by intro α; show _ = _; kernel_rfl) (by kernel_rfl) ?_
                                refine SX.VC_df (.bool (!(decide (s.level ≤ 3)))) (by intro α; show _ = _; kernel_rfl) (by kernel_rfl) ?_
                                refine SX.VC_br (!(decide (s.level ≤ 3))) (by kernel_rfl) (fun h37 => ?_) (fun h37 => ?_)
                                · try simp only [NRM] at h37
                                  exact SX.VC_ret fun α W _ _ hS => SX.ret_of hS (x := .bool false) (by kernel_rfl) (by congr 1; first | (symm; rw [decide_eq_false_iff_not]; intro hk; simp only [Sg.ok_iff, okS_iff] at hk; first | omega | simp_all) | (rw [Bool.eq_iff_iff]; simp only [decide_eq_true_eq, Sg.ok_iff, okS_iff, h44, h45, true_and]; omega))
                                · try simp only [NRM] at h37
                                  refine SX.VC_df (.bool (decide (s.size ≥ 0))) (by intro α; show _ = _; kernel_rfl) (by kernel_rfl) ?_
                                  refine SX.VC_br (decide (s.size ≥ 0)) (by kernel_rfl) (fun h38 => ?_) (fun h38 => ?_)
                                  · try simp only [NRM] at h38
                                    refine SX.VC_df (.bool (decide (s.size ≤ 255))) (by intro α; show _ = _; kernel_rfl) (by kernel_rfl) ?_
                                    refine SX.VC_df (.bool (!(decide (s.size ≤ 255)))) (by intro α; show _ = _; kernel_rfl) (by kernel_rfl) ?_
                                    refine SX.VC_br (!(decide (s.size ≤ 255))) (by kernel_rfl) (fun h40 => ?_) (fun h40 => ?_)
                                    · try simp only [NRM] at h40
                                      exact SX.VC_ret fun α W _ _ hS => SX.ret_of hS (x := .bool false) (by kernel_rfl) (by congr 1; first | (symm; rw [decide_eq_false_iff_not]; intro hk; simp only [Sg.ok_iff, okS_iff] at hk; first | omega | simp_all) | (rw [Bool.eq_iff_iff]; simp only [decide_eq_true_eq, Sg.ok_iff, okS_iff, h44, h45, true_and]; omega))
                                    · try simp only [NRM] at h40
                                      refine SX.VC_df (.bool (decide (s.with_ ≥ 0))) (by intro α; show _ = _; kernel_rfl) (by kernel_rfl) ?_
                                      refine SX.VC_br (decide (s.with_ ≥ 0)) (by kernel_rfl) (fun h41 => ?_) (fun h41 => ?_)
                                      · try simp only [NRM] at h41
                                        refine SX.VC_df (.bool (decide (s.with_ ≤ 64))) (by intro α; show _ = _; kernel_rfl) (by kernel_rfl) ?_
                                        refine SX.VC_df (.bool (!(decide (s.with_ ≤ 64)))) (by intro α; show _ = _; kernel_rfl) (by kernel_rfl) ?_
                                        refine SX.VC_br (!(decide (s.with_ ≤ 64))) (by kernel_rfl) (fun h43 => ?_) (fun h43 => ?_)
                                        · try simp only [NRM] at h43
                                          exact SX.VC_ret fun α W _ _ hS => SX.ret_of hS (x := .bool false) (by kernel_rfl) (by congr 1; first | (symm; rw [decide_eq_false_iff_not]; intro hk; simp only [Sg.ok_iff, okS_iff] at hk; first | omega | simp_all) | (rw [Bool.eq_iff_iff]; simp only [decide_eq_true_eq, Sg.ok_iff, okS_iff, h44, h45, true_and]; omega))
                                        · try simp only [NRM] at h43
                                          refine SX.VC_df (.bool (decide (okR s.fn s.fd))) (fun α => ⟨[⟨.agg #[.int .i64 s.fn, .int .i64 s.fd], 0, []⟩], ⟨by kernel_rfl, by kernel_rfl, trivial⟩, .inl ⟨rfl, _, _, rfl, rfl⟩, SX.noAli rfl⟩) (by kernel_rfl) ?_
                                          refine SX.VC_br (decide (okR s.fn s.fd)) (by kernel_rfl) (fun h44 => ?_) (fun h44 => ?_)
                                          · try simp only [NRM] at h44
                                            refine SX.VC_df (.bool (decide (okR s.tn s.td))) (fun α => ⟨[⟨.agg #[.int .i64 s.tn, .int .i64 s.td], 0, []⟩], ⟨by kernel_rfl, by kernel_rfl, trivial⟩, .inl ⟨rfl, _, _, rfl, rfl⟩, SX.noAli rfl⟩) (by kernel_rfl) ?_
                                            refine SX.VC_br (decide (okR s.tn s.td)) (by kernel_rfl) (fun h45 => ?_) (fun h45 => ?_)
                                            · try simp only [NRM] at h45
                                              refine SX.VC_df (.bool (decide (s.fn ≥ 0))) (by intro α; show _ = _; kernel_rfl) (by kernel_rfl) ?_
                                              refine SX.VC_br (decide (s.fn ≥ 0)) (by kernel_rfl) (fun h46 => ?_) (fun h46 => ?_)
                                              · try simp only [NRM] at h46
                                                have q1 : okR s.fn s.fd := h44
                                                have q2 : okR s.tn s.td := h45
                                                unfold okR at q1 q2
                                                have m1 := mul_small (a := s.fn) (b := s.td) (by omega) (by omega) (by omega) (by omega)
                                                have m2 := mul_small (a := s.tn) (b := s.fd) (by omega) (by omega) (by omega) (by omega)
                                                refine SX.VC_df (.int .i64 (s.fn * s.td)) (fun α => Eq.trans (b := some (.int .i64 (IntKind.i64.wrap (s.fn * s.td)))) (by kernel_rfl) (by rw [wrap_i64 (by omega) (by omega)])) (by kernel_rfl) ?_
                                                refine SX.VC_df (.int .i64 (s.tn * s.fd)) (fun α => Eq.trans (b := some (.int .i64 (IntKind.i64.wrap (s.tn * s.fd)))) (by kernel_rfl) (by rw [wrap_i64 (by omega) (by omega)])) (by kernel_rfl) ?_
                                                refine SX.VC_df (.bool (decide (s.fn * s.td < s.tn * s.fd))) (by intro α; show _ = _; kernel_rfl) (by kernel_rfl) ?_
                                                refine SX.VC_br (decide (s.fn * s.td < s.tn * s.fd)) (by kernel_rfl) (fun h49 => ?_) (fun h49 => ?_)
                                                · try simp only [NRM] at h49
                                                  refine SX.VC_df (.bool (decide (s.tn ≤ s.td))) (by intro α; show _ = _; kernel_rfl) (by kernel_rfl) ?_
                                                  exact SX.VC_ret fun α W _ _ hS => SX.ret_of hS (x := .bool (decide (s.tn ≤ s.td))) (by kernel_rfl) (by congr 1; first | (symm; rw [decide_eq_false_iff_not]; intro hk; simp only [Sg.ok_iff, okS_iff] at hk; first | omega | simp_all) | (rw [Bool.eq_iff_iff]; simp only [decide_eq_true_eq, Sg.ok_iff, okS_iff, h44, h45, true_and]; omega))
                                                · try simp only [NRM] at h49
                                                  exact SX.VC_ret fun α W _ _ hS => SX.ret_of hS (x := .bool false) (by kernel_rfl) (by congr 1; first | (symm; rw [decide_eq_false_iff_not]; intro hk; simp only [Sg.ok_iff, okS_iff] at hk; first | omega | simp_all) | (rw [Bool.eq_iff_iff]; simp only [decide_eq_true_eq, Sg.ok_iff, okS_iff, h44, h45, true_and]; omega))
                                              · try simp only [NRM] at h46
                                                exact SX.VC_ret fun α W _ _ hS => SX.ret_of hS (x := .bool false) (by kernel_rfl) (by congr 1; first | (symm; rw [decide_eq_false_iff_not]; intro hk; simp only [Sg.ok_iff, okS_iff] at hk; first | omega | simp_all) | (rw [Bool.eq_iff_iff]; simp only [decide_eq_true_eq, Sg.ok_iff, okS_iff, h44, h45, true_and]; omega))
                                            · try simp only [NRM] at h45
                                              exact SX.VC_ret fun α W _ _ hS => SX.ret_of hS (x := .bool false) (by kernel_rfl) (by congr 1; first | (symm; rw [decide_eq_false_iff_not]; intro hk; simp only [Sg.ok_iff, okS_iff] at hk; first | omega | simp_all) | (rw [Bool.eq_iff_iff]; simp only [decide_eq_true_eq, Sg.ok_iff, okS_iff, h44, h45, true_and]; omega))
                                          · try simp only [NRM] at h44
                                            exact SX.VC_ret fun α W _ _ hS => SX.ret_of hS (x := .bool false) (by kernel_rfl) (by congr 1; first | (symm; rw [decide_eq_false_iff_not]; intro hk; simp only [Sg.ok_iff, okS_iff] at hk; first | omega | simp_all) | (rw [Bool.eq_iff_iff]; simp only [decide_eq_true_eq, Sg.ok_iff, okS_iff, h44, h45, true_and]; omega))
                                      · try simp only [NRM] at h41
                                        exact SX.VC_ret fun α W _ _ hS => SX.ret_of hS (x := .bool false) (by kernel_rfl) (by congr 1; first | (symm; rw [decide_eq_false_iff_not]; intro hk; simp only [Sg.ok_iff, okS_iff] at hk; first | omega | simp_all) | (rw [Bool.eq_iff_iff]; simp only [decide_eq_true_eq, Sg.ok_iff, okS_iff, h44, h45, true_and]; omega))
                                  · try simp only [NRM] at h38
                                    exact SX.VC_ret fun α W _ _ hS => SX.ret_of hS (x := .bool false) (by kernel_rfl) (by congr 1; first | (symm; rw [decide_eq_false_iff_not]; intro hk; simp only [Sg.ok_iff, okS_iff] at hk; first | omega | simp_all) | (rw [Bool.eq_iff_iff]; simp only [decide_eq_true_eq, Sg.ok_iff, okS_iff, h44, h45, true_and]; omega))
                              · try simp only [NRM] at h35
                                exact SX.VC_ret fun α W _ _ hS => SX.ret_of hS (x := .bool false) (by kernel_rfl) (by congr 1; first | (symm; rw [decide_eq_false_iff_not]; intro hk; simp only [Sg.ok_iff, okS_iff] at hk; first | omega | simp_all) | (rw [Bool.eq_iff_iff]; simp only [decide_eq_true_eq, Sg.ok_iff, okS_iff, h44, h45, true_and]; omega))
                          · try simp only [NRM] at h32
                            exact SX.VC_ret fun α W _ _ hS => SX.ret_of hS (x := .bool false) (by kernel_rfl) (by congr 1; first | (symm; rw [decide_eq_false_iff_not]; intro hk; simp only [Sg.ok_iff, okS_iff] at hk; first | omega | simp_all) | (rw [Bool.eq_iff_iff]; simp only [decide_eq_true_eq, Sg.ok_iff, okS_iff, h44, h45, true_and]; omega))
                      · try simp only [NRM] at h29
                        exact SX.VC_ret fun α W _ _ hS => SX.ret_of hS (x := .bool false) (by kernel_rfl) (by congr 1; first | (symm; rw [decide_eq_false_iff_not]; intro hk; simp only [Sg.ok_iff, okS_iff] at hk; first | omega | simp_all) | (rw [Bool.eq_iff_iff]; simp only [decide_eq_true_eq, Sg.ok_iff, okS_iff, h44, h45, true_and]; omega))
                  · try simp only [NRM] at h26
                    exact SX.VC_ret fun α W _ _ hS => SX.ret_of hS (x := .bool false) (by kernel_rfl) (by congr 1; first | (symm; rw [decide_eq_false_iff_not]; intro hk; simp only [Sg.ok_iff, okS_iff] at hk; first | omega | simp_all) | (rw [Bool.eq_iff_iff]; simp only [decide_eq_true_eq, Sg.ok_iff, okS_iff, h44, h45, true_and]; omega))
              · try simp only [NRM] at h23
                exact SX.VC_ret fun α W _ _ hS => SX.ret_of hS (x := .bool false) (by kernel_rfl) (by congr 1; first | (symm; rw [decide_eq_false_iff_not]; intro hk; simp only [Sg.ok_iff, okS_iff] at hk; first | omega | simp_all) | (rw [Bool.eq_iff_iff]; simp only [decide_eq_true_eq, Sg.ok_iff, okS_iff, h44, h45, true_and]; omega))
          · try simp only [NRM] at h20
            exact SX.VC_ret fun α W _ _ hS => SX.ret_of hS (x := .bool false) (by kernel_rfl) (by congr 1; first | (symm; rw [decide_eq_false_iff_not]; intro hk; simp only [Sg.ok_iff, okS_iff] at hk; first | omega | simp_all) | (rw [Bool.eq_iff_iff]; simp only [decide_eq_true_eq, Sg.ok_iff, okS_iff, h44, h45, true_and]; omega))
      · try simp only [NRM] at h17
        exact SX.VC_ret fun α W _ _ hS => SX.ret_of hS (x := .bool false) (by kernel_rfl) (by congr 1; first | (symm; rw [decide_eq_false_iff_not]; intro hk; simp only [Sg.ok_iff, okS_iff] at hk; first | omega | simp_all) | (rw [Bool.eq_iff_iff]; simp only [decide_eq_true_eq, Sg.ok_iff, okS_iff, h44, h45, true_and]; omega))
  · try simp only [NRM] at h14
    exact SX.VC_ret fun α W _ _ hS => SX.ret_of hS (x := .bool false) (by kernel_rfl) (by congr 1; first | (symm; rw [decide_eq_false_iff_not]; intro hk; simp only [Sg.ok_iff, okS_iff] at hk; first | omega | simp_all) | (rw [Bool.eq_iff_iff]; simp only [decide_eq_true_eq, Sg.ok_iff, okS_iff, h44, h45, true_and]; omega))
def tree_form : SX.Tree :=
(.df (.bin .geq 3) [(.x 0 []), (.k (.int .i64 0))] .one 
(.br 14 [] 
(.df (.bin .leq 3) [(.x 0 []), (.k (.int .i64 1048576))] .one 
(.br 15 [] 
(.df (.bin .geq 3) [(.x 1 []), (.k (.int .i64 0))] .one 
(.br 16 [] 
(.df (.bin .leq 3) [(.x 1 []), (.k (.int .i64 63))] .one 
(.br 17 [] 
(.df (.bin .geq 3) [(.x 2 []), (.k (.int .i64 0))] .one 
(.br 18 [] 
(.df (.bin .leq 3) [(.x 2 []), (.k (.int .i64 4095))] .one 
(.br 19 [] 
(.df (.bin .geq 3) [(.x 4 []), (.k (.int .i64 1))] .one 
(.br 20 [] 
(.df (.bin .leq 3) [(.x 4 []), (.k (.int .i64 9))] .one 
(.br 21 [] 
(.df (.bin .geq 3) [(.x 3 []), (.k (.int .i64 1))] .one 
(.br 22 [] 
(.df (.bin .leq 3) [(.x 3 []), (.k (.int .i64 3))] .one 
(.br 23 [] 
(.df (.bin .geq 3) [(.x 5 []), (.k (.int .i64 0))] .one 
(.br 24 [] 
(.df (.bin .leq 3) [(.x 5 []), (.k (.int .i64 2))] .one 
(.br 25 [] 
(.df (.bin .geq 3) [(.x 6 []), (.k (.int .i64 0))] .one 
(.br 26 [] 
(.df (.bin .leq 3) [(.x 6 []), (.k (.int .i64 8))] .one 
(.br 27 [] 
(.df (.bin .geq 3) [(.x 7 []), (.k (.int .i64 0))] .one 
(.br 28 [] 
(.df (.bin .leq 3) [(.x 7 []), (.k (.int .i64 3))] .one 
(.br 29 [] 
(.df (.bin .geq 3) [(.x 8 []), (.k (.int .i64 0))] .one 
(.br 30 [] 
(.df (.bin .leq 3) [(.x 8 []), (.k (.int .i64 255))] .one 
(.br 31 [] 
(.df (.bin .geq 3) [(.x 9 []), (.k (.int .i64 0))] .one 
(.br 32 [] 
(.df (.bin .leq 3) [(.x 9 []), (.k (.int .i64 64))] .one 
(.br 33 [] 
(.df (.call 79 [.no]) [(.a [(.x 10 []), (.x 11 [])])] .one 
(.df (.bin .neq 31) [(.x 34 []), (.k (.int .i64 0))] .one 
(.br 35 [] 
(.ret (.k (.bool false)) [] []) 
(.df (.call 79 [.no]) [(.a [(.x 12 []), (.x 13 [])])] .one 
(.df (.bin .neq 31) [(.x 36 []), (.k (.int .i64 0))] .one 
(.br 37 [] 
(.ret (.k (.bool false)) [] []) 
(.df (.bin .mul 3) [(.x 10 []), (.x 13 [])] .one 
(.df (.bin .mul 3) [(.x 12 []), (.x 11 [])] .one 
(.df (.bin .neq 3) [(.x 38 []), (.x 38 [])] .one 
(.df (.bin .neq 3) [(.x 39 []), (.x 39 [])] .one 
(.br 40 [] 
(.br 41 [] 
(.ret (.k (.bool false)) [] []) 
(.df (.bin .geq 3) [(.x 10 []), (.k (.int .i64 0))] .one 
(.br 42 [] 
(.df (.bin .leq 3) [(.x 12 []), (.x 13 [])] .one 
(.ret (.x 43 []) [] [])) 
(.ret (.k (.bool false)) [] [])))) 
(.br 41 [] 
(.ret (.k (.bool false)) [] []) 
(.df (.bin .lss 3) [(.x 38 []), (.x 39 [])] .one 
(.br 42 [] 
(.df (.bin .geq 3) [(.x 10 []), (.k (.int .i64 0))] .one 
(.br 43 [] 
(.df (.bin .leq 3) [(.x 12 []), (.x 13 [])] .one 
(.ret (.x 44 []) [] [])) 
(.ret (.k (.bool false)) [] []))) 
(.df (.bin .gtr 3) [(.x 38 []), (.x 39 [])] .one 
(.br 43 [] 
(.ret (.k (.bool false)) [] []) 
(.ret (.k (.bool false)) [] []))))))))))))))))) 
(.ret (.k (.bool false)) [] []))) 
(.ret (.k (.bool false)) [] []))) 
(.ret (.k (.bool false)) [] []))) 
(.ret (.k (.bool false)) [] []))) 
(.ret (.k (.bool false)) [] []))) 
(.ret (.k (.bool false)) [] []))) 
(.ret (.k (.bool false)) [] []))) 
(.ret (.k (.bool false)) [] []))) 
(.ret (.k (.bool false)) [] []))) 
(.ret (.k (.bool false)) [] []))) 
(.ret (.k (.bool false)) [] []))) 
(.ret (.k (.bool false)) [] []))) 
(.ret (.k (.bool false)) [] []))) 
(.ret (.k (.bool false)) [] []))) 
(.ret (.k (.bool false)) [] []))) 
(.ret (.k (.bool false)) [] []))) 
(.ret (.k (.bool false)) [] []))) 
(.ret (.k (.bool false)) [] []))) 
(.ret (.k (.bool false)) [] []))) 
(.ret (.k (.bool false)) [] [])))
def args_form : List SX.V := [.a ((List.range 14).map fun j => .x j [])]
set_option maxRecDepth 100000 in
theorem run_form (K A : Value → Nat → List Value → Prop) : (SX.run (cxB K A) ⟨fun f => f != 79, [], 0, 100⟩ 100000 0 (SX.door 38 Try.f38 args_form (List.replicate 14 .one)) [.code (Try.f38.body.getD .skip), .top Try.f38]).strip = tree_form := by kernel_rfl
set_option maxRecDepth 100000 in
set_option maxHeartbeats 4000000 in
theorem form_any (s : Sg) (w : World)  : Calls Try.prog 38 #[valSg s] w fun e w' => e = .returned (.bool (decide s.ok)) ∧ Below w.heap.size w w' := by
  refine SX.calls_of_run (C := cxB (fun _ _ _ => False) (fun _ _ _ => False)) (G := ⟨fun f => f != 79, [], 0, 100⟩) (args := args_form) (sh := (List.replicate 14 .one)) (ρ := (cellsSg s)) 100000 tree_form (okB _ _) Try.func38 rfl (run_form _ _) (by kernel_rfl) (by kernel_rfl) (by kernel_rfl) ?_ ?_
  · exact fun W _ => SX.Kf_none (fun _ _ _ h => h) W
  unfold tree_form
  refine SX.VC_df (.bool (decide (s.id ≥ 0))) (by intro α; show _ = _; kernel_rfl) (by kernel_rfl) ?_
  refine SX.VC_br (decide (s.id ≥ 0)) (by kernel_rfl) (fun h14 => ?_) (fun h14 => ?_)
  · try simp only [NRM] at h14
    refine SX.VC_df (.bool (decide (s.id ≤ 1048576))) (by intro α; show _ = _; kernel_rfl) (by kernel_rfl) ?_
    refine SX.VC_br (decide (s.id ≤ 1048576)) (by kernel_rfl) (fun h15 => ?_) (fun h15 => ?_)
    · try simp only [NRM] at h15
      refine SX.VC_df (.bool (decide (s.role ≥ 0))) (by intro α; show _ = _; kernel_rfl) (by kernel_rfl) ?_
      refine SX.VC_br (decide (s.role ≥ 0)) (by kernel_rfl) (fun h16 => ?_) (fun h16 => ?_)
      · try simp only [NRM] at h16
        refine SX.VC_df (.bool (decide (s.role ≤ 63))) (by intro α; show _ = _; kernel_rfl) (by kernel_rfl) ?_
        refine SX.VC_br (decide (s.role ≤ 63)) (by kernel_rfl) (fun h17 => ?_) (fun h17 => ?_)
        · try simp only [NRM] at h17
          refine SX.VC_df (.bool (decide (s.bar ≥ 0))) (by intro α; show _ = _; kernel_rfl) (by kernel_rfl) ?_
          refine SX.VC_br (decide (s.bar ≥ 0)) (by kernel_rfl) (fun h18 => ?_) (fun h18 => ?_)
          · try simp only [NRM] at h18
            refine SX.VC_df (.bool (decide (s.bar ≤ 4095))) (by intro α; show _ = _; kernel_rfl) (by kernel_rfl) ?_
            refine SX.VC_br (decide (s.bar ≤ 4095)) (by kernel_rfl) (fun h19 => ?_) (fun h19 => ?_)
            · try simp only [NRM] at h19
              refine SX.VC_df (.bool (decide (s.kind ≥ 1))) (by intro α; show _ = _; kernel_rfl) (by kernel_rfl) ?_
              refine SX.VC_br (decide (s.kind ≥ 1)) (by kernel_rfl) (fun h20 => ?_) (fun h20 => ?_)
              · try simp only [NRM] at h20
                refine SX.VC_df (.bool (decide (s.kind ≤ 9))) (by intro α; show _ = _; kernel_rfl) (by kernel_rfl) ?_
                refine SX.VC_br (decide (s.kind ≤ 9)) (by kernel_rfl) (fun h21 => ?_) (fun h21 => ?_)
                · try simp only [NRM] at h21
                  refine SX.VC_df (.bool (decide (s.mark ≥ 1))) (by intro α; show _ = _; kernel_rfl) (by kernel_rfl) ?_
                  refine SX.VC_br (decide (s.mark ≥ 1)) (by kernel_rfl) (fun h22 => ?_) (fun h22 => ?_)
                  · try simp only [NRM] at h22
                    refine SX.VC_df (.bool (decide (s.mark ≤ 3))) (by intro α; show _ = _; kernel_rfl) (by kernel_rfl) ?_
                    refine SX.VC_br (decide (s.mark ≤ 3)) (by kernel_rfl) (fun h23 => ?_) (fun h23 => ?_)
                    · try simp only [NRM] at h23
                      refine SX.VC_df (.bool (decide (s.side ≥ 0))) (by intro α; show _ = _; kernel_rfl) (by kernel_rfl) ?_
                      refine SX.VC_br (decide (s.side ≥ 0)) (by kernel_rfl) (fun h24 => ?_) (fun h24 => ?_)
                      · try simp only [NRM] at h24
                        refine SX.VC_df (.bool (decide (s.side ≤ 2))) (by intro α; show _ = _; kernel_rfl) (by kernel_rfl) ?_
                        refine SX.VC_br (decide (s.side ≤ 2)) (by kernel_rfl) (fun h25 => ?_) (fun h25 => ?_)
                        · try simp only [NRM] at h25
                          refine SX.VC_df (.bool (decide (s.dir ≥ 0))) (by intro α; show _ = _; kernel_rfl) (by kernel_rfl) ?_
                          refine SX.VC_br (decide (s.dir ≥ 0)) (by kernel_rfl) (fun h26 => ?_) (fun h26 => ?_)
                          · try simp only [NRM] at h26
                            refine SX.VC_df (.bool (decide (s.dir ≤ 8))) (by intro α; show _ = _; kernel_rfl) (by kernel_rfl) ?_
                            refine SX.VC_br (decide (s.dir ≤ 8)) (by kernel_rfl) (fun h27 => ?_) (fun h27 => ?_)
                            · try simp only [NRM] at h27
                              refine SX.VC_df (.bool (decide (s.level ≥ 0))) (by intro α; show _ = _; kernel_rfl) (by kernel_rfl) ?_
                              refine SX.VC_br (decide (s.level ≥ 0)) (by kernel_rfl) (fun h28 => ?_) (fun h28 => ?_)
                              · try simp only [NRM] at h28
                                refine SX.VC_df (.bool (decide (s.level ≤ 3))) (by intro α; show _ = _; kernel_rfl) (by kernel_rfl) ?_
                                refine SX.VC_br (decide (s.level ≤ 3)) (by kernel_rfl) (fun h29 => ?_) (fun h29 => ?_)
                                · try simp only [NRM] at h29
                                  refine SX.VC_df (.bool (decide (s.size ≥ 0))) (by intro α; show _ = _; kernel_rfl) (by kernel_rfl) ?_
                                  refine SX.VC_br (decide (s.size ≥ 0)) (by kernel_rfl) (fun h30 => ?_) (fun h30 => ?_)
                                  · try simp only [NRM] at h30
                                    refine SX.VC_df (.bool (decide (s.size ≤ 255))) (by intro α; show _ = _; kernel_rfl) (by kernel_rfl) ?_
                                    refine SX.VC_br (decide (s.size ≤ 255)) (by kernel_rfl) (fun h31 => ?_) (fun h31 => ?_)
                                    · try simp only [NRM] at h31
                                      refine SX.VC_df (.bool (decide (s.with_ ≥ 0))) (by intro α; show _ = _; kernel_rfl) (by kernel_rfl) ?_
                                      refine SX.VC_br (decide (s.with_ ≥ 0)) (by kernel_rfl) (fun h32 => ?_) (fun h32 => ?_)
                                      · try simp only [NRM] at h32
                                        refine SX.VC_df (.bool (decide (s.with_ ≤ 64))) (by intro α; show _ = _; kernel_rfl) (by kernel_rfl) ?_
                                        refine SX.VC_br (decide (s.with_ ≤ 64)) (by kernel_rfl) (fun h33 => ?_) (fun h33 => ?_)
                                        · try simp only [NRM] at h33
                                          refine SX.VC_df (.int .i64 ((if okR s.fn s.fd then (0 : Int) else 120))) (fun α => ⟨[⟨.agg #[.int .i64 s.fn, .int .i64 s.fd], 0, []⟩], ⟨by kernel_rfl, by kernel_rfl, trivial⟩, .inr (⟨rfl, _, _, rfl, rfl⟩), SX.noAli rfl⟩) (by kernel_rfl) ?_
                                          refine SX.VC_df (.bool (!decide (okR s.fn s.fd))) (fun α => Eq.trans (b := some (.bool ((if okR s.fn s.fd then (0 : Int) else 120) != 0))) (by kernel_rfl) (by split <;> simp_all)) (by kernel_rfl) ?_
                                          refine SX.VC_br (!decide (okR s.fn s.fd)) (by kernel_rfl) (fun h35 => ?_) (fun h35 => ?_)
                                          · try simp only [NRM] at h35
                                            exact SX.VC_ret fun α W _ _ hS => SX.ret_of hS (x := .bool false) (by kernel_rfl) (by congr 1; first | (symm; rw [decide_eq_false_iff_not]; intro hk; simp only [Sg.ok_iff, okS_iff] at hk; first | omega | simp_all) | (rw [Bool.eq_iff_iff]; simp only [decide_eq_true_eq, Sg.ok_iff, okS_iff, h35, h37, true_and]; omega))
                                          · try simp only [NRM] at h35
                                            refine SX.VC_df (.int .i64 ((if okR s.tn s.td then (0 : Int) else 120))) (fun α => ⟨[⟨.agg #[.int .i64 s.tn, .int .i64 s.td], 0, []⟩], ⟨by kernel_rfl, by kernel_rfl, trivial⟩, .inr (⟨rfl, _, _, rfl, rfl⟩), SX.noAli rfl⟩) (by kernel_rfl) ?_
                                            refine SX.VC_df (.bool (!decide (okR s.tn s.td))) (fun α => Eq.trans (b := some (.bool ((if okR s.tn s.td then (0 : Int) else 120) != 0))) (by kernel_rfl) (by split <;> simp_all)) (by kernel_rfl) ?_
                                            refine SX.VC_br (!decide (okR s.tn s.td)) (by kernel_rfl) (fun h37 => ?_) (fun h37 => ?_)
                                            · try simp only [NRM] at h37
                                              exact SX.VC_ret fun α W _ _ hS => SX.ret_of hS (x := .bool false) (by kernel_rfl) (by congr 1; first | (symm; rw [decide_eq_false_iff_not]; intro hk; simp only [Sg.ok_iff, okS_iff] at hk; first | omega | simp_all) | (rw [Bool.eq_iff_iff]; simp only [decide_eq_true_eq, Sg.ok_iff, okS_iff, h35, h37, true_and]; omega))
                                            · try simp only [NRM] at h37
                                              have q1 : okR s.fn s.fd := h35
                                              have q2 : okR s.tn s.td := h37
                                              unfold okR at q1 q2
                                              have m1 := mul_small (a := s.fn) (b := s.td) (by omega) (by omega) (by omega) (by omega)
                                              have m2 := mul_small (a := s.tn) (b := s.fd) (by omega) (by omega) (by omega) (by omega)
                                              refine SX.VC_df (.int .i64 (s.fn * s.td)) (fun α => Eq.trans (b := some (.int .i64 (IntKind.i64.wrap (s.fn * s.td)))) (by kernel_rfl) (by rw [wrap_i64 (by omega) (by omega)])) (by kernel_rfl) ?_
                                              refine SX.VC_df (.int .i64 (s.tn * s.fd)) (fun α => Eq.trans (b := some (.int .i64 (IntKind.i64.wrap (s.tn * s.fd)))) (by kernel_rfl) (by rw [wrap_i64 (by omega) (by omega)])) (by kernel_rfl) ?_
                                              refine SX.VC_df (.bool ((s.fn * s.td : Int) != s.fn * s.td)) (by intro α; show _ = _; kernel_rfl) (by kernel_rfl) ?_
                                              refine SX.VC_df (.bool ((s.tn * s.fd : Int) != s.tn * s.fd)) (by intro α; show _ = _; kernel_rfl) (by kernel_rfl) ?_
                                              refine SX.VC_br ((s.fn * s.td : Int) != s.fn * s.td) (by kernel_rfl) (fun h40 => by simp at h40) (fun h40 => ?_)
                                              try simp only [NRM] at h40
                                              refine SX.VC_br ((s.tn * s.fd : Int) != s.tn * s.fd) (by kernel_rfl) (fun h41 => by simp at h41) (fun h41 => ?_)
                                              try simp only [NRM] at h41
                                              refine SX.VC_df (.bool (decide (s.fn * s.td < s.tn * s.fd))) (by intro α; show _ = _; kernel_rfl) (by kernel_rfl) ?_
                                              refine SX.VC_br (decide (s.fn * s.td < s.tn * s.fd)) (by kernel_rfl) (fun h42 => ?_) (fun h42 => ?_)
                                              · try simp only [NRM] at h42
                                                refine SX.VC_df (.bool (decide (s.fn ≥ 0))) (by intro α; show _ = _; kernel_rfl) (by kernel_rfl) ?_
                                                refine SX.VC_br (decide (s.fn ≥ 0)) (by kernel_rfl) (fun h43 => ?_) (fun h43 => ?_)
                                                · try simp only [NRM] at h43
                                                  refine SX.VC_df (.bool (decide (s.tn ≤ s.td))) (by intro α; show _ = _; kernel_rfl) (by kernel_rfl) ?_
                                                  exact SX.VC_ret fun α W _ _ hS => SX.ret_of hS (x := .bool (decide (s.tn ≤ s.td))) (by kernel_rfl) (by congr 1; first | (symm; rw [decide_eq_false_iff_not]; intro hk; simp only [Sg.ok_iff, okS_iff] at hk; first | omega | simp_all) | (rw [Bool.eq_iff_iff]; simp only [decide_eq_true_eq, Sg.ok_iff, okS_iff, h35, h37, true_and]; omega))
                                                · try simp only [NRM] at h43
                                                  exact SX.VC_ret fun α W _ _ hS => SX.ret_of hS (x := .bool false) (by kernel_rfl) (by congr 1; first | (symm; rw [decide_eq_false_iff_not]; intro hk; simp only [Sg.ok_iff, okS_iff] at hk; first | omega | simp_all) | (rw [Bool.eq_iff_iff]; simp only [decide_eq_true_eq, Sg.ok_iff, okS_iff, h35, h37, true_and]; omega))
                                              · try simp only [NRM] at h42
                                                refine SX.VC_df (.bool (decide (s.fn * s.td > s.tn * s.fd))) (by intro α; show _ = _; kernel_rfl) (by kernel_rfl) ?_
                                                refine SX.VC_br (decide (s.fn * s.td > s.tn * s.fd)) (by kernel_rfl) (fun h43 => ?_) (fun h43 => ?_)
                                                · try simp only [NRM] at h43
                                                  exact SX.VC_ret fun α W _ _ hS => SX.ret_of hS (x := .bool false) (by kernel_rfl) (by congr 1; first | (symm; rw [decide_eq_false_iff_not]; intro hk; simp only [Sg.ok_iff, okS_iff] at hk; first | omega | simp_all) | (rw [Bool.eq_iff_iff]; simp only [decide_eq_true_eq, Sg.ok_iff, okS_iff, h35, h37, true_and]; omega))
                                                · try simp only [NRM] at h43
                                                  exact SX.VC_ret fun α W _ _ hS => SX.ret_of hS (x := .bool false) (by kernel_rfl) (by congr 1; first | (symm; rw [decide_eq_false_iff_not]; intro hk; simp only [Sg.ok_iff, okS_iff] at hk; first | omega | simp_all) | (rw [Bool.eq_iff_iff]; simp only [decide_eq_true_eq, Sg.ok_iff, okS_iff, h35, h37, true_and]; omega))
                                        · try simp only [NRM] at h33
                                          exact SX.VC_ret fun α W _ _ hS => SX.ret_of hS (x := .bool false) (by kernel_rfl) (by congr 1; first | (symm; rw [decide_eq_false_iff_not]; intro hk; simp only [Sg.ok_iff, okS_iff] at hk; first | omega | simp_all) | (rw [Bool.eq_iff_iff]; simp only [decide_eq_true_eq, Sg.ok_iff, okS_iff, h35, h37, true_and]; omega))
                                      · try simp only [NRM] at h32
                                        exact SX.VC_ret fun α W _ _ hS => SX.ret_of hS (x := .bool false) (by kernel_rfl) (by congr 1; first | (symm; rw [decide_eq_false_iff_not]; intro hk; simp only [Sg.ok_iff, okS_iff] at hk; first | omega | simp_all) | (rw [Bool.eq_iff_iff]; simp only [decide_eq_true_eq, Sg.ok_iff, okS_iff, h35, h37, true_and]; omega))
                                    · try simp only [NRM] at h31
                                      exact SX.VC_ret fun α W _ _ hS => SX.ret_of hS (x := .bool false) (by kernel_rfl) (by congr 1; first | (symm; rw [decide_eq_false_iff_not]; intro hk; simp only [Sg.ok_iff, okS_iff] at hk; first | omega | simp_all) | (rw [Bool.eq_iff_iff]; simp only [decide_eq_true_eq, Sg.ok_iff, okS_iff, h35, h37, true_and]; omega))
                                  · try simp only [NRM] at h30
                                    exact SX.VC_ret fun α W _ _ hS => SX.ret_of hS (x := .bool false) (by kernel_rfl) (by congr 1; first | (symm; rw [decide_eq_false_iff_not]; intro hk; simp only [Sg.ok_iff, okS_iff] at hk; first | omega | simp_all) | (rw [Bool.eq_iff_iff]; simp only [decide_eq_true_eq, Sg.ok_iff, okS_iff, h35, h37, true_and]; omega))
                                · try simp only [NRM] at h29
                                  exact SX.VC_ret fun α W _ _ hS => SX.ret_of hS (x := .bool false) (by kernel_rfl) (by congr 1; first | (symm; rw [decide_eq_false_iff_not]; intro hk; simp only [Sg.ok_iff, okS_iff] at hk; first | omega | simp_all) | (rw [Bool.eq_iff_iff]; simp only [decide_eq_true_eq, Sg.ok_iff, okS_iff, h35, h37, true_and]; omega))
                              · try simp only [NRM] at h28
                                exact SX.VC_ret fun α W _ _ hS => SX.ret_of hS (x := .bool false) (by kernel_rfl) (by congr 1; first | (symm; rw [decide_eq_false_iff_not]; intro hk; simp only [Sg.ok_iff, okS_iff] at hk; first | omega | simp_all) | (rw [Bool.eq_iff_iff]; simp only [decide_eq_true_eq, Sg.ok_iff, okS_iff, h35, h37, true_and]; omega))
                            · try simp only [NRM] at h27
                              exact SX.VC_ret fun α W _ _ hS => SX.ret_of hS (x := .bool false) (by kernel_rfl) (by congr 1; first | (symm; rw [decide_eq_false_iff_not]; intro hk; simp only [Sg.ok_iff, okS_iff] at hk; first | omega | simp_all) | (rw [Bool.eq_iff_iff]; simp only [decide_eq_true_eq, Sg.ok_iff, okS_iff, h35, h37, true_and]; omega))
                          · try simp only [NRM] at h26
                            exact SX.VC_ret fun α W _ _ hS => SX.ret_of hS (x := .bool false) (by kernel_rfl) (by congr 1; first | (symm; rw [decide_eq_false_iff_not]; intro hk; simp only [Sg.ok_iff, okS_iff] at hk; first | omega | simp_all) | (rw [Bool.eq_iff_iff]; simp only [decide_eq_true_eq, Sg.ok_iff, okS_iff, h35, h37, true_and]; omega))
                        · try simp only [NRM] at h25
                          exact SX.VC_ret fun α W _ _ hS => SX.ret_of hS (x := .bool false) (by kernel_rfl) (by congr 1; first | (symm; rw [decide_eq_false_iff_not]; intro hk; simp only [Sg.ok_iff, okS_iff] at hk; first | omega | simp_all) | (rw [Bool.eq_iff_iff]; simp only [decide_eq_true_eq, Sg.ok_iff, okS_iff, h35, h37, true_and]; omega))
                      · try simp only [NRM] at h24
                        exact SX.VC_ret fun α W _ _ hS => SX.ret_of hS (x := .bool false) (by kernel_rfl) (by congr 1; first | (symm; rw [decide_eq_false_iff_not]; intro hk; simp only [Sg.ok_iff, okS_iff] at hk; first | omega | simp_all) | (rw [Bool.eq_iff_iff]; simp only [decide_eq_true_eq, Sg.ok_iff, okS_iff, h35, h37, true_and]; omega))
                    · try simp only [NRM] at h23
                      exact SX.VC_ret fun α W _ _ hS => SX.ret_of hS (x := .bool false) (by kernel_rfl) (by congr 1; first | (symm; rw [decide_eq_false_iff_not]; intro hk; simp only [Sg.ok_iff, okS_iff] at hk; first | omega | simp_all) | (rw [Bool.eq_iff_iff]; simp only [decide_eq_true_eq, Sg.ok_iff, okS_iff, h35, h37, true_and]; omega))
                  · try simp only [NRM] at h22
                    exact SX.VC_ret fun α W _ _ hS => SX.ret_of hS (x := .bool false) (by kernel_rfl) (by congr 1; first | (symm; rw [decide_eq_false_iff_not]; intro hk; simp only [Sg.ok_iff, okS_iff] at hk; first | omega | simp_all) | (rw [Bool.eq_iff_iff]; simp only [decide_eq_true_eq, Sg.ok_iff, okS_iff, h35, h37, true_and]; omega))
                · try simp only [NRM] at h21
                  exact SX.VC_ret fun α W _ _ hS => SX.ret_of hS (x := .bool false) (by kernel_rfl) (by congr 1; first | (symm; rw [decide_eq_false_iff_not]; intro hk; simp only [Sg.ok_iff, okS_iff] at hk; first | omega | simp_all) | (rw [Bool.eq_iff_iff]; simp only [decide_eq_true_eq, Sg.ok_iff, okS_iff, h35, h37, true_and]; omega))
              · try simp only [NRM] at h20
                exact SX.VC_ret fun α W _ _ hS => SX.ret_of hS (x := .bool false) (by kernel_rfl) (by congr 1; first | (symm; rw [decide_eq_false_iff_not]; intro hk; simp only [Sg.ok_iff, okS_iff] at hk; first | omega | simp_all) | (rw [Bool.eq_iff_iff]; simp only [decide_eq_true_eq, Sg.ok_iff, okS_iff, h35, h37, true_and]; omega))
            · try simp only [NRM] at h19
              exact SX.VC_ret fun α W _ _ hS => SX.ret_of hS (x := .bool false) (by kernel_rfl) (by congr 1; first | (symm; rw [decide_eq_false_iff_not]; intro hk; simp only [Sg.ok_iff, okS_iff] at hk; first | omega | simp_all) | (rw [Bool.eq_iff_iff]; simp only [decide_eq_true_eq, Sg.ok_iff, okS_iff, h35, h37, true_and]; omega))
          · try simp only [NRM] at h18
            exact SX.VC_ret fun α W _ _ hS => SX.ret_of hS (x := .bool false) (by kernel_rfl) (by congr 1; first | (symm; rw [decide_eq_false_iff_not]; intro hk; simp only [Sg.ok_iff, okS_iff] at hk; first | omega | simp_all) | (rw [Bool.eq_iff_iff]; simp only [decide_eq_true_eq, Sg.ok_iff, okS_iff, h35, h37, true_and]; omega))
        · try simp only [NRM] at h17
          exact SX.VC_ret fun α W _ _ hS => SX.ret_of hS (x := .bool false) (by kernel_rfl) (by congr 1; first | (symm; rw [decide_eq_false_iff_not]; intro hk; simp only [Sg.ok_iff, okS_iff] at hk; first | omega | simp_all) | (rw [Bool.eq_iff_iff]; simp only [decide_eq_true_eq, Sg.ok_iff, okS_iff, h35, h37, true_and]; omega))
      · try simp only [NRM] at h16
        exact SX.VC_ret fun α W _ _ hS => SX.ret_of hS (x := .bool false) (by kernel_rfl) (by congr 1; first | (symm; rw [decide_eq_false_iff_not]; intro hk; simp only [Sg.ok_iff, okS_iff] at hk; first | omega | simp_all) | (rw [Bool.eq_iff_iff]; simp only [decide_eq_true_eq, Sg.ok_iff, okS_iff, h35, h37, true_and]; omega))
    · try simp only [NRM] at h15
      exact SX.VC_ret fun α W _ _ hS => SX.ret_of hS (x := .bool false) (by kernel_rfl) (by congr 1; first | (symm; rw [decide_eq_false_iff_not]; intro hk; simp only [Sg.ok_iff, okS_iff] at hk; first | omega | simp_all) | (rw [Bool.eq_iff_iff]; simp only [decide_eq_true_eq, Sg.ok_iff, okS_iff, h35, h37, true_and]; omega))
  · try simp only [NRM] at h14
    exact SX.VC_ret fun α W _ _ hS => SX.ret_of hS (x := .bool false) (by kernel_rfl) (by congr 1; first | (symm; rw [decide_eq_false_iff_not]; intro hk; simp only [Sg.ok_iff, okS_iff] at hk; first | omega | simp_all) | (rw [Bool.eq_iff_iff]; simp only [decide_eq_true_eq, Sg.ok_iff, okS_iff, h35, h37, true_and]; omega))
end Go.Proofs.Ytnaooclbphaelaa
