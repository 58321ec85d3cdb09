/-
  Products of ratios.
-/
import Derived.Test.YtnaooclbphaelaaPc
namespace Go.Proofs.Ytnaooclbphaelaa
set_option linter.unusedSimpArgs false
set_option linter.unusedVariables false
open Go Go.RowKit
/-- the ratio of two numbers, and an error -/
def makeS (n d : Int) : Int × Int × Int :=
  if d = 0 then (0, 0, 120) else
  if 1073741824 < max (n.natAbs / Nat.gcd n.natAbs d.natAbs) (d.natAbs / Nat.gcd n.natAbs d.natAbs) then (0, 0, 2) else
  (if (n < 0) ↔ (d < 0) then (n.natAbs / Nat.gcd n.natAbs d.natAbs : Nat) else -((n.natAbs / Nat.gcd n.natAbs d.natAbs : Nat) : Int), (d.natAbs / Nat.gcd n.natAbs d.natAbs : Nat), 0)
/-- the product of two ratios, and an error -/
def mulS (an ad bn bd : Int) : Int × Int × Int := if okR an ad ∧ okR bn bd then makeS (an * bn) (ad * bd) else (0, 0, 120)
/-- what ratio.Make calls -/
def RE0 (f : FuncId) (xs : List SX.Arg) (v : Value) : Prop :=
  (f = 100 ∧ ∃ n : Int, xs = [⟨.int .i64 n, 0, []⟩] ∧ -4611686018427387904 ≤ n ∧ n ≤ 4611686018427387904 ∧ v = .int .u64 n.natAbs) ∨
  (f = 99 ∧ ∃ a b : Nat, xs = [⟨.int .u64 a, 0, []⟩, ⟨.int .u64 b, 0, []⟩] ∧ a ≤ 4611686018427387904 ∧ b ≤ 4611686018427387904 ∧ v = .int .u64 (Nat.gcd a b))
def shpE0 : FuncId → Option SX.Sh := fun f => if f = 100 then some .one else if f = 99 then some .one else none
noncomputable def cxE0 (K A : Value → Nat → List Value → Prop) : SX.Cx := { P := Try.prog, R := fun _ => RE0, shp := shpE0, K := K, A := A }
theorem okE0 (K A : Value → Nat → List Value → Prop) : (cxE0 K A).Ok := by
  refine SX.Cx.ok_of (fun _ => rfl) ?_
  intro K f xs v W hR hrd hKf
  rcases hR with ⟨rfl, n, rfl, h1, h2, rfl⟩ | ⟨rfl, a, b, rfl, h1, h2, rfl⟩
  · exact (mag_any n W h1 h2).mono fun e w' h => SX.plainOk rfl h
  · exact (pdiv_any a b W h1 h2).mono fun e w' h => SX.plainOk rfl h
theorem quo_nat {a b : Nat} (h : 0 < b) (ha : a ≤ 4611686018427387904) : SX.binV .quo (.int .u64 (a : Int)) (.int .u64 (b : Int)) = some (.int .u64 ((a / b : Nat) : Int)) := by
  have h1 : a / b ≤ a := Nat.div_le_self _ _
  have h2 : (a : Int).tdiv (b : Int) = ((a / b : Nat) : Int) := by
    rw [Int.tdiv_eq_ediv_of_nonneg (by omega)]; rfl
  generalize a / b = q at h1 h2
  simp only [SX.binV, if_true, h2]
  rw [if_neg (by omega), wrap_u64 (by omega) (by omega)]
theorem max_nat (a b : Nat) : SX.maxV (.int .u64 (a : Int)) (.int .u64 (b : Int)) = some (.int .u64 ((max a b : Nat) : Int)) := by
  simp only [SX.maxV, if_true]
  congr 2
  show maxI _ _ = _
  unfold maxI
  split <;> omega
def tree_make : SX.Tree :=
(.df (.bin .eql 3) [(.x 1 []), (.k (.int .i64 0))] .one 
(.br 2 [] 
(.ret (.t [(.a [(.k (.int .i64 0)), (.k (.int .i64 0))]), (.k (.int .i64 120))]) [] []) 
(.df (.call 100 [.no]) [(.x 0 [])] .one 
(.df (.call 100 [.no]) [(.x 1 [])] .one 
(.df (.call 99 [.no, .no]) [(.x 3 []), (.x 4 [])] .one 
(.df (.bin .quo 101) [(.x 3 []), (.x 5 [])] .one 
(.df (.bin .quo 101) [(.x 4 []), (.x 5 [])] .one 
(.df .max [(.x 6 []), (.x 7 [])] .one 
(.df (.bin .gtr 101) [(.x 8 []), (.k (.int .u64 1073741824))] .one 
(.br 9 [] 
(.ret (.t [(.a [(.k (.int .i64 0)), (.k (.int .i64 0))]), (.k (.int .i64 2))]) [] []) 
(.df (.conv .i64) [(.x 6 [])] .one 
(.df (.conv .i64) [(.x 7 [])] .one 
(.df (.bin .lss 3) [(.x 0 []), (.k (.int .i64 0))] .one 
(.df (.bin .lss 3) [(.x 1 []), (.k (.int .i64 0))] .one 
(.df (.binb .neq) [(.x 12 []), (.x 13 [])] .one 
(.br 14 [] 
(.df .neg [(.x 10 [])] .one 
(.ret (.t [(.a [(.x 15 []), (.x 11 [])]), (.k (.int .i64 0))]) [] [])) 
(.ret (.t [(.a [(.x 10 []), (.x 11 [])]), (.k (.int .i64 0))]) [] [])))))))))))))))))
def args_make : List SX.V := [.x 0 [], .x 1 []]
set_option maxRecDepth 100000 in
theorem run_make (K A : Value → Nat → List Value → Prop) : (SX.run (cxE0 K A) ⟨fun f => f ≠ 97, [], 0, 100⟩ 100000 0 (SX.door 97 Try.f97 args_make (List.replicate 2 .one)) [.code (Try.f97.body.getD .skip), .top Try.f97]).strip = tree_make := by kernel_rfl
set_option maxRecDepth 100000 in
set_option maxHeartbeats 4000000 in
theorem make_any (n d : Int) (w : World) (h1 : -4611686018427387904 ≤ n) (h2 : n ≤ 4611686018427387904) (h3 : -4611686018427387904 ≤ d) (h4 : d ≤ 4611686018427387904) : Calls Try.prog 97 #[.int .i64 n, .int .i64 d] w fun e w' => e = .returned (.tuple #[.agg #[.int .i64 (makeS n d).1, .int .i64 (makeS n d).2.1], .int .i64 (makeS n d).2.2]) ∧ Below w.heap.size w w' := by
  refine SX.calls_of_run (C := cxE0 (fun _ _ _ => False) (fun _ _ _ => False)) (G := ⟨fun f => f ≠ 97, [], 0, 100⟩) (args := args_make) (sh := (List.replicate 2 .one)) (ρ := [.int .i64 n, .int .i64 d]) 100000 tree_make (okE0 _ _) Try.func97 rfl (run_make _ _) (by kernel_rfl) (by kernel_rfl) (by kernel_rfl) ?_ ?_
  · exact fun W _ => SX.Kf_none (fun _ _ _ h => h) W
  unfold tree_make
  refine SX.VC_df (.bool ((d : Int) == 0)) (by intro α; show _ = _; kernel_rfl) (by kernel_rfl) ?_
  refine SX.VC_br ((d : Int) == 0) (by kernel_rfl) (fun h2 => ?_) (fun h2 => ?_)
  · try simp only [NRM] at h2
    exact SX.VC_ret fun α W _ _ hS => SX.ret_of hS (x := .tuple #[.agg #[.int .i64 0, .int .i64 0], .int .i64 120]) (by kernel_rfl) (by unfold makeS; first | (rw [if_pos (by omega)]; done) | (rw [hX, hY, if_neg (by omega), if_pos (by omega)]; done) | (rw [hX, hY, if_neg (by omega), if_neg (by omega)]; by_cases q1 : n < 0 <;> by_cases q2 : d < 0 <;> simp [q1, q2] at h14 ⊢; done))
  · try simp only [NRM] at h2
    refine SX.VC_df (.int .u64 ((n.natAbs : Int))) (fun α => ⟨[⟨.int .i64 n, 0, []⟩], ⟨by kernel_rfl, by kernel_rfl, trivial⟩, .inl ⟨rfl, n, rfl, by omega, by omega, rfl⟩, SX.noAli rfl⟩) (by kernel_rfl) ?_
    refine SX.VC_df (.int .u64 ((d.natAbs : Int))) (fun α => ⟨[⟨.int .i64 d, 0, []⟩], ⟨by kernel_rfl, by kernel_rfl, trivial⟩, .inl ⟨rfl, d, rfl, by omega, by omega, rfl⟩, SX.noAli rfl⟩) (by kernel_rfl) ?_
    refine SX.VC_df (.int .u64 (((Nat.gcd n.natAbs d.natAbs : Nat) : Int))) (fun α => ⟨[⟨.int .u64 n.natAbs, 0, []⟩, ⟨.int .u64 d.natAbs, 0, []⟩], ⟨by kernel_rfl, by kernel_rfl, by kernel_rfl, by kernel_rfl, trivial⟩, .inr (⟨rfl, n.natAbs, d.natAbs, rfl, by omega, by omega, rfl⟩), SX.noAli rfl⟩) (by kernel_rfl) ?_
    have hg0 : 0 < Nat.gcd n.natAbs d.natAbs := Nat.gcd_pos_of_pos_right _ (by omega)
    have hx1 : n.natAbs / Nat.gcd n.natAbs d.natAbs ≤ n.natAbs := Nat.div_le_self _ _
    have hx2 : d.natAbs / Nat.gcd n.natAbs d.natAbs ≤ d.natAbs := Nat.div_le_self _ _
    obtain ⟨X, hX⟩ : ∃ X, n.natAbs / Nat.gcd n.natAbs d.natAbs = X := ⟨_, rfl⟩
    obtain ⟨Y, hY⟩ : ∃ Y, d.natAbs / Nat.gcd n.natAbs d.natAbs = Y := ⟨_, rfl⟩
    rw [hX] at hx1
    rw [hY] at hx2
    refine SX.VC_df (.int .u64 ((X : Int))) (fun α => Eq.trans (b := SX.binV .quo (.int .u64 (n.natAbs : Nat)) (.int .u64 ((Nat.gcd n.natAbs d.natAbs : Nat) : Int))) (by kernel_rfl) (by rw [← hX]; exact quo_nat hg0 (by omega))) (by kernel_rfl) ?_
    refine SX.VC_df (.int .u64 ((Y : Int))) (fun α => Eq.trans (b := SX.binV .quo (.int .u64 (d.natAbs : Nat)) (.int .u64 ((Nat.gcd n.natAbs d.natAbs : Nat) : Int))) (by kernel_rfl) (by rw [← hY]; exact quo_nat hg0 (by omega))) (by kernel_rfl) ?_
    refine SX.VC_df (.int .u64 (((max X Y : Nat) : Int))) (fun α => Eq.trans (b := SX.maxV (.int .u64 (X : Int)) (.int .u64 (Y : Int))) (by kernel_rfl) (max_nat _ _)) (by kernel_rfl) ?_
    refine SX.VC_df (.bool (decide (((max X Y : Nat) : Int) > 1073741824))) (by intro α; show _ = _; kernel_rfl) (by kernel_rfl) ?_
    refine SX.VC_br (decide (((max X Y : Nat) : Int) > 1073741824)) (by kernel_rfl) (fun h9 => ?_) (fun h9 => ?_)
    · try simp only [NRM] at h9
      exact SX.VC_ret fun α W _ _ hS => SX.ret_of hS (x := .tuple #[.agg #[.int .i64 0, .int .i64 0], .int .i64 2]) (by kernel_rfl) (by unfold makeS; first | (rw [if_pos (by omega)]; done) | (rw [hX, hY, if_neg (by omega), if_pos (by omega)]; done) | (rw [hX, hY, if_neg (by omega), if_neg (by omega)]; by_cases q1 : n < 0 <;> by_cases q2 : d < 0 <;> simp [q1, q2] at h14 ⊢; done))
    · try simp only [NRM] at h9
      refine SX.VC_df (.int .i64 ((X : Int))) (fun α => Eq.trans (b := some (.int .i64 (IntKind.i64.wrap ((X : Int))))) (by kernel_rfl) (by rw [wrap_i64 (by omega) (by omega)])) (by kernel_rfl) ?_
      refine SX.VC_df (.int .i64 ((Y : Int))) (fun α => Eq.trans (b := some (.int .i64 (IntKind.i64.wrap ((Y : Int))))) (by kernel_rfl) (by rw [wrap_i64 (by omega) (by omega)])) (by kernel_rfl) ?_
      refine SX.VC_df (.bool (decide (n < 0))) (by intro α; show _ = _; kernel_rfl) (by kernel_rfl) ?_
      refine SX.VC_df (.bool (decide (d < 0))) (by intro α; show _ = _; kernel_rfl) (by kernel_rfl) ?_
      refine SX.VC_df (.bool (!(decide (n < 0) == decide (d < 0)))) (by intro α; show _ = _; kernel_rfl) (by kernel_rfl) ?_
      refine SX.VC_br (!(decide (n < 0) == decide (d < 0))) (by kernel_rfl) (fun h14 => ?_) (fun h14 => ?_)
      · try simp only [NRM] at h14
        refine SX.VC_df (.int .i64 (-((X : Int)))) (fun α => Eq.trans (b := some (.int .i64 (IntKind.i64.wrap (-((X : Int)))))) (by kernel_rfl) (by rw [wrap_i64 (by omega) (by omega)])) (by kernel_rfl) ?_
        exact SX.VC_ret fun α W _ _ hS => SX.ret_of hS (x := .tuple #[.agg #[.int .i64 (-((X : Int))), .int .i64 ((Y : Int))], .int .i64 0]) (by kernel_rfl) (by unfold makeS; first | (rw [if_pos (by omega)]; done) | (rw [hX, hY, if_neg (by omega), if_pos (by omega)]; done) | (rw [hX, hY, if_neg (by omega), if_neg (by omega)]; by_cases q1 : n < 0 <;> by_cases q2 : d < 0 <;> simp [q1, q2] at h14 ⊢; done))
      · try simp only [NRM] at h14
        exact SX.VC_ret fun α W _ _ hS => SX.ret_of hS (x := .tuple #[.agg #[.int .i64 ((X : Int)), .int .i64 ((Y : Int))], .int .i64 0]) (by kernel_rfl) (by unfold makeS; first | (rw [if_pos (by omega)]; done) | (rw [hX, hY, if_neg (by omega), if_pos (by omega)]; done) | (rw [hX, hY, if_neg (by omega), if_neg (by omega)]; by_cases q1 : n < 0 <;> by_cases q2 : d < 0 <;> simp [q1, q2] at h14 ⊢; done))
/-- what ratio.Mul calls -/
def RE1 (f : FuncId) (xs : List SX.Arg) (v : Value) : Prop :=
  (f = 79 ∧ ∃ n d : Int, xs = [⟨.agg #[.int .i64 n, .int .i64 d], 0, []⟩] ∧ v = .int .i64 (if okR n d then 0 else 120)) ∨
  (f = 97 ∧ ∃ n d : Int, xs = [⟨.int .i64 n, 0, []⟩, ⟨.int .i64 d, 0, []⟩] ∧ -4611686018427387904 ≤ n ∧ n ≤ 4611686018427387904 ∧ -4611686018427387904 ≤ d ∧ d ≤ 4611686018427387904 ∧ v = .tuple #[.agg #[.int .i64 (makeS n d).1, .int .i64 (makeS n d).2.1], .int .i64 (makeS n d).2.2])
def shpE1 : FuncId → Option SX.Sh := fun f => if f = 79 then some .one else if f = 97 then some (.tp [.ag 2, .one]) else none
noncomputable def cxE1 (K A : Value → Nat → List Value → Prop) : SX.Cx := { P := Try.prog, R := fun _ => RE1, shp := shpE1, K := K, A := A }
theorem okE1 (K A : Value → Nat → List Value → Prop) : (cxE1 K A).Ok := by
  refine SX.Cx.ok_of (fun _ => rfl) ?_
  intro K f xs v W hR hrd hKf
  rcases hR with ⟨rfl, n, d, rfl, rfl⟩ | ⟨rfl, n, d, rfl, h1, h2, h3, h4, rfl⟩
  · exact (rcheck_any n d W).mono fun e w' h => SX.plainOk rfl h
  · exact (make_any n d W h1 h2 h3 h4).mono fun e w' h => SX.plainOk rfl h
def tree_mul : SX.Tree :=
(.df (.call 79 [.no]) [(.a [(.x 0 []), (.x 1 [])])] .one 
(.df (.bin .neq 31) [(.x 4 []), (.k (.int .i64 0))] .one 
(.br 5 [] 
(.ret (.t [(.a [(.k (.int .i64 0)), (.k (.int .i64 0))]), (.k (.int .i64 120))]) [] []) 
(.df (.call 79 [.no]) [(.a [(.x 2 []), (.x 3 [])])] .one 
(.df (.bin .neq 31) [(.x 6 []), (.k (.int .i64 0))] .one 
(.br 7 [] 
(.ret (.t [(.a [(.k (.int .i64 0)), (.k (.int .i64 0))]), (.k (.int .i64 120))]) [] []) 
(.df (.bin .mul 3) [(.x 0 []), (.x 2 [])] .one 
(.df (.bin .mul 3) [(.x 1 []), (.x 3 [])] .one 
(.df (.call 97 [.no, .no]) [(.x 8 []), (.x 9 [])] (.tp [(.ag 2), .one]) 
(.ret (.t [(.a [(.x 10 [0, 0]), (.x 10 [0, 1])]), (.x 10 [1])]) [] []))))))))))
def args_mul : List SX.V := [.a [.x 0 [], .x 1 []], .a [.x 2 [], .x 3 []]]
set_option maxRecDepth 100000 in
theorem run_mul (K A : Value → Nat → List Value → Prop) : (SX.run (cxE1 K A) ⟨fun _ => true, [], 0, 100⟩ 100000 0 (SX.door 23 Try.f23 args_mul (List.replicate 4 .one)) [.code (Try.f23.body.getD .skip), .top Try.f23]).strip = tree_mul := by kernel_rfl
set_option maxRecDepth 100000 in
set_option maxHeartbeats 4000000 in
theorem mul_any (an ad bn bd : Int) (w : World)  : Calls Try.prog 23 #[.agg #[.int .i64 an, .int .i64 ad], .agg #[.int .i64 bn, .int .i64 bd]] w fun e w' => e = .returned (.tuple #[.agg #[.int .i64 (mulS an ad bn bd).1, .int .i64 (mulS an ad bn bd).2.1], .int .i64 (mulS an ad bn bd).2.2]) ∧ Below w.heap.size w w' := by
  refine SX.calls_of_run (C := cxE1 (fun _ _ _ => False) (fun _ _ _ => False)) (G := ⟨fun _ => true, [], 0, 100⟩) (args := args_mul) (sh := (List.replicate 4 .one)) (ρ := [.int .i64 an, .int .i64 ad, .int .i64 bn, .int .i64 bd]) 100000 tree_mul (okE1 _ _) Try.func23 rfl (run_mul _ _) (by kernel_rfl) (by kernel_rfl) (by kernel_rfl) ?_ ?_
  · exact fun W _ => SX.Kf_none (fun _ _ _ h => h) W
  unfold tree_mul
  refine SX.VC_df (.int .i64 ((if okR an ad then 0 else 120))) (fun α => ⟨[⟨.agg #[.int .i64 an, .int .i64 ad], 0, []⟩], ⟨by kernel_rfl, by kernel_rfl, trivial⟩, .inl ⟨rfl, _, _, rfl, rfl⟩, SX.noAli rfl⟩) (by kernel_rfl) ?_
  refine SX.VC_df (.bool (((if okR an ad then 0 else 120) : Int) != 0)) (by intro α; show _ = _; kernel_rfl) (by kernel_rfl) ?_
  refine SX.VC_br (((if okR an ad then 0 else 120) : Int) != 0) (by kernel_rfl) (fun h5 => ?_) (fun h5 => ?_)
  · try simp only [NRM] at h5
    exact SX.VC_ret fun α W _ _ hS => SX.ret_of hS (x := .tuple #[.agg #[.int .i64 0, .int .i64 0], .int .i64 120]) (by kernel_rfl) (by unfold mulS; first | (rw [if_pos ⟨ha, hb⟩]; done) | (rw [if_neg (by rintro ⟨ha, hb⟩; first | (rw [if_pos ha] at h5; omega) | (rw [if_pos hb] at h7; omega))]))
  · try simp only [NRM] at h5
    refine SX.VC_df (.int .i64 ((if okR bn bd then 0 else 120))) (fun α => ⟨[⟨.agg #[.int .i64 bn, .int .i64 bd], 0, []⟩], ⟨by kernel_rfl, by kernel_rfl, trivial⟩, .inl ⟨rfl, _, _, rfl, rfl⟩, SX.noAli rfl⟩) (by kernel_rfl) ?_
    refine SX.VC_df (.bool (((if okR bn bd then 0 else 120) : Int) != 0)) (by intro α; show _ = _; kernel_rfl) (by kernel_rfl) ?_
    refine SX.VC_br (((if okR bn bd then 0 else 120) : Int) != 0) (by kernel_rfl) (fun h7 => ?_) (fun h7 => ?_)
    · try simp only [NRM] at h7
      exact SX.VC_ret fun α W _ _ hS => SX.ret_of hS (x := .tuple #[.agg #[.int .i64 0, .int .i64 0], .int .i64 120]) (by kernel_rfl) (by unfold mulS; first | (rw [if_pos ⟨ha, hb⟩]; done) | (rw [if_neg (by rintro ⟨ha, hb⟩; first | (rw [if_pos ha] at h5; omega) | (rw [if_pos hb] at h7; omega))]))
    · try simp only [NRM] at h7
      have ha : okR an ad := by by_cases h : okR an ad; exact h; rw [if_neg h] at h5; omega
      have hb : okR bn bd := by by_cases h : okR bn bd; exact h; rw [if_neg h] at h7; omega
      have m1 := mul_small (a := an) (b := bn) ha.2.2.1 ha.2.2.2.1 hb.2.2.1 hb.2.2.2.1
      have m2 := mul_small (a := ad) (b := bd) (by have := ha.1; omega) ha.2.1 (by have := hb.1; omega) hb.2.1
      refine SX.VC_df (.int .i64 (an * bn)) (fun α => Eq.trans (b := some (.int .i64 (IntKind.i64.wrap (an * bn)))) (by kernel_rfl) (by rw [wrap_i64 (by omega) (by omega)])) (by kernel_rfl) ?_
      refine SX.VC_df (.int .i64 (ad * bd)) (fun α => Eq.trans (b := some (.int .i64 (IntKind.i64.wrap (ad * bd)))) (by kernel_rfl) (by rw [wrap_i64 (by omega) (by omega)])) (by kernel_rfl) ?_
      refine SX.VC_df (.tuple #[.agg #[.int .i64 ((makeS (an * bn) (ad * bd)).1), .int .i64 ((makeS (an * bn) (ad * bd)).2.1)], .int .i64 ((makeS (an * bn) (ad * bd)).2.2)]) (fun α => ⟨[⟨.int .i64 (an * bn), 0, []⟩, ⟨.int .i64 (ad * bd), 0, []⟩], ⟨by kernel_rfl, by kernel_rfl, by kernel_rfl, by kernel_rfl, trivial⟩, .inr (⟨rfl, _, _, rfl, by omega, by omega, by omega, by omega, rfl⟩), SX.noAli rfl⟩) (by kernel_rfl) ?_
      exact SX.VC_ret fun α W _ _ hS => SX.ret_of hS (x := .tuple #[.agg #[.int .i64 ((makeS (an * bn) (ad * bd)).1), .int .i64 ((makeS (an * bn) (ad * bd)).2.1)], .int .i64 ((makeS (an * bn) (ad * bd)).2.2)]) (by kernel_rfl) (by unfold mulS; first | (rw [if_pos ⟨ha, hb⟩]; done) | (rw [if_neg (by rintro ⟨ha, hb⟩; first | (rw [if_pos ha] at h5; omega) | (rw [if_pos hb] at h7; omega))]))
end Go.Proofs.Ytnaooclbphaelaa
