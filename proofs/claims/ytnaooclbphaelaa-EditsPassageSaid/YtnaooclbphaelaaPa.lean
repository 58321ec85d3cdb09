/-
  Ratios: their specification, the absolute value, the divisor of the specification.
-/
import Derived.Test.YtnaooclbphaelaaSy
import Derived.Test.YtnaooclbphaelaaProg
namespace Go.Proofs.Ytnaooclbphaelaa
set_option linter.unusedSimpArgs false
set_option linter.unusedVariables false
open Go Go.RowKit

/-- is a ratio valid -/
def okR (n d : Int) : Prop := 1 ≤ d ∧ d ≤ 1073741824 ∧ -1073741824 ≤ n ∧ n ≤ 1073741824 ∧ Nat.gcd n.natAbs d.toNat = 1
instance (n d : Int) : Decidable (okR n d) := by unfold okR; infer_instance
theorem okR_iff {n d : Int} : okR n d ↔ 1 ≤ d ∧ d ≤ 1073741824 ∧ -1073741824 ≤ n ∧ n ≤ 1073741824 ∧ Nat.gcd n.natAbs d.toNat = 1 := Iff.rfl
noncomputable def cx0 (K A : Value → Nat → List Value → Prop) : SX.Cx := { P := Try.prog, R := fun _ _ _ _ => False, shp := fun _ => none, K := K, A := A }
theorem cx0_ok (K A : Value → Nat → List Value → Prop) : (cx0 K A).Ok := SX.Cx.ok_of (fun _ => rfl) fun _ f xs v W h => h.elim
def tree_size : SX.Tree :=
(.df (.bin .lss 3) [(.x 0 []), (.k (.int .i64 0))] .one 
(.br 1 [] 
(.df .neg [(.x 0 [])] .one 
(.ret (.x 2 []) [] [])) 
(.ret (.x 0 []) [] [])))
def args_size : List SX.V := [.x 0 []]
set_option maxRecDepth 100000 in
theorem run_size (K A : Value → Nat → List Value → Prop) : (SX.run (cx0 K A) ⟨fun _ => false, [], 0, 100⟩ 100000 0 (SX.door 119 Try.f119 args_size [.one]) [.code (Try.f119.body.getD .skip), .top Try.f119]).strip = tree_size := by kernel_rfl
set_option maxRecDepth 100000 in
set_option maxHeartbeats 4000000 in
theorem size_any (n : Int) (w : World) (h1 : -1073741824 ≤ n) (h2 : n ≤ 1073741824) : Calls Try.prog 119 #[.int .i64 n] w fun e w' => e = .returned (.int .i64 n.natAbs) ∧ Below w.heap.size w w' := by
  refine SX.calls_of_run (C := cx0 (fun _ _ _ => False) (fun _ _ _ => False)) (G := ⟨fun _ => false, [], 0, 100⟩) (args := args_size) (sh := [.one]) (ρ := [.int .i64 n]) 100000 tree_size (cx0_ok _ _) Try.func119 rfl (run_size _ _) (by kernel_rfl) (by kernel_rfl) (by kernel_rfl) ?_ ?_
  · exact fun W _ => SX.Kf_none (fun _ _ _ h => h) W
  unfold tree_size
  refine SX.VC_df (.bool (decide (n < 0))) (by intro α; show _ = _; kernel_rfl) (by kernel_rfl) ?_
  refine SX.VC_br (decide (n < 0)) (by kernel_rfl) (fun h1 => ?_) (fun h1 => ?_)
  · try simp only [NRM] at h1
    refine SX.VC_df (.int .i64 (-n)) (fun α => Eq.trans (b := some (.int .i64 (IntKind.i64.wrap (-n)))) (by kernel_rfl) (by rw [wrap_i64 (by omega) (by omega)])) (by kernel_rfl) ?_
    exact SX.VC_ret fun α W _ _ hS => SX.ret_of hS (x := .int .i64 (-n)) (by kernel_rfl) (by congr 1; omega)
  · try simp only [NRM] at h1
    exact SX.VC_ret fun α W _ _ hS => SX.ret_of hS (x := .int .i64 n) (by kernel_rfl) (by congr 1; omega)
def tree_mag : SX.Tree :=
(.df (.bin .lss 3) [(.x 0 []), (.k (.int .i64 0))] .one 
(.br 1 [] 
(.df (.conv .u64) [(.x 0 [])] .one 
(.df .neg [(.x 2 [])] .one 
(.ret (.x 3 []) [] []))) 
(.df (.conv .u64) [(.x 0 [])] .one 
(.ret (.x 2 []) [] []))))
def args_mag : List SX.V := [.x 0 []]
set_option maxRecDepth 100000 in
theorem run_mag (K A : Value → Nat → List Value → Prop) : (SX.run (cx0 K A) ⟨fun _ => false, [], 0, 100⟩ 100000 0 (SX.door 100 Try.f100 args_mag [.one]) [.code (Try.f100.body.getD .skip), .top Try.f100]).strip = tree_mag := by kernel_rfl
set_option maxRecDepth 100000 in
set_option maxHeartbeats 4000000 in
theorem mag_any (n : Int) (w : World) (h1 : -4611686018427387904 ≤ n) (h2 : n ≤ 4611686018427387904) : Calls Try.prog 100 #[.int .i64 n] w fun e w' => e = .returned (.int .u64 n.natAbs) ∧ Below w.heap.size w w' := by
  refine SX.calls_of_run (C := cx0 (fun _ _ _ => False) (fun _ _ _ => False)) (G := ⟨fun _ => false, [], 0, 100⟩) (args := args_mag) (sh := [.one]) (ρ := [.int .i64 n]) 100000 tree_mag (cx0_ok _ _) Try.func100 rfl (run_mag _ _) (by kernel_rfl) (by kernel_rfl) (by kernel_rfl) ?_ ?_
  · exact fun W _ => SX.Kf_none (fun _ _ _ h => h) W
  unfold tree_mag
  refine SX.VC_df (.bool (decide (n < 0))) (by intro α; show _ = _; kernel_rfl) (by kernel_rfl) ?_
  refine SX.VC_br (decide (n < 0)) (by kernel_rfl) (fun h1 => ?_) (fun h1 => ?_)
  · try simp only [NRM] at h1
    refine SX.VC_df (.int .u64 (IntKind.u64.wrap n)) (by intro α; show _ = _; kernel_rfl) (by kernel_rfl) ?_
    refine SX.VC_df (.int .u64 (IntKind.u64.wrap (-(IntKind.u64.wrap n)))) (by intro α; show _ = _; kernel_rfl) (by kernel_rfl) ?_
    exact SX.VC_ret fun α W _ _ hS => SX.ret_of hS (x := .int .u64 (IntKind.u64.wrap (-(IntKind.u64.wrap n)))) (by kernel_rfl) (by congr 1; simp only [IntKind.wrap, IntKind.signed, IntKind.bits]; simp; omega)
  · try simp only [NRM] at h1
    refine SX.VC_df (.int .u64 (IntKind.u64.wrap n)) (by intro α; show _ = _; kernel_rfl) (by kernel_rfl) ?_
    exact SX.VC_ret fun α W _ _ hS => SX.ret_of hS (x := .int .u64 (IntKind.u64.wrap n)) (by kernel_rfl) (by congr 1; simp only [IntKind.wrap, IntKind.signed, IntKind.bits]; simp; omega)
def tree_rdiv : SX.Tree :=
(.loop [(.x 0 []), (.x 1 [])] [.one, .one] 
(.df (.bin .gtr 3) [(.x 3 []), (.k (.int .i64 0))] .one 
(.br 4 [] 
(.df (.bin .rem 3) [(.x 2 []), (.x 3 [])] .one 
(.again 0 [(.x 3 []), (.x 5 [])])) 
(.ret (.x 2 []) [] []))))
def args_rdiv : List SX.V := [.x 0 [], .x 1 []]
set_option maxRecDepth 100000 in
theorem run_rdiv (K A : Value → Nat → List Value → Prop) : (SX.run (cx0 K A) ⟨fun _ => false, [⟨118, 1, [(.s 0, .one), (.s 1, .one)]⟩], 0, 100⟩ 100000 0 (SX.door 118 Try.f118 args_rdiv [.one, .one]) [.code (Try.f118.body.getD .skip), .top Try.f118]).strip = tree_rdiv := by kernel_rfl
set_option maxRecDepth 100000 in
set_option maxHeartbeats 4000000 in
theorem rdiv_any (a0 b0 : Nat) (w : World) (ha : a0 ≤ 1073741824) (hb : b0 ≤ 1073741824) : Calls Try.prog 118 #[.int .i64 a0, .int .i64 b0] w fun e w' => e = .returned (.int .i64 (Nat.gcd a0 b0)) ∧ Below w.heap.size w w' := by
  refine SX.calls_of_run (C := cx0 (fun _ _ _ => False) (fun _ _ _ => False)) (G := ⟨fun _ => false, [⟨118, 1, [(.s 0, .one), (.s 1, .one)]⟩], 0, 100⟩) (args := args_rdiv) (sh := [.one, .one]) (ρ := [.int .i64 a0, .int .i64 b0]) 100000 tree_rdiv (cx0_ok _ _) Try.func118 rfl (run_rdiv _ _) (by kernel_rfl) (by kernel_rfl) (by kernel_rfl) ?_ ?_
  · exact fun W _ => SX.Kf_none (fun _ _ _ h => h) W
  unfold tree_rdiv
  refine SX.VC_loop (fun xs => ∃ a b : Nat, xs = [.int .i64 a, .int .i64 b] ∧ a ≤ 1073741824 ∧ b ≤ 1073741824 ∧ Nat.gcd a b = Nat.gcd a0 b0) (fun xs => match xs with | [_, .int _ b] => b.toNat | _ => 0) (fun α => ⟨a0, b0, by kernel_rfl, ha, hb, rfl⟩) ?_
  rintro xs - ⟨a, b, rfl, ha1, hb1, hg⟩
  refine SX.VC_df (.bool (decide ((b : Int) > 0))) (by intro α; show _ = _; kernel_rfl) (by kernel_rfl) ?_
  refine SX.VC_br (decide ((b : Int) > 0)) (by kernel_rfl) (fun h4 => ?_) (fun h4 => ?_)
  · try simp only [NRM] at h4
    refine SX.VC_df (.int .i64 (((a % b : Nat) : Int))) (fun α => Eq.trans (b := SX.binV .rem (.int .i64 (a : Int)) (.int .i64 (b : Int))) (by kernel_rfl) (SX.rem_nat (by omega))) (by kernel_rfl) ?_
    exact SX.VC_again fun α => ⟨⟨b, a % b, by kernel_rfl, hb1, by have := Nat.mod_lt a (show 0 < b by omega); omega, by rw [← hg, Nat.gcd_comm a b, Nat.gcd_rec b a, Nat.gcd_comm]⟩, by show ((a % b : Nat) : Int).toNat < (b : Int).toNat; have := Nat.mod_lt a (show 0 < b by omega); omega⟩
  · try simp only [NRM] at h4
    exact SX.VC_ret fun α W _ _ hS => SX.ret_of hS (x := .int .i64 ((a : Int))) (by kernel_rfl) (by have hb0 : b = 0 := (by omega); subst hb0; rw [← hg]; simp)
end Go.Proofs.Ytnaooclbphaelaa
