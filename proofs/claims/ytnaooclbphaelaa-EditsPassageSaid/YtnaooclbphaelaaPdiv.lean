/-
  The divisor of the program (by an iterator): it is the greatest common divisor.
-/
import Derived.Test.YtnaooclbphaelaaPa
namespace Go.Proofs.Ytnaooclbphaelaa
set_option linter.unusedSimpArgs false
set_option linter.unusedVariables false
open Go Go.RowKit
def tree_pdiv : SX.Tree :=
(.df (.bin .eql 101) [(.x 1 []), (.k (.int .u64 0))] .one 
(.br 2 [] 
(.ret (.x 0 []) [] []) 
(.loop [(.x 0 []), (.x 1 []), (.x 1 [])] [.one, .one, .one] 
(.df (.bin .neq 101) [(.x 3 []), (.k (.int .u64 0))] .one 
(.br 6 [] 
(.df .max [(.x 4 []), (.k (.int .u64 1))] .one 
(.df (.bin .rem 101) [(.x 3 []), (.x 7 [])] .one 
(.df (.bin .eql 101) [(.x 8 []), (.k (.int .u64 0))] .one 
(.br 9 [] 
(.ret (.x 4 []) [] []) 
(.again 0 [(.x 4 []), (.x 8 []), (.x 3 [])]))))) 
(.ret (.x 5 []) [] []))))))
def args_pdiv : List SX.V := [.x 0 [], .x 1 []]
set_option maxRecDepth 100000 in
theorem run_pdiv (K A : Value → Nat → List Value → Prop) : (SX.run (cx0 K A) ⟨fun _ => true, [⟨120, 0, [(.c 1 0, .one), (.c 2 0, .one), (.c 0 0, .one)]⟩], 0, 100⟩ 100000 0 (SX.door 99 Try.f99 args_pdiv [.one, .one]) [.code (Try.f99.body.getD .skip), .top Try.f99]).strip = tree_pdiv := by kernel_rfl
theorem rem_natu {a b : Nat} (h : 0 < b) : SX.binV .rem (.int .u64 (a : Int)) (.int .u64 (b : Int)) = some (.int .u64 ((a % b : Nat) : Int)) := by
  have hb : ¬ ((b : Int) = 0) := by omega
  have e : ((a % b : Nat) : Int) = (a : Int).tmod b := by
    rw [Int.tmod_eq_emod_of_nonneg (by omega)]; rfl
  simp only [SX.binV]
  rw [if_pos trivial, if_neg hb, e]
set_option maxRecDepth 100000 in
set_option maxHeartbeats 4000000 in
theorem pdiv_any (a0 b0 : Nat) (w : World) (ha : a0 ≤ 4611686018427387904) (hb : b0 ≤ 4611686018427387904) : Calls Try.prog 99 #[.int .u64 a0, .int .u64 b0] w fun e w' => e = .returned (.int .u64 (Nat.gcd a0 b0)) ∧ Below w.heap.size w w' := by
  refine SX.calls_of_run (C := cx0 (fun _ _ _ => False) (fun _ _ _ => False)) (G := ⟨fun _ => true, [⟨120, 0, [(.c 1 0, .one), (.c 2 0, .one), (.c 0 0, .one)]⟩], 0, 100⟩) (args := args_pdiv) (sh := [.one, .one]) (ρ := [.int .u64 a0, .int .u64 b0]) 100000 tree_pdiv (cx0_ok _ _) Try.func99 rfl (run_pdiv _ _) (by kernel_rfl) (by kernel_rfl) (by kernel_rfl) ?_ ?_
  · exact fun W _ => SX.Kf_none (fun _ _ _ h => h) W
  unfold tree_pdiv
  refine SX.VC_df (.bool ((b0 : Int) == 0)) (by intro α; show _ = _; kernel_rfl) (by kernel_rfl) ?_
  refine SX.VC_br ((b0 : Int) == 0) (by kernel_rfl) (fun h2 => ?_) (fun h2 => ?_)
  · simp only [beq_iff_eq] at h2
    exact SX.VC_ret fun α W _ _ hS => SX.ret_of hS (x := .int .u64 (a0 : Int)) (by kernel_rfl) (by obtain rfl : b0 = 0 := (by omega); simp)
  · simp only [beq_eq_false_iff_ne, ne_eq] at h2
    refine SX.VC_loop (fun xs => ∃ a b d : Nat, xs = [.int .u64 a, .int .u64 b, .int .u64 d] ∧ 0 < b ∧ (a = 0 → d = b) ∧ Nat.gcd a b = Nat.gcd a0 b0) (fun xs => match xs with | [_, .int _ b, _] => b.toNat | _ => 0) (fun α => ⟨a0, b0, b0, by kernel_rfl, by omega, fun _ => rfl, rfl⟩) ?_
    rintro xs - ⟨a, b, d, rfl, hb1, hd, hg⟩
    refine SX.VC_df (.bool ((a : Int) != 0)) (by intro α; show _ = _; kernel_rfl) (by kernel_rfl) ?_
    refine SX.VC_br ((a : Int) != 0) (by kernel_rfl) (fun h6 => ?_) (fun h6 => ?_)
    · simp only [bne_iff_ne, ne_eq] at h6
      refine SX.VC_df (.int .u64 (b : Int)) (fun α => Eq.trans (b := SX.maxV (.int .u64 (b : Int)) (.int .u64 1)) (by kernel_rfl) (by simp only [SX.maxV, if_true]; unfold maxI; congr 2; split <;> omega)) (by kernel_rfl) ?_
      refine SX.VC_df (.int .u64 (((a % b : Nat) : Int))) (fun α => Eq.trans (b := SX.binV .rem (.int .u64 (a : Int)) (.int .u64 (b : Int))) (by kernel_rfl) (rem_natu (by omega))) (by kernel_rfl) ?_
      refine SX.VC_df (.bool (((a % b : Nat) : Int) == 0)) (by intro α; show _ = _; kernel_rfl) (by kernel_rfl) ?_
      have hgr : Nat.gcd b (a % b) = Nat.gcd a0 b0 := by rw [← hg, Nat.gcd_comm a b, Nat.gcd_rec b a, Nat.gcd_comm]
      refine SX.VC_br (((a % b : Nat) : Int) == 0) (by kernel_rfl) (fun h9 => ?_) (fun h9 => ?_)
      · simp only [beq_iff_eq] at h9
        exact SX.VC_ret fun α W _ _ hS => SX.ret_of hS (x := .int .u64 (b : Int)) (by kernel_rfl) (by rw [← hgr, show a % b = 0 by omega]; simp)
      · simp only [beq_eq_false_iff_ne, ne_eq] at h9
        exact SX.VC_again fun α => ⟨⟨b, a % b, a, by kernel_rfl, by omega, by omega, hgr⟩, by show ((a % b : Nat) : Int).toNat < (b : Int).toNat; have := Nat.mod_lt a (show 0 < b by omega); omega⟩
    · simp only [bne_eq_false_iff_eq] at h6
      exact SX.VC_ret fun α W _ _ hS => SX.ret_of hS (x := .int .u64 (d : Int)) (by kernel_rfl) (by rw [hd (by omega), ← hg, show a = 0 by omega]; simp)
end Go.Proofs.Ytnaooclbphaelaa
