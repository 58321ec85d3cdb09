/-
  edits.Apply: no edit.
-/
import Derived.Test.YtnaooclbphaelaaEb
namespace Go.Proofs.Ytnaooclbphaelaa
set_option linter.unusedSimpArgs false
set_option linter.unusedVariables false
open Go Go.RowKit
def tree_e0 : SX.Tree :=
(.df (.call 14 [(.ext 14)]) [(.x 0 [])] .one 
(.df (.bin .neq 31) [(.x 23 []), (.k (.int .i64 0))] .one 
(.br 24 [] 
(.ret (.t [(.k (.slice none 0 0)), (.x 23 [])]) [none] []) 
(.df (.bin .geq 3) [(.x 1 []), (.k (.int .i64 1))] .one 
(.br 25 [] 
(.df (.bin .leq 3) [(.x 1 []), (.k (.int .i64 7))] .one 
(.df .not [(.x 26 [])] .one 
(.br 27 [] 
(.ret (.t [(.k (.slice none 0 0)), (.k (.int .i64 360))]) [none] []) (.bad 37 [])))) 
(.ret (.t [(.k (.slice none 0 0)), (.k (.int .i64 360))]) [none] []))))))
def args_e0 : List SX.V := [.x 0 [], .a ((List.range 22).map fun j => .x (1+j) [])]
set_option maxRecDepth 100000 in
theorem run_e0 (K A : Value → Nat → List Value → Prop) : (SX.run (cxE2 K A) ⟨fun f => f != 29, [], 2, 100⟩ 100000 0 (SX.door 12 Try.f12 args_e0 (List.replicate 23 .one)) [.code (Try.f12.body.getD .skip), .top Try.f12]).strip = tree_e0 := by kernel_rfl
set_option maxRecDepth 100000 in
set_option maxHeartbeats 4000000 in
theorem e0_any (ss : List Sg) (A : Option Addr) (n c : Nat) (d : Ed) (w : World) (hr : Rd w 14 A n (sgsL ss)) (hn : n ≤ 9223372036854775807) (hc : n ≤ c) (hd : ¬ (1 ≤ d.kind ∧ d.kind ≤ 7)) : Calls Try.prog 12 #[.slice A n c, valE d] w fun e w' => Below w.heap.size w w' ∧ ∃ hdr, e = .returned (.tuple #[hdr, .int .i64 (applyE d ss).2]) ∧ SX.SlRet w w' [] hdr 14 (sgsL (applyE d ss).1) := by
  refine SX.calls_of_run (C := cxE2 (fun s sz cells => s = .slice A n c ∧ sz = 14 ∧ cells = sgsL ss) (fun _ _ _ => False)) (G := ⟨fun f => f != 29, [], 2, 100⟩) (args := args_e0) (sh := (List.replicate 23 .one)) (ρ := ([.slice A n c] ++ cellsE d)) 100000 tree_e0 (okE2 _ _) Try.func12 rfl (run_e0 _ _) (by kernel_rfl) (by kernel_rfl) (by kernel_rfl) ?_ ?_
  · rintro W hW s sz cells ⟨rfl, rfl, rfl⟩; exact ⟨hr.same0 hW, hc⟩
  have hln : ss.length = n := by have := hr.1; rw [sgsL_len] at this; omega
  have k1 : (fun s sz cells => s = .slice A n c ∧ sz = 14 ∧ cells = sgsL ss) (Value.slice A n c) 14 (sgsL ss) := ⟨rfl, rfl, rfl⟩
  unfold tree_e0
  refine SX.VC_df (.int .i64 ((chkS ss))) (fun α => ⟨[⟨.slice A n c, 14, sgsL ss⟩], ⟨by kernel_rfl, rfl, cast (by kernel_rfl) k1, trivial⟩, .inl ⟨rfl, .slice A n c, ss, rfl, by omega, rfl⟩, SX.noAli rfl⟩) (by kernel_rfl) ?_
  refine SX.VC_df (.bool (((chkS ss) : Int) != 0)) (by intro α; show _ = _; kernel_rfl) (by kernel_rfl) ?_
  refine SX.VC_br (((chkS ss) : Int) != 0) (by kernel_rfl) (fun h24 => ?_) (fun h24 => ?_)
  · try simp only [NRM] at h24
    have hfact : applyE d ss = ([], chkS ss) := applyE_chk h24
    exact SX.VC_ret fun α W _ hR hS => ⟨hS.below, (.slice none 0 0), Eq.trans (b := Ending.returned (.tuple #[(.slice none 0 0), .int .i64 ((chkS ss))])) (by kernel_rfl) (by rw [hfact]), (by rw [hfact]; exact SX.SlRet.nil)⟩
  · try simp only [NRM] at h24
    refine SX.VC_df (.bool (decide (d.kind ≥ 1))) (by intro α; show _ = _; kernel_rfl) (by kernel_rfl) ?_
    refine SX.VC_br (decide (d.kind ≥ 1)) (by kernel_rfl) (fun h25 => ?_) (fun h25 => ?_)
    · try simp only [NRM] at h25
      refine SX.VC_df (.bool (decide (d.kind ≤ 7))) (by intro α; show _ = _; kernel_rfl) (by kernel_rfl) ?_
      refine SX.VC_df (.bool (!(decide (d.kind ≤ 7)))) (by intro α; show _ = _; kernel_rfl) (by kernel_rfl) ?_
      refine SX.VC_br (!(decide (d.kind ≤ 7))) (by kernel_rfl) (fun h27 => ?_) (fun h27 => absurd (And.intro (by omega : (1 : Int) ≤ d.kind) (by simpa using h27 : d.kind ≤ 7)) hd)
      try simp only [NRM] at h27
      have hfact : applyE d ss = ([], 360) := applyE_no h24 (fun hk => hd ⟨hk.1, hk.2.1⟩)
      exact SX.VC_ret fun α W _ hR hS => ⟨hS.below, (.slice none 0 0), Eq.trans (b := Ending.returned (.tuple #[(.slice none 0 0), .int .i64 360])) (by kernel_rfl) (by rw [hfact]), (by rw [hfact]; exact SX.SlRet.nil)⟩
    · try simp only [NRM] at h25
      have hfact : applyE d ss = ([], 360) := applyE_no h24 (fun hk => hd ⟨hk.1, hk.2.1⟩)
      exact SX.VC_ret fun α W _ hR hS => ⟨hS.below, (.slice none 0 0), Eq.trans (b := Ending.returned (.tuple #[(.slice none 0 0), .int .i64 360])) (by kernel_rfl) (by rw [hfact]), (by rw [hfact]; exact SX.SlRet.nil)⟩
end Go.Proofs.Ytnaooclbphaelaa
