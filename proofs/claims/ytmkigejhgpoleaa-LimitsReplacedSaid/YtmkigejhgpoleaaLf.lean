/-
  Bodies in form; bodies and their caps.
-/
import Derived.Test.YtmkigejhgpoleaaLe
import Derived.Test.YtmkigejhgpoleaaBody
import Derived.Test.YtmkigejhgpoleaaLexW1
namespace Go.Proofs.Ytmkigejhgpoleaa
set_option linter.unusedSimpArgs false
set_option linter.unusedVariables false
open Go Go.RowKit
def cellsBd (b : Bod.Bd) : List Value := [.string b.name, .int .i64 b.weight, .int .i64 b.lift, .int .i64 b.girth, .int .i64 b.step, .int .i64 b.jump, .int .i64 b.r0, .int .i64 b.r1, .int .i64 b.r2, .int .i64 b.s0, .int .i64 b.s1, .int .i64 b.s2, .int .i64 b.t0, .int .i64 b.t1, .int .i64 b.t2, .int .i64 b.effort, .int .i64 b.recover]
def valBd (b : Bod.Bd) : Value := .agg (cellsBd b).toArray
def cellsCp (c : Bod.Cp) : List Value := [.int .i64 c.kind, .int .i64 c.limb, .int .i64 c.n]
def valCp (c : Bod.Cp) : Value := .agg (cellsCp c).toArray
def cpL (l : List Bod.Cp) : List Value := l.flatMap cellsCp
theorem cpL_len (l : List Bod.Cp) : (cpL l).length = l.length * 3 := SX.flat_len (f := cellsCp) (fun _ => rfl) l
theorem capOk_ok (c : Bod.Cp) : decide (capOk c.kind c.limb c.n) = c.ok := by
  obtain ⟨k, l, n⟩ := c
  rw [Bool.eq_iff_iff, decide_eq_true_eq]
  by_cases hk : 1 ≤ k ∧ k ≤ 6
  · have : k = 1 ∨ k = 2 ∨ k = 3 ∨ k = 4 ∨ k = 5 ∨ k = 6 := by omega
    rcases this with rfl | rfl | rfl | rfl | rfl | rfl <;> simp [capOk, Bod.Cp.ok, Bod.Cp.inR, Bod.inB, Bod.rlimb, Bod.rlo, Bod.rhi, Bod.Cp.r] <;> omega
  · constructor
    · intro h; exfalso; unfold capOk at h; dsimp only at h; omega
    · intro h; simp [Bod.Cp.ok, Bod.inB] at h; omega
/-- what is known of names -/
def RF0 (f : FuncId) (xs : List SX.Arg) (v : Value) : Prop :=
  (f = 45 ∧ ∃ s : ByteArray, xs = [⟨.string s, 0, []⟩] ∧ s.size ≤ maxLen ∧ v = .bool (Bod.nameB s.data.toList))
def shpF0 : FuncId → Option SX.Sh := fun f => if f = 45 then some .one else none
noncomputable def cxF0 (K A : Value → Nat → List Value → Prop) : SX.Cx := { P := Try.prog, R := fun _ => RF0, shp := shpF0, K := K, A := A, trm := true, tl := [46] }
theorem okF0 (K A : Value → Nat → List Value → Prop) : (cxF0 K A).Ok := by
  refine SX.Cx.ok_of (fun _ => rfl) ?_
  intro K f xs v W hR hrd hKf
  rcases hR with ⟨rfl, s, rfl, hs, rfl⟩
  · exact (name_any s W hs).mono fun e w' h => SX.plainOk rfl ⟨h.1, h.2 ▸ Below.refl _ _⟩
def tree_bCheck : SX.Tree :=
(.df (.call 45 [.no]) [(.x 0 [])] .one 
(.df .not [(.x 17 [])] .one 
(.br 18 [] 
(.ret (.k (.int .i64 250)) [] []) 
(.df (.bin .lss 3) [(.x 1 []), (.k (.int .i64 1))] .one 
(.br 19 [] 
(.ret (.k (.int .i64 250)) [] []) 
(.df (.bin .gtr 3) [(.x 1 []), (.k (.int .i64 500))] .one 
(.br 20 [] 
(.ret (.k (.int .i64 250)) [] []) 
(.df (.bin .lss 3) [(.x 3 []), (.k (.int .i64 1))] .one 
(.br 21 [] 
(.ret (.k (.int .i64 250)) [] []) 
(.df (.bin .gtr 3) [(.x 3 []), (.k (.int .i64 4))] .one 
(.br 22 [] 
(.ret (.k (.int .i64 250)) [] []) 
(.df (.bin .lss 3) [(.x 6 []), (.k (.int .i64 1))] .one 
(.br 23 [] 
(.ret (.k (.int .i64 250)) [] []) 
(.df (.bin .gtr 3) [(.x 6 []), (.k (.int .i64 8))] .one 
(.br 24 [] 
(.ret (.k (.int .i64 250)) [] []) 
(.df (.bin .lss 3) [(.x 7 []), (.k (.int .i64 1))] .one 
(.br 25 [] 
(.ret (.k (.int .i64 250)) [] []) 
(.df (.bin .gtr 3) [(.x 7 []), (.k (.int .i64 8))] .one 
(.br 26 [] 
(.ret (.k (.int .i64 250)) [] []) 
(.df (.bin .lss 3) [(.x 8 []), (.k (.int .i64 1))] .one 
(.br 27 [] 
(.ret (.k (.int .i64 250)) [] []) 
(.df (.bin .gtr 3) [(.x 8 []), (.k (.int .i64 8))] .one 
(.br 28 [] 
(.ret (.k (.int .i64 250)) [] []) 
(.df (.bin .lss 3) [(.x 16 []), (.k (.int .i64 0))] .one 
(.br 29 [] 
(.ret (.k (.int .i64 250)) [] []) 
(.df (.bin .gtr 3) [(.x 16 []), (.k (.int .i64 1048576))] .one 
(.br 30 [] 
(.ret (.k (.int .i64 250)) [] []) 
(.df (.bin .lss 3) [(.x 12 []), (.k (.int .i64 1))] .one 
(.br 31 [] 
(.ret (.k (.int .i64 250)) [] []) 
(.df (.bin .gtr 3) [(.x 12 []), (.k (.int .i64 3))] .one 
(.br 32 [] 
(.ret (.k (.int .i64 250)) [] []) 
(.df (.bin .lss 3) [(.x 13 []), (.k (.int .i64 1))] .one 
(.br 33 [] 
(.ret (.k (.int .i64 250)) [] []) 
(.df (.bin .gtr 3) [(.x 13 []), (.k (.int .i64 3))] .one 
(.br 34 [] 
(.ret (.k (.int .i64 250)) [] []) 
(.df (.bin .lss 3) [(.x 14 []), (.k (.int .i64 1))] .one 
(.br 35 [] 
(.ret (.k (.int .i64 250)) [] []) 
(.df (.bin .gtr 3) [(.x 14 []), (.k (.int .i64 3))] .one 
(.br 36 [] 
(.ret (.k (.int .i64 250)) [] []) 
(.df (.bin .lss 3) [(.x 9 []), (.k (.int .i64 1))] .one 
(.br 37 [] 
(.ret (.k (.int .i64 250)) [] []) 
(.df (.bin .gtr 3) [(.x 9 []), (.k (.int .i64 1048576))] .one 
(.br 38 [] 
(.ret (.k (.int .i64 250)) [] []) 
(.df (.bin .lss 3) [(.x 10 []), (.k (.int .i64 1))] .one 
(.br 39 [] 
(.ret (.k (.int .i64 250)) [] []) 
(.df (.bin .gtr 3) [(.x 10 []), (.k (.int .i64 1048576))] .one 
(.br 40 [] 
(.ret (.k (.int .i64 250)) [] []) 
(.df (.bin .lss 3) [(.x 11 []), (.k (.int .i64 1))] .one 
(.br 41 [] 
(.ret (.k (.int .i64 250)) [] []) 
(.df (.bin .gtr 3) [(.x 11 []), (.k (.int .i64 1048576))] .one 
(.br 42 [] 
(.ret (.k (.int .i64 250)) [] []) 
(.df (.bin .lss 3) [(.x 4 []), (.k (.int .i64 1))] .one 
(.br 43 [] 
(.ret (.k (.int .i64 250)) [] []) 
(.df (.bin .gtr 3) [(.x 4 []), (.k (.int .i64 16))] .one 
(.br 44 [] 
(.ret (.k (.int .i64 250)) [] []) 
(.df (.bin .lss 3) [(.x 5 []), (.k (.int .i64 0))] .one 
(.br 45 [] 
(.ret (.k (.int .i64 250)) [] []) 
(.df (.bin .gtr 3) [(.x 5 []), (.k (.int .i64 16))] .one 
(.br 46 [] 
(.ret (.k (.int .i64 250)) [] []) 
(.df (.bin .lss 3) [(.x 2 []), (.k (.int .i64 0))] .one 
(.br 47 [] 
(.ret (.k (.int .i64 250)) [] []) 
(.df (.bin .gtr 3) [(.x 2 []), (.k (.int .i64 500))] .one 
(.br 48 [] 
(.ret (.k (.int .i64 250)) [] []) 
(.df (.bin .lss 3) [(.x 15 []), (.k (.int .i64 0))] .one 
(.br 49 [] 
(.ret (.k (.int .i64 250)) [] []) 
(.df (.bin .gtr 3) [(.x 15 []), (.k (.int .i64 1048576))] .one 
(.br 50 [] 
(.ret (.k (.int .i64 250)) [] []) 
(.ret (.k (.int .i64 0)) [] []))))))))))))))))))))))))))))))))))))))))))))))))))))))))))))))))))))
def args_bCheck : List SX.V := [.a ((List.range 17).map fun j => .x j [])]
set_option maxRecDepth 100000 in
theorem run_bCheck (K A : Value → Nat → List Value → Prop) : (SX.run (cxF0 K A) ⟨fun f => true, [], 0, 100⟩ 100000 0 (SX.door 21 Try.f21 args_bCheck (List.replicate 17 .one)) [.code (Try.f21.body.getD .skip), .top Try.f21]).strip = tree_bCheck := by kernel_rfl
set_option maxRecDepth 100000 in
set_option maxHeartbeats 4000000 in
theorem bCheck_any (b : Bod.Bd) (w : World) (hs : b.name.size ≤ maxLen) : Calls Try.prog 21 #[valBd b] w fun e w' => e = .returned (.int .i64 b.chk) ∧ Below w.heap.size w w' := by
  refine SX.calls_of_run (C := cxF0 (fun _ _ _ => False) (fun _ _ _ => False)) (G := ⟨fun f => true, [], 0, 100⟩) (args := args_bCheck) (sh := (List.replicate 17 .one)) (ρ := (cellsBd b)) 100000 tree_bCheck (okF0 _ _) Try.func21 rfl (run_bCheck _ _) (by kernel_rfl) (by kernel_rfl) (by kernel_rfl) ?_ ?_
  · exact fun W _ => SX.Kf_none (fun _ _ _ h => h) W
  unfold tree_bCheck
  refine SX.VC_df (.bool (Bod.nameB b.name.data.toList)) (fun α => ⟨[⟨.string b.name, 0, []⟩], ⟨by kernel_rfl, by kernel_rfl, trivial⟩, ⟨rfl, _, rfl, hs, rfl⟩, SX.noAli rfl⟩) (by kernel_rfl) ?_
  refine SX.VC_df (.bool (!(Bod.nameB b.name.data.toList))) (by intro α; show _ = _; kernel_rfl) (by kernel_rfl) ?_
  refine SX.VC_br (!(Bod.nameB b.name.data.toList)) (by kernel_rfl) (fun h18 => ?_) (fun h18 => ?_)
  · try simp only [NRM] at h18
    exact SX.VC_ret fun α W _ _ hS => SX.ret_of hS (x := .int .i64 250) (by kernel_rfl) (by congr 1; first | (rw [Bod.Bd.chk, if_pos (by simp only [Bod.Bd.okB, Bod.Bd.baseB, Bod.Bd.capsB, Bod.inB, Bool.and_eq_true, decide_eq_true_eq]; have q : Bod.nameB b.name.data.toList = true := (by simpa using h18); simp only [q, true_and]; omega)]) | (rw [Bod.Bd.chk, if_neg (fun hk => by simp only [Bod.Bd.okB, Bod.Bd.baseB, Bod.Bd.capsB, Bod.inB, Bool.and_eq_true, decide_eq_true_eq] at hk; first | omega | (have q := h18; simp [hk.1.1.1.1.1] at q))]))
  · try simp only [NRM] at h18
    refine SX.VC_df (.bool (decide (b.weight < 1))) (by intro α; show _ = _; kernel_rfl) (by kernel_rfl) ?_
    refine SX.VC_br (decide (b.weight < 1)) (by kernel_rfl) (fun h19 => ?_) (fun h19 => ?_)
    · try simp only [NRM] at h19
      exact SX.VC_ret fun α W _ _ hS => SX.ret_of hS (x := .int .i64 250) (by kernel_rfl) (by congr 1; first | (rw [Bod.Bd.chk, if_pos (by simp only [Bod.Bd.okB, Bod.Bd.baseB, Bod.Bd.capsB, Bod.inB, Bool.and_eq_true, decide_eq_true_eq]; have q : Bod.nameB b.name.data.toList = true := (by simpa using h18); simp only [q, true_and]; omega)]) | (rw [Bod.Bd.chk, if_neg (fun hk => by simp only [Bod.Bd.okB, Bod.Bd.baseB, Bod.Bd.capsB, Bod.inB, Bool.and_eq_true, decide_eq_true_eq] at hk; first | omega | (have q := h18; simp [hk.1.1.1.1.1] at q))]))
    · try simp only [NRM] at h19
      refine SX.VC_df (.bool (decide (b.weight > 500))) (by intro α; show _ = _; kernel_rfl) (by kernel_rfl) ?_
      refine SX.VC_br (decide (b.weight > 500)) (by kernel_rfl) (fun h20 => ?_) (fun h20 => ?_)
      · try simp only [NRM] at h20
        exact SX.VC_ret fun α W _ _ hS => SX.ret_of hS (x := .int .i64 250) (by kernel_rfl) (by congr 1; first | (rw [Bod.Bd.chk, if_pos (by simp only [Bod.Bd.okB, Bod.Bd.baseB, Bod.Bd.capsB, Bod.inB, Bool.and_eq_true, decide_eq_true_eq]; have q : Bod.nameB b.name.data.toList = true := (by simpa using h18); simp only [q, true_and]; omega)]) | (rw [Bod.Bd.chk, if_neg (fun hk => by simp only [Bod.Bd.okB, Bod.Bd.baseB, Bod.Bd.capsB, Bod.inB, Bool.and_eq_true, decide_eq_true_eq] at hk; first | omega | (have q := h18; simp [hk.1.1.1.1.1] at q))]))
      · try simp only [NRM] at h20
        refine SX.VC_df (.bool (decide (b.girth < 1))) (by intro α; show _ = _; kernel_rfl) (by kernel_rfl) ?_
        refine SX.VC_br (decide (b.girth < 1)) (by kernel_rfl) (fun h21 => ?_) (fun h21 => ?_)
        · try simp only [NRM] at h21
          exact SX.VC_ret fun α W _ _ hS => SX.ret_of hS (x := .int .i64 250) (by kernel_rfl) (by congr 1; first | (rw [Bod.Bd.chk, if_pos (by simp only [Bod.Bd.okB, Bod.Bd.baseB, Bod.Bd.capsB, Bod.inB, Bool.and_eq_true, decide_eq_true_eq]; have q : Bod.nameB b.name.data.toList = true := (by simpa using h18); simp only [q, true_and]; omega)]) | (rw [Bod.Bd.chk, if_neg (fun hk => by simp only [Bod.Bd.okB, Bod.Bd.baseB, Bod.Bd.capsB, Bod.inB, Bool.and_eq_true, decide_eq_true_eq] at hk; first | omega | (have q := h18; simp [hk.1.1.1.1.1] at q))]))
        · try simp only [NRM] at h21
          refine SX.VC_df (.bool (decide (b.girth > 4))) (by intro α; show _ = _; kernel_rfl) (by kernel_rfl) ?_
          refine SX.VC_br (decide (b.girth > 4)) (by kernel_rfl) (fun h22 => ?_) (fun h22 => ?_)
          · try simp only [NRM] at h22
            exact SX.VC_ret fun α W _ _ hS => SX.ret_of hS (x := .int .i64 250) (by kernel_rfl) (by congr 1; first | (rw [Bod.Bd.chk, if_pos (by simp only [Bod.Bd.okB, Bod.Bd.baseB, Bod.Bd.capsB, Bod.inB, Bool.and_eq_true, decide_eq_true_eq]; have q : Bod.nameB b.name.data.toList = true := (by simpa using h18); simp only [q, true_and]; omega)]) | (rw [Bod.Bd.chk, if_neg (fun hk => by simp only [Bod.Bd.okB, Bod.Bd.baseB, Bod.Bd.capsB, Bod.inB, Bool.and_eq_true, decide_eq_true_eq] at hk; first | omega | (have q := h18; simp [hk.1.1.1.1.1] at q))]))
          · try simp only [NRM] at h22
            refine SX.VC_df (.bool (decide (b.r0 < 1))) (by intro α; show _ = _; kernel_rfl) (by kernel_rfl) ?_
            refine SX.VC_br (decide (b.r0 < 1)) (by kernel_rfl) (fun h23 => ?_) (fun h23 => ?_)
            · try simp only [NRM] at h23
              exact SX.VC_ret fun α W _ _ hS => SX.ret_of hS (x := .int .i64 250) (by kernel_rfl) (by congr 1; first | (rw [Bod.Bd.chk, if_pos (by simp only [Bod.Bd.okB, Bod.Bd.baseB, Bod.Bd.capsB, Bod.inB, Bool.and_eq_true, decide_eq_true_eq]; have q : Bod.nameB b.name.data.toList = true := (by simpa using h18); simp only [q, true_and]; omega)]) | (rw [Bod.Bd.chk, if_neg (fun hk => by simp only [Bod.Bd.okB, Bod.Bd.baseB, Bod.Bd.capsB, Bod.inB, Bool.and_eq_true, decide_eq_true_eq] at hk; first | omega | (have q := h18; simp [hk.1.1.1.1.1] at q))]))
            · try simp only [NRM] at h23
              refine SX.VC_df (.bool (decide (b.r0 > 8))) (by intro α; show _ = _; kernel_rfl) (by kernel_rfl) ?_
              refine SX.VC_br (decide (b.r0 > 8)) (by kernel_rfl) (fun h24 => ?_) (fun h24 => ?_)
              · try simp only [NRM] at h24
                exact SX.VC_ret fun α W _ _ hS => SX.ret_of hS (x := .int .i64 250) (by kernel_rfl) (by congr 1; first | (rw [Bod.Bd.chk, if_pos (by simp only [Bod.Bd.okB, Bod.Bd.baseB, Bod.Bd.capsB, Bod.inB, Bool.and_eq_true, decide_eq_true_eq]; have q : Bod.nameB b.name.data.toList = true := (by simpa using h18); simp only [q, true_and]; omega)]) | (rw [Bod.Bd.chk, if_neg (fun hk => by simp only [Bod.Bd.okB, Bod.Bd.baseB, Bod.Bd.capsB, Bod.inB, Bool.and_eq_true, decide_eq_true_eq] at hk; first | omega | (have q := h18; simp [hk.1.1.1.1.1] at q))]))
              · try simp only [NRM] at h24
                refine SX.VC_df (.bool (decide (b.r1 < 1))) (by intro α; show _ = _; kernel_rfl) (by kernel_rfl) ?_
                refine SX.VC_br (decide (b.r1 < 1)) (by kernel_rfl) (fun h25 => ?_) (fun h25 => ?_)
                · try simp only [NRM] at h25
                  exact SX.VC_ret fun α W _ _ hS => SX.ret_of hS (x := .int .i64 250) (by kernel_rfl) (by congr 1; first | (rw [Bod.Bd.chk, if_pos (by simp only [Bod.Bd.okB, Bod.Bd.baseB, Bod.Bd.capsB, Bod.inB, Bool.and_eq_true, decide_eq_true_eq]; have q : Bod.nameB b.name.data.toList = true := (by simpa using h18); simp only [q, true_and]; omega)]) | (rw [Bod.Bd.chk, if_neg (fun hk => by simp only [Bod.Bd.okB, Bod.Bd.baseB, Bod.Bd.capsB, Bod.inB, Bool.and_eq_true, decide_eq_true_eq] at hk; first | omega | (have q := h18; simp [hk.1.1.1.1.1] at q))]))
                · try simp only [NRM] at h25
                  refine SX.VC_df (.bool (decide (b.r1 > 8))) (by intro α; show _ = _; kernel_rfl) (by kernel_rfl) ?_
                  refine SX.VC_br (decide (b.r1 > 8)) (by kernel_rfl) (fun h26 => ?_) (fun h26 => ?_)
                  · try simp only [NRM] at h26
                    exact SX.VC_ret fun α W _ _ hS => SX.ret_of hS (x := .int .i64 250) (by kernel_rfl) (by congr 1; first | (rw [Bod.Bd.chk, if_pos (by simp only [Bod.Bd.okB, Bod.Bd.baseB, Bod.Bd.capsB, Bod.inB, Bool.and_eq_true, decide_eq_true_eq]; have q : Bod.nameB b.name.data.toList = true := (by simpa using h18); simp only [q, true_and]; omega)]) | (rw [Bod.Bd.chk, if_neg (fun hk => by simp only [Bod.Bd.okB, Bod.Bd.baseB, Bod.Bd.capsB, Bod.inB, Bool.and_eq_true, decide_eq_true_eq] at hk; first | omega | (have q := h18; simp [hk.1.1.1.1.1] at q))]))
                  · try simp only [NRM] at h26
                    refine SX.VC_df (.bool (decide (b.r2 < 1))) (by intro α; show _ = _; kernel_rfl) (by kernel_rfl) ?_
                    refine SX.VC_br (decide (b.r2 < 1)) (by kernel_rfl) (fun h27 => ?_) (fun h27 => ?_)
                    · try simp only [NRM] at h27
                      exact SX.VC_ret fun α W _ _ hS => SX.ret_of hS (x := .int .i64 250) (by kernel_rfl) (by congr 1; first | (rw [Bod.Bd.chk, if_pos (by simp only [Bod.Bd.okB, Bod.Bd.baseB, Bod.Bd.capsB, Bod.inB, Bool.and_eq_true, decide_eq_true_eq]; have q : Bod.nameB b.name.data.toList = true := (by simpa using h18); simp only [q, true_and]; omega)]) | (rw [Bod.Bd.chk, if_neg (fun hk => by simp only [Bod.Bd.okB, Bod.Bd.baseB, Bod.Bd.capsB, Bod.inB, Bool.and_eq_true, decide_eq_true_eq] at hk; first | omega | (have q := h18; simp [hk.1.1.1.1.1] at q))]))
                    · try simp only [NRM] at h27
                      refine SX.VC_df (.bool (decide (b.r2 > 8))) (by intro α; show _ = _; kernel_rfl) (by kernel_rfl) ?_
                      refine SX.VC_br (decide (b.r2 > 8)) (by kernel_rfl) (fun h28 => ?_) (fun h28 => ?_)
                      · try simp only [NRM] at h28
                        exact SX.VC_ret fun α W _ _ hS => SX.ret_of hS (x := .int .i64 250) (by kernel_rfl) (by congr 1; first | (rw [Bod.Bd.chk, if_pos (by simp only [Bod.Bd.okB, Bod.Bd.baseB, Bod.Bd.capsB, Bod.inB, Bool.and_eq_true, decide_eq_true_eq]; have q : Bod.nameB b.name.data.toList = true := (by simpa using h18); simp only [q, true_and]; omega)]) | (rw [Bod.Bd.chk, if_neg (fun hk => by simp only [Bod.Bd.okB, Bod.Bd.baseB, Bod.Bd.capsB, Bod.inB, Bool.and_eq_true, decide_eq_true_eq] at hk; first | omega | (have q := h18; simp [hk.1.1.1.1.1] at q))]))
                      · try simp only [NRM] at h28
                        refine SX.VC_df (.bool (decide (b.recover < 0))) (by intro α; show _ = _; kernel_rfl) (by kernel_rfl) ?_
                        refine SX.VC_br (decide (b.recover < 0)) (by kernel_rfl) (fun h29 => ?_) (fun h29 => ?_)
                        · try simp only [NRM] at h29
                          exact SX.VC_ret fun α W _ _ hS => SX.ret_of hS (x := .int .i64 250) (by kernel_rfl) (by congr 1; first | (rw [Bod.Bd.chk, if_pos (by simp only [Bod.Bd.okB, Bod.Bd.baseB, Bod.Bd.capsB, Bod.inB, Bool.and_eq_true, decide_eq_true_eq]; have q : Bod.nameB b.name.data.toList = true := (by simpa using h18); simp only [q, true_and]; omega)]) | (rw [Bod.Bd.chk, if_neg (fun hk => by simp only [Bod.Bd.okB, Bod.Bd.baseB, Bod.Bd.capsB, Bod.inB, Bool.and_eq_true, decide_eq_true_eq] at hk; first | omega | (have q := h18; simp [hk.1.1.1.1.1] at q))]))
                        · try simp only [NRM] at h29
                          refine SX.VC_df (.bool (decide (b.recover > 1048576))) (by intro α; show _ = _; kernel_rfl) (by kernel_rfl) ?_
                          refine SX.VC_br (decide (b.recover > 1048576)) (by kernel_rfl) (fun h30 => ?_) (fun h30 => ?_)
                          · try simp only [NRM] at h30
                            exact SX.VC_ret fun α W _ _ hS => SX.ret_of hS (x := .int .i64 250) (by kernel_rfl) (by congr 1; first | (rw [Bod.Bd.chk, if_pos (by simp only [Bod.Bd.okB, Bod.Bd.baseB, Bod.Bd.capsB, Bod.inB, Bool.and_eq_true, decide_eq_true_eq]; have q : Bod.nameB b.name.data.toList = true := (by simpa using h18); simp only [q, true_and]; omega)]) | (rw [Bod.Bd.chk, if_neg (fun hk => by simp only [Bod.Bd.okB, Bod.Bd.baseB, Bod.Bd.capsB, Bod.inB, Bool.and_eq_true, decide_eq_true_eq] at hk; first | omega | (have q := h18; simp [hk.1.1.1.1.1] at q))]))
                          · try simp only [NRM] at h30
                            refine SX.VC_df (.bool (decide (b.t0 < 1))) (by intro α; show _ = _; kernel_rfl) (by kernel_rfl) ?_
                            refine SX.VC_br (decide (b.t0 < 1)) (by kernel_rfl) (fun h31 => ?_) (fun h31 => ?_)
                            · try simp only [NRM] at h31
                              exact SX.VC_ret fun α W _ _ hS => SX.ret_of hS (x := .int .i64 250) (by kernel_rfl) (by congr 1; first | (rw [Bod.Bd.chk, if_pos (by simp only [Bod.Bd.okB, Bod.Bd.baseB, Bod.Bd.capsB, Bod.inB, Bool.and_eq_true, decide_eq_true_eq]; have q : Bod.nameB b.name.data.toList = true := (by simpa using h18); simp only [q, true_and]; omega)]) | (rw [Bod.Bd.chk, if_neg (fun hk => by simp only [Bod.Bd.okB, Bod.Bd.baseB, Bod.Bd.capsB, Bod.inB, Bool.and_eq_true, decide_eq_true_eq] at hk; first | omega | (have q := h18; simp [hk.1.1.1.1.1] at q))]))
                            · try simp only [NRM] at h31
                              refine SX.VC_df (.bool (decide (b.t0 > 3))) (by intro α; show _ = _; kernel_rfl) (by kernel_rfl) ?_
                              refine SX.VC_br (decide (b.t0 > 3)) (by kernel_rfl) (fun h32 => ?_) (fun h32 => ?_)
                              · try simp only [NRM] at h32
                                exact SX.VC_ret fun α W _ _ hS => SX.ret_of hS (x := .int .i64 250) (by kernel_rfl) (by congr 1; first | (rw [Bod.Bd.chk, if_pos (by simp only [Bod.Bd.okB, Bod.Bd.baseB, Bod.Bd.capsB, Bod.inB, Bool.and_eq_true, decide_eq_true_eq]; have q : Bod.nameB b.name.data.toList = true := (by simpa using h18); simp only [q, true_and]; omega)]) | (rw [Bod.Bd.chk, if_neg (fun hk => by simp only [Bod.Bd.okB, Bod.Bd.baseB, Bod.Bd.capsB, Bod.inB, Bool.and_eq_true, decide_eq_true_eq] at hk; first | omega | (have q := h18; simp [hk.1.1.1.1.1] at q))]))
                              · try simp only [NRM] at h32
                                refine SX.VC_df (.bool (decide (b.t1 < 1))) (by intro α; show _ = _; kernel_rfl) (by kernel_rfl) ?_
                                refine SX.VC_br (decide (b.t1 < 1)) (by kernel_rfl) (fun h33 => ?_) (fun h33 => ?_)
                                · try simp only [NRM] at h33
                                  exact SX.VC_ret fun α W _ _ hS => SX.ret_of hS (x := .int .i64 250) (by kernel_rfl) (by congr 1; first | (rw [Bod.Bd.chk, if_pos (by simp only [Bod.Bd.okB, Bod.Bd.baseB, Bod.Bd.capsB, Bod.inB, Bool.and_eq_true, decide_eq_true_eq]; have q : Bod.nameB b.name.data.toList = true := (by simpa using h18); simp only [q, true_and]; omega)]) | (rw [Bod.Bd.chk, if_neg (fun hk => by simp only [Bod.Bd.okB, Bod.Bd.baseB, Bod.Bd.capsB, Bod.inB, Bool.and_eq_true, decide_eq_true_eq] at hk; first | omega | (have q := h18; simp [hk.1.1.1.1.1] at q))]))
                                · try simp only [NRM] at h33
                                  refine SX.VC_df (.bool (decide (b.t1 > 3))) (by intro α; show _ = _; kernel_rfl) (by kernel_rfl) ?_
                                  refine SX.VC_br (decide (b.t1 > 3)) (by kernel_rfl) (fun h34 => ?_) (fun h34 => ?_)
                                  · try simp only [NRM] at h34
                                    exact SX.VC_ret fun α W _ _ hS => SX.ret_of hS (x := .int .i64 250) (by kernel_rfl) (by congr 1; first | (rw [Bod.Bd.chk, if_pos (by simp only [Bod.Bd.okB, Bod.Bd.baseB, Bod.Bd.capsB, Bod.inB, Bool.and_eq_true, decide_eq_true_eq]; have q : Bod.nameB b.name.data.toList = true := (by simpa using h18); simp only [q, true_and]; omega)]) | (rw [Bod.Bd.chk, if_neg (fun hk => by simp only [Bod.Bd.okB, Bod.Bd.baseB, Bod.Bd.capsB, Bod.inB, Bool.and_eq_true, decide_eq_true_eq] at hk; first | omega | (have q := h18; simp [hk.1.1.1.1.1] at q))]))
                                  · try simp only [NRM] at h34
                                    refine SX.VC_df (.bool (decide (b.t2 < 1))) (by intro α; show _ = _; kernel_rfl) (by kernel_rfl) ?_
                                    refine SX.VC_br (decide (b.t2 < 1)) (by kernel_rfl) (fun h35 => ?_) (fun h35 => ?_)
                                    · try simp only [NRM] at h35
                                      exact SX.VC_ret fun α W _ _ hS => SX.ret_of hS (x := .int .i64 250) (by kernel_rfl) (by congr 1; first | (rw [Bod.Bd.chk, if_pos (by simp only [Bod.Bd.okB, Bod.Bd.baseB, Bod.Bd.capsB, Bod.inB, Bool.and_eq_true, decide_eq_true_eq]; have q : Bod.nameB b.name.data.toList = true := (by simpa using h18); simp only [q, true_and]; omega)]) | (rw [Bod.Bd.chk, if_neg (fun hk => by simp only [Bod.Bd.okB, Bod.Bd.baseB, Bod.Bd.capsB, Bod.inB, Bool.and_eq_true, decide_eq_true_eq] at hk; first | omega | (have q := h18; simp [hk.1.1.1.1.1] at q))]))
                                    · try simp only [NRM] at h35
                                      refine SX.VC_df (.bool (decide (b.t2 > 3))) (by intro α; show _ = _; kernel_rfl) (by kernel_rfl) ?_
                                      refine SX.VC_br (decide (b.t2 > 3)) (by kernel_rfl) (fun h36 => ?_) (fun h36 => ?_)
                                      · try simp only [NRM] at h36
                                        exact SX.VC_ret fun α W _ _ hS => SX.ret_of hS (x := .int .i64 250) (by kernel_rfl) (by congr 1; first | (rw [Bod.Bd.chk, if_pos (by simp only [Bod.Bd.okB, Bod.Bd.baseB, Bod.Bd.capsB, Bod.inB, Bool.and_eq_true, decide_eq_true_eq]; have q : Bod.nameB b.name.data.toList = true := (by simpa using h18); simp only [q, true_and]; omega)]) | (rw [Bod.Bd.chk, if_neg (fun hk => by simp only [Bod.Bd.okB, Bod.Bd.baseB, Bod.Bd.capsB, Bod.inB, Bool.and_eq_true, decide_eq_true_eq] at hk; first | omega | (have q := h18; simp [hk.1.1.1.1.1] at q))]))
                                      · try simp only [NRM] at h36
                                        refine SX.VC_df (.bool (decide (b.s0 < 1))) (by intro α; show _ = _; kernel_rfl) (by kernel_rfl) ?_
                                        refine SX.VC_br (decide (b.s0 < 1)) (by kernel_rfl) (fun h37 => ?_) (fun h37 => ?_)
                                        · try simp only [NRM] at h37
                                          exact SX.VC_ret fun α W _ _ hS => SX.ret_of hS (x := .int .i64 250) (by kernel_rfl) (by congr 1; first | (rw [Bod.Bd.chk, if_pos (by simp only [Bod.Bd.okB, Bod.Bd.baseB, Bod.Bd.capsB, Bod.inB, Bool.and_eq_true, decide_eq_true_eq]; have q : Bod.nameB b.name.data.toList = true := (by simpa using h18); simp only [q, true_and]; omega)]) | (rw [Bod.Bd.chk, if_neg (fun hk => by simp only [Bod.Bd.okB, Bod.Bd.baseB, Bod.Bd.capsB, Bod.inB, Bool.and_eq_true, decide_eq_true_eq] at hk; first | omega | (have q := h18; simp [hk.1.1.1.1.1] at q))]))
                                        · try simp only [NRM] at h37
                                          refine SX.VC_df (.bool (decide (b.s0 > 1048576))) (by intro α; show _ = _; kernel_rfl) (by kernel_rfl) ?_
                                          refine SX.VC_br (decide (b.s0 > 1048576)) (by kernel_rfl) (fun h38 => ?_) (fun h38 => ?_)
                                          · try simp only [NRM] at h38
                                            exact SX.VC_ret fun α W _ _ hS => SX.ret_of hS (x := .int .i64 250) (by kernel_rfl) (by congr 1; first | (rw [Bod.Bd.chk, if_pos (by simp only [Bod.Bd.okB, Bod.Bd.baseB, Bod.Bd.capsB, Bod.inB, Bool.and_eq_true, decide_eq_true_eq]; have q : Bod.nameB b.name.data.toList = true := (by simpa using h18); simp only [q, true_and]; omega)]) | (rw [Bod.Bd.chk, if_neg (fun hk => by simp only [Bod.Bd.okB, Bod.Bd.baseB, Bod.Bd.capsB, Bod.inB, Bool.and_eq_true, decide_eq_true_eq] at hk; first | omega | (have q := h18; simp [hk.1.1.1.1.1] at q))]))
                                          · try simp only [NRM] at h38
                                            refine SX.VC_df (.bool (decide (b.s1 < 1))) (by intro α; show _ = _; kernel_rfl) (by kernel_rfl) ?_
                                            refine SX.VC_br (decide (b.s1 < 1)) (by kernel_rfl) (fun h39 => ?_) (fun h39 => ?_)
                                            · try simp only [NRM] at h39
                                              exact SX.VC_ret fun α W _ _ hS => SX.ret_of hS (x := .int .i64 250) (by kernel_rfl) (by congr 1; first | (rw [Bod.Bd.chk, if_pos (by simp only [Bod.Bd.okB, Bod.Bd.baseB, Bod.Bd.capsB, Bod.inB, Bool.and_eq_true, decide_eq_true_eq]; have q : Bod.nameB b.name.data.toList = true := (by simpa using h18); simp only [q, true_and]; omega)]) | (rw [Bod.Bd.chk, if_neg (fun hk => by simp only [Bod.Bd.okB, Bod.Bd.baseB, Bod.Bd.capsB, Bod.inB, Bool.and_eq_true, decide_eq_true_eq] at hk; first | omega | (have q := h18; simp [hk.1.1.1.1.1] at q))]))
                                            · try simp only [NRM] at h39
                                              refine SX.VC_df (.bool (decide (b.s1 > 1048576))) (by intro α; show _ = _; kernel_rfl) (by kernel_rfl) ?_
                                              refine SX.VC_br (decide (b.s1 > 1048576)) (by kernel_rfl) (fun h40 => ?_) (fun h40 => ?_)
                                              · try simp only [NRM] at h40
                                                exact SX.VC_ret fun α W _ _ hS => SX.ret_of hS (x := .int .i64 250) (by kernel_rfl) (by congr 1; first | (rw [Bod.Bd.chk, if_pos (by simp only [Bod.Bd.okB, Bod.Bd.baseB, Bod.Bd.capsB, Bod.inB, Bool.and_eq_true, decide_eq_true_eq]; have q : Bod.nameB b.name.data.toList = true := (by simpa using h18); simp only [q, true_and]; omega)]) | (rw [Bod.Bd.chk, if_neg (fun hk => by simp only [Bod.Bd.okB, Bod.Bd.baseB, Bod.Bd.capsB, Bod.inB, Bool.and_eq_true, decide_eq_true_eq] at hk; first | omega | (have q := h18; simp [hk.1.1.1.1.1] at q))]))
                                              · try simp only [NRM] at h40
                                                refine SX.VC_df (.bool (decide (b.s2 < 1))) (by intro α; show _ = _; kernel_rfl) (by kernel_rfl) ?_
                                                refine SX.VC_br (decide (b.s2 < 1)) (by kernel_rfl) (fun h41 => ?_) (fun h41 => ?_)
                                                · try simp only [NRM] at h41
                                                  exact SX.VC_ret fun α W _ _ hS => SX.ret_of hS (x := .int .i64 250) (by kernel_rfl) (by congr 1; first | (rw [Bod.Bd.chk, if_pos (by simp only [Bod.Bd.okB, Bod.Bd.baseB, Bod.Bd.capsB, Bod.inB, Bool.and_eq_true, decide_eq_true_eq]; have q : Bod.nameB b.name.data.toList = true := (by simpa using h18); simp only [q, true_and]; omega)]) | (rw [Bod.Bd.chk, if_neg (fun hk => by simp only [Bod.Bd.okB, Bod.Bd.baseB, Bod.Bd.capsB, Bod.inB, Bool.and_eq_true, decide_eq_true_eq] at hk; first | omega | (have q := h18; simp [hk.1.1.1.1.1] at q))]))
                                                · try simp only [NRM] at h41
                                                  refine SX.VC_df (.bool (decide (b.s2 > 1048576))) (by intro α; show _ = _; kernel_rfl) (by kernel_rfl) ?_
                                                  refine SX.VC_br (decide (b.s2 > 1048576)) (by kernel_rfl) (fun h42 => ?_) (fun h42 => ?_)
                                                  · try simp only [NRM] at h42
                                                    exact SX.VC_ret fun α W _ _ hS => SX.ret_of hS (x := .int .i64 250) (by kernel_rfl) (by congr 1; first | (rw [Bod.Bd.chk, if_pos (by simp only [Bod.Bd.okB, Bod.Bd.baseB, Bod.Bd.capsB, Bod.inB, Bool.and_eq_true, decide_eq_true_eq]; have q : Bod.nameB b.name.data.toList = true := (by simpa using h18); simp only [q, true_and]; omega)]) | (rw [Bod.Bd.chk, if_neg (fun hk => by simp only [Bod.Bd.okB, Bod.Bd.baseB, Bod.Bd.capsB, Bod.inB, Bool.and_eq_true, decide_eq_true_eq] at hk; first | omega | (have q := h18; simp [hk.1.1.1.1.1] at q))]))
                                                  · try simp only [NRM] at h42
                                                    refine SX.VC_df (.bool (decide (b.step < 1))) (by intro α; show _ = _; kernel_rfl) (by kernel_rfl) ?_
                                                    refine SX.VC_br (decide (b.step < 1)) (by kernel_rfl) (fun h43 => ?_) (fun h43 => ?_)
                                                    · try simp only [NRM] at h43
                                                      exact SX.VC_ret fun α W _ _ hS => SX.ret_of hS (x := .int .i64 250) (by kernel_rfl) (by congr 1; first | (rw [Bod.Bd.chk, if_pos (by simp only [Bod.Bd.okB, Bod.Bd.baseB, Bod.Bd.capsB, Bod.inB, Bool.and_eq_true, decide_eq_true_eq]; have q : Bod.nameB b.name.data.toList = true := (by simpa using h18); simp only [q, true_and]; omega)]) | (rw [Bod.Bd.chk, if_neg (fun hk => by simp only [Bod.Bd.okB, Bod.Bd.baseB, Bod.Bd.capsB, Bod.inB, Bool.and_eq_true, decide_eq_true_eq] at hk; first | omega | (have q := h18; simp [hk.1.1.1.1.1] at q))]))
                                                    · try simp only [NRM] at h43
                                                      refine SX.VC_df (.bool (decide (b.step > 16))) (by intro α; show _ = _; kernel_rfl) (by kernel_rfl) ?_
                                                      refine SX.VC_br (decide (b.step > 16)) (by kernel_rfl) (fun h44 => ?_) (fun h44 => ?_)
                                                      · try simp only [NRM] at h44
                                                        exact SX.VC_ret fun α W _ _ hS => SX.ret_of hS (x := .int .i64 250) (by kernel_rfl) (by congr 1; first | (rw [Bod.Bd.chk, if_pos (by simp only [Bod.Bd.okB, Bod.Bd.baseB, Bod.Bd.capsB, Bod.inB, Bool.and_eq_true, decide_eq_true_eq]; have q : Bod.nameB b.name.data.toList = true := (by simpa using h18); simp only [q, true_and]; omega)]) | (rw [Bod.Bd.chk, if_neg (fun hk => by simp only [Bod.Bd.okB, Bod.Bd.baseB, Bod.Bd.capsB, Bod.inB, Bool.and_eq_true, decide_eq_true_eq] at hk; first | omega | (have q := h18; simp [hk.1.1.1.1.1] at q))]))
                                                      · try simp only [NRM] at h44
                                                        refine SX.VC_df (.bool (decide (b.jump < 0))) (by intro α; show _ = _; kernel_rfl) (by kernel_rfl) ?_
                                                        refine SX.VC_br (decide (b.jump < 0)) (by kernel_rfl) (fun h45 => ?_) (fun h45 => ?_)
                                                        · try simp only [NRM] at h45
                                                          exact SX.VC_ret fun α W _ _ hS => SX.ret_of hS (x := .int .i64 250) (by kernel_rfl) (by congr 1; first | (rw [Bod.Bd.chk, if_pos (by simp only [Bod.Bd.okB, Bod.Bd.baseB, Bod.Bd.capsB, Bod.inB, Bool.and_eq_true, decide_eq_true_eq]; have q : Bod.nameB b.name.data.toList = true := (by simpa using h18); simp only [q, true_and]; omega)]) | (rw [Bod.Bd.chk, if_neg (fun hk => by simp only [Bod.Bd.okB, Bod.Bd.baseB, Bod.Bd.capsB, Bod.inB, Bool.and_eq_true, decide_eq_true_eq] at hk; first | omega | (have q := h18; simp [hk.1.1.1.1.1] at q))]))
                                                        · try simp only [NRM] at h45
                                                          refine SX.VC_df (.bool (decide (b.jump > 16))) (by intro α; show _ = _; kernel_rfl) (by kernel_rfl) ?_
                                                          refine SX.VC_br (decide (b.jump > 16)) (by kernel_rfl) (fun h46 => ?_) (fun h46 => ?_)
                                                          · try simp only [NRM] at h46
                                                            exact SX.VC_ret fun α W _ _ hS => SX.ret_of hS (x := .int .i64 250) (by kernel_rfl) (by congr 1; first | (rw [Bod.Bd.chk, if_pos (by simp only [Bod.Bd.okB, Bod.Bd.baseB, Bod.Bd.capsB, Bod.inB, Bool.and_eq_true, decide_eq_true_eq]; have q : Bod.nameB b.name.data.toList = true := (by simpa using h18); simp only [q, true_and]; omega)]) | (rw [Bod.Bd.chk, if_neg (fun hk => by simp only [Bod.Bd.okB, Bod.Bd.baseB, Bod.Bd.capsB, Bod.inB, Bool.and_eq_true, decide_eq_true_eq] at hk; first | omega | (have q := h18; simp [hk.1.1.1.1.1] at q))]))
                                                          · try simp only [NRM] at h46
                                                            refine SX.VC_df (.bool (decide (b.lift < 0))) (by intro α; show _ = _; kernel_rfl) (by kernel_rfl) ?_
                                                            refine SX.VC_br (decide (b.lift < 0)) (by kernel_rfl) (fun h47 => ?_) (fun h47 => ?_)
                                                            · try simp only [NRM] at h47
                                                              exact SX.VC_ret fun α W _ _ hS => SX.ret_of hS (x := .int .i64 250) (by kernel_rfl) (by congr 1; first | (rw [Bod.Bd.chk, if_pos (by simp only [Bod.Bd.okB, Bod.Bd.baseB, Bod.Bd.capsB, Bod.inB, Bool.and_eq_true, decide_eq_true_eq]; have q : Bod.nameB b.name.data.toList = true := (by simpa using h18); simp only [q, true_and]; omega)]) | (rw [Bod.Bd.chk, if_neg (fun hk => by simp only [Bod.Bd.okB, Bod.Bd.baseB, Bod.Bd.capsB, Bod.inB, Bool.and_eq_true, decide_eq_true_eq] at hk; first | omega | (have q := h18; simp [hk.1.1.1.1.1] at q))]))
                                                            · try simp only [NRM] at h47
                                                              refine SX.VC_df (.bool (decide (b.lift > 500))) (by intro α; show _ = _; kernel_rfl) (by kernel_rfl) ?_
                                                              refine SX.VC_br (decide (b.lift > 500)) (by kernel_rfl) (fun h48 => ?_) (fun h48 => ?_)
                                                              · try simp only [NRM] at h48
                                                                exact SX.VC_ret fun α W _ _ hS => SX.ret_of hS (x := .int .i64 250) (by kernel_rfl) (by congr 1; first | (rw [Bod.Bd.chk, if_pos (by simp only [Bod.Bd.okB, Bod.Bd.baseB, Bod.Bd.capsB, Bod.inB, Bool.and_eq_true, decide_eq_true_eq]; have q : Bod.nameB b.name.data.toList = true := (by simpa using h18); simp only [q, true_and]; omega)]) | (rw [Bod.Bd.chk, if_neg (fun hk => by simp only [Bod.Bd.okB, Bod.Bd.baseB, Bod.Bd.capsB, Bod.inB, Bool.and_eq_true, decide_eq_true_eq] at hk; first | omega | (have q := h18; simp [hk.1.1.1.1.1] at q))]))
                                                              · try simp only [NRM] at h48
                                                                refine SX.VC_df (.bool (decide (b.effort < 0))) (by intro α; show _ = _; kernel_rfl) (by kernel_rfl) ?_
                                                                refine SX.VC_br (decide (b.effort < 0)) (by kernel_rfl) (fun h49 => ?_) (fun h49 => ?_)
                                                                · try simp only [NRM] at h49
                                                                  exact SX.VC_ret fun α W _ _ hS => SX.ret_of hS (x := .int .i64 250) (by kernel_rfl) (by congr 1; first | (rw [Bod.Bd.chk, if_pos (by simp only [Bod.Bd.okB, Bod.Bd.baseB, Bod.Bd.capsB, Bod.inB, Bool.and_eq_true, decide_eq_true_eq]; have q : Bod.nameB b.name.data.toList = true := (by simpa using h18); simp only [q, true_and]; omega)]) | (rw [Bod.Bd.chk, if_neg (fun hk => by simp only [Bod.Bd.okB, Bod.Bd.baseB, Bod.Bd.capsB, Bod.inB, Bool.and_eq_true, decide_eq_true_eq] at hk; first | omega | (have q := h18; simp [hk.1.1.1.1.1] at q))]))
                                                                · try simp only [NRM] at h49
                                                                  refine SX.VC_df (.bool (decide (b.effort > 1048576))) (by intro α; show _ = _; kernel_rfl) (by kernel_rfl) ?_
                                                                  refine SX.VC_br (decide (b.effort > 1048576)) (by kernel_rfl) (fun h50 => ?_) (fun h50 => ?_)
                                                                  · try simp only [NRM] at h50
                                                                    exact SX.VC_ret fun α W _ _ hS => SX.ret_of hS (x := .int .i64 250) (by kernel_rfl) (by congr 1; first | (rw [Bod.Bd.chk, if_pos (by simp only [Bod.Bd.okB, Bod.Bd.baseB, Bod.Bd.capsB, Bod.inB, Bool.and_eq_true, decide_eq_true_eq]; have q : Bod.nameB b.name.data.toList = true := (by simpa using h18); simp only [q, true_and]; omega)]) | (rw [Bod.Bd.chk, if_neg (fun hk => by simp only [Bod.Bd.okB, Bod.Bd.baseB, Bod.Bd.capsB, Bod.inB, Bool.and_eq_true, decide_eq_true_eq] at hk; first | omega | (have q := h18; simp [hk.1.1.1.1.1] at q))]))
                                                                  · try simp only [NRM] at h50
                                                                    exact SX.VC_ret fun α W _ _ hS => SX.ret_of hS (x := .int .i64 0) (by kernel_rfl) (by congr 1; first | (rw [Bod.Bd.chk, if_pos (by simp only [Bod.Bd.okB, Bod.Bd.baseB, Bod.Bd.capsB, Bod.inB, Bool.and_eq_true, decide_eq_true_eq]; have q : Bod.nameB b.name.data.toList = true := (by simpa using h18); simp only [q, true_and]; omega)]) | (rw [Bod.Bd.chk, if_neg (fun hk => by simp only [Bod.Bd.okB, Bod.Bd.baseB, Bod.Bd.capsB, Bod.inB, Bool.and_eq_true, decide_eq_true_eq] at hk; first | omega | (have q := h18; simp [hk.1.1.1.1.1] at q))]))
end Go.Proofs.Ytmkigejhgpoleaa
