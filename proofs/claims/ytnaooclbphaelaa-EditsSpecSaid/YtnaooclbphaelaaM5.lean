/-
  Texts behind the statement, part 5.
-/
import Derived.Test.YtnaooclbphaelaaM4
set_option linter.unusedSimpArgs false
set_option linter.unusedVariables false
namespace Go.Proofs.Ytnaooclbphaelaa
open Go Go.RowKit
def chgE (e : Ed) (k : Sg) : Sg × Bool :=
  if e.kind = 1 then (if inP e k then (mirrorS k, true) else (k, true))
  else if e.kind = 2 then (if inP e k ∧ 0 < k.dir then ({ k with dir := (k.dir - 1 + e.n) % 8 + 1 }, true) else (k, true))
  else if e.kind = 3 then (if e.to < k.bar then ({ k with bar := k.bar - (e.to - e.fr + 1) }, true) else (k, true))
  else if e.kind = 4 then (if e.fr ≤ k.bar then ({ k with bar := k.bar + e.n }, true) else (k, true))
  else if e.kind = 6 then (if e.fr ≤ k.bar ∧ k.bar ≤ e.to then ({ k with role := swapN k.role (e.role - 1) (e.other - 1), with_ := swapN k.with_ e.role e.other }, true) else (k, true))
  else if e.kind = 7 then (if inP e k then ({ k with fn := (mulS k.fn k.fd e.sn e.sd).1, fd := (mulS k.fn k.fd e.sn e.sd).2.1, tn := (mulS k.tn k.td e.sn e.sd).1, td := (mulS k.tn k.td e.sn e.sd).2.1 }, decide ((mulS k.fn k.fd e.sn e.sd).2.2 = 0) && decide ((mulS k.tn k.td e.sn e.sd).2.2 = 0)) else (k, true))
  else (k, true)
theorem okE_bd {e : Ed} (h : okE e) : -1 ≤ e.role ∧ e.role ≤ 64 ∧ 0 ≤ e.other ∧ e.other ≤ 64 ∧ 0 ≤ e.fr ∧ e.fr ≤ 4095 ∧ 0 ≤ e.to ∧ e.to ≤ 4095 ∧ 0 ≤ e.n ∧ e.n ≤ 4095 := by
  obtain ⟨h1, h2, h3, h4⟩ := h
  obtain ⟨k, a1, a2, a3, a4, a5, a6, a7, a8⟩ := e
  simp only at h1 h2
  have hk : k = 1 ∨ k = 2 ∨ k = 3 ∨ k = 4 ∨ k = 5 ∨ k = 6 ∨ k = 7 := by omega
  rcases hk with rfl | rfl | rfl | rfl | rfl | rfl | rfl <;>
    simp only [usesE, rightE, roleE, barsE, Ed.mk.injEq, if_true, if_false, reduceCtorEq, Int.reduceEq] at h3 h4 ⊢ <;> omega
theorem rem8b {x : Int} (h : 0 ≤ x) : SX.binV .rem (.int .i64 x) (.int .i64 8) = some (.int .i64 (x % 8)) := by
  simp only [SX.binV, if_true]
  rw [if_neg (by decide), Int.tmod_eq_emod_of_nonneg h]
def tree_rother : SX.Tree :=
(.df (.bin .eql 3) [(.q 0), (.q 1)] .one
(.br 3 []
(.ret (.q 2) [] [])
(.df (.bin .eql 3) [(.q 0), (.q 2)] .one
(.br 4 []
(.ret (.q 1) [] [])
(.ret (.q 0) [] [])))))
def args_rother : List SX.V := [.x 0 [], .x 1 [], .x 2 []]
set_option maxRecDepth 100000 in
theorem run_rother (K A : Value → Nat → List Value → Prop) : (SX.run (cx0 K A) ⟨fun f => true, [], 0, 100⟩ 100000 0 (SX.door 90 Try.f90 args_rother (List.replicate 3 .one)) [.code (Try.f90.body.getD .skip), .top Try.f90]).strip = tree_rother := by kernel_rfl
set_option maxRecDepth 100000 in
set_option maxHeartbeats 4000000 in
theorem rother_any (n a b : Int) (w : World)  : Calls Try.prog 90 #[.int .i64 n, .int .i64 a, .int .i64 b] w fun e w' => e = .returned (.int .i64 (swapN n a b)) ∧ Below w.heap.size w w' := by
  refine SX.calls_of_run (C := cx0 (fun _ _ _ => False) (fun _ _ _ => False)) (G := ⟨fun f => true, [], 0, 100⟩) (args := args_rother) (sh := (List.replicate 3 .one)) (ρ := [.int .i64 n, .int .i64 a, .int .i64 b]) 100000 tree_rother (cx0_ok _ _) Try.func90 rfl (run_rother _ _) (by kernel_rfl) (by kernel_rfl) (by kernel_rfl) ?_ ?_
  · exact fun W _ => SX.Kf_none (fun _ _ _ h => h) W
  unfold tree_rother
  refine SX.D (.bool ((n : Int) == a)) ?_
  refine SX.B ((n : Int) == a) (fun h3 => ?_) (fun h3 => ?_)
  · try simp only [NRM] at h3
    exact SX.F (.int .i64 b) (by unfold swapN; first | (rw [if_pos (by omega)]; done) | (rw [if_neg (by omega), if_pos (by omega)]; done) | (rw [if_neg (by omega), if_neg (by omega)]; done))
  try simp only [NRM] at h3
  refine SX.D (.bool ((n : Int) == b)) ?_
  refine SX.B ((n : Int) == b) (fun h4 => ?_) (fun h4 => ?_)
  · try simp only [NRM] at h4
    exact SX.F (.int .i64 a) (by unfold swapN; first | (rw [if_pos (by omega)]; done) | (rw [if_neg (by omega), if_pos (by omega)]; done) | (rw [if_neg (by omega), if_neg (by omega)]; done))
  try simp only [NRM] at h4
  exact SX.F (.int .i64 n) (by unfold swapN; first | (rw [if_pos (by omega)]; done) | (rw [if_neg (by omega), if_pos (by omega)]; done) | (rw [if_neg (by omega), if_neg (by omega)]; done))
def tree_rpass : SX.Tree :=
(.df (.bin .geq 3) [(.q 2), (.q 17)] .one
(.br 36 []
(.df (.bin .leq 3) [(.q 2), (.q 18)] .one
(.br 37 []
(.df (.bin .eql 3) [(.q 15), (.i 0)] .one
(.br 38 []
(.ret (.k (.bool true)) [] [])
(.df (.bin .sub 3) [(.q 15), (.i 1)] .one
(.df (.bin .eql 3) [(.q 1), (.q 39)] .one
(.ret (.q 40) [] [])))))
(.ret (.k (.bool false)) [] [])))
(.ret (.k (.bool false)) [] [])))
def args_rpass : List SX.V := [.a ((List.range 14).map fun j => .x j []), .a ((List.range 22).map fun j => .x (14+j) [])]
set_option maxRecDepth 100000 in
theorem run_rpass (K A : Value → Nat → List Value → Prop) : (SX.run (cx0 K A) ⟨fun f => true, [], 0, 100⟩ 100000 0 (SX.door 88 Try.f88 args_rpass (List.replicate 36 .one)) [.code (Try.f88.body.getD .skip), .top Try.f88]).strip = tree_rpass := by kernel_rfl
set_option maxRecDepth 100000 in
set_option maxHeartbeats 4000000 in
theorem rpass_any (k : Sg) (d : Ed) (w : World) (he : okE d) : Calls Try.prog 88 #[valSg k, valE d] w fun e w' => e = .returned (.bool (decide (inP d k))) ∧ Below w.heap.size w w' := by
  refine SX.calls_of_run (C := cx0 (fun _ _ _ => False) (fun _ _ _ => False)) (G := ⟨fun f => true, [], 0, 100⟩) (args := args_rpass) (sh := (List.replicate 36 .one)) (ρ := (cellsSg k ++ cellsE d)) 100000 tree_rpass (cx0_ok _ _) Try.func88 rfl (run_rpass _ _) (by kernel_rfl) (by kernel_rfl) (by kernel_rfl) ?_ ?_
  · exact fun W _ => SX.Kf_none (fun _ _ _ h => h) W
  have hbd := okE_bd he
  unfold tree_rpass
  refine SX.D (.bool (decide (k.bar ≥ d.fr))) ?_
  refine SX.B (decide (k.bar ≥ d.fr)) (fun h36 => ?_) (fun h36 => ?_)
  · try simp only [NRM] at h36
    refine SX.D (.bool (decide (k.bar ≤ d.to))) ?_
    refine SX.B (decide (k.bar ≤ d.to)) (fun h37 => ?_) (fun h37 => ?_)
    · try simp only [NRM] at h37
      refine SX.D (.bool ((d.role : Int) == 0)) ?_
      refine SX.B ((d.role : Int) == 0) (fun h38 => ?_) (fun h38 => ?_)
      · try simp only [NRM] at h38
        exact SX.F (.bool true) (by congr 1; rw [Bool.eq_iff_iff]; simp only [decide_eq_true_eq, Bool.false_eq_true, true_iff, false_iff, iff_true, iff_false, beq_iff_eq, inP]; omega)
      try simp only [NRM] at h38
      refine SX.E (.int .i64 (d.role - 1)) (fun α => SX.W (d.role - 1)) ?_
      refine SX.D (.bool ((k.role : Int) == d.role - 1)) ?_
      exact SX.F (.bool ((k.role : Int) == d.role - 1)) (by congr 1; rw [Bool.eq_iff_iff]; simp only [decide_eq_true_eq, Bool.false_eq_true, true_iff, false_iff, iff_true, iff_false, beq_iff_eq, inP]; omega)
    try simp only [NRM] at h37
    exact SX.F (.bool false) (by congr 1; rw [Bool.eq_iff_iff]; simp only [decide_eq_true_eq, Bool.false_eq_true, true_iff, false_iff, iff_true, iff_false, beq_iff_eq, inP]; omega)
  try simp only [NRM] at h36
  exact SX.F (.bool false) (by congr 1; rw [Bool.eq_iff_iff]; simp only [decide_eq_true_eq, Bool.false_eq_true, true_iff, false_iff, iff_true, iff_false, beq_iff_eq, inP]; omega)
def RV1 (f : FuncId) (xs : List SX.Arg) (v : Value) : Prop :=
  (f = 90 ∧ ∃ n a b : Int, xs = [⟨.int .i64 n, 0, []⟩, ⟨.int .i64 a, 0, []⟩, ⟨.int .i64 b, 0, []⟩] ∧ v = .int .i64 (swapN n a b))
def shpV1 : FuncId → Option SX.Sh := fun f => if f = 90 then some .one else none
noncomputable def cxV1 (K A : Value → Nat → List Value → Prop) : SX.Cx := { P := Try.prog, R := fun _ => RV1, shp := shpV1, K := K, A := A, trm := true }
theorem okV1 (K A : Value → Nat → List Value → Prop) : (cxV1 K A).Ok := by
  refine SX.Cx.ok_of (fun _ => rfl) ?_
  intro K f xs v W hR hrd hKf
  rcases hR with ⟨rfl, n, a, b, rfl, rfl⟩
  exact (rother_any n a b W).mono fun e w' h => SX.plainOk rfl h
def tree_rmirr : SX.Tree :=
(.df (.call 90 [.no, .no, .no]) [(.q 5), (.i 1), (.i 2)] .one
(.df (.bin .geq 3) [(.q 6), (.i 2)] .one
(.br 15 []
(.df (.bin .sub 3) [(.i 10), (.q 6)] .one
(.df (.bin .eql 3) [(.q 4), (.i 6)] .one
(.br 17 []
(.df (.bin .geq 3) [(.q 8), (.i 1)] .one
(.br 18 []
(.df (.bin .leq 3) [(.q 8), (.i 7)] .one
(.br 19 []
(.df (.bin .sub 3) [(.i 8), (.q 8)] .one
(.ret (.a (SX.Z 0 5 ++ [(.q 14), (.q 16), (.q 7), (.q 20)] ++ SX.Z 9 5)) [] []))
(.ret (.a (SX.Z 0 5 ++ [(.q 14), (.q 16)] ++ SX.Z 7 7)) [] [])))
(.ret (.a (SX.Z 0 5 ++ [(.q 14), (.q 16)] ++ SX.Z 7 7)) [] [])))
(.ret (.a (SX.Z 0 5 ++ [(.q 14), (.q 16)] ++ SX.Z 7 7)) [] []))))
(.df (.bin .eql 3) [(.q 4), (.i 6)] .one
(.br 16 []
(.df (.bin .geq 3) [(.q 8), (.i 1)] .one
(.br 17 []
(.df (.bin .leq 3) [(.q 8), (.i 7)] .one
(.br 18 []
(.df (.bin .sub 3) [(.i 8), (.q 8)] .one
(.ret (.a (SX.Z 0 5 ++ [(.q 14), (.q 6), (.q 7), (.q 19)] ++ SX.Z 9 5)) [] []))
(.ret (.a (SX.Z 0 5 ++ [(.q 14)] ++ SX.Z 6 8)) [] [])))
(.ret (.a (SX.Z 0 5 ++ [(.q 14)] ++ SX.Z 6 8)) [] [])))
(.ret (.a (SX.Z 0 5 ++ [(.q 14)] ++ SX.Z 6 8)) [] []))))))
def args_rmirr : List SX.V := [.a ((List.range 14).map fun j => .x j [])]
set_option maxRecDepth 100000 in
theorem run_rmirr (K A : Value → Nat → List Value → Prop) : (SX.run (cxV1 K A) ⟨fun f => true, [], 0, 100⟩ 100000 0 (SX.door 89 Try.f89 args_rmirr (List.replicate 14 .one)) [.code (Try.f89.body.getD .skip), .top Try.f89]).strip = tree_rmirr := by kernel_rfl
set_option maxRecDepth 100000 in
set_option maxHeartbeats 4000000 in
theorem rmirr_any (k : Sg) (w : World) (hk : k.ok) : Calls Try.prog 89 #[valSg k] w fun e w' => e = .returned (valSg (mirrorS k)) ∧ Below w.heap.size w w' := by
  refine SX.calls_of_run (C := cxV1 (fun _ _ _ => False) (fun _ _ _ => False)) (G := ⟨fun f => true, [], 0, 100⟩) (args := args_rmirr) (sh := (List.replicate 14 .one)) (ρ := (cellsSg k)) 100000 tree_rmirr (okV1 _ _) Try.func89 rfl (run_rmirr _ _) (by kernel_rfl) (by kernel_rfl) (by kernel_rfl) ?_ ?_
  · exact fun W _ => SX.Kf_none (fun _ _ _ h => h) W
  rw [Sg.ok_iff] at hk
  unfold tree_rmirr
  refine SX.E (.int .i64 ((swapN k.side 1 2))) (fun α => ⟨[⟨.int .i64 k.side, 0, []⟩, ⟨.int .i64 1, 0, []⟩, ⟨.int .i64 2, 0, []⟩], ⟨by kernel_rfl, by kernel_rfl, by kernel_rfl, by kernel_rfl, by kernel_rfl, by kernel_rfl, trivial⟩, ⟨rfl, _, _, _, rfl, rfl⟩, SX.noAli rfl⟩) ?_
  refine SX.D (.bool (decide (k.dir ≥ 2))) ?_
  refine SX.B (decide (k.dir ≥ 2)) (fun h15 => ?_) (fun h15 => ?_)
  · try simp only [NRM] at h15
    refine SX.E (.int .i64 (10 - k.dir)) (fun α => SX.W (10 - k.dir)) ?_
    refine SX.D (.bool ((k.kind : Int) == 6)) ?_
    refine SX.B ((k.kind : Int) == 6) (fun h17 => ?_) (fun h17 => ?_)
    · try simp only [NRM] at h17
      refine SX.D (.bool (decide (k.size ≥ 1))) ?_
      refine SX.B (decide (k.size ≥ 1)) (fun h18 => ?_) (fun h18 => ?_)
      · try simp only [NRM] at h18
        refine SX.D (.bool (decide (k.size ≤ 7))) ?_
        refine SX.B (decide (k.size ≤ 7)) (fun h19 => ?_) (fun h19 => ?_)
        · try simp only [NRM] at h19
          refine SX.E (.int .i64 (8 - k.size)) (fun α => SX.W (8 - k.size)) ?_
          exact SX.F (.agg #[.int .i64 k.id, .int .i64 k.role, .int .i64 k.bar, .int .i64 k.mark, .int .i64 k.kind, .int .i64 ((swapN k.side 1 2)), .int .i64 (10 - k.dir), .int .i64 k.level, .int .i64 (8 - k.size), .int .i64 k.with_, .int .i64 k.fn, .int .i64 k.fd, .int .i64 k.tn, .int .i64 k.td]) (by have hE : (⟨k.id, k.role, k.bar, k.mark, k.kind, (swapN k.side 1 2), 10 - k.dir, k.level, 8 - k.size, k.with_, k.fn, k.fd, k.tn, k.td⟩ : Sg) = mirrorS k := (by unfold mirrorS; congr 1 <;> first | rfl | (rw [if_pos (by omega)]; done) | (rw [if_neg (by omega)]; done)); exact congrArg valSg hE)
        try simp only [NRM] at h19
        exact SX.F (.agg #[.int .i64 k.id, .int .i64 k.role, .int .i64 k.bar, .int .i64 k.mark, .int .i64 k.kind, .int .i64 ((swapN k.side 1 2)), .int .i64 (10 - k.dir), .int .i64 k.level, .int .i64 k.size, .int .i64 k.with_, .int .i64 k.fn, .int .i64 k.fd, .int .i64 k.tn, .int .i64 k.td]) (by have hE : (⟨k.id, k.role, k.bar, k.mark, k.kind, (swapN k.side 1 2), 10 - k.dir, k.level, k.size, k.with_, k.fn, k.fd, k.tn, k.td⟩ : Sg) = mirrorS k := (by unfold mirrorS; congr 1 <;> first | rfl | (rw [if_pos (by omega)]; done) | (rw [if_neg (by omega)]; done)); exact congrArg valSg hE)
      try simp only [NRM] at h18
      exact SX.F (.agg #[.int .i64 k.id, .int .i64 k.role, .int .i64 k.bar, .int .i64 k.mark, .int .i64 k.kind, .int .i64 ((swapN k.side 1 2)), .int .i64 (10 - k.dir), .int .i64 k.level, .int .i64 k.size, .int .i64 k.with_, .int .i64 k.fn, .int .i64 k.fd, .int .i64 k.tn, .int .i64 k.td]) (by have hE : (⟨k.id, k.role, k.bar, k.mark, k.kind, (swapN k.side 1 2), 10 - k.dir, k.level, k.size, k.with_, k.fn, k.fd, k.tn, k.td⟩ : Sg) = mirrorS k := (by unfold mirrorS; congr 1 <;> first | rfl | (rw [if_pos (by omega)]; done) | (rw [if_neg (by omega)]; done)); exact congrArg valSg hE)
    try simp only [NRM] at h17
    exact SX.F (.agg #[.int .i64 k.id, .int .i64 k.role, .int .i64 k.bar, .int .i64 k.mark, .int .i64 k.kind, .int .i64 ((swapN k.side 1 2)), .int .i64 (10 - k.dir), .int .i64 k.level, .int .i64 k.size, .int .i64 k.with_, .int .i64 k.fn, .int .i64 k.fd, .int .i64 k.tn, .int .i64 k.td]) (by have hE : (⟨k.id, k.role, k.bar, k.mark, k.kind, (swapN k.side 1 2), 10 - k.dir, k.level, k.size, k.with_, k.fn, k.fd, k.tn, k.td⟩ : Sg) = mirrorS k := (by unfold mirrorS; congr 1 <;> first | rfl | (rw [if_pos (by omega)]; done) | (rw [if_neg (by omega)]; done)); exact congrArg valSg hE)
  try simp only [NRM] at h15
  refine SX.D (.bool ((k.kind : Int) == 6)) ?_
  refine SX.B ((k.kind : Int) == 6) (fun h16 => ?_) (fun h16 => ?_)
  · try simp only [NRM] at h16
    refine SX.D (.bool (decide (k.size ≥ 1))) ?_
    refine SX.B (decide (k.size ≥ 1)) (fun h17 => ?_) (fun h17 => ?_)
    · try simp only [NRM] at h17
      refine SX.D (.bool (decide (k.size ≤ 7))) ?_
      refine SX.B (decide (k.size ≤ 7)) (fun h18 => ?_) (fun h18 => ?_)
      · try simp only [NRM] at h18
        refine SX.E (.int .i64 (8 - k.size)) (fun α => SX.W (8 - k.size)) ?_
        exact SX.F (.agg #[.int .i64 k.id, .int .i64 k.role, .int .i64 k.bar, .int .i64 k.mark, .int .i64 k.kind, .int .i64 ((swapN k.side 1 2)), .int .i64 k.dir, .int .i64 k.level, .int .i64 (8 - k.size), .int .i64 k.with_, .int .i64 k.fn, .int .i64 k.fd, .int .i64 k.tn, .int .i64 k.td]) (by have hE : (⟨k.id, k.role, k.bar, k.mark, k.kind, (swapN k.side 1 2), k.dir, k.level, 8 - k.size, k.with_, k.fn, k.fd, k.tn, k.td⟩ : Sg) = mirrorS k := (by unfold mirrorS; congr 1 <;> first | rfl | (rw [if_pos (by omega)]; done) | (rw [if_neg (by omega)]; done)); exact congrArg valSg hE)
      try simp only [NRM] at h18
      exact SX.F (.agg #[.int .i64 k.id, .int .i64 k.role, .int .i64 k.bar, .int .i64 k.mark, .int .i64 k.kind, .int .i64 ((swapN k.side 1 2)), .int .i64 k.dir, .int .i64 k.level, .int .i64 k.size, .int .i64 k.with_, .int .i64 k.fn, .int .i64 k.fd, .int .i64 k.tn, .int .i64 k.td]) (by have hE : (⟨k.id, k.role, k.bar, k.mark, k.kind, (swapN k.side 1 2), k.dir, k.level, k.size, k.with_, k.fn, k.fd, k.tn, k.td⟩ : Sg) = mirrorS k := (by unfold mirrorS; congr 1 <;> first | rfl | (rw [if_pos (by omega)]; done) | (rw [if_neg (by omega)]; done)); exact congrArg valSg hE)
    try simp only [NRM] at h17
    exact SX.F (.agg #[.int .i64 k.id, .int .i64 k.role, .int .i64 k.bar, .int .i64 k.mark, .int .i64 k.kind, .int .i64 ((swapN k.side 1 2)), .int .i64 k.dir, .int .i64 k.level, .int .i64 k.size, .int .i64 k.with_, .int .i64 k.fn, .int .i64 k.fd, .int .i64 k.tn, .int .i64 k.td]) (by have hE : (⟨k.id, k.role, k.bar, k.mark, k.kind, (swapN k.side 1 2), k.dir, k.level, k.size, k.with_, k.fn, k.fd, k.tn, k.td⟩ : Sg) = mirrorS k := (by unfold mirrorS; congr 1 <;> first | rfl | (rw [if_pos (by omega)]; done) | (rw [if_neg (by omega)]; done)); exact congrArg valSg hE)
  try simp only [NRM] at h16
  exact SX.F (.agg #[.int .i64 k.id, .int .i64 k.role, .int .i64 k.bar, .int .i64 k.mark, .int .i64 k.kind, .int .i64 ((swapN k.side 1 2)), .int .i64 k.dir, .int .i64 k.level, .int .i64 k.size, .int .i64 k.with_, .int .i64 k.fn, .int .i64 k.fd, .int .i64 k.tn, .int .i64 k.td]) (by have hE : (⟨k.id, k.role, k.bar, k.mark, k.kind, (swapN k.side 1 2), k.dir, k.level, k.size, k.with_, k.fn, k.fd, k.tn, k.td⟩ : Sg) = mirrorS k := (by unfold mirrorS; congr 1 <;> first | rfl | (rw [if_pos (by omega)]; done) | (rw [if_neg (by omega)]; done)); exact congrArg valSg hE)
def RV2 (f : FuncId) (xs : List SX.Arg) (v : Value) : Prop :=
  (f = 90 ∧ ∃ n a b : Int, xs = [⟨.int .i64 n, 0, []⟩, ⟨.int .i64 a, 0, []⟩, ⟨.int .i64 b, 0, []⟩] ∧ v = .int .i64 (swapN n a b)) ∨
  (f = 89 ∧ ∃ k : Sg, xs = [⟨valSg k, 0, []⟩] ∧ k.ok ∧ v = valSg (mirrorS k)) ∨
  (f = 88 ∧ ∃ (k : Sg) (d : Ed), xs = [⟨valSg k, 0, []⟩, ⟨valE d, 0, []⟩] ∧ okE d ∧ v = .bool (decide (inP d k))) ∨
  (f = 91 ∧ ∃ an ad bn bd : Int, xs = [⟨.agg #[.int .i64 an, .int .i64 ad], 0, []⟩, ⟨.agg #[.int .i64 bn, .int .i64 bd], 0, []⟩] ∧ v = .tuple #[.agg #[.int .i64 (mulS an ad bn bd).1, .int .i64 (mulS an ad bn bd).2.1], .int .i64 (mulS an ad bn bd).2.2])
def shpV2 : FuncId → Option SX.Sh := fun f => if f = 90 then some .one else if f = 89 then some (.ag 14) else if f = 88 then some .one else if f = 91 then some (.tp [.ag 2, .one]) else none
noncomputable def cxV2 (K A : Value → Nat → List Value → Prop) : SX.Cx := { P := Try.prog, R := fun _ => RV2, shp := shpV2, K := K, A := A, trm := true }
theorem okV2 (K A : Value → Nat → List Value → Prop) : (cxV2 K A).Ok := by
  refine SX.Cx.ok_of (fun _ => rfl) ?_
  intro K f xs v W hR hrd hKf
  rcases hR with ⟨rfl, n, a, b, rfl, rfl⟩ | ⟨rfl, k, rfl, hk, rfl⟩ | ⟨rfl, k, d, rfl, he, rfl⟩ | ⟨rfl, an, ad, bn, bd, rfl, rfl⟩
  · exact (rother_any n a b W).mono fun e w' h => SX.plainOk rfl h
  · exact (rmirr_any k W hk).mono fun e w' h => SX.plainOk rfl h
  · exact (rpass_any k d W he).mono fun e w' h => SX.plainOk rfl h
  exact (rmul_any an ad bn bd W).mono fun e w' h => SX.plainOk rfl h
def tree_rchg : SX.Tree :=
(.df (.bin .geq 3) [(.q 2), (.q 17)] .one
(.br 36 []
(.df (.bin .leq 3) [(.q 2), (.q 18)] .one
(.df (.bin .eql 3) [(.q 14), (.i 1)] .one
(.br 38 []
(.df (.call 88 [.no, .no]) [(.a (SX.Z 0 14)), (.a (SX.Z 14 22))] .one
(.br 39 []
(.df (.call 89 [.no]) [(.a (SX.Z 0 14))] (.ag 14)
(.ret (.t [(.a (SX.Y 40 0 14)), (.k (.bool true))]) [] []))
(.ret (.t [(.a (SX.Z 0 14)), (.k (.bool true))]) [] [])))
(.df (.bin .eql 3) [(.q 14), (.i 2)] .one
(.br 39 []
(.df (.call 88 [.no, .no]) [(.a (SX.Z 0 14)), (.a (SX.Z 14 22))] .one
(.br 40 []
(.df (.bin .geq 3) [(.q 6), (.i 1)] .one
(.br 41 []
(.df (.bin .sub 3) [(.q 6), (.i 1)] .one
(.df (.bin .add 3) [(.q 42), (.q 19)] .one
(.df (.bin .rem 3) [(.q 43), (.i 8)] .one
(.df (.bin .add 3) [(.q 44), (.i 1)] .one
(.ret (.t [(.a (SX.Z 0 6 ++ [(.q 45)] ++ SX.Z 7 7)), (.k (.bool true))]) [] [])))))
(.ret (.t [(.a (SX.Z 0 14)), (.k (.bool true))]) [] [])))
(.ret (.t [(.a (SX.Z 0 14)), (.k (.bool true))]) [] [])))
(.df (.bin .eql 3) [(.q 14), (.i 3)] .one
(.br 40 []
(.df (.bin .gtr 3) [(.q 2), (.q 18)] .one
(.br 41 []
(.df (.bin .sub 3) [(.q 18), (.q 17)] .one
(.df (.bin .add 3) [(.q 42), (.i 1)] .one
(.df (.bin .sub 3) [(.q 2), (.q 43)] .one
(.ret (.t [(.a ([(.q 0), (.q 1), (.q 44)] ++ SX.Z 3 11)), (.k (.bool true))]) [] []))))
(.ret (.t [(.a (SX.Z 0 14)), (.k (.bool true))]) [] [])))
(.df (.bin .eql 3) [(.q 14), (.i 4)] .one
(.br 41 []
(.df (.bin .geq 3) [(.q 2), (.q 17)] .one
(.br 42 []
(.df (.bin .add 3) [(.q 2), (.q 19)] .one
(.ret (.t [(.a ([(.q 0), (.q 1), (.q 43)] ++ SX.Z 3 11)), (.k (.bool true))]) [] []))
(.ret (.t [(.a (SX.Z 0 14)), (.k (.bool true))]) [] [])))
(.df (.bin .eql 3) [(.q 14), (.i 6)] .one
(.br 42 []
(.br 37 []
(.df (.bin .sub 3) [(.q 15), (.i 1)] .one
(.df (.bin .sub 3) [(.q 16), (.i 1)] .one
(.df (.call 90 [.no, .no, .no]) [(.q 1), (.q 43), (.q 44)] .one
(.df (.call 90 [.no, .no, .no]) [(.q 9), (.q 15), (.q 16)] .one
(.ret (.t [(.a ([(.q 0), (.q 45)] ++ SX.Z 2 7 ++ [(.q 46)] ++ SX.Z 10 4)), (.k (.bool true))]) [] [])))))
(.ret (.t [(.a (SX.Z 0 14)), (.k (.bool true))]) [] []))
(.df (.bin .eql 3) [(.q 14), (.i 7)] .one
(.br 43 []
(.df (.call 88 [.no, .no]) [(.a (SX.Z 0 14)), (.a (SX.Z 14 22))] .one
(.br 44 []
(.df (.call 91 [.no, .no]) [(.a [(.q 10), (.q 11)]), (.a [(.q 20), (.q 21)])] (.tp [(.ag 2), .one])
(.df (.call 91 [.no, .no]) [(.a [(.q 12), (.q 13)]), (.a [(.q 20), (.q 21)])] (.tp [(.ag 2), .one])
(.df (.bin .eql 31) [(.x 45 [1]), (.i 0)] .one
(.br 47 []
(.df (.bin .eql 31) [(.x 46 [1]), (.i 0)] .one
(.ret (.t [(.a [(.q 0), (.q 1), (.q 2), (.q 3), (.q 4), (.q 5), (.q 6), (.q 7), (.q 8), (.q 9), (.x 45 [0, 0]), (.x 45 [0, 1]), (.x 46 [0, 0]), (.x 46 [0, 1])]), (.q 48)]) [] []))
(.ret (.t [(.a [(.q 0), (.q 1), (.q 2), (.q 3), (.q 4), (.q 5), (.q 6), (.q 7), (.q 8), (.q 9), (.x 45 [0, 0]), (.x 45 [0, 1]), (.x 46 [0, 0]), (.x 46 [0, 1])]), (.k (.bool false))]) [] [])))))
(.ret (.t [(.a (SX.Z 0 14)), (.k (.bool true))]) [] [])))
(.ret (.t [(.a (SX.Z 0 14)), (.k (.bool true))]) [] []))))))))))))))
(.df (.bin .eql 3) [(.q 14), (.i 1)] .one
(.br 37 []
(.df (.call 88 [.no, .no]) [(.a (SX.Z 0 14)), (.a (SX.Z 14 22))] .one
(.br 38 []
(.df (.call 89 [.no]) [(.a (SX.Z 0 14))] (.ag 14)
(.ret (.t [(.a (SX.Y 39 0 14)), (.k (.bool true))]) [] []))
(.ret (.t [(.a (SX.Z 0 14)), (.k (.bool true))]) [] [])))
(.df (.bin .eql 3) [(.q 14), (.i 2)] .one
(.br 38 []
(.df (.call 88 [.no, .no]) [(.a (SX.Z 0 14)), (.a (SX.Z 14 22))] .one
(.br 39 []
(.df (.bin .geq 3) [(.q 6), (.i 1)] .one
(.br 40 []
(.df (.bin .sub 3) [(.q 6), (.i 1)] .one
(.df (.bin .add 3) [(.q 41), (.q 19)] .one
(.df (.bin .rem 3) [(.q 42), (.i 8)] .one
(.df (.bin .add 3) [(.q 43), (.i 1)] .one
(.ret (.t [(.a (SX.Z 0 6 ++ [(.q 44)] ++ SX.Z 7 7)), (.k (.bool true))]) [] [])))))
(.ret (.t [(.a (SX.Z 0 14)), (.k (.bool true))]) [] [])))
(.ret (.t [(.a (SX.Z 0 14)), (.k (.bool true))]) [] [])))
(.df (.bin .eql 3) [(.q 14), (.i 3)] .one
(.br 39 []
(.df (.bin .gtr 3) [(.q 2), (.q 18)] .one
(.br 40 []
(.df (.bin .sub 3) [(.q 18), (.q 17)] .one
(.df (.bin .add 3) [(.q 41), (.i 1)] .one
(.df (.bin .sub 3) [(.q 2), (.q 42)] .one
(.ret (.t [(.a ([(.q 0), (.q 1), (.q 43)] ++ SX.Z 3 11)), (.k (.bool true))]) [] []))))
(.ret (.t [(.a (SX.Z 0 14)), (.k (.bool true))]) [] [])))
(.df (.bin .eql 3) [(.q 14), (.i 4)] .one
(.br 40 []
(.df (.bin .geq 3) [(.q 2), (.q 17)] .one
(.br 41 []
(.df (.bin .add 3) [(.q 2), (.q 19)] .one
(.ret (.t [(.a ([(.q 0), (.q 1), (.q 42)] ++ SX.Z 3 11)), (.k (.bool true))]) [] []))
(.ret (.t [(.a (SX.Z 0 14)), (.k (.bool true))]) [] [])))
(.df (.bin .eql 3) [(.q 14), (.i 6)] .one
(.br 41 []
(.ret (.t [(.a (SX.Z 0 14)), (.k (.bool true))]) [] [])
(.df (.bin .eql 3) [(.q 14), (.i 7)] .one
(.br 42 []
(.df (.call 88 [.no, .no]) [(.a (SX.Z 0 14)), (.a (SX.Z 14 22))] .one
(.br 43 []
(.df (.call 91 [.no, .no]) [(.a [(.q 10), (.q 11)]), (.a [(.q 20), (.q 21)])] (.tp [(.ag 2), .one])
(.df (.call 91 [.no, .no]) [(.a [(.q 12), (.q 13)]), (.a [(.q 20), (.q 21)])] (.tp [(.ag 2), .one])
(.df (.bin .eql 31) [(.x 44 [1]), (.i 0)] .one
(.br 46 []
(.df (.bin .eql 31) [(.x 45 [1]), (.i 0)] .one
(.ret (.t [(.a [(.q 0), (.q 1), (.q 2), (.q 3), (.q 4), (.q 5), (.q 6), (.q 7), (.q 8), (.q 9), (.x 44 [0, 0]), (.x 44 [0, 1]), (.x 45 [0, 0]), (.x 45 [0, 1])]), (.q 47)]) [] []))
(.ret (.t [(.a [(.q 0), (.q 1), (.q 2), (.q 3), (.q 4), (.q 5), (.q 6), (.q 7), (.q 8), (.q 9), (.x 44 [0, 0]), (.x 44 [0, 1]), (.x 45 [0, 0]), (.x 45 [0, 1])]), (.k (.bool false))]) [] [])))))
(.ret (.t [(.a (SX.Z 0 14)), (.k (.bool true))]) [] [])))
(.ret (.t [(.a (SX.Z 0 14)), (.k (.bool true))]) [] [])))))))))))))))
def args_rchg : List SX.V := [.a ((List.range 14).map fun j => .x j []), .a ((List.range 22).map fun j => .x (14+j) [])]
set_option maxRecDepth 100000 in
theorem run_rchg (K A : Value → Nat → List Value → Prop) : (SX.run (cxV2 K A) ⟨fun f => true, [], 0, 100⟩ 100000 0 (SX.door 36 Try.f36 args_rchg (List.replicate 36 .one)) [.code (Try.f36.body.getD .skip), .top Try.f36]).strip = tree_rchg := by kernel_rfl
set_option maxRecDepth 100000 in
set_option maxHeartbeats 4000000 in
theorem rchg_any (k : Sg) (d : Ed) (w : World) (hk : k.ok) (he : okE d) : Calls Try.prog 36 #[valSg k, valE d] w fun e w' => e = .returned (.tuple #[valSg (chgE d k).1, .bool (chgE d k).2]) ∧ Below w.heap.size w w' := by
  refine SX.calls_of_run (C := cxV2 (fun _ _ _ => False) (fun _ _ _ => False)) (G := ⟨fun f => true, [], 0, 100⟩) (args := args_rchg) (sh := (List.replicate 36 .one)) (ρ := (cellsSg k ++ cellsE d)) 100000 tree_rchg (okV2 _ _) Try.func36 rfl (run_rchg _ _) (by kernel_rfl) (by kernel_rfl) (by kernel_rfl) ?_ ?_
  · exact fun W _ => SX.Kf_none (fun _ _ _ h => h) W
  have hbd := okE_bd he
  have zb := Sg.ok_iff.1 hk
  obtain ⟨⟨z1, z2⟩, ⟨z3, z4⟩, ⟨z5, z6⟩, ⟨z7, z8⟩, ⟨z9, z10⟩, ⟨z11, z12⟩, ⟨z13, z14⟩, ⟨z15, z16⟩, ⟨z17, z18⟩, ⟨z19, z20⟩, z21⟩ := zb
  unfold tree_rchg
  refine SX.D (.bool (decide (k.bar ≥ d.fr))) ?_
  refine SX.B (decide (k.bar ≥ d.fr)) (fun h36 => ?_) (fun h36 => ?_)
  · try simp only [NRM] at h36
    refine SX.D (.bool (decide (k.bar ≤ d.to))) ?_
    refine SX.D (.bool ((d.kind : Int) == 1)) ?_
    refine SX.B ((d.kind : Int) == 1) (fun h38 => ?_) (fun h38 => ?_)
    · try simp only [NRM] at h38
      refine SX.E (.bool (decide (inP d k))) (fun α => ⟨[⟨valSg k, 0, []⟩, ⟨valE d, 0, []⟩], ⟨by kernel_rfl, by kernel_rfl, by kernel_rfl, by kernel_rfl, trivial⟩, .inr (.inr (.inl ⟨rfl, k, d, rfl, he, rfl⟩)), SX.noAli rfl⟩) ?_
      refine SX.B (decide (inP d k)) (fun h39 => ?_) (fun h39 => ?_)
      · try simp only [NRM] at h39
        refine SX.E ((valSg ((mirrorS k)))) (fun α => ⟨[⟨valSg k, 0, []⟩], ⟨by kernel_rfl, by kernel_rfl, trivial⟩, .inr (.inl ⟨rfl, k, rfl, hk, rfl⟩), SX.noAli rfl⟩) ?_
        exact SX.F (.tuple #[.agg #[.int .i64 ((mirrorS k).id), .int .i64 ((mirrorS k).role), .int .i64 ((mirrorS k).bar), .int .i64 ((mirrorS k).mark), .int .i64 ((mirrorS k).kind), .int .i64 ((mirrorS k).side), .int .i64 ((mirrorS k).dir), .int .i64 ((mirrorS k).level), .int .i64 ((mirrorS k).size), .int .i64 ((mirrorS k).with_), .int .i64 ((mirrorS k).fn), .int .i64 ((mirrorS k).fd), .int .i64 ((mirrorS k).tn), .int .i64 ((mirrorS k).td)], .bool true]) (by have hE : chgE d k = ((⟨(mirrorS k).id, (mirrorS k).role, (mirrorS k).bar, (mirrorS k).mark, (mirrorS k).kind, (mirrorS k).side, (mirrorS k).dir, (mirrorS k).level, (mirrorS k).size, (mirrorS k).with_, (mirrorS k).fn, (mirrorS k).fd, (mirrorS k).tn, (mirrorS k).td⟩ : Sg), true) := (by unfold chgE; simp only [inP] at *; (repeat' split) <;> first | rfl | (exfalso; omega) | (simp_all; done) | (refine Prod.ext rfl ?_; show (_ && _) = _ ; rw [Bool.eq_iff_iff, Bool.and_eq_true, decide_eq_true_eq, decide_eq_true_eq, beq_iff_eq]; exact ⟨fun h => h.2, fun h => ⟨by assumption, h⟩⟩) | (exfalso; simp_all; omega) | (simp_all; omega)); exact congrArg (fun p : Sg × Bool => Value.tuple #[valSg p.1, .bool p.2]) hE.symm)
      try simp only [NRM] at h39
      exact SX.F (.tuple #[.agg #[.int .i64 k.id, .int .i64 k.role, .int .i64 k.bar, .int .i64 k.mark, .int .i64 k.kind, .int .i64 k.side, .int .i64 k.dir, .int .i64 k.level, .int .i64 k.size, .int .i64 k.with_, .int .i64 k.fn, .int .i64 k.fd, .int .i64 k.tn, .int .i64 k.td], .bool true]) (by have hE : chgE d k = ((⟨k.id, k.role, k.bar, k.mark, k.kind, k.side, k.dir, k.level, k.size, k.with_, k.fn, k.fd, k.tn, k.td⟩ : Sg), true) := (by unfold chgE; simp only [inP] at *; (repeat' split) <;> first | rfl | (exfalso; omega) | (simp_all; done) | (refine Prod.ext rfl ?_; show (_ && _) = _ ; rw [Bool.eq_iff_iff, Bool.and_eq_true, decide_eq_true_eq, decide_eq_true_eq, beq_iff_eq]; exact ⟨fun h => h.2, fun h => ⟨by assumption, h⟩⟩) | (exfalso; simp_all; omega) | (simp_all; omega)); exact congrArg (fun p : Sg × Bool => Value.tuple #[valSg p.1, .bool p.2]) hE.symm)
    try simp only [NRM] at h38
    refine SX.D (.bool ((d.kind : Int) == 2)) ?_
    refine SX.B ((d.kind : Int) == 2) (fun h39 => ?_) (fun h39 => ?_)
    · try simp only [NRM] at h39
      refine SX.E (.bool (decide (inP d k))) (fun α => ⟨[⟨valSg k, 0, []⟩, ⟨valE d, 0, []⟩], ⟨by kernel_rfl, by kernel_rfl, by kernel_rfl, by kernel_rfl, trivial⟩, .inr (.inr (.inl ⟨rfl, k, d, rfl, he, rfl⟩)), SX.noAli rfl⟩) ?_
      refine SX.B (decide (inP d k)) (fun h40 => ?_) (fun h40 => ?_)
      · try simp only [NRM] at h40
        refine SX.D (.bool (decide (k.dir ≥ 1))) ?_
        refine SX.B (decide (k.dir ≥ 1)) (fun h41 => ?_) (fun h41 => ?_)
        · try simp only [NRM] at h41
          refine SX.E (.int .i64 (k.dir - 1)) (fun α => SX.W (k.dir - 1)) ?_
          refine SX.E (.int .i64 ((k.dir - 1) + d.n)) (fun α => SX.W ((k.dir - 1) + d.n)) ?_
          refine SX.E (.int .i64 (((k.dir - 1) + d.n) % 8)) (fun α => Eq.trans (b := SX.binV .rem (.int .i64 ((k.dir - 1) + d.n)) (.int .i64 8)) (by kernel_rfl) (rem8b (by omega))) ?_
          refine SX.E (.int .i64 ((((k.dir - 1) + d.n) % 8) + 1)) (fun α => Eq.trans (b := some (.int .i64 (IntKind.i64.wrap ((((k.dir - 1) + d.n) % 8) + 1)))) (by kernel_rfl) (by rw [wrap_i64 (by omega) (by omega)])) ?_
          exact SX.F (.tuple #[.agg #[.int .i64 k.id, .int .i64 k.role, .int .i64 k.bar, .int .i64 k.mark, .int .i64 k.kind, .int .i64 k.side, .int .i64 ((((k.dir - 1) + d.n) % 8) + 1), .int .i64 k.level, .int .i64 k.size, .int .i64 k.with_, .int .i64 k.fn, .int .i64 k.fd, .int .i64 k.tn, .int .i64 k.td], .bool true]) (by have hE : chgE d k = ((⟨k.id, k.role, k.bar, k.mark, k.kind, k.side, (((k.dir - 1) + d.n) % 8) + 1, k.level, k.size, k.with_, k.fn, k.fd, k.tn, k.td⟩ : Sg), true) := (by unfold chgE; simp only [inP] at *; (repeat' split) <;> first | rfl | (exfalso; omega) | (simp_all; done) | (refine Prod.ext rfl ?_; show (_ && _) = _ ; rw [Bool.eq_iff_iff, Bool.and_eq_true, decide_eq_true_eq, decide_eq_true_eq, beq_iff_eq]; exact ⟨fun h => h.2, fun h => ⟨by assumption, h⟩⟩) | (exfalso; simp_all; omega) | (simp_all; omega)); exact congrArg (fun p : Sg × Bool => Value.tuple #[valSg p.1, .bool p.2]) hE.symm)
        try simp only [NRM] at h41
        exact SX.F (.tuple #[.agg #[.int .i64 k.id, .int .i64 k.role, .int .i64 k.bar, .int .i64 k.mark, .int .i64 k.kind, .int .i64 k.side, .int .i64 k.dir, .int .i64 k.level, .int .i64 k.size, .int .i64 k.with_, .int .i64 k.fn, .int .i64 k.fd, .int .i64 k.tn, .int .i64 k.td], .bool true]) (by have hE : chgE d k = ((⟨k.id, k.role, k.bar, k.mark, k.kind, k.side, k.dir, k.level, k.size, k.with_, k.fn, k.fd, k.tn, k.td⟩ : Sg), true) := (by unfold chgE; simp only [inP] at *; (repeat' split) <;> first | rfl | (exfalso; omega) | (simp_all; done) | (refine Prod.ext rfl ?_; show (_ && _) = _ ; rw [Bool.eq_iff_iff, Bool.and_eq_true, decide_eq_true_eq, decide_eq_true_eq, beq_iff_eq]; exact ⟨fun h => h.2, fun h => ⟨by assumption, h⟩⟩) | (exfalso; simp_all; omega) | (simp_all; omega)); exact congrArg (fun p : Sg × Bool => Value.tuple #[valSg p.1, .bool p.2]) hE.symm)
      try simp only [NRM] at h40
      exact SX.F (.tuple #[.agg #[.int .i64 k.id, .int .i64 k.role, .int .i64 k.bar, .int .i64 k.mark, .int .i64 k.kind, .int .i64 k.side, .int .i64 k.dir, .int .i64 k.level, .int .i64 k.size, .int .i64 k.with_, .int .i64 k.fn, .int .i64 k.fd, .int .i64 k.tn, .int .i64 k.td], .bool true]) (by have hE : chgE d k = ((⟨k.id, k.role, k.bar, k.mark, k.kind, k.side, k.dir, k.level, k.size, k.with_, k.fn, k.fd, k.tn, k.td⟩ : Sg), true) := (by unfold chgE; simp only [inP] at *; (repeat' split) <;> first | rfl | (exfalso; omega) | (simp_all; done) | (refine Prod.ext rfl ?_; show (_ && _) = _ ; rw [Bool.eq_iff_iff, Bool.and_eq_true, decide_eq_true_eq, decide_eq_true_eq, beq_iff_eq]; exact ⟨fun h => h.2, fun h => ⟨by assumption, h⟩⟩) | (exfalso; simp_all; omega) | (simp_all; omega)); exact congrArg (fun p : Sg × Bool => Value.tuple #[valSg p.1, .bool p.2]) hE.symm)
    try simp only [NRM] at h39
    refine SX.D (.bool ((d.kind : Int) == 3)) ?_
    refine SX.B ((d.kind : Int) == 3) (fun h40 => ?_) (fun h40 => ?_)
    · try simp only [NRM] at h40
      refine SX.D (.bool (decide (k.bar > d.to))) ?_
      refine SX.B (decide (k.bar > d.to)) (fun h41 => ?_) (fun h41 => ?_)
      · try simp only [NRM] at h41
        refine SX.E (.int .i64 (d.to - d.fr)) (fun α => SX.W (d.to - d.fr)) ?_
        refine SX.E (.int .i64 ((d.to - d.fr) + 1)) (fun α => SX.W ((d.to - d.fr) + 1)) ?_
        refine SX.E (.int .i64 (k.bar - ((d.to - d.fr) + 1))) (fun α => SX.W (k.bar - ((d.to - d.fr) + 1))) ?_
        exact SX.F (.tuple #[.agg #[.int .i64 k.id, .int .i64 k.role, .int .i64 (k.bar - ((d.to - d.fr) + 1)), .int .i64 k.mark, .int .i64 k.kind, .int .i64 k.side, .int .i64 k.dir, .int .i64 k.level, .int .i64 k.size, .int .i64 k.with_, .int .i64 k.fn, .int .i64 k.fd, .int .i64 k.tn, .int .i64 k.td], .bool true]) (by have hE : chgE d k = ((⟨k.id, k.role, k.bar - ((d.to - d.fr) + 1), k.mark, k.kind, k.side, k.dir, k.level, k.size, k.with_, k.fn, k.fd, k.tn, k.td⟩ : Sg), true) := (by unfold chgE; simp only [inP] at *; (repeat' split) <;> first | rfl | (exfalso; omega) | (simp_all; done) | (refine Prod.ext rfl ?_; show (_ && _) = _ ; rw [Bool.eq_iff_iff, Bool.and_eq_true, decide_eq_true_eq, decide_eq_true_eq, beq_iff_eq]; exact ⟨fun h => h.2, fun h => ⟨by assumption, h⟩⟩) | (exfalso; simp_all; omega) | (simp_all; omega)); exact congrArg (fun p : Sg × Bool => Value.tuple #[valSg p.1, .bool p.2]) hE.symm)
      try simp only [NRM] at h41
      exact SX.F (.tuple #[.agg #[.int .i64 k.id, .int .i64 k.role, .int .i64 k.bar, .int .i64 k.mark, .int .i64 k.kind, .int .i64 k.side, .int .i64 k.dir, .int .i64 k.level, .int .i64 k.size, .int .i64 k.with_, .int .i64 k.fn, .int .i64 k.fd, .int .i64 k.tn, .int .i64 k.td], .bool true]) (by have hE : chgE d k = ((⟨k.id, k.role, k.bar, k.mark, k.kind, k.side, k.dir, k.level, k.size, k.with_, k.fn, k.fd, k.tn, k.td⟩ : Sg), true) := (by unfold chgE; simp only [inP] at *; (repeat' split) <;> first | rfl | (exfalso; omega) | (simp_all; done) | (refine Prod.ext rfl ?_; show (_ && _) = _ ; rw [Bool.eq_iff_iff, Bool.and_eq_true, decide_eq_true_eq, decide_eq_true_eq, beq_iff_eq]; exact ⟨fun h => h.2, fun h => ⟨by assumption, h⟩⟩) | (exfalso; simp_all; omega) | (simp_all; omega)); exact congrArg (fun p : Sg × Bool => Value.tuple #[valSg p.1, .bool p.2]) hE.symm)
    try simp only [NRM] at h40
    refine SX.D (.bool ((d.kind : Int) == 4)) ?_
    refine SX.B ((d.kind : Int) == 4) (fun h41 => ?_) (fun h41 => ?_)
    · try simp only [NRM] at h41
      refine SX.D (.bool (decide (k.bar ≥ d.fr))) ?_
      refine SX.B (decide (k.bar ≥ d.fr)) (fun h42 => ?_) (fun h42 => ?_)
      · try simp only [NRM] at h42
        refine SX.E (.int .i64 (k.bar + d.n)) (fun α => SX.W (k.bar + d.n)) ?_
        exact SX.F (.tuple #[.agg #[.int .i64 k.id, .int .i64 k.role, .int .i64 (k.bar + d.n), .int .i64 k.mark, .int .i64 k.kind, .int .i64 k.side, .int .i64 k.dir, .int .i64 k.level, .int .i64 k.size, .int .i64 k.with_, .int .i64 k.fn, .int .i64 k.fd, .int .i64 k.tn, .int .i64 k.td], .bool true]) (by have hE : chgE d k = ((⟨k.id, k.role, k.bar + d.n, k.mark, k.kind, k.side, k.dir, k.level, k.size, k.with_, k.fn, k.fd, k.tn, k.td⟩ : Sg), true) := (by unfold chgE; simp only [inP] at *; (repeat' split) <;> first | rfl | (exfalso; omega) | (simp_all; done) | (refine Prod.ext rfl ?_; show (_ && _) = _ ; rw [Bool.eq_iff_iff, Bool.and_eq_true, decide_eq_true_eq, decide_eq_true_eq, beq_iff_eq]; exact ⟨fun h => h.2, fun h => ⟨by assumption, h⟩⟩) | (exfalso; simp_all; omega) | (simp_all; omega)); exact congrArg (fun p : Sg × Bool => Value.tuple #[valSg p.1, .bool p.2]) hE.symm)
      try simp only [NRM] at h42
      exact SX.F (.tuple #[.agg #[.int .i64 k.id, .int .i64 k.role, .int .i64 k.bar, .int .i64 k.mark, .int .i64 k.kind, .int .i64 k.side, .int .i64 k.dir, .int .i64 k.level, .int .i64 k.size, .int .i64 k.with_, .int .i64 k.fn, .int .i64 k.fd, .int .i64 k.tn, .int .i64 k.td], .bool true]) (by have hE : chgE d k = ((⟨k.id, k.role, k.bar, k.mark, k.kind, k.side, k.dir, k.level, k.size, k.with_, k.fn, k.fd, k.tn, k.td⟩ : Sg), true) := (by unfold chgE; simp only [inP] at *; (repeat' split) <;> first | rfl | (exfalso; omega) | (simp_all; done) | (refine Prod.ext rfl ?_; show (_ && _) = _ ; rw [Bool.eq_iff_iff, Bool.and_eq_true, decide_eq_true_eq, decide_eq_true_eq, beq_iff_eq]; exact ⟨fun h => h.2, fun h => ⟨by assumption, h⟩⟩) | (exfalso; simp_all; omega) | (simp_all; omega)); exact congrArg (fun p : Sg × Bool => Value.tuple #[valSg p.1, .bool p.2]) hE.symm)
    try simp only [NRM] at h41
    refine SX.D (.bool ((d.kind : Int) == 6)) ?_
    refine SX.B ((d.kind : Int) == 6) (fun h42 => ?_) (fun h42 => ?_)
    · try simp only [NRM] at h42
      refine SX.B (decide (k.bar ≤ d.to)) (fun h37 => ?_) (fun h37 => ?_)
      · try simp only [NRM] at h37
        refine SX.E (.int .i64 (d.role - 1)) (fun α => SX.W (d.role - 1)) ?_
        refine SX.E (.int .i64 (d.other - 1)) (fun α => SX.W (d.other - 1)) ?_
        refine SX.E (.int .i64 ((swapN k.role (d.role - 1) (d.other - 1)))) (fun α => ⟨[⟨.int .i64 k.role, 0, []⟩, ⟨.int .i64 (d.role - 1), 0, []⟩, ⟨.int .i64 (d.other - 1), 0, []⟩], ⟨by kernel_rfl, by kernel_rfl, by kernel_rfl, by kernel_rfl, by kernel_rfl, by kernel_rfl, trivial⟩, .inl ⟨rfl, _, _, _, rfl, rfl⟩, SX.noAli rfl⟩) ?_
        refine SX.E (.int .i64 ((swapN k.with_ d.role d.other))) (fun α => ⟨[⟨.int .i64 k.with_, 0, []⟩, ⟨.int .i64 d.role, 0, []⟩, ⟨.int .i64 d.other, 0, []⟩], ⟨by kernel_rfl, by kernel_rfl, by kernel_rfl, by kernel_rfl, by kernel_rfl, by kernel_rfl, trivial⟩, .inl ⟨rfl, _, _, _, rfl, rfl⟩, SX.noAli rfl⟩) ?_
        exact SX.F (.tuple #[.agg #[.int .i64 k.id, .int .i64 ((swapN k.role (d.role - 1) (d.other - 1))), .int .i64 k.bar, .int .i64 k.mark, .int .i64 k.kind, .int .i64 k.side, .int .i64 k.dir, .int .i64 k.level, .int .i64 k.size, .int .i64 ((swapN k.with_ d.role d.other)), .int .i64 k.fn, .int .i64 k.fd, .int .i64 k.tn, .int .i64 k.td], .bool true]) (by have hE : chgE d k = ((⟨k.id, (swapN k.role (d.role - 1) (d.other - 1)), k.bar, k.mark, k.kind, k.side, k.dir, k.level, k.size, (swapN k.with_ d.role d.other), k.fn, k.fd, k.tn, k.td⟩ : Sg), true) := (by unfold chgE; simp only [inP] at *; (repeat' split) <;> first | rfl | (exfalso; omega) | (simp_all; done) | (refine Prod.ext rfl ?_; show (_ && _) = _ ; rw [Bool.eq_iff_iff, Bool.and_eq_true, decide_eq_true_eq, decide_eq_true_eq, beq_iff_eq]; exact ⟨fun h => h.2, fun h => ⟨by assumption, h⟩⟩) | (exfalso; simp_all; omega) | (simp_all; omega)); exact congrArg (fun p : Sg × Bool => Value.tuple #[valSg p.1, .bool p.2]) hE.symm)
      try simp only [NRM] at h37
      exact SX.F (.tuple #[.agg #[.int .i64 k.id, .int .i64 k.role, .int .i64 k.bar, .int .i64 k.mark, .int .i64 k.kind, .int .i64 k.side, .int .i64 k.dir, .int .i64 k.level, .int .i64 k.size, .int .i64 k.with_, .int .i64 k.fn, .int .i64 k.fd, .int .i64 k.tn, .int .i64 k.td], .bool true]) (by have hE : chgE d k = ((⟨k.id, k.role, k.bar, k.mark, k.kind, k.side, k.dir, k.level, k.size, k.with_, k.fn, k.fd, k.tn, k.td⟩ : Sg), true) := (by unfold chgE; simp only [inP] at *; (repeat' split) <;> first | rfl | (exfalso; omega) | (simp_all; done) | (refine Prod.ext rfl ?_; show (_ && _) = _ ; rw [Bool.eq_iff_iff, Bool.and_eq_true, decide_eq_true_eq, decide_eq_true_eq, beq_iff_eq]; exact ⟨fun h => h.2, fun h => ⟨by assumption, h⟩⟩) | (exfalso; simp_all; omega) | (simp_all; omega)); exact congrArg (fun p : Sg × Bool => Value.tuple #[valSg p.1, .bool p.2]) hE.symm)
    try simp only [NRM] at h42
    refine SX.D (.bool ((d.kind : Int) == 7)) ?_
    refine SX.B ((d.kind : Int) == 7) (fun h43 => ?_) (fun h43 => ?_)
    · try simp only [NRM] at h43
      refine SX.E (.bool (decide (inP d k))) (fun α => ⟨[⟨valSg k, 0, []⟩, ⟨valE d, 0, []⟩], ⟨by kernel_rfl, by kernel_rfl, by kernel_rfl, by kernel_rfl, trivial⟩, .inr (.inr (.inl ⟨rfl, k, d, rfl, he, rfl⟩)), SX.noAli rfl⟩) ?_
      refine SX.B (decide (inP d k)) (fun h44 => ?_) (fun h44 => ?_)
      · try simp only [NRM] at h44
        refine SX.E (.tuple #[.agg #[.int .i64 ((mulS k.fn k.fd d.sn d.sd).1), .int .i64 ((mulS k.fn k.fd d.sn d.sd).2.1)], .int .i64 ((mulS k.fn k.fd d.sn d.sd).2.2)]) (fun α => ⟨[⟨.agg #[.int .i64 k.fn, .int .i64 k.fd], 0, []⟩, ⟨.agg #[.int .i64 d.sn, .int .i64 d.sd], 0, []⟩], ⟨by kernel_rfl, by kernel_rfl, by kernel_rfl, by kernel_rfl, trivial⟩, .inr (.inr (.inr (⟨rfl, _, _, _, _, rfl, rfl⟩))), SX.noAli rfl⟩) ?_
        refine SX.E (.tuple #[.agg #[.int .i64 ((mulS k.tn k.td d.sn d.sd).1), .int .i64 ((mulS k.tn k.td d.sn d.sd).2.1)], .int .i64 ((mulS k.tn k.td d.sn d.sd).2.2)]) (fun α => ⟨[⟨.agg #[.int .i64 k.tn, .int .i64 k.td], 0, []⟩, ⟨.agg #[.int .i64 d.sn, .int .i64 d.sd], 0, []⟩], ⟨by kernel_rfl, by kernel_rfl, by kernel_rfl, by kernel_rfl, trivial⟩, .inr (.inr (.inr (⟨rfl, _, _, _, _, rfl, rfl⟩))), SX.noAli rfl⟩) ?_
        refine SX.D (.bool (((mulS k.fn k.fd d.sn d.sd).2.2 : Int) == 0)) ?_
        refine SX.B (((mulS k.fn k.fd d.sn d.sd).2.2 : Int) == 0) (fun h47 => ?_) (fun h47 => ?_)
        · try simp only [NRM] at h47
          refine SX.D (.bool (((mulS k.tn k.td d.sn d.sd).2.2 : Int) == 0)) ?_
          exact SX.F (.tuple #[.agg #[.int .i64 k.id, .int .i64 k.role, .int .i64 k.bar, .int .i64 k.mark, .int .i64 k.kind, .int .i64 k.side, .int .i64 k.dir, .int .i64 k.level, .int .i64 k.size, .int .i64 k.with_, .int .i64 ((mulS k.fn k.fd d.sn d.sd).1), .int .i64 ((mulS k.fn k.fd d.sn d.sd).2.1), .int .i64 ((mulS k.tn k.td d.sn d.sd).1), .int .i64 ((mulS k.tn k.td d.sn d.sd).2.1)], .bool (((mulS k.tn k.td d.sn d.sd).2.2 : Int) == 0)]) (by have hE : chgE d k = ((⟨k.id, k.role, k.bar, k.mark, k.kind, k.side, k.dir, k.level, k.size, k.with_, (mulS k.fn k.fd d.sn d.sd).1, (mulS k.fn k.fd d.sn d.sd).2.1, (mulS k.tn k.td d.sn d.sd).1, (mulS k.tn k.td d.sn d.sd).2.1⟩ : Sg), ((mulS k.tn k.td d.sn d.sd).2.2 : Int) == 0) := (by unfold chgE; simp only [inP] at *; (repeat' split) <;> first | rfl | (exfalso; omega) | (simp_all; done) | (refine Prod.ext rfl ?_; show (_ && _) = _ ; rw [Bool.eq_iff_iff, Bool.and_eq_true, decide_eq_true_eq, decide_eq_true_eq, beq_iff_eq]; exact ⟨fun h => h.2, fun h => ⟨by assumption, h⟩⟩) | (exfalso; simp_all; omega) | (simp_all; omega)); exact congrArg (fun p : Sg × Bool => Value.tuple #[valSg p.1, .bool p.2]) hE.symm)
        try simp only [NRM] at h47
        exact SX.F (.tuple #[.agg #[.int .i64 k.id, .int .i64 k.role, .int .i64 k.bar, .int .i64 k.mark, .int .i64 k.kind, .int .i64 k.side, .int .i64 k.dir, .int .i64 k.level, .int .i64 k.size, .int .i64 k.with_, .int .i64 ((mulS k.fn k.fd d.sn d.sd).1), .int .i64 ((mulS k.fn k.fd d.sn d.sd).2.1), .int .i64 ((mulS k.tn k.td d.sn d.sd).1), .int .i64 ((mulS k.tn k.td d.sn d.sd).2.1)], .bool false]) (by have hE : chgE d k = ((⟨k.id, k.role, k.bar, k.mark, k.kind, k.side, k.dir, k.level, k.size, k.with_, (mulS k.fn k.fd d.sn d.sd).1, (mulS k.fn k.fd d.sn d.sd).2.1, (mulS k.tn k.td d.sn d.sd).1, (mulS k.tn k.td d.sn d.sd).2.1⟩ : Sg), false) := (by unfold chgE; simp only [inP] at *; (repeat' split) <;> first | rfl | (exfalso; omega) | (simp_all; done) | (refine Prod.ext rfl ?_; show (_ && _) = _ ; rw [Bool.eq_iff_iff, Bool.and_eq_true, decide_eq_true_eq, decide_eq_true_eq, beq_iff_eq]; exact ⟨fun h => h.2, fun h => ⟨by assumption, h⟩⟩) | (exfalso; simp_all; omega) | (simp_all; omega)); exact congrArg (fun p : Sg × Bool => Value.tuple #[valSg p.1, .bool p.2]) hE.symm)
      try simp only [NRM] at h44
      exact SX.F (.tuple #[.agg #[.int .i64 k.id, .int .i64 k.role, .int .i64 k.bar, .int .i64 k.mark, .int .i64 k.kind, .int .i64 k.side, .int .i64 k.dir, .int .i64 k.level, .int .i64 k.size, .int .i64 k.with_, .int .i64 k.fn, .int .i64 k.fd, .int .i64 k.tn, .int .i64 k.td], .bool true]) (by have hE : chgE d k = ((⟨k.id, k.role, k.bar, k.mark, k.kind, k.side, k.dir, k.level, k.size, k.with_, k.fn, k.fd, k.tn, k.td⟩ : Sg), true) := (by unfold chgE; simp only [inP] at *; (repeat' split) <;> first | rfl | (exfalso; omega) | (simp_all; done) | (refine Prod.ext rfl ?_; show (_ && _) = _ ; rw [Bool.eq_iff_iff, Bool.and_eq_true, decide_eq_true_eq, decide_eq_true_eq, beq_iff_eq]; exact ⟨fun h => h.2, fun h => ⟨by assumption, h⟩⟩) | (exfalso; simp_all; omega) | (simp_all; omega)); exact congrArg (fun p : Sg × Bool => Value.tuple #[valSg p.1, .bool p.2]) hE.symm)
    try simp only [NRM] at h43
    exact SX.F (.tuple #[.agg #[.int .i64 k.id, .int .i64 k.role, .int .i64 k.bar, .int .i64 k.mark, .int .i64 k.kind, .int .i64 k.side, .int .i64 k.dir, .int .i64 k.level, .int .i64 k.size, .int .i64 k.with_, .int .i64 k.fn, .int .i64 k.fd, .int .i64 k.tn, .int .i64 k.td], .bool true]) (by have hE : chgE d k = ((⟨k.id, k.role, k.bar, k.mark, k.kind, k.side, k.dir, k.level, k.size, k.with_, k.fn, k.fd, k.tn, k.td⟩ : Sg), true) := (by unfold chgE; simp only [inP] at *; (repeat' split) <;> first | rfl | (exfalso; omega) | (simp_all; done) | (refine Prod.ext rfl ?_; show (_ && _) = _ ; rw [Bool.eq_iff_iff, Bool.and_eq_true, decide_eq_true_eq, decide_eq_true_eq, beq_iff_eq]; exact ⟨fun h => h.2, fun h => ⟨by assumption, h⟩⟩) | (exfalso; simp_all; omega) | (simp_all; omega)); exact congrArg (fun p : Sg × Bool => Value.tuple #[valSg p.1, .bool p.2]) hE.symm)
  try simp only [NRM] at h36
  refine SX.D (.bool ((d.kind : Int) == 1)) ?_
  refine SX.B ((d.kind : Int) == 1) (fun h37 => ?_) (fun h37 => ?_)
  · try simp only [NRM] at h37
    refine SX.E (.bool (decide (inP d k))) (fun α => ⟨[⟨valSg k, 0, []⟩, ⟨valE d, 0, []⟩], ⟨by kernel_rfl, by kernel_rfl, by kernel_rfl, by kernel_rfl, trivial⟩, .inr (.inr (.inl ⟨rfl, k, d, rfl, he, rfl⟩)), SX.noAli rfl⟩) ?_
    refine SX.B (decide (inP d k)) (fun h38 => ?_) (fun h38 => ?_)
    · try simp only [NRM] at h38
      refine SX.E ((valSg ((mirrorS k)))) (fun α => ⟨[⟨valSg k, 0, []⟩], ⟨by kernel_rfl, by kernel_rfl, trivial⟩, .inr (.inl ⟨rfl, k, rfl, hk, rfl⟩), SX.noAli rfl⟩) ?_
      exact SX.F (.tuple #[.agg #[.int .i64 ((mirrorS k).id), .int .i64 ((mirrorS k).role), .int .i64 ((mirrorS k).bar), .int .i64 ((mirrorS k).mark), .int .i64 ((mirrorS k).kind), .int .i64 ((mirrorS k).side), .int .i64 ((mirrorS k).dir), .int .i64 ((mirrorS k).level), .int .i64 ((mirrorS k).size), .int .i64 ((mirrorS k).with_), .int .i64 ((mirrorS k).fn), .int .i64 ((mirrorS k).fd), .int .i64 ((mirrorS k).tn), .int .i64 ((mirrorS k).td)], .bool true]) (by have hE : chgE d k = ((⟨(mirrorS k).id, (mirrorS k).role, (mirrorS k).bar, (mirrorS k).mark, (mirrorS k).kind, (mirrorS k).side, (mirrorS k).dir, (mirrorS k).level, (mirrorS k).size, (mirrorS k).with_, (mirrorS k).fn, (mirrorS k).fd, (mirrorS k).tn, (mirrorS k).td⟩ : Sg), true) := (by unfold chgE; simp only [inP] at *; (repeat' split) <;> first | rfl | (exfalso; omega) | (simp_all; done) | (refine Prod.ext rfl ?_; show (_ && _) = _ ; rw [Bool.eq_iff_iff, Bool.and_eq_true, decide_eq_true_eq, decide_eq_true_eq, beq_iff_eq]; exact ⟨fun h => h.2, fun h => ⟨by assumption, h⟩⟩) | (exfalso; simp_all; omega) | (simp_all; omega)); exact congrArg (fun p : Sg × Bool => Value.tuple #[valSg p.1, .bool p.2]) hE.symm)
    try simp only [NRM] at h38
    exact SX.F (.tuple #[.agg #[.int .i64 k.id, .int .i64 k.role, .int .i64 k.bar, .int .i64 k.mark, .int .i64 k.kind, .int .i64 k.side, .int .i64 k.dir, .int .i64 k.level, .int .i64 k.size, .int .i64 k.with_, .int .i64 k.fn, .int .i64 k.fd, .int .i64 k.tn, .int .i64 k.td], .bool true]) (by have hE : chgE d k = ((⟨k.id, k.role, k.bar, k.mark, k.kind, k.side, k.dir, k.level, k.size, k.with_, k.fn, k.fd, k.tn, k.td⟩ : Sg), true) := (by unfold chgE; simp only [inP] at *; (repeat' split) <;> first | rfl | (exfalso; omega) | (simp_all; done) | (refine Prod.ext rfl ?_; show (_ && _) = _ ; rw [Bool.eq_iff_iff, Bool.and_eq_true, decide_eq_true_eq, decide_eq_true_eq, beq_iff_eq]; exact ⟨fun h => h.2, fun h => ⟨by assumption, h⟩⟩) | (exfalso; simp_all; omega) | (simp_all; omega)); exact congrArg (fun p : Sg × Bool => Value.tuple #[valSg p.1, .bool p.2]) hE.symm)
  try simp only [NRM] at h37
  refine SX.D (.bool ((d.kind : Int) == 2)) ?_
  refine SX.B ((d.kind : Int) == 2) (fun h38 => ?_) (fun h38 => ?_)
  · try simp only [NRM] at h38
    refine SX.E (.bool (decide (inP d k))) (fun α => ⟨[⟨valSg k, 0, []⟩, ⟨valE d, 0, []⟩], ⟨by kernel_rfl, by kernel_rfl, by kernel_rfl, by kernel_rfl, trivial⟩, .inr (.inr (.inl ⟨rfl, k, d, rfl, he, rfl⟩)), SX.noAli rfl⟩) ?_
    refine SX.B (decide (inP d k)) (fun h39 => ?_) (fun h39 => ?_)
    · try simp only [NRM] at h39
      refine SX.D (.bool (decide (k.dir ≥ 1))) ?_
      refine SX.B (decide (k.dir ≥ 1)) (fun h40 => ?_) (fun h40 => ?_)
      · try simp only [NRM] at h40
        refine SX.E (.int .i64 (k.dir - 1)) (fun α => SX.W (k.dir - 1)) ?_
        refine SX.E (.int .i64 ((k.dir - 1) + d.n)) (fun α => SX.W ((k.dir - 1) + d.n)) ?_
        refine SX.E (.int .i64 (((k.dir - 1) + d.n) % 8)) (fun α => Eq.trans (b := SX.binV .rem (.int .i64 ((k.dir - 1) + d.n)) (.int .i64 8)) (by kernel_rfl) (rem8b (by omega))) ?_
        refine SX.E (.int .i64 ((((k.dir - 1) + d.n) % 8) + 1)) (fun α => Eq.trans (b := some (.int .i64 (IntKind.i64.wrap ((((k.dir - 1) + d.n) % 8) + 1)))) (by kernel_rfl) (by rw [wrap_i64 (by omega) (by omega)])) ?_
        exact SX.F (.tuple #[.agg #[.int .i64 k.id, .int .i64 k.role, .int .i64 k.bar, .int .i64 k.mark, .int .i64 k.kind, .int .i64 k.side, .int .i64 ((((k.dir - 1) + d.n) % 8) + 1), .int .i64 k.level, .int .i64 k.size, .int .i64 k.with_, .int .i64 k.fn, .int .i64 k.fd, .int .i64 k.tn, .int .i64 k.td], .bool true]) (by have hE : chgE d k = ((⟨k.id, k.role, k.bar, k.mark, k.kind, k.side, (((k.dir - 1) + d.n) % 8) + 1, k.level, k.size, k.with_, k.fn, k.fd, k.tn, k.td⟩ : Sg), true) := (by unfold chgE; simp only [inP] at *; (repeat' split) <;> first | rfl | (exfalso; omega) | (simp_all; done) | (refine Prod.ext rfl ?_; show (_ && _) = _ ; rw [Bool.eq_iff_iff, Bool.and_eq_true, decide_eq_true_eq, decide_eq_true_eq, beq_iff_eq]; exact ⟨fun h => h.2, fun h => ⟨by assumption, h⟩⟩) | (exfalso; simp_all; omega) | (simp_all; omega)); exact congrArg (fun p : Sg × Bool => Value.tuple #[valSg p.1, .bool p.2]) hE.symm)
      try simp only [NRM] at h40
      exact SX.F (.tuple #[.agg #[.int .i64 k.id, .int .i64 k.role, .int .i64 k.bar, .int .i64 k.mark, .int .i64 k.kind, .int .i64 k.side, .int .i64 k.dir, .int .i64 k.level, .int .i64 k.size, .int .i64 k.with_, .int .i64 k.fn, .int .i64 k.fd, .int .i64 k.tn, .int .i64 k.td], .bool true]) (by have hE : chgE d k = ((⟨k.id, k.role, k.bar, k.mark, k.kind, k.side, k.dir, k.level, k.size, k.with_, k.fn, k.fd, k.tn, k.td⟩ : Sg), true) := (by unfold chgE; simp only [inP] at *; (repeat' split) <;> first | rfl | (exfalso; omega) | (simp_all; done) | (refine Prod.ext rfl ?_; show (_ && _) = _ ; rw [Bool.eq_iff_iff, Bool.and_eq_true, decide_eq_true_eq, decide_eq_true_eq, beq_iff_eq]; exact ⟨fun h => h.2, fun h => ⟨by assumption, h⟩⟩) | (exfalso; simp_all; omega) | (simp_all; omega)); exact congrArg (fun p : Sg × Bool => Value.tuple #[valSg p.1, .bool p.2]) hE.symm)
    try simp only [NRM] at h39
    exact SX.F (.tuple #[.agg #[.int .i64 k.id, .int .i64 k.role, .int .i64 k.bar, .int .i64 k.mark, .int .i64 k.kind, .int .i64 k.side, .int .i64 k.dir, .int .i64 k.level, .int .i64 k.size, .int .i64 k.with_, .int .i64 k.fn, .int .i64 k.fd, .int .i64 k.tn, .int .i64 k.td], .bool true]) (by have hE : chgE d k = ((⟨k.id, k.role, k.bar, k.mark, k.kind, k.side, k.dir, k.level, k.size, k.with_, k.fn, k.fd, k.tn, k.td⟩ : Sg), true) := (by unfold chgE; simp only [inP] at *; (repeat' split) <;> first | rfl | (exfalso; omega) | (simp_all; done) | (refine Prod.ext rfl ?_; show (_ && _) = _ ; rw [Bool.eq_iff_iff, Bool.and_eq_true, decide_eq_true_eq, decide_eq_true_eq, beq_iff_eq]; exact ⟨fun h => h.2, fun h => ⟨by assumption, h⟩⟩) | (exfalso; simp_all; omega) | (simp_all; omega)); exact congrArg (fun p : Sg × Bool => Value.tuple #[valSg p.1, .bool p.2]) hE.symm)
  try simp only [NRM] at h38
  refine SX.D (.bool ((d.kind : Int) == 3)) ?_
  refine SX.B ((d.kind : Int) == 3) (fun h39 => ?_) (fun h39 => ?_)
  · try simp only [NRM] at h39
    refine SX.D (.bool (decide (k.bar > d.to))) ?_
    refine SX.B (decide (k.bar > d.to)) (fun h40 => ?_) (fun h40 => ?_)
    · try simp only [NRM] at h40
      refine SX.E (.int .i64 (d.to - d.fr)) (fun α => SX.W (d.to - d.fr)) ?_
      refine SX.E (.int .i64 ((d.to - d.fr) + 1)) (fun α => SX.W ((d.to - d.fr) + 1)) ?_
      refine SX.E (.int .i64 (k.bar - ((d.to - d.fr) + 1))) (fun α => SX.W (k.bar - ((d.to - d.fr) + 1))) ?_
      exact SX.F (.tuple #[.agg #[.int .i64 k.id, .int .i64 k.role, .int .i64 (k.bar - ((d.to - d.fr) + 1)), .int .i64 k.mark, .int .i64 k.kind, .int .i64 k.side, .int .i64 k.dir, .int .i64 k.level, .int .i64 k.size, .int .i64 k.with_, .int .i64 k.fn, .int .i64 k.fd, .int .i64 k.tn, .int .i64 k.td], .bool true]) (by have hE : chgE d k = ((⟨k.id, k.role, k.bar - ((d.to - d.fr) + 1), k.mark, k.kind, k.side, k.dir, k.level, k.size, k.with_, k.fn, k.fd, k.tn, k.td⟩ : Sg), true) := (by unfold chgE; simp only [inP] at *; (repeat' split) <;> first | rfl | (exfalso; omega) | (simp_all; done) | (refine Prod.ext rfl ?_; show (_ && _) = _ ; rw [Bool.eq_iff_iff, Bool.and_eq_true, decide_eq_true_eq, decide_eq_true_eq, beq_iff_eq]; exact ⟨fun h => h.2, fun h => ⟨by assumption, h⟩⟩) | (exfalso; simp_all; omega) | (simp_all; omega)); exact congrArg (fun p : Sg × Bool => Value.tuple #[valSg p.1, .bool p.2]) hE.symm)
    try simp only [NRM] at h40
    exact SX.F (.tuple #[.agg #[.int .i64 k.id, .int .i64 k.role, .int .i64 k.bar, .int .i64 k.mark, .int .i64 k.kind, .int .i64 k.side, .int .i64 k.dir, .int .i64 k.level, .int .i64 k.size, .int .i64 k.with_, .int .i64 k.fn, .int .i64 k.fd, .int .i64 k.tn, .int .i64 k.td], .bool true]) (by have hE : chgE d k = ((⟨k.id, k.role, k.bar, k.mark, k.kind, k.side, k.dir, k.level, k.size, k.with_, k.fn, k.fd, k.tn, k.td⟩ : Sg), true) := (by unfold chgE; simp only [inP] at *; (repeat' split) <;> first | rfl | (exfalso; omega) | (simp_all; done) | (refine Prod.ext rfl ?_; show (_ && _) = _ ; rw [Bool.eq_iff_iff, Bool.and_eq_true, decide_eq_true_eq, decide_eq_true_eq, beq_iff_eq]; exact ⟨fun h => h.2, fun h => ⟨by assumption, h⟩⟩) | (exfalso; simp_all; omega) | (simp_all; omega)); exact congrArg (fun p : Sg × Bool => Value.tuple #[valSg p.1, .bool p.2]) hE.symm)
  try simp only [NRM] at h39
  refine SX.D (.bool ((d.kind : Int) == 4)) ?_
  refine SX.B ((d.kind : Int) == 4) (fun h40 => ?_) (fun h40 => ?_)
  · try simp only [NRM] at h40
    refine SX.D (.bool (decide (k.bar ≥ d.fr))) ?_
    refine SX.B (decide (k.bar ≥ d.fr)) (fun h41 => ?_) (fun h41 => ?_)
    · try simp only [NRM] at h41
      refine SX.E (.int .i64 (k.bar + d.n)) (fun α => SX.W (k.bar + d.n)) ?_
      exact SX.F (.tuple #[.agg #[.int .i64 k.id, .int .i64 k.role, .int .i64 (k.bar + d.n), .int .i64 k.mark, .int .i64 k.kind, .int .i64 k.side, .int .i64 k.dir, .int .i64 k.level, .int .i64 k.size, .int .i64 k.with_, .int .i64 k.fn, .int .i64 k.fd, .int .i64 k.tn, .int .i64 k.td], .bool true]) (by have hE : chgE d k = ((⟨k.id, k.role, k.bar + d.n, k.mark, k.kind, k.side, k.dir, k.level, k.size, k.with_, k.fn, k.fd, k.tn, k.td⟩ : Sg), true) := (by unfold chgE; simp only [inP] at *; (repeat' split) <;> first | rfl | (exfalso; omega) | (simp_all; done) | (refine Prod.ext rfl ?_; show (_ && _) = _ ; rw [Bool.eq_iff_iff, Bool.and_eq_true, decide_eq_true_eq, decide_eq_true_eq, beq_iff_eq]; exact ⟨fun h => h.2, fun h => ⟨by assumption, h⟩⟩) | (exfalso; simp_all; omega) | (simp_all; omega)); exact congrArg (fun p : Sg × Bool => Value.tuple #[valSg p.1, .bool p.2]) hE.symm)
    try simp only [NRM] at h41
    exact SX.F (.tuple #[.agg #[.int .i64 k.id, .int .i64 k.role, .int .i64 k.bar, .int .i64 k.mark, .int .i64 k.kind, .int .i64 k.side, .int .i64 k.dir, .int .i64 k.level, .int .i64 k.size, .int .i64 k.with_, .int .i64 k.fn, .int .i64 k.fd, .int .i64 k.tn, .int .i64 k.td], .bool true]) (by have hE : chgE d k = ((⟨k.id, k.role, k.bar, k.mark, k.kind, k.side, k.dir, k.level, k.size, k.with_, k.fn, k.fd, k.tn, k.td⟩ : Sg), true) := (by unfold chgE; simp only [inP] at *; (repeat' split) <;> first | rfl | (exfalso; omega) | (simp_all; done) | (refine Prod.ext rfl ?_; show (_ && _) = _ ; rw [Bool.eq_iff_iff, Bool.and_eq_true, decide_eq_true_eq, decide_eq_true_eq, beq_iff_eq]; exact ⟨fun h => h.2, fun h => ⟨by assumption, h⟩⟩) | (exfalso; simp_all; omega) | (simp_all; omega)); exact congrArg (fun p : Sg × Bool => Value.tuple #[valSg p.1, .bool p.2]) hE.symm)
  try simp only [NRM] at h40
  refine SX.D (.bool ((d.kind : Int) == 6)) ?_
  refine SX.B ((d.kind : Int) == 6) (fun h41 => ?_) (fun h41 => ?_)
  · try simp only [NRM] at h41
    exact SX.F (.tuple #[.agg #[.int .i64 k.id, .int .i64 k.role, .int .i64 k.bar, .int .i64 k.mark, .int .i64 k.kind, .int .i64 k.side, .int .i64 k.dir, .int .i64 k.level, .int .i64 k.size, .int .i64 k.with_, .int .i64 k.fn, .int .i64 k.fd, .int .i64 k.tn, .int .i64 k.td], .bool true]) (by have hE : chgE d k = ((⟨k.id, k.role, k.bar, k.mark, k.kind, k.side, k.dir, k.level, k.size, k.with_, k.fn, k.fd, k.tn, k.td⟩ : Sg), true) := (by unfold chgE; simp only [inP] at *; (repeat' split) <;> first | rfl | (exfalso; omega) | (simp_all; done) | (refine Prod.ext rfl ?_; show (_ && _) = _ ; rw [Bool.eq_iff_iff, Bool.and_eq_true, decide_eq_true_eq, decide_eq_true_eq, beq_iff_eq]; exact ⟨fun h => h.2, fun h => ⟨by assumption, h⟩⟩) | (exfalso; simp_all; omega) | (simp_all; omega)); exact congrArg (fun p : Sg × Bool => Value.tuple #[valSg p.1, .bool p.2]) hE.symm)
  try simp only [NRM] at h41
  refine SX.D (.bool ((d.kind : Int) == 7)) ?_
  refine SX.B ((d.kind : Int) == 7) (fun h42 => ?_) (fun h42 => ?_)
  · try simp only [NRM] at h42
    refine SX.E (.bool (decide (inP d k))) (fun α => ⟨[⟨valSg k, 0, []⟩, ⟨valE d, 0, []⟩], ⟨by kernel_rfl, by kernel_rfl, by kernel_rfl, by kernel_rfl, trivial⟩, .inr (.inr (.inl ⟨rfl, k, d, rfl, he, rfl⟩)), SX.noAli rfl⟩) ?_
    refine SX.B (decide (inP d k)) (fun h43 => ?_) (fun h43 => ?_)
    · try simp only [NRM] at h43
      refine SX.E (.tuple #[.agg #[.int .i64 ((mulS k.fn k.fd d.sn d.sd).1), .int .i64 ((mulS k.fn k.fd d.sn d.sd).2.1)], .int .i64 ((mulS k.fn k.fd d.sn d.sd).2.2)]) (fun α => ⟨[⟨.agg #[.int .i64 k.fn, .int .i64 k.fd], 0, []⟩, ⟨.agg #[.int .i64 d.sn, .int .i64 d.sd], 0, []⟩], ⟨by kernel_rfl, by kernel_rfl, by kernel_rfl, by kernel_rfl, trivial⟩, .inr (.inr (.inr (⟨rfl, _, _, _, _, rfl, rfl⟩))), SX.noAli rfl⟩) ?_
      refine SX.E (.tuple #[.agg #[.int .i64 ((mulS k.tn k.td d.sn d.sd).1), .int .i64 ((mulS k.tn k.td d.sn d.sd).2.1)], .int .i64 ((mulS k.tn k.td d.sn d.sd).2.2)]) (fun α => ⟨[⟨.agg #[.int .i64 k.tn, .int .i64 k.td], 0, []⟩, ⟨.agg #[.int .i64 d.sn, .int .i64 d.sd], 0, []⟩], ⟨by kernel_rfl, by kernel_rfl, by kernel_rfl, by kernel_rfl, trivial⟩, .inr (.inr (.inr (⟨rfl, _, _, _, _, rfl, rfl⟩))), SX.noAli rfl⟩) ?_
      refine SX.D (.bool (((mulS k.fn k.fd d.sn d.sd).2.2 : Int) == 0)) ?_
      refine SX.B (((mulS k.fn k.fd d.sn d.sd).2.2 : Int) == 0) (fun h46 => ?_) (fun h46 => ?_)
      · try simp only [NRM] at h46
        refine SX.D (.bool (((mulS k.tn k.td d.sn d.sd).2.2 : Int) == 0)) ?_
        exact SX.F (.tuple #[.agg #[.int .i64 k.id, .int .i64 k.role, .int .i64 k.bar, .int .i64 k.mark, .int .i64 k.kind, .int .i64 k.side, .int .i64 k.dir, .int .i64 k.level, .int .i64 k.size, .int .i64 k.with_, .int .i64 ((mulS k.fn k.fd d.sn d.sd).1), .int .i64 ((mulS k.fn k.fd d.sn d.sd).2.1), .int .i64 ((mulS k.tn k.td d.sn d.sd).1), .int .i64 ((mulS k.tn k.td d.sn d.sd).2.1)], .bool (((mulS k.tn k.td d.sn d.sd).2.2 : Int) == 0)]) (by have hE : chgE d k = ((⟨k.id, k.role, k.bar, k.mark, k.kind, k.side, k.dir, k.level, k.size, k.with_, (mulS k.fn k.fd d.sn d.sd).1, (mulS k.fn k.fd d.sn d.sd).2.1, (mulS k.tn k.td d.sn d.sd).1, (mulS k.tn k.td d.sn d.sd).2.1⟩ : Sg), ((mulS k.tn k.td d.sn d.sd).2.2 : Int) == 0) := (by unfold chgE; simp only [inP] at *; (repeat' split) <;> first | rfl | (exfalso; omega) | (simp_all; done) | (refine Prod.ext rfl ?_; show (_ && _) = _ ; rw [Bool.eq_iff_iff, Bool.and_eq_true, decide_eq_true_eq, decide_eq_true_eq, beq_iff_eq]; exact ⟨fun h => h.2, fun h => ⟨by assumption, h⟩⟩) | (exfalso; simp_all; omega) | (simp_all; omega)); exact congrArg (fun p : Sg × Bool => Value.tuple #[valSg p.1, .bool p.2]) hE.symm)
      try simp only [NRM] at h46
      exact SX.F (.tuple #[.agg #[.int .i64 k.id, .int .i64 k.role, .int .i64 k.bar, .int .i64 k.mark, .int .i64 k.kind, .int .i64 k.side, .int .i64 k.dir, .int .i64 k.level, .int .i64 k.size, .int .i64 k.with_, .int .i64 ((mulS k.fn k.fd d.sn d.sd).1), .int .i64 ((mulS k.fn k.fd d.sn d.sd).2.1), .int .i64 ((mulS k.tn k.td d.sn d.sd).1), .int .i64 ((mulS k.tn k.td d.sn d.sd).2.1)], .bool false]) (by have hE : chgE d k = ((⟨k.id, k.role, k.bar, k.mark, k.kind, k.side, k.dir, k.level, k.size, k.with_, (mulS k.fn k.fd d.sn d.sd).1, (mulS k.fn k.fd d.sn d.sd).2.1, (mulS k.tn k.td d.sn d.sd).1, (mulS k.tn k.td d.sn d.sd).2.1⟩ : Sg), false) := (by unfold chgE; simp only [inP] at *; (repeat' split) <;> first | rfl | (exfalso; omega) | (simp_all; done) | (refine Prod.ext rfl ?_; show (_ && _) = _ ; rw [Bool.eq_iff_iff, Bool.and_eq_true, decide_eq_true_eq, decide_eq_true_eq, beq_iff_eq]; exact ⟨fun h => h.2, fun h => ⟨by assumption, h⟩⟩) | (exfalso; simp_all; omega) | (simp_all; omega)); exact congrArg (fun p : Sg × Bool => Value.tuple #[valSg p.1, .bool p.2]) hE.symm)
    try simp only [NRM] at h43
    exact SX.F (.tuple #[.agg #[.int .i64 k.id, .int .i64 k.role, .int .i64 k.bar, .int .i64 k.mark, .int .i64 k.kind, .int .i64 k.side, .int .i64 k.dir, .int .i64 k.level, .int .i64 k.size, .int .i64 k.with_, .int .i64 k.fn, .int .i64 k.fd, .int .i64 k.tn, .int .i64 k.td], .bool true]) (by have hE : chgE d k = ((⟨k.id, k.role, k.bar, k.mark, k.kind, k.side, k.dir, k.level, k.size, k.with_, k.fn, k.fd, k.tn, k.td⟩ : Sg), true) := (by unfold chgE; simp only [inP] at *; (repeat' split) <;> first | rfl | (exfalso; omega) | (simp_all; done) | (refine Prod.ext rfl ?_; show (_ && _) = _ ; rw [Bool.eq_iff_iff, Bool.and_eq_true, decide_eq_true_eq, decide_eq_true_eq, beq_iff_eq]; exact ⟨fun h => h.2, fun h => ⟨by assumption, h⟩⟩) | (exfalso; simp_all; omega) | (simp_all; omega)); exact congrArg (fun p : Sg × Bool => Value.tuple #[valSg p.1, .bool p.2]) hE.symm)
  try simp only [NRM] at h42
  exact SX.F (.tuple #[.agg #[.int .i64 k.id, .int .i64 k.role, .int .i64 k.bar, .int .i64 k.mark, .int .i64 k.kind, .int .i64 k.side, .int .i64 k.dir, .int .i64 k.level, .int .i64 k.size, .int .i64 k.with_, .int .i64 k.fn, .int .i64 k.fd, .int .i64 k.tn, .int .i64 k.td], .bool true]) (by have hE : chgE d k = ((⟨k.id, k.role, k.bar, k.mark, k.kind, k.side, k.dir, k.level, k.size, k.with_, k.fn, k.fd, k.tn, k.td⟩ : Sg), true) := (by unfold chgE; simp only [inP] at *; (repeat' split) <;> first | rfl | (exfalso; omega) | (simp_all; done) | (refine Prod.ext rfl ?_; show (_ && _) = _ ; rw [Bool.eq_iff_iff, Bool.and_eq_true, decide_eq_true_eq, decide_eq_true_eq, beq_iff_eq]; exact ⟨fun h => h.2, fun h => ⟨by assumption, h⟩⟩) | (exfalso; simp_all; omega) | (simp_all; omega)); exact congrArg (fun p : Sg × Bool => Value.tuple #[valSg p.1, .bool p.2]) hE.symm)
def tree_e3 : SX.Tree :=
(.df (.call 14 [(.ext 14)]) [(.q 0)] .one
(.df (.bin .neq 31) [(.q 23), (.i 0)] .one
(.br 24 []
(.ret (.t [(.k (.slice none 0 0)), (.q 23)]) [none] [])
(.df (.eqr true 22 [(.i .i64), (.i .i64), (.i .i64), (.i .i64), (.i .i64), (.i .i64), (.i .i64), (.i .i64), (.i .i64), (.i .i64), (.i .i64), (.i .i64), (.i .i64), (.i .i64), (.i .i64), (.i .i64), (.i .i64), (.i .i64), (.i .i64), (.i .i64), (.i .i64), (.i .i64)]) ([(.i 3), (.i 0), (.i 0), (.q 4), (.q 5), (.i 0), (.i 0), (.i 0), (.i 0), (.i 0), (.i 0), (.i 0), (.i 0), (.i 0), (.i 0), (.i 0), (.i 0), (.i 0), (.i 0), (.i 0), (.i 0), (.i 0), (.i 3)] ++ SX.Z 2 21) .one
(.br 25 []
(.ret (.t [(.k (.slice none 0 0)), (.i 360)]) (List.replicate 10 none) [])
(.df (.bin .geq 3) [(.q 4), (.i 0)] .one
(.br 26 []
(.df (.bin .leq 3) [(.q 4), (.q 5)] .one
(.br 27 []
(.df (.bin .leq 3) [(.q 5), (.i 4095)] .one
(.df .not [(.q 28)] .one
(.br 29 []
(.ret (.t [(.k (.slice none 0 0)), (.i 360)]) (List.replicate 11 none) [])
(.df (.len false) [(.q 0)] .one
(.loop [(.i 0), (.cat [])] [.one, .any]
(.df (.bin .lss 3) [(.q 31), (.q 30)] .one
(.br 33 []
(.df .bnd [(.q 0), (.q 31)] .one
(.df (.elems 14 0 14) [(.q 0), (.q 31)] (.ag 14)
(.df (.bin .geq 3) [(.x 35 [2]), (.q 4)] .one
(.br 36 []
(.df (.bin .leq 3) [(.x 35 [2]), (.q 5)] .one
(.br 37 []
(.df (.app 14 112 (.own 14 [])) [(.cat [(.q 32)]), (.k (.slice none 0 0))] .any
(.df (.bin .add 3) [(.q 31), (.i 1)] .one
(.again 0 [(.q 39), (.cat [(.q 32), (.q 38)])])))
(.df (.bin .gtr 3) [(.x 35 [2]), (.q 5)] .one
(.br 38 []
(.df (.bin .sub 3) [(.q 5), (.q 4)] .one
(.df (.bin .add 3) [(.q 39), (.i 1)] .one
(.df (.bin .sub 3) [(.x 35 [2]), (.q 40)] .one
(.df (.app 14 112 (.own 14 ([(.x 35 [0]), (.x 35 [1]), (.q 41)] ++ SX.Y 35 3 11))) [(.cat [(.q 32)]), (.sl 17 0 1 1)] .any
(.df (.bin .add 3) [(.q 31), (.i 1)] .one
(.again 0 [(.q 43), (.cat [(.q 32), (.q 42)])]))))))
(.df (.app 14 112 (.own 14 (SX.Y 35 0 14))) [(.cat [(.q 32)]), (.sl 17 0 1 1)] .any
(.df (.bin .add 3) [(.q 31), (.i 1)] .one
(.again 0 [(.q 40), (.cat [(.q 32), (.q 39)])])))))))
(.df (.bin .gtr 3) [(.x 35 [2]), (.q 5)] .one
(.br 37 []
(.df (.bin .sub 3) [(.q 5), (.q 4)] .one
(.df (.bin .add 3) [(.q 38), (.i 1)] .one
(.df (.bin .sub 3) [(.x 35 [2]), (.q 39)] .one
(.df (.app 14 112 (.own 14 ([(.x 35 [0]), (.x 35 [1]), (.q 40)] ++ SX.Y 35 3 11))) [(.cat [(.q 32)]), (.sl 17 0 1 1)] .any
(.df (.bin .add 3) [(.q 31), (.i 1)] .one
(.again 0 [(.q 42), (.cat [(.q 32), (.q 41)])]))))))
(.df (.app 14 112 (.own 14 (SX.Y 35 0 14))) [(.cat [(.q 32)]), (.sl 17 0 1 1)] .any
(.df (.bin .add 3) [(.q 31), (.i 1)] .one
(.again 0 [(.q 39), (.cat [(.q 32), (.q 38)])])))))))))
(.df (.call 14 [(.row 14 [(.q 32)])]) [(.row 14)] .one
(.df (.bin .neq 31) [(.q 34), (.i 0)] .one
(.br 35 []
(.ret (.t [(.k (.slice none 0 0)), (.q 34)]) (List.replicate 15 none) [])
(.ret (.t [(.row 14), (.i 0)]) (List.replicate 14 none ++ [(some ⟨[(.q 32)], 26, (.row 14)⟩)]) [])))))))))))
(.ret (.t [(.k (.slice none 0 0)), (.i 360)]) (List.replicate 11 none) [])))
(.ret (.t [(.k (.slice none 0 0)), (.i 360)]) (List.replicate 11 none) []))))))))
def args_e3 : List SX.V := [.x 0 [], .a ([.k (.int .i64 3)] ++ (List.range 21).map fun j => .x (2+j) [])]
set_option maxRecDepth 100000 in
theorem run_e3 (K A : Value → Nat → List Value → Prop) : (SX.run (cxE2 K A) ⟨fun _ => true, [⟨12, 13, [(.s 51, .one), (.s 4, .row 14 26)]⟩], 2, 100⟩ 100000 0 (SX.door 12 Try.f12 args_e3 (List.replicate 23 .one)) [.code (Try.f12.body.getD .skip), .top Try.f12]).strip = tree_e3 := by kernel_rfl
set_option maxRecDepth 100000 in
set_option maxHeartbeats 4000000 in
theorem e3_any (ss : List Sg) (A : Option Addr) (n c : Nat) (role other fr to m sn sd : Int) (sg : Sg) (w : World) (hr : Rd w 14 A n (sgsL ss)) (hn : n ≤ 9223372036854775807) (hc : n ≤ c) : Calls Try.prog 12 #[.slice A n c, valE (⟨3, role, other, fr, to, m, sn, sd, sg⟩ : Ed)] w fun e w' => Below w.heap.size w w' ∧ ∃ hdr, e = .returned (.tuple #[hdr, .int .i64 (applyE (⟨3, role, other, fr, to, m, sn, sd, sg⟩ : Ed) ss).2]) ∧ SX.SlRet w w' [] hdr 14 (sgsL (applyE (⟨3, role, other, fr, to, m, sn, sd, sg⟩ : Ed) ss).1) := by
  refine SX.calls_of_run (C := cxE2 (fun s sz cells => s = .slice A n c ∧ sz = 14 ∧ cells = sgsL ss) (fun _ _ _ => False)) (G := ⟨fun _ => true, [⟨12, 13, [(.s 51, .one), (.s 4, .row 14 26)]⟩], 2, 100⟩) (args := args_e3) (sh := (List.replicate 23 .one)) (ρ := ([.slice A n c] ++ cellsE (⟨3, role, other, fr, to, m, sn, sd, sg⟩ : Ed))) 100000 tree_e3 (okE2 _ _) Try.func12 rfl (run_e3 _ _) (by kernel_rfl) (by kernel_rfl) (by kernel_rfl) ?_ ?_
  · rintro W hW s sz cells ⟨rfl, rfl, rfl⟩; exact ⟨hr.same0 hW, hc⟩
  have hA := SX.rd_some hr
  have hln : ss.length = n := by have := hr.1; rw [sgsL_len] at this; omega
  have k1 : (fun s sz cells => s = .slice A n c ∧ sz = 14 ∧ cells = sgsL ss) (Value.slice A n c) 14 (sgsL ss) := ⟨rfl, rfl, rfl⟩
  have hu : usesE (⟨3, role, other, fr, to, m, sn, sd, sg⟩ : Ed) = (⟨3, 0, 0, fr, to, 0, 0, 0, zeroSg⟩ : Ed) := by unfold usesE; rw [if_neg (by show ¬ ((3 : Int) = 1); decide), if_neg (by show ¬ ((3 : Int) = 2); decide), if_pos rfl]
  have hrt : rightE (⟨3, role, other, fr, to, m, sn, sd, sg⟩ : Ed) ↔ 0 ≤ fr ∧ fr ≤ to ∧ to ≤ 4095 := by unfold rightE; rw [if_neg (by show ¬ ((3 : Int) = 1); decide), if_neg (by show ¬ ((3 : Int) = 2); decide), if_pos rfl]; try simp only [roleE, barsE]
  have hwk : ∀ z : Sg, workE (⟨3, role, other, fr, to, m, sn, sd, sg⟩ : Ed) z = (if fr ≤ z.bar ∧ z.bar ≤ to then some [] else if to < z.bar then some [{ z with bar := z.bar - (to - fr + 1) }] else some [z]) := fun z => by unfold workE; rw [if_neg (by show ¬ ((3 : Int) = 1); decide), if_neg (by show ¬ ((3 : Int) = 2); decide), if_pos rfl]
  unfold tree_e3
  refine SX.E (.int .i64 ((chkS ss))) (fun α => ⟨[⟨.slice A n c, 14, sgsL ss⟩], ⟨by kernel_rfl, rfl, cast (by kernel_rfl) k1, trivial⟩, .inl ⟨rfl, .slice A n c, ss, rfl, by omega, rfl⟩, SX.noAli rfl⟩) ?_
  refine SX.D (.bool (((chkS ss) : Int) != 0)) ?_
  refine SX.B (((chkS ss) : Int) != 0) (fun h24 => ?_) (fun h24 => ?_)
  · try simp only [NRM] at h24
    have hfact : applyE (⟨3, role, other, fr, to, m, sn, sd, sg⟩ : Ed) ss = ([], chkS ss) := applyE_chk h24
    exact SX.VC_ret fun α W _ hR hS => ⟨hS.below, (.slice none 0 0), Eq.trans (b := Ending.returned (.tuple #[(.slice none 0 0), .int .i64 ((chkS ss))])) (by kernel_rfl) (by rw [hfact]), (by rw [hfact]; exact SX.SlRet.nil)⟩
  try simp only [NRM] at h24
  refine SX.E (.bool (true ^^ decide ((⟨3, 0, 0, fr, to, 0, 0, 0, zeroSg⟩ : Ed) = (⟨3, role, other, fr, to, m, sn, sd, sg⟩ : Ed)))) (fun α => SX.eqr_rel (f := cellsE) cellsE_inj (y := (⟨3, 0, 0, fr, to, 0, 0, 0, zeroSg⟩ : Ed)) (z := (⟨3, role, other, fr, to, m, sn, sd, sg⟩ : Ed)) (by kernel_rfl) (by kernel_rfl) (by kernel_rfl)) ?_
  refine SX.B (true ^^ decide ((⟨3, 0, 0, fr, to, 0, 0, 0, zeroSg⟩ : Ed) = (⟨3, role, other, fr, to, m, sn, sd, sg⟩ : Ed))) (fun h25 => ?_) (fun h25 => ?_)
  · try simp only [NRM] at h25
    have hfact : applyE (⟨3, role, other, fr, to, m, sn, sd, sg⟩ : Ed) ss = ([], 360) := applyE_no h24 (fun hk => by first | exact h25 (by rw [← hu]; exact hk.2.2.1) | (have := hrt.1 hk.2.2.2; omega) | (have := hrt.1 hk.2.2.2; have := okR_iff2.2 this.2.1; omega))
    exact SX.VC_ret fun α W _ hR hS => ⟨hS.below, (.slice none 0 0), Eq.trans (b := Ending.returned (.tuple #[(.slice none 0 0), .int .i64 360])) (by kernel_rfl) (by rw [hfact]), (by rw [hfact]; exact SX.SlRet.nil)⟩
  try simp only [NRM] at h25
  refine SX.D (.bool (decide (fr ≥ 0))) ?_
  refine SX.B (decide (fr ≥ 0)) (fun h26 => ?_) (fun h26 => ?_)
  · try simp only [NRM] at h26
    refine SX.D (.bool (decide (fr ≤ to))) ?_
    refine SX.B (decide (fr ≤ to)) (fun h27 => ?_) (fun h27 => ?_)
    · try simp only [NRM] at h27
      refine SX.D (.bool (decide (to ≤ 4095))) ?_
      refine SX.D (.bool (!(decide (to ≤ 4095)))) ?_
      refine SX.B (!(decide (to ≤ 4095))) (fun h29 => ?_) (fun h29 => ?_)
      · try simp only [NRM] at h29
        have hfact : applyE (⟨3, role, other, fr, to, m, sn, sd, sg⟩ : Ed) ss = ([], 360) := applyE_no h24 (fun hk => by first | exact h25 (by rw [← hu]; exact hk.2.2.1) | (have := hrt.1 hk.2.2.2; omega) | (have := hrt.1 hk.2.2.2; have := okR_iff2.2 this.2.1; omega))
        exact SX.VC_ret fun α W _ hR hS => ⟨hS.below, (.slice none 0 0), Eq.trans (b := Ending.returned (.tuple #[(.slice none 0 0), .int .i64 360])) (by kernel_rfl) (by rw [hfact]), (by rw [hfact]; exact SX.SlRet.nil)⟩
      try simp only [NRM] at h29
      refine SX.D (.int .i64 (((n : Nat) : Int))) ?_
      have hok : okE (⟨3, role, other, fr, to, m, sn, sd, sg⟩ : Ed) := ⟨by show (1 : Int) ≤ 3; decide, by show (3 : Int) ≤ 7; decide, hu.trans h25, hrt.2 (by first | omega | (refine ⟨by omega, ?_⟩; exact ⟨okR_iff2.1 (by assumption), by omega, by omega⟩))⟩
      obtain ⟨hss, hs4⟩ := chkS_ok h24
      refine SX.VC_loop (fun xs => ∃ (i : Nat) (cur : List Sg), xs = [.int .i64 (i : Int), .agg (sgsL cur).toArray] ∧ i ≤ n ∧ accE (⟨3, role, other, fr, to, m, sn, sd, sg⟩ : Ed) (ss.take i) = some cur) (fun xs => match xs with | [.int _ i, _] => n - i.toNat | _ => 0) (fun α => ⟨0, [], by kernel_rfl, by omega, rfl⟩) ?_
      rintro xs - ⟨i, cur, rfl, hin, hacc⟩
      have hcl := acc_len hacc
      refine SX.D (.bool (decide (((i : Nat) : Int) < ((n : Nat) : Int)))) ?_
      refine SX.B (decide (((i : Nat) : Int) < ((n : Nat) : Int))) (fun h33 => ?_) (fun h33 => ?_)
      · try simp only [NRM] at h33
        obtain ⟨z, hz⟩ : ∃ z, ss[i]? = some z := ⟨_, List.getElem?_eq_getElem (by omega)⟩
        have zb := hss.1 z (List.mem_of_getElem? hz)
        rw [Sg.ok_iff] at zb
        obtain ⟨⟨z1, z2⟩, ⟨z3, z4⟩, ⟨z5, z6⟩, ⟨z7, z8⟩, ⟨z9, z10⟩, ⟨z11, z12⟩, ⟨z13, z14⟩, ⟨z15, z16⟩, ⟨z17, z18⟩, ⟨z19, z20⟩, z21⟩ := zb
        refine SX.E (.bool true) (fun α => SX.extBnd (A := A) (n := n) (c := c) (j := i) hA (by kernel_rfl) (by kernel_rfl) (by omega)) ?_
        refine SX.E (.agg (cellsSg z).toArray) (fun α => SX.extElems (f := cellsSg) (l := ss) (A := A) (n := n) (c := c) (j := i) (z := z) (fun _ => rfl) hA (by kernel_rfl) (by kernel_rfl) (by omega) (cast (by kernel_rfl) k1) hz) ?_
        refine SX.D (.bool (decide (z.bar ≥ fr))) ?_
        refine SX.B (decide (z.bar ≥ fr)) (fun h36 => ?_) (fun h36 => ?_)
        · try simp only [NRM] at h36
          refine SX.D (.bool (decide (z.bar ≤ to))) ?_
          refine SX.B (decide (z.bar ≤ to)) (fun h37 => ?_) (fun h37 => ?_)
          · try simp only [NRM] at h37
            refine SX.E (Value.agg ((([] : List Sg)).flatMap cellsSg).toArray) (fun α => SX.app_rel (f := cellsSg) (l1 := cur) (l2 := ([] : List Sg)) (fun _ => rfl) cellsSg_one (by decide) (SX.cat1 (by kernel_rfl)) (SX.src_own (by kernel_rfl)) (by simp only [LL]; omega) (by simp only [LL]; omega)) ?_
            refine SX.E (.int .i64 (((i + 1 : Nat) : Int))) (fun α => SX.W1 i) ?_
            exact SX.VC_again fun α => ⟨⟨i + 1, cur ++ (([] : List Sg)), Eq.trans (b := [.int .i64 ((i + 1 : Nat) : Int), .agg ([Value.agg (sgsL cur).toArray, Value.agg ((([] : List Sg)).flatMap cellsSg).toArray].flatMap SX.cellsV).toArray]) (by kernel_rfl) (by simp [SX.cellsV, sgsL]), by omega, acc_step hz hacc (by rw [hwk]; (try simp only [mirrorS, swapN]); (repeat' split) <;> first | rfl | (exfalso; omega))⟩, cast (by kernel_rfl) (show n - ((i + 1 : Nat) : Int).toNat < n - (i : Int).toNat by omega)⟩
          try simp only [NRM] at h37
          refine SX.D (.bool (decide (z.bar > to))) ?_
          refine SX.B (decide (z.bar > to)) (fun h38 => ?_) (fun h38 => ?_)
          · try simp only [NRM] at h38
            refine SX.E (.int .i64 (to - fr)) (fun α => SX.W (to - fr)) ?_
            refine SX.E (.int .i64 ((to - fr) + 1)) (fun α => SX.W ((to - fr) + 1)) ?_
            refine SX.E (.int .i64 (z.bar - ((to - fr) + 1))) (fun α => SX.W (z.bar - ((to - fr) + 1))) ?_
            refine SX.E (Value.agg (([(⟨z.id, z.role, z.bar - ((to - fr) + 1), z.mark, z.kind, z.side, z.dir, z.level, z.size, z.with_, z.fn, z.fd, z.tn, z.td⟩ : Sg)]).flatMap cellsSg).toArray) (fun α => SX.app_rel (f := cellsSg) (l1 := cur) (l2 := [(⟨z.id, z.role, z.bar - ((to - fr) + 1), z.mark, z.kind, z.side, z.dir, z.level, z.size, z.with_, z.fn, z.fd, z.tn, z.td⟩ : Sg)]) (fun _ => rfl) cellsSg_one (by decide) (SX.cat1 (by kernel_rfl)) (SX.src_own (by kernel_rfl)) (by simp only [LL]; omega) (by simp only [LL]; omega)) ?_
            refine SX.E (.int .i64 (((i + 1 : Nat) : Int))) (fun α => SX.W1 i) ?_
            exact SX.VC_again fun α => ⟨⟨i + 1, cur ++ [(⟨z.id, z.role, z.bar - ((to - fr) + 1), z.mark, z.kind, z.side, z.dir, z.level, z.size, z.with_, z.fn, z.fd, z.tn, z.td⟩ : Sg)], Eq.trans (b := [.int .i64 ((i + 1 : Nat) : Int), .agg ([Value.agg (sgsL cur).toArray, Value.agg (([(⟨z.id, z.role, z.bar - ((to - fr) + 1), z.mark, z.kind, z.side, z.dir, z.level, z.size, z.with_, z.fn, z.fd, z.tn, z.td⟩ : Sg)]).flatMap cellsSg).toArray].flatMap SX.cellsV).toArray]) (by kernel_rfl) (by simp [SX.cellsV, sgsL]), by omega, acc_step hz hacc (by rw [hwk]; (try simp only [mirrorS, swapN]); (repeat' split) <;> first | rfl | (exfalso; omega))⟩, cast (by kernel_rfl) (show n - ((i + 1 : Nat) : Int).toNat < n - (i : Int).toNat by omega)⟩
          try simp only [NRM] at h38
          refine SX.E (Value.agg (([z]).flatMap cellsSg).toArray) (fun α => SX.app_rel (f := cellsSg) (l1 := cur) (l2 := [z]) (fun _ => rfl) cellsSg_one (by decide) (SX.cat1 (by kernel_rfl)) (SX.src_own (by kernel_rfl)) (by simp only [LL]; omega) (by simp only [LL]; omega)) ?_
          refine SX.E (.int .i64 (((i + 1 : Nat) : Int))) (fun α => SX.W1 i) ?_
          exact SX.VC_again fun α => ⟨⟨i + 1, cur ++ [z], Eq.trans (b := [.int .i64 ((i + 1 : Nat) : Int), .agg ([Value.agg (sgsL cur).toArray, Value.agg (([z]).flatMap cellsSg).toArray].flatMap SX.cellsV).toArray]) (by kernel_rfl) (by simp [SX.cellsV, sgsL]), by omega, acc_step hz hacc (by rw [hwk]; (try simp only [mirrorS, swapN]); (repeat' split) <;> first | rfl | (exfalso; omega))⟩, cast (by kernel_rfl) (show n - ((i + 1 : Nat) : Int).toNat < n - (i : Int).toNat by omega)⟩
        try simp only [NRM] at h36
        refine SX.D (.bool (decide (z.bar > to))) ?_
        refine SX.B (decide (z.bar > to)) (fun h37 => ?_) (fun h37 => ?_)
        · try simp only [NRM] at h37
          refine SX.E (.int .i64 (to - fr)) (fun α => SX.W (to - fr)) ?_
          refine SX.E (.int .i64 ((to - fr) + 1)) (fun α => SX.W ((to - fr) + 1)) ?_
          refine SX.E (.int .i64 (z.bar - ((to - fr) + 1))) (fun α => SX.W (z.bar - ((to - fr) + 1))) ?_
          refine SX.E (Value.agg (([(⟨z.id, z.role, z.bar - ((to - fr) + 1), z.mark, z.kind, z.side, z.dir, z.level, z.size, z.with_, z.fn, z.fd, z.tn, z.td⟩ : Sg)]).flatMap cellsSg).toArray) (fun α => SX.app_rel (f := cellsSg) (l1 := cur) (l2 := [(⟨z.id, z.role, z.bar - ((to - fr) + 1), z.mark, z.kind, z.side, z.dir, z.level, z.size, z.with_, z.fn, z.fd, z.tn, z.td⟩ : Sg)]) (fun _ => rfl) cellsSg_one (by decide) (SX.cat1 (by kernel_rfl)) (SX.src_own (by kernel_rfl)) (by simp only [LL]; omega) (by simp only [LL]; omega)) ?_
          refine SX.E (.int .i64 (((i + 1 : Nat) : Int))) (fun α => SX.W1 i) ?_
          exact SX.VC_again fun α => ⟨⟨i + 1, cur ++ [(⟨z.id, z.role, z.bar - ((to - fr) + 1), z.mark, z.kind, z.side, z.dir, z.level, z.size, z.with_, z.fn, z.fd, z.tn, z.td⟩ : Sg)], Eq.trans (b := [.int .i64 ((i + 1 : Nat) : Int), .agg ([Value.agg (sgsL cur).toArray, Value.agg (([(⟨z.id, z.role, z.bar - ((to - fr) + 1), z.mark, z.kind, z.side, z.dir, z.level, z.size, z.with_, z.fn, z.fd, z.tn, z.td⟩ : Sg)]).flatMap cellsSg).toArray].flatMap SX.cellsV).toArray]) (by kernel_rfl) (by simp [SX.cellsV, sgsL]), by omega, acc_step hz hacc (by rw [hwk]; (try simp only [mirrorS, swapN]); (repeat' split) <;> first | rfl | (exfalso; omega))⟩, cast (by kernel_rfl) (show n - ((i + 1 : Nat) : Int).toNat < n - (i : Int).toNat by omega)⟩
        try simp only [NRM] at h37
        refine SX.E (Value.agg (([z]).flatMap cellsSg).toArray) (fun α => SX.app_rel (f := cellsSg) (l1 := cur) (l2 := [z]) (fun _ => rfl) cellsSg_one (by decide) (SX.cat1 (by kernel_rfl)) (SX.src_own (by kernel_rfl)) (by simp only [LL]; omega) (by simp only [LL]; omega)) ?_
        refine SX.E (.int .i64 (((i + 1 : Nat) : Int))) (fun α => SX.W1 i) ?_
        exact SX.VC_again fun α => ⟨⟨i + 1, cur ++ [z], Eq.trans (b := [.int .i64 ((i + 1 : Nat) : Int), .agg ([Value.agg (sgsL cur).toArray, Value.agg (([z]).flatMap cellsSg).toArray].flatMap SX.cellsV).toArray]) (by kernel_rfl) (by simp [SX.cellsV, sgsL]), by omega, acc_step hz hacc (by rw [hwk]; (try simp only [mirrorS, swapN]); (repeat' split) <;> first | rfl | (exfalso; omega))⟩, cast (by kernel_rfl) (show n - ((i + 1 : Nat) : Int).toNat < n - (i : Int).toNat by omega)⟩
      try simp only [NRM] at h33
      refine SX.E (.int .i64 ((chkS cur))) (fun α => ⟨[⟨(α 14).h, 14, sgsL cur⟩], ⟨Eq.trans (b := (⟨(α 14).h, 14, [Value.agg (sgsL cur).toArray].flatMap SX.cellsV⟩ : SX.Arg)) (by simp [SX.cellsV]) (by kernel_rfl), trivial⟩, .inl ⟨rfl, _, cur, rfl, by omega, rfl⟩, SX.noAli rfl⟩) ?_
      refine SX.D (.bool (((chkS cur) : Int) != 0)) ?_
      refine SX.B (((chkS cur) : Int) != 0) (fun h35 => ?_) (fun h35 => ?_)
      · try simp only [NRM] at h35
        have hfact : applyE (⟨3, role, other, fr, to, m, sn, sd, sg⟩ : Ed) ss = ([], chkS cur) := applyE_out h24 hok (by rw [← hacc, List.take_of_length_le (by omega)]) (by assumption)
        exact SX.VC_ret fun α W _ hR hS => ⟨hS.below, (.slice none 0 0), Eq.trans (b := Ending.returned (.tuple #[(.slice none 0 0), .int .i64 ((chkS cur))])) (by kernel_rfl) (by rw [hfact]), (by rw [hfact]; exact SX.SlRet.nil)⟩
      try simp only [NRM] at h35
      have hfact : applyE (⟨3, role, other, fr, to, m, sn, sd, sg⟩ : Ed) ss = (cur, 0) := applyE_ok h24 hok (by rw [← hacc, List.take_of_length_le (by omega)]) (by omega)
      exact SX.VC_ret fun α W _ hR hS => ⟨hS.below, (α 14).h, Eq.trans (b := Ending.returned (.tuple #[(α 14).h, .int .i64 0])) (by kernel_rfl) (by rw [hfact]), SX.SlRet.row hS (n := 14) (b := (⟨[(.x 32 [])], 26, (.row 14)⟩ : SX.Blk)) (by kernel_rfl) rfl (hR 14 _ (by kernel_rfl)) (Eq.trans (b := [Value.agg (sgsL cur).toArray].flatMap SX.cellsV) (by kernel_rfl) (by rw [hfact]; simp [SX.cellsV]))⟩
    try simp only [NRM] at h27
    have hfact : applyE (⟨3, role, other, fr, to, m, sn, sd, sg⟩ : Ed) ss = ([], 360) := applyE_no h24 (fun hk => by first | exact h25 (by rw [← hu]; exact hk.2.2.1) | (have := hrt.1 hk.2.2.2; omega) | (have := hrt.1 hk.2.2.2; have := okR_iff2.2 this.2.1; omega))
    exact SX.VC_ret fun α W _ hR hS => ⟨hS.below, (.slice none 0 0), Eq.trans (b := Ending.returned (.tuple #[(.slice none 0 0), .int .i64 360])) (by kernel_rfl) (by rw [hfact]), (by rw [hfact]; exact SX.SlRet.nil)⟩
  try simp only [NRM] at h26
  have hfact : applyE (⟨3, role, other, fr, to, m, sn, sd, sg⟩ : Ed) ss = ([], 360) := applyE_no h24 (fun hk => by first | exact h25 (by rw [← hu]; exact hk.2.2.1) | (have := hrt.1 hk.2.2.2; omega) | (have := hrt.1 hk.2.2.2; have := okR_iff2.2 this.2.1; omega))
  exact SX.VC_ret fun α W _ hR hS => ⟨hS.below, (.slice none 0 0), Eq.trans (b := Ending.returned (.tuple #[(.slice none 0 0), .int .i64 360])) (by kernel_rfl) (by rw [hfact]), (by rw [hfact]; exact SX.SlRet.nil)⟩
def tree_e4 : SX.Tree :=
(.df (.call 14 [(.ext 14)]) [(.q 0)] .one
(.df (.bin .neq 31) [(.q 23), (.i 0)] .one
(.br 24 []
(.ret (.t [(.k (.slice none 0 0)), (.q 23)]) [none] [])
(.df (.eqr true 22 [(.i .i64), (.i .i64), (.i .i64), (.i .i64), (.i .i64), (.i .i64), (.i .i64), (.i .i64), (.i .i64), (.i .i64), (.i .i64), (.i .i64), (.i .i64), (.i .i64), (.i .i64), (.i .i64), (.i .i64), (.i .i64), (.i .i64), (.i .i64), (.i .i64), (.i .i64)]) ([(.i 4), (.i 0), (.i 0), (.q 4), (.i 0), (.q 6), (.i 0), (.i 0), (.i 0), (.i 0), (.i 0), (.i 0), (.i 0), (.i 0), (.i 0), (.i 0), (.i 0), (.i 0), (.i 0), (.i 0), (.i 0), (.i 0), (.i 4)] ++ SX.Z 2 21) .one
(.br 25 []
(.ret (.t [(.k (.slice none 0 0)), (.i 360)]) (List.replicate 10 none) [])
(.df (.bin .geq 3) [(.q 4), (.i 0)] .one
(.br 26 []
(.df (.bin .leq 3) [(.q 4), (.i 4095)] .one
(.br 27 []
(.df (.bin .geq 3) [(.q 6), (.i 1)] .one
(.br 28 []
(.df (.bin .leq 3) [(.q 6), (.i 4095)] .one
(.df .not [(.q 29)] .one
(.br 30 []
(.ret (.t [(.k (.slice none 0 0)), (.i 360)]) (List.replicate 11 none) [])
(.df (.len false) [(.q 0)] .one
(.loop [(.i 0), (.cat [])] [.one, .any]
(.df (.bin .lss 3) [(.q 32), (.q 31)] .one
(.br 34 []
(.df .bnd [(.q 0), (.q 32)] .one
(.df (.elems 14 0 14) [(.q 0), (.q 32)] (.ag 14)
(.df (.bin .geq 3) [(.x 36 [2]), (.q 4)] .one
(.br 37 []
(.df (.bin .add 3) [(.x 36 [2]), (.q 6)] .one
(.df (.app 14 112 (.own 14 ([(.x 36 [0]), (.x 36 [1]), (.q 38)] ++ SX.Y 36 3 11))) [(.cat [(.q 33)]), (.sl 17 0 1 1)] .any
(.df (.bin .add 3) [(.q 32), (.i 1)] .one
(.again 0 [(.q 40), (.cat [(.q 33), (.q 39)])]))))
(.df (.app 14 112 (.own 14 (SX.Y 36 0 14))) [(.cat [(.q 33)]), (.sl 17 0 1 1)] .any
(.df (.bin .add 3) [(.q 32), (.i 1)] .one
(.again 0 [(.q 39), (.cat [(.q 33), (.q 38)])])))))))
(.df (.call 14 [(.row 14 [(.q 33)])]) [(.row 14)] .one
(.df (.bin .neq 31) [(.q 35), (.i 0)] .one
(.br 36 []
(.ret (.t [(.k (.slice none 0 0)), (.q 35)]) (List.replicate 15 none) [])
(.ret (.t [(.row 14), (.i 0)]) (List.replicate 14 none ++ [(some ⟨[(.q 33)], 26, (.row 14)⟩)]) [])))))))))))
(.ret (.t [(.k (.slice none 0 0)), (.i 360)]) (List.replicate 11 none) [])))
(.ret (.t [(.k (.slice none 0 0)), (.i 360)]) (List.replicate 11 none) [])))
(.ret (.t [(.k (.slice none 0 0)), (.i 360)]) (List.replicate 11 none) []))))))))
def args_e4 : List SX.V := [.x 0 [], .a ([.k (.int .i64 4)] ++ (List.range 21).map fun j => .x (2+j) [])]
set_option maxRecDepth 100000 in
theorem run_e4 (K A : Value → Nat → List Value → Prop) : (SX.run (cxE2 K A) ⟨fun _ => true, [⟨12, 13, [(.s 51, .one), (.s 4, .row 14 26)]⟩], 2, 100⟩ 100000 0 (SX.door 12 Try.f12 args_e4 (List.replicate 23 .one)) [.code (Try.f12.body.getD .skip), .top Try.f12]).strip = tree_e4 := by kernel_rfl
set_option maxRecDepth 100000 in
set_option maxHeartbeats 4000000 in
theorem e4_any (ss : List Sg) (A : Option Addr) (n c : Nat) (role other fr to m sn sd : Int) (sg : Sg) (w : World) (hr : Rd w 14 A n (sgsL ss)) (hn : n ≤ 9223372036854775807) (hc : n ≤ c) : Calls Try.prog 12 #[.slice A n c, valE (⟨4, role, other, fr, to, m, sn, sd, sg⟩ : Ed)] w fun e w' => Below w.heap.size w w' ∧ ∃ hdr, e = .returned (.tuple #[hdr, .int .i64 (applyE (⟨4, role, other, fr, to, m, sn, sd, sg⟩ : Ed) ss).2]) ∧ SX.SlRet w w' [] hdr 14 (sgsL (applyE (⟨4, role, other, fr, to, m, sn, sd, sg⟩ : Ed) ss).1) := by
  refine SX.calls_of_run (C := cxE2 (fun s sz cells => s = .slice A n c ∧ sz = 14 ∧ cells = sgsL ss) (fun _ _ _ => False)) (G := ⟨fun _ => true, [⟨12, 13, [(.s 51, .one), (.s 4, .row 14 26)]⟩], 2, 100⟩) (args := args_e4) (sh := (List.replicate 23 .one)) (ρ := ([.slice A n c] ++ cellsE (⟨4, role, other, fr, to, m, sn, sd, sg⟩ : Ed))) 100000 tree_e4 (okE2 _ _) Try.func12 rfl (run_e4 _ _) (by kernel_rfl) (by kernel_rfl) (by kernel_rfl) ?_ ?_
  · rintro W hW s sz cells ⟨rfl, rfl, rfl⟩; exact ⟨hr.same0 hW, hc⟩
  have hA := SX.rd_some hr
  have hln : ss.length = n := by have := hr.1; rw [sgsL_len] at this; omega
  have k1 : (fun s sz cells => s = .slice A n c ∧ sz = 14 ∧ cells = sgsL ss) (Value.slice A n c) 14 (sgsL ss) := ⟨rfl, rfl, rfl⟩
  have hu : usesE (⟨4, role, other, fr, to, m, sn, sd, sg⟩ : Ed) = (⟨4, 0, 0, fr, 0, m, 0, 0, zeroSg⟩ : Ed) := by unfold usesE; rw [if_neg (by show ¬ ((4 : Int) = 1); decide), if_neg (by show ¬ ((4 : Int) = 2); decide), if_neg (by show ¬ ((4 : Int) = 3); decide), if_pos rfl]
  have hrt : rightE (⟨4, role, other, fr, to, m, sn, sd, sg⟩ : Ed) ↔ 0 ≤ fr ∧ fr ≤ 4095 ∧ 1 ≤ m ∧ m ≤ 4095 := by unfold rightE; rw [if_neg (by show ¬ ((4 : Int) = 1); decide), if_neg (by show ¬ ((4 : Int) = 2); decide), if_neg (by show ¬ ((4 : Int) = 3); decide), if_pos rfl]; try simp only [roleE, barsE]
  have hwk : ∀ z : Sg, workE (⟨4, role, other, fr, to, m, sn, sd, sg⟩ : Ed) z = (if fr ≤ z.bar then some [{ z with bar := z.bar + m }] else some [z]) := fun z => by unfold workE; rw [if_neg (by show ¬ ((4 : Int) = 1); decide), if_neg (by show ¬ ((4 : Int) = 2); decide), if_neg (by show ¬ ((4 : Int) = 3); decide), if_pos rfl]
  unfold tree_e4
  refine SX.E (.int .i64 ((chkS ss))) (fun α => ⟨[⟨.slice A n c, 14, sgsL ss⟩], ⟨by kernel_rfl, rfl, cast (by kernel_rfl) k1, trivial⟩, .inl ⟨rfl, .slice A n c, ss, rfl, by omega, rfl⟩, SX.noAli rfl⟩) ?_
  refine SX.D (.bool (((chkS ss) : Int) != 0)) ?_
  refine SX.B (((chkS ss) : Int) != 0) (fun h24 => ?_) (fun h24 => ?_)
  · try simp only [NRM] at h24
    have hfact : applyE (⟨4, role, other, fr, to, m, sn, sd, sg⟩ : Ed) ss = ([], chkS ss) := applyE_chk h24
    exact SX.VC_ret fun α W _ hR hS => ⟨hS.below, (.slice none 0 0), Eq.trans (b := Ending.returned (.tuple #[(.slice none 0 0), .int .i64 ((chkS ss))])) (by kernel_rfl) (by rw [hfact]), (by rw [hfact]; exact SX.SlRet.nil)⟩
  try simp only [NRM] at h24
  refine SX.E (.bool (true ^^ decide ((⟨4, 0, 0, fr, 0, m, 0, 0, zeroSg⟩ : Ed) = (⟨4, role, other, fr, to, m, sn, sd, sg⟩ : Ed)))) (fun α => SX.eqr_rel (f := cellsE) cellsE_inj (y := (⟨4, 0, 0, fr, 0, m, 0, 0, zeroSg⟩ : Ed)) (z := (⟨4, role, other, fr, to, m, sn, sd, sg⟩ : Ed)) (by kernel_rfl) (by kernel_rfl) (by kernel_rfl)) ?_
  refine SX.B (true ^^ decide ((⟨4, 0, 0, fr, 0, m, 0, 0, zeroSg⟩ : Ed) = (⟨4, role, other, fr, to, m, sn, sd, sg⟩ : Ed))) (fun h25 => ?_) (fun h25 => ?_)
  · try simp only [NRM] at h25
    have hfact : applyE (⟨4, role, other, fr, to, m, sn, sd, sg⟩ : Ed) ss = ([], 360) := applyE_no h24 (fun hk => by first | exact h25 (by rw [← hu]; exact hk.2.2.1) | (have := hrt.1 hk.2.2.2; omega) | (have := hrt.1 hk.2.2.2; have := okR_iff2.2 this.2.1; omega))
    exact SX.VC_ret fun α W _ hR hS => ⟨hS.below, (.slice none 0 0), Eq.trans (b := Ending.returned (.tuple #[(.slice none 0 0), .int .i64 360])) (by kernel_rfl) (by rw [hfact]), (by rw [hfact]; exact SX.SlRet.nil)⟩
  try simp only [NRM] at h25
  refine SX.D (.bool (decide (fr ≥ 0))) ?_
  refine SX.B (decide (fr ≥ 0)) (fun h26 => ?_) (fun h26 => ?_)
  · try simp only [NRM] at h26
    refine SX.D (.bool (decide (fr ≤ 4095))) ?_
    refine SX.B (decide (fr ≤ 4095)) (fun h27 => ?_) (fun h27 => ?_)
    · try simp only [NRM] at h27
      refine SX.D (.bool (decide (m ≥ 1))) ?_
      refine SX.B (decide (m ≥ 1)) (fun h28 => ?_) (fun h28 => ?_)
      · try simp only [NRM] at h28
        refine SX.D (.bool (decide (m ≤ 4095))) ?_
        refine SX.D (.bool (!(decide (m ≤ 4095)))) ?_
        refine SX.B (!(decide (m ≤ 4095))) (fun h30 => ?_) (fun h30 => ?_)
        · try simp only [NRM] at h30
          have hfact : applyE (⟨4, role, other, fr, to, m, sn, sd, sg⟩ : Ed) ss = ([], 360) := applyE_no h24 (fun hk => by first | exact h25 (by rw [← hu]; exact hk.2.2.1) | (have := hrt.1 hk.2.2.2; omega) | (have := hrt.1 hk.2.2.2; have := okR_iff2.2 this.2.1; omega))
          exact SX.VC_ret fun α W _ hR hS => ⟨hS.below, (.slice none 0 0), Eq.trans (b := Ending.returned (.tuple #[(.slice none 0 0), .int .i64 360])) (by kernel_rfl) (by rw [hfact]), (by rw [hfact]; exact SX.SlRet.nil)⟩
        try simp only [NRM] at h30
        refine SX.D (.int .i64 (((n : Nat) : Int))) ?_
        have hok : okE (⟨4, role, other, fr, to, m, sn, sd, sg⟩ : Ed) := ⟨by show (1 : Int) ≤ 4; decide, by show (4 : Int) ≤ 7; decide, hu.trans h25, hrt.2 (by first | omega | (refine ⟨by omega, ?_⟩; exact ⟨okR_iff2.1 (by assumption), by omega, by omega⟩))⟩
        obtain ⟨hss, hs4⟩ := chkS_ok h24
        refine SX.VC_loop (fun xs => ∃ (i : Nat) (cur : List Sg), xs = [.int .i64 (i : Int), .agg (sgsL cur).toArray] ∧ i ≤ n ∧ accE (⟨4, role, other, fr, to, m, sn, sd, sg⟩ : Ed) (ss.take i) = some cur) (fun xs => match xs with | [.int _ i, _] => n - i.toNat | _ => 0) (fun α => ⟨0, [], by kernel_rfl, by omega, rfl⟩) ?_
        rintro xs - ⟨i, cur, rfl, hin, hacc⟩
        have hcl := acc_len hacc
        refine SX.D (.bool (decide (((i : Nat) : Int) < ((n : Nat) : Int)))) ?_
        refine SX.B (decide (((i : Nat) : Int) < ((n : Nat) : Int))) (fun h34 => ?_) (fun h34 => ?_)
        · try simp only [NRM] at h34
          obtain ⟨z, hz⟩ : ∃ z, ss[i]? = some z := ⟨_, List.getElem?_eq_getElem (by omega)⟩
          have zb := hss.1 z (List.mem_of_getElem? hz)
          rw [Sg.ok_iff] at zb
          obtain ⟨⟨z1, z2⟩, ⟨z3, z4⟩, ⟨z5, z6⟩, ⟨z7, z8⟩, ⟨z9, z10⟩, ⟨z11, z12⟩, ⟨z13, z14⟩, ⟨z15, z16⟩, ⟨z17, z18⟩, ⟨z19, z20⟩, z21⟩ := zb
          refine SX.E (.bool true) (fun α => SX.extBnd (A := A) (n := n) (c := c) (j := i) hA (by kernel_rfl) (by kernel_rfl) (by omega)) ?_
          refine SX.E (.agg (cellsSg z).toArray) (fun α => SX.extElems (f := cellsSg) (l := ss) (A := A) (n := n) (c := c) (j := i) (z := z) (fun _ => rfl) hA (by kernel_rfl) (by kernel_rfl) (by omega) (cast (by kernel_rfl) k1) hz) ?_
          refine SX.D (.bool (decide (z.bar ≥ fr))) ?_
          refine SX.B (decide (z.bar ≥ fr)) (fun h37 => ?_) (fun h37 => ?_)
          · try simp only [NRM] at h37
            refine SX.E (.int .i64 (z.bar + m)) (fun α => SX.W (z.bar + m)) ?_
            refine SX.E (Value.agg (([(⟨z.id, z.role, z.bar + m, z.mark, z.kind, z.side, z.dir, z.level, z.size, z.with_, z.fn, z.fd, z.tn, z.td⟩ : Sg)]).flatMap cellsSg).toArray) (fun α => SX.app_rel (f := cellsSg) (l1 := cur) (l2 := [(⟨z.id, z.role, z.bar + m, z.mark, z.kind, z.side, z.dir, z.level, z.size, z.with_, z.fn, z.fd, z.tn, z.td⟩ : Sg)]) (fun _ => rfl) cellsSg_one (by decide) (SX.cat1 (by kernel_rfl)) (SX.src_own (by kernel_rfl)) (by simp only [LL]; omega) (by simp only [LL]; omega)) ?_
            refine SX.E (.int .i64 (((i + 1 : Nat) : Int))) (fun α => SX.W1 i) ?_
            exact SX.VC_again fun α => ⟨⟨i + 1, cur ++ [(⟨z.id, z.role, z.bar + m, z.mark, z.kind, z.side, z.dir, z.level, z.size, z.with_, z.fn, z.fd, z.tn, z.td⟩ : Sg)], Eq.trans (b := [.int .i64 ((i + 1 : Nat) : Int), .agg ([Value.agg (sgsL cur).toArray, Value.agg (([(⟨z.id, z.role, z.bar + m, z.mark, z.kind, z.side, z.dir, z.level, z.size, z.with_, z.fn, z.fd, z.tn, z.td⟩ : Sg)]).flatMap cellsSg).toArray].flatMap SX.cellsV).toArray]) (by kernel_rfl) (by simp [SX.cellsV, sgsL]), by omega, acc_step hz hacc (by rw [hwk]; (try simp only [mirrorS, swapN]); (repeat' split) <;> first | rfl | (exfalso; omega))⟩, cast (by kernel_rfl) (show n - ((i + 1 : Nat) : Int).toNat < n - (i : Int).toNat by omega)⟩
          try simp only [NRM] at h37
          refine SX.E (Value.agg (([z]).flatMap cellsSg).toArray) (fun α => SX.app_rel (f := cellsSg) (l1 := cur) (l2 := [z]) (fun _ => rfl) cellsSg_one (by decide) (SX.cat1 (by kernel_rfl)) (SX.src_own (by kernel_rfl)) (by simp only [LL]; omega) (by simp only [LL]; omega)) ?_
          refine SX.E (.int .i64 (((i + 1 : Nat) : Int))) (fun α => SX.W1 i) ?_
          exact SX.VC_again fun α => ⟨⟨i + 1, cur ++ [z], Eq.trans (b := [.int .i64 ((i + 1 : Nat) : Int), .agg ([Value.agg (sgsL cur).toArray, Value.agg (([z]).flatMap cellsSg).toArray].flatMap SX.cellsV).toArray]) (by kernel_rfl) (by simp [SX.cellsV, sgsL]), by omega, acc_step hz hacc (by rw [hwk]; (try simp only [mirrorS, swapN]); (repeat' split) <;> first | rfl | (exfalso; omega))⟩, cast (by kernel_rfl) (show n - ((i + 1 : Nat) : Int).toNat < n - (i : Int).toNat by omega)⟩
        try simp only [NRM] at h34
        refine SX.E (.int .i64 ((chkS cur))) (fun α => ⟨[⟨(α 14).h, 14, sgsL cur⟩], ⟨Eq.trans (b := (⟨(α 14).h, 14, [Value.agg (sgsL cur).toArray].flatMap SX.cellsV⟩ : SX.Arg)) (by simp [SX.cellsV]) (by kernel_rfl), trivial⟩, .inl ⟨rfl, _, cur, rfl, by omega, rfl⟩, SX.noAli rfl⟩) ?_
        refine SX.D (.bool (((chkS cur) : Int) != 0)) ?_
        refine SX.B (((chkS cur) : Int) != 0) (fun h36 => ?_) (fun h36 => ?_)
        · try simp only [NRM] at h36
          have hfact : applyE (⟨4, role, other, fr, to, m, sn, sd, sg⟩ : Ed) ss = ([], chkS cur) := applyE_out h24 hok (by rw [← hacc, List.take_of_length_le (by omega)]) (by assumption)
          exact SX.VC_ret fun α W _ hR hS => ⟨hS.below, (.slice none 0 0), Eq.trans (b := Ending.returned (.tuple #[(.slice none 0 0), .int .i64 ((chkS cur))])) (by kernel_rfl) (by rw [hfact]), (by rw [hfact]; exact SX.SlRet.nil)⟩
        try simp only [NRM] at h36
        have hfact : applyE (⟨4, role, other, fr, to, m, sn, sd, sg⟩ : Ed) ss = (cur, 0) := applyE_ok h24 hok (by rw [← hacc, List.take_of_length_le (by omega)]) (by omega)
        exact SX.VC_ret fun α W _ hR hS => ⟨hS.below, (α 14).h, Eq.trans (b := Ending.returned (.tuple #[(α 14).h, .int .i64 0])) (by kernel_rfl) (by rw [hfact]), SX.SlRet.row hS (n := 14) (b := (⟨[(.x 33 [])], 26, (.row 14)⟩ : SX.Blk)) (by kernel_rfl) rfl (hR 14 _ (by kernel_rfl)) (Eq.trans (b := [Value.agg (sgsL cur).toArray].flatMap SX.cellsV) (by kernel_rfl) (by rw [hfact]; simp [SX.cellsV]))⟩
      try simp only [NRM] at h28
      have hfact : applyE (⟨4, role, other, fr, to, m, sn, sd, sg⟩ : Ed) ss = ([], 360) := applyE_no h24 (fun hk => by first | exact h25 (by rw [← hu]; exact hk.2.2.1) | (have := hrt.1 hk.2.2.2; omega) | (have := hrt.1 hk.2.2.2; have := okR_iff2.2 this.2.1; omega))
      exact SX.VC_ret fun α W _ hR hS => ⟨hS.below, (.slice none 0 0), Eq.trans (b := Ending.returned (.tuple #[(.slice none 0 0), .int .i64 360])) (by kernel_rfl) (by rw [hfact]), (by rw [hfact]; exact SX.SlRet.nil)⟩
    try simp only [NRM] at h27
    have hfact : applyE (⟨4, role, other, fr, to, m, sn, sd, sg⟩ : Ed) ss = ([], 360) := applyE_no h24 (fun hk => by first | exact h25 (by rw [← hu]; exact hk.2.2.1) | (have := hrt.1 hk.2.2.2; omega) | (have := hrt.1 hk.2.2.2; have := okR_iff2.2 this.2.1; omega))
    exact SX.VC_ret fun α W _ hR hS => ⟨hS.below, (.slice none 0 0), Eq.trans (b := Ending.returned (.tuple #[(.slice none 0 0), .int .i64 360])) (by kernel_rfl) (by rw [hfact]), (by rw [hfact]; exact SX.SlRet.nil)⟩
  try simp only [NRM] at h26
  have hfact : applyE (⟨4, role, other, fr, to, m, sn, sd, sg⟩ : Ed) ss = ([], 360) := applyE_no h24 (fun hk => by first | exact h25 (by rw [← hu]; exact hk.2.2.1) | (have := hrt.1 hk.2.2.2; omega) | (have := hrt.1 hk.2.2.2; have := okR_iff2.2 this.2.1; omega))
  exact SX.VC_ret fun α W _ hR hS => ⟨hS.below, (.slice none 0 0), Eq.trans (b := Ending.returned (.tuple #[(.slice none 0 0), .int .i64 360])) (by kernel_rfl) (by rw [hfact]), (by rw [hfact]; exact SX.SlRet.nil)⟩
def tree_e2 : SX.Tree :=
(.df (.call 14 [(.ext 14)]) [(.q 0)] .one
(.df (.bin .neq 31) [(.q 23), (.i 0)] .one
(.br 24 []
(.ret (.t [(.k (.slice none 0 0)), (.q 23)]) [none] [])
(.df (.eqr true 22 [(.i .i64), (.i .i64), (.i .i64), (.i .i64), (.i .i64), (.i .i64), (.i .i64), (.i .i64), (.i .i64), (.i .i64), (.i .i64), (.i .i64), (.i .i64), (.i .i64), (.i .i64), (.i .i64), (.i .i64), (.i .i64), (.i .i64), (.i .i64), (.i .i64), (.i .i64)]) ([(.i 2), (.q 2), (.i 0)] ++ SX.Z 4 3 ++ [(.i 0), (.i 0), (.i 0), (.i 0), (.i 0), (.i 0), (.i 0), (.i 0), (.i 0), (.i 0), (.i 0), (.i 0), (.i 0), (.i 0), (.i 0), (.i 0), (.i 2)] ++ SX.Z 2 21) .one
(.br 25 []
(.ret (.t [(.k (.slice none 0 0)), (.i 360)]) (List.replicate 13 none) [])
(.df (.bin .geq 3) [(.q 2), (.i 0)] .one
(.br 26 []
(.df (.bin .leq 3) [(.q 2), (.i 64)] .one
(.br 27 []
(.df (.bin .geq 3) [(.q 4), (.i 0)] .one
(.br 28 []
(.df (.bin .leq 3) [(.q 4), (.q 5)] .one
(.br 29 []
(.df (.bin .leq 3) [(.q 5), (.i 4095)] .one
(.br 30 []
(.df (.bin .geq 3) [(.q 6), (.i 1)] .one
(.br 31 []
(.df (.bin .leq 3) [(.q 6), (.i 7)] .one
(.df .not [(.q 32)] .one
(.br 33 []
(.ret (.t [(.k (.slice none 0 0)), (.i 360)]) (List.replicate 16 none) [])
(.df (.len false) [(.q 0)] .one
(.loop [(.i 0), (.cat [])] [.one, .any]
(.df (.bin .lss 3) [(.q 35), (.q 34)] .one
(.br 37 []
(.df .bnd [(.q 0), (.q 35)] .one
(.df (.elems 14 0 14) [(.q 0), (.q 35)] (.ag 14)
(.df (.bin .geq 3) [(.x 39 [2]), (.q 4)] .one
(.br 40 []
(.df (.bin .leq 3) [(.x 39 [2]), (.q 5)] .one
(.br 41 []
(.df (.bin .eql 3) [(.q 2), (.i 0)] .one
(.br 42 []
(.df (.bin .gtr 3) [(.x 39 [6]), (.i 0)] .one
(.br 43 []
(.df (.bin .sub 3) [(.x 39 [6]), (.i 1)] .one
(.df (.bin .add 3) [(.q 44), (.q 6)] .one
(.df (.bin .rem 3) [(.q 45), (.i 8)] .one
(.df (.bin .add 3) [(.q 46), (.i 1)] .one
(.df (.app 14 112 (.own 14 (SX.Y 39 0 6 ++ [(.q 47)] ++ SX.Y 39 7 7))) [(.cat [(.q 36)]), (.sl 38 0 1 1)] .any
(.df (.bin .add 3) [(.q 35), (.i 1)] .one
(.again 0 [(.q 49), (.cat [(.q 36), (.q 48)])])))))))
(.df (.app 14 112 (.own 14 (SX.Y 39 0 14))) [(.cat [(.q 36)]), (.sl 24 0 1 1)] .any
(.df (.bin .add 3) [(.q 35), (.i 1)] .one
(.again 0 [(.q 45), (.cat [(.q 36), (.q 44)])])))))
(.df (.bin .sub 3) [(.q 2), (.i 1)] .one
(.df (.bin .eql 3) [(.x 39 [1]), (.q 43)] .one
(.br 44 []
(.df (.bin .gtr 3) [(.x 39 [6]), (.i 0)] .one
(.br 45 []
(.df (.bin .sub 3) [(.x 39 [6]), (.i 1)] .one
(.df (.bin .add 3) [(.q 46), (.q 6)] .one
(.df (.bin .rem 3) [(.q 47), (.i 8)] .one
(.df (.bin .add 3) [(.q 48), (.i 1)] .one
(.df (.app 14 112 (.own 14 (SX.Y 39 0 6 ++ [(.q 49)] ++ SX.Y 39 7 7))) [(.cat [(.q 36)]), (.sl 38 0 1 1)] .any
(.df (.bin .add 3) [(.q 35), (.i 1)] .one
(.again 0 [(.q 51), (.cat [(.q 36), (.q 50)])])))))))
(.df (.app 14 112 (.own 14 (SX.Y 39 0 14))) [(.cat [(.q 36)]), (.sl 24 0 1 1)] .any
(.df (.bin .add 3) [(.q 35), (.i 1)] .one
(.again 0 [(.q 47), (.cat [(.q 36), (.q 46)])])))))
(.df (.app 14 112 (.own 14 (SX.Y 39 0 14))) [(.cat [(.q 36)]), (.sl 24 0 1 1)] .any
(.df (.bin .add 3) [(.q 35), (.i 1)] .one
(.again 0 [(.q 46), (.cat [(.q 36), (.q 45)])]))))))))
(.df (.app 14 112 (.own 14 (SX.Y 39 0 14))) [(.cat [(.q 36)]), (.sl 24 0 1 1)] .any
(.df (.bin .add 3) [(.q 35), (.i 1)] .one
(.again 0 [(.q 43), (.cat [(.q 36), (.q 42)])])))))
(.df (.app 14 112 (.own 14 (SX.Y 39 0 14))) [(.cat [(.q 36)]), (.sl 24 0 1 1)] .any
(.df (.bin .add 3) [(.q 35), (.i 1)] .one
(.again 0 [(.q 42), (.cat [(.q 36), (.q 41)])])))))))
(.df (.call 14 [(.row 14 [(.q 36)])]) [(.row 21)] .one
(.df (.bin .neq 31) [(.q 38), (.i 0)] .one
(.br 39 []
(.ret (.t [(.k (.slice none 0 0)), (.q 38)]) (List.replicate 22 none) [])
(.ret (.t [(.row 21), (.i 0)]) (List.replicate 21 none ++ [(some ⟨[(.q 36)], 26, (.row 14)⟩)]) [])))))))))))
(.ret (.t [(.k (.slice none 0 0)), (.i 360)]) (List.replicate 16 none) [])))
(.ret (.t [(.k (.slice none 0 0)), (.i 360)]) (List.replicate 16 none) [])))
(.ret (.t [(.k (.slice none 0 0)), (.i 360)]) (List.replicate 16 none) [])))
(.ret (.t [(.k (.slice none 0 0)), (.i 360)]) (List.replicate 16 none) [])))
(.ret (.t [(.k (.slice none 0 0)), (.i 360)]) (List.replicate 15 none) [])))
(.ret (.t [(.k (.slice none 0 0)), (.i 360)]) (List.replicate 15 none) []))))))))
def args_e2 : List SX.V := [.x 0 [], .a ([.k (.int .i64 2)] ++ (List.range 21).map fun j => .x (2+j) [])]
set_option maxRecDepth 100000 in
theorem run_e2 (K A : Value → Nat → List Value → Prop) : (SX.run (cxE2 K A) ⟨fun _ => true, [⟨12, 13, [(.s 51, .one), (.s 4, .row 14 26)]⟩], 2, 100⟩ 100000 0 (SX.door 12 Try.f12 args_e2 (List.replicate 23 .one)) [.code (Try.f12.body.getD .skip), .top Try.f12]).strip = tree_e2 := by kernel_rfl
set_option maxRecDepth 100000 in
set_option maxHeartbeats 4000000 in
theorem e2_any (ss : List Sg) (A : Option Addr) (n c : Nat) (role other fr to m sn sd : Int) (sg : Sg) (w : World) (hr : Rd w 14 A n (sgsL ss)) (hn : n ≤ 9223372036854775807) (hc : n ≤ c) : Calls Try.prog 12 #[.slice A n c, valE (⟨2, role, other, fr, to, m, sn, sd, sg⟩ : Ed)] w fun e w' => Below w.heap.size w w' ∧ ∃ hdr, e = .returned (.tuple #[hdr, .int .i64 (applyE (⟨2, role, other, fr, to, m, sn, sd, sg⟩ : Ed) ss).2]) ∧ SX.SlRet w w' [] hdr 14 (sgsL (applyE (⟨2, role, other, fr, to, m, sn, sd, sg⟩ : Ed) ss).1) := by
  refine SX.calls_of_run (C := cxE2 (fun s sz cells => s = .slice A n c ∧ sz = 14 ∧ cells = sgsL ss) (fun _ _ _ => False)) (G := ⟨fun _ => true, [⟨12, 13, [(.s 51, .one), (.s 4, .row 14 26)]⟩], 2, 100⟩) (args := args_e2) (sh := (List.replicate 23 .one)) (ρ := ([.slice A n c] ++ cellsE (⟨2, role, other, fr, to, m, sn, sd, sg⟩ : Ed))) 100000 tree_e2 (okE2 _ _) Try.func12 rfl (run_e2 _ _) (by kernel_rfl) (by kernel_rfl) (by kernel_rfl) ?_ ?_
  · rintro W hW s sz cells ⟨rfl, rfl, rfl⟩; exact ⟨hr.same0 hW, hc⟩
  have hA := SX.rd_some hr
  have hln : ss.length = n := by have := hr.1; rw [sgsL_len] at this; omega
  have k1 : (fun s sz cells => s = .slice A n c ∧ sz = 14 ∧ cells = sgsL ss) (Value.slice A n c) 14 (sgsL ss) := ⟨rfl, rfl, rfl⟩
  have hu : usesE (⟨2, role, other, fr, to, m, sn, sd, sg⟩ : Ed) = (⟨2, role, 0, fr, to, m, 0, 0, zeroSg⟩ : Ed) := by unfold usesE; rw [if_neg (by show ¬ ((2 : Int) = 1); decide), if_pos rfl]
  have hrt : rightE (⟨2, role, other, fr, to, m, sn, sd, sg⟩ : Ed) ↔ (0 ≤ role ∧ role ≤ 64 ∧ 0 ≤ fr ∧ fr ≤ to ∧ to ≤ 4095) ∧ 1 ≤ m ∧ m ≤ 7 := by unfold rightE; rw [if_neg (by show ¬ ((2 : Int) = 1); decide), if_pos rfl]; try simp only [roleE, barsE]
  have hwk : ∀ z : Sg, workE (⟨2, role, other, fr, to, m, sn, sd, sg⟩ : Ed) z = (if (fr ≤ z.bar ∧ z.bar ≤ to ∧ (role = 0 ∨ z.role = role - 1)) ∧ 0 < z.dir then some [{ z with dir := (z.dir - 1 + m) % 8 + 1 }] else some [z]) := fun z => by unfold workE; rw [if_neg (by show ¬ ((2 : Int) = 1); decide), if_pos rfl]
  unfold tree_e2
  refine SX.E (.int .i64 ((chkS ss))) (fun α => ⟨[⟨.slice A n c, 14, sgsL ss⟩], ⟨by kernel_rfl, rfl, cast (by kernel_rfl) k1, trivial⟩, .inl ⟨rfl, .slice A n c, ss, rfl, by omega, rfl⟩, SX.noAli rfl⟩) ?_
  refine SX.D (.bool (((chkS ss) : Int) != 0)) ?_
  refine SX.B (((chkS ss) : Int) != 0) (fun h24 => ?_) (fun h24 => ?_)
  · try simp only [NRM] at h24
    have hfact : applyE (⟨2, role, other, fr, to, m, sn, sd, sg⟩ : Ed) ss = ([], chkS ss) := applyE_chk h24
    exact SX.VC_ret fun α W _ hR hS => ⟨hS.below, (.slice none 0 0), Eq.trans (b := Ending.returned (.tuple #[(.slice none 0 0), .int .i64 ((chkS ss))])) (by kernel_rfl) (by rw [hfact]), (by rw [hfact]; exact SX.SlRet.nil)⟩
  try simp only [NRM] at h24
  refine SX.E (.bool (true ^^ decide ((⟨2, role, 0, fr, to, m, 0, 0, zeroSg⟩ : Ed) = (⟨2, role, other, fr, to, m, sn, sd, sg⟩ : Ed)))) (fun α => SX.eqr_rel (f := cellsE) cellsE_inj (y := (⟨2, role, 0, fr, to, m, 0, 0, zeroSg⟩ : Ed)) (z := (⟨2, role, other, fr, to, m, sn, sd, sg⟩ : Ed)) (by kernel_rfl) (by kernel_rfl) (by kernel_rfl)) ?_
  refine SX.B (true ^^ decide ((⟨2, role, 0, fr, to, m, 0, 0, zeroSg⟩ : Ed) = (⟨2, role, other, fr, to, m, sn, sd, sg⟩ : Ed))) (fun h25 => ?_) (fun h25 => ?_)
  · try simp only [NRM] at h25
    have hfact : applyE (⟨2, role, other, fr, to, m, sn, sd, sg⟩ : Ed) ss = ([], 360) := applyE_no h24 (fun hk => by first | exact h25 (by rw [← hu]; exact hk.2.2.1) | (have := hrt.1 hk.2.2.2; omega) | (have := hrt.1 hk.2.2.2; have := okR_iff2.2 this.2.1; omega))
    exact SX.VC_ret fun α W _ hR hS => ⟨hS.below, (.slice none 0 0), Eq.trans (b := Ending.returned (.tuple #[(.slice none 0 0), .int .i64 360])) (by kernel_rfl) (by rw [hfact]), (by rw [hfact]; exact SX.SlRet.nil)⟩
  try simp only [NRM] at h25
  refine SX.D (.bool (decide (role ≥ 0))) ?_
  refine SX.B (decide (role ≥ 0)) (fun h26 => ?_) (fun h26 => ?_)
  · try simp only [NRM] at h26
    refine SX.D (.bool (decide (role ≤ 64))) ?_
    refine SX.B (decide (role ≤ 64)) (fun h27 => ?_) (fun h27 => ?_)
    · try simp only [NRM] at h27
      refine SX.D (.bool (decide (fr ≥ 0))) ?_
      refine SX.B (decide (fr ≥ 0)) (fun h28 => ?_) (fun h28 => ?_)
      · try simp only [NRM] at h28
        refine SX.D (.bool (decide (fr ≤ to))) ?_
        refine SX.B (decide (fr ≤ to)) (fun h29 => ?_) (fun h29 => ?_)
        · try simp only [NRM] at h29
          refine SX.D (.bool (decide (to ≤ 4095))) ?_
          refine SX.B (decide (to ≤ 4095)) (fun h30 => ?_) (fun h30 => ?_)
          · try simp only [NRM] at h30
            refine SX.D (.bool (decide (m ≥ 1))) ?_
            refine SX.B (decide (m ≥ 1)) (fun h31 => ?_) (fun h31 => ?_)
            · try simp only [NRM] at h31
              refine SX.D (.bool (decide (m ≤ 7))) ?_
              refine SX.D (.bool (!(decide (m ≤ 7)))) ?_
              refine SX.B (!(decide (m ≤ 7))) (fun h33 => ?_) (fun h33 => ?_)
              · try simp only [NRM] at h33
                have hfact : applyE (⟨2, role, other, fr, to, m, sn, sd, sg⟩ : Ed) ss = ([], 360) := applyE_no h24 (fun hk => by first | exact h25 (by rw [← hu]; exact hk.2.2.1) | (have := hrt.1 hk.2.2.2; omega) | (have := hrt.1 hk.2.2.2; have := okR_iff2.2 this.2.1; omega))
                exact SX.VC_ret fun α W _ hR hS => ⟨hS.below, (.slice none 0 0), Eq.trans (b := Ending.returned (.tuple #[(.slice none 0 0), .int .i64 360])) (by kernel_rfl) (by rw [hfact]), (by rw [hfact]; exact SX.SlRet.nil)⟩
              try simp only [NRM] at h33
              refine SX.D (.int .i64 (((n : Nat) : Int))) ?_
              have hok : okE (⟨2, role, other, fr, to, m, sn, sd, sg⟩ : Ed) := ⟨by show (1 : Int) ≤ 2; decide, by show (2 : Int) ≤ 7; decide, hu.trans h25, hrt.2 (by first | omega | (refine ⟨by omega, ?_⟩; exact ⟨okR_iff2.1 (by assumption), by omega, by omega⟩))⟩
              obtain ⟨hss, hs4⟩ := chkS_ok h24
              refine SX.VC_loop (fun xs => ∃ (i : Nat) (cur : List Sg), xs = [.int .i64 (i : Int), .agg (sgsL cur).toArray] ∧ i ≤ n ∧ accE (⟨2, role, other, fr, to, m, sn, sd, sg⟩ : Ed) (ss.take i) = some cur) (fun xs => match xs with | [.int _ i, _] => n - i.toNat | _ => 0) (fun α => ⟨0, [], by kernel_rfl, by omega, rfl⟩) ?_
              rintro xs - ⟨i, cur, rfl, hin, hacc⟩
              have hcl := acc_len hacc
              refine SX.D (.bool (decide (((i : Nat) : Int) < ((n : Nat) : Int)))) ?_
              refine SX.B (decide (((i : Nat) : Int) < ((n : Nat) : Int))) (fun h37 => ?_) (fun h37 => ?_)
              · try simp only [NRM] at h37
                obtain ⟨z, hz⟩ : ∃ z, ss[i]? = some z := ⟨_, List.getElem?_eq_getElem (by omega)⟩
                have zb := hss.1 z (List.mem_of_getElem? hz)
                rw [Sg.ok_iff] at zb
                obtain ⟨⟨z1, z2⟩, ⟨z3, z4⟩, ⟨z5, z6⟩, ⟨z7, z8⟩, ⟨z9, z10⟩, ⟨z11, z12⟩, ⟨z13, z14⟩, ⟨z15, z16⟩, ⟨z17, z18⟩, ⟨z19, z20⟩, z21⟩ := zb
                refine SX.E (.bool true) (fun α => SX.extBnd (A := A) (n := n) (c := c) (j := i) hA (by kernel_rfl) (by kernel_rfl) (by omega)) ?_
                refine SX.E (.agg (cellsSg z).toArray) (fun α => SX.extElems (f := cellsSg) (l := ss) (A := A) (n := n) (c := c) (j := i) (z := z) (fun _ => rfl) hA (by kernel_rfl) (by kernel_rfl) (by omega) (cast (by kernel_rfl) k1) hz) ?_
                refine SX.D (.bool (decide (z.bar ≥ fr))) ?_
                refine SX.B (decide (z.bar ≥ fr)) (fun h40 => ?_) (fun h40 => ?_)
                · try simp only [NRM] at h40
                  refine SX.D (.bool (decide (z.bar ≤ to))) ?_
                  refine SX.B (decide (z.bar ≤ to)) (fun h41 => ?_) (fun h41 => ?_)
                  · try simp only [NRM] at h41
                    refine SX.D (.bool ((role : Int) == 0)) ?_
                    refine SX.B ((role : Int) == 0) (fun h42 => ?_) (fun h42 => ?_)
                    · try simp only [NRM] at h42
                      refine SX.D (.bool (decide (z.dir > 0))) ?_
                      refine SX.B (decide (z.dir > 0)) (fun h43 => ?_) (fun h43 => ?_)
                      · try simp only [NRM] at h43
                        refine SX.E (.int .i64 (z.dir - 1)) (fun α => SX.W (z.dir - 1)) ?_
                        refine SX.E (.int .i64 ((z.dir - 1) + m)) (fun α => SX.W ((z.dir - 1) + m)) ?_
                        refine SX.E (.int .i64 (((z.dir - 1) + m) % 8)) (fun α => Eq.trans (b := SX.binV .rem (.int .i64 ((z.dir - 1) + m)) (.int .i64 8)) (by kernel_rfl) (rem8 (by omega) (by omega))) ?_
                        refine SX.E (.int .i64 ((((z.dir - 1) + m) % 8) + 1)) (fun α => Eq.trans (b := some (.int .i64 (IntKind.i64.wrap ((((z.dir - 1) + m) % 8) + 1)))) (by kernel_rfl) (by rw [wrap_i64 (by omega) (by omega)])) ?_
                        refine SX.E (Value.agg (([(⟨z.id, z.role, z.bar, z.mark, z.kind, z.side, (((z.dir - 1) + m) % 8) + 1, z.level, z.size, z.with_, z.fn, z.fd, z.tn, z.td⟩ : Sg)]).flatMap cellsSg).toArray) (fun α => SX.app_rel (f := cellsSg) (l1 := cur) (l2 := [(⟨z.id, z.role, z.bar, z.mark, z.kind, z.side, (((z.dir - 1) + m) % 8) + 1, z.level, z.size, z.with_, z.fn, z.fd, z.tn, z.td⟩ : Sg)]) (fun _ => rfl) cellsSg_one (by decide) (SX.cat1 (by kernel_rfl)) (SX.src_own (by kernel_rfl)) (by simp only [LL]; omega) (by simp only [LL]; omega)) ?_
                        refine SX.E (.int .i64 (((i + 1 : Nat) : Int))) (fun α => SX.W1 i) ?_
                        exact SX.VC_again fun α => ⟨⟨i + 1, cur ++ [(⟨z.id, z.role, z.bar, z.mark, z.kind, z.side, (((z.dir - 1) + m) % 8) + 1, z.level, z.size, z.with_, z.fn, z.fd, z.tn, z.td⟩ : Sg)], Eq.trans (b := [.int .i64 ((i + 1 : Nat) : Int), .agg ([Value.agg (sgsL cur).toArray, Value.agg (([(⟨z.id, z.role, z.bar, z.mark, z.kind, z.side, (((z.dir - 1) + m) % 8) + 1, z.level, z.size, z.with_, z.fn, z.fd, z.tn, z.td⟩ : Sg)]).flatMap cellsSg).toArray].flatMap SX.cellsV).toArray]) (by kernel_rfl) (by simp [SX.cellsV, sgsL]), by omega, acc_step hz hacc (by rw [hwk]; (try simp only [mirrorS, swapN]); (repeat' split) <;> first | rfl | (exfalso; omega))⟩, cast (by kernel_rfl) (show n - ((i + 1 : Nat) : Int).toNat < n - (i : Int).toNat by omega)⟩
                      try simp only [NRM] at h43
                      refine SX.E (Value.agg (([z]).flatMap cellsSg).toArray) (fun α => SX.app_rel (f := cellsSg) (l1 := cur) (l2 := [z]) (fun _ => rfl) cellsSg_one (by decide) (SX.cat1 (by kernel_rfl)) (SX.src_own (by kernel_rfl)) (by simp only [LL]; omega) (by simp only [LL]; omega)) ?_
                      refine SX.E (.int .i64 (((i + 1 : Nat) : Int))) (fun α => SX.W1 i) ?_
                      exact SX.VC_again fun α => ⟨⟨i + 1, cur ++ [z], Eq.trans (b := [.int .i64 ((i + 1 : Nat) : Int), .agg ([Value.agg (sgsL cur).toArray, Value.agg (([z]).flatMap cellsSg).toArray].flatMap SX.cellsV).toArray]) (by kernel_rfl) (by simp [SX.cellsV, sgsL]), by omega, acc_step hz hacc (by rw [hwk]; (try simp only [mirrorS, swapN]); (repeat' split) <;> first | rfl | (exfalso; omega))⟩, cast (by kernel_rfl) (show n - ((i + 1 : Nat) : Int).toNat < n - (i : Int).toNat by omega)⟩
                    try simp only [NRM] at h42
                    refine SX.E (.int .i64 (role - 1)) (fun α => SX.W (role - 1)) ?_
                    refine SX.D (.bool ((z.role : Int) == role - 1)) ?_
                    refine SX.B ((z.role : Int) == role - 1) (fun h44 => ?_) (fun h44 => ?_)
                    · try simp only [NRM] at h44
                      refine SX.D (.bool (decide (z.dir > 0))) ?_
                      refine SX.B (decide (z.dir > 0)) (fun h45 => ?_) (fun h45 => ?_)
                      · try simp only [NRM] at h45
                        refine SX.E (.int .i64 (z.dir - 1)) (fun α => SX.W (z.dir - 1)) ?_
                        refine SX.E (.int .i64 ((z.dir - 1) + m)) (fun α => SX.W ((z.dir - 1) + m)) ?_
                        refine SX.E (.int .i64 (((z.dir - 1) + m) % 8)) (fun α => Eq.trans (b := SX.binV .rem (.int .i64 ((z.dir - 1) + m)) (.int .i64 8)) (by kernel_rfl) (rem8 (by omega) (by omega))) ?_
                        refine SX.E (.int .i64 ((((z.dir - 1) + m) % 8) + 1)) (fun α => Eq.trans (b := some (.int .i64 (IntKind.i64.wrap ((((z.dir - 1) + m) % 8) + 1)))) (by kernel_rfl) (by rw [wrap_i64 (by omega) (by omega)])) ?_
                        refine SX.E (Value.agg (([(⟨z.id, z.role, z.bar, z.mark, z.kind, z.side, (((z.dir - 1) + m) % 8) + 1, z.level, z.size, z.with_, z.fn, z.fd, z.tn, z.td⟩ : Sg)]).flatMap cellsSg).toArray) (fun α => SX.app_rel (f := cellsSg) (l1 := cur) (l2 := [(⟨z.id, z.role, z.bar, z.mark, z.kind, z.side, (((z.dir - 1) + m) % 8) + 1, z.level, z.size, z.with_, z.fn, z.fd, z.tn, z.td⟩ : Sg)]) (fun _ => rfl) cellsSg_one (by decide) (SX.cat1 (by kernel_rfl)) (SX.src_own (by kernel_rfl)) (by simp only [LL]; omega) (by simp only [LL]; omega)) ?_
                        refine SX.E (.int .i64 (((i + 1 : Nat) : Int))) (fun α => SX.W1 i) ?_
                        exact SX.VC_again fun α => ⟨⟨i + 1, cur ++ [(⟨z.id, z.role, z.bar, z.mark, z.kind, z.side, (((z.dir - 1) + m) % 8) + 1, z.level, z.size, z.with_, z.fn, z.fd, z.tn, z.td⟩ : Sg)], Eq.trans (b := [.int .i64 ((i + 1 : Nat) : Int), .agg ([Value.agg (sgsL cur).toArray, Value.agg (([(⟨z.id, z.role, z.bar, z.mark, z.kind, z.side, (((z.dir - 1) + m) % 8) + 1, z.level, z.size, z.with_, z.fn, z.fd, z.tn, z.td⟩ : Sg)]).flatMap cellsSg).toArray].flatMap SX.cellsV).toArray]) (by kernel_rfl) (by simp [SX.cellsV, sgsL]), by omega, acc_step hz hacc (by rw [hwk]; (try simp only [mirrorS, swapN]); (repeat' split) <;> first | rfl | (exfalso; omega))⟩, cast (by kernel_rfl) (show n - ((i + 1 : Nat) : Int).toNat < n - (i : Int).toNat by omega)⟩
                      try simp only [NRM] at h45
                      refine SX.E (Value.agg (([z]).flatMap cellsSg).toArray) (fun α => SX.app_rel (f := cellsSg) (l1 := cur) (l2 := [z]) (fun _ => rfl) cellsSg_one (by decide) (SX.cat1 (by kernel_rfl)) (SX.src_own (by kernel_rfl)) (by simp only [LL]; omega) (by simp only [LL]; omega)) ?_
                      refine SX.E (.int .i64 (((i + 1 : Nat) : Int))) (fun α => SX.W1 i) ?_
                      exact SX.VC_again fun α => ⟨⟨i + 1, cur ++ [z], Eq.trans (b := [.int .i64 ((i + 1 : Nat) : Int), .agg ([Value.agg (sgsL cur).toArray, Value.agg (([z]).flatMap cellsSg).toArray].flatMap SX.cellsV).toArray]) (by kernel_rfl) (by simp [SX.cellsV, sgsL]), by omega, acc_step hz hacc (by rw [hwk]; (try simp only [mirrorS, swapN]); (repeat' split) <;> first | rfl | (exfalso; omega))⟩, cast (by kernel_rfl) (show n - ((i + 1 : Nat) : Int).toNat < n - (i : Int).toNat by omega)⟩
                    try simp only [NRM] at h44
                    refine SX.E (Value.agg (([z]).flatMap cellsSg).toArray) (fun α => SX.app_rel (f := cellsSg) (l1 := cur) (l2 := [z]) (fun _ => rfl) cellsSg_one (by decide) (SX.cat1 (by kernel_rfl)) (SX.src_own (by kernel_rfl)) (by simp only [LL]; omega) (by simp only [LL]; omega)) ?_
                    refine SX.E (.int .i64 (((i + 1 : Nat) : Int))) (fun α => SX.W1 i) ?_
                    exact SX.VC_again fun α => ⟨⟨i + 1, cur ++ [z], Eq.trans (b := [.int .i64 ((i + 1 : Nat) : Int), .agg ([Value.agg (sgsL cur).toArray, Value.agg (([z]).flatMap cellsSg).toArray].flatMap SX.cellsV).toArray]) (by kernel_rfl) (by simp [SX.cellsV, sgsL]), by omega, acc_step hz hacc (by rw [hwk]; (try simp only [mirrorS, swapN]); (repeat' split) <;> first | rfl | (exfalso; omega))⟩, cast (by kernel_rfl) (show n - ((i + 1 : Nat) : Int).toNat < n - (i : Int).toNat by omega)⟩
                  try simp only [NRM] at h41
                  refine SX.E (Value.agg (([z]).flatMap cellsSg).toArray) (fun α => SX.app_rel (f := cellsSg) (l1 := cur) (l2 := [z]) (fun _ => rfl) cellsSg_one (by decide) (SX.cat1 (by kernel_rfl)) (SX.src_own (by kernel_rfl)) (by simp only [LL]; omega) (by simp only [LL]; omega)) ?_
                  refine SX.E (.int .i64 (((i + 1 : Nat) : Int))) (fun α => SX.W1 i) ?_
                  exact SX.VC_again fun α => ⟨⟨i + 1, cur ++ [z], Eq.trans (b := [.int .i64 ((i + 1 : Nat) : Int), .agg ([Value.agg (sgsL cur).toArray, Value.agg (([z]).flatMap cellsSg).toArray].flatMap SX.cellsV).toArray]) (by kernel_rfl) (by simp [SX.cellsV, sgsL]), by omega, acc_step hz hacc (by rw [hwk]; (try simp only [mirrorS, swapN]); (repeat' split) <;> first | rfl | (exfalso; omega))⟩, cast (by kernel_rfl) (show n - ((i + 1 : Nat) : Int).toNat < n - (i : Int).toNat by omega)⟩
                try simp only [NRM] at h40
                refine SX.E (Value.agg (([z]).flatMap cellsSg).toArray) (fun α => SX.app_rel (f := cellsSg) (l1 := cur) (l2 := [z]) (fun _ => rfl) cellsSg_one (by decide) (SX.cat1 (by kernel_rfl)) (SX.src_own (by kernel_rfl)) (by simp only [LL]; omega) (by simp only [LL]; omega)) ?_
                refine SX.E (.int .i64 (((i + 1 : Nat) : Int))) (fun α => SX.W1 i) ?_
                exact SX.VC_again fun α => ⟨⟨i + 1, cur ++ [z], Eq.trans (b := [.int .i64 ((i + 1 : Nat) : Int), .agg ([Value.agg (sgsL cur).toArray, Value.agg (([z]).flatMap cellsSg).toArray].flatMap SX.cellsV).toArray]) (by kernel_rfl) (by simp [SX.cellsV, sgsL]), by omega, acc_step hz hacc (by rw [hwk]; (try simp only [mirrorS, swapN]); (repeat' split) <;> first | rfl | (exfalso; omega))⟩, cast (by kernel_rfl) (show n - ((i + 1 : Nat) : Int).toNat < n - (i : Int).toNat by omega)⟩
              try simp only [NRM] at h37
              refine SX.E (.int .i64 ((chkS cur))) (fun α => ⟨[⟨(α 21).h, 14, sgsL cur⟩], ⟨Eq.trans (b := (⟨(α 21).h, 14, [Value.agg (sgsL cur).toArray].flatMap SX.cellsV⟩ : SX.Arg)) (by simp [SX.cellsV]) (by kernel_rfl), trivial⟩, .inl ⟨rfl, _, cur, rfl, by omega, rfl⟩, SX.noAli rfl⟩) ?_
              refine SX.D (.bool (((chkS cur) : Int) != 0)) ?_
              refine SX.B (((chkS cur) : Int) != 0) (fun h39 => ?_) (fun h39 => ?_)
              · try simp only [NRM] at h39
                have hfact : applyE (⟨2, role, other, fr, to, m, sn, sd, sg⟩ : Ed) ss = ([], chkS cur) := applyE_out h24 hok (by rw [← hacc, List.take_of_length_le (by omega)]) (by assumption)
                exact SX.VC_ret fun α W _ hR hS => ⟨hS.below, (.slice none 0 0), Eq.trans (b := Ending.returned (.tuple #[(.slice none 0 0), .int .i64 ((chkS cur))])) (by kernel_rfl) (by rw [hfact]), (by rw [hfact]; exact SX.SlRet.nil)⟩
              try simp only [NRM] at h39
              have hfact : applyE (⟨2, role, other, fr, to, m, sn, sd, sg⟩ : Ed) ss = (cur, 0) := applyE_ok h24 hok (by rw [← hacc, List.take_of_length_le (by omega)]) (by omega)
              exact SX.VC_ret fun α W _ hR hS => ⟨hS.below, (α 21).h, Eq.trans (b := Ending.returned (.tuple #[(α 21).h, .int .i64 0])) (by kernel_rfl) (by rw [hfact]), SX.SlRet.row hS (n := 21) (b := (⟨[(.x 36 [])], 26, (.row 14)⟩ : SX.Blk)) (by kernel_rfl) rfl (hR 21 _ (by kernel_rfl)) (Eq.trans (b := [Value.agg (sgsL cur).toArray].flatMap SX.cellsV) (by kernel_rfl) (by rw [hfact]; simp [SX.cellsV]))⟩
            try simp only [NRM] at h31
            have hfact : applyE (⟨2, role, other, fr, to, m, sn, sd, sg⟩ : Ed) ss = ([], 360) := applyE_no h24 (fun hk => by first | exact h25 (by rw [← hu]; exact hk.2.2.1) | (have := hrt.1 hk.2.2.2; omega) | (have := hrt.1 hk.2.2.2; have := okR_iff2.2 this.2.1; omega))
            exact SX.VC_ret fun α W _ hR hS => ⟨hS.below, (.slice none 0 0), Eq.trans (b := Ending.returned (.tuple #[(.slice none 0 0), .int .i64 360])) (by kernel_rfl) (by rw [hfact]), (by rw [hfact]; exact SX.SlRet.nil)⟩
          try simp only [NRM] at h30
          have hfact : applyE (⟨2, role, other, fr, to, m, sn, sd, sg⟩ : Ed) ss = ([], 360) := applyE_no h24 (fun hk => by first | exact h25 (by rw [← hu]; exact hk.2.2.1) | (have := hrt.1 hk.2.2.2; omega) | (have := hrt.1 hk.2.2.2; have := okR_iff2.2 this.2.1; omega))
          exact SX.VC_ret fun α W _ hR hS => ⟨hS.below, (.slice none 0 0), Eq.trans (b := Ending.returned (.tuple #[(.slice none 0 0), .int .i64 360])) (by kernel_rfl) (by rw [hfact]), (by rw [hfact]; exact SX.SlRet.nil)⟩
        try simp only [NRM] at h29
        have hfact : applyE (⟨2, role, other, fr, to, m, sn, sd, sg⟩ : Ed) ss = ([], 360) := applyE_no h24 (fun hk => by first | exact h25 (by rw [← hu]; exact hk.2.2.1) | (have := hrt.1 hk.2.2.2; omega) | (have := hrt.1 hk.2.2.2; have := okR_iff2.2 this.2.1; omega))
        exact SX.VC_ret fun α W _ hR hS => ⟨hS.below, (.slice none 0 0), Eq.trans (b := Ending.returned (.tuple #[(.slice none 0 0), .int .i64 360])) (by kernel_rfl) (by rw [hfact]), (by rw [hfact]; exact SX.SlRet.nil)⟩
      try simp only [NRM] at h28
      have hfact : applyE (⟨2, role, other, fr, to, m, sn, sd, sg⟩ : Ed) ss = ([], 360) := applyE_no h24 (fun hk => by first | exact h25 (by rw [← hu]; exact hk.2.2.1) | (have := hrt.1 hk.2.2.2; omega) | (have := hrt.1 hk.2.2.2; have := okR_iff2.2 this.2.1; omega))
      exact SX.VC_ret fun α W _ hR hS => ⟨hS.below, (.slice none 0 0), Eq.trans (b := Ending.returned (.tuple #[(.slice none 0 0), .int .i64 360])) (by kernel_rfl) (by rw [hfact]), (by rw [hfact]; exact SX.SlRet.nil)⟩
    try simp only [NRM] at h27
    have hfact : applyE (⟨2, role, other, fr, to, m, sn, sd, sg⟩ : Ed) ss = ([], 360) := applyE_no h24 (fun hk => by first | exact h25 (by rw [← hu]; exact hk.2.2.1) | (have := hrt.1 hk.2.2.2; omega) | (have := hrt.1 hk.2.2.2; have := okR_iff2.2 this.2.1; omega))
    exact SX.VC_ret fun α W _ hR hS => ⟨hS.below, (.slice none 0 0), Eq.trans (b := Ending.returned (.tuple #[(.slice none 0 0), .int .i64 360])) (by kernel_rfl) (by rw [hfact]), (by rw [hfact]; exact SX.SlRet.nil)⟩
  try simp only [NRM] at h26
  have hfact : applyE (⟨2, role, other, fr, to, m, sn, sd, sg⟩ : Ed) ss = ([], 360) := applyE_no h24 (fun hk => by first | exact h25 (by rw [← hu]; exact hk.2.2.1) | (have := hrt.1 hk.2.2.2; omega) | (have := hrt.1 hk.2.2.2; have := okR_iff2.2 this.2.1; omega))
  exact SX.VC_ret fun α W _ hR hS => ⟨hS.below, (.slice none 0 0), Eq.trans (b := Ending.returned (.tuple #[(.slice none 0 0), .int .i64 360])) (by kernel_rfl) (by rw [hfact]), (by rw [hfact]; exact SX.SlRet.nil)⟩
def tree_e1 : SX.Tree :=
(.df (.call 14 [(.ext 14)]) [(.q 0)] .one
(.df (.bin .neq 31) [(.q 23), (.i 0)] .one
(.br 24 []
(.ret (.t [(.k (.slice none 0 0)), (.q 23)]) [none] [])
(.df (.eqr true 22 [(.i .i64), (.i .i64), (.i .i64), (.i .i64), (.i .i64), (.i .i64), (.i .i64), (.i .i64), (.i .i64), (.i .i64), (.i .i64), (.i .i64), (.i .i64), (.i .i64), (.i .i64), (.i .i64), (.i .i64), (.i .i64), (.i .i64), (.i .i64), (.i .i64), (.i .i64)]) ([(.i 1), (.q 2), (.i 0), (.q 4), (.q 5), (.i 0), (.i 0), (.i 0), (.i 0), (.i 0), (.i 0), (.i 0), (.i 0), (.i 0), (.i 0), (.i 0), (.i 0), (.i 0), (.i 0), (.i 0), (.i 0), (.i 0), (.i 1)] ++ SX.Z 2 21) .one
(.br 25 []
(.ret (.t [(.k (.slice none 0 0)), (.i 360)]) (List.replicate 10 none) [])
(.df (.bin .geq 3) [(.q 2), (.i 0)] .one
(.br 26 []
(.df (.bin .leq 3) [(.q 2), (.i 64)] .one
(.br 27 []
(.df (.bin .geq 3) [(.q 4), (.i 0)] .one
(.br 28 []
(.df (.bin .leq 3) [(.q 4), (.q 5)] .one
(.br 29 []
(.df (.bin .leq 3) [(.q 5), (.i 4095)] .one
(.df .not [(.q 30)] .one
(.br 31 []
(.ret (.t [(.k (.slice none 0 0)), (.i 360)]) (List.replicate 12 none) [])
(.df (.len false) [(.q 0)] .one
(.loop [(.i 0), (.cat [])] [.one, .any]
(.df (.bin .lss 3) [(.q 33), (.q 32)] .one
(.br 35 []
(.df .bnd [(.q 0), (.q 33)] .one
(.df (.elems 14 0 14) [(.q 0), (.q 33)] (.ag 14)
(.df (.bin .geq 3) [(.x 37 [2]), (.q 4)] .one
(.br 38 []
(.df (.bin .leq 3) [(.x 37 [2]), (.q 5)] .one
(.br 39 []
(.df (.bin .eql 3) [(.q 2), (.i 0)] .one
(.br 40 []
(.df (.bin .eql 3) [(.x 37 [5]), (.i 1)] .one
(.br 41 []
(.df (.bin .gtr 3) [(.x 37 [6]), (.i 1)] .one
(.br 42 []
(.df (.bin .sub 3) [(.i 10), (.x 37 [6])] .one
(.df (.bin .eql 3) [(.x 37 [4]), (.i 6)] .one
(.br 44 []
(.df (.bin .geq 3) [(.x 37 [8]), (.i 1)] .one
(.br 45 []
(.df (.bin .leq 3) [(.x 37 [8]), (.i 7)] .one
(.br 46 []
(.df (.bin .sub 3) [(.i 8), (.x 37 [8])] .one
(.df (.app 14 112 (.own 14 (SX.Y 37 0 5 ++ [(.i 2), (.q 43), (.x 37 [7]), (.q 47)] ++ SX.Y 37 9 5))) [(.cat [(.q 34)]), (.sl 20 0 1 1)] .any
(.df (.bin .add 3) [(.q 33), (.i 1)] .one
(.again 0 [(.q 49), (.cat [(.q 34), (.q 48)])]))))
(.df (.app 14 112 (.own 14 (SX.Y 37 0 5 ++ [(.i 2), (.q 43)] ++ SX.Y 37 7 7))) [(.cat [(.q 34)]), (.sl 20 0 1 1)] .any
(.df (.bin .add 3) [(.q 33), (.i 1)] .one
(.again 0 [(.q 48), (.cat [(.q 34), (.q 47)])])))))
(.df (.app 14 112 (.own 14 (SX.Y 37 0 5 ++ [(.i 2), (.q 43)] ++ SX.Y 37 7 7))) [(.cat [(.q 34)]), (.sl 20 0 1 1)] .any
(.df (.bin .add 3) [(.q 33), (.i 1)] .one
(.again 0 [(.q 47), (.cat [(.q 34), (.q 46)])])))))
(.df (.app 14 112 (.own 14 (SX.Y 37 0 5 ++ [(.i 2), (.q 43)] ++ SX.Y 37 7 7))) [(.cat [(.q 34)]), (.sl 20 0 1 1)] .any
(.df (.bin .add 3) [(.q 33), (.i 1)] .one
(.again 0 [(.q 46), (.cat [(.q 34), (.q 45)])]))))))
(.df (.bin .eql 3) [(.x 37 [4]), (.i 6)] .one
(.br 43 []
(.df (.bin .geq 3) [(.x 37 [8]), (.i 1)] .one
(.br 44 []
(.df (.bin .leq 3) [(.x 37 [8]), (.i 7)] .one
(.br 45 []
(.df (.bin .sub 3) [(.i 8), (.x 37 [8])] .one
(.df (.app 14 112 (.own 14 (SX.Y 37 0 5 ++ [(.i 2), (.x 37 [6]), (.x 37 [7]), (.q 46)] ++ SX.Y 37 9 5))) [(.cat [(.q 34)]), (.sl 20 0 1 1)] .any
(.df (.bin .add 3) [(.q 33), (.i 1)] .one
(.again 0 [(.q 48), (.cat [(.q 34), (.q 47)])]))))
(.df (.app 14 112 (.own 14 (SX.Y 37 0 5 ++ [(.i 2)] ++ SX.Y 37 6 8))) [(.cat [(.q 34)]), (.sl 20 0 1 1)] .any
(.df (.bin .add 3) [(.q 33), (.i 1)] .one
(.again 0 [(.q 47), (.cat [(.q 34), (.q 46)])])))))
(.df (.app 14 112 (.own 14 (SX.Y 37 0 5 ++ [(.i 2)] ++ SX.Y 37 6 8))) [(.cat [(.q 34)]), (.sl 20 0 1 1)] .any
(.df (.bin .add 3) [(.q 33), (.i 1)] .one
(.again 0 [(.q 46), (.cat [(.q 34), (.q 45)])])))))
(.df (.app 14 112 (.own 14 (SX.Y 37 0 5 ++ [(.i 2)] ++ SX.Y 37 6 8))) [(.cat [(.q 34)]), (.sl 20 0 1 1)] .any
(.df (.bin .add 3) [(.q 33), (.i 1)] .one
(.again 0 [(.q 45), (.cat [(.q 34), (.q 44)])])))))))
(.df (.bin .eql 3) [(.x 37 [5]), (.i 2)] .one
(.br 42 []
(.df (.bin .gtr 3) [(.x 37 [6]), (.i 1)] .one
(.br 43 []
(.df (.bin .sub 3) [(.i 10), (.x 37 [6])] .one
(.df (.bin .eql 3) [(.x 37 [4]), (.i 6)] .one
(.br 45 []
(.df (.bin .geq 3) [(.x 37 [8]), (.i 1)] .one
(.br 46 []
(.df (.bin .leq 3) [(.x 37 [8]), (.i 7)] .one
(.br 47 []
(.df (.bin .sub 3) [(.i 8), (.x 37 [8])] .one
(.df (.app 14 112 (.own 14 (SX.Y 37 0 5 ++ [(.i 1), (.q 44), (.x 37 [7]), (.q 48)] ++ SX.Y 37 9 5))) [(.cat [(.q 34)]), (.sl 20 0 1 1)] .any
(.df (.bin .add 3) [(.q 33), (.i 1)] .one
(.again 0 [(.q 50), (.cat [(.q 34), (.q 49)])]))))
(.df (.app 14 112 (.own 14 (SX.Y 37 0 5 ++ [(.i 1), (.q 44)] ++ SX.Y 37 7 7))) [(.cat [(.q 34)]), (.sl 20 0 1 1)] .any
(.df (.bin .add 3) [(.q 33), (.i 1)] .one
(.again 0 [(.q 49), (.cat [(.q 34), (.q 48)])])))))
(.df (.app 14 112 (.own 14 (SX.Y 37 0 5 ++ [(.i 1), (.q 44)] ++ SX.Y 37 7 7))) [(.cat [(.q 34)]), (.sl 20 0 1 1)] .any
(.df (.bin .add 3) [(.q 33), (.i 1)] .one
(.again 0 [(.q 48), (.cat [(.q 34), (.q 47)])])))))
(.df (.app 14 112 (.own 14 (SX.Y 37 0 5 ++ [(.i 1), (.q 44)] ++ SX.Y 37 7 7))) [(.cat [(.q 34)]), (.sl 20 0 1 1)] .any
(.df (.bin .add 3) [(.q 33), (.i 1)] .one
(.again 0 [(.q 47), (.cat [(.q 34), (.q 46)])]))))))
(.df (.bin .eql 3) [(.x 37 [4]), (.i 6)] .one
(.br 44 []
(.df (.bin .geq 3) [(.x 37 [8]), (.i 1)] .one
(.br 45 []
(.df (.bin .leq 3) [(.x 37 [8]), (.i 7)] .one
(.br 46 []
(.df (.bin .sub 3) [(.i 8), (.x 37 [8])] .one
(.df (.app 14 112 (.own 14 (SX.Y 37 0 5 ++ [(.i 1), (.x 37 [6]), (.x 37 [7]), (.q 47)] ++ SX.Y 37 9 5))) [(.cat [(.q 34)]), (.sl 20 0 1 1)] .any
(.df (.bin .add 3) [(.q 33), (.i 1)] .one
(.again 0 [(.q 49), (.cat [(.q 34), (.q 48)])]))))
(.df (.app 14 112 (.own 14 (SX.Y 37 0 5 ++ [(.i 1)] ++ SX.Y 37 6 8))) [(.cat [(.q 34)]), (.sl 20 0 1 1)] .any
(.df (.bin .add 3) [(.q 33), (.i 1)] .one
(.again 0 [(.q 48), (.cat [(.q 34), (.q 47)])])))))
(.df (.app 14 112 (.own 14 (SX.Y 37 0 5 ++ [(.i 1)] ++ SX.Y 37 6 8))) [(.cat [(.q 34)]), (.sl 20 0 1 1)] .any
(.df (.bin .add 3) [(.q 33), (.i 1)] .one
(.again 0 [(.q 47), (.cat [(.q 34), (.q 46)])])))))
(.df (.app 14 112 (.own 14 (SX.Y 37 0 5 ++ [(.i 1)] ++ SX.Y 37 6 8))) [(.cat [(.q 34)]), (.sl 20 0 1 1)] .any
(.df (.bin .add 3) [(.q 33), (.i 1)] .one
(.again 0 [(.q 46), (.cat [(.q 34), (.q 45)])])))))))
(.df (.bin .gtr 3) [(.x 37 [6]), (.i 1)] .one
(.br 43 []
(.df (.bin .sub 3) [(.i 10), (.x 37 [6])] .one
(.df (.bin .eql 3) [(.x 37 [4]), (.i 6)] .one
(.br 45 []
(.df (.bin .geq 3) [(.x 37 [8]), (.i 1)] .one
(.br 46 []
(.df (.bin .leq 3) [(.x 37 [8]), (.i 7)] .one
(.br 47 []
(.df (.bin .sub 3) [(.i 8), (.x 37 [8])] .one
(.df (.app 14 112 (.own 14 (SX.Y 37 0 6 ++ [(.q 44), (.x 37 [7]), (.q 48)] ++ SX.Y 37 9 5))) [(.cat [(.q 34)]), (.sl 20 0 1 1)] .any
(.df (.bin .add 3) [(.q 33), (.i 1)] .one
(.again 0 [(.q 50), (.cat [(.q 34), (.q 49)])]))))
(.df (.app 14 112 (.own 14 (SX.Y 37 0 6 ++ [(.q 44)] ++ SX.Y 37 7 7))) [(.cat [(.q 34)]), (.sl 20 0 1 1)] .any
(.df (.bin .add 3) [(.q 33), (.i 1)] .one
(.again 0 [(.q 49), (.cat [(.q 34), (.q 48)])])))))
(.df (.app 14 112 (.own 14 (SX.Y 37 0 6 ++ [(.q 44)] ++ SX.Y 37 7 7))) [(.cat [(.q 34)]), (.sl 20 0 1 1)] .any
(.df (.bin .add 3) [(.q 33), (.i 1)] .one
(.again 0 [(.q 48), (.cat [(.q 34), (.q 47)])])))))
(.df (.app 14 112 (.own 14 (SX.Y 37 0 6 ++ [(.q 44)] ++ SX.Y 37 7 7))) [(.cat [(.q 34)]), (.sl 20 0 1 1)] .any
(.df (.bin .add 3) [(.q 33), (.i 1)] .one
(.again 0 [(.q 47), (.cat [(.q 34), (.q 46)])]))))))
(.df (.bin .eql 3) [(.x 37 [4]), (.i 6)] .one
(.br 44 []
(.df (.bin .geq 3) [(.x 37 [8]), (.i 1)] .one
(.br 45 []
(.df (.bin .leq 3) [(.x 37 [8]), (.i 7)] .one
(.br 46 []
(.df (.bin .sub 3) [(.i 8), (.x 37 [8])] .one
(.df (.app 14 112 (.own 14 (SX.Y 37 0 8 ++ [(.q 47)] ++ SX.Y 37 9 5))) [(.cat [(.q 34)]), (.sl 20 0 1 1)] .any
(.df (.bin .add 3) [(.q 33), (.i 1)] .one
(.again 0 [(.q 49), (.cat [(.q 34), (.q 48)])]))))
(.df (.app 14 112 (.own 14 (SX.Y 37 0 14))) [(.cat [(.q 34)]), (.sl 20 0 1 1)] .any
(.df (.bin .add 3) [(.q 33), (.i 1)] .one
(.again 0 [(.q 48), (.cat [(.q 34), (.q 47)])])))))
(.df (.app 14 112 (.own 14 (SX.Y 37 0 14))) [(.cat [(.q 34)]), (.sl 20 0 1 1)] .any
(.df (.bin .add 3) [(.q 33), (.i 1)] .one
(.again 0 [(.q 47), (.cat [(.q 34), (.q 46)])])))))
(.df (.app 14 112 (.own 14 (SX.Y 37 0 14))) [(.cat [(.q 34)]), (.sl 20 0 1 1)] .any
(.df (.bin .add 3) [(.q 33), (.i 1)] .one
(.again 0 [(.q 46), (.cat [(.q 34), (.q 45)])])))))))))))
(.df (.bin .sub 3) [(.q 2), (.i 1)] .one
(.df (.bin .eql 3) [(.x 37 [1]), (.q 41)] .one
(.br 42 []
(.df (.bin .eql 3) [(.x 37 [5]), (.i 1)] .one
(.br 43 []
(.df (.bin .gtr 3) [(.x 37 [6]), (.i 1)] .one
(.br 44 []
(.df (.bin .sub 3) [(.i 10), (.x 37 [6])] .one
(.df (.bin .eql 3) [(.x 37 [4]), (.i 6)] .one
(.br 46 []
(.df (.bin .geq 3) [(.x 37 [8]), (.i 1)] .one
(.br 47 []
(.df (.bin .leq 3) [(.x 37 [8]), (.i 7)] .one
(.br 48 []
(.df (.bin .sub 3) [(.i 8), (.x 37 [8])] .one
(.df (.app 14 112 (.own 14 (SX.Y 37 0 5 ++ [(.i 2), (.q 45), (.x 37 [7]), (.q 49)] ++ SX.Y 37 9 5))) [(.cat [(.q 34)]), (.sl 20 0 1 1)] .any
(.df (.bin .add 3) [(.q 33), (.i 1)] .one
(.again 0 [(.q 51), (.cat [(.q 34), (.q 50)])]))))
(.df (.app 14 112 (.own 14 (SX.Y 37 0 5 ++ [(.i 2), (.q 45)] ++ SX.Y 37 7 7))) [(.cat [(.q 34)]), (.sl 20 0 1 1)] .any
(.df (.bin .add 3) [(.q 33), (.i 1)] .one
(.again 0 [(.q 50), (.cat [(.q 34), (.q 49)])])))))
(.df (.app 14 112 (.own 14 (SX.Y 37 0 5 ++ [(.i 2), (.q 45)] ++ SX.Y 37 7 7))) [(.cat [(.q 34)]), (.sl 20 0 1 1)] .any
(.df (.bin .add 3) [(.q 33), (.i 1)] .one
(.again 0 [(.q 49), (.cat [(.q 34), (.q 48)])])))))
(.df (.app 14 112 (.own 14 (SX.Y 37 0 5 ++ [(.i 2), (.q 45)] ++ SX.Y 37 7 7))) [(.cat [(.q 34)]), (.sl 20 0 1 1)] .any
(.df (.bin .add 3) [(.q 33), (.i 1)] .one
(.again 0 [(.q 48), (.cat [(.q 34), (.q 47)])]))))))
(.df (.bin .eql 3) [(.x 37 [4]), (.i 6)] .one
(.br 45 []
(.df (.bin .geq 3) [(.x 37 [8]), (.i 1)] .one
(.br 46 []
(.df (.bin .leq 3) [(.x 37 [8]), (.i 7)] .one
(.br 47 []
(.df (.bin .sub 3) [(.i 8), (.x 37 [8])] .one
(.df (.app 14 112 (.own 14 (SX.Y 37 0 5 ++ [(.i 2), (.x 37 [6]), (.x 37 [7]), (.q 48)] ++ SX.Y 37 9 5))) [(.cat [(.q 34)]), (.sl 20 0 1 1)] .any
(.df (.bin .add 3) [(.q 33), (.i 1)] .one
(.again 0 [(.q 50), (.cat [(.q 34), (.q 49)])]))))
(.df (.app 14 112 (.own 14 (SX.Y 37 0 5 ++ [(.i 2)] ++ SX.Y 37 6 8))) [(.cat [(.q 34)]), (.sl 20 0 1 1)] .any
(.df (.bin .add 3) [(.q 33), (.i 1)] .one
(.again 0 [(.q 49), (.cat [(.q 34), (.q 48)])])))))
(.df (.app 14 112 (.own 14 (SX.Y 37 0 5 ++ [(.i 2)] ++ SX.Y 37 6 8))) [(.cat [(.q 34)]), (.sl 20 0 1 1)] .any
(.df (.bin .add 3) [(.q 33), (.i 1)] .one
(.again 0 [(.q 48), (.cat [(.q 34), (.q 47)])])))))
(.df (.app 14 112 (.own 14 (SX.Y 37 0 5 ++ [(.i 2)] ++ SX.Y 37 6 8))) [(.cat [(.q 34)]), (.sl 20 0 1 1)] .any
(.df (.bin .add 3) [(.q 33), (.i 1)] .one
(.again 0 [(.q 47), (.cat [(.q 34), (.q 46)])])))))))
(.df (.bin .eql 3) [(.x 37 [5]), (.i 2)] .one
(.br 44 []
(.df (.bin .gtr 3) [(.x 37 [6]), (.i 1)] .one
(.br 45 []
(.df (.bin .sub 3) [(.i 10), (.x 37 [6])] .one
(.df (.bin .eql 3) [(.x 37 [4]), (.i 6)] .one
(.br 47 []
(.df (.bin .geq 3) [(.x 37 [8]), (.i 1)] .one
(.br 48 []
(.df (.bin .leq 3) [(.x 37 [8]), (.i 7)] .one
(.br 49 []
(.df (.bin .sub 3) [(.i 8), (.x 37 [8])] .one
(.df (.app 14 112 (.own 14 (SX.Y 37 0 5 ++ [(.i 1), (.q 46), (.x 37 [7]), (.q 50)] ++ SX.Y 37 9 5))) [(.cat [(.q 34)]), (.sl 20 0 1 1)] .any
(.df (.bin .add 3) [(.q 33), (.i 1)] .one
(.again 0 [(.q 52), (.cat [(.q 34), (.q 51)])]))))
(.df (.app 14 112 (.own 14 (SX.Y 37 0 5 ++ [(.i 1), (.q 46)] ++ SX.Y 37 7 7))) [(.cat [(.q 34)]), (.sl 20 0 1 1)] .any
(.df (.bin .add 3) [(.q 33), (.i 1)] .one
(.again 0 [(.q 51), (.cat [(.q 34), (.q 50)])])))))
(.df (.app 14 112 (.own 14 (SX.Y 37 0 5 ++ [(.i 1), (.q 46)] ++ SX.Y 37 7 7))) [(.cat [(.q 34)]), (.sl 20 0 1 1)] .any
(.df (.bin .add 3) [(.q 33), (.i 1)] .one
(.again 0 [(.q 50), (.cat [(.q 34), (.q 49)])])))))
(.df (.app 14 112 (.own 14 (SX.Y 37 0 5 ++ [(.i 1), (.q 46)] ++ SX.Y 37 7 7))) [(.cat [(.q 34)]), (.sl 20 0 1 1)] .any
(.df (.bin .add 3) [(.q 33), (.i 1)] .one
(.again 0 [(.q 49), (.cat [(.q 34), (.q 48)])]))))))
(.df (.bin .eql 3) [(.x 37 [4]), (.i 6)] .one
(.br 46 []
(.df (.bin .geq 3) [(.x 37 [8]), (.i 1)] .one
(.br 47 []
(.df (.bin .leq 3) [(.x 37 [8]), (.i 7)] .one
(.br 48 []
(.df (.bin .sub 3) [(.i 8), (.x 37 [8])] .one
(.df (.app 14 112 (.own 14 (SX.Y 37 0 5 ++ [(.i 1), (.x 37 [6]), (.x 37 [7]), (.q 49)] ++ SX.Y 37 9 5))) [(.cat [(.q 34)]), (.sl 20 0 1 1)] .any
(.df (.bin .add 3) [(.q 33), (.i 1)] .one
(.again 0 [(.q 51), (.cat [(.q 34), (.q 50)])]))))
(.df (.app 14 112 (.own 14 (SX.Y 37 0 5 ++ [(.i 1)] ++ SX.Y 37 6 8))) [(.cat [(.q 34)]), (.sl 20 0 1 1)] .any
(.df (.bin .add 3) [(.q 33), (.i 1)] .one
(.again 0 [(.q 50), (.cat [(.q 34), (.q 49)])])))))
(.df (.app 14 112 (.own 14 (SX.Y 37 0 5 ++ [(.i 1)] ++ SX.Y 37 6 8))) [(.cat [(.q 34)]), (.sl 20 0 1 1)] .any
(.df (.bin .add 3) [(.q 33), (.i 1)] .one
(.again 0 [(.q 49), (.cat [(.q 34), (.q 48)])])))))
(.df (.app 14 112 (.own 14 (SX.Y 37 0 5 ++ [(.i 1)] ++ SX.Y 37 6 8))) [(.cat [(.q 34)]), (.sl 20 0 1 1)] .any
(.df (.bin .add 3) [(.q 33), (.i 1)] .one
(.again 0 [(.q 48), (.cat [(.q 34), (.q 47)])])))))))
(.df (.bin .gtr 3) [(.x 37 [6]), (.i 1)] .one
(.br 45 []
(.df (.bin .sub 3) [(.i 10), (.x 37 [6])] .one
(.df (.bin .eql 3) [(.x 37 [4]), (.i 6)] .one
(.br 47 []
(.df (.bin .geq 3) [(.x 37 [8]), (.i 1)] .one
(.br 48 []
(.df (.bin .leq 3) [(.x 37 [8]), (.i 7)] .one
(.br 49 []
(.df (.bin .sub 3) [(.i 8), (.x 37 [8])] .one
(.df (.app 14 112 (.own 14 (SX.Y 37 0 6 ++ [(.q 46), (.x 37 [7]), (.q 50)] ++ SX.Y 37 9 5))) [(.cat [(.q 34)]), (.sl 20 0 1 1)] .any
(.df (.bin .add 3) [(.q 33), (.i 1)] .one
(.again 0 [(.q 52), (.cat [(.q 34), (.q 51)])]))))
(.df (.app 14 112 (.own 14 (SX.Y 37 0 6 ++ [(.q 46)] ++ SX.Y 37 7 7))) [(.cat [(.q 34)]), (.sl 20 0 1 1)] .any
(.df (.bin .add 3) [(.q 33), (.i 1)] .one
(.again 0 [(.q 51), (.cat [(.q 34), (.q 50)])])))))
(.df (.app 14 112 (.own 14 (SX.Y 37 0 6 ++ [(.q 46)] ++ SX.Y 37 7 7))) [(.cat [(.q 34)]), (.sl 20 0 1 1)] .any
(.df (.bin .add 3) [(.q 33), (.i 1)] .one
(.again 0 [(.q 50), (.cat [(.q 34), (.q 49)])])))))
(.df (.app 14 112 (.own 14 (SX.Y 37 0 6 ++ [(.q 46)] ++ SX.Y 37 7 7))) [(.cat [(.q 34)]), (.sl 20 0 1 1)] .any
(.df (.bin .add 3) [(.q 33), (.i 1)] .one
(.again 0 [(.q 49), (.cat [(.q 34), (.q 48)])]))))))
(.df (.bin .eql 3) [(.x 37 [4]), (.i 6)] .one
(.br 46 []
(.df (.bin .geq 3) [(.x 37 [8]), (.i 1)] .one
(.br 47 []
(.df (.bin .leq 3) [(.x 37 [8]), (.i 7)] .one
(.br 48 []
(.df (.bin .sub 3) [(.i 8), (.x 37 [8])] .one
(.df (.app 14 112 (.own 14 (SX.Y 37 0 8 ++ [(.q 49)] ++ SX.Y 37 9 5))) [(.cat [(.q 34)]), (.sl 20 0 1 1)] .any
(.df (.bin .add 3) [(.q 33), (.i 1)] .one
(.again 0 [(.q 51), (.cat [(.q 34), (.q 50)])]))))
(.df (.app 14 112 (.own 14 (SX.Y 37 0 14))) [(.cat [(.q 34)]), (.sl 20 0 1 1)] .any
(.df (.bin .add 3) [(.q 33), (.i 1)] .one
(.again 0 [(.q 50), (.cat [(.q 34), (.q 49)])])))))
(.df (.app 14 112 (.own 14 (SX.Y 37 0 14))) [(.cat [(.q 34)]), (.sl 20 0 1 1)] .any
(.df (.bin .add 3) [(.q 33), (.i 1)] .one
(.again 0 [(.q 49), (.cat [(.q 34), (.q 48)])])))))
(.df (.app 14 112 (.own 14 (SX.Y 37 0 14))) [(.cat [(.q 34)]), (.sl 20 0 1 1)] .any
(.df (.bin .add 3) [(.q 33), (.i 1)] .one
(.again 0 [(.q 48), (.cat [(.q 34), (.q 47)])])))))))))))
(.df (.app 14 112 (.own 14 (SX.Y 37 0 14))) [(.cat [(.q 34)]), (.sl 20 0 1 1)] .any
(.df (.bin .add 3) [(.q 33), (.i 1)] .one
(.again 0 [(.q 44), (.cat [(.q 34), (.q 43)])]))))))))
(.df (.app 14 112 (.own 14 (SX.Y 37 0 14))) [(.cat [(.q 34)]), (.sl 20 0 1 1)] .any
(.df (.bin .add 3) [(.q 33), (.i 1)] .one
(.again 0 [(.q 41), (.cat [(.q 34), (.q 40)])])))))
(.df (.app 14 112 (.own 14 (SX.Y 37 0 14))) [(.cat [(.q 34)]), (.sl 20 0 1 1)] .any
(.df (.bin .add 3) [(.q 33), (.i 1)] .one
(.again 0 [(.q 40), (.cat [(.q 34), (.q 39)])])))))))
(.df (.call 14 [(.row 14 [(.q 34)])]) [(.row 17)] .one
(.df (.bin .neq 31) [(.q 36), (.i 0)] .one
(.br 37 []
(.ret (.t [(.k (.slice none 0 0)), (.q 36)]) (List.replicate 18 none) [])
(.ret (.t [(.row 17), (.i 0)]) (List.replicate 17 none ++ [(some ⟨[(.q 34)], 26, (.row 14)⟩)]) [])))))))))))
(.ret (.t [(.k (.slice none 0 0)), (.i 360)]) (List.replicate 12 none) [])))
(.ret (.t [(.k (.slice none 0 0)), (.i 360)]) (List.replicate 12 none) [])))
(.ret (.t [(.k (.slice none 0 0)), (.i 360)]) (List.replicate 11 none) [])))
(.ret (.t [(.k (.slice none 0 0)), (.i 360)]) (List.replicate 11 none) []))))))))
def args_e1 : List SX.V := [.x 0 [], .a ([.k (.int .i64 1)] ++ (List.range 21).map fun j => .x (2+j) [])]
set_option maxRecDepth 100000 in
theorem run_e1 (K A : Value → Nat → List Value → Prop) : (SX.run (cxE2 K A) ⟨fun _ => true, [⟨12, 13, [(.s 51, .one), (.s 4, .row 14 26)]⟩], 2, 100⟩ 100000 0 (SX.door 12 Try.f12 args_e1 (List.replicate 23 .one)) [.code (Try.f12.body.getD .skip), .top Try.f12]).strip = tree_e1 := by kernel_rfl
set_option maxRecDepth 100000 in
set_option maxHeartbeats 4000000 in
theorem e1_any (ss : List Sg) (A : Option Addr) (n c : Nat) (role other fr to m sn sd : Int) (sg : Sg) (w : World) (hr : Rd w 14 A n (sgsL ss)) (hn : n ≤ 9223372036854775807) (hc : n ≤ c) : Calls Try.prog 12 #[.slice A n c, valE (⟨1, role, other, fr, to, m, sn, sd, sg⟩ : Ed)] w fun e w' => Below w.heap.size w w' ∧ ∃ hdr, e = .returned (.tuple #[hdr, .int .i64 (applyE (⟨1, role, other, fr, to, m, sn, sd, sg⟩ : Ed) ss).2]) ∧ SX.SlRet w w' [] hdr 14 (sgsL (applyE (⟨1, role, other, fr, to, m, sn, sd, sg⟩ : Ed) ss).1) := by
  refine SX.calls_of_run (C := cxE2 (fun s sz cells => s = .slice A n c ∧ sz = 14 ∧ cells = sgsL ss) (fun _ _ _ => False)) (G := ⟨fun _ => true, [⟨12, 13, [(.s 51, .one), (.s 4, .row 14 26)]⟩], 2, 100⟩) (args := args_e1) (sh := (List.replicate 23 .one)) (ρ := ([.slice A n c] ++ cellsE (⟨1, role, other, fr, to, m, sn, sd, sg⟩ : Ed))) 100000 tree_e1 (okE2 _ _) Try.func12 rfl (run_e1 _ _) (by kernel_rfl) (by kernel_rfl) (by kernel_rfl) ?_ ?_
  · rintro W hW s sz cells ⟨rfl, rfl, rfl⟩; exact ⟨hr.same0 hW, hc⟩
  have hA := SX.rd_some hr
  have hln : ss.length = n := by have := hr.1; rw [sgsL_len] at this; omega
  have k1 : (fun s sz cells => s = .slice A n c ∧ sz = 14 ∧ cells = sgsL ss) (Value.slice A n c) 14 (sgsL ss) := ⟨rfl, rfl, rfl⟩
  have hu : usesE (⟨1, role, other, fr, to, m, sn, sd, sg⟩ : Ed) = (⟨1, role, 0, fr, to, 0, 0, 0, zeroSg⟩ : Ed) := by unfold usesE; rw [if_pos rfl]
  have hrt : rightE (⟨1, role, other, fr, to, m, sn, sd, sg⟩ : Ed) ↔ (0 ≤ role ∧ role ≤ 64 ∧ 0 ≤ fr ∧ fr ≤ to ∧ to ≤ 4095) := by unfold rightE; rw [if_pos rfl]; try simp only [roleE, barsE]
  have hwk : ∀ z : Sg, workE (⟨1, role, other, fr, to, m, sn, sd, sg⟩ : Ed) z = (if (fr ≤ z.bar ∧ z.bar ≤ to ∧ (role = 0 ∨ z.role = role - 1)) then some [mirrorS z] else some [z]) := fun z => by unfold workE; rw [if_pos rfl]
  unfold tree_e1
  refine SX.E (.int .i64 ((chkS ss))) (fun α => ⟨[⟨.slice A n c, 14, sgsL ss⟩], ⟨by kernel_rfl, rfl, cast (by kernel_rfl) k1, trivial⟩, .inl ⟨rfl, .slice A n c, ss, rfl, by omega, rfl⟩, SX.noAli rfl⟩) ?_
  refine SX.D (.bool (((chkS ss) : Int) != 0)) ?_
  refine SX.B (((chkS ss) : Int) != 0) (fun h24 => ?_) (fun h24 => ?_)
  · try simp only [NRM] at h24
    have hfact : applyE (⟨1, role, other, fr, to, m, sn, sd, sg⟩ : Ed) ss = ([], chkS ss) := applyE_chk h24
    exact SX.VC_ret fun α W _ hR hS => ⟨hS.below, (.slice none 0 0), Eq.trans (b := Ending.returned (.tuple #[(.slice none 0 0), .int .i64 ((chkS ss))])) (by kernel_rfl) (by rw [hfact]), (by rw [hfact]; exact SX.SlRet.nil)⟩
  try simp only [NRM] at h24
  refine SX.E (.bool (true ^^ decide ((⟨1, role, 0, fr, to, 0, 0, 0, zeroSg⟩ : Ed) = (⟨1, role, other, fr, to, m, sn, sd, sg⟩ : Ed)))) (fun α => SX.eqr_rel (f := cellsE) cellsE_inj (y := (⟨1, role, 0, fr, to, 0, 0, 0, zeroSg⟩ : Ed)) (z := (⟨1, role, other, fr, to, m, sn, sd, sg⟩ : Ed)) (by kernel_rfl) (by kernel_rfl) (by kernel_rfl)) ?_
  refine SX.B (true ^^ decide ((⟨1, role, 0, fr, to, 0, 0, 0, zeroSg⟩ : Ed) = (⟨1, role, other, fr, to, m, sn, sd, sg⟩ : Ed))) (fun h25 => ?_) (fun h25 => ?_)
  · try simp only [NRM] at h25
    have hfact : applyE (⟨1, role, other, fr, to, m, sn, sd, sg⟩ : Ed) ss = ([], 360) := applyE_no h24 (fun hk => by first | exact h25 (by rw [← hu]; exact hk.2.2.1) | (have := hrt.1 hk.2.2.2; omega) | (have := hrt.1 hk.2.2.2; have := okR_iff2.2 this.2.1; omega))
    exact SX.VC_ret fun α W _ hR hS => ⟨hS.below, (.slice none 0 0), Eq.trans (b := Ending.returned (.tuple #[(.slice none 0 0), .int .i64 360])) (by kernel_rfl) (by rw [hfact]), (by rw [hfact]; exact SX.SlRet.nil)⟩
  try simp only [NRM] at h25
  refine SX.D (.bool (decide (role ≥ 0))) ?_
  refine SX.B (decide (role ≥ 0)) (fun h26 => ?_) (fun h26 => ?_)
  · try simp only [NRM] at h26
    refine SX.D (.bool (decide (role ≤ 64))) ?_
    refine SX.B (decide (role ≤ 64)) (fun h27 => ?_) (fun h27 => ?_)
    · try simp only [NRM] at h27
      refine SX.D (.bool (decide (fr ≥ 0))) ?_
      refine SX.B (decide (fr ≥ 0)) (fun h28 => ?_) (fun h28 => ?_)
      · try simp only [NRM] at h28
        refine SX.D (.bool (decide (fr ≤ to))) ?_
        refine SX.B (decide (fr ≤ to)) (fun h29 => ?_) (fun h29 => ?_)
        · try simp only [NRM] at h29
          refine SX.D (.bool (decide (to ≤ 4095))) ?_
          refine SX.D (.bool (!(decide (to ≤ 4095)))) ?_
          refine SX.B (!(decide (to ≤ 4095))) (fun h31 => ?_) (fun h31 => ?_)
          · try simp only [NRM] at h31
            have hfact : applyE (⟨1, role, other, fr, to, m, sn, sd, sg⟩ : Ed) ss = ([], 360) := applyE_no h24 (fun hk => by first | exact h25 (by rw [← hu]; exact hk.2.2.1) | (have := hrt.1 hk.2.2.2; omega) | (have := hrt.1 hk.2.2.2; have := okR_iff2.2 this.2.1; omega))
            exact SX.VC_ret fun α W _ hR hS => ⟨hS.below, (.slice none 0 0), Eq.trans (b := Ending.returned (.tuple #[(.slice none 0 0), .int .i64 360])) (by kernel_rfl) (by rw [hfact]), (by rw [hfact]; exact SX.SlRet.nil)⟩
          try simp only [NRM] at h31
          refine SX.D (.int .i64 (((n : Nat) : Int))) ?_
          have hok : okE (⟨1, role, other, fr, to, m, sn, sd, sg⟩ : Ed) := ⟨by show (1 : Int) ≤ 1; decide, by show (1 : Int) ≤ 7; decide, hu.trans h25, hrt.2 (by first | omega | (refine ⟨by omega, ?_⟩; exact ⟨okR_iff2.1 (by assumption), by omega, by omega⟩))⟩
          obtain ⟨hss, hs4⟩ := chkS_ok h24
          refine SX.VC_loop (fun xs => ∃ (i : Nat) (cur : List Sg), xs = [.int .i64 (i : Int), .agg (sgsL cur).toArray] ∧ i ≤ n ∧ accE (⟨1, role, other, fr, to, m, sn, sd, sg⟩ : Ed) (ss.take i) = some cur) (fun xs => match xs with | [.int _ i, _] => n - i.toNat | _ => 0) (fun α => ⟨0, [], by kernel_rfl, by omega, rfl⟩) ?_
          rintro xs - ⟨i, cur, rfl, hin, hacc⟩
          have hcl := acc_len hacc
          refine SX.D (.bool (decide (((i : Nat) : Int) < ((n : Nat) : Int)))) ?_
          refine SX.B (decide (((i : Nat) : Int) < ((n : Nat) : Int))) (fun h35 => ?_) (fun h35 => ?_)
          · try simp only [NRM] at h35
            obtain ⟨z, hz⟩ : ∃ z, ss[i]? = some z := ⟨_, List.getElem?_eq_getElem (by omega)⟩
            have zb := hss.1 z (List.mem_of_getElem? hz)
            rw [Sg.ok_iff] at zb
            obtain ⟨⟨z1, z2⟩, ⟨z3, z4⟩, ⟨z5, z6⟩, ⟨z7, z8⟩, ⟨z9, z10⟩, ⟨z11, z12⟩, ⟨z13, z14⟩, ⟨z15, z16⟩, ⟨z17, z18⟩, ⟨z19, z20⟩, z21⟩ := zb
            refine SX.E (.bool true) (fun α => SX.extBnd (A := A) (n := n) (c := c) (j := i) hA (by kernel_rfl) (by kernel_rfl) (by omega)) ?_
            refine SX.E (.agg (cellsSg z).toArray) (fun α => SX.extElems (f := cellsSg) (l := ss) (A := A) (n := n) (c := c) (j := i) (z := z) (fun _ => rfl) hA (by kernel_rfl) (by kernel_rfl) (by omega) (cast (by kernel_rfl) k1) hz) ?_
            refine SX.D (.bool (decide (z.bar ≥ fr))) ?_
            refine SX.B (decide (z.bar ≥ fr)) (fun h38 => ?_) (fun h38 => ?_)
            · try simp only [NRM] at h38
              refine SX.D (.bool (decide (z.bar ≤ to))) ?_
              refine SX.B (decide (z.bar ≤ to)) (fun h39 => ?_) (fun h39 => ?_)
              · try simp only [NRM] at h39
                refine SX.D (.bool ((role : Int) == 0)) ?_
                refine SX.B ((role : Int) == 0) (fun h40 => ?_) (fun h40 => ?_)
                · try simp only [NRM] at h40
                  refine SX.D (.bool ((z.side : Int) == 1)) ?_
                  refine SX.B ((z.side : Int) == 1) (fun h41 => ?_) (fun h41 => ?_)
                  · try simp only [NRM] at h41
                    refine SX.D (.bool (decide (z.dir > 1))) ?_
                    refine SX.B (decide (z.dir > 1)) (fun h42 => ?_) (fun h42 => ?_)
                    · try simp only [NRM] at h42
                      refine SX.E (.int .i64 (10 - z.dir)) (fun α => SX.W (10 - z.dir)) ?_
                      refine SX.D (.bool ((z.kind : Int) == 6)) ?_
                      refine SX.B ((z.kind : Int) == 6) (fun h44 => ?_) (fun h44 => ?_)
                      · try simp only [NRM] at h44
                        refine SX.D (.bool (decide (z.size ≥ 1))) ?_
                        refine SX.B (decide (z.size ≥ 1)) (fun h45 => ?_) (fun h45 => ?_)
                        · try simp only [NRM] at h45
                          refine SX.D (.bool (decide (z.size ≤ 7))) ?_
                          refine SX.B (decide (z.size ≤ 7)) (fun h46 => ?_) (fun h46 => ?_)
                          · try simp only [NRM] at h46
                            refine SX.E (.int .i64 (8 - z.size)) (fun α => SX.W (8 - z.size)) ?_
                            refine SX.E (Value.agg (([(⟨z.id, z.role, z.bar, z.mark, z.kind, 2, 10 - z.dir, z.level, 8 - z.size, z.with_, z.fn, z.fd, z.tn, z.td⟩ : Sg)]).flatMap cellsSg).toArray) (fun α => SX.app_rel (f := cellsSg) (l1 := cur) (l2 := [(⟨z.id, z.role, z.bar, z.mark, z.kind, 2, 10 - z.dir, z.level, 8 - z.size, z.with_, z.fn, z.fd, z.tn, z.td⟩ : Sg)]) (fun _ => rfl) cellsSg_one (by decide) (SX.cat1 (by kernel_rfl)) (SX.src_own (by kernel_rfl)) (by simp only [LL]; omega) (by simp only [LL]; omega)) ?_
                            refine SX.E (.int .i64 (((i + 1 : Nat) : Int))) (fun α => SX.W1 i) ?_
                            exact SX.VC_again fun α => ⟨⟨i + 1, cur ++ [(⟨z.id, z.role, z.bar, z.mark, z.kind, 2, 10 - z.dir, z.level, 8 - z.size, z.with_, z.fn, z.fd, z.tn, z.td⟩ : Sg)], Eq.trans (b := [.int .i64 ((i + 1 : Nat) : Int), .agg ([Value.agg (sgsL cur).toArray, Value.agg (([(⟨z.id, z.role, z.bar, z.mark, z.kind, 2, 10 - z.dir, z.level, 8 - z.size, z.with_, z.fn, z.fd, z.tn, z.td⟩ : Sg)]).flatMap cellsSg).toArray].flatMap SX.cellsV).toArray]) (by kernel_rfl) (by simp [SX.cellsV, sgsL]), by omega, acc_step hz hacc (by rw [hwk]; (try simp only [mirrorS, swapN]); (repeat' split) <;> first | rfl | (exfalso; omega))⟩, cast (by kernel_rfl) (show n - ((i + 1 : Nat) : Int).toNat < n - (i : Int).toNat by omega)⟩
                          try simp only [NRM] at h46
                          refine SX.E (Value.agg (([(⟨z.id, z.role, z.bar, z.mark, z.kind, 2, 10 - z.dir, z.level, z.size, z.with_, z.fn, z.fd, z.tn, z.td⟩ : Sg)]).flatMap cellsSg).toArray) (fun α => SX.app_rel (f := cellsSg) (l1 := cur) (l2 := [(⟨z.id, z.role, z.bar, z.mark, z.kind, 2, 10 - z.dir, z.level, z.size, z.with_, z.fn, z.fd, z.tn, z.td⟩ : Sg)]) (fun _ => rfl) cellsSg_one (by decide) (SX.cat1 (by kernel_rfl)) (SX.src_own (by kernel_rfl)) (by simp only [LL]; omega) (by simp only [LL]; omega)) ?_
                          refine SX.E (.int .i64 (((i + 1 : Nat) : Int))) (fun α => SX.W1 i) ?_
                          exact SX.VC_again fun α => ⟨⟨i + 1, cur ++ [(⟨z.id, z.role, z.bar, z.mark, z.kind, 2, 10 - z.dir, z.level, z.size, z.with_, z.fn, z.fd, z.tn, z.td⟩ : Sg)], Eq.trans (b := [.int .i64 ((i + 1 : Nat) : Int), .agg ([Value.agg (sgsL cur).toArray, Value.agg (([(⟨z.id, z.role, z.bar, z.mark, z.kind, 2, 10 - z.dir, z.level, z.size, z.with_, z.fn, z.fd, z.tn, z.td⟩ : Sg)]).flatMap cellsSg).toArray].flatMap SX.cellsV).toArray]) (by kernel_rfl) (by simp [SX.cellsV, sgsL]), by omega, acc_step hz hacc (by rw [hwk]; (try simp only [mirrorS, swapN]); (repeat' split) <;> first | rfl | (exfalso; omega))⟩, cast (by kernel_rfl) (show n - ((i + 1 : Nat) : Int).toNat < n - (i : Int).toNat by omega)⟩
                        try simp only [NRM] at h45
                        refine SX.E (Value.agg (([(⟨z.id, z.role, z.bar, z.mark, z.kind, 2, 10 - z.dir, z.level, z.size, z.with_, z.fn, z.fd, z.tn, z.td⟩ : Sg)]).flatMap cellsSg).toArray) (fun α => SX.app_rel (f := cellsSg) (l1 := cur) (l2 := [(⟨z.id, z.role, z.bar, z.mark, z.kind, 2, 10 - z.dir, z.level, z.size, z.with_, z.fn, z.fd, z.tn, z.td⟩ : Sg)]) (fun _ => rfl) cellsSg_one (by decide) (SX.cat1 (by kernel_rfl)) (SX.src_own (by kernel_rfl)) (by simp only [LL]; omega) (by simp only [LL]; omega)) ?_
                        refine SX.E (.int .i64 (((i + 1 : Nat) : Int))) (fun α => SX.W1 i) ?_
                        exact SX.VC_again fun α => ⟨⟨i + 1, cur ++ [(⟨z.id, z.role, z.bar, z.mark, z.kind, 2, 10 - z.dir, z.level, z.size, z.with_, z.fn, z.fd, z.tn, z.td⟩ : Sg)], Eq.trans (b := [.int .i64 ((i + 1 : Nat) : Int), .agg ([Value.agg (sgsL cur).toArray, Value.agg (([(⟨z.id, z.role, z.bar, z.mark, z.kind, 2, 10 - z.dir, z.level, z.size, z.with_, z.fn, z.fd, z.tn, z.td⟩ : Sg)]).flatMap cellsSg).toArray].flatMap SX.cellsV).toArray]) (by kernel_rfl) (by simp [SX.cellsV, sgsL]), by omega, acc_step hz hacc (by rw [hwk]; (try simp only [mirrorS, swapN]); (repeat' split) <;> first | rfl | (exfalso; omega))⟩, cast (by kernel_rfl) (show n - ((i + 1 : Nat) : Int).toNat < n - (i : Int).toNat by omega)⟩
                      try simp only [NRM] at h44
                      refine SX.E (Value.agg (([(⟨z.id, z.role, z.bar, z.mark, z.kind, 2, 10 - z.dir, z.level, z.size, z.with_, z.fn, z.fd, z.tn, z.td⟩ : Sg)]).flatMap cellsSg).toArray) (fun α => SX.app_rel (f := cellsSg) (l1 := cur) (l2 := [(⟨z.id, z.role, z.bar, z.mark, z.kind, 2, 10 - z.dir, z.level, z.size, z.with_, z.fn, z.fd, z.tn, z.td⟩ : Sg)]) (fun _ => rfl) cellsSg_one (by decide) (SX.cat1 (by kernel_rfl)) (SX.src_own (by kernel_rfl)) (by simp only [LL]; omega) (by simp only [LL]; omega)) ?_
                      refine SX.E (.int .i64 (((i + 1 : Nat) : Int))) (fun α => SX.W1 i) ?_
                      exact SX.VC_again fun α => ⟨⟨i + 1, cur ++ [(⟨z.id, z.role, z.bar, z.mark, z.kind, 2, 10 - z.dir, z.level, z.size, z.with_, z.fn, z.fd, z.tn, z.td⟩ : Sg)], Eq.trans (b := [.int .i64 ((i + 1 : Nat) : Int), .agg ([Value.agg (sgsL cur).toArray, Value.agg (([(⟨z.id, z.role, z.bar, z.mark, z.kind, 2, 10 - z.dir, z.level, z.size, z.with_, z.fn, z.fd, z.tn, z.td⟩ : Sg)]).flatMap cellsSg).toArray].flatMap SX.cellsV).toArray]) (by kernel_rfl) (by simp [SX.cellsV, sgsL]), by omega, acc_step hz hacc (by rw [hwk]; (try simp only [mirrorS, swapN]); (repeat' split) <;> first | rfl | (exfalso; omega))⟩, cast (by kernel_rfl) (show n - ((i + 1 : Nat) : Int).toNat < n - (i : Int).toNat by omega)⟩
                    try simp only [NRM] at h42
                    refine SX.D (.bool ((z.kind : Int) == 6)) ?_
                    refine SX.B ((z.kind : Int) == 6) (fun h43 => ?_) (fun h43 => ?_)
                    · try simp only [NRM] at h43
                      refine SX.D (.bool (decide (z.size ≥ 1))) ?_
                      refine SX.B (decide (z.size ≥ 1)) (fun h44 => ?_) (fun h44 => ?_)
                      · try simp only [NRM] at h44
                        refine SX.D (.bool (decide (z.size ≤ 7))) ?_
                        refine SX.B (decide (z.size ≤ 7)) (fun h45 => ?_) (fun h45 => ?_)
                        · try simp only [NRM] at h45
                          refine SX.E (.int .i64 (8 - z.size)) (fun α => SX.W (8 - z.size)) ?_
                          refine SX.E (Value.agg (([(⟨z.id, z.role, z.bar, z.mark, z.kind, 2, z.dir, z.level, 8 - z.size, z.with_, z.fn, z.fd, z.tn, z.td⟩ : Sg)]).flatMap cellsSg).toArray) (fun α => SX.app_rel (f := cellsSg) (l1 := cur) (l2 := [(⟨z.id, z.role, z.bar, z.mark, z.kind, 2, z.dir, z.level, 8 - z.size, z.with_, z.fn, z.fd, z.tn, z.td⟩ : Sg)]) (fun _ => rfl) cellsSg_one (by decide) (SX.cat1 (by kernel_rfl)) (SX.src_own (by kernel_rfl)) (by simp only [LL]; omega) (by simp only [LL]; omega)) ?_
                          refine SX.E (.int .i64 (((i + 1 : Nat) : Int))) (fun α => SX.W1 i) ?_
                          exact SX.VC_again fun α => ⟨⟨i + 1, cur ++ [(⟨z.id, z.role, z.bar, z.mark, z.kind, 2, z.dir, z.level, 8 - z.size, z.with_, z.fn, z.fd, z.tn, z.td⟩ : Sg)], Eq.trans (b := [.int .i64 ((i + 1 : Nat) : Int), .agg ([Value.agg (sgsL cur).toArray, Value.agg (([(⟨z.id, z.role, z.bar, z.mark, z.kind, 2, z.dir, z.level, 8 - z.size, z.with_, z.fn, z.fd, z.tn, z.td⟩ : Sg)]).flatMap cellsSg).toArray].flatMap SX.cellsV).toArray]) (by kernel_rfl) (by simp [SX.cellsV, sgsL]), by omega, acc_step hz hacc (by rw [hwk]; (try simp only [mirrorS, swapN]); (repeat' split) <;> first | rfl | (exfalso; omega))⟩, cast (by kernel_rfl) (show n - ((i + 1 : Nat) : Int).toNat < n - (i : Int).toNat by omega)⟩
                        try simp only [NRM] at h45
                        refine SX.E (Value.agg (([(⟨z.id, z.role, z.bar, z.mark, z.kind, 2, z.dir, z.level, z.size, z.with_, z.fn, z.fd, z.tn, z.td⟩ : Sg)]).flatMap cellsSg).toArray) (fun α => SX.app_rel (f := cellsSg) (l1 := cur) (l2 := [(⟨z.id, z.role, z.bar, z.mark, z.kind, 2, z.dir, z.level, z.size, z.with_, z.fn, z.fd, z.tn, z.td⟩ : Sg)]) (fun _ => rfl) cellsSg_one (by decide) (SX.cat1 (by kernel_rfl)) (SX.src_own (by kernel_rfl)) (by simp only [LL]; omega) (by simp only [LL]; omega)) ?_
                        refine SX.E (.int .i64 (((i + 1 : Nat) : Int))) (fun α => SX.W1 i) ?_
                        exact SX.VC_again fun α => ⟨⟨i + 1, cur ++ [(⟨z.id, z.role, z.bar, z.mark, z.kind, 2, z.dir, z.level, z.size, z.with_, z.fn, z.fd, z.tn, z.td⟩ : Sg)], Eq.trans (b := [.int .i64 ((i + 1 : Nat) : Int), .agg ([Value.agg (sgsL cur).toArray, Value.agg (([(⟨z.id, z.role, z.bar, z.mark, z.kind, 2, z.dir, z.level, z.size, z.with_, z.fn, z.fd, z.tn, z.td⟩ : Sg)]).flatMap cellsSg).toArray].flatMap SX.cellsV).toArray]) (by kernel_rfl) (by simp [SX.cellsV, sgsL]), by omega, acc_step hz hacc (by rw [hwk]; (try simp only [mirrorS, swapN]); (repeat' split) <;> first | rfl | (exfalso; omega))⟩, cast (by kernel_rfl) (show n - ((i + 1 : Nat) : Int).toNat < n - (i : Int).toNat by omega)⟩
                      try simp only [NRM] at h44
                      refine SX.E (Value.agg (([(⟨z.id, z.role, z.bar, z.mark, z.kind, 2, z.dir, z.level, z.size, z.with_, z.fn, z.fd, z.tn, z.td⟩ : Sg)]).flatMap cellsSg).toArray) (fun α => SX.app_rel (f := cellsSg) (l1 := cur) (l2 := [(⟨z.id, z.role, z.bar, z.mark, z.kind, 2, z.dir, z.level, z.size, z.with_, z.fn, z.fd, z.tn, z.td⟩ : Sg)]) (fun _ => rfl) cellsSg_one (by decide) (SX.cat1 (by kernel_rfl)) (SX.src_own (by kernel_rfl)) (by simp only [LL]; omega) (by simp only [LL]; omega)) ?_
                      refine SX.E (.int .i64 (((i + 1 : Nat) : Int))) (fun α => SX.W1 i) ?_
                      exact SX.VC_again fun α => ⟨⟨i + 1, cur ++ [(⟨z.id, z.role, z.bar, z.mark, z.kind, 2, z.dir, z.level, z.size, z.with_, z.fn, z.fd, z.tn, z.td⟩ : Sg)], Eq.trans (b := [.int .i64 ((i + 1 : Nat) : Int), .agg ([Value.agg (sgsL cur).toArray, Value.agg (([(⟨z.id, z.role, z.bar, z.mark, z.kind, 2, z.dir, z.level, z.size, z.with_, z.fn, z.fd, z.tn, z.td⟩ : Sg)]).flatMap cellsSg).toArray].flatMap SX.cellsV).toArray]) (by kernel_rfl) (by simp [SX.cellsV, sgsL]), by omega, acc_step hz hacc (by rw [hwk]; (try simp only [mirrorS, swapN]); (repeat' split) <;> first | rfl | (exfalso; omega))⟩, cast (by kernel_rfl) (show n - ((i + 1 : Nat) : Int).toNat < n - (i : Int).toNat by omega)⟩
                    try simp only [NRM] at h43
                    refine SX.E (Value.agg (([(⟨z.id, z.role, z.bar, z.mark, z.kind, 2, z.dir, z.level, z.size, z.with_, z.fn, z.fd, z.tn, z.td⟩ : Sg)]).flatMap cellsSg).toArray) (fun α => SX.app_rel (f := cellsSg) (l1 := cur) (l2 := [(⟨z.id, z.role, z.bar, z.mark, z.kind, 2, z.dir, z.level, z.size, z.with_, z.fn, z.fd, z.tn, z.td⟩ : Sg)]) (fun _ => rfl) cellsSg_one (by decide) (SX.cat1 (by kernel_rfl)) (SX.src_own (by kernel_rfl)) (by simp only [LL]; omega) (by simp only [LL]; omega)) ?_
                    refine SX.E (.int .i64 (((i + 1 : Nat) : Int))) (fun α => SX.W1 i) ?_
                    exact SX.VC_again fun α => ⟨⟨i + 1, cur ++ [(⟨z.id, z.role, z.bar, z.mark, z.kind, 2, z.dir, z.level, z.size, z.with_, z.fn, z.fd, z.tn, z.td⟩ : Sg)], Eq.trans (b := [.int .i64 ((i + 1 : Nat) : Int), .agg ([Value.agg (sgsL cur).toArray, Value.agg (([(⟨z.id, z.role, z.bar, z.mark, z.kind, 2, z.dir, z.level, z.size, z.with_, z.fn, z.fd, z.tn, z.td⟩ : Sg)]).flatMap cellsSg).toArray].flatMap SX.cellsV).toArray]) (by kernel_rfl) (by simp [SX.cellsV, sgsL]), by omega, acc_step hz hacc (by rw [hwk]; (try simp only [mirrorS, swapN]); (repeat' split) <;> first | rfl | (exfalso; omega))⟩, cast (by kernel_rfl) (show n - ((i + 1 : Nat) : Int).toNat < n - (i : Int).toNat by omega)⟩
                  try simp only [NRM] at h41
                  refine SX.D (.bool ((z.side : Int) == 2)) ?_
                  refine SX.B ((z.side : Int) == 2) (fun h42 => ?_) (fun h42 => ?_)
                  · try simp only [NRM] at h42
                    refine SX.D (.bool (decide (z.dir > 1))) ?_
                    refine SX.B (decide (z.dir > 1)) (fun h43 => ?_) (fun h43 => ?_)
                    · try simp only [NRM] at h43
                      refine SX.E (.int .i64 (10 - z.dir)) (fun α => SX.W (10 - z.dir)) ?_
                      refine SX.D (.bool ((z.kind : Int) == 6)) ?_
                      refine SX.B ((z.kind : Int) == 6) (fun h45 => ?_) (fun h45 => ?_)
                      · try simp only [NRM] at h45
                        refine SX.D (.bool (decide (z.size ≥ 1))) ?_
                        refine SX.B (decide (z.size ≥ 1)) (fun h46 => ?_) (fun h46 => ?_)
                        · try simp only [NRM] at h46
                          refine SX.D (.bool (decide (z.size ≤ 7))) ?_
                          refine SX.B (decide (z.size ≤ 7)) (fun h47 => ?_) (fun h47 => ?_)
                          · try simp only [NRM] at h47
                            refine SX.E (.int .i64 (8 - z.size)) (fun α => SX.W (8 - z.size)) ?_
                            refine SX.E (Value.agg (([(⟨z.id, z.role, z.bar, z.mark, z.kind, 1, 10 - z.dir, z.level, 8 - z.size, z.with_, z.fn, z.fd, z.tn, z.td⟩ : Sg)]).flatMap cellsSg).toArray) (fun α => SX.app_rel (f := cellsSg) (l1 := cur) (l2 := [(⟨z.id, z.role, z.bar, z.mark, z.kind, 1, 10 - z.dir, z.level, 8 - z.size, z.with_, z.fn, z.fd, z.tn, z.td⟩ : Sg)]) (fun _ => rfl) cellsSg_one (by decide) (SX.cat1 (by kernel_rfl)) (SX.src_own (by kernel_rfl)) (by simp only [LL]; omega) (by simp only [LL]; omega)) ?_
                            refine SX.E (.int .i64 (((i + 1 : Nat) : Int))) (fun α => SX.W1 i) ?_
                            exact SX.VC_again fun α => ⟨⟨i + 1, cur ++ [(⟨z.id, z.role, z.bar, z.mark, z.kind, 1, 10 - z.dir, z.level, 8 - z.size, z.with_, z.fn, z.fd, z.tn, z.td⟩ : Sg)], Eq.trans (b := [.int .i64 ((i + 1 : Nat) : Int), .agg ([Value.agg (sgsL cur).toArray, Value.agg (([(⟨z.id, z.role, z.bar, z.mark, z.kind, 1, 10 - z.dir, z.level, 8 - z.size, z.with_, z.fn, z.fd, z.tn, z.td⟩ : Sg)]).flatMap cellsSg).toArray].flatMap SX.cellsV).toArray]) (by kernel_rfl) (by simp [SX.cellsV, sgsL]), by omega, acc_step hz hacc (by rw [hwk]; (try simp only [mirrorS, swapN]); (repeat' split) <;> first | rfl | (exfalso; omega))⟩, cast (by kernel_rfl) (show n - ((i + 1 : Nat) : Int).toNat < n - (i : Int).toNat by omega)⟩
                          try simp only [NRM] at h47
                          refine SX.E (Value.agg (([(⟨z.id, z.role, z.bar, z.mark, z.kind, 1, 10 - z.dir, z.level, z.size, z.with_, z.fn, z.fd, z.tn, z.td⟩ : Sg)]).flatMap cellsSg).toArray) (fun α => SX.app_rel (f := cellsSg) (l1 := cur) (l2 := [(⟨z.id, z.role, z.bar, z.mark, z.kind, 1, 10 - z.dir, z.level, z.size, z.with_, z.fn, z.fd, z.tn, z.td⟩ : Sg)]) (fun _ => rfl) cellsSg_one (by decide) (SX.cat1 (by kernel_rfl)) (SX.src_own (by kernel_rfl)) (by simp only [LL]; omega) (by simp only [LL]; omega)) ?_
                          refine SX.E (.int .i64 (((i + 1 : Nat) : Int))) (fun α => SX.W1 i) ?_
                          exact SX.VC_again fun α => ⟨⟨i + 1, cur ++ [(⟨z.id, z.role, z.bar, z.mark, z.kind, 1, 10 - z.dir, z.level, z.size, z.with_, z.fn, z.fd, z.tn, z.td⟩ : Sg)], Eq.trans (b := [.int .i64 ((i + 1 : Nat) : Int), .agg ([Value.agg (sgsL cur).toArray, Value.agg (([(⟨z.id, z.role, z.bar, z.mark, z.kind, 1, 10 - z.dir, z.level, z.size, z.with_, z.fn, z.fd, z.tn, z.td⟩ : Sg)]).flatMap cellsSg).toArray].flatMap SX.cellsV).toArray]) (by kernel_rfl) (by simp [SX.cellsV, sgsL]), by omega, acc_step hz hacc (by rw [hwk]; (try simp only [mirrorS, swapN]); (repeat' split) <;> first | rfl | (exfalso; omega))⟩, cast (by kernel_rfl) (show n - ((i + 1 : Nat) : Int).toNat < n - (i : Int).toNat by omega)⟩
                        try simp only [NRM] at h46
                        refine SX.E (Value.agg (([(⟨z.id, z.role, z.bar, z.mark, z.kind, 1, 10 - z.dir, z.level, z.size, z.with_, z.fn, z.fd, z.tn, z.td⟩ : Sg)]).flatMap cellsSg).toArray) (fun α => SX.app_rel (f := cellsSg) (l1 := cur) (l2 := [(⟨z.id, z.role, z.bar, z.mark, z.kind, 1, 10 - z.dir, z.level, z.size, z.with_, z.fn, z.fd, z.tn, z.td⟩ : Sg)]) (fun _ => rfl) cellsSg_one (by decide) (SX.cat1 (by kernel_rfl)) (SX.src_own (by kernel_rfl)) (by simp only [LL]; omega) (by simp only [LL]; omega)) ?_
                        refine SX.E (.int .i64 (((i + 1 : Nat) : Int))) (fun α => SX.W1 i) ?_
                        exact SX.VC_again fun α => ⟨⟨i + 1, cur ++ [(⟨z.id, z.role, z.bar, z.mark, z.kind, 1, 10 - z.dir, z.level, z.size, z.with_, z.fn, z.fd, z.tn, z.td⟩ : Sg)], Eq.trans (b := [.int .i64 ((i + 1 : Nat) : Int), .agg ([Value.agg (sgsL cur).toArray, Value.agg (([(⟨z.id, z.role, z.bar, z.mark, z.kind, 1, 10 - z.dir, z.level, z.size, z.with_, z.fn, z.fd, z.tn, z.td⟩ : Sg)]).flatMap cellsSg).toArray].flatMap SX.cellsV).toArray]) (by kernel_rfl) (by simp [SX.cellsV, sgsL]), by omega, acc_step hz hacc (by rw [hwk]; (try simp only [mirrorS, swapN]); (repeat' split) <;> first | rfl | (exfalso; omega))⟩, cast (by kernel_rfl) (show n - ((i + 1 : Nat) : Int).toNat < n - (i : Int).toNat by omega)⟩
                      try simp only [NRM] at h45
                      refine SX.E (Value.agg (([(⟨z.id, z.role, z.bar, z.mark, z.kind, 1, 10 - z.dir, z.level, z.size, z.with_, z.fn, z.fd, z.tn, z.td⟩ : Sg)]).flatMap cellsSg).toArray) (fun α => SX.app_rel (f := cellsSg) (l1 := cur) (l2 := [(⟨z.id, z.role, z.bar, z.mark, z.kind, 1, 10 - z.dir, z.level, z.size, z.with_, z.fn, z.fd, z.tn, z.td⟩ : Sg)]) (fun _ => rfl) cellsSg_one (by decide) (SX.cat1 (by kernel_rfl)) (SX.src_own (by kernel_rfl)) (by simp only [LL]; omega) (by simp only [LL]; omega)) ?_
                      refine SX.E (.int .i64 (((i + 1 : Nat) : Int))) (fun α => SX.W1 i) ?_
                      exact SX.VC_again fun α => ⟨⟨i + 1, cur ++ [(⟨z.id, z.role, z.bar, z.mark, z.kind, 1, 10 - z.dir, z.level, z.size, z.with_, z.fn, z.fd, z.tn, z.td⟩ : Sg)], Eq.trans (b := [.int .i64 ((i + 1 : Nat) : Int), .agg ([Value.agg (sgsL cur).toArray, Value.agg (([(⟨z.id, z.role, z.bar, z.mark, z.kind, 1, 10 - z.dir, z.level, z.size, z.with_, z.fn, z.fd, z.tn, z.td⟩ : Sg)]).flatMap cellsSg).toArray].flatMap SX.cellsV).toArray]) (by kernel_rfl) (by simp [SX.cellsV, sgsL]), by omega, acc_step hz hacc (by rw [hwk]; (try simp only [mirrorS, swapN]); (repeat' split) <;> first | rfl | (exfalso; omega))⟩, cast (by kernel_rfl) (show n - ((i + 1 : Nat) : Int).toNat < n - (i : Int).toNat by omega)⟩
                    try simp only [NRM] at h43
                    refine SX.D (.bool ((z.kind : Int) == 6)) ?_
                    refine SX.B ((z.kind : Int) == 6) (fun h44 => ?_) (fun h44 => ?_)
                    · try simp only [NRM] at h44
                      refine SX.D (.bool (decide (z.size ≥ 1))) ?_
                      refine SX.B (decide (z.size ≥ 1)) (fun h45 => ?_) (fun h45 => ?_)
                      · try simp only [NRM] at h45
                        refine SX.D (.bool (decide (z.size ≤ 7))) ?_
                        refine SX.B (decide (z.size ≤ 7)) (fun h46 => ?_) (fun h46 => ?_)
                        · try simp only [NRM] at h46
                          refine SX.E (.int .i64 (8 - z.size)) (fun α => SX.W (8 - z.size)) ?_
                          refine SX.E (Value.agg (([(⟨z.id, z.role, z.bar, z.mark, z.kind, 1, z.dir, z.level, 8 - z.size, z.with_, z.fn, z.fd, z.tn, z.td⟩ : Sg)]).flatMap cellsSg).toArray) (fun α => SX.app_rel (f := cellsSg) (l1 := cur) (l2 := [(⟨z.id, z.role, z.bar, z.mark, z.kind, 1, z.dir, z.level, 8 - z.size, z.with_, z.fn, z.fd, z.tn, z.td⟩ : Sg)]) (fun _ => rfl) cellsSg_one (by decide) (SX.cat1 (by kernel_rfl)) (SX.src_own (by kernel_rfl)) (by simp only [LL]; omega) (by simp only [LL]; omega)) ?_
                          refine SX.E (.int .i64 (((i + 1 : Nat) : Int))) (fun α => SX.W1 i) ?_
                          exact SX.VC_again fun α => ⟨⟨i + 1, cur ++ [(⟨z.id, z.role, z.bar, z.mark, z.kind, 1, z.dir, z.level, 8 - z.size, z.with_, z.fn, z.fd, z.tn, z.td⟩ : Sg)], Eq.trans (b := [.int .i64 ((i + 1 : Nat) : Int), .agg ([Value.agg (sgsL cur).toArray, Value.agg (([(⟨z.id, z.role, z.bar, z.mark, z.kind, 1, z.dir, z.level, 8 - z.size, z.with_, z.fn, z.fd, z.tn, z.td⟩ : Sg)]).flatMap cellsSg).toArray].flatMap SX.cellsV).toArray]) (by kernel_rfl) (by simp [SX.cellsV, sgsL]), by omega, acc_step hz hacc (by rw [hwk]; (try simp only [mirrorS, swapN]); (repeat' split) <;> first | rfl | (exfalso; omega))⟩, cast (by kernel_rfl) (show n - ((i + 1 : Nat) : Int).toNat < n - (i : Int).toNat by omega)⟩
                        try simp only [NRM] at h46
                        refine SX.E (Value.agg (([(⟨z.id, z.role, z.bar, z.mark, z.kind, 1, z.dir, z.level, z.size, z.with_, z.fn, z.fd, z.tn, z.td⟩ : Sg)]).flatMap cellsSg).toArray) (fun α => SX.app_rel (f := cellsSg) (l1 := cur) (l2 := [(⟨z.id, z.role, z.bar, z.mark, z.kind, 1, z.dir, z.level, z.size, z.with_, z.fn, z.fd, z.tn, z.td⟩ : Sg)]) (fun _ => rfl) cellsSg_one (by decide) (SX.cat1 (by kernel_rfl)) (SX.src_own (by kernel_rfl)) (by simp only [LL]; omega) (by simp only [LL]; omega)) ?_
                        refine SX.E (.int .i64 (((i + 1 : Nat) : Int))) (fun α => SX.W1 i) ?_
                        exact SX.VC_again fun α => ⟨⟨i + 1, cur ++ [(⟨z.id, z.role, z.bar, z.mark, z.kind, 1, z.dir, z.level, z.size, z.with_, z.fn, z.fd, z.tn, z.td⟩ : Sg)], Eq.trans (b := [.int .i64 ((i + 1 : Nat) : Int), .agg ([Value.agg (sgsL cur).toArray, Value.agg (([(⟨z.id, z.role, z.bar, z.mark, z.kind, 1, z.dir, z.level, z.size, z.with_, z.fn, z.fd, z.tn, z.td⟩ : Sg)]).flatMap cellsSg).toArray].flatMap SX.cellsV).toArray]) (by kernel_rfl) (by simp [SX.cellsV, sgsL]), by omega, acc_step hz hacc (by rw [hwk]; (try simp only [mirrorS, swapN]); (repeat' split) <;> first | rfl | (exfalso; omega))⟩, cast (by kernel_rfl) (show n - ((i + 1 : Nat) : Int).toNat < n - (i : Int).toNat by omega)⟩
                      try simp only [NRM] at h45
                      refine SX.E (Value.agg (([(⟨z.id, z.role, z.bar, z.mark, z.kind, 1, z.dir, z.level, z.size, z.with_, z.fn, z.fd, z.tn, z.td⟩ : Sg)]).flatMap cellsSg).toArray) (fun α => SX.app_rel (f := cellsSg) (l1 := cur) (l2 := [(⟨z.id, z.role, z.bar, z.mark, z.kind, 1, z.dir, z.level, z.size, z.with_, z.fn, z.fd, z.tn, z.td⟩ : Sg)]) (fun _ => rfl) cellsSg_one (by decide) (SX.cat1 (by kernel_rfl)) (SX.src_own (by kernel_rfl)) (by simp only [LL]; omega) (by simp only [LL]; omega)) ?_
                      refine SX.E (.int .i64 (((i + 1 : Nat) : Int))) (fun α => SX.W1 i) ?_
                      exact SX.VC_again fun α => ⟨⟨i + 1, cur ++ [(⟨z.id, z.role, z.bar, z.mark, z.kind, 1, z.dir, z.level, z.size, z.with_, z.fn, z.fd, z.tn, z.td⟩ : Sg)], Eq.trans (b := [.int .i64 ((i + 1 : Nat) : Int), .agg ([Value.agg (sgsL cur).toArray, Value.agg (([(⟨z.id, z.role, z.bar, z.mark, z.kind, 1, z.dir, z.level, z.size, z.with_, z.fn, z.fd, z.tn, z.td⟩ : Sg)]).flatMap cellsSg).toArray].flatMap SX.cellsV).toArray]) (by kernel_rfl) (by simp [SX.cellsV, sgsL]), by omega, acc_step hz hacc (by rw [hwk]; (try simp only [mirrorS, swapN]); (repeat' split) <;> first | rfl | (exfalso; omega))⟩, cast (by kernel_rfl) (show n - ((i + 1 : Nat) : Int).toNat < n - (i : Int).toNat by omega)⟩
                    try simp only [NRM] at h44
                    refine SX.E (Value.agg (([(⟨z.id, z.role, z.bar, z.mark, z.kind, 1, z.dir, z.level, z.size, z.with_, z.fn, z.fd, z.tn, z.td⟩ : Sg)]).flatMap cellsSg).toArray) (fun α => SX.app_rel (f := cellsSg) (l1 := cur) (l2 := [(⟨z.id, z.role, z.bar, z.mark, z.kind, 1, z.dir, z.level, z.size, z.with_, z.fn, z.fd, z.tn, z.td⟩ : Sg)]) (fun _ => rfl) cellsSg_one (by decide) (SX.cat1 (by kernel_rfl)) (SX.src_own (by kernel_rfl)) (by simp only [LL]; omega) (by simp only [LL]; omega)) ?_
                    refine SX.E (.int .i64 (((i + 1 : Nat) : Int))) (fun α => SX.W1 i) ?_
                    exact SX.VC_again fun α => ⟨⟨i + 1, cur ++ [(⟨z.id, z.role, z.bar, z.mark, z.kind, 1, z.dir, z.level, z.size, z.with_, z.fn, z.fd, z.tn, z.td⟩ : Sg)], Eq.trans (b := [.int .i64 ((i + 1 : Nat) : Int), .agg ([Value.agg (sgsL cur).toArray, Value.agg (([(⟨z.id, z.role, z.bar, z.mark, z.kind, 1, z.dir, z.level, z.size, z.with_, z.fn, z.fd, z.tn, z.td⟩ : Sg)]).flatMap cellsSg).toArray].flatMap SX.cellsV).toArray]) (by kernel_rfl) (by simp [SX.cellsV, sgsL]), by omega, acc_step hz hacc (by rw [hwk]; (try simp only [mirrorS, swapN]); (repeat' split) <;> first | rfl | (exfalso; omega))⟩, cast (by kernel_rfl) (show n - ((i + 1 : Nat) : Int).toNat < n - (i : Int).toNat by omega)⟩
                  try simp only [NRM] at h42
                  refine SX.D (.bool (decide (z.dir > 1))) ?_
                  refine SX.B (decide (z.dir > 1)) (fun h43 => ?_) (fun h43 => ?_)
                  · try simp only [NRM] at h43
                    refine SX.E (.int .i64 (10 - z.dir)) (fun α => SX.W (10 - z.dir)) ?_
                    refine SX.D (.bool ((z.kind : Int) == 6)) ?_
                    refine SX.B ((z.kind : Int) == 6) (fun h45 => ?_) (fun h45 => ?_)
                    · try simp only [NRM] at h45
                      refine SX.D (.bool (decide (z.size ≥ 1))) ?_
                      refine SX.B (decide (z.size ≥ 1)) (fun h46 => ?_) (fun h46 => ?_)
                      · try simp only [NRM] at h46
                        refine SX.D (.bool (decide (z.size ≤ 7))) ?_
                        refine SX.B (decide (z.size ≤ 7)) (fun h47 => ?_) (fun h47 => ?_)
                        · try simp only [NRM] at h47
                          refine SX.E (.int .i64 (8 - z.size)) (fun α => SX.W (8 - z.size)) ?_
                          refine SX.E (Value.agg (([(⟨z.id, z.role, z.bar, z.mark, z.kind, z.side, 10 - z.dir, z.level, 8 - z.size, z.with_, z.fn, z.fd, z.tn, z.td⟩ : Sg)]).flatMap cellsSg).toArray) (fun α => SX.app_rel (f := cellsSg) (l1 := cur) (l2 := [(⟨z.id, z.role, z.bar, z.mark, z.kind, z.side, 10 - z.dir, z.level, 8 - z.size, z.with_, z.fn, z.fd, z.tn, z.td⟩ : Sg)]) (fun _ => rfl) cellsSg_one (by decide) (SX.cat1 (by kernel_rfl)) (SX.src_own (by kernel_rfl)) (by simp only [LL]; omega) (by simp only [LL]; omega)) ?_
                          refine SX.E (.int .i64 (((i + 1 : Nat) : Int))) (fun α => SX.W1 i) ?_
                          exact SX.VC_again fun α => ⟨⟨i + 1, cur ++ [(⟨z.id, z.role, z.bar, z.mark, z.kind, z.side, 10 - z.dir, z.level, 8 - z.size, z.with_, z.fn, z.fd, z.tn, z.td⟩ : Sg)], Eq.trans (b := [.int .i64 ((i + 1 : Nat) : Int), .agg ([Value.agg (sgsL cur).toArray, Value.agg (([(⟨z.id, z.role, z.bar, z.mark, z.kind, z.side, 10 - z.dir, z.level, 8 - z.size, z.with_, z.fn, z.fd, z.tn, z.td⟩ : Sg)]).flatMap cellsSg).toArray].flatMap SX.cellsV).toArray]) (by kernel_rfl) (by simp [SX.cellsV, sgsL]), by omega, acc_step hz hacc (by rw [hwk]; (try simp only [mirrorS, swapN]); (repeat' split) <;> first | rfl | (exfalso; omega))⟩, cast (by kernel_rfl) (show n - ((i + 1 : Nat) : Int).toNat < n - (i : Int).toNat by omega)⟩
                        try simp only [NRM] at h47
                        refine SX.E (Value.agg (([(⟨z.id, z.role, z.bar, z.mark, z.kind, z.side, 10 - z.dir, z.level, z.size, z.with_, z.fn, z.fd, z.tn, z.td⟩ : Sg)]).flatMap cellsSg).toArray) (fun α => SX.app_rel (f := cellsSg) (l1 := cur) (l2 := [(⟨z.id, z.role, z.bar, z.mark, z.kind, z.side, 10 - z.dir, z.level, z.size, z.with_, z.fn, z.fd, z.tn, z.td⟩ : Sg)]) (fun _ => rfl) cellsSg_one (by decide) (SX.cat1 (by kernel_rfl)) (SX.src_own (by kernel_rfl)) (by simp only [LL]; omega) (by simp only [LL]; omega)) ?_
                        refine SX.E (.int .i64 (((i + 1 : Nat) : Int))) (fun α => SX.W1 i) ?_
                        exact SX.VC_again fun α => ⟨⟨i + 1, cur ++ [(⟨z.id, z.role, z.bar, z.mark, z.kind, z.side, 10 - z.dir, z.level, z.size, z.with_, z.fn, z.fd, z.tn, z.td⟩ : Sg)], Eq.trans (b := [.int .i64 ((i + 1 : Nat) : Int), .agg ([Value.agg (sgsL cur).toArray, Value.agg (([(⟨z.id, z.role, z.bar, z.mark, z.kind, z.side, 10 - z.dir, z.level, z.size, z.with_, z.fn, z.fd, z.tn, z.td⟩ : Sg)]).flatMap cellsSg).toArray].flatMap SX.cellsV).toArray]) (by kernel_rfl) (by simp [SX.cellsV, sgsL]), by omega, acc_step hz hacc (by rw [hwk]; (try simp only [mirrorS, swapN]); (repeat' split) <;> first | rfl | (exfalso; omega))⟩, cast (by kernel_rfl) (show n - ((i + 1 : Nat) : Int).toNat < n - (i : Int).toNat by omega)⟩
                      try simp only [NRM] at h46
                      refine SX.E (Value.agg (([(⟨z.id, z.role, z.bar, z.mark, z.kind, z.side, 10 - z.dir, z.level, z.size, z.with_, z.fn, z.fd, z.tn, z.td⟩ : Sg)]).flatMap cellsSg).toArray) (fun α => SX.app_rel (f := cellsSg) (l1 := cur) (l2 := [(⟨z.id, z.role, z.bar, z.mark, z.kind, z.side, 10 - z.dir, z.level, z.size, z.with_, z.fn, z.fd, z.tn, z.td⟩ : Sg)]) (fun _ => rfl) cellsSg_one (by decide) (SX.cat1 (by kernel_rfl)) (SX.src_own (by kernel_rfl)) (by simp only [LL]; omega) (by simp only [LL]; omega)) ?_
                      refine SX.E (.int .i64 (((i + 1 : Nat) : Int))) (fun α => SX.W1 i) ?_
                      exact SX.VC_again fun α => ⟨⟨i + 1, cur ++ [(⟨z.id, z.role, z.bar, z.mark, z.kind, z.side, 10 - z.dir, z.level, z.size, z.with_, z.fn, z.fd, z.tn, z.td⟩ : Sg)], Eq.trans (b := [.int .i64 ((i + 1 : Nat) : Int), .agg ([Value.agg (sgsL cur).toArray, Value.agg (([(⟨z.id, z.role, z.bar, z.mark, z.kind, z.side, 10 - z.dir, z.level, z.size, z.with_, z.fn, z.fd, z.tn, z.td⟩ : Sg)]).flatMap cellsSg).toArray].flatMap SX.cellsV).toArray]) (by kernel_rfl) (by simp [SX.cellsV, sgsL]), by omega, acc_step hz hacc (by rw [hwk]; (try simp only [mirrorS, swapN]); (repeat' split) <;> first | rfl | (exfalso; omega))⟩, cast (by kernel_rfl) (show n - ((i + 1 : Nat) : Int).toNat < n - (i : Int).toNat by omega)⟩
                    try simp only [NRM] at h45
                    refine SX.E (Value.agg (([(⟨z.id, z.role, z.bar, z.mark, z.kind, z.side, 10 - z.dir, z.level, z.size, z.with_, z.fn, z.fd, z.tn, z.td⟩ : Sg)]).flatMap cellsSg).toArray) (fun α => SX.app_rel (f := cellsSg) (l1 := cur) (l2 := [(⟨z.id, z.role, z.bar, z.mark, z.kind, z.side, 10 - z.dir, z.level, z.size, z.with_, z.fn, z.fd, z.tn, z.td⟩ : Sg)]) (fun _ => rfl) cellsSg_one (by decide) (SX.cat1 (by kernel_rfl)) (SX.src_own (by kernel_rfl)) (by simp only [LL]; omega) (by simp only [LL]; omega)) ?_
                    refine SX.E (.int .i64 (((i + 1 : Nat) : Int))) (fun α => SX.W1 i) ?_
                    exact SX.VC_again fun α => ⟨⟨i + 1, cur ++ [(⟨z.id, z.role, z.bar, z.mark, z.kind, z.side, 10 - z.dir, z.level, z.size, z.with_, z.fn, z.fd, z.tn, z.td⟩ : Sg)], Eq.trans (b := [.int .i64 ((i + 1 : Nat) : Int), .agg ([Value.agg (sgsL cur).toArray, Value.agg (([(⟨z.id, z.role, z.bar, z.mark, z.kind, z.side, 10 - z.dir, z.level, z.size, z.with_, z.fn, z.fd, z.tn, z.td⟩ : Sg)]).flatMap cellsSg).toArray].flatMap SX.cellsV).toArray]) (by kernel_rfl) (by simp [SX.cellsV, sgsL]), by omega, acc_step hz hacc (by rw [hwk]; (try simp only [mirrorS, swapN]); (repeat' split) <;> first | rfl | (exfalso; omega))⟩, cast (by kernel_rfl) (show n - ((i + 1 : Nat) : Int).toNat < n - (i : Int).toNat by omega)⟩
                  try simp only [NRM] at h43
                  refine SX.D (.bool ((z.kind : Int) == 6)) ?_
                  refine SX.B ((z.kind : Int) == 6) (fun h44 => ?_) (fun h44 => ?_)
                  · try simp only [NRM] at h44
                    refine SX.D (.bool (decide (z.size ≥ 1))) ?_
                    refine SX.B (decide (z.size ≥ 1)) (fun h45 => ?_) (fun h45 => ?_)
                    · try simp only [NRM] at h45
                      refine SX.D (.bool (decide (z.size ≤ 7))) ?_
                      refine SX.B (decide (z.size ≤ 7)) (fun h46 => ?_) (fun h46 => ?_)
                      · try simp only [NRM] at h46
                        refine SX.E (.int .i64 (8 - z.size)) (fun α => SX.W (8 - z.size)) ?_
                        refine SX.E (Value.agg (([(⟨z.id, z.role, z.bar, z.mark, z.kind, z.side, z.dir, z.level, 8 - z.size, z.with_, z.fn, z.fd, z.tn, z.td⟩ : Sg)]).flatMap cellsSg).toArray) (fun α => SX.app_rel (f := cellsSg) (l1 := cur) (l2 := [(⟨z.id, z.role, z.bar, z.mark, z.kind, z.side, z.dir, z.level, 8 - z.size, z.with_, z.fn, z.fd, z.tn, z.td⟩ : Sg)]) (fun _ => rfl) cellsSg_one (by decide) (SX.cat1 (by kernel_rfl)) (SX.src_own (by kernel_rfl)) (by simp only [LL]; omega) (by simp only [LL]; omega)) ?_
                        refine SX.E (.int .i64 (((i + 1 : Nat) : Int))) (fun α => SX.W1 i) ?_
                        exact SX.VC_again fun α => ⟨⟨i + 1, cur ++ [(⟨z.id, z.role, z.bar, z.mark, z.kind, z.side, z.dir, z.level, 8 - z.size, z.with_, z.fn, z.fd, z.tn, z.td⟩ : Sg)], Eq.trans (b := [.int .i64 ((i + 1 : Nat) : Int), .agg ([Value.agg (sgsL cur).toArray, Value.agg (([(⟨z.id, z.role, z.bar, z.mark, z.kind, z.side, z.dir, z.level, 8 - z.size, z.with_, z.fn, z.fd, z.tn, z.td⟩ : Sg)]).flatMap cellsSg).toArray].flatMap SX.cellsV).toArray]) (by kernel_rfl) (by simp [SX.cellsV, sgsL]), by omega, acc_step hz hacc (by rw [hwk]; (try simp only [mirrorS, swapN]); (repeat' split) <;> first | rfl | (exfalso; omega))⟩, cast (by kernel_rfl) (show n - ((i + 1 : Nat) : Int).toNat < n - (i : Int).toNat by omega)⟩
                      try simp only [NRM] at h46
                      refine SX.E (Value.agg (([z]).flatMap cellsSg).toArray) (fun α => SX.app_rel (f := cellsSg) (l1 := cur) (l2 := [z]) (fun _ => rfl) cellsSg_one (by decide) (SX.cat1 (by kernel_rfl)) (SX.src_own (by kernel_rfl)) (by simp only [LL]; omega) (by simp only [LL]; omega)) ?_
                      refine SX.E (.int .i64 (((i + 1 : Nat) : Int))) (fun α => SX.W1 i) ?_
                      exact SX.VC_again fun α => ⟨⟨i + 1, cur ++ [z], Eq.trans (b := [.int .i64 ((i + 1 : Nat) : Int), .agg ([Value.agg (sgsL cur).toArray, Value.agg (([z]).flatMap cellsSg).toArray].flatMap SX.cellsV).toArray]) (by kernel_rfl) (by simp [SX.cellsV, sgsL]), by omega, acc_step hz hacc (by rw [hwk]; (try simp only [mirrorS, swapN]); (repeat' split) <;> first | rfl | (exfalso; omega))⟩, cast (by kernel_rfl) (show n - ((i + 1 : Nat) : Int).toNat < n - (i : Int).toNat by omega)⟩
                    try simp only [NRM] at h45
                    refine SX.E (Value.agg (([z]).flatMap cellsSg).toArray) (fun α => SX.app_rel (f := cellsSg) (l1 := cur) (l2 := [z]) (fun _ => rfl) cellsSg_one (by decide) (SX.cat1 (by kernel_rfl)) (SX.src_own (by kernel_rfl)) (by simp only [LL]; omega) (by simp only [LL]; omega)) ?_
                    refine SX.E (.int .i64 (((i + 1 : Nat) : Int))) (fun α => SX.W1 i) ?_
                    exact SX.VC_again fun α => ⟨⟨i + 1, cur ++ [z], Eq.trans (b := [.int .i64 ((i + 1 : Nat) : Int), .agg ([Value.agg (sgsL cur).toArray, Value.agg (([z]).flatMap cellsSg).toArray].flatMap SX.cellsV).toArray]) (by kernel_rfl) (by simp [SX.cellsV, sgsL]), by omega, acc_step hz hacc (by rw [hwk]; (try simp only [mirrorS, swapN]); (repeat' split) <;> first | rfl | (exfalso; omega))⟩, cast (by kernel_rfl) (show n - ((i + 1 : Nat) : Int).toNat < n - (i : Int).toNat by omega)⟩
                  try simp only [NRM] at h44
                  refine SX.E (Value.agg (([z]).flatMap cellsSg).toArray) (fun α => SX.app_rel (f := cellsSg) (l1 := cur) (l2 := [z]) (fun _ => rfl) cellsSg_one (by decide) (SX.cat1 (by kernel_rfl)) (SX.src_own (by kernel_rfl)) (by simp only [LL]; omega) (by simp only [LL]; omega)) ?_
                  refine SX.E (.int .i64 (((i + 1 : Nat) : Int))) (fun α => SX.W1 i) ?_
                  exact SX.VC_again fun α => ⟨⟨i + 1, cur ++ [z], Eq.trans (b := [.int .i64 ((i + 1 : Nat) : Int), .agg ([Value.agg (sgsL cur).toArray, Value.agg (([z]).flatMap cellsSg).toArray].flatMap SX.cellsV).toArray]) (by kernel_rfl) (by simp [SX.cellsV, sgsL]), by omega, acc_step hz hacc (by rw [hwk]; (try simp only [mirrorS, swapN]); (repeat' split) <;> first | rfl | (exfalso; omega))⟩, cast (by kernel_rfl) (show n - ((i + 1 : Nat) : Int).toNat < n - (i : Int).toNat by omega)⟩
                try simp only [NRM] at h40
                refine SX.E (.int .i64 (role - 1)) (fun α => SX.W (role - 1)) ?_
                refine SX.D (.bool ((z.role : Int) == role - 1)) ?_
                refine SX.B ((z.role : Int) == role - 1) (fun h42 => ?_) (fun h42 => ?_)
                · try simp only [NRM] at h42
                  refine SX.D (.bool ((z.side : Int) == 1)) ?_
                  refine SX.B ((z.side : Int) == 1) (fun h43 => ?_) (fun h43 => ?_)
                  · try simp only [NRM] at h43
                    refine SX.D (.bool (decide (z.dir > 1))) ?_
                    refine SX.B (decide (z.dir > 1)) (fun h44 => ?_) (fun h44 => ?_)
                    · try simp only [NRM] at h44
                      refine SX.E (.int .i64 (10 - z.dir)) (fun α => SX.W (10 - z.dir)) ?_
                      refine SX.D (.bool ((z.kind : Int) == 6)) ?_
                      refine SX.B ((z.kind : Int) == 6) (fun h46 => ?_) (fun h46 => ?_)
                      · try simp only [NRM] at h46
                        refine SX.D (.bool (decide (z.size ≥ 1))) ?_
                        refine SX.B (decide (z.size ≥ 1)) (fun h47 => ?_) (fun h47 => ?_)
                        · try simp only [NRM] at h47
                          refine SX.D (.bool (decide (z.size ≤ 7))) ?_
                          refine SX.B (decide (z.size ≤ 7)) (fun h48 => ?_) (fun h48 => ?_)
                          · try simp only [NRM] at h48
                            refine SX.E (.int .i64 (8 - z.size)) (fun α => SX.W (8 - z.size)) ?_
                            refine SX.E (Value.agg (([(⟨z.id, z.role, z.bar, z.mark, z.kind, 2, 10 - z.dir, z.level, 8 - z.size, z.with_, z.fn, z.fd, z.tn, z.td⟩ : Sg)]).flatMap cellsSg).toArray) (fun α => SX.app_rel (f := cellsSg) (l1 := cur) (l2 := [(⟨z.id, z.role, z.bar, z.mark, z.kind, 2, 10 - z.dir, z.level, 8 - z.size, z.with_, z.fn, z.fd, z.tn, z.td⟩ : Sg)]) (fun _ => rfl) cellsSg_one (by decide) (SX.cat1 (by kernel_rfl)) (SX.src_own (by kernel_rfl)) (by simp only [LL]; omega) (by simp only [LL]; omega)) ?_
                            refine SX.E (.int .i64 (((i + 1 : Nat) : Int))) (fun α => SX.W1 i) ?_
                            exact SX.VC_again fun α => ⟨⟨i + 1, cur ++ [(⟨z.id, z.role, z.bar, z.mark, z.kind, 2, 10 - z.dir, z.level, 8 - z.size, z.with_, z.fn, z.fd, z.tn, z.td⟩ : Sg)], Eq.trans (b := [.int .i64 ((i + 1 : Nat) : Int), .agg ([Value.agg (sgsL cur).toArray, Value.agg (([(⟨z.id, z.role, z.bar, z.mark, z.kind, 2, 10 - z.dir, z.level, 8 - z.size, z.with_, z.fn, z.fd, z.tn, z.td⟩ : Sg)]).flatMap cellsSg).toArray].flatMap SX.cellsV).toArray]) (by kernel_rfl) (by simp [SX.cellsV, sgsL]), by omega, acc_step hz hacc (by rw [hwk]; (try simp only [mirrorS, swapN]); (repeat' split) <;> first | rfl | (exfalso; omega))⟩, cast (by kernel_rfl) (show n - ((i + 1 : Nat) : Int).toNat < n - (i : Int).toNat by omega)⟩
                          try simp only [NRM] at h48
                          refine SX.E (Value.agg (([(⟨z.id, z.role, z.bar, z.mark, z.kind, 2, 10 - z.dir, z.level, z.size, z.with_, z.fn, z.fd, z.tn, z.td⟩ : Sg)]).flatMap cellsSg).toArray) (fun α => SX.app_rel (f := cellsSg) (l1 := cur) (l2 := [(⟨z.id, z.role, z.bar, z.mark, z.kind, 2, 10 - z.dir, z.level, z.size, z.with_, z.fn, z.fd, z.tn, z.td⟩ : Sg)]) (fun _ => rfl) cellsSg_one (by decide) (SX.cat1 (by kernel_rfl)) (SX.src_own (by kernel_rfl)) (by simp only [LL]; omega) (by simp only [LL]; omega)) ?_
                          refine SX.E (.int .i64 (((i + 1 : Nat) : Int))) (fun α => SX.W1 i) ?_
                          exact SX.VC_again fun α => ⟨⟨i + 1, cur ++ [(⟨z.id, z.role, z.bar, z.mark, z.kind, 2, 10 - z.dir, z.level, z.size, z.with_, z.fn, z.fd, z.tn, z.td⟩ : Sg)], Eq.trans (b := [.int .i64 ((i + 1 : Nat) : Int), .agg ([Value.agg (sgsL cur).toArray, Value.agg (([(⟨z.id, z.role, z.bar, z.mark, z.kind, 2, 10 - z.dir, z.level, z.size, z.with_, z.fn, z.fd, z.tn, z.td⟩ : Sg)]).flatMap cellsSg).toArray].flatMap SX.cellsV).toArray]) (by kernel_rfl) (by simp [SX.cellsV, sgsL]), by omega, acc_step hz hacc (by rw [hwk]; (try simp only [mirrorS, swapN]); (repeat' split) <;> first | rfl | (exfalso; omega))⟩, cast (by kernel_rfl) (show n - ((i + 1 : Nat) : Int).toNat < n - (i : Int).toNat by omega)⟩
                        try simp only [NRM] at h47
                        refine SX.E (Value.agg (([(⟨z.id, z.role, z.bar, z.mark, z.kind, 2, 10 - z.dir, z.level, z.size, z.with_, z.fn, z.fd, z.tn, z.td⟩ : Sg)]).flatMap cellsSg).toArray) (fun α => SX.app_rel (f := cellsSg) (l1 := cur) (l2 := [(⟨z.id, z.role, z.bar, z.mark, z.kind, 2, 10 - z.dir, z.level, z.size, z.with_, z.fn, z.fd, z.tn, z.td⟩ : Sg)]) (fun _ => rfl) cellsSg_one (by decide) (SX.cat1 (by kernel_rfl)) (SX.src_own (by kernel_rfl)) (by simp only [LL]; omega) (by simp only [LL]; omega)) ?_
                        refine SX.E (.int .i64 (((i + 1 : Nat) : Int))) (fun α => SX.W1 i) ?_
                        exact SX.VC_again fun α => ⟨⟨i + 1, cur ++ [(⟨z.id, z.role, z.bar, z.mark, z.kind, 2, 10 - z.dir, z.level, z.size, z.with_, z.fn, z.fd, z.tn, z.td⟩ : Sg)], Eq.trans (b := [.int .i64 ((i + 1 : Nat) : Int), .agg ([Value.agg (sgsL cur).toArray, Value.agg (([(⟨z.id, z.role, z.bar, z.mark, z.kind, 2, 10 - z.dir, z.level, z.size, z.with_, z.fn, z.fd, z.tn, z.td⟩ : Sg)]).flatMap cellsSg).toArray].flatMap SX.cellsV).toArray]) (by kernel_rfl) (by simp [SX.cellsV, sgsL]), by omega, acc_step hz hacc (by rw [hwk]; (try simp only [mirrorS, swapN]); (repeat' split) <;> first | rfl | (exfalso; omega))⟩, cast (by kernel_rfl) (show n - ((i + 1 : Nat) : Int).toNat < n - (i : Int).toNat by omega)⟩
                      try simp only [NRM] at h46
                      refine SX.E (Value.agg (([(⟨z.id, z.role, z.bar, z.mark, z.kind, 2, 10 - z.dir, z.level, z.size, z.with_, z.fn, z.fd, z.tn, z.td⟩ : Sg)]).flatMap cellsSg).toArray) (fun α => SX.app_rel (f := cellsSg) (l1 := cur) (l2 := [(⟨z.id, z.role, z.bar, z.mark, z.kind, 2, 10 - z.dir, z.level, z.size, z.with_, z.fn, z.fd, z.tn, z.td⟩ : Sg)]) (fun _ => rfl) cellsSg_one (by decide) (SX.cat1 (by kernel_rfl)) (SX.src_own (by kernel_rfl)) (by simp only [LL]; omega) (by simp only [LL]; omega)) ?_
                      refine SX.E (.int .i64 (((i + 1 : Nat) : Int))) (fun α => SX.W1 i) ?_
                      exact SX.VC_again fun α => ⟨⟨i + 1, cur ++ [(⟨z.id, z.role, z.bar, z.mark, z.kind, 2, 10 - z.dir, z.level, z.size, z.with_, z.fn, z.fd, z.tn, z.td⟩ : Sg)], Eq.trans (b := [.int .i64 ((i + 1 : Nat) : Int), .agg ([Value.agg (sgsL cur).toArray, Value.agg (([(⟨z.id, z.role, z.bar, z.mark, z.kind, 2, 10 - z.dir, z.level, z.size, z.with_, z.fn, z.fd, z.tn, z.td⟩ : Sg)]).flatMap cellsSg).toArray].flatMap SX.cellsV).toArray]) (by kernel_rfl) (by simp [SX.cellsV, sgsL]), by omega, acc_step hz hacc (by rw [hwk]; (try simp only [mirrorS, swapN]); (repeat' split) <;> first | rfl | (exfalso; omega))⟩, cast (by kernel_rfl) (show n - ((i + 1 : Nat) : Int).toNat < n - (i : Int).toNat by omega)⟩
                    try simp only [NRM] at h44
                    refine SX.D (.bool ((z.kind : Int) == 6)) ?_
                    refine SX.B ((z.kind : Int) == 6) (fun h45 => ?_) (fun h45 => ?_)
                    · try simp only [NRM] at h45
                      refine SX.D (.bool (decide (z.size ≥ 1))) ?_
                      refine SX.B (decide (z.size ≥ 1)) (fun h46 => ?_) (fun h46 => ?_)
                      · try simp only [NRM] at h46
                        refine SX.D (.bool (decide (z.size ≤ 7))) ?_
                        refine SX.B (decide (z.size ≤ 7)) (fun h47 => ?_) (fun h47 => ?_)
                        · try simp only [NRM] at h47
                          refine SX.E (.int .i64 (8 - z.size)) (fun α => SX.W (8 - z.size)) ?_
                          refine SX.E (Value.agg (([(⟨z.id, z.role, z.bar, z.mark, z.kind, 2, z.dir, z.level, 8 - z.size, z.with_, z.fn, z.fd, z.tn, z.td⟩ : Sg)]).flatMap cellsSg).toArray) (fun α => SX.app_rel (f := cellsSg) (l1 := cur) (l2 := [(⟨z.id, z.role, z.bar, z.mark, z.kind, 2, z.dir, z.level, 8 - z.size, z.with_, z.fn, z.fd, z.tn, z.td⟩ : Sg)]) (fun _ => rfl) cellsSg_one (by decide) (SX.cat1 (by kernel_rfl)) (SX.src_own (by kernel_rfl)) (by simp only [LL]; omega) (by simp only [LL]; omega)) ?_
                          refine SX.E (.int .i64 (((i + 1 : Nat) : Int))) (fun α => SX.W1 i) ?_
                          exact SX.VC_again fun α => ⟨⟨i + 1, cur ++ [(⟨z.id, z.role, z.bar, z.mark, z.kind, 2, z.dir, z.level, 8 - z.size, z.with_, z.fn, z.fd, z.tn, z.td⟩ : Sg)], Eq.trans (b := [.int .i64 ((i + 1 : Nat) : Int), .agg ([Value.agg (sgsL cur).toArray, Value.agg (([(⟨z.id, z.role, z.bar, z.mark, z.kind, 2, z.dir, z.level, 8 - z.size, z.with_, z.fn, z.fd, z.tn, z.td⟩ : Sg)]).flatMap cellsSg).toArray].flatMap SX.cellsV).toArray]) (by kernel_rfl) (by simp [SX.cellsV, sgsL]), by omega, acc_step hz hacc (by rw [hwk]; (try simp only [mirrorS, swapN]); (repeat' split) <;> first | rfl | (exfalso; omega))⟩, cast (by kernel_rfl) (show n - ((i + 1 : Nat) : Int).toNat < n - (i : Int).toNat by omega)⟩
                        try simp only [NRM] at h47
                        refine SX.E (Value.agg (([(⟨z.id, z.role, z.bar, z.mark, z.kind, 2, z.dir, z.level, z.size, z.with_, z.fn, z.fd, z.tn, z.td⟩ : Sg)]).flatMap cellsSg).toArray) (fun α => SX.app_rel (f := cellsSg) (l1 := cur) (l2 := [(⟨z.id, z.role, z.bar, z.mark, z.kind, 2, z.dir, z.level, z.size, z.with_, z.fn, z.fd, z.tn, z.td⟩ : Sg)]) (fun _ => rfl) cellsSg_one (by decide) (SX.cat1 (by kernel_rfl)) (SX.src_own (by kernel_rfl)) (by simp only [LL]; omega) (by simp only [LL]; omega)) ?_
                        refine SX.E (.int .i64 (((i + 1 : Nat) : Int))) (fun α => SX.W1 i) ?_
                        exact SX.VC_again fun α => ⟨⟨i + 1, cur ++ [(⟨z.id, z.role, z.bar, z.mark, z.kind, 2, z.dir, z.level, z.size, z.with_, z.fn, z.fd, z.tn, z.td⟩ : Sg)], Eq.trans (b := [.int .i64 ((i + 1 : Nat) : Int), .agg ([Value.agg (sgsL cur).toArray, Value.agg (([(⟨z.id, z.role, z.bar, z.mark, z.kind, 2, z.dir, z.level, z.size, z.with_, z.fn, z.fd, z.tn, z.td⟩ : Sg)]).flatMap cellsSg).toArray].flatMap SX.cellsV).toArray]) (by kernel_rfl) (by simp [SX.cellsV, sgsL]), by omega, acc_step hz hacc (by rw [hwk]; (try simp only [mirrorS, swapN]); (repeat' split) <;> first | rfl | (exfalso; omega))⟩, cast (by kernel_rfl) (show n - ((i + 1 : Nat) : Int).toNat < n - (i : Int).toNat by omega)⟩
                      try simp only [NRM] at h46
                      refine SX.E (Value.agg (([(⟨z.id, z.role, z.bar, z.mark, z.kind, 2, z.dir, z.level, z.size, z.with_, z.fn, z.fd, z.tn, z.td⟩ : Sg)]).flatMap cellsSg).toArray) (fun α => SX.app_rel (f := cellsSg) (l1 := cur) (l2 := [(⟨z.id, z.role, z.bar, z.mark, z.kind, 2, z.dir, z.level, z.size, z.with_, z.fn, z.fd, z.tn, z.td⟩ : Sg)]) (fun _ => rfl) cellsSg_one (by decide) (SX.cat1 (by kernel_rfl)) (SX.src_own (by kernel_rfl)) (by simp only [LL]; omega) (by simp only [LL]; omega)) ?_
                      refine SX.E (.int .i64 (((i + 1 : Nat) : Int))) (fun α => SX.W1 i) ?_
                      exact SX.VC_again fun α => ⟨⟨i + 1, cur ++ [(⟨z.id, z.role, z.bar, z.mark, z.kind, 2, z.dir, z.level, z.size, z.with_, z.fn, z.fd, z.tn, z.td⟩ : Sg)], Eq.trans (b := [.int .i64 ((i + 1 : Nat) : Int), .agg ([Value.agg (sgsL cur).toArray, Value.agg (([(⟨z.id, z.role, z.bar, z.mark, z.kind, 2, z.dir, z.level, z.size, z.with_, z.fn, z.fd, z.tn, z.td⟩ : Sg)]).flatMap cellsSg).toArray].flatMap SX.cellsV).toArray]) (by kernel_rfl) (by simp [SX.cellsV, sgsL]), by omega, acc_step hz hacc (by rw [hwk]; (try simp only [mirrorS, swapN]); (repeat' split) <;> first | rfl | (exfalso; omega))⟩, cast (by kernel_rfl) (show n - ((i + 1 : Nat) : Int).toNat < n - (i : Int).toNat by omega)⟩
                    try simp only [NRM] at h45
                    refine SX.E (Value.agg (([(⟨z.id, z.role, z.bar, z.mark, z.kind, 2, z.dir, z.level, z.size, z.with_, z.fn, z.fd, z.tn, z.td⟩ : Sg)]).flatMap cellsSg).toArray) (fun α => SX.app_rel (f := cellsSg) (l1 := cur) (l2 := [(⟨z.id, z.role, z.bar, z.mark, z.kind, 2, z.dir, z.level, z.size, z.with_, z.fn, z.fd, z.tn, z.td⟩ : Sg)]) (fun _ => rfl) cellsSg_one (by decide) (SX.cat1 (by kernel_rfl)) (SX.src_own (by kernel_rfl)) (by simp only [LL]; omega) (by simp only [LL]; omega)) ?_
                    refine SX.E (.int .i64 (((i + 1 : Nat) : Int))) (fun α => SX.W1 i) ?_
                    exact SX.VC_again fun α => ⟨⟨i + 1, cur ++ [(⟨z.id, z.role, z.bar, z.mark, z.kind, 2, z.dir, z.level, z.size, z.with_, z.fn, z.fd, z.tn, z.td⟩ : Sg)], Eq.trans (b := [.int .i64 ((i + 1 : Nat) : Int), .agg ([Value.agg (sgsL cur).toArray, Value.agg (([(⟨z.id, z.role, z.bar, z.mark, z.kind, 2, z.dir, z.level, z.size, z.with_, z.fn, z.fd, z.tn, z.td⟩ : Sg)]).flatMap cellsSg).toArray].flatMap SX.cellsV).toArray]) (by kernel_rfl) (by simp [SX.cellsV, sgsL]), by omega, acc_step hz hacc (by rw [hwk]; (try simp only [mirrorS, swapN]); (repeat' split) <;> first | rfl | (exfalso; omega))⟩, cast (by kernel_rfl) (show n - ((i + 1 : Nat) : Int).toNat < n - (i : Int).toNat by omega)⟩
                  try simp only [NRM] at h43
                  refine SX.D (.bool ((z.side : Int) == 2)) ?_
                  refine SX.B ((z.side : Int) == 2) (fun h44 => ?_) (fun h44 => ?_)
                  · try simp only [NRM] at h44
                    refine SX.D (.bool (decide (z.dir > 1))) ?_
                    refine SX.B (decide (z.dir > 1)) (fun h45 => ?_) (fun h45 => ?_)
                    · try simp only [NRM] at h45
                      refine SX.E (.int .i64 (10 - z.dir)) (fun α => SX.W (10 - z.dir)) ?_
                      refine SX.D (.bool ((z.kind : Int) == 6)) ?_
                      refine SX.B ((z.kind : Int) == 6) (fun h47 => ?_) (fun h47 => ?_)
                      · try simp only [NRM] at h47
                        refine SX.D (.bool (decide (z.size ≥ 1))) ?_
                        refine SX.B (decide (z.size ≥ 1)) (fun h48 => ?_) (fun h48 => ?_)
                        · try simp only [NRM] at h48
                          refine SX.D (.bool (decide (z.size ≤ 7))) ?_
                          refine SX.B (decide (z.size ≤ 7)) (fun h49 => ?_) (fun h49 => ?_)
                          · try simp only [NRM] at h49
                            refine SX.E (.int .i64 (8 - z.size)) (fun α => SX.W (8 - z.size)) ?_
                            refine SX.E (Value.agg (([(⟨z.id, z.role, z.bar, z.mark, z.kind, 1, 10 - z.dir, z.level, 8 - z.size, z.with_, z.fn, z.fd, z.tn, z.td⟩ : Sg)]).flatMap cellsSg).toArray) (fun α => SX.app_rel (f := cellsSg) (l1 := cur) (l2 := [(⟨z.id, z.role, z.bar, z.mark, z.kind, 1, 10 - z.dir, z.level, 8 - z.size, z.with_, z.fn, z.fd, z.tn, z.td⟩ : Sg)]) (fun _ => rfl) cellsSg_one (by decide) (SX.cat1 (by kernel_rfl)) (SX.src_own (by kernel_rfl)) (by simp only [LL]; omega) (by simp only [LL]; omega)) ?_
                            refine SX.E (.int .i64 (((i + 1 : Nat) : Int))) (fun α => SX.W1 i) ?_
                            exact SX.VC_again fun α => ⟨⟨i + 1, cur ++ [(⟨z.id, z.role, z.bar, z.mark, z.kind, 1, 10 - z.dir, z.level, 8 - z.size, z.with_, z.fn, z.fd, z.tn, z.td⟩ : Sg)], Eq.trans (b := [.int .i64 ((i + 1 : Nat) : Int), .agg ([Value.agg (sgsL cur).toArray, Value.agg (([(⟨z.id, z.role, z.bar, z.mark, z.kind, 1, 10 - z.dir, z.level, 8 - z.size, z.with_, z.fn, z.fd, z.tn, z.td⟩ : Sg)]).flatMap cellsSg).toArray].flatMap SX.cellsV).toArray]) (by kernel_rfl) (by simp [SX.cellsV, sgsL]), by omega, acc_step hz hacc (by rw [hwk]; (try simp only [mirrorS, swapN]); (repeat' split) <;> first | rfl | (exfalso; omega))⟩, cast (by kernel_rfl) (show n - ((i + 1 : Nat) : Int).toNat < n - (i : Int).toNat by omega)⟩
                          try simp only [NRM] at h49
                          refine SX.E (Value.agg (([(⟨z.id, z.role, z.bar, z.mark, z.kind, 1, 10 - z.dir, z.level, z.size, z.with_, z.fn, z.fd, z.tn, z.td⟩ : Sg)]).flatMap cellsSg).toArray) (fun α => SX.app_rel (f := cellsSg) (l1 := cur) (l2 := [(⟨z.id, z.role, z.bar, z.mark, z.kind, 1, 10 - z.dir, z.level, z.size, z.with_, z.fn, z.fd, z.tn, z.td⟩ : Sg)]) (fun _ => rfl) cellsSg_one (by decide) (SX.cat1 (by kernel_rfl)) (SX.src_own (by kernel_rfl)) (by simp only [LL]; omega) (by simp only [LL]; omega)) ?_
                          refine SX.E (.int .i64 (((i + 1 : Nat) : Int))) (fun α => SX.W1 i) ?_
                          exact SX.VC_again fun α => ⟨⟨i + 1, cur ++ [(⟨z.id, z.role, z.bar, z.mark, z.kind, 1, 10 - z.dir, z.level, z.size, z.with_, z.fn, z.fd, z.tn, z.td⟩ : Sg)], Eq.trans (b := [.int .i64 ((i + 1 : Nat) : Int), .agg ([Value.agg (sgsL cur).toArray, Value.agg (([(⟨z.id, z.role, z.bar, z.mark, z.kind, 1, 10 - z.dir, z.level, z.size, z.with_, z.fn, z.fd, z.tn, z.td⟩ : Sg)]).flatMap cellsSg).toArray].flatMap SX.cellsV).toArray]) (by kernel_rfl) (by simp [SX.cellsV, sgsL]), by omega, acc_step hz hacc (by rw [hwk]; (try simp only [mirrorS, swapN]); (repeat' split) <;> first | rfl | (exfalso; omega))⟩, cast (by kernel_rfl) (show n - ((i + 1 : Nat) : Int).toNat < n - (i : Int).toNat by omega)⟩
                        try simp only [NRM] at h48
                        refine SX.E (Value.agg (([(⟨z.id, z.role, z.bar, z.mark, z.kind, 1, 10 - z.dir, z.level, z.size, z.with_, z.fn, z.fd, z.tn, z.td⟩ : Sg)]).flatMap cellsSg).toArray) (fun α => SX.app_rel (f := cellsSg) (l1 := cur) (l2 := [(⟨z.id, z.role, z.bar, z.mark, z.kind, 1, 10 - z.dir, z.level, z.size, z.with_, z.fn, z.fd, z.tn, z.td⟩ : Sg)]) (fun _ => rfl) cellsSg_one (by decide) (SX.cat1 (by kernel_rfl)) (SX.src_own (by kernel_rfl)) (by simp only [LL]; omega) (by simp only [LL]; omega)) ?_
                        refine SX.E (.int .i64 (((i + 1 : Nat) : Int))) (fun α => SX.W1 i) ?_
                        exact SX.VC_again fun α => ⟨⟨i + 1, cur ++ [(⟨z.id, z.role, z.bar, z.mark, z.kind, 1, 10 - z.dir, z.level, z.size, z.with_, z.fn, z.fd, z.tn, z.td⟩ : Sg)], Eq.trans (b := [.int .i64 ((i + 1 : Nat) : Int), .agg ([Value.agg (sgsL cur).toArray, Value.agg (([(⟨z.id, z.role, z.bar, z.mark, z.kind, 1, 10 - z.dir, z.level, z.size, z.with_, z.fn, z.fd, z.tn, z.td⟩ : Sg)]).flatMap cellsSg).toArray].flatMap SX.cellsV).toArray]) (by kernel_rfl) (by simp [SX.cellsV, sgsL]), by omega, acc_step hz hacc (by rw [hwk]; (try simp only [mirrorS, swapN]); (repeat' split) <;> first | rfl | (exfalso; omega))⟩, cast (by kernel_rfl) (show n - ((i + 1 : Nat) : Int).toNat < n - (i : Int).toNat by omega)⟩
                      try simp only [NRM] at h47
                      refine SX.E (Value.agg (([(⟨z.id, z.role, z.bar, z.mark, z.kind, 1, 10 - z.dir, z.level, z.size, z.with_, z.fn, z.fd, z.tn, z.td⟩ : Sg)]).flatMap cellsSg).toArray) (fun α => SX.app_rel (f := cellsSg) (l1 := cur) (l2 := [(⟨z.id, z.role, z.bar, z.mark, z.kind, 1, 10 - z.dir, z.level, z.size, z.with_, z.fn, z.fd, z.tn, z.td⟩ : Sg)]) (fun _ => rfl) cellsSg_one (by decide) (SX.cat1 (by kernel_rfl)) (SX.src_own (by kernel_rfl)) (by simp only [LL]; omega) (by simp only [LL]; omega)) ?_
                      refine SX.E (.int .i64 (((i + 1 : Nat) : Int))) (fun α => SX.W1 i) ?_
                      exact SX.VC_again fun α => ⟨⟨i + 1, cur ++ [(⟨z.id, z.role, z.bar, z.mark, z.kind, 1, 10 - z.dir, z.level, z.size, z.with_, z.fn, z.fd, z.tn, z.td⟩ : Sg)], Eq.trans (b := [.int .i64 ((i + 1 : Nat) : Int), .agg ([Value.agg (sgsL cur).toArray, Value.agg (([(⟨z.id, z.role, z.bar, z.mark, z.kind, 1, 10 - z.dir, z.level, z.size, z.with_, z.fn, z.fd, z.tn, z.td⟩ : Sg)]).flatMap cellsSg).toArray].flatMap SX.cellsV).toArray]) (by kernel_rfl) (by simp [SX.cellsV, sgsL]), by omega, acc_step hz hacc (by rw [hwk]; (try simp only [mirrorS, swapN]); (repeat' split) <;> first | rfl | (exfalso; omega))⟩, cast (by kernel_rfl) (show n - ((i + 1 : Nat) : Int).toNat < n - (i : Int).toNat by omega)⟩
                    try simp only [NRM] at h45
                    refine SX.D (.bool ((z.kind : Int) == 6)) ?_
                    refine SX.B ((z.kind : Int) == 6) (fun h46 => ?_) (fun h46 => ?_)
                    · try simp only [NRM] at h46
                      refine SX.D (.bool (decide (z.size ≥ 1))) ?_
                      refine SX.B (decide (z.size ≥ 1)) (fun h47 => ?_) (fun h47 => ?_)
                      · try simp only [NRM] at h47
                        refine SX.D (.bool (decide (z.size ≤ 7))) ?_
                        refine SX.B (decide (z.size ≤ 7)) (fun h48 => ?_) (fun h48 => ?_)
                        · try simp only [NRM] at h48
                          refine SX.E (.int .i64 (8 - z.size)) (fun α => SX.W (8 - z.size)) ?_
                          refine SX.E (Value.agg (([(⟨z.id, z.role, z.bar, z.mark, z.kind, 1, z.dir, z.level, 8 - z.size, z.with_, z.fn, z.fd, z.tn, z.td⟩ : Sg)]).flatMap cellsSg).toArray) (fun α => SX.app_rel (f := cellsSg) (l1 := cur) (l2 := [(⟨z.id, z.role, z.bar, z.mark, z.kind, 1, z.dir, z.level, 8 - z.size, z.with_, z.fn, z.fd, z.tn, z.td⟩ : Sg)]) (fun _ => rfl) cellsSg_one (by decide) (SX.cat1 (by kernel_rfl)) (SX.src_own (by kernel_rfl)) (by simp only [LL]; omega) (by simp only [LL]; omega)) ?_
                          refine SX.E (.int .i64 (((i + 1 : Nat) : Int))) (fun α => SX.W1 i) ?_
                          exact SX.VC_again fun α => ⟨⟨i + 1, cur ++ [(⟨z.id, z.role, z.bar, z.mark, z.kind, 1, z.dir, z.level, 8 - z.size, z.with_, z.fn, z.fd, z.tn, z.td⟩ : Sg)], Eq.trans (b := [.int .i64 ((i + 1 : Nat) : Int), .agg ([Value.agg (sgsL cur).toArray, Value.agg (([(⟨z.id, z.role, z.bar, z.mark, z.kind, 1, z.dir, z.level, 8 - z.size, z.with_, z.fn, z.fd, z.tn, z.td⟩ : Sg)]).flatMap cellsSg).toArray].flatMap SX.cellsV).toArray]) (by kernel_rfl) (by simp [SX.cellsV, sgsL]), by omega, acc_step hz hacc (by rw [hwk]; (try simp only [mirrorS, swapN]); (repeat' split) <;> first | rfl | (exfalso; omega))⟩, cast (by kernel_rfl) (show n - ((i + 1 : Nat) : Int).toNat < n - (i : Int).toNat by omega)⟩
                        try simp only [NRM] at h48
                        refine SX.E (Value.agg (([(⟨z.id, z.role, z.bar, z.mark, z.kind, 1, z.dir, z.level, z.size, z.with_, z.fn, z.fd, z.tn, z.td⟩ : Sg)]).flatMap cellsSg).toArray) (fun α => SX.app_rel (f := cellsSg) (l1 := cur) (l2 := [(⟨z.id, z.role, z.bar, z.mark, z.kind, 1, z.dir, z.level, z.size, z.with_, z.fn, z.fd, z.tn, z.td⟩ : Sg)]) (fun _ => rfl) cellsSg_one (by decide) (SX.cat1 (by kernel_rfl)) (SX.src_own (by kernel_rfl)) (by simp only [LL]; omega) (by simp only [LL]; omega)) ?_
                        refine SX.E (.int .i64 (((i + 1 : Nat) : Int))) (fun α => SX.W1 i) ?_
                        exact SX.VC_again fun α => ⟨⟨i + 1, cur ++ [(⟨z.id, z.role, z.bar, z.mark, z.kind, 1, z.dir, z.level, z.size, z.with_, z.fn, z.fd, z.tn, z.td⟩ : Sg)], Eq.trans (b := [.int .i64 ((i + 1 : Nat) : Int), .agg ([Value.agg (sgsL cur).toArray, Value.agg (([(⟨z.id, z.role, z.bar, z.mark, z.kind, 1, z.dir, z.level, z.size, z.with_, z.fn, z.fd, z.tn, z.td⟩ : Sg)]).flatMap cellsSg).toArray].flatMap SX.cellsV).toArray]) (by kernel_rfl) (by simp [SX.cellsV, sgsL]), by omega, acc_step hz hacc (by rw [hwk]; (try simp only [mirrorS, swapN]); (repeat' split) <;> first | rfl | (exfalso; omega))⟩, cast (by kernel_rfl) (show n - ((i + 1 : Nat) : Int).toNat < n - (i : Int).toNat by omega)⟩
                      try simp only [NRM] at h47
                      refine SX.E (Value.agg (([(⟨z.id, z.role, z.bar, z.mark, z.kind, 1, z.dir, z.level, z.size, z.with_, z.fn, z.fd, z.tn, z.td⟩ : Sg)]).flatMap cellsSg).toArray) (fun α => SX.app_rel (f := cellsSg) (l1 := cur) (l2 := [(⟨z.id, z.role, z.bar, z.mark, z.kind, 1, z.dir, z.level, z.size, z.with_, z.fn, z.fd, z.tn, z.td⟩ : Sg)]) (fun _ => rfl) cellsSg_one (by decide) (SX.cat1 (by kernel_rfl)) (SX.src_own (by kernel_rfl)) (by simp only [LL]; omega) (by simp only [LL]; omega)) ?_
                      refine SX.E (.int .i64 (((i + 1 : Nat) : Int))) (fun α => SX.W1 i) ?_
                      exact SX.VC_again fun α => ⟨⟨i + 1, cur ++ [(⟨z.id, z.role, z.bar, z.mark, z.kind, 1, z.dir, z.level, z.size, z.with_, z.fn, z.fd, z.tn, z.td⟩ : Sg)], Eq.trans (b := [.int .i64 ((i + 1 : Nat) : Int), .agg ([Value.agg (sgsL cur).toArray, Value.agg (([(⟨z.id, z.role, z.bar, z.mark, z.kind, 1, z.dir, z.level, z.size, z.with_, z.fn, z.fd, z.tn, z.td⟩ : Sg)]).flatMap cellsSg).toArray].flatMap SX.cellsV).toArray]) (by kernel_rfl) (by simp [SX.cellsV, sgsL]), by omega, acc_step hz hacc (by rw [hwk]; (try simp only [mirrorS, swapN]); (repeat' split) <;> first | rfl | (exfalso; omega))⟩, cast (by kernel_rfl) (show n - ((i + 1 : Nat) : Int).toNat < n - (i : Int).toNat by omega)⟩
                    try simp only [NRM] at h46
                    refine SX.E (Value.agg (([(⟨z.id, z.role, z.bar, z.mark, z.kind, 1, z.dir, z.level, z.size, z.with_, z.fn, z.fd, z.tn, z.td⟩ : Sg)]).flatMap cellsSg).toArray) (fun α => SX.app_rel (f := cellsSg) (l1 := cur) (l2 := [(⟨z.id, z.role, z.bar, z.mark, z.kind, 1, z.dir, z.level, z.size, z.with_, z.fn, z.fd, z.tn, z.td⟩ : Sg)]) (fun _ => rfl) cellsSg_one (by decide) (SX.cat1 (by kernel_rfl)) (SX.src_own (by kernel_rfl)) (by simp only [LL]; omega) (by simp only [LL]; omega)) ?_
                    refine SX.E (.int .i64 (((i + 1 : Nat) : Int))) (fun α => SX.W1 i) ?_
                    exact SX.VC_again fun α => ⟨⟨i + 1, cur ++ [(⟨z.id, z.role, z.bar, z.mark, z.kind, 1, z.dir, z.level, z.size, z.with_, z.fn, z.fd, z.tn, z.td⟩ : Sg)], Eq.trans (b := [.int .i64 ((i + 1 : Nat) : Int), .agg ([Value.agg (sgsL cur).toArray, Value.agg (([(⟨z.id, z.role, z.bar, z.mark, z.kind, 1, z.dir, z.level, z.size, z.with_, z.fn, z.fd, z.tn, z.td⟩ : Sg)]).flatMap cellsSg).toArray].flatMap SX.cellsV).toArray]) (by kernel_rfl) (by simp [SX.cellsV, sgsL]), by omega, acc_step hz hacc (by rw [hwk]; (try simp only [mirrorS, swapN]); (repeat' split) <;> first | rfl | (exfalso; omega))⟩, cast (by kernel_rfl) (show n - ((i + 1 : Nat) : Int).toNat < n - (i : Int).toNat by omega)⟩
                  try simp only [NRM] at h44
                  refine SX.D (.bool (decide (z.dir > 1))) ?_
                  refine SX.B (decide (z.dir > 1)) (fun h45 => ?_) (fun h45 => ?_)
                  · try simp only [NRM] at h45
                    refine SX.E (.int .i64 (10 - z.dir)) (fun α => SX.W (10 - z.dir)) ?_
                    refine SX.D (.bool ((z.kind : Int) == 6)) ?_
                    refine SX.B ((z.kind : Int) == 6) (fun h47 => ?_) (fun h47 => ?_)
                    · try simp only [NRM] at h47
                      refine SX.D (.bool (decide (z.size ≥ 1))) ?_
                      refine SX.B (decide (z.size ≥ 1)) (fun h48 => ?_) (fun h48 => ?_)
                      · try simp only [NRM] at h48
                        refine SX.D (.bool (decide (z.size ≤ 7))) ?_
                        refine SX.B (decide (z.size ≤ 7)) (fun h49 => ?_) (fun h49 => ?_)
                        · try simp only [NRM] at h49
                          refine SX.E (.int .i64 (8 - z.size)) (fun α => SX.W (8 - z.size)) ?_
                          refine SX.E (Value.agg (([(⟨z.id, z.role, z.bar, z.mark, z.kind, z.side, 10 - z.dir, z.level, 8 - z.size, z.with_, z.fn, z.fd, z.tn, z.td⟩ : Sg)]).flatMap cellsSg).toArray) (fun α => SX.app_rel (f := cellsSg) (l1 := cur) (l2 := [(⟨z.id, z.role, z.bar, z.mark, z.kind, z.side, 10 - z.dir, z.level, 8 - z.size, z.with_, z.fn, z.fd, z.tn, z.td⟩ : Sg)]) (fun _ => rfl) cellsSg_one (by decide) (SX.cat1 (by kernel_rfl)) (SX.src_own (by kernel_rfl)) (by simp only [LL]; omega) (by simp only [LL]; omega)) ?_
                          refine SX.E (.int .i64 (((i + 1 : Nat) : Int))) (fun α => SX.W1 i) ?_
                          exact SX.VC_again fun α => ⟨⟨i + 1, cur ++ [(⟨z.id, z.role, z.bar, z.mark, z.kind, z.side, 10 - z.dir, z.level, 8 - z.size, z.with_, z.fn, z.fd, z.tn, z.td⟩ : Sg)], Eq.trans (b := [.int .i64 ((i + 1 : Nat) : Int), .agg ([Value.agg (sgsL cur).toArray, Value.agg (([(⟨z.id, z.role, z.bar, z.mark, z.kind, z.side, 10 - z.dir, z.level, 8 - z.size, z.with_, z.fn, z.fd, z.tn, z.td⟩ : Sg)]).flatMap cellsSg).toArray].flatMap SX.cellsV).toArray]) (by kernel_rfl) (by simp [SX.cellsV, sgsL]), by omega, acc_step hz hacc (by rw [hwk]; (try simp only [mirrorS, swapN]); (repeat' split) <;> first | rfl | (exfalso; omega))⟩, cast (by kernel_rfl) (show n - ((i + 1 : Nat) : Int).toNat < n - (i : Int).toNat by omega)⟩
                        try simp only [NRM] at h49
                        refine SX.E (Value.agg (([(⟨z.id, z.role, z.bar, z.mark, z.kind, z.side, 10 - z.dir, z.level, z.size, z.with_, z.fn, z.fd, z.tn, z.td⟩ : Sg)]).flatMap cellsSg).toArray) (fun α => SX.app_rel (f := cellsSg) (l1 := cur) (l2 := [(⟨z.id, z.role, z.bar, z.mark, z.kind, z.side, 10 - z.dir, z.level, z.size, z.with_, z.fn, z.fd, z.tn, z.td⟩ : Sg)]) (fun _ => rfl) cellsSg_one (by decide) (SX.cat1 (by kernel_rfl)) (SX.src_own (by kernel_rfl)) (by simp only [LL]; omega) (by simp only [LL]; omega)) ?_
                        refine SX.E (.int .i64 (((i + 1 : Nat) : Int))) (fun α => SX.W1 i) ?_
                        exact SX.VC_again fun α => ⟨⟨i + 1, cur ++ [(⟨z.id, z.role, z.bar, z.mark, z.kind, z.side, 10 - z.dir, z.level, z.size, z.with_, z.fn, z.fd, z.tn, z.td⟩ : Sg)], Eq.trans (b := [.int .i64 ((i + 1 : Nat) : Int), .agg ([Value.agg (sgsL cur).toArray, Value.agg (([(⟨z.id, z.role, z.bar, z.mark, z.kind, z.side, 10 - z.dir, z.level, z.size, z.with_, z.fn, z.fd, z.tn, z.td⟩ : Sg)]).flatMap cellsSg).toArray].flatMap SX.cellsV).toArray]) (by kernel_rfl) (by simp [SX.cellsV, sgsL]), by omega, acc_step hz hacc (by rw [hwk]; (try simp only [mirrorS, swapN]); (repeat' split) <;> first | rfl | (exfalso; omega))⟩, cast (by kernel_rfl) (show n - ((i + 1 : Nat) : Int).toNat < n - (i : Int).toNat by omega)⟩
                      try simp only [NRM] at h48
                      refine SX.E (Value.agg (([(⟨z.id, z.role, z.bar, z.mark, z.kind, z.side, 10 - z.dir, z.level, z.size, z.with_, z.fn, z.fd, z.tn, z.td⟩ : Sg)]).flatMap cellsSg).toArray) (fun α => SX.app_rel (f := cellsSg) (l1 := cur) (l2 := [(⟨z.id, z.role, z.bar, z.mark, z.kind, z.side, 10 - z.dir, z.level, z.size, z.with_, z.fn, z.fd, z.tn, z.td⟩ : Sg)]) (fun _ => rfl) cellsSg_one (by decide) (SX.cat1 (by kernel_rfl)) (SX.src_own (by kernel_rfl)) (by simp only [LL]; omega) (by simp only [LL]; omega)) ?_
                      refine SX.E (.int .i64 (((i + 1 : Nat) : Int))) (fun α => SX.W1 i) ?_
                      exact SX.VC_again fun α => ⟨⟨i + 1, cur ++ [(⟨z.id, z.role, z.bar, z.mark, z.kind, z.side, 10 - z.dir, z.level, z.size, z.with_, z.fn, z.fd, z.tn, z.td⟩ : Sg)], Eq.trans (b := [.int .i64 ((i + 1 : Nat) : Int), .agg ([Value.agg (sgsL cur).toArray, Value.agg (([(⟨z.id, z.role, z.bar, z.mark, z.kind, z.side, 10 - z.dir, z.level, z.size, z.with_, z.fn, z.fd, z.tn, z.td⟩ : Sg)]).flatMap cellsSg).toArray].flatMap SX.cellsV).toArray]) (by kernel_rfl) (by simp [SX.cellsV, sgsL]), by omega, acc_step hz hacc (by rw [hwk]; (try simp only [mirrorS, swapN]); (repeat' split) <;> first | rfl | (exfalso; omega))⟩, cast (by kernel_rfl) (show n - ((i + 1 : Nat) : Int).toNat < n - (i : Int).toNat by omega)⟩
                    try simp only [NRM] at h47
                    refine SX.E (Value.agg (([(⟨z.id, z.role, z.bar, z.mark, z.kind, z.side, 10 - z.dir, z.level, z.size, z.with_, z.fn, z.fd, z.tn, z.td⟩ : Sg)]).flatMap cellsSg).toArray) (fun α => SX.app_rel (f := cellsSg) (l1 := cur) (l2 := [(⟨z.id, z.role, z.bar, z.mark, z.kind, z.side, 10 - z.dir, z.level, z.size, z.with_, z.fn, z.fd, z.tn, z.td⟩ : Sg)]) (fun _ => rfl) cellsSg_one (by decide) (SX.cat1 (by kernel_rfl)) (SX.src_own (by kernel_rfl)) (by simp only [LL]; omega) (by simp only [LL]; omega)) ?_
                    refine SX.E (.int .i64 (((i + 1 : Nat) : Int))) (fun α => SX.W1 i) ?_
                    exact SX.VC_again fun α => ⟨⟨i + 1, cur ++ [(⟨z.id, z.role, z.bar, z.mark, z.kind, z.side, 10 - z.dir, z.level, z.size, z.with_, z.fn, z.fd, z.tn, z.td⟩ : Sg)], Eq.trans (b := [.int .i64 ((i + 1 : Nat) : Int), .agg ([Value.agg (sgsL cur).toArray, Value.agg (([(⟨z.id, z.role, z.bar, z.mark, z.kind, z.side, 10 - z.dir, z.level, z.size, z.with_, z.fn, z.fd, z.tn, z.td⟩ : Sg)]).flatMap cellsSg).toArray].flatMap SX.cellsV).toArray]) (by kernel_rfl) (by simp [SX.cellsV, sgsL]), by omega, acc_step hz hacc (by rw [hwk]; (try simp only [mirrorS, swapN]); (repeat' split) <;> first | rfl | (exfalso; omega))⟩, cast (by kernel_rfl) (show n - ((i + 1 : Nat) : Int).toNat < n - (i : Int).toNat by omega)⟩
                  try simp only [NRM] at h45
                  refine SX.D (.bool ((z.kind : Int) == 6)) ?_
                  refine SX.B ((z.kind : Int) == 6) (fun h46 => ?_) (fun h46 => ?_)
                  · try simp only [NRM] at h46
                    refine SX.D (.bool (decide (z.size ≥ 1))) ?_
                    refine SX.B (decide (z.size ≥ 1)) (fun h47 => ?_) (fun h47 => ?_)
                    · try simp only [NRM] at h47
                      refine SX.D (.bool (decide (z.size ≤ 7))) ?_
                      refine SX.B (decide (z.size ≤ 7)) (fun h48 => ?_) (fun h48 => ?_)
                      · try simp only [NRM] at h48
                        refine SX.E (.int .i64 (8 - z.size)) (fun α => SX.W (8 - z.size)) ?_
                        refine SX.E (Value.agg (([(⟨z.id, z.role, z.bar, z.mark, z.kind, z.side, z.dir, z.level, 8 - z.size, z.with_, z.fn, z.fd, z.tn, z.td⟩ : Sg)]).flatMap cellsSg).toArray) (fun α => SX.app_rel (f := cellsSg) (l1 := cur) (l2 := [(⟨z.id, z.role, z.bar, z.mark, z.kind, z.side, z.dir, z.level, 8 - z.size, z.with_, z.fn, z.fd, z.tn, z.td⟩ : Sg)]) (fun _ => rfl) cellsSg_one (by decide) (SX.cat1 (by kernel_rfl)) (SX.src_own (by kernel_rfl)) (by simp only [LL]; omega) (by simp only [LL]; omega)) ?_
                        refine SX.E (.int .i64 (((i + 1 : Nat) : Int))) (fun α => SX.W1 i) ?_
                        exact SX.VC_again fun α => ⟨⟨i + 1, cur ++ [(⟨z.id, z.role, z.bar, z.mark, z.kind, z.side, z.dir, z.level, 8 - z.size, z.with_, z.fn, z.fd, z.tn, z.td⟩ : Sg)], Eq.trans (b := [.int .i64 ((i + 1 : Nat) : Int), .agg ([Value.agg (sgsL cur).toArray, Value.agg (([(⟨z.id, z.role, z.bar, z.mark, z.kind, z.side, z.dir, z.level, 8 - z.size, z.with_, z.fn, z.fd, z.tn, z.td⟩ : Sg)]).flatMap cellsSg).toArray].flatMap SX.cellsV).toArray]) (by kernel_rfl) (by simp [SX.cellsV, sgsL]), by omega, acc_step hz hacc (by rw [hwk]; (try simp only [mirrorS, swapN]); (repeat' split) <;> first | rfl | (exfalso; omega))⟩, cast (by kernel_rfl) (show n - ((i + 1 : Nat) : Int).toNat < n - (i : Int).toNat by omega)⟩
                      try simp only [NRM] at h48
                      refine SX.E (Value.agg (([z]).flatMap cellsSg).toArray) (fun α => SX.app_rel (f := cellsSg) (l1 := cur) (l2 := [z]) (fun _ => rfl) cellsSg_one (by decide) (SX.cat1 (by kernel_rfl)) (SX.src_own (by kernel_rfl)) (by simp only [LL]; omega) (by simp only [LL]; omega)) ?_
                      refine SX.E (.int .i64 (((i + 1 : Nat) : Int))) (fun α => SX.W1 i) ?_
                      exact SX.VC_again fun α => ⟨⟨i + 1, cur ++ [z], Eq.trans (b := [.int .i64 ((i + 1 : Nat) : Int), .agg ([Value.agg (sgsL cur).toArray, Value.agg (([z]).flatMap cellsSg).toArray].flatMap SX.cellsV).toArray]) (by kernel_rfl) (by simp [SX.cellsV, sgsL]), by omega, acc_step hz hacc (by rw [hwk]; (try simp only [mirrorS, swapN]); (repeat' split) <;> first | rfl | (exfalso; omega))⟩, cast (by kernel_rfl) (show n - ((i + 1 : Nat) : Int).toNat < n - (i : Int).toNat by omega)⟩
                    try simp only [NRM] at h47
                    refine SX.E (Value.agg (([z]).flatMap cellsSg).toArray) (fun α => SX.app_rel (f := cellsSg) (l1 := cur) (l2 := [z]) (fun _ => rfl) cellsSg_one (by decide) (SX.cat1 (by kernel_rfl)) (SX.src_own (by kernel_rfl)) (by simp only [LL]; omega) (by simp only [LL]; omega)) ?_
                    refine SX.E (.int .i64 (((i + 1 : Nat) : Int))) (fun α => SX.W1 i) ?_
                    exact SX.VC_again fun α => ⟨⟨i + 1, cur ++ [z], Eq.trans (b := [.int .i64 ((i + 1 : Nat) : Int), .agg ([Value.agg (sgsL cur).toArray, Value.agg (([z]).flatMap cellsSg).toArray].flatMap SX.cellsV).toArray]) (by kernel_rfl) (by simp [SX.cellsV, sgsL]), by omega, acc_step hz hacc (by rw [hwk]; (try simp only [mirrorS, swapN]); (repeat' split) <;> first | rfl | (exfalso; omega))⟩, cast (by kernel_rfl) (show n - ((i + 1 : Nat) : Int).toNat < n - (i : Int).toNat by omega)⟩
                  try simp only [NRM] at h46
                  refine SX.E (Value.agg (([z]).flatMap cellsSg).toArray) (fun α => SX.app_rel (f := cellsSg) (l1 := cur) (l2 := [z]) (fun _ => rfl) cellsSg_one (by decide) (SX.cat1 (by kernel_rfl)) (SX.src_own (by kernel_rfl)) (by simp only [LL]; omega) (by simp only [LL]; omega)) ?_
                  refine SX.E (.int .i64 (((i + 1 : Nat) : Int))) (fun α => SX.W1 i) ?_
                  exact SX.VC_again fun α => ⟨⟨i + 1, cur ++ [z], Eq.trans (b := [.int .i64 ((i + 1 : Nat) : Int), .agg ([Value.agg (sgsL cur).toArray, Value.agg (([z]).flatMap cellsSg).toArray].flatMap SX.cellsV).toArray]) (by kernel_rfl) (by simp [SX.cellsV, sgsL]), by omega, acc_step hz hacc (by rw [hwk]; (try simp only [mirrorS, swapN]); (repeat' split) <;> first | rfl | (exfalso; omega))⟩, cast (by kernel_rfl) (show n - ((i + 1 : Nat) : Int).toNat < n - (i : Int).toNat by omega)⟩
                try simp only [NRM] at h42
                refine SX.E (Value.agg (([z]).flatMap cellsSg).toArray) (fun α => SX.app_rel (f := cellsSg) (l1 := cur) (l2 := [z]) (fun _ => rfl) cellsSg_one (by decide) (SX.cat1 (by kernel_rfl)) (SX.src_own (by kernel_rfl)) (by simp only [LL]; omega) (by simp only [LL]; omega)) ?_
                refine SX.E (.int .i64 (((i + 1 : Nat) : Int))) (fun α => SX.W1 i) ?_
                exact SX.VC_again fun α => ⟨⟨i + 1, cur ++ [z], Eq.trans (b := [.int .i64 ((i + 1 : Nat) : Int), .agg ([Value.agg (sgsL cur).toArray, Value.agg (([z]).flatMap cellsSg).toArray].flatMap SX.cellsV).toArray]) (by kernel_rfl) (by simp [SX.cellsV, sgsL]), by omega, acc_step hz hacc (by rw [hwk]; (try simp only [mirrorS, swapN]); (repeat' split) <;> first | rfl | (exfalso; omega))⟩, cast (by kernel_rfl) (show n - ((i + 1 : Nat) : Int).toNat < n - (i : Int).toNat by omega)⟩
              try simp only [NRM] at h39
              refine SX.E (Value.agg (([z]).flatMap cellsSg).toArray) (fun α => SX.app_rel (f := cellsSg) (l1 := cur) (l2 := [z]) (fun _ => rfl) cellsSg_one (by decide) (SX.cat1 (by kernel_rfl)) (SX.src_own (by kernel_rfl)) (by simp only [LL]; omega) (by simp only [LL]; omega)) ?_
              refine SX.E (.int .i64 (((i + 1 : Nat) : Int))) (fun α => SX.W1 i) ?_
              exact SX.VC_again fun α => ⟨⟨i + 1, cur ++ [z], Eq.trans (b := [.int .i64 ((i + 1 : Nat) : Int), .agg ([Value.agg (sgsL cur).toArray, Value.agg (([z]).flatMap cellsSg).toArray].flatMap SX.cellsV).toArray]) (by kernel_rfl) (by simp [SX.cellsV, sgsL]), by omega, acc_step hz hacc (by rw [hwk]; (try simp only [mirrorS, swapN]); (repeat' split) <;> first | rfl | (exfalso; omega))⟩, cast (by kernel_rfl) (show n - ((i + 1 : Nat) : Int).toNat < n - (i : Int).toNat by omega)⟩
            try simp only [NRM] at h38
            refine SX.E (Value.agg (([z]).flatMap cellsSg).toArray) (fun α => SX.app_rel (f := cellsSg) (l1 := cur) (l2 := [z]) (fun _ => rfl) cellsSg_one (by decide) (SX.cat1 (by kernel_rfl)) (SX.src_own (by kernel_rfl)) (by simp only [LL]; omega) (by simp only [LL]; omega)) ?_
            refine SX.E (.int .i64 (((i + 1 : Nat) : Int))) (fun α => SX.W1 i) ?_
            exact SX.VC_again fun α => ⟨⟨i + 1, cur ++ [z], Eq.trans (b := [.int .i64 ((i + 1 : Nat) : Int), .agg ([Value.agg (sgsL cur).toArray, Value.agg (([z]).flatMap cellsSg).toArray].flatMap SX.cellsV).toArray]) (by kernel_rfl) (by simp [SX.cellsV, sgsL]), by omega, acc_step hz hacc (by rw [hwk]; (try simp only [mirrorS, swapN]); (repeat' split) <;> first | rfl | (exfalso; omega))⟩, cast (by kernel_rfl) (show n - ((i + 1 : Nat) : Int).toNat < n - (i : Int).toNat by omega)⟩
          try simp only [NRM] at h35
          refine SX.E (.int .i64 ((chkS cur))) (fun α => ⟨[⟨(α 17).h, 14, sgsL cur⟩], ⟨Eq.trans (b := (⟨(α 17).h, 14, [Value.agg (sgsL cur).toArray].flatMap SX.cellsV⟩ : SX.Arg)) (by simp [SX.cellsV]) (by kernel_rfl), trivial⟩, .inl ⟨rfl, _, cur, rfl, by omega, rfl⟩, SX.noAli rfl⟩) ?_
          refine SX.D (.bool (((chkS cur) : Int) != 0)) ?_
          refine SX.B (((chkS cur) : Int) != 0) (fun h37 => ?_) (fun h37 => ?_)
          · try simp only [NRM] at h37
            have hfact : applyE (⟨1, role, other, fr, to, m, sn, sd, sg⟩ : Ed) ss = ([], chkS cur) := applyE_out h24 hok (by rw [← hacc, List.take_of_length_le (by omega)]) (by assumption)
            exact SX.VC_ret fun α W _ hR hS => ⟨hS.below, (.slice none 0 0), Eq.trans (b := Ending.returned (.tuple #[(.slice none 0 0), .int .i64 ((chkS cur))])) (by kernel_rfl) (by rw [hfact]), (by rw [hfact]; exact SX.SlRet.nil)⟩
          try simp only [NRM] at h37
          have hfact : applyE (⟨1, role, other, fr, to, m, sn, sd, sg⟩ : Ed) ss = (cur, 0) := applyE_ok h24 hok (by rw [← hacc, List.take_of_length_le (by omega)]) (by omega)
          exact SX.VC_ret fun α W _ hR hS => ⟨hS.below, (α 17).h, Eq.trans (b := Ending.returned (.tuple #[(α 17).h, .int .i64 0])) (by kernel_rfl) (by rw [hfact]), SX.SlRet.row hS (n := 17) (b := (⟨[(.x 34 [])], 26, (.row 14)⟩ : SX.Blk)) (by kernel_rfl) rfl (hR 17 _ (by kernel_rfl)) (Eq.trans (b := [Value.agg (sgsL cur).toArray].flatMap SX.cellsV) (by kernel_rfl) (by rw [hfact]; simp [SX.cellsV]))⟩
        try simp only [NRM] at h29
        have hfact : applyE (⟨1, role, other, fr, to, m, sn, sd, sg⟩ : Ed) ss = ([], 360) := applyE_no h24 (fun hk => by first | exact h25 (by rw [← hu]; exact hk.2.2.1) | (have := hrt.1 hk.2.2.2; omega) | (have := hrt.1 hk.2.2.2; have := okR_iff2.2 this.2.1; omega))
        exact SX.VC_ret fun α W _ hR hS => ⟨hS.below, (.slice none 0 0), Eq.trans (b := Ending.returned (.tuple #[(.slice none 0 0), .int .i64 360])) (by kernel_rfl) (by rw [hfact]), (by rw [hfact]; exact SX.SlRet.nil)⟩
      try simp only [NRM] at h28
      have hfact : applyE (⟨1, role, other, fr, to, m, sn, sd, sg⟩ : Ed) ss = ([], 360) := applyE_no h24 (fun hk => by first | exact h25 (by rw [← hu]; exact hk.2.2.1) | (have := hrt.1 hk.2.2.2; omega) | (have := hrt.1 hk.2.2.2; have := okR_iff2.2 this.2.1; omega))
      exact SX.VC_ret fun α W _ hR hS => ⟨hS.below, (.slice none 0 0), Eq.trans (b := Ending.returned (.tuple #[(.slice none 0 0), .int .i64 360])) (by kernel_rfl) (by rw [hfact]), (by rw [hfact]; exact SX.SlRet.nil)⟩
    try simp only [NRM] at h27
    have hfact : applyE (⟨1, role, other, fr, to, m, sn, sd, sg⟩ : Ed) ss = ([], 360) := applyE_no h24 (fun hk => by first | exact h25 (by rw [← hu]; exact hk.2.2.1) | (have := hrt.1 hk.2.2.2; omega) | (have := hrt.1 hk.2.2.2; have := okR_iff2.2 this.2.1; omega))
    exact SX.VC_ret fun α W _ hR hS => ⟨hS.below, (.slice none 0 0), Eq.trans (b := Ending.returned (.tuple #[(.slice none 0 0), .int .i64 360])) (by kernel_rfl) (by rw [hfact]), (by rw [hfact]; exact SX.SlRet.nil)⟩
  try simp only [NRM] at h26
  have hfact : applyE (⟨1, role, other, fr, to, m, sn, sd, sg⟩ : Ed) ss = ([], 360) := applyE_no h24 (fun hk => by first | exact h25 (by rw [← hu]; exact hk.2.2.1) | (have := hrt.1 hk.2.2.2; omega) | (have := hrt.1 hk.2.2.2; have := okR_iff2.2 this.2.1; omega))
  exact SX.VC_ret fun α W _ hR hS => ⟨hS.below, (.slice none 0 0), Eq.trans (b := Ending.returned (.tuple #[(.slice none 0 0), .int .i64 360])) (by kernel_rfl) (by rw [hfact]), (by rw [hfact]; exact SX.SlRet.nil)⟩
def tree_e7 : SX.Tree :=
(.df (.call 14 [(.ext 14)]) [(.q 0)] .one
(.df (.bin .neq 31) [(.q 23), (.i 0)] .one
(.br 24 []
(.ret (.t [(.k (.slice none 0 0)), (.q 23)]) [none] [])
(.df (.eqr true 22 [(.i .i64), (.i .i64), (.i .i64), (.i .i64), (.i .i64), (.i .i64), (.i .i64), (.i .i64), (.i .i64), (.i .i64), (.i .i64), (.i .i64), (.i .i64), (.i .i64), (.i .i64), (.i .i64), (.i .i64), (.i .i64), (.i .i64), (.i .i64), (.i .i64), (.i .i64)]) ([(.i 7), (.q 2), (.i 0), (.q 4), (.q 5), (.i 0), (.q 7), (.q 8), (.i 0), (.i 0), (.i 0), (.i 0), (.i 0), (.i 0), (.i 0), (.i 0), (.i 0), (.i 0), (.i 0), (.i 0), (.i 0), (.i 0), (.i 7)] ++ SX.Z 2 21) .one
(.br 25 []
(.ret (.t [(.k (.slice none 0 0)), (.i 360)]) (List.replicate 13 none) [])
(.df (.bin .geq 3) [(.q 2), (.i 0)] .one
(.br 26 []
(.df (.bin .leq 3) [(.q 2), (.i 64)] .one
(.br 27 []
(.df (.bin .geq 3) [(.q 4), (.i 0)] .one
(.br 28 []
(.df (.bin .leq 3) [(.q 4), (.q 5)] .one
(.br 29 []
(.df (.bin .leq 3) [(.q 5), (.i 4095)] .one
(.br 30 []
(.df (.call 79 [.no]) [(.a [(.q 7), (.q 8)])] .one
(.df (.bin .eql 31) [(.q 31), (.i 0)] .one
(.br 32 []
(.df (.bin .gtr 3) [(.q 7), (.i 0)] .one
(.br 33 []
(.df (.bin .leq 3) [(.q 7), (.q 8)] .one
(.df .not [(.q 34)] .one
(.br 35 []
(.ret (.t [(.k (.slice none 0 0)), (.i 360)]) (List.replicate 16 none) [])
(.df (.len false) [(.q 0)] .one
(.loop [(.i 0), (.cat [])] [.one, .any]
(.df (.bin .lss 3) [(.q 37), (.q 36)] .one
(.br 39 []
(.df .bnd [(.q 0), (.q 37)] .one
(.df (.elems 14 0 14) [(.q 0), (.q 37)] (.ag 14)
(.df (.bin .geq 3) [(.x 41 [2]), (.q 4)] .one
(.br 42 []
(.df (.bin .leq 3) [(.x 41 [2]), (.q 5)] .one
(.br 43 []
(.df (.bin .eql 3) [(.q 2), (.i 0)] .one
(.br 44 []
(.df (.call 23 [.no, .no]) [(.a [(.x 41 [10]), (.x 41 [11])]), (.a [(.q 7), (.q 8)])] (.tp [(.ag 2), .one])
(.df (.call 23 [.no, .no]) [(.a [(.x 41 [12]), (.x 41 [13])]), (.a [(.q 7), (.q 8)])] (.tp [(.ag 2), .one])
(.df (.bin .eql 31) [(.x 45 [1]), (.i 0)] .one
(.br 47 []
(.df (.bin .eql 31) [(.x 46 [1]), (.i 0)] .one
(.df .not [(.q 48)] .one
(.br 49 []
(.ret (.t [(.k (.slice none 0 0)), (.i 360)]) (List.replicate 60 none) [])
(.df (.app 14 112 (.own 14 [(.x 41 [0]), (.x 41 [1]), (.x 41 [2]), (.x 41 [3]), (.x 41 [4]), (.x 41 [5]), (.x 41 [6]), (.x 41 [7]), (.x 41 [8]), (.x 41 [9]), (.x 45 [0, 0]), (.x 45 [0, 1]), (.x 46 [0, 0]), (.x 46 [0, 1])])) [(.cat [(.q 38)]), (.sl 60 0 1 1)] .any
(.df (.bin .add 3) [(.q 37), (.i 1)] .one
(.again 0 [(.q 51), (.cat [(.q 38), (.q 50)])]))))))
(.ret (.t [(.k (.slice none 0 0)), (.i 360)]) (List.replicate 60 none) [])))))
(.df (.bin .sub 3) [(.q 2), (.i 1)] .one
(.df (.bin .eql 3) [(.x 41 [1]), (.q 45)] .one
(.br 46 []
(.df (.call 23 [.no, .no]) [(.a [(.x 41 [10]), (.x 41 [11])]), (.a [(.q 7), (.q 8)])] (.tp [(.ag 2), .one])
(.df (.call 23 [.no, .no]) [(.a [(.x 41 [12]), (.x 41 [13])]), (.a [(.q 7), (.q 8)])] (.tp [(.ag 2), .one])
(.df (.bin .eql 31) [(.x 47 [1]), (.i 0)] .one
(.br 49 []
(.df (.bin .eql 31) [(.x 48 [1]), (.i 0)] .one
(.df .not [(.q 50)] .one
(.br 51 []
(.ret (.t [(.k (.slice none 0 0)), (.i 360)]) (List.replicate 60 none) [])
(.df (.app 14 112 (.own 14 [(.x 41 [0]), (.x 41 [1]), (.x 41 [2]), (.x 41 [3]), (.x 41 [4]), (.x 41 [5]), (.x 41 [6]), (.x 41 [7]), (.x 41 [8]), (.x 41 [9]), (.x 47 [0, 0]), (.x 47 [0, 1]), (.x 48 [0, 0]), (.x 48 [0, 1])])) [(.cat [(.q 38)]), (.sl 60 0 1 1)] .any
(.df (.bin .add 3) [(.q 37), (.i 1)] .one
(.again 0 [(.q 53), (.cat [(.q 38), (.q 52)])]))))))
(.ret (.t [(.k (.slice none 0 0)), (.i 360)]) (List.replicate 60 none) [])))))
(.df (.app 14 112 (.own 14 (SX.Y 41 0 14))) [(.cat [(.q 38)]), (.sl 24 0 1 1)] .any
(.df (.bin .add 3) [(.q 37), (.i 1)] .one
(.again 0 [(.q 48), (.cat [(.q 38), (.q 47)])]))))))))
(.df (.app 14 112 (.own 14 (SX.Y 41 0 14))) [(.cat [(.q 38)]), (.sl 24 0 1 1)] .any
(.df (.bin .add 3) [(.q 37), (.i 1)] .one
(.again 0 [(.q 45), (.cat [(.q 38), (.q 44)])])))))
(.df (.app 14 112 (.own 14 (SX.Y 41 0 14))) [(.cat [(.q 38)]), (.sl 24 0 1 1)] .any
(.df (.bin .add 3) [(.q 37), (.i 1)] .one
(.again 0 [(.q 44), (.cat [(.q 38), (.q 43)])])))))))
(.df (.call 14 [(.row 14 [(.q 38)])]) [(.row 21)] .one
(.df (.bin .neq 31) [(.q 40), (.i 0)] .one
(.br 41 []
(.ret (.t [(.k (.slice none 0 0)), (.q 40)]) (List.replicate 22 none) [])
(.ret (.t [(.row 21), (.i 0)]) (List.replicate 21 none ++ [(some ⟨[(.q 38)], 26, (.row 14)⟩)]) [])))))))))))
(.ret (.t [(.k (.slice none 0 0)), (.i 360)]) (List.replicate 16 none) [])))
(.ret (.t [(.k (.slice none 0 0)), (.i 360)]) (List.replicate 16 none) []))))
(.ret (.t [(.k (.slice none 0 0)), (.i 360)]) (List.replicate 16 none) [])))
(.ret (.t [(.k (.slice none 0 0)), (.i 360)]) (List.replicate 16 none) [])))
(.ret (.t [(.k (.slice none 0 0)), (.i 360)]) (List.replicate 16 none) [])))
(.ret (.t [(.k (.slice none 0 0)), (.i 360)]) (List.replicate 15 none) [])))
(.ret (.t [(.k (.slice none 0 0)), (.i 360)]) (List.replicate 15 none) []))))))))
def args_e7 : List SX.V := [.x 0 [], .a ([.k (.int .i64 7)] ++ (List.range 21).map fun j => .x (2+j) [])]
set_option maxRecDepth 100000 in
theorem run_e7 (K A : Value → Nat → List Value → Prop) : (SX.run (cxE2 K A) ⟨fun _ => true, [⟨12, 13, [(.s 51, .one), (.s 4, .row 14 26)]⟩], 2, 100⟩ 100000 0 (SX.door 12 Try.f12 args_e7 (List.replicate 23 .one)) [.code (Try.f12.body.getD .skip), .top Try.f12]).strip = tree_e7 := by kernel_rfl
set_option maxRecDepth 100000 in
set_option maxHeartbeats 4000000 in
theorem e7_any (ss : List Sg) (A : Option Addr) (n c : Nat) (role other fr to m sn sd : Int) (sg : Sg) (w : World) (hr : Rd w 14 A n (sgsL ss)) (hn : n ≤ 9223372036854775807) (hc : n ≤ c) : Calls Try.prog 12 #[.slice A n c, valE (⟨7, role, other, fr, to, m, sn, sd, sg⟩ : Ed)] w fun e w' => Below w.heap.size w w' ∧ ∃ hdr, e = .returned (.tuple #[hdr, .int .i64 (applyE (⟨7, role, other, fr, to, m, sn, sd, sg⟩ : Ed) ss).2]) ∧ SX.SlRet w w' [] hdr 14 (sgsL (applyE (⟨7, role, other, fr, to, m, sn, sd, sg⟩ : Ed) ss).1) := by
  refine SX.calls_of_run (C := cxE2 (fun s sz cells => s = .slice A n c ∧ sz = 14 ∧ cells = sgsL ss) (fun _ _ _ => False)) (G := ⟨fun _ => true, [⟨12, 13, [(.s 51, .one), (.s 4, .row 14 26)]⟩], 2, 100⟩) (args := args_e7) (sh := (List.replicate 23 .one)) (ρ := ([.slice A n c] ++ cellsE (⟨7, role, other, fr, to, m, sn, sd, sg⟩ : Ed))) 100000 tree_e7 (okE2 _ _) Try.func12 rfl (run_e7 _ _) (by kernel_rfl) (by kernel_rfl) (by kernel_rfl) ?_ ?_
  · rintro W hW s sz cells ⟨rfl, rfl, rfl⟩; exact ⟨hr.same0 hW, hc⟩
  have hA := SX.rd_some hr
  have hln : ss.length = n := by have := hr.1; rw [sgsL_len] at this; omega
  have k1 : (fun s sz cells => s = .slice A n c ∧ sz = 14 ∧ cells = sgsL ss) (Value.slice A n c) 14 (sgsL ss) := ⟨rfl, rfl, rfl⟩
  have hu : usesE (⟨7, role, other, fr, to, m, sn, sd, sg⟩ : Ed) = (⟨7, role, 0, fr, to, 0, sn, sd, zeroSg⟩ : Ed) := by unfold usesE; rw [if_neg (by show ¬ ((7 : Int) = 1); decide), if_neg (by show ¬ ((7 : Int) = 2); decide), if_neg (by show ¬ ((7 : Int) = 3); decide), if_neg (by show ¬ ((7 : Int) = 4); decide), if_neg (by show ¬ ((7 : Int) = 5); decide), if_neg (by show ¬ ((7 : Int) = 6); decide)]
  have hrt : rightE (⟨7, role, other, fr, to, m, sn, sd, sg⟩ : Ed) ↔ (0 ≤ role ∧ role ≤ 64 ∧ 0 ≤ fr ∧ fr ≤ to ∧ to ≤ 4095) ∧ okR sn sd ∧ 0 < sn ∧ sn ≤ sd := by unfold rightE; rw [if_neg (by show ¬ ((7 : Int) = 1); decide), if_neg (by show ¬ ((7 : Int) = 2); decide), if_neg (by show ¬ ((7 : Int) = 3); decide), if_neg (by show ¬ ((7 : Int) = 4); decide), if_neg (by show ¬ ((7 : Int) = 5); decide), if_neg (by show ¬ ((7 : Int) = 6); decide)]; try simp only [roleE, barsE]
  have hwk : ∀ z : Sg, workE (⟨7, role, other, fr, to, m, sn, sd, sg⟩ : Ed) z = (if (fr ≤ z.bar ∧ z.bar ≤ to ∧ (role = 0 ∨ z.role = role - 1)) then (if (mulS z.fn z.fd sn sd).2.2 = 0 ∧ (mulS z.tn z.td sn sd).2.2 = 0 then some [{ z with fn := (mulS z.fn z.fd sn sd).1, fd := (mulS z.fn z.fd sn sd).2.1, tn := (mulS z.tn z.td sn sd).1, td := (mulS z.tn z.td sn sd).2.1 }] else none) else some [z]) := fun z => by unfold workE; rw [if_neg (by show ¬ ((7 : Int) = 1); decide), if_neg (by show ¬ ((7 : Int) = 2); decide), if_neg (by show ¬ ((7 : Int) = 3); decide), if_neg (by show ¬ ((7 : Int) = 4); decide), if_neg (by show ¬ ((7 : Int) = 6); decide), if_pos rfl]
  unfold tree_e7
  refine SX.E (.int .i64 ((chkS ss))) (fun α => ⟨[⟨.slice A n c, 14, sgsL ss⟩], ⟨by kernel_rfl, rfl, cast (by kernel_rfl) k1, trivial⟩, .inl ⟨rfl, .slice A n c, ss, rfl, by omega, rfl⟩, SX.noAli rfl⟩) ?_
  refine SX.D (.bool (((chkS ss) : Int) != 0)) ?_
  refine SX.B (((chkS ss) : Int) != 0) (fun h24 => ?_) (fun h24 => ?_)
  · try simp only [NRM] at h24
    have hfact : applyE (⟨7, role, other, fr, to, m, sn, sd, sg⟩ : Ed) ss = ([], chkS ss) := applyE_chk h24
    exact SX.VC_ret fun α W _ hR hS => ⟨hS.below, (.slice none 0 0), Eq.trans (b := Ending.returned (.tuple #[(.slice none 0 0), .int .i64 ((chkS ss))])) (by kernel_rfl) (by rw [hfact]), (by rw [hfact]; exact SX.SlRet.nil)⟩
  try simp only [NRM] at h24
  refine SX.E (.bool (true ^^ decide ((⟨7, role, 0, fr, to, 0, sn, sd, zeroSg⟩ : Ed) = (⟨7, role, other, fr, to, m, sn, sd, sg⟩ : Ed)))) (fun α => SX.eqr_rel (f := cellsE) cellsE_inj (y := (⟨7, role, 0, fr, to, 0, sn, sd, zeroSg⟩ : Ed)) (z := (⟨7, role, other, fr, to, m, sn, sd, sg⟩ : Ed)) (by kernel_rfl) (by kernel_rfl) (by kernel_rfl)) ?_
  refine SX.B (true ^^ decide ((⟨7, role, 0, fr, to, 0, sn, sd, zeroSg⟩ : Ed) = (⟨7, role, other, fr, to, m, sn, sd, sg⟩ : Ed))) (fun h25 => ?_) (fun h25 => ?_)
  · try simp only [NRM] at h25
    have hfact : applyE (⟨7, role, other, fr, to, m, sn, sd, sg⟩ : Ed) ss = ([], 360) := applyE_no h24 (fun hk => by first | exact h25 (by rw [← hu]; exact hk.2.2.1) | (have := hrt.1 hk.2.2.2; omega) | (have := hrt.1 hk.2.2.2; have := okR_iff2.2 this.2.1; omega))
    exact SX.VC_ret fun α W _ hR hS => ⟨hS.below, (.slice none 0 0), Eq.trans (b := Ending.returned (.tuple #[(.slice none 0 0), .int .i64 360])) (by kernel_rfl) (by rw [hfact]), (by rw [hfact]; exact SX.SlRet.nil)⟩
  try simp only [NRM] at h25
  refine SX.D (.bool (decide (role ≥ 0))) ?_
  refine SX.B (decide (role ≥ 0)) (fun h26 => ?_) (fun h26 => ?_)
  · try simp only [NRM] at h26
    refine SX.D (.bool (decide (role ≤ 64))) ?_
    refine SX.B (decide (role ≤ 64)) (fun h27 => ?_) (fun h27 => ?_)
    · try simp only [NRM] at h27
      refine SX.D (.bool (decide (fr ≥ 0))) ?_
      refine SX.B (decide (fr ≥ 0)) (fun h28 => ?_) (fun h28 => ?_)
      · try simp only [NRM] at h28
        refine SX.D (.bool (decide (fr ≤ to))) ?_
        refine SX.B (decide (fr ≤ to)) (fun h29 => ?_) (fun h29 => ?_)
        · try simp only [NRM] at h29
          refine SX.D (.bool (decide (to ≤ 4095))) ?_
          refine SX.B (decide (to ≤ 4095)) (fun h30 => ?_) (fun h30 => ?_)
          · try simp only [NRM] at h30
            refine SX.E (.int .i64 ((if okR sn sd then 0 else 120))) (fun α => ⟨[⟨.agg #[.int .i64 sn, .int .i64 sd], 0, []⟩], ⟨by kernel_rfl, by kernel_rfl, trivial⟩, .inr (.inl ⟨rfl, _, _, rfl, rfl⟩), SX.noAli rfl⟩) ?_
            refine SX.D (.bool (((if okR sn sd then 0 else 120) : Int) == 0)) ?_
            refine SX.B (((if okR sn sd then 0 else 120) : Int) == 0) (fun h32 => ?_) (fun h32 => ?_)
            · try simp only [NRM] at h32
              refine SX.D (.bool (decide (sn > 0))) ?_
              refine SX.B (decide (sn > 0)) (fun h33 => ?_) (fun h33 => ?_)
              · try simp only [NRM] at h33
                refine SX.D (.bool (decide (sn ≤ sd))) ?_
                refine SX.D (.bool (!(decide (sn ≤ sd)))) ?_
                refine SX.B (!(decide (sn ≤ sd))) (fun h35 => ?_) (fun h35 => ?_)
                · try simp only [NRM] at h35
                  have hfact : applyE (⟨7, role, other, fr, to, m, sn, sd, sg⟩ : Ed) ss = ([], 360) := applyE_no h24 (fun hk => by first | exact h25 (by rw [← hu]; exact hk.2.2.1) | (have := hrt.1 hk.2.2.2; omega) | (have := hrt.1 hk.2.2.2; have := okR_iff2.2 this.2.1; omega))
                  exact SX.VC_ret fun α W _ hR hS => ⟨hS.below, (.slice none 0 0), Eq.trans (b := Ending.returned (.tuple #[(.slice none 0 0), .int .i64 360])) (by kernel_rfl) (by rw [hfact]), (by rw [hfact]; exact SX.SlRet.nil)⟩
                try simp only [NRM] at h35
                refine SX.D (.int .i64 (((n : Nat) : Int))) ?_
                have hok : okE (⟨7, role, other, fr, to, m, sn, sd, sg⟩ : Ed) := ⟨by show (1 : Int) ≤ 7; decide, by show (7 : Int) ≤ 7; decide, hu.trans h25, hrt.2 (by first | omega | (refine ⟨by omega, ?_⟩; exact ⟨okR_iff2.1 (by assumption), by omega, by omega⟩))⟩
                obtain ⟨hss, hs4⟩ := chkS_ok h24
                refine SX.VC_loop (fun xs => ∃ (i : Nat) (cur : List Sg), xs = [.int .i64 (i : Int), .agg (sgsL cur).toArray] ∧ i ≤ n ∧ accE (⟨7, role, other, fr, to, m, sn, sd, sg⟩ : Ed) (ss.take i) = some cur) (fun xs => match xs with | [.int _ i, _] => n - i.toNat | _ => 0) (fun α => ⟨0, [], by kernel_rfl, by omega, rfl⟩) ?_
                rintro xs - ⟨i, cur, rfl, hin, hacc⟩
                have hcl := acc_len hacc
                refine SX.D (.bool (decide (((i : Nat) : Int) < ((n : Nat) : Int)))) ?_
                refine SX.B (decide (((i : Nat) : Int) < ((n : Nat) : Int))) (fun h39 => ?_) (fun h39 => ?_)
                · try simp only [NRM] at h39
                  obtain ⟨z, hz⟩ : ∃ z, ss[i]? = some z := ⟨_, List.getElem?_eq_getElem (by omega)⟩
                  have zb := hss.1 z (List.mem_of_getElem? hz)
                  rw [Sg.ok_iff] at zb
                  obtain ⟨⟨z1, z2⟩, ⟨z3, z4⟩, ⟨z5, z6⟩, ⟨z7, z8⟩, ⟨z9, z10⟩, ⟨z11, z12⟩, ⟨z13, z14⟩, ⟨z15, z16⟩, ⟨z17, z18⟩, ⟨z19, z20⟩, z21⟩ := zb
                  refine SX.E (.bool true) (fun α => SX.extBnd (A := A) (n := n) (c := c) (j := i) hA (by kernel_rfl) (by kernel_rfl) (by omega)) ?_
                  refine SX.E (.agg (cellsSg z).toArray) (fun α => SX.extElems (f := cellsSg) (l := ss) (A := A) (n := n) (c := c) (j := i) (z := z) (fun _ => rfl) hA (by kernel_rfl) (by kernel_rfl) (by omega) (cast (by kernel_rfl) k1) hz) ?_
                  refine SX.D (.bool (decide (z.bar ≥ fr))) ?_
                  refine SX.B (decide (z.bar ≥ fr)) (fun h42 => ?_) (fun h42 => ?_)
                  · try simp only [NRM] at h42
                    refine SX.D (.bool (decide (z.bar ≤ to))) ?_
                    refine SX.B (decide (z.bar ≤ to)) (fun h43 => ?_) (fun h43 => ?_)
                    · try simp only [NRM] at h43
                      refine SX.D (.bool ((role : Int) == 0)) ?_
                      refine SX.B ((role : Int) == 0) (fun h44 => ?_) (fun h44 => ?_)
                      · try simp only [NRM] at h44
                        refine SX.E (.tuple #[.agg #[.int .i64 ((mulS z.fn z.fd sn sd).1), .int .i64 ((mulS z.fn z.fd sn sd).2.1)], .int .i64 ((mulS z.fn z.fd sn sd).2.2)]) (fun α => ⟨[⟨.agg #[.int .i64 z.fn, .int .i64 z.fd], 0, []⟩, ⟨.agg #[.int .i64 sn, .int .i64 sd], 0, []⟩], ⟨by kernel_rfl, by kernel_rfl, by kernel_rfl, by kernel_rfl, trivial⟩, .inr (.inr (⟨rfl, _, _, _, _, rfl, rfl⟩)), SX.noAli rfl⟩) ?_
                        refine SX.E (.tuple #[.agg #[.int .i64 ((mulS z.tn z.td sn sd).1), .int .i64 ((mulS z.tn z.td sn sd).2.1)], .int .i64 ((mulS z.tn z.td sn sd).2.2)]) (fun α => ⟨[⟨.agg #[.int .i64 z.tn, .int .i64 z.td], 0, []⟩, ⟨.agg #[.int .i64 sn, .int .i64 sd], 0, []⟩], ⟨by kernel_rfl, by kernel_rfl, by kernel_rfl, by kernel_rfl, trivial⟩, .inr (.inr (⟨rfl, _, _, _, _, rfl, rfl⟩)), SX.noAli rfl⟩) ?_
                        refine SX.D (.bool (((mulS z.fn z.fd sn sd).2.2 : Int) == 0)) ?_
                        refine SX.B (((mulS z.fn z.fd sn sd).2.2 : Int) == 0) (fun h47 => ?_) (fun h47 => ?_)
                        · try simp only [NRM] at h47
                          refine SX.D (.bool (((mulS z.tn z.td sn sd).2.2 : Int) == 0)) ?_
                          refine SX.D (.bool (!(((mulS z.tn z.td sn sd).2.2 : Int) == 0))) ?_
                          refine SX.B (!(((mulS z.tn z.td sn sd).2.2 : Int) == 0)) (fun h49 => ?_) (fun h49 => ?_)
                          · try simp only [NRM] at h49
                            have hfact : applyE (⟨7, role, other, fr, to, m, sn, sd, sg⟩ : Ed) ss = ([], 360) := applyE_fail h24 hok (acc_fail hz hacc (by rw [hwk]; (try simp only [mirrorS, swapN]); (repeat' split) <;> first | rfl | (exfalso; omega)))
                            exact SX.VC_ret fun α W _ hR hS => ⟨hS.below, (.slice none 0 0), Eq.trans (b := Ending.returned (.tuple #[(.slice none 0 0), .int .i64 360])) (by kernel_rfl) (by rw [hfact]), (by rw [hfact]; exact SX.SlRet.nil)⟩
                          try simp only [NRM] at h49
                          refine SX.E (Value.agg (([(⟨z.id, z.role, z.bar, z.mark, z.kind, z.side, z.dir, z.level, z.size, z.with_, (mulS z.fn z.fd sn sd).1, (mulS z.fn z.fd sn sd).2.1, (mulS z.tn z.td sn sd).1, (mulS z.tn z.td sn sd).2.1⟩ : Sg)]).flatMap cellsSg).toArray) (fun α => SX.app_rel (f := cellsSg) (l1 := cur) (l2 := [(⟨z.id, z.role, z.bar, z.mark, z.kind, z.side, z.dir, z.level, z.size, z.with_, (mulS z.fn z.fd sn sd).1, (mulS z.fn z.fd sn sd).2.1, (mulS z.tn z.td sn sd).1, (mulS z.tn z.td sn sd).2.1⟩ : Sg)]) (fun _ => rfl) cellsSg_one (by decide) (SX.cat1 (by kernel_rfl)) (SX.src_own (by kernel_rfl)) (by simp only [LL]; omega) (by simp only [LL]; omega)) ?_
                          refine SX.E (.int .i64 (((i + 1 : Nat) : Int))) (fun α => SX.W1 i) ?_
                          exact SX.VC_again fun α => ⟨⟨i + 1, cur ++ [(⟨z.id, z.role, z.bar, z.mark, z.kind, z.side, z.dir, z.level, z.size, z.with_, (mulS z.fn z.fd sn sd).1, (mulS z.fn z.fd sn sd).2.1, (mulS z.tn z.td sn sd).1, (mulS z.tn z.td sn sd).2.1⟩ : Sg)], Eq.trans (b := [.int .i64 ((i + 1 : Nat) : Int), .agg ([Value.agg (sgsL cur).toArray, Value.agg (([(⟨z.id, z.role, z.bar, z.mark, z.kind, z.side, z.dir, z.level, z.size, z.with_, (mulS z.fn z.fd sn sd).1, (mulS z.fn z.fd sn sd).2.1, (mulS z.tn z.td sn sd).1, (mulS z.tn z.td sn sd).2.1⟩ : Sg)]).flatMap cellsSg).toArray].flatMap SX.cellsV).toArray]) (by kernel_rfl) (by simp [SX.cellsV, sgsL]), by omega, acc_step hz hacc (by rw [hwk]; (try simp only [mirrorS, swapN]); (repeat' split) <;> first | rfl | (exfalso; omega))⟩, cast (by kernel_rfl) (show n - ((i + 1 : Nat) : Int).toNat < n - (i : Int).toNat by omega)⟩
                        try simp only [NRM] at h47
                        have hfact : applyE (⟨7, role, other, fr, to, m, sn, sd, sg⟩ : Ed) ss = ([], 360) := applyE_fail h24 hok (acc_fail hz hacc (by rw [hwk]; (try simp only [mirrorS, swapN]); (repeat' split) <;> first | rfl | (exfalso; omega)))
                        exact SX.VC_ret fun α W _ hR hS => ⟨hS.below, (.slice none 0 0), Eq.trans (b := Ending.returned (.tuple #[(.slice none 0 0), .int .i64 360])) (by kernel_rfl) (by rw [hfact]), (by rw [hfact]; exact SX.SlRet.nil)⟩
                      try simp only [NRM] at h44
                      refine SX.E (.int .i64 (role - 1)) (fun α => SX.W (role - 1)) ?_
                      refine SX.D (.bool ((z.role : Int) == role - 1)) ?_
                      refine SX.B ((z.role : Int) == role - 1) (fun h46 => ?_) (fun h46 => ?_)
                      · try simp only [NRM] at h46
                        refine SX.E (.tuple #[.agg #[.int .i64 ((mulS z.fn z.fd sn sd).1), .int .i64 ((mulS z.fn z.fd sn sd).2.1)], .int .i64 ((mulS z.fn z.fd sn sd).2.2)]) (fun α => ⟨[⟨.agg #[.int .i64 z.fn, .int .i64 z.fd], 0, []⟩, ⟨.agg #[.int .i64 sn, .int .i64 sd], 0, []⟩], ⟨by kernel_rfl, by kernel_rfl, by kernel_rfl, by kernel_rfl, trivial⟩, .inr (.inr (⟨rfl, _, _, _, _, rfl, rfl⟩)), SX.noAli rfl⟩) ?_
                        refine SX.E (.tuple #[.agg #[.int .i64 ((mulS z.tn z.td sn sd).1), .int .i64 ((mulS z.tn z.td sn sd).2.1)], .int .i64 ((mulS z.tn z.td sn sd).2.2)]) (fun α => ⟨[⟨.agg #[.int .i64 z.tn, .int .i64 z.td], 0, []⟩, ⟨.agg #[.int .i64 sn, .int .i64 sd], 0, []⟩], ⟨by kernel_rfl, by kernel_rfl, by kernel_rfl, by kernel_rfl, trivial⟩, .inr (.inr (⟨rfl, _, _, _, _, rfl, rfl⟩)), SX.noAli rfl⟩) ?_
                        refine SX.D (.bool (((mulS z.fn z.fd sn sd).2.2 : Int) == 0)) ?_
                        refine SX.B (((mulS z.fn z.fd sn sd).2.2 : Int) == 0) (fun h49 => ?_) (fun h49 => ?_)
                        · try simp only [NRM] at h49
                          refine SX.D (.bool (((mulS z.tn z.td sn sd).2.2 : Int) == 0)) ?_
                          refine SX.D (.bool (!(((mulS z.tn z.td sn sd).2.2 : Int) == 0))) ?_
                          refine SX.B (!(((mulS z.tn z.td sn sd).2.2 : Int) == 0)) (fun h51 => ?_) (fun h51 => ?_)
                          · try simp only [NRM] at h51
                            have hfact : applyE (⟨7, role, other, fr, to, m, sn, sd, sg⟩ : Ed) ss = ([], 360) := applyE_fail h24 hok (acc_fail hz hacc (by rw [hwk]; (try simp only [mirrorS, swapN]); (repeat' split) <;> first | rfl | (exfalso; omega)))
                            exact SX.VC_ret fun α W _ hR hS => ⟨hS.below, (.slice none 0 0), Eq.trans (b := Ending.returned (.tuple #[(.slice none 0 0), .int .i64 360])) (by kernel_rfl) (by rw [hfact]), (by rw [hfact]; exact SX.SlRet.nil)⟩
                          try simp only [NRM] at h51
                          refine SX.E (Value.agg (([(⟨z.id, z.role, z.bar, z.mark, z.kind, z.side, z.dir, z.level, z.size, z.with_, (mulS z.fn z.fd sn sd).1, (mulS z.fn z.fd sn sd).2.1, (mulS z.tn z.td sn sd).1, (mulS z.tn z.td sn sd).2.1⟩ : Sg)]).flatMap cellsSg).toArray) (fun α => SX.app_rel (f := cellsSg) (l1 := cur) (l2 := [(⟨z.id, z.role, z.bar, z.mark, z.kind, z.side, z.dir, z.level, z.size, z.with_, (mulS z.fn z.fd sn sd).1, (mulS z.fn z.fd sn sd).2.1, (mulS z.tn z.td sn sd).1, (mulS z.tn z.td sn sd).2.1⟩ : Sg)]) (fun _ => rfl) cellsSg_one (by decide) (SX.cat1 (by kernel_rfl)) (SX.src_own (by kernel_rfl)) (by simp only [LL]; omega) (by simp only [LL]; omega)) ?_
                          refine SX.E (.int .i64 (((i + 1 : Nat) : Int))) (fun α => SX.W1 i) ?_
                          exact SX.VC_again fun α => ⟨⟨i + 1, cur ++ [(⟨z.id, z.role, z.bar, z.mark, z.kind, z.side, z.dir, z.level, z.size, z.with_, (mulS z.fn z.fd sn sd).1, (mulS z.fn z.fd sn sd).2.1, (mulS z.tn z.td sn sd).1, (mulS z.tn z.td sn sd).2.1⟩ : Sg)], Eq.trans (b := [.int .i64 ((i + 1 : Nat) : Int), .agg ([Value.agg (sgsL cur).toArray, Value.agg (([(⟨z.id, z.role, z.bar, z.mark, z.kind, z.side, z.dir, z.level, z.size, z.with_, (mulS z.fn z.fd sn sd).1, (mulS z.fn z.fd sn sd).2.1, (mulS z.tn z.td sn sd).1, (mulS z.tn z.td sn sd).2.1⟩ : Sg)]).flatMap cellsSg).toArray].flatMap SX.cellsV).toArray]) (by kernel_rfl) (by simp [SX.cellsV, sgsL]), by omega, acc_step hz hacc (by rw [hwk]; (try simp only [mirrorS, swapN]); (repeat' split) <;> first | rfl | (exfalso; omega))⟩, cast (by kernel_rfl) (show n - ((i + 1 : Nat) : Int).toNat < n - (i : Int).toNat by omega)⟩
                        try simp only [NRM] at h49
                        have hfact : applyE (⟨7, role, other, fr, to, m, sn, sd, sg⟩ : Ed) ss = ([], 360) := applyE_fail h24 hok (acc_fail hz hacc (by rw [hwk]; (try simp only [mirrorS, swapN]); (repeat' split) <;> first | rfl | (exfalso; omega)))
                        exact SX.VC_ret fun α W _ hR hS => ⟨hS.below, (.slice none 0 0), Eq.trans (b := Ending.returned (.tuple #[(.slice none 0 0), .int .i64 360])) (by kernel_rfl) (by rw [hfact]), (by rw [hfact]; exact SX.SlRet.nil)⟩
                      try simp only [NRM] at h46
                      refine SX.E (Value.agg (([z]).flatMap cellsSg).toArray) (fun α => SX.app_rel (f := cellsSg) (l1 := cur) (l2 := [z]) (fun _ => rfl) cellsSg_one (by decide) (SX.cat1 (by kernel_rfl)) (SX.src_own (by kernel_rfl)) (by simp only [LL]; omega) (by simp only [LL]; omega)) ?_
                      refine SX.E (.int .i64 (((i + 1 : Nat) : Int))) (fun α => SX.W1 i) ?_
                      exact SX.VC_again fun α => ⟨⟨i + 1, cur ++ [z], Eq.trans (b := [.int .i64 ((i + 1 : Nat) : Int), .agg ([Value.agg (sgsL cur).toArray, Value.agg (([z]).flatMap cellsSg).toArray].flatMap SX.cellsV).toArray]) (by kernel_rfl) (by simp [SX.cellsV, sgsL]), by omega, acc_step hz hacc (by rw [hwk]; (try simp only [mirrorS, swapN]); (repeat' split) <;> first | rfl | (exfalso; omega))⟩, cast (by kernel_rfl) (show n - ((i + 1 : Nat) : Int).toNat < n - (i : Int).toNat by omega)⟩
                    try simp only [NRM] at h43
                    refine SX.E (Value.agg (([z]).flatMap cellsSg).toArray) (fun α => SX.app_rel (f := cellsSg) (l1 := cur) (l2 := [z]) (fun _ => rfl) cellsSg_one (by decide) (SX.cat1 (by kernel_rfl)) (SX.src_own (by kernel_rfl)) (by simp only [LL]; omega) (by simp only [LL]; omega)) ?_
                    refine SX.E (.int .i64 (((i + 1 : Nat) : Int))) (fun α => SX.W1 i) ?_
                    exact SX.VC_again fun α => ⟨⟨i + 1, cur ++ [z], Eq.trans (b := [.int .i64 ((i + 1 : Nat) : Int), .agg ([Value.agg (sgsL cur).toArray, Value.agg (([z]).flatMap cellsSg).toArray].flatMap SX.cellsV).toArray]) (by kernel_rfl) (by simp [SX.cellsV, sgsL]), by omega, acc_step hz hacc (by rw [hwk]; (try simp only [mirrorS, swapN]); (repeat' split) <;> first | rfl | (exfalso; omega))⟩, cast (by kernel_rfl) (show n - ((i + 1 : Nat) : Int).toNat < n - (i : Int).toNat by omega)⟩
                  try simp only [NRM] at h42
                  refine SX.E (Value.agg (([z]).flatMap cellsSg).toArray) (fun α => SX.app_rel (f := cellsSg) (l1 := cur) (l2 := [z]) (fun _ => rfl) cellsSg_one (by decide) (SX.cat1 (by kernel_rfl)) (SX.src_own (by kernel_rfl)) (by simp only [LL]; omega) (by simp only [LL]; omega)) ?_
                  refine SX.E (.int .i64 (((i + 1 : Nat) : Int))) (fun α => SX.W1 i) ?_
                  exact SX.VC_again fun α => ⟨⟨i + 1, cur ++ [z], Eq.trans (b := [.int .i64 ((i + 1 : Nat) : Int), .agg ([Value.agg (sgsL cur).toArray, Value.agg (([z]).flatMap cellsSg).toArray].flatMap SX.cellsV).toArray]) (by kernel_rfl) (by simp [SX.cellsV, sgsL]), by omega, acc_step hz hacc (by rw [hwk]; (try simp only [mirrorS, swapN]); (repeat' split) <;> first | rfl | (exfalso; omega))⟩, cast (by kernel_rfl) (show n - ((i + 1 : Nat) : Int).toNat < n - (i : Int).toNat by omega)⟩
                try simp only [NRM] at h39
                refine SX.E (.int .i64 ((chkS cur))) (fun α => ⟨[⟨(α 21).h, 14, sgsL cur⟩], ⟨Eq.trans (b := (⟨(α 21).h, 14, [Value.agg (sgsL cur).toArray].flatMap SX.cellsV⟩ : SX.Arg)) (by simp [SX.cellsV]) (by kernel_rfl), trivial⟩, .inl ⟨rfl, _, cur, rfl, by omega, rfl⟩, SX.noAli rfl⟩) ?_
                refine SX.D (.bool (((chkS cur) : Int) != 0)) ?_
                refine SX.B (((chkS cur) : Int) != 0) (fun h41 => ?_) (fun h41 => ?_)
                · try simp only [NRM] at h41
                  have hfact : applyE (⟨7, role, other, fr, to, m, sn, sd, sg⟩ : Ed) ss = ([], chkS cur) := applyE_out h24 hok (by rw [← hacc, List.take_of_length_le (by omega)]) (by assumption)
                  exact SX.VC_ret fun α W _ hR hS => ⟨hS.below, (.slice none 0 0), Eq.trans (b := Ending.returned (.tuple #[(.slice none 0 0), .int .i64 ((chkS cur))])) (by kernel_rfl) (by rw [hfact]), (by rw [hfact]; exact SX.SlRet.nil)⟩
                try simp only [NRM] at h41
                have hfact : applyE (⟨7, role, other, fr, to, m, sn, sd, sg⟩ : Ed) ss = (cur, 0) := applyE_ok h24 hok (by rw [← hacc, List.take_of_length_le (by omega)]) (by omega)
                exact SX.VC_ret fun α W _ hR hS => ⟨hS.below, (α 21).h, Eq.trans (b := Ending.returned (.tuple #[(α 21).h, .int .i64 0])) (by kernel_rfl) (by rw [hfact]), SX.SlRet.row hS (n := 21) (b := (⟨[(.x 38 [])], 26, (.row 14)⟩ : SX.Blk)) (by kernel_rfl) rfl (hR 21 _ (by kernel_rfl)) (Eq.trans (b := [Value.agg (sgsL cur).toArray].flatMap SX.cellsV) (by kernel_rfl) (by rw [hfact]; simp [SX.cellsV]))⟩
              try simp only [NRM] at h33
              have hfact : applyE (⟨7, role, other, fr, to, m, sn, sd, sg⟩ : Ed) ss = ([], 360) := applyE_no h24 (fun hk => by first | exact h25 (by rw [← hu]; exact hk.2.2.1) | (have := hrt.1 hk.2.2.2; omega) | (have := hrt.1 hk.2.2.2; have := okR_iff2.2 this.2.1; omega))
              exact SX.VC_ret fun α W _ hR hS => ⟨hS.below, (.slice none 0 0), Eq.trans (b := Ending.returned (.tuple #[(.slice none 0 0), .int .i64 360])) (by kernel_rfl) (by rw [hfact]), (by rw [hfact]; exact SX.SlRet.nil)⟩
            try simp only [NRM] at h32
            have hfact : applyE (⟨7, role, other, fr, to, m, sn, sd, sg⟩ : Ed) ss = ([], 360) := applyE_no h24 (fun hk => by first | exact h25 (by rw [← hu]; exact hk.2.2.1) | (have := hrt.1 hk.2.2.2; omega) | (have := hrt.1 hk.2.2.2; have := okR_iff2.2 this.2.1; omega))
            exact SX.VC_ret fun α W _ hR hS => ⟨hS.below, (.slice none 0 0), Eq.trans (b := Ending.returned (.tuple #[(.slice none 0 0), .int .i64 360])) (by kernel_rfl) (by rw [hfact]), (by rw [hfact]; exact SX.SlRet.nil)⟩
          try simp only [NRM] at h30
          have hfact : applyE (⟨7, role, other, fr, to, m, sn, sd, sg⟩ : Ed) ss = ([], 360) := applyE_no h24 (fun hk => by first | exact h25 (by rw [← hu]; exact hk.2.2.1) | (have := hrt.1 hk.2.2.2; omega) | (have := hrt.1 hk.2.2.2; have := okR_iff2.2 this.2.1; omega))
          exact SX.VC_ret fun α W _ hR hS => ⟨hS.below, (.slice none 0 0), Eq.trans (b := Ending.returned (.tuple #[(.slice none 0 0), .int .i64 360])) (by kernel_rfl) (by rw [hfact]), (by rw [hfact]; exact SX.SlRet.nil)⟩
        try simp only [NRM] at h29
        have hfact : applyE (⟨7, role, other, fr, to, m, sn, sd, sg⟩ : Ed) ss = ([], 360) := applyE_no h24 (fun hk => by first | exact h25 (by rw [← hu]; exact hk.2.2.1) | (have := hrt.1 hk.2.2.2; omega) | (have := hrt.1 hk.2.2.2; have := okR_iff2.2 this.2.1; omega))
        exact SX.VC_ret fun α W _ hR hS => ⟨hS.below, (.slice none 0 0), Eq.trans (b := Ending.returned (.tuple #[(.slice none 0 0), .int .i64 360])) (by kernel_rfl) (by rw [hfact]), (by rw [hfact]; exact SX.SlRet.nil)⟩
      try simp only [NRM] at h28
      have hfact : applyE (⟨7, role, other, fr, to, m, sn, sd, sg⟩ : Ed) ss = ([], 360) := applyE_no h24 (fun hk => by first | exact h25 (by rw [← hu]; exact hk.2.2.1) | (have := hrt.1 hk.2.2.2; omega) | (have := hrt.1 hk.2.2.2; have := okR_iff2.2 this.2.1; omega))
      exact SX.VC_ret fun α W _ hR hS => ⟨hS.below, (.slice none 0 0), Eq.trans (b := Ending.returned (.tuple #[(.slice none 0 0), .int .i64 360])) (by kernel_rfl) (by rw [hfact]), (by rw [hfact]; exact SX.SlRet.nil)⟩
    try simp only [NRM] at h27
    have hfact : applyE (⟨7, role, other, fr, to, m, sn, sd, sg⟩ : Ed) ss = ([], 360) := applyE_no h24 (fun hk => by first | exact h25 (by rw [← hu]; exact hk.2.2.1) | (have := hrt.1 hk.2.2.2; omega) | (have := hrt.1 hk.2.2.2; have := okR_iff2.2 this.2.1; omega))
    exact SX.VC_ret fun α W _ hR hS => ⟨hS.below, (.slice none 0 0), Eq.trans (b := Ending.returned (.tuple #[(.slice none 0 0), .int .i64 360])) (by kernel_rfl) (by rw [hfact]), (by rw [hfact]; exact SX.SlRet.nil)⟩
  try simp only [NRM] at h26
  have hfact : applyE (⟨7, role, other, fr, to, m, sn, sd, sg⟩ : Ed) ss = ([], 360) := applyE_no h24 (fun hk => by first | exact h25 (by rw [← hu]; exact hk.2.2.1) | (have := hrt.1 hk.2.2.2; omega) | (have := hrt.1 hk.2.2.2; have := okR_iff2.2 this.2.1; omega))
  exact SX.VC_ret fun α W _ hR hS => ⟨hS.below, (.slice none 0 0), Eq.trans (b := Ending.returned (.tuple #[(.slice none 0 0), .int .i64 360])) (by kernel_rfl) (by rw [hfact]), (by rw [hfact]; exact SX.SlRet.nil)⟩
end Go.Proofs.Ytnaooclbphaelaa
