/-
  A field is set; a patch is applied: the program and the specification.
-/
import Derived.Test.YtodlcjhefojibaaPd
import Derived.Test.YtodlcjhefojibaaSz
namespace Go.Proofs.Ytodlcjhefojibaa
set_option linter.unusedSimpArgs false
set_option linter.unusedVariables false
open Go Go.RowKit
/-- a sign in which a field has the value of another one -/
def setF (x : Sg) (f : Int) (y : Sg) : Sg := if f = 1 then {x with role := y.role} else if f = 2 then {x with bar := y.bar} else if f = 3 then {x with mark := y.mark} else if f = 4 then {x with side := y.side} else if f = 5 then {x with dir := y.dir} else if f = 6 then {x with level := y.level} else if f = 7 then {x with size := y.size} else if f = 8 then {x with with_ := y.with_} else if f = 9 then {x with fn := y.fn, fd := y.fd, tn := y.tn, td := y.td} else x
/-- a patch -/
structure Pt where
  (id kind sign field : Int)
  new : Sg
  needs : List Int
  deriving DecidableEq, Inhabited
def cellsP (p : Pt) (h : Value) : List Value := [.int .i64 p.id, .int .i64 p.kind, .int .i64 p.sign, .int .i64 p.field] ++ cellsSg p.new ++ [h]
def valP (p : Pt) (h : Value) : Value := .agg (cellsP p h).toArray
/-- what a patch makes of signs -/
def applyS (ss : List Sg) (p : Pt) : List Sg × Int :=
  if p.kind = 1 then (if there ss p.sign = true then (ss.set (idx ss p.sign) (setF (ss.getD (idx ss p.sign) default) p.field p.new), 0) else ([], 370))
  else if p.kind = 2 then (if there ss p.sign = true then ([], 370) else if 4096 ≤ ss.length then ([], 2) else (ss.take (idx ss p.sign) ++ p.new :: ss.drop (idx ss p.sign), 0))
  else (if there ss p.sign = true then (ss.take (idx ss p.sign) ++ ss.drop (idx ss p.sign + 1), 0) else (ss, 0))
theorem cellsSg_one (a : Sg) : ∀ u ∈ cellsSg a, u.oneCell' = true := by
  intro u hu
  simp only [cellsSg, List.mem_cons, List.not_mem_nil, or_false] at hu
  rcases hu with rfl | rfl | rfl | rfl | rfl | rfl | rfl | rfl | rfl | rfl | rfl | rfl | rfl | rfl <;> rfl
theorem sgs_arg {W : World} {u : Value} {ss : List Sg} (h : SX.Arg.rd W ⟨u, 14, sgsL ss⟩) : ∃ A n c, u = .slice A n c ∧ Rd W 14 A n (sgsL ss) ∧ n ≤ c ∧ ss.length = n := by
  unfold SX.Arg.rd at h
  split at h
  · rename_i A n c hu
    have hu : u = .slice A n c := hu
    refine ⟨A, n, c, hu, h.1, h.2, ?_⟩
    have := h.1.1; simp only [sgsL_len] at this; omega
  · cases h
theorem idx_le (ss : List Sg) (id : Int) : idx ss id ≤ ss.length := List.findIdx_le_length
theorem there_lt {ss : List Sg} {id : Int} (h : there ss id = true) : ∃ z, ss[idx ss id]? = some z := by
  unfold there at h
  split at h
  · exact ⟨_, by assumption⟩
  · cases h
def tree_set : SX.Tree :=
(.df (.bin .eql 3) [(.x 14 []), (.k (.int .i64 9))] .one 
(.br 29 [] 
(.ret (.a [(.x 0 []), (.x 1 []), (.x 2 []), (.x 3 []), (.x 4 []), (.x 5 []), (.x 6 []), (.x 7 []), (.x 8 []), (.x 9 []), (.x 25 []), (.x 26 []), (.x 27 []), (.x 28 [])]) [] []) 
(.sp 14 [] [(.bad 46 []), 
(.ret (.a [(.x 0 []), (.x 16 []), (.x 2 []), (.x 3 []), (.x 4 []), (.x 5 []), (.x 6 []), (.x 7 []), (.x 8 []), (.x 9 []), (.x 10 []), (.x 11 []), (.x 12 []), (.x 13 [])]) [] []), 
(.ret (.a [(.x 0 []), (.x 1 []), (.x 17 []), (.x 3 []), (.x 4 []), (.x 5 []), (.x 6 []), (.x 7 []), (.x 8 []), (.x 9 []), (.x 10 []), (.x 11 []), (.x 12 []), (.x 13 [])]) [] []), 
(.ret (.a [(.x 0 []), (.x 1 []), (.x 2 []), (.x 18 []), (.x 4 []), (.x 5 []), (.x 6 []), (.x 7 []), (.x 8 []), (.x 9 []), (.x 10 []), (.x 11 []), (.x 12 []), (.x 13 [])]) [] []), 
(.ret (.a [(.x 0 []), (.x 1 []), (.x 2 []), (.x 3 []), (.x 4 []), (.x 20 []), (.x 6 []), (.x 7 []), (.x 8 []), (.x 9 []), (.x 10 []), (.x 11 []), (.x 12 []), (.x 13 [])]) [] []), 
(.ret (.a [(.x 0 []), (.x 1 []), (.x 2 []), (.x 3 []), (.x 4 []), (.x 5 []), (.x 21 []), (.x 7 []), (.x 8 []), (.x 9 []), (.x 10 []), (.x 11 []), (.x 12 []), (.x 13 [])]) [] []), 
(.ret (.a [(.x 0 []), (.x 1 []), (.x 2 []), (.x 3 []), (.x 4 []), (.x 5 []), (.x 6 []), (.x 22 []), (.x 8 []), (.x 9 []), (.x 10 []), (.x 11 []), (.x 12 []), (.x 13 [])]) [] []), 
(.ret (.a [(.x 0 []), (.x 1 []), (.x 2 []), (.x 3 []), (.x 4 []), (.x 5 []), (.x 6 []), (.x 7 []), (.x 23 []), (.x 9 []), (.x 10 []), (.x 11 []), (.x 12 []), (.x 13 [])]) [] []), 
(.ret (.a [(.x 0 []), (.x 1 []), (.x 2 []), (.x 3 []), (.x 4 []), (.x 5 []), (.x 6 []), (.x 7 []), (.x 8 []), (.x 24 []), (.x 10 []), (.x 11 []), (.x 12 []), (.x 13 [])]) [] [])])))
def args_set : List SX.V := [.a ((List.range 14).map fun j => .x j []), .x 14 [], .a ((List.range 14).map fun j => .x (15 + j) [])]
set_option maxRecDepth 100000 in
theorem run_set (K A : Value → Nat → List Value → Prop) : (SX.run (cx0 K A) ⟨fun _ => true, [], 0, 100⟩ 100000 0 (SX.door 35 Try.f35 args_set (List.replicate 29 .one)) [.code (Try.f35.body.getD .skip), .top Try.f35]).strip = tree_set := by kernel_rfl
set_option maxRecDepth 100000 in
set_option maxHeartbeats 4000000 in
theorem set_any (x y : Sg) (f : Int) (w : World) (h1 : 1 ≤ f) (h9 : f ≤ 9) : Calls Try.prog 35 #[valSg x, .int .i64 f, valSg y] w fun e w' => e = .returned (valSg (setF x f y)) ∧ Below w.heap.size w w' := by
  refine SX.calls_of_run (C := cx0 (fun _ _ _ => False) (fun _ _ _ => False)) (G := ⟨fun _ => true, [], 0, 100⟩) (args := args_set) (sh := (List.replicate 29 .one)) (ρ := (cellsSg x ++ [.int .i64 f] ++ cellsSg y)) 100000 tree_set (cx0_ok _ _) Try.func35 rfl (run_set _ _) (by kernel_rfl) (by kernel_rfl) (by kernel_rfl) ?_ ?_
  · exact fun W _ => SX.Kf_none (fun _ _ _ h => h) W
  unfold tree_set
  refine SX.VC_df (.bool ((f : Int) == 9)) (by intro α; show _ = _; kernel_rfl) (by kernel_rfl) ?_
  refine SX.VC_br ((f : Int) == 9) (by kernel_rfl) (fun h29 => ?_) (fun h29 => ?_)
  · try simp only [NRM] at h29
    exact SX.VC_ret fun α W _ _ hS => SX.ret_of hS (x := .agg #[.int .i64 x.id, .int .i64 x.role, .int .i64 x.bar, .int .i64 x.mark, .int .i64 x.kind, .int .i64 x.side, .int .i64 x.dir, .int .i64 x.level, .int .i64 x.size, .int .i64 x.with_, .int .i64 y.fn, .int .i64 y.fd, .int .i64 y.tn, .int .i64 y.td]) (by kernel_rfl) (by simp [setF, valSg, cellsSg, *])
  · try simp only [NRM] at h29
    obtain ⟨k, rfl⟩ : ∃ k : Nat, f = k := ⟨f.toNat, by omega⟩
    refine SX.VC_sp k (by show k < 9; omega) (by kernel_rfl) fun t ht => ?_
    have hk : k = 1 ∨ k = 2 ∨ k = 3 ∨ k = 4 ∨ k = 5 ∨ k = 6 ∨ k = 7 ∨ k = 8 := by omega
    rcases hk with rfl | rfl | rfl | rfl | rfl | rfl | rfl | rfl
    · cases (Option.some.inj ht)
      exact SX.VC_ret fun α W _ _ hS => SX.ret_of hS (x := .agg #[.int .i64 x.id, .int .i64 y.role, .int .i64 x.bar, .int .i64 x.mark, .int .i64 x.kind, .int .i64 x.side, .int .i64 x.dir, .int .i64 x.level, .int .i64 x.size, .int .i64 x.with_, .int .i64 x.fn, .int .i64 x.fd, .int .i64 x.tn, .int .i64 x.td]) (by kernel_rfl) (by simp [setF, valSg, cellsSg, *])
    · cases (Option.some.inj ht)
      exact SX.VC_ret fun α W _ _ hS => SX.ret_of hS (x := .agg #[.int .i64 x.id, .int .i64 x.role, .int .i64 y.bar, .int .i64 x.mark, .int .i64 x.kind, .int .i64 x.side, .int .i64 x.dir, .int .i64 x.level, .int .i64 x.size, .int .i64 x.with_, .int .i64 x.fn, .int .i64 x.fd, .int .i64 x.tn, .int .i64 x.td]) (by kernel_rfl) (by simp [setF, valSg, cellsSg, *])
    · cases (Option.some.inj ht)
      exact SX.VC_ret fun α W _ _ hS => SX.ret_of hS (x := .agg #[.int .i64 x.id, .int .i64 x.role, .int .i64 x.bar, .int .i64 y.mark, .int .i64 x.kind, .int .i64 x.side, .int .i64 x.dir, .int .i64 x.level, .int .i64 x.size, .int .i64 x.with_, .int .i64 x.fn, .int .i64 x.fd, .int .i64 x.tn, .int .i64 x.td]) (by kernel_rfl) (by simp [setF, valSg, cellsSg, *])
    · cases (Option.some.inj ht)
      exact SX.VC_ret fun α W _ _ hS => SX.ret_of hS (x := .agg #[.int .i64 x.id, .int .i64 x.role, .int .i64 x.bar, .int .i64 x.mark, .int .i64 x.kind, .int .i64 y.side, .int .i64 x.dir, .int .i64 x.level, .int .i64 x.size, .int .i64 x.with_, .int .i64 x.fn, .int .i64 x.fd, .int .i64 x.tn, .int .i64 x.td]) (by kernel_rfl) (by simp [setF, valSg, cellsSg, *])
    · cases (Option.some.inj ht)
      exact SX.VC_ret fun α W _ _ hS => SX.ret_of hS (x := .agg #[.int .i64 x.id, .int .i64 x.role, .int .i64 x.bar, .int .i64 x.mark, .int .i64 x.kind, .int .i64 x.side, .int .i64 y.dir, .int .i64 x.level, .int .i64 x.size, .int .i64 x.with_, .int .i64 x.fn, .int .i64 x.fd, .int .i64 x.tn, .int .i64 x.td]) (by kernel_rfl) (by simp [setF, valSg, cellsSg, *])
    · cases (Option.some.inj ht)
      exact SX.VC_ret fun α W _ _ hS => SX.ret_of hS (x := .agg #[.int .i64 x.id, .int .i64 x.role, .int .i64 x.bar, .int .i64 x.mark, .int .i64 x.kind, .int .i64 x.side, .int .i64 x.dir, .int .i64 y.level, .int .i64 x.size, .int .i64 x.with_, .int .i64 x.fn, .int .i64 x.fd, .int .i64 x.tn, .int .i64 x.td]) (by kernel_rfl) (by simp [setF, valSg, cellsSg, *])
    · cases (Option.some.inj ht)
      exact SX.VC_ret fun α W _ _ hS => SX.ret_of hS (x := .agg #[.int .i64 x.id, .int .i64 x.role, .int .i64 x.bar, .int .i64 x.mark, .int .i64 x.kind, .int .i64 x.side, .int .i64 x.dir, .int .i64 x.level, .int .i64 y.size, .int .i64 x.with_, .int .i64 x.fn, .int .i64 x.fd, .int .i64 x.tn, .int .i64 x.td]) (by kernel_rfl) (by simp [setF, valSg, cellsSg, *])
    · cases (Option.some.inj ht)
      exact SX.VC_ret fun α W _ _ hS => SX.ret_of hS (x := .agg #[.int .i64 x.id, .int .i64 x.role, .int .i64 x.bar, .int .i64 x.mark, .int .i64 x.kind, .int .i64 x.side, .int .i64 x.dir, .int .i64 x.level, .int .i64 x.size, .int .i64 y.with_, .int .i64 x.fn, .int .i64 x.fd, .int .i64 x.tn, .int .i64 x.td]) (by kernel_rfl) (by simp [setF, valSg, cellsSg, *])
def tree_Set : SX.Tree :=
(.df (.bin .eql 3) [(.x 14 []), (.k (.int .i64 1))] .one 
(.br 29 [] 
(.ret (.a [(.x 0 []), (.x 16 []), (.x 2 []), (.x 3 []), (.x 4 []), (.x 5 []), (.x 6 []), (.x 7 []), (.x 8 []), (.x 9 []), (.x 10 []), (.x 11 []), (.x 12 []), (.x 13 [])]) [] []) 
(.df (.bin .eql 3) [(.x 14 []), (.k (.int .i64 2))] .one 
(.br 30 [] 
(.ret (.a [(.x 0 []), (.x 1 []), (.x 17 []), (.x 3 []), (.x 4 []), (.x 5 []), (.x 6 []), (.x 7 []), (.x 8 []), (.x 9 []), (.x 10 []), (.x 11 []), (.x 12 []), (.x 13 [])]) [] []) 
(.df (.bin .eql 3) [(.x 14 []), (.k (.int .i64 3))] .one 
(.br 31 [] 
(.ret (.a [(.x 0 []), (.x 1 []), (.x 2 []), (.x 18 []), (.x 4 []), (.x 5 []), (.x 6 []), (.x 7 []), (.x 8 []), (.x 9 []), (.x 10 []), (.x 11 []), (.x 12 []), (.x 13 [])]) [] []) 
(.df (.bin .eql 3) [(.x 14 []), (.k (.int .i64 4))] .one 
(.br 32 [] 
(.ret (.a [(.x 0 []), (.x 1 []), (.x 2 []), (.x 3 []), (.x 4 []), (.x 20 []), (.x 6 []), (.x 7 []), (.x 8 []), (.x 9 []), (.x 10 []), (.x 11 []), (.x 12 []), (.x 13 [])]) [] []) 
(.df (.bin .eql 3) [(.x 14 []), (.k (.int .i64 5))] .one 
(.br 33 [] 
(.ret (.a [(.x 0 []), (.x 1 []), (.x 2 []), (.x 3 []), (.x 4 []), (.x 5 []), (.x 21 []), (.x 7 []), (.x 8 []), (.x 9 []), (.x 10 []), (.x 11 []), (.x 12 []), (.x 13 [])]) [] []) 
(.df (.bin .eql 3) [(.x 14 []), (.k (.int .i64 6))] .one 
(.br 34 [] 
(.ret (.a [(.x 0 []), (.x 1 []), (.x 2 []), (.x 3 []), (.x 4 []), (.x 5 []), (.x 6 []), (.x 22 []), (.x 8 []), (.x 9 []), (.x 10 []), (.x 11 []), (.x 12 []), (.x 13 [])]) [] []) 
(.df (.bin .eql 3) [(.x 14 []), (.k (.int .i64 7))] .one 
(.br 35 [] 
(.ret (.a [(.x 0 []), (.x 1 []), (.x 2 []), (.x 3 []), (.x 4 []), (.x 5 []), (.x 6 []), (.x 7 []), (.x 23 []), (.x 9 []), (.x 10 []), (.x 11 []), (.x 12 []), (.x 13 [])]) [] []) 
(.df (.bin .eql 3) [(.x 14 []), (.k (.int .i64 8))] .one 
(.br 36 [] 
(.ret (.a [(.x 0 []), (.x 1 []), (.x 2 []), (.x 3 []), (.x 4 []), (.x 5 []), (.x 6 []), (.x 7 []), (.x 8 []), (.x 24 []), (.x 10 []), (.x 11 []), (.x 12 []), (.x 13 [])]) [] []) 
(.df (.bin .eql 3) [(.x 14 []), (.k (.int .i64 9))] .one 
(.br 37 [] 
(.ret (.a [(.x 0 []), (.x 1 []), (.x 2 []), (.x 3 []), (.x 4 []), (.x 5 []), (.x 6 []), (.x 7 []), (.x 8 []), (.x 9 []), (.x 25 []), (.x 26 []), (.x 27 []), (.x 28 [])]) [] []) 
(.ret (.a [(.x 0 []), (.x 1 []), (.x 2 []), (.x 3 []), (.x 4 []), (.x 5 []), (.x 6 []), (.x 7 []), (.x 8 []), (.x 9 []), (.x 10 []), (.x 11 []), (.x 12 []), (.x 13 [])]) [] [])))))))))))))))))))
def args_Set : List SX.V := [.a ((List.range 14).map fun j => .x j []), .x 14 [], .a ((List.range 14).map fun j => .x (15 + j) [])]
set_option maxRecDepth 100000 in
theorem run_Set (K A : Value → Nat → List Value → Prop) : (SX.run (cx0 K A) ⟨fun _ => true, [], 0, 100⟩ 100000 0 (SX.door 29 Try.f29 args_Set (List.replicate 29 .one)) [.code (Try.f29.body.getD .skip), .top Try.f29]).strip = tree_Set := by kernel_rfl
set_option maxRecDepth 100000 in
set_option maxHeartbeats 4000000 in
theorem Set_any (x y : Sg) (f : Int) (w : World)  : Calls Try.prog 29 #[valSg x, .int .i64 f, valSg y] w fun e w' => e = .returned (valSg (setF x f y)) ∧ Below w.heap.size w w' := by
  refine SX.calls_of_run (C := cx0 (fun _ _ _ => False) (fun _ _ _ => False)) (G := ⟨fun _ => true, [], 0, 100⟩) (args := args_Set) (sh := (List.replicate 29 .one)) (ρ := (cellsSg x ++ [.int .i64 f] ++ cellsSg y)) 100000 tree_Set (cx0_ok _ _) Try.func29 rfl (run_Set _ _) (by kernel_rfl) (by kernel_rfl) (by kernel_rfl) ?_ ?_
  · exact fun W _ => SX.Kf_none (fun _ _ _ h => h) W
  unfold tree_Set
  refine SX.VC_df (.bool ((f : Int) == 1)) (by intro α; show _ = _; kernel_rfl) (by kernel_rfl) ?_
  refine SX.VC_br ((f : Int) == 1) (by kernel_rfl) (fun h29 => ?_) (fun h29 => ?_)
  · try simp only [NRM] at h29
    exact SX.VC_ret fun α W _ _ hS => SX.ret_of hS (x := .agg #[.int .i64 x.id, .int .i64 y.role, .int .i64 x.bar, .int .i64 x.mark, .int .i64 x.kind, .int .i64 x.side, .int .i64 x.dir, .int .i64 x.level, .int .i64 x.size, .int .i64 x.with_, .int .i64 x.fn, .int .i64 x.fd, .int .i64 x.tn, .int .i64 x.td]) (by kernel_rfl) (by simp [setF, valSg, cellsSg, *])
  · try simp only [NRM] at h29
    refine SX.VC_df (.bool ((f : Int) == 2)) (by intro α; show _ = _; kernel_rfl) (by kernel_rfl) ?_
    refine SX.VC_br ((f : Int) == 2) (by kernel_rfl) (fun h30 => ?_) (fun h30 => ?_)
    · try simp only [NRM] at h30
      exact SX.VC_ret fun α W _ _ hS => SX.ret_of hS (x := .agg #[.int .i64 x.id, .int .i64 x.role, .int .i64 y.bar, .int .i64 x.mark, .int .i64 x.kind, .int .i64 x.side, .int .i64 x.dir, .int .i64 x.level, .int .i64 x.size, .int .i64 x.with_, .int .i64 x.fn, .int .i64 x.fd, .int .i64 x.tn, .int .i64 x.td]) (by kernel_rfl) (by simp [setF, valSg, cellsSg, *])
    · try simp only [NRM] at h30
      refine SX.VC_df (.bool ((f : Int) == 3)) (by intro α; show _ = _; kernel_rfl) (by kernel_rfl) ?_
      refine SX.VC_br ((f : Int) == 3) (by kernel_rfl) (fun h31 => ?_) (fun h31 => ?_)
      · try simp only [NRM] at h31
        exact SX.VC_ret fun α W _ _ hS => SX.ret_of hS (x := .agg #[.int .i64 x.id, .int .i64 x.role, .int .i64 x.bar, .int .i64 y.mark, .int .i64 x.kind, .int .i64 x.side, .int .i64 x.dir, .int .i64 x.level, .int .i64 x.size, .int .i64 x.with_, .int .i64 x.fn, .int .i64 x.fd, .int .i64 x.tn, .int .i64 x.td]) (by kernel_rfl) (by simp [setF, valSg, cellsSg, *])
      · try simp only [NRM] at h31
        refine SX.VC_df (.bool ((f : Int) == 4)) (by intro α; show _ = _; kernel_rfl) (by kernel_rfl) ?_
        refine SX.VC_br ((f : Int) == 4) (by kernel_rfl) (fun h32 => ?_) (fun h32 => ?_)
        · try simp only [NRM] at h32
          exact SX.VC_ret fun α W _ _ hS => SX.ret_of hS (x := .agg #[.int .i64 x.id, .int .i64 x.role, .int .i64 x.bar, .int .i64 x.mark, .int .i64 x.kind, .int .i64 y.side, .int .i64 x.dir, .int .i64 x.level, .int .i64 x.size, .int .i64 x.with_, .int .i64 x.fn, .int .i64 x.fd, .int .i64 x.tn, .int .i64 x.td]) (by kernel_rfl) (by simp [setF, valSg, cellsSg, *])
        · try simp only [NRM] at h32
          refine SX.VC_df (.bool ((f : Int) == 5)) (by intro α; show _ = _; kernel_rfl) (by kernel_rfl) ?_
          refine SX.VC_br ((f : Int) == 5) (by kernel_rfl) (fun h33 => ?_) (fun h33 => ?_)
          · try simp only [NRM] at h33
            exact SX.VC_ret fun α W _ _ hS => SX.ret_of hS (x := .agg #[.int .i64 x.id, .int .i64 x.role, .int .i64 x.bar, .int .i64 x.mark, .int .i64 x.kind, .int .i64 x.side, .int .i64 y.dir, .int .i64 x.level, .int .i64 x.size, .int .i64 x.with_, .int .i64 x.fn, .int .i64 x.fd, .int .i64 x.tn, .int .i64 x.td]) (by kernel_rfl) (by simp [setF, valSg, cellsSg, *])
          · try simp only [NRM] at h33
            refine SX.VC_df (.bool ((f : Int) == 6)) (by intro α; show _ = _; kernel_rfl) (by kernel_rfl) ?_
            refine SX.VC_br ((f : Int) == 6) (by kernel_rfl) (fun h34 => ?_) (fun h34 => ?_)
            · try simp only [NRM] at h34
              exact SX.VC_ret fun α W _ _ hS => SX.ret_of hS (x := .agg #[.int .i64 x.id, .int .i64 x.role, .int .i64 x.bar, .int .i64 x.mark, .int .i64 x.kind, .int .i64 x.side, .int .i64 x.dir, .int .i64 y.level, .int .i64 x.size, .int .i64 x.with_, .int .i64 x.fn, .int .i64 x.fd, .int .i64 x.tn, .int .i64 x.td]) (by kernel_rfl) (by simp [setF, valSg, cellsSg, *])
            · try simp only [NRM] at h34
              refine SX.VC_df (.bool ((f : Int) == 7)) (by intro α; show _ = _; kernel_rfl) (by kernel_rfl) ?_
              refine SX.VC_br ((f : Int) == 7) (by kernel_rfl) (fun h35 => ?_) (fun h35 => ?_)
              · try simp only [NRM] at h35
                exact SX.VC_ret fun α W _ _ hS => SX.ret_of hS (x := .agg #[.int .i64 x.id, .int .i64 x.role, .int .i64 x.bar, .int .i64 x.mark, .int .i64 x.kind, .int .i64 x.side, .int .i64 x.dir, .int .i64 x.level, .int .i64 y.size, .int .i64 x.with_, .int .i64 x.fn, .int .i64 x.fd, .int .i64 x.tn, .int .i64 x.td]) (by kernel_rfl) (by simp [setF, valSg, cellsSg, *])
              · try simp only [NRM] at h35
                refine SX.VC_df (.bool ((f : Int) == 8)) (by intro α; show _ = _; kernel_rfl) (by kernel_rfl) ?_
                refine SX.VC_br ((f : Int) == 8) (by kernel_rfl) (fun h36 => ?_) (fun h36 => ?_)
                · try simp only [NRM] at h36
                  exact SX.VC_ret fun α W _ _ hS => SX.ret_of hS (x := .agg #[.int .i64 x.id, .int .i64 x.role, .int .i64 x.bar, .int .i64 x.mark, .int .i64 x.kind, .int .i64 x.side, .int .i64 x.dir, .int .i64 x.level, .int .i64 x.size, .int .i64 y.with_, .int .i64 x.fn, .int .i64 x.fd, .int .i64 x.tn, .int .i64 x.td]) (by kernel_rfl) (by simp [setF, valSg, cellsSg, *])
                · try simp only [NRM] at h36
                  refine SX.VC_df (.bool ((f : Int) == 9)) (by intro α; show _ = _; kernel_rfl) (by kernel_rfl) ?_
                  refine SX.VC_br ((f : Int) == 9) (by kernel_rfl) (fun h37 => ?_) (fun h37 => ?_)
                  · try simp only [NRM] at h37
                    exact SX.VC_ret fun α W _ _ hS => SX.ret_of hS (x := .agg #[.int .i64 x.id, .int .i64 x.role, .int .i64 x.bar, .int .i64 x.mark, .int .i64 x.kind, .int .i64 x.side, .int .i64 x.dir, .int .i64 x.level, .int .i64 x.size, .int .i64 x.with_, .int .i64 y.fn, .int .i64 y.fd, .int .i64 y.tn, .int .i64 y.td]) (by kernel_rfl) (by simp [setF, valSg, cellsSg, *])
                  · try simp only [NRM] at h37
                    exact SX.VC_ret fun α W _ _ hS => SX.ret_of hS (x := .agg #[.int .i64 x.id, .int .i64 x.role, .int .i64 x.bar, .int .i64 x.mark, .int .i64 x.kind, .int .i64 x.side, .int .i64 x.dir, .int .i64 x.level, .int .i64 x.size, .int .i64 x.with_, .int .i64 x.fn, .int .i64 x.fd, .int .i64 x.tn, .int .i64 x.td]) (by kernel_rfl) (by simp [setF, valSg, cellsSg, *])
/-- what is known of places and fields -/
def RE0 (f : FuncId) (xs : List SX.Arg) (v : Value) : Prop :=
  (f = 39 ∧ ∃ (u : Value) (ss : List Sg) (id : Int), xs = [⟨u, 14, sgsL ss⟩, ⟨.int .i64 id, 0, []⟩] ∧ ss.length ≤ 9007199254740992 ∧ okL ss ∧ 0 ≤ id ∧ id ≤ 1048576 ∧ v = .tuple #[.int .i64 (idx ss id), .bool (there ss id)]) ∨
  (f = 40 ∧ ∃ (u : Value) (ss : List Sg) (id : Int), xs = [⟨u, 14, sgsL ss⟩, ⟨.int .i64 id, 0, []⟩] ∧ ss.length ≤ 9223372036854775807 ∧ v = .tuple #[.int .i64 (idx ss id), .bool (there ss id)]) ∨
  (f = 35 ∧ ∃ (x y : Sg) (f : Int), xs = [⟨valSg x, 0, []⟩, ⟨.int .i64 f, 0, []⟩, ⟨valSg y, 0, []⟩] ∧ 1 ≤ f ∧ f ≤ 9 ∧ v = valSg (setF x f y)) ∨
  (f = 29 ∧ ∃ (x y : Sg) (f : Int), xs = [⟨valSg x, 0, []⟩, ⟨.int .i64 f, 0, []⟩, ⟨valSg y, 0, []⟩] ∧ v = valSg (setF x f y))
def shpE0 : FuncId → Option SX.Sh := fun f => if f = 39 then some (.tp [.one, .one]) else if f = 40 then some (.tp [.one, .one]) else if f = 35 then some (.ag 14) else if f = 29 then some (.ag 14) else none
noncomputable def cxE0 (K A : Value → Nat → List Value → Prop) : SX.Cx := { P := Try.prog, R := fun _ => RE0, shp := shpE0, K := K, A := A, fr := [69] }
theorem okE0 (K A : Value → Nat → List Value → Prop) : (cxE0 K A).Ok := by
  refine SX.Cx.ok_of (fun _ => rfl) ?_
  intro K f xs v W hR hrd hKf
  rcases hR with ⟨rfl, u, ss, id, rfl, hl, hs, h0, h1, rfl⟩ | ⟨rfl, u, ss, id, rfl, hl, rfl⟩ | ⟨rfl, x, y, f, rfl, h1, h9, rfl⟩ | ⟨rfl, x, y, f, rfl, rfl⟩
  · obtain ⟨A, n, c, rfl, h2, h3, h4⟩ := sgs_arg (hrd ⟨u, 14, sgsL ss⟩ (by simp))
    exact (at_any ss A n c id W h2 (by omega) h3 hs h0 h1).mono fun e w' h => SX.plainOk rfl h
  · obtain ⟨A, n, c, rfl, h2, h3, h4⟩ := sgs_arg (hrd ⟨u, 14, sgsL ss⟩ (by simp))
    exact (At_any ss A n c id W h2 (by omega) h3).mono fun e w' h => SX.plainOk rfl h
  · exact (set_any x y f W h1 h9).mono fun e w' h => SX.plainOk rfl h
  · exact (Set_any x y f W).mono fun e w' h => SX.plainOk rfl h
def tree_ap1 : SX.Tree :=
(.df (.call 39 [(.ext 14), .no]) [(.x 0 []), (.x 3 [])] (.tp [.one, .one]) 
(.df .not [(.x 20 [1])] .one 
(.br 21 [] 
(.ret (.t [(.k (.slice none 0 0)), (.k (.int .i64 370))]) [none] []) 
(.df (.snil false) [(.x 0 [])] .one 
(.br 22 [] (.bad 46 []) 
(.df (.app 14 112 (.ext 14)) [(.cat []), (.x 0 [])] .any 
(.df (.rbnd 14) [(.cat [(.x 23 [])]), (.x 20 [0])] .one 
(.df (.relems 14 0 14) [(.cat [(.x 23 [])]), (.x 20 [0])] (.ag 14) 
(.df (.call 35 [.no, .no, .no]) [(.a [(.x 25 [0]), (.x 25 [1]), (.x 25 [2]), (.x 25 [3]), (.x 25 [4]), (.x 25 [5]), (.x 25 [6]), (.x 25 [7]), (.x 25 [8]), (.x 25 [9]), (.x 25 [10]), (.x 25 [11]), (.x 25 [12]), (.x 25 [13])]), (.x 4 []), (.a [(.x 5 []), (.x 6 []), (.x 7 []), (.x 8 []), (.x 9 []), (.x 10 []), (.x 11 []), (.x 12 []), (.x 13 []), (.x 14 []), (.x 15 []), (.x 16 []), (.x 17 []), (.x 18 [])])] (.ag 14) 
(.df (.rbnd 14) [(.cat [(.x 23 [])]), (.x 20 [0])] .one 
(.df (.rset 14 0) [(.cat [(.x 23 [])]), (.x 20 [0]), (.x 26 [0]), (.x 26 [1]), (.x 26 [2]), (.x 26 [3]), (.x 26 [4]), (.x 26 [5]), (.x 26 [6]), (.x 26 [7]), (.x 26 [8]), (.x 26 [9]), (.x 26 [10]), (.x 26 [11]), (.x 26 [12]), (.x 26 [13])] .any 
(.ret (.t [(.row 2), (.k (.int .i64 0))]) [none, none, (some ⟨[(.x 28 [])], 26, (.row 14)⟩), none, none, none, none, none, none, none, none, none, none, none, none, none] []))))))))))))
def args_ap1 : List SX.V := [.x 0 [], .a ([.x 1 [], .k (.int .i64 1)] ++ (List.range 17).map fun j => .x (3 + j) [])]
set_option maxRecDepth 100000 in
theorem run_ap1 (K A : Value → Nat → List Value → Prop) : (SX.run (cxE0 K A) ⟨fun _ => true, [], 2, 100⟩ 100000 0 (SX.door 38 Try.f38 args_ap1 (List.replicate 20 .one)) [.code (Try.f38.body.getD .skip), .top Try.f38]).strip = tree_ap1 := by kernel_rfl
set_option maxRecDepth 100000 in
set_option maxHeartbeats 4000000 in
theorem ap1_any (ss : List Sg) (A : Option Addr) (n c : Nat) (id sg fld : Int) (nw : Sg) (needs : List Int) (B : Option Addr) (m d : Nat) (w : World) (hr : Rd w 14 A n (sgsL ss)) (hn : n ≤ 4096) (hc : n ≤ c) (hs : okL ss) (h0 : 0 ≤ sg) (h1 : sg ≤ 1048576) (hf : 1 ≤ fld ∧ fld ≤ 9) : Calls Try.prog 38 #[.slice A n c, valP ⟨id, 1, sg, fld, nw, needs⟩ (.slice B m d)] w fun e w' => Below w.heap.size w w' ∧ ∃ hdr, e = .returned (.tuple #[hdr, .int .i64 (applyS ss ⟨id, 1, sg, fld, nw, needs⟩).2]) ∧ SX.SlRet w w' [⟨.slice A n c, 14, sgsL ss⟩] hdr 14 (sgsL (applyS ss ⟨id, 1, sg, fld, nw, needs⟩).1) := by
  refine SX.calls_of_run (C := cxE0 (SX.SubK A n c 14 (sgsL ss)) (SX.SubK A n c 14 (sgsL ss))) (G := ⟨fun _ => true, [], 2, 100⟩) (args := args_ap1) (sh := (List.replicate 20 .one)) (ρ := ([.slice A n c] ++ cellsP ⟨id, 1, sg, fld, nw, needs⟩ (.slice B m d))) 100000 tree_ap1 (okE0 _ _) Try.func38 rfl (run_ap1 _ _) (by kernel_rfl) (by kernel_rfl) (by kernel_rfl) ?_ ?_
  · intro W hW s z xs h; exact h.rd (hr.same0 hW)
  have hA := SX.rd_some hr
  have hln : ss.length = n := by have := hr.1; rw [sgsL_len] at this; omega
  obtain ⟨i, hi⟩ : ∃ i, idx ss sg = i := ⟨_, rfl⟩
  have hin : i ≤ n := by rw [← hi, ← hln]; exact idx_le ss sg
  have hdt : ∀ j, (ss.drop j).take (n - j) = ss.drop j := fun j => List.take_of_length_le (by simp; omega)
  have hsp : (ss.take i).flatMap cellsSg ++ (ss.drop i).flatMap cellsSg = ss.flatMap cellsSg := by rw [← List.flatMap_append, List.take_append_drop]
  have hset : ∀ z : Sg, i < ss.length → ss.set i z = ss.take i ++ z :: ss.drop (i + 1) := fun z h => by rw [List.set_eq_take_append_cons_drop, if_pos h]
  unfold tree_ap1
  refine SX.VC_df (.tuple #[.int .i64 (((i : Nat) : Int)), .bool (there ss sg)]) (fun α => ⟨[⟨.slice A n c, 14, sgsL ss⟩, ⟨.int .i64 sg, 0, []⟩], ⟨by kernel_rfl, rfl, cast (by kernel_rfl) (SX.SubK.full (A := A) hr.1 hc), by kernel_rfl, by kernel_rfl, trivial⟩, .inl ⟨rfl, .slice A n c, ss, sg, rfl, by omega, hs, h0, h1, by rw [hi]⟩, SX.noAli rfl⟩) (by kernel_rfl) ?_
  refine SX.VC_df (.bool (!(there ss sg))) (by intro α; show _ = _; kernel_rfl) (by kernel_rfl) ?_
  refine SX.VC_br (!(there ss sg)) (by kernel_rfl) (fun h21 => ?_) (fun h21 => ?_)
  · try simp only [NRM] at h21
    have hfact : applyS ss ⟨id, 1, sg, fld, nw, needs⟩ = ([], 370) := by simp [applyS, h21]
    exact SX.VC_ret fun α W _ hR hS => ⟨hS.below, (.slice none 0 0), Eq.trans (b := Ending.returned (.tuple #[(.slice none 0 0), .int .i64 370])) (by kernel_rfl) (by rw [hfact]), (by rw [hfact]; exact SX.SlRet.nil)⟩
  · try simp only [NRM] at h21
    obtain ⟨z, hz⟩ := there_lt h21
    rw [hi] at hz
    have hil : i < ss.length := (List.getElem?_eq_some_iff.1 hz).1
    refine SX.VC_df (.bool (false ^^ (A : Option Addr).isNone)) (fun α => ⟨A, n, c, by kernel_rfl, rfl⟩) (by kernel_rfl) ?_
    refine SX.VC_br (false ^^ (A : Option Addr).isNone) (by kernel_rfl) (fun h22 => absurd h22 (by have := hA (by omega); simp only [Bool.false_xor]; cases A <;> simp_all)) (fun h22 => ?_)
    try simp only [NRM] at h22
    refine SX.VC_df (Value.agg ((ss).flatMap cellsSg).toArray) (fun α => SX.app_rel (f := cellsSg) (l1 := ([] : List Sg)) (l2 := ss) (fun _ => rfl) cellsSg_one (by decide) (by kernel_rfl) (SX.src_ext (cast (by kernel_rfl) (SX.SubK.full (A := A) hr.1 hc))) (by simp only [List.length_append, List.length_take, List.length_drop, List.length_cons, List.length_nil]; omega) (by simp only [List.length_append, List.length_take, List.length_drop, List.length_cons, List.length_nil]; omega)) (by kernel_rfl) ?_
    refine SX.VC_df (.bool true) (fun α => SX.row_bnd (f := cellsSg) (l := ss) (k := i) (fun _ => rfl) (by decide) (SX.cat1 (by kernel_rfl)) (by kernel_rfl) (by omega)) (by kernel_rfl) ?_
    refine SX.VC_df (.agg (cellsSg z).toArray) (fun α => SX.row_elems (f := cellsSg) (l := ss) (k := i) (z := z) (fun _ => rfl) (by decide) (SX.cat1 (by kernel_rfl)) (by kernel_rfl) hz) (by kernel_rfl) ?_
    refine SX.VC_df (.agg (cellsSg (setF z fld nw)).toArray) (fun α => ⟨[⟨valSg z, 0, []⟩, ⟨.int .i64 fld, 0, []⟩, ⟨valSg nw, 0, []⟩], ⟨by kernel_rfl, by kernel_rfl, by kernel_rfl, by kernel_rfl, by kernel_rfl, by kernel_rfl, trivial⟩, .inr (.inr (.inl ⟨rfl, z, nw, fld, rfl, hf.1, hf.2, rfl⟩)), SX.noAli rfl⟩) (by kernel_rfl) ?_
    refine SX.VC_df (.bool true) (fun α => SX.row_bnd (f := cellsSg) (l := ss) (k := i) (fun _ => rfl) (by decide) (SX.cat1 (by kernel_rfl)) (by kernel_rfl) (by omega)) (by kernel_rfl) ?_
    refine SX.VC_df (Value.agg (((ss).set i (setF z fld nw)).flatMap cellsSg).toArray) (fun α => SX.row_set (f := cellsSg) (l := ss) (k := i) (z := (setF z fld nw)) (fun _ => rfl) (by decide) (SX.cat1 (by kernel_rfl)) (by kernel_rfl) (by omega) (by kernel_rfl)) (by kernel_rfl) ?_
    have hfact : applyS ss ⟨id, 1, sg, fld, nw, needs⟩ = (ss.set i (setF z fld nw), 0) := by simp [applyS, h21, hi, hz, List.getD_eq_getElem?_getD]
    exact SX.VC_ret fun α W _ hR hS => ⟨hS.below, (α 2).h, Eq.trans (b := Ending.returned (.tuple #[(α 2).h, .int .i64 0])) (by kernel_rfl) (by rw [hfact]), SX.SlRet.row hS (n := 2) (b := (⟨[(.x 28 [])], 26, (.row 14)⟩ : SX.Blk)) (by kernel_rfl) rfl (hR 2 _ (by kernel_rfl)) (Eq.trans (b := [Value.agg (((ss).set i (setF z fld nw)).flatMap cellsSg).toArray].flatMap SX.cellsV) (by kernel_rfl) (by rw [hfact]; simp [SX.cellsV, sgsL, hdt, hsp]))⟩
def tree_ra1 : SX.Tree :=
(.df (.call 40 [(.ext 14), .no]) [(.x 0 []), (.x 3 [])] (.tp [.one, .one]) 
(.df .not [(.x 20 [1])] .one 
(.br 21 [] 
(.ret (.t [(.k (.slice none 0 0)), (.k (.int .i64 370))]) [none] []) 
(.df (.slc false 14 false true false) [(.x 0 []), (.x 20 [0])] .one 
(.df (.app 14 112 (.ext 14)) [(.cat []), (.x 22 [])] .any 
(.df .bnd [(.x 0 []), (.x 20 [0])] .one 
(.df (.elems 14 0 14) [(.x 0 []), (.x 20 [0])] (.ag 14) 
(.df (.call 29 [.no, .no, .no]) [(.a [(.x 25 [0]), (.x 25 [1]), (.x 25 [2]), (.x 25 [3]), (.x 25 [4]), (.x 25 [5]), (.x 25 [6]), (.x 25 [7]), (.x 25 [8]), (.x 25 [9]), (.x 25 [10]), (.x 25 [11]), (.x 25 [12]), (.x 25 [13])]), (.x 4 []), (.a [(.x 5 []), (.x 6 []), (.x 7 []), (.x 8 []), (.x 9 []), (.x 10 []), (.x 11 []), (.x 12 []), (.x 13 []), (.x 14 []), (.x 15 []), (.x 16 []), (.x 17 []), (.x 18 [])])] (.ag 14) 
(.df (.app 14 112 (.own 14 [(.x 26 [0]), (.x 26 [1]), (.x 26 [2]), (.x 26 [3]), (.x 26 [4]), (.x 26 [5]), (.x 26 [6]), (.x 26 [7]), (.x 26 [8]), (.x 26 [9]), (.x 26 [10]), (.x 26 [11]), (.x 26 [12]), (.x 26 [13])])) [(.cat [(.x 23 [])]), (.sl 13 0 1 1)] .any 
(.br 20 [1] 
(.df (.bin .add 3) [(.x 20 [0]), (.k (.int .i64 1))] .one 
(.df (.slc false 14 true false false) [(.x 0 []), (.x 28 [])] .one 
(.df (.app 14 112 (.ext 14)) [(.cat [(.x 23 []), (.x 27 [])]), (.x 29 [])] .any 
(.ret (.t [(.row 16), (.k (.int .i64 0))]) [none, none, none, none, none, none, none, none, none, none, none, none, none, none, none, none, (some ⟨[(.x 23 []), (.x 27 []), (.x 30 [])], 26, (.row 14)⟩)] [])))) 
(.df (.slc false 14 true false false) [(.x 0 []), (.x 20 [0])] .one 
(.df (.app 14 112 (.ext 14)) [(.cat [(.x 23 []), (.x 27 [])]), (.x 28 [])] .any 
(.ret (.t [(.row 16), (.k (.int .i64 0))]) [none, none, none, none, none, none, none, none, none, none, none, none, none, none, none, none, (some ⟨[(.x 23 []), (.x 27 []), (.x 29 [])], 26, (.row 14)⟩)] [])))))))))))))
def args_ra1 : List SX.V := [.x 0 [], .a ([.x 1 [], .k (.int .i64 1)] ++ (List.range 17).map fun j => .x (3 + j) [])]
set_option maxRecDepth 100000 in
theorem run_ra1 (K A : Value → Nat → List Value → Prop) : (SX.run (cxE0 K A) ⟨fun _ => false, [], 2, 100⟩ 100000 0 (SX.door 34 Try.f34 args_ra1 (List.replicate 20 .one)) [.code (Try.f34.body.getD .skip), .top Try.f34]).strip = tree_ra1 := by kernel_rfl
set_option maxRecDepth 100000 in
set_option maxHeartbeats 4000000 in
theorem ra1_any (ss : List Sg) (A : Option Addr) (n c : Nat) (id sg fld : Int) (nw : Sg) (needs : List Int) (B : Option Addr) (m d : Nat) (w : World) (hr : Rd w 14 A n (sgsL ss)) (hn : n ≤ 4096) (hc : n ≤ c) : Calls Try.prog 34 #[.slice A n c, valP ⟨id, 1, sg, fld, nw, needs⟩ (.slice B m d)] w fun e w' => Below w.heap.size w w' ∧ ∃ hdr, e = .returned (.tuple #[hdr, .int .i64 (applyS ss ⟨id, 1, sg, fld, nw, needs⟩).2]) ∧ SX.SlRet w w' [⟨.slice A n c, 14, sgsL ss⟩] hdr 14 (sgsL (applyS ss ⟨id, 1, sg, fld, nw, needs⟩).1) := by
  refine SX.calls_of_run (C := cxE0 (SX.SubK A n c 14 (sgsL ss)) (SX.SubK A n c 14 (sgsL ss))) (G := ⟨fun _ => false, [], 2, 100⟩) (args := args_ra1) (sh := (List.replicate 20 .one)) (ρ := ([.slice A n c] ++ cellsP ⟨id, 1, sg, fld, nw, needs⟩ (.slice B m d))) 100000 tree_ra1 (okE0 _ _) Try.func34 rfl (run_ra1 _ _) (by kernel_rfl) (by kernel_rfl) (by kernel_rfl) ?_ ?_
  · intro W hW s z xs h; exact h.rd (hr.same0 hW)
  have hA := SX.rd_some hr
  have hln : ss.length = n := by have := hr.1; rw [sgsL_len] at this; omega
  obtain ⟨i, hi⟩ : ∃ i, idx ss sg = i := ⟨_, rfl⟩
  have hin : i ≤ n := by rw [← hi, ← hln]; exact idx_le ss sg
  have hdt : ∀ j, (ss.drop j).take (n - j) = ss.drop j := fun j => List.take_of_length_le (by simp; omega)
  have hsp : (ss.take i).flatMap cellsSg ++ (ss.drop i).flatMap cellsSg = ss.flatMap cellsSg := by rw [← List.flatMap_append, List.take_append_drop]
  have hset : ∀ z : Sg, i < ss.length → ss.set i z = ss.take i ++ z :: ss.drop (i + 1) := fun z h => by rw [List.set_eq_take_append_cons_drop, if_pos h]
  unfold tree_ra1
  refine SX.VC_df (.tuple #[.int .i64 (((i : Nat) : Int)), .bool (there ss sg)]) (fun α => ⟨[⟨.slice A n c, 14, sgsL ss⟩, ⟨.int .i64 sg, 0, []⟩], ⟨by kernel_rfl, rfl, cast (by kernel_rfl) (SX.SubK.full (A := A) hr.1 hc), by kernel_rfl, by kernel_rfl, trivial⟩, .inr (.inl ⟨rfl, .slice A n c, ss, sg, rfl, by omega, by rw [hi]⟩), SX.noAli rfl⟩) (by kernel_rfl) ?_
  refine SX.VC_df (.bool (!(there ss sg))) (by intro α; show _ = _; kernel_rfl) (by kernel_rfl) ?_
  refine SX.VC_br (!(there ss sg)) (by kernel_rfl) (fun h21 => ?_) (fun h21 => ?_)
  · try simp only [NRM] at h21
    have hfact : applyS ss ⟨id, 1, sg, fld, nw, needs⟩ = ([], 370) := by simp [applyS, h21]
    exact SX.VC_ret fun α W _ hR hS => ⟨hS.below, (.slice none 0 0), Eq.trans (b := Ending.returned (.tuple #[(.slice none 0 0), .int .i64 370])) (by kernel_rfl) (by rw [hfact]), (by rw [hfact]; exact SX.SlRet.nil)⟩
  · try simp only [NRM] at h21
    obtain ⟨z, hz⟩ := there_lt h21
    rw [hi] at hz
    have hil : i < ss.length := (List.getElem?_eq_some_iff.1 hz).1
    refine SX.VC_df ((SX.subS A 14 0 i c)) (fun α => SX.slc_hi (A := A) (n := n) (c := c) (k := i) (by kernel_rfl) (by kernel_rfl) (by omega)) (by kernel_rfl) ?_
    refine SX.VC_df (Value.agg (((ss.drop 0).take (i - 0)).flatMap cellsSg).toArray) (fun α => SX.app_rel (f := cellsSg) (l1 := ([] : List Sg)) (l2 := (ss.drop 0).take (i - 0)) (fun _ => rfl) cellsSg_one (by decide) (by kernel_rfl) (SX.src_ext (cast (by kernel_rfl) (SX.SubK.part (f := cellsSg) (sz := 14) (fun _ => rfl) (A := A) (n := n) (c := c) (L := ss) (l := 0) (h := i) (m := c) (by omega) (by omega) (by omega) (by omega)))) (by simp only [List.length_append, List.length_take, List.length_drop, List.length_cons, List.length_nil]; omega) (by simp only [List.length_append, List.length_take, List.length_drop, List.length_cons, List.length_nil]; omega)) (by kernel_rfl) ?_
    refine SX.VC_df (.bool true) (fun α => SX.extBnd (A := A) (n := n) (c := c) (j := i) hA (by kernel_rfl) (by kernel_rfl) (by omega)) (by kernel_rfl) ?_
    refine SX.VC_df (.agg (cellsSg z).toArray) (fun α => SX.extElems (f := cellsSg) (l := ss) (A := A) (n := n) (c := c) (j := i) (z := z) (fun _ => rfl) hA (by kernel_rfl) (by kernel_rfl) (by omega) (cast (by kernel_rfl) (SX.SubK.full (A := A) hr.1 hc)) hz) (by kernel_rfl) ?_
    refine SX.VC_df (.agg (cellsSg (setF z fld nw)).toArray) (fun α => ⟨[⟨valSg z, 0, []⟩, ⟨.int .i64 fld, 0, []⟩, ⟨valSg nw, 0, []⟩], ⟨by kernel_rfl, by kernel_rfl, by kernel_rfl, by kernel_rfl, by kernel_rfl, by kernel_rfl, trivial⟩, .inr (.inr (.inr (⟨rfl, z, nw, fld, rfl, rfl⟩))), SX.noAli rfl⟩) (by kernel_rfl) ?_
    refine SX.VC_df (Value.agg (([(setF z fld nw)]).flatMap cellsSg).toArray) (fun α => SX.app_rel (f := cellsSg) (l1 := ((ss.drop 0).take (i - 0))) (l2 := [(setF z fld nw)]) (fun _ => rfl) cellsSg_one (by decide) (SX.cat1 (by kernel_rfl)) (SX.src_own (by kernel_rfl)) (by simp only [List.length_append, List.length_take, List.length_drop, List.length_cons, List.length_nil]; omega) (by simp only [List.length_append, List.length_take, List.length_drop, List.length_cons, List.length_nil]; omega)) (by kernel_rfl) ?_
    refine SX.VC_br (there ss sg) (by kernel_rfl) (fun h20_1 => ?_) (fun h20_1 => absurd (h20_1.symm.trans h21) (by simp))
    try simp only [NRM] at h20_1
    refine SX.VC_df (.int .i64 (((i + 1 : Nat) : Int))) (fun α => Eq.trans (b := some (.int .i64 (IntKind.i64.wrap ((i : Nat) + 1)))) (by kernel_rfl) (by rw [show ((i + 1 : Nat) : Int) = ((i : Nat) : Int) + 1 by omega, wrap_i64 (by omega) (by omega)])) (by kernel_rfl) ?_
    refine SX.VC_df ((SX.subS A 14 (i + 1) n c)) (fun α => SX.slc_lo (A := A) (n := n) (c := c) (k := (i + 1)) (by kernel_rfl) (by kernel_rfl) (by omega)) (by kernel_rfl) ?_
    refine SX.VC_df (Value.agg (((ss.drop (i + 1)).take (n - (i + 1))).flatMap cellsSg).toArray) (fun α => SX.app_rel (f := cellsSg) (l1 := ((ss.drop 0).take (i - 0)) ++ [(setF z fld nw)]) (l2 := (ss.drop (i + 1)).take (n - (i + 1))) (fun _ => rfl) cellsSg_one (by decide) (Eq.trans (b := [Value.agg (((ss.drop 0).take (i - 0)).flatMap cellsSg).toArray, Value.agg (([(setF z fld nw)]).flatMap cellsSg).toArray].flatMap SX.cellsV) (by kernel_rfl) (by simp [SX.cellsV])) (SX.src_ext (cast (by kernel_rfl) (SX.SubK.part (f := cellsSg) (sz := 14) (fun _ => rfl) (A := A) (n := n) (c := c) (L := ss) (l := (i + 1)) (h := n) (m := c) (by omega) (by omega) (by omega) (by omega)))) (by simp only [List.length_append, List.length_take, List.length_drop, List.length_cons, List.length_nil]; omega) (by simp only [List.length_append, List.length_take, List.length_drop, List.length_cons, List.length_nil]; omega)) (by kernel_rfl) ?_
    have hfact : applyS ss ⟨id, 1, sg, fld, nw, needs⟩ = (ss.set i (setF z fld nw), 0) := by simp [applyS, h21, hi, hz, List.getD_eq_getElem?_getD]
    exact SX.VC_ret fun α W _ hR hS => ⟨hS.below, (α 16).h, Eq.trans (b := Ending.returned (.tuple #[(α 16).h, .int .i64 0])) (by kernel_rfl) (by rw [hfact]), SX.SlRet.row hS (n := 16) (b := (⟨[(.x 23 []), (.x 27 []), (.x 30 [])], 26, (.row 14)⟩ : SX.Blk)) (by kernel_rfl) rfl (hR 16 _ (by kernel_rfl)) (Eq.trans (b := [Value.agg (((ss.drop 0).take (i - 0)).flatMap cellsSg).toArray, Value.agg (([(setF z fld nw)]).flatMap cellsSg).toArray, Value.agg (((ss.drop (i + 1)).take (n - (i + 1))).flatMap cellsSg).toArray].flatMap SX.cellsV) (by kernel_rfl) (by rw [hfact]; simp [SX.cellsV, sgsL, hdt, hsp, hset _ hil]))⟩
def tree_ap2 : SX.Tree :=
(.df (.call 39 [(.ext 14), .no]) [(.x 0 []), (.x 3 [])] (.tp [.one, .one]) 
(.br 20 [1] 
(.ret (.t [(.k (.slice none 0 0)), (.k (.int .i64 370))]) [none] []) 
(.df (.len false) [(.x 0 [])] .one 
(.df (.bin .eql 3) [(.x 21 []), (.k (.int .i64 4096))] .one 
(.br 22 [] 
(.ret (.t [(.k (.slice none 0 0)), (.k (.int .i64 2))]) [none] []) 
(.df (.slc false 14 false true true) [(.x 0 []), (.x 20 [0]), (.x 20 [0])] .one 
(.df (.appx 14 112 true (.own 14 [(.x 5 []), (.x 6 []), (.x 7 []), (.x 8 []), (.x 9 []), (.x 10 []), (.x 11 []), (.x 12 []), (.x 13 []), (.x 14 []), (.x 15 []), (.x 16 []), (.x 17 []), (.x 18 [])])) [(.x 23 []), (.sl 7 0 1 1)] .any 
(.df (.slc false 14 true false false) [(.x 0 []), (.x 20 [0])] .one 
(.df (.app 14 112 (.ext 14)) [(.cat [(.x 24 [])]), (.x 25 [])] .any 
(.ret (.t [(.row 12), (.k (.int .i64 0))]) [none, none, none, none, none, none, none, none, none, none, none, none, (some ⟨[(.x 24 []), (.x 26 [])], 26, (.row 14)⟩), none, none] []))))))))))
def args_ap2 : List SX.V := [.x 0 [], .a ([.x 1 [], .k (.int .i64 2)] ++ (List.range 17).map fun j => .x (3 + j) [])]
set_option maxRecDepth 100000 in
theorem run_ap2 (K A : Value → Nat → List Value → Prop) : (SX.run (cxE0 K A) ⟨fun _ => true, [], 2, 100⟩ 100000 0 (SX.door 38 Try.f38 args_ap2 (List.replicate 20 .one)) [.code (Try.f38.body.getD .skip), .top Try.f38]).strip = tree_ap2 := by kernel_rfl
set_option maxRecDepth 100000 in
set_option maxHeartbeats 4000000 in
theorem ap2_any (ss : List Sg) (A : Option Addr) (n c : Nat) (id sg fld : Int) (nw : Sg) (needs : List Int) (B : Option Addr) (m d : Nat) (w : World) (hr : Rd w 14 A n (sgsL ss)) (hn : n ≤ 4096) (hc : n ≤ c) (hs : okL ss) (h0 : 0 ≤ sg) (h1 : sg ≤ 1048576) : Calls Try.prog 38 #[.slice A n c, valP ⟨id, 2, sg, fld, nw, needs⟩ (.slice B m d)] w fun e w' => Below w.heap.size w w' ∧ ∃ hdr, e = .returned (.tuple #[hdr, .int .i64 (applyS ss ⟨id, 2, sg, fld, nw, needs⟩).2]) ∧ SX.SlRet w w' [⟨.slice A n c, 14, sgsL ss⟩] hdr 14 (sgsL (applyS ss ⟨id, 2, sg, fld, nw, needs⟩).1) := by
  refine SX.calls_of_run (C := cxE0 (SX.SubK A n c 14 (sgsL ss)) (SX.SubK A n c 14 (sgsL ss))) (G := ⟨fun _ => true, [], 2, 100⟩) (args := args_ap2) (sh := (List.replicate 20 .one)) (ρ := ([.slice A n c] ++ cellsP ⟨id, 2, sg, fld, nw, needs⟩ (.slice B m d))) 100000 tree_ap2 (okE0 _ _) Try.func38 rfl (run_ap2 _ _) (by kernel_rfl) (by kernel_rfl) (by kernel_rfl) ?_ ?_
  · intro W hW s z xs h; exact h.rd (hr.same0 hW)
  have hA := SX.rd_some hr
  have hln : ss.length = n := by have := hr.1; rw [sgsL_len] at this; omega
  obtain ⟨i, hi⟩ : ∃ i, idx ss sg = i := ⟨_, rfl⟩
  have hin : i ≤ n := by rw [← hi, ← hln]; exact idx_le ss sg
  have hdt : ∀ j, (ss.drop j).take (n - j) = ss.drop j := fun j => List.take_of_length_le (by simp; omega)
  have hsp : (ss.take i).flatMap cellsSg ++ (ss.drop i).flatMap cellsSg = ss.flatMap cellsSg := by rw [← List.flatMap_append, List.take_append_drop]
  have hset : ∀ z : Sg, i < ss.length → ss.set i z = ss.take i ++ z :: ss.drop (i + 1) := fun z h => by rw [List.set_eq_take_append_cons_drop, if_pos h]
  unfold tree_ap2
  refine SX.VC_df (.tuple #[.int .i64 (((i : Nat) : Int)), .bool (there ss sg)]) (fun α => ⟨[⟨.slice A n c, 14, sgsL ss⟩, ⟨.int .i64 sg, 0, []⟩], ⟨by kernel_rfl, rfl, cast (by kernel_rfl) (SX.SubK.full (A := A) hr.1 hc), by kernel_rfl, by kernel_rfl, trivial⟩, .inl ⟨rfl, .slice A n c, ss, sg, rfl, by omega, hs, h0, h1, by rw [hi]⟩, SX.noAli rfl⟩) (by kernel_rfl) ?_
  refine SX.VC_br (there ss sg) (by kernel_rfl) (fun h20_1 => ?_) (fun h20_1 => ?_)
  · try simp only [NRM] at h20_1
    have hfact : applyS ss ⟨id, 2, sg, fld, nw, needs⟩ = ([], 370) := by simp [applyS, h20_1]
    exact SX.VC_ret fun α W _ hR hS => ⟨hS.below, (.slice none 0 0), Eq.trans (b := Ending.returned (.tuple #[(.slice none 0 0), .int .i64 370])) (by kernel_rfl) (by rw [hfact]), (by rw [hfact]; exact SX.SlRet.nil)⟩
  · try simp only [NRM] at h20_1
    refine SX.VC_df (.int .i64 (((n : Nat) : Int))) (by intro α; show _ = _; kernel_rfl) (by kernel_rfl) ?_
    refine SX.VC_df (.bool ((((n : Nat) : Int) : Int) == 4096)) (by intro α; show _ = _; kernel_rfl) (by kernel_rfl) ?_
    refine SX.VC_br ((((n : Nat) : Int) : Int) == 4096) (by kernel_rfl) (fun h22 => ?_) (fun h22 => ?_)
    · try simp only [NRM] at h22
      have hfact : applyS ss ⟨id, 2, sg, fld, nw, needs⟩ = ([], 2) := by simp [applyS, h20_1]; omega
      exact SX.VC_ret fun α W _ hR hS => ⟨hS.below, (.slice none 0 0), Eq.trans (b := Ending.returned (.tuple #[(.slice none 0 0), .int .i64 2])) (by kernel_rfl) (by rw [hfact]), (by rw [hfact]; exact SX.SlRet.nil)⟩
    · try simp only [NRM] at h22
      refine SX.VC_df ((SX.subS A 14 0 i i)) (fun α => SX.slc_hm (A := A) (n := n) (c := c) (k := i) (by kernel_rfl) (by kernel_rfl) (by kernel_rfl) (by omega)) (by kernel_rfl) ?_
      refine SX.VC_df (Value.agg ((((ss.drop 0).take (i - 0)) ++ [nw]).flatMap cellsSg).toArray) (fun α => SX.appx_rel (f := cellsSg) (l1 := (ss.drop 0).take (i - 0)) (l2 := [nw]) (A := if i = 0 then A else A.map (·.add (0 * 14))) (m := i - 0) (fun _ => rfl) cellsSg_one (by decide) (by kernel_rfl) (cast (by kernel_rfl) (SX.SubK.part (f := cellsSg) (sz := 14) (fun _ => rfl) (A := A) (n := n) (c := c) (L := ss) (l := 0) (h := i) (m := i) (by omega) (by omega) (by omega) (by omega))) (cast (by kernel_rfl) (SX.SubK.part (f := cellsSg) (sz := 14) (fun _ => rfl) (A := A) (n := n) (c := c) (L := ss) (l := 0) (h := i) (m := i) (by omega) (by omega) (by omega) (by omega))) (SX.src_own (by kernel_rfl)) (fun _ => by simp) (by simp only [List.length_append, List.length_take, List.length_drop, List.length_cons, List.length_nil]; omega) (by simp only [List.length_append, List.length_take, List.length_drop, List.length_cons, List.length_nil]; omega)) (by kernel_rfl) ?_
      refine SX.VC_df ((SX.subS A 14 i n c)) (fun α => SX.slc_lo (A := A) (n := n) (c := c) (k := i) (by kernel_rfl) (by kernel_rfl) (by omega)) (by kernel_rfl) ?_
      refine SX.VC_df (Value.agg (((ss.drop i).take (n - i)).flatMap cellsSg).toArray) (fun α => SX.app_rel (f := cellsSg) (l1 := (((ss.drop 0).take (i - 0)) ++ [nw])) (l2 := (ss.drop i).take (n - i)) (fun _ => rfl) cellsSg_one (by decide) (SX.cat1 (by kernel_rfl)) (SX.src_ext (cast (by kernel_rfl) (SX.SubK.part (f := cellsSg) (sz := 14) (fun _ => rfl) (A := A) (n := n) (c := c) (L := ss) (l := i) (h := n) (m := c) (by omega) (by omega) (by omega) (by omega)))) (by simp only [List.length_append, List.length_take, List.length_drop, List.length_cons, List.length_nil]; omega) (by simp only [List.length_append, List.length_take, List.length_drop, List.length_cons, List.length_nil]; omega)) (by kernel_rfl) ?_
      have hfact : applyS ss ⟨id, 2, sg, fld, nw, needs⟩ = (ss.take i ++ nw :: ss.drop i, 0) := by have h9 : ¬ 4096 ≤ ss.length := (by omega); simp [applyS, h20_1, h9, hi]
      exact SX.VC_ret fun α W _ hR hS => ⟨hS.below, (α 12).h, Eq.trans (b := Ending.returned (.tuple #[(α 12).h, .int .i64 0])) (by kernel_rfl) (by rw [hfact]), SX.SlRet.row hS (n := 12) (b := (⟨[(.x 24 []), (.x 26 [])], 26, (.row 14)⟩ : SX.Blk)) (by kernel_rfl) rfl (hR 12 _ (by kernel_rfl)) (Eq.trans (b := [Value.agg ((((ss.drop 0).take (i - 0)) ++ [nw]).flatMap cellsSg).toArray, Value.agg (((ss.drop i).take (n - i)).flatMap cellsSg).toArray].flatMap SX.cellsV) (by kernel_rfl) (by rw [hfact]; simp [SX.cellsV, sgsL, hdt, hsp]))⟩
def tree_ra2 : SX.Tree :=
(.df (.call 40 [(.ext 14), .no]) [(.x 0 []), (.x 3 [])] (.tp [.one, .one]) 
(.br 20 [1] 
(.ret (.t [(.k (.slice none 0 0)), (.k (.int .i64 370))]) [none] []) 
(.df (.len false) [(.x 0 [])] .one 
(.df (.bin .geq 3) [(.x 21 []), (.k (.int .i64 4096))] .one 
(.br 22 [] 
(.ret (.t [(.k (.slice none 0 0)), (.k (.int .i64 2))]) [none] []) 
(.df (.slc false 14 false true false) [(.x 0 []), (.x 20 [0])] .one 
(.df (.app 14 112 (.ext 14)) [(.cat []), (.x 23 [])] .any 
(.df (.app 14 112 (.own 14 [(.x 5 []), (.x 6 []), (.x 7 []), (.x 8 []), (.x 9 []), (.x 10 []), (.x 11 []), (.x 12 []), (.x 13 []), (.x 14 []), (.x 15 []), (.x 16 []), (.x 17 []), (.x 18 [])])) [(.cat [(.x 24 [])]), (.sl 3 0 1 1)] .any 
(.df (.slc false 14 true false false) [(.x 0 []), (.x 20 [0])] .one 
(.df (.app 14 112 (.ext 14)) [(.cat [(.x 24 []), (.x 25 [])]), (.x 26 [])] .any 
(.ret (.t [(.row 5), (.k (.int .i64 0))]) [none, none, none, none, none, (some ⟨[(.x 24 []), (.x 25 []), (.x 27 [])], 26, (.row 14)⟩)] [])))))))))))
def args_ra2 : List SX.V := [.x 0 [], .a ([.x 1 [], .k (.int .i64 2)] ++ (List.range 17).map fun j => .x (3 + j) [])]
set_option maxRecDepth 100000 in
theorem run_ra2 (K A : Value → Nat → List Value → Prop) : (SX.run (cxE0 K A) ⟨fun _ => false, [], 2, 100⟩ 100000 0 (SX.door 34 Try.f34 args_ra2 (List.replicate 20 .one)) [.code (Try.f34.body.getD .skip), .top Try.f34]).strip = tree_ra2 := by kernel_rfl
set_option maxRecDepth 100000 in
set_option maxHeartbeats 4000000 in
theorem ra2_any (ss : List Sg) (A : Option Addr) (n c : Nat) (id sg fld : Int) (nw : Sg) (needs : List Int) (B : Option Addr) (m d : Nat) (w : World) (hr : Rd w 14 A n (sgsL ss)) (hn : n ≤ 4096) (hc : n ≤ c) : Calls Try.prog 34 #[.slice A n c, valP ⟨id, 2, sg, fld, nw, needs⟩ (.slice B m d)] w fun e w' => Below w.heap.size w w' ∧ ∃ hdr, e = .returned (.tuple #[hdr, .int .i64 (applyS ss ⟨id, 2, sg, fld, nw, needs⟩).2]) ∧ SX.SlRet w w' [⟨.slice A n c, 14, sgsL ss⟩] hdr 14 (sgsL (applyS ss ⟨id, 2, sg, fld, nw, needs⟩).1) := by
  refine SX.calls_of_run (C := cxE0 (SX.SubK A n c 14 (sgsL ss)) (SX.SubK A n c 14 (sgsL ss))) (G := ⟨fun _ => false, [], 2, 100⟩) (args := args_ra2) (sh := (List.replicate 20 .one)) (ρ := ([.slice A n c] ++ cellsP ⟨id, 2, sg, fld, nw, needs⟩ (.slice B m d))) 100000 tree_ra2 (okE0 _ _) Try.func34 rfl (run_ra2 _ _) (by kernel_rfl) (by kernel_rfl) (by kernel_rfl) ?_ ?_
  · intro W hW s z xs h; exact h.rd (hr.same0 hW)
  have hA := SX.rd_some hr
  have hln : ss.length = n := by have := hr.1; rw [sgsL_len] at this; omega
  obtain ⟨i, hi⟩ : ∃ i, idx ss sg = i := ⟨_, rfl⟩
  have hin : i ≤ n := by rw [← hi, ← hln]; exact idx_le ss sg
  have hdt : ∀ j, (ss.drop j).take (n - j) = ss.drop j := fun j => List.take_of_length_le (by simp; omega)
  have hsp : (ss.take i).flatMap cellsSg ++ (ss.drop i).flatMap cellsSg = ss.flatMap cellsSg := by rw [← List.flatMap_append, List.take_append_drop]
  have hset : ∀ z : Sg, i < ss.length → ss.set i z = ss.take i ++ z :: ss.drop (i + 1) := fun z h => by rw [List.set_eq_take_append_cons_drop, if_pos h]
  unfold tree_ra2
  refine SX.VC_df (.tuple #[.int .i64 (((i : Nat) : Int)), .bool (there ss sg)]) (fun α => ⟨[⟨.slice A n c, 14, sgsL ss⟩, ⟨.int .i64 sg, 0, []⟩], ⟨by kernel_rfl, rfl, cast (by kernel_rfl) (SX.SubK.full (A := A) hr.1 hc), by kernel_rfl, by kernel_rfl, trivial⟩, .inr (.inl ⟨rfl, .slice A n c, ss, sg, rfl, by omega, by rw [hi]⟩), SX.noAli rfl⟩) (by kernel_rfl) ?_
  refine SX.VC_br (there ss sg) (by kernel_rfl) (fun h20_1 => ?_) (fun h20_1 => ?_)
  · try simp only [NRM] at h20_1
    have hfact : applyS ss ⟨id, 2, sg, fld, nw, needs⟩ = ([], 370) := by simp [applyS, h20_1]
    exact SX.VC_ret fun α W _ hR hS => ⟨hS.below, (.slice none 0 0), Eq.trans (b := Ending.returned (.tuple #[(.slice none 0 0), .int .i64 370])) (by kernel_rfl) (by rw [hfact]), (by rw [hfact]; exact SX.SlRet.nil)⟩
  · try simp only [NRM] at h20_1
    refine SX.VC_df (.int .i64 (((n : Nat) : Int))) (by intro α; show _ = _; kernel_rfl) (by kernel_rfl) ?_
    refine SX.VC_df (.bool (decide (((n : Nat) : Int) ≥ 4096))) (by intro α; show _ = _; kernel_rfl) (by kernel_rfl) ?_
    refine SX.VC_br (decide (((n : Nat) : Int) ≥ 4096)) (by kernel_rfl) (fun h22 => ?_) (fun h22 => ?_)
    · try simp only [NRM] at h22
      have hfact : applyS ss ⟨id, 2, sg, fld, nw, needs⟩ = ([], 2) := by simp [applyS, h20_1]; omega
      exact SX.VC_ret fun α W _ hR hS => ⟨hS.below, (.slice none 0 0), Eq.trans (b := Ending.returned (.tuple #[(.slice none 0 0), .int .i64 2])) (by kernel_rfl) (by rw [hfact]), (by rw [hfact]; exact SX.SlRet.nil)⟩
    · try simp only [NRM] at h22
      refine SX.VC_df ((SX.subS A 14 0 i c)) (fun α => SX.slc_hi (A := A) (n := n) (c := c) (k := i) (by kernel_rfl) (by kernel_rfl) (by omega)) (by kernel_rfl) ?_
      refine SX.VC_df (Value.agg (((ss.drop 0).take (i - 0)).flatMap cellsSg).toArray) (fun α => SX.app_rel (f := cellsSg) (l1 := ([] : List Sg)) (l2 := (ss.drop 0).take (i - 0)) (fun _ => rfl) cellsSg_one (by decide) (by kernel_rfl) (SX.src_ext (cast (by kernel_rfl) (SX.SubK.part (f := cellsSg) (sz := 14) (fun _ => rfl) (A := A) (n := n) (c := c) (L := ss) (l := 0) (h := i) (m := c) (by omega) (by omega) (by omega) (by omega)))) (by simp only [List.length_append, List.length_take, List.length_drop, List.length_cons, List.length_nil]; omega) (by simp only [List.length_append, List.length_take, List.length_drop, List.length_cons, List.length_nil]; omega)) (by kernel_rfl) ?_
      refine SX.VC_df (Value.agg (([nw]).flatMap cellsSg).toArray) (fun α => SX.app_rel (f := cellsSg) (l1 := ((ss.drop 0).take (i - 0))) (l2 := [nw]) (fun _ => rfl) cellsSg_one (by decide) (SX.cat1 (by kernel_rfl)) (SX.src_own (by kernel_rfl)) (by simp only [List.length_append, List.length_take, List.length_drop, List.length_cons, List.length_nil]; omega) (by simp only [List.length_append, List.length_take, List.length_drop, List.length_cons, List.length_nil]; omega)) (by kernel_rfl) ?_
      refine SX.VC_df ((SX.subS A 14 i n c)) (fun α => SX.slc_lo (A := A) (n := n) (c := c) (k := i) (by kernel_rfl) (by kernel_rfl) (by omega)) (by kernel_rfl) ?_
      refine SX.VC_df (Value.agg (((ss.drop i).take (n - i)).flatMap cellsSg).toArray) (fun α => SX.app_rel (f := cellsSg) (l1 := ((ss.drop 0).take (i - 0)) ++ [nw]) (l2 := (ss.drop i).take (n - i)) (fun _ => rfl) cellsSg_one (by decide) (Eq.trans (b := [Value.agg (((ss.drop 0).take (i - 0)).flatMap cellsSg).toArray, Value.agg (([nw]).flatMap cellsSg).toArray].flatMap SX.cellsV) (by kernel_rfl) (by simp [SX.cellsV])) (SX.src_ext (cast (by kernel_rfl) (SX.SubK.part (f := cellsSg) (sz := 14) (fun _ => rfl) (A := A) (n := n) (c := c) (L := ss) (l := i) (h := n) (m := c) (by omega) (by omega) (by omega) (by omega)))) (by simp only [List.length_append, List.length_take, List.length_drop, List.length_cons, List.length_nil]; omega) (by simp only [List.length_append, List.length_take, List.length_drop, List.length_cons, List.length_nil]; omega)) (by kernel_rfl) ?_
      have hfact : applyS ss ⟨id, 2, sg, fld, nw, needs⟩ = (ss.take i ++ nw :: ss.drop i, 0) := by have h9 : ¬ 4096 ≤ ss.length := (by omega); simp [applyS, h20_1, h9, hi]
      exact SX.VC_ret fun α W _ hR hS => ⟨hS.below, (α 5).h, Eq.trans (b := Ending.returned (.tuple #[(α 5).h, .int .i64 0])) (by kernel_rfl) (by rw [hfact]), SX.SlRet.row hS (n := 5) (b := (⟨[(.x 24 []), (.x 25 []), (.x 27 [])], 26, (.row 14)⟩ : SX.Blk)) (by kernel_rfl) rfl (hR 5 _ (by kernel_rfl)) (Eq.trans (b := [Value.agg (((ss.drop 0).take (i - 0)).flatMap cellsSg).toArray, Value.agg (([nw]).flatMap cellsSg).toArray, Value.agg (((ss.drop i).take (n - i)).flatMap cellsSg).toArray].flatMap SX.cellsV) (by kernel_rfl) (by rw [hfact]; simp [SX.cellsV, sgsL, hdt, hsp]))⟩
def tree_ap3 : SX.Tree :=
(.df (.call 39 [(.ext 14), .no]) [(.x 0 []), (.x 3 [])] (.tp [.one, .one]) 
(.df .not [(.x 20 [1])] .one 
(.br 21 [] 
(.ret (.t [(.x 0 []), (.k (.int .i64 0))]) [none] []) 
(.df (.slc false 14 false true true) [(.x 0 []), (.x 20 [0]), (.x 20 [0])] .one 
(.df (.bin .add 3) [(.x 20 [0]), (.k (.int .i64 1))] .one 
(.df (.slc false 14 true false false) [(.x 0 []), (.x 23 [])] .one 
(.df (.appx 14 112 false (.ext 14)) [(.x 22 []), (.x 24 [])] .any 
(.ret (.t [(.row 9), (.k (.int .i64 0))]) [none, none, none, none, none, none, none, none, none, (some ⟨[(.x 25 [])], 26, (.ext 14)⟩), none, none] []))))))))
def args_ap3 : List SX.V := [.x 0 [], .a ([.x 1 [], .k (.int .i64 3)] ++ (List.range 17).map fun j => .x (3 + j) [])]
set_option maxRecDepth 100000 in
theorem run_ap3 (K A : Value → Nat → List Value → Prop) : (SX.run (cxE0 K A) ⟨fun _ => true, [], 2, 100⟩ 100000 0 (SX.door 38 Try.f38 args_ap3 (List.replicate 20 .one)) [.code (Try.f38.body.getD .skip), .top Try.f38]).strip = tree_ap3 := by kernel_rfl
set_option maxRecDepth 100000 in
set_option maxHeartbeats 4000000 in
theorem ap3_any (ss : List Sg) (A : Option Addr) (n c : Nat) (id sg fld : Int) (nw : Sg) (needs : List Int) (B : Option Addr) (m d : Nat) (w : World) (hr : Rd w 14 A n (sgsL ss)) (hn : n ≤ 4096) (hc : n ≤ c) (hs : okL ss) (h0 : 0 ≤ sg) (h1 : sg ≤ 1048576) : Calls Try.prog 38 #[.slice A n c, valP ⟨id, 3, sg, fld, nw, needs⟩ (.slice B m d)] w fun e w' => Below w.heap.size w w' ∧ ∃ hdr, e = .returned (.tuple #[hdr, .int .i64 (applyS ss ⟨id, 3, sg, fld, nw, needs⟩).2]) ∧ SX.SlRet w w' [⟨.slice A n c, 14, sgsL ss⟩] hdr 14 (sgsL (applyS ss ⟨id, 3, sg, fld, nw, needs⟩).1) := by
  refine SX.calls_of_run (C := cxE0 (SX.SubK A n c 14 (sgsL ss)) (SX.SubK A n c 14 (sgsL ss))) (G := ⟨fun _ => true, [], 2, 100⟩) (args := args_ap3) (sh := (List.replicate 20 .one)) (ρ := ([.slice A n c] ++ cellsP ⟨id, 3, sg, fld, nw, needs⟩ (.slice B m d))) 100000 tree_ap3 (okE0 _ _) Try.func38 rfl (run_ap3 _ _) (by kernel_rfl) (by kernel_rfl) (by kernel_rfl) ?_ ?_
  · intro W hW s z xs h; exact h.rd (hr.same0 hW)
  have hA := SX.rd_some hr
  have hln : ss.length = n := by have := hr.1; rw [sgsL_len] at this; omega
  obtain ⟨i, hi⟩ : ∃ i, idx ss sg = i := ⟨_, rfl⟩
  have hin : i ≤ n := by rw [← hi, ← hln]; exact idx_le ss sg
  have hdt : ∀ j, (ss.drop j).take (n - j) = ss.drop j := fun j => List.take_of_length_le (by simp; omega)
  have hsp : (ss.take i).flatMap cellsSg ++ (ss.drop i).flatMap cellsSg = ss.flatMap cellsSg := by rw [← List.flatMap_append, List.take_append_drop]
  have hset : ∀ z : Sg, i < ss.length → ss.set i z = ss.take i ++ z :: ss.drop (i + 1) := fun z h => by rw [List.set_eq_take_append_cons_drop, if_pos h]
  unfold tree_ap3
  refine SX.VC_df (.tuple #[.int .i64 (((i : Nat) : Int)), .bool (there ss sg)]) (fun α => ⟨[⟨.slice A n c, 14, sgsL ss⟩, ⟨.int .i64 sg, 0, []⟩], ⟨by kernel_rfl, rfl, cast (by kernel_rfl) (SX.SubK.full (A := A) hr.1 hc), by kernel_rfl, by kernel_rfl, trivial⟩, .inl ⟨rfl, .slice A n c, ss, sg, rfl, by omega, hs, h0, h1, by rw [hi]⟩, SX.noAli rfl⟩) (by kernel_rfl) ?_
  refine SX.VC_df (.bool (!(there ss sg))) (by intro α; show _ = _; kernel_rfl) (by kernel_rfl) ?_
  refine SX.VC_br (!(there ss sg)) (by kernel_rfl) (fun h21 => ?_) (fun h21 => ?_)
  · try simp only [NRM] at h21
    have hfact : applyS ss ⟨id, 3, sg, fld, nw, needs⟩ = (ss, 0) := by simp [applyS, h21]
    exact SX.VC_ret fun α W _ hR hS => ⟨hS.below, (.slice A n c), Eq.trans (b := Ending.returned (.tuple #[(.slice A n c), .int .i64 0])) (by kernel_rfl) (by rw [hfact]), (by rw [hfact]; exact SX.SlRet.root (x := ⟨.slice A n c, 14, sgsL ss⟩) (by simp) ⟨hr.below hS.below, hc⟩ ⟨_, _, _, rfl, hc⟩)⟩
  · try simp only [NRM] at h21
    obtain ⟨z, hz⟩ := there_lt h21
    rw [hi] at hz
    have hil : i < ss.length := (List.getElem?_eq_some_iff.1 hz).1
    refine SX.VC_df ((SX.subS A 14 0 i i)) (fun α => SX.slc_hm (A := A) (n := n) (c := c) (k := i) (by kernel_rfl) (by kernel_rfl) (by kernel_rfl) (by omega)) (by kernel_rfl) ?_
    refine SX.VC_df (.int .i64 (((i + 1 : Nat) : Int))) (fun α => Eq.trans (b := some (.int .i64 (IntKind.i64.wrap ((i : Nat) + 1)))) (by kernel_rfl) (by rw [show ((i + 1 : Nat) : Int) = ((i : Nat) : Int) + 1 by omega, wrap_i64 (by omega) (by omega)])) (by kernel_rfl) ?_
    refine SX.VC_df ((SX.subS A 14 (i + 1) n c)) (fun α => SX.slc_lo (A := A) (n := n) (c := c) (k := (i + 1)) (by kernel_rfl) (by kernel_rfl) (by omega)) (by kernel_rfl) ?_
    refine SX.VC_df (Value.agg ((((ss.drop 0).take (i - 0)) ++ (ss.drop (i + 1)).take (n - (i + 1))).flatMap cellsSg).toArray) (fun α => SX.appx_rel (f := cellsSg) (l1 := (ss.drop 0).take (i - 0)) (l2 := (ss.drop (i + 1)).take (n - (i + 1))) (A := if i = 0 then A else A.map (·.add (0 * 14))) (m := i - 0) (fun _ => rfl) cellsSg_one (by decide) (by kernel_rfl) (cast (by kernel_rfl) (SX.SubK.part (f := cellsSg) (sz := 14) (fun _ => rfl) (A := A) (n := n) (c := c) (L := ss) (l := 0) (h := i) (m := i) (by omega) (by omega) (by omega) (by omega))) (cast (by kernel_rfl) (SX.SubK.part (f := cellsSg) (sz := 14) (fun _ => rfl) (A := A) (n := n) (c := c) (L := ss) (l := 0) (h := i) (m := i) (by omega) (by omega) (by omega) (by omega))) (SX.src_ext (cast (by kernel_rfl) (SX.SubK.part (f := cellsSg) (sz := 14) (fun _ => rfl) (A := A) (n := n) (c := c) (L := ss) (l := (i + 1)) (h := n) (m := c) (by omega) (by omega) (by omega) (by omega)))) nofun (by simp only [List.length_append, List.length_take, List.length_drop, List.length_cons, List.length_nil]; omega) (by simp only [List.length_append, List.length_take, List.length_drop, List.length_cons, List.length_nil]; omega)) (by kernel_rfl) ?_
    have hfact : applyS ss ⟨id, 3, sg, fld, nw, needs⟩ = (ss.take i ++ ss.drop (i + 1), 0) := by simp [applyS, h21, hi]
    exact SX.VC_ret fun α W _ hR hS => ⟨hS.below, (α 9).h, Eq.trans (b := Ending.returned (.tuple #[(α 9).h, .int .i64 0])) (by kernel_rfl) (by rw [hfact]), SX.SlRet.ext hS (n := 9) (b := (⟨[(.x 25 [])], 26, (.ext 14)⟩ : SX.Blk)) (by kernel_rfl) rfl (hR 9 _ (by kernel_rfl)) (Eq.trans (b := [Value.agg ((((ss.drop 0).take (i - 0)) ++ (ss.drop (i + 1)).take (n - (i + 1))).flatMap cellsSg).toArray].flatMap SX.cellsV) (by kernel_rfl) (by rw [hfact]; simp [SX.cellsV, sgsL, hdt, hsp])) (x := ⟨.slice A n c, 14, sgsL ss⟩) (by simp) (fun W2 h s z xs hk => SX.SubK.rd h.1 hk) (fun B h s z xs hk => SX.SubK.frs h hk)⟩
def tree_ra3 : SX.Tree :=
(.df (.call 40 [(.ext 14), .no]) [(.x 0 []), (.x 3 [])] (.tp [.one, .one]) 
(.df (.slc false 14 false true false) [(.x 0 []), (.x 20 [0])] .one 
(.df (.app 14 112 (.ext 14)) [(.cat []), (.x 21 [])] .any 
(.br 20 [1] 
(.df (.bin .add 3) [(.x 20 [0]), (.k (.int .i64 1))] .one 
(.df (.slc false 14 true false false) [(.x 0 []), (.x 23 [])] .one 
(.df (.app 14 112 (.ext 14)) [(.cat [(.x 22 [])]), (.x 24 [])] .any 
(.ret (.t [(.row 3), (.k (.int .i64 0))]) [none, none, none, (some ⟨[(.x 22 []), (.x 25 [])], 26, (.row 14)⟩)] [])))) 
(.df (.slc false 14 true false false) [(.x 0 []), (.x 20 [0])] .one 
(.df (.app 14 112 (.ext 14)) [(.cat [(.x 22 [])]), (.x 23 [])] .any 
(.ret (.t [(.row 3), (.k (.int .i64 0))]) [none, none, none, (some ⟨[(.x 22 []), (.x 24 [])], 26, (.row 14)⟩)] [])))))))
def args_ra3 : List SX.V := [.x 0 [], .a ([.x 1 [], .k (.int .i64 3)] ++ (List.range 17).map fun j => .x (3 + j) [])]
set_option maxRecDepth 100000 in
theorem run_ra3 (K A : Value → Nat → List Value → Prop) : (SX.run (cxE0 K A) ⟨fun _ => false, [], 2, 100⟩ 100000 0 (SX.door 34 Try.f34 args_ra3 (List.replicate 20 .one)) [.code (Try.f34.body.getD .skip), .top Try.f34]).strip = tree_ra3 := by kernel_rfl
set_option maxRecDepth 100000 in
set_option maxHeartbeats 4000000 in
theorem ra3_any (ss : List Sg) (A : Option Addr) (n c : Nat) (id sg fld : Int) (nw : Sg) (needs : List Int) (B : Option Addr) (m d : Nat) (w : World) (hr : Rd w 14 A n (sgsL ss)) (hn : n ≤ 4096) (hc : n ≤ c) : Calls Try.prog 34 #[.slice A n c, valP ⟨id, 3, sg, fld, nw, needs⟩ (.slice B m d)] w fun e w' => Below w.heap.size w w' ∧ ∃ hdr, e = .returned (.tuple #[hdr, .int .i64 (applyS ss ⟨id, 3, sg, fld, nw, needs⟩).2]) ∧ SX.SlRet w w' [⟨.slice A n c, 14, sgsL ss⟩] hdr 14 (sgsL (applyS ss ⟨id, 3, sg, fld, nw, needs⟩).1) := by
  refine SX.calls_of_run (C := cxE0 (SX.SubK A n c 14 (sgsL ss)) (SX.SubK A n c 14 (sgsL ss))) (G := ⟨fun _ => false, [], 2, 100⟩) (args := args_ra3) (sh := (List.replicate 20 .one)) (ρ := ([.slice A n c] ++ cellsP ⟨id, 3, sg, fld, nw, needs⟩ (.slice B m d))) 100000 tree_ra3 (okE0 _ _) Try.func34 rfl (run_ra3 _ _) (by kernel_rfl) (by kernel_rfl) (by kernel_rfl) ?_ ?_
  · intro W hW s z xs h; exact h.rd (hr.same0 hW)
  have hA := SX.rd_some hr
  have hln : ss.length = n := by have := hr.1; rw [sgsL_len] at this; omega
  obtain ⟨i, hi⟩ : ∃ i, idx ss sg = i := ⟨_, rfl⟩
  have hin : i ≤ n := by rw [← hi, ← hln]; exact idx_le ss sg
  have hdt : ∀ j, (ss.drop j).take (n - j) = ss.drop j := fun j => List.take_of_length_le (by simp; omega)
  have hsp : (ss.take i).flatMap cellsSg ++ (ss.drop i).flatMap cellsSg = ss.flatMap cellsSg := by rw [← List.flatMap_append, List.take_append_drop]
  have hset : ∀ z : Sg, i < ss.length → ss.set i z = ss.take i ++ z :: ss.drop (i + 1) := fun z h => by rw [List.set_eq_take_append_cons_drop, if_pos h]
  unfold tree_ra3
  refine SX.VC_df (.tuple #[.int .i64 (((i : Nat) : Int)), .bool (there ss sg)]) (fun α => ⟨[⟨.slice A n c, 14, sgsL ss⟩, ⟨.int .i64 sg, 0, []⟩], ⟨by kernel_rfl, rfl, cast (by kernel_rfl) (SX.SubK.full (A := A) hr.1 hc), by kernel_rfl, by kernel_rfl, trivial⟩, .inr (.inl ⟨rfl, .slice A n c, ss, sg, rfl, by omega, by rw [hi]⟩), SX.noAli rfl⟩) (by kernel_rfl) ?_
  refine SX.VC_df ((SX.subS A 14 0 i c)) (fun α => SX.slc_hi (A := A) (n := n) (c := c) (k := i) (by kernel_rfl) (by kernel_rfl) (by omega)) (by kernel_rfl) ?_
  refine SX.VC_df (Value.agg (((ss.drop 0).take (i - 0)).flatMap cellsSg).toArray) (fun α => SX.app_rel (f := cellsSg) (l1 := ([] : List Sg)) (l2 := (ss.drop 0).take (i - 0)) (fun _ => rfl) cellsSg_one (by decide) (by kernel_rfl) (SX.src_ext (cast (by kernel_rfl) (SX.SubK.part (f := cellsSg) (sz := 14) (fun _ => rfl) (A := A) (n := n) (c := c) (L := ss) (l := 0) (h := i) (m := c) (by omega) (by omega) (by omega) (by omega)))) (by simp only [List.length_append, List.length_take, List.length_drop, List.length_cons, List.length_nil]; omega) (by simp only [List.length_append, List.length_take, List.length_drop, List.length_cons, List.length_nil]; omega)) (by kernel_rfl) ?_
  refine SX.VC_br (there ss sg) (by kernel_rfl) (fun h20_1 => ?_) (fun h20_1 => ?_)
  · try simp only [NRM] at h20_1
    obtain ⟨z, hz⟩ := there_lt h20_1
    rw [hi] at hz
    have hil : i < ss.length := (List.getElem?_eq_some_iff.1 hz).1
    refine SX.VC_df (.int .i64 (((i + 1 : Nat) : Int))) (fun α => Eq.trans (b := some (.int .i64 (IntKind.i64.wrap ((i : Nat) + 1)))) (by kernel_rfl) (by rw [show ((i + 1 : Nat) : Int) = ((i : Nat) : Int) + 1 by omega, wrap_i64 (by omega) (by omega)])) (by kernel_rfl) ?_
    refine SX.VC_df ((SX.subS A 14 (i + 1) n c)) (fun α => SX.slc_lo (A := A) (n := n) (c := c) (k := (i + 1)) (by kernel_rfl) (by kernel_rfl) (by omega)) (by kernel_rfl) ?_
    refine SX.VC_df (Value.agg (((ss.drop (i + 1)).take (n - (i + 1))).flatMap cellsSg).toArray) (fun α => SX.app_rel (f := cellsSg) (l1 := ((ss.drop 0).take (i - 0))) (l2 := (ss.drop (i + 1)).take (n - (i + 1))) (fun _ => rfl) cellsSg_one (by decide) (SX.cat1 (by kernel_rfl)) (SX.src_ext (cast (by kernel_rfl) (SX.SubK.part (f := cellsSg) (sz := 14) (fun _ => rfl) (A := A) (n := n) (c := c) (L := ss) (l := (i + 1)) (h := n) (m := c) (by omega) (by omega) (by omega) (by omega)))) (by simp only [List.length_append, List.length_take, List.length_drop, List.length_cons, List.length_nil]; omega) (by simp only [List.length_append, List.length_take, List.length_drop, List.length_cons, List.length_nil]; omega)) (by kernel_rfl) ?_
    have hfact : applyS ss ⟨id, 3, sg, fld, nw, needs⟩ = (ss.take i ++ ss.drop (i + 1), 0) := by simp [applyS, h20_1, hi]
    exact SX.VC_ret fun α W _ hR hS => ⟨hS.below, (α 3).h, Eq.trans (b := Ending.returned (.tuple #[(α 3).h, .int .i64 0])) (by kernel_rfl) (by rw [hfact]), SX.SlRet.row hS (n := 3) (b := (⟨[(.x 22 []), (.x 25 [])], 26, (.row 14)⟩ : SX.Blk)) (by kernel_rfl) rfl (hR 3 _ (by kernel_rfl)) (Eq.trans (b := [Value.agg (((ss.drop 0).take (i - 0)).flatMap cellsSg).toArray, Value.agg (((ss.drop (i + 1)).take (n - (i + 1))).flatMap cellsSg).toArray].flatMap SX.cellsV) (by kernel_rfl) (by rw [hfact]; simp [SX.cellsV, sgsL, hdt, hsp]))⟩
  · try simp only [NRM] at h20_1
    refine SX.VC_df ((SX.subS A 14 i n c)) (fun α => SX.slc_lo (A := A) (n := n) (c := c) (k := i) (by kernel_rfl) (by kernel_rfl) (by omega)) (by kernel_rfl) ?_
    refine SX.VC_df (Value.agg (((ss.drop i).take (n - i)).flatMap cellsSg).toArray) (fun α => SX.app_rel (f := cellsSg) (l1 := ((ss.drop 0).take (i - 0))) (l2 := (ss.drop i).take (n - i)) (fun _ => rfl) cellsSg_one (by decide) (SX.cat1 (by kernel_rfl)) (SX.src_ext (cast (by kernel_rfl) (SX.SubK.part (f := cellsSg) (sz := 14) (fun _ => rfl) (A := A) (n := n) (c := c) (L := ss) (l := i) (h := n) (m := c) (by omega) (by omega) (by omega) (by omega)))) (by simp only [List.length_append, List.length_take, List.length_drop, List.length_cons, List.length_nil]; omega) (by simp only [List.length_append, List.length_take, List.length_drop, List.length_cons, List.length_nil]; omega)) (by kernel_rfl) ?_
    have hfact : applyS ss ⟨id, 3, sg, fld, nw, needs⟩ = (ss, 0) := by simp [applyS, h20_1]
    exact SX.VC_ret fun α W _ hR hS => ⟨hS.below, (α 3).h, Eq.trans (b := Ending.returned (.tuple #[(α 3).h, .int .i64 0])) (by kernel_rfl) (by rw [hfact]), SX.SlRet.row hS (n := 3) (b := (⟨[(.x 22 []), (.x 24 [])], 26, (.row 14)⟩ : SX.Blk)) (by kernel_rfl) rfl (hR 3 _ (by kernel_rfl)) (Eq.trans (b := [Value.agg (((ss.drop 0).take (i - 0)).flatMap cellsSg).toArray, Value.agg (((ss.drop i).take (n - i)).flatMap cellsSg).toArray].flatMap SX.cellsV) (by kernel_rfl) (by rw [hfact]; simp [SX.cellsV, sgsL, hdt, hsp]))⟩
end Go.Proofs.Ytodlcjhefojibaa
