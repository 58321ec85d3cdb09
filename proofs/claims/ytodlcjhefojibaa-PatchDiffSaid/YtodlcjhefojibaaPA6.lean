/-
  Texts behind the statement, part 6.
-/
import Derived.Test.YtodlcjhefojibaaPA5
set_option linter.unusedSimpArgs false
set_option linter.unusedVariables false
namespace Go.Proofs.Ytodlcjhefojibaa
open Go Go.RowKit
def setF (x : Sg) (f : Int) (y : Sg) : Sg := if f = 1 then {x with role := y.role} else if f = 2 then {x with bar := y.bar} else if f = 3 then {x with mark := y.mark} else if f = 4 then {x with side := y.side} else if f = 5 then {x with dir := y.dir} else if f = 6 then {x with level := y.level} else if f = 7 then {x with size := y.size} else if f = 8 then {x with with_ := y.with_} else if f = 9 then {x with fn := y.fn, fd := y.fd, tn := y.tn, td := y.td} else x
structure Pt where
  (id kind sign field : Int)
  new : Sg
  needs : List Int
  deriving DecidableEq, Inhabited
def cellsP (p : Pt) (h : Value) : List Value := [.int .i64 p.id, .int .i64 p.kind, .int .i64 p.sign, .int .i64 p.field] ++ cellsSg p.new ++ [h]
def valP (p : Pt) (h : Value) : Value := .agg (cellsP p h).toArray
def applyS (ss : List Sg) (p : Pt) : List Sg × Int :=
  if p.kind = 1 then (if there ss p.sign = true then (ss.set (idx ss p.sign) (setF (ss.getD (idx ss p.sign) default) p.field p.new), 0) else ([], 370))
  else if p.kind = 2 then (if there ss p.sign = true then ([], 370) else if 4096 ≤ ss.length then ([], 2) else (ss.take (idx ss p.sign) ++ p.new :: ss.drop (idx ss p.sign), 0))
  else (if there ss p.sign = true then (ss.take (idx ss p.sign) ++ ss.drop (idx ss p.sign + 1), 0) else (ss, 0))
theorem cellsSg_one (a : Sg) : ∀ u ∈ cellsSg a, u.oneCell' = true := by
  intro u hu
  simp only [cellsSg, List.mem_cons, List.not_mem_nil, or_false] at hu
  rcases hu with rfl | rfl | rfl | rfl | rfl | rfl | rfl | rfl | rfl | rfl | rfl | rfl | rfl | rfl <;> rfl
theorem sgs_arg {W : World} {u : Value} {ss : List Sg} (h : SX.Arg.rd W ⟨u, 14, sgsL ss⟩) : ∃ A n c, u = .slice A n c ∧ Rd W 14 A n (sgsL ss) ∧ n ≤ c ∧ ss.length = n := by
  unfold SX.Arg.rd at h
  split at h
  · rename_i A n c hu
    have hu : u = .slice A n c := hu
    refine ⟨A, n, c, hu, h.1, h.2, ?_⟩
    have := h.1.1; simp only [sgsL_len] at this; omega
  cases h
theorem idx_le (ss : List Sg) (id : Int) : idx ss id ≤ ss.length := List.findIdx_le_length
theorem there_lt {ss : List Sg} {id : Int} (h : there ss id = true) : ∃ z, ss[idx ss id]? = some z := by
  unfold there at h
  split at h
  · exact ⟨_, by assumption⟩
  cases h
def tree_set : SX.Tree :=
(.df (.bin .eql 3) [(.q 14), (.i 9)] .one
(.br 29 []
(.ret (.a (SX.Z 0 10 ++ SX.Z 25 4)) [] [])
(.sp 14 [] [(.bad 46 []),
(.ret (.a ([(.q 0), (.q 16)] ++ SX.Z 2 12)) [] []),
(.ret (.a ([(.q 0), (.q 1), (.q 17)] ++ SX.Z 3 11)) [] []),
(.ret (.a (SX.Z 0 3 ++ [(.q 18)] ++ SX.Z 4 10)) [] []),
(.ret (.a (SX.Z 0 5 ++ [(.q 20)] ++ SX.Z 6 8)) [] []),
(.ret (.a (SX.Z 0 6 ++ [(.q 21)] ++ SX.Z 7 7)) [] []),
(.ret (.a (SX.Z 0 7 ++ [(.q 22)] ++ SX.Z 8 6)) [] []),
(.ret (.a (SX.Z 0 8 ++ [(.q 23)] ++ SX.Z 9 5)) [] []),
(.ret (.a (SX.Z 0 9 ++ [(.q 24)] ++ SX.Z 10 4)) [] [])])))
def args_set : List SX.V := [.a ((List.range 14).map fun j => .x j []), .x 14 [], .a ((List.range 14).map fun j => .x (15 + j) [])]
set_option maxRecDepth 100000 in
theorem run_set (K A : Value → Nat → List Value → Prop) : (SX.run (cx0 K A) ⟨fun _ => true, [], 0, 100⟩ 100000 0 (SX.door 35 Try.f35 args_set (List.replicate 29 .one)) [.code (Try.f35.body.getD .skip), .top Try.f35]).strip = tree_set := by kernel_rfl
set_option maxRecDepth 100000 in
set_option maxHeartbeats 4000000 in
theorem set_any (x y : Sg) (f : Int) (w : World) (h1 : 1 ≤ f) (h9 : f ≤ 9) : Calls Try.prog 35 #[valSg x, .int .i64 f, valSg y] w fun e w' => e = .returned (valSg (setF x f y)) ∧ Below w.heap.size w w' := by
  refine SX.calls_of_run (C := cx0 (fun _ _ _ => False) (fun _ _ _ => False)) (G := ⟨fun _ => true, [], 0, 100⟩) (args := args_set) (sh := (List.replicate 29 .one)) (ρ := (cellsSg x ++ [.int .i64 f] ++ cellsSg y)) 100000 tree_set (cx0_ok _ _) Try.func35 rfl (run_set _ _) (by kernel_rfl) (by kernel_rfl) (by kernel_rfl) ?_ ?_
  · exact fun W _ => SX.Kf_none (fun _ _ _ h => h) W
  unfold tree_set
  refine SX.D (.bool ((f : Int) == 9)) ?_
  refine SX.B ((f : Int) == 9) (fun h29 => ?_) (fun h29 => ?_)
  · try simp only [NRM] at h29
    exact SX.F (.agg #[.int .i64 x.id, .int .i64 x.role, .int .i64 x.bar, .int .i64 x.mark, .int .i64 x.kind, .int .i64 x.side, .int .i64 x.dir, .int .i64 x.level, .int .i64 x.size, .int .i64 x.with_, .int .i64 y.fn, .int .i64 y.fd, .int .i64 y.tn, .int .i64 y.td]) (by simp [setF, valSg, cellsSg, *])
  try simp only [NRM] at h29
  obtain ⟨k, rfl⟩ : ∃ k : Nat, f = k := ⟨f.toNat, by omega⟩
  refine SX.VC_sp k (by show k < 9; omega) (by kernel_rfl) fun t ht => ?_
  have hk : k = 1 ∨ k = 2 ∨ k = 3 ∨ k = 4 ∨ k = 5 ∨ k = 6 ∨ k = 7 ∨ k = 8 := by omega
  rcases hk with rfl | rfl | rfl | rfl | rfl | rfl | rfl | rfl
  · cases (Option.some.inj ht)
    exact SX.F (.agg #[.int .i64 x.id, .int .i64 y.role, .int .i64 x.bar, .int .i64 x.mark, .int .i64 x.kind, .int .i64 x.side, .int .i64 x.dir, .int .i64 x.level, .int .i64 x.size, .int .i64 x.with_, .int .i64 x.fn, .int .i64 x.fd, .int .i64 x.tn, .int .i64 x.td]) (by simp [setF, valSg, cellsSg, *])
  · cases (Option.some.inj ht)
    exact SX.F (.agg #[.int .i64 x.id, .int .i64 x.role, .int .i64 y.bar, .int .i64 x.mark, .int .i64 x.kind, .int .i64 x.side, .int .i64 x.dir, .int .i64 x.level, .int .i64 x.size, .int .i64 x.with_, .int .i64 x.fn, .int .i64 x.fd, .int .i64 x.tn, .int .i64 x.td]) (by simp [setF, valSg, cellsSg, *])
  · cases (Option.some.inj ht)
    exact SX.F (.agg #[.int .i64 x.id, .int .i64 x.role, .int .i64 x.bar, .int .i64 y.mark, .int .i64 x.kind, .int .i64 x.side, .int .i64 x.dir, .int .i64 x.level, .int .i64 x.size, .int .i64 x.with_, .int .i64 x.fn, .int .i64 x.fd, .int .i64 x.tn, .int .i64 x.td]) (by simp [setF, valSg, cellsSg, *])
  · cases (Option.some.inj ht)
    exact SX.F (.agg #[.int .i64 x.id, .int .i64 x.role, .int .i64 x.bar, .int .i64 x.mark, .int .i64 x.kind, .int .i64 y.side, .int .i64 x.dir, .int .i64 x.level, .int .i64 x.size, .int .i64 x.with_, .int .i64 x.fn, .int .i64 x.fd, .int .i64 x.tn, .int .i64 x.td]) (by simp [setF, valSg, cellsSg, *])
  · cases (Option.some.inj ht)
    exact SX.F (.agg #[.int .i64 x.id, .int .i64 x.role, .int .i64 x.bar, .int .i64 x.mark, .int .i64 x.kind, .int .i64 x.side, .int .i64 y.dir, .int .i64 x.level, .int .i64 x.size, .int .i64 x.with_, .int .i64 x.fn, .int .i64 x.fd, .int .i64 x.tn, .int .i64 x.td]) (by simp [setF, valSg, cellsSg, *])
  · cases (Option.some.inj ht)
    exact SX.F (.agg #[.int .i64 x.id, .int .i64 x.role, .int .i64 x.bar, .int .i64 x.mark, .int .i64 x.kind, .int .i64 x.side, .int .i64 x.dir, .int .i64 y.level, .int .i64 x.size, .int .i64 x.with_, .int .i64 x.fn, .int .i64 x.fd, .int .i64 x.tn, .int .i64 x.td]) (by simp [setF, valSg, cellsSg, *])
  · cases (Option.some.inj ht)
    exact SX.F (.agg #[.int .i64 x.id, .int .i64 x.role, .int .i64 x.bar, .int .i64 x.mark, .int .i64 x.kind, .int .i64 x.side, .int .i64 x.dir, .int .i64 x.level, .int .i64 y.size, .int .i64 x.with_, .int .i64 x.fn, .int .i64 x.fd, .int .i64 x.tn, .int .i64 x.td]) (by simp [setF, valSg, cellsSg, *])
  cases (Option.some.inj ht)
  exact SX.F (.agg #[.int .i64 x.id, .int .i64 x.role, .int .i64 x.bar, .int .i64 x.mark, .int .i64 x.kind, .int .i64 x.side, .int .i64 x.dir, .int .i64 x.level, .int .i64 x.size, .int .i64 y.with_, .int .i64 x.fn, .int .i64 x.fd, .int .i64 x.tn, .int .i64 x.td]) (by simp [setF, valSg, cellsSg, *])
def tree_Set : SX.Tree :=
(.df (.bin .eql 3) [(.q 14), (.i 1)] .one
(.br 29 []
(.ret (.a ([(.q 0), (.q 16)] ++ SX.Z 2 12)) [] [])
(.df (.bin .eql 3) [(.q 14), (.i 2)] .one
(.br 30 []
(.ret (.a ([(.q 0), (.q 1), (.q 17)] ++ SX.Z 3 11)) [] [])
(.df (.bin .eql 3) [(.q 14), (.i 3)] .one
(.br 31 []
(.ret (.a (SX.Z 0 3 ++ [(.q 18)] ++ SX.Z 4 10)) [] [])
(.df (.bin .eql 3) [(.q 14), (.i 4)] .one
(.br 32 []
(.ret (.a (SX.Z 0 5 ++ [(.q 20)] ++ SX.Z 6 8)) [] [])
(.df (.bin .eql 3) [(.q 14), (.i 5)] .one
(.br 33 []
(.ret (.a (SX.Z 0 6 ++ [(.q 21)] ++ SX.Z 7 7)) [] [])
(.df (.bin .eql 3) [(.q 14), (.i 6)] .one
(.br 34 []
(.ret (.a (SX.Z 0 7 ++ [(.q 22)] ++ SX.Z 8 6)) [] [])
(.df (.bin .eql 3) [(.q 14), (.i 7)] .one
(.br 35 []
(.ret (.a (SX.Z 0 8 ++ [(.q 23)] ++ SX.Z 9 5)) [] [])
(.df (.bin .eql 3) [(.q 14), (.i 8)] .one
(.br 36 []
(.ret (.a (SX.Z 0 9 ++ [(.q 24)] ++ SX.Z 10 4)) [] [])
(.df (.bin .eql 3) [(.q 14), (.i 9)] .one
(.br 37 []
(.ret (.a (SX.Z 0 10 ++ SX.Z 25 4)) [] [])
(.ret (.a (SX.Z 0 14)) [] [])))))))))))))))))))
def args_Set : List SX.V := [.a ((List.range 14).map fun j => .x j []), .x 14 [], .a ((List.range 14).map fun j => .x (15 + j) [])]
set_option maxRecDepth 100000 in
theorem run_Set (K A : Value → Nat → List Value → Prop) : (SX.run (cx0 K A) ⟨fun _ => true, [], 0, 100⟩ 100000 0 (SX.door 29 Try.f29 args_Set (List.replicate 29 .one)) [.code (Try.f29.body.getD .skip), .top Try.f29]).strip = tree_Set := by kernel_rfl
set_option maxRecDepth 100000 in
set_option maxHeartbeats 4000000 in
theorem Set_any (x y : Sg) (f : Int) (w : World)  : Calls Try.prog 29 #[valSg x, .int .i64 f, valSg y] w fun e w' => e = .returned (valSg (setF x f y)) ∧ Below w.heap.size w w' := by
  refine SX.calls_of_run (C := cx0 (fun _ _ _ => False) (fun _ _ _ => False)) (G := ⟨fun _ => true, [], 0, 100⟩) (args := args_Set) (sh := (List.replicate 29 .one)) (ρ := (cellsSg x ++ [.int .i64 f] ++ cellsSg y)) 100000 tree_Set (cx0_ok _ _) Try.func29 rfl (run_Set _ _) (by kernel_rfl) (by kernel_rfl) (by kernel_rfl) ?_ ?_
  · exact fun W _ => SX.Kf_none (fun _ _ _ h => h) W
  unfold tree_Set
  refine SX.D (.bool ((f : Int) == 1)) ?_
  refine SX.B ((f : Int) == 1) (fun h29 => ?_) (fun h29 => ?_)
  · try simp only [NRM] at h29
    exact SX.F (.agg #[.int .i64 x.id, .int .i64 y.role, .int .i64 x.bar, .int .i64 x.mark, .int .i64 x.kind, .int .i64 x.side, .int .i64 x.dir, .int .i64 x.level, .int .i64 x.size, .int .i64 x.with_, .int .i64 x.fn, .int .i64 x.fd, .int .i64 x.tn, .int .i64 x.td]) (by simp [setF, valSg, cellsSg, *])
  try simp only [NRM] at h29
  refine SX.D (.bool ((f : Int) == 2)) ?_
  refine SX.B ((f : Int) == 2) (fun h30 => ?_) (fun h30 => ?_)
  · try simp only [NRM] at h30
    exact SX.F (.agg #[.int .i64 x.id, .int .i64 x.role, .int .i64 y.bar, .int .i64 x.mark, .int .i64 x.kind, .int .i64 x.side, .int .i64 x.dir, .int .i64 x.level, .int .i64 x.size, .int .i64 x.with_, .int .i64 x.fn, .int .i64 x.fd, .int .i64 x.tn, .int .i64 x.td]) (by simp [setF, valSg, cellsSg, *])
  try simp only [NRM] at h30
  refine SX.D (.bool ((f : Int) == 3)) ?_
  refine SX.B ((f : Int) == 3) (fun h31 => ?_) (fun h31 => ?_)
  · try simp only [NRM] at h31
    exact SX.F (.agg #[.int .i64 x.id, .int .i64 x.role, .int .i64 x.bar, .int .i64 y.mark, .int .i64 x.kind, .int .i64 x.side, .int .i64 x.dir, .int .i64 x.level, .int .i64 x.size, .int .i64 x.with_, .int .i64 x.fn, .int .i64 x.fd, .int .i64 x.tn, .int .i64 x.td]) (by simp [setF, valSg, cellsSg, *])
  try simp only [NRM] at h31
  refine SX.D (.bool ((f : Int) == 4)) ?_
  refine SX.B ((f : Int) == 4) (fun h32 => ?_) (fun h32 => ?_)
  · try simp only [NRM] at h32
    exact SX.F (.agg #[.int .i64 x.id, .int .i64 x.role, .int .i64 x.bar, .int .i64 x.mark, .int .i64 x.kind, .int .i64 y.side, .int .i64 x.dir, .int .i64 x.level, .int .i64 x.size, .int .i64 x.with_, .int .i64 x.fn, .int .i64 x.fd, .int .i64 x.tn, .int .i64 x.td]) (by simp [setF, valSg, cellsSg, *])
  try simp only [NRM] at h32
  refine SX.D (.bool ((f : Int) == 5)) ?_
  refine SX.B ((f : Int) == 5) (fun h33 => ?_) (fun h33 => ?_)
  · try simp only [NRM] at h33
    exact SX.F (.agg #[.int .i64 x.id, .int .i64 x.role, .int .i64 x.bar, .int .i64 x.mark, .int .i64 x.kind, .int .i64 x.side, .int .i64 y.dir, .int .i64 x.level, .int .i64 x.size, .int .i64 x.with_, .int .i64 x.fn, .int .i64 x.fd, .int .i64 x.tn, .int .i64 x.td]) (by simp [setF, valSg, cellsSg, *])
  try simp only [NRM] at h33
  refine SX.D (.bool ((f : Int) == 6)) ?_
  refine SX.B ((f : Int) == 6) (fun h34 => ?_) (fun h34 => ?_)
  · try simp only [NRM] at h34
    exact SX.F (.agg #[.int .i64 x.id, .int .i64 x.role, .int .i64 x.bar, .int .i64 x.mark, .int .i64 x.kind, .int .i64 x.side, .int .i64 x.dir, .int .i64 y.level, .int .i64 x.size, .int .i64 x.with_, .int .i64 x.fn, .int .i64 x.fd, .int .i64 x.tn, .int .i64 x.td]) (by simp [setF, valSg, cellsSg, *])
  try simp only [NRM] at h34
  refine SX.D (.bool ((f : Int) == 7)) ?_
  refine SX.B ((f : Int) == 7) (fun h35 => ?_) (fun h35 => ?_)
  · try simp only [NRM] at h35
    exact SX.F (.agg #[.int .i64 x.id, .int .i64 x.role, .int .i64 x.bar, .int .i64 x.mark, .int .i64 x.kind, .int .i64 x.side, .int .i64 x.dir, .int .i64 x.level, .int .i64 y.size, .int .i64 x.with_, .int .i64 x.fn, .int .i64 x.fd, .int .i64 x.tn, .int .i64 x.td]) (by simp [setF, valSg, cellsSg, *])
  try simp only [NRM] at h35
  refine SX.D (.bool ((f : Int) == 8)) ?_
  refine SX.B ((f : Int) == 8) (fun h36 => ?_) (fun h36 => ?_)
  · try simp only [NRM] at h36
    exact SX.F (.agg #[.int .i64 x.id, .int .i64 x.role, .int .i64 x.bar, .int .i64 x.mark, .int .i64 x.kind, .int .i64 x.side, .int .i64 x.dir, .int .i64 x.level, .int .i64 x.size, .int .i64 y.with_, .int .i64 x.fn, .int .i64 x.fd, .int .i64 x.tn, .int .i64 x.td]) (by simp [setF, valSg, cellsSg, *])
  try simp only [NRM] at h36
  refine SX.D (.bool ((f : Int) == 9)) ?_
  refine SX.B ((f : Int) == 9) (fun h37 => ?_) (fun h37 => ?_)
  · try simp only [NRM] at h37
    exact SX.F (.agg #[.int .i64 x.id, .int .i64 x.role, .int .i64 x.bar, .int .i64 x.mark, .int .i64 x.kind, .int .i64 x.side, .int .i64 x.dir, .int .i64 x.level, .int .i64 x.size, .int .i64 x.with_, .int .i64 y.fn, .int .i64 y.fd, .int .i64 y.tn, .int .i64 y.td]) (by simp [setF, valSg, cellsSg, *])
  try simp only [NRM] at h37
  exact SX.F (.agg #[.int .i64 x.id, .int .i64 x.role, .int .i64 x.bar, .int .i64 x.mark, .int .i64 x.kind, .int .i64 x.side, .int .i64 x.dir, .int .i64 x.level, .int .i64 x.size, .int .i64 x.with_, .int .i64 x.fn, .int .i64 x.fd, .int .i64 x.tn, .int .i64 x.td]) (by simp [setF, valSg, cellsSg, *])
def RE0 (f : FuncId) (xs : List SX.Arg) (v : Value) : Prop :=
  (f = 39 ∧ ∃ (u : Value) (ss : List Sg) (id : Int), xs = [⟨u, 14, sgsL ss⟩, ⟨.int .i64 id, 0, []⟩] ∧ ss.length ≤ 9007199254740992 ∧ okL ss ∧ 0 ≤ id ∧ id ≤ 1048576 ∧ v = .tuple #[.int .i64 (idx ss id), .bool (there ss id)]) ∨
  (f = 40 ∧ ∃ (u : Value) (ss : List Sg) (id : Int), xs = [⟨u, 14, sgsL ss⟩, ⟨.int .i64 id, 0, []⟩] ∧ ss.length ≤ 9223372036854775807 ∧ v = .tuple #[.int .i64 (idx ss id), .bool (there ss id)]) ∨
  (f = 35 ∧ ∃ (x y : Sg) (f : Int), xs = [⟨valSg x, 0, []⟩, ⟨.int .i64 f, 0, []⟩, ⟨valSg y, 0, []⟩] ∧ 1 ≤ f ∧ f ≤ 9 ∧ v = valSg (setF x f y)) ∨
  (f = 29 ∧ ∃ (x y : Sg) (f : Int), xs = [⟨valSg x, 0, []⟩, ⟨.int .i64 f, 0, []⟩, ⟨valSg y, 0, []⟩] ∧ v = valSg (setF x f y))
def shpE0 : FuncId → Option SX.Sh := fun f => if f = 39 then some (.tp [.one, .one]) else if f = 40 then some (.tp [.one, .one]) else if f = 35 then some (.ag 14) else if f = 29 then some (.ag 14) else none
noncomputable def cxE0 (K A : Value → Nat → List Value → Prop) : SX.Cx := { P := Try.prog, R := fun _ => RE0, shp := shpE0, K := K, A := A, fr := [69] }
theorem okE0 (K A : Value → Nat → List Value → Prop) : (cxE0 K A).Ok := by
  refine SX.Cx.ok_of (fun _ => rfl) ?_
  intro K f xs v W hR hrd hKf
  rcases hR with ⟨rfl, u, ss, id, rfl, hl, hs, h0, h1, rfl⟩ | ⟨rfl, u, ss, id, rfl, hl, rfl⟩ | ⟨rfl, x, y, f, rfl, h1, h9, rfl⟩ | ⟨rfl, x, y, f, rfl, rfl⟩
  · obtain ⟨A, n, c, rfl, h2, h3, h4⟩ := sgs_arg (hrd ⟨u, 14, sgsL ss⟩ (by simp))
    exact (at_any ss A n c id W h2 (by omega) h3 hs h0 h1).mono fun e w' h => SX.plainOk rfl h
  · obtain ⟨A, n, c, rfl, h2, h3, h4⟩ := sgs_arg (hrd ⟨u, 14, sgsL ss⟩ (by simp))
    exact (At_any ss A n c id W h2 (by omega) h3).mono fun e w' h => SX.plainOk rfl h
  · exact (set_any x y f W h1 h9).mono fun e w' h => SX.plainOk rfl h
  exact (Set_any x y f W).mono fun e w' h => SX.plainOk rfl h
def tree_ap1 : SX.Tree :=
(.df (.call 39 [(.ext 14), .no]) [(.q 0), (.q 3)] (.tp [.one, .one])
(.df .not [(.x 20 [1])] .one
(.br 21 []
(.ret (.t [(.k (.slice none 0 0)), (.i 370)]) [none] [])
(.df (.snil false) [(.q 0)] .one
(.br 22 [] (.bad 46 [])
(.df (.app 14 112 (.ext 14)) [(.cat []), (.q 0)] .any
(.df (.rbnd 14) [(.cat [(.q 23)]), (.x 20 [0])] .one
(.df (.relems 14 0 14) [(.cat [(.q 23)]), (.x 20 [0])] (.ag 14)
(.df (.call 35 [.no, .no, .no]) [(.a (SX.Y 25 0 14)), (.q 4), (.a (SX.Z 5 14))] (.ag 14)
(.df (.rbnd 14) [(.cat [(.q 23)]), (.x 20 [0])] .one
(.df (.rset 14 0) [(.cat [(.q 23)]), (.x 20 [0]), (.x 26 [0]), (.x 26 [1]), (.x 26 [2]), (.x 26 [3]), (.x 26 [4]), (.x 26 [5]), (.x 26 [6]), (.x 26 [7]), (.x 26 [8]), (.x 26 [9]), (.x 26 [10]), (.x 26 [11]), (.x 26 [12]), (.x 26 [13])] .any
(.ret (.t [(.row 2), (.i 0)]) [none, none, (some ⟨[(.q 28)], 26, (.row 14)⟩), none, none, none, none, none, none, none, none, none, none, none, none, none] []))))))))))))
def args_ap1 : List SX.V := [.x 0 [], .a ([.x 1 [], .k (.int .i64 1)] ++ (List.range 17).map fun j => .x (3 + j) [])]
set_option maxRecDepth 100000 in
theorem run_ap1 (K A : Value → Nat → List Value → Prop) : (SX.run (cxE0 K A) ⟨fun _ => true, [], 2, 100⟩ 100000 0 (SX.door 38 Try.f38 args_ap1 (List.replicate 20 .one)) [.code (Try.f38.body.getD .skip), .top Try.f38]).strip = tree_ap1 := by kernel_rfl
set_option maxRecDepth 100000 in
set_option maxHeartbeats 4000000 in
theorem ap1_any (ss : List Sg) (A : Option Addr) (n c : Nat) (id sg fld : Int) (nw : Sg) (needs : List Int) (B : Option Addr) (m d : Nat) (w : World) (hr : Rd w 14 A n (sgsL ss)) (hn : n ≤ 4096) (hc : n ≤ c) (hs : okL ss) (h0 : 0 ≤ sg) (h1 : sg ≤ 1048576) (hf : 1 ≤ fld ∧ fld ≤ 9) : Calls Try.prog 38 #[.slice A n c, valP ⟨id, 1, sg, fld, nw, needs⟩ (.slice B m d)] w fun e w' => Below w.heap.size w w' ∧ ∃ hdr, e = .returned (.tuple #[hdr, .int .i64 (applyS ss ⟨id, 1, sg, fld, nw, needs⟩).2]) ∧ SX.SlRet w w' [⟨.slice A n c, 14, sgsL ss⟩] hdr 14 (sgsL (applyS ss ⟨id, 1, sg, fld, nw, needs⟩).1) := by
  refine SX.calls_of_run (C := cxE0 (SX.SubK A n c 14 (sgsL ss)) (SX.SubK A n c 14 (sgsL ss))) (G := ⟨fun _ => true, [], 2, 100⟩) (args := args_ap1) (sh := (List.replicate 20 .one)) (ρ := ([.slice A n c] ++ cellsP ⟨id, 1, sg, fld, nw, needs⟩ (.slice B m d))) 100000 tree_ap1 (okE0 _ _) Try.func38 rfl (run_ap1 _ _) (by kernel_rfl) (by kernel_rfl) (by kernel_rfl) ?_ ?_
  · intro W hW s z xs h; exact h.rd (hr.same0 hW)
  have hA := SX.rd_some hr
  have hln : ss.length = n := by have := hr.1; rw [sgsL_len] at this; omega
  obtain ⟨i, hi⟩ : ∃ i, idx ss sg = i := ⟨_, rfl⟩
  have hin : i ≤ n := by rw [← hi, ← hln]; exact idx_le ss sg
  have hdt : ∀ j, (ss.drop j).take (n - j) = ss.drop j := fun j => List.take_of_length_le (by simp; omega)
  have hsp : (ss.take i).flatMap cellsSg ++ (ss.drop i).flatMap cellsSg = ss.flatMap cellsSg := by rw [← List.flatMap_append, List.take_append_drop]
  have hset : ∀ z : Sg, i < ss.length → ss.set i z = ss.take i ++ z :: ss.drop (i + 1) := fun z h => by rw [List.set_eq_take_append_cons_drop, if_pos h]
  unfold tree_ap1
  refine SX.E (.tuple #[.int .i64 (((i : Nat) : Int)), .bool (there ss sg)]) (fun α => ⟨[⟨.slice A n c, 14, sgsL ss⟩, ⟨.int .i64 sg, 0, []⟩], ⟨by kernel_rfl, rfl, cast (by kernel_rfl) (SX.SubK.full (A := A) hr.1 hc), by kernel_rfl, by kernel_rfl, trivial⟩, .inl ⟨rfl, .slice A n c, ss, sg, rfl, by omega, hs, h0, h1, by rw [hi]⟩, SX.noAli rfl⟩) ?_
  refine SX.D (.bool (!(there ss sg))) ?_
  refine SX.B (!(there ss sg)) (fun h21 => ?_) (fun h21 => ?_)
  · try simp only [NRM] at h21
    have hfact : applyS ss ⟨id, 1, sg, fld, nw, needs⟩ = ([], 370) := by simp [applyS, h21]
    exact SX.VC_ret fun α W _ hR hS => ⟨hS.below, (.slice none 0 0), Eq.trans (b := Ending.returned (.tuple #[(.slice none 0 0), .int .i64 370])) (by kernel_rfl) (by rw [hfact]), (by rw [hfact]; exact SX.SlRet.nil)⟩
  try simp only [NRM] at h21
  obtain ⟨z, hz⟩ := there_lt h21
  rw [hi] at hz
  have hil : i < ss.length := (List.getElem?_eq_some_iff.1 hz).1
  refine SX.E (.bool (false ^^ (A : Option Addr).isNone)) (fun α => ⟨A, n, c, by kernel_rfl, rfl⟩) ?_
  refine SX.B (false ^^ (A : Option Addr).isNone) (fun h22 => absurd h22 (by have := hA (by omega); simp only [Bool.false_xor]; cases A <;> simp_all)) (fun h22 => ?_)
  try simp only [NRM] at h22
  refine SX.E (Value.agg ((ss).flatMap cellsSg).toArray) (fun α => SX.app_rel (f := cellsSg) (l1 := ([] : List Sg)) (l2 := ss) (fun _ => rfl) cellsSg_one (by decide) (by kernel_rfl) (SX.src_ext (cast (by kernel_rfl) (SX.SubK.full (A := A) hr.1 hc))) (by simp only [LL]; omega) (by simp only [LL]; omega)) ?_
  refine SX.E (.bool true) (fun α => SX.row_bnd (f := cellsSg) (l := ss) (k := i) (fun _ => rfl) (by decide) (SX.cat1 (by kernel_rfl)) (by kernel_rfl) (by omega)) ?_
  refine SX.E (.agg (cellsSg z).toArray) (fun α => SX.row_elems (f := cellsSg) (l := ss) (k := i) (z := z) (fun _ => rfl) (by decide) (SX.cat1 (by kernel_rfl)) (by kernel_rfl) hz) ?_
  refine SX.E (.agg (cellsSg (setF z fld nw)).toArray) (fun α => ⟨[⟨valSg z, 0, []⟩, ⟨.int .i64 fld, 0, []⟩, ⟨valSg nw, 0, []⟩], ⟨by kernel_rfl, by kernel_rfl, by kernel_rfl, by kernel_rfl, by kernel_rfl, by kernel_rfl, trivial⟩, .inr (.inr (.inl ⟨rfl, z, nw, fld, rfl, hf.1, hf.2, rfl⟩)), SX.noAli rfl⟩) ?_
  refine SX.E (.bool true) (fun α => SX.row_bnd (f := cellsSg) (l := ss) (k := i) (fun _ => rfl) (by decide) (SX.cat1 (by kernel_rfl)) (by kernel_rfl) (by omega)) ?_
  refine SX.E (Value.agg (((ss).set i (setF z fld nw)).flatMap cellsSg).toArray) (fun α => SX.row_set (f := cellsSg) (l := ss) (k := i) (z := (setF z fld nw)) (fun _ => rfl) (by decide) (SX.cat1 (by kernel_rfl)) (by kernel_rfl) (by omega) (by kernel_rfl)) ?_
  have hfact : applyS ss ⟨id, 1, sg, fld, nw, needs⟩ = (ss.set i (setF z fld nw), 0) := by simp [applyS, h21, hi, hz, List.getD_eq_getElem?_getD]
  exact SX.VC_ret fun α W _ hR hS => ⟨hS.below, (α 2).h, Eq.trans (b := Ending.returned (.tuple #[(α 2).h, .int .i64 0])) (by kernel_rfl) (by rw [hfact]), SX.SlRet.row hS (n := 2) (b := (⟨[(.x 28 [])], 26, (.row 14)⟩ : SX.Blk)) (by kernel_rfl) rfl (hR 2 _ (by kernel_rfl)) (Eq.trans (b := [Value.agg (((ss).set i (setF z fld nw)).flatMap cellsSg).toArray].flatMap SX.cellsV) (by kernel_rfl) (by rw [hfact]; simp [SX.cellsV, sgsL, hdt, hsp]))⟩
def tree_ra1 : SX.Tree :=
(.df (.call 40 [(.ext 14), .no]) [(.q 0), (.q 3)] (.tp [.one, .one])
(.df .not [(.x 20 [1])] .one
(.br 21 []
(.ret (.t [(.k (.slice none 0 0)), (.i 370)]) [none] [])
(.df (.slc false 14 false true false) [(.q 0), (.x 20 [0])] .one
(.df (.app 14 112 (.ext 14)) [(.cat []), (.q 22)] .any
(.df .bnd [(.q 0), (.x 20 [0])] .one
(.df (.elems 14 0 14) [(.q 0), (.x 20 [0])] (.ag 14)
(.df (.call 29 [.no, .no, .no]) [(.a (SX.Y 25 0 14)), (.q 4), (.a (SX.Z 5 14))] (.ag 14)
(.df (.app 14 112 (.own 14 (SX.Y 26 0 14))) [(.cat [(.q 23)]), (.sl 13 0 1 1)] .any
(.br 20 [1]
(.df (.bin .add 3) [(.x 20 [0]), (.i 1)] .one
(.df (.slc false 14 true false false) [(.q 0), (.q 28)] .one
(.df (.app 14 112 (.ext 14)) [(.cat [(.q 23), (.q 27)]), (.q 29)] .any
(.ret (.t [(.row 16), (.i 0)]) (List.replicate 16 none ++ [(some ⟨[(.q 23), (.q 27), (.q 30)], 26, (.row 14)⟩)]) []))))
(.df (.slc false 14 true false false) [(.q 0), (.x 20 [0])] .one
(.df (.app 14 112 (.ext 14)) [(.cat [(.q 23), (.q 27)]), (.q 28)] .any
(.ret (.t [(.row 16), (.i 0)]) (List.replicate 16 none ++ [(some ⟨[(.q 23), (.q 27), (.q 29)], 26, (.row 14)⟩)]) [])))))))))))))
def args_ra1 : List SX.V := [.x 0 [], .a ([.x 1 [], .k (.int .i64 1)] ++ (List.range 17).map fun j => .x (3 + j) [])]
set_option maxRecDepth 100000 in
theorem run_ra1 (K A : Value → Nat → List Value → Prop) : (SX.run (cxE0 K A) ⟨fun _ => false, [], 2, 100⟩ 100000 0 (SX.door 34 Try.f34 args_ra1 (List.replicate 20 .one)) [.code (Try.f34.body.getD .skip), .top Try.f34]).strip = tree_ra1 := by kernel_rfl
set_option maxRecDepth 100000 in
set_option maxHeartbeats 4000000 in
theorem ra1_any (ss : List Sg) (A : Option Addr) (n c : Nat) (id sg fld : Int) (nw : Sg) (needs : List Int) (B : Option Addr) (m d : Nat) (w : World) (hr : Rd w 14 A n (sgsL ss)) (hn : n ≤ 4096) (hc : n ≤ c) : Calls Try.prog 34 #[.slice A n c, valP ⟨id, 1, sg, fld, nw, needs⟩ (.slice B m d)] w fun e w' => Below w.heap.size w w' ∧ ∃ hdr, e = .returned (.tuple #[hdr, .int .i64 (applyS ss ⟨id, 1, sg, fld, nw, needs⟩).2]) ∧ SX.SlRet w w' [⟨.slice A n c, 14, sgsL ss⟩] hdr 14 (sgsL (applyS ss ⟨id, 1, sg, fld, nw, needs⟩).1) := by
  refine SX.calls_of_run (C := cxE0 (SX.SubK A n c 14 (sgsL ss)) (SX.SubK A n c 14 (sgsL ss))) (G := ⟨fun _ => false, [], 2, 100⟩) (args := args_ra1) (sh := (List.replicate 20 .one)) (ρ := ([.slice A n c] ++ cellsP ⟨id, 1, sg, fld, nw, needs⟩ (.slice B m d))) 100000 tree_ra1 (okE0 _ _) Try.func34 rfl (run_ra1 _ _) (by kernel_rfl) (by kernel_rfl) (by kernel_rfl) ?_ ?_
  · intro W hW s z xs h; exact h.rd (hr.same0 hW)
  have hA := SX.rd_some hr
  have hln : ss.length = n := by have := hr.1; rw [sgsL_len] at this; omega
  obtain ⟨i, hi⟩ : ∃ i, idx ss sg = i := ⟨_, rfl⟩
  have hin : i ≤ n := by rw [← hi, ← hln]; exact idx_le ss sg
  have hdt : ∀ j, (ss.drop j).take (n - j) = ss.drop j := fun j => List.take_of_length_le (by simp; omega)
  have hsp : (ss.take i).flatMap cellsSg ++ (ss.drop i).flatMap cellsSg = ss.flatMap cellsSg := by rw [← List.flatMap_append, List.take_append_drop]
  have hset : ∀ z : Sg, i < ss.length → ss.set i z = ss.take i ++ z :: ss.drop (i + 1) := fun z h => by rw [List.set_eq_take_append_cons_drop, if_pos h]
  unfold tree_ra1
  refine SX.E (.tuple #[.int .i64 (((i : Nat) : Int)), .bool (there ss sg)]) (fun α => ⟨[⟨.slice A n c, 14, sgsL ss⟩, ⟨.int .i64 sg, 0, []⟩], ⟨by kernel_rfl, rfl, cast (by kernel_rfl) (SX.SubK.full (A := A) hr.1 hc), by kernel_rfl, by kernel_rfl, trivial⟩, .inr (.inl ⟨rfl, .slice A n c, ss, sg, rfl, by omega, by rw [hi]⟩), SX.noAli rfl⟩) ?_
  refine SX.D (.bool (!(there ss sg))) ?_
  refine SX.B (!(there ss sg)) (fun h21 => ?_) (fun h21 => ?_)
  · try simp only [NRM] at h21
    have hfact : applyS ss ⟨id, 1, sg, fld, nw, needs⟩ = ([], 370) := by simp [applyS, h21]
    exact SX.VC_ret fun α W _ hR hS => ⟨hS.below, (.slice none 0 0), Eq.trans (b := Ending.returned (.tuple #[(.slice none 0 0), .int .i64 370])) (by kernel_rfl) (by rw [hfact]), (by rw [hfact]; exact SX.SlRet.nil)⟩
  try simp only [NRM] at h21
  obtain ⟨z, hz⟩ := there_lt h21
  rw [hi] at hz
  have hil : i < ss.length := (List.getElem?_eq_some_iff.1 hz).1
  refine SX.E ((SX.subS A 14 0 i c)) (fun α => SX.slc_hi (A := A) (n := n) (c := c) (k := i) (by kernel_rfl) (by kernel_rfl) (by omega)) ?_
  refine SX.E (Value.agg (((ss.drop 0).take (i - 0)).flatMap cellsSg).toArray) (fun α => SX.app_rel (f := cellsSg) (l1 := ([] : List Sg)) (l2 := (ss.drop 0).take (i - 0)) (fun _ => rfl) cellsSg_one (by decide) (by kernel_rfl) (SX.src_ext (cast (by kernel_rfl) (SX.SubK.part (f := cellsSg) (sz := 14) (fun _ => rfl) (A := A) (n := n) (c := c) (L := ss) (l := 0) (h := i) (m := c) (by omega) (by omega) (by omega) (by omega)))) (by simp only [LL]; omega) (by simp only [LL]; omega)) ?_
  refine SX.E (.bool true) (fun α => SX.extBnd (A := A) (n := n) (c := c) (j := i) hA (by kernel_rfl) (by kernel_rfl) (by omega)) ?_
  refine SX.E (.agg (cellsSg z).toArray) (fun α => SX.extElems (f := cellsSg) (l := ss) (A := A) (n := n) (c := c) (j := i) (z := z) (fun _ => rfl) hA (by kernel_rfl) (by kernel_rfl) (by omega) (cast (by kernel_rfl) (SX.SubK.full (A := A) hr.1 hc)) hz) ?_
  refine SX.E (.agg (cellsSg (setF z fld nw)).toArray) (fun α => ⟨[⟨valSg z, 0, []⟩, ⟨.int .i64 fld, 0, []⟩, ⟨valSg nw, 0, []⟩], ⟨by kernel_rfl, by kernel_rfl, by kernel_rfl, by kernel_rfl, by kernel_rfl, by kernel_rfl, trivial⟩, .inr (.inr (.inr (⟨rfl, z, nw, fld, rfl, rfl⟩))), SX.noAli rfl⟩) ?_
  refine SX.E (Value.agg (([(setF z fld nw)]).flatMap cellsSg).toArray) (fun α => SX.app_rel (f := cellsSg) (l1 := ((ss.drop 0).take (i - 0))) (l2 := [(setF z fld nw)]) (fun _ => rfl) cellsSg_one (by decide) (SX.cat1 (by kernel_rfl)) (SX.src_own (by kernel_rfl)) (by simp only [LL]; omega) (by simp only [LL]; omega)) ?_
  refine SX.B (there ss sg) (fun h20_1 => ?_) (fun h20_1 => absurd (h20_1.symm.trans h21) (by simp))
  try simp only [NRM] at h20_1
  refine SX.E (.int .i64 (((i + 1 : Nat) : Int))) (fun α => SX.W1 i) ?_
  refine SX.E ((SX.subS A 14 (i + 1) n c)) (fun α => SX.slc_lo (A := A) (n := n) (c := c) (k := (i + 1)) (by kernel_rfl) (by kernel_rfl) (by omega)) ?_
  refine SX.E (Value.agg (((ss.drop (i + 1)).take (n - (i + 1))).flatMap cellsSg).toArray) (fun α => SX.app_rel (f := cellsSg) (l1 := ((ss.drop 0).take (i - 0)) ++ [(setF z fld nw)]) (l2 := (ss.drop (i + 1)).take (n - (i + 1))) (fun _ => rfl) cellsSg_one (by decide) (Eq.trans (b := [Value.agg (((ss.drop 0).take (i - 0)).flatMap cellsSg).toArray, Value.agg (([(setF z fld nw)]).flatMap cellsSg).toArray].flatMap SX.cellsV) (by kernel_rfl) (by simp [SX.cellsV])) (SX.src_ext (cast (by kernel_rfl) (SX.SubK.part (f := cellsSg) (sz := 14) (fun _ => rfl) (A := A) (n := n) (c := c) (L := ss) (l := (i + 1)) (h := n) (m := c) (by omega) (by omega) (by omega) (by omega)))) (by simp only [LL]; omega) (by simp only [LL]; omega)) ?_
  have hfact : applyS ss ⟨id, 1, sg, fld, nw, needs⟩ = (ss.set i (setF z fld nw), 0) := by simp [applyS, h21, hi, hz, List.getD_eq_getElem?_getD]
  exact SX.VC_ret fun α W _ hR hS => ⟨hS.below, (α 16).h, Eq.trans (b := Ending.returned (.tuple #[(α 16).h, .int .i64 0])) (by kernel_rfl) (by rw [hfact]), SX.SlRet.row hS (n := 16) (b := (⟨[(.x 23 []), (.x 27 []), (.x 30 [])], 26, (.row 14)⟩ : SX.Blk)) (by kernel_rfl) rfl (hR 16 _ (by kernel_rfl)) (Eq.trans (b := [Value.agg (((ss.drop 0).take (i - 0)).flatMap cellsSg).toArray, Value.agg (([(setF z fld nw)]).flatMap cellsSg).toArray, Value.agg (((ss.drop (i + 1)).take (n - (i + 1))).flatMap cellsSg).toArray].flatMap SX.cellsV) (by kernel_rfl) (by rw [hfact]; simp [SX.cellsV, sgsL, hdt, hsp, hset _ hil]))⟩
def tree_ap2 : SX.Tree :=
(.df (.call 39 [(.ext 14), .no]) [(.q 0), (.q 3)] (.tp [.one, .one])
(.br 20 [1]
(.ret (.t [(.k (.slice none 0 0)), (.i 370)]) [none] [])
(.df (.len false) [(.q 0)] .one
(.df (.bin .eql 3) [(.q 21), (.i 4096)] .one
(.br 22 []
(.ret (.t [(.k (.slice none 0 0)), (.i 2)]) [none] [])
(.df (.slc false 14 false true true) [(.q 0), (.x 20 [0]), (.x 20 [0])] .one
(.df (.appx 14 112 true (.own 14 (SX.Z 5 14))) [(.q 23), (.sl 7 0 1 1)] .any
(.df (.slc false 14 true false false) [(.q 0), (.x 20 [0])] .one
(.df (.app 14 112 (.ext 14)) [(.cat [(.q 24)]), (.q 25)] .any
(.ret (.t [(.row 12), (.i 0)]) (List.replicate 12 none ++ [(some ⟨[(.q 24), (.q 26)], 26, (.row 14)⟩), none, none]) []))))))))))
def args_ap2 : List SX.V := [.x 0 [], .a ([.x 1 [], .k (.int .i64 2)] ++ (List.range 17).map fun j => .x (3 + j) [])]
set_option maxRecDepth 100000 in
theorem run_ap2 (K A : Value → Nat → List Value → Prop) : (SX.run (cxE0 K A) ⟨fun _ => true, [], 2, 100⟩ 100000 0 (SX.door 38 Try.f38 args_ap2 (List.replicate 20 .one)) [.code (Try.f38.body.getD .skip), .top Try.f38]).strip = tree_ap2 := by kernel_rfl
set_option maxRecDepth 100000 in
set_option maxHeartbeats 4000000 in
theorem ap2_any (ss : List Sg) (A : Option Addr) (n c : Nat) (id sg fld : Int) (nw : Sg) (needs : List Int) (B : Option Addr) (m d : Nat) (w : World) (hr : Rd w 14 A n (sgsL ss)) (hn : n ≤ 4096) (hc : n ≤ c) (hs : okL ss) (h0 : 0 ≤ sg) (h1 : sg ≤ 1048576) : Calls Try.prog 38 #[.slice A n c, valP ⟨id, 2, sg, fld, nw, needs⟩ (.slice B m d)] w fun e w' => Below w.heap.size w w' ∧ ∃ hdr, e = .returned (.tuple #[hdr, .int .i64 (applyS ss ⟨id, 2, sg, fld, nw, needs⟩).2]) ∧ SX.SlRet w w' [⟨.slice A n c, 14, sgsL ss⟩] hdr 14 (sgsL (applyS ss ⟨id, 2, sg, fld, nw, needs⟩).1) := by
  refine SX.calls_of_run (C := cxE0 (SX.SubK A n c 14 (sgsL ss)) (SX.SubK A n c 14 (sgsL ss))) (G := ⟨fun _ => true, [], 2, 100⟩) (args := args_ap2) (sh := (List.replicate 20 .one)) (ρ := ([.slice A n c] ++ cellsP ⟨id, 2, sg, fld, nw, needs⟩ (.slice B m d))) 100000 tree_ap2 (okE0 _ _) Try.func38 rfl (run_ap2 _ _) (by kernel_rfl) (by kernel_rfl) (by kernel_rfl) ?_ ?_
  · intro W hW s z xs h; exact h.rd (hr.same0 hW)
  have hA := SX.rd_some hr
  have hln : ss.length = n := by have := hr.1; rw [sgsL_len] at this; omega
  obtain ⟨i, hi⟩ : ∃ i, idx ss sg = i := ⟨_, rfl⟩
  have hin : i ≤ n := by rw [← hi, ← hln]; exact idx_le ss sg
  have hdt : ∀ j, (ss.drop j).take (n - j) = ss.drop j := fun j => List.take_of_length_le (by simp; omega)
  have hsp : (ss.take i).flatMap cellsSg ++ (ss.drop i).flatMap cellsSg = ss.flatMap cellsSg := by rw [← List.flatMap_append, List.take_append_drop]
  have hset : ∀ z : Sg, i < ss.length → ss.set i z = ss.take i ++ z :: ss.drop (i + 1) := fun z h => by rw [List.set_eq_take_append_cons_drop, if_pos h]
  unfold tree_ap2
  refine SX.E (.tuple #[.int .i64 (((i : Nat) : Int)), .bool (there ss sg)]) (fun α => ⟨[⟨.slice A n c, 14, sgsL ss⟩, ⟨.int .i64 sg, 0, []⟩], ⟨by kernel_rfl, rfl, cast (by kernel_rfl) (SX.SubK.full (A := A) hr.1 hc), by kernel_rfl, by kernel_rfl, trivial⟩, .inl ⟨rfl, .slice A n c, ss, sg, rfl, by omega, hs, h0, h1, by rw [hi]⟩, SX.noAli rfl⟩) ?_
  refine SX.B (there ss sg) (fun h20_1 => ?_) (fun h20_1 => ?_)
  · try simp only [NRM] at h20_1
    have hfact : applyS ss ⟨id, 2, sg, fld, nw, needs⟩ = ([], 370) := by simp [applyS, h20_1]
    exact SX.VC_ret fun α W _ hR hS => ⟨hS.below, (.slice none 0 0), Eq.trans (b := Ending.returned (.tuple #[(.slice none 0 0), .int .i64 370])) (by kernel_rfl) (by rw [hfact]), (by rw [hfact]; exact SX.SlRet.nil)⟩
  try simp only [NRM] at h20_1
  refine SX.D (.int .i64 (((n : Nat) : Int))) ?_
  refine SX.D (.bool ((((n : Nat) : Int) : Int) == 4096)) ?_
  refine SX.B ((((n : Nat) : Int) : Int) == 4096) (fun h22 => ?_) (fun h22 => ?_)
  · try simp only [NRM] at h22
    have hfact : applyS ss ⟨id, 2, sg, fld, nw, needs⟩ = ([], 2) := by simp [applyS, h20_1]; omega
    exact SX.VC_ret fun α W _ hR hS => ⟨hS.below, (.slice none 0 0), Eq.trans (b := Ending.returned (.tuple #[(.slice none 0 0), .int .i64 2])) (by kernel_rfl) (by rw [hfact]), (by rw [hfact]; exact SX.SlRet.nil)⟩
  try simp only [NRM] at h22
  refine SX.E ((SX.subS A 14 0 i i)) (fun α => SX.slc_hm (A := A) (n := n) (c := c) (k := i) (by kernel_rfl) (by kernel_rfl) (by kernel_rfl) (by omega)) ?_
  refine SX.E (Value.agg ((((ss.drop 0).take (i - 0)) ++ [nw]).flatMap cellsSg).toArray) (fun α => SX.appx_rel (f := cellsSg) (l1 := (ss.drop 0).take (i - 0)) (l2 := [nw]) (A := if i = 0 then A else A.map (·.add (0 * 14))) (m := i - 0) (fun _ => rfl) cellsSg_one (by decide) (by kernel_rfl) (cast (by kernel_rfl) (SX.SubK.part (f := cellsSg) (sz := 14) (fun _ => rfl) (A := A) (n := n) (c := c) (L := ss) (l := 0) (h := i) (m := i) (by omega) (by omega) (by omega) (by omega))) (cast (by kernel_rfl) (SX.SubK.part (f := cellsSg) (sz := 14) (fun _ => rfl) (A := A) (n := n) (c := c) (L := ss) (l := 0) (h := i) (m := i) (by omega) (by omega) (by omega) (by omega))) (SX.src_own (by kernel_rfl)) (fun _ => by simp) (by simp only [LL]; omega) (by simp only [LL]; omega)) ?_
  refine SX.E ((SX.subS A 14 i n c)) (fun α => SX.slc_lo (A := A) (n := n) (c := c) (k := i) (by kernel_rfl) (by kernel_rfl) (by omega)) ?_
  refine SX.E (Value.agg (((ss.drop i).take (n - i)).flatMap cellsSg).toArray) (fun α => SX.app_rel (f := cellsSg) (l1 := (((ss.drop 0).take (i - 0)) ++ [nw])) (l2 := (ss.drop i).take (n - i)) (fun _ => rfl) cellsSg_one (by decide) (SX.cat1 (by kernel_rfl)) (SX.src_ext (cast (by kernel_rfl) (SX.SubK.part (f := cellsSg) (sz := 14) (fun _ => rfl) (A := A) (n := n) (c := c) (L := ss) (l := i) (h := n) (m := c) (by omega) (by omega) (by omega) (by omega)))) (by simp only [LL]; omega) (by simp only [LL]; omega)) ?_
  have hfact : applyS ss ⟨id, 2, sg, fld, nw, needs⟩ = (ss.take i ++ nw :: ss.drop i, 0) := by have h9 : ¬ 4096 ≤ ss.length := (by omega); simp [applyS, h20_1, h9, hi]
  exact SX.VC_ret fun α W _ hR hS => ⟨hS.below, (α 12).h, Eq.trans (b := Ending.returned (.tuple #[(α 12).h, .int .i64 0])) (by kernel_rfl) (by rw [hfact]), SX.SlRet.row hS (n := 12) (b := (⟨[(.x 24 []), (.x 26 [])], 26, (.row 14)⟩ : SX.Blk)) (by kernel_rfl) rfl (hR 12 _ (by kernel_rfl)) (Eq.trans (b := [Value.agg ((((ss.drop 0).take (i - 0)) ++ [nw]).flatMap cellsSg).toArray, Value.agg (((ss.drop i).take (n - i)).flatMap cellsSg).toArray].flatMap SX.cellsV) (by kernel_rfl) (by rw [hfact]; simp [SX.cellsV, sgsL, hdt, hsp]))⟩
def tree_ra2 : SX.Tree :=
(.df (.call 40 [(.ext 14), .no]) [(.q 0), (.q 3)] (.tp [.one, .one])
(.br 20 [1]
(.ret (.t [(.k (.slice none 0 0)), (.i 370)]) [none] [])
(.df (.len false) [(.q 0)] .one
(.df (.bin .geq 3) [(.q 21), (.i 4096)] .one
(.br 22 []
(.ret (.t [(.k (.slice none 0 0)), (.i 2)]) [none] [])
(.df (.slc false 14 false true false) [(.q 0), (.x 20 [0])] .one
(.df (.app 14 112 (.ext 14)) [(.cat []), (.q 23)] .any
(.df (.app 14 112 (.own 14 (SX.Z 5 14))) [(.cat [(.q 24)]), (.sl 3 0 1 1)] .any
(.df (.slc false 14 true false false) [(.q 0), (.x 20 [0])] .one
(.df (.app 14 112 (.ext 14)) [(.cat [(.q 24), (.q 25)]), (.q 26)] .any
(.ret (.t [(.row 5), (.i 0)]) [none, none, none, none, none, (some ⟨[(.q 24), (.q 25), (.q 27)], 26, (.row 14)⟩)] [])))))))))))
def args_ra2 : List SX.V := [.x 0 [], .a ([.x 1 [], .k (.int .i64 2)] ++ (List.range 17).map fun j => .x (3 + j) [])]
set_option maxRecDepth 100000 in
theorem run_ra2 (K A : Value → Nat → List Value → Prop) : (SX.run (cxE0 K A) ⟨fun _ => false, [], 2, 100⟩ 100000 0 (SX.door 34 Try.f34 args_ra2 (List.replicate 20 .one)) [.code (Try.f34.body.getD .skip), .top Try.f34]).strip = tree_ra2 := by kernel_rfl
set_option maxRecDepth 100000 in
set_option maxHeartbeats 4000000 in
theorem ra2_any (ss : List Sg) (A : Option Addr) (n c : Nat) (id sg fld : Int) (nw : Sg) (needs : List Int) (B : Option Addr) (m d : Nat) (w : World) (hr : Rd w 14 A n (sgsL ss)) (hn : n ≤ 4096) (hc : n ≤ c) : Calls Try.prog 34 #[.slice A n c, valP ⟨id, 2, sg, fld, nw, needs⟩ (.slice B m d)] w fun e w' => Below w.heap.size w w' ∧ ∃ hdr, e = .returned (.tuple #[hdr, .int .i64 (applyS ss ⟨id, 2, sg, fld, nw, needs⟩).2]) ∧ SX.SlRet w w' [⟨.slice A n c, 14, sgsL ss⟩] hdr 14 (sgsL (applyS ss ⟨id, 2, sg, fld, nw, needs⟩).1) := by
  refine SX.calls_of_run (C := cxE0 (SX.SubK A n c 14 (sgsL ss)) (SX.SubK A n c 14 (sgsL ss))) (G := ⟨fun _ => false, [], 2, 100⟩) (args := args_ra2) (sh := (List.replicate 20 .one)) (ρ := ([.slice A n c] ++ cellsP ⟨id, 2, sg, fld, nw, needs⟩ (.slice B m d))) 100000 tree_ra2 (okE0 _ _) Try.func34 rfl (run_ra2 _ _) (by kernel_rfl) (by kernel_rfl) (by kernel_rfl) ?_ ?_
  · intro W hW s z xs h; exact h.rd (hr.same0 hW)
  have hA := SX.rd_some hr
  have hln : ss.length = n := by have := hr.1; rw [sgsL_len] at this; omega
  obtain ⟨i, hi⟩ : ∃ i, idx ss sg = i := ⟨_, rfl⟩
  have hin : i ≤ n := by rw [← hi, ← hln]; exact idx_le ss sg
  have hdt : ∀ j, (ss.drop j).take (n - j) = ss.drop j := fun j => List.take_of_length_le (by simp; omega)
  have hsp : (ss.take i).flatMap cellsSg ++ (ss.drop i).flatMap cellsSg = ss.flatMap cellsSg := by rw [← List.flatMap_append, List.take_append_drop]
  have hset : ∀ z : Sg, i < ss.length → ss.set i z = ss.take i ++ z :: ss.drop (i + 1) := fun z h => by rw [List.set_eq_take_append_cons_drop, if_pos h]
  unfold tree_ra2
  refine SX.E (.tuple #[.int .i64 (((i : Nat) : Int)), .bool (there ss sg)]) (fun α => ⟨[⟨.slice A n c, 14, sgsL ss⟩, ⟨.int .i64 sg, 0, []⟩], ⟨by kernel_rfl, rfl, cast (by kernel_rfl) (SX.SubK.full (A := A) hr.1 hc), by kernel_rfl, by kernel_rfl, trivial⟩, .inr (.inl ⟨rfl, .slice A n c, ss, sg, rfl, by omega, by rw [hi]⟩), SX.noAli rfl⟩) ?_
  refine SX.B (there ss sg) (fun h20_1 => ?_) (fun h20_1 => ?_)
  · try simp only [NRM] at h20_1
    have hfact : applyS ss ⟨id, 2, sg, fld, nw, needs⟩ = ([], 370) := by simp [applyS, h20_1]
    exact SX.VC_ret fun α W _ hR hS => ⟨hS.below, (.slice none 0 0), Eq.trans (b := Ending.returned (.tuple #[(.slice none 0 0), .int .i64 370])) (by kernel_rfl) (by rw [hfact]), (by rw [hfact]; exact SX.SlRet.nil)⟩
  try simp only [NRM] at h20_1
  refine SX.D (.int .i64 (((n : Nat) : Int))) ?_
  refine SX.D (.bool (decide (((n : Nat) : Int) ≥ 4096))) ?_
  refine SX.B (decide (((n : Nat) : Int) ≥ 4096)) (fun h22 => ?_) (fun h22 => ?_)
  · try simp only [NRM] at h22
    have hfact : applyS ss ⟨id, 2, sg, fld, nw, needs⟩ = ([], 2) := by simp [applyS, h20_1]; omega
    exact SX.VC_ret fun α W _ hR hS => ⟨hS.below, (.slice none 0 0), Eq.trans (b := Ending.returned (.tuple #[(.slice none 0 0), .int .i64 2])) (by kernel_rfl) (by rw [hfact]), (by rw [hfact]; exact SX.SlRet.nil)⟩
  try simp only [NRM] at h22
  refine SX.E ((SX.subS A 14 0 i c)) (fun α => SX.slc_hi (A := A) (n := n) (c := c) (k := i) (by kernel_rfl) (by kernel_rfl) (by omega)) ?_
  refine SX.E (Value.agg (((ss.drop 0).take (i - 0)).flatMap cellsSg).toArray) (fun α => SX.app_rel (f := cellsSg) (l1 := ([] : List Sg)) (l2 := (ss.drop 0).take (i - 0)) (fun _ => rfl) cellsSg_one (by decide) (by kernel_rfl) (SX.src_ext (cast (by kernel_rfl) (SX.SubK.part (f := cellsSg) (sz := 14) (fun _ => rfl) (A := A) (n := n) (c := c) (L := ss) (l := 0) (h := i) (m := c) (by omega) (by omega) (by omega) (by omega)))) (by simp only [LL]; omega) (by simp only [LL]; omega)) ?_
  refine SX.E (Value.agg (([nw]).flatMap cellsSg).toArray) (fun α => SX.app_rel (f := cellsSg) (l1 := ((ss.drop 0).take (i - 0))) (l2 := [nw]) (fun _ => rfl) cellsSg_one (by decide) (SX.cat1 (by kernel_rfl)) (SX.src_own (by kernel_rfl)) (by simp only [LL]; omega) (by simp only [LL]; omega)) ?_
  refine SX.E ((SX.subS A 14 i n c)) (fun α => SX.slc_lo (A := A) (n := n) (c := c) (k := i) (by kernel_rfl) (by kernel_rfl) (by omega)) ?_
  refine SX.E (Value.agg (((ss.drop i).take (n - i)).flatMap cellsSg).toArray) (fun α => SX.app_rel (f := cellsSg) (l1 := ((ss.drop 0).take (i - 0)) ++ [nw]) (l2 := (ss.drop i).take (n - i)) (fun _ => rfl) cellsSg_one (by decide) (Eq.trans (b := [Value.agg (((ss.drop 0).take (i - 0)).flatMap cellsSg).toArray, Value.agg (([nw]).flatMap cellsSg).toArray].flatMap SX.cellsV) (by kernel_rfl) (by simp [SX.cellsV])) (SX.src_ext (cast (by kernel_rfl) (SX.SubK.part (f := cellsSg) (sz := 14) (fun _ => rfl) (A := A) (n := n) (c := c) (L := ss) (l := i) (h := n) (m := c) (by omega) (by omega) (by omega) (by omega)))) (by simp only [LL]; omega) (by simp only [LL]; omega)) ?_
  have hfact : applyS ss ⟨id, 2, sg, fld, nw, needs⟩ = (ss.take i ++ nw :: ss.drop i, 0) := by have h9 : ¬ 4096 ≤ ss.length := (by omega); simp [applyS, h20_1, h9, hi]
  exact SX.VC_ret fun α W _ hR hS => ⟨hS.below, (α 5).h, Eq.trans (b := Ending.returned (.tuple #[(α 5).h, .int .i64 0])) (by kernel_rfl) (by rw [hfact]), SX.SlRet.row hS (n := 5) (b := (⟨[(.x 24 []), (.x 25 []), (.x 27 [])], 26, (.row 14)⟩ : SX.Blk)) (by kernel_rfl) rfl (hR 5 _ (by kernel_rfl)) (Eq.trans (b := [Value.agg (((ss.drop 0).take (i - 0)).flatMap cellsSg).toArray, Value.agg (([nw]).flatMap cellsSg).toArray, Value.agg (((ss.drop i).take (n - i)).flatMap cellsSg).toArray].flatMap SX.cellsV) (by kernel_rfl) (by rw [hfact]; simp [SX.cellsV, sgsL, hdt, hsp]))⟩
def tree_ap3 : SX.Tree :=
(.df (.call 39 [(.ext 14), .no]) [(.q 0), (.q 3)] (.tp [.one, .one])
(.df .not [(.x 20 [1])] .one
(.br 21 []
(.ret (.t [(.q 0), (.i 0)]) [none] [])
(.df (.slc false 14 false true true) [(.q 0), (.x 20 [0]), (.x 20 [0])] .one
(.df (.bin .add 3) [(.x 20 [0]), (.i 1)] .one
(.df (.slc false 14 true false false) [(.q 0), (.q 23)] .one
(.df (.appx 14 112 false (.ext 14)) [(.q 22), (.q 24)] .any
(.ret (.t [(.row 9), (.i 0)]) (List.replicate 9 none ++ [(some ⟨[(.q 25)], 26, (.ext 14)⟩), none, none]) []))))))))
def args_ap3 : List SX.V := [.x 0 [], .a ([.x 1 [], .k (.int .i64 3)] ++ (List.range 17).map fun j => .x (3 + j) [])]
set_option maxRecDepth 100000 in
theorem run_ap3 (K A : Value → Nat → List Value → Prop) : (SX.run (cxE0 K A) ⟨fun _ => true, [], 2, 100⟩ 100000 0 (SX.door 38 Try.f38 args_ap3 (List.replicate 20 .one)) [.code (Try.f38.body.getD .skip), .top Try.f38]).strip = tree_ap3 := by kernel_rfl
set_option maxRecDepth 100000 in
set_option maxHeartbeats 4000000 in
theorem ap3_any (ss : List Sg) (A : Option Addr) (n c : Nat) (id sg fld : Int) (nw : Sg) (needs : List Int) (B : Option Addr) (m d : Nat) (w : World) (hr : Rd w 14 A n (sgsL ss)) (hn : n ≤ 4096) (hc : n ≤ c) (hs : okL ss) (h0 : 0 ≤ sg) (h1 : sg ≤ 1048576) : Calls Try.prog 38 #[.slice A n c, valP ⟨id, 3, sg, fld, nw, needs⟩ (.slice B m d)] w fun e w' => Below w.heap.size w w' ∧ ∃ hdr, e = .returned (.tuple #[hdr, .int .i64 (applyS ss ⟨id, 3, sg, fld, nw, needs⟩).2]) ∧ SX.SlRet w w' [⟨.slice A n c, 14, sgsL ss⟩] hdr 14 (sgsL (applyS ss ⟨id, 3, sg, fld, nw, needs⟩).1) := by
  refine SX.calls_of_run (C := cxE0 (SX.SubK A n c 14 (sgsL ss)) (SX.SubK A n c 14 (sgsL ss))) (G := ⟨fun _ => true, [], 2, 100⟩) (args := args_ap3) (sh := (List.replicate 20 .one)) (ρ := ([.slice A n c] ++ cellsP ⟨id, 3, sg, fld, nw, needs⟩ (.slice B m d))) 100000 tree_ap3 (okE0 _ _) Try.func38 rfl (run_ap3 _ _) (by kernel_rfl) (by kernel_rfl) (by kernel_rfl) ?_ ?_
  · intro W hW s z xs h; exact h.rd (hr.same0 hW)
  have hA := SX.rd_some hr
  have hln : ss.length = n := by have := hr.1; rw [sgsL_len] at this; omega
  obtain ⟨i, hi⟩ : ∃ i, idx ss sg = i := ⟨_, rfl⟩
  have hin : i ≤ n := by rw [← hi, ← hln]; exact idx_le ss sg
  have hdt : ∀ j, (ss.drop j).take (n - j) = ss.drop j := fun j => List.take_of_length_le (by simp; omega)
  have hsp : (ss.take i).flatMap cellsSg ++ (ss.drop i).flatMap cellsSg = ss.flatMap cellsSg := by rw [← List.flatMap_append, List.take_append_drop]
  have hset : ∀ z : Sg, i < ss.length → ss.set i z = ss.take i ++ z :: ss.drop (i + 1) := fun z h => by rw [List.set_eq_take_append_cons_drop, if_pos h]
  unfold tree_ap3
  refine SX.E (.tuple #[.int .i64 (((i : Nat) : Int)), .bool (there ss sg)]) (fun α => ⟨[⟨.slice A n c, 14, sgsL ss⟩, ⟨.int .i64 sg, 0, []⟩], ⟨by kernel_rfl, rfl, cast (by kernel_rfl) (SX.SubK.full (A := A) hr.1 hc), by kernel_rfl, by kernel_rfl, trivial⟩, .inl ⟨rfl, .slice A n c, ss, sg, rfl, by omega, hs, h0, h1, by rw [hi]⟩, SX.noAli rfl⟩) ?_
  refine SX.D (.bool (!(there ss sg))) ?_
  refine SX.B (!(there ss sg)) (fun h21 => ?_) (fun h21 => ?_)
  · try simp only [NRM] at h21
    have hfact : applyS ss ⟨id, 3, sg, fld, nw, needs⟩ = (ss, 0) := by simp [applyS, h21]
    exact SX.VC_ret fun α W _ hR hS => ⟨hS.below, (.slice A n c), Eq.trans (b := Ending.returned (.tuple #[(.slice A n c), .int .i64 0])) (by kernel_rfl) (by rw [hfact]), (by rw [hfact]; exact SX.SlRet.root (x := ⟨.slice A n c, 14, sgsL ss⟩) (by simp) ⟨hr.below hS.below, hc⟩ ⟨_, _, _, rfl, hc⟩)⟩
  try simp only [NRM] at h21
  obtain ⟨z, hz⟩ := there_lt h21
  rw [hi] at hz
  have hil : i < ss.length := (List.getElem?_eq_some_iff.1 hz).1
  refine SX.E ((SX.subS A 14 0 i i)) (fun α => SX.slc_hm (A := A) (n := n) (c := c) (k := i) (by kernel_rfl) (by kernel_rfl) (by kernel_rfl) (by omega)) ?_
  refine SX.E (.int .i64 (((i + 1 : Nat) : Int))) (fun α => SX.W1 i) ?_
  refine SX.E ((SX.subS A 14 (i + 1) n c)) (fun α => SX.slc_lo (A := A) (n := n) (c := c) (k := (i + 1)) (by kernel_rfl) (by kernel_rfl) (by omega)) ?_
  refine SX.E (Value.agg ((((ss.drop 0).take (i - 0)) ++ (ss.drop (i + 1)).take (n - (i + 1))).flatMap cellsSg).toArray) (fun α => SX.appx_rel (f := cellsSg) (l1 := (ss.drop 0).take (i - 0)) (l2 := (ss.drop (i + 1)).take (n - (i + 1))) (A := if i = 0 then A else A.map (·.add (0 * 14))) (m := i - 0) (fun _ => rfl) cellsSg_one (by decide) (by kernel_rfl) (cast (by kernel_rfl) (SX.SubK.part (f := cellsSg) (sz := 14) (fun _ => rfl) (A := A) (n := n) (c := c) (L := ss) (l := 0) (h := i) (m := i) (by omega) (by omega) (by omega) (by omega))) (cast (by kernel_rfl) (SX.SubK.part (f := cellsSg) (sz := 14) (fun _ => rfl) (A := A) (n := n) (c := c) (L := ss) (l := 0) (h := i) (m := i) (by omega) (by omega) (by omega) (by omega))) (SX.src_ext (cast (by kernel_rfl) (SX.SubK.part (f := cellsSg) (sz := 14) (fun _ => rfl) (A := A) (n := n) (c := c) (L := ss) (l := (i + 1)) (h := n) (m := c) (by omega) (by omega) (by omega) (by omega)))) nofun (by simp only [LL]; omega) (by simp only [LL]; omega)) ?_
  have hfact : applyS ss ⟨id, 3, sg, fld, nw, needs⟩ = (ss.take i ++ ss.drop (i + 1), 0) := by simp [applyS, h21, hi]
  exact SX.VC_ret fun α W _ hR hS => ⟨hS.below, (α 9).h, Eq.trans (b := Ending.returned (.tuple #[(α 9).h, .int .i64 0])) (by kernel_rfl) (by rw [hfact]), SX.SlRet.ext hS (n := 9) (b := (⟨[(.x 25 [])], 26, (.ext 14)⟩ : SX.Blk)) (by kernel_rfl) rfl (hR 9 _ (by kernel_rfl)) (Eq.trans (b := [Value.agg ((((ss.drop 0).take (i - 0)) ++ (ss.drop (i + 1)).take (n - (i + 1))).flatMap cellsSg).toArray].flatMap SX.cellsV) (by kernel_rfl) (by rw [hfact]; simp [SX.cellsV, sgsL, hdt, hsp])) (x := ⟨.slice A n c, 14, sgsL ss⟩) (by simp) (fun W2 h s z xs hk => SX.SubK.rd h.1 hk) (fun B h s z xs hk => SX.SubK.frs h hk)⟩
def tree_ra3 : SX.Tree :=
(.df (.call 40 [(.ext 14), .no]) [(.q 0), (.q 3)] (.tp [.one, .one])
(.df (.slc false 14 false true false) [(.q 0), (.x 20 [0])] .one
(.df (.app 14 112 (.ext 14)) [(.cat []), (.q 21)] .any
(.br 20 [1]
(.df (.bin .add 3) [(.x 20 [0]), (.i 1)] .one
(.df (.slc false 14 true false false) [(.q 0), (.q 23)] .one
(.df (.app 14 112 (.ext 14)) [(.cat [(.q 22)]), (.q 24)] .any
(.ret (.t [(.row 3), (.i 0)]) [none, none, none, (some ⟨[(.q 22), (.q 25)], 26, (.row 14)⟩)] []))))
(.df (.slc false 14 true false false) [(.q 0), (.x 20 [0])] .one
(.df (.app 14 112 (.ext 14)) [(.cat [(.q 22)]), (.q 23)] .any
(.ret (.t [(.row 3), (.i 0)]) [none, none, none, (some ⟨[(.q 22), (.q 24)], 26, (.row 14)⟩)] [])))))))
def args_ra3 : List SX.V := [.x 0 [], .a ([.x 1 [], .k (.int .i64 3)] ++ (List.range 17).map fun j => .x (3 + j) [])]
set_option maxRecDepth 100000 in
theorem run_ra3 (K A : Value → Nat → List Value → Prop) : (SX.run (cxE0 K A) ⟨fun _ => false, [], 2, 100⟩ 100000 0 (SX.door 34 Try.f34 args_ra3 (List.replicate 20 .one)) [.code (Try.f34.body.getD .skip), .top Try.f34]).strip = tree_ra3 := by kernel_rfl
set_option maxRecDepth 100000 in
set_option maxHeartbeats 4000000 in
theorem ra3_any (ss : List Sg) (A : Option Addr) (n c : Nat) (id sg fld : Int) (nw : Sg) (needs : List Int) (B : Option Addr) (m d : Nat) (w : World) (hr : Rd w 14 A n (sgsL ss)) (hn : n ≤ 4096) (hc : n ≤ c) : Calls Try.prog 34 #[.slice A n c, valP ⟨id, 3, sg, fld, nw, needs⟩ (.slice B m d)] w fun e w' => Below w.heap.size w w' ∧ ∃ hdr, e = .returned (.tuple #[hdr, .int .i64 (applyS ss ⟨id, 3, sg, fld, nw, needs⟩).2]) ∧ SX.SlRet w w' [⟨.slice A n c, 14, sgsL ss⟩] hdr 14 (sgsL (applyS ss ⟨id, 3, sg, fld, nw, needs⟩).1) := by
  refine SX.calls_of_run (C := cxE0 (SX.SubK A n c 14 (sgsL ss)) (SX.SubK A n c 14 (sgsL ss))) (G := ⟨fun _ => false, [], 2, 100⟩) (args := args_ra3) (sh := (List.replicate 20 .one)) (ρ := ([.slice A n c] ++ cellsP ⟨id, 3, sg, fld, nw, needs⟩ (.slice B m d))) 100000 tree_ra3 (okE0 _ _) Try.func34 rfl (run_ra3 _ _) (by kernel_rfl) (by kernel_rfl) (by kernel_rfl) ?_ ?_
  · intro W hW s z xs h; exact h.rd (hr.same0 hW)
  have hA := SX.rd_some hr
  have hln : ss.length = n := by have := hr.1; rw [sgsL_len] at this; omega
  obtain ⟨i, hi⟩ : ∃ i, idx ss sg = i := ⟨_, rfl⟩
  have hin : i ≤ n := by rw [← hi, ← hln]; exact idx_le ss sg
  have hdt : ∀ j, (ss.drop j).take (n - j) = ss.drop j := fun j => List.take_of_length_le (by simp; omega)
  have hsp : (ss.take i).flatMap cellsSg ++ (ss.drop i).flatMap cellsSg = ss.flatMap cellsSg := by rw [← List.flatMap_append, List.take_append_drop]
  have hset : ∀ z : Sg, i < ss.length → ss.set i z = ss.take i ++ z :: ss.drop (i + 1) := fun z h => by rw [List.set_eq_take_append_cons_drop, if_pos h]
  unfold tree_ra3
  refine SX.E (.tuple #[.int .i64 (((i : Nat) : Int)), .bool (there ss sg)]) (fun α => ⟨[⟨.slice A n c, 14, sgsL ss⟩, ⟨.int .i64 sg, 0, []⟩], ⟨by kernel_rfl, rfl, cast (by kernel_rfl) (SX.SubK.full (A := A) hr.1 hc), by kernel_rfl, by kernel_rfl, trivial⟩, .inr (.inl ⟨rfl, .slice A n c, ss, sg, rfl, by omega, by rw [hi]⟩), SX.noAli rfl⟩) ?_
  refine SX.E ((SX.subS A 14 0 i c)) (fun α => SX.slc_hi (A := A) (n := n) (c := c) (k := i) (by kernel_rfl) (by kernel_rfl) (by omega)) ?_
  refine SX.E (Value.agg (((ss.drop 0).take (i - 0)).flatMap cellsSg).toArray) (fun α => SX.app_rel (f := cellsSg) (l1 := ([] : List Sg)) (l2 := (ss.drop 0).take (i - 0)) (fun _ => rfl) cellsSg_one (by decide) (by kernel_rfl) (SX.src_ext (cast (by kernel_rfl) (SX.SubK.part (f := cellsSg) (sz := 14) (fun _ => rfl) (A := A) (n := n) (c := c) (L := ss) (l := 0) (h := i) (m := c) (by omega) (by omega) (by omega) (by omega)))) (by simp only [LL]; omega) (by simp only [LL]; omega)) ?_
  refine SX.B (there ss sg) (fun h20_1 => ?_) (fun h20_1 => ?_)
  · try simp only [NRM] at h20_1
    obtain ⟨z, hz⟩ := there_lt h20_1
    rw [hi] at hz
    have hil : i < ss.length := (List.getElem?_eq_some_iff.1 hz).1
    refine SX.E (.int .i64 (((i + 1 : Nat) : Int))) (fun α => SX.W1 i) ?_
    refine SX.E ((SX.subS A 14 (i + 1) n c)) (fun α => SX.slc_lo (A := A) (n := n) (c := c) (k := (i + 1)) (by kernel_rfl) (by kernel_rfl) (by omega)) ?_
    refine SX.E (Value.agg (((ss.drop (i + 1)).take (n - (i + 1))).flatMap cellsSg).toArray) (fun α => SX.app_rel (f := cellsSg) (l1 := ((ss.drop 0).take (i - 0))) (l2 := (ss.drop (i + 1)).take (n - (i + 1))) (fun _ => rfl) cellsSg_one (by decide) (SX.cat1 (by kernel_rfl)) (SX.src_ext (cast (by kernel_rfl) (SX.SubK.part (f := cellsSg) (sz := 14) (fun _ => rfl) (A := A) (n := n) (c := c) (L := ss) (l := (i + 1)) (h := n) (m := c) (by omega) (by omega) (by omega) (by omega)))) (by simp only [LL]; omega) (by simp only [LL]; omega)) ?_
    have hfact : applyS ss ⟨id, 3, sg, fld, nw, needs⟩ = (ss.take i ++ ss.drop (i + 1), 0) := by simp [applyS, h20_1, hi]
    exact SX.VC_ret fun α W _ hR hS => ⟨hS.below, (α 3).h, Eq.trans (b := Ending.returned (.tuple #[(α 3).h, .int .i64 0])) (by kernel_rfl) (by rw [hfact]), SX.SlRet.row hS (n := 3) (b := (⟨[(.x 22 []), (.x 25 [])], 26, (.row 14)⟩ : SX.Blk)) (by kernel_rfl) rfl (hR 3 _ (by kernel_rfl)) (Eq.trans (b := [Value.agg (((ss.drop 0).take (i - 0)).flatMap cellsSg).toArray, Value.agg (((ss.drop (i + 1)).take (n - (i + 1))).flatMap cellsSg).toArray].flatMap SX.cellsV) (by kernel_rfl) (by rw [hfact]; simp [SX.cellsV, sgsL, hdt, hsp]))⟩
  try simp only [NRM] at h20_1
  refine SX.E ((SX.subS A 14 i n c)) (fun α => SX.slc_lo (A := A) (n := n) (c := c) (k := i) (by kernel_rfl) (by kernel_rfl) (by omega)) ?_
  refine SX.E (Value.agg (((ss.drop i).take (n - i)).flatMap cellsSg).toArray) (fun α => SX.app_rel (f := cellsSg) (l1 := ((ss.drop 0).take (i - 0))) (l2 := (ss.drop i).take (n - i)) (fun _ => rfl) cellsSg_one (by decide) (SX.cat1 (by kernel_rfl)) (SX.src_ext (cast (by kernel_rfl) (SX.SubK.part (f := cellsSg) (sz := 14) (fun _ => rfl) (A := A) (n := n) (c := c) (L := ss) (l := i) (h := n) (m := c) (by omega) (by omega) (by omega) (by omega)))) (by simp only [LL]; omega) (by simp only [LL]; omega)) ?_
  have hfact : applyS ss ⟨id, 3, sg, fld, nw, needs⟩ = (ss, 0) := by simp [applyS, h20_1]
  exact SX.VC_ret fun α W _ hR hS => ⟨hS.below, (α 3).h, Eq.trans (b := Ending.returned (.tuple #[(α 3).h, .int .i64 0])) (by kernel_rfl) (by rw [hfact]), SX.SlRet.row hS (n := 3) (b := (⟨[(.x 22 []), (.x 24 [])], 26, (.row 14)⟩ : SX.Blk)) (by kernel_rfl) rfl (hR 3 _ (by kernel_rfl)) (Eq.trans (b := [Value.agg (((ss.drop 0).take (i - 0)).flatMap cellsSg).toArray, Value.agg (((ss.drop i).take (n - i)).flatMap cellsSg).toArray].flatMap SX.cellsV) (by kernel_rfl) (by rw [hfact]; simp [SX.cellsV, sgsL, hdt, hsp]))⟩
def zeroSg : Sg := ⟨0, 0, 0, 0, 0, 0, 0, 0, 0, 0, 0, 0, 0, 0⟩
def plainP : Sg := ⟨0, 0, 0, 3, 9, 0, 0, 0, 0, 0, 0, 1, 1, 2⟩
def plainR : Sg := ⟨0, 0, 0, 1, 1, 0, 0, 0, 0, 0, 0, 1, 1, 1⟩
theorem plain_ok {f : Int} {y : Sg} (h1 : 1 ≤ f) (h9 : f ≤ 9) : (setF plainP f y).ok ↔ (setF plainR f y).ok := by
  have hp : okS 0 1 1 2 := by decide
  have hr : okS 0 1 1 1 := by decide
  have hk : f = 1 ∨ f = 2 ∨ f = 3 ∨ f = 4 ∨ f = 5 ∨ f = 6 ∨ f = 7 ∨ f = 8 ∨ f = 9 := by omega
  rcases hk with rfl | rfl | rfl | rfl | rfl | rfl | rfl | rfl | rfl <;> simp [setF, plainP, plainR, Sg.ok_iff, hp, hr]
theorem zero_set {f : Int} {y : Sg} (h1 : 1 ≤ f) (h9 : f ≤ 9) : setF y f zeroSg = zeroSg ↔ setF zeroSg f y = y := by
  have hk : f = 1 ∨ f = 2 ∨ f = 3 ∨ f = 4 ∨ f = 5 ∨ f = 6 ∨ f = 7 ∨ f = 8 ∨ f = 9 := by omega
  cases y
  rcases hk with rfl | rfl | rfl | rfl | rfl | rfl | rfl | rfl | rfl <;> simp [setF, zeroSg] <;> omega
theorem chkS_one (s : Sg) : (chkS [s] == 0) = decide s.ok := by
  unfold chkS
  rw [if_neg (by simp)]
  by_cases h : s.ok
  · rw [if_pos (by simpa [okL] using h)]; simp [h]
  rw [if_neg (by simpa [okL] using h)]; simp [h]
def cellsI (x : Int) : List Value := [.int .i64 x]
def intsL (l : List Int) : List Value := l.flatMap cellsI
theorem intsL_len (l : List Int) : (intsL l).length = l.length * 1 := SX.flat_len (f := cellsI) (fun _ => rfl) l
def needsOk (p : Pt) : Prop := (∀ x ∈ p.needs, 1 ≤ x ∧ x < p.id) ∧ p.needs.Pairwise (· < ·)
def kindOk (p : Pt) : Prop := (p.kind = 1 ∧ 1 ≤ p.field ∧ p.field ≤ 9 ∧ setF p.new p.field zeroSg = zeroSg ∧ (setF plainP p.field p.new).ok) ∨ (p.kind = 2 ∧ p.field = 0 ∧ p.new.id = p.sign ∧ p.new.ok) ∨ (p.kind = 3 ∧ p.field = 0 ∧ p.new = zeroSg)
def okP (p : Pt) : Prop := (1 ≤ p.id ∧ p.id ≤ 1048576) ∧ (0 ≤ p.sign ∧ p.sign ≤ 1048576) ∧ needsOk p ∧ kindOk p
instance (p : Pt) : Decidable (okP p) := by unfold okP needsOk kindOk; infer_instance
def chkP (p : Pt) : Int := if 32 < p.needs.length then 2 else if okP p then 0 else 370
def needsTo (p : Pt) (i : Nat) : Prop := (∀ x ∈ p.needs.take i, 1 ≤ x ∧ x < p.id) ∧ (p.needs.take i).Pairwise (· < ·)
theorem needs_succ {p : Pt} {i : Nat} {z : Int} (hz : p.needs[i]? = some z) : needsTo p (i + 1) ↔ needsTo p i ∧ (1 ≤ z ∧ z < p.id) ∧ ∀ y, 0 < i → p.needs[i - 1]? = some y → y < z := by
  have hi := (List.getElem?_eq_some_iff.1 hz).1
  unfold needsTo
  rw [List.take_add_one, hz]
  simp only [Option.toList_some, List.mem_append, List.mem_singleton, List.pairwise_append, List.pairwise_singleton, forall_eq]
  constructor
  · rintro ⟨h1, h2, -, h3⟩
    exact ⟨⟨fun s hs => h1 s (.inl hs), h2⟩, h1 z (.inr rfl), fun y hi0 hy => h3 y (List.mem_of_getElem? (i := i - 1) (by rw [List.getElem?_take, if_pos (by omega)]; exact hy))⟩
  rintro ⟨⟨h1, h2⟩, h3, h4⟩
  refine ⟨fun s hs => hs.elim (h1 s) fun e => e ▸ h3, h2, trivial, fun y hy => ?_⟩
  obtain ⟨j, hj⟩ := List.mem_iff_getElem?.1 hy
  rw [List.getElem?_take] at hj
  split at hj
  · rename_i hji
    have hl := h4 (p.needs[i - 1]'(by omega)) (by omega) (List.getElem?_eq_getElem _)
    by_cases he : j = i - 1
    · subst he
      rw [List.getElem?_eq_getElem (by omega)] at hj
      have hj : p.needs[i - 1]'(by omega) = y := by simpa using hj
      rw [← hj]; exact hl
    · have := List.pairwise_iff_getElem.1 h2 j (i - 1) (by simp; omega) (by simp; omega) (by omega)
      simp only [List.getElem_take] at this
      obtain ⟨hjl, hj⟩ := List.getElem?_eq_some_iff.1 hj
      rw [hj] at this
      omega
  cases hj
theorem needs_to {p : Pt} (h : needsOk p) (i : Nat) : needsTo p i := ⟨fun s hs => h.1 s (List.mem_of_mem_take hs), h.2.sublist (List.take_sublist _ _)⟩
theorem needs_end {p : Pt} {i : Nat} (h : needsTo p i) (hi : p.needs.length ≤ i) : needsOk p := by
  unfold needsTo at h; rw [List.take_of_length_le hi] at h; exact h
theorem needs_no {p : Pt} {i : Nat} {z : Int} (hz : p.needs[i]? = some z) (h : ¬ ((1 ≤ z ∧ z < p.id) ∧ ∀ y, 0 < i → p.needs[i - 1]? = some y → y < z)) : ¬ okP p := fun hk => h ((needs_succ hz).1 (needs_to hk.2.2.1 (i + 1))).2
theorem needs_last {p : Pt} {i : Nat} {z last : Int} (hz : p.needs[i]? = some z) (hl0 : i = 0 → last = 0) (hly : ∀ y, 0 < i → p.needs[i - 1]? = some y → last = y) (h : z ≤ last ∨ p.id ≤ z) : ¬ okP p := needs_no hz fun hk => by
  obtain ⟨⟨q1, q2⟩, q3⟩ := hk
  rcases h with h | h
  · rcases Nat.eq_zero_or_pos i with q4 | q4
    · have := hl0 q4; omega
    obtain ⟨y, hy⟩ : ∃ y, p.needs[i - 1]? = some y := ⟨_, List.getElem?_eq_getElem (by have := (List.getElem?_eq_some_iff.1 hz).1; omega)⟩
    have := hly y q4 hy
    have := q3 y q4 hy
    omega
  omega
theorem needs_pos {p : Pt} {i : Nat} {z last : Int} (hnd : needsTo p i) (hz : p.needs[i]? = some z) (hl0 : i = 0 → last = 0) (hly : ∀ y, 0 < i → p.needs[i - 1]? = some y → last = y) (h : last < z) : 1 ≤ z := by
  rcases Nat.eq_zero_or_pos i with q4 | q4
  · have := hl0 q4; omega
  obtain ⟨y, hy⟩ : ∃ y, p.needs[i - 1]? = some y := ⟨_, List.getElem?_eq_getElem (by have := (List.getElem?_eq_some_iff.1 hz).1; omega)⟩
  have := hly y q4 hy
  have := hnd.1 y (List.mem_of_getElem? (i := i - 1) (by rw [List.getElem?_take, if_pos (by omega)]; exact hy))
  omega
theorem no_of_needs {p : Pt} (h : ¬ okP p) (hl : ¬ 32 < p.needs.length) : chkP p = 370 := by rw [chkP, if_neg hl, if_neg h]
theorem okP_iff {p : Pt} : okP p ↔ (1 ≤ p.id ∧ p.id ≤ 1048576) ∧ (0 ≤ p.sign ∧ p.sign ≤ 1048576) ∧ needsOk p ∧ kindOk p := Iff.rfl
theorem kindOk_iff {p : Pt} : kindOk p ↔ (p.kind = 1 ∧ 1 ≤ p.field ∧ p.field ≤ 9 ∧ setF p.new p.field zeroSg = zeroSg ∧ (setF plainP p.field p.new).ok) ∨ (p.kind = 2 ∧ p.field = 0 ∧ p.new.id = p.sign ∧ p.new.ok) ∨ (p.kind = 3 ∧ p.field = 0 ∧ p.new = zeroSg) := Iff.rfl
def RF0 (f : FuncId) (xs : List SX.Arg) (v : Value) : Prop :=
  (f = 27 ∧ ∃ (u : Value) (ss : List Sg), xs = [⟨u, 14, sgsL ss⟩] ∧ ss.length ≤ 9223372036854775807 ∧ v = .int .i64 (chkS ss)) ∨
  (f = 33 ∧ ∃ (u : Value) (ss : List Sg), xs = [⟨u, 14, sgsL ss⟩] ∧ ss.length ≤ 9223372036854775807 ∧ v = .int .i64 (chkS ss))
def shpF0 : FuncId → Option SX.Sh := fun f => if f = 27 then some .one else if f = 33 then some .one else none
noncomputable def cxF0 (K A : Value → Nat → List Value → Prop) : SX.Cx := { P := Try.prog, R := fun _ => RF0, shp := shpF0, K := K, A := A }
theorem okF0 (K A : Value → Nat → List Value → Prop) : (cxF0 K A).Ok := by
  refine SX.Cx.ok_of (fun _ => rfl) ?_
  intro K f xs v W hR hrd hKf
  rcases hR with ⟨rfl, u, ss, rfl, hl, rfl⟩ | ⟨rfl, u, ss, rfl, hl, rfl⟩
  · obtain ⟨A, n, c, rfl, h2, h3, h4⟩ := sgs_arg (hrd ⟨u, 14, sgsL ss⟩ (by simp))
    exact (echeck_any ss A n c W h2 (by omega) h3).mono fun e w' h => SX.plainOk rfl h
  obtain ⟨A, n, c, rfl, h2, h3, h4⟩ := sgs_arg (hrd ⟨u, 14, sgsL ss⟩ (by simp))
  exact (rcheckL_any ss A n c W h2 (by omega) h3).mono fun e w' h => SX.plainOk rfl h
def tree_pform : SX.Tree :=
(.df (.call 27 [(.own 14 (SX.Z 0 14))]) [(.sl 1 0 1 1)] .one
(.df (.bin .eql 32) [(.q 14), (.i 0)] .one
(.ret (.q 15) [] [])))
def args_pform : List SX.V := [.a ((List.range 14).map fun j => .x j [])]
set_option maxRecDepth 100000 in
theorem run_pform (K A : Value → Nat → List Value → Prop) : (SX.run (cxF0 K A) ⟨fun _ => false, [], 0, 100⟩ 100000 0 (SX.door 36 Try.f36 args_pform (List.replicate 14 .one)) [.code (Try.f36.body.getD .skip), .top Try.f36]).strip = tree_pform := by kernel_rfl
set_option maxRecDepth 100000 in
set_option maxHeartbeats 4000000 in
theorem pform_any (s : Sg) (w : World)  : Calls Try.prog 36 #[valSg s] w fun e w' => e = .returned (.bool (decide s.ok)) ∧ Below w.heap.size w w' := by
  refine SX.calls_of_run (C := cxF0 (fun _ _ _ => False) (fun _ _ _ => False)) (G := ⟨fun _ => false, [], 0, 100⟩) (args := args_pform) (sh := (List.replicate 14 .one)) (ρ := (cellsSg s)) 100000 tree_pform (okF0 _ _) Try.func36 rfl (run_pform _ _) (by kernel_rfl) (by kernel_rfl) (by kernel_rfl) ?_ ?_
  · exact fun W _ => SX.Kf_none (fun _ _ _ h => h) W
  unfold tree_pform
  refine SX.E (.int .i64 ((chkS [s]))) (fun α => ⟨[⟨.slice (some ⟨(α 1).b, 0, none⟩) 1 1, 14, sgsL [s]⟩], ⟨by kernel_rfl, trivial⟩, .inl ⟨rfl, _, [s], rfl, by simp, rfl⟩, SX.noAli rfl⟩) ?_
  refine SX.D (.bool (((chkS [s]) : Int) == 0)) ?_
  exact SX.F (.bool (((chkS [s]) : Int) == 0)) (by congr 1; exact chkS_one s)
def tree_rform : SX.Tree :=
(.df (.call 33 [(.own 14 (SX.Z 0 14))]) [(.sl 1 0 1 1)] .one
(.df (.bin .eql 32) [(.q 14), (.i 0)] .one
(.ret (.q 15) [] [])))
def args_rform : List SX.V := [.a ((List.range 14).map fun j => .x j [])]
set_option maxRecDepth 100000 in
theorem run_rform (K A : Value → Nat → List Value → Prop) : (SX.run (cxF0 K A) ⟨fun _ => false, [], 0, 100⟩ 100000 0 (SX.door 51 Try.f51 args_rform (List.replicate 14 .one)) [.code (Try.f51.body.getD .skip), .top Try.f51]).strip = tree_rform := by kernel_rfl
set_option maxRecDepth 100000 in
set_option maxHeartbeats 4000000 in
theorem rform_any (s : Sg) (w : World)  : Calls Try.prog 51 #[valSg s] w fun e w' => e = .returned (.bool (decide s.ok)) ∧ Below w.heap.size w w' := by
  refine SX.calls_of_run (C := cxF0 (fun _ _ _ => False) (fun _ _ _ => False)) (G := ⟨fun _ => false, [], 0, 100⟩) (args := args_rform) (sh := (List.replicate 14 .one)) (ρ := (cellsSg s)) 100000 tree_rform (okF0 _ _) Try.func51 rfl (run_rform _ _) (by kernel_rfl) (by kernel_rfl) (by kernel_rfl) ?_ ?_
  · exact fun W _ => SX.Kf_none (fun _ _ _ h => h) W
  unfold tree_rform
  refine SX.E (.int .i64 ((chkS [s]))) (fun α => ⟨[⟨.slice (some ⟨(α 1).b, 0, none⟩) 1 1, 14, sgsL [s]⟩], ⟨by kernel_rfl, trivial⟩, .inr (⟨rfl, _, [s], rfl, by simp, rfl⟩), SX.noAli rfl⟩) ?_
  refine SX.D (.bool (((chkS [s]) : Int) == 0)) ?_
  exact SX.F (.bool (((chkS [s]) : Int) == 0)) (by congr 1; exact chkS_one s)
def RF1 (f : FuncId) (xs : List SX.Arg) (v : Value) : Prop :=
  (f = 35 ∧ ∃ (x y : Sg) (f : Int), xs = [⟨valSg x, 0, []⟩, ⟨.int .i64 f, 0, []⟩, ⟨valSg y, 0, []⟩] ∧ 1 ≤ f ∧ f ≤ 9 ∧ v = valSg (setF x f y)) ∨
  (f = 29 ∧ ∃ (x y : Sg) (f : Int), xs = [⟨valSg x, 0, []⟩, ⟨.int .i64 f, 0, []⟩, ⟨valSg y, 0, []⟩] ∧ v = valSg (setF x f y)) ∨
  (f = 36 ∧ ∃ s : Sg, xs = [⟨valSg s, 0, []⟩] ∧ v = .bool (decide s.ok)) ∨
  (f = 51 ∧ ∃ s : Sg, xs = [⟨valSg s, 0, []⟩] ∧ v = .bool (decide s.ok))
def shpF1 : FuncId → Option SX.Sh := fun f => if f = 35 then some (.ag 14) else if f = 29 then some (.ag 14) else if f = 36 then some .one else if f = 51 then some .one else none
noncomputable def cxF1 (K A : Value → Nat → List Value → Prop) : SX.Cx := { P := Try.prog, R := fun _ => RF1, shp := shpF1, K := K, A := A }
theorem okF1 (K A : Value → Nat → List Value → Prop) : (cxF1 K A).Ok := by
  refine SX.Cx.ok_of (fun _ => rfl) ?_
  intro K f xs v W hR hrd hKf
  rcases hR with ⟨rfl, x, y, f, rfl, h1, h9, rfl⟩ | ⟨rfl, x, y, f, rfl, rfl⟩ | ⟨rfl, s, rfl, rfl⟩ | ⟨rfl, s, rfl, rfl⟩
  · exact (set_any x y f W h1 h9).mono fun e w' h => SX.plainOk rfl h
  · exact (Set_any x y f W).mono fun e w' h => SX.plainOk rfl h
  · exact (pform_any s W).mono fun e w' h => SX.plainOk rfl h
  exact (rform_any s W).mono fun e w' h => SX.plainOk rfl h
def tree_pcheck : SX.Tree :=
(.df (.len false) [(.q 18)] .one
(.df (.bin .gtr 3) [(.q 19), (.i 32)] .one
(.br 20 []
(.ret (.i 2) [] [])
(.df (.len false) [(.q 18)] .one
(.loop [(.i 0), (.i 0)] [.one, .one]
(.df (.bin .lss 3) [(.q 22), (.q 21)] .one
(.br 24 []
(.df .bnd [(.q 18), (.q 22)] .one
(.df (.elem 1 0) [(.q 18), (.q 22)] .one
(.df (.bin .leq 3) [(.q 26), (.q 23)] .one
(.br 27 []
(.ret (.i 370) [] [])
(.df (.bin .geq 3) [(.q 26), (.q 0)] .one
(.br 28 []
(.ret (.i 370) [] [])
(.df (.bin .add 3) [(.q 22), (.i 1)] .one
(.again 0 [(.q 29), (.q 26)]))))))))
(.df (.bin .geq 3) [(.q 0), (.i 1)] .one
(.br 25 []
(.df (.bin .leq 3) [(.q 0), (.i 1048576)] .one
(.br 26 []
(.df (.bin .geq 3) [(.q 2), (.i 0)] .one
(.br 27 []
(.df (.bin .leq 3) [(.q 2), (.i 1048576)] .one
(.df (.bin .eql 3) [(.q 1), (.i 1)] .one
(.br 29 []
(.df (.bin .lss 3) [(.q 3), (.i 1)] .one
(.br 30 []
(.ret (.i 370) [] [])
(.df (.bin .gtr 3) [(.q 3), (.i 9)] .one
(.br 31 []
(.ret (.i 370) [] [])
(.br 28 []
(.df (.call 35 [.no, .no, .no]) [(.a (SX.Z 4 14)), (.q 3), (.a [(.i 0), (.i 0), (.i 0), (.i 0), (.i 0), (.i 0), (.i 0), (.i 0), (.i 0), (.i 0), (.i 0), (.i 0), (.i 0), (.i 0)])] (.ag 14)
(.df (.eqr false 14 [(.i .i64), (.i .i64), (.i .i64), (.i .i64), (.i .i64), (.i .i64), (.i .i64), (.i .i64), (.i .i64), (.i .i64), (.i .i64), (.i .i64), (.i .i64), (.i .i64)]) (SX.Y 32 0 14 ++ [(.i 0), (.i 0), (.i 0), (.i 0), (.i 0), (.i 0), (.i 0), (.i 0), (.i 0), (.i 0), (.i 0), (.i 0), (.i 0), (.i 0)]) .one
(.br 33 []
(.df (.call 35 [.no, .no, .no]) [(.a [(.i 0), (.i 0), (.i 0), (.i 3), (.i 9), (.i 0), (.i 0), (.i 0), (.i 0), (.i 0), (.i 0), (.i 1), (.i 1), (.i 2)]), (.q 3), (.a (SX.Z 4 14))] (.ag 14)
(.df (.call 36 [.no]) [(.a (SX.Y 34 0 14))] .one
(.df .not [(.q 35)] .one
(.br 36 []
(.ret (.i 370) [] [])
(.ret (.i 0) [] [])))))
(.ret (.i 370) [] []))))
(.ret (.i 370) [] []))))))
(.df (.bin .eql 3) [(.q 1), (.i 2)] .one
(.br 30 []
(.br 28 []
(.df (.bin .eql 3) [(.q 3), (.i 0)] .one
(.br 31 []
(.df (.bin .eql 3) [(.q 4), (.q 2)] .one
(.br 32 []
(.df (.call 36 [.no]) [(.a (SX.Z 4 14))] .one
(.df .not [(.q 33)] .one
(.br 34 []
(.ret (.i 370) [] [])
(.ret (.i 0) [] []))))
(.ret (.i 370) [] [])))
(.ret (.i 370) [] [])))
(.ret (.i 370) [] []))
(.df (.bin .eql 3) [(.q 1), (.i 3)] .one
(.br 31 []
(.br 28 []
(.df (.bin .eql 3) [(.q 3), (.i 0)] .one
(.br 32 []
(.df (.eqr false 14 [(.i .i64), (.i .i64), (.i .i64), (.i .i64), (.i .i64), (.i .i64), (.i .i64), (.i .i64), (.i .i64), (.i .i64), (.i .i64), (.i .i64), (.i .i64), (.i .i64)]) (SX.Z 4 14 ++ [(.i 0), (.i 0), (.i 0), (.i 0), (.i 0), (.i 0), (.i 0), (.i 0), (.i 0), (.i 0), (.i 0), (.i 0), (.i 0), (.i 0)]) .one
(.df .not [(.q 33)] .one
(.br 34 []
(.ret (.i 370) [] [])
(.ret (.i 0) [] []))))
(.ret (.i 370) [] [])))
(.ret (.i 370) [] []))
(.ret (.i 370) [] []))))))))
(.df (.bin .eql 3) [(.q 1), (.i 1)] .one
(.br 28 []
(.df (.bin .lss 3) [(.q 3), (.i 1)] .one
(.br 29 []
(.ret (.i 370) [] [])
(.df (.bin .gtr 3) [(.q 3), (.i 9)] .one
(.br 30 []
(.ret (.i 370) [] [])
(.ret (.i 370) [] [])))))
(.df (.bin .eql 3) [(.q 1), (.i 2)] .one
(.br 29 []
(.ret (.i 370) [] [])
(.df (.bin .eql 3) [(.q 1), (.i 3)] .one
(.br 30 []
(.ret (.i 370) [] [])
(.ret (.i 370) [] [])))))))))
(.df (.bin .eql 3) [(.q 1), (.i 1)] .one
(.br 27 []
(.df (.bin .lss 3) [(.q 3), (.i 1)] .one
(.br 28 []
(.ret (.i 370) [] [])
(.df (.bin .gtr 3) [(.q 3), (.i 9)] .one
(.br 29 []
(.ret (.i 370) [] [])
(.ret (.i 370) [] [])))))
(.df (.bin .eql 3) [(.q 1), (.i 2)] .one
(.br 28 []
(.ret (.i 370) [] [])
(.df (.bin .eql 3) [(.q 1), (.i 3)] .one
(.br 29 []
(.ret (.i 370) [] [])
(.ret (.i 370) [] [])))))))))
(.df (.bin .eql 3) [(.q 1), (.i 1)] .one
(.br 26 []
(.df (.bin .lss 3) [(.q 3), (.i 1)] .one
(.br 27 []
(.ret (.i 370) [] [])
(.df (.bin .gtr 3) [(.q 3), (.i 9)] .one
(.br 28 []
(.ret (.i 370) [] [])
(.ret (.i 370) [] [])))))
(.df (.bin .eql 3) [(.q 1), (.i 2)] .one
(.br 27 []
(.ret (.i 370) [] [])
(.df (.bin .eql 3) [(.q 1), (.i 3)] .one
(.br 28 []
(.ret (.i 370) [] [])
(.ret (.i 370) [] []))))))))))))))))
def args_pcheck : List SX.V := [.a ((List.range 19).map fun j => .x j [])]
set_option maxRecDepth 100000 in
theorem run_pcheck (K A : Value → Nat → List Value → Prop) : (SX.run (cxF1 K A) ⟨fun _ => false, [⟨14, 5, [(.s 15, .one), (.s 3, .one)]⟩], 0, 100⟩ 100000 0 (SX.door 14 Try.f14 args_pcheck (List.replicate 19 .one)) [.code (Try.f14.body.getD .skip), .top Try.f14]).strip = tree_pcheck := by kernel_rfl
set_option maxRecDepth 100000 in
set_option maxHeartbeats 4000000 in
theorem pcheck_any (p : Pt) (B : Option Addr) (m d : Nat) (w : World) (hr : Rd w 1 B m (intsL p.needs)) (hm : m ≤ 9223372036854775807) (hc : m ≤ d) : Calls Try.prog 14 #[valP p (.slice B m d)] w fun e w' => e = .returned (.int .i64 (chkP p)) ∧ Below w.heap.size w w' := by
  refine SX.calls_of_run (C := cxF1 (fun s sz cells => s = .slice B m d ∧ sz = 1 ∧ cells = intsL p.needs) (fun _ _ _ => False)) (G := ⟨fun _ => false, [⟨14, 5, [(.s 15, .one), (.s 3, .one)]⟩], 0, 100⟩) (args := args_pcheck) (sh := (List.replicate 19 .one)) (ρ := (cellsP p (.slice B m d))) 100000 tree_pcheck (okF1 _ _) Try.func14 rfl (run_pcheck _ _) (by kernel_rfl) (by kernel_rfl) (by kernel_rfl) ?_ ?_
  · rintro W hW s sz cells ⟨rfl, rfl, rfl⟩; exact ⟨hr.same0 hW, hc⟩
  have hA := SX.rd_some hr
  have hln : p.needs.length = m := by have := hr.1; rw [intsL_len] at this; omega
  unfold tree_pcheck
  refine SX.D (.int .i64 (((m : Nat) : Int))) ?_
  refine SX.D (.bool (decide (((m : Nat) : Int) > 32))) ?_
  refine SX.B (decide (((m : Nat) : Int) > 32)) (fun h20 => ?_) (fun h20 => ?_)
  · try simp only [NRM] at h20
    exact SX.F (.int .i64 2) (by rw [chkP, if_pos (by omega)])
  try simp only [NRM] at h20
  refine SX.D (.int .i64 (((m : Nat) : Int))) ?_
  refine SX.VC_loop (fun xs => ∃ (i : Nat) (last : Int), xs = [.int .i64 (i : Int), .int .i64 last] ∧ i ≤ m ∧ needsTo p i ∧ (i = 0 → last = 0) ∧ ∀ y, 0 < i → p.needs[i - 1]? = some y → last = y) (fun xs => match xs with | [.int _ i, _] => m - i.toNat | _ => 0) (fun α => ⟨0, 0, by kernel_rfl, by omega, by simp [needsTo], fun _ => rfl, fun y h => absurd h (by omega)⟩) ?_
  rintro xs - ⟨i, last, rfl, him, hnd, hl0, hly⟩
  refine SX.D (.bool (decide (((i : Nat) : Int) < ((m : Nat) : Int)))) ?_
  refine SX.B (decide (((i : Nat) : Int) < ((m : Nat) : Int))) (fun h24 => ?_) (fun h24 => ?_)
  · try simp only [NRM] at h24
    obtain ⟨z, hz⟩ : ∃ z, p.needs[i]? = some z := ⟨_, List.getElem?_eq_getElem (by omega)⟩
    refine SX.E (.bool true) (fun α => SX.extBnd (A := B) (n := m) (c := d) (j := i) hA (by kernel_rfl) (by kernel_rfl) (by omega)) ?_
    refine SX.E (.int .i64 z) (fun α => SX.extElem (o := 0) (v := .int .i64 z) (f := cellsI) (l := p.needs) (A := B) (n := m) (c := d) (j := i) (z := z) (fun _ => rfl) hA (by kernel_rfl) (by kernel_rfl) (by omega) ⟨rfl, rfl, rfl⟩ hz (by decide) (by kernel_rfl)) ?_
    refine SX.D (.bool (decide (z ≤ last))) ?_
    refine SX.B (decide (z ≤ last)) (fun h27 => ?_) (fun h27 => ?_)
    · try simp only [NRM] at h27
      exact SX.F (.int .i64 370) (by rw [no_of_needs (needs_last hz hl0 hly (by first | exact .inl (by omega) | exact .inr (by omega))) (by omega)])
    try simp only [NRM] at h27
    refine SX.D (.bool (decide (z ≥ p.id))) ?_
    refine SX.B (decide (z ≥ p.id)) (fun h28 => ?_) (fun h28 => ?_)
    · try simp only [NRM] at h28
      exact SX.F (.int .i64 370) (by rw [no_of_needs (needs_last hz hl0 hly (by first | exact .inl (by omega) | exact .inr (by omega))) (by omega)])
    try simp only [NRM] at h28
    have hz1 := needs_pos hnd hz hl0 hly (by omega)
    refine SX.E (.int .i64 (((i + 1 : Nat) : Int))) (fun α => SX.W1 i) ?_
    exact SX.VC_again fun α => ⟨⟨i + 1, z, by kernel_rfl, by omega, (needs_succ hz).2 ⟨hnd, ⟨hz1, by omega⟩, fun y h0 hy => by have := hly y h0 hy; omega⟩, fun h => absurd h (by omega), fun y _ hy => by rw [Nat.add_sub_cancel, hz] at hy; cases hy; rfl⟩, cast (by kernel_rfl) (show m - ((i + 1 : Nat) : Int).toNat < m - (i : Int).toNat by omega)⟩
  try simp only [NRM] at h24
  have hN : needsOk p := needs_end hnd (by omega)
  refine SX.D (.bool (decide (p.id ≥ 1))) ?_
  refine SX.B (decide (p.id ≥ 1)) (fun h25 => ?_) (fun h25 => ?_)
  · try simp only [NRM] at h25
    refine SX.D (.bool (decide (p.id ≤ 1048576))) ?_
    refine SX.B (decide (p.id ≤ 1048576)) (fun h26 => ?_) (fun h26 => ?_)
    · try simp only [NRM] at h26
      refine SX.D (.bool (decide (p.sign ≥ 0))) ?_
      refine SX.B (decide (p.sign ≥ 0)) (fun h27 => ?_) (fun h27 => ?_)
      · try simp only [NRM] at h27
        refine SX.D (.bool (decide (p.sign ≤ 1048576))) ?_
        refine SX.D (.bool ((p.kind : Int) == 1)) ?_
        refine SX.B ((p.kind : Int) == 1) (fun h29 => ?_) (fun h29 => ?_)
        · try simp only [NRM] at h29
          refine SX.D (.bool (decide (p.field < 1))) ?_
          refine SX.B (decide (p.field < 1)) (fun h30 => ?_) (fun h30 => ?_)
          · try simp only [NRM] at h30
            exact SX.F (.int .i64 370) (by rw [no_of_needs (by rintro ⟨⟨a1, a2⟩, ⟨a3, a4⟩, a5, (⟨b1, b2, b3, b4, b5⟩ | ⟨b1, b2, b3, b4⟩ | ⟨b1, b2, b3⟩)⟩ <;> first | omega | contradiction | simp_all) (by omega)])
          try simp only [NRM] at h30
          refine SX.D (.bool (decide (p.field > 9))) ?_
          refine SX.B (decide (p.field > 9)) (fun h31 => ?_) (fun h31 => ?_)
          · try simp only [NRM] at h31
            exact SX.F (.int .i64 370) (by rw [no_of_needs (by rintro ⟨⟨a1, a2⟩, ⟨a3, a4⟩, a5, (⟨b1, b2, b3, b4, b5⟩ | ⟨b1, b2, b3, b4⟩ | ⟨b1, b2, b3⟩)⟩ <;> first | omega | contradiction | simp_all) (by omega)])
          try simp only [NRM] at h31
          refine SX.B (decide (p.sign ≤ 1048576)) (fun h28 => ?_) (fun h28 => ?_)
          · try simp only [NRM] at h28
            refine SX.E (.agg (cellsSg (setF p.new p.field zeroSg)).toArray) (fun α => ⟨[⟨valSg p.new, 0, []⟩, ⟨.int .i64 p.field, 0, []⟩, ⟨valSg zeroSg, 0, []⟩], ⟨by kernel_rfl, by kernel_rfl, by kernel_rfl, by kernel_rfl, by kernel_rfl, by kernel_rfl, trivial⟩, .inl ⟨rfl, p.new, zeroSg, p.field, rfl, by omega, by omega, rfl⟩, SX.noAli rfl⟩) ?_
            refine SX.E (.bool (false ^^ decide ((setF p.new p.field zeroSg) = zeroSg))) (fun α => SX.eqr_rel (f := cellsSg) cellsSg_inj (y := (setF p.new p.field zeroSg)) (z := zeroSg) (by kernel_rfl) (by kernel_rfl) (by kernel_rfl)) ?_
            refine SX.B (false ^^ decide ((setF p.new p.field zeroSg) = zeroSg)) (fun h33 => ?_) (fun h33 => ?_)
            · try simp only [NRM] at h33
              refine SX.E (.agg (cellsSg (setF plainP p.field p.new)).toArray) (fun α => ⟨[⟨valSg plainP, 0, []⟩, ⟨.int .i64 p.field, 0, []⟩, ⟨valSg p.new, 0, []⟩], ⟨by kernel_rfl, by kernel_rfl, by kernel_rfl, by kernel_rfl, by kernel_rfl, by kernel_rfl, trivial⟩, .inl ⟨rfl, plainP, p.new, p.field, rfl, by omega, by omega, rfl⟩, SX.noAli rfl⟩) ?_
              refine SX.E (.bool (decide ((setF plainP p.field p.new)).ok)) (fun α => ⟨[⟨valSg ((setF plainP p.field p.new)), 0, []⟩], ⟨by kernel_rfl, by kernel_rfl, trivial⟩, .inr (.inr (.inl ⟨rfl, (setF plainP p.field p.new), rfl, rfl⟩)), SX.noAli rfl⟩) ?_
              refine SX.D (.bool (!(decide ((setF plainP p.field p.new)).ok))) ?_
              refine SX.B (!(decide ((setF plainP p.field p.new)).ok)) (fun h36 => ?_) (fun h36 => ?_)
              · try simp only [NRM] at h36
                exact SX.F (.int .i64 370) (by rw [no_of_needs (by rintro ⟨⟨a1, a2⟩, ⟨a3, a4⟩, a5, (⟨b1, b2, b3, b4, b5⟩ | ⟨b1, b2, b3, b4⟩ | ⟨b1, b2, b3⟩)⟩ <;> first | omega | contradiction | simp_all) (by omega)])
              try simp only [NRM] at h36
              exact SX.F (.int .i64 0) (by rw [chkP, if_neg (by omega), if_pos ⟨⟨by omega, by omega⟩, ⟨by omega, by omega⟩, hN, by first | exact .inl ⟨h29, by omega, by omega, h33, h36⟩ | exact .inr (.inl ⟨h30, h31, h32, h34⟩) | exact .inr (.inr ⟨h31, h32, h34⟩)⟩])
            try simp only [NRM] at h33
            exact SX.F (.int .i64 370) (by rw [no_of_needs (by rintro ⟨⟨a1, a2⟩, ⟨a3, a4⟩, a5, (⟨b1, b2, b3, b4, b5⟩ | ⟨b1, b2, b3, b4⟩ | ⟨b1, b2, b3⟩)⟩ <;> first | omega | contradiction | simp_all) (by omega)])
          try simp only [NRM] at h28
          exact SX.F (.int .i64 370) (by rw [no_of_needs (by rintro ⟨⟨a1, a2⟩, ⟨a3, a4⟩, a5, (⟨b1, b2, b3, b4, b5⟩ | ⟨b1, b2, b3, b4⟩ | ⟨b1, b2, b3⟩)⟩ <;> first | omega | contradiction | simp_all) (by omega)])
        try simp only [NRM] at h29
        refine SX.D (.bool ((p.kind : Int) == 2)) ?_
        refine SX.B ((p.kind : Int) == 2) (fun h30 => ?_) (fun h30 => ?_)
        · try simp only [NRM] at h30
          refine SX.B (decide (p.sign ≤ 1048576)) (fun h28 => ?_) (fun h28 => ?_)
          · try simp only [NRM] at h28
            refine SX.D (.bool ((p.field : Int) == 0)) ?_
            refine SX.B ((p.field : Int) == 0) (fun h31 => ?_) (fun h31 => ?_)
            · try simp only [NRM] at h31
              refine SX.D (.bool ((p.new.id : Int) == p.sign)) ?_
              refine SX.B ((p.new.id : Int) == p.sign) (fun h32 => ?_) (fun h32 => ?_)
              · try simp only [NRM] at h32
                refine SX.E (.bool (decide p.new.ok)) (fun α => ⟨[⟨valSg p.new, 0, []⟩], ⟨by kernel_rfl, by kernel_rfl, trivial⟩, .inr (.inr (.inl ⟨rfl, p.new, rfl, rfl⟩)), SX.noAli rfl⟩) ?_
                refine SX.D (.bool (!(decide p.new.ok))) ?_
                refine SX.B (!(decide p.new.ok)) (fun h34 => ?_) (fun h34 => ?_)
                · try simp only [NRM] at h34
                  exact SX.F (.int .i64 370) (by rw [no_of_needs (by rintro ⟨⟨a1, a2⟩, ⟨a3, a4⟩, a5, (⟨b1, b2, b3, b4, b5⟩ | ⟨b1, b2, b3, b4⟩ | ⟨b1, b2, b3⟩)⟩ <;> first | omega | contradiction | simp_all) (by omega)])
                try simp only [NRM] at h34
                exact SX.F (.int .i64 0) (by rw [chkP, if_neg (by omega), if_pos ⟨⟨by omega, by omega⟩, ⟨by omega, by omega⟩, hN, by first | exact .inl ⟨h29, by omega, by omega, h33, h36⟩ | exact .inr (.inl ⟨h30, h31, h32, h34⟩) | exact .inr (.inr ⟨h31, h32, h34⟩)⟩])
              try simp only [NRM] at h32
              exact SX.F (.int .i64 370) (by rw [no_of_needs (by rintro ⟨⟨a1, a2⟩, ⟨a3, a4⟩, a5, (⟨b1, b2, b3, b4, b5⟩ | ⟨b1, b2, b3, b4⟩ | ⟨b1, b2, b3⟩)⟩ <;> first | omega | contradiction | simp_all) (by omega)])
            try simp only [NRM] at h31
            exact SX.F (.int .i64 370) (by rw [no_of_needs (by rintro ⟨⟨a1, a2⟩, ⟨a3, a4⟩, a5, (⟨b1, b2, b3, b4, b5⟩ | ⟨b1, b2, b3, b4⟩ | ⟨b1, b2, b3⟩)⟩ <;> first | omega | contradiction | simp_all) (by omega)])
          try simp only [NRM] at h28
          exact SX.F (.int .i64 370) (by rw [no_of_needs (by rintro ⟨⟨a1, a2⟩, ⟨a3, a4⟩, a5, (⟨b1, b2, b3, b4, b5⟩ | ⟨b1, b2, b3, b4⟩ | ⟨b1, b2, b3⟩)⟩ <;> first | omega | contradiction | simp_all) (by omega)])
        try simp only [NRM] at h30
        refine SX.D (.bool ((p.kind : Int) == 3)) ?_
        refine SX.B ((p.kind : Int) == 3) (fun h31 => ?_) (fun h31 => ?_)
        · try simp only [NRM] at h31
          refine SX.B (decide (p.sign ≤ 1048576)) (fun h28 => ?_) (fun h28 => ?_)
          · try simp only [NRM] at h28
            refine SX.D (.bool ((p.field : Int) == 0)) ?_
            refine SX.B ((p.field : Int) == 0) (fun h32 => ?_) (fun h32 => ?_)
            · try simp only [NRM] at h32
              refine SX.E (.bool (false ^^ decide (p.new = zeroSg))) (fun α => SX.eqr_rel (f := cellsSg) cellsSg_inj (y := p.new) (z := zeroSg) (by kernel_rfl) (by kernel_rfl) (by kernel_rfl)) ?_
              refine SX.D (.bool (!(false ^^ decide (p.new = zeroSg)))) ?_
              refine SX.B (!(false ^^ decide (p.new = zeroSg))) (fun h34 => ?_) (fun h34 => ?_)
              · try simp only [NRM] at h34
                exact SX.F (.int .i64 370) (by rw [no_of_needs (by rintro ⟨⟨a1, a2⟩, ⟨a3, a4⟩, a5, (⟨b1, b2, b3, b4, b5⟩ | ⟨b1, b2, b3, b4⟩ | ⟨b1, b2, b3⟩)⟩ <;> first | omega | contradiction | simp_all) (by omega)])
              try simp only [NRM] at h34
              exact SX.F (.int .i64 0) (by rw [chkP, if_neg (by omega), if_pos ⟨⟨by omega, by omega⟩, ⟨by omega, by omega⟩, hN, by first | exact .inl ⟨h29, by omega, by omega, h33, h36⟩ | exact .inr (.inl ⟨h30, h31, h32, h34⟩) | exact .inr (.inr ⟨h31, h32, h34⟩)⟩])
            try simp only [NRM] at h32
            exact SX.F (.int .i64 370) (by rw [no_of_needs (by rintro ⟨⟨a1, a2⟩, ⟨a3, a4⟩, a5, (⟨b1, b2, b3, b4, b5⟩ | ⟨b1, b2, b3, b4⟩ | ⟨b1, b2, b3⟩)⟩ <;> first | omega | contradiction | simp_all) (by omega)])
          try simp only [NRM] at h28
          exact SX.F (.int .i64 370) (by rw [no_of_needs (by rintro ⟨⟨a1, a2⟩, ⟨a3, a4⟩, a5, (⟨b1, b2, b3, b4, b5⟩ | ⟨b1, b2, b3, b4⟩ | ⟨b1, b2, b3⟩)⟩ <;> first | omega | contradiction | simp_all) (by omega)])
        try simp only [NRM] at h31
        exact SX.F (.int .i64 370) (by rw [no_of_needs (by rintro ⟨⟨a1, a2⟩, ⟨a3, a4⟩, a5, (⟨b1, b2, b3, b4, b5⟩ | ⟨b1, b2, b3, b4⟩ | ⟨b1, b2, b3⟩)⟩ <;> first | omega | contradiction | simp_all) (by omega)])
      try simp only [NRM] at h27
      refine SX.D (.bool ((p.kind : Int) == 1)) ?_
      refine SX.B ((p.kind : Int) == 1) (fun h28 => ?_) (fun h28 => ?_)
      · try simp only [NRM] at h28
        refine SX.D (.bool (decide (p.field < 1))) ?_
        refine SX.B (decide (p.field < 1)) (fun h29 => ?_) (fun h29 => ?_)
        · try simp only [NRM] at h29
          exact SX.F (.int .i64 370) (by rw [no_of_needs (by rintro ⟨⟨a1, a2⟩, ⟨a3, a4⟩, a5, (⟨b1, b2, b3, b4, b5⟩ | ⟨b1, b2, b3, b4⟩ | ⟨b1, b2, b3⟩)⟩ <;> first | omega | contradiction | simp_all) (by omega)])
        try simp only [NRM] at h29
        refine SX.D (.bool (decide (p.field > 9))) ?_
        refine SX.B (decide (p.field > 9)) (fun h30 => ?_) (fun h30 => ?_)
        · try simp only [NRM] at h30
          exact SX.F (.int .i64 370) (by rw [no_of_needs (by rintro ⟨⟨a1, a2⟩, ⟨a3, a4⟩, a5, (⟨b1, b2, b3, b4, b5⟩ | ⟨b1, b2, b3, b4⟩ | ⟨b1, b2, b3⟩)⟩ <;> first | omega | contradiction | simp_all) (by omega)])
        try simp only [NRM] at h30
        exact SX.F (.int .i64 370) (by rw [no_of_needs (by rintro ⟨⟨a1, a2⟩, ⟨a3, a4⟩, a5, (⟨b1, b2, b3, b4, b5⟩ | ⟨b1, b2, b3, b4⟩ | ⟨b1, b2, b3⟩)⟩ <;> first | omega | contradiction | simp_all) (by omega)])
      try simp only [NRM] at h28
      refine SX.D (.bool ((p.kind : Int) == 2)) ?_
      refine SX.B ((p.kind : Int) == 2) (fun h29 => ?_) (fun h29 => ?_)
      · try simp only [NRM] at h29
        exact SX.F (.int .i64 370) (by rw [no_of_needs (by rintro ⟨⟨a1, a2⟩, ⟨a3, a4⟩, a5, (⟨b1, b2, b3, b4, b5⟩ | ⟨b1, b2, b3, b4⟩ | ⟨b1, b2, b3⟩)⟩ <;> first | omega | contradiction | simp_all) (by omega)])
      try simp only [NRM] at h29
      refine SX.D (.bool ((p.kind : Int) == 3)) ?_
      refine SX.B ((p.kind : Int) == 3) (fun h30 => ?_) (fun h30 => ?_)
      · try simp only [NRM] at h30
        exact SX.F (.int .i64 370) (by rw [no_of_needs (by rintro ⟨⟨a1, a2⟩, ⟨a3, a4⟩, a5, (⟨b1, b2, b3, b4, b5⟩ | ⟨b1, b2, b3, b4⟩ | ⟨b1, b2, b3⟩)⟩ <;> first | omega | contradiction | simp_all) (by omega)])
      try simp only [NRM] at h30
      exact SX.F (.int .i64 370) (by rw [no_of_needs (by rintro ⟨⟨a1, a2⟩, ⟨a3, a4⟩, a5, (⟨b1, b2, b3, b4, b5⟩ | ⟨b1, b2, b3, b4⟩ | ⟨b1, b2, b3⟩)⟩ <;> first | omega | contradiction | simp_all) (by omega)])
    try simp only [NRM] at h26
    refine SX.D (.bool ((p.kind : Int) == 1)) ?_
    refine SX.B ((p.kind : Int) == 1) (fun h27 => ?_) (fun h27 => ?_)
    · try simp only [NRM] at h27
      refine SX.D (.bool (decide (p.field < 1))) ?_
      refine SX.B (decide (p.field < 1)) (fun h28 => ?_) (fun h28 => ?_)
      · try simp only [NRM] at h28
        exact SX.F (.int .i64 370) (by rw [no_of_needs (by rintro ⟨⟨a1, a2⟩, ⟨a3, a4⟩, a5, (⟨b1, b2, b3, b4, b5⟩ | ⟨b1, b2, b3, b4⟩ | ⟨b1, b2, b3⟩)⟩ <;> first | omega | contradiction | simp_all) (by omega)])
      try simp only [NRM] at h28
      refine SX.D (.bool (decide (p.field > 9))) ?_
      refine SX.B (decide (p.field > 9)) (fun h29 => ?_) (fun h29 => ?_)
      · try simp only [NRM] at h29
        exact SX.F (.int .i64 370) (by rw [no_of_needs (by rintro ⟨⟨a1, a2⟩, ⟨a3, a4⟩, a5, (⟨b1, b2, b3, b4, b5⟩ | ⟨b1, b2, b3, b4⟩ | ⟨b1, b2, b3⟩)⟩ <;> first | omega | contradiction | simp_all) (by omega)])
      try simp only [NRM] at h29
      exact SX.F (.int .i64 370) (by rw [no_of_needs (by rintro ⟨⟨a1, a2⟩, ⟨a3, a4⟩, a5, (⟨b1, b2, b3, b4, b5⟩ | ⟨b1, b2, b3, b4⟩ | ⟨b1, b2, b3⟩)⟩ <;> first | omega | contradiction | simp_all) (by omega)])
    try simp only [NRM] at h27
    refine SX.D (.bool ((p.kind : Int) == 2)) ?_
    refine SX.B ((p.kind : Int) == 2) (fun h28 => ?_) (fun h28 => ?_)
    · try simp only [NRM] at h28
      exact SX.F (.int .i64 370) (by rw [no_of_needs (by rintro ⟨⟨a1, a2⟩, ⟨a3, a4⟩, a5, (⟨b1, b2, b3, b4, b5⟩ | ⟨b1, b2, b3, b4⟩ | ⟨b1, b2, b3⟩)⟩ <;> first | omega | contradiction | simp_all) (by omega)])
    try simp only [NRM] at h28
    refine SX.D (.bool ((p.kind : Int) == 3)) ?_
    refine SX.B ((p.kind : Int) == 3) (fun h29 => ?_) (fun h29 => ?_)
    · try simp only [NRM] at h29
      exact SX.F (.int .i64 370) (by rw [no_of_needs (by rintro ⟨⟨a1, a2⟩, ⟨a3, a4⟩, a5, (⟨b1, b2, b3, b4, b5⟩ | ⟨b1, b2, b3, b4⟩ | ⟨b1, b2, b3⟩)⟩ <;> first | omega | contradiction | simp_all) (by omega)])
    try simp only [NRM] at h29
    exact SX.F (.int .i64 370) (by rw [no_of_needs (by rintro ⟨⟨a1, a2⟩, ⟨a3, a4⟩, a5, (⟨b1, b2, b3, b4, b5⟩ | ⟨b1, b2, b3, b4⟩ | ⟨b1, b2, b3⟩)⟩ <;> first | omega | contradiction | simp_all) (by omega)])
  try simp only [NRM] at h25
  refine SX.D (.bool ((p.kind : Int) == 1)) ?_
  refine SX.B ((p.kind : Int) == 1) (fun h26 => ?_) (fun h26 => ?_)
  · try simp only [NRM] at h26
    refine SX.D (.bool (decide (p.field < 1))) ?_
    refine SX.B (decide (p.field < 1)) (fun h27 => ?_) (fun h27 => ?_)
    · try simp only [NRM] at h27
      exact SX.F (.int .i64 370) (by rw [no_of_needs (by rintro ⟨⟨a1, a2⟩, ⟨a3, a4⟩, a5, (⟨b1, b2, b3, b4, b5⟩ | ⟨b1, b2, b3, b4⟩ | ⟨b1, b2, b3⟩)⟩ <;> first | omega | contradiction | simp_all) (by omega)])
    try simp only [NRM] at h27
    refine SX.D (.bool (decide (p.field > 9))) ?_
    refine SX.B (decide (p.field > 9)) (fun h28 => ?_) (fun h28 => ?_)
    · try simp only [NRM] at h28
      exact SX.F (.int .i64 370) (by rw [no_of_needs (by rintro ⟨⟨a1, a2⟩, ⟨a3, a4⟩, a5, (⟨b1, b2, b3, b4, b5⟩ | ⟨b1, b2, b3, b4⟩ | ⟨b1, b2, b3⟩)⟩ <;> first | omega | contradiction | simp_all) (by omega)])
    try simp only [NRM] at h28
    exact SX.F (.int .i64 370) (by rw [no_of_needs (by rintro ⟨⟨a1, a2⟩, ⟨a3, a4⟩, a5, (⟨b1, b2, b3, b4, b5⟩ | ⟨b1, b2, b3, b4⟩ | ⟨b1, b2, b3⟩)⟩ <;> first | omega | contradiction | simp_all) (by omega)])
  try simp only [NRM] at h26
  refine SX.D (.bool ((p.kind : Int) == 2)) ?_
  refine SX.B ((p.kind : Int) == 2) (fun h27 => ?_) (fun h27 => ?_)
  · try simp only [NRM] at h27
    exact SX.F (.int .i64 370) (by rw [no_of_needs (by rintro ⟨⟨a1, a2⟩, ⟨a3, a4⟩, a5, (⟨b1, b2, b3, b4, b5⟩ | ⟨b1, b2, b3, b4⟩ | ⟨b1, b2, b3⟩)⟩ <;> first | omega | contradiction | simp_all) (by omega)])
  try simp only [NRM] at h27
  refine SX.D (.bool ((p.kind : Int) == 3)) ?_
  refine SX.B ((p.kind : Int) == 3) (fun h28 => ?_) (fun h28 => ?_)
  · try simp only [NRM] at h28
    exact SX.F (.int .i64 370) (by rw [no_of_needs (by rintro ⟨⟨a1, a2⟩, ⟨a3, a4⟩, a5, (⟨b1, b2, b3, b4, b5⟩ | ⟨b1, b2, b3, b4⟩ | ⟨b1, b2, b3⟩)⟩ <;> first | omega | contradiction | simp_all) (by omega)])
  try simp only [NRM] at h28
  exact SX.F (.int .i64 370) (by rw [no_of_needs (by rintro ⟨⟨a1, a2⟩, ⟨a3, a4⟩, a5, (⟨b1, b2, b3, b4, b5⟩ | ⟨b1, b2, b3, b4⟩ | ⟨b1, b2, b3⟩)⟩ <;> first | omega | contradiction | simp_all) (by omega)])
def tree_rvalid : SX.Tree :=
(.df (.bin .lss 3) [(.q 0), (.i 1)] .one
(.br 19 []
(.ret (.k (.bool false)) [] [])
(.df (.bin .gtr 3) [(.q 0), (.i 1048576)] .one
(.br 20 []
(.ret (.k (.bool false)) [] [])
(.df (.bin .lss 3) [(.q 2), (.i 0)] .one
(.br 21 []
(.ret (.k (.bool false)) [] [])
(.df (.bin .gtr 3) [(.q 2), (.i 1048576)] .one
(.br 22 []
(.ret (.k (.bool false)) [] [])
(.loop [(.i 0)] [.one]
(.df (.len false) [(.q 18)] .one
(.df (.bin .lss 3) [(.q 23), (.q 24)] .one
(.br 25 []
(.df .bnd [(.q 18), (.q 23)] .one
(.df (.elem 1 0) [(.q 18), (.q 23)] .one
(.df (.bin .lss 3) [(.q 27), (.i 1)] .one
(.br 28 []
(.ret (.k (.bool false)) [] [])
(.df .bnd [(.q 18), (.q 23)] .one
(.df (.elem 1 0) [(.q 18), (.q 23)] .one
(.df (.bin .geq 3) [(.q 30), (.q 0)] .one
(.br 31 []
(.ret (.k (.bool false)) [] [])
(.df (.bin .gtr 3) [(.q 23), (.i 0)] .one
(.br 32 []
(.df .bnd [(.q 18), (.q 23)] .one
(.df (.elem 1 0) [(.q 18), (.q 23)] .one
(.df (.bin .sub 3) [(.q 23), (.i 1)] .one
(.df .bnd [(.q 18), (.q 35)] .one
(.df (.elem 1 0) [(.q 18), (.q 35)] .one
(.df (.bin .leq 3) [(.q 34), (.q 37)] .one
(.br 38 []
(.ret (.k (.bool false)) [] [])
(.df (.bin .add 3) [(.q 23), (.i 1)] .one
(.again 0 [(.q 39)])))))))))
(.df (.bin .add 3) [(.q 23), (.i 1)] .one
(.again 0 [(.q 33)]))))))))))))
(.df (.bin .eql 3) [(.q 1), (.i 1)] .one
(.br 26 []
(.df (.bin .lss 3) [(.q 3), (.i 1)] .one
(.br 27 []
(.ret (.k (.bool false)) [] [])
(.df (.bin .gtr 3) [(.q 3), (.i 9)] .one
(.br 28 []
(.ret (.k (.bool false)) [] [])
(.df (.call 29 [.no, .no, .no]) [(.a [(.i 0), (.i 0), (.i 0), (.i 0), (.i 0), (.i 0), (.i 0), (.i 0), (.i 0), (.i 0), (.i 0), (.i 0), (.i 0), (.i 0)]), (.q 3), (.a (SX.Z 4 14))] (.ag 14)
(.df (.eqr false 14 [(.i .i64), (.i .i64), (.i .i64), (.i .i64), (.i .i64), (.i .i64), (.i .i64), (.i .i64), (.i .i64), (.i .i64), (.i .i64), (.i .i64), (.i .i64), (.i .i64)]) (SX.Y 29 0 14 ++ SX.Z 4 14) .one
(.br 30 []
(.df (.call 29 [.no, .no, .no]) [(.a [(.i 0), (.i 0), (.i 0), (.i 1), (.i 1), (.i 0), (.i 0), (.i 0), (.i 0), (.i 0), (.i 0), (.i 1), (.i 1), (.i 1)]), (.q 3), (.a (SX.Z 4 14))] (.ag 14)
(.df (.call 51 [.no]) [(.a (SX.Y 31 0 14))] .one
(.ret (.q 32) [] [])))
(.ret (.k (.bool false)) [] []))))))))
(.df (.bin .eql 3) [(.q 1), (.i 2)] .one
(.br 27 []
(.df (.bin .eql 3) [(.q 3), (.i 0)] .one
(.br 28 []
(.df (.bin .eql 3) [(.q 4), (.q 2)] .one
(.br 29 []
(.df (.call 51 [.no]) [(.a (SX.Z 4 14))] .one
(.ret (.q 30) [] []))
(.ret (.k (.bool false)) [] [])))
(.ret (.k (.bool false)) [] [])))
(.df (.bin .eql 3) [(.q 1), (.i 3)] .one
(.br 28 []
(.df (.bin .eql 3) [(.q 3), (.i 0)] .one
(.br 29 []
(.df (.eqr false 14 [(.i .i64), (.i .i64), (.i .i64), (.i .i64), (.i .i64), (.i .i64), (.i .i64), (.i .i64), (.i .i64), (.i .i64), (.i .i64), (.i .i64), (.i .i64), (.i .i64)]) (SX.Z 4 14 ++ [(.i 0), (.i 0), (.i 0), (.i 0), (.i 0), (.i 0), (.i 0), (.i 0), (.i 0), (.i 0), (.i 0), (.i 0), (.i 0), (.i 0)]) .one
(.ret (.q 30) [] []))
(.ret (.k (.bool false)) [] [])))
(.ret (.k (.bool false)) [] [])))))))))))))))))))
def args_rvalid : List SX.V := [.a ((List.range 19).map fun j => .x j [])]
set_option maxRecDepth 100000 in
theorem run_rvalid (K A : Value → Nat → List Value → Prop) : (SX.run (cxF1 K A) ⟨fun f => f = 52, [⟨37, 4, [(.s 3, .one)]⟩], 0, 100⟩ 100000 0 (SX.door 37 Try.f37 args_rvalid (List.replicate 19 .one)) [.code (Try.f37.body.getD .skip), .top Try.f37]).strip = tree_rvalid := by kernel_rfl
set_option maxRecDepth 100000 in
set_option maxHeartbeats 4000000 in
theorem rvalid_any (p : Pt) (B : Option Addr) (m d : Nat) (w : World) (hr : Rd w 1 B m (intsL p.needs)) (hm : m ≤ 9223372036854775807) (hc : m ≤ d) : Calls Try.prog 37 #[valP p (.slice B m d)] w fun e w' => e = .returned (.bool (decide (okP p))) ∧ Below w.heap.size w w' := by
  refine SX.calls_of_run (C := cxF1 (fun s sz cells => s = .slice B m d ∧ sz = 1 ∧ cells = intsL p.needs) (fun _ _ _ => False)) (G := ⟨fun f => f = 52, [⟨37, 4, [(.s 3, .one)]⟩], 0, 100⟩) (args := args_rvalid) (sh := (List.replicate 19 .one)) (ρ := (cellsP p (.slice B m d))) 100000 tree_rvalid (okF1 _ _) Try.func37 rfl (run_rvalid _ _) (by kernel_rfl) (by kernel_rfl) (by kernel_rfl) ?_ ?_
  · rintro W hW s sz cells ⟨rfl, rfl, rfl⟩; exact ⟨hr.same0 hW, hc⟩
  have hA := SX.rd_some hr
  have hln : p.needs.length = m := by have := hr.1; rw [intsL_len] at this; omega
  unfold tree_rvalid
  refine SX.D (.bool (decide (p.id < 1))) ?_
  refine SX.B (decide (p.id < 1)) (fun h19 => ?_) (fun h19 => ?_)
  · try simp only [NRM] at h19
    exact SX.F (.bool false) (by congr 1; symm; exact (by rw [decide_eq_false_iff_not]; first | exact needs_no hz (fun hk => by obtain ⟨⟨q1, q2⟩, q3⟩ := hk; first | omega | (have := q3 y (by omega) hy; omega)) | rintro ⟨⟨a1, a2⟩, ⟨a3, a4⟩, a5, (⟨b1, b2, b3, b4, b5⟩ | ⟨b1, b2, b3, b4⟩ | ⟨b1, b2, b3⟩)⟩ <;> first | omega | contradiction | simp_all [zero_set]))
  try simp only [NRM] at h19
  refine SX.D (.bool (decide (p.id > 1048576))) ?_
  refine SX.B (decide (p.id > 1048576)) (fun h20 => ?_) (fun h20 => ?_)
  · try simp only [NRM] at h20
    exact SX.F (.bool false) (by congr 1; symm; exact (by rw [decide_eq_false_iff_not]; first | exact needs_no hz (fun hk => by obtain ⟨⟨q1, q2⟩, q3⟩ := hk; first | omega | (have := q3 y (by omega) hy; omega)) | rintro ⟨⟨a1, a2⟩, ⟨a3, a4⟩, a5, (⟨b1, b2, b3, b4, b5⟩ | ⟨b1, b2, b3, b4⟩ | ⟨b1, b2, b3⟩)⟩ <;> first | omega | contradiction | simp_all [zero_set]))
  try simp only [NRM] at h20
  refine SX.D (.bool (decide (p.sign < 0))) ?_
  refine SX.B (decide (p.sign < 0)) (fun h21 => ?_) (fun h21 => ?_)
  · try simp only [NRM] at h21
    exact SX.F (.bool false) (by congr 1; symm; exact (by rw [decide_eq_false_iff_not]; first | exact needs_no hz (fun hk => by obtain ⟨⟨q1, q2⟩, q3⟩ := hk; first | omega | (have := q3 y (by omega) hy; omega)) | rintro ⟨⟨a1, a2⟩, ⟨a3, a4⟩, a5, (⟨b1, b2, b3, b4, b5⟩ | ⟨b1, b2, b3, b4⟩ | ⟨b1, b2, b3⟩)⟩ <;> first | omega | contradiction | simp_all [zero_set]))
  try simp only [NRM] at h21
  refine SX.D (.bool (decide (p.sign > 1048576))) ?_
  refine SX.B (decide (p.sign > 1048576)) (fun h22 => ?_) (fun h22 => ?_)
  · try simp only [NRM] at h22
    exact SX.F (.bool false) (by congr 1; symm; exact (by rw [decide_eq_false_iff_not]; first | exact needs_no hz (fun hk => by obtain ⟨⟨q1, q2⟩, q3⟩ := hk; first | omega | (have := q3 y (by omega) hy; omega)) | rintro ⟨⟨a1, a2⟩, ⟨a3, a4⟩, a5, (⟨b1, b2, b3, b4, b5⟩ | ⟨b1, b2, b3, b4⟩ | ⟨b1, b2, b3⟩)⟩ <;> first | omega | contradiction | simp_all [zero_set]))
  try simp only [NRM] at h22
  refine SX.VC_loop (fun xs => ∃ i : Nat, xs = [.int .i64 (i : Int)] ∧ i ≤ m ∧ needsTo p i) (fun xs => match xs with | [.int _ i] => m - i.toNat | _ => 0) (fun α => ⟨0, by kernel_rfl, by omega, by simp [needsTo]⟩) ?_
  rintro xs - ⟨i, rfl, him, hnd⟩
  refine SX.D (.int .i64 (((m : Nat) : Int))) ?_
  refine SX.D (.bool (decide (((i : Nat) : Int) < ((m : Nat) : Int)))) ?_
  refine SX.B (decide (((i : Nat) : Int) < ((m : Nat) : Int))) (fun h25 => ?_) (fun h25 => ?_)
  · try simp only [NRM] at h25
    obtain ⟨z, hz⟩ : ∃ z, p.needs[i]? = some z := ⟨_, List.getElem?_eq_getElem (by omega)⟩
    refine SX.E (.bool true) (fun α => SX.extBnd (A := B) (n := m) (c := d) (j := i) hA (by kernel_rfl) (by kernel_rfl) (by omega)) ?_
    refine SX.E (.int .i64 z) (fun α => SX.extElem (o := 0) (v := .int .i64 z) (f := cellsI) (l := p.needs) (A := B) (n := m) (c := d) (j := i) (z := z) (fun _ => rfl) hA (by kernel_rfl) (by kernel_rfl) (by omega) ⟨rfl, rfl, rfl⟩ hz (by decide) (by kernel_rfl)) ?_
    refine SX.D (.bool (decide (z < 1))) ?_
    refine SX.B (decide (z < 1)) (fun h28 => ?_) (fun h28 => ?_)
    · try simp only [NRM] at h28
      exact SX.F (.bool false) (by congr 1; symm; exact (by rw [decide_eq_false_iff_not]; first | exact needs_no hz (fun hk => by obtain ⟨⟨q1, q2⟩, q3⟩ := hk; first | omega | (have := q3 y (by omega) hy; omega)) | rintro ⟨⟨a1, a2⟩, ⟨a3, a4⟩, a5, (⟨b1, b2, b3, b4, b5⟩ | ⟨b1, b2, b3, b4⟩ | ⟨b1, b2, b3⟩)⟩ <;> first | omega | contradiction | simp_all [zero_set]))
    try simp only [NRM] at h28
    refine SX.E (.bool true) (fun α => SX.extBnd (A := B) (n := m) (c := d) (j := i) hA (by kernel_rfl) (by kernel_rfl) (by omega)) ?_
    refine SX.E (.int .i64 z) (fun α => SX.extElem (o := 0) (v := .int .i64 z) (f := cellsI) (l := p.needs) (A := B) (n := m) (c := d) (j := i) (z := z) (fun _ => rfl) hA (by kernel_rfl) (by kernel_rfl) (by omega) ⟨rfl, rfl, rfl⟩ hz (by decide) (by kernel_rfl)) ?_
    refine SX.D (.bool (decide (z ≥ p.id))) ?_
    refine SX.B (decide (z ≥ p.id)) (fun h31 => ?_) (fun h31 => ?_)
    · try simp only [NRM] at h31
      exact SX.F (.bool false) (by congr 1; symm; exact (by rw [decide_eq_false_iff_not]; first | exact needs_no hz (fun hk => by obtain ⟨⟨q1, q2⟩, q3⟩ := hk; first | omega | (have := q3 y (by omega) hy; omega)) | rintro ⟨⟨a1, a2⟩, ⟨a3, a4⟩, a5, (⟨b1, b2, b3, b4, b5⟩ | ⟨b1, b2, b3, b4⟩ | ⟨b1, b2, b3⟩)⟩ <;> first | omega | contradiction | simp_all [zero_set]))
    try simp only [NRM] at h31
    refine SX.D (.bool (decide (((i : Nat) : Int) > 0))) ?_
    refine SX.B (decide (((i : Nat) : Int) > 0)) (fun h32 => ?_) (fun h32 => ?_)
    · try simp only [NRM] at h32
      refine SX.E (.bool true) (fun α => SX.extBnd (A := B) (n := m) (c := d) (j := i) hA (by kernel_rfl) (by kernel_rfl) (by omega)) ?_
      refine SX.E (.int .i64 z) (fun α => SX.extElem (o := 0) (v := .int .i64 z) (f := cellsI) (l := p.needs) (A := B) (n := m) (c := d) (j := i) (z := z) (fun _ => rfl) hA (by kernel_rfl) (by kernel_rfl) (by omega) ⟨rfl, rfl, rfl⟩ hz (by decide) (by kernel_rfl)) ?_
      obtain ⟨y, hy⟩ : ∃ y, p.needs[i - 1]? = some y := ⟨_, List.getElem?_eq_getElem (by omega)⟩
      refine SX.E (.int .i64 (((i - 1 : Nat) : Int))) (fun α => Eq.trans (b := some (.int .i64 (IntKind.i64.wrap ((i : Nat) - 1)))) (by kernel_rfl) (by rw [show ((i - 1 : Nat) : Int) = ((i : Nat) : Int) - 1 by omega, wrap_i64 (by omega) (by omega)])) ?_
      refine SX.E (.bool true) (fun α => SX.extBnd (A := B) (n := m) (c := d) (j := i - 1) hA (by kernel_rfl) (by kernel_rfl) (by omega)) ?_
      refine SX.E (.int .i64 y) (fun α => SX.extElem (o := 0) (v := .int .i64 y) (f := cellsI) (l := p.needs) (A := B) (n := m) (c := d) (j := i - 1) (z := y) (fun _ => rfl) hA (by kernel_rfl) (by kernel_rfl) (by omega) ⟨rfl, rfl, rfl⟩ hy (by decide) (by kernel_rfl)) ?_
      refine SX.D (.bool (decide (z ≤ y))) ?_
      refine SX.B (decide (z ≤ y)) (fun h38 => ?_) (fun h38 => ?_)
      · try simp only [NRM] at h38
        exact SX.F (.bool false) (by congr 1; symm; exact (by rw [decide_eq_false_iff_not]; first | exact needs_no hz (fun hk => by obtain ⟨⟨q1, q2⟩, q3⟩ := hk; first | omega | (have := q3 y (by omega) hy; omega)) | rintro ⟨⟨a1, a2⟩, ⟨a3, a4⟩, a5, (⟨b1, b2, b3, b4, b5⟩ | ⟨b1, b2, b3, b4⟩ | ⟨b1, b2, b3⟩)⟩ <;> first | omega | contradiction | simp_all [zero_set]))
      try simp only [NRM] at h38
      refine SX.E (.int .i64 (((i + 1 : Nat) : Int))) (fun α => SX.W1 i) ?_
      exact SX.VC_again fun α => ⟨⟨i + 1, by kernel_rfl, by omega, (needs_succ hz).2 ⟨hnd, ⟨by omega, by omega⟩, fun y' h0 hy' => by rw [hy] at hy'; cases hy'; omega⟩⟩, cast (by kernel_rfl) (show m - ((i + 1 : Nat) : Int).toNat < m - (i : Int).toNat by omega)⟩
    try simp only [NRM] at h32
    refine SX.E (.int .i64 (((i + 1 : Nat) : Int))) (fun α => SX.W1 i) ?_
    exact SX.VC_again fun α => ⟨⟨i + 1, by kernel_rfl, by omega, (needs_succ hz).2 ⟨hnd, ⟨by omega, by omega⟩, fun y' h0 hy' => absurd h0 (by omega)⟩⟩, cast (by kernel_rfl) (show m - ((i + 1 : Nat) : Int).toNat < m - (i : Int).toNat by omega)⟩
  try simp only [NRM] at h25
  have hN : needsOk p := needs_end hnd (by omega)
  refine SX.D (.bool ((p.kind : Int) == 1)) ?_
  refine SX.B ((p.kind : Int) == 1) (fun h26 => ?_) (fun h26 => ?_)
  · try simp only [NRM] at h26
    refine SX.D (.bool (decide (p.field < 1))) ?_
    refine SX.B (decide (p.field < 1)) (fun h27 => ?_) (fun h27 => ?_)
    · try simp only [NRM] at h27
      exact SX.F (.bool false) (by congr 1; symm; exact (by rw [decide_eq_false_iff_not]; first | exact needs_no hz (fun hk => by obtain ⟨⟨q1, q2⟩, q3⟩ := hk; first | omega | (have := q3 y (by omega) hy; omega)) | rintro ⟨⟨a1, a2⟩, ⟨a3, a4⟩, a5, (⟨b1, b2, b3, b4, b5⟩ | ⟨b1, b2, b3, b4⟩ | ⟨b1, b2, b3⟩)⟩ <;> first | omega | contradiction | simp_all [zero_set]))
    try simp only [NRM] at h27
    refine SX.D (.bool (decide (p.field > 9))) ?_
    refine SX.B (decide (p.field > 9)) (fun h28 => ?_) (fun h28 => ?_)
    · try simp only [NRM] at h28
      exact SX.F (.bool false) (by congr 1; symm; exact (by rw [decide_eq_false_iff_not]; first | exact needs_no hz (fun hk => by obtain ⟨⟨q1, q2⟩, q3⟩ := hk; first | omega | (have := q3 y (by omega) hy; omega)) | rintro ⟨⟨a1, a2⟩, ⟨a3, a4⟩, a5, (⟨b1, b2, b3, b4, b5⟩ | ⟨b1, b2, b3, b4⟩ | ⟨b1, b2, b3⟩)⟩ <;> first | omega | contradiction | simp_all [zero_set]))
    try simp only [NRM] at h28
    refine SX.E (.agg (cellsSg (setF zeroSg p.field p.new)).toArray) (fun α => ⟨[⟨valSg zeroSg, 0, []⟩, ⟨.int .i64 p.field, 0, []⟩, ⟨valSg p.new, 0, []⟩], ⟨by kernel_rfl, by kernel_rfl, by kernel_rfl, by kernel_rfl, by kernel_rfl, by kernel_rfl, trivial⟩, .inr (.inl ⟨rfl, zeroSg, p.new, p.field, rfl, rfl⟩), SX.noAli rfl⟩) ?_
    refine SX.E (.bool (false ^^ decide ((setF zeroSg p.field p.new) = p.new))) (fun α => SX.eqr_rel (f := cellsSg) cellsSg_inj (y := (setF zeroSg p.field p.new)) (z := p.new) (by kernel_rfl) (by kernel_rfl) (by kernel_rfl)) ?_
    refine SX.B (false ^^ decide ((setF zeroSg p.field p.new) = p.new)) (fun h30 => ?_) (fun h30 => ?_)
    · try simp only [NRM] at h30
      refine SX.E (.agg (cellsSg (setF plainR p.field p.new)).toArray) (fun α => ⟨[⟨valSg plainR, 0, []⟩, ⟨.int .i64 p.field, 0, []⟩, ⟨valSg p.new, 0, []⟩], ⟨by kernel_rfl, by kernel_rfl, by kernel_rfl, by kernel_rfl, by kernel_rfl, by kernel_rfl, trivial⟩, .inr (.inl ⟨rfl, plainR, p.new, p.field, rfl, rfl⟩), SX.noAli rfl⟩) ?_
      refine SX.E (.bool (decide ((setF plainR p.field p.new)).ok)) (fun α => ⟨[⟨valSg ((setF plainR p.field p.new)), 0, []⟩], ⟨by kernel_rfl, by kernel_rfl, trivial⟩, .inr (.inr (.inr (⟨rfl, (setF plainR p.field p.new), rfl, rfl⟩))), SX.noAli rfl⟩) ?_
      exact SX.F (.bool (decide ((setF plainR p.field p.new)).ok)) (by congr 1; symm; rw [Bool.eq_iff_iff]; simp only [decide_eq_true_eq, okP_iff, kindOk_iff, plain_ok (y := p.new) (show 1 ≤ p.field by omega) (show p.field ≤ 9 by omega), zero_set (y := p.new) (show 1 ≤ p.field by omega) (show p.field ≤ 9 by omega), h26, h30]; simp; exact ⟨fun hk => hk.2.2.2.2.2, fun hk => ⟨⟨by omega, by omega⟩, ⟨by omega, by omega⟩, hN, by omega, by omega, hk⟩⟩)
    try simp only [NRM] at h30
    exact SX.F (.bool false) (by congr 1; symm; exact (by rw [decide_eq_false_iff_not]; first | exact needs_no hz (fun hk => by obtain ⟨⟨q1, q2⟩, q3⟩ := hk; first | omega | (have := q3 y (by omega) hy; omega)) | rintro ⟨⟨a1, a2⟩, ⟨a3, a4⟩, a5, (⟨b1, b2, b3, b4, b5⟩ | ⟨b1, b2, b3, b4⟩ | ⟨b1, b2, b3⟩)⟩ <;> first | omega | contradiction | simp_all [zero_set]))
  try simp only [NRM] at h26
  refine SX.D (.bool ((p.kind : Int) == 2)) ?_
  refine SX.B ((p.kind : Int) == 2) (fun h27 => ?_) (fun h27 => ?_)
  · try simp only [NRM] at h27
    refine SX.D (.bool ((p.field : Int) == 0)) ?_
    refine SX.B ((p.field : Int) == 0) (fun h28 => ?_) (fun h28 => ?_)
    · try simp only [NRM] at h28
      refine SX.D (.bool ((p.new.id : Int) == p.sign)) ?_
      refine SX.B ((p.new.id : Int) == p.sign) (fun h29 => ?_) (fun h29 => ?_)
      · try simp only [NRM] at h29
        refine SX.E (.bool (decide p.new.ok)) (fun α => ⟨[⟨valSg p.new, 0, []⟩], ⟨by kernel_rfl, by kernel_rfl, trivial⟩, .inr (.inr (.inr (⟨rfl, p.new, rfl, rfl⟩))), SX.noAli rfl⟩) ?_
        exact SX.F (.bool (decide p.new.ok)) (by congr 1; symm; rw [Bool.eq_iff_iff]; simp only [decide_eq_true_eq, okP_iff, kindOk_iff, h27, h28, h29]; simp; exact ⟨fun hk => hk.2.2.2, fun hk => ⟨⟨by omega, by omega⟩, ⟨by omega, by omega⟩, hN, hk⟩⟩)
      try simp only [NRM] at h29
      exact SX.F (.bool false) (by congr 1; symm; exact (by rw [decide_eq_false_iff_not]; first | exact needs_no hz (fun hk => by obtain ⟨⟨q1, q2⟩, q3⟩ := hk; first | omega | (have := q3 y (by omega) hy; omega)) | rintro ⟨⟨a1, a2⟩, ⟨a3, a4⟩, a5, (⟨b1, b2, b3, b4, b5⟩ | ⟨b1, b2, b3, b4⟩ | ⟨b1, b2, b3⟩)⟩ <;> first | omega | contradiction | simp_all [zero_set]))
    try simp only [NRM] at h28
    exact SX.F (.bool false) (by congr 1; symm; exact (by rw [decide_eq_false_iff_not]; first | exact needs_no hz (fun hk => by obtain ⟨⟨q1, q2⟩, q3⟩ := hk; first | omega | (have := q3 y (by omega) hy; omega)) | rintro ⟨⟨a1, a2⟩, ⟨a3, a4⟩, a5, (⟨b1, b2, b3, b4, b5⟩ | ⟨b1, b2, b3, b4⟩ | ⟨b1, b2, b3⟩)⟩ <;> first | omega | contradiction | simp_all [zero_set]))
  try simp only [NRM] at h27
  refine SX.D (.bool ((p.kind : Int) == 3)) ?_
  refine SX.B ((p.kind : Int) == 3) (fun h28 => ?_) (fun h28 => ?_)
  · try simp only [NRM] at h28
    refine SX.D (.bool ((p.field : Int) == 0)) ?_
    refine SX.B ((p.field : Int) == 0) (fun h29 => ?_) (fun h29 => ?_)
    · try simp only [NRM] at h29
      refine SX.E (.bool (false ^^ decide (p.new = zeroSg))) (fun α => SX.eqr_rel (f := cellsSg) cellsSg_inj (y := p.new) (z := zeroSg) (by kernel_rfl) (by kernel_rfl) (by kernel_rfl)) ?_
      exact SX.F (.bool (false ^^ decide (p.new = zeroSg))) (by congr 1; symm; rw [Bool.eq_iff_iff]; simp only [Bool.false_xor, decide_eq_true_eq, okP_iff, kindOk_iff, h28, h29]; simp; exact ⟨fun hk => hk.2.2.2, fun hk => ⟨⟨by omega, by omega⟩, ⟨by omega, by omega⟩, hN, hk⟩⟩)
    try simp only [NRM] at h29
    exact SX.F (.bool false) (by congr 1; symm; exact (by rw [decide_eq_false_iff_not]; first | exact needs_no hz (fun hk => by obtain ⟨⟨q1, q2⟩, q3⟩ := hk; first | omega | (have := q3 y (by omega) hy; omega)) | rintro ⟨⟨a1, a2⟩, ⟨a3, a4⟩, a5, (⟨b1, b2, b3, b4, b5⟩ | ⟨b1, b2, b3, b4⟩ | ⟨b1, b2, b3⟩)⟩ <;> first | omega | contradiction | simp_all [zero_set]))
  try simp only [NRM] at h28
  exact SX.F (.bool false) (by congr 1; symm; exact (by rw [decide_eq_false_iff_not]; first | exact needs_no hz (fun hk => by obtain ⟨⟨q1, q2⟩, q3⟩ := hk; first | omega | (have := q3 y (by omega) hy; omega)) | rintro ⟨⟨a1, a2⟩, ⟨a3, a4⟩, a5, (⟨b1, b2, b3, b4, b5⟩ | ⟨b1, b2, b3, b4⟩ | ⟨b1, b2, b3⟩)⟩ <;> first | omega | contradiction | simp_all [zero_set]))
abbrev Ph := Pt × Option Addr × Nat × Nat
def Ph.h (q : Ph) : Value := .slice q.2.1 q.2.2.1 q.2.2.2
def cellsH (q : Ph) : List Value := cellsP q.1 q.h
def phL (l : List Ph) : List Value := l.flatMap cellsH
theorem phL_len (l : List Ph) : (phL l).length = l.length * 19 := SX.flat_len (f := cellsH) (fun _ => rfl) l
def runL : List Sg → List Pt → List Sg × Int
  | ss, [] => (ss, 0)
  | ss, p :: l => if chkP p = 0 then (if (applyS ss p).2 = 0 then runL (applyS ss p).1 l else ([], (applyS ss p).2)) else ([], chkP p)
def runS (ss : List Sg) (l : List Pt) : List Sg × Int := if chkS ss = 0 then (if 512 < l.length then ([], 2) else runL ss l) else ([], chkS ss)
theorem chkS_ok {ss : List Sg} (h : chkS ss = 0) : okL ss ∧ ss.length ≤ 4096 := by
  unfold chkS at h
  split at h
  · omega
  split at h
  · rename_i h1 h2; exact ⟨h2, by omega⟩
  omega
theorem chkP_ok {p : Pt} (h : chkP p = 0) : okP p := by
  unfold chkP at h
  split at h
  · omega
  split at h
  · assumption
  omega
theorem setF_id {x y : Sg} {f : Int} : (setF x f y).id = x.id := by
  unfold setF; repeat' split
  all_goals rfl
theorem setF_ok {x y : Sg} {f : Int} (h1 : 1 ≤ f) (h9 : f ≤ 9) (hx : x.ok) (hy : (setF plainP f y).ok) : (setF x f y).ok := by
  have hk : f = 1 ∨ f = 2 ∨ f = 3 ∨ f = 4 ∨ f = 5 ∨ f = 6 ∨ f = 7 ∨ f = 8 ∨ f = 9 := by omega
  rw [Sg.ok_iff] at hx hy ⊢
  rcases hk with rfl | rfl | rfl | rfl | rfl | rfl | rfl | rfl | rfl <;> simp [setF, plainP] at hx hy ⊢ <;> simp_all
theorem idx_lo {ss : List Sg} {id : Int} {k : Nat} {z : Sg} (hk : k < idx ss id) (hz : ss[k]? = some z) : z.id < id := by
  have := List.not_of_lt_findIdx hk
  obtain ⟨h1, h2⟩ := List.getElem?_eq_some_iff.1 hz
  rw [h2] at this
  simpa using this
theorem idx_hi {ss : List Sg} {id : Int} (hs : okL ss) {k : Nat} {z : Sg} (hk : idx ss id ≤ k) (hz : ss[k]? = some z) : id ≤ z.id := by
  have hlt := (List.getElem?_eq_some_iff.1 hz).1
  obtain ⟨y, hy⟩ : ∃ y, ss[idx ss id]? = some y := ⟨_, List.getElem?_eq_getElem (by omega)⟩
  have h1 : id ≤ y.id := by
    have := List.findIdx_getElem (w := show ss.findIdx (fun s => decide (id ≤ s.id)) < ss.length from (List.getElem?_eq_some_iff.1 hy).1)
    obtain ⟨h2, h3⟩ := List.getElem?_eq_some_iff.1 hy
    have h4 : decide (id ≤ y.id) = true := by rw [← h3]; exact this
    simpa using h4
  by_cases he : idx ss id = k
  · subst he; rw [hz] at hy; cases hy; exact h1
  · have := srt_lt hs (show idx ss id < k by omega) hy hz; omega
theorem apply_ok {ss : List Sg} {p : Pt} (hs : okL ss) (hl : ss.length ≤ 4096) (hp : okP p) (h0 : (applyS ss p).2 = 0) : okL (applyS ss p).1 ∧ (applyS ss p).1.length ≤ 4096 := by
  obtain ⟨_, _, _, hk⟩ := hp
  rcases hk with ⟨k1, k2, k3, k4, k5⟩ | ⟨k1, k2, k3, k4⟩ | ⟨k1, k2, k3⟩
  · unfold applyS at h0 ⊢
    rw [if_pos k1] at h0 ⊢
    split at h0
    · rename_i ht
      rw [if_pos ht]
      obtain ⟨z, hz⟩ := there_lt ht
      have hlt := (List.getElem?_eq_some_iff.1 hz).1
      have hg : ss.getD (idx ss p.sign) default = z := by simp [List.getD_eq_getElem?_getD, hz]
      rw [hg]
      refine ⟨⟨fun s hm => ?_, ?_⟩, by simpa using hl⟩
      · rcases List.mem_or_eq_of_mem_set hm with h | rfl
        · exact hs.1 s h
        exact setF_ok k2 k3 (hs.1 z (List.mem_of_getElem? hz)) k5
      have hmap : (ss.set (idx ss p.sign) (setF z p.field p.new)).map (·.id) = ss.map (·.id) := by
        rw [List.map_set, setF_id]
        apply List.ext_getElem?
        intro j
        rw [List.getElem?_set]
        split
        · rename_i e
          subst e
          simp [hlt, (List.getElem?_eq_some_iff.1 hz).2]
        rfl
      have h1 : (ss.map (·.id)).Pairwise (· < ·) := List.pairwise_map.2 hs.2
      rw [← hmap] at h1
      exact List.pairwise_map.1 h1
    simp at h0
  · have e1 : ¬ p.kind = 1 := by omega
    unfold applyS at h0 ⊢
    rw [if_neg e1, if_pos k1] at h0 ⊢
    split at h0
    · simp at h0
    rename_i ht
    rw [if_neg ht]
    split at h0
    · simp at h0
    rename_i h4
    rw [if_neg h4]
    have hin := idx_le ss p.sign
    refine ⟨⟨fun s hm => ?_, ?_⟩, by simp; omega⟩
    · rcases List.mem_append.1 hm with h | h
      · exact hs.1 s (List.mem_of_mem_take h)
      rcases List.mem_cons.1 h with rfl | h
      · exact k4
      exact hs.1 s (List.mem_of_mem_drop h)
    refine List.pairwise_append.2 ⟨hs.2.sublist (List.take_sublist _ _), List.pairwise_cons.2 ⟨fun b hb => ?_, hs.2.sublist (List.drop_sublist _ _)⟩, fun a ha b hb => ?_⟩
    · obtain ⟨j, hj⟩ := List.mem_iff_getElem?.1 hb
      rw [List.getElem?_drop] at hj
      have h5 := idx_hi (id := p.sign) hs (show idx ss p.sign ≤ idx ss p.sign + j by omega) hj
      rw [k3]
      by_cases he : b.id = p.sign
      · exfalso
        have hj0 : j = 0 := by
          rcases Nat.eq_zero_or_pos j with h | h
          · exact h
          obtain ⟨y, hy⟩ : ∃ y, ss[idx ss p.sign]? = some y := ⟨_, List.getElem?_eq_getElem (by have := (List.getElem?_eq_some_iff.1 hj).1; omega)⟩
          have h6 := idx_hi (id := p.sign) hs (Nat.le_refl _) hy
          have := srt_lt hs (show idx ss p.sign < idx ss p.sign + j by omega) hy hj
          omega
        subst hj0
        exact ht (by rw [there_at rfl (by simpa using hj)]; simpa using he)
      omega
    obtain ⟨k, hk⟩ := List.mem_iff_getElem?.1 ha
    rw [List.getElem?_take] at hk
    split at hk
    · rename_i hlt
      have h5 := idx_lo hlt hk
      rcases List.mem_cons.1 hb with rfl | hb
      · rw [k3]; exact h5
      obtain ⟨j, hj⟩ := List.mem_iff_getElem?.1 hb
      rw [List.getElem?_drop] at hj
      have := idx_hi (id := p.sign) hs (show idx ss p.sign ≤ idx ss p.sign + j by omega) hj
      omega
    cases hk
  have e1 : ¬ p.kind = 1 := by omega
  have e2 : ¬ p.kind = 2 := by omega
  unfold applyS
  rw [if_neg e1, if_neg e2]
  split
  · have hsub : List.Sublist (ss.take (idx ss p.sign) ++ ss.drop (idx ss p.sign + 1)) ss := by
      have h1 : List.Sublist (ss.drop (idx ss p.sign + 1)) (ss.drop (idx ss p.sign)) := by
        rw [← List.drop_drop]; exact List.drop_sublist _ _
      have := (List.Sublist.refl (ss.take (idx ss p.sign))).append h1
      rwa [List.take_append_drop] at this
    exact ⟨⟨fun s hm => hs.1 s (hsub.subset hm), hs.2.sublist hsub⟩, Nat.le_trans hsub.length_le hl⟩
  exact ⟨hs, hl⟩
def RG0 (K : Value → Nat → List Value → Prop) (f : FuncId) (xs : List SX.Arg) (v : Value) : Prop :=
  (f = 37 ∧ ∃ (p : Pt) (B : Option Addr) (m d : Nat), xs = [⟨valP p (.slice B m d), 0, []⟩] ∧ K (.slice B m d) 1 (intsL p.needs) ∧ p.needs.length ≤ 9223372036854775807 ∧ v = .bool (decide (okP p)))
def shpG0 : FuncId → Option SX.Sh := fun f => if f = 37 then some .one else none
noncomputable def cxG0 (K A : Value → Nat → List Value → Prop) : SX.Cx := { P := Try.prog, R := RG0, shp := shpG0, K := K, A := A }
theorem okG0 (K A : Value → Nat → List Value → Prop) : (cxG0 K A).Ok := by
  refine SX.Cx.ok_of (fun _ => rfl) ?_
  intro K f xs v W hR hrd hKf
  rcases hR with ⟨rfl, p, B, m, d, rfl, hK, hl, rfl⟩
  have hR := hKf _ _ _ hK
  have hm : m ≤ 9223372036854775807 := by have := hR.1.1; simp only [intsL_len] at this; omega
  exact (rvalid_any p B m d W hR.1 hm hR.2).mono fun e w' h => SX.plainOk rfl h
def tree_rcheckP : SX.Tree :=
(.df (.len false) [(.q 18)] .one
(.df (.bin .gtr 3) [(.q 19), (.i 32)] .one
(.br 20 []
(.ret (.i 2) [] [])
(.df (.call 37 [.no]) [(.a (SX.Z 0 19))] .one
(.df .not [(.q 21)] .one
(.br 22 []
(.ret (.i 370) [] [])
(.ret (.i 0) [] [])))))))
def args_rcheckP : List SX.V := [.a ((List.range 19).map fun j => .x j [])]
set_option maxRecDepth 100000 in
theorem run_rcheckP (K A : Value → Nat → List Value → Prop) : (SX.run (cxG0 K A) ⟨fun _ => false, [], 0, 100⟩ 100000 0 (SX.door 15 Try.f15 args_rcheckP (List.replicate 19 .one)) [.code (Try.f15.body.getD .skip), .top Try.f15]).strip = tree_rcheckP := by kernel_rfl
set_option maxRecDepth 100000 in
set_option maxHeartbeats 4000000 in
theorem rcheckP_any (p : Pt) (B : Option Addr) (m d : Nat) (w : World) (hr : Rd w 1 B m (intsL p.needs)) (hm : m ≤ 9223372036854775807) (hc : m ≤ d) : Calls Try.prog 15 #[valP p (.slice B m d)] w fun e w' => e = .returned (.int .i64 (chkP p)) ∧ Below w.heap.size w w' := by
  refine SX.calls_of_run (C := cxG0 (fun s sz cells => s = .slice B m d ∧ sz = 1 ∧ cells = intsL p.needs) (fun _ _ _ => False)) (G := ⟨fun _ => false, [], 0, 100⟩) (args := args_rcheckP) (sh := (List.replicate 19 .one)) (ρ := (cellsP p (.slice B m d))) 100000 tree_rcheckP (okG0 _ _) Try.func15 rfl (run_rcheckP _ _) (by kernel_rfl) (by kernel_rfl) (by kernel_rfl) ?_ ?_
  · rintro W hW s sz cells ⟨rfl, rfl, rfl⟩; exact ⟨hr.same0 hW, hc⟩
  have hln : p.needs.length = m := by have := hr.1; rw [intsL_len] at this; omega
  unfold tree_rcheckP
  refine SX.D (.int .i64 (((m : Nat) : Int))) ?_
  refine SX.D (.bool (decide (((m : Nat) : Int) > 32))) ?_
  refine SX.B (decide (((m : Nat) : Int) > 32)) (fun h20 => ?_) (fun h20 => ?_)
  · try simp only [NRM] at h20
    exact SX.F (.int .i64 2) (by first | (rw [chkP, if_pos (by omega)]) | (rw [chkP, if_neg (by omega), if_neg h22]) | (rw [chkP, if_neg (by omega), if_pos h22]))
  try simp only [NRM] at h20
  refine SX.E (.bool (decide (okP p))) (fun α => ⟨[⟨valP p (.slice B m d), 0, []⟩], ⟨by kernel_rfl, by kernel_rfl, trivial⟩, ⟨rfl, p, B, m, d, rfl, ⟨rfl, rfl, rfl⟩, by omega, rfl⟩, SX.noAli rfl⟩) ?_
  refine SX.D (.bool (!(decide (okP p)))) ?_
  refine SX.B (!(decide (okP p))) (fun h22 => ?_) (fun h22 => ?_)
  · try simp only [NRM] at h22
    exact SX.F (.int .i64 370) (by first | (rw [chkP, if_pos (by omega)]) | (rw [chkP, if_neg (by omega), if_neg h22]) | (rw [chkP, if_neg (by omega), if_pos h22]))
  try simp only [NRM] at h22
  exact SX.F (.int .i64 0) (by first | (rw [chkP, if_pos (by omega)]) | (rw [chkP, if_neg (by omega), if_neg h22]) | (rw [chkP, if_neg (by omega), if_pos h22]))
def RG1 (K : Value → Nat → List Value → Prop) (f : FuncId) (xs : List SX.Arg) (v : Value) : Prop :=
  (f = 27 ∧ ∃ (u : Value) (ss : List Sg), xs = [⟨u, 14, sgsL ss⟩] ∧ ss.length ≤ 9223372036854775807 ∧ v = .int .i64 (chkS ss)) ∨
  (f = 33 ∧ ∃ (u : Value) (ss : List Sg), xs = [⟨u, 14, sgsL ss⟩] ∧ ss.length ≤ 9223372036854775807 ∧ v = .int .i64 (chkS ss)) ∨
  (f = 14 ∧ ∃ (p : Pt) (B : Option Addr) (m d : Nat), xs = [⟨valP p (.slice B m d), 0, []⟩] ∧ K (.slice B m d) 1 (intsL p.needs) ∧ p.needs.length ≤ 9223372036854775807 ∧ v = .int .i64 (chkP p)) ∨
  (f = 15 ∧ ∃ (p : Pt) (B : Option Addr) (m d : Nat), xs = [⟨valP p (.slice B m d), 0, []⟩] ∧ K (.slice B m d) 1 (intsL p.needs) ∧ p.needs.length ≤ 9223372036854775807 ∧ v = .int .i64 (chkP p)) ∨
  (f = 38 ∧ ∃ (u : Value) (ss : List Sg) (p : Pt) (B : Option Addr) (m d : Nat), xs = [⟨u, 14, sgsL ss⟩, ⟨valP p (.slice B m d), 0, []⟩] ∧ okL ss ∧ ss.length ≤ 4096 ∧ okP p ∧ v = .tuple #[.agg (sgsL (applyS ss p).1).toArray, .int .i64 (applyS ss p).2]) ∨
  (f = 34 ∧ ∃ (u : Value) (ss : List Sg) (p : Pt) (B : Option Addr) (m d : Nat), xs = [⟨u, 14, sgsL ss⟩, ⟨valP p (.slice B m d), 0, []⟩] ∧ okL ss ∧ ss.length ≤ 4096 ∧ okP p ∧ v = .tuple #[.agg (sgsL (applyS ss p).1).toArray, .int .i64 (applyS ss p).2])
def shpG1 : FuncId → Option SX.Sh := fun f => if f = 27 then some .one else if f = 33 then some .one else if f = 14 then some .one else if f = 15 then some .one else if f = 38 then some (.tp [.sl 14, .one]) else if f = 34 then some (.tp [.sl 14, .one]) else none
noncomputable def cxG1 (K A : Value → Nat → List Value → Prop) : SX.Cx := { P := Try.prog, R := RG1, shp := shpG1, K := K, A := A, ali := fun f => if f = 38 then [0] else if f = 34 then [0] else [] }
theorem okG1 (K A : Value → Nat → List Value → Prop) : (cxG1 K A).Ok := by
  refine SX.Cx.ok_of (fun _ => rfl) ?_
  intro K f xs v W hR hrd hKf
  rcases hR with ⟨rfl, u, ss, rfl, hl, rfl⟩ | ⟨rfl, u, ss, rfl, hl, rfl⟩ | ⟨rfl, p, B, m, d, rfl, hK, hl, rfl⟩ | ⟨rfl, p, B, m, d, rfl, hK, hl, rfl⟩ | ⟨rfl, u, ss, p, B, m, d, rfl, hs, hl, hp, rfl⟩ | ⟨rfl, u, ss, p, B, m, d, rfl, hs, hl, hp, rfl⟩
  · obtain ⟨A, n, c, rfl, h2, h3, h4⟩ := sgs_arg (hrd ⟨u, 14, sgsL ss⟩ (by simp))
    exact (echeck_any ss A n c W h2 (by omega) h3).mono fun e w' h => SX.plainOk rfl h
  · obtain ⟨A, n, c, rfl, h2, h3, h4⟩ := sgs_arg (hrd ⟨u, 14, sgsL ss⟩ (by simp))
    exact (rcheckL_any ss A n c W h2 (by omega) h3).mono fun e w' h => SX.plainOk rfl h
  · have hR := hKf _ _ _ hK
    have hm : m ≤ 9223372036854775807 := by have := hR.1.1; simp only [intsL_len] at this; omega
    exact (pcheck_any p B m d W hR.1 hm hR.2).mono fun e w' h => SX.plainOk rfl h
  · have hR := hKf _ _ _ hK
    have hm : m ≤ 9223372036854775807 := by have := hR.1.1; simp only [intsL_len] at this; omega
    exact (rcheckP_any p B m d W hR.1 hm hR.2).mono fun e w' h => SX.plainOk rfl h
  · refine Calls.mono ?_ fun e w' h => SX.SlRet.ok rfl rfl h
    obtain ⟨A, n, c, rfl, h2, h3, h4⟩ := sgs_arg (hrd ⟨u, 14, sgsL ss⟩ (by simp))
    obtain ⟨pid, pk, psg, pf, pn, pnd⟩ := p
    obtain ⟨_, ⟨g1, g2⟩, _, hk⟩ := id hp
    rcases hk with ⟨rfl, k2, k3, k4, k5⟩ | ⟨rfl, _⟩ | ⟨rfl, _⟩
    · exact ap1_any ss A n c pid psg pf pn pnd B m d W h2 (by omega) h3 hs g1 g2 ⟨k2, k3⟩
    · exact ap2_any ss A n c pid psg pf pn pnd B m d W h2 (by omega) h3 hs g1 g2
    exact ap3_any ss A n c pid psg pf pn pnd B m d W h2 (by omega) h3 hs g1 g2
  refine Calls.mono ?_ fun e w' h => SX.SlRet.ok rfl rfl h
  obtain ⟨A, n, c, rfl, h2, h3, h4⟩ := sgs_arg (hrd ⟨u, 14, sgsL ss⟩ (by simp))
  obtain ⟨pid, pk, psg, pf, pn, pnd⟩ := p
  obtain ⟨_, ⟨g1, g2⟩, _, hk⟩ := id hp
  rcases hk with ⟨rfl, k2, k3, k4, k5⟩ | ⟨rfl, _⟩ | ⟨rfl, _⟩
  · exact ra1_any ss A n c pid psg pf pn pnd B m d W h2 (by omega) h3
  · exact ra2_any ss A n c pid psg pf pn pnd B m d W h2 (by omega) h3
  exact ra3_any ss A n c pid psg pf pn pnd B m d W h2 (by omega) h3
theorem sgs_fit (l : List Sg) (k : Int) : SX.Sh.fit (.tp [.sl 14, .one]) (.tuple #[.agg (sgsL l).toArray, .int .i64 k]) = true := by
  have h1 : (sgsL l).length % 14 = 0 := by rw [sgsL_len]; omega
  have h2 : (sgsL l).all (·.oneCell') = true := by
    rw [List.all_eq_true]
    intro u hu
    obtain ⟨a, _, h⟩ := List.mem_flatMap.1 hu
    exact cellsSg_one a u h
  simp only [SX.Sh.fit, SX.Sh.fitL, h1, h2]
  rfl
def runK (A : Option Addr) (n c : Nat) (ss : List Sg) (A' : Option Addr) (n' c' : Nat) (pl : List Ph) (s : Value) (sz : Nat) (cells : List Value) : Prop :=
  (s = .slice A n c ∧ sz = 14 ∧ cells = sgsL ss) ∨ (s = .slice A' n' c' ∧ sz = 19 ∧ cells = phL pl) ∨ ∃ q ∈ pl, s = q.h ∧ sz = 1 ∧ cells = intsL q.1.needs
def runA (A : Option Addr) (n c : Nat) (ss : List Sg) (s : Value) (sz : Nat) (cells : List Value) : Prop := s = .slice A n c ∧ sz = 14 ∧ cells = sgsL ss
def NeedsIn (w : World) (pl : List Ph) : Prop := ∀ q ∈ pl, Rd w 1 q.2.1 q.2.2.1 (intsL q.1.needs) ∧ q.2.2.1 ≤ q.2.2.2 ∧ q.2.2.1 ≤ 9223372036854775807
def tree_run : SX.Tree :=
(.df (.call 27 [(.ext 14)]) [(.q 0)] .one
(.df (.bin .neq 32) [(.q 2), (.i 0)] .one
(.br 3 []
(.ret (.t [(.k (.slice none 0 0)), (.q 2)]) [] [])
(.df (.len false) [(.q 1)] .one
(.df (.bin .gtr 3) [(.q 4), (.i 512)] .one
(.br 5 []
(.ret (.t [(.k (.slice none 0 0)), (.i 2)]) [] [])
(.df (.len false) [(.q 1)] .one
(.df (.kext 14) [(.q 0)] .any
(.loop [(.i 0), (.cat [(.q 7)])] [.one, .any]
(.df (.bin .lss 3) [(.q 8), (.q 6)] .one
(.br 10 []
(.df .bnd [(.q 1), (.q 8)] .one
(.df (.elems 19 0 19) [(.q 1), (.q 8)] (.ag 19)
(.df (.call 14 [.no]) [(.a (SX.Y 12 0 19))] .one
(.df (.bin .neq 32) [(.q 13), (.i 0)] .one
(.br 14 []
(.ret (.t [(.k (.slice none 0 0)), (.q 13)]) [none, none, none, none] [])
(.df (.call 38 [(.row 14 [(.q 9)]), .no]) [(.row 2), (.a (SX.Y 12 0 19))] (.tp [(.sl 14), .one])
(.df (.bin .neq 32) [(.x 15 [1]), (.i 0)] .one
(.br 16 []
(.ret (.t [(.k (.slice none 0 0)), (.x 15 [1])]) [none, none, none, none, none] [])
(.df (.bin .add 3) [(.q 8), (.i 1)] .one
(.again 0 [(.q 17), (.cat [(.x 15 [0])])]))))))))))
(.ret (.t [(.row 2), (.i 0)]) [none, none, (some ⟨[(.q 9)], 0, (.ext 14)⟩)] []))))))))))))
def args_run : List SX.V := [.x 0 [], .x 1 []]
set_option maxRecDepth 100000 in
theorem run_run (K A : Value → Nat → List Value → Prop) : (SX.run (cxG1 K A) ⟨fun _ => false, [⟨18, 8, [(.s 19, .one), (.s 4, .ext 14)]⟩], 2, 100⟩ 100000 0 (SX.door 18 Try.f18 args_run [.one, .one]) [.code (Try.f18.body.getD .skip), .top Try.f18]).strip = tree_run := by kernel_rfl
set_option maxRecDepth 100000 in
set_option maxHeartbeats 4000000 in
theorem run_any (ss : List Sg) (A : Option Addr) (n c : Nat) (pl : List Ph) (A' : Option Addr) (n' c' : Nat) (w : World) (hr : Rd w 14 A n (sgsL ss)) (hn : n ≤ 9223372036854775807) (hc : n ≤ c) (hr' : Rd w 19 A' n' (phL pl)) (hn' : n' ≤ 9223372036854775807) (hc' : n' ≤ c') (hq : NeedsIn w pl) : Calls Try.prog 18 #[.slice A n c, .slice A' n' c'] w fun e w' => Below w.heap.size w w' ∧ ∃ hdr, e = .returned (.tuple #[hdr, .int .i64 (runS ss (pl.map (·.1))).2]) ∧ SX.SlRet w w' [⟨.slice A n c, 14, sgsL ss⟩] hdr 14 (sgsL (runS ss (pl.map (·.1))).1) := by
  refine SX.calls_of_run (C := cxG1 (runK A n c ss A' n' c' pl) (runA A n c ss)) (G := ⟨fun _ => false, [⟨18, 8, [(.s 19, .one), (.s 4, .ext 14)]⟩], 2, 100⟩) (args := args_run) (sh := [.one, .one]) (ρ := [.slice A n c, .slice A' n' c']) 100000 tree_run (okG1 _ _) Try.func18 rfl (run_run _ _) (by kernel_rfl) (by kernel_rfl) (by kernel_rfl) ?_ ?_
  · rintro W hW s sz cells (⟨rfl, rfl, rfl⟩ | ⟨rfl, rfl, rfl⟩ | ⟨q, hq1, rfl, rfl, rfl⟩)
    · exact ⟨hr.same0 hW, hc⟩
    · exact ⟨hr'.same0 hW, hc'⟩
    exact ⟨(hq q hq1).1.same0 hW, (hq q hq1).2.1⟩
  have hA' := SX.rd_some hr'
  have hln : ss.length = n := by have := hr.1; rw [sgsL_len] at this; omega
  have hln' : pl.length = n' := by have := hr'.1; rw [phL_len] at this; omega
  have hpn : (pl.map (·.1)).length = n' := by simp [hln']
  generalize hps : pl.map (·.1) = ps at *
  have k1 : runK A n c ss A' n' c' pl (.slice A n c) 14 (sgsL ss) := .inl ⟨rfl, rfl, rfl⟩
  have k2 : runK A n c ss A' n' c' pl (.slice A' n' c') 19 (phL pl) := .inr (.inl ⟨rfl, rfl, rfl⟩)
  have a1 : runA A n c ss (.slice A n c) 14 (sgsL ss) := ⟨rfl, rfl, rfl⟩
  unfold tree_run
  refine SX.E (.int .i64 ((chkS ss))) (fun α => ⟨[⟨.slice A n c, 14, sgsL ss⟩], ⟨by kernel_rfl, rfl, cast (by kernel_rfl) k1, trivial⟩, .inl ⟨rfl, .slice A n c, ss, rfl, by omega, rfl⟩, SX.noAli rfl⟩) ?_
  refine SX.D (.bool (((chkS ss) : Int) != 0)) ?_
  refine SX.B (((chkS ss) : Int) != 0) (fun h3 => ?_) (fun h3 => ?_)
  · try simp only [NRM] at h3
    have hfact : runS ss ps = ([], chkS ss) := by rw [runS, if_neg h3]
    exact SX.VC_ret fun α W _ hR hS => ⟨hS.below, (.slice none 0 0), Eq.trans (b := Ending.returned (.tuple #[(.slice none 0 0), .int .i64 ((chkS ss))])) (by kernel_rfl) (by rw [hfact]), (by rw [hfact]; exact SX.SlRet.nil)⟩
  try simp only [NRM] at h3
  refine SX.D (.int .i64 (((n' : Nat) : Int))) ?_
  refine SX.D (.bool (decide (((n' : Nat) : Int) > 512))) ?_
  refine SX.B (decide (((n' : Nat) : Int) > 512)) (fun h5 => ?_) (fun h5 => ?_)
  · try simp only [NRM] at h5
    have hfact : runS ss ps = ([], 2) := by rw [runS, if_pos h3, if_pos (by omega)]
    exact SX.VC_ret fun α W _ hR hS => ⟨hS.below, (.slice none 0 0), Eq.trans (b := Ending.returned (.tuple #[(.slice none 0 0), .int .i64 2])) (by kernel_rfl) (by rw [hfact]), (by rw [hfact]; exact SX.SlRet.nil)⟩
  try simp only [NRM] at h5
  refine SX.D (.int .i64 (((n' : Nat) : Int))) ?_
  refine SX.E (Value.agg (sgsL ss).toArray) (fun α => ⟨sgsL ss, ⟨A, n, c, by kernel_rfl, hc⟩, cast (by kernel_rfl) k1, cast (by kernel_rfl) a1, rfl⟩) ?_
  refine SX.VC_loop (fun xs => ∃ (i : Nat) (cur : List Sg), xs = [.int .i64 (i : Int), .agg (sgsL cur).toArray] ∧ i ≤ n' ∧ runL ss ps = runL cur (ps.drop i) ∧ okL cur ∧ cur.length ≤ 4096) (fun xs => match xs with | [.int _ i, _] => n' - i.toNat | _ => 0) (fun α => ⟨0, ss, Eq.trans (b := [.int .i64 0, .agg ([Value.agg (sgsL ss).toArray].flatMap SX.cellsV).toArray]) (by kernel_rfl) (by simp [SX.cellsV]), by omega, by simp, (chkS_ok h3).1, (chkS_ok h3).2⟩) ?_
  rintro xs - ⟨i, cur, rfl, hin, hrun, hok, hcl⟩
  refine SX.D (.bool (decide (((i : Nat) : Int) < ((n' : Nat) : Int)))) ?_
  refine SX.B (decide (((i : Nat) : Int) < ((n' : Nat) : Int))) (fun h10 => ?_) (fun h10 => ?_)
  · try simp only [NRM] at h10
    obtain ⟨z, hz⟩ : ∃ z, pl[i]? = some z := ⟨_, List.getElem?_eq_getElem (by omega)⟩
    have hzm : z ∈ pl := List.mem_of_getElem? hz
    have hdr : ps.drop i = z.1 :: ps.drop (i + 1) := by
      have hpz : ps[i]? = some z.1 := by rw [← hps, List.getElem?_map, hz]; rfl
      rw [List.drop_eq_getElem_cons (List.getElem?_eq_some_iff.1 hpz).1, (List.getElem?_eq_some_iff.1 hpz).2]
    have k3 : runK A n c ss A' n' c' pl (.slice z.2.1 z.2.2.1 z.2.2.2) 1 (intsL z.1.needs) := .inr (.inr ⟨z, hzm, rfl, rfl, rfl⟩)
    have hzl : z.1.needs.length ≤ 9223372036854775807 := by have h9 := hq z hzm; have := h9.1.1; simp only [intsL_len] at this; omega
    refine SX.E (.bool true) (fun α => SX.extBnd (A := A') (n := n') (c := c') (j := i) hA' (by kernel_rfl) (by kernel_rfl) (by omega)) ?_
    refine SX.E (.agg (cellsH z).toArray) (fun α => SX.extElems (f := cellsH) (l := pl) (A := A') (n := n') (c := c') (j := i) (z := z) (fun _ => rfl) hA' (by kernel_rfl) (by kernel_rfl) (by omega) (cast (by kernel_rfl) k2) hz) ?_
    refine SX.E (.int .i64 ((chkP z.1))) (fun α => ⟨[⟨valP z.1 z.h, 0, []⟩], ⟨by kernel_rfl, by kernel_rfl, trivial⟩, .inr (.inr (.inl ⟨rfl, z.1, z.2.1, z.2.2.1, z.2.2.2, rfl, k3, hzl, rfl⟩)), SX.noAli rfl⟩) ?_
    refine SX.D (.bool (((chkP z.1) : Int) != 0)) ?_
    refine SX.B (((chkP z.1) : Int) != 0) (fun h14 => ?_) (fun h14 => ?_)
    · try simp only [NRM] at h14
      have hfact : runS ss ps = ([], chkP z.1) := by rw [runS, if_pos h3, if_neg (by omega), hrun, hdr, runL, if_neg h14]
      exact SX.VC_ret fun α W _ hR hS => ⟨hS.below, (.slice none 0 0), Eq.trans (b := Ending.returned (.tuple #[(.slice none 0 0), .int .i64 ((chkP z.1))])) (by kernel_rfl) (by rw [hfact]), (by rw [hfact]; exact SX.SlRet.nil)⟩
    try simp only [NRM] at h14
    refine SX.VC_df (.tuple #[Value.agg (sgsL (applyS cur z.1).1).toArray, .int .i64 ((applyS cur z.1).2)]) (fun α => ⟨[⟨(α 2).h, 14, sgsL cur⟩, ⟨valP z.1 z.h, 0, []⟩], ⟨Eq.trans (b := (⟨(α 2).h, 14, [Value.agg (sgsL cur).toArray].flatMap SX.cellsV⟩ : SX.Arg)) (by simp [SX.cellsV]) (by kernel_rfl), by kernel_rfl, by kernel_rfl, trivial⟩, .inr (.inr (.inr (.inr (.inl ⟨rfl, _, cur, z.1, z.2.1, z.2.2.1, z.2.2.2, rfl, hok, hcl, chkP_ok h14, rfl⟩)))), fun j hj x sz _ h => by rcases j with _ | _ | j <;> simp at h⟩) (sgs_fit _ _) ?_
    refine SX.D (.bool (((applyS cur z.1).2 : Int) != 0)) ?_
    refine SX.B (((applyS cur z.1).2 : Int) != 0) (fun h16 => ?_) (fun h16 => ?_)
    · try simp only [NRM] at h16
      have hfact : runS ss ps = ([], (applyS cur z.1).2) := by rw [runS, if_pos h3, if_neg (by omega), hrun, hdr, runL, if_pos h14, if_neg h16]
      exact SX.VC_ret fun α W _ hR hS => ⟨hS.below, (.slice none 0 0), Eq.trans (b := Ending.returned (.tuple #[(.slice none 0 0), .int .i64 ((applyS cur z.1).2)])) (by kernel_rfl) (by rw [hfact]), (by rw [hfact]; exact SX.SlRet.nil)⟩
    try simp only [NRM] at h16
    refine SX.E (.int .i64 (((i + 1 : Nat) : Int))) (fun α => SX.W1 i) ?_
    exact SX.VC_again fun α => ⟨⟨i + 1, (applyS cur z.1).1, Eq.trans (b := [.int .i64 ((i + 1 : Nat) : Int), .agg ([Value.agg (sgsL (applyS cur z.1).1).toArray].flatMap SX.cellsV).toArray]) (by kernel_rfl) (by simp [SX.cellsV]), by omega, by rw [hrun, hdr, runL, if_pos h14, if_pos h16], (apply_ok hok hcl (chkP_ok h14) h16).1, (apply_ok hok hcl (chkP_ok h14) h16).2⟩, cast (by kernel_rfl) (show n' - ((i + 1 : Nat) : Int).toNat < n' - (i : Int).toNat by omega)⟩
  try simp only [NRM] at h10
  have hfact : runS ss ps = (cur, 0) := by rw [runS, if_pos h3, if_neg (by omega), hrun, List.drop_of_length_le (by omega), runL]
  exact SX.VC_ret fun α W _ hR hS => ⟨hS.below, (α 2).h, Eq.trans (b := Ending.returned (.tuple #[(α 2).h, .int .i64 0])) (by kernel_rfl) (by rw [hfact]), SX.SlRet.ext hS (n := 2) (b := (⟨[(.x 9 [])], 0, (.ext 14)⟩ : SX.Blk)) (by kernel_rfl) rfl (hR 2 _ (by kernel_rfl)) (Eq.trans (b := [Value.agg (sgsL cur).toArray].flatMap SX.cellsV) (by kernel_rfl) (by rw [hfact]; simp [SX.cellsV])) (x := ⟨.slice A n c, 14, sgsL ss⟩) (by simp) (fun W2 h s z xs hk => by obtain ⟨rfl, rfl, rfl⟩ := hk; exact h) (fun B h s z xs hk => by obtain ⟨rfl, rfl, rfl⟩ := hk; exact h)⟩
def tree_rrun : SX.Tree :=
(.df (.call 33 [(.ext 14)]) [(.q 0)] .one
(.df (.bin .neq 32) [(.q 2), (.i 0)] .one
(.br 3 []
(.ret (.t [(.k (.slice none 0 0)), (.q 2)]) [] [])
(.df (.len false) [(.q 1)] .one
(.df (.bin .gtr 3) [(.q 4), (.i 512)] .one
(.br 5 []
(.ret (.t [(.k (.slice none 0 0)), (.i 2)]) [] [])
(.df (.kext 14) [(.q 0)] .any
(.loop [(.i 0), (.cat [(.q 6)])] [.one, .any]
(.df (.len false) [(.q 1)] .one
(.df (.bin .lss 3) [(.q 7), (.q 9)] .one
(.br 10 []
(.df .bnd [(.q 1), (.q 7)] .one
(.df (.elems 19 0 19) [(.q 1), (.q 7)] (.ag 19)
(.df (.call 15 [.no]) [(.a (SX.Y 12 0 19))] .one
(.df (.bin .neq 32) [(.q 13), (.i 0)] .one
(.br 14 []
(.ret (.t [(.k (.slice none 0 0)), (.q 13)]) [none, none, none] [])
(.df .bnd [(.q 1), (.q 7)] .one
(.df (.elems 19 0 19) [(.q 1), (.q 7)] (.ag 19)
(.df (.call 34 [(.row 14 [(.q 8)]), .no]) [(.row 2), (.a (SX.Y 16 0 19))] (.tp [(.sl 14), .one])
(.df (.bin .neq 32) [(.x 17 [1]), (.i 0)] .one
(.br 18 []
(.ret (.t [(.k (.slice none 0 0)), (.x 17 [1])]) [none, none, none, none] [])
(.df (.bin .add 3) [(.q 7), (.i 1)] .one
(.again 0 [(.q 19), (.cat [(.x 17 [0])])]))))))))))))
(.ret (.t [(.row 2), (.i 0)]) [none, none, (some ⟨[(.q 8)], 0, (.ext 14)⟩)] []))))))))))))
def args_rrun : List SX.V := [.x 0 [], .x 1 []]
set_option maxRecDepth 100000 in
theorem run_rrun (K A : Value → Nat → List Value → Prop) : (SX.run (cxG1 K A) ⟨fun _ => false, [⟨19, 7, [(.s 7, .one), (.s 0, .ext 14)]⟩], 2, 100⟩ 100000 0 (SX.door 19 Try.f19 args_rrun [.one, .one]) [.code (Try.f19.body.getD .skip), .top Try.f19]).strip = tree_rrun := by kernel_rfl
set_option maxRecDepth 100000 in
set_option maxHeartbeats 4000000 in
theorem rrun_any (ss : List Sg) (A : Option Addr) (n c : Nat) (pl : List Ph) (A' : Option Addr) (n' c' : Nat) (w : World) (hr : Rd w 14 A n (sgsL ss)) (hn : n ≤ 9223372036854775807) (hc : n ≤ c) (hr' : Rd w 19 A' n' (phL pl)) (hn' : n' ≤ 9223372036854775807) (hc' : n' ≤ c') (hq : NeedsIn w pl) : Calls Try.prog 19 #[.slice A n c, .slice A' n' c'] w fun e w' => Below w.heap.size w w' ∧ ∃ hdr, e = .returned (.tuple #[hdr, .int .i64 (runS ss (pl.map (·.1))).2]) ∧ SX.SlRet w w' [⟨.slice A n c, 14, sgsL ss⟩] hdr 14 (sgsL (runS ss (pl.map (·.1))).1) := by
  refine SX.calls_of_run (C := cxG1 (runK A n c ss A' n' c' pl) (runA A n c ss)) (G := ⟨fun _ => false, [⟨19, 7, [(.s 7, .one), (.s 0, .ext 14)]⟩], 2, 100⟩) (args := args_rrun) (sh := [.one, .one]) (ρ := [.slice A n c, .slice A' n' c']) 100000 tree_rrun (okG1 _ _) Try.func19 rfl (run_rrun _ _) (by kernel_rfl) (by kernel_rfl) (by kernel_rfl) ?_ ?_
  · rintro W hW s sz cells (⟨rfl, rfl, rfl⟩ | ⟨rfl, rfl, rfl⟩ | ⟨q, hq1, rfl, rfl, rfl⟩)
    · exact ⟨hr.same0 hW, hc⟩
    · exact ⟨hr'.same0 hW, hc'⟩
    exact ⟨(hq q hq1).1.same0 hW, (hq q hq1).2.1⟩
  have hA' := SX.rd_some hr'
  have hln : ss.length = n := by have := hr.1; rw [sgsL_len] at this; omega
  have hln' : pl.length = n' := by have := hr'.1; rw [phL_len] at this; omega
  have hpn : (pl.map (·.1)).length = n' := by simp [hln']
  generalize hps : pl.map (·.1) = ps at *
  have k1 : runK A n c ss A' n' c' pl (.slice A n c) 14 (sgsL ss) := .inl ⟨rfl, rfl, rfl⟩
  have k2 : runK A n c ss A' n' c' pl (.slice A' n' c') 19 (phL pl) := .inr (.inl ⟨rfl, rfl, rfl⟩)
  have a1 : runA A n c ss (.slice A n c) 14 (sgsL ss) := ⟨rfl, rfl, rfl⟩
  unfold tree_rrun
  refine SX.E (.int .i64 ((chkS ss))) (fun α => ⟨[⟨.slice A n c, 14, sgsL ss⟩], ⟨by kernel_rfl, rfl, cast (by kernel_rfl) k1, trivial⟩, .inr (.inl ⟨rfl, .slice A n c, ss, rfl, by omega, rfl⟩), SX.noAli rfl⟩) ?_
  refine SX.D (.bool (((chkS ss) : Int) != 0)) ?_
  refine SX.B (((chkS ss) : Int) != 0) (fun h3 => ?_) (fun h3 => ?_)
  · try simp only [NRM] at h3
    have hfact : runS ss ps = ([], chkS ss) := by rw [runS, if_neg h3]
    exact SX.VC_ret fun α W _ hR hS => ⟨hS.below, (.slice none 0 0), Eq.trans (b := Ending.returned (.tuple #[(.slice none 0 0), .int .i64 ((chkS ss))])) (by kernel_rfl) (by rw [hfact]), (by rw [hfact]; exact SX.SlRet.nil)⟩
  try simp only [NRM] at h3
  refine SX.D (.int .i64 (((n' : Nat) : Int))) ?_
  refine SX.D (.bool (decide (((n' : Nat) : Int) > 512))) ?_
  refine SX.B (decide (((n' : Nat) : Int) > 512)) (fun h5 => ?_) (fun h5 => ?_)
  · try simp only [NRM] at h5
    have hfact : runS ss ps = ([], 2) := by rw [runS, if_pos h3, if_pos (by omega)]
    exact SX.VC_ret fun α W _ hR hS => ⟨hS.below, (.slice none 0 0), Eq.trans (b := Ending.returned (.tuple #[(.slice none 0 0), .int .i64 2])) (by kernel_rfl) (by rw [hfact]), (by rw [hfact]; exact SX.SlRet.nil)⟩
  try simp only [NRM] at h5
  refine SX.E (Value.agg (sgsL ss).toArray) (fun α => ⟨sgsL ss, ⟨A, n, c, by kernel_rfl, hc⟩, cast (by kernel_rfl) k1, cast (by kernel_rfl) a1, rfl⟩) ?_
  refine SX.VC_loop (fun xs => ∃ (i : Nat) (cur : List Sg), xs = [.int .i64 (i : Int), .agg (sgsL cur).toArray] ∧ i ≤ n' ∧ runL ss ps = runL cur (ps.drop i) ∧ okL cur ∧ cur.length ≤ 4096) (fun xs => match xs with | [.int _ i, _] => n' - i.toNat | _ => 0) (fun α => ⟨0, ss, Eq.trans (b := [.int .i64 0, .agg ([Value.agg (sgsL ss).toArray].flatMap SX.cellsV).toArray]) (by kernel_rfl) (by simp [SX.cellsV]), by omega, by simp, (chkS_ok h3).1, (chkS_ok h3).2⟩) ?_
  rintro xs - ⟨i, cur, rfl, hin, hrun, hok, hcl⟩
  refine SX.D (.int .i64 (((n' : Nat) : Int))) ?_
  refine SX.D (.bool (decide (((i : Nat) : Int) < ((n' : Nat) : Int)))) ?_
  refine SX.B (decide (((i : Nat) : Int) < ((n' : Nat) : Int))) (fun h10 => ?_) (fun h10 => ?_)
  · try simp only [NRM] at h10
    obtain ⟨z, hz⟩ : ∃ z, pl[i]? = some z := ⟨_, List.getElem?_eq_getElem (by omega)⟩
    have hzm : z ∈ pl := List.mem_of_getElem? hz
    have hdr : ps.drop i = z.1 :: ps.drop (i + 1) := by
      have hpz : ps[i]? = some z.1 := by rw [← hps, List.getElem?_map, hz]; rfl
      rw [List.drop_eq_getElem_cons (List.getElem?_eq_some_iff.1 hpz).1, (List.getElem?_eq_some_iff.1 hpz).2]
    have k3 : runK A n c ss A' n' c' pl (.slice z.2.1 z.2.2.1 z.2.2.2) 1 (intsL z.1.needs) := .inr (.inr ⟨z, hzm, rfl, rfl, rfl⟩)
    have hzl : z.1.needs.length ≤ 9223372036854775807 := by have h9 := hq z hzm; have := h9.1.1; simp only [intsL_len] at this; omega
    refine SX.E (.bool true) (fun α => SX.extBnd (A := A') (n := n') (c := c') (j := i) hA' (by kernel_rfl) (by kernel_rfl) (by omega)) ?_
    refine SX.E (.agg (cellsH z).toArray) (fun α => SX.extElems (f := cellsH) (l := pl) (A := A') (n := n') (c := c') (j := i) (z := z) (fun _ => rfl) hA' (by kernel_rfl) (by kernel_rfl) (by omega) (cast (by kernel_rfl) k2) hz) ?_
    refine SX.E (.int .i64 ((chkP z.1))) (fun α => ⟨[⟨valP z.1 z.h, 0, []⟩], ⟨by kernel_rfl, by kernel_rfl, trivial⟩, .inr (.inr (.inr (.inl ⟨rfl, z.1, z.2.1, z.2.2.1, z.2.2.2, rfl, k3, hzl, rfl⟩))), SX.noAli rfl⟩) ?_
    refine SX.D (.bool (((chkP z.1) : Int) != 0)) ?_
    refine SX.B (((chkP z.1) : Int) != 0) (fun h14 => ?_) (fun h14 => ?_)
    · try simp only [NRM] at h14
      have hfact : runS ss ps = ([], chkP z.1) := by rw [runS, if_pos h3, if_neg (by omega), hrun, hdr, runL, if_neg h14]
      exact SX.VC_ret fun α W _ hR hS => ⟨hS.below, (.slice none 0 0), Eq.trans (b := Ending.returned (.tuple #[(.slice none 0 0), .int .i64 ((chkP z.1))])) (by kernel_rfl) (by rw [hfact]), (by rw [hfact]; exact SX.SlRet.nil)⟩
    try simp only [NRM] at h14
    refine SX.E (.bool true) (fun α => SX.extBnd (A := A') (n := n') (c := c') (j := i) hA' (by kernel_rfl) (by kernel_rfl) (by omega)) ?_
    refine SX.E (.agg (cellsH z).toArray) (fun α => SX.extElems (f := cellsH) (l := pl) (A := A') (n := n') (c := c') (j := i) (z := z) (fun _ => rfl) hA' (by kernel_rfl) (by kernel_rfl) (by omega) (cast (by kernel_rfl) k2) hz) ?_
    refine SX.VC_df (.tuple #[Value.agg (sgsL (applyS cur z.1).1).toArray, .int .i64 ((applyS cur z.1).2)]) (fun α => ⟨[⟨(α 2).h, 14, sgsL cur⟩, ⟨valP z.1 z.h, 0, []⟩], ⟨Eq.trans (b := (⟨(α 2).h, 14, [Value.agg (sgsL cur).toArray].flatMap SX.cellsV⟩ : SX.Arg)) (by simp [SX.cellsV]) (by kernel_rfl), by kernel_rfl, by kernel_rfl, trivial⟩, .inr (.inr (.inr (.inr (.inr (⟨rfl, _, cur, z.1, z.2.1, z.2.2.1, z.2.2.2, rfl, hok, hcl, chkP_ok h14, rfl⟩))))), fun j hj x sz _ h => by rcases j with _ | _ | j <;> simp at h⟩) (sgs_fit _ _) ?_
    refine SX.D (.bool (((applyS cur z.1).2 : Int) != 0)) ?_
    refine SX.B (((applyS cur z.1).2 : Int) != 0) (fun h18 => ?_) (fun h18 => ?_)
    · try simp only [NRM] at h18
      have hfact : runS ss ps = ([], (applyS cur z.1).2) := by rw [runS, if_pos h3, if_neg (by omega), hrun, hdr, runL, if_pos h14, if_neg h18]
      exact SX.VC_ret fun α W _ hR hS => ⟨hS.below, (.slice none 0 0), Eq.trans (b := Ending.returned (.tuple #[(.slice none 0 0), .int .i64 ((applyS cur z.1).2)])) (by kernel_rfl) (by rw [hfact]), (by rw [hfact]; exact SX.SlRet.nil)⟩
    try simp only [NRM] at h18
    refine SX.E (.int .i64 (((i + 1 : Nat) : Int))) (fun α => SX.W1 i) ?_
    exact SX.VC_again fun α => ⟨⟨i + 1, (applyS cur z.1).1, Eq.trans (b := [.int .i64 ((i + 1 : Nat) : Int), .agg ([Value.agg (sgsL (applyS cur z.1).1).toArray].flatMap SX.cellsV).toArray]) (by kernel_rfl) (by simp [SX.cellsV]), by omega, by rw [hrun, hdr, runL, if_pos h14, if_pos h18], (apply_ok hok hcl (chkP_ok h14) h18).1, (apply_ok hok hcl (chkP_ok h14) h18).2⟩, cast (by kernel_rfl) (show n' - ((i + 1 : Nat) : Int).toNat < n' - (i : Int).toNat by omega)⟩
  try simp only [NRM] at h10
  have hfact : runS ss ps = (cur, 0) := by rw [runS, if_pos h3, if_neg (by omega), hrun, List.drop_of_length_le (by omega), runL]
  exact SX.VC_ret fun α W _ hR hS => ⟨hS.below, (α 2).h, Eq.trans (b := Ending.returned (.tuple #[(α 2).h, .int .i64 0])) (by kernel_rfl) (by rw [hfact]), SX.SlRet.ext hS (n := 2) (b := (⟨[(.x 8 [])], 0, (.ext 14)⟩ : SX.Blk)) (by kernel_rfl) rfl (hR 2 _ (by kernel_rfl)) (Eq.trans (b := [Value.agg (sgsL cur).toArray].flatMap SX.cellsV) (by kernel_rfl) (by rw [hfact]; simp [SX.cellsV])) (x := ⟨.slice A n c, 14, sgsL ss⟩) (by simp) (fun W2 h s z xs hk => by obtain ⟨rfl, rfl, rfl⟩ := hk; exact h) (fun B h s z xs hk => by obtain ⟨rfl, rfl, rfl⟩ := hk; exact h)⟩
theorem ph_arg {W : World} {u : Value} {pl : List Ph} (h : SX.Arg.rd W ⟨u, 19, phL pl⟩) : ∃ A n c, u = .slice A n c ∧ Rd W 19 A n (phL pl) ∧ n ≤ c ∧ pl.length = n := by
  unfold SX.Arg.rd at h
  split at h
  · rename_i A n c hu
    have hu : u = .slice A n c := hu
    refine ⟨A, n, c, hu, h.1, h.2, ?_⟩
    have := h.1.1; simp only [phL_len] at this; omega
  cases h
theorem apply_no {ss : List Sg} {p : Pt} (h : (applyS ss p).2 ≠ 0) : (applyS ss p).1 = [] := by
  unfold applyS at h ⊢
  repeat' split at h
  all_goals first | (exfalso; simp at h; done) | simp_all
theorem run1 {ss : List Sg} {p : Pt} (h1 : chkS ss = 0) (h2 : chkP p = 0) : runS ss [p] = applyS ss p := by
  rw [runS, if_pos h1, if_neg (by simp), runL, if_pos h2]
  split
  · rename_i h; rw [runL, ← h]
  rename_i h; rw [← apply_no h]
def ovE (p q : Pt) : Int := if chkP p = 0 then chkP q else chkP p
def ovV (p q : Pt) : Bool := decide (chkP p = 0 ∧ chkP q = 0 ∧ p.sign = q.sign ∧ (p.kind ≠ 1 ∨ q.kind ≠ 1 ∨ p.field = q.field))
def fewS (ss : List Sg) : Bool := decide (ss.length ≤ 300 ∨ 4094 ≤ ss.length ∧ ss.length ≤ 5000)
def RH (K : Value → Nat → List Value → Prop) (f : FuncId) (xs : List SX.Arg) (v : Value) : Prop :=
  (f = 27 ∧ ∃ (u : Value) (ss : List Sg), xs = [⟨u, 14, sgsL ss⟩] ∧ ss.length ≤ 9223372036854775807 ∧ v = .int .i64 (chkS ss)) ∨
  (f = 33 ∧ ∃ (u : Value) (ss : List Sg), xs = [⟨u, 14, sgsL ss⟩] ∧ ss.length ≤ 9223372036854775807 ∧ v = .int .i64 (chkS ss)) ∨
  (f = 14 ∧ ∃ (p : Pt) (B : Option Addr) (m d : Nat), xs = [⟨valP p (.slice B m d), 0, []⟩] ∧ K (.slice B m d) 1 (intsL p.needs) ∧ p.needs.length ≤ 9223372036854775807 ∧ v = .int .i64 (chkP p)) ∨
  (f = 15 ∧ ∃ (p : Pt) (B : Option Addr) (m d : Nat), xs = [⟨valP p (.slice B m d), 0, []⟩] ∧ K (.slice B m d) 1 (intsL p.needs) ∧ p.needs.length ≤ 9223372036854775807 ∧ v = .int .i64 (chkP p)) ∨
  (f = 38 ∧ ∃ (u : Value) (ss : List Sg) (p : Pt) (B : Option Addr) (m d : Nat), xs = [⟨u, 14, sgsL ss⟩, ⟨valP p (.slice B m d), 0, []⟩] ∧ okL ss ∧ ss.length ≤ 4096 ∧ okP p ∧ v = .tuple #[.agg (sgsL (applyS ss p).1).toArray, .int .i64 (applyS ss p).2]) ∨
  (f = 34 ∧ ∃ (u : Value) (ss : List Sg) (p : Pt) (B : Option Addr) (m d : Nat), xs = [⟨u, 14, sgsL ss⟩, ⟨valP p (.slice B m d), 0, []⟩] ∧ okL ss ∧ ss.length ≤ 4096 ∧ okP p ∧ v = .tuple #[.agg (sgsL (applyS ss p).1).toArray, .int .i64 (applyS ss p).2]) ∨
  (f = 18 ∧ ∃ (u u2 : Value) (ss : List Sg) (pl : List Ph), xs = [⟨u, 14, sgsL ss⟩, ⟨u2, 19, phL pl⟩] ∧ ss.length ≤ 9223372036854775807 ∧ pl.length ≤ 9223372036854775807 ∧ (∀ q ∈ pl, K q.h 1 (intsL q.1.needs) ∧ q.1.needs.length ≤ 9223372036854775807) ∧ v = .tuple #[.agg (sgsL (runS ss (pl.map (·.1))).1).toArray, .int .i64 (runS ss (pl.map (·.1))).2]) ∨
  (f = 19 ∧ ∃ (u u2 : Value) (ss : List Sg) (pl : List Ph), xs = [⟨u, 14, sgsL ss⟩, ⟨u2, 19, phL pl⟩] ∧ ss.length ≤ 9223372036854775807 ∧ pl.length ≤ 9223372036854775807 ∧ (∀ q ∈ pl, K q.h 1 (intsL q.1.needs) ∧ q.1.needs.length ≤ 9223372036854775807) ∧ v = .tuple #[.agg (sgsL (runS ss (pl.map (·.1))).1).toArray, .int .i64 (runS ss (pl.map (·.1))).2])
def shpH : FuncId → Option SX.Sh := fun f => if f = 27 then some .one else if f = 33 then some .one else if f = 14 then some .one else if f = 15 then some .one else if f = 38 then some (.tp [.sl 14, .one]) else if f = 34 then some (.tp [.sl 14, .one]) else if f = 18 then some (.tp [.sl 14, .one]) else if f = 19 then some (.tp [.sl 14, .one]) else none
noncomputable def cxH (K A : Value → Nat → List Value → Prop) : SX.Cx := { P := Try.prog, R := RH, shp := shpH, K := K, A := A, ali := fun f => if f = 38 then [0] else if f = 34 then [0] else if f = 18 then [0] else if f = 19 then [0] else [] }
theorem okH (K A : Value → Nat → List Value → Prop) : (cxH K A).Ok := by
  refine SX.Cx.ok_of (fun _ => rfl) ?_
  intro K f xs v W hR hrd hKf
  rcases hR with ⟨rfl, u, ss, rfl, hl, rfl⟩ | ⟨rfl, u, ss, rfl, hl, rfl⟩ | ⟨rfl, p, B, m, d, rfl, hK, hl, rfl⟩ | ⟨rfl, p, B, m, d, rfl, hK, hl, rfl⟩ | ⟨rfl, u, ss, p, B, m, d, rfl, hs, hl, hp, rfl⟩ | ⟨rfl, u, ss, p, B, m, d, rfl, hs, hl, hp, rfl⟩ | ⟨rfl, u, u2, ss, pl, rfl, hl, hl2, hK, rfl⟩ | ⟨rfl, u, u2, ss, pl, rfl, hl, hl2, hK, rfl⟩
  · obtain ⟨A, n, c, rfl, h2, h3, h4⟩ := sgs_arg (hrd ⟨u, 14, sgsL ss⟩ (by simp))
    exact (echeck_any ss A n c W h2 (by omega) h3).mono fun e w' h => SX.plainOk rfl h
  · obtain ⟨A, n, c, rfl, h2, h3, h4⟩ := sgs_arg (hrd ⟨u, 14, sgsL ss⟩ (by simp))
    exact (rcheckL_any ss A n c W h2 (by omega) h3).mono fun e w' h => SX.plainOk rfl h
  · have hR := hKf _ _ _ hK
    have hm : m ≤ 9223372036854775807 := by have := hR.1.1; simp only [intsL_len] at this; omega
    exact (pcheck_any p B m d W hR.1 hm hR.2).mono fun e w' h => SX.plainOk rfl h
  · have hR := hKf _ _ _ hK
    have hm : m ≤ 9223372036854775807 := by have := hR.1.1; simp only [intsL_len] at this; omega
    exact (rcheckP_any p B m d W hR.1 hm hR.2).mono fun e w' h => SX.plainOk rfl h
  · refine Calls.mono ?_ fun e w' h => SX.SlRet.ok rfl rfl h
    obtain ⟨A, n, c, rfl, h2, h3, h4⟩ := sgs_arg (hrd ⟨u, 14, sgsL ss⟩ (by simp))
    obtain ⟨pid, pk, psg, pf, pn, pnd⟩ := p
    obtain ⟨_, ⟨g1, g2⟩, _, hk⟩ := id hp
    rcases hk with ⟨rfl, k2, k3, k4, k5⟩ | ⟨rfl, _⟩ | ⟨rfl, _⟩
    · exact ap1_any ss A n c pid psg pf pn pnd B m d W h2 (by omega) h3 hs g1 g2 ⟨k2, k3⟩
    · exact ap2_any ss A n c pid psg pf pn pnd B m d W h2 (by omega) h3 hs g1 g2
    exact ap3_any ss A n c pid psg pf pn pnd B m d W h2 (by omega) h3 hs g1 g2
  · refine Calls.mono ?_ fun e w' h => SX.SlRet.ok rfl rfl h
    obtain ⟨A, n, c, rfl, h2, h3, h4⟩ := sgs_arg (hrd ⟨u, 14, sgsL ss⟩ (by simp))
    obtain ⟨pid, pk, psg, pf, pn, pnd⟩ := p
    obtain ⟨_, ⟨g1, g2⟩, _, hk⟩ := id hp
    rcases hk with ⟨rfl, k2, k3, k4, k5⟩ | ⟨rfl, _⟩ | ⟨rfl, _⟩
    · exact ra1_any ss A n c pid psg pf pn pnd B m d W h2 (by omega) h3
    · exact ra2_any ss A n c pid psg pf pn pnd B m d W h2 (by omega) h3
    exact ra3_any ss A n c pid psg pf pn pnd B m d W h2 (by omega) h3
  · refine Calls.mono ?_ fun e w' h => SX.SlRet.ok rfl rfl h
    obtain ⟨A, n, c, rfl, h2, h3, h4⟩ := sgs_arg (hrd ⟨u, 14, sgsL ss⟩ (by simp))
    obtain ⟨A', n', c', rfl, h2', h3', h4'⟩ := ph_arg (hrd ⟨u2, 19, phL pl⟩ (by simp))
    exact run_any ss A n c pl A' n' c' W h2 (by omega) h3 h2' (by omega) h3' fun q hq => by
      have hR := hKf _ _ _ (hK q hq).1
      exact ⟨hR.1, hR.2, by have := (hK q hq).2; have h9 := hR.1.1; simp only [intsL_len] at h9; omega⟩
  refine Calls.mono ?_ fun e w' h => SX.SlRet.ok rfl rfl h
  obtain ⟨A, n, c, rfl, h2, h3, h4⟩ := sgs_arg (hrd ⟨u, 14, sgsL ss⟩ (by simp))
  obtain ⟨A', n', c', rfl, h2', h3', h4'⟩ := ph_arg (hrd ⟨u2, 19, phL pl⟩ (by simp))
  exact rrun_any ss A n c pl A' n' c' W h2 (by omega) h3 h2' (by omega) h3' fun q hq => by
    have hR := hKf _ _ _ (hK q hq).1
    exact ⟨hR.1, hR.2, by have := (hK q hq).2; have h9 := hR.1.1; simp only [intsL_len] at h9; omega⟩
def apK (A : Option Addr) (n c : Nat) (ss : List Sg) (p : Pt) (h : Value) (s : Value) (sz : Nat) (cells : List Value) : Prop :=
  (s = .slice A n c ∧ sz = 14 ∧ cells = sgsL ss) ∨ (s = h ∧ sz = 1 ∧ cells = intsL p.needs)
def twoK (p : Pt) (h : Value) (q : Pt) (h' : Value) (s : Value) (sz : Nat) (cells : List Value) : Prop :=
  (s = h ∧ sz = 1 ∧ cells = intsL p.needs) ∨ (s = h' ∧ sz = 1 ∧ cells = intsL q.needs)
def tree_papply : SX.Tree :=
(.df (.call 18 [(.ext 14), (.own 19 (SX.Z 1 19))]) [(.q 0), (.sl 1 0 1 1)] (.tp [(.sl 14), .one])
(.ret (.t [(.row 2), (.x 20 [1])]) [none, none, (some ⟨[(.x 20 [0])], 0, (.ext 14)⟩)] []))
def args_papply : List SX.V := [.x 0 [], .a ((List.range 19).map fun j => .x (1 + j) [])]
set_option maxRecDepth 100000 in
theorem run_papply (K A : Value → Nat → List Value → Prop) : (SX.run (cxH K A) ⟨fun _ => false, [], 2, 100⟩ 100000 0 (SX.door 12 Try.f12 args_papply (List.replicate 20 .one)) [.code (Try.f12.body.getD .skip), .top Try.f12]).strip = tree_papply := by kernel_rfl
set_option maxRecDepth 100000 in
set_option maxHeartbeats 4000000 in
theorem papply_any (ss : List Sg) (A : Option Addr) (n c : Nat) (p : Pt) (B : Option Addr) (m d : Nat) (w : World) (hr : Rd w 14 A n (sgsL ss)) (hn : n ≤ 9223372036854775807) (hc : n ≤ c) (hp : Rd w 1 B m (intsL p.needs)) (hm : m ≤ 9223372036854775807) (hmd : m ≤ d) : Calls Try.prog 12 #[.slice A n c, valP p (.slice B m d)] w fun e w' => Below w.heap.size w w' ∧ ∃ hdr, e = .returned (.tuple #[hdr, .int .i64 (runS ss [p]).2]) ∧ SX.SlRet w w' [⟨.slice A n c, 14, sgsL ss⟩] hdr 14 (sgsL (runS ss [p]).1) := by
  refine SX.calls_of_run (C := cxH (apK A n c ss p (.slice B m d)) (runA A n c ss)) (G := ⟨fun _ => false, [], 2, 100⟩) (args := args_papply) (sh := (List.replicate 20 .one)) (ρ := ([.slice A n c] ++ cellsP p (.slice B m d))) 100000 tree_papply (okH _ _) Try.func12 rfl (run_papply _ _) (by kernel_rfl) (by kernel_rfl) (by kernel_rfl) ?_ ?_
  · rintro W hW s sz cells (⟨rfl, rfl, rfl⟩ | ⟨rfl, rfl, rfl⟩)
    · exact ⟨hr.same0 hW, hc⟩
    exact ⟨hp.same0 hW, hmd⟩
  have hln : ss.length = n := by have := hr.1; rw [sgsL_len] at this; omega
  have hlm : p.needs.length = m := by have := hp.1; rw [intsL_len] at this; omega
  have k1 : apK A n c ss p (.slice B m d) (.slice A n c) 14 (sgsL ss) := .inl ⟨rfl, rfl, rfl⟩
  have k2 : apK A n c ss p (.slice B m d) (.slice B m d) 1 (intsL p.needs) := .inr ⟨rfl, rfl, rfl⟩
  have a1 : runA A n c ss (.slice A n c) 14 (sgsL ss) := ⟨rfl, rfl, rfl⟩
  unfold tree_papply
  refine SX.VC_df (.tuple #[Value.agg (sgsL (runS ss [p]).1).toArray, .int .i64 ((runS ss [p]).2)]) (fun α => ⟨[⟨.slice A n c, 14, sgsL ss⟩, ⟨.slice (some ⟨(α 1).b, 0, none⟩) 1 1, 19, phL [(p, B, m, d)]⟩], ⟨by kernel_rfl, rfl, cast (by kernel_rfl) k1, by kernel_rfl, trivial⟩, .inr (.inr (.inr (.inr (.inr (.inr (.inl ⟨rfl, _, _, ss, [(p, B, m, d)], rfl, by omega, by simp, fun q hq => by (obtain rfl : q = (p, B, m, d) := by simpa using hq); exact ⟨k2, by show p.needs.length ≤ _; omega⟩, rfl⟩)))))), fun j hj x sz hx h => match j, hx, h with | 0, hx, _ => by (cases hx; exact cast (by kernel_rfl) a1) | 1, _, h => by cases h | _ + 2, _, h => by cases h⟩) (sgs_fit _ _) ?_
  have hfact : runS ss [p] = ((runS ss [p]).1, (runS ss [p]).2) := by rfl
  exact SX.VC_ret fun α W _ hR hS => ⟨hS.below, (α 2).h, Eq.trans (b := Ending.returned (.tuple #[(α 2).h, .int .i64 ((runS ss [p]).2)])) (by kernel_rfl) (by rw [hfact]), SX.SlRet.ext hS (n := 2) (b := (⟨[(.x 20 [0])], 0, (.ext 14)⟩ : SX.Blk)) (by kernel_rfl) rfl (hR 2 _ (by kernel_rfl)) (Eq.trans (b := [Value.agg (sgsL (runS ss [p]).1).toArray].flatMap SX.cellsV) (by kernel_rfl) (by rw [hfact]; simp [SX.cellsV])) (x := ⟨.slice A n c, 14, sgsL ss⟩) (by simp) (fun W2 h s z xs hk => by obtain ⟨rfl, rfl, rfl⟩ := hk; exact h) (fun B h s z xs hk => by obtain ⟨rfl, rfl, rfl⟩ := hk; exact h)⟩
def tree_rapply2 : SX.Tree :=
(.df (.call 33 [(.ext 14)]) [(.q 0)] .one
(.df (.bin .neq 32) [(.q 20), (.i 0)] .one
(.br 21 []
(.ret (.t [(.k (.slice none 0 0)), (.q 20)]) [none] [])
(.df (.call 15 [.no]) [(.a (SX.Z 1 19))] .one
(.df (.bin .neq 32) [(.q 22), (.i 0)] .one
(.br 23 []
(.ret (.t [(.k (.slice none 0 0)), (.q 22)]) [none] [])
(.df (.call 34 [(.ext 14), .no]) [(.q 0), (.a (SX.Z 1 19))] (.tp [(.sl 14), .one])
(.ret (.t [(.row 1), (.x 24 [1])]) [none, (some ⟨[(.x 24 [0])], 0, (.ext 14)⟩)] []))))))))
def args_rapply2 : List SX.V := [.x 0 [], .a ((List.range 19).map fun j => .x (1 + j) [])]
set_option maxRecDepth 100000 in
theorem run_rapply2 (K A : Value → Nat → List Value → Prop) : (SX.run (cxH K A) ⟨fun _ => false, [], 2, 100⟩ 100000 0 (SX.door 13 Try.f13 args_rapply2 (List.replicate 20 .one)) [.code (Try.f13.body.getD .skip), .top Try.f13]).strip = tree_rapply2 := by kernel_rfl
set_option maxRecDepth 100000 in
set_option maxHeartbeats 4000000 in
theorem rapply2_any (ss : List Sg) (A : Option Addr) (n c : Nat) (p : Pt) (B : Option Addr) (m d : Nat) (w : World) (hr : Rd w 14 A n (sgsL ss)) (hn : n ≤ 9223372036854775807) (hc : n ≤ c) (hp : Rd w 1 B m (intsL p.needs)) (hm : m ≤ 9223372036854775807) (hmd : m ≤ d) : Calls Try.prog 13 #[.slice A n c, valP p (.slice B m d)] w fun e w' => Below w.heap.size w w' ∧ ∃ hdr, e = .returned (.tuple #[hdr, .int .i64 (runS ss [p]).2]) ∧ SX.SlRet w w' [⟨.slice A n c, 14, sgsL ss⟩] hdr 14 (sgsL (runS ss [p]).1) := by
  refine SX.calls_of_run (C := cxH (apK A n c ss p (.slice B m d)) (runA A n c ss)) (G := ⟨fun _ => false, [], 2, 100⟩) (args := args_rapply2) (sh := (List.replicate 20 .one)) (ρ := ([.slice A n c] ++ cellsP p (.slice B m d))) 100000 tree_rapply2 (okH _ _) Try.func13 rfl (run_rapply2 _ _) (by kernel_rfl) (by kernel_rfl) (by kernel_rfl) ?_ ?_
  · rintro W hW s sz cells (⟨rfl, rfl, rfl⟩ | ⟨rfl, rfl, rfl⟩)
    · exact ⟨hr.same0 hW, hc⟩
    exact ⟨hp.same0 hW, hmd⟩
  have hln : ss.length = n := by have := hr.1; rw [sgsL_len] at this; omega
  have hlm : p.needs.length = m := by have := hp.1; rw [intsL_len] at this; omega
  have k1 : apK A n c ss p (.slice B m d) (.slice A n c) 14 (sgsL ss) := .inl ⟨rfl, rfl, rfl⟩
  have k2 : apK A n c ss p (.slice B m d) (.slice B m d) 1 (intsL p.needs) := .inr ⟨rfl, rfl, rfl⟩
  have a1 : runA A n c ss (.slice A n c) 14 (sgsL ss) := ⟨rfl, rfl, rfl⟩
  unfold tree_rapply2
  refine SX.E (.int .i64 ((chkS ss))) (fun α => ⟨[⟨.slice A n c, 14, sgsL ss⟩], ⟨by kernel_rfl, rfl, cast (by kernel_rfl) k1, trivial⟩, .inr (.inl ⟨rfl, .slice A n c, ss, rfl, by omega, rfl⟩), SX.noAli rfl⟩) ?_
  refine SX.D (.bool (((chkS ss) : Int) != 0)) ?_
  refine SX.B (((chkS ss) : Int) != 0) (fun h21 => ?_) (fun h21 => ?_)
  · try simp only [NRM] at h21
    have hfact : runS ss [p] = ([], chkS ss) := by rw [runS, if_neg h21]
    exact SX.VC_ret fun α W _ hR hS => ⟨hS.below, (.slice none 0 0), Eq.trans (b := Ending.returned (.tuple #[(.slice none 0 0), .int .i64 ((chkS ss))])) (by kernel_rfl) (by rw [hfact]), (by rw [hfact]; exact SX.SlRet.nil)⟩
  try simp only [NRM] at h21
  refine SX.E (.int .i64 ((chkP p))) (fun α => ⟨[⟨valP p (.slice B m d), 0, []⟩], ⟨by kernel_rfl, by kernel_rfl, trivial⟩, .inr (.inr (.inr (.inl ⟨rfl, p, B, m, d, rfl, k2, by omega, rfl⟩))), SX.noAli rfl⟩) ?_
  refine SX.D (.bool (((chkP p) : Int) != 0)) ?_
  refine SX.B (((chkP p) : Int) != 0) (fun h23 => ?_) (fun h23 => ?_)
  · try simp only [NRM] at h23
    have hfact : runS ss [p] = ([], chkP p) := by rw [runS, if_pos h21, if_neg (by simp), runL, if_neg h23]
    exact SX.VC_ret fun α W _ hR hS => ⟨hS.below, (.slice none 0 0), Eq.trans (b := Ending.returned (.tuple #[(.slice none 0 0), .int .i64 ((chkP p))])) (by kernel_rfl) (by rw [hfact]), (by rw [hfact]; exact SX.SlRet.nil)⟩
  try simp only [NRM] at h23
  refine SX.VC_df (.tuple #[Value.agg (sgsL (applyS ss p).1).toArray, .int .i64 ((applyS ss p).2)]) (fun α => ⟨[⟨.slice A n c, 14, sgsL ss⟩, ⟨valP p (.slice B m d), 0, []⟩], ⟨by kernel_rfl, rfl, cast (by kernel_rfl) k1, by kernel_rfl, by kernel_rfl, trivial⟩, .inr (.inr (.inr (.inr (.inr (.inl ⟨rfl, _, ss, p, B, m, d, rfl, (chkS_ok h21).1, (chkS_ok h21).2, chkP_ok h23, rfl⟩))))), fun j hj x sz hx h => match j, hx, h with | 0, hx, _ => by (cases hx; exact cast (by kernel_rfl) a1) | 1, _, h => by cases h | _ + 2, _, h => by cases h⟩) (sgs_fit _ _) ?_
  have hfact : runS ss [p] = ((applyS ss p).1, (applyS ss p).2) := by rw [run1 h21 h23]
  exact SX.VC_ret fun α W _ hR hS => ⟨hS.below, (α 1).h, Eq.trans (b := Ending.returned (.tuple #[(α 1).h, .int .i64 ((applyS ss p).2)])) (by kernel_rfl) (by rw [hfact]), SX.SlRet.ext hS (n := 1) (b := (⟨[(.x 24 [0])], 0, (.ext 14)⟩ : SX.Blk)) (by kernel_rfl) rfl (hR 1 _ (by kernel_rfl)) (Eq.trans (b := [Value.agg (sgsL (applyS ss p).1).toArray].flatMap SX.cellsV) (by kernel_rfl) (by rw [hfact]; simp [SX.cellsV])) (x := ⟨.slice A n c, 14, sgsL ss⟩) (by simp) (fun W2 h s z xs hk => by obtain ⟨rfl, rfl, rfl⟩ := hk; exact h) (fun B h s z xs hk => by obtain ⟨rfl, rfl, rfl⟩ := hk; exact h)⟩
def tree_overlap : SX.Tree :=
(.df (.call 14 [.no]) [(.a (SX.Z 0 19))] .one
(.df (.bin .neq 32) [(.q 38), (.i 0)] .one
(.br 39 []
(.ret (.t [(.k (.bool false)), (.q 38)]) [] [])
(.df (.call 14 [.no]) [(.a (SX.Z 19 19))] .one
(.df (.bin .neq 32) [(.q 40), (.i 0)] .one
(.br 41 []
(.ret (.t [(.k (.bool false)), (.q 40)]) [] [])
(.df (.bin .neq 3) [(.q 1), (.i 1)] .one
(.br 42 []
(.df (.bin .eql 3) [(.q 2), (.q 21)] .one
(.br 43 []
(.ret (.t [(.k (.bool true)), (.i 0)]) [] [])
(.ret (.t [(.k (.bool false)), (.i 0)]) [] [])))
(.df (.bin .neq 3) [(.q 20), (.i 1)] .one
(.df (.bin .eql 3) [(.q 2), (.q 21)] .one
(.br 44 []
(.br 43 []
(.ret (.t [(.k (.bool true)), (.i 0)]) [] [])
(.df (.bin .eql 3) [(.q 3), (.q 22)] .one
(.ret (.t [(.q 45), (.i 0)]) [] [])))
(.ret (.t [(.k (.bool false)), (.i 0)]) [] []))))))))))))
def args_overlap : List SX.V := [.a ((List.range 19).map fun j => .x j []), .a ((List.range 19).map fun j => .x (19 + j) [])]
set_option maxRecDepth 100000 in
theorem run_overlap (K A : Value → Nat → List Value → Prop) : (SX.run (cxH K A) ⟨fun _ => false, [], 0, 100⟩ 100000 0 (SX.door 22 Try.f22 args_overlap (List.replicate 38 .one)) [.code (Try.f22.body.getD .skip), .top Try.f22]).strip = tree_overlap := by kernel_rfl
set_option maxRecDepth 100000 in
set_option maxHeartbeats 4000000 in
theorem overlap_any (p q : Pt) (B : Option Addr) (m d : Nat) (B' : Option Addr) (m' d' : Nat) (w : World) (hp : Rd w 1 B m (intsL p.needs)) (hm : m ≤ 9223372036854775807) (hmd : m ≤ d) (hp' : Rd w 1 B' m' (intsL q.needs)) (hm' : m' ≤ 9223372036854775807) (hmd' : m' ≤ d') : Calls Try.prog 22 #[valP p (.slice B m d), valP q (.slice B' m' d')] w fun e w' => e = .returned (.tuple #[.bool (ovV p q), .int .i64 (ovE p q)]) ∧ Below w.heap.size w w' := by
  refine SX.calls_of_run (C := cxH (twoK p (.slice B m d) q (.slice B' m' d')) (fun _ _ _ => False)) (G := ⟨fun _ => false, [], 0, 100⟩) (args := args_overlap) (sh := (List.replicate 38 .one)) (ρ := (cellsP p (.slice B m d) ++ cellsP q (.slice B' m' d'))) 100000 tree_overlap (okH _ _) Try.func22 rfl (run_overlap _ _) (by kernel_rfl) (by kernel_rfl) (by kernel_rfl) ?_ ?_
  · rintro W hW s sz cells (⟨rfl, rfl, rfl⟩ | ⟨rfl, rfl, rfl⟩)
    · exact ⟨hp.same0 hW, hmd⟩
    exact ⟨hp'.same0 hW, hmd'⟩
  have hlm : p.needs.length = m := by have := hp.1; rw [intsL_len] at this; omega
  have hlm' : q.needs.length = m' := by have := hp'.1; rw [intsL_len] at this; omega
  have k1 : twoK p (.slice B m d) q (.slice B' m' d') (.slice B m d) 1 (intsL p.needs) := .inl ⟨rfl, rfl, rfl⟩
  have k2 : twoK p (.slice B m d) q (.slice B' m' d') (.slice B' m' d') 1 (intsL q.needs) := .inr ⟨rfl, rfl, rfl⟩
  unfold tree_overlap
  refine SX.E (.int .i64 ((chkP p))) (fun α => ⟨[⟨valP p (.slice B m d), 0, []⟩], ⟨by kernel_rfl, by kernel_rfl, trivial⟩, .inr (.inr (.inl ⟨rfl, p, B, m, d, rfl, k1, by omega, rfl⟩)), SX.noAli rfl⟩) ?_
  refine SX.D (.bool (((chkP p) : Int) != 0)) ?_
  refine SX.B (((chkP p) : Int) != 0) (fun h39 => ?_) (fun h39 => ?_)
  · try simp only [NRM] at h39
    have hfact : (ovV p q, ovE p q) = (false, (chkP p)) := by rw [ovE, if_neg h39]; simp [ovV, h39]
    exact SX.F (.tuple #[.bool false, .int .i64 ((chkP p))]) (by have q1 := congrArg Prod.fst hfact; have q2 := congrArg Prod.snd hfact; simp only at q1 q2; rw [q1, q2])
  try simp only [NRM] at h39
  refine SX.E (.int .i64 ((chkP q))) (fun α => ⟨[⟨valP q (.slice B' m' d'), 0, []⟩], ⟨by kernel_rfl, by kernel_rfl, trivial⟩, .inr (.inr (.inl ⟨rfl, q, B', m', d', rfl, k2, by omega, rfl⟩)), SX.noAli rfl⟩) ?_
  refine SX.D (.bool (((chkP q) : Int) != 0)) ?_
  refine SX.B (((chkP q) : Int) != 0) (fun h41 => ?_) (fun h41 => ?_)
  · try simp only [NRM] at h41
    have hfact : (ovV p q, ovE p q) = (false, (chkP q)) := by rw [ovE, if_pos h39]; simp [ovV, h39, h41]
    exact SX.F (.tuple #[.bool false, .int .i64 ((chkP q))]) (by have q1 := congrArg Prod.fst hfact; have q2 := congrArg Prod.snd hfact; simp only at q1 q2; rw [q1, q2])
  try simp only [NRM] at h41
  refine SX.D (.bool ((p.kind : Int) != 1)) ?_
  refine SX.B ((p.kind : Int) != 1) (fun h42 => ?_) (fun h42 => ?_)
  · try simp only [NRM] at h42
    refine SX.D (.bool ((p.sign : Int) == q.sign)) ?_
    refine SX.B ((p.sign : Int) == q.sign) (fun h43 => ?_) (fun h43 => ?_)
    · try simp only [NRM] at h43
      have hfact : (ovV p q, ovE p q) = (true, 0) := by rw [ovE, if_pos h39, h41]; simp [ovV, h39, h41]; try (first | omega | (rw [Bool.eq_iff_iff]; simp; omega) | (simp_all; done) | (constructor <;> intro hk <;> omega))
      exact SX.F (.tuple #[.bool true, .int .i64 0]) (by have q1 := congrArg Prod.fst hfact; have q2 := congrArg Prod.snd hfact; simp only at q1 q2; rw [q1, q2])
    try simp only [NRM] at h43
    have hfact : (ovV p q, ovE p q) = (false, 0) := by rw [ovE, if_pos h39, h41]; simp [ovV, h39, h41]; try (first | omega | (rw [Bool.eq_iff_iff]; simp; omega) | (simp_all; done) | (constructor <;> intro hk <;> omega))
    exact SX.F (.tuple #[.bool false, .int .i64 0]) (by have q1 := congrArg Prod.fst hfact; have q2 := congrArg Prod.snd hfact; simp only at q1 q2; rw [q1, q2])
  try simp only [NRM] at h42
  refine SX.D (.bool ((q.kind : Int) != 1)) ?_
  refine SX.D (.bool ((p.sign : Int) == q.sign)) ?_
  refine SX.B ((p.sign : Int) == q.sign) (fun h44 => ?_) (fun h44 => ?_)
  · try simp only [NRM] at h44
    refine SX.B ((q.kind : Int) != 1) (fun h43 => ?_) (fun h43 => ?_)
    · try simp only [NRM] at h43
      have hfact : (ovV p q, ovE p q) = (true, 0) := by rw [ovE, if_pos h39, h41]; simp [ovV, h39, h41]; try (first | omega | (rw [Bool.eq_iff_iff]; simp; omega) | (simp_all; done) | (constructor <;> intro hk <;> omega))
      exact SX.F (.tuple #[.bool true, .int .i64 0]) (by have q1 := congrArg Prod.fst hfact; have q2 := congrArg Prod.snd hfact; simp only at q1 q2; rw [q1, q2])
    try simp only [NRM] at h43
    refine SX.D (.bool ((p.field : Int) == q.field)) ?_
    have hfact : (ovV p q, ovE p q) = ((p.field : Int) == q.field, 0) := by rw [ovE, if_pos h39, h41]; simp [ovV, h39, h41]; try (first | omega | (rw [Bool.eq_iff_iff]; simp; omega) | (simp_all; done) | (constructor <;> intro hk <;> omega))
    exact SX.F (.tuple #[.bool ((p.field : Int) == q.field), .int .i64 0]) (by have q1 := congrArg Prod.fst hfact; have q2 := congrArg Prod.snd hfact; simp only at q1 q2; rw [q1, q2])
  try simp only [NRM] at h44
  have hfact : (ovV p q, ovE p q) = (false, 0) := by rw [ovE, if_pos h39, h41]; simp [ovV, h39, h41]; try (first | omega | (rw [Bool.eq_iff_iff]; simp; omega) | (simp_all; done) | (constructor <;> intro hk <;> omega))
  exact SX.F (.tuple #[.bool false, .int .i64 0]) (by have q1 := congrArg Prod.fst hfact; have q2 := congrArg Prod.snd hfact; simp only at q1 q2; rw [q1, q2])
def tree_roverlap : SX.Tree :=
(.df (.call 15 [.no]) [(.a (SX.Z 0 19))] .one
(.df (.bin .neq 32) [(.q 38), (.i 0)] .one
(.br 39 []
(.ret (.t [(.k (.bool false)), (.q 38)]) [] [])
(.df (.call 15 [.no]) [(.a (SX.Z 19 19))] .one
(.df (.bin .neq 32) [(.q 40), (.i 0)] .one
(.br 41 []
(.ret (.t [(.k (.bool false)), (.q 40)]) [] [])
(.df (.bin .eql 3) [(.q 2), (.q 21)] .one
(.br 42 []
(.df (.bin .neq 3) [(.q 1), (.i 1)] .one
(.br 43 []
(.ret (.t [(.k (.bool true)), (.i 0)]) [] [])
(.df (.bin .neq 3) [(.q 20), (.i 1)] .one
(.br 44 []
(.ret (.t [(.k (.bool true)), (.i 0)]) [] [])
(.df (.bin .eql 3) [(.q 3), (.q 22)] .one
(.ret (.t [(.q 45), (.i 0)]) [] []))))))
(.ret (.t [(.k (.bool false)), (.i 0)]) [] [])))))))))
def args_roverlap : List SX.V := [.a ((List.range 19).map fun j => .x j []), .a ((List.range 19).map fun j => .x (19 + j) [])]
set_option maxRecDepth 100000 in
theorem run_roverlap (K A : Value → Nat → List Value → Prop) : (SX.run (cxH K A) ⟨fun _ => false, [], 0, 100⟩ 100000 0 (SX.door 23 Try.f23 args_roverlap (List.replicate 38 .one)) [.code (Try.f23.body.getD .skip), .top Try.f23]).strip = tree_roverlap := by kernel_rfl
set_option maxRecDepth 100000 in
set_option maxHeartbeats 4000000 in
theorem roverlap_any (p q : Pt) (B : Option Addr) (m d : Nat) (B' : Option Addr) (m' d' : Nat) (w : World) (hp : Rd w 1 B m (intsL p.needs)) (hm : m ≤ 9223372036854775807) (hmd : m ≤ d) (hp' : Rd w 1 B' m' (intsL q.needs)) (hm' : m' ≤ 9223372036854775807) (hmd' : m' ≤ d') : Calls Try.prog 23 #[valP p (.slice B m d), valP q (.slice B' m' d')] w fun e w' => e = .returned (.tuple #[.bool (ovV p q), .int .i64 (ovE p q)]) ∧ Below w.heap.size w w' := by
  refine SX.calls_of_run (C := cxH (twoK p (.slice B m d) q (.slice B' m' d')) (fun _ _ _ => False)) (G := ⟨fun _ => false, [], 0, 100⟩) (args := args_roverlap) (sh := (List.replicate 38 .one)) (ρ := (cellsP p (.slice B m d) ++ cellsP q (.slice B' m' d'))) 100000 tree_roverlap (okH _ _) Try.func23 rfl (run_roverlap _ _) (by kernel_rfl) (by kernel_rfl) (by kernel_rfl) ?_ ?_
  · rintro W hW s sz cells (⟨rfl, rfl, rfl⟩ | ⟨rfl, rfl, rfl⟩)
    · exact ⟨hp.same0 hW, hmd⟩
    exact ⟨hp'.same0 hW, hmd'⟩
  have hlm : p.needs.length = m := by have := hp.1; rw [intsL_len] at this; omega
  have hlm' : q.needs.length = m' := by have := hp'.1; rw [intsL_len] at this; omega
  have k1 : twoK p (.slice B m d) q (.slice B' m' d') (.slice B m d) 1 (intsL p.needs) := .inl ⟨rfl, rfl, rfl⟩
  have k2 : twoK p (.slice B m d) q (.slice B' m' d') (.slice B' m' d') 1 (intsL q.needs) := .inr ⟨rfl, rfl, rfl⟩
  unfold tree_roverlap
  refine SX.E (.int .i64 ((chkP p))) (fun α => ⟨[⟨valP p (.slice B m d), 0, []⟩], ⟨by kernel_rfl, by kernel_rfl, trivial⟩, .inr (.inr (.inr (.inl ⟨rfl, p, B, m, d, rfl, k1, by omega, rfl⟩))), SX.noAli rfl⟩) ?_
  refine SX.D (.bool (((chkP p) : Int) != 0)) ?_
  refine SX.B (((chkP p) : Int) != 0) (fun h39 => ?_) (fun h39 => ?_)
  · try simp only [NRM] at h39
    have hfact : (ovV p q, ovE p q) = (false, (chkP p)) := by rw [ovE, if_neg h39]; simp [ovV, h39]
    exact SX.F (.tuple #[.bool false, .int .i64 ((chkP p))]) (by have q1 := congrArg Prod.fst hfact; have q2 := congrArg Prod.snd hfact; simp only at q1 q2; rw [q1, q2])
  try simp only [NRM] at h39
  refine SX.E (.int .i64 ((chkP q))) (fun α => ⟨[⟨valP q (.slice B' m' d'), 0, []⟩], ⟨by kernel_rfl, by kernel_rfl, trivial⟩, .inr (.inr (.inr (.inl ⟨rfl, q, B', m', d', rfl, k2, by omega, rfl⟩))), SX.noAli rfl⟩) ?_
  refine SX.D (.bool (((chkP q) : Int) != 0)) ?_
  refine SX.B (((chkP q) : Int) != 0) (fun h41 => ?_) (fun h41 => ?_)
  · try simp only [NRM] at h41
    have hfact : (ovV p q, ovE p q) = (false, (chkP q)) := by rw [ovE, if_pos h39]; simp [ovV, h39, h41]
    exact SX.F (.tuple #[.bool false, .int .i64 ((chkP q))]) (by have q1 := congrArg Prod.fst hfact; have q2 := congrArg Prod.snd hfact; simp only at q1 q2; rw [q1, q2])
  try simp only [NRM] at h41
  refine SX.D (.bool ((p.sign : Int) == q.sign)) ?_
  refine SX.B ((p.sign : Int) == q.sign) (fun h42 => ?_) (fun h42 => ?_)
  · try simp only [NRM] at h42
    refine SX.D (.bool ((p.kind : Int) != 1)) ?_
    refine SX.B ((p.kind : Int) != 1) (fun h43 => ?_) (fun h43 => ?_)
    · try simp only [NRM] at h43
      have hfact : (ovV p q, ovE p q) = (true, 0) := by rw [ovE, if_pos h39, h41]; simp [ovV, h39, h41]; try (first | omega | (rw [Bool.eq_iff_iff]; simp; omega) | (simp_all; done) | (constructor <;> intro hk <;> omega))
      exact SX.F (.tuple #[.bool true, .int .i64 0]) (by have q1 := congrArg Prod.fst hfact; have q2 := congrArg Prod.snd hfact; simp only at q1 q2; rw [q1, q2])
    try simp only [NRM] at h43
    refine SX.D (.bool ((q.kind : Int) != 1)) ?_
    refine SX.B ((q.kind : Int) != 1) (fun h44 => ?_) (fun h44 => ?_)
    · try simp only [NRM] at h44
      have hfact : (ovV p q, ovE p q) = (true, 0) := by rw [ovE, if_pos h39, h41]; simp [ovV, h39, h41]; try (first | omega | (rw [Bool.eq_iff_iff]; simp; omega) | (simp_all; done) | (constructor <;> intro hk <;> omega))
      exact SX.F (.tuple #[.bool true, .int .i64 0]) (by have q1 := congrArg Prod.fst hfact; have q2 := congrArg Prod.snd hfact; simp only at q1 q2; rw [q1, q2])
    try simp only [NRM] at h44
    refine SX.D (.bool ((p.field : Int) == q.field)) ?_
    have hfact : (ovV p q, ovE p q) = ((p.field : Int) == q.field, 0) := by rw [ovE, if_pos h39, h41]; simp [ovV, h39, h41]; try (first | omega | (rw [Bool.eq_iff_iff]; simp; omega) | (simp_all; done) | (constructor <;> intro hk <;> omega))
    exact SX.F (.tuple #[.bool ((p.field : Int) == q.field), .int .i64 0]) (by have q1 := congrArg Prod.fst hfact; have q2 := congrArg Prod.snd hfact; simp only at q1 q2; rw [q1, q2])
  try simp only [NRM] at h42
  have hfact : (ovV p q, ovE p q) = (false, 0) := by rw [ovE, if_pos h39, h41]; simp [ovV, h39, h41]; try (first | omega | (rw [Bool.eq_iff_iff]; simp; omega) | (simp_all; done) | (constructor <;> intro hk <;> omega))
  exact SX.F (.tuple #[.bool false, .int .i64 0]) (by have q1 := congrArg Prod.fst hfact; have q2 := congrArg Prod.snd hfact; simp only at q1 q2; rw [q1, q2])
def tree_few : SX.Tree :=
(.df (.len false) [(.q 0)] .one
(.df (.bin .leq 3) [(.q 1), (.i 300)] .one
(.br 2 []
(.ret (.k (.bool true)) [] [])
(.df (.len false) [(.q 0)] .one
(.df (.bin .geq 3) [(.q 3), (.i 4094)] .one
(.br 4 []
(.df (.len false) [(.q 0)] .one
(.df (.bin .leq 3) [(.q 5), (.i 5000)] .one
(.ret (.q 6) [] [])))
(.ret (.k (.bool false)) [] [])))))))
def args_few : List SX.V := [.x 0 []]
set_option maxRecDepth 100000 in
theorem run_few (K A : Value → Nat → List Value → Prop) : (SX.run (cx0 K A) ⟨fun _ => false, [], 0, 100⟩ 100000 0 (SX.door 11 Try.f11 args_few [.one]) [.code (Try.f11.body.getD .skip), .top Try.f11]).strip = tree_few := by kernel_rfl
set_option maxRecDepth 100000 in
set_option maxHeartbeats 4000000 in
theorem few_any (ss : List Sg) (A : Option Addr) (n c : Nat) (w : World) (hr : Rd w 14 A n (sgsL ss)) (hn : n ≤ 9223372036854775807) (hc : n ≤ c) : Calls Try.prog 11 #[.slice A n c] w fun e w' => e = .returned (.bool (fewS ss)) ∧ Below w.heap.size w w' := by
  refine SX.calls_of_run (C := cx0 (fun s sz cells => s = .slice A n c ∧ sz = 14 ∧ cells = sgsL ss) (fun _ _ _ => False)) (G := ⟨fun _ => false, [], 0, 100⟩) (args := args_few) (sh := [.one]) (ρ := [.slice A n c]) 100000 tree_few (cx0_ok _ _) Try.func11 rfl (run_few _ _) (by kernel_rfl) (by kernel_rfl) (by kernel_rfl) ?_ ?_
  · rintro W hW s sz cells ⟨rfl, rfl, rfl⟩; exact ⟨hr.same0 hW, hc⟩
  have hln : ss.length = n := by have := hr.1; rw [sgsL_len] at this; omega
  unfold tree_few
  refine SX.D (.int .i64 (((n : Nat) : Int))) ?_
  refine SX.D (.bool (decide (((n : Nat) : Int) ≤ 300))) ?_
  refine SX.B (decide (((n : Nat) : Int) ≤ 300)) (fun h2 => ?_) (fun h2 => ?_)
  · try simp only [NRM] at h2
    exact SX.F (.bool true) (by unfold fewS; rw [hln]; congr 1; first | (symm; rw [decide_eq_true_eq]; omega) | (symm; rw [decide_eq_false_iff_not]; omega) | (rw [decide_eq_decide]; omega))
  try simp only [NRM] at h2
  refine SX.D (.int .i64 (((n : Nat) : Int))) ?_
  refine SX.D (.bool (decide (((n : Nat) : Int) ≥ 4094))) ?_
  refine SX.B (decide (((n : Nat) : Int) ≥ 4094)) (fun h4 => ?_) (fun h4 => ?_)
  · try simp only [NRM] at h4
    refine SX.D (.int .i64 (((n : Nat) : Int))) ?_
    refine SX.D (.bool (decide (((n : Nat) : Int) ≤ 5000))) ?_
    exact SX.F (.bool (decide (((n : Nat) : Int) ≤ 5000))) (by unfold fewS; rw [hln]; congr 1; first | (symm; rw [decide_eq_true_eq]; omega) | (symm; rw [decide_eq_false_iff_not]; omega) | (rw [decide_eq_decide]; omega))
  try simp only [NRM] at h4
  exact SX.F (.bool false) (by unfold fewS; rw [hln]; congr 1; first | (symm; rw [decide_eq_true_eq]; omega) | (symm; rw [decide_eq_false_iff_not]; omega) | (rw [decide_eq_decide]; omega))
def tree_same37 : SX.Tree :=
(.df (.bin .neq 3) [(.q 0), (.q 19)] .one
(.br 38 []
(.ret (.k (.bool false)) [] [])
(.df (.bin .neq 3) [(.q 1), (.q 20)] .one
(.br 39 []
(.ret (.k (.bool false)) [] [])
(.df (.bin .neq 3) [(.q 2), (.q 21)] .one
(.br 40 []
(.ret (.k (.bool false)) [] [])
(.df (.bin .neq 3) [(.q 3), (.q 22)] .one
(.br 41 []
(.ret (.k (.bool false)) [] [])
(.df (.eqr true 14 [(.i .i64), (.i .i64), (.i .i64), (.i .i64), (.i .i64), (.i .i64), (.i .i64), (.i .i64), (.i .i64), (.i .i64), (.i .i64), (.i .i64), (.i .i64), (.i .i64)]) (SX.Z 4 14 ++ SX.Z 23 14) .one
(.br 42 []
(.ret (.k (.bool false)) [] [])
(.df (.len false) [(.q 18)] .one
(.df (.len false) [(.q 37)] .one
(.df (.bin .neq 3) [(.q 43), (.q 44)] .one
(.br 45 []
(.ret (.k (.bool false)) [] [])
(.loop [(.i 0)] [.one]
(.df (.len false) [(.q 18)] .one
(.df (.bin .lss 3) [(.q 46), (.q 47)] .one
(.br 48 []
(.df .bnd [(.q 18), (.q 46)] .one
(.df (.elem 1 0) [(.q 18), (.q 46)] .one
(.df .bnd [(.q 37), (.q 46)] .one
(.df (.elem 1 0) [(.q 37), (.q 46)] .one
(.df (.bin .neq 3) [(.q 50), (.q 52)] .one
(.br 53 []
(.ret (.k (.bool false)) [] [])
(.df (.bin .add 3) [(.q 46), (.i 1)] .one
(.again 0 [(.q 54)]))))))))
(.ret (.k (.bool true)) [] [])))))))))))))))))))
def args_same37 : List SX.V := [.a ((List.range 19).map fun j => .x j []), .a ((List.range 19).map fun j => .x (19 + j) [])]
set_option maxRecDepth 100000 in
theorem run_same37 (K A : Value → Nat → List Value → Prop) : (SX.run (cx0 K A) ⟨fun _ => false, [⟨26, 4, [(.s 5, .one)]⟩], 0, 100⟩ 100000 0 (SX.door 26 Try.f26 args_same37 (List.replicate 38 .one)) [.code (Try.f26.body.getD .skip), .top Try.f26]).strip = tree_same37 := by kernel_rfl
set_option maxRecDepth 100000 in
set_option maxHeartbeats 4000000 in
theorem same37_any (p q : Pt) (B : Option Addr) (m d : Nat) (B' : Option Addr) (m' d' : Nat) (w : World) (hp : Rd w 1 B m (intsL p.needs)) (hm : m ≤ 9223372036854775807) (hmd : m ≤ d) (hp' : Rd w 1 B' m' (intsL q.needs)) (hm' : m' ≤ 9223372036854775807) (hmd' : m' ≤ d') : Calls Try.prog 26 #[valP p (.slice B m d), valP q (.slice B' m' d')] w fun e w' => e = .returned (.bool (decide (p = q))) ∧ Below w.heap.size w w' := by
  refine SX.calls_of_run (C := cx0 (twoK p (.slice B m d) q (.slice B' m' d')) (fun _ _ _ => False)) (G := ⟨fun _ => false, [⟨26, 4, [(.s 5, .one)]⟩], 0, 100⟩) (args := args_same37) (sh := (List.replicate 38 .one)) (ρ := (cellsP p (.slice B m d) ++ cellsP q (.slice B' m' d'))) 100000 tree_same37 (cx0_ok _ _) Try.func26 rfl (run_same37 _ _) (by kernel_rfl) (by kernel_rfl) (by kernel_rfl) ?_ ?_
  · rintro W hW s sz cells (⟨rfl, rfl, rfl⟩ | ⟨rfl, rfl, rfl⟩)
    · exact ⟨hp.same0 hW, hmd⟩
    exact ⟨hp'.same0 hW, hmd'⟩
  have hA := SX.rd_some hp
  have hA' := SX.rd_some hp'
  have hlm : p.needs.length = m := by have := hp.1; rw [intsL_len] at this; omega
  have hlm' : q.needs.length = m' := by have := hp'.1; rw [intsL_len] at this; omega
  have hpq : p = q ↔ p.id = q.id ∧ p.kind = q.kind ∧ p.sign = q.sign ∧ p.field = q.field ∧ p.new = q.new ∧ p.needs = q.needs := by
    cases p; cases q; simp
  unfold tree_same37
  refine SX.D (.bool ((p.id : Int) != q.id)) ?_
  refine SX.B ((p.id : Int) != q.id) (fun h38 => ?_) (fun h38 => ?_)
  · try simp only [NRM] at h38
    exact SX.F (.bool false) (by congr 1; symm; rw [decide_eq_false_iff_not, hpq]; intro hk; exact h38 hk.1)
  try simp only [NRM] at h38
  refine SX.D (.bool ((p.kind : Int) != q.kind)) ?_
  refine SX.B ((p.kind : Int) != q.kind) (fun h39 => ?_) (fun h39 => ?_)
  · try simp only [NRM] at h39
    exact SX.F (.bool false) (by congr 1; symm; rw [decide_eq_false_iff_not, hpq]; intro hk; exact h39 hk.2.1)
  try simp only [NRM] at h39
  refine SX.D (.bool ((p.sign : Int) != q.sign)) ?_
  refine SX.B ((p.sign : Int) != q.sign) (fun h40 => ?_) (fun h40 => ?_)
  · try simp only [NRM] at h40
    exact SX.F (.bool false) (by congr 1; symm; rw [decide_eq_false_iff_not, hpq]; intro hk; exact h40 hk.2.2.1)
  try simp only [NRM] at h40
  refine SX.D (.bool ((p.field : Int) != q.field)) ?_
  refine SX.B ((p.field : Int) != q.field) (fun h41 => ?_) (fun h41 => ?_)
  · try simp only [NRM] at h41
    exact SX.F (.bool false) (by congr 1; symm; rw [decide_eq_false_iff_not, hpq]; intro hk; exact h41 hk.2.2.2.1)
  try simp only [NRM] at h41
  refine SX.E (.bool (true ^^ decide (p.new = q.new))) (fun α => SX.eqr_rel (f := cellsSg) cellsSg_inj (y := p.new) (z := q.new) (by kernel_rfl) (by kernel_rfl) (by kernel_rfl)) ?_
  refine SX.B (true ^^ decide (p.new = q.new)) (fun h42 => ?_) (fun h42 => ?_)
  · try simp only [NRM] at h42
    exact SX.F (.bool false) (by congr 1; symm; rw [decide_eq_false_iff_not, hpq]; intro hk; exact h42 hk.2.2.2.2.1)
  try simp only [NRM] at h42
  refine SX.D (.int .i64 (((m : Nat) : Int))) ?_
  refine SX.D (.int .i64 (((m' : Nat) : Int))) ?_
  refine SX.D (.bool ((((m : Nat) : Int) : Int) != ((m' : Nat) : Int))) ?_
  refine SX.B ((((m : Nat) : Int) : Int) != ((m' : Nat) : Int)) (fun h45 => ?_) (fun h45 => ?_)
  · try simp only [NRM] at h45
    exact SX.F (.bool false) (by congr 1; symm; rw [decide_eq_false_iff_not, hpq]; intro hk; exact h45 (by have := congrArg List.length hk.2.2.2.2.2; omega))
  try simp only [NRM] at h45
  refine SX.VC_loop (fun xs => ∃ i : Nat, xs = [.int .i64 (i : Int)] ∧ i ≤ m ∧ p.needs.take i = q.needs.take i) (fun xs => match xs with | [.int _ i] => m - i.toNat | _ => 0) (fun α => ⟨0, by kernel_rfl, by omega, by simp⟩) ?_
  rintro xs - ⟨i, rfl, him, htk⟩
  refine SX.D (.int .i64 (((m : Nat) : Int))) ?_
  refine SX.D (.bool (decide (((i : Nat) : Int) < ((m : Nat) : Int)))) ?_
  refine SX.B (decide (((i : Nat) : Int) < ((m : Nat) : Int))) (fun h48 => ?_) (fun h48 => ?_)
  · try simp only [NRM] at h48
    obtain ⟨y, hy⟩ : ∃ y, p.needs[i]? = some y := ⟨_, List.getElem?_eq_getElem (by omega)⟩
    obtain ⟨z, hz⟩ : ∃ z, q.needs[i]? = some z := ⟨_, List.getElem?_eq_getElem (by omega)⟩
    refine SX.E (.bool true) (fun α => SX.extBnd (A := B) (n := m) (c := d) (j := i) hA (by kernel_rfl) (by kernel_rfl) (by omega)) ?_
    refine SX.E (.int .i64 y) (fun α => SX.extElem (o := 0) (v := .int .i64 y) (f := cellsI) (l := p.needs) (A := B) (n := m) (c := d) (j := i) (z := y) (fun _ => rfl) hA (by kernel_rfl) (by kernel_rfl) (by omega) (.inl ⟨rfl, rfl, rfl⟩) hy (by decide) (by kernel_rfl)) ?_
    refine SX.E (.bool true) (fun α => SX.extBnd (A := B') (n := m') (c := d') (j := i) hA' (by kernel_rfl) (by kernel_rfl) (by omega)) ?_
    refine SX.E (.int .i64 z) (fun α => SX.extElem (o := 0) (v := .int .i64 z) (f := cellsI) (l := q.needs) (A := B') (n := m') (c := d') (j := i) (z := z) (fun _ => rfl) hA' (by kernel_rfl) (by kernel_rfl) (by omega) (.inr ⟨rfl, rfl, rfl⟩) hz (by decide) (by kernel_rfl)) ?_
    refine SX.D (.bool ((y : Int) != z)) ?_
    refine SX.B ((y : Int) != z) (fun h53 => ?_) (fun h53 => ?_)
    · try simp only [NRM] at h53
      exact SX.F (.bool false) (by congr 1; symm; rw [decide_eq_false_iff_not, hpq]; intro hk; exact h53 (by have := hk.2.2.2.2.2; rw [this] at hy; rw [hy] at hz; exact Option.some.inj hz))
    try simp only [NRM] at h53
    refine SX.E (.int .i64 (((i + 1 : Nat) : Int))) (fun α => SX.W1 i) ?_
    exact SX.VC_again fun α => ⟨⟨i + 1, by kernel_rfl, by omega, by rw [List.take_add_one, List.take_add_one, htk, hy, hz, h53]⟩, cast (by kernel_rfl) (show m - ((i + 1 : Nat) : Int).toNat < m - (i : Int).toNat by omega)⟩
  try simp only [NRM] at h48
  have hne : p.needs = q.needs := by rw [List.take_of_length_le (by omega), List.take_of_length_le (by omega)] at htk; exact htk
  exact SX.F (.bool true) (by congr 1; symm; rw [decide_eq_true_eq, hpq]; exact ⟨h38, h39, h40, h41, h42, hne⟩)
def zeroPt : Pt := ⟨0, 0, 0, 0, zeroSg, []⟩
def invP (ss : List Sg) (p : Pt) (id : Int) : Pt :=
  if p.kind = 1 then ⟨id, 1, p.sign, p.field, setF zeroSg p.field (ss.getD (idx ss p.sign) default), [p.id]⟩
  else if p.kind = 2 then ⟨id, 3, p.sign, 0, zeroSg, [p.id]⟩
  else ⟨id, 2, p.sign, 0, ss.getD (idx ss p.sign) default, [p.id]⟩
def invS (ss : List Sg) (p : Pt) (id : Int) : Pt × Int :=
  if (runS ss [p]).2 = 0 then (if id ≤ p.id ∨ 1048576 < id ∨ (p.kind = 3 ∧ there ss p.sign = false) then (zeroPt, 370) else (invP ss p id, 0)) else (zeroPt, (runS ss [p]).2)
theorem run_ok {ss : List Sg} {p : Pt} (h : (runS ss [p]).2 = 0) : chkS ss = 0 ∧ chkP p = 0 ∧ (applyS ss p).2 = 0 := by
  by_cases h1 : chkS ss = 0
  · by_cases h2 : chkP p = 0
    · rw [run1 h1 h2] at h
      exact ⟨h1, h2, h⟩
    rw [runS, if_pos h1, if_neg (by simp), runL, if_neg h2] at h
    exact absurd h h2
  rw [runS, if_neg h1] at h
  exact absurd h h1
theorem apply_there {ss : List Sg} {p : Pt} (h : (applyS ss p).2 = 0) (hk : p.kind = 1) : there ss p.sign = true := by
  unfold applyS at h
  rw [if_pos hk] at h
  split at h
  · assumption
  simp at h
theorem okP.kinds {p : Pt} (h : okP p) : p.kind = 1 ∨ p.kind = 2 ∨ p.kind = 3 := by
  rcases h.2.2.2 with h | h | h
  · exact .inl h.1
  · exact .inr (.inl h.1)
  exact .inr (.inr h.1)
theorem okP.fld {p : Pt} (h : okP p) (hk : p.kind ≠ 1) : p.field = 0 := by
  rcases h.2.2.2 with h | h | h
  · exact absurd h.1 hk
  · exact h.2.1
  exact h.2.1
theorem okP.fld1 {p : Pt} (h : okP p) (hk : p.kind = 1) : 1 ≤ p.field ∧ p.field ≤ 9 := by
  rcases h.2.2.2 with h | h | h
  · exact ⟨h.2.1, h.2.2.1⟩
  · omega
  omega
def RK (K : Value → Nat → List Value → Prop) (f : FuncId) (xs : List SX.Arg) (v : Value) : Prop :=
  (f = 12 ∧ ∃ (u : Value) (ss : List Sg) (p : Pt) (B : Option Addr) (m d : Nat), xs = [⟨u, 14, sgsL ss⟩, ⟨valP p (.slice B m d), 0, []⟩] ∧ ss.length ≤ 9223372036854775807 ∧ K (.slice B m d) 1 (intsL p.needs) ∧ p.needs.length ≤ 9223372036854775807 ∧ v = .tuple #[.agg (sgsL (runS ss [p]).1).toArray, .int .i64 (runS ss [p]).2]) ∨
  (f = 13 ∧ ∃ (u : Value) (ss : List Sg) (p : Pt) (B : Option Addr) (m d : Nat), xs = [⟨u, 14, sgsL ss⟩, ⟨valP p (.slice B m d), 0, []⟩] ∧ ss.length ≤ 9223372036854775807 ∧ K (.slice B m d) 1 (intsL p.needs) ∧ p.needs.length ≤ 9223372036854775807 ∧ v = .tuple #[.agg (sgsL (runS ss [p]).1).toArray, .int .i64 (runS ss [p]).2]) ∨
  (f = 39 ∧ ∃ (u : Value) (ss : List Sg) (id : Int), xs = [⟨u, 14, sgsL ss⟩, ⟨.int .i64 id, 0, []⟩] ∧ ss.length ≤ 9007199254740992 ∧ okL ss ∧ 0 ≤ id ∧ id ≤ 1048576 ∧ v = .tuple #[.int .i64 (idx ss id), .bool (there ss id)]) ∨
  (f = 40 ∧ ∃ (u : Value) (ss : List Sg) (id : Int), xs = [⟨u, 14, sgsL ss⟩, ⟨.int .i64 id, 0, []⟩] ∧ ss.length ≤ 9223372036854775807 ∧ v = .tuple #[.int .i64 (idx ss id), .bool (there ss id)]) ∨
  (f = 35 ∧ ∃ (x y : Sg) (f : Int), xs = [⟨valSg x, 0, []⟩, ⟨.int .i64 f, 0, []⟩, ⟨valSg y, 0, []⟩] ∧ 1 ≤ f ∧ f ≤ 9 ∧ v = valSg (setF x f y)) ∨
  (f = 29 ∧ ∃ (x y : Sg) (f : Int), xs = [⟨valSg x, 0, []⟩, ⟨.int .i64 f, 0, []⟩, ⟨valSg y, 0, []⟩] ∧ v = valSg (setF x f y))
def shpK : FuncId → Option SX.Sh := fun f => if f = 12 then some (.tp [.sl 14, .one]) else if f = 13 then some (.tp [.sl 14, .one]) else if f = 39 then some (.tp [.one, .one]) else if f = 40 then some (.tp [.one, .one]) else if f = 35 then some (.ag 14) else if f = 29 then some (.ag 14) else none
noncomputable def cxK (K A : Value → Nat → List Value → Prop) : SX.Cx := { P := Try.prog, R := RK, shp := shpK, K := K, A := A, ali := fun f => if f = 12 then [0] else if f = 13 then [0] else [] }
theorem okK (K A : Value → Nat → List Value → Prop) : (cxK K A).Ok := by
  refine SX.Cx.ok_of (fun _ => rfl) ?_
  intro K f xs v W hR hrd hKf
  rcases hR with ⟨rfl, u, ss, p, B, m, d, rfl, hl, hK, hl2, rfl⟩ | ⟨rfl, u, ss, p, B, m, d, rfl, hl, hK, hl2, rfl⟩ | ⟨rfl, u, ss, id, rfl, hl, hs, h0, h1, rfl⟩ | ⟨rfl, u, ss, id, rfl, hl, rfl⟩ | ⟨rfl, x, y, f, rfl, h1, h9, rfl⟩ | ⟨rfl, x, y, f, rfl, rfl⟩
  · refine Calls.mono ?_ fun e w' h => SX.SlRet.ok rfl rfl h
    obtain ⟨A, n, c, rfl, h2, h3, h4⟩ := sgs_arg (hrd ⟨u, 14, sgsL ss⟩ (by simp))
    have hR := hKf _ _ _ hK
    have hm : m ≤ 9223372036854775807 := by have := hR.1.1; simp only [intsL_len] at this; omega
    exact papply_any ss A n c p B m d W h2 (by omega) h3 hR.1 hm hR.2
  · refine Calls.mono ?_ fun e w' h => SX.SlRet.ok rfl rfl h
    obtain ⟨A, n, c, rfl, h2, h3, h4⟩ := sgs_arg (hrd ⟨u, 14, sgsL ss⟩ (by simp))
    have hR := hKf _ _ _ hK
    have hm : m ≤ 9223372036854775807 := by have := hR.1.1; simp only [intsL_len] at this; omega
    exact rapply2_any ss A n c p B m d W h2 (by omega) h3 hR.1 hm hR.2
  · obtain ⟨A, n, c, rfl, h2, h3, h4⟩ := sgs_arg (hrd ⟨u, 14, sgsL ss⟩ (by simp))
    exact (at_any ss A n c id W h2 (by omega) h3 hs h0 h1).mono fun e w' h => SX.plainOk rfl h
  · obtain ⟨A, n, c, rfl, h2, h3, h4⟩ := sgs_arg (hrd ⟨u, 14, sgsL ss⟩ (by simp))
    exact (At_any ss A n c id W h2 (by omega) h3).mono fun e w' h => SX.plainOk rfl h
  · exact (set_any x y f W h1 h9).mono fun e w' h => SX.plainOk rfl h
  exact (Set_any x y f W).mono fun e w' h => SX.plainOk rfl h
def tree_inv : SX.Tree :=
(.df (.call 12 [(.ext 14), .no]) [(.q 0), (.a (SX.Z 1 19))] (.tp [(.sl 14), .one])
(.df (.bin .neq 32) [(.x 21 [1]), (.i 0)] .one
(.br 22 []
(.ret (.t [(.a [(.i 0), (.i 0), (.i 0), (.i 0), (.i 0), (.i 0), (.i 0), (.i 0), (.i 0), (.i 0), (.i 0), (.i 0), (.i 0), (.i 0), (.i 0), (.i 0), (.i 0), (.i 0), (.k (.slice none 0 0))]), (.x 21 [1])]) [none, none, none] [])
(.df (.call 39 [(.ext 14), .no]) [(.q 0), (.q 3)] (.tp [.one, .one])
(.df (.bin .leq 3) [(.q 20), (.q 1)] .one
(.br 24 []
(.ret (.t [(.a [(.i 0), (.i 0), (.i 0), (.i 0), (.i 0), (.i 0), (.i 0), (.i 0), (.i 0), (.i 0), (.i 0), (.i 0), (.i 0), (.i 0), (.i 0), (.i 0), (.i 0), (.i 0), (.k (.slice none 0 0))]), (.i 370)]) [none, none, none] [])
(.df (.bin .gtr 3) [(.q 20), (.i 1048576)] .one
(.br 25 []
(.ret (.t [(.a [(.i 0), (.i 0), (.i 0), (.i 0), (.i 0), (.i 0), (.i 0), (.i 0), (.i 0), (.i 0), (.i 0), (.i 0), (.i 0), (.i 0), (.i 0), (.i 0), (.i 0), (.i 0), (.k (.slice none 0 0))]), (.i 370)]) [none, none, none] [])
(.df (.bin .eql 3) [(.q 2), (.i 3)] .one
(.br 26 []
(.df .not [(.x 23 [1])] .one
(.br 27 []
(.ret (.t [(.a [(.i 0), (.i 0), (.i 0), (.i 0), (.i 0), (.i 0), (.i 0), (.i 0), (.i 0), (.i 0), (.i 0), (.i 0), (.i 0), (.i 0), (.i 0), (.i 0), (.i 0), (.i 0), (.k (.slice none 0 0))]), (.i 370)]) [none, none, none] [])
(.df (.bin .eql 3) [(.q 2), (.i 1)] .one
(.br 28 []
(.df .bnd [(.q 0), (.x 23 [0])] .one
(.df (.elems 14 0 14) [(.q 0), (.x 23 [0])] (.ag 14)
(.df (.call 35 [.no, .no, .no]) [(.a [(.i 0), (.i 0), (.i 0), (.i 0), (.i 0), (.i 0), (.i 0), (.i 0), (.i 0), (.i 0), (.i 0), (.i 0), (.i 0), (.i 0)]), (.q 4), (.a (SX.Y 30 0 14))] (.ag 14)
(.ret (.t [(.a [(.q 20), (.q 2), (.q 3), (.q 4), (.x 31 [0]), (.x 31 [1]), (.x 31 [2]), (.x 31 [3]), (.x 31 [4]), (.x 31 [5]), (.x 31 [6]), (.x 31 [7]), (.x 31 [8]), (.x 31 [9]), (.x 31 [10]), (.x 31 [11]), (.x 31 [12]), (.x 31 [13]), (.sl 3 0 1 1)]), (.i 0)]) [none, none, none, (some ⟨[(.q 1)], 3, .cells⟩), none, none, none, none, none, none, none, none, none, none, none] []))))
(.df (.bin .eql 3) [(.q 2), (.i 2)] .one
(.br 29 []
(.ret (.t [(.a [(.q 20), (.i 3), (.q 3), (.q 4), (.i 0), (.i 0), (.i 0), (.i 0), (.i 0), (.i 0), (.i 0), (.i 0), (.i 0), (.i 0), (.i 0), (.i 0), (.i 0), (.i 0), (.sl 3 0 1 1)]), (.i 0)]) [none, none, none, (some ⟨[(.q 1)], 3, .cells⟩)] [])
(.df .bnd [(.q 0), (.x 23 [0])] .one
(.df (.elems 14 0 14) [(.q 0), (.x 23 [0])] (.ag 14)
(.ret (.t [(.a [(.q 20), (.i 2), (.q 3), (.q 4), (.x 31 [0]), (.x 31 [1]), (.x 31 [2]), (.x 31 [3]), (.x 31 [4]), (.x 31 [5]), (.x 31 [6]), (.x 31 [7]), (.x 31 [8]), (.x 31 [9]), (.x 31 [10]), (.x 31 [11]), (.x 31 [12]), (.x 31 [13]), (.sl 3 0 1 1)]), (.i 0)]) [none, none, none, (some ⟨[(.q 1)], 3, .cells⟩), none, none, none, none, none, none, none, none] [])))))))))
(.df (.bin .eql 3) [(.q 2), (.i 1)] .one
(.br 27 []
(.df .bnd [(.q 0), (.x 23 [0])] .one
(.df (.elems 14 0 14) [(.q 0), (.x 23 [0])] (.ag 14)
(.df (.call 35 [.no, .no, .no]) [(.a [(.i 0), (.i 0), (.i 0), (.i 0), (.i 0), (.i 0), (.i 0), (.i 0), (.i 0), (.i 0), (.i 0), (.i 0), (.i 0), (.i 0)]), (.q 4), (.a (SX.Y 29 0 14))] (.ag 14)
(.ret (.t [(.a [(.q 20), (.q 2), (.q 3), (.q 4), (.x 30 [0]), (.x 30 [1]), (.x 30 [2]), (.x 30 [3]), (.x 30 [4]), (.x 30 [5]), (.x 30 [6]), (.x 30 [7]), (.x 30 [8]), (.x 30 [9]), (.x 30 [10]), (.x 30 [11]), (.x 30 [12]), (.x 30 [13]), (.sl 3 0 1 1)]), (.i 0)]) [none, none, none, (some ⟨[(.q 1)], 3, .cells⟩), none, none, none, none, none, none, none, none, none, none, none] []))))
(.df (.bin .eql 3) [(.q 2), (.i 2)] .one
(.br 28 []
(.ret (.t [(.a [(.q 20), (.i 3), (.q 3), (.q 4), (.i 0), (.i 0), (.i 0), (.i 0), (.i 0), (.i 0), (.i 0), (.i 0), (.i 0), (.i 0), (.i 0), (.i 0), (.i 0), (.i 0), (.sl 3 0 1 1)]), (.i 0)]) [none, none, none, (some ⟨[(.q 1)], 3, .cells⟩)] [])
(.df .bnd [(.q 0), (.x 23 [0])] .one
(.df (.elems 14 0 14) [(.q 0), (.x 23 [0])] (.ag 14)
(.ret (.t [(.a [(.q 20), (.i 2), (.q 3), (.q 4), (.x 30 [0]), (.x 30 [1]), (.x 30 [2]), (.x 30 [3]), (.x 30 [4]), (.x 30 [5]), (.x 30 [6]), (.x 30 [7]), (.x 30 [8]), (.x 30 [9]), (.x 30 [10]), (.x 30 [11]), (.x 30 [12]), (.x 30 [13]), (.sl 3 0 1 1)]), (.i 0)]) [none, none, none, (some ⟨[(.q 1)], 3, .cells⟩), none, none, none, none, none, none, none, none] [])))))))))))))))))
def args_inv : List SX.V := [.x 0 [], .a ((List.range 19).map fun j => .x (1 + j) []), .x 20 []]
set_option maxRecDepth 100000 in
theorem run_inv (K A : Value → Nat → List Value → Prop) : (SX.run (cxK K A) ⟨fun _ => false, [], 2, 100⟩ 100000 0 (SX.door 20 Try.f20 args_inv (List.replicate 21 .one)) [.code (Try.f20.body.getD .skip), .top Try.f20]).strip = tree_inv := by kernel_rfl
set_option maxRecDepth 100000 in
set_option maxHeartbeats 4000000 in
theorem inv_any (ss : List Sg) (A : Option Addr) (n c : Nat) (p : Pt) (B : Option Addr) (m d : Nat) (id : Int) (w : World) (hr : Rd w 14 A n (sgsL ss)) (hn : n ≤ 9223372036854775807) (hc : n ≤ c) (hp : Rd w 1 B m (intsL p.needs)) (hm : m ≤ 9223372036854775807) (hmd : m ≤ d) : Calls Try.prog 20 #[.slice A n c, valP p (.slice B m d), .int .i64 id] w fun e w' => Below w.heap.size w w' ∧ ∃ hdr, e = .returned (.tuple #[valP (invS ss p id).1 hdr, .int .i64 (invS ss p id).2]) ∧ SX.SlRet w w' [] hdr 1 (intsL (invS ss p id).1.needs) := by
  refine SX.calls_of_run (C := cxK (apK A n c ss p (.slice B m d)) (runA A n c ss)) (G := ⟨fun _ => false, [], 2, 100⟩) (args := args_inv) (sh := (List.replicate 21 .one)) (ρ := ([.slice A n c] ++ cellsP p (.slice B m d) ++ [.int .i64 id])) 100000 tree_inv (okK _ _) Try.func20 rfl (run_inv _ _) (by kernel_rfl) (by kernel_rfl) (by kernel_rfl) ?_ ?_
  · rintro W hW s sz cells (⟨rfl, rfl, rfl⟩ | ⟨rfl, rfl, rfl⟩)
    · exact ⟨hr.same0 hW, hc⟩
    exact ⟨hp.same0 hW, hmd⟩
  have hA := SX.rd_some hr
  have hln : ss.length = n := by have := hr.1; rw [sgsL_len] at this; omega
  have hlm : p.needs.length = m := by have := hp.1; rw [intsL_len] at this; omega
  have k1 : apK A n c ss p (.slice B m d) (.slice A n c) 14 (sgsL ss) := .inl ⟨rfl, rfl, rfl⟩
  have k2 : apK A n c ss p (.slice B m d) (.slice B m d) 1 (intsL p.needs) := .inr ⟨rfl, rfl, rfl⟩
  have a1 : runA A n c ss (.slice A n c) 14 (sgsL ss) := ⟨rfl, rfl, rfl⟩
  unfold tree_inv
  refine SX.VC_df (.tuple #[Value.agg (sgsL (runS ss [p]).1).toArray, .int .i64 ((runS ss [p]).2)]) (fun α => ⟨[⟨.slice A n c, 14, sgsL ss⟩, ⟨valP p (.slice B m d), 0, []⟩], ⟨by kernel_rfl, rfl, cast (by kernel_rfl) k1, by kernel_rfl, by kernel_rfl, trivial⟩, .inl ⟨rfl, _, ss, p, B, m, d, rfl, by omega, k2, by omega, rfl⟩, fun j hj x sz hx h => match j, hx, h with | 0, hx, _ => by (cases hx; exact cast (by kernel_rfl) a1) | 1, _, h => by cases h | _ + 2, _, h => by cases h⟩) (sgs_fit _ _) ?_
  refine SX.D (.bool (((runS ss [p]).2 : Int) != 0)) ?_
  refine SX.B (((runS ss [p]).2 : Int) != 0) (fun h22 => ?_) (fun h22 => ?_)
  · try simp only [NRM] at h22
    have hfact : invS ss p id = (zeroPt, (runS ss [p]).2) := by rw [invS, if_neg h22]
    exact SX.VC_ret fun α W _ _ hS => ⟨hS.below, (.slice none 0 0), Eq.trans (b := Ending.returned (.tuple #[valP zeroPt (.slice none 0 0), .int .i64 ((runS ss [p]).2)])) (by kernel_rfl) (by rw [hfact]), (by rw [hfact]; exact SX.SlRet.nil)⟩
  try simp only [NRM] at h22
  obtain ⟨hs0, hp0, ha0⟩ := run_ok h22
  have hok := chkP_ok hp0
  have hth : p.kind = 1 → there ss p.sign = true := fun hk => apply_there ha0 hk
  have hkk : p.kind = 1 ∨ p.kind = 2 ∨ p.kind = 3 := hok.kinds
  have hfl : p.kind ≠ 1 → p.field = 0 := hok.fld
  have hff : p.kind = 1 → 1 ≤ p.field ∧ p.field ≤ 9 := hok.fld1
  refine SX.E (.tuple #[.int .i64 (((idx ss p.sign : Nat) : Int)), .bool (there ss p.sign)]) (fun α => ⟨[⟨.slice A n c, 14, sgsL ss⟩, ⟨.int .i64 p.sign, 0, []⟩], ⟨by kernel_rfl, rfl, cast (by kernel_rfl) k1, by kernel_rfl, by kernel_rfl, trivial⟩, .inr (.inr (.inl ⟨rfl, _, ss, p.sign, rfl, by have := (chkS_ok hs0).2; omega, (chkS_ok hs0).1, hok.2.1.1, hok.2.1.2, rfl⟩)), SX.noAli rfl⟩) ?_
  refine SX.D (.bool (decide (id ≤ p.id))) ?_
  refine SX.B (decide (id ≤ p.id)) (fun h24 => ?_) (fun h24 => ?_)
  · try simp only [NRM] at h24
    have hfact : invS ss p id = (zeroPt, 370) := by rw [invS, if_pos h22, if_pos (by first | (left; omega) | (right; left; omega) | (right; right; refine ⟨by omega, ?_⟩; simpa using h27))]
    exact SX.VC_ret fun α W _ _ hS => ⟨hS.below, (.slice none 0 0), Eq.trans (b := Ending.returned (.tuple #[valP zeroPt (.slice none 0 0), .int .i64 370])) (by kernel_rfl) (by rw [hfact]), (by rw [hfact]; exact SX.SlRet.nil)⟩
  try simp only [NRM] at h24
  refine SX.D (.bool (decide (id > 1048576))) ?_
  refine SX.B (decide (id > 1048576)) (fun h25 => ?_) (fun h25 => ?_)
  · try simp only [NRM] at h25
    have hfact : invS ss p id = (zeroPt, 370) := by rw [invS, if_pos h22, if_pos (by first | (left; omega) | (right; left; omega) | (right; right; refine ⟨by omega, ?_⟩; simpa using h27))]
    exact SX.VC_ret fun α W _ _ hS => ⟨hS.below, (.slice none 0 0), Eq.trans (b := Ending.returned (.tuple #[valP zeroPt (.slice none 0 0), .int .i64 370])) (by kernel_rfl) (by rw [hfact]), (by rw [hfact]; exact SX.SlRet.nil)⟩
  try simp only [NRM] at h25
  refine SX.D (.bool ((p.kind : Int) == 3)) ?_
  refine SX.B ((p.kind : Int) == 3) (fun h26 => ?_) (fun h26 => ?_)
  · try simp only [NRM] at h26
    refine SX.D (.bool (!(there ss p.sign))) ?_
    refine SX.B (!(there ss p.sign)) (fun h27 => ?_) (fun h27 => ?_)
    · try simp only [NRM] at h27
      have hfact : invS ss p id = (zeroPt, 370) := by rw [invS, if_pos h22, if_pos (by first | (left; omega) | (right; left; omega) | (right; right; refine ⟨by omega, ?_⟩; simpa using h27))]
      exact SX.VC_ret fun α W _ _ hS => ⟨hS.below, (.slice none 0 0), Eq.trans (b := Ending.returned (.tuple #[valP zeroPt (.slice none 0 0), .int .i64 370])) (by kernel_rfl) (by rw [hfact]), (by rw [hfact]; exact SX.SlRet.nil)⟩
    try simp only [NRM] at h27
    refine SX.D (.bool ((p.kind : Int) == 1)) ?_
    refine SX.B ((p.kind : Int) == 1) (fun h28 => absurd h28 (by simp only [beq_iff_eq]; omega)) (fun h28 => ?_)
    try simp only [NRM] at h28
    refine SX.D (.bool ((p.kind : Int) == 2)) ?_
    refine SX.B ((p.kind : Int) == 2) (fun h29 => absurd h29 (by simp only [beq_iff_eq]; omega)) (fun h29 => ?_)
    try simp only [NRM] at h29
    obtain ⟨z, hz⟩ := there_lt (show there ss p.sign = true by first | exact hth (by omega) | simpa using h27 | simp_all)
    have hil : idx ss p.sign < ss.length := (List.getElem?_eq_some_iff.1 hz).1
    refine SX.E (.bool true) (fun α => SX.extBnd (A := A) (n := n) (c := c) (j := idx ss p.sign) hA (by kernel_rfl) (by kernel_rfl) (by omega)) ?_
    refine SX.E (.agg (cellsSg z).toArray) (fun α => SX.extElems (f := cellsSg) (l := ss) (A := A) (n := n) (c := c) (j := idx ss p.sign) (z := z) (fun _ => rfl) hA (by kernel_rfl) (by kernel_rfl) (by omega) k1 hz) ?_
    have hfact : invS ss p id = ((⟨id, 2, p.sign, p.field, z, [p.id]⟩ : Pt), 0) := by
      rw [invS, if_pos h22, if_neg (by rintro (h | h | ⟨h, h'⟩) <;> first | omega | simp_all)]
      unfold invP
      first
        | (rw [if_pos (by omega : p.kind = 1)]; simp only [List.getD_eq_getElem?_getD, hz, Option.getD_some]; done)
        | (rw [if_pos (by omega : p.kind = 1)]; (try simp_all [List.getD_eq_getElem?_getD]); done)
        | (rw [if_neg (by omega : ¬ p.kind = 1), if_pos (by omega : p.kind = 2)]; (try simp_all); done)
        | (rw [if_neg (by omega : ¬ p.kind = 1), if_neg (by omega : ¬ p.kind = 2)]; (try simp_all [List.getD_eq_getElem?_getD]); done)
    exact SX.VC_ret fun α W _ _ hS => ⟨hS.below, (.slice (some ⟨(α 3).b, 0, none⟩) 1 1), Eq.trans (b := Ending.returned (.tuple #[valP ⟨id, 2, p.sign, p.field, z, [p.id]⟩ (.slice (some ⟨(α 3).b, 0, none⟩) 1 1), .int .i64 0])) (by kernel_rfl) (by rw [hfact]), (by rw [hfact]; exact SX.SlRet.own hS (n := 3) (b := (⟨[(.x 1 [])], 3, .cells⟩ : SX.Blk)) (by kernel_rfl) rfl (Eq.trans (b := [Value.int .i64 p.id]) (by kernel_rfl) rfl) rfl)⟩
  try simp only [NRM] at h26
  refine SX.D (.bool ((p.kind : Int) == 1)) ?_
  refine SX.B ((p.kind : Int) == 1) (fun h27 => ?_) (fun h27 => ?_)
  · try simp only [NRM] at h27
    obtain ⟨z, hz⟩ := there_lt (show there ss p.sign = true by first | exact hth (by omega) | simpa using h27 | simp_all)
    have hil : idx ss p.sign < ss.length := (List.getElem?_eq_some_iff.1 hz).1
    refine SX.E (.bool true) (fun α => SX.extBnd (A := A) (n := n) (c := c) (j := idx ss p.sign) hA (by kernel_rfl) (by kernel_rfl) (by omega)) ?_
    refine SX.E (.agg (cellsSg z).toArray) (fun α => SX.extElems (f := cellsSg) (l := ss) (A := A) (n := n) (c := c) (j := idx ss p.sign) (z := z) (fun _ => rfl) hA (by kernel_rfl) (by kernel_rfl) (by omega) k1 hz) ?_
    obtain ⟨hf1, hf9⟩ := hff (by omega)
    refine SX.E (valSg (setF zeroSg p.field z)) (fun α => ⟨[⟨valSg zeroSg, 0, []⟩, ⟨.int .i64 p.field, 0, []⟩, ⟨valSg z, 0, []⟩], ⟨by kernel_rfl, by kernel_rfl, by kernel_rfl, by kernel_rfl, by kernel_rfl, by kernel_rfl, trivial⟩, .inr (.inr (.inr (.inr (.inl ⟨rfl, zeroSg, z, p.field, rfl, hf1, hf9, rfl⟩)))), SX.noAli rfl⟩) ?_
    have hfact : invS ss p id = ((⟨id, p.kind, p.sign, p.field, (setF zeroSg p.field z), [p.id]⟩ : Pt), 0) := by
      rw [invS, if_pos h22, if_neg (by rintro (h | h | ⟨h, h'⟩) <;> first | omega | simp_all)]
      unfold invP
      first
        | (rw [if_pos (by omega : p.kind = 1)]; simp only [List.getD_eq_getElem?_getD, hz, Option.getD_some]; done)
        | (rw [if_pos (by omega : p.kind = 1)]; (try simp_all [List.getD_eq_getElem?_getD]); done)
        | (rw [if_neg (by omega : ¬ p.kind = 1), if_pos (by omega : p.kind = 2)]; (try simp_all); done)
        | (rw [if_neg (by omega : ¬ p.kind = 1), if_neg (by omega : ¬ p.kind = 2)]; (try simp_all [List.getD_eq_getElem?_getD]); done)
    exact SX.VC_ret fun α W _ _ hS => ⟨hS.below, (.slice (some ⟨(α 3).b, 0, none⟩) 1 1), Eq.trans (b := Ending.returned (.tuple #[valP ⟨id, p.kind, p.sign, p.field, (setF zeroSg p.field z), [p.id]⟩ (.slice (some ⟨(α 3).b, 0, none⟩) 1 1), .int .i64 0])) (by kernel_rfl) (by rw [hfact]), (by rw [hfact]; exact SX.SlRet.own hS (n := 3) (b := (⟨[(.x 1 [])], 3, .cells⟩ : SX.Blk)) (by kernel_rfl) rfl (Eq.trans (b := [Value.int .i64 p.id]) (by kernel_rfl) rfl) rfl)⟩
  try simp only [NRM] at h27
  refine SX.D (.bool ((p.kind : Int) == 2)) ?_
  refine SX.B ((p.kind : Int) == 2) (fun h28 => ?_) (fun h28 => absurd h28 (by simp only [beq_eq_false_iff_ne, ne_eq, Decidable.not_not]; omega))
  try simp only [NRM] at h28
  have hfact : invS ss p id = ((⟨id, 3, p.sign, p.field, zeroSg, [p.id]⟩ : Pt), 0) := by
    rw [invS, if_pos h22, if_neg (by rintro (h | h | ⟨h, h'⟩) <;> first | omega | simp_all)]
    unfold invP
    first
      | (rw [if_pos (by omega : p.kind = 1)]; simp only [List.getD_eq_getElem?_getD, hz, Option.getD_some]; done)
      | (rw [if_pos (by omega : p.kind = 1)]; (try simp_all [List.getD_eq_getElem?_getD]); done)
      | (rw [if_neg (by omega : ¬ p.kind = 1), if_pos (by omega : p.kind = 2)]; (try simp_all); done)
      | (rw [if_neg (by omega : ¬ p.kind = 1), if_neg (by omega : ¬ p.kind = 2)]; (try simp_all [List.getD_eq_getElem?_getD]); done)
  exact SX.VC_ret fun α W _ _ hS => ⟨hS.below, (.slice (some ⟨(α 3).b, 0, none⟩) 1 1), Eq.trans (b := Ending.returned (.tuple #[valP ⟨id, 3, p.sign, p.field, zeroSg, [p.id]⟩ (.slice (some ⟨(α 3).b, 0, none⟩) 1 1), .int .i64 0])) (by kernel_rfl) (by rw [hfact]), (by rw [hfact]; exact SX.SlRet.own hS (n := 3) (b := (⟨[(.x 1 [])], 3, .cells⟩ : SX.Blk)) (by kernel_rfl) rfl (Eq.trans (b := [Value.int .i64 p.id]) (by kernel_rfl) rfl) rfl)⟩
def tree_rinv : SX.Tree :=
(.df (.call 13 [(.ext 14), .no]) [(.q 0), (.a (SX.Z 1 19))] (.tp [(.sl 14), .one])
(.df (.bin .neq 32) [(.x 21 [1]), (.i 0)] .one
(.br 22 []
(.ret (.t [(.a [(.i 0), (.i 0), (.i 0), (.i 0), (.i 0), (.i 0), (.i 0), (.i 0), (.i 0), (.i 0), (.i 0), (.i 0), (.i 0), (.i 0), (.i 0), (.i 0), (.i 0), (.i 0), (.k (.slice none 0 0))]), (.x 21 [1])]) [none, none, none] [])
(.df (.call 40 [(.ext 14), .no]) [(.q 0), (.q 3)] (.tp [.one, .one])
(.df (.bin .leq 3) [(.q 20), (.q 1)] .one
(.br 24 []
(.ret (.t [(.a [(.i 0), (.i 0), (.i 0), (.i 0), (.i 0), (.i 0), (.i 0), (.i 0), (.i 0), (.i 0), (.i 0), (.i 0), (.i 0), (.i 0), (.i 0), (.i 0), (.i 0), (.i 0), (.k (.slice none 0 0))]), (.i 370)]) [none, none, none] [])
(.df (.bin .gtr 3) [(.q 20), (.i 1048576)] .one
(.br 25 []
(.ret (.t [(.a [(.i 0), (.i 0), (.i 0), (.i 0), (.i 0), (.i 0), (.i 0), (.i 0), (.i 0), (.i 0), (.i 0), (.i 0), (.i 0), (.i 0), (.i 0), (.i 0), (.i 0), (.i 0), (.k (.slice none 0 0))]), (.i 370)]) [none, none, none] [])
(.df (.bin .eql 3) [(.q 2), (.i 3)] .one
(.br 26 []
(.df .not [(.x 23 [1])] .one
(.br 27 []
(.ret (.t [(.a [(.i 0), (.i 0), (.i 0), (.i 0), (.i 0), (.i 0), (.i 0), (.i 0), (.i 0), (.i 0), (.i 0), (.i 0), (.i 0), (.i 0), (.i 0), (.i 0), (.i 0), (.i 0), (.k (.slice none 0 0))]), (.i 370)]) [none, none, none] [])
(.df (.bin .eql 3) [(.q 2), (.i 1)] .one
(.br 28 []
(.df .bnd [(.q 0), (.x 23 [0])] .one
(.df (.elems 14 0 14) [(.q 0), (.x 23 [0])] (.ag 14)
(.df (.call 29 [.no, .no, .no]) [(.a [(.i 0), (.i 0), (.i 0), (.i 0), (.i 0), (.i 0), (.i 0), (.i 0), (.i 0), (.i 0), (.i 0), (.i 0), (.i 0), (.i 0)]), (.q 4), (.a (SX.Y 30 0 14))] (.ag 14)
(.ret (.t [(.a [(.q 20), (.i 1), (.q 3), (.q 4), (.x 31 [0]), (.x 31 [1]), (.x 31 [2]), (.x 31 [3]), (.x 31 [4]), (.x 31 [5]), (.x 31 [6]), (.x 31 [7]), (.x 31 [8]), (.x 31 [9]), (.x 31 [10]), (.x 31 [11]), (.x 31 [12]), (.x 31 [13]), (.sl 3 0 1 1)]), (.i 0)]) [none, none, none, (some ⟨[(.q 1)], 3, .cells⟩), none, none, none, none, none, none, none, none, none, none, none] []))))
(.df (.bin .eql 3) [(.q 2), (.i 2)] .one
(.br 29 []
(.ret (.t [(.a [(.q 20), (.i 3), (.q 3), (.i 0), (.i 0), (.i 0), (.i 0), (.i 0), (.i 0), (.i 0), (.i 0), (.i 0), (.i 0), (.i 0), (.i 0), (.i 0), (.i 0), (.i 0), (.sl 3 0 1 1)]), (.i 0)]) [none, none, none, (some ⟨[(.q 1)], 3, .cells⟩), none] [])
(.df (.bin .eql 3) [(.q 2), (.i 3)] .one
(.br 30 []
(.df .bnd [(.q 0), (.x 23 [0])] .one
(.df (.elems 14 0 14) [(.q 0), (.x 23 [0])] (.ag 14)
(.ret (.t [(.a [(.q 20), (.i 2), (.q 3), (.i 0), (.x 32 [0]), (.x 32 [1]), (.x 32 [2]), (.x 32 [3]), (.x 32 [4]), (.x 32 [5]), (.x 32 [6]), (.x 32 [7]), (.x 32 [8]), (.x 32 [9]), (.x 32 [10]), (.x 32 [11]), (.x 32 [12]), (.x 32 [13]), (.sl 3 0 1 1)]), (.i 0)]) [none, none, none, (some ⟨[(.q 1)], 3, .cells⟩), none] [])))
(.ret (.t [(.a [(.q 20), (.i 0), (.q 3), (.i 0), (.i 0), (.i 0), (.i 0), (.i 0), (.i 0), (.i 0), (.i 0), (.i 0), (.i 0), (.i 0), (.i 0), (.i 0), (.i 0), (.i 0), (.sl 3 0 1 1)]), (.i 0)]) [none, none, none, (some ⟨[(.q 1)], 3, .cells⟩), none] [])))))))))
(.df (.bin .eql 3) [(.q 2), (.i 1)] .one
(.br 27 []
(.df .bnd [(.q 0), (.x 23 [0])] .one
(.df (.elems 14 0 14) [(.q 0), (.x 23 [0])] (.ag 14)
(.df (.call 29 [.no, .no, .no]) [(.a [(.i 0), (.i 0), (.i 0), (.i 0), (.i 0), (.i 0), (.i 0), (.i 0), (.i 0), (.i 0), (.i 0), (.i 0), (.i 0), (.i 0)]), (.q 4), (.a (SX.Y 29 0 14))] (.ag 14)
(.ret (.t [(.a [(.q 20), (.i 1), (.q 3), (.q 4), (.x 30 [0]), (.x 30 [1]), (.x 30 [2]), (.x 30 [3]), (.x 30 [4]), (.x 30 [5]), (.x 30 [6]), (.x 30 [7]), (.x 30 [8]), (.x 30 [9]), (.x 30 [10]), (.x 30 [11]), (.x 30 [12]), (.x 30 [13]), (.sl 3 0 1 1)]), (.i 0)]) [none, none, none, (some ⟨[(.q 1)], 3, .cells⟩), none, none, none, none, none, none, none, none, none, none, none] []))))
(.df (.bin .eql 3) [(.q 2), (.i 2)] .one
(.br 28 []
(.ret (.t [(.a [(.q 20), (.i 3), (.q 3), (.i 0), (.i 0), (.i 0), (.i 0), (.i 0), (.i 0), (.i 0), (.i 0), (.i 0), (.i 0), (.i 0), (.i 0), (.i 0), (.i 0), (.i 0), (.sl 3 0 1 1)]), (.i 0)]) [none, none, none, (some ⟨[(.q 1)], 3, .cells⟩), none] [])
(.df (.bin .eql 3) [(.q 2), (.i 3)] .one
(.br 29 []
(.df .bnd [(.q 0), (.x 23 [0])] .one
(.df (.elems 14 0 14) [(.q 0), (.x 23 [0])] (.ag 14)
(.ret (.t [(.a [(.q 20), (.i 2), (.q 3), (.i 0), (.x 31 [0]), (.x 31 [1]), (.x 31 [2]), (.x 31 [3]), (.x 31 [4]), (.x 31 [5]), (.x 31 [6]), (.x 31 [7]), (.x 31 [8]), (.x 31 [9]), (.x 31 [10]), (.x 31 [11]), (.x 31 [12]), (.x 31 [13]), (.sl 3 0 1 1)]), (.i 0)]) [none, none, none, (some ⟨[(.q 1)], 3, .cells⟩), none] [])))
(.ret (.t [(.a [(.q 20), (.i 0), (.q 3), (.i 0), (.i 0), (.i 0), (.i 0), (.i 0), (.i 0), (.i 0), (.i 0), (.i 0), (.i 0), (.i 0), (.i 0), (.i 0), (.i 0), (.i 0), (.sl 3 0 1 1)]), (.i 0)]) [none, none, none, (some ⟨[(.q 1)], 3, .cells⟩), none] [])))))))))))))))))
def args_rinv : List SX.V := [.x 0 [], .a ((List.range 19).map fun j => .x (1 + j) []), .x 20 []]
set_option maxRecDepth 100000 in
theorem run_rinv (K A : Value → Nat → List Value → Prop) : (SX.run (cxK K A) ⟨fun _ => false, [], 2, 100⟩ 100000 0 (SX.door 21 Try.f21 args_rinv (List.replicate 21 .one)) [.code (Try.f21.body.getD .skip), .top Try.f21]).strip = tree_rinv := by kernel_rfl
set_option maxRecDepth 100000 in
set_option maxHeartbeats 4000000 in
theorem rinv_any (ss : List Sg) (A : Option Addr) (n c : Nat) (p : Pt) (B : Option Addr) (m d : Nat) (id : Int) (w : World) (hr : Rd w 14 A n (sgsL ss)) (hn : n ≤ 9223372036854775807) (hc : n ≤ c) (hp : Rd w 1 B m (intsL p.needs)) (hm : m ≤ 9223372036854775807) (hmd : m ≤ d) : Calls Try.prog 21 #[.slice A n c, valP p (.slice B m d), .int .i64 id] w fun e w' => Below w.heap.size w w' ∧ ∃ hdr, e = .returned (.tuple #[valP (invS ss p id).1 hdr, .int .i64 (invS ss p id).2]) ∧ SX.SlRet w w' [] hdr 1 (intsL (invS ss p id).1.needs) := by
  refine SX.calls_of_run (C := cxK (apK A n c ss p (.slice B m d)) (runA A n c ss)) (G := ⟨fun _ => false, [], 2, 100⟩) (args := args_rinv) (sh := (List.replicate 21 .one)) (ρ := ([.slice A n c] ++ cellsP p (.slice B m d) ++ [.int .i64 id])) 100000 tree_rinv (okK _ _) Try.func21 rfl (run_rinv _ _) (by kernel_rfl) (by kernel_rfl) (by kernel_rfl) ?_ ?_
  · rintro W hW s sz cells (⟨rfl, rfl, rfl⟩ | ⟨rfl, rfl, rfl⟩)
    · exact ⟨hr.same0 hW, hc⟩
    exact ⟨hp.same0 hW, hmd⟩
  have hA := SX.rd_some hr
  have hln : ss.length = n := by have := hr.1; rw [sgsL_len] at this; omega
  have hlm : p.needs.length = m := by have := hp.1; rw [intsL_len] at this; omega
  have k1 : apK A n c ss p (.slice B m d) (.slice A n c) 14 (sgsL ss) := .inl ⟨rfl, rfl, rfl⟩
  have k2 : apK A n c ss p (.slice B m d) (.slice B m d) 1 (intsL p.needs) := .inr ⟨rfl, rfl, rfl⟩
  have a1 : runA A n c ss (.slice A n c) 14 (sgsL ss) := ⟨rfl, rfl, rfl⟩
  unfold tree_rinv
  refine SX.VC_df (.tuple #[Value.agg (sgsL (runS ss [p]).1).toArray, .int .i64 ((runS ss [p]).2)]) (fun α => ⟨[⟨.slice A n c, 14, sgsL ss⟩, ⟨valP p (.slice B m d), 0, []⟩], ⟨by kernel_rfl, rfl, cast (by kernel_rfl) k1, by kernel_rfl, by kernel_rfl, trivial⟩, .inr (.inl ⟨rfl, _, ss, p, B, m, d, rfl, by omega, k2, by omega, rfl⟩), fun j hj x sz hx h => match j, hx, h with | 0, hx, _ => by (cases hx; exact cast (by kernel_rfl) a1) | 1, _, h => by cases h | _ + 2, _, h => by cases h⟩) (sgs_fit _ _) ?_
  refine SX.D (.bool (((runS ss [p]).2 : Int) != 0)) ?_
  refine SX.B (((runS ss [p]).2 : Int) != 0) (fun h22 => ?_) (fun h22 => ?_)
  · try simp only [NRM] at h22
    have hfact : invS ss p id = (zeroPt, (runS ss [p]).2) := by rw [invS, if_neg h22]
    exact SX.VC_ret fun α W _ _ hS => ⟨hS.below, (.slice none 0 0), Eq.trans (b := Ending.returned (.tuple #[valP zeroPt (.slice none 0 0), .int .i64 ((runS ss [p]).2)])) (by kernel_rfl) (by rw [hfact]), (by rw [hfact]; exact SX.SlRet.nil)⟩
  try simp only [NRM] at h22
  obtain ⟨hs0, hp0, ha0⟩ := run_ok h22
  have hok := chkP_ok hp0
  have hth : p.kind = 1 → there ss p.sign = true := fun hk => apply_there ha0 hk
  have hkk : p.kind = 1 ∨ p.kind = 2 ∨ p.kind = 3 := hok.kinds
  have hfl : p.kind ≠ 1 → p.field = 0 := hok.fld
  have hff : p.kind = 1 → 1 ≤ p.field ∧ p.field ≤ 9 := hok.fld1
  refine SX.E (.tuple #[.int .i64 (((idx ss p.sign : Nat) : Int)), .bool (there ss p.sign)]) (fun α => ⟨[⟨.slice A n c, 14, sgsL ss⟩, ⟨.int .i64 p.sign, 0, []⟩], ⟨by kernel_rfl, rfl, cast (by kernel_rfl) k1, by kernel_rfl, by kernel_rfl, trivial⟩, .inr (.inr (.inr (.inl ⟨rfl, _, ss, p.sign, rfl, by have := (chkS_ok hs0).2; omega, rfl⟩))), SX.noAli rfl⟩) ?_
  refine SX.D (.bool (decide (id ≤ p.id))) ?_
  refine SX.B (decide (id ≤ p.id)) (fun h24 => ?_) (fun h24 => ?_)
  · try simp only [NRM] at h24
    have hfact : invS ss p id = (zeroPt, 370) := by rw [invS, if_pos h22, if_pos (by first | (left; omega) | (right; left; omega) | (right; right; refine ⟨by omega, ?_⟩; simpa using h27))]
    exact SX.VC_ret fun α W _ _ hS => ⟨hS.below, (.slice none 0 0), Eq.trans (b := Ending.returned (.tuple #[valP zeroPt (.slice none 0 0), .int .i64 370])) (by kernel_rfl) (by rw [hfact]), (by rw [hfact]; exact SX.SlRet.nil)⟩
  try simp only [NRM] at h24
  refine SX.D (.bool (decide (id > 1048576))) ?_
  refine SX.B (decide (id > 1048576)) (fun h25 => ?_) (fun h25 => ?_)
  · try simp only [NRM] at h25
    have hfact : invS ss p id = (zeroPt, 370) := by rw [invS, if_pos h22, if_pos (by first | (left; omega) | (right; left; omega) | (right; right; refine ⟨by omega, ?_⟩; simpa using h27))]
    exact SX.VC_ret fun α W _ _ hS => ⟨hS.below, (.slice none 0 0), Eq.trans (b := Ending.returned (.tuple #[valP zeroPt (.slice none 0 0), .int .i64 370])) (by kernel_rfl) (by rw [hfact]), (by rw [hfact]; exact SX.SlRet.nil)⟩
  try simp only [NRM] at h25
  refine SX.D (.bool ((p.kind : Int) == 3)) ?_
  refine SX.B ((p.kind : Int) == 3) (fun h26 => ?_) (fun h26 => ?_)
  · try simp only [NRM] at h26
    refine SX.D (.bool (!(there ss p.sign))) ?_
    refine SX.B (!(there ss p.sign)) (fun h27 => ?_) (fun h27 => ?_)
    · try simp only [NRM] at h27
      have hfact : invS ss p id = (zeroPt, 370) := by rw [invS, if_pos h22, if_pos (by first | (left; omega) | (right; left; omega) | (right; right; refine ⟨by omega, ?_⟩; simpa using h27))]
      exact SX.VC_ret fun α W _ _ hS => ⟨hS.below, (.slice none 0 0), Eq.trans (b := Ending.returned (.tuple #[valP zeroPt (.slice none 0 0), .int .i64 370])) (by kernel_rfl) (by rw [hfact]), (by rw [hfact]; exact SX.SlRet.nil)⟩
    try simp only [NRM] at h27
    refine SX.D (.bool ((p.kind : Int) == 1)) ?_
    refine SX.B ((p.kind : Int) == 1) (fun h28 => absurd h28 (by simp only [beq_iff_eq]; omega)) (fun h28 => ?_)
    try simp only [NRM] at h28
    refine SX.D (.bool ((p.kind : Int) == 2)) ?_
    refine SX.B ((p.kind : Int) == 2) (fun h29 => absurd h29 (by simp only [beq_iff_eq]; omega)) (fun h29 => ?_)
    try simp only [NRM] at h29
    refine SX.D (.bool ((p.kind : Int) == 3)) ?_
    refine SX.B ((p.kind : Int) == 3) (fun h30 => ?_) (fun h30 => absurd h30 (by simp only [beq_eq_false_iff_ne, ne_eq, Decidable.not_not]; omega))
    try simp only [NRM] at h30
    obtain ⟨z, hz⟩ := there_lt (show there ss p.sign = true by first | exact hth (by omega) | simpa using h27 | simp_all)
    have hil : idx ss p.sign < ss.length := (List.getElem?_eq_some_iff.1 hz).1
    refine SX.E (.bool true) (fun α => SX.extBnd (A := A) (n := n) (c := c) (j := idx ss p.sign) hA (by kernel_rfl) (by kernel_rfl) (by omega)) ?_
    refine SX.E (.agg (cellsSg z).toArray) (fun α => SX.extElems (f := cellsSg) (l := ss) (A := A) (n := n) (c := c) (j := idx ss p.sign) (z := z) (fun _ => rfl) hA (by kernel_rfl) (by kernel_rfl) (by omega) k1 hz) ?_
    have hfact : invS ss p id = ((⟨id, 2, p.sign, 0, z, [p.id]⟩ : Pt), 0) := by
      rw [invS, if_pos h22, if_neg (by rintro (h | h | ⟨h, h'⟩) <;> first | omega | simp_all)]
      unfold invP
      first
        | (rw [if_pos (by omega : p.kind = 1)]; simp only [List.getD_eq_getElem?_getD, hz, Option.getD_some]; done)
        | (rw [if_pos (by omega : p.kind = 1)]; (try simp_all [List.getD_eq_getElem?_getD]); done)
        | (rw [if_neg (by omega : ¬ p.kind = 1), if_pos (by omega : p.kind = 2)]; (try simp_all); done)
        | (rw [if_neg (by omega : ¬ p.kind = 1), if_neg (by omega : ¬ p.kind = 2)]; (try simp_all [List.getD_eq_getElem?_getD]); done)
    exact SX.VC_ret fun α W _ _ hS => ⟨hS.below, (.slice (some ⟨(α 3).b, 0, none⟩) 1 1), Eq.trans (b := Ending.returned (.tuple #[valP ⟨id, 2, p.sign, 0, z, [p.id]⟩ (.slice (some ⟨(α 3).b, 0, none⟩) 1 1), .int .i64 0])) (by kernel_rfl) (by rw [hfact]), (by rw [hfact]; exact SX.SlRet.own hS (n := 3) (b := (⟨[(.x 1 [])], 3, .cells⟩ : SX.Blk)) (by kernel_rfl) rfl (Eq.trans (b := [Value.int .i64 p.id]) (by kernel_rfl) rfl) rfl)⟩
  try simp only [NRM] at h26
  refine SX.D (.bool ((p.kind : Int) == 1)) ?_
  refine SX.B ((p.kind : Int) == 1) (fun h27 => ?_) (fun h27 => ?_)
  · try simp only [NRM] at h27
    obtain ⟨z, hz⟩ := there_lt (show there ss p.sign = true by first | exact hth (by omega) | simpa using h27 | simp_all)
    have hil : idx ss p.sign < ss.length := (List.getElem?_eq_some_iff.1 hz).1
    refine SX.E (.bool true) (fun α => SX.extBnd (A := A) (n := n) (c := c) (j := idx ss p.sign) hA (by kernel_rfl) (by kernel_rfl) (by omega)) ?_
    refine SX.E (.agg (cellsSg z).toArray) (fun α => SX.extElems (f := cellsSg) (l := ss) (A := A) (n := n) (c := c) (j := idx ss p.sign) (z := z) (fun _ => rfl) hA (by kernel_rfl) (by kernel_rfl) (by omega) k1 hz) ?_
    obtain ⟨hf1, hf9⟩ := hff (by omega)
    refine SX.E (valSg (setF zeroSg p.field z)) (fun α => ⟨[⟨valSg zeroSg, 0, []⟩, ⟨.int .i64 p.field, 0, []⟩, ⟨valSg z, 0, []⟩], ⟨by kernel_rfl, by kernel_rfl, by kernel_rfl, by kernel_rfl, by kernel_rfl, by kernel_rfl, trivial⟩, .inr (.inr (.inr (.inr (.inr (⟨rfl, zeroSg, z, p.field, rfl, rfl⟩))))), SX.noAli rfl⟩) ?_
    have hfact : invS ss p id = ((⟨id, 1, p.sign, p.field, (setF zeroSg p.field z), [p.id]⟩ : Pt), 0) := by
      rw [invS, if_pos h22, if_neg (by rintro (h | h | ⟨h, h'⟩) <;> first | omega | simp_all)]
      unfold invP
      first
        | (rw [if_pos (by omega : p.kind = 1)]; simp only [List.getD_eq_getElem?_getD, hz, Option.getD_some]; done)
        | (rw [if_pos (by omega : p.kind = 1)]; (try simp_all [List.getD_eq_getElem?_getD]); done)
        | (rw [if_neg (by omega : ¬ p.kind = 1), if_pos (by omega : p.kind = 2)]; (try simp_all); done)
        | (rw [if_neg (by omega : ¬ p.kind = 1), if_neg (by omega : ¬ p.kind = 2)]; (try simp_all [List.getD_eq_getElem?_getD]); done)
    exact SX.VC_ret fun α W _ _ hS => ⟨hS.below, (.slice (some ⟨(α 3).b, 0, none⟩) 1 1), Eq.trans (b := Ending.returned (.tuple #[valP ⟨id, 1, p.sign, p.field, (setF zeroSg p.field z), [p.id]⟩ (.slice (some ⟨(α 3).b, 0, none⟩) 1 1), .int .i64 0])) (by kernel_rfl) (by rw [hfact]), (by rw [hfact]; exact SX.SlRet.own hS (n := 3) (b := (⟨[(.x 1 [])], 3, .cells⟩ : SX.Blk)) (by kernel_rfl) rfl (Eq.trans (b := [Value.int .i64 p.id]) (by kernel_rfl) rfl) rfl)⟩
  try simp only [NRM] at h27
  refine SX.D (.bool ((p.kind : Int) == 2)) ?_
  refine SX.B ((p.kind : Int) == 2) (fun h28 => ?_) (fun h28 => absurd h28 (by simp only [beq_eq_false_iff_ne, ne_eq, Decidable.not_not]; omega))
  try simp only [NRM] at h28
  have hfact : invS ss p id = ((⟨id, 3, p.sign, 0, zeroSg, [p.id]⟩ : Pt), 0) := by
    rw [invS, if_pos h22, if_neg (by rintro (h | h | ⟨h, h'⟩) <;> first | omega | simp_all)]
    unfold invP
    first
      | (rw [if_pos (by omega : p.kind = 1)]; simp only [List.getD_eq_getElem?_getD, hz, Option.getD_some]; done)
      | (rw [if_pos (by omega : p.kind = 1)]; (try simp_all [List.getD_eq_getElem?_getD]); done)
      | (rw [if_neg (by omega : ¬ p.kind = 1), if_pos (by omega : p.kind = 2)]; (try simp_all); done)
      | (rw [if_neg (by omega : ¬ p.kind = 1), if_neg (by omega : ¬ p.kind = 2)]; (try simp_all [List.getD_eq_getElem?_getD]); done)
  exact SX.VC_ret fun α W _ _ hS => ⟨hS.below, (.slice (some ⟨(α 3).b, 0, none⟩) 1 1), Eq.trans (b := Ending.returned (.tuple #[valP ⟨id, 3, p.sign, 0, zeroSg, [p.id]⟩ (.slice (some ⟨(α 3).b, 0, none⟩) 1 1), .int .i64 0])) (by kernel_rfl) (by rw [hfact]), (by rw [hfact]; exact SX.SlRet.own hS (n := 3) (b := (⟨[(.x 1 [])], 3, .cells⟩ : SX.Blk)) (by kernel_rfl) rfl (Eq.trans (b := [Value.int .i64 p.id]) (by kernel_rfl) rfl) rfl)⟩
def tree_seq : SX.Tree :=
(.df (.len false) [(.q 0)] .one
(.df (.len false) [(.q 1)] .one
(.df (.bin .neq 3) [(.q 2), (.q 3)] .one
(.br 4 []
(.ret (.k (.bool false)) [] [])
(.df (.len false) [(.q 0)] .one
(.loop [(.i 0)] [.one]
(.df (.bin .lss 3) [(.q 6), (.q 5)] .one
(.br 7 []
(.df .bnd [(.q 0), (.q 6)] .one
(.df (.elems 14 0 14) [(.q 0), (.q 6)] (.ag 14)
(.df .bnd [(.q 1), (.q 6)] .one
(.df (.elems 14 0 14) [(.q 1), (.q 6)] (.ag 14)
(.df (.eqr true 14 [(.i .i64), (.i .i64), (.i .i64), (.i .i64), (.i .i64), (.i .i64), (.i .i64), (.i .i64), (.i .i64), (.i .i64), (.i .i64), (.i .i64), (.i .i64), (.i .i64)]) (SX.Y 9 0 14 ++ SX.Y 11 0 14) .one
(.br 12 []
(.ret (.k (.bool false)) [] [])
(.df (.bin .add 3) [(.q 6), (.i 1)] .one
(.again 0 [(.q 13)]))))))))
(.ret (.k (.bool true)) [] [])))))))))
def args_seq : List SX.V := [.x 0 [], .x 1 []]
set_option maxRecDepth 100000 in
theorem run_seq (K A : Value → Nat → List Value → Prop) : (SX.run (cx0 K A) ⟨fun _ => false, [⟨42, 4, [(.s 13, .one)]⟩], 0, 100⟩ 100000 0 (SX.door 42 Try.f42 args_seq [.one, .one]) [.code (Try.f42.body.getD .skip), .top Try.f42]).strip = tree_seq := by kernel_rfl
set_option maxRecDepth 100000 in
set_option maxHeartbeats 4000000 in
theorem seq_any (ss tt : List Sg) (A A' : Option Addr) (n c n' c' : Nat) (w : World) (hr : Rd w 14 A n (sgsL ss)) (hn : n ≤ 9223372036854775807) (hc : n ≤ c) (hr' : Rd w 14 A' n' (sgsL tt)) (hn' : n' ≤ 9223372036854775807) (hc' : n' ≤ c') : Calls Try.prog 42 #[.slice A n c, .slice A' n' c'] w fun e w' => e = .returned (.bool (decide (ss = tt))) ∧ Below w.heap.size w w' := by
  refine SX.calls_of_run (C := cx0 (fun s sz cells => (s = .slice A n c ∧ sz = 14 ∧ cells = sgsL ss) ∨ (s = .slice A' n' c' ∧ sz = 14 ∧ cells = sgsL tt)) (fun _ _ _ => False)) (G := ⟨fun _ => false, [⟨42, 4, [(.s 13, .one)]⟩], 0, 100⟩) (args := args_seq) (sh := [.one, .one]) (ρ := [.slice A n c, .slice A' n' c']) 100000 tree_seq (cx0_ok _ _) Try.func42 rfl (run_seq _ _) (by kernel_rfl) (by kernel_rfl) (by kernel_rfl) ?_ ?_
  · rintro W hW s sz cells (⟨rfl, rfl, rfl⟩ | ⟨rfl, rfl, rfl⟩)
    · exact ⟨hr.same0 hW, hc⟩
    exact ⟨hr'.same0 hW, hc'⟩
  have hA := SX.rd_some hr
  have hln : ss.length = n := by have := hr.1; rw [sgsL_len] at this; omega
  have hA' := SX.rd_some hr'
  have hln' : tt.length = n' := by have := hr'.1; rw [sgsL_len] at this; omega
  unfold tree_seq
  refine SX.D (.int .i64 (((n : Nat) : Int))) ?_
  refine SX.D (.int .i64 (((n' : Nat) : Int))) ?_
  refine SX.D (.bool ((((n : Nat) : Int) : Int) != ((n' : Nat) : Int))) ?_
  refine SX.B ((((n : Nat) : Int) : Int) != ((n' : Nat) : Int)) (fun h4 => ?_) (fun h4 => ?_)
  · try simp only [NRM] at h4
    exact SX.F (.bool false) (by congr 1; symm; first | (rw [decide_eq_false_iff_not]; rintro rfl; omega) | (rw [decide_eq_false_iff_not]; rintro rfl; rw [hy] at hz; cases hz; simp at h12) | (have hi : i = n := (by omega); subst hi; rw [List.take_of_length_le (by omega), List.take_of_length_le (by omega)] at htk; rw [decide_eq_true_eq]; exact htk))
  try simp only [NRM] at h4
  refine SX.D (.int .i64 (((n : Nat) : Int))) ?_
  refine SX.VC_loop (fun xs => ∃ i : Nat, xs = [.int .i64 (i : Int)] ∧ i ≤ n ∧ ss.take i = tt.take i) (fun xs => match xs with | [.int _ i] => n - i.toNat | _ => 0) (fun α => ⟨0, by kernel_rfl, by omega, by simp⟩) ?_
  rintro xs - ⟨i, rfl, hin, htk⟩
  refine SX.D (.bool (decide (((i : Nat) : Int) < ((n : Nat) : Int)))) ?_
  refine SX.B (decide (((i : Nat) : Int) < ((n : Nat) : Int))) (fun h7 => ?_) (fun h7 => ?_)
  · try simp only [NRM] at h7
    obtain ⟨y, hy⟩ : ∃ z, ss[i]? = some z := ⟨_, List.getElem?_eq_getElem (by omega)⟩
    obtain ⟨z, hz⟩ : ∃ z, tt[i]? = some z := ⟨_, List.getElem?_eq_getElem (by omega)⟩
    refine SX.E (.bool true) (fun α => SX.extBnd (A := A) (n := n) (c := c) (j := i) hA (by kernel_rfl) (by kernel_rfl) (by omega)) ?_
    refine SX.E (.agg (cellsSg y).toArray) (fun α => SX.extElems (f := cellsSg) (l := ss) (A := A) (n := n) (c := c) (j := i) (z := y) (fun _ => rfl) hA (by kernel_rfl) (by kernel_rfl) (by omega) (.inl ⟨rfl, rfl, rfl⟩) hy) ?_
    refine SX.E (.bool true) (fun α => SX.extBnd (A := A') (n := n') (c := c') (j := i) hA' (by kernel_rfl) (by kernel_rfl) (by omega)) ?_
    refine SX.E (.agg (cellsSg z).toArray) (fun α => SX.extElems (f := cellsSg) (l := tt) (A := A') (n := n') (c := c') (j := i) (z := z) (fun _ => rfl) hA' (by kernel_rfl) (by kernel_rfl) (by omega) (.inr ⟨rfl, rfl, rfl⟩) hz) ?_
    refine SX.E (.bool (true ^^ decide (y = z))) (fun α => SX.eqr_rel (f := cellsSg) cellsSg_inj (y := y) (z := z) (by kernel_rfl) (by kernel_rfl) (by kernel_rfl)) ?_
    refine SX.B (true ^^ decide (y = z)) (fun h12 => ?_) (fun h12 => ?_)
    · try simp only [NRM] at h12
      exact SX.F (.bool false) (by congr 1; symm; first | (rw [decide_eq_false_iff_not]; rintro rfl; omega) | (rw [decide_eq_false_iff_not]; rintro rfl; rw [hy] at hz; cases hz; simp at h12) | (have hi : i = n := (by omega); subst hi; rw [List.take_of_length_le (by omega), List.take_of_length_le (by omega)] at htk; rw [decide_eq_true_eq]; exact htk))
    try simp only [NRM] at h12
    refine SX.E (.int .i64 (((i + 1 : Nat) : Int))) (fun α => SX.W1 i) ?_
    exact SX.VC_again fun α => ⟨⟨i + 1, by kernel_rfl, by omega, by rw [List.take_add_one, List.take_add_one, htk, hy, hz, h12]⟩, cast (by kernel_rfl) (show n - ((i + 1 : Nat) : Int).toNat < n - (i : Int).toNat by omega)⟩
  try simp only [NRM] at h7
  exact SX.F (.bool true) (by congr 1; symm; first | (rw [decide_eq_false_iff_not]; rintro rfl; omega) | (rw [decide_eq_false_iff_not]; rintro rfl; rw [hy] at hz; cases hz; simp at h12) | (have hi : i = n := (by omega); subst hi; rw [List.take_of_length_le (by omega), List.take_of_length_le (by omega)] at htk; rw [decide_eq_true_eq]; exact htk))
def comS (ss : List Sg) (p q : Pt) : Bool × Int :=
  if chkS ss = 0 then (if ovE p q = 0 then (decide ((runS ss [p, q]).2 = 0 ∧ (runS ss [q, p]).2 = 0 ∧ (runS ss [p, q]).1 = (runS ss [q, p]).1), 0) else (false, ovE p q)) else (false, chkS ss)
theorem sgsb_fit (l : List Sg) (b : Bool) : SX.Sh.fit (.tp [.sl 14, .one]) (.tuple #[.agg (sgsL l).toArray, .bool b]) = true := by
  have h1 : (sgsL l).length % 14 = 0 := by rw [sgsL_len]; omega
  have h2 : (sgsL l).all (·.oneCell') = true := by
    rw [List.all_eq_true]
    intro u hu
    obtain ⟨a, _, h⟩ := List.mem_flatMap.1 hu
    exact cellsSg_one a u h
  simp only [SX.Sh.fit, SX.Sh.fitL, h1, h2]
  rfl
theorem runL_len : ∀ (l : List Pt) (ss : List Sg), okL ss → ss.length ≤ 4096 → (runL ss l).1.length ≤ 4096
  | [], ss, _, h => by simpa [runL] using h
  | p :: l, ss, hs, h => by
    unfold runL
    split
    · rename_i hp
      split
      · rename_i h0
        obtain ⟨h1, h2⟩ := apply_ok hs h (chkP_ok hp) h0
        exact runL_len l _ h1 h2
      simp
    simp
theorem runS_len (ss : List Sg) (l : List Pt) (h : ss.length ≤ 9223372036854775807) : (runS ss l).1.length ≤ 9223372036854775807 := by
  unfold runS
  split
  · rename_i hs
    split
    · simp
    exact Nat.le_trans (runL_len l ss (chkS_ok hs).1 (chkS_ok hs).2) (by omega)
  simp
def comK (A : Option Addr) (n c : Nat) (ss : List Sg) (p : Pt) (h : Value) (q : Pt) (h' : Value) (s : Value) (sz : Nat) (cells : List Value) : Prop :=
  (s = .slice A n c ∧ sz = 14 ∧ cells = sgsL ss) ∨ (s = h ∧ sz = 1 ∧ cells = intsL p.needs) ∨ (s = h' ∧ sz = 1 ∧ cells = intsL q.needs)
def tree_clos (t0 t1 : TypeId) : SX.Tree :=
(.df (.call 18 [(.ext 14), (.ext 19)]) [(.x 1 []), (.x 0 [])] (.tp [(.sl 14), .one]) 
(.br 2 [] 
(.df (.bin .eql 32) [(.x 3 [1]), (.k (.int .i64 0))] .one 
(.ret (.row 2) [(some ⟨[(.x 1 [])], t0, .cells⟩), (some ⟨[(.x 4 [])], t1, .cells⟩), (some ⟨[(.x 3 [0])], 0, (.ext 14)⟩)] [[(some (.p 0 0)), (some (.p 1 0))]])) 
(.ret (.row 2) [(some ⟨[(.x 1 [])], t0, .cells⟩), (some ⟨[(.k (.bool false))], t1, .cells⟩), (some ⟨[(.x 3 [0])], 0, (.ext 14)⟩)] [[(some (.p 0 0)), (some (.p 1 0))]])))
def args_clos : List SX.V := [.x 0 [], .p 0 0, .p 1 0]
def bl_clos (t0 t1 : TypeId) : List SX.Blk := [⟨[.x 1 []], t0, .cells⟩, ⟨[.x 2 []], t1, .cells⟩]
set_option maxRecDepth 100000 in
theorem run_clos (K A : Value → Nat → List Value → Prop) (t0 t1 : TypeId) : (SX.run (cxH K A) ⟨fun _ => false, [], 1, 100⟩ 100000 0 { fr := args_clos.map some ++ List.replicate (Try.f41.ntmps - args_clos.length) (some (.k undef)), stk := [(List.range (bl_clos t0 t1).length).map fun n => some (.p n 0)], hp := (bl_clos t0 t1).map some, ln := (bl_clos t0 t1).map some, sh := List.replicate 3 .one, kn := [], lps := [], cur := 41 } [.code (Try.f41.body.getD .skip), .top Try.f41]).strip = tree_clos t0 t1 := by kernel_rfl
theorem SX.hdrW {C : SX.Cx} {w W : World} {bs : List Nat} {ρ : List Value} {α : Nat → SX.AV} {hp : List (Option SX.Blk)} {ps : List (World → Prop)} {D : SX.Cx} (hS : St ⟨w, bs, SX.Af D, SX.Bf D⟩ (SX.chs ρ α 0 hp) [] (SX.exs ⟨w, bs, SX.Af D, SX.Bf D⟩ ρ α 0 hp ++ ps) W) {n sz : Nat} {b : SX.Blk} (hb : hp[n]? = some (some b)) (hk : b.k = .ext sz) (hr : b.rowOk ρ α n) {cells : List Value} (hc : b.xs ρ α = cells) {s : Value} {sz' : Nat} {cells' : List Value} (hK : C.K s sz' cells') (hA : C.A s sz' cells') (h1 : ∀ W2, SX.Arg.rd W2 ⟨s, sz', cells'⟩ → SX.Af D W2) (h2 : ∀ B, SX.FrsB B s → SX.Bf D B) : SX.HdrW C bs w W ((α n).h) sz cells := by
  subst hc
  unfold SX.Blk.rowOk at hr
  rw [hk] at hr
  obtain ⟨h0, A, len, cap, g1, g2, g3, _⟩ := hr
  obtain ⟨f1, f2⟩ := hS.fact (List.mem_append.2 (.inl (SX.exs_mem.2 ⟨n, b, hb, by rw [Nat.zero_add]; simp only [SX.Blk.ex, hk]; rfl⟩)))
  exact ⟨⟨A, len, cap, g1, g3⟩, f1, f2.imp id fun ⟨q1, q2⟩ => ⟨s, sz', cells', hK, hA, fun W2 h => q1 W2 (h1 W2 h), fun B h => q2 B (h2 B h)⟩⟩
def WrL (AA : Value → Nat → List Value → Prop) (K : Value → Nat → List Value → Prop) (f : FuncId) (xs : List SX.Arg) (caps : List (List Value)) (v : Value) : Prop :=
  f = 41 ∧ ∃ (u2 : Value) (A : Option Addr) (n c : Nat) (ss : List Sg) (pl : List Ph) (f0 : Bool), xs = [⟨u2, 19, phL pl⟩] ∧ caps = [[.slice A n c], [.bool f0]] ∧ K (.slice A n c) 14 (sgsL ss) ∧ AA (.slice A n c) 14 (sgsL ss) ∧ ss.length ≤ 9223372036854775807 ∧ pl.length ≤ 9223372036854775807 ∧ (∀ q ∈ pl, K q.h 1 (intsL q.1.needs) ∧ q.1.needs.length ≤ 9223372036854775807) ∧ v = .tuple #[.agg (sgsL (runS ss (pl.map (·.1))).1).toArray, .bool (f0 && decide ((runS ss (pl.map (·.1))).2 = 0))]
set_option maxRecDepth 100000 in
set_option maxHeartbeats 4000000 in
theorem clos_any {C : SX.Cx} (ss : List Sg) (A : Option Addr) (n c : Nat) (pl : List Ph) (A' : Option Addr) (n' c' : Nat) (f0 : Bool) (b0 b1 : Nat) (t0 t1 : TypeId) (w : World) (hne : b0 ≠ b1) (h0 : w.heap[b0]? = some (.cells #[.slice A n c] t0 (0, 0))) (h1 : w.heap[b1]? = some (.cells #[.bool f0] t1 (0, 0)))
    (hr : ∀ W, Same [b0, b1] w W → Rd W 14 A n (sgsL ss)) (hn : n ≤ 9223372036854775807) (hc : n ≤ c) (hr' : ∀ W, Same [b0, b1] w W → Rd W 19 A' n' (phL pl)) (hn' : n' ≤ 9223372036854775807) (hc' : n' ≤ c') (hq : ∀ W, Same [b0, b1] w W → NeedsIn W pl) (hK : C.K (.slice A n c) 14 (sgsL ss)) (hA : C.A (.slice A n c) 14 (sgsL ss)) :
    Calls Try.prog 41 #[.slice A' n' c', .pointer (some ⟨b0, 0, none⟩), .pointer (some ⟨b1, 0, none⟩)] w fun e W' => ∃ hdr, e = .returned hdr ∧ W'.os = w.os ∧ W'.tape = w.tape ∧ W'.output = w.output ∧ Same [b1] w W' ∧ W'.heap[b1]? = some (.cells #[.bool (f0 && decide ((runS ss (pl.map (·.1))).2 = 0))] t1 (0, 0)) ∧ SX.HdrW C [b0, b1] w W' hdr 14 (sgsL (runS ss (pl.map (·.1))).1) := by
  refine SX.calls_of_runW (C := cxH (runK A n c ss A' n' c' pl) (runA A n c ss)) (G := ⟨fun _ => false, [], 1, 100⟩) (args := args_clos) (sh := List.replicate 3 .one) (ρ := [.slice A' n' c', .slice A n c, .bool f0]) (bs := [b0, b1]) (bl := bl_clos t0 t1) 100000 (tree_clos t0 t1) (okH _ _) Try.func41 rfl (run_clos _ _ _ _) (by kernel_rfl) (by kernel_rfl) (by kernel_rfl) ?_ (by simpa using hne) rfl ?_ (by decide) ?_
  · rintro W hW s sz cells (⟨rfl, rfl, rfl⟩ | ⟨rfl, rfl, rfl⟩ | ⟨q, hqm, rfl, rfl, rfl⟩)
    · exact ⟨hr W hW, hc⟩
    · exact ⟨hr' W hW, hc'⟩
    · have := hq W hW q hqm
      exact ⟨this.1, this.2.1⟩
  · intro i b B h2 h3
    match i, h2, h3 with
    | 0, h2, h3 => cases h2; cases h3; exact h0
    | 1, h2, h3 => cases h2; cases h3; exact h1
    | i + 2, h2, _ => simp at h2
  have hln : ss.length = n := by have := (hr w (.refl _ _)).1; rw [sgsL_len] at this; omega
  have hlp : pl.length = n' := by have := (hr' w (.refl _ _)).1; rw [phL_len] at this; omega
  have k1 : runK A n c ss A' n' c' pl (.slice A n c) 14 (sgsL ss) := .inl ⟨rfl, rfl, rfl⟩
  have k2 : runK A n c ss A' n' c' pl (.slice A' n' c') 19 (phL pl) := .inr (.inl ⟨rfl, rfl, rfl⟩)
  have a1 : runA A n c ss (.slice A n c) 14 (sgsL ss) := ⟨rfl, rfl, rfl⟩
  have fin : ∀ (α : Nat → SX.AV) (W : World) (hp : List (Option SX.Blk)) (u : Bool) (c1 : SX.V) (ρ : List Value), ρ.getD 1 undef = .slice A n c → (∀ (m : Nat) (b : SX.Blk), hp[m]? = some (some b) → b.rowOk ρ α m) → hp = [(some ⟨[(.x 1 [])], t0, .cells⟩), (some ⟨[c1], t1, .cells⟩), (some ⟨[(.x 3 [0])], 0, (.ext 14)⟩)] → c1.den ρ α = .bool (f0 && decide ((runS ss (pl.map (·.1))).2 = 0)) → (⟨[(.x 3 [0])], 0, (.ext 14)⟩ : SX.Blk).xs ρ α = sgsL (runS ss (pl.map (·.1))).1 →
      SX.Fms ρ α [[some (.p 0 0), some (.p 1 0)]] [⟨([b0, b1].map fun b => Value.pointer (some ⟨b, 0, none⟩)).toArray, [], none⟩] → St ⟨w, [b0, b1], SX.Af (cxH (runK A n c ss A' n' c' pl) (runA A n c ss)), SX.Bf (cxH (runK A n c ss A' n' c' pl) (runA A n c ss))⟩ (SX.chs ρ α 0 hp) [] (SX.exs ⟨w, [b0, b1], SX.Af (cxH (runK A n c ss A' n' c' pl) (runA A n c ss)), SX.Bf (cxH (runK A n c ss A' n' c' pl) (runA A n c ss))⟩ ρ α 0 hp ++ [SX.Kf (cxH (runK A n c ss A' n' c' pl) (runA A n c ss))]) W →
      ∃ hdr, Ending.returned ((α 2).h) = .returned hdr ∧ W.os = w.os ∧ W.tape = w.tape ∧ W.output = w.output ∧ Same [b1] w W ∧ W.heap[b1]? = some (.cells #[.bool (f0 && decide ((runS ss (pl.map (·.1))).2 = 0))] t1 (0, 0)) ∧ SX.HdrW C [b0, b1] w W hdr 14 (sgsL (runS ss (pl.map (·.1))).1) := by
    intro α W hp u c1 ρ hρ1 hR hhp hc1 hxs hF hS
    have e0 : b0 = (α 0).b := by
      have := hF.1.2 0 (.p 0 0) rfl
      simpa [SX.V.den] using this
    have e1 : b1 = (α 1).b := by
      have := hF.1.2 1 (.p 1 0) rfl
      simpa [SX.V.den] using this
    have g0 : W.heap[b0]? = some (.cells #[.slice A n c] t0 (0, 0)) := by
      have := hS.at_ (k := (α 0).b) (c := #[.slice A n c]) (t := t0) (SX.chs_mem (k := 0) (n := 0) (b := ⟨[(.x 1 [])], t0, .cells⟩) (by rw [hhp]; rfl) (by simp only [SX.Blk.ch, SX.denL, SX.V.den, List.foldl_nil, hρ1]))
      rw [e0]; exact this
    have g1 : W.heap[b1]? = some (.cells #[.bool (f0 && decide ((runS ss (pl.map (·.1))).2 = 0))] t1 (0, 0)) := by
      have := hS.at_ (k := (α 1).b) (c := #[.bool (f0 && decide ((runS ss (pl.map (·.1))).2 = 0))]) (t := t1) (SX.chs_mem (k := 0) (n := 1) (b := ⟨[c1], t1, .cells⟩) (by rw [hhp]; rfl) (by simp only [SX.Blk.ch, SX.denL, hc1]))
      rw [e1]; exact this
    refine ⟨_, rfl, hS.old.os, hS.old.tape, hS.old.output, ⟨hS.old.size, fun b hb hm => ?_⟩, g1, SX.hdrW hS (n := 2) (b := ⟨[(.x 3 [0])], 0, (.ext 14)⟩) (by rw [hhp]; rfl) rfl (hR 2 _ (by rw [hhp]; rfl)) hxs hK hA (fun W2 h s z xs hk => by obtain ⟨rfl, rfl, rfl⟩ := hk; exact h) (fun B h s z xs hk => by obtain ⟨rfl, rfl, rfl⟩ := hk; exact h)⟩
    by_cases hb0 : b = b0
    · subst hb0; rw [g0, h0]
    exact hS.old.block b hb (by simp at hm ⊢; exact ⟨hb0, hm⟩)
  unfold tree_clos
  refine SX.VC_df (.tuple #[Value.agg (sgsL (runS ss (pl.map (·.1))).1).toArray, .int .i64 ((runS ss (pl.map (·.1))).2)]) (fun α => ⟨[⟨.slice A n c, 14, sgsL ss⟩, ⟨.slice A' n' c', 19, phL pl⟩], ⟨by kernel_rfl, rfl, cast (by kernel_rfl) k1, by kernel_rfl, rfl, cast (by kernel_rfl) k2, trivial⟩, .inr (.inr (.inr (.inr (.inr (.inr (.inl ⟨rfl, _, _, ss, pl, rfl, by omega, by omega, fun q hqm => ⟨.inr (.inr ⟨q, hqm, rfl, rfl, rfl⟩), ?_⟩, rfl⟩)))))), fun j hj x sz hx h => match j, hx, h with | 0, hx, _ => by (cases hx; exact cast (by kernel_rfl) a1) | 1, hx, h => by (exfalso; revert hj; show ¬ (1 ∈ [0]); decide) | _ + 2, _, h => by cases h⟩) (sgs_fit _ _) ?_
  · have := hq w (.refl _ _) q hqm
    have h9 := this.1.1; simp only [intsL_len] at h9; omega
  refine SX.B f0 (fun h2 => ?_) (fun h2 => ?_)
  · refine SX.D (.bool (((runS ss (pl.map (·.1))).2 : Int) == 0)) ?_
    exact SX.VC_ret fun α W hF hR hS => fin α W _ true (.x 4 []) _ (by kernel_rfl) hR rfl (Eq.trans (b := .bool (((runS ss (pl.map (·.1))).2 : Int) == 0)) (by kernel_rfl) (by rw [h2, Bool.true_and]; congr 1)) (Eq.trans (b := [Value.agg (sgsL (runS ss (pl.map (·.1))).1).toArray].flatMap SX.cellsV) (by kernel_rfl) (by simp [SX.cellsV])) hF hS
  exact SX.VC_ret fun α W hF hR hS => fin α W _ true (.k (.bool false)) _ (by kernel_rfl) hR rfl (by rw [h2, Bool.false_and]; rfl) (Eq.trans (b := [Value.agg (sgsL (runS ss (pl.map (·.1))).1).toArray].flatMap SX.cellsV) (by kernel_rfl) (by simp [SX.cellsV])) hF hS
def RL (K : Value → Nat → List Value → Prop) (f : FuncId) (xs : List SX.Arg) (v : Value) : Prop :=
  (f = 27 ∧ ∃ (u : Value) (ss : List Sg), xs = [⟨u, 14, sgsL ss⟩] ∧ ss.length ≤ 9223372036854775807 ∧ v = .int .i64 (chkS ss)) ∨
  (f = 33 ∧ ∃ (u : Value) (ss : List Sg), xs = [⟨u, 14, sgsL ss⟩] ∧ ss.length ≤ 9223372036854775807 ∧ v = .int .i64 (chkS ss)) ∨
  (f = 22 ∧ ∃ (p q : Pt) (B : Option Addr) (m d : Nat) (B' : Option Addr) (m' d' : Nat), xs = [⟨valP p (.slice B m d), 0, []⟩, ⟨valP q (.slice B' m' d'), 0, []⟩] ∧ K (.slice B m d) 1 (intsL p.needs) ∧ K (.slice B' m' d') 1 (intsL q.needs) ∧ p.needs.length ≤ 9223372036854775807 ∧ q.needs.length ≤ 9223372036854775807 ∧ v = .tuple #[.bool (ovV p q), .int .i64 (ovE p q)]) ∨
  (f = 23 ∧ ∃ (p q : Pt) (B : Option Addr) (m d : Nat) (B' : Option Addr) (m' d' : Nat), xs = [⟨valP p (.slice B m d), 0, []⟩, ⟨valP q (.slice B' m' d'), 0, []⟩] ∧ K (.slice B m d) 1 (intsL p.needs) ∧ K (.slice B' m' d') 1 (intsL q.needs) ∧ p.needs.length ≤ 9223372036854775807 ∧ q.needs.length ≤ 9223372036854775807 ∧ v = .tuple #[.bool (ovV p q), .int .i64 (ovE p q)]) ∨
  (f = 16 ∧ ∃ (u u2 : Value) (ss tt : List Sg), xs = [⟨u, 14, sgsL ss⟩, ⟨u2, 14, sgsL tt⟩] ∧ ss.length ≤ 9223372036854775807 ∧ tt.length ≤ 9223372036854775807 ∧ v = .bool (decide (ss = tt))) ∨
  (f = 42 ∧ ∃ (u u2 : Value) (ss tt : List Sg), xs = [⟨u, 14, sgsL ss⟩, ⟨u2, 14, sgsL tt⟩] ∧ ss.length ≤ 9223372036854775807 ∧ tt.length ≤ 9223372036854775807 ∧ v = .bool (decide (ss = tt))) ∨
  (f = 18 ∧ ∃ (u u2 : Value) (ss : List Sg) (pl : List Ph), xs = [⟨u, 14, sgsL ss⟩, ⟨u2, 19, phL pl⟩] ∧ ss.length ≤ 9223372036854775807 ∧ pl.length ≤ 9223372036854775807 ∧ (∀ q ∈ pl, K q.h 1 (intsL q.1.needs) ∧ q.1.needs.length ≤ 9223372036854775807) ∧ v = .tuple #[.agg (sgsL (runS ss (pl.map (·.1))).1).toArray, .int .i64 (runS ss (pl.map (·.1))).2]) ∨
  (f = 19 ∧ ∃ (u u2 : Value) (ss : List Sg) (pl : List Ph), xs = [⟨u, 14, sgsL ss⟩, ⟨u2, 19, phL pl⟩] ∧ ss.length ≤ 9223372036854775807 ∧ pl.length ≤ 9223372036854775807 ∧ (∀ q ∈ pl, K q.h 1 (intsL q.1.needs) ∧ q.1.needs.length ≤ 9223372036854775807) ∧ v = .tuple #[.agg (sgsL (runS ss (pl.map (·.1))).1).toArray, .int .i64 (runS ss (pl.map (·.1))).2])
def shpL : FuncId → Option SX.Sh := fun f => if f = 27 then some .one else if f = 33 then some .one else if f = 22 then some (.tp [.one, .one]) else if f = 23 then some (.tp [.one, .one]) else if f = 16 then some .one else if f = 42 then some .one else if f = 18 then some (.tp [.sl 14, .one]) else if f = 19 then some (.tp [.sl 14, .one]) else none
noncomputable def cxL (K A : Value → Nat → List Value → Prop) : SX.Cx := { P := Try.prog, R := RL, shp := shpL, K := K, A := A, ali := fun f => if f = 18 then [0] else if f = 19 then [0] else [], cw := fun f => if f = 41 then some (1, 14) else none, Wr := WrL A }
theorem okWL (K A : Value → Nat → List Value → Prop) : (cxL K A).OkW := by
  intro f as' caps v W bs ts b j sz t hcw hR hrd hKf hnd hl1 hl2 hheap hb ht
  obtain ⟨rfl, u2, A', n, c, ss, pl, f0, rfl, rfl, hK, hA, hl, hlp, hq, rfl⟩ := hR
  have hcw' : (some (1, 14) : Option (Nat × Nat)) = some (j, sz) := hcw
  cases hcw'
  match bs, hl1, ts, hl2 with
  | [b0, b1], _, [t0, t1], _ =>
    obtain rfl : b1 = b := by simpa using hb
    obtain rfl : t1 = t := by simpa using ht
    have h0 := hheap 0 b0 _ t0 rfl rfl rfl
    have h1 := hheap 1 b1 _ t1 rfl rfl rfl
    have hs : ∀ W', Same [b0, b1] W W' → SX.Arg.rd W' ⟨.slice A' n c, 14, sgsL ss⟩ := fun W' h => hKf _ _ _ hK W' h
    have hx : ∀ W', Same [b0, b1] W W' → SX.Arg.rd W' ⟨u2, 19, phL pl⟩ := fun W' h => hrd _ (by simp) W' h
    obtain ⟨A2, n2, c2, rfl, h2, h3, h4⟩ := ph_arg (hx W (.refl _ _))
    have hss := hs W (.refl _ _)
    have hln : ss.length = n := by have := hss.1.1; simp only [sgsL_len] at this; omega
    exact clos_any (C := cxL K A) ss A' n c pl A2 n2 c2 f0 b0 b1 t0 t1 W (by simpa using hnd) h0 h1 (fun W' h => (hs W' h).1) (by omega) hss.2 (fun W' h => (hx W' h).1) (by omega) h3 (fun W' h q hqm => by
      have := hKf _ _ _ (hq q hqm).1 W' h
      exact ⟨this.1, this.2, by have := this.1.1; have h9 := (hq q hqm).2; simp only [intsL_len] at this; omega⟩) hK hA
theorem okL' (K A : Value → Nat → List Value → Prop) : (cxL K A).Ok := by
  refine ⟨?_, okWL K A, fun f sh e => nomatch (show (none : Option SX.Sh) = some sh from e)⟩
  intro K f xs v W hR hrd hKf
  rcases hR with ⟨rfl, u, ss, rfl, hl, rfl⟩ | ⟨rfl, u, ss, rfl, hl, rfl⟩ | ⟨rfl, p, q, B, m, d, B', m', d', rfl, hK, hK', hl, hl', rfl⟩ | ⟨rfl, p, q, B, m, d, B', m', d', rfl, hK, hK', hl, hl', rfl⟩ | ⟨rfl, u, u2, ss, tt, rfl, hl, hl2, rfl⟩ | ⟨rfl, u, u2, ss, tt, rfl, hl, hl2, rfl⟩ | ⟨rfl, u, u2, ss, pl, rfl, hl, hl2, hK, rfl⟩ | ⟨rfl, u, u2, ss, pl, rfl, hl, hl2, hK, rfl⟩
  · obtain ⟨A, n, c, rfl, h2, h3, h4⟩ := sgs_arg (hrd ⟨u, 14, sgsL ss⟩ (by simp))
    exact (echeck_any ss A n c W h2 (by omega) h3).mono fun e w' h => SX.plainOk rfl h
  · obtain ⟨A, n, c, rfl, h2, h3, h4⟩ := sgs_arg (hrd ⟨u, 14, sgsL ss⟩ (by simp))
    exact (rcheckL_any ss A n c W h2 (by omega) h3).mono fun e w' h => SX.plainOk rfl h
  · have hR := hKf _ _ _ hK
    have hR' := hKf _ _ _ hK'
    have hm : m ≤ 9223372036854775807 := by have := hR.1.1; simp only [intsL_len] at this; omega
    have hm' : m' ≤ 9223372036854775807 := by have := hR'.1.1; simp only [intsL_len] at this; omega
    exact (overlap_any p q B m d B' m' d' W hR.1 hm hR.2 hR'.1 hm' hR'.2).mono fun e w' h => SX.plainOk rfl h
  · have hR := hKf _ _ _ hK
    have hR' := hKf _ _ _ hK'
    have hm : m ≤ 9223372036854775807 := by have := hR.1.1; simp only [intsL_len] at this; omega
    have hm' : m' ≤ 9223372036854775807 := by have := hR'.1.1; simp only [intsL_len] at this; omega
    exact (roverlap_any p q B m d B' m' d' W hR.1 hm hR.2 hR'.1 hm' hR'.2).mono fun e w' h => SX.plainOk rfl h
  · obtain ⟨A, n, c, rfl, h2, h3, h4⟩ := sgs_arg (hrd ⟨u, 14, sgsL ss⟩ (by simp))
    obtain ⟨A', n', c', rfl, h2', h3', h4'⟩ := sgs_arg (hrd ⟨u2, 14, sgsL tt⟩ (by simp))
    exact (same_any ss tt A A' n c n' c' W h2 (by omega) h3 h2' (by omega) h3').mono fun e w' h => SX.plainOk rfl h
  · obtain ⟨A, n, c, rfl, h2, h3, h4⟩ := sgs_arg (hrd ⟨u, 14, sgsL ss⟩ (by simp))
    obtain ⟨A', n', c', rfl, h2', h3', h4'⟩ := sgs_arg (hrd ⟨u2, 14, sgsL tt⟩ (by simp))
    exact (seq_any ss tt A A' n c n' c' W h2 (by omega) h3 h2' (by omega) h3').mono fun e w' h => SX.plainOk rfl h
  · refine Calls.mono ?_ fun e w' h => SX.SlRet.ok rfl rfl h
    obtain ⟨A, n, c, rfl, h2, h3, h4⟩ := sgs_arg (hrd ⟨u, 14, sgsL ss⟩ (by simp))
    obtain ⟨A', n', c', rfl, h2', h3', h4'⟩ := ph_arg (hrd ⟨u2, 19, phL pl⟩ (by simp))
    exact run_any ss A n c pl A' n' c' W h2 (by omega) h3 h2' (by omega) h3' fun q hq => by
      have hR := hKf _ _ _ (hK q hq).1
      exact ⟨hR.1, hR.2, by have := (hK q hq).2; have h9 := hR.1.1; simp only [intsL_len] at h9; omega⟩
  refine Calls.mono ?_ fun e w' h => SX.SlRet.ok rfl rfl h
  obtain ⟨A, n, c, rfl, h2, h3, h4⟩ := sgs_arg (hrd ⟨u, 14, sgsL ss⟩ (by simp))
  obtain ⟨A', n', c', rfl, h2', h3', h4'⟩ := ph_arg (hrd ⟨u2, 19, phL pl⟩ (by simp))
  exact rrun_any ss A n c pl A' n' c' W h2 (by omega) h3 h2' (by omega) h3' fun q hq => by
    have hR := hKf _ _ _ (hK q hq).1
    exact ⟨hR.1, hR.2, by have := (hK q hq).2; have h9 := hR.1.1; simp only [intsL_len] at h9; omega⟩
def tree_commute : SX.Tree :=
(.df (.call 27 [(.ext 14)]) [(.q 0)] .one
(.df (.bin .neq 32) [(.q 39), (.i 0)] .one
(.br 40 []
(.ret (.t [(.k (.bool false)), (.q 39)]) [] [])
(.df (.call 22 [.no, .no]) [(.a (SX.Z 1 19)), (.a (SX.Z 20 19))] (.tp [.one, .one])
(.df (.bin .neq 32) [(.x 41 [1]), (.i 0)] .one
(.br 42 []
(.ret (.t [(.k (.bool false)), (.x 41 [1])]) [] [])
(.df (.callw 41 [(.own 19 (SX.Z 1 38))] [[(.q 0)], [(.k (.bool true))]]) [(.sl 7 0 2 2), (.p 0 0), (.p 3 0)] (.tp [(.sl 14), .one])
(.df (.callw 41 [(.own 19 (SX.Z 20 19 ++ SX.Z 1 19))] [[(.q 0)], [(.x 43 [1])]]) [(.sl 12 0 2 2), (.p 0 0), (.p 3 0)] (.tp [(.sl 14), .one])
(.br 44 [1]
(.df (.call 42 [(.row 14 [(.x 43 [0])]), (.row 14 [(.x 44 [0])])]) [(.row 8), (.row 13)] .one
(.ret (.t [(.q 45), (.i 0)]) [] []))
(.ret (.t [(.k (.bool false)), (.i 0)]) [] []))))))))))
def args_commute : List SX.V := [.x 0 [], .a ((List.range 19).map fun j => .x (1 + j) []), .a ((List.range 19).map fun j => .x (20 + j) [])]
set_option maxRecDepth 100000 in
theorem run_commute (K A : Value → Nat → List Value → Prop) : (SX.run (cxL K A) ⟨fun _ => false, [], 0, 100⟩ 100000 0 (SX.door 24 Try.f24 args_commute (List.replicate 39 .one)) [.code (Try.f24.body.getD .skip), .top Try.f24]).strip = tree_commute := by kernel_rfl
set_option maxRecDepth 100000 in
set_option maxHeartbeats 4000000 in
theorem commute_any (ss : List Sg) (A : Option Addr) (n c : Nat) (p q : Pt) (B : Option Addr) (m d : Nat) (B' : Option Addr) (m' d' : Nat) (w : World) (hr : Rd w 14 A n (sgsL ss)) (hn : n ≤ 9223372036854775807) (hc : n ≤ c) (hp : Rd w 1 B m (intsL p.needs)) (hm : m ≤ 9223372036854775807) (hmd : m ≤ d) (hp' : Rd w 1 B' m' (intsL q.needs)) (hm' : m' ≤ 9223372036854775807) (hmd' : m' ≤ d') : Calls Try.prog 24 #[.slice A n c, valP p (.slice B m d), valP q (.slice B' m' d')] w fun e w' => e = .returned (.tuple #[.bool (comS ss p q).1, .int .i64 (comS ss p q).2]) ∧ Below w.heap.size w w' := by
  refine SX.calls_of_run (C := cxL (comK A n c ss p (.slice B m d) q (.slice B' m' d')) (runA A n c ss)) (G := ⟨fun _ => false, [], 0, 100⟩) (args := args_commute) (sh := (List.replicate 39 .one)) (ρ := ([.slice A n c] ++ cellsP p (.slice B m d) ++ cellsP q (.slice B' m' d'))) 100000 tree_commute (okL' _ _) Try.func24 rfl (run_commute _ _) (by kernel_rfl) (by kernel_rfl) (by kernel_rfl) ?_ ?_
  · rintro W hW s sz cells (⟨rfl, rfl, rfl⟩ | ⟨rfl, rfl, rfl⟩ | ⟨rfl, rfl, rfl⟩)
    · exact ⟨hr.same0 hW, hc⟩
    · exact ⟨hp.same0 hW, hmd⟩
    exact ⟨hp'.same0 hW, hmd'⟩
  have hln : ss.length = n := by have := hr.1; rw [sgsL_len] at this; omega
  have hlm : p.needs.length = m := by have := hp.1; rw [intsL_len] at this; omega
  have hlm' : q.needs.length = m' := by have := hp'.1; rw [intsL_len] at this; omega
  have k1 : comK A n c ss p (.slice B m d) q (.slice B' m' d') (.slice A n c) 14 (sgsL ss) := .inl ⟨rfl, rfl, rfl⟩
  have k2 : comK A n c ss p (.slice B m d) q (.slice B' m' d') (.slice B m d) 1 (intsL p.needs) := .inr (.inl ⟨rfl, rfl, rfl⟩)
  have k3 : comK A n c ss p (.slice B m d) q (.slice B' m' d') (.slice B' m' d') 1 (intsL q.needs) := .inr (.inr ⟨rfl, rfl, rfl⟩)
  have a1 : runA A n c ss (.slice A n c) 14 (sgsL ss) := ⟨rfl, rfl, rfl⟩
  have kq : ∀ x ∈ [((p, B, m, d) : Ph), (q, B', m', d')], comK A n c ss p (.slice B m d) q (.slice B' m' d') (Ph.h x) 1 (intsL x.1.needs) ∧ x.1.needs.length ≤ 9223372036854775807 := by
    intro x hx
    simp only [List.mem_cons, List.not_mem_nil, or_false] at hx
    rcases hx with rfl | rfl
    · exact ⟨k2, by show p.needs.length ≤ _; omega⟩
    exact ⟨k3, by show q.needs.length ≤ _; omega⟩
  have kq' : ∀ x ∈ [((q, B', m', d') : Ph), (p, B, m, d)], comK A n c ss p (.slice B m d) q (.slice B' m' d') (Ph.h x) 1 (intsL x.1.needs) ∧ x.1.needs.length ≤ 9223372036854775807 := fun x hx => kq x (by simp only [List.mem_cons, List.not_mem_nil, or_false] at hx ⊢; exact hx.symm)
  unfold tree_commute
  refine SX.E (.int .i64 ((chkS ss))) (fun α => ⟨[⟨.slice A n c, 14, sgsL ss⟩], ⟨by kernel_rfl, rfl, cast (by kernel_rfl) k1, trivial⟩, .inl ⟨rfl, .slice A n c, ss, rfl, by omega, rfl⟩, SX.noAli rfl⟩) ?_
  refine SX.D (.bool (((chkS ss) : Int) != 0)) ?_
  refine SX.B (((chkS ss) : Int) != 0) (fun h40 => ?_) (fun h40 => ?_)
  · try simp only [NRM] at h40
    have hfact : comS ss p q = (false, (chkS ss)) := by rw [comS, if_neg h40]
    exact SX.F (.tuple #[.bool false, .int .i64 ((chkS ss))]) (by rw [hfact])
  try simp only [NRM] at h40
  refine SX.E (.tuple #[.bool ((ovV p q)), .int .i64 ((ovE p q))]) (fun α => ⟨[⟨valP p (.slice B m d), 0, []⟩, ⟨valP q (.slice B' m' d'), 0, []⟩], ⟨by kernel_rfl, by kernel_rfl, by kernel_rfl, by kernel_rfl, trivial⟩, .inr (.inr (.inl ⟨rfl, p, q, B, m, d, B', m', d', rfl, k2, k3, by omega, by omega, rfl⟩)), SX.noAli rfl⟩) ?_
  refine SX.D (.bool (((ovE p q) : Int) != 0)) ?_
  refine SX.B (((ovE p q) : Int) != 0) (fun h42 => ?_) (fun h42 => ?_)
  · try simp only [NRM] at h42
    have hfact : comS ss p q = (false, (ovE p q)) := by rw [comS, if_pos h40, if_neg h42]
    exact SX.F (.tuple #[.bool false, .int .i64 ((ovE p q))]) (by rw [hfact])
  try simp only [NRM] at h42
  refine SX.VC_df (.tuple #[Value.agg (sgsL (runS ss [p, q]).1).toArray, .bool ((true && decide ((runS ss [p, q]).2 = 0)))]) (fun α => ⟨[⟨.slice (some ⟨(α 7).b, 0, none⟩) 2 2, 19, phL [((p, B, m, d) : Ph), (q, B', m', d')]⟩], ⟨by kernel_rfl, trivial⟩, rfl, _, A, n, c, ss, [((p, B, m, d) : Ph), (q, B', m', d')], true, rfl, by kernel_rfl, k1, a1, by omega, by simp, kq, rfl⟩) (sgsb_fit _ _) ?_
  refine SX.VC_df (.tuple #[Value.agg (sgsL (runS ss [q, p]).1).toArray, .bool (((true && decide ((runS ss [p, q]).2 = 0)) && decide ((runS ss [q, p]).2 = 0)))]) (fun α => ⟨[⟨.slice (some ⟨(α 12).b, 0, none⟩) 2 2, 19, phL [((q, B', m', d') : Ph), (p, B, m, d)]⟩], ⟨by kernel_rfl, trivial⟩, rfl, _, A, n, c, ss, [((q, B', m', d') : Ph), (p, B, m, d)], (true && decide ((runS ss [p, q]).2 = 0)), rfl, by kernel_rfl, k1, a1, by omega, by simp, kq', rfl⟩) (sgsb_fit _ _) ?_
  refine SX.B (((true && decide ((runS ss [p, q]).2 = 0)) && decide ((runS ss [q, p]).2 = 0))) (fun h44_1 => ?_) (fun h44_1 => ?_)
  · try simp only [NRM] at h44_1
    refine SX.E (.bool ((decide ((runS ss [p, q]).1 = (runS ss [q, p]).1)))) (fun α => ⟨[⟨(α 8).h, 14, sgsL (runS ss [p, q]).1⟩, ⟨(α 13).h, 14, sgsL (runS ss [q, p]).1⟩], ⟨Eq.trans (b := ⟨(α 8).h, 14, [Value.agg (sgsL (runS ss [p, q]).1).toArray].flatMap SX.cellsV⟩) (by simp [SX.cellsV]) (by kernel_rfl), Eq.trans (b := ⟨(α 13).h, 14, [Value.agg (sgsL (runS ss [q, p]).1).toArray].flatMap SX.cellsV⟩) (by simp [SX.cellsV]) (by kernel_rfl), trivial⟩, .inr (.inr (.inr (.inr (.inr (.inl ⟨rfl, _, _, _, _, rfl, runS_len _ _ (by omega), runS_len _ _ (by omega), rfl⟩))))), SX.noAli rfl⟩) ?_
    have hfact : comS ss p q = ((decide ((runS ss [p, q]).1 = (runS ss [q, p]).1)), 0) := by rw [comS, if_pos h40, if_pos h42]; simp_all
    exact SX.F (.tuple #[.bool ((decide ((runS ss [p, q]).1 = (runS ss [q, p]).1))), .int .i64 0]) (by rw [hfact])
  try simp only [NRM] at h44_1
  have hfact : comS ss p q = (false, 0) := by rw [comS, if_pos h40, if_pos h42]; simp_all
  exact SX.F (.tuple #[.bool false, .int .i64 0]) (by rw [hfact])
def tree_rcommute : SX.Tree :=
(.df (.call 33 [(.ext 14)]) [(.q 0)] .one
(.df (.bin .neq 32) [(.q 39), (.i 0)] .one
(.br 40 []
(.ret (.t [(.k (.bool false)), (.q 39)]) [] [])
(.df (.call 23 [.no, .no]) [(.a (SX.Z 1 19)), (.a (SX.Z 20 19))] (.tp [.one, .one])
(.df (.bin .neq 32) [(.x 41 [1]), (.i 0)] .one
(.br 42 []
(.ret (.t [(.k (.bool false)), (.x 41 [1])]) [] [])
(.df (.call 19 [(.ext 14), (.own 19 (SX.Z 1 38))]) [(.q 0), (.sl 2 0 2 2)] (.tp [(.sl 14), .one])
(.df (.call 19 [(.ext 14), (.own 19 (SX.Z 20 19 ++ SX.Z 1 19))]) [(.q 0), (.sl 4 0 2 2)] (.tp [(.sl 14), .one])
(.df (.bin .eql 32) [(.x 43 [1]), (.i 0)] .one
(.br 45 []
(.df (.bin .eql 32) [(.x 44 [1]), (.i 0)] .one
(.br 46 []
(.df (.call 16 [(.row 14 [(.x 43 [0])]), (.row 14 [(.x 44 [0])])]) [(.row 3), (.row 5)] .one
(.ret (.t [(.q 47), (.i 0)]) [] []))
(.ret (.t [(.k (.bool false)), (.i 0)]) [] [])))
(.ret (.t [(.k (.bool false)), (.i 0)]) [] [])))))))))))
def args_rcommute : List SX.V := [.x 0 [], .a ((List.range 19).map fun j => .x (1 + j) []), .a ((List.range 19).map fun j => .x (20 + j) [])]
set_option maxRecDepth 100000 in
theorem run_rcommute (K A : Value → Nat → List Value → Prop) : (SX.run (cxL K A) ⟨fun _ => false, [], 0, 100⟩ 100000 0 (SX.door 25 Try.f25 args_rcommute (List.replicate 39 .one)) [.code (Try.f25.body.getD .skip), .top Try.f25]).strip = tree_rcommute := by kernel_rfl
set_option maxRecDepth 100000 in
set_option maxHeartbeats 4000000 in
theorem rcommute_any (ss : List Sg) (A : Option Addr) (n c : Nat) (p q : Pt) (B : Option Addr) (m d : Nat) (B' : Option Addr) (m' d' : Nat) (w : World) (hr : Rd w 14 A n (sgsL ss)) (hn : n ≤ 9223372036854775807) (hc : n ≤ c) (hp : Rd w 1 B m (intsL p.needs)) (hm : m ≤ 9223372036854775807) (hmd : m ≤ d) (hp' : Rd w 1 B' m' (intsL q.needs)) (hm' : m' ≤ 9223372036854775807) (hmd' : m' ≤ d') : Calls Try.prog 25 #[.slice A n c, valP p (.slice B m d), valP q (.slice B' m' d')] w fun e w' => e = .returned (.tuple #[.bool (comS ss p q).1, .int .i64 (comS ss p q).2]) ∧ Below w.heap.size w w' := by
  refine SX.calls_of_run (C := cxL (comK A n c ss p (.slice B m d) q (.slice B' m' d')) (runA A n c ss)) (G := ⟨fun _ => false, [], 0, 100⟩) (args := args_rcommute) (sh := (List.replicate 39 .one)) (ρ := ([.slice A n c] ++ cellsP p (.slice B m d) ++ cellsP q (.slice B' m' d'))) 100000 tree_rcommute (okL' _ _) Try.func25 rfl (run_rcommute _ _) (by kernel_rfl) (by kernel_rfl) (by kernel_rfl) ?_ ?_
  · rintro W hW s sz cells (⟨rfl, rfl, rfl⟩ | ⟨rfl, rfl, rfl⟩ | ⟨rfl, rfl, rfl⟩)
    · exact ⟨hr.same0 hW, hc⟩
    · exact ⟨hp.same0 hW, hmd⟩
    exact ⟨hp'.same0 hW, hmd'⟩
  have hln : ss.length = n := by have := hr.1; rw [sgsL_len] at this; omega
  have hlm : p.needs.length = m := by have := hp.1; rw [intsL_len] at this; omega
  have hlm' : q.needs.length = m' := by have := hp'.1; rw [intsL_len] at this; omega
  have k1 : comK A n c ss p (.slice B m d) q (.slice B' m' d') (.slice A n c) 14 (sgsL ss) := .inl ⟨rfl, rfl, rfl⟩
  have k2 : comK A n c ss p (.slice B m d) q (.slice B' m' d') (.slice B m d) 1 (intsL p.needs) := .inr (.inl ⟨rfl, rfl, rfl⟩)
  have k3 : comK A n c ss p (.slice B m d) q (.slice B' m' d') (.slice B' m' d') 1 (intsL q.needs) := .inr (.inr ⟨rfl, rfl, rfl⟩)
  have a1 : runA A n c ss (.slice A n c) 14 (sgsL ss) := ⟨rfl, rfl, rfl⟩
  have kq : ∀ x ∈ [((p, B, m, d) : Ph), (q, B', m', d')], comK A n c ss p (.slice B m d) q (.slice B' m' d') (Ph.h x) 1 (intsL x.1.needs) ∧ x.1.needs.length ≤ 9223372036854775807 := by
    intro x hx
    simp only [List.mem_cons, List.not_mem_nil, or_false] at hx
    rcases hx with rfl | rfl
    · exact ⟨k2, by show p.needs.length ≤ _; omega⟩
    exact ⟨k3, by show q.needs.length ≤ _; omega⟩
  have kq' : ∀ x ∈ [((q, B', m', d') : Ph), (p, B, m, d)], comK A n c ss p (.slice B m d) q (.slice B' m' d') (Ph.h x) 1 (intsL x.1.needs) ∧ x.1.needs.length ≤ 9223372036854775807 := fun x hx => kq x (by simp only [List.mem_cons, List.not_mem_nil, or_false] at hx ⊢; exact hx.symm)
  unfold tree_rcommute
  refine SX.E (.int .i64 ((chkS ss))) (fun α => ⟨[⟨.slice A n c, 14, sgsL ss⟩], ⟨by kernel_rfl, rfl, cast (by kernel_rfl) k1, trivial⟩, .inr (.inl ⟨rfl, .slice A n c, ss, rfl, by omega, rfl⟩), SX.noAli rfl⟩) ?_
  refine SX.D (.bool (((chkS ss) : Int) != 0)) ?_
  refine SX.B (((chkS ss) : Int) != 0) (fun h40 => ?_) (fun h40 => ?_)
  · try simp only [NRM] at h40
    have hfact : comS ss p q = (false, (chkS ss)) := by rw [comS, if_neg h40]
    exact SX.F (.tuple #[.bool false, .int .i64 ((chkS ss))]) (by rw [hfact])
  try simp only [NRM] at h40
  refine SX.E (.tuple #[.bool ((ovV p q)), .int .i64 ((ovE p q))]) (fun α => ⟨[⟨valP p (.slice B m d), 0, []⟩, ⟨valP q (.slice B' m' d'), 0, []⟩], ⟨by kernel_rfl, by kernel_rfl, by kernel_rfl, by kernel_rfl, trivial⟩, .inr (.inr (.inr (.inl ⟨rfl, p, q, B, m, d, B', m', d', rfl, k2, k3, by omega, by omega, rfl⟩))), SX.noAli rfl⟩) ?_
  refine SX.D (.bool (((ovE p q) : Int) != 0)) ?_
  refine SX.B (((ovE p q) : Int) != 0) (fun h42 => ?_) (fun h42 => ?_)
  · try simp only [NRM] at h42
    have hfact : comS ss p q = (false, (ovE p q)) := by rw [comS, if_pos h40, if_neg h42]
    exact SX.F (.tuple #[.bool false, .int .i64 ((ovE p q))]) (by rw [hfact])
  try simp only [NRM] at h42
  refine SX.VC_df (.tuple #[Value.agg (sgsL (runS ss [p, q]).1).toArray, .int .i64 ((runS ss [p, q]).2)]) (fun α => ⟨[⟨.slice A n c, 14, sgsL ss⟩, ⟨.slice (some ⟨(α 2).b, 0, none⟩) 2 2, 19, phL [((p, B, m, d) : Ph), (q, B', m', d')]⟩], ⟨by kernel_rfl, rfl, cast (by kernel_rfl) k1, by kernel_rfl, trivial⟩, .inr (.inr (.inr (.inr (.inr (.inr (.inr (⟨rfl, _, _, ss, [((p, B, m, d) : Ph), (q, B', m', d')], rfl, by omega, by simp, kq, rfl⟩))))))), fun j hj x sz hx h => match j, hx, h with | 0, hx, _ => by (cases hx; exact cast (by kernel_rfl) a1) | 1, _, h => by cases h | _ + 2, _, h => by cases h⟩) (sgs_fit _ _) ?_
  refine SX.VC_df (.tuple #[Value.agg (sgsL (runS ss [q, p]).1).toArray, .int .i64 ((runS ss [q, p]).2)]) (fun α => ⟨[⟨.slice A n c, 14, sgsL ss⟩, ⟨.slice (some ⟨(α 4).b, 0, none⟩) 2 2, 19, phL [((q, B', m', d') : Ph), (p, B, m, d)]⟩], ⟨by kernel_rfl, rfl, cast (by kernel_rfl) k1, by kernel_rfl, trivial⟩, .inr (.inr (.inr (.inr (.inr (.inr (.inr (⟨rfl, _, _, ss, [((q, B', m', d') : Ph), (p, B, m, d)], rfl, by omega, by simp, kq', rfl⟩))))))), fun j hj x sz hx h => match j, hx, h with | 0, hx, _ => by (cases hx; exact cast (by kernel_rfl) a1) | 1, _, h => by cases h | _ + 2, _, h => by cases h⟩) (sgs_fit _ _) ?_
  refine SX.D (.bool (((runS ss [p, q]).2 : Int) == 0)) ?_
  refine SX.B (((runS ss [p, q]).2 : Int) == 0) (fun h45 => ?_) (fun h45 => ?_)
  · try simp only [NRM] at h45
    refine SX.D (.bool (((runS ss [q, p]).2 : Int) == 0)) ?_
    refine SX.B (((runS ss [q, p]).2 : Int) == 0) (fun h46 => ?_) (fun h46 => ?_)
    · try simp only [NRM] at h46
      refine SX.E (.bool ((decide ((runS ss [p, q]).1 = (runS ss [q, p]).1)))) (fun α => ⟨[⟨(α 3).h, 14, sgsL (runS ss [p, q]).1⟩, ⟨(α 5).h, 14, sgsL (runS ss [q, p]).1⟩], ⟨Eq.trans (b := ⟨(α 3).h, 14, [Value.agg (sgsL (runS ss [p, q]).1).toArray].flatMap SX.cellsV⟩) (by simp [SX.cellsV]) (by kernel_rfl), Eq.trans (b := ⟨(α 5).h, 14, [Value.agg (sgsL (runS ss [q, p]).1).toArray].flatMap SX.cellsV⟩) (by simp [SX.cellsV]) (by kernel_rfl), trivial⟩, .inr (.inr (.inr (.inr (.inl ⟨rfl, _, _, _, _, rfl, runS_len _ _ (by omega), runS_len _ _ (by omega), rfl⟩)))), SX.noAli rfl⟩) ?_
      have hfact : comS ss p q = ((decide ((runS ss [p, q]).1 = (runS ss [q, p]).1)), 0) := by rw [comS, if_pos h40, if_pos h42]; simp_all
      exact SX.F (.tuple #[.bool ((decide ((runS ss [p, q]).1 = (runS ss [q, p]).1))), .int .i64 0]) (by rw [hfact])
    try simp only [NRM] at h46
    have hfact : comS ss p q = (false, 0) := by rw [comS, if_pos h40, if_pos h42]; simp_all
    exact SX.F (.tuple #[.bool false, .int .i64 0]) (by rw [hfact])
  try simp only [NRM] at h45
  have hfact : comS ss p q = (false, 0) := by rw [comS, if_pos h40, if_pos h42]; simp_all
  exact SX.F (.tuple #[.bool false, .int .i64 0]) (by rw [hfact])
end Go.Proofs.Ytodlcjhefojibaa
