/-
  EditsApart: its walk.
-/
import Derived.Test.YtnaooclbphaelaaEo
import Derived.Test.YtnaooclbphaelaaEn
namespace Go.Proofs.Ytnaooclbphaelaa
set_option linter.unusedSimpArgs false
set_option linter.unusedVariables false
open Go Go.RowKit
theorem es_arg {W : World} {u : Value} {es : List Ed} (h : SX.Arg.rd W ⟨u, 22, esL es⟩) : ∃ A n c, u = .slice A n c ∧ Rd W 22 A n (esL es) ∧ n ≤ c ∧ es.length = n := by
  unfold SX.Arg.rd at h
  split at h
  · rename_i A n c hu
    have hu : u = .slice A n c := hu
    refine ⟨A, n, c, hu, h.1, h.2, ?_⟩
    have := h.1.1; simp only [esL_len] at this; omega
  · cases h
theorem runE_len : ∀ (es : List Ed) (ss : List Sg), (runE ss es).1.length ≤ ss.length
  | [], ss => by simp [runE]
  | d :: es, ss => by
    unfold runE
    split
    · have := runE_len es (applyE d ss).1
      have := applyE_len d ss
      omega
    · simp
theorem hq2 {x y : Ed} (hx : x.kind ≠ 5) (hy : y.kind ≠ 5) : ∀ q ∈ [x, y], q.kind ≠ 5 := by
  intro q hq
  simp only [List.mem_cons, List.not_mem_nil, or_false] at hq
  rcases hq with rfl | rfl
  · exact hx
  · exact hy
theorem hq1 {x : Ed} (hx : x.kind ≠ 5) : ∀ q ∈ [x], q.kind ≠ 5 := by
  intro q hq
  simp only [List.mem_cons, List.not_mem_nil, or_false] at hq
  subst hq
  exact hx
theorem SX.aliNo {C : SX.Cx} {f : FuncId} {rw : List SX.Rw} {as' : List SX.Arg} (ha : C.ali f = [0]) (hr : ∀ sz, rw[0]? ≠ some (.ext sz)) : SX.aliRel C f rw as' := fun j hj x sz _ h => by
  rw [ha] at hj
  obtain rfl : j = 0 := by simpa using hj
  exact absurd h (hr sz)
/-- what EditsApart calls -/
def RE6 (f : FuncId) (xs : List SX.Arg) (v : Value) : Prop :=
  (f = 10 ∧ xs = [] ∧ v = .bool true) ∨
  (f = 20 ∧ ∃ (u : Value) (ss : List Sg), xs = [⟨u, 14, sgsL ss⟩] ∧ ss.length ≤ 9223372036854775807 ∧ v = .bool (decide (ss.length ≤ 200 ∧ okL ss))) ∨
  (f = 16 ∧ ∃ (u u2 : Value) (ss tt : List Sg), xs = [⟨u, 14, sgsL ss⟩, ⟨u2, 14, sgsL tt⟩] ∧ ss.length ≤ 9223372036854775807 ∧ tt.length ≤ 9223372036854775807 ∧ v = .bool (decide (ss = tt))) ∨
  (f = 22 ∧ ∃ (u u2 : Value) (ss : List Sg) (es : List Ed), xs = [⟨u, 14, sgsL ss⟩, ⟨u2, 22, esL es⟩] ∧ ss.length ≤ 9223372036854775807 ∧ es.length ≤ 9223372036854775807 ∧ (∀ q ∈ es, q.kind ≠ 5) ∧ v = .tuple #[.agg (sgsL (runE ss es).1).toArray, .int .i64 (runE ss es).2]) ∨
  (f = 24 ∧ ∃ d : Ed, xs = [⟨valE d, 0, []⟩] ∧ v = .bool (decide (d.kind = 1 ∨ d.kind = 2 ∨ d.kind = 7)))
def shpE6 : FuncId → Option SX.Sh := fun f => if f = 10 then some .one else if f = 20 then some .one else if f = 16 then some .one else if f = 22 then some (.tp [.sl 14, .one]) else if f = 24 then some .one else none
noncomputable def cxE6 (K A : Value → Nat → List Value → Prop) : SX.Cx := { P := Try.prog, R := fun _ => RE6, shp := shpE6, K := K, A := A, ali := fun f => if f = 22 then [0] else [], trm := true }
theorem okE6 (K A : Value → Nat → List Value → Prop) : (cxE6 K A).Ok := by
  refine SX.Cx.ok_of (fun _ => rfl) ?_
  intro K f xs v W hR hrd hKf
  rcases hR with ⟨rfl, rfl, rfl⟩ | ⟨rfl, u, ss, rfl, hl, rfl⟩ | ⟨rfl, u, u2, ss, tt, rfl, hl, hl2, rfl⟩ | ⟨rfl, u, u2, ss, es, rfl, hl, hl2, hq, rfl⟩ | ⟨rfl, d, rfl, rfl⟩
  · exact (sane36_any W).mono fun e w' h => SX.plainOk rfl h
  · obtain ⟨A, n, c, rfl, h2, h3, h4⟩ := sgs_arg (hrd ⟨u, 14, sgsL ss⟩ (by simp))
    exact (lright_any ss A n c W h2 (by omega) h3).mono fun e w' h => SX.plainOk rfl h
  · obtain ⟨A, n, c, rfl, h2, h3, h4⟩ := sgs_arg (hrd ⟨u, 14, sgsL ss⟩ (by simp))
    obtain ⟨A', n', c', rfl, h2', h3', h4'⟩ := sgs_arg (hrd ⟨u2, 14, sgsL tt⟩ (by simp))
    exact (same_any ss tt A A' n c n' c' W h2 (by omega) h3 h2' (by omega) h3').mono fun e w' h => SX.plainOk rfl h
  · refine Calls.mono ?_ fun e w' h => SX.SlRet.ok rfl rfl h
    obtain ⟨A, n, c, rfl, h2, h3, h4⟩ := sgs_arg (hrd ⟨u, 14, sgsL ss⟩ (by simp))
    obtain ⟨A', n', c', rfl, h2', h3', h4'⟩ := es_arg (hrd ⟨u2, 22, esL es⟩ (by simp))
    exact run36_any ss A n c es A' n' c' W h2 (by omega) h3 h2' (by omega) h3' hq
  · exact (localE_any d W).mono fun e w' h => SX.plainOk rfl h
def tree_apart : SX.Tree :=
(.df (.call 10 []) [] .one 
(.df .not [(.x 45 [])] .one 
(.br 46 [] 
(.ret (.k (.bool false)) [] []) 
(.df (.bin .gtr 3) [(.x 2 []), (.k (.int .i64 0))] .one 
(.br 47 [] 
(.df (.bin .gtr 3) [(.x 24 []), (.k (.int .i64 0))] .one 
(.br 48 [] 
(.df (.bin .neq 3) [(.x 2 []), (.x 24 [])] .one 
(.df (.call 20 [(.ext 14)]) [(.x 0 [])] .one 
(.df .not [(.x 50 [])] .one 
(.br 51 [] 
(.ret (.k (.bool true)) [] []) 
(.df (.call 24 [.no]) [(.a [(.x 1 []), (.x 2 []), (.x 3 []), (.x 4 []), (.x 5 []), (.x 6 []), (.x 7 []), (.x 8 []), (.x 9 []), (.x 10 []), (.x 11 []), (.x 12 []), (.x 13 []), (.x 14 []), (.x 15 []), (.x 16 []), (.x 17 []), (.x 18 []), (.x 19 []), (.x 20 []), (.x 21 []), (.x 22 [])])] .one 
(.df .not [(.x 52 [])] .one 
(.br 53 [] 
(.ret (.k (.bool true)) [] []) 
(.df (.call 24 [.no]) [(.a [(.x 23 []), (.x 24 []), (.x 25 []), (.x 26 []), (.x 27 []), (.x 28 []), (.x 29 []), (.x 30 []), (.x 31 []), (.x 32 []), (.x 33 []), (.x 34 []), (.x 35 []), (.x 36 []), (.x 37 []), (.x 38 []), (.x 39 []), (.x 40 []), (.x 41 []), (.x 42 []), (.x 43 []), (.x 44 [])])] .one 
(.df .not [(.x 54 [])] .one 
(.br 55 [] 
(.ret (.k (.bool true)) [] []) 
(.df .not [(.x 49 [])] .one 
(.br 56 [] 
(.df (.bin .geq 3) [(.x 5 []), (.x 26 [])] .one 
(.br 57 [] 
(.df (.bin .geq 3) [(.x 27 []), (.x 4 [])] .one 
(.br 58 [] 
(.ret (.k (.bool true)) [] []) 
(.df (.call 22 [(.ext 14), (.own 22 [(.x 1 []), (.x 2 []), (.x 3 []), (.x 4 []), (.x 5 []), (.x 6 []), (.x 7 []), (.x 8 []), (.x 9 []), (.x 10 []), (.x 11 []), (.x 12 []), (.x 13 []), (.x 14 []), (.x 15 []), (.x 16 []), (.x 17 []), (.x 18 []), (.x 19 []), (.x 20 []), (.x 21 []), (.x 22 []), (.x 23 []), (.x 24 []), (.x 25 []), (.x 26 []), (.x 27 []), (.x 28 []), (.x 29 []), (.x 30 []), (.x 31 []), (.x 32 []), (.x 33 []), (.x 34 []), (.x 35 []), (.x 36 []), (.x 37 []), (.x 38 []), (.x 39 []), (.x 40 []), (.x 41 []), (.x 42 []), (.x 43 []), (.x 44 [])])]) [(.x 0 []), (.sl 2 0 2 2)] (.tp [(.sl 14), .one]) 
(.df (.call 22 [(.ext 14), (.own 22 [(.x 23 []), (.x 24 []), (.x 25 []), (.x 26 []), (.x 27 []), (.x 28 []), (.x 29 []), (.x 30 []), (.x 31 []), (.x 32 []), (.x 33 []), (.x 34 []), (.x 35 []), (.x 36 []), (.x 37 []), (.x 38 []), (.x 39 []), (.x 40 []), (.x 41 []), (.x 42 []), (.x 43 []), (.x 44 []), (.x 1 []), (.x 2 []), (.x 3 []), (.x 4 []), (.x 5 []), (.x 6 []), (.x 7 []), (.x 8 []), (.x 9 []), (.x 10 []), (.x 11 []), (.x 12 []), (.x 13 []), (.x 14 []), (.x 15 []), (.x 16 []), (.x 17 []), (.x 18 []), (.x 19 []), (.x 20 []), (.x 21 []), (.x 22 [])])]) [(.x 0 []), (.sl 4 0 2 2)] (.tp [(.sl 14), .one]) 
(.df (.bin .eql 31) [(.x 59 [1]), (.k (.int .i64 0))] .one 
(.df (.bin .eql 31) [(.x 60 [1]), (.k (.int .i64 0))] .one 
(.df (.binb .eql) [(.x 61 []), (.x 62 [])] .one 
(.br 63 [] 
(.df (.call 16 [(.row 14 [(.x 59 [0])]), (.row 14 [(.x 60 [0])])]) [(.row 3), (.row 5)] .one 
(.ret (.x 64 []) [] [])) 
(.ret (.k (.bool false)) [] []))))))))) 
(.df (.call 22 [(.ext 14), (.own 22 [(.x 1 []), (.x 2 []), (.x 3 []), (.x 4 []), (.x 5 []), (.x 6 []), (.x 7 []), (.x 8 []), (.x 9 []), (.x 10 []), (.x 11 []), (.x 12 []), (.x 13 []), (.x 14 []), (.x 15 []), (.x 16 []), (.x 17 []), (.x 18 []), (.x 19 []), (.x 20 []), (.x 21 []), (.x 22 []), (.x 23 []), (.x 24 []), (.x 25 []), (.x 26 []), (.x 27 []), (.x 28 []), (.x 29 []), (.x 30 []), (.x 31 []), (.x 32 []), (.x 33 []), (.x 34 []), (.x 35 []), (.x 36 []), (.x 37 []), (.x 38 []), (.x 39 []), (.x 40 []), (.x 41 []), (.x 42 []), (.x 43 []), (.x 44 [])])]) [(.x 0 []), (.sl 2 0 2 2)] (.tp [(.sl 14), .one]) 
(.df (.call 22 [(.ext 14), (.own 22 [(.x 23 []), (.x 24 []), (.x 25 []), (.x 26 []), (.x 27 []), (.x 28 []), (.x 29 []), (.x 30 []), (.x 31 []), (.x 32 []), (.x 33 []), (.x 34 []), (.x 35 []), (.x 36 []), (.x 37 []), (.x 38 []), (.x 39 []), (.x 40 []), (.x 41 []), (.x 42 []), (.x 43 []), (.x 44 []), (.x 1 []), (.x 2 []), (.x 3 []), (.x 4 []), (.x 5 []), (.x 6 []), (.x 7 []), (.x 8 []), (.x 9 []), (.x 10 []), (.x 11 []), (.x 12 []), (.x 13 []), (.x 14 []), (.x 15 []), (.x 16 []), (.x 17 []), (.x 18 []), (.x 19 []), (.x 20 []), (.x 21 []), (.x 22 [])])]) [(.x 0 []), (.sl 4 0 2 2)] (.tp [(.sl 14), .one]) 
(.df (.bin .eql 31) [(.x 58 [1]), (.k (.int .i64 0))] .one 
(.df (.bin .eql 31) [(.x 59 [1]), (.k (.int .i64 0))] .one 
(.df (.binb .eql) [(.x 60 []), (.x 61 [])] .one 
(.br 62 [] 
(.df (.call 16 [(.row 14 [(.x 58 [0])]), (.row 14 [(.x 59 [0])])]) [(.row 3), (.row 5)] .one 
(.ret (.x 63 []) [] [])) 
(.ret (.k (.bool false)) [] []))))))))) 
(.df (.call 22 [(.ext 14), (.own 22 [(.x 1 []), (.x 2 []), (.x 3 []), (.x 4 []), (.x 5 []), (.x 6 []), (.x 7 []), (.x 8 []), (.x 9 []), (.x 10 []), (.x 11 []), (.x 12 []), (.x 13 []), (.x 14 []), (.x 15 []), (.x 16 []), (.x 17 []), (.x 18 []), (.x 19 []), (.x 20 []), (.x 21 []), (.x 22 []), (.x 23 []), (.x 24 []), (.x 25 []), (.x 26 []), (.x 27 []), (.x 28 []), (.x 29 []), (.x 30 []), (.x 31 []), (.x 32 []), (.x 33 []), (.x 34 []), (.x 35 []), (.x 36 []), (.x 37 []), (.x 38 []), (.x 39 []), (.x 40 []), (.x 41 []), (.x 42 []), (.x 43 []), (.x 44 [])])]) [(.x 0 []), (.sl 2 0 2 2)] (.tp [(.sl 14), .one]) 
(.df (.call 22 [(.ext 14), (.own 22 [(.x 23 []), (.x 24 []), (.x 25 []), (.x 26 []), (.x 27 []), (.x 28 []), (.x 29 []), (.x 30 []), (.x 31 []), (.x 32 []), (.x 33 []), (.x 34 []), (.x 35 []), (.x 36 []), (.x 37 []), (.x 38 []), (.x 39 []), (.x 40 []), (.x 41 []), (.x 42 []), (.x 43 []), (.x 44 []), (.x 1 []), (.x 2 []), (.x 3 []), (.x 4 []), (.x 5 []), (.x 6 []), (.x 7 []), (.x 8 []), (.x 9 []), (.x 10 []), (.x 11 []), (.x 12 []), (.x 13 []), (.x 14 []), (.x 15 []), (.x 16 []), (.x 17 []), (.x 18 []), (.x 19 []), (.x 20 []), (.x 21 []), (.x 22 [])])]) [(.x 0 []), (.sl 4 0 2 2)] (.tp [(.sl 14), .one]) 
(.df (.bin .eql 31) [(.x 57 [1]), (.k (.int .i64 0))] .one 
(.df (.bin .eql 31) [(.x 58 [1]), (.k (.int .i64 0))] .one 
(.df (.binb .eql) [(.x 59 []), (.x 60 [])] .one 
(.br 61 [] 
(.df (.call 16 [(.row 14 [(.x 57 [0])]), (.row 14 [(.x 58 [0])])]) [(.row 3), (.row 5)] .one 
(.ret (.x 62 []) [] [])) 
(.ret (.k (.bool false)) [] []))))))))))))))))))) 
(.df (.call 20 [(.ext 14)]) [(.x 0 [])] .one 
(.df .not [(.x 49 [])] .one 
(.br 50 [] 
(.ret (.k (.bool true)) [] []) 
(.df (.call 24 [.no]) [(.a [(.x 1 []), (.x 2 []), (.x 3 []), (.x 4 []), (.x 5 []), (.x 6 []), (.x 7 []), (.x 8 []), (.x 9 []), (.x 10 []), (.x 11 []), (.x 12 []), (.x 13 []), (.x 14 []), (.x 15 []), (.x 16 []), (.x 17 []), (.x 18 []), (.x 19 []), (.x 20 []), (.x 21 []), (.x 22 [])])] .one 
(.df .not [(.x 51 [])] .one 
(.br 52 [] 
(.ret (.k (.bool true)) [] []) 
(.df (.call 24 [.no]) [(.a [(.x 23 []), (.x 24 []), (.x 25 []), (.x 26 []), (.x 27 []), (.x 28 []), (.x 29 []), (.x 30 []), (.x 31 []), (.x 32 []), (.x 33 []), (.x 34 []), (.x 35 []), (.x 36 []), (.x 37 []), (.x 38 []), (.x 39 []), (.x 40 []), (.x 41 []), (.x 42 []), (.x 43 []), (.x 44 [])])] .one 
(.df .not [(.x 53 [])] .one 
(.br 54 [] 
(.ret (.k (.bool true)) [] []) 
(.df (.bin .geq 3) [(.x 5 []), (.x 26 [])] .one 
(.br 55 [] 
(.df (.bin .geq 3) [(.x 27 []), (.x 4 [])] .one 
(.br 56 [] 
(.ret (.k (.bool true)) [] []) 
(.df (.call 22 [(.ext 14), (.own 22 [(.x 1 []), (.x 2 []), (.x 3 []), (.x 4 []), (.x 5 []), (.x 6 []), (.x 7 []), (.x 8 []), (.x 9 []), (.x 10 []), (.x 11 []), (.x 12 []), (.x 13 []), (.x 14 []), (.x 15 []), (.x 16 []), (.x 17 []), (.x 18 []), (.x 19 []), (.x 20 []), (.x 21 []), (.x 22 []), (.x 23 []), (.x 24 []), (.x 25 []), (.x 26 []), (.x 27 []), (.x 28 []), (.x 29 []), (.x 30 []), (.x 31 []), (.x 32 []), (.x 33 []), (.x 34 []), (.x 35 []), (.x 36 []), (.x 37 []), (.x 38 []), (.x 39 []), (.x 40 []), (.x 41 []), (.x 42 []), (.x 43 []), (.x 44 [])])]) [(.x 0 []), (.sl 2 0 2 2)] (.tp [(.sl 14), .one]) 
(.df (.call 22 [(.ext 14), (.own 22 [(.x 23 []), (.x 24 []), (.x 25 []), (.x 26 []), (.x 27 []), (.x 28 []), (.x 29 []), (.x 30 []), (.x 31 []), (.x 32 []), (.x 33 []), (.x 34 []), (.x 35 []), (.x 36 []), (.x 37 []), (.x 38 []), (.x 39 []), (.x 40 []), (.x 41 []), (.x 42 []), (.x 43 []), (.x 44 []), (.x 1 []), (.x 2 []), (.x 3 []), (.x 4 []), (.x 5 []), (.x 6 []), (.x 7 []), (.x 8 []), (.x 9 []), (.x 10 []), (.x 11 []), (.x 12 []), (.x 13 []), (.x 14 []), (.x 15 []), (.x 16 []), (.x 17 []), (.x 18 []), (.x 19 []), (.x 20 []), (.x 21 []), (.x 22 [])])]) [(.x 0 []), (.sl 4 0 2 2)] (.tp [(.sl 14), .one]) 
(.df (.bin .eql 31) [(.x 57 [1]), (.k (.int .i64 0))] .one 
(.df (.bin .eql 31) [(.x 58 [1]), (.k (.int .i64 0))] .one 
(.df (.binb .eql) [(.x 59 []), (.x 60 [])] .one 
(.br 61 [] 
(.df (.call 16 [(.row 14 [(.x 57 [0])]), (.row 14 [(.x 58 [0])])]) [(.row 3), (.row 5)] .one 
(.ret (.x 62 []) [] [])) 
(.ret (.k (.bool false)) [] []))))))))) 
(.df (.call 22 [(.ext 14), (.own 22 [(.x 1 []), (.x 2 []), (.x 3 []), (.x 4 []), (.x 5 []), (.x 6 []), (.x 7 []), (.x 8 []), (.x 9 []), (.x 10 []), (.x 11 []), (.x 12 []), (.x 13 []), (.x 14 []), (.x 15 []), (.x 16 []), (.x 17 []), (.x 18 []), (.x 19 []), (.x 20 []), (.x 21 []), (.x 22 []), (.x 23 []), (.x 24 []), (.x 25 []), (.x 26 []), (.x 27 []), (.x 28 []), (.x 29 []), (.x 30 []), (.x 31 []), (.x 32 []), (.x 33 []), (.x 34 []), (.x 35 []), (.x 36 []), (.x 37 []), (.x 38 []), (.x 39 []), (.x 40 []), (.x 41 []), (.x 42 []), (.x 43 []), (.x 44 [])])]) [(.x 0 []), (.sl 2 0 2 2)] (.tp [(.sl 14), .one]) 
(.df (.call 22 [(.ext 14), (.own 22 [(.x 23 []), (.x 24 []), (.x 25 []), (.x 26 []), (.x 27 []), (.x 28 []), (.x 29 []), (.x 30 []), (.x 31 []), (.x 32 []), (.x 33 []), (.x 34 []), (.x 35 []), (.x 36 []), (.x 37 []), (.x 38 []), (.x 39 []), (.x 40 []), (.x 41 []), (.x 42 []), (.x 43 []), (.x 44 []), (.x 1 []), (.x 2 []), (.x 3 []), (.x 4 []), (.x 5 []), (.x 6 []), (.x 7 []), (.x 8 []), (.x 9 []), (.x 10 []), (.x 11 []), (.x 12 []), (.x 13 []), (.x 14 []), (.x 15 []), (.x 16 []), (.x 17 []), (.x 18 []), (.x 19 []), (.x 20 []), (.x 21 []), (.x 22 [])])]) [(.x 0 []), (.sl 4 0 2 2)] (.tp [(.sl 14), .one]) 
(.df (.bin .eql 31) [(.x 56 [1]), (.k (.int .i64 0))] .one 
(.df (.bin .eql 31) [(.x 57 [1]), (.k (.int .i64 0))] .one 
(.df (.binb .eql) [(.x 58 []), (.x 59 [])] .one 
(.br 60 [] 
(.df (.call 16 [(.row 14 [(.x 56 [0])]), (.row 14 [(.x 57 [0])])]) [(.row 3), (.row 5)] .one 
(.ret (.x 61 []) [] [])) 
(.ret (.k (.bool false)) [] [])))))))))))))))))))) 
(.df (.call 20 [(.ext 14)]) [(.x 0 [])] .one 
(.df .not [(.x 48 [])] .one 
(.br 49 [] 
(.ret (.k (.bool true)) [] []) 
(.df (.call 24 [.no]) [(.a [(.x 1 []), (.x 2 []), (.x 3 []), (.x 4 []), (.x 5 []), (.x 6 []), (.x 7 []), (.x 8 []), (.x 9 []), (.x 10 []), (.x 11 []), (.x 12 []), (.x 13 []), (.x 14 []), (.x 15 []), (.x 16 []), (.x 17 []), (.x 18 []), (.x 19 []), (.x 20 []), (.x 21 []), (.x 22 [])])] .one 
(.df .not [(.x 50 [])] .one 
(.br 51 [] 
(.ret (.k (.bool true)) [] []) 
(.df (.call 24 [.no]) [(.a [(.x 23 []), (.x 24 []), (.x 25 []), (.x 26 []), (.x 27 []), (.x 28 []), (.x 29 []), (.x 30 []), (.x 31 []), (.x 32 []), (.x 33 []), (.x 34 []), (.x 35 []), (.x 36 []), (.x 37 []), (.x 38 []), (.x 39 []), (.x 40 []), (.x 41 []), (.x 42 []), (.x 43 []), (.x 44 [])])] .one 
(.df .not [(.x 52 [])] .one 
(.br 53 [] 
(.ret (.k (.bool true)) [] []) 
(.df (.bin .geq 3) [(.x 5 []), (.x 26 [])] .one 
(.br 54 [] 
(.df (.bin .geq 3) [(.x 27 []), (.x 4 [])] .one 
(.br 55 [] 
(.ret (.k (.bool true)) [] []) 
(.df (.call 22 [(.ext 14), (.own 22 [(.x 1 []), (.x 2 []), (.x 3 []), (.x 4 []), (.x 5 []), (.x 6 []), (.x 7 []), (.x 8 []), (.x 9 []), (.x 10 []), (.x 11 []), (.x 12 []), (.x 13 []), (.x 14 []), (.x 15 []), (.x 16 []), (.x 17 []), (.x 18 []), (.x 19 []), (.x 20 []), (.x 21 []), (.x 22 []), (.x 23 []), (.x 24 []), (.x 25 []), (.x 26 []), (.x 27 []), (.x 28 []), (.x 29 []), (.x 30 []), (.x 31 []), (.x 32 []), (.x 33 []), (.x 34 []), (.x 35 []), (.x 36 []), (.x 37 []), (.x 38 []), (.x 39 []), (.x 40 []), (.x 41 []), (.x 42 []), (.x 43 []), (.x 44 [])])]) [(.x 0 []), (.sl 2 0 2 2)] (.tp [(.sl 14), .one]) 
(.df (.call 22 [(.ext 14), (.own 22 [(.x 23 []), (.x 24 []), (.x 25 []), (.x 26 []), (.x 27 []), (.x 28 []), (.x 29 []), (.x 30 []), (.x 31 []), (.x 32 []), (.x 33 []), (.x 34 []), (.x 35 []), (.x 36 []), (.x 37 []), (.x 38 []), (.x 39 []), (.x 40 []), (.x 41 []), (.x 42 []), (.x 43 []), (.x 44 []), (.x 1 []), (.x 2 []), (.x 3 []), (.x 4 []), (.x 5 []), (.x 6 []), (.x 7 []), (.x 8 []), (.x 9 []), (.x 10 []), (.x 11 []), (.x 12 []), (.x 13 []), (.x 14 []), (.x 15 []), (.x 16 []), (.x 17 []), (.x 18 []), (.x 19 []), (.x 20 []), (.x 21 []), (.x 22 [])])]) [(.x 0 []), (.sl 4 0 2 2)] (.tp [(.sl 14), .one]) 
(.df (.bin .eql 31) [(.x 56 [1]), (.k (.int .i64 0))] .one 
(.df (.bin .eql 31) [(.x 57 [1]), (.k (.int .i64 0))] .one 
(.df (.binb .eql) [(.x 58 []), (.x 59 [])] .one 
(.br 60 [] 
(.df (.call 16 [(.row 14 [(.x 56 [0])]), (.row 14 [(.x 57 [0])])]) [(.row 3), (.row 5)] .one 
(.ret (.x 61 []) [] [])) 
(.ret (.k (.bool false)) [] []))))))))) 
(.df (.call 22 [(.ext 14), (.own 22 [(.x 1 []), (.x 2 []), (.x 3 []), (.x 4 []), (.x 5 []), (.x 6 []), (.x 7 []), (.x 8 []), (.x 9 []), (.x 10 []), (.x 11 []), (.x 12 []), (.x 13 []), (.x 14 []), (.x 15 []), (.x 16 []), (.x 17 []), (.x 18 []), (.x 19 []), (.x 20 []), (.x 21 []), (.x 22 []), (.x 23 []), (.x 24 []), (.x 25 []), (.x 26 []), (.x 27 []), (.x 28 []), (.x 29 []), (.x 30 []), (.x 31 []), (.x 32 []), (.x 33 []), (.x 34 []), (.x 35 []), (.x 36 []), (.x 37 []), (.x 38 []), (.x 39 []), (.x 40 []), (.x 41 []), (.x 42 []), (.x 43 []), (.x 44 [])])]) [(.x 0 []), (.sl 2 0 2 2)] (.tp [(.sl 14), .one]) 
(.df (.call 22 [(.ext 14), (.own 22 [(.x 23 []), (.x 24 []), (.x 25 []), (.x 26 []), (.x 27 []), (.x 28 []), (.x 29 []), (.x 30 []), (.x 31 []), (.x 32 []), (.x 33 []), (.x 34 []), (.x 35 []), (.x 36 []), (.x 37 []), (.x 38 []), (.x 39 []), (.x 40 []), (.x 41 []), (.x 42 []), (.x 43 []), (.x 44 []), (.x 1 []), (.x 2 []), (.x 3 []), (.x 4 []), (.x 5 []), (.x 6 []), (.x 7 []), (.x 8 []), (.x 9 []), (.x 10 []), (.x 11 []), (.x 12 []), (.x 13 []), (.x 14 []), (.x 15 []), (.x 16 []), (.x 17 []), (.x 18 []), (.x 19 []), (.x 20 []), (.x 21 []), (.x 22 [])])]) [(.x 0 []), (.sl 4 0 2 2)] (.tp [(.sl 14), .one]) 
(.df (.bin .eql 31) [(.x 55 [1]), (.k (.int .i64 0))] .one 
(.df (.bin .eql 31) [(.x 56 [1]), (.k (.int .i64 0))] .one 
(.df (.binb .eql) [(.x 57 []), (.x 58 [])] .one 
(.br 59 [] 
(.df (.call 16 [(.row 14 [(.x 55 [0])]), (.row 14 [(.x 56 [0])])]) [(.row 3), (.row 5)] .one 
(.ret (.x 60 []) [] [])) 
(.ret (.k (.bool false)) [] [])))))))))))))))))))))))
def args_apart : List SX.V := [.x 0 [], .a ((List.range 22).map fun j => .x (1 + j) []), .a ((List.range 22).map fun j => .x (23 + j) [])]
set_option maxRecDepth 100000 in
theorem run_apart (K A : Value → Nat → List Value → Prop) : (SX.run (cxE6 K A) ⟨fun f => true, [], 0, 100⟩ 100000 0 (SX.door 7 Try.f7 args_apart (List.replicate 45 .one)) [.code (Try.f7.body.getD .skip), .top Try.f7]).strip = tree_apart := by kernel_rfl
set_option maxRecDepth 100000 in
set_option maxHeartbeats 4000000 in
theorem apart_any (ss : List Sg) (A : Option Addr) (n c : Nat) (x y : Ed)  (w : World) (hr : Rd w 14 A n (sgsL ss)) (hn : n ≤ 9223372036854775807) (hc : n ≤ c) : Calls Try.prog 7 #[.slice A n c, valE x, valE y] w fun e w' => e = .returned (.bool true) ∧ Below w.heap.size w w' := by
  refine SX.calls_of_run (C := cxE6 (runA A n c ss) (runA A n c ss)) (G := ⟨fun f => true, [], 0, 100⟩) (args := args_apart) (sh := (List.replicate 45 .one)) (ρ := ([.slice A n c] ++ cellsE x ++ cellsE y)) 100000 tree_apart (okE6 _ _) Try.func7 rfl (run_apart _ _) (by kernel_rfl) (by kernel_rfl) (by kernel_rfl) ?_ ?_
  · rintro W hW s sz cells ⟨rfl, rfl, rfl⟩; exact ⟨hr.same0 hW, hc⟩
  have hA := SX.rd_some hr
  have hln : ss.length = n := by have := hr.1; rw [sgsL_len] at this; omega
  have k1 : runA A n c ss (.slice A n c) 14 (sgsL ss) := ⟨rfl, rfl, rfl⟩
  have a1 := k1
  unfold tree_apart
  refine SX.VC_df (.bool true) (fun α => ⟨[], trivial, .inl ⟨rfl, rfl, rfl⟩, SX.noAli rfl⟩) (by kernel_rfl) ?_
  refine SX.VC_df (.bool (!(true))) (by intro α; show _ = _; kernel_rfl) (by kernel_rfl) ?_
  refine SX.VC_br (!(true)) (by kernel_rfl) (fun h46 => absurd h46 (by simp)) (fun h46 => ?_)
  try simp only [NRM] at h46
  refine SX.VC_df (.bool (decide (x.role > 0))) (by intro α; show _ = _; kernel_rfl) (by kernel_rfl) ?_
  refine SX.VC_br (decide (x.role > 0)) (by kernel_rfl) (fun h47 => ?_) (fun h47 => ?_)
  · try simp only [NRM] at h47
    refine SX.VC_df (.bool (decide (y.role > 0))) (by intro α; show _ = _; kernel_rfl) (by kernel_rfl) ?_
    refine SX.VC_br (decide (y.role > 0)) (by kernel_rfl) (fun h48 => ?_) (fun h48 => ?_)
    · try simp only [NRM] at h48
      refine SX.VC_df (.bool ((x.role : Int) != y.role)) (by intro α; show _ = _; kernel_rfl) (by kernel_rfl) ?_
      refine SX.VC_df (.bool ((decide (ss.length ≤ 200 ∧ okL ss)))) (fun α => ⟨[⟨.slice A n c, 14, sgsL ss⟩], ⟨by kernel_rfl, rfl, cast (by kernel_rfl) k1, trivial⟩, .inr (.inl ⟨rfl, _, _, rfl, by omega, rfl⟩), SX.noAli rfl⟩) (by kernel_rfl) ?_
      refine SX.VC_df (.bool (!((decide (ss.length ≤ 200 ∧ okL ss))))) (by intro α; show _ = _; kernel_rfl) (by kernel_rfl) ?_
      refine SX.VC_br (!((decide (ss.length ≤ 200 ∧ okL ss)))) (by kernel_rfl) (fun h51 => ?_) (fun h51 => ?_)
      · try simp only [NRM] at h51
        exact SX.VC_ret fun α W _ _ hS => SX.ret_of hS (x := .bool true) (by kernel_rfl) (rfl)
      · try simp only [NRM] at h51
        refine SX.VC_df (.bool ((decide (x.kind = 1 ∨ x.kind = 2 ∨ x.kind = 7)))) (fun α => ⟨[⟨valE x, 0, []⟩], ⟨by kernel_rfl, by kernel_rfl, trivial⟩, .inr (.inr (.inr (.inr (⟨rfl, x, rfl, rfl⟩)))), SX.noAli rfl⟩) (by kernel_rfl) ?_
        refine SX.VC_df (.bool (!((decide (x.kind = 1 ∨ x.kind = 2 ∨ x.kind = 7))))) (by intro α; show _ = _; kernel_rfl) (by kernel_rfl) ?_
        refine SX.VC_br (!((decide (x.kind = 1 ∨ x.kind = 2 ∨ x.kind = 7)))) (by kernel_rfl) (fun h53 => ?_) (fun h53 => ?_)
        · try simp only [NRM] at h53
          exact SX.VC_ret fun α W _ _ hS => SX.ret_of hS (x := .bool true) (by kernel_rfl) (rfl)
        · try simp only [NRM] at h53
          refine SX.VC_df (.bool ((decide (y.kind = 1 ∨ y.kind = 2 ∨ y.kind = 7)))) (fun α => ⟨[⟨valE y, 0, []⟩], ⟨by kernel_rfl, by kernel_rfl, trivial⟩, .inr (.inr (.inr (.inr (⟨rfl, y, rfl, rfl⟩)))), SX.noAli rfl⟩) (by kernel_rfl) ?_
          refine SX.VC_df (.bool (!((decide (y.kind = 1 ∨ y.kind = 2 ∨ y.kind = 7))))) (by intro α; show _ = _; kernel_rfl) (by kernel_rfl) ?_
          refine SX.VC_br (!((decide (y.kind = 1 ∨ y.kind = 2 ∨ y.kind = 7)))) (by kernel_rfl) (fun h55 => ?_) (fun h55 => ?_)
          · try simp only [NRM] at h55
            exact SX.VC_ret fun α W _ _ hS => SX.ret_of hS (x := .bool true) (by kernel_rfl) (rfl)
          · try simp only [NRM] at h55
            refine SX.VC_df (.bool (!((x.role : Int) != y.role))) (by intro α; show _ = _; kernel_rfl) (by kernel_rfl) ?_
            refine SX.VC_br (!((x.role : Int) != y.role)) (by kernel_rfl) (fun h56 => ?_) (fun h56 => ?_)
            · try simp only [NRM] at h56
              refine SX.VC_df (.bool (decide (x.to ≥ y.fr))) (by intro α; show _ = _; kernel_rfl) (by kernel_rfl) ?_
              refine SX.VC_br (decide (x.to ≥ y.fr)) (by kernel_rfl) (fun h57 => ?_) (fun h57 => ?_)
              · try simp only [NRM] at h57
                refine SX.VC_df (.bool (decide (y.to ≥ x.fr))) (by intro α; show _ = _; kernel_rfl) (by kernel_rfl) ?_
                refine SX.VC_br (decide (y.to ≥ x.fr)) (by kernel_rfl) (fun h58 => ?_) (fun h58 => ?_)
                · try simp only [NRM] at h58
                  exact SX.VC_ret fun α W _ _ hS => SX.ret_of hS (x := .bool true) (by kernel_rfl) (rfl)
                · try simp only [NRM] at h58
                  have hd : disE x y := dis_of (by omega)
                  have kx : locE x := by show x.kind = 1 ∨ x.kind = 2 ∨ x.kind = 7; assumption
                  have ky : locE y := by show y.kind = 1 ∨ y.kind = 2 ∨ y.kind = 7; assumption
                  obtain ⟨hl, ho⟩ : ss.length ≤ 200 ∧ okL ss := by assumption
                  have hrun := apart_run kx ky hd (chkS_of (by omega) ho)
                  refine SX.VC_df (.tuple #[Value.agg (sgsL (runE ss [x, y]).1).toArray, .int .i64 ((runE ss [x, y]).2)]) (fun α => ⟨[⟨.slice A n c, 14, sgsL ss⟩, ⟨(.slice (some ⟨(α 2).b, 0, none⟩) 2 2), 22, esL [x, y]⟩], ⟨by kernel_rfl, rfl, cast (by kernel_rfl) k1, by kernel_rfl, trivial⟩, .inr (.inr (.inr (.inl ⟨rfl, _, _, _, [x, y], rfl, by omega, by simp, hq2 (by rcases kx with h | h | h <;> rw [h] <;> decide) (by rcases ky with h | h | h <;> rw [h] <;> decide), rfl⟩))), fun j hj x sz hx h => (by (obtain rfl : j = 0 := by simpa using (show j ∈ [0] from hj)); cases hx; exact cast (by kernel_rfl) a1)⟩) (sgs_fit _ _) ?_
                  refine SX.VC_df (.tuple #[Value.agg (sgsL (runE ss [y, x]).1).toArray, .int .i64 ((runE ss [y, x]).2)]) (fun α => ⟨[⟨.slice A n c, 14, sgsL ss⟩, ⟨(.slice (some ⟨(α 4).b, 0, none⟩) 2 2), 22, esL [y, x]⟩], ⟨by kernel_rfl, rfl, cast (by kernel_rfl) k1, by kernel_rfl, trivial⟩, .inr (.inr (.inr (.inl ⟨rfl, _, _, _, [y, x], rfl, by omega, by simp, hq2 (by rcases ky with h | h | h <;> rw [h] <;> decide) (by rcases kx with h | h | h <;> rw [h] <;> decide), rfl⟩))), fun j hj x sz hx h => (by (obtain rfl : j = 0 := by simpa using (show j ∈ [0] from hj)); cases hx; exact cast (by kernel_rfl) a1)⟩) (sgs_fit _ _) ?_
                  refine SX.VC_df (.bool (((runE ss [x, y]).2 : Int) == 0)) (by intro α; show _ = _; kernel_rfl) (by kernel_rfl) ?_
                  refine SX.VC_df (.bool (((runE ss [y, x]).2 : Int) == 0)) (by intro α; show _ = _; kernel_rfl) (by kernel_rfl) ?_
                  refine SX.VC_df (.bool (((((runE ss [x, y]).2 : Int) == 0) == (((runE ss [y, x]).2 : Int) == 0)))) (by intro α; show _ = _; kernel_rfl) (by kernel_rfl) ?_
                  refine SX.VC_br (((((runE ss [x, y]).2 : Int) == 0) == (((runE ss [y, x]).2 : Int) == 0))) (by kernel_rfl) (fun h63 => ?_) (fun h63 => absurd h63 (by rw [Bool.not_eq_false, beq_iff_eq, Bool.eq_iff_iff, beq_iff_eq, beq_iff_eq]; exact hrun.2))
                  try simp only [NRM] at h63
                  refine SX.VC_df (.bool ((decide (((runE ss [x, y]).1) = ((runE ss [y, x]).1))))) (fun α => ⟨[⟨(α 3).h, 14, sgsL ((runE ss [x, y]).1)⟩, ⟨(α 5).h, 14, sgsL ((runE ss [y, x]).1)⟩], ⟨Eq.trans (b := ⟨(α 3).h, 14, [Value.agg (sgsL ((runE ss [x, y]).1)).toArray].flatMap SX.cellsV⟩) (by simp [SX.cellsV]) (by kernel_rfl), Eq.trans (b := ⟨(α 5).h, 14, [Value.agg (sgsL ((runE ss [y, x]).1)).toArray].flatMap SX.cellsV⟩) (by simp [SX.cellsV]) (by kernel_rfl), trivial⟩, .inr (.inr (.inl ⟨rfl, _, _, ((runE ss [x, y]).1), ((runE ss [y, x]).1), rfl, by have := runE_len [x, y] ss; omega, by have := runE_len [y, x] ss; omega, rfl⟩)), SX.noAli rfl⟩) (by kernel_rfl) ?_
                  exact SX.VC_ret fun α W _ _ hS => SX.ret_of hS (x := .bool ((decide (((runE ss [x, y]).1) = ((runE ss [y, x]).1))))) (by kernel_rfl) ((by rw [show decide _ = true from decide_eq_true hrun.1]))
              · try simp only [NRM] at h57
                have hd : disE x y := dis_of (by omega)
                have kx : locE x := by show x.kind = 1 ∨ x.kind = 2 ∨ x.kind = 7; assumption
                have ky : locE y := by show y.kind = 1 ∨ y.kind = 2 ∨ y.kind = 7; assumption
                obtain ⟨hl, ho⟩ : ss.length ≤ 200 ∧ okL ss := by assumption
                have hrun := apart_run kx ky hd (chkS_of (by omega) ho)
                refine SX.VC_df (.tuple #[Value.agg (sgsL (runE ss [x, y]).1).toArray, .int .i64 ((runE ss [x, y]).2)]) (fun α => ⟨[⟨.slice A n c, 14, sgsL ss⟩, ⟨(.slice (some ⟨(α 2).b, 0, none⟩) 2 2), 22, esL [x, y]⟩], ⟨by kernel_rfl, rfl, cast (by kernel_rfl) k1, by kernel_rfl, trivial⟩, .inr (.inr (.inr (.inl ⟨rfl, _, _, _, [x, y], rfl, by omega, by simp, hq2 (by rcases kx with h | h | h <;> rw [h] <;> decide) (by rcases ky with h | h | h <;> rw [h] <;> decide), rfl⟩))), fun j hj x sz hx h => (by (obtain rfl : j = 0 := by simpa using (show j ∈ [0] from hj)); cases hx; exact cast (by kernel_rfl) a1)⟩) (sgs_fit _ _) ?_
                refine SX.VC_df (.tuple #[Value.agg (sgsL (runE ss [y, x]).1).toArray, .int .i64 ((runE ss [y, x]).2)]) (fun α => ⟨[⟨.slice A n c, 14, sgsL ss⟩, ⟨(.slice (some ⟨(α 4).b, 0, none⟩) 2 2), 22, esL [y, x]⟩], ⟨by kernel_rfl, rfl, cast (by kernel_rfl) k1, by kernel_rfl, trivial⟩, .inr (.inr (.inr (.inl ⟨rfl, _, _, _, [y, x], rfl, by omega, by simp, hq2 (by rcases ky with h | h | h <;> rw [h] <;> decide) (by rcases kx with h | h | h <;> rw [h] <;> decide), rfl⟩))), fun j hj x sz hx h => (by (obtain rfl : j = 0 := by simpa using (show j ∈ [0] from hj)); cases hx; exact cast (by kernel_rfl) a1)⟩) (sgs_fit _ _) ?_
                refine SX.VC_df (.bool (((runE ss [x, y]).2 : Int) == 0)) (by intro α; show _ = _; kernel_rfl) (by kernel_rfl) ?_
                refine SX.VC_df (.bool (((runE ss [y, x]).2 : Int) == 0)) (by intro α; show _ = _; kernel_rfl) (by kernel_rfl) ?_
                refine SX.VC_df (.bool (((((runE ss [x, y]).2 : Int) == 0) == (((runE ss [y, x]).2 : Int) == 0)))) (by intro α; show _ = _; kernel_rfl) (by kernel_rfl) ?_
                refine SX.VC_br (((((runE ss [x, y]).2 : Int) == 0) == (((runE ss [y, x]).2 : Int) == 0))) (by kernel_rfl) (fun h62 => ?_) (fun h62 => absurd h62 (by rw [Bool.not_eq_false, beq_iff_eq, Bool.eq_iff_iff, beq_iff_eq, beq_iff_eq]; exact hrun.2))
                try simp only [NRM] at h62
                refine SX.VC_df (.bool ((decide (((runE ss [x, y]).1) = ((runE ss [y, x]).1))))) (fun α => ⟨[⟨(α 3).h, 14, sgsL ((runE ss [x, y]).1)⟩, ⟨(α 5).h, 14, sgsL ((runE ss [y, x]).1)⟩], ⟨Eq.trans (b := ⟨(α 3).h, 14, [Value.agg (sgsL ((runE ss [x, y]).1)).toArray].flatMap SX.cellsV⟩) (by simp [SX.cellsV]) (by kernel_rfl), Eq.trans (b := ⟨(α 5).h, 14, [Value.agg (sgsL ((runE ss [y, x]).1)).toArray].flatMap SX.cellsV⟩) (by simp [SX.cellsV]) (by kernel_rfl), trivial⟩, .inr (.inr (.inl ⟨rfl, _, _, ((runE ss [x, y]).1), ((runE ss [y, x]).1), rfl, by have := runE_len [x, y] ss; omega, by have := runE_len [y, x] ss; omega, rfl⟩)), SX.noAli rfl⟩) (by kernel_rfl) ?_
                exact SX.VC_ret fun α W _ _ hS => SX.ret_of hS (x := .bool ((decide (((runE ss [x, y]).1) = ((runE ss [y, x]).1))))) (by kernel_rfl) ((by rw [show decide _ = true from decide_eq_true hrun.1]))
            · try simp only [NRM] at h56
              have hd : disE x y := dis_of (by omega)
              have kx : locE x := by show x.kind = 1 ∨ x.kind = 2 ∨ x.kind = 7; assumption
              have ky : locE y := by show y.kind = 1 ∨ y.kind = 2 ∨ y.kind = 7; assumption
              obtain ⟨hl, ho⟩ : ss.length ≤ 200 ∧ okL ss := by assumption
              have hrun := apart_run kx ky hd (chkS_of (by omega) ho)
              refine SX.VC_df (.tuple #[Value.agg (sgsL (runE ss [x, y]).1).toArray, .int .i64 ((runE ss [x, y]).2)]) (fun α => ⟨[⟨.slice A n c, 14, sgsL ss⟩, ⟨(.slice (some ⟨(α 2).b, 0, none⟩) 2 2), 22, esL [x, y]⟩], ⟨by kernel_rfl, rfl, cast (by kernel_rfl) k1, by kernel_rfl, trivial⟩, .inr (.inr (.inr (.inl ⟨rfl, _, _, _, [x, y], rfl, by omega, by simp, hq2 (by rcases kx with h | h | h <;> rw [h] <;> decide) (by rcases ky with h | h | h <;> rw [h] <;> decide), rfl⟩))), fun j hj x sz hx h => (by (obtain rfl : j = 0 := by simpa using (show j ∈ [0] from hj)); cases hx; exact cast (by kernel_rfl) a1)⟩) (sgs_fit _ _) ?_
              refine SX.VC_df (.tuple #[Value.agg (sgsL (runE ss [y, x]).1).toArray, .int .i64 ((runE ss [y, x]).2)]) (fun α => ⟨[⟨.slice A n c, 14, sgsL ss⟩, ⟨(.slice (some ⟨(α 4).b, 0, none⟩) 2 2), 22, esL [y, x]⟩], ⟨by kernel_rfl, rfl, cast (by kernel_rfl) k1, by kernel_rfl, trivial⟩, .inr (.inr (.inr (.inl ⟨rfl, _, _, _, [y, x], rfl, by omega, by simp, hq2 (by rcases ky with h | h | h <;> rw [h] <;> decide) (by rcases kx with h | h | h <;> rw [h] <;> decide), rfl⟩))), fun j hj x sz hx h => (by (obtain rfl : j = 0 := by simpa using (show j ∈ [0] from hj)); cases hx; exact cast (by kernel_rfl) a1)⟩) (sgs_fit _ _) ?_
              refine SX.VC_df (.bool (((runE ss [x, y]).2 : Int) == 0)) (by intro α; show _ = _; kernel_rfl) (by kernel_rfl) ?_
              refine SX.VC_df (.bool (((runE ss [y, x]).2 : Int) == 0)) (by intro α; show _ = _; kernel_rfl) (by kernel_rfl) ?_
              refine SX.VC_df (.bool (((((runE ss [x, y]).2 : Int) == 0) == (((runE ss [y, x]).2 : Int) == 0)))) (by intro α; show _ = _; kernel_rfl) (by kernel_rfl) ?_
              refine SX.VC_br (((((runE ss [x, y]).2 : Int) == 0) == (((runE ss [y, x]).2 : Int) == 0))) (by kernel_rfl) (fun h61 => ?_) (fun h61 => absurd h61 (by rw [Bool.not_eq_false, beq_iff_eq, Bool.eq_iff_iff, beq_iff_eq, beq_iff_eq]; exact hrun.2))
              try simp only [NRM] at h61
              refine SX.VC_df (.bool ((decide (((runE ss [x, y]).1) = ((runE ss [y, x]).1))))) (fun α => ⟨[⟨(α 3).h, 14, sgsL ((runE ss [x, y]).1)⟩, ⟨(α 5).h, 14, sgsL ((runE ss [y, x]).1)⟩], ⟨Eq.trans (b := ⟨(α 3).h, 14, [Value.agg (sgsL ((runE ss [x, y]).1)).toArray].flatMap SX.cellsV⟩) (by simp [SX.cellsV]) (by kernel_rfl), Eq.trans (b := ⟨(α 5).h, 14, [Value.agg (sgsL ((runE ss [y, x]).1)).toArray].flatMap SX.cellsV⟩) (by simp [SX.cellsV]) (by kernel_rfl), trivial⟩, .inr (.inr (.inl ⟨rfl, _, _, ((runE ss [x, y]).1), ((runE ss [y, x]).1), rfl, by have := runE_len [x, y] ss; omega, by have := runE_len [y, x] ss; omega, rfl⟩)), SX.noAli rfl⟩) (by kernel_rfl) ?_
              exact SX.VC_ret fun α W _ _ hS => SX.ret_of hS (x := .bool ((decide (((runE ss [x, y]).1) = ((runE ss [y, x]).1))))) (by kernel_rfl) ((by rw [show decide _ = true from decide_eq_true hrun.1]))
    · try simp only [NRM] at h48
      refine SX.VC_df (.bool ((decide (ss.length ≤ 200 ∧ okL ss)))) (fun α => ⟨[⟨.slice A n c, 14, sgsL ss⟩], ⟨by kernel_rfl, rfl, cast (by kernel_rfl) k1, trivial⟩, .inr (.inl ⟨rfl, _, _, rfl, by omega, rfl⟩), SX.noAli rfl⟩) (by kernel_rfl) ?_
      refine SX.VC_df (.bool (!((decide (ss.length ≤ 200 ∧ okL ss))))) (by intro α; show _ = _; kernel_rfl) (by kernel_rfl) ?_
      refine SX.VC_br (!((decide (ss.length ≤ 200 ∧ okL ss)))) (by kernel_rfl) (fun h50 => ?_) (fun h50 => ?_)
      · try simp only [NRM] at h50
        exact SX.VC_ret fun α W _ _ hS => SX.ret_of hS (x := .bool true) (by kernel_rfl) (rfl)
      · try simp only [NRM] at h50
        refine SX.VC_df (.bool ((decide (x.kind = 1 ∨ x.kind = 2 ∨ x.kind = 7)))) (fun α => ⟨[⟨valE x, 0, []⟩], ⟨by kernel_rfl, by kernel_rfl, trivial⟩, .inr (.inr (.inr (.inr (⟨rfl, x, rfl, rfl⟩)))), SX.noAli rfl⟩) (by kernel_rfl) ?_
        refine SX.VC_df (.bool (!((decide (x.kind = 1 ∨ x.kind = 2 ∨ x.kind = 7))))) (by intro α; show _ = _; kernel_rfl) (by kernel_rfl) ?_
        refine SX.VC_br (!((decide (x.kind = 1 ∨ x.kind = 2 ∨ x.kind = 7)))) (by kernel_rfl) (fun h52 => ?_) (fun h52 => ?_)
        · try simp only [NRM] at h52
          exact SX.VC_ret fun α W _ _ hS => SX.ret_of hS (x := .bool true) (by kernel_rfl) (rfl)
        · try simp only [NRM] at h52
          refine SX.VC_df (.bool ((decide (y.kind = 1 ∨ y.kind = 2 ∨ y.kind = 7)))) (fun α => ⟨[⟨valE y, 0, []⟩], ⟨by kernel_rfl, by kernel_rfl, trivial⟩, .inr (.inr (.inr (.inr (⟨rfl, y, rfl, rfl⟩)))), SX.noAli rfl⟩) (by kernel_rfl) ?_
          refine SX.VC_df (.bool (!((decide (y.kind = 1 ∨ y.kind = 2 ∨ y.kind = 7))))) (by intro α; show _ = _; kernel_rfl) (by kernel_rfl) ?_
          refine SX.VC_br (!((decide (y.kind = 1 ∨ y.kind = 2 ∨ y.kind = 7)))) (by kernel_rfl) (fun h54 => ?_) (fun h54 => ?_)
          · try simp only [NRM] at h54
            exact SX.VC_ret fun α W _ _ hS => SX.ret_of hS (x := .bool true) (by kernel_rfl) (rfl)
          · try simp only [NRM] at h54
            refine SX.VC_df (.bool (decide (x.to ≥ y.fr))) (by intro α; show _ = _; kernel_rfl) (by kernel_rfl) ?_
            refine SX.VC_br (decide (x.to ≥ y.fr)) (by kernel_rfl) (fun h55 => ?_) (fun h55 => ?_)
            · try simp only [NRM] at h55
              refine SX.VC_df (.bool (decide (y.to ≥ x.fr))) (by intro α; show _ = _; kernel_rfl) (by kernel_rfl) ?_
              refine SX.VC_br (decide (y.to ≥ x.fr)) (by kernel_rfl) (fun h56 => ?_) (fun h56 => ?_)
              · try simp only [NRM] at h56
                exact SX.VC_ret fun α W _ _ hS => SX.ret_of hS (x := .bool true) (by kernel_rfl) (rfl)
              · try simp only [NRM] at h56
                have hd : disE x y := dis_of (by omega)
                have kx : locE x := by show x.kind = 1 ∨ x.kind = 2 ∨ x.kind = 7; assumption
                have ky : locE y := by show y.kind = 1 ∨ y.kind = 2 ∨ y.kind = 7; assumption
                obtain ⟨hl, ho⟩ : ss.length ≤ 200 ∧ okL ss := by assumption
                have hrun := apart_run kx ky hd (chkS_of (by omega) ho)
                refine SX.VC_df (.tuple #[Value.agg (sgsL (runE ss [x, y]).1).toArray, .int .i64 ((runE ss [x, y]).2)]) (fun α => ⟨[⟨.slice A n c, 14, sgsL ss⟩, ⟨(.slice (some ⟨(α 2).b, 0, none⟩) 2 2), 22, esL [x, y]⟩], ⟨by kernel_rfl, rfl, cast (by kernel_rfl) k1, by kernel_rfl, trivial⟩, .inr (.inr (.inr (.inl ⟨rfl, _, _, _, [x, y], rfl, by omega, by simp, hq2 (by rcases kx with h | h | h <;> rw [h] <;> decide) (by rcases ky with h | h | h <;> rw [h] <;> decide), rfl⟩))), fun j hj x sz hx h => (by (obtain rfl : j = 0 := by simpa using (show j ∈ [0] from hj)); cases hx; exact cast (by kernel_rfl) a1)⟩) (sgs_fit _ _) ?_
                refine SX.VC_df (.tuple #[Value.agg (sgsL (runE ss [y, x]).1).toArray, .int .i64 ((runE ss [y, x]).2)]) (fun α => ⟨[⟨.slice A n c, 14, sgsL ss⟩, ⟨(.slice (some ⟨(α 4).b, 0, none⟩) 2 2), 22, esL [y, x]⟩], ⟨by kernel_rfl, rfl, cast (by kernel_rfl) k1, by kernel_rfl, trivial⟩, .inr (.inr (.inr (.inl ⟨rfl, _, _, _, [y, x], rfl, by omega, by simp, hq2 (by rcases ky with h | h | h <;> rw [h] <;> decide) (by rcases kx with h | h | h <;> rw [h] <;> decide), rfl⟩))), fun j hj x sz hx h => (by (obtain rfl : j = 0 := by simpa using (show j ∈ [0] from hj)); cases hx; exact cast (by kernel_rfl) a1)⟩) (sgs_fit _ _) ?_
                refine SX.VC_df (.bool (((runE ss [x, y]).2 : Int) == 0)) (by intro α; show _ = _; kernel_rfl) (by kernel_rfl) ?_
                refine SX.VC_df (.bool (((runE ss [y, x]).2 : Int) == 0)) (by intro α; show _ = _; kernel_rfl) (by kernel_rfl) ?_
                refine SX.VC_df (.bool (((((runE ss [x, y]).2 : Int) == 0) == (((runE ss [y, x]).2 : Int) == 0)))) (by intro α; show _ = _; kernel_rfl) (by kernel_rfl) ?_
                refine SX.VC_br (((((runE ss [x, y]).2 : Int) == 0) == (((runE ss [y, x]).2 : Int) == 0))) (by kernel_rfl) (fun h61 => ?_) (fun h61 => absurd h61 (by rw [Bool.not_eq_false, beq_iff_eq, Bool.eq_iff_iff, beq_iff_eq, beq_iff_eq]; exact hrun.2))
                try simp only [NRM] at h61
                refine SX.VC_df (.bool ((decide (((runE ss [x, y]).1) = ((runE ss [y, x]).1))))) (fun α => ⟨[⟨(α 3).h, 14, sgsL ((runE ss [x, y]).1)⟩, ⟨(α 5).h, 14, sgsL ((runE ss [y, x]).1)⟩], ⟨Eq.trans (b := ⟨(α 3).h, 14, [Value.agg (sgsL ((runE ss [x, y]).1)).toArray].flatMap SX.cellsV⟩) (by simp [SX.cellsV]) (by kernel_rfl), Eq.trans (b := ⟨(α 5).h, 14, [Value.agg (sgsL ((runE ss [y, x]).1)).toArray].flatMap SX.cellsV⟩) (by simp [SX.cellsV]) (by kernel_rfl), trivial⟩, .inr (.inr (.inl ⟨rfl, _, _, ((runE ss [x, y]).1), ((runE ss [y, x]).1), rfl, by have := runE_len [x, y] ss; omega, by have := runE_len [y, x] ss; omega, rfl⟩)), SX.noAli rfl⟩) (by kernel_rfl) ?_
                exact SX.VC_ret fun α W _ _ hS => SX.ret_of hS (x := .bool ((decide (((runE ss [x, y]).1) = ((runE ss [y, x]).1))))) (by kernel_rfl) ((by rw [show decide _ = true from decide_eq_true hrun.1]))
            · try simp only [NRM] at h55
              have hd : disE x y := dis_of (by omega)
              have kx : locE x := by show x.kind = 1 ∨ x.kind = 2 ∨ x.kind = 7; assumption
              have ky : locE y := by show y.kind = 1 ∨ y.kind = 2 ∨ y.kind = 7; assumption
              obtain ⟨hl, ho⟩ : ss.length ≤ 200 ∧ okL ss := by assumption
              have hrun := apart_run kx ky hd (chkS_of (by omega) ho)
              refine SX.VC_df (.tuple #[Value.agg (sgsL (runE ss [x, y]).1).toArray, .int .i64 ((runE ss [x, y]).2)]) (fun α => ⟨[⟨.slice A n c, 14, sgsL ss⟩, ⟨(.slice (some ⟨(α 2).b, 0, none⟩) 2 2), 22, esL [x, y]⟩], ⟨by kernel_rfl, rfl, cast (by kernel_rfl) k1, by kernel_rfl, trivial⟩, .inr (.inr (.inr (.inl ⟨rfl, _, _, _, [x, y], rfl, by omega, by simp, hq2 (by rcases kx with h | h | h <;> rw [h] <;> decide) (by rcases ky with h | h | h <;> rw [h] <;> decide), rfl⟩))), fun j hj x sz hx h => (by (obtain rfl : j = 0 := by simpa using (show j ∈ [0] from hj)); cases hx; exact cast (by kernel_rfl) a1)⟩) (sgs_fit _ _) ?_
              refine SX.VC_df (.tuple #[Value.agg (sgsL (runE ss [y, x]).1).toArray, .int .i64 ((runE ss [y, x]).2)]) (fun α => ⟨[⟨.slice A n c, 14, sgsL ss⟩, ⟨(.slice (some ⟨(α 4).b, 0, none⟩) 2 2), 22, esL [y, x]⟩], ⟨by kernel_rfl, rfl, cast (by kernel_rfl) k1, by kernel_rfl, trivial⟩, .inr (.inr (.inr (.inl ⟨rfl, _, _, _, [y, x], rfl, by omega, by simp, hq2 (by rcases ky with h | h | h <;> rw [h] <;> decide) (by rcases kx with h | h | h <;> rw [h] <;> decide), rfl⟩))), fun j hj x sz hx h => (by (obtain rfl : j = 0 := by simpa using (show j ∈ [0] from hj)); cases hx; exact cast (by kernel_rfl) a1)⟩) (sgs_fit _ _) ?_
              refine SX.VC_df (.bool (((runE ss [x, y]).2 : Int) == 0)) (by intro α; show _ = _; kernel_rfl) (by kernel_rfl) ?_
              refine SX.VC_df (.bool (((runE ss [y, x]).2 : Int) == 0)) (by intro α; show _ = _; kernel_rfl) (by kernel_rfl) ?_
              refine SX.VC_df (.bool (((((runE ss [x, y]).2 : Int) == 0) == (((runE ss [y, x]).2 : Int) == 0)))) (by intro α; show _ = _; kernel_rfl) (by kernel_rfl) ?_
              refine SX.VC_br (((((runE ss [x, y]).2 : Int) == 0) == (((runE ss [y, x]).2 : Int) == 0))) (by kernel_rfl) (fun h60 => ?_) (fun h60 => absurd h60 (by rw [Bool.not_eq_false, beq_iff_eq, Bool.eq_iff_iff, beq_iff_eq, beq_iff_eq]; exact hrun.2))
              try simp only [NRM] at h60
              refine SX.VC_df (.bool ((decide (((runE ss [x, y]).1) = ((runE ss [y, x]).1))))) (fun α => ⟨[⟨(α 3).h, 14, sgsL ((runE ss [x, y]).1)⟩, ⟨(α 5).h, 14, sgsL ((runE ss [y, x]).1)⟩], ⟨Eq.trans (b := ⟨(α 3).h, 14, [Value.agg (sgsL ((runE ss [x, y]).1)).toArray].flatMap SX.cellsV⟩) (by simp [SX.cellsV]) (by kernel_rfl), Eq.trans (b := ⟨(α 5).h, 14, [Value.agg (sgsL ((runE ss [y, x]).1)).toArray].flatMap SX.cellsV⟩) (by simp [SX.cellsV]) (by kernel_rfl), trivial⟩, .inr (.inr (.inl ⟨rfl, _, _, ((runE ss [x, y]).1), ((runE ss [y, x]).1), rfl, by have := runE_len [x, y] ss; omega, by have := runE_len [y, x] ss; omega, rfl⟩)), SX.noAli rfl⟩) (by kernel_rfl) ?_
              exact SX.VC_ret fun α W _ _ hS => SX.ret_of hS (x := .bool ((decide (((runE ss [x, y]).1) = ((runE ss [y, x]).1))))) (by kernel_rfl) ((by rw [show decide _ = true from decide_eq_true hrun.1]))
  · try simp only [NRM] at h47
    refine SX.VC_df (.bool ((decide (ss.length ≤ 200 ∧ okL ss)))) (fun α => ⟨[⟨.slice A n c, 14, sgsL ss⟩], ⟨by kernel_rfl, rfl, cast (by kernel_rfl) k1, trivial⟩, .inr (.inl ⟨rfl, _, _, rfl, by omega, rfl⟩), SX.noAli rfl⟩) (by kernel_rfl) ?_
    refine SX.VC_df (.bool (!((decide (ss.length ≤ 200 ∧ okL ss))))) (by intro α; show _ = _; kernel_rfl) (by kernel_rfl) ?_
    refine SX.VC_br (!((decide (ss.length ≤ 200 ∧ okL ss)))) (by kernel_rfl) (fun h49 => ?_) (fun h49 => ?_)
    · try simp only [NRM] at h49
      exact SX.VC_ret fun α W _ _ hS => SX.ret_of hS (x := .bool true) (by kernel_rfl) (rfl)
    · try simp only [NRM] at h49
      refine SX.VC_df (.bool ((decide (x.kind = 1 ∨ x.kind = 2 ∨ x.kind = 7)))) (fun α => ⟨[⟨valE x, 0, []⟩], ⟨by kernel_rfl, by kernel_rfl, trivial⟩, .inr (.inr (.inr (.inr (⟨rfl, x, rfl, rfl⟩)))), SX.noAli rfl⟩) (by kernel_rfl) ?_
      refine SX.VC_df (.bool (!((decide (x.kind = 1 ∨ x.kind = 2 ∨ x.kind = 7))))) (by intro α; show _ = _; kernel_rfl) (by kernel_rfl) ?_
      refine SX.VC_br (!((decide (x.kind = 1 ∨ x.kind = 2 ∨ x.kind = 7)))) (by kernel_rfl) (fun h51 => ?_) (fun h51 => ?_)
      · try simp only [NRM] at h51
        exact SX.VC_ret fun α W _ _ hS => SX.ret_of hS (x := .bool true) (by kernel_rfl) (rfl)
      · try simp only [NRM] at h51
        refine SX.VC_df (.bool ((decide (y.kind = 1 ∨ y.kind = 2 ∨ y.kind = 7)))) (fun α => ⟨[⟨valE y, 0, []⟩], ⟨by kernel_rfl, by kernel_rfl, trivial⟩, .inr (.inr (.inr (.inr (⟨rfl, y, rfl, rfl⟩)))), SX.noAli rfl⟩) (by kernel_rfl) ?_
        refine SX.VC_df (.bool (!((decide (y.kind = 1 ∨ y.kind = 2 ∨ y.kind = 7))))) (by intro α; show _ = _; kernel_rfl) (by kernel_rfl) ?_
        refine SX.VC_br (!((decide (y.kind = 1 ∨ y.kind = 2 ∨ y.kind = 7)))) (by kernel_rfl) (fun h53 => ?_) (fun h53 => ?_)
        · try simp only [NRM] at h53
          exact SX.VC_ret fun α W _ _ hS => SX.ret_of hS (x := .bool true) (by kernel_rfl) (rfl)
        · try simp only [NRM] at h53
          refine SX.VC_df (.bool (decide (x.to ≥ y.fr))) (by intro α; show _ = _; kernel_rfl) (by kernel_rfl) ?_
          refine SX.VC_br (decide (x.to ≥ y.fr)) (by kernel_rfl) (fun h54 => ?_) (fun h54 => ?_)
          · try simp only [NRM] at h54
            refine SX.VC_df (.bool (decide (y.to ≥ x.fr))) (by intro α; show _ = _; kernel_rfl) (by kernel_rfl) ?_
            refine SX.VC_br (decide (y.to ≥ x.fr)) (by kernel_rfl) (fun h55 => ?_) (fun h55 => ?_)
            · try simp only [NRM] at h55
              exact SX.VC_ret fun α W _ _ hS => SX.ret_of hS (x := .bool true) (by kernel_rfl) (rfl)
            · try simp only [NRM] at h55
              have hd : disE x y := dis_of (by omega)
              have kx : locE x := by show x.kind = 1 ∨ x.kind = 2 ∨ x.kind = 7; assumption
              have ky : locE y := by show y.kind = 1 ∨ y.kind = 2 ∨ y.kind = 7; assumption
              obtain ⟨hl, ho⟩ : ss.length ≤ 200 ∧ okL ss := by assumption
              have hrun := apart_run kx ky hd (chkS_of (by omega) ho)
              refine SX.VC_df (.tuple #[Value.agg (sgsL (runE ss [x, y]).1).toArray, .int .i64 ((runE ss [x, y]).2)]) (fun α => ⟨[⟨.slice A n c, 14, sgsL ss⟩, ⟨(.slice (some ⟨(α 2).b, 0, none⟩) 2 2), 22, esL [x, y]⟩], ⟨by kernel_rfl, rfl, cast (by kernel_rfl) k1, by kernel_rfl, trivial⟩, .inr (.inr (.inr (.inl ⟨rfl, _, _, _, [x, y], rfl, by omega, by simp, hq2 (by rcases kx with h | h | h <;> rw [h] <;> decide) (by rcases ky with h | h | h <;> rw [h] <;> decide), rfl⟩))), fun j hj x sz hx h => (by (obtain rfl : j = 0 := by simpa using (show j ∈ [0] from hj)); cases hx; exact cast (by kernel_rfl) a1)⟩) (sgs_fit _ _) ?_
              refine SX.VC_df (.tuple #[Value.agg (sgsL (runE ss [y, x]).1).toArray, .int .i64 ((runE ss [y, x]).2)]) (fun α => ⟨[⟨.slice A n c, 14, sgsL ss⟩, ⟨(.slice (some ⟨(α 4).b, 0, none⟩) 2 2), 22, esL [y, x]⟩], ⟨by kernel_rfl, rfl, cast (by kernel_rfl) k1, by kernel_rfl, trivial⟩, .inr (.inr (.inr (.inl ⟨rfl, _, _, _, [y, x], rfl, by omega, by simp, hq2 (by rcases ky with h | h | h <;> rw [h] <;> decide) (by rcases kx with h | h | h <;> rw [h] <;> decide), rfl⟩))), fun j hj x sz hx h => (by (obtain rfl : j = 0 := by simpa using (show j ∈ [0] from hj)); cases hx; exact cast (by kernel_rfl) a1)⟩) (sgs_fit _ _) ?_
              refine SX.VC_df (.bool (((runE ss [x, y]).2 : Int) == 0)) (by intro α; show _ = _; kernel_rfl) (by kernel_rfl) ?_
              refine SX.VC_df (.bool (((runE ss [y, x]).2 : Int) == 0)) (by intro α; show _ = _; kernel_rfl) (by kernel_rfl) ?_
              refine SX.VC_df (.bool (((((runE ss [x, y]).2 : Int) == 0) == (((runE ss [y, x]).2 : Int) == 0)))) (by intro α; show _ = _; kernel_rfl) (by kernel_rfl) ?_
              refine SX.VC_br (((((runE ss [x, y]).2 : Int) == 0) == (((runE ss [y, x]).2 : Int) == 0))) (by kernel_rfl) (fun h60 => ?_) (fun h60 => absurd h60 (by rw [Bool.not_eq_false, beq_iff_eq, Bool.eq_iff_iff, beq_iff_eq, beq_iff_eq]; exact hrun.2))
              try simp only [NRM] at h60
              refine SX.VC_df (.bool ((decide (((runE ss [x, y]).1) = ((runE ss [y, x]).1))))) (fun α => ⟨[⟨(α 3).h, 14, sgsL ((runE ss [x, y]).1)⟩, ⟨(α 5).h, 14, sgsL ((runE ss [y, x]).1)⟩], ⟨Eq.trans (b := ⟨(α 3).h, 14, [Value.agg (sgsL ((runE ss [x, y]).1)).toArray].flatMap SX.cellsV⟩) (by simp [SX.cellsV]) (by kernel_rfl), Eq.trans (b := ⟨(α 5).h, 14, [Value.agg (sgsL ((runE ss [y, x]).1)).toArray].flatMap SX.cellsV⟩) (by simp [SX.cellsV]) (by kernel_rfl), trivial⟩, .inr (.inr (.inl ⟨rfl, _, _, ((runE ss [x, y]).1), ((runE ss [y, x]).1), rfl, by have := runE_len [x, y] ss; omega, by have := runE_len [y, x] ss; omega, rfl⟩)), SX.noAli rfl⟩) (by kernel_rfl) ?_
              exact SX.VC_ret fun α W _ _ hS => SX.ret_of hS (x := .bool ((decide (((runE ss [x, y]).1) = ((runE ss [y, x]).1))))) (by kernel_rfl) ((by rw [show decide _ = true from decide_eq_true hrun.1]))
          · try simp only [NRM] at h54
            have hd : disE x y := dis_of (by omega)
            have kx : locE x := by show x.kind = 1 ∨ x.kind = 2 ∨ x.kind = 7; assumption
            have ky : locE y := by show y.kind = 1 ∨ y.kind = 2 ∨ y.kind = 7; assumption
            obtain ⟨hl, ho⟩ : ss.length ≤ 200 ∧ okL ss := by assumption
            have hrun := apart_run kx ky hd (chkS_of (by omega) ho)
            refine SX.VC_df (.tuple #[Value.agg (sgsL (runE ss [x, y]).1).toArray, .int .i64 ((runE ss [x, y]).2)]) (fun α => ⟨[⟨.slice A n c, 14, sgsL ss⟩, ⟨(.slice (some ⟨(α 2).b, 0, none⟩) 2 2), 22, esL [x, y]⟩], ⟨by kernel_rfl, rfl, cast (by kernel_rfl) k1, by kernel_rfl, trivial⟩, .inr (.inr (.inr (.inl ⟨rfl, _, _, _, [x, y], rfl, by omega, by simp, hq2 (by rcases kx with h | h | h <;> rw [h] <;> decide) (by rcases ky with h | h | h <;> rw [h] <;> decide), rfl⟩))), fun j hj x sz hx h => (by (obtain rfl : j = 0 := by simpa using (show j ∈ [0] from hj)); cases hx; exact cast (by kernel_rfl) a1)⟩) (sgs_fit _ _) ?_
            refine SX.VC_df (.tuple #[Value.agg (sgsL (runE ss [y, x]).1).toArray, .int .i64 ((runE ss [y, x]).2)]) (fun α => ⟨[⟨.slice A n c, 14, sgsL ss⟩, ⟨(.slice (some ⟨(α 4).b, 0, none⟩) 2 2), 22, esL [y, x]⟩], ⟨by kernel_rfl, rfl, cast (by kernel_rfl) k1, by kernel_rfl, trivial⟩, .inr (.inr (.inr (.inl ⟨rfl, _, _, _, [y, x], rfl, by omega, by simp, hq2 (by rcases ky with h | h | h <;> rw [h] <;> decide) (by rcases kx with h | h | h <;> rw [h] <;> decide), rfl⟩))), fun j hj x sz hx h => (by (obtain rfl : j = 0 := by simpa using (show j ∈ [0] from hj)); cases hx; exact cast (by kernel_rfl) a1)⟩) (sgs_fit _ _) ?_
            refine SX.VC_df (.bool (((runE ss [x, y]).2 : Int) == 0)) (by intro α; show _ = _; kernel_rfl) (by kernel_rfl) ?_
            refine SX.VC_df (.bool (((runE ss [y, x]).2 : Int) == 0)) (by intro α; show _ = _; kernel_rfl) (by kernel_rfl) ?_
            refine SX.VC_df (.bool (((((runE ss [x, y]).2 : Int) == 0) == (((runE ss [y, x]).2 : Int) == 0)))) (by intro α; show _ = _; kernel_rfl) (by kernel_rfl) ?_
            refine SX.VC_br (((((runE ss [x, y]).2 : Int) == 0) == (((runE ss [y, x]).2 : Int) == 0))) (by kernel_rfl) (fun h59 => ?_) (fun h59 => absurd h59 (by rw [Bool.not_eq_false, beq_iff_eq, Bool.eq_iff_iff, beq_iff_eq, beq_iff_eq]; exact hrun.2))
            try simp only [NRM] at h59
            refine SX.VC_df (.bool ((decide (((runE ss [x, y]).1) = ((runE ss [y, x]).1))))) (fun α => ⟨[⟨(α 3).h, 14, sgsL ((runE ss [x, y]).1)⟩, ⟨(α 5).h, 14, sgsL ((runE ss [y, x]).1)⟩], ⟨Eq.trans (b := ⟨(α 3).h, 14, [Value.agg (sgsL ((runE ss [x, y]).1)).toArray].flatMap SX.cellsV⟩) (by simp [SX.cellsV]) (by kernel_rfl), Eq.trans (b := ⟨(α 5).h, 14, [Value.agg (sgsL ((runE ss [y, x]).1)).toArray].flatMap SX.cellsV⟩) (by simp [SX.cellsV]) (by kernel_rfl), trivial⟩, .inr (.inr (.inl ⟨rfl, _, _, ((runE ss [x, y]).1), ((runE ss [y, x]).1), rfl, by have := runE_len [x, y] ss; omega, by have := runE_len [y, x] ss; omega, rfl⟩)), SX.noAli rfl⟩) (by kernel_rfl) ?_
            exact SX.VC_ret fun α W _ _ hS => SX.ret_of hS (x := .bool ((decide (((runE ss [x, y]).1) = ((runE ss [y, x]).1))))) (by kernel_rfl) ((by rw [show decide _ = true from decide_eq_true hrun.1]))
end Go.Proofs.Ytnaooclbphaelaa
