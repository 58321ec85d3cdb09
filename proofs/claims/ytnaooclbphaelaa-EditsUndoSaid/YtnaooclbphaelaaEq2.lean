/-
  EditsUndo: its walk.
-/
import Derived.Test.YtnaooclbphaelaaEo
import Derived.Test.YtnaooclbphaelaaEn
namespace Go.Proofs.Ytnaooclbphaelaa
set_option linter.unusedSimpArgs false
set_option linter.unusedVariables false
open Go Go.RowKit
theorem upto {β : Type} {l : List β} {P : β → Prop} {i : Nat} {z : β} (h : ∀ (k : Nat) (y : β), k < i → l[k]? = some y → P y) (hz : l[i]? = some z) (hp : P z) : ∀ (k : Nat) (y : β), k < i + 1 → l[k]? = some y → P y := fun k y hk hy => by
  by_cases e : k = i
  · subst e; rw [hz] at hy; cases hy; exact hp
  · exact h k y (by omega) hy
theorem all_of {β : Type} {l : List β} {P : β → Prop} {i : Nat} (h : ∀ (k : Nat) (y : β), k < i → l[k]? = some y → P y) (hi : l.length ≤ i) : ∀ z ∈ l, P z := fun z hz => by
  obtain ⟨k, hk⟩ := List.mem_iff_getElem?.1 hz
  exact h k z (by have := (List.getElem?_eq_some_iff.1 hk).1; omega) hk
theorem run_two_ok {x y : Ed} {ss t : List Sg} (h : runE ss [x, y] = (t, 0)) : (applyE x ss).2 = 0 ∧ applyE y (applyE x ss).1 = (t, 0) := by
  rw [run_two] at h
  split at h
  · rename_i h1
    refine ⟨h1, ?_⟩
    split at h
    · rename_i h2
      have h3 : (applyE y (applyE x ss).1).1 = t := (Prod.mk.inj h).1
      rw [← h3, ← h2]
    · rename_i h2
      exact absurd (Prod.mk.inj h).2 h2
  · rename_i h1
    exact absurd (Prod.mk.inj h).2 h1
/-- what EditsUndo calls -/
def RE7 (f : FuncId) (xs : List SX.Arg) (v : Value) : Prop :=
  (f = 10 ∧ xs = [] ∧ v = .bool true) ∨
  (f = 20 ∧ ∃ (u : Value) (ss : List Sg), xs = [⟨u, 14, sgsL ss⟩] ∧ ss.length ≤ 9223372036854775807 ∧ v = .bool (decide (ss.length ≤ 200 ∧ okL ss))) ∨
  (f = 16 ∧ ∃ (u u2 : Value) (ss tt : List Sg), xs = [⟨u, 14, sgsL ss⟩, ⟨u2, 14, sgsL tt⟩] ∧ ss.length ≤ 9223372036854775807 ∧ tt.length ≤ 9223372036854775807 ∧ v = .bool (decide (ss = tt))) ∨
  (f = 12 ∧ ∃ (u : Value) (ss : List Sg) (d : Ed), xs = [⟨u, 14, sgsL ss⟩, ⟨valE d, 0, []⟩] ∧ ss.length ≤ 9223372036854775807 ∧ d.kind ≠ 5 ∧ v = .tuple #[.agg (sgsL (applyE d ss).1).toArray, .int .i64 (applyE d ss).2]) ∨
  (f = 21 ∧ ∃ kind role fr many : Int, xs = [⟨.int .i64 kind, 0, []⟩, ⟨.int .u8 role, 0, []⟩, ⟨.int .u8 fr, 0, []⟩, ⟨.int .u8 many, 0, []⟩] ∧ 0 ≤ role ∧ role ≤ 255 ∧ 0 ≤ fr ∧ fr ≤ 255 ∧ 0 ≤ many ∧ many ≤ 255 ∧ v = valE (passE kind role fr many))
def shpE7 : FuncId → Option SX.Sh := fun f => if f = 10 then some .one else if f = 20 then some .one else if f = 16 then some .one else if f = 12 then some (.tp [.sl 14, .one]) else if f = 21 then some (.ag 22) else none
noncomputable def cxE7 (K A : Value → Nat → List Value → Prop) : SX.Cx := { P := Try.prog, R := fun _ => RE7, shp := shpE7, K := K, A := A, trm := true, cut := [(7, 0, true), (12, 2, true), (14, 3, true), (24, 4, true), (26, 5, true), (28, 6, true), (30, 7, true), (40, 9, false), (41, 10, true), (42, 11, true), (41, 9, true), (53, 13, true), (42, 10, true), (44, 11, true), (55, 13, true)] }
theorem okE7 (K A : Value → Nat → List Value → Prop) : (cxE7 K A).Ok := by
  refine SX.Cx.ok_of (fun _ => rfl) ?_
  intro K f xs v W hR hrd hKf
  rcases hR with ⟨rfl, rfl, rfl⟩ | ⟨rfl, u, ss, rfl, hl, rfl⟩ | ⟨rfl, u, u2, ss, tt, rfl, hl, hl2, rfl⟩ | ⟨rfl, u, ss, d, rfl, hl, hd, rfl⟩ | ⟨rfl, kind, role, fr, many, rfl, h1, h2, h3, h4, h5, h6, rfl⟩
  · exact (sane36_any W).mono fun e w' h => SX.plainOk rfl h
  · obtain ⟨A, n, c, rfl, h2, h3, h4⟩ := sgs_arg (hrd ⟨u, 14, sgsL ss⟩ (by simp))
    exact (lright_any ss A n c W h2 (by omega) h3).mono fun e w' h => SX.plainOk rfl h
  · obtain ⟨A, n, c, rfl, h2, h3, h4⟩ := sgs_arg (hrd ⟨u, 14, sgsL ss⟩ (by simp))
    obtain ⟨A', n', c', rfl, h2', h3', h4'⟩ := sgs_arg (hrd ⟨u2, 14, sgsL tt⟩ (by simp))
    exact (same_any ss tt A A' n c n' c' W h2 (by omega) h3 h2' (by omega) h3').mono fun e w' h => SX.plainOk rfl h
  · refine Calls.mono ?_ fun e w' h => SX.SlRet.ok0 rfl h
    obtain ⟨A, n, c, rfl, h2, h3, h4⟩ := sgs_arg (hrd ⟨u, 14, sgsL ss⟩ (by simp))
    exact apply_any ss A n c d W h2 (by omega) h3 hd
  · exact (passage_any kind role fr many W h1 h2 h3 h4 h5 h6).mono fun e w' h => SX.plainOk rfl h
def tree_undo : SX.Tree :=
(.df (.call 10 []) [] .one 
(.df .not [(.x 6 [])] .one 
(.br 7 [] (.bad 70 []) 
(.df (.call 20 [(.ext 14)]) [(.x 0 [])] .one 
(.df .not [(.x 8 [])] .one 
(.br 9 [] 
(.ret (.k (.bool true)) [] []) 
(.df (.call 21 [.no, .no, .no, .no]) [(.k (.int .i64 1)), (.x 1 []), (.x 3 []), (.x 4 [])] (.ag 22) 
(.df (.call 12 [(.ext 14), .no]) [(.x 0 []), (.a [(.x 10 [0]), (.x 10 [1]), (.x 10 [2]), (.x 10 [3]), (.x 10 [4]), (.x 10 [5]), (.x 10 [6]), (.x 10 [7]), (.x 10 [8]), (.x 10 [9]), (.x 10 [10]), (.x 10 [11]), (.x 10 [12]), (.x 10 [13]), (.x 10 [14]), (.x 10 [15]), (.x 10 [16]), (.x 10 [17]), (.x 10 [18]), (.x 10 [19]), (.x 10 [20]), (.x 10 [21])])] (.tp [(.sl 14), .one]) 
(.df (.bin .neq 31) [(.x 11 [1]), (.k (.int .i64 0))] .one 
(.br 12 [] (.bad 70 []) 
(.df (.call 12 [(.row 14 [(.x 11 [0])]), .no]) [(.row 5), (.a [(.x 10 [0]), (.x 10 [1]), (.x 10 [2]), (.x 10 [3]), (.x 10 [4]), (.x 10 [5]), (.x 10 [6]), (.x 10 [7]), (.x 10 [8]), (.x 10 [9]), (.x 10 [10]), (.x 10 [11]), (.x 10 [12]), (.x 10 [13]), (.x 10 [14]), (.x 10 [15]), (.x 10 [16]), (.x 10 [17]), (.x 10 [18]), (.x 10 [19]), (.x 10 [20]), (.x 10 [21])])] (.tp [(.sl 14), .one]) 
(.df (.bin .neq 31) [(.x 13 [1]), (.k (.int .i64 0))] .one 
(.br 14 [] (.bad 70 []) 
(.df (.call 21 [.no, .no, .no, .no]) [(.k (.int .i64 2)), (.x 1 []), (.x 3 []), (.x 4 [])] (.ag 22) 
(.df (.call 21 [.no, .no, .no, .no]) [(.k (.int .i64 2)), (.x 1 []), (.x 3 []), (.x 4 [])] (.ag 22) 
(.df (.conv .i64) [(.x 5 [])] .one 
(.df (.bin .rem 3) [(.x 17 []), (.k (.int .i64 7))] .one 
(.df (.bin .add 3) [(.k (.int .i64 1)), (.x 18 [])] .one 
(.df (.conv .i64) [(.x 5 [])] .one 
(.df (.bin .rem 3) [(.x 20 []), (.k (.int .i64 7))] .one 
(.df (.bin .sub 3) [(.k (.int .i64 7)), (.x 21 [])] .one 
(.df (.call 12 [(.ext 14), .no]) [(.x 0 []), (.a [(.x 15 [0]), (.x 15 [1]), (.x 15 [2]), (.x 15 [3]), (.x 15 [4]), (.x 19 []), (.x 15 [6]), (.x 15 [7]), (.x 15 [8]), (.x 15 [9]), (.x 15 [10]), (.x 15 [11]), (.x 15 [12]), (.x 15 [13]), (.x 15 [14]), (.x 15 [15]), (.x 15 [16]), (.x 15 [17]), (.x 15 [18]), (.x 15 [19]), (.x 15 [20]), (.x 15 [21])])] (.tp [(.sl 14), .one]) 
(.df (.bin .neq 31) [(.x 23 [1]), (.k (.int .i64 0))] .one 
(.br 24 [] (.bad 70 []) 
(.df (.call 12 [(.row 14 [(.x 23 [0])]), .no]) [(.row 20), (.a [(.x 16 [0]), (.x 16 [1]), (.x 16 [2]), (.x 16 [3]), (.x 16 [4]), (.x 22 []), (.x 16 [6]), (.x 16 [7]), (.x 16 [8]), (.x 16 [9]), (.x 16 [10]), (.x 16 [11]), (.x 16 [12]), (.x 16 [13]), (.x 16 [14]), (.x 16 [15]), (.x 16 [16]), (.x 16 [17]), (.x 16 [18]), (.x 16 [19]), (.x 16 [20]), (.x 16 [21])])] (.tp [(.sl 14), .one]) 
(.df (.bin .neq 31) [(.x 25 [1]), (.k (.int .i64 0))] .one 
(.br 26 [] (.bad 70 []) 
(.df (.call 16 [(.row 14 [(.x 13 [0])]), (.ext 14)]) [(.row 7), (.x 0 [])] .one 
(.df .not [(.x 27 [])] .one 
(.br 28 [] (.bad 70 []) 
(.df (.call 16 [(.row 14 [(.x 25 [0])]), (.ext 14)]) [(.row 22), (.x 0 [])] .one 
(.df .not [(.x 29 [])] .one 
(.br 30 [] (.bad 70 []) 
(.df (.call 21 [.no, .no, .no, .no]) [(.k (.int .i64 6)), (.x 1 []), (.x 3 []), (.x 4 [])] (.ag 22) 
(.df (.conv .i64) [(.x 1 [])] .one 
(.df (.bin .rem 3) [(.x 32 []), (.k (.int .i64 64))] .one 
(.df (.bin .add 3) [(.k (.int .i64 1)), (.x 33 [])] .one 
(.df (.conv .i64) [(.x 2 [])] .one 
(.df (.bin .rem 3) [(.x 35 []), (.k (.int .i64 64))] .one 
(.df (.bin .add 3) [(.k (.int .i64 1)), (.x 36 [])] .one 
(.df (.call 12 [(.ext 14), .no]) [(.x 0 []), (.a [(.x 31 [0]), (.x 34 []), (.x 37 []), (.x 31 [3]), (.x 31 [4]), (.x 31 [5]), (.x 31 [6]), (.x 31 [7]), (.x 31 [8]), (.x 31 [9]), (.x 31 [10]), (.x 31 [11]), (.x 31 [12]), (.x 31 [13]), (.x 31 [14]), (.x 31 [15]), (.x 31 [16]), (.x 31 [17]), (.x 31 [18]), (.x 31 [19]), (.x 31 [20]), (.x 31 [21])])] (.tp [(.sl 14), .one]) 
(.df (.bin .neq 31) [(.x 38 [1]), (.k (.int .i64 0))] .one 
(.br 39 [] 
(.df (.bin .eql 3) [(.x 34 []), (.x 37 [])] .one 
(.br 40 [] 
(.df (.bin .neq 31) [(.x 38 [1]), (.k (.int .i64 360))] .one 
(.br 41 [] (.bad 70 []) 
(.df (.snil true) [(.k (.slice none 0 0))] .one 
(.br 42 [] (.bad 70 []) 
(.df (.conv .i64) [(.x 3 [])] .one 
(.df (.conv .i64) [(.x 4 [])] .one 
(.df (.bin .add 3) [(.k (.int .i64 1)), (.x 44 [])] .one 
(.df (.conv .i64) [(.x 3 [])] .one 
(.df (.conv .i64) [(.x 3 [])] .one 
(.df (.conv .i64) [(.x 4 [])] .one 
(.df (.bin .add 3) [(.x 47 []), (.x 48 [])] .one 
(.df (.call 12 [(.ext 14), .no]) [(.x 0 []), (.a [(.k (.int .i64 4)), (.k (.int .i64 0)), (.k (.int .i64 0)), (.x 43 []), (.k (.int .i64 0)), (.x 45 []), (.k (.int .i64 0)), (.k (.int .i64 0)), (.k (.int .i64 0)), (.k (.int .i64 0)), (.k (.int .i64 0)), (.k (.int .i64 0)), (.k (.int .i64 0)), (.k (.int .i64 0)), (.k (.int .i64 0)), (.k (.int .i64 0)), (.k (.int .i64 0)), (.k (.int .i64 0)), (.k (.int .i64 0)), (.k (.int .i64 0)), (.k (.int .i64 0)), (.k (.int .i64 0))])] (.tp [(.sl 14), .one]) 
(.df (.bin .neq 31) [(.x 50 [1]), (.k (.int .i64 0))] .one 
(.br 51 [] 
(.df (.len false) [(.x 0 [])] .one 
(.loop [(.k (.int .i64 0))] [.one] 
(.df (.bin .lss 3) [(.x 53 []), (.x 52 [])] .one 
(.br 54 [] 
(.df .bnd [(.x 0 []), (.x 53 [])] .one 
(.df (.elems 14 0 14) [(.x 0 []), (.x 53 [])] (.ag 14) 
(.df (.conv .i64) [(.x 3 [])] .one 
(.df (.bin .geq 3) [(.x 56 [2]), (.x 57 [])] .one 
(.br 58 [] 
(.df (.bin .add 3) [(.x 56 [2]), (.k (.int .i64 1))] .one 
(.df (.conv .i64) [(.x 4 [])] .one 
(.df (.bin .add 3) [(.x 59 []), (.x 60 [])] .one 
(.df (.bin .gtr 3) [(.x 61 []), (.k (.int .i64 4095))] .one 
(.br 62 [] 
(.df (.bin .geq 3) [(.x 53 []), (.k (.int .i64 0))] .one 
(.br 63 [] 
(.df (.bin .eql 31) [(.x 50 [1]), (.k (.int .i64 360))] .one 
(.ret (.x 64 []) [] [])) 
(.df (.bin .eql 31) [(.x 50 [1]), (.k (.int .i64 0))] .one 
(.br 64 [] 
(.df (.call 16 [(.own 14 []), (.ext 14)]) [(.k (.slice none 0 0)), (.x 0 [])] .one 
(.ret (.x 65 []) [] [])) 
(.ret (.k (.bool false)) [] []))))) 
(.df (.bin .add 3) [(.x 53 []), (.k (.int .i64 1))] .one 
(.again 0 [(.x 63 [])]))))))) 
(.df (.bin .add 3) [(.x 53 []), (.k (.int .i64 1))] .one 
(.again 0 [(.x 59 [])]))))))) 
(.df (.bin .eql 31) [(.x 50 [1]), (.k (.int .i64 0))] .one 
(.br 55 [] 
(.df (.call 16 [(.own 14 []), (.ext 14)]) [(.k (.slice none 0 0)), (.x 0 [])] .one 
(.ret (.x 56 []) [] [])) 
(.ret (.k (.bool false)) [] []))))))) 
(.df (.call 12 [(.row 14 [(.x 50 [0])]), .no]) [(.row 31), (.a [(.k (.int .i64 3)), (.k (.int .i64 0)), (.k (.int .i64 0)), (.x 46 []), (.x 49 []), (.k (.int .i64 0)), (.k (.int .i64 0)), (.k (.int .i64 0)), (.k (.int .i64 0)), (.k (.int .i64 0)), (.k (.int .i64 0)), (.k (.int .i64 0)), (.k (.int .i64 0)), (.k (.int .i64 0)), (.k (.int .i64 0)), (.k (.int .i64 0)), (.k (.int .i64 0)), (.k (.int .i64 0)), (.k (.int .i64 0)), (.k (.int .i64 0)), (.k (.int .i64 0)), (.k (.int .i64 0))])] (.tp [(.sl 14), .one]) 
(.df (.bin .neq 31) [(.x 52 [1]), (.k (.int .i64 0))] .one 
(.br 53 [] (.bad 70 []) 
(.df (.len false) [(.x 0 [])] .one 
(.loop [(.k (.int .i64 0))] [.one] 
(.df (.bin .lss 3) [(.x 55 []), (.x 54 [])] .one 
(.br 56 [] 
(.df .bnd [(.x 0 []), (.x 55 [])] .one 
(.df (.elems 14 0 14) [(.x 0 []), (.x 55 [])] (.ag 14) 
(.df (.conv .i64) [(.x 3 [])] .one 
(.df (.bin .geq 3) [(.x 58 [2]), (.x 59 [])] .one 
(.br 60 [] 
(.df (.bin .add 3) [(.x 58 [2]), (.k (.int .i64 1))] .one 
(.df (.conv .i64) [(.x 4 [])] .one 
(.df (.bin .add 3) [(.x 61 []), (.x 62 [])] .one 
(.df (.bin .gtr 3) [(.x 63 []), (.k (.int .i64 4095))] .one 
(.br 64 [] 
(.df (.bin .geq 3) [(.x 55 []), (.k (.int .i64 0))] .one 
(.br 65 [] 
(.ret (.k (.bool false)) [] []) 
(.df (.call 16 [(.row 14 [(.x 52 [0])]), (.ext 14)]) [(.row 33), (.x 0 [])] .one 
(.ret (.x 66 []) [] [])))) 
(.df (.bin .add 3) [(.x 55 []), (.k (.int .i64 1))] .one 
(.again 0 [(.x 65 [])]))))))) 
(.df (.bin .add 3) [(.x 55 []), (.k (.int .i64 1))] .one 
(.again 0 [(.x 61 [])]))))))) 
(.df (.call 16 [(.row 14 [(.x 52 [0])]), (.ext 14)]) [(.row 33), (.x 0 [])] .one 
(.ret (.x 57 []) [] []))))))))))))))))))))))) (.bad 70 []))) 
(.df (.call 12 [(.row 14 [(.x 38 [0])]), .no]) [(.row 26), (.a [(.x 31 [0]), (.x 34 []), (.x 37 []), (.x 31 [3]), (.x 31 [4]), (.x 31 [5]), (.x 31 [6]), (.x 31 [7]), (.x 31 [8]), (.x 31 [9]), (.x 31 [10]), (.x 31 [11]), (.x 31 [12]), (.x 31 [13]), (.x 31 [14]), (.x 31 [15]), (.x 31 [16]), (.x 31 [17]), (.x 31 [18]), (.x 31 [19]), (.x 31 [20]), (.x 31 [21])])] (.tp [(.sl 14), .one]) 
(.df (.bin .neq 31) [(.x 40 [1]), (.k (.int .i64 0))] .one 
(.br 41 [] (.bad 70 []) 
(.df (.bin .eql 3) [(.x 34 []), (.x 37 [])] .one 
(.br 42 [] (.bad 70 []) 
(.df (.call 16 [(.row 14 [(.x 40 [0])]), (.ext 14)]) [(.row 28), (.x 0 [])] .one 
(.df .not [(.x 43 [])] .one 
(.br 44 [] (.bad 70 []) 
(.df (.conv .i64) [(.x 3 [])] .one 
(.df (.conv .i64) [(.x 4 [])] .one 
(.df (.bin .add 3) [(.k (.int .i64 1)), (.x 46 [])] .one 
(.df (.conv .i64) [(.x 3 [])] .one 
(.df (.conv .i64) [(.x 3 [])] .one 
(.df (.conv .i64) [(.x 4 [])] .one 
(.df (.bin .add 3) [(.x 49 []), (.x 50 [])] .one 
(.df (.call 12 [(.ext 14), .no]) [(.x 0 []), (.a [(.k (.int .i64 4)), (.k (.int .i64 0)), (.k (.int .i64 0)), (.x 45 []), (.k (.int .i64 0)), (.x 47 []), (.k (.int .i64 0)), (.k (.int .i64 0)), (.k (.int .i64 0)), (.k (.int .i64 0)), (.k (.int .i64 0)), (.k (.int .i64 0)), (.k (.int .i64 0)), (.k (.int .i64 0)), (.k (.int .i64 0)), (.k (.int .i64 0)), (.k (.int .i64 0)), (.k (.int .i64 0)), (.k (.int .i64 0)), (.k (.int .i64 0)), (.k (.int .i64 0)), (.k (.int .i64 0))])] (.tp [(.sl 14), .one]) 
(.df (.bin .neq 31) [(.x 52 [1]), (.k (.int .i64 0))] .one 
(.br 53 [] 
(.df (.len false) [(.x 0 [])] .one 
(.loop [(.k (.int .i64 0))] [.one] 
(.df (.bin .lss 3) [(.x 55 []), (.x 54 [])] .one 
(.br 56 [] 
(.df .bnd [(.x 0 []), (.x 55 [])] .one 
(.df (.elems 14 0 14) [(.x 0 []), (.x 55 [])] (.ag 14) 
(.df (.conv .i64) [(.x 3 [])] .one 
(.df (.bin .geq 3) [(.x 58 [2]), (.x 59 [])] .one 
(.br 60 [] 
(.df (.bin .add 3) [(.x 58 [2]), (.k (.int .i64 1))] .one 
(.df (.conv .i64) [(.x 4 [])] .one 
(.df (.bin .add 3) [(.x 61 []), (.x 62 [])] .one 
(.df (.bin .gtr 3) [(.x 63 []), (.k (.int .i64 4095))] .one 
(.br 64 [] 
(.df (.bin .geq 3) [(.x 55 []), (.k (.int .i64 0))] .one 
(.br 65 [] 
(.df (.bin .eql 31) [(.x 52 [1]), (.k (.int .i64 360))] .one 
(.ret (.x 66 []) [] [])) 
(.df (.bin .eql 31) [(.x 52 [1]), (.k (.int .i64 0))] .one 
(.br 66 [] 
(.df (.call 16 [(.own 14 []), (.ext 14)]) [(.k (.slice none 0 0)), (.x 0 [])] .one 
(.ret (.x 67 []) [] [])) 
(.ret (.k (.bool false)) [] []))))) 
(.df (.bin .add 3) [(.x 55 []), (.k (.int .i64 1))] .one 
(.again 0 [(.x 65 [])]))))))) 
(.df (.bin .add 3) [(.x 55 []), (.k (.int .i64 1))] .one 
(.again 0 [(.x 61 [])]))))))) 
(.df (.bin .eql 31) [(.x 52 [1]), (.k (.int .i64 0))] .one 
(.br 57 [] 
(.df (.call 16 [(.own 14 []), (.ext 14)]) [(.k (.slice none 0 0)), (.x 0 [])] .one 
(.ret (.x 58 []) [] [])) 
(.ret (.k (.bool false)) [] []))))))) 
(.df (.call 12 [(.row 14 [(.x 52 [0])]), .no]) [(.row 33), (.a [(.k (.int .i64 3)), (.k (.int .i64 0)), (.k (.int .i64 0)), (.x 48 []), (.x 51 []), (.k (.int .i64 0)), (.k (.int .i64 0)), (.k (.int .i64 0)), (.k (.int .i64 0)), (.k (.int .i64 0)), (.k (.int .i64 0)), (.k (.int .i64 0)), (.k (.int .i64 0)), (.k (.int .i64 0)), (.k (.int .i64 0)), (.k (.int .i64 0)), (.k (.int .i64 0)), (.k (.int .i64 0)), (.k (.int .i64 0)), (.k (.int .i64 0)), (.k (.int .i64 0)), (.k (.int .i64 0))])] (.tp [(.sl 14), .one]) 
(.df (.bin .neq 31) [(.x 54 [1]), (.k (.int .i64 0))] .one 
(.br 55 [] (.bad 70 []) 
(.df (.len false) [(.x 0 [])] .one 
(.loop [(.k (.int .i64 0))] [.one] 
(.df (.bin .lss 3) [(.x 57 []), (.x 56 [])] .one 
(.br 58 [] 
(.df .bnd [(.x 0 []), (.x 57 [])] .one 
(.df (.elems 14 0 14) [(.x 0 []), (.x 57 [])] (.ag 14) 
(.df (.conv .i64) [(.x 3 [])] .one 
(.df (.bin .geq 3) [(.x 60 [2]), (.x 61 [])] .one 
(.br 62 [] 
(.df (.bin .add 3) [(.x 60 [2]), (.k (.int .i64 1))] .one 
(.df (.conv .i64) [(.x 4 [])] .one 
(.df (.bin .add 3) [(.x 63 []), (.x 64 [])] .one 
(.df (.bin .gtr 3) [(.x 65 []), (.k (.int .i64 4095))] .one 
(.br 66 [] 
(.df (.bin .geq 3) [(.x 57 []), (.k (.int .i64 0))] .one 
(.br 67 [] 
(.ret (.k (.bool false)) [] []) 
(.df (.call 16 [(.row 14 [(.x 54 [0])]), (.ext 14)]) [(.row 35), (.x 0 [])] .one 
(.ret (.x 68 []) [] [])))) 
(.df (.bin .add 3) [(.x 57 []), (.k (.int .i64 1))] .one 
(.again 0 [(.x 67 [])]))))))) 
(.df (.bin .add 3) [(.x 57 []), (.k (.int .i64 1))] .one 
(.again 0 [(.x 63 [])]))))))) 
(.df (.call 16 [(.row 14 [(.x 54 [0])]), (.ext 14)]) [(.row 35), (.x 0 [])] .one 
(.ret (.x 59 []) [] []))))))))))))))))))))))))))))))))))))))))))))))))))))))))))))))))))))))
def args_undo : List SX.V := ((List.range 6).map fun j => .x j [])
set_option maxRecDepth 100000 in
theorem run_undo (K A : Value → Nat → List Value → Prop) : (SX.run (cxE7 K A) ⟨fun f => true, [⟨50, 2, [(.s 8, .one)]⟩], 0, 100⟩ 100000 0 (SX.door 9 Try.f9 args_undo (List.replicate 6 .one)) [.code (Try.f9.body.getD .skip), .top Try.f9]).strip = tree_undo := by kernel_rfl
set_option maxRecDepth 100000 in
set_option maxHeartbeats 4000000 in
theorem undo_any (ss : List Sg) (A : Option Addr) (n c : Nat) (role other fr many nn : Int)  (w : World) (hr : Rd w 14 A n (sgsL ss)) (hn : n ≤ 9223372036854775807) (hc : n ≤ c) (hr0 : 0 ≤ role) (hr1 : role ≤ 255) (ho0 : 0 ≤ other) (ho1 : other ≤ 255) (hf0 : 0 ≤ fr) (hf1 : fr ≤ 255) (hm0 : 0 ≤ many) (hm1 : many ≤ 255) (hn0 : 0 ≤ nn) (hn1 : nn ≤ 255) : Calls Try.prog 9 #[.slice A n c, .int .u8 role, .int .u8 other, .int .u8 fr, .int .u8 many, .int .u8 nn] w fun e w' => e = .returned (.bool true) ∧ Below w.heap.size w w' := by
  refine SX.calls_of_run (C := cxE7 (runA A n c ss) (runA A n c ss)) (G := ⟨fun f => true, [⟨50, 2, [(.s 8, .one)]⟩], 0, 100⟩) (args := args_undo) (sh := (List.replicate 6 .one)) (ρ := [.slice A n c, .int .u8 role, .int .u8 other, .int .u8 fr, .int .u8 many, .int .u8 nn]) 100000 tree_undo (okE7 _ _) Try.func9 rfl (run_undo _ _) (by kernel_rfl) (by kernel_rfl) (by kernel_rfl) ?_ ?_
  · rintro W hW s sz cells ⟨rfl, rfl, rfl⟩; exact ⟨hr.same0 hW, hc⟩
  have hA := SX.rd_some hr
  have hln : ss.length = n := by have := hr.1; rw [sgsL_len] at this; omega
  have k1 : runA A n c ss (.slice A n c) 14 (sgsL ss) := ⟨rfl, rfl, rfl⟩
  have a1 := k1
  unfold tree_undo
  refine SX.VC_df (.bool true) (fun α => ⟨[], trivial, .inl ⟨rfl, rfl, rfl⟩, SX.noAli rfl⟩) (by kernel_rfl) ?_
  refine SX.VC_df (.bool (!(true))) (by intro α; show _ = _; kernel_rfl) (by kernel_rfl) ?_
  refine SX.VC_br (!(true)) (by kernel_rfl) (fun h7 => absurd h7 (by simp)) (fun h7 => ?_)
  refine SX.VC_df (.bool ((decide (ss.length ≤ 200 ∧ okL ss)))) (fun α => ⟨[⟨.slice A n c, 14, sgsL ss⟩], ⟨by kernel_rfl, rfl, cast (by kernel_rfl) k1, trivial⟩, .inr (.inl ⟨rfl, _, _, rfl, by omega, rfl⟩), SX.noAli rfl⟩) (by kernel_rfl) ?_
  refine SX.VC_df (.bool (!((decide (ss.length ≤ 200 ∧ okL ss))))) (by intro α; show _ = _; kernel_rfl) (by kernel_rfl) ?_
  refine SX.VC_br (!((decide (ss.length ≤ 200 ∧ okL ss)))) (by kernel_rfl) (fun h9 => ?_) (fun h9 => ?_)
  · try simp only [NRM] at h9
    exact SX.VC_ret fun α W _ _ hS => SX.ret_of hS (x := .bool true) (by kernel_rfl) rfl
  · try simp only [NRM] at h9
    refine SX.VC_df (valE (passE 1 role fr many)) (fun α => ⟨[⟨.int .i64 1, 0, []⟩, ⟨.int .u8 role, 0, []⟩, ⟨.int .u8 fr, 0, []⟩, ⟨.int .u8 many, 0, []⟩], ⟨by kernel_rfl, by kernel_rfl, by kernel_rfl, by kernel_rfl, by kernel_rfl, by kernel_rfl, by kernel_rfl, by kernel_rfl, trivial⟩, .inr (.inr (.inr (.inr (⟨rfl, 1, role, fr, many, rfl, hr0, hr1, hf0, hf1, hm0, hm1, rfl⟩)))), SX.noAli rfl⟩) (by kernel_rfl) ?_
    obtain ⟨hl2, hok⟩ : ss.length ≤ 200 ∧ okL ss := by assumption
    have hch : chkS ss = 0 := chkS_of (by omega) hok
    obtain ⟨M1, M2⟩ := run_two_ok (undo_mirror hch (role := role) ⟨hf0, hf1⟩ ⟨hm0, hm1⟩)
    obtain ⟨T1, T2⟩ := run_two_ok (undo_turn hch (role := role) (n := 1 + nn % 7) (m := 7 - nn % 7) ⟨hf0, hf1⟩ ⟨hm0, hm1⟩ (by omega) (by omega))
    simp only [passE] at M1 M2
    refine SX.VC_df (.tuple #[Value.agg (sgsL (applyE ((⟨1, role % 65, 0, fr, fr + many, 0, 0, 0, zeroSg⟩ : Ed)) ss).1).toArray, .int .i64 ((applyE ((⟨1, role % 65, 0, fr, fr + many, 0, 0, 0, zeroSg⟩ : Ed)) ss).2)]) (fun α => ⟨[⟨.slice A n c, 14, sgsL ss⟩, ⟨valE (⟨1, role % 65, 0, fr, fr + many, 0, 0, 0, zeroSg⟩ : Ed), 0, []⟩], ⟨by kernel_rfl, rfl, cast (by kernel_rfl) k1, by kernel_rfl, by kernel_rfl, trivial⟩, .inr (.inr (.inr (.inl ⟨rfl, _, ss, (⟨1, role % 65, 0, fr, fr + many, 0, 0, 0, zeroSg⟩ : Ed), rfl, by omega, (show (1 : Int) ≠ 5 by decide), rfl⟩))), SX.noAli rfl⟩) (sgs_fit _ _) ?_
    refine SX.VC_df (.bool (((applyE ((⟨1, role % 65, 0, fr, fr + many, 0, 0, 0, zeroSg⟩ : Ed)) ss).2 : Int) != 0)) (by intro α; show _ = _; kernel_rfl) (by kernel_rfl) ?_
    refine SX.VC_br (((applyE ((⟨1, role % 65, 0, fr, fr + many, 0, 0, 0, zeroSg⟩ : Ed)) ss).2 : Int) != 0) (by kernel_rfl) (fun h12 => absurd h12 (by first | (rw [M1]; first | decide | simp) | (rw [M2]; first | decide | simp) | (rw [T1]; first | decide | simp) | (rw [T2]; first | decide | simp) | (rw [C0]; first | decide | simp) | (rw [C1]; first | decide | simp) | (rw [C2]; first | decide | simp) | (rw [O1]; first | decide | simp) | (rw [O2]; first | decide | simp))) (fun h12 => ?_)
    refine SX.VC_df (.tuple #[Value.agg (sgsL (applyE ((⟨1, role % 65, 0, fr, fr + many, 0, 0, 0, zeroSg⟩ : Ed)) ((applyE ((⟨1, role % 65, 0, fr, fr + many, 0, 0, 0, zeroSg⟩ : Ed)) ss).1)).1).toArray, .int .i64 ((applyE ((⟨1, role % 65, 0, fr, fr + many, 0, 0, 0, zeroSg⟩ : Ed)) ((applyE ((⟨1, role % 65, 0, fr, fr + many, 0, 0, 0, zeroSg⟩ : Ed)) ss).1)).2)]) (fun α => ⟨[⟨(α 5).h, 14, sgsL ((applyE ((⟨1, role % 65, 0, fr, fr + many, 0, 0, 0, zeroSg⟩ : Ed)) ss).1)⟩, ⟨valE (⟨1, role % 65, 0, fr, fr + many, 0, 0, 0, zeroSg⟩ : Ed), 0, []⟩], ⟨Eq.trans (b := ⟨(α 5).h, 14, [Value.agg (sgsL ((applyE ((⟨1, role % 65, 0, fr, fr + many, 0, 0, 0, zeroSg⟩ : Ed)) ss).1)).toArray].flatMap SX.cellsV⟩) (by simp [SX.cellsV]) (by kernel_rfl), by kernel_rfl, by kernel_rfl, trivial⟩, .inr (.inr (.inr (.inl ⟨rfl, _, ((applyE ((⟨1, role % 65, 0, fr, fr + many, 0, 0, 0, zeroSg⟩ : Ed)) ss).1), (⟨1, role % 65, 0, fr, fr + many, 0, 0, 0, zeroSg⟩ : Ed), rfl, by have := applyE_len ((⟨1, role % 65, 0, fr, fr + many, 0, 0, 0, zeroSg⟩ : Ed)) ss; omega, (show (1 : Int) ≠ 5 by decide), rfl⟩))), SX.noAli rfl⟩) (sgs_fit _ _) ?_
    refine SX.VC_df (.bool (((applyE ((⟨1, role % 65, 0, fr, fr + many, 0, 0, 0, zeroSg⟩ : Ed)) ((applyE ((⟨1, role % 65, 0, fr, fr + many, 0, 0, 0, zeroSg⟩ : Ed)) ss).1)).2 : Int) != 0)) (by intro α; show _ = _; kernel_rfl) (by kernel_rfl) ?_
    refine SX.VC_br (((applyE ((⟨1, role % 65, 0, fr, fr + many, 0, 0, 0, zeroSg⟩ : Ed)) ((applyE ((⟨1, role % 65, 0, fr, fr + many, 0, 0, 0, zeroSg⟩ : Ed)) ss).1)).2 : Int) != 0) (by kernel_rfl) (fun h14 => absurd h14 (by first | (rw [M1]; first | decide | simp) | (rw [M2]; first | decide | simp) | (rw [T1]; first | decide | simp) | (rw [T2]; first | decide | simp) | (rw [C0]; first | decide | simp) | (rw [C1]; first | decide | simp) | (rw [C2]; first | decide | simp) | (rw [O1]; first | decide | simp) | (rw [O2]; first | decide | simp))) (fun h14 => ?_)
    refine SX.VC_df (valE (passE 2 role fr many)) (fun α => ⟨[⟨.int .i64 2, 0, []⟩, ⟨.int .u8 role, 0, []⟩, ⟨.int .u8 fr, 0, []⟩, ⟨.int .u8 many, 0, []⟩], ⟨by kernel_rfl, by kernel_rfl, by kernel_rfl, by kernel_rfl, by kernel_rfl, by kernel_rfl, by kernel_rfl, by kernel_rfl, trivial⟩, .inr (.inr (.inr (.inr (⟨rfl, 2, role, fr, many, rfl, hr0, hr1, hf0, hf1, hm0, hm1, rfl⟩)))), SX.noAli rfl⟩) (by kernel_rfl) ?_
    refine SX.VC_df (valE (passE 2 role fr many)) (fun α => ⟨[⟨.int .i64 2, 0, []⟩, ⟨.int .u8 role, 0, []⟩, ⟨.int .u8 fr, 0, []⟩, ⟨.int .u8 many, 0, []⟩], ⟨by kernel_rfl, by kernel_rfl, by kernel_rfl, by kernel_rfl, by kernel_rfl, by kernel_rfl, by kernel_rfl, by kernel_rfl, trivial⟩, .inr (.inr (.inr (.inr (⟨rfl, 2, role, fr, many, rfl, hr0, hr1, hf0, hf1, hm0, hm1, rfl⟩)))), SX.noAli rfl⟩) (by kernel_rfl) ?_
    refine SX.VC_df (.int .i64 nn) (fun α => Eq.trans (b := some (.int .i64 (IntKind.i64.wrap nn))) (by kernel_rfl) (by rw [wrap_i64 (by omega) (by omega)])) (by kernel_rfl) ?_
    refine SX.VC_df (.int .i64 (nn % 7)) (fun α => Eq.trans (b := SX.binV .rem (.int .i64 nn) (.int .i64 7)) (by kernel_rfl) (rem_i64 (by omega) (by decide) (by omega))) (by kernel_rfl) ?_
    refine SX.VC_df (.int .i64 (1 + (nn % 7))) (fun α => Eq.trans (b := some (.int .i64 (IntKind.i64.wrap (1 + (nn % 7))))) (by kernel_rfl) (by rw [wrap_i64 (by omega) (by omega)])) (by kernel_rfl) ?_
    refine SX.VC_df (.int .i64 nn) (fun α => Eq.trans (b := some (.int .i64 (IntKind.i64.wrap nn))) (by kernel_rfl) (by rw [wrap_i64 (by omega) (by omega)])) (by kernel_rfl) ?_
    refine SX.VC_df (.int .i64 (nn % 7)) (fun α => Eq.trans (b := SX.binV .rem (.int .i64 nn) (.int .i64 7)) (by kernel_rfl) (rem_i64 (by omega) (by decide) (by omega))) (by kernel_rfl) ?_
    refine SX.VC_df (.int .i64 (7 - (nn % 7))) (fun α => Eq.trans (b := some (.int .i64 (IntKind.i64.wrap (7 - (nn % 7))))) (by kernel_rfl) (by rw [wrap_i64 (by omega) (by omega)])) (by kernel_rfl) ?_
    refine SX.VC_df (.tuple #[Value.agg (sgsL (applyE ((⟨2, role % 65, 0, fr, fr + many, 1 + (nn % 7), 0, 0, zeroSg⟩ : Ed)) ss).1).toArray, .int .i64 ((applyE ((⟨2, role % 65, 0, fr, fr + many, 1 + (nn % 7), 0, 0, zeroSg⟩ : Ed)) ss).2)]) (fun α => ⟨[⟨.slice A n c, 14, sgsL ss⟩, ⟨valE (⟨2, role % 65, 0, fr, fr + many, 1 + (nn % 7), 0, 0, zeroSg⟩ : Ed), 0, []⟩], ⟨by kernel_rfl, rfl, cast (by kernel_rfl) k1, by kernel_rfl, by kernel_rfl, trivial⟩, .inr (.inr (.inr (.inl ⟨rfl, _, ss, (⟨2, role % 65, 0, fr, fr + many, 1 + (nn % 7), 0, 0, zeroSg⟩ : Ed), rfl, by omega, (show (2 : Int) ≠ 5 by decide), rfl⟩))), SX.noAli rfl⟩) (sgs_fit _ _) ?_
    refine SX.VC_df (.bool (((applyE ((⟨2, role % 65, 0, fr, fr + many, 1 + (nn % 7), 0, 0, zeroSg⟩ : Ed)) ss).2 : Int) != 0)) (by intro α; show _ = _; kernel_rfl) (by kernel_rfl) ?_
    refine SX.VC_br (((applyE ((⟨2, role % 65, 0, fr, fr + many, 1 + (nn % 7), 0, 0, zeroSg⟩ : Ed)) ss).2 : Int) != 0) (by kernel_rfl) (fun h24 => absurd h24 (by first | (rw [M1]; first | decide | simp) | (rw [M2]; first | decide | simp) | (rw [T1]; first | decide | simp) | (rw [T2]; first | decide | simp) | (rw [C0]; first | decide | simp) | (rw [C1]; first | decide | simp) | (rw [C2]; first | decide | simp) | (rw [O1]; first | decide | simp) | (rw [O2]; first | decide | simp))) (fun h24 => ?_)
    refine SX.VC_df (.tuple #[Value.agg (sgsL (applyE ((⟨2, role % 65, 0, fr, fr + many, 7 - (nn % 7), 0, 0, zeroSg⟩ : Ed)) ((applyE ((⟨2, role % 65, 0, fr, fr + many, 1 + (nn % 7), 0, 0, zeroSg⟩ : Ed)) ss).1)).1).toArray, .int .i64 ((applyE ((⟨2, role % 65, 0, fr, fr + many, 7 - (nn % 7), 0, 0, zeroSg⟩ : Ed)) ((applyE ((⟨2, role % 65, 0, fr, fr + many, 1 + (nn % 7), 0, 0, zeroSg⟩ : Ed)) ss).1)).2)]) (fun α => ⟨[⟨(α 20).h, 14, sgsL ((applyE ((⟨2, role % 65, 0, fr, fr + many, 1 + (nn % 7), 0, 0, zeroSg⟩ : Ed)) ss).1)⟩, ⟨valE (⟨2, role % 65, 0, fr, fr + many, 7 - (nn % 7), 0, 0, zeroSg⟩ : Ed), 0, []⟩], ⟨Eq.trans (b := ⟨(α 20).h, 14, [Value.agg (sgsL ((applyE ((⟨2, role % 65, 0, fr, fr + many, 1 + (nn % 7), 0, 0, zeroSg⟩ : Ed)) ss).1)).toArray].flatMap SX.cellsV⟩) (by simp [SX.cellsV]) (by kernel_rfl), by kernel_rfl, by kernel_rfl, trivial⟩, .inr (.inr (.inr (.inl ⟨rfl, _, ((applyE ((⟨2, role % 65, 0, fr, fr + many, 1 + (nn % 7), 0, 0, zeroSg⟩ : Ed)) ss).1), (⟨2, role % 65, 0, fr, fr + many, 7 - (nn % 7), 0, 0, zeroSg⟩ : Ed), rfl, by have := applyE_len ((⟨2, role % 65, 0, fr, fr + many, 1 + (nn % 7), 0, 0, zeroSg⟩ : Ed)) ss; omega, (show (2 : Int) ≠ 5 by decide), rfl⟩))), SX.noAli rfl⟩) (sgs_fit _ _) ?_
    refine SX.VC_df (.bool (((applyE ((⟨2, role % 65, 0, fr, fr + many, 7 - (nn % 7), 0, 0, zeroSg⟩ : Ed)) ((applyE ((⟨2, role % 65, 0, fr, fr + many, 1 + (nn % 7), 0, 0, zeroSg⟩ : Ed)) ss).1)).2 : Int) != 0)) (by intro α; show _ = _; kernel_rfl) (by kernel_rfl) ?_
    refine SX.VC_br (((applyE ((⟨2, role % 65, 0, fr, fr + many, 7 - (nn % 7), 0, 0, zeroSg⟩ : Ed)) ((applyE ((⟨2, role % 65, 0, fr, fr + many, 1 + (nn % 7), 0, 0, zeroSg⟩ : Ed)) ss).1)).2 : Int) != 0) (by kernel_rfl) (fun h26 => absurd h26 (by first | (rw [M1]; first | decide | simp) | (rw [M2]; first | decide | simp) | (rw [T1]; first | decide | simp) | (rw [T2]; first | decide | simp) | (rw [C0]; first | decide | simp) | (rw [C1]; first | decide | simp) | (rw [C2]; first | decide | simp) | (rw [O1]; first | decide | simp) | (rw [O2]; first | decide | simp))) (fun h26 => ?_)
    refine SX.VC_df (.bool ((decide (((applyE ((⟨1, role % 65, 0, fr, fr + many, 0, 0, 0, zeroSg⟩ : Ed)) ((applyE ((⟨1, role % 65, 0, fr, fr + many, 0, 0, 0, zeroSg⟩ : Ed)) ss).1)).1) = ss)))) (fun α => ⟨[⟨(α 7).h, 14, sgsL ((applyE ((⟨1, role % 65, 0, fr, fr + many, 0, 0, 0, zeroSg⟩ : Ed)) ((applyE ((⟨1, role % 65, 0, fr, fr + many, 0, 0, 0, zeroSg⟩ : Ed)) ss).1)).1)⟩, ⟨.slice A n c, 14, sgsL ss⟩], ⟨Eq.trans (b := ⟨(α 7).h, 14, [Value.agg (sgsL ((applyE ((⟨1, role % 65, 0, fr, fr + many, 0, 0, 0, zeroSg⟩ : Ed)) ((applyE ((⟨1, role % 65, 0, fr, fr + many, 0, 0, 0, zeroSg⟩ : Ed)) ss).1)).1)).toArray].flatMap SX.cellsV⟩) (by simp [SX.cellsV]) (by kernel_rfl), by kernel_rfl, rfl, cast (by kernel_rfl) k1, trivial⟩, .inr (.inr (.inl ⟨rfl, _, _, ((applyE ((⟨1, role % 65, 0, fr, fr + many, 0, 0, 0, zeroSg⟩ : Ed)) ((applyE ((⟨1, role % 65, 0, fr, fr + many, 0, 0, 0, zeroSg⟩ : Ed)) ss).1)).1), ss, rfl, by have := applyE_len ((⟨1, role % 65, 0, fr, fr + many, 0, 0, 0, zeroSg⟩ : Ed)) ((applyE ((⟨1, role % 65, 0, fr, fr + many, 0, 0, 0, zeroSg⟩ : Ed)) ss).1); have := applyE_len ((⟨1, role % 65, 0, fr, fr + many, 0, 0, 0, zeroSg⟩ : Ed)) ss; omega, by omega, rfl⟩)), SX.noAli rfl⟩) (by kernel_rfl) ?_
    refine SX.VC_df (.bool (!((decide (((applyE ((⟨1, role % 65, 0, fr, fr + many, 0, 0, 0, zeroSg⟩ : Ed)) ((applyE ((⟨1, role % 65, 0, fr, fr + many, 0, 0, 0, zeroSg⟩ : Ed)) ss).1)).1) = ss))))) (by intro α; show _ = _; kernel_rfl) (by kernel_rfl) ?_
    refine SX.VC_br (!((decide (((applyE ((⟨1, role % 65, 0, fr, fr + many, 0, 0, 0, zeroSg⟩ : Ed)) ((applyE ((⟨1, role % 65, 0, fr, fr + many, 0, 0, 0, zeroSg⟩ : Ed)) ss).1)).1) = ss)))) (by kernel_rfl) (fun h28 => absurd h28 (by first | (rw [M1]; first | decide | simp) | (rw [M2]; first | decide | simp) | (rw [T1]; first | decide | simp) | (rw [T2]; first | decide | simp) | (rw [C0]; first | decide | simp) | (rw [C1]; first | decide | simp) | (rw [C2]; first | decide | simp) | (rw [O1]; first | decide | simp) | (rw [O2]; first | decide | simp))) (fun h28 => ?_)
    refine SX.VC_df (.bool ((decide (((applyE ((⟨2, role % 65, 0, fr, fr + many, 7 - (nn % 7), 0, 0, zeroSg⟩ : Ed)) ((applyE ((⟨2, role % 65, 0, fr, fr + many, 1 + (nn % 7), 0, 0, zeroSg⟩ : Ed)) ss).1)).1) = ss)))) (fun α => ⟨[⟨(α 22).h, 14, sgsL ((applyE ((⟨2, role % 65, 0, fr, fr + many, 7 - (nn % 7), 0, 0, zeroSg⟩ : Ed)) ((applyE ((⟨2, role % 65, 0, fr, fr + many, 1 + (nn % 7), 0, 0, zeroSg⟩ : Ed)) ss).1)).1)⟩, ⟨.slice A n c, 14, sgsL ss⟩], ⟨Eq.trans (b := ⟨(α 22).h, 14, [Value.agg (sgsL ((applyE ((⟨2, role % 65, 0, fr, fr + many, 7 - (nn % 7), 0, 0, zeroSg⟩ : Ed)) ((applyE ((⟨2, role % 65, 0, fr, fr + many, 1 + (nn % 7), 0, 0, zeroSg⟩ : Ed)) ss).1)).1)).toArray].flatMap SX.cellsV⟩) (by simp [SX.cellsV]) (by kernel_rfl), by kernel_rfl, rfl, cast (by kernel_rfl) k1, trivial⟩, .inr (.inr (.inl ⟨rfl, _, _, ((applyE ((⟨2, role % 65, 0, fr, fr + many, 7 - (nn % 7), 0, 0, zeroSg⟩ : Ed)) ((applyE ((⟨2, role % 65, 0, fr, fr + many, 1 + (nn % 7), 0, 0, zeroSg⟩ : Ed)) ss).1)).1), ss, rfl, by have := applyE_len ((⟨2, role % 65, 0, fr, fr + many, 7 - (nn % 7), 0, 0, zeroSg⟩ : Ed)) ((applyE ((⟨2, role % 65, 0, fr, fr + many, 1 + (nn % 7), 0, 0, zeroSg⟩ : Ed)) ss).1); have := applyE_len ((⟨2, role % 65, 0, fr, fr + many, 1 + (nn % 7), 0, 0, zeroSg⟩ : Ed)) ss; omega, by omega, rfl⟩)), SX.noAli rfl⟩) (by kernel_rfl) ?_
    refine SX.VC_df (.bool (!((decide (((applyE ((⟨2, role % 65, 0, fr, fr + many, 7 - (nn % 7), 0, 0, zeroSg⟩ : Ed)) ((applyE ((⟨2, role % 65, 0, fr, fr + many, 1 + (nn % 7), 0, 0, zeroSg⟩ : Ed)) ss).1)).1) = ss))))) (by intro α; show _ = _; kernel_rfl) (by kernel_rfl) ?_
    refine SX.VC_br (!((decide (((applyE ((⟨2, role % 65, 0, fr, fr + many, 7 - (nn % 7), 0, 0, zeroSg⟩ : Ed)) ((applyE ((⟨2, role % 65, 0, fr, fr + many, 1 + (nn % 7), 0, 0, zeroSg⟩ : Ed)) ss).1)).1) = ss)))) (by kernel_rfl) (fun h30 => absurd h30 (by first | (rw [M1]; first | decide | simp) | (rw [M2]; first | decide | simp) | (rw [T1]; first | decide | simp) | (rw [T2]; first | decide | simp) | (rw [C0]; first | decide | simp) | (rw [C1]; first | decide | simp) | (rw [C2]; first | decide | simp) | (rw [O1]; first | decide | simp) | (rw [O2]; first | decide | simp))) (fun h30 => ?_)
    refine SX.VC_df (valE (passE 6 role fr many)) (fun α => ⟨[⟨.int .i64 6, 0, []⟩, ⟨.int .u8 role, 0, []⟩, ⟨.int .u8 fr, 0, []⟩, ⟨.int .u8 many, 0, []⟩], ⟨by kernel_rfl, by kernel_rfl, by kernel_rfl, by kernel_rfl, by kernel_rfl, by kernel_rfl, by kernel_rfl, by kernel_rfl, trivial⟩, .inr (.inr (.inr (.inr (⟨rfl, 6, role, fr, many, rfl, hr0, hr1, hf0, hf1, hm0, hm1, rfl⟩)))), SX.noAli rfl⟩) (by kernel_rfl) ?_
    refine SX.VC_df (.int .i64 role) (fun α => Eq.trans (b := some (.int .i64 (IntKind.i64.wrap role))) (by kernel_rfl) (by rw [wrap_i64 (by omega) (by omega)])) (by kernel_rfl) ?_
    refine SX.VC_df (.int .i64 (role % 64)) (fun α => Eq.trans (b := SX.binV .rem (.int .i64 role) (.int .i64 64)) (by kernel_rfl) (rem_i64 (by omega) (by decide) (by omega))) (by kernel_rfl) ?_
    refine SX.VC_df (.int .i64 (1 + (role % 64))) (fun α => Eq.trans (b := some (.int .i64 (IntKind.i64.wrap (1 + (role % 64))))) (by kernel_rfl) (by rw [wrap_i64 (by omega) (by omega)])) (by kernel_rfl) ?_
    refine SX.VC_df (.int .i64 other) (fun α => Eq.trans (b := some (.int .i64 (IntKind.i64.wrap other))) (by kernel_rfl) (by rw [wrap_i64 (by omega) (by omega)])) (by kernel_rfl) ?_
    refine SX.VC_df (.int .i64 (other % 64)) (fun α => Eq.trans (b := SX.binV .rem (.int .i64 other) (.int .i64 64)) (by kernel_rfl) (rem_i64 (by omega) (by decide) (by omega))) (by kernel_rfl) ?_
    refine SX.VC_df (.int .i64 (1 + (other % 64))) (fun α => Eq.trans (b := some (.int .i64 (IntKind.i64.wrap (1 + (other % 64))))) (by kernel_rfl) (by rw [wrap_i64 (by omega) (by omega)])) (by kernel_rfl) ?_
    refine SX.VC_df (.tuple #[Value.agg (sgsL (applyE ((⟨6, 1 + (role % 64), 1 + (other % 64), fr, fr + many, 0, 0, 0, zeroSg⟩ : Ed)) ss).1).toArray, .int .i64 ((applyE ((⟨6, 1 + (role % 64), 1 + (other % 64), fr, fr + many, 0, 0, 0, zeroSg⟩ : Ed)) ss).2)]) (fun α => ⟨[⟨.slice A n c, 14, sgsL ss⟩, ⟨valE (⟨6, 1 + (role % 64), 1 + (other % 64), fr, fr + many, 0, 0, 0, zeroSg⟩ : Ed), 0, []⟩], ⟨by kernel_rfl, rfl, cast (by kernel_rfl) k1, by kernel_rfl, by kernel_rfl, trivial⟩, .inr (.inr (.inr (.inl ⟨rfl, _, ss, (⟨6, 1 + (role % 64), 1 + (other % 64), fr, fr + many, 0, 0, 0, zeroSg⟩ : Ed), rfl, by omega, (show (6 : Int) ≠ 5 by decide), rfl⟩))), SX.noAli rfl⟩) (sgs_fit _ _) ?_
    refine SX.VC_df (.bool (((applyE ((⟨6, 1 + (role % 64), 1 + (other % 64), fr, fr + many, 0, 0, 0, zeroSg⟩ : Ed)) ss).2 : Int) != 0)) (by intro α; show _ = _; kernel_rfl) (by kernel_rfl) ?_
    refine SX.VC_br (((applyE ((⟨6, 1 + (role % 64), 1 + (other % 64), fr, fr + many, 0, 0, 0, zeroSg⟩ : Ed)) ss).2 : Int) != 0) (by kernel_rfl) (fun h39 => ?_) (fun h39 => ?_)
    · try simp only [NRM] at h39
      have hro : 1 + role % 64 = 1 + other % 64 := by
        apply Classical.byContradiction
        intro hne
        exact h39 (run_two_ok (undo_cast hch ⟨hf0, hf1⟩ ⟨hm0, hm1⟩ (by omega) (by omega) hne)).1
      have C0 : applyE (⟨6, 1 + role % 64, 1 + other % 64, fr, fr + many, 0, 0, 0, zeroSg⟩ : Ed) ss = ([], 360) := by rw [← hro]; exact undo_same hch
      refine SX.VC_df (.bool ((1 + (role % 64) : Int) == 1 + (other % 64))) (by intro α; show _ = _; kernel_rfl) (by kernel_rfl) ?_
      refine SX.VC_br ((1 + (role % 64) : Int) == 1 + (other % 64)) (by kernel_rfl) (fun h40 => ?_) (fun h40 => absurd h40 (by simp [hro]))
      refine SX.VC_df (.bool (((applyE ((⟨6, 1 + (role % 64), 1 + (other % 64), fr, fr + many, 0, 0, 0, zeroSg⟩ : Ed)) ss).2 : Int) != 360)) (by intro α; show _ = _; kernel_rfl) (by kernel_rfl) ?_
      refine SX.VC_br (((applyE ((⟨6, 1 + (role % 64), 1 + (other % 64), fr, fr + many, 0, 0, 0, zeroSg⟩ : Ed)) ss).2 : Int) != 360) (by kernel_rfl) (fun h41 => absurd h41 (by first | (rw [M1]; first | decide | simp) | (rw [M2]; first | decide | simp) | (rw [T1]; first | decide | simp) | (rw [T2]; first | decide | simp) | (rw [C0]; first | decide | simp) | (rw [C1]; first | decide | simp) | (rw [C2]; first | decide | simp) | (rw [O1]; first | decide | simp) | (rw [O2]; first | decide | simp))) (fun h41 => ?_)
      refine SX.VC_df (.bool (true ^^ (none : Option Addr).isNone)) (fun α => ⟨none, 0, 0, by kernel_rfl, rfl⟩) (by kernel_rfl) ?_
      refine SX.VC_br (true ^^ (none : Option Addr).isNone) (by kernel_rfl) (fun h42 => absurd h42 (by simp)) (fun h42 => ?_)
      refine SX.VC_df (.int .i64 fr) (fun α => Eq.trans (b := some (.int .i64 (IntKind.i64.wrap fr))) (by kernel_rfl) (by rw [wrap_i64 (by omega) (by omega)])) (by kernel_rfl) ?_
      refine SX.VC_df (.int .i64 many) (fun α => Eq.trans (b := some (.int .i64 (IntKind.i64.wrap many))) (by kernel_rfl) (by rw [wrap_i64 (by omega) (by omega)])) (by kernel_rfl) ?_
      refine SX.VC_df (.int .i64 (1 + many)) (fun α => Eq.trans (b := some (.int .i64 (IntKind.i64.wrap (1 + many)))) (by kernel_rfl) (by rw [wrap_i64 (by omega) (by omega)])) (by kernel_rfl) ?_
      refine SX.VC_df (.int .i64 fr) (fun α => Eq.trans (b := some (.int .i64 (IntKind.i64.wrap fr))) (by kernel_rfl) (by rw [wrap_i64 (by omega) (by omega)])) (by kernel_rfl) ?_
      refine SX.VC_df (.int .i64 fr) (fun α => Eq.trans (b := some (.int .i64 (IntKind.i64.wrap fr))) (by kernel_rfl) (by rw [wrap_i64 (by omega) (by omega)])) (by kernel_rfl) ?_
      refine SX.VC_df (.int .i64 many) (fun α => Eq.trans (b := some (.int .i64 (IntKind.i64.wrap many))) (by kernel_rfl) (by rw [wrap_i64 (by omega) (by omega)])) (by kernel_rfl) ?_
      refine SX.VC_df (.int .i64 (fr + many)) (fun α => Eq.trans (b := some (.int .i64 (IntKind.i64.wrap (fr + many)))) (by kernel_rfl) (by rw [wrap_i64 (by omega) (by omega)])) (by kernel_rfl) ?_
      refine SX.VC_df (.tuple #[Value.agg (sgsL (applyE ((⟨4, 0, 0, fr, 0, 1 + many, 0, 0, zeroSg⟩ : Ed)) ss).1).toArray, .int .i64 ((applyE ((⟨4, 0, 0, fr, 0, 1 + many, 0, 0, zeroSg⟩ : Ed)) ss).2)]) (fun α => ⟨[⟨.slice A n c, 14, sgsL ss⟩, ⟨valE (⟨4, 0, 0, fr, 0, 1 + many, 0, 0, zeroSg⟩ : Ed), 0, []⟩], ⟨by kernel_rfl, rfl, cast (by kernel_rfl) k1, by kernel_rfl, by kernel_rfl, trivial⟩, .inr (.inr (.inr (.inl ⟨rfl, _, ss, (⟨4, 0, 0, fr, 0, 1 + many, 0, 0, zeroSg⟩ : Ed), rfl, by omega, (show (4 : Int) ≠ 5 by decide), rfl⟩))), SX.noAli rfl⟩) (sgs_fit _ _) ?_
      refine SX.VC_df (.bool (((applyE ((⟨4, 0, 0, fr, 0, 1 + many, 0, 0, zeroSg⟩ : Ed)) ss).2 : Int) != 0)) (by intro α; show _ = _; kernel_rfl) (by kernel_rfl) ?_
      refine SX.VC_br (((applyE ((⟨4, 0, 0, fr, 0, 1 + many, 0, 0, zeroSg⟩ : Ed)) ss).2 : Int) != 0) (by kernel_rfl) (fun h51 => ?_) (fun h51 => ?_)
      · try simp only [NRM] at h51
        refine SX.VC_df (.int .i64 (((n : Nat) : Int))) (by intro α; show _ = _; kernel_rfl) (by kernel_rfl) ?_
        refine SX.VC_loop (fun xs => ∃ i : Nat, xs = [.int .i64 (i : Int)] ∧ i ≤ n ∧ ∀ (k : Nat) (q : Sg), k < i → ss[k]? = some q → ¬ (fr ≤ q.bar ∧ 4095 < q.bar + 1 + many)) (fun xs => match xs with | [.int _ i] => n - i.toNat | _ => 0) (fun α => ⟨0, by kernel_rfl, by omega, fun k q hk => absurd hk (by omega)⟩) ?_
        rintro xs - ⟨i, rfl, hin, hal⟩
        refine SX.VC_df (.bool (decide (((i : Nat) : Int) < ((n : Nat) : Int)))) (by intro α; show _ = _; kernel_rfl) (by kernel_rfl) ?_
        refine SX.VC_br (decide (((i : Nat) : Int) < ((n : Nat) : Int))) (by kernel_rfl) (fun h54 => ?_) (fun h54 => ?_)
        · try simp only [NRM] at h54
          obtain ⟨z, hz⟩ : ∃ z, ss[i]? = some z := ⟨_, List.getElem?_eq_getElem (by omega)⟩
          have hzm := List.mem_of_getElem? hz
          have hzb := (hok.1 z hzm).2.2.1
          refine SX.VC_df (.bool true) (fun α => SX.extBnd (A := A) (n := n) (c := c) (j := i) hA (by kernel_rfl) (by kernel_rfl) (by omega)) (by kernel_rfl) ?_
          refine SX.VC_df (.agg (cellsSg z).toArray) (fun α => SX.extElems (f := cellsSg) (l := ss) (A := A) (n := n) (c := c) (j := i) (z := z) (fun _ => rfl) hA (by kernel_rfl) (by kernel_rfl) (by omega) (cast (by kernel_rfl) k1) hz) (by kernel_rfl) ?_
          refine SX.VC_df (.int .i64 fr) (fun α => Eq.trans (b := some (.int .i64 (IntKind.i64.wrap fr))) (by kernel_rfl) (by rw [wrap_i64 (by omega) (by omega)])) (by kernel_rfl) ?_
          refine SX.VC_df (.bool (decide (z.bar ≥ fr))) (by intro α; show _ = _; kernel_rfl) (by kernel_rfl) ?_
          refine SX.VC_br (decide (z.bar ≥ fr)) (by kernel_rfl) (fun h58 => ?_) (fun h58 => ?_)
          · try simp only [NRM] at h58
            refine SX.VC_df (.int .i64 (z.bar + 1)) (fun α => Eq.trans (b := some (.int .i64 (IntKind.i64.wrap (z.bar + 1)))) (by kernel_rfl) (by rw [wrap_i64 (by omega) (by omega)])) (by kernel_rfl) ?_
            refine SX.VC_df (.int .i64 many) (fun α => Eq.trans (b := some (.int .i64 (IntKind.i64.wrap many))) (by kernel_rfl) (by rw [wrap_i64 (by omega) (by omega)])) (by kernel_rfl) ?_
            refine SX.VC_df (.int .i64 ((z.bar + 1) + many)) (fun α => Eq.trans (b := some (.int .i64 (IntKind.i64.wrap ((z.bar + 1) + many)))) (by kernel_rfl) (by rw [wrap_i64 (by omega) (by omega)])) (by kernel_rfl) ?_
            refine SX.VC_df (.bool (decide ((z.bar + 1) + many > 4095))) (by intro α; show _ = _; kernel_rfl) (by kernel_rfl) ?_
            refine SX.VC_br (decide ((z.bar + 1) + many > 4095)) (by kernel_rfl) (fun h62 => ?_) (fun h62 => ?_)
            · try simp only [NRM] at h62
              refine SX.VC_df (.bool (decide (((i : Nat) : Int) ≥ 0))) (by intro α; show _ = _; kernel_rfl) (by kernel_rfl) ?_
              refine SX.VC_br (decide (((i : Nat) : Int) ≥ 0)) (by kernel_rfl) (fun h63 => ?_) (fun h63 => ?_)
              · try simp only [NRM] at h63
                refine SX.VC_df (.bool (((applyE ((⟨4, 0, 0, fr, 0, 1 + many, 0, 0, zeroSg⟩ : Ed)) ss).2 : Int) == 360)) (by intro α; show _ = _; kernel_rfl) (by kernel_rfl) ?_
                exact SX.VC_ret fun α W _ _ hS => SX.ret_of hS (x := .bool (((applyE ((⟨4, 0, 0, fr, 0, 1 + many, 0, 0, zeroSg⟩ : Ed)) ss).2 : Int) == 360)) (by kernel_rfl) (by rw [late_open hch ⟨hf0, hf1⟩ ⟨hm0, hm1⟩ ⟨z, hzm, by omega, by omega⟩]; rfl)
              · try simp only [NRM] at h63
                refine SX.VC_df (.bool (((applyE ((⟨4, 0, 0, fr, 0, 1 + many, 0, 0, zeroSg⟩ : Ed)) ss).2 : Int) == 0)) (by intro α; show _ = _; kernel_rfl) (by kernel_rfl) ?_
                refine SX.VC_br (((applyE ((⟨4, 0, 0, fr, 0, 1 + many, 0, 0, zeroSg⟩ : Ed)) ss).2 : Int) == 0) (by kernel_rfl) (fun h64 => ?_) (fun h64 => ?_)
                · try simp only [NRM] at h64
                  refine SX.VC_df (.bool ((decide (([] : List Sg) = ss)))) (fun α => ⟨[⟨.slice none 0 0, 14, sgsL []⟩, ⟨.slice A n c, 14, sgsL ss⟩], ⟨by kernel_rfl, by kernel_rfl, rfl, cast (by kernel_rfl) k1, trivial⟩, .inr (.inr (.inl ⟨rfl, _, _, ([] : List Sg), ss, rfl, by simp, by omega, rfl⟩)), SX.noAli rfl⟩) (by kernel_rfl) ?_
                  exfalso; omega
                · try simp only [NRM] at h64
                  exfalso; omega
            · try simp only [NRM] at h62
              refine SX.VC_df (.int .i64 (((i + 1 : Nat) : Int))) (fun α => Eq.trans (b := some (.int .i64 (IntKind.i64.wrap ((i : Nat) + 1)))) (by kernel_rfl) (by rw [show ((i + 1 : Nat) : Int) = ((i : Nat) : Int) + 1 by omega, wrap_i64 (by omega) (by omega)])) (by kernel_rfl) ?_
              exact SX.VC_again fun α => ⟨⟨i + 1, by kernel_rfl, by omega, upto hal hz (by omega)⟩, cast (by kernel_rfl) (show n - ((i + 1 : Nat) : Int).toNat < n - (i : Int).toNat by omega)⟩
          · try simp only [NRM] at h58
            refine SX.VC_df (.int .i64 (((i + 1 : Nat) : Int))) (fun α => Eq.trans (b := some (.int .i64 (IntKind.i64.wrap ((i : Nat) + 1)))) (by kernel_rfl) (by rw [show ((i + 1 : Nat) : Int) = ((i : Nat) : Int) + 1 by omega, wrap_i64 (by omega) (by omega)])) (by kernel_rfl) ?_
            exact SX.VC_again fun α => ⟨⟨i + 1, by kernel_rfl, by omega, upto hal hz (by omega)⟩, cast (by kernel_rfl) (show n - ((i + 1 : Nat) : Int).toNat < n - (i : Int).toNat by omega)⟩
        · try simp only [NRM] at h54
          refine SX.VC_df (.bool (((applyE ((⟨4, 0, 0, fr, 0, 1 + many, 0, 0, zeroSg⟩ : Ed)) ss).2 : Int) == 0)) (by intro α; show _ = _; kernel_rfl) (by kernel_rfl) ?_
          refine SX.VC_br (((applyE ((⟨4, 0, 0, fr, 0, 1 + many, 0, 0, zeroSg⟩ : Ed)) ss).2 : Int) == 0) (by kernel_rfl) (fun h55 => ?_) (fun h55 => ?_)
          · try simp only [NRM] at h55
            refine SX.VC_df (.bool ((decide (([] : List Sg) = ss)))) (fun α => ⟨[⟨.slice none 0 0, 14, sgsL []⟩, ⟨.slice A n c, 14, sgsL ss⟩], ⟨by kernel_rfl, by kernel_rfl, rfl, cast (by kernel_rfl) k1, trivial⟩, .inr (.inr (.inl ⟨rfl, _, _, ([] : List Sg), ss, rfl, by simp, by omega, rfl⟩)), SX.noAli rfl⟩) (by kernel_rfl) ?_
            exact absurd (run_two_ok (undo_open hch ⟨hf0, hf1⟩ ⟨hm0, hm1⟩ (all_of hal (by omega)))).1 h51
          · try simp only [NRM] at h55
            exact absurd (run_two_ok (undo_open hch ⟨hf0, hf1⟩ ⟨hm0, hm1⟩ (all_of hal (by omega)))).1 h51
      · try simp only [NRM] at h51
        have hall : ∀ k ∈ ss, ¬ (fr ≤ k.bar ∧ 4095 < k.bar + 1 + many) := fun k hk hlate => by
          have C0 := late_open hch ⟨hf0, hf1⟩ ⟨hm0, hm1⟩ ⟨k, hk, hlate⟩
          rw [C0] at h51
          exact absurd h51 (by decide)
        obtain ⟨O1, O2⟩ := run_two_ok (undo_open hch ⟨hf0, hf1⟩ ⟨hm0, hm1⟩ hall)
        refine SX.VC_df (.tuple #[Value.agg (sgsL (applyE ((⟨3, 0, 0, fr, fr + many, 0, 0, 0, zeroSg⟩ : Ed)) ((applyE ((⟨4, 0, 0, fr, 0, 1 + many, 0, 0, zeroSg⟩ : Ed)) ss).1)).1).toArray, .int .i64 ((applyE ((⟨3, 0, 0, fr, fr + many, 0, 0, 0, zeroSg⟩ : Ed)) ((applyE ((⟨4, 0, 0, fr, 0, 1 + many, 0, 0, zeroSg⟩ : Ed)) ss).1)).2)]) (fun α => ⟨[⟨(α 31).h, 14, sgsL ((applyE ((⟨4, 0, 0, fr, 0, 1 + many, 0, 0, zeroSg⟩ : Ed)) ss).1)⟩, ⟨valE (⟨3, 0, 0, fr, fr + many, 0, 0, 0, zeroSg⟩ : Ed), 0, []⟩], ⟨Eq.trans (b := ⟨(α 31).h, 14, [Value.agg (sgsL ((applyE ((⟨4, 0, 0, fr, 0, 1 + many, 0, 0, zeroSg⟩ : Ed)) ss).1)).toArray].flatMap SX.cellsV⟩) (by simp [SX.cellsV]) (by kernel_rfl), by kernel_rfl, by kernel_rfl, trivial⟩, .inr (.inr (.inr (.inl ⟨rfl, _, ((applyE ((⟨4, 0, 0, fr, 0, 1 + many, 0, 0, zeroSg⟩ : Ed)) ss).1), (⟨3, 0, 0, fr, fr + many, 0, 0, 0, zeroSg⟩ : Ed), rfl, by have := applyE_len ((⟨4, 0, 0, fr, 0, 1 + many, 0, 0, zeroSg⟩ : Ed)) ss; omega, (show (3 : Int) ≠ 5 by decide), rfl⟩))), SX.noAli rfl⟩) (sgs_fit _ _) ?_
        refine SX.VC_df (.bool (((applyE ((⟨3, 0, 0, fr, fr + many, 0, 0, 0, zeroSg⟩ : Ed)) ((applyE ((⟨4, 0, 0, fr, 0, 1 + many, 0, 0, zeroSg⟩ : Ed)) ss).1)).2 : Int) != 0)) (by intro α; show _ = _; kernel_rfl) (by kernel_rfl) ?_
        refine SX.VC_br (((applyE ((⟨3, 0, 0, fr, fr + many, 0, 0, 0, zeroSg⟩ : Ed)) ((applyE ((⟨4, 0, 0, fr, 0, 1 + many, 0, 0, zeroSg⟩ : Ed)) ss).1)).2 : Int) != 0) (by kernel_rfl) (fun h53 => absurd h53 (by first | (rw [M1]; first | decide | simp) | (rw [M2]; first | decide | simp) | (rw [T1]; first | decide | simp) | (rw [T2]; first | decide | simp) | (rw [C0]; first | decide | simp) | (rw [C1]; first | decide | simp) | (rw [C2]; first | decide | simp) | (rw [O1]; first | decide | simp) | (rw [O2]; first | decide | simp))) (fun h53 => ?_)
        refine SX.VC_df (.int .i64 (((n : Nat) : Int))) (by intro α; show _ = _; kernel_rfl) (by kernel_rfl) ?_
        refine SX.VC_loop (fun xs => ∃ i : Nat, xs = [.int .i64 (i : Int)] ∧ i ≤ n ∧ ∀ (k : Nat) (q : Sg), k < i → ss[k]? = some q → ¬ (fr ≤ q.bar ∧ 4095 < q.bar + 1 + many)) (fun xs => match xs with | [.int _ i] => n - i.toNat | _ => 0) (fun α => ⟨0, by kernel_rfl, by omega, fun k q hk => absurd hk (by omega)⟩) ?_
        rintro xs - ⟨i, rfl, hin, hal⟩
        refine SX.VC_df (.bool (decide (((i : Nat) : Int) < ((n : Nat) : Int)))) (by intro α; show _ = _; kernel_rfl) (by kernel_rfl) ?_
        refine SX.VC_br (decide (((i : Nat) : Int) < ((n : Nat) : Int))) (by kernel_rfl) (fun h56 => ?_) (fun h56 => ?_)
        · try simp only [NRM] at h56
          obtain ⟨z, hz⟩ : ∃ z, ss[i]? = some z := ⟨_, List.getElem?_eq_getElem (by omega)⟩
          have hzm := List.mem_of_getElem? hz
          have hzb := (hok.1 z hzm).2.2.1
          refine SX.VC_df (.bool true) (fun α => SX.extBnd (A := A) (n := n) (c := c) (j := i) hA (by kernel_rfl) (by kernel_rfl) (by omega)) (by kernel_rfl) ?_
          refine SX.VC_df (.agg (cellsSg z).toArray) (fun α => SX.extElems (f := cellsSg) (l := ss) (A := A) (n := n) (c := c) (j := i) (z := z) (fun _ => rfl) hA (by kernel_rfl) (by kernel_rfl) (by omega) (cast (by kernel_rfl) k1) hz) (by kernel_rfl) ?_
          refine SX.VC_df (.int .i64 fr) (fun α => Eq.trans (b := some (.int .i64 (IntKind.i64.wrap fr))) (by kernel_rfl) (by rw [wrap_i64 (by omega) (by omega)])) (by kernel_rfl) ?_
          refine SX.VC_df (.bool (decide (z.bar ≥ fr))) (by intro α; show _ = _; kernel_rfl) (by kernel_rfl) ?_
          refine SX.VC_br (decide (z.bar ≥ fr)) (by kernel_rfl) (fun h60 => ?_) (fun h60 => ?_)
          · try simp only [NRM] at h60
            refine SX.VC_df (.int .i64 (z.bar + 1)) (fun α => Eq.trans (b := some (.int .i64 (IntKind.i64.wrap (z.bar + 1)))) (by kernel_rfl) (by rw [wrap_i64 (by omega) (by omega)])) (by kernel_rfl) ?_
            refine SX.VC_df (.int .i64 many) (fun α => Eq.trans (b := some (.int .i64 (IntKind.i64.wrap many))) (by kernel_rfl) (by rw [wrap_i64 (by omega) (by omega)])) (by kernel_rfl) ?_
            refine SX.VC_df (.int .i64 ((z.bar + 1) + many)) (fun α => Eq.trans (b := some (.int .i64 (IntKind.i64.wrap ((z.bar + 1) + many)))) (by kernel_rfl) (by rw [wrap_i64 (by omega) (by omega)])) (by kernel_rfl) ?_
            refine SX.VC_df (.bool (decide ((z.bar + 1) + many > 4095))) (by intro α; show _ = _; kernel_rfl) (by kernel_rfl) ?_
            refine SX.VC_br (decide ((z.bar + 1) + many > 4095)) (by kernel_rfl) (fun h64 => ?_) (fun h64 => ?_)
            · try simp only [NRM] at h64
              refine SX.VC_df (.bool (decide (((i : Nat) : Int) ≥ 0))) (by intro α; show _ = _; kernel_rfl) (by kernel_rfl) ?_
              refine SX.VC_br (decide (((i : Nat) : Int) ≥ 0)) (by kernel_rfl) (fun h65 => ?_) (fun h65 => ?_)
              · try simp only [NRM] at h65
                exact absurd ⟨by omega, by omega⟩ (hall z hzm)
              · try simp only [NRM] at h65
                refine SX.VC_df (.bool ((decide (((applyE ((⟨3, 0, 0, fr, fr + many, 0, 0, 0, zeroSg⟩ : Ed)) ((applyE ((⟨4, 0, 0, fr, 0, 1 + many, 0, 0, zeroSg⟩ : Ed)) ss).1)).1) = ss)))) (fun α => ⟨[⟨(α 33).h, 14, sgsL ((applyE ((⟨3, 0, 0, fr, fr + many, 0, 0, 0, zeroSg⟩ : Ed)) ((applyE ((⟨4, 0, 0, fr, 0, 1 + many, 0, 0, zeroSg⟩ : Ed)) ss).1)).1)⟩, ⟨.slice A n c, 14, sgsL ss⟩], ⟨Eq.trans (b := ⟨(α 33).h, 14, [Value.agg (sgsL ((applyE ((⟨3, 0, 0, fr, fr + many, 0, 0, 0, zeroSg⟩ : Ed)) ((applyE ((⟨4, 0, 0, fr, 0, 1 + many, 0, 0, zeroSg⟩ : Ed)) ss).1)).1)).toArray].flatMap SX.cellsV⟩) (by simp [SX.cellsV]) (by kernel_rfl), by kernel_rfl, rfl, cast (by kernel_rfl) k1, trivial⟩, .inr (.inr (.inl ⟨rfl, _, _, ((applyE ((⟨3, 0, 0, fr, fr + many, 0, 0, 0, zeroSg⟩ : Ed)) ((applyE ((⟨4, 0, 0, fr, 0, 1 + many, 0, 0, zeroSg⟩ : Ed)) ss).1)).1), ss, rfl, by have := applyE_len ((⟨3, 0, 0, fr, fr + many, 0, 0, 0, zeroSg⟩ : Ed)) ((applyE ((⟨4, 0, 0, fr, 0, 1 + many, 0, 0, zeroSg⟩ : Ed)) ss).1); have := applyE_len ((⟨4, 0, 0, fr, 0, 1 + many, 0, 0, zeroSg⟩ : Ed)) ss; omega, by omega, rfl⟩)), SX.noAli rfl⟩) (by kernel_rfl) ?_
                exact absurd ⟨by omega, by omega⟩ (hall z hzm)
            · try simp only [NRM] at h64
              refine SX.VC_df (.int .i64 (((i + 1 : Nat) : Int))) (fun α => Eq.trans (b := some (.int .i64 (IntKind.i64.wrap ((i : Nat) + 1)))) (by kernel_rfl) (by rw [show ((i + 1 : Nat) : Int) = ((i : Nat) : Int) + 1 by omega, wrap_i64 (by omega) (by omega)])) (by kernel_rfl) ?_
              exact SX.VC_again fun α => ⟨⟨i + 1, by kernel_rfl, by omega, upto hal hz (by omega)⟩, cast (by kernel_rfl) (show n - ((i + 1 : Nat) : Int).toNat < n - (i : Int).toNat by omega)⟩
          · try simp only [NRM] at h60
            refine SX.VC_df (.int .i64 (((i + 1 : Nat) : Int))) (fun α => Eq.trans (b := some (.int .i64 (IntKind.i64.wrap ((i : Nat) + 1)))) (by kernel_rfl) (by rw [show ((i + 1 : Nat) : Int) = ((i : Nat) : Int) + 1 by omega, wrap_i64 (by omega) (by omega)])) (by kernel_rfl) ?_
            exact SX.VC_again fun α => ⟨⟨i + 1, by kernel_rfl, by omega, upto hal hz (by omega)⟩, cast (by kernel_rfl) (show n - ((i + 1 : Nat) : Int).toNat < n - (i : Int).toNat by omega)⟩
        · try simp only [NRM] at h56
          refine SX.VC_df (.bool ((decide (((applyE ((⟨3, 0, 0, fr, fr + many, 0, 0, 0, zeroSg⟩ : Ed)) ((applyE ((⟨4, 0, 0, fr, 0, 1 + many, 0, 0, zeroSg⟩ : Ed)) ss).1)).1) = ss)))) (fun α => ⟨[⟨(α 33).h, 14, sgsL ((applyE ((⟨3, 0, 0, fr, fr + many, 0, 0, 0, zeroSg⟩ : Ed)) ((applyE ((⟨4, 0, 0, fr, 0, 1 + many, 0, 0, zeroSg⟩ : Ed)) ss).1)).1)⟩, ⟨.slice A n c, 14, sgsL ss⟩], ⟨Eq.trans (b := ⟨(α 33).h, 14, [Value.agg (sgsL ((applyE ((⟨3, 0, 0, fr, fr + many, 0, 0, 0, zeroSg⟩ : Ed)) ((applyE ((⟨4, 0, 0, fr, 0, 1 + many, 0, 0, zeroSg⟩ : Ed)) ss).1)).1)).toArray].flatMap SX.cellsV⟩) (by simp [SX.cellsV]) (by kernel_rfl), by kernel_rfl, rfl, cast (by kernel_rfl) k1, trivial⟩, .inr (.inr (.inl ⟨rfl, _, _, ((applyE ((⟨3, 0, 0, fr, fr + many, 0, 0, 0, zeroSg⟩ : Ed)) ((applyE ((⟨4, 0, 0, fr, 0, 1 + many, 0, 0, zeroSg⟩ : Ed)) ss).1)).1), ss, rfl, by have := applyE_len ((⟨3, 0, 0, fr, fr + many, 0, 0, 0, zeroSg⟩ : Ed)) ((applyE ((⟨4, 0, 0, fr, 0, 1 + many, 0, 0, zeroSg⟩ : Ed)) ss).1); have := applyE_len ((⟨4, 0, 0, fr, 0, 1 + many, 0, 0, zeroSg⟩ : Ed)) ss; omega, by omega, rfl⟩)), SX.noAli rfl⟩) (by kernel_rfl) ?_
          exact SX.VC_ret fun α W _ _ hS => SX.ret_of hS (x := .bool ((decide (((applyE ((⟨3, 0, 0, fr, fr + many, 0, 0, 0, zeroSg⟩ : Ed)) ((applyE ((⟨4, 0, 0, fr, 0, 1 + many, 0, 0, zeroSg⟩ : Ed)) ss).1)).1) = ss)))) (by kernel_rfl) (by rw [O2]; simp)
    · try simp only [NRM] at h39
      have hne : ¬ (1 + role % 64 = 1 + other % 64) := fun hro => by
        have C0 : applyE (⟨6, 1 + role % 64, 1 + other % 64, fr, fr + many, 0, 0, 0, zeroSg⟩ : Ed) ss = ([], 360) := by rw [← hro]; exact undo_same hch
        rw [C0] at h39
        exact absurd h39 (by decide)
      obtain ⟨C1, C2⟩ := run_two_ok (undo_cast hch ⟨hf0, hf1⟩ ⟨hm0, hm1⟩ (by omega) (by omega) hne)
      refine SX.VC_df (.tuple #[Value.agg (sgsL (applyE ((⟨6, 1 + (role % 64), 1 + (other % 64), fr, fr + many, 0, 0, 0, zeroSg⟩ : Ed)) ((applyE ((⟨6, 1 + (role % 64), 1 + (other % 64), fr, fr + many, 0, 0, 0, zeroSg⟩ : Ed)) ss).1)).1).toArray, .int .i64 ((applyE ((⟨6, 1 + (role % 64), 1 + (other % 64), fr, fr + many, 0, 0, 0, zeroSg⟩ : Ed)) ((applyE ((⟨6, 1 + (role % 64), 1 + (other % 64), fr, fr + many, 0, 0, 0, zeroSg⟩ : Ed)) ss).1)).2)]) (fun α => ⟨[⟨(α 26).h, 14, sgsL ((applyE ((⟨6, 1 + (role % 64), 1 + (other % 64), fr, fr + many, 0, 0, 0, zeroSg⟩ : Ed)) ss).1)⟩, ⟨valE (⟨6, 1 + (role % 64), 1 + (other % 64), fr, fr + many, 0, 0, 0, zeroSg⟩ : Ed), 0, []⟩], ⟨Eq.trans (b := ⟨(α 26).h, 14, [Value.agg (sgsL ((applyE ((⟨6, 1 + (role % 64), 1 + (other % 64), fr, fr + many, 0, 0, 0, zeroSg⟩ : Ed)) ss).1)).toArray].flatMap SX.cellsV⟩) (by simp [SX.cellsV]) (by kernel_rfl), by kernel_rfl, by kernel_rfl, trivial⟩, .inr (.inr (.inr (.inl ⟨rfl, _, ((applyE ((⟨6, 1 + (role % 64), 1 + (other % 64), fr, fr + many, 0, 0, 0, zeroSg⟩ : Ed)) ss).1), (⟨6, 1 + (role % 64), 1 + (other % 64), fr, fr + many, 0, 0, 0, zeroSg⟩ : Ed), rfl, by have := applyE_len ((⟨6, 1 + (role % 64), 1 + (other % 64), fr, fr + many, 0, 0, 0, zeroSg⟩ : Ed)) ss; omega, (show (6 : Int) ≠ 5 by decide), rfl⟩))), SX.noAli rfl⟩) (sgs_fit _ _) ?_
      refine SX.VC_df (.bool (((applyE ((⟨6, 1 + (role % 64), 1 + (other % 64), fr, fr + many, 0, 0, 0, zeroSg⟩ : Ed)) ((applyE ((⟨6, 1 + (role % 64), 1 + (other % 64), fr, fr + many, 0, 0, 0, zeroSg⟩ : Ed)) ss).1)).2 : Int) != 0)) (by intro α; show _ = _; kernel_rfl) (by kernel_rfl) ?_
      refine SX.VC_br (((applyE ((⟨6, 1 + (role % 64), 1 + (other % 64), fr, fr + many, 0, 0, 0, zeroSg⟩ : Ed)) ((applyE ((⟨6, 1 + (role % 64), 1 + (other % 64), fr, fr + many, 0, 0, 0, zeroSg⟩ : Ed)) ss).1)).2 : Int) != 0) (by kernel_rfl) (fun h41 => absurd h41 (by first | (rw [M1]; first | decide | simp) | (rw [M2]; first | decide | simp) | (rw [T1]; first | decide | simp) | (rw [T2]; first | decide | simp) | (rw [C0]; first | decide | simp) | (rw [C1]; first | decide | simp) | (rw [C2]; first | decide | simp) | (rw [O1]; first | decide | simp) | (rw [O2]; first | decide | simp))) (fun h41 => ?_)
      refine SX.VC_df (.bool ((1 + (role % 64) : Int) == 1 + (other % 64))) (by intro α; show _ = _; kernel_rfl) (by kernel_rfl) ?_
      refine SX.VC_br ((1 + (role % 64) : Int) == 1 + (other % 64)) (by kernel_rfl) (fun h42 => absurd h42 (by simp only [beq_iff_eq]; exact hne)) (fun h42 => ?_)
      refine SX.VC_df (.bool ((decide (((applyE ((⟨6, 1 + (role % 64), 1 + (other % 64), fr, fr + many, 0, 0, 0, zeroSg⟩ : Ed)) ((applyE ((⟨6, 1 + (role % 64), 1 + (other % 64), fr, fr + many, 0, 0, 0, zeroSg⟩ : Ed)) ss).1)).1) = ss)))) (fun α => ⟨[⟨(α 28).h, 14, sgsL ((applyE ((⟨6, 1 + (role % 64), 1 + (other % 64), fr, fr + many, 0, 0, 0, zeroSg⟩ : Ed)) ((applyE ((⟨6, 1 + (role % 64), 1 + (other % 64), fr, fr + many, 0, 0, 0, zeroSg⟩ : Ed)) ss).1)).1)⟩, ⟨.slice A n c, 14, sgsL ss⟩], ⟨Eq.trans (b := ⟨(α 28).h, 14, [Value.agg (sgsL ((applyE ((⟨6, 1 + (role % 64), 1 + (other % 64), fr, fr + many, 0, 0, 0, zeroSg⟩ : Ed)) ((applyE ((⟨6, 1 + (role % 64), 1 + (other % 64), fr, fr + many, 0, 0, 0, zeroSg⟩ : Ed)) ss).1)).1)).toArray].flatMap SX.cellsV⟩) (by simp [SX.cellsV]) (by kernel_rfl), by kernel_rfl, rfl, cast (by kernel_rfl) k1, trivial⟩, .inr (.inr (.inl ⟨rfl, _, _, ((applyE ((⟨6, 1 + (role % 64), 1 + (other % 64), fr, fr + many, 0, 0, 0, zeroSg⟩ : Ed)) ((applyE ((⟨6, 1 + (role % 64), 1 + (other % 64), fr, fr + many, 0, 0, 0, zeroSg⟩ : Ed)) ss).1)).1), ss, rfl, by have := applyE_len ((⟨6, 1 + (role % 64), 1 + (other % 64), fr, fr + many, 0, 0, 0, zeroSg⟩ : Ed)) ((applyE ((⟨6, 1 + (role % 64), 1 + (other % 64), fr, fr + many, 0, 0, 0, zeroSg⟩ : Ed)) ss).1); have := applyE_len ((⟨6, 1 + (role % 64), 1 + (other % 64), fr, fr + many, 0, 0, 0, zeroSg⟩ : Ed)) ss; omega, by omega, rfl⟩)), SX.noAli rfl⟩) (by kernel_rfl) ?_
      refine SX.VC_df (.bool (!((decide (((applyE ((⟨6, 1 + (role % 64), 1 + (other % 64), fr, fr + many, 0, 0, 0, zeroSg⟩ : Ed)) ((applyE ((⟨6, 1 + (role % 64), 1 + (other % 64), fr, fr + many, 0, 0, 0, zeroSg⟩ : Ed)) ss).1)).1) = ss))))) (by intro α; show _ = _; kernel_rfl) (by kernel_rfl) ?_
      refine SX.VC_br (!((decide (((applyE ((⟨6, 1 + (role % 64), 1 + (other % 64), fr, fr + many, 0, 0, 0, zeroSg⟩ : Ed)) ((applyE ((⟨6, 1 + (role % 64), 1 + (other % 64), fr, fr + many, 0, 0, 0, zeroSg⟩ : Ed)) ss).1)).1) = ss)))) (by kernel_rfl) (fun h44 => absurd h44 (by first | (rw [M1]; first | decide | simp) | (rw [M2]; first | decide | simp) | (rw [T1]; first | decide | simp) | (rw [T2]; first | decide | simp) | (rw [C0]; first | decide | simp) | (rw [C1]; first | decide | simp) | (rw [C2]; first | decide | simp) | (rw [O1]; first | decide | simp) | (rw [O2]; first | decide | simp))) (fun h44 => ?_)
      refine SX.VC_df (.int .i64 fr) (fun α => Eq.trans (b := some (.int .i64 (IntKind.i64.wrap fr))) (by kernel_rfl) (by rw [wrap_i64 (by omega) (by omega)])) (by kernel_rfl) ?_
      refine SX.VC_df (.int .i64 many) (fun α => Eq.trans (b := some (.int .i64 (IntKind.i64.wrap many))) (by kernel_rfl) (by rw [wrap_i64 (by omega) (by omega)])) (by kernel_rfl) ?_
      refine SX.VC_df (.int .i64 (1 + many)) (fun α => Eq.trans (b := some (.int .i64 (IntKind.i64.wrap (1 + many)))) (by kernel_rfl) (by rw [wrap_i64 (by omega) (by omega)])) (by kernel_rfl) ?_
      refine SX.VC_df (.int .i64 fr) (fun α => Eq.trans (b := some (.int .i64 (IntKind.i64.wrap fr))) (by kernel_rfl) (by rw [wrap_i64 (by omega) (by omega)])) (by kernel_rfl) ?_
      refine SX.VC_df (.int .i64 fr) (fun α => Eq.trans (b := some (.int .i64 (IntKind.i64.wrap fr))) (by kernel_rfl) (by rw [wrap_i64 (by omega) (by omega)])) (by kernel_rfl) ?_
      refine SX.VC_df (.int .i64 many) (fun α => Eq.trans (b := some (.int .i64 (IntKind.i64.wrap many))) (by kernel_rfl) (by rw [wrap_i64 (by omega) (by omega)])) (by kernel_rfl) ?_
      refine SX.VC_df (.int .i64 (fr + many)) (fun α => Eq.trans (b := some (.int .i64 (IntKind.i64.wrap (fr + many)))) (by kernel_rfl) (by rw [wrap_i64 (by omega) (by omega)])) (by kernel_rfl) ?_
      refine SX.VC_df (.tuple #[Value.agg (sgsL (applyE ((⟨4, 0, 0, fr, 0, 1 + many, 0, 0, zeroSg⟩ : Ed)) ss).1).toArray, .int .i64 ((applyE ((⟨4, 0, 0, fr, 0, 1 + many, 0, 0, zeroSg⟩ : Ed)) ss).2)]) (fun α => ⟨[⟨.slice A n c, 14, sgsL ss⟩, ⟨valE (⟨4, 0, 0, fr, 0, 1 + many, 0, 0, zeroSg⟩ : Ed), 0, []⟩], ⟨by kernel_rfl, rfl, cast (by kernel_rfl) k1, by kernel_rfl, by kernel_rfl, trivial⟩, .inr (.inr (.inr (.inl ⟨rfl, _, ss, (⟨4, 0, 0, fr, 0, 1 + many, 0, 0, zeroSg⟩ : Ed), rfl, by omega, (show (4 : Int) ≠ 5 by decide), rfl⟩))), SX.noAli rfl⟩) (sgs_fit _ _) ?_
      refine SX.VC_df (.bool (((applyE ((⟨4, 0, 0, fr, 0, 1 + many, 0, 0, zeroSg⟩ : Ed)) ss).2 : Int) != 0)) (by intro α; show _ = _; kernel_rfl) (by kernel_rfl) ?_
      refine SX.VC_br (((applyE ((⟨4, 0, 0, fr, 0, 1 + many, 0, 0, zeroSg⟩ : Ed)) ss).2 : Int) != 0) (by kernel_rfl) (fun h53 => ?_) (fun h53 => ?_)
      · try simp only [NRM] at h53
        refine SX.VC_df (.int .i64 (((n : Nat) : Int))) (by intro α; show _ = _; kernel_rfl) (by kernel_rfl) ?_
        refine SX.VC_loop (fun xs => ∃ i : Nat, xs = [.int .i64 (i : Int)] ∧ i ≤ n ∧ ∀ (k : Nat) (q : Sg), k < i → ss[k]? = some q → ¬ (fr ≤ q.bar ∧ 4095 < q.bar + 1 + many)) (fun xs => match xs with | [.int _ i] => n - i.toNat | _ => 0) (fun α => ⟨0, by kernel_rfl, by omega, fun k q hk => absurd hk (by omega)⟩) ?_
        rintro xs - ⟨i, rfl, hin, hal⟩
        refine SX.VC_df (.bool (decide (((i : Nat) : Int) < ((n : Nat) : Int)))) (by intro α; show _ = _; kernel_rfl) (by kernel_rfl) ?_
        refine SX.VC_br (decide (((i : Nat) : Int) < ((n : Nat) : Int))) (by kernel_rfl) (fun h56 => ?_) (fun h56 => ?_)
        · try simp only [NRM] at h56
          obtain ⟨z, hz⟩ : ∃ z, ss[i]? = some z := ⟨_, List.getElem?_eq_getElem (by omega)⟩
          have hzm := List.mem_of_getElem? hz
          have hzb := (hok.1 z hzm).2.2.1
          refine SX.VC_df (.bool true) (fun α => SX.extBnd (A := A) (n := n) (c := c) (j := i) hA (by kernel_rfl) (by kernel_rfl) (by omega)) (by kernel_rfl) ?_
          refine SX.VC_df (.agg (cellsSg z).toArray) (fun α => SX.extElems (f := cellsSg) (l := ss) (A := A) (n := n) (c := c) (j := i) (z := z) (fun _ => rfl) hA (by kernel_rfl) (by kernel_rfl) (by omega) (cast (by kernel_rfl) k1) hz) (by kernel_rfl) ?_
          refine SX.VC_df (.int .i64 fr) (fun α => Eq.trans (b := some (.int .i64 (IntKind.i64.wrap fr))) (by kernel_rfl) (by rw [wrap_i64 (by omega) (by omega)])) (by kernel_rfl) ?_
          refine SX.VC_df (.bool (decide (z.bar ≥ fr))) (by intro α; show _ = _; kernel_rfl) (by kernel_rfl) ?_
          refine SX.VC_br (decide (z.bar ≥ fr)) (by kernel_rfl) (fun h60 => ?_) (fun h60 => ?_)
          · try simp only [NRM] at h60
            refine SX.VC_df (.int .i64 (z.bar + 1)) (fun α => Eq.trans (b := some (.int .i64 (IntKind.i64.wrap (z.bar + 1)))) (by kernel_rfl) (by rw [wrap_i64 (by omega) (by omega)])) (by kernel_rfl) ?_
            refine SX.VC_df (.int .i64 many) (fun α => Eq.trans (b := some (.int .i64 (IntKind.i64.wrap many))) (by kernel_rfl) (by rw [wrap_i64 (by omega) (by omega)])) (by kernel_rfl) ?_
            refine SX.VC_df (.int .i64 ((z.bar + 1) + many)) (fun α => Eq.trans (b := some (.int .i64 (IntKind.i64.wrap ((z.bar + 1) + many)))) (by kernel_rfl) (by rw [wrap_i64 (by omega) (by omega)])) (by kernel_rfl) ?_
            refine SX.VC_df (.bool (decide ((z.bar + 1) + many > 4095))) (by intro α; show _ = _; kernel_rfl) (by kernel_rfl) ?_
            refine SX.VC_br (decide ((z.bar + 1) + many > 4095)) (by kernel_rfl) (fun h64 => ?_) (fun h64 => ?_)
            · try simp only [NRM] at h64
              refine SX.VC_df (.bool (decide (((i : Nat) : Int) ≥ 0))) (by intro α; show _ = _; kernel_rfl) (by kernel_rfl) ?_
              refine SX.VC_br (decide (((i : Nat) : Int) ≥ 0)) (by kernel_rfl) (fun h65 => ?_) (fun h65 => ?_)
              · try simp only [NRM] at h65
                refine SX.VC_df (.bool (((applyE ((⟨4, 0, 0, fr, 0, 1 + many, 0, 0, zeroSg⟩ : Ed)) ss).2 : Int) == 360)) (by intro α; show _ = _; kernel_rfl) (by kernel_rfl) ?_
                exact SX.VC_ret fun α W _ _ hS => SX.ret_of hS (x := .bool (((applyE ((⟨4, 0, 0, fr, 0, 1 + many, 0, 0, zeroSg⟩ : Ed)) ss).2 : Int) == 360)) (by kernel_rfl) (by rw [late_open hch ⟨hf0, hf1⟩ ⟨hm0, hm1⟩ ⟨z, hzm, by omega, by omega⟩]; rfl)
              · try simp only [NRM] at h65
                refine SX.VC_df (.bool (((applyE ((⟨4, 0, 0, fr, 0, 1 + many, 0, 0, zeroSg⟩ : Ed)) ss).2 : Int) == 0)) (by intro α; show _ = _; kernel_rfl) (by kernel_rfl) ?_
                refine SX.VC_br (((applyE ((⟨4, 0, 0, fr, 0, 1 + many, 0, 0, zeroSg⟩ : Ed)) ss).2 : Int) == 0) (by kernel_rfl) (fun h66 => ?_) (fun h66 => ?_)
                · try simp only [NRM] at h66
                  refine SX.VC_df (.bool ((decide (([] : List Sg) = ss)))) (fun α => ⟨[⟨.slice none 0 0, 14, sgsL []⟩, ⟨.slice A n c, 14, sgsL ss⟩], ⟨by kernel_rfl, by kernel_rfl, rfl, cast (by kernel_rfl) k1, trivial⟩, .inr (.inr (.inl ⟨rfl, _, _, ([] : List Sg), ss, rfl, by simp, by omega, rfl⟩)), SX.noAli rfl⟩) (by kernel_rfl) ?_
                  exfalso; omega
                · try simp only [NRM] at h66
                  exfalso; omega
            · try simp only [NRM] at h64
              refine SX.VC_df (.int .i64 (((i + 1 : Nat) : Int))) (fun α => Eq.trans (b := some (.int .i64 (IntKind.i64.wrap ((i : Nat) + 1)))) (by kernel_rfl) (by rw [show ((i + 1 : Nat) : Int) = ((i : Nat) : Int) + 1 by omega, wrap_i64 (by omega) (by omega)])) (by kernel_rfl) ?_
              exact SX.VC_again fun α => ⟨⟨i + 1, by kernel_rfl, by omega, upto hal hz (by omega)⟩, cast (by kernel_rfl) (show n - ((i + 1 : Nat) : Int).toNat < n - (i : Int).toNat by omega)⟩
          · try simp only [NRM] at h60
            refine SX.VC_df (.int .i64 (((i + 1 : Nat) : Int))) (fun α => Eq.trans (b := some (.int .i64 (IntKind.i64.wrap ((i : Nat) + 1)))) (by kernel_rfl) (by rw [show ((i + 1 : Nat) : Int) = ((i : Nat) : Int) + 1 by omega, wrap_i64 (by omega) (by omega)])) (by kernel_rfl) ?_
            exact SX.VC_again fun α => ⟨⟨i + 1, by kernel_rfl, by omega, upto hal hz (by omega)⟩, cast (by kernel_rfl) (show n - ((i + 1 : Nat) : Int).toNat < n - (i : Int).toNat by omega)⟩
        · try simp only [NRM] at h56
          refine SX.VC_df (.bool (((applyE ((⟨4, 0, 0, fr, 0, 1 + many, 0, 0, zeroSg⟩ : Ed)) ss).2 : Int) == 0)) (by intro α; show _ = _; kernel_rfl) (by kernel_rfl) ?_
          refine SX.VC_br (((applyE ((⟨4, 0, 0, fr, 0, 1 + many, 0, 0, zeroSg⟩ : Ed)) ss).2 : Int) == 0) (by kernel_rfl) (fun h57 => ?_) (fun h57 => ?_)
          · try simp only [NRM] at h57
            refine SX.VC_df (.bool ((decide (([] : List Sg) = ss)))) (fun α => ⟨[⟨.slice none 0 0, 14, sgsL []⟩, ⟨.slice A n c, 14, sgsL ss⟩], ⟨by kernel_rfl, by kernel_rfl, rfl, cast (by kernel_rfl) k1, trivial⟩, .inr (.inr (.inl ⟨rfl, _, _, ([] : List Sg), ss, rfl, by simp, by omega, rfl⟩)), SX.noAli rfl⟩) (by kernel_rfl) ?_
            exact absurd (run_two_ok (undo_open hch ⟨hf0, hf1⟩ ⟨hm0, hm1⟩ (all_of hal (by omega)))).1 h53
          · try simp only [NRM] at h57
            exact absurd (run_two_ok (undo_open hch ⟨hf0, hf1⟩ ⟨hm0, hm1⟩ (all_of hal (by omega)))).1 h53
      · try simp only [NRM] at h53
        have hall : ∀ k ∈ ss, ¬ (fr ≤ k.bar ∧ 4095 < k.bar + 1 + many) := fun k hk hlate => by
          have C0 := late_open hch ⟨hf0, hf1⟩ ⟨hm0, hm1⟩ ⟨k, hk, hlate⟩
          rw [C0] at h53
          exact absurd h53 (by decide)
        obtain ⟨O1, O2⟩ := run_two_ok (undo_open hch ⟨hf0, hf1⟩ ⟨hm0, hm1⟩ hall)
        refine SX.VC_df (.tuple #[Value.agg (sgsL (applyE ((⟨3, 0, 0, fr, fr + many, 0, 0, 0, zeroSg⟩ : Ed)) ((applyE ((⟨4, 0, 0, fr, 0, 1 + many, 0, 0, zeroSg⟩ : Ed)) ss).1)).1).toArray, .int .i64 ((applyE ((⟨3, 0, 0, fr, fr + many, 0, 0, 0, zeroSg⟩ : Ed)) ((applyE ((⟨4, 0, 0, fr, 0, 1 + many, 0, 0, zeroSg⟩ : Ed)) ss).1)).2)]) (fun α => ⟨[⟨(α 33).h, 14, sgsL ((applyE ((⟨4, 0, 0, fr, 0, 1 + many, 0, 0, zeroSg⟩ : Ed)) ss).1)⟩, ⟨valE (⟨3, 0, 0, fr, fr + many, 0, 0, 0, zeroSg⟩ : Ed), 0, []⟩], ⟨Eq.trans (b := ⟨(α 33).h, 14, [Value.agg (sgsL ((applyE ((⟨4, 0, 0, fr, 0, 1 + many, 0, 0, zeroSg⟩ : Ed)) ss).1)).toArray].flatMap SX.cellsV⟩) (by simp [SX.cellsV]) (by kernel_rfl), by kernel_rfl, by kernel_rfl, trivial⟩, .inr (.inr (.inr (.inl ⟨rfl, _, ((applyE ((⟨4, 0, 0, fr, 0, 1 + many, 0, 0, zeroSg⟩ : Ed)) ss).1), (⟨3, 0, 0, fr, fr + many, 0, 0, 0, zeroSg⟩ : Ed), rfl, by have := applyE_len ((⟨4, 0, 0, fr, 0, 1 + many, 0, 0, zeroSg⟩ : Ed)) ss; omega, (show (3 : Int) ≠ 5 by decide), rfl⟩))), SX.noAli rfl⟩) (sgs_fit _ _) ?_
        refine SX.VC_df (.bool (((applyE ((⟨3, 0, 0, fr, fr + many, 0, 0, 0, zeroSg⟩ : Ed)) ((applyE ((⟨4, 0, 0, fr, 0, 1 + many, 0, 0, zeroSg⟩ : Ed)) ss).1)).2 : Int) != 0)) (by intro α; show _ = _; kernel_rfl) (by kernel_rfl) ?_
        refine SX.VC_br (((applyE ((⟨3, 0, 0, fr, fr + many, 0, 0, 0, zeroSg⟩ : Ed)) ((applyE ((⟨4, 0, 0, fr, 0, 1 + many, 0, 0, zeroSg⟩ : Ed)) ss).1)).2 : Int) != 0) (by kernel_rfl) (fun h55 => absurd h55 (by first | (rw [M1]; first | decide | simp) | (rw [M2]; first | decide | simp) | (rw [T1]; first | decide | simp) | (rw [T2]; first | decide | simp) | (rw [C0]; first | decide | simp) | (rw [C1]; first | decide | simp) | (rw [C2]; first | decide | simp) | (rw [O1]; first | decide | simp) | (rw [O2]; first | decide | simp))) (fun h55 => ?_)
        refine SX.VC_df (.int .i64 (((n : Nat) : Int))) (by intro α; show _ = _; kernel_rfl) (by kernel_rfl) ?_
        refine SX.VC_loop (fun xs => ∃ i : Nat, xs = [.int .i64 (i : Int)] ∧ i ≤ n ∧ ∀ (k : Nat) (q : Sg), k < i → ss[k]? = some q → ¬ (fr ≤ q.bar ∧ 4095 < q.bar + 1 + many)) (fun xs => match xs with | [.int _ i] => n - i.toNat | _ => 0) (fun α => ⟨0, by kernel_rfl, by omega, fun k q hk => absurd hk (by omega)⟩) ?_
        rintro xs - ⟨i, rfl, hin, hal⟩
        refine SX.VC_df (.bool (decide (((i : Nat) : Int) < ((n : Nat) : Int)))) (by intro α; show _ = _; kernel_rfl) (by kernel_rfl) ?_
        refine SX.VC_br (decide (((i : Nat) : Int) < ((n : Nat) : Int))) (by kernel_rfl) (fun h58 => ?_) (fun h58 => ?_)
        · try simp only [NRM] at h58
          obtain ⟨z, hz⟩ : ∃ z, ss[i]? = some z := ⟨_, List.getElem?_eq_getElem (by omega)⟩
          have hzm := List.mem_of_getElem? hz
          have hzb := (hok.1 z hzm).2.2.1
          refine SX.VC_df (.bool true) (fun α => SX.extBnd (A := A) (n := n) (c := c) (j := i) hA (by kernel_rfl) (by kernel_rfl) (by omega)) (by kernel_rfl) ?_
          refine SX.VC_df (.agg (cellsSg z).toArray) (fun α => SX.extElems (f := cellsSg) (l := ss) (A := A) (n := n) (c := c) (j := i) (z := z) (fun _ => rfl) hA (by kernel_rfl) (by kernel_rfl) (by omega) (cast (by kernel_rfl) k1) hz) (by kernel_rfl) ?_
          refine SX.VC_df (.int .i64 fr) (fun α => Eq.trans (b := some (.int .i64 (IntKind.i64.wrap fr))) (by kernel_rfl) (by rw [wrap_i64 (by omega) (by omega)])) (by kernel_rfl) ?_
          refine SX.VC_df (.bool (decide (z.bar ≥ fr))) (by intro α; show _ = _; kernel_rfl) (by kernel_rfl) ?_
          refine SX.VC_br (decide (z.bar ≥ fr)) (by kernel_rfl) (fun h62 => ?_) (fun h62 => ?_)
          · try simp only [NRM] at h62
            refine SX.VC_df (.int .i64 (z.bar + 1)) (fun α => Eq.trans (b := some (.int .i64 (IntKind.i64.wrap (z.bar + 1)))) (by kernel_rfl) (by rw [wrap_i64 (by omega) (by omega)])) (by kernel_rfl) ?_
            refine SX.VC_df (.int .i64 many) (fun α => Eq.trans (b := some (.int .i64 (IntKind.i64.wrap many))) (by kernel_rfl) (by rw [wrap_i64 (by omega) (by omega)])) (by kernel_rfl) ?_
            refine SX.VC_df (.int .i64 ((z.bar + 1) + many)) (fun α => Eq.trans (b := some (.int .i64 (IntKind.i64.wrap ((z.bar + 1) + many)))) (by kernel_rfl) (by rw [wrap_i64 (by omega) (by omega)])) (by kernel_rfl) ?_
            refine SX.VC_df (.bool (decide ((z.bar + 1) + many > 4095))) (by intro α; show _ = _; kernel_rfl) (by kernel_rfl) ?_
            refine SX.VC_br (decide ((z.bar + 1) + many > 4095)) (by kernel_rfl) (fun h66 => ?_) (fun h66 => ?_)
            · try simp only [NRM] at h66
              refine SX.VC_df (.bool (decide (((i : Nat) : Int) ≥ 0))) (by intro α; show _ = _; kernel_rfl) (by kernel_rfl) ?_
              refine SX.VC_br (decide (((i : Nat) : Int) ≥ 0)) (by kernel_rfl) (fun h67 => ?_) (fun h67 => ?_)
              · try simp only [NRM] at h67
                exact absurd ⟨by omega, by omega⟩ (hall z hzm)
              · try simp only [NRM] at h67
                refine SX.VC_df (.bool ((decide (((applyE ((⟨3, 0, 0, fr, fr + many, 0, 0, 0, zeroSg⟩ : Ed)) ((applyE ((⟨4, 0, 0, fr, 0, 1 + many, 0, 0, zeroSg⟩ : Ed)) ss).1)).1) = ss)))) (fun α => ⟨[⟨(α 35).h, 14, sgsL ((applyE ((⟨3, 0, 0, fr, fr + many, 0, 0, 0, zeroSg⟩ : Ed)) ((applyE ((⟨4, 0, 0, fr, 0, 1 + many, 0, 0, zeroSg⟩ : Ed)) ss).1)).1)⟩, ⟨.slice A n c, 14, sgsL ss⟩], ⟨Eq.trans (b := ⟨(α 35).h, 14, [Value.agg (sgsL ((applyE ((⟨3, 0, 0, fr, fr + many, 0, 0, 0, zeroSg⟩ : Ed)) ((applyE ((⟨4, 0, 0, fr, 0, 1 + many, 0, 0, zeroSg⟩ : Ed)) ss).1)).1)).toArray].flatMap SX.cellsV⟩) (by simp [SX.cellsV]) (by kernel_rfl), by kernel_rfl, rfl, cast (by kernel_rfl) k1, trivial⟩, .inr (.inr (.inl ⟨rfl, _, _, ((applyE ((⟨3, 0, 0, fr, fr + many, 0, 0, 0, zeroSg⟩ : Ed)) ((applyE ((⟨4, 0, 0, fr, 0, 1 + many, 0, 0, zeroSg⟩ : Ed)) ss).1)).1), ss, rfl, by have := applyE_len ((⟨3, 0, 0, fr, fr + many, 0, 0, 0, zeroSg⟩ : Ed)) ((applyE ((⟨4, 0, 0, fr, 0, 1 + many, 0, 0, zeroSg⟩ : Ed)) ss).1); have := applyE_len ((⟨4, 0, 0, fr, 0, 1 + many, 0, 0, zeroSg⟩ : Ed)) ss; omega, by omega, rfl⟩)), SX.noAli rfl⟩) (by kernel_rfl) ?_
                exact absurd ⟨by omega, by omega⟩ (hall z hzm)
            · try simp only [NRM] at h66
              refine SX.VC_df (.int .i64 (((i + 1 : Nat) : Int))) (fun α => Eq.trans (b := some (.int .i64 (IntKind.i64.wrap ((i : Nat) + 1)))) (by kernel_rfl) (by rw [show ((i + 1 : Nat) : Int) = ((i : Nat) : Int) + 1 by omega, wrap_i64 (by omega) (by omega)])) (by kernel_rfl) ?_
              exact SX.VC_again fun α => ⟨⟨i + 1, by kernel_rfl, by omega, upto hal hz (by omega)⟩, cast (by kernel_rfl) (show n - ((i + 1 : Nat) : Int).toNat < n - (i : Int).toNat by omega)⟩
          · try simp only [NRM] at h62
            refine SX.VC_df (.int .i64 (((i + 1 : Nat) : Int))) (fun α => Eq.trans (b := some (.int .i64 (IntKind.i64.wrap ((i : Nat) + 1)))) (by kernel_rfl) (by rw [show ((i + 1 : Nat) : Int) = ((i : Nat) : Int) + 1 by omega, wrap_i64 (by omega) (by omega)])) (by kernel_rfl) ?_
            exact SX.VC_again fun α => ⟨⟨i + 1, by kernel_rfl, by omega, upto hal hz (by omega)⟩, cast (by kernel_rfl) (show n - ((i + 1 : Nat) : Int).toNat < n - (i : Int).toNat by omega)⟩
        · try simp only [NRM] at h58
          refine SX.VC_df (.bool ((decide (((applyE ((⟨3, 0, 0, fr, fr + many, 0, 0, 0, zeroSg⟩ : Ed)) ((applyE ((⟨4, 0, 0, fr, 0, 1 + many, 0, 0, zeroSg⟩ : Ed)) ss).1)).1) = ss)))) (fun α => ⟨[⟨(α 35).h, 14, sgsL ((applyE ((⟨3, 0, 0, fr, fr + many, 0, 0, 0, zeroSg⟩ : Ed)) ((applyE ((⟨4, 0, 0, fr, 0, 1 + many, 0, 0, zeroSg⟩ : Ed)) ss).1)).1)⟩, ⟨.slice A n c, 14, sgsL ss⟩], ⟨Eq.trans (b := ⟨(α 35).h, 14, [Value.agg (sgsL ((applyE ((⟨3, 0, 0, fr, fr + many, 0, 0, 0, zeroSg⟩ : Ed)) ((applyE ((⟨4, 0, 0, fr, 0, 1 + many, 0, 0, zeroSg⟩ : Ed)) ss).1)).1)).toArray].flatMap SX.cellsV⟩) (by simp [SX.cellsV]) (by kernel_rfl), by kernel_rfl, rfl, cast (by kernel_rfl) k1, trivial⟩, .inr (.inr (.inl ⟨rfl, _, _, ((applyE ((⟨3, 0, 0, fr, fr + many, 0, 0, 0, zeroSg⟩ : Ed)) ((applyE ((⟨4, 0, 0, fr, 0, 1 + many, 0, 0, zeroSg⟩ : Ed)) ss).1)).1), ss, rfl, by have := applyE_len ((⟨3, 0, 0, fr, fr + many, 0, 0, 0, zeroSg⟩ : Ed)) ((applyE ((⟨4, 0, 0, fr, 0, 1 + many, 0, 0, zeroSg⟩ : Ed)) ss).1); have := applyE_len ((⟨4, 0, 0, fr, 0, 1 + many, 0, 0, zeroSg⟩ : Ed)) ss; omega, by omega, rfl⟩)), SX.noAli rfl⟩) (by kernel_rfl) ?_
          exact SX.VC_ret fun α W _ _ hS => SX.ret_of hS (x := .bool ((decide (((applyE ((⟨3, 0, 0, fr, fr + many, 0, 0, 0, zeroSg⟩ : Ed)) ((applyE ((⟨4, 0, 0, fr, 0, 1 + many, 0, 0, zeroSg⟩ : Ed)) ss).1)).1) = ss)))) (by kernel_rfl) (by rw [O2]; simp)
end Go.Proofs.Ytnaooclbphaelaa
