/-
  EditsPassage: its walk.
-/
import Derived.Test.YtnaooclbphaelaaEo
import Derived.Test.YtnaooclbphaelaaEs
namespace Go.Proofs.Ytnaooclbphaelaa
set_option linter.unusedSimpArgs false
set_option linter.unusedVariables false
open Go Go.RowKit
namespace SX
variable {C : Cx} {ρ : List Value} {α : Nat → AV}
theorem cat_of {v : V} {l : List Value} (h : v.den ρ α = .agg l.toArray) : cellsV ((V.cat [v]).den ρ α) = l := by simp [V.den, denL, h, cellsV]
theorem rlen_of {β : Type} {f : β → List Value} {sz : Nat} (hf : ∀ a, (f a).length = sz) (h0 : 0 < sz) {l : List β} {cc : V} (hc : cellsV (cc.den ρ α) = l.flatMap f) : Opq.rel C ρ α (.rlen sz) [cc] (.int .i64 ((l.length : Nat) : Int)) := by
  show Value.int .i64 ((l.length : Nat) : Int) = .int .i64 (((cellsV (cc.den ρ α)).length / sz : Nat) : Int)
  rw [hc, flat_len hf, Nat.mul_div_cancel _ h0]
end SX
/-- what EditsPassage calls -/
def RE9 (f : FuncId) (xs : List SX.Arg) (v : Value) : Prop :=
  (f = 10 ∧ xs = [] ∧ v = .bool true) ∨
  (f = 20 ∧ ∃ (u : Value) (ss : List Sg), xs = [⟨u, 14, sgsL ss⟩] ∧ ss.length ≤ 9223372036854775807 ∧ v = .bool (decide (ss.length ≤ 200 ∧ okL ss))) ∨
  (f = 16 ∧ ∃ (u u2 : Value) (ss tt : List Sg), xs = [⟨u, 14, sgsL ss⟩, ⟨u2, 14, sgsL tt⟩] ∧ ss.length ≤ 9223372036854775807 ∧ tt.length ≤ 9223372036854775807 ∧ v = .bool (decide (ss = tt))) ∨
  (f = 12 ∧ ∃ (u : Value) (ss : List Sg) (d : Ed), xs = [⟨u, 14, sgsL ss⟩, ⟨valE d, 0, []⟩] ∧ ss.length ≤ 9223372036854775807 ∧ d.kind ≠ 5 ∧ v = .tuple #[.agg (sgsL (applyE d ss).1).toArray, .int .i64 (applyE d ss).2])
def shpE9 : FuncId → Option SX.Sh := fun f => if f = 10 then some .one else if f = 20 then some .one else if f = 16 then some .one else if f = 12 then some (.tp [.sl 14, .one]) else none
noncomputable def cxE9 (K A : Value → Nat → List Value → Prop) : SX.Cx := { P := Try.prog, R := fun _ => RE9, shp := shpE9, K := K, A := A, trm := true }
theorem okE9 (K A : Value → Nat → List Value → Prop) : (cxE9 K A).Ok := by
  refine SX.Cx.ok_of (fun _ => rfl) ?_
  intro K f xs v W hR hrd hKf
  rcases hR with ⟨rfl, rfl, rfl⟩ | ⟨rfl, u, ss, rfl, hl, rfl⟩ | ⟨rfl, u, u2, ss, tt, rfl, hl, hl2, rfl⟩ | ⟨rfl, u, ss, d, rfl, hl, hd, rfl⟩
  · exact (sane36_any W).mono fun e w' h => SX.plainOk rfl h
  · obtain ⟨A, n, c, rfl, h2, h3, h4⟩ := sgs_arg (hrd ⟨u, 14, sgsL ss⟩ (by simp))
    exact (lright_any ss A n c W h2 (by omega) h3).mono fun e w' h => SX.plainOk rfl h
  · obtain ⟨A, n, c, rfl, h2, h3, h4⟩ := sgs_arg (hrd ⟨u, 14, sgsL ss⟩ (by simp))
    obtain ⟨A', n', c', rfl, h2', h3', h4'⟩ := sgs_arg (hrd ⟨u2, 14, sgsL tt⟩ (by simp))
    exact (same_any ss tt A A' n c n' c' W h2 (by omega) h3 h2' (by omega) h3').mono fun e w' h => SX.plainOk rfl h
  · refine Calls.mono ?_ fun e w' h => SX.SlRet.ok0 rfl h
    obtain ⟨A, n, c, rfl, h2, h3, h4⟩ := sgs_arg (hrd ⟨u, 14, sgsL ss⟩ (by simp))
    exact apply_any ss A n c d W h2 (by omega) h3 hd
def tree_passageL : SX.Tree :=
(.df (.call 10 []) [] .one 
(.df .not [(.x 23 [])] .one 
(.br 24 [] 
(.ret (.k (.bool false)) [] []) 
(.df (.call 20 [(.ext 14)]) [(.x 0 [])] .one 
(.df .not [(.x 25 [])] .one 
(.br 26 [] 
(.ret (.k (.bool true)) [] []) 
(.df (.bin .eql 3) [(.x 1 []), (.k (.int .i64 4))] .one 
(.br 27 [] 
(.ret (.k (.bool true)) [] []) 
(.df (.bin .eql 3) [(.x 1 []), (.k (.int .i64 5))] .one 
(.br 28 [] 
(.ret (.k (.bool true)) [] []) 
(.df (.call 12 [(.ext 14), .no]) [(.x 0 []), (.a [(.x 1 []), (.x 2 []), (.x 3 []), (.x 4 []), (.x 5 []), (.x 6 []), (.x 7 []), (.x 8 []), (.x 9 []), (.x 10 []), (.x 11 []), (.x 12 []), (.x 13 []), (.x 14 []), (.x 15 []), (.x 16 []), (.x 17 []), (.x 18 []), (.x 19 []), (.x 20 []), (.x 21 []), (.x 22 [])])] (.tp [(.sl 14), .one]) 
(.df (.bin .neq 31) [(.x 29 [1]), (.k (.int .i64 0))] .one 
(.br 30 [] 
(.df (.rlen 14) [(.cat [(.x 29 [0])])] .one 
(.df (.bin .eql 3) [(.x 31 []), (.k (.int .i64 0))] .one 
(.ret (.x 32 []) [] []))) 
(.df (.bin .eql 3) [(.x 1 []), (.k (.int .i64 3))] .one 
(.br 31 [] 
(.df (.len false) [(.x 0 [])] .one 
(.loop [(.k (.int .i64 0)), (.cat [])] [.one, .any] 
(.df (.bin .lss 3) [(.x 33 []), (.x 32 [])] .one 
(.br 35 [] 
(.df .bnd [(.x 0 []), (.x 33 [])] .one 
(.df (.elems 14 0 14) [(.x 0 []), (.x 33 [])] (.ag 14) 
(.df (.bin .gtr 3) [(.x 37 [2]), (.x 5 [])] .one 
(.br 38 [] 
(.df (.bin .sub 3) [(.x 5 []), (.x 4 [])] .one 
(.df (.bin .add 3) [(.x 39 []), (.k (.int .i64 1))] .one 
(.df (.bin .sub 3) [(.x 37 [2]), (.x 40 [])] .one 
(.df (.app 14 112 (.own 14 [(.x 37 [0]), (.x 37 [1]), (.x 41 []), (.x 37 [3]), (.x 37 [4]), (.x 37 [5]), (.x 37 [6]), (.x 37 [7]), (.x 37 [8]), (.x 37 [9]), (.x 37 [10]), (.x 37 [11]), (.x 37 [12]), (.x 37 [13])])) [(.cat [(.x 34 [])]), (.sl 6 0 1 1)] .any 
(.df (.bin .add 3) [(.x 33 []), (.k (.int .i64 1))] .one 
(.again 0 [(.x 43 []), (.cat [(.x 34 []), (.x 42 [])])])))))) 
(.df (.bin .lss 3) [(.x 37 [2]), (.x 4 [])] .one 
(.br 39 [] 
(.df (.app 14 112 (.own 14 [(.x 37 [0]), (.x 37 [1]), (.x 37 [2]), (.x 37 [3]), (.x 37 [4]), (.x 37 [5]), (.x 37 [6]), (.x 37 [7]), (.x 37 [8]), (.x 37 [9]), (.x 37 [10]), (.x 37 [11]), (.x 37 [12]), (.x 37 [13])])) [(.cat [(.x 34 [])]), (.sl 6 0 1 1)] .any 
(.df (.bin .add 3) [(.x 33 []), (.k (.int .i64 1))] .one 
(.again 0 [(.x 41 []), (.cat [(.x 34 []), (.x 40 [])])]))) 
(.df (.bin .add 3) [(.x 33 []), (.k (.int .i64 1))] .one 
(.again 0 [(.x 40 []), (.cat [(.x 34 [])])])))))))) 
(.df (.call 16 [(.row 14 [(.x 29 [0])]), (.row 14 [(.x 34 [])])]) [(.row 1), (.row 4)] .one 
(.ret (.x 36 []) [] [])))))) 
(.df (.rlen 14) [(.cat [(.x 29 [0])])] .one 
(.df (.len false) [(.x 0 [])] .one 
(.df (.bin .neq 3) [(.x 32 []), (.x 33 [])] .one 
(.br 34 [] 
(.ret (.k (.bool false)) [] []) 
(.df (.len false) [(.x 0 [])] .one 
(.loop [(.k (.int .i64 0))] [.one] 
(.df (.bin .lss 3) [(.x 36 []), (.x 35 [])] .one 
(.br 37 [] 
(.df .bnd [(.x 0 []), (.x 36 [])] .one 
(.df (.elems 14 0 14) [(.x 0 []), (.x 36 [])] (.ag 14) 
(.df (.rbnd 14) [(.cat [(.x 29 [0])]), (.x 36 [])] .one 
(.df (.relems 14 0 14) [(.cat [(.x 29 [0])]), (.x 36 [])] (.ag 14) 
(.df (.bin .lss 3) [(.x 39 [2]), (.x 4 [])] .one 
(.br 42 [] 
(.df (.eqr true 14 [(.i .i64), (.i .i64), (.i .i64), (.i .i64), (.i .i64), (.i .i64), (.i .i64), (.i .i64), (.i .i64), (.i .i64), (.i .i64), (.i .i64), (.i .i64), (.i .i64)]) [(.x 41 [0]), (.x 41 [1]), (.x 41 [2]), (.x 41 [3]), (.x 41 [4]), (.x 41 [5]), (.x 41 [6]), (.x 41 [7]), (.x 41 [8]), (.x 41 [9]), (.x 41 [10]), (.x 41 [11]), (.x 41 [12]), (.x 41 [13]), (.x 39 [0]), (.x 39 [1]), (.x 39 [2]), (.x 39 [3]), (.x 39 [4]), (.x 39 [5]), (.x 39 [6]), (.x 39 [7]), (.x 39 [8]), (.x 39 [9]), (.x 39 [10]), (.x 39 [11]), (.x 39 [12]), (.x 39 [13])] .one 
(.br 43 [] 
(.ret (.k (.bool false)) [] []) 
(.df (.bin .add 3) [(.x 36 []), (.k (.int .i64 1))] .one 
(.again 0 [(.x 44 [])])))) 
(.df (.bin .gtr 3) [(.x 39 [2]), (.x 5 [])] .one 
(.br 43 [] 
(.df (.eqr true 14 [(.i .i64), (.i .i64), (.i .i64), (.i .i64), (.i .i64), (.i .i64), (.i .i64), (.i .i64), (.i .i64), (.i .i64), (.i .i64), (.i .i64), (.i .i64), (.i .i64)]) [(.x 41 [0]), (.x 41 [1]), (.x 41 [2]), (.x 41 [3]), (.x 41 [4]), (.x 41 [5]), (.x 41 [6]), (.x 41 [7]), (.x 41 [8]), (.x 41 [9]), (.x 41 [10]), (.x 41 [11]), (.x 41 [12]), (.x 41 [13]), (.x 39 [0]), (.x 39 [1]), (.x 39 [2]), (.x 39 [3]), (.x 39 [4]), (.x 39 [5]), (.x 39 [6]), (.x 39 [7]), (.x 39 [8]), (.x 39 [9]), (.x 39 [10]), (.x 39 [11]), (.x 39 [12]), (.x 39 [13])] .one 
(.br 44 [] 
(.ret (.k (.bool false)) [] []) 
(.df (.bin .add 3) [(.x 36 []), (.k (.int .i64 1))] .one 
(.again 0 [(.x 45 [])])))) 
(.df (.bin .neq 3) [(.x 1 []), (.k (.int .i64 6))] .one 
(.br 44 [] 
(.df (.bin .gtr 3) [(.x 2 []), (.k (.int .i64 0))] .one 
(.br 45 [] 
(.df (.bin .sub 3) [(.x 2 []), (.k (.int .i64 1))] .one 
(.df (.bin .neq 3) [(.x 39 [1]), (.x 46 [])] .one 
(.br 47 [] 
(.df (.eqr true 14 [(.i .i64), (.i .i64), (.i .i64), (.i .i64), (.i .i64), (.i .i64), (.i .i64), (.i .i64), (.i .i64), (.i .i64), (.i .i64), (.i .i64), (.i .i64), (.i .i64)]) [(.x 41 [0]), (.x 41 [1]), (.x 41 [2]), (.x 41 [3]), (.x 41 [4]), (.x 41 [5]), (.x 41 [6]), (.x 41 [7]), (.x 41 [8]), (.x 41 [9]), (.x 41 [10]), (.x 41 [11]), (.x 41 [12]), (.x 41 [13]), (.x 39 [0]), (.x 39 [1]), (.x 39 [2]), (.x 39 [3]), (.x 39 [4]), (.x 39 [5]), (.x 39 [6]), (.x 39 [7]), (.x 39 [8]), (.x 39 [9]), (.x 39 [10]), (.x 39 [11]), (.x 39 [12]), (.x 39 [13])] .one 
(.br 48 [] 
(.ret (.k (.bool false)) [] []) 
(.df (.bin .add 3) [(.x 36 []), (.k (.int .i64 1))] .one 
(.again 0 [(.x 49 [])])))) 
(.df (.bin .eql 3) [(.x 1 []), (.k (.int .i64 1))] .one 
(.br 48 [] 
(.df (.eqr true 14 [(.i .i64), (.i .i64), (.i .i64), (.i .i64), (.i .i64), (.i .i64), (.i .i64), (.i .i64), (.i .i64), (.i .i64), (.i .i64), (.i .i64), (.i .i64), (.i .i64)]) [(.x 41 [0]), (.x 41 [1]), (.x 41 [2]), (.x 41 [3]), (.x 41 [4]), (.x 39 [5]), (.x 39 [6]), (.x 41 [7]), (.x 39 [8]), (.x 41 [9]), (.x 41 [10]), (.x 41 [11]), (.x 41 [12]), (.x 41 [13]), (.x 39 [0]), (.x 39 [1]), (.x 39 [2]), (.x 39 [3]), (.x 39 [4]), (.x 39 [5]), (.x 39 [6]), (.x 39 [7]), (.x 39 [8]), (.x 39 [9]), (.x 39 [10]), (.x 39 [11]), (.x 39 [12]), (.x 39 [13])] .one 
(.br 49 [] 
(.ret (.k (.bool false)) [] []) 
(.df (.bin .add 3) [(.x 36 []), (.k (.int .i64 1))] .one 
(.again 0 [(.x 50 [])])))) 
(.df (.bin .eql 3) [(.x 1 []), (.k (.int .i64 2))] .one 
(.br 49 [] 
(.df (.eqr true 14 [(.i .i64), (.i .i64), (.i .i64), (.i .i64), (.i .i64), (.i .i64), (.i .i64), (.i .i64), (.i .i64), (.i .i64), (.i .i64), (.i .i64), (.i .i64), (.i .i64)]) [(.x 41 [0]), (.x 41 [1]), (.x 41 [2]), (.x 41 [3]), (.x 41 [4]), (.x 41 [5]), (.x 39 [6]), (.x 41 [7]), (.x 41 [8]), (.x 41 [9]), (.x 41 [10]), (.x 41 [11]), (.x 41 [12]), (.x 41 [13]), (.x 39 [0]), (.x 39 [1]), (.x 39 [2]), (.x 39 [3]), (.x 39 [4]), (.x 39 [5]), (.x 39 [6]), (.x 39 [7]), (.x 39 [8]), (.x 39 [9]), (.x 39 [10]), (.x 39 [11]), (.x 39 [12]), (.x 39 [13])] .one 
(.br 50 [] 
(.ret (.k (.bool false)) [] []) 
(.df (.bin .add 3) [(.x 36 []), (.k (.int .i64 1))] .one 
(.again 0 [(.x 51 [])])))) 
(.df (.bin .eql 3) [(.x 1 []), (.k (.int .i64 6))] .one 
(.br 50 [] 
(.df (.eqr true 14 [(.i .i64), (.i .i64), (.i .i64), (.i .i64), (.i .i64), (.i .i64), (.i .i64), (.i .i64), (.i .i64), (.i .i64), (.i .i64), (.i .i64), (.i .i64), (.i .i64)]) [(.x 41 [0]), (.x 39 [1]), (.x 41 [2]), (.x 41 [3]), (.x 41 [4]), (.x 41 [5]), (.x 41 [6]), (.x 41 [7]), (.x 41 [8]), (.x 39 [9]), (.x 41 [10]), (.x 41 [11]), (.x 41 [12]), (.x 41 [13]), (.x 39 [0]), (.x 39 [1]), (.x 39 [2]), (.x 39 [3]), (.x 39 [4]), (.x 39 [5]), (.x 39 [6]), (.x 39 [7]), (.x 39 [8]), (.x 39 [9]), (.x 39 [10]), (.x 39 [11]), (.x 39 [12]), (.x 39 [13])] .one 
(.br 51 [] 
(.ret (.k (.bool false)) [] []) 
(.df (.bin .add 3) [(.x 36 []), (.k (.int .i64 1))] .one 
(.again 0 [(.x 52 [])])))) 
(.df (.bin .eql 3) [(.x 1 []), (.k (.int .i64 7))] .one 
(.br 51 [] 
(.df (.eqr true 14 [(.i .i64), (.i .i64), (.i .i64), (.i .i64), (.i .i64), (.i .i64), (.i .i64), (.i .i64), (.i .i64), (.i .i64), (.i .i64), (.i .i64), (.i .i64), (.i .i64)]) [(.x 41 [0]), (.x 41 [1]), (.x 41 [2]), (.x 41 [3]), (.x 41 [4]), (.x 41 [5]), (.x 41 [6]), (.x 41 [7]), (.x 41 [8]), (.x 41 [9]), (.x 39 [10]), (.x 39 [11]), (.x 39 [12]), (.x 39 [13]), (.x 39 [0]), (.x 39 [1]), (.x 39 [2]), (.x 39 [3]), (.x 39 [4]), (.x 39 [5]), (.x 39 [6]), (.x 39 [7]), (.x 39 [8]), (.x 39 [9]), (.x 39 [10]), (.x 39 [11]), (.x 39 [12]), (.x 39 [13])] .one 
(.br 52 [] 
(.ret (.k (.bool false)) [] []) 
(.df (.bin .add 3) [(.x 36 []), (.k (.int .i64 1))] .one 
(.again 0 [(.x 53 [])])))) 
(.df (.eqr true 14 [(.i .i64), (.i .i64), (.i .i64), (.i .i64), (.i .i64), (.i .i64), (.i .i64), (.i .i64), (.i .i64), (.i .i64), (.i .i64), (.i .i64), (.i .i64), (.i .i64)]) [(.x 41 [0]), (.x 41 [1]), (.x 41 [2]), (.x 41 [3]), (.x 41 [4]), (.x 41 [5]), (.x 41 [6]), (.x 41 [7]), (.x 41 [8]), (.x 41 [9]), (.x 41 [10]), (.x 41 [11]), (.x 41 [12]), (.x 41 [13]), (.x 39 [0]), (.x 39 [1]), (.x 39 [2]), (.x 39 [3]), (.x 39 [4]), (.x 39 [5]), (.x 39 [6]), (.x 39 [7]), (.x 39 [8]), (.x 39 [9]), (.x 39 [10]), (.x 39 [11]), (.x 39 [12]), (.x 39 [13])] .one 
(.br 52 [] 
(.ret (.k (.bool false)) [] []) 
(.df (.bin .add 3) [(.x 36 []), (.k (.int .i64 1))] .one 
(.again 0 [(.x 53 [])]))))))))))))))) 
(.df (.bin .eql 3) [(.x 1 []), (.k (.int .i64 1))] .one 
(.br 46 [] 
(.df (.eqr true 14 [(.i .i64), (.i .i64), (.i .i64), (.i .i64), (.i .i64), (.i .i64), (.i .i64), (.i .i64), (.i .i64), (.i .i64), (.i .i64), (.i .i64), (.i .i64), (.i .i64)]) [(.x 41 [0]), (.x 41 [1]), (.x 41 [2]), (.x 41 [3]), (.x 41 [4]), (.x 39 [5]), (.x 39 [6]), (.x 41 [7]), (.x 39 [8]), (.x 41 [9]), (.x 41 [10]), (.x 41 [11]), (.x 41 [12]), (.x 41 [13]), (.x 39 [0]), (.x 39 [1]), (.x 39 [2]), (.x 39 [3]), (.x 39 [4]), (.x 39 [5]), (.x 39 [6]), (.x 39 [7]), (.x 39 [8]), (.x 39 [9]), (.x 39 [10]), (.x 39 [11]), (.x 39 [12]), (.x 39 [13])] .one 
(.br 47 [] 
(.ret (.k (.bool false)) [] []) 
(.df (.bin .add 3) [(.x 36 []), (.k (.int .i64 1))] .one 
(.again 0 [(.x 48 [])])))) 
(.df (.bin .eql 3) [(.x 1 []), (.k (.int .i64 2))] .one 
(.br 47 [] 
(.df (.eqr true 14 [(.i .i64), (.i .i64), (.i .i64), (.i .i64), (.i .i64), (.i .i64), (.i .i64), (.i .i64), (.i .i64), (.i .i64), (.i .i64), (.i .i64), (.i .i64), (.i .i64)]) [(.x 41 [0]), (.x 41 [1]), (.x 41 [2]), (.x 41 [3]), (.x 41 [4]), (.x 41 [5]), (.x 39 [6]), (.x 41 [7]), (.x 41 [8]), (.x 41 [9]), (.x 41 [10]), (.x 41 [11]), (.x 41 [12]), (.x 41 [13]), (.x 39 [0]), (.x 39 [1]), (.x 39 [2]), (.x 39 [3]), (.x 39 [4]), (.x 39 [5]), (.x 39 [6]), (.x 39 [7]), (.x 39 [8]), (.x 39 [9]), (.x 39 [10]), (.x 39 [11]), (.x 39 [12]), (.x 39 [13])] .one 
(.br 48 [] 
(.ret (.k (.bool false)) [] []) 
(.df (.bin .add 3) [(.x 36 []), (.k (.int .i64 1))] .one 
(.again 0 [(.x 49 [])])))) 
(.df (.bin .eql 3) [(.x 1 []), (.k (.int .i64 6))] .one 
(.br 48 [] 
(.df (.eqr true 14 [(.i .i64), (.i .i64), (.i .i64), (.i .i64), (.i .i64), (.i .i64), (.i .i64), (.i .i64), (.i .i64), (.i .i64), (.i .i64), (.i .i64), (.i .i64), (.i .i64)]) [(.x 41 [0]), (.x 39 [1]), (.x 41 [2]), (.x 41 [3]), (.x 41 [4]), (.x 41 [5]), (.x 41 [6]), (.x 41 [7]), (.x 41 [8]), (.x 39 [9]), (.x 41 [10]), (.x 41 [11]), (.x 41 [12]), (.x 41 [13]), (.x 39 [0]), (.x 39 [1]), (.x 39 [2]), (.x 39 [3]), (.x 39 [4]), (.x 39 [5]), (.x 39 [6]), (.x 39 [7]), (.x 39 [8]), (.x 39 [9]), (.x 39 [10]), (.x 39 [11]), (.x 39 [12]), (.x 39 [13])] .one 
(.br 49 [] 
(.ret (.k (.bool false)) [] []) 
(.df (.bin .add 3) [(.x 36 []), (.k (.int .i64 1))] .one 
(.again 0 [(.x 50 [])])))) 
(.df (.bin .eql 3) [(.x 1 []), (.k (.int .i64 7))] .one 
(.br 49 [] 
(.df (.eqr true 14 [(.i .i64), (.i .i64), (.i .i64), (.i .i64), (.i .i64), (.i .i64), (.i .i64), (.i .i64), (.i .i64), (.i .i64), (.i .i64), (.i .i64), (.i .i64), (.i .i64)]) [(.x 41 [0]), (.x 41 [1]), (.x 41 [2]), (.x 41 [3]), (.x 41 [4]), (.x 41 [5]), (.x 41 [6]), (.x 41 [7]), (.x 41 [8]), (.x 41 [9]), (.x 39 [10]), (.x 39 [11]), (.x 39 [12]), (.x 39 [13]), (.x 39 [0]), (.x 39 [1]), (.x 39 [2]), (.x 39 [3]), (.x 39 [4]), (.x 39 [5]), (.x 39 [6]), (.x 39 [7]), (.x 39 [8]), (.x 39 [9]), (.x 39 [10]), (.x 39 [11]), (.x 39 [12]), (.x 39 [13])] .one 
(.br 50 [] 
(.ret (.k (.bool false)) [] []) 
(.df (.bin .add 3) [(.x 36 []), (.k (.int .i64 1))] .one 
(.again 0 [(.x 51 [])])))) 
(.df (.eqr true 14 [(.i .i64), (.i .i64), (.i .i64), (.i .i64), (.i .i64), (.i .i64), (.i .i64), (.i .i64), (.i .i64), (.i .i64), (.i .i64), (.i .i64), (.i .i64), (.i .i64)]) [(.x 41 [0]), (.x 41 [1]), (.x 41 [2]), (.x 41 [3]), (.x 41 [4]), (.x 41 [5]), (.x 41 [6]), (.x 41 [7]), (.x 41 [8]), (.x 41 [9]), (.x 41 [10]), (.x 41 [11]), (.x 41 [12]), (.x 41 [13]), (.x 39 [0]), (.x 39 [1]), (.x 39 [2]), (.x 39 [3]), (.x 39 [4]), (.x 39 [5]), (.x 39 [6]), (.x 39 [7]), (.x 39 [8]), (.x 39 [9]), (.x 39 [10]), (.x 39 [11]), (.x 39 [12]), (.x 39 [13])] .one 
(.br 50 [] 
(.ret (.k (.bool false)) [] []) 
(.df (.bin .add 3) [(.x 36 []), (.k (.int .i64 1))] .one 
(.again 0 [(.x 51 [])])))))))))))))) 
(.df (.bin .eql 3) [(.x 1 []), (.k (.int .i64 1))] .one 
(.br 45 [] 
(.df (.eqr true 14 [(.i .i64), (.i .i64), (.i .i64), (.i .i64), (.i .i64), (.i .i64), (.i .i64), (.i .i64), (.i .i64), (.i .i64), (.i .i64), (.i .i64), (.i .i64), (.i .i64)]) [(.x 41 [0]), (.x 41 [1]), (.x 41 [2]), (.x 41 [3]), (.x 41 [4]), (.x 39 [5]), (.x 39 [6]), (.x 41 [7]), (.x 39 [8]), (.x 41 [9]), (.x 41 [10]), (.x 41 [11]), (.x 41 [12]), (.x 41 [13]), (.x 39 [0]), (.x 39 [1]), (.x 39 [2]), (.x 39 [3]), (.x 39 [4]), (.x 39 [5]), (.x 39 [6]), (.x 39 [7]), (.x 39 [8]), (.x 39 [9]), (.x 39 [10]), (.x 39 [11]), (.x 39 [12]), (.x 39 [13])] .one 
(.br 46 [] 
(.ret (.k (.bool false)) [] []) 
(.df (.bin .add 3) [(.x 36 []), (.k (.int .i64 1))] .one 
(.again 0 [(.x 47 [])])))) 
(.df (.bin .eql 3) [(.x 1 []), (.k (.int .i64 2))] .one 
(.br 46 [] 
(.df (.eqr true 14 [(.i .i64), (.i .i64), (.i .i64), (.i .i64), (.i .i64), (.i .i64), (.i .i64), (.i .i64), (.i .i64), (.i .i64), (.i .i64), (.i .i64), (.i .i64), (.i .i64)]) [(.x 41 [0]), (.x 41 [1]), (.x 41 [2]), (.x 41 [3]), (.x 41 [4]), (.x 41 [5]), (.x 39 [6]), (.x 41 [7]), (.x 41 [8]), (.x 41 [9]), (.x 41 [10]), (.x 41 [11]), (.x 41 [12]), (.x 41 [13]), (.x 39 [0]), (.x 39 [1]), (.x 39 [2]), (.x 39 [3]), (.x 39 [4]), (.x 39 [5]), (.x 39 [6]), (.x 39 [7]), (.x 39 [8]), (.x 39 [9]), (.x 39 [10]), (.x 39 [11]), (.x 39 [12]), (.x 39 [13])] .one 
(.br 47 [] 
(.ret (.k (.bool false)) [] []) 
(.df (.bin .add 3) [(.x 36 []), (.k (.int .i64 1))] .one 
(.again 0 [(.x 48 [])])))) 
(.df (.bin .eql 3) [(.x 1 []), (.k (.int .i64 6))] .one 
(.br 47 [] 
(.df (.eqr true 14 [(.i .i64), (.i .i64), (.i .i64), (.i .i64), (.i .i64), (.i .i64), (.i .i64), (.i .i64), (.i .i64), (.i .i64), (.i .i64), (.i .i64), (.i .i64), (.i .i64)]) [(.x 41 [0]), (.x 39 [1]), (.x 41 [2]), (.x 41 [3]), (.x 41 [4]), (.x 41 [5]), (.x 41 [6]), (.x 41 [7]), (.x 41 [8]), (.x 39 [9]), (.x 41 [10]), (.x 41 [11]), (.x 41 [12]), (.x 41 [13]), (.x 39 [0]), (.x 39 [1]), (.x 39 [2]), (.x 39 [3]), (.x 39 [4]), (.x 39 [5]), (.x 39 [6]), (.x 39 [7]), (.x 39 [8]), (.x 39 [9]), (.x 39 [10]), (.x 39 [11]), (.x 39 [12]), (.x 39 [13])] .one 
(.br 48 [] 
(.ret (.k (.bool false)) [] []) 
(.df (.bin .add 3) [(.x 36 []), (.k (.int .i64 1))] .one 
(.again 0 [(.x 49 [])])))) 
(.df (.bin .eql 3) [(.x 1 []), (.k (.int .i64 7))] .one 
(.br 48 [] 
(.df (.eqr true 14 [(.i .i64), (.i .i64), (.i .i64), (.i .i64), (.i .i64), (.i .i64), (.i .i64), (.i .i64), (.i .i64), (.i .i64), (.i .i64), (.i .i64), (.i .i64), (.i .i64)]) [(.x 41 [0]), (.x 41 [1]), (.x 41 [2]), (.x 41 [3]), (.x 41 [4]), (.x 41 [5]), (.x 41 [6]), (.x 41 [7]), (.x 41 [8]), (.x 41 [9]), (.x 39 [10]), (.x 39 [11]), (.x 39 [12]), (.x 39 [13]), (.x 39 [0]), (.x 39 [1]), (.x 39 [2]), (.x 39 [3]), (.x 39 [4]), (.x 39 [5]), (.x 39 [6]), (.x 39 [7]), (.x 39 [8]), (.x 39 [9]), (.x 39 [10]), (.x 39 [11]), (.x 39 [12]), (.x 39 [13])] .one 
(.br 49 [] 
(.ret (.k (.bool false)) [] []) 
(.df (.bin .add 3) [(.x 36 []), (.k (.int .i64 1))] .one 
(.again 0 [(.x 50 [])])))) 
(.df (.eqr true 14 [(.i .i64), (.i .i64), (.i .i64), (.i .i64), (.i .i64), (.i .i64), (.i .i64), (.i .i64), (.i .i64), (.i .i64), (.i .i64), (.i .i64), (.i .i64), (.i .i64)]) [(.x 41 [0]), (.x 41 [1]), (.x 41 [2]), (.x 41 [3]), (.x 41 [4]), (.x 41 [5]), (.x 41 [6]), (.x 41 [7]), (.x 41 [8]), (.x 41 [9]), (.x 41 [10]), (.x 41 [11]), (.x 41 [12]), (.x 41 [13]), (.x 39 [0]), (.x 39 [1]), (.x 39 [2]), (.x 39 [3]), (.x 39 [4]), (.x 39 [5]), (.x 39 [6]), (.x 39 [7]), (.x 39 [8]), (.x 39 [9]), (.x 39 [10]), (.x 39 [11]), (.x 39 [12]), (.x 39 [13])] .one 
(.br 49 [] 
(.ret (.k (.bool false)) [] []) 
(.df (.bin .add 3) [(.x 36 []), (.k (.int .i64 1))] .one 
(.again 0 [(.x 50 [])])))))))))))))))))))))) 
(.ret (.k (.bool true)) [] []))))))))))))))))))))))))
def args_passageL : List SX.V := [.x 0 [], .a ((List.range 22).map fun j => .x (1 + j) [])]
set_option maxRecDepth 100000 in
theorem run_passageL (K A : Value → Nat → List Value → Prop) : (SX.run (cxE9 K A) ⟨fun f => true, [⟨6, 11, [(.s 44, .one), (.s 7, .row 14 26)]⟩, ⟨6, 23, [(.s 87, .one)]⟩], 0, 100⟩ 100000 0 (SX.door 6 Try.f6 args_passageL (List.replicate 23 .one)) [.code (Try.f6.body.getD .skip), .top Try.f6]).strip = tree_passageL := by kernel_rfl
set_option maxRecDepth 100000 in
set_option maxHeartbeats 4000000 in
theorem passageL_any (ss : List Sg) (A : Option Addr) (n c : Nat) (x : Ed)  (w : World) (hr : Rd w 14 A n (sgsL ss)) (hn : n ≤ 9223372036854775807) (hc : n ≤ c) : Calls Try.prog 6 #[.slice A n c, valE x] w fun e w' => e = .returned (.bool true) ∧ Below w.heap.size w w' := by
  refine SX.calls_of_run (C := cxE9 (runA A n c ss) (runA A n c ss)) (G := ⟨fun f => true, [⟨6, 11, [(.s 44, .one), (.s 7, .row 14 26)]⟩, ⟨6, 23, [(.s 87, .one)]⟩], 0, 100⟩) (args := args_passageL) (sh := (List.replicate 23 .one)) (ρ := ([.slice A n c] ++ cellsE x)) 100000 tree_passageL (okE9 _ _) Try.func6 rfl (run_passageL _ _) (by kernel_rfl) (by kernel_rfl) (by kernel_rfl) ?_ ?_
  · rintro W hW s sz cells ⟨rfl, rfl, rfl⟩; exact ⟨hr.same0 hW, hc⟩
  have hA := SX.rd_some hr
  have hln : ss.length = n := by have := hr.1; rw [sgsL_len] at this; omega
  have k1 : runA A n c ss (.slice A n c) 14 (sgsL ss) := ⟨rfl, rfl, rfl⟩
  have a1 := k1
  unfold tree_passageL
  refine SX.VC_df (.bool true) (fun α => ⟨[], trivial, .inl ⟨rfl, rfl, rfl⟩, SX.noAli rfl⟩) (by kernel_rfl) ?_
  refine SX.VC_df (.bool (!(true))) (by intro α; show _ = _; kernel_rfl) (by kernel_rfl) ?_
  refine SX.VC_br (!(true)) (by kernel_rfl) (fun h24 => absurd h24 (by simp)) (fun h24 => ?_)
  try simp only [NRM] at h24
  refine SX.VC_df (.bool ((decide (ss.length ≤ 200 ∧ okL ss)))) (fun α => ⟨[⟨.slice A n c, 14, sgsL ss⟩], ⟨by kernel_rfl, rfl, cast (by kernel_rfl) k1, trivial⟩, .inr (.inl ⟨rfl, _, _, rfl, by omega, rfl⟩), SX.noAli rfl⟩) (by kernel_rfl) ?_
  refine SX.VC_df (.bool (!((decide (ss.length ≤ 200 ∧ okL ss))))) (by intro α; show _ = _; kernel_rfl) (by kernel_rfl) ?_
  refine SX.VC_br (!((decide (ss.length ≤ 200 ∧ okL ss)))) (by kernel_rfl) (fun h26 => ?_) (fun h26 => ?_)
  · try simp only [NRM] at h26
    exact SX.VC_ret fun α W _ _ hS => SX.ret_of hS (x := .bool true) (by kernel_rfl) (rfl)
  · try simp only [NRM] at h26
    refine SX.VC_df (.bool ((x.kind : Int) == 4)) (by intro α; show _ = _; kernel_rfl) (by kernel_rfl) ?_
    refine SX.VC_br ((x.kind : Int) == 4) (by kernel_rfl) (fun h27 => ?_) (fun h27 => ?_)
    · try simp only [NRM] at h27
      exact SX.VC_ret fun α W _ _ hS => SX.ret_of hS (x := .bool true) (by kernel_rfl) (rfl)
    · try simp only [NRM] at h27
      refine SX.VC_df (.bool ((x.kind : Int) == 5)) (by intro α; show _ = _; kernel_rfl) (by kernel_rfl) ?_
      refine SX.VC_br ((x.kind : Int) == 5) (by kernel_rfl) (fun h28 => ?_) (fun h28 => ?_)
      · try simp only [NRM] at h28
        exact SX.VC_ret fun α W _ _ hS => SX.ret_of hS (x := .bool true) (by kernel_rfl) (rfl)
      · try simp only [NRM] at h28
        obtain ⟨hl2, hok⟩ : ss.length ≤ 200 ∧ okL ss := by assumption
        have hch : chkS ss = 0 := chkS_of (by omega) hok
        refine SX.VC_df (.tuple #[Value.agg (sgsL (applyE x ss).1).toArray, .int .i64 ((applyE x ss).2)]) (fun α => ⟨[⟨.slice A n c, 14, sgsL ss⟩, ⟨valE x, 0, []⟩], ⟨by kernel_rfl, rfl, cast (by kernel_rfl) k1, by kernel_rfl, by kernel_rfl, trivial⟩, .inr (.inr (.inr (⟨rfl, _, ss, x, rfl, by omega, (by omega), rfl⟩))), SX.noAli rfl⟩) (sgs_fit _ _) ?_
        refine SX.VC_df (.bool (((applyE x ss).2 : Int) != 0)) (by intro α; show _ = _; kernel_rfl) (by kernel_rfl) ?_
        refine SX.VC_br (((applyE x ss).2 : Int) != 0) (by kernel_rfl) (fun h30 => ?_) (fun h30 => ?_)
        · try simp only [NRM] at h30
          refine SX.VC_df (.int .i64 ((((((applyE x ss).1)).length : Nat) : Int))) (fun α => SX.rlen_of (f := cellsSg) (l := ((applyE x ss).1)) (fun _ => rfl) (by decide) (SX.cat_of (by kernel_rfl))) (by kernel_rfl) ?_
          refine SX.VC_df (.bool (((((((applyE x ss).1)).length : Nat) : Int) : Int) == 0)) (by intro α; show _ = _; kernel_rfl) (by kernel_rfl) ?_
          exact SX.VC_ret fun α W _ _ hS => SX.ret_of hS (x := .bool (((((((applyE x ss).1)).length : Nat) : Int) : Int) == 0)) (by kernel_rfl) (by rw [apply_err h30]; rfl)
        · try simp only [NRM] at h30
          refine SX.VC_df (.bool ((x.kind : Int) == 3)) (by intro α; show _ = _; kernel_rfl) (by kernel_rfl) ?_
          refine SX.VC_br ((x.kind : Int) == 3) (by kernel_rfl) (fun h31 => ?_) (fun h31 => ?_)
          · try simp only [NRM] at h31
            obtain ⟨hcut, hb1, hb2, hb3⟩ := cut_all hch h30 h31
            refine SX.VC_df (.int .i64 (((n : Nat) : Int))) (by intro α; show _ = _; kernel_rfl) (by kernel_rfl) ?_
            refine SX.VC_loop (fun xs => ∃ (i : Nat) (cur : List Sg), xs = [.int .i64 (i : Int), .agg (sgsL cur).toArray] ∧ i ≤ n ∧ cur = (ss.take i).flatMap (cutS x) ∧ cur.length ≤ i) (fun xs => match xs with | [.int _ i, _] => n - i.toNat | _ => 0) (fun α => ⟨0, [], by kernel_rfl, by omega, rfl, by simp⟩) ?_
            rintro xs - ⟨i, cur, rfl, hin, hcur, hcl⟩
            refine SX.VC_df (.bool (decide (((i : Nat) : Int) < ((n : Nat) : Int)))) (by intro α; show _ = _; kernel_rfl) (by kernel_rfl) ?_
            refine SX.VC_br (decide (((i : Nat) : Int) < ((n : Nat) : Int))) (by kernel_rfl) (fun h35 => ?_) (fun h35 => ?_)
            · try simp only [NRM] at h35
              obtain ⟨z, hz⟩ : ∃ z, ss[i]? = some z := ⟨_, List.getElem?_eq_getElem (by omega)⟩
              have hzm := List.mem_of_getElem? hz
              have hzb := (hok.1 z hzm).2.2.1
              refine SX.VC_df (.bool true) (fun α => SX.extBnd (A := A) (n := n) (c := c) (j := i) hA (by kernel_rfl) (by kernel_rfl) (by omega)) (by kernel_rfl) ?_
              refine SX.VC_df (.agg (cellsSg z).toArray) (fun α => SX.extElems (f := cellsSg) (l := ss) (A := A) (n := n) (c := c) (j := i) (z := z) (fun _ => rfl) hA (by kernel_rfl) (by kernel_rfl) (by omega) (cast (by kernel_rfl) k1) hz) (by kernel_rfl) ?_
              refine SX.VC_df (.bool (decide (z.bar > x.to))) (by intro α; show _ = _; kernel_rfl) (by kernel_rfl) ?_
              refine SX.VC_br (decide (z.bar > x.to)) (by kernel_rfl) (fun h38 => ?_) (fun h38 => ?_)
              · try simp only [NRM] at h38
                refine SX.VC_df (.int .i64 (x.to - x.fr)) (fun α => Eq.trans (b := some (.int .i64 (IntKind.i64.wrap (x.to - x.fr)))) (by kernel_rfl) (by rw [wrap_i64 (by omega) (by omega)])) (by kernel_rfl) ?_
                refine SX.VC_df (.int .i64 ((x.to - x.fr) + 1)) (fun α => Eq.trans (b := some (.int .i64 (IntKind.i64.wrap ((x.to - x.fr) + 1)))) (by kernel_rfl) (by rw [wrap_i64 (by omega) (by omega)])) (by kernel_rfl) ?_
                refine SX.VC_df (.int .i64 (z.bar - ((x.to - x.fr) + 1))) (fun α => Eq.trans (b := some (.int .i64 (IntKind.i64.wrap (z.bar - ((x.to - x.fr) + 1))))) (by kernel_rfl) (by rw [wrap_i64 (by omega) (by omega)])) (by kernel_rfl) ?_
                refine SX.VC_df (Value.agg (([({ z with bar := z.bar - (x.to - x.fr + 1) } : Sg)]).flatMap cellsSg).toArray) (fun α => SX.app_rel (f := cellsSg) (l1 := cur) (l2 := [({ z with bar := z.bar - (x.to - x.fr + 1) } : Sg)]) (fun _ => rfl) cellsSg_one (by decide) (SX.cat_of (by kernel_rfl)) (SX.src_own (by kernel_rfl)) (by simp only [List.length_cons, List.length_nil]; omega) (by simp only [List.length_cons, List.length_nil]; omega)) (by kernel_rfl) ?_
                refine SX.VC_df (.int .i64 (((i + 1 : Nat) : Int))) (fun α => Eq.trans (b := some (.int .i64 (IntKind.i64.wrap ((i : Nat) + 1)))) (by kernel_rfl) (by rw [show ((i + 1 : Nat) : Int) = ((i : Nat) : Int) + 1 by omega, wrap_i64 (by omega) (by omega)])) (by kernel_rfl) ?_
                exact SX.VC_again fun α => ⟨⟨i + 1, cur ++ [({ z with bar := z.bar - (x.to - x.fr + 1) } : Sg)], Eq.trans (b := [.int .i64 ((i + 1 : Nat) : Int), .agg ([Value.agg (sgsL cur).toArray, Value.agg (([({ z with bar := z.bar - (x.to - x.fr + 1) } : Sg)]).flatMap cellsSg).toArray].flatMap SX.cellsV).toArray]) (by kernel_rfl) (by simp [SX.cellsV, sgsL]), by omega, cut_step hcur hz (by unfold cutS; rw [if_neg (by omega), if_pos (by omega)]), by simp; omega⟩, cast (by kernel_rfl) (show n - ((i + 1 : Nat) : Int).toNat < n - (i : Int).toNat by omega)⟩
              · try simp only [NRM] at h38
                refine SX.VC_df (.bool (decide (z.bar < x.fr))) (by intro α; show _ = _; kernel_rfl) (by kernel_rfl) ?_
                refine SX.VC_br (decide (z.bar < x.fr)) (by kernel_rfl) (fun h39 => ?_) (fun h39 => ?_)
                · try simp only [NRM] at h39
                  refine SX.VC_df (Value.agg (([z]).flatMap cellsSg).toArray) (fun α => SX.app_rel (f := cellsSg) (l1 := cur) (l2 := [z]) (fun _ => rfl) cellsSg_one (by decide) (SX.cat_of (by kernel_rfl)) (SX.src_own (by kernel_rfl)) (by simp only [List.length_append, List.length_take, List.length_drop, List.length_cons, List.length_nil]; omega) (by simp only [List.length_append, List.length_take, List.length_drop, List.length_cons, List.length_nil]; omega)) (by kernel_rfl) ?_
                  refine SX.VC_df (.int .i64 (((i + 1 : Nat) : Int))) (fun α => Eq.trans (b := some (.int .i64 (IntKind.i64.wrap ((i : Nat) + 1)))) (by kernel_rfl) (by rw [show ((i + 1 : Nat) : Int) = ((i : Nat) : Int) + 1 by omega, wrap_i64 (by omega) (by omega)])) (by kernel_rfl) ?_
                  exact SX.VC_again fun α => ⟨⟨i + 1, cur ++ [z], Eq.trans (b := [.int .i64 ((i + 1 : Nat) : Int), .agg ([Value.agg (sgsL cur).toArray, Value.agg (([z]).flatMap cellsSg).toArray].flatMap SX.cellsV).toArray]) (by kernel_rfl) (by simp [SX.cellsV, sgsL]), by omega, cut_step hcur hz (by unfold cutS; rw [if_neg (by omega), if_neg (by omega)]), by simp; omega⟩, cast (by kernel_rfl) (show n - ((i + 1 : Nat) : Int).toNat < n - (i : Int).toNat by omega)⟩
                · try simp only [NRM] at h39
                  refine SX.VC_df (.int .i64 (((i + 1 : Nat) : Int))) (fun α => Eq.trans (b := some (.int .i64 (IntKind.i64.wrap ((i : Nat) + 1)))) (by kernel_rfl) (by rw [show ((i + 1 : Nat) : Int) = ((i : Nat) : Int) + 1 by omega, wrap_i64 (by omega) (by omega)])) (by kernel_rfl) ?_
                  exact SX.VC_again fun α => ⟨⟨i + 1, cur, Eq.trans (b := [.int .i64 ((i + 1 : Nat) : Int), .agg ([Value.agg (sgsL cur).toArray].flatMap SX.cellsV).toArray]) (by kernel_rfl) (by simp [SX.cellsV, sgsL]), by omega, (by simpa using cut_step (m := []) hcur hz (by unfold cutS; rw [if_pos ⟨by omega, by omega⟩])), by omega⟩, cast (by kernel_rfl) (show n - ((i + 1 : Nat) : Int).toNat < n - (i : Int).toNat by omega)⟩
            · try simp only [NRM] at h35
              refine SX.VC_df (.bool ((decide (((applyE x ss).1) = (cur))))) (fun α => ⟨[⟨(α 1).h, 14, sgsL ((applyE x ss).1)⟩, ⟨(α 4).h, 14, sgsL (cur)⟩], ⟨Eq.trans (b := ⟨(α 1).h, 14, [Value.agg (sgsL ((applyE x ss).1)).toArray].flatMap SX.cellsV⟩) (by simp [SX.cellsV]) (by kernel_rfl), Eq.trans (b := ⟨(α 4).h, 14, [Value.agg (sgsL (cur)).toArray].flatMap SX.cellsV⟩) (by simp [SX.cellsV]) (by kernel_rfl), trivial⟩, .inr (.inr (.inl ⟨rfl, _, _, ((applyE x ss).1), (cur), rfl, by have := applyE_len x ss; omega, by omega, rfl⟩)), SX.noAli rfl⟩) (by kernel_rfl) ?_
              exact SX.VC_ret fun α W _ _ hS => SX.ret_of hS (x := .bool ((decide (((applyE x ss).1) = (cur))))) (by kernel_rfl) (by rw [decide_eq_true (hcut.trans (by rw [hcur, List.take_of_length_le (by omega)]))])
          · try simp only [NRM] at h31
            obtain ⟨hall, hw, hk1, hk2⟩ := each_all hch h30 h31
            have hro := role_of hch h30 h31 h27 h28
            have hlen : (applyE x ss).1.length = n := by rw [hall, List.length_map]; exact hln
            refine SX.VC_df (.int .i64 ((((((applyE x ss).1)).length : Nat) : Int))) (fun α => SX.rlen_of (f := cellsSg) (l := ((applyE x ss).1)) (fun _ => rfl) (by decide) (SX.cat_of (by kernel_rfl))) (by kernel_rfl) ?_
            refine SX.VC_df (.int .i64 (((n : Nat) : Int))) (by intro α; show _ = _; kernel_rfl) (by kernel_rfl) ?_
            refine SX.VC_df (.bool (((((((applyE x ss).1)).length : Nat) : Int) : Int) != ((n : Nat) : Int))) (by intro α; show _ = _; kernel_rfl) (by kernel_rfl) ?_
            refine SX.VC_br (((((((applyE x ss).1)).length : Nat) : Int) : Int) != ((n : Nat) : Int)) (by kernel_rfl) (fun h34 => absurd h34 (by rw [hlen]; simp)) (fun h34 => ?_)
            try simp only [NRM] at h34
            refine SX.VC_df (.int .i64 (((n : Nat) : Int))) (by intro α; show _ = _; kernel_rfl) (by kernel_rfl) ?_
            refine SX.VC_loop (fun xs => ∃ i : Nat, xs = [.int .i64 (i : Int)] ∧ i ≤ n) (fun xs => match xs with | [.int _ i] => n - i.toNat | _ => 0) (fun α => ⟨0, by kernel_rfl, by omega⟩) ?_
            rintro xs - ⟨i, rfl, hin⟩
            refine SX.VC_df (.bool (decide (((i : Nat) : Int) < ((n : Nat) : Int)))) (by intro α; show _ = _; kernel_rfl) (by kernel_rfl) ?_
            refine SX.VC_br (decide (((i : Nat) : Int) < ((n : Nat) : Int))) (by kernel_rfl) (fun h37 => ?_) (fun h37 => ?_)
            · try simp only [NRM] at h37
              obtain ⟨z, hz⟩ : ∃ z, ss[i]? = some z := ⟨_, List.getElem?_eq_getElem (by omega)⟩
              have hzm := List.mem_of_getElem? hz
              have hzb := (hok.1 z hzm).2.2.1
              have hp := pass_in h31 h27 hro.1 (hw z hzm)
              have hg : (applyE x ss).1[i]? = some (gE x z) := by rw [hall, List.getElem?_map, hz]; rfl
              refine SX.VC_df (.bool true) (fun α => SX.extBnd (A := A) (n := n) (c := c) (j := i) hA (by kernel_rfl) (by kernel_rfl) (by omega)) (by kernel_rfl) ?_
              refine SX.VC_df (.agg (cellsSg z).toArray) (fun α => SX.extElems (f := cellsSg) (l := ss) (A := A) (n := n) (c := c) (j := i) (z := z) (fun _ => rfl) hA (by kernel_rfl) (by kernel_rfl) (by omega) (cast (by kernel_rfl) k1) hz) (by kernel_rfl) ?_
              refine SX.VC_df (.bool true) (fun α => SX.row_bnd (f := cellsSg) (l := ((applyE x ss).1)) (k := i) (fun _ => rfl) (by decide) (SX.cat_of (by kernel_rfl)) (by kernel_rfl) (by omega)) (by kernel_rfl) ?_
              refine SX.VC_df (.agg (cellsSg (gE x z)).toArray) (fun α => SX.row_elems (f := cellsSg) (l := ((applyE x ss).1)) (k := i) (z := (gE x z)) (fun _ => rfl) (by decide) (SX.cat_of (by kernel_rfl)) (by kernel_rfl) hg) (by kernel_rfl) ?_
              refine SX.VC_df (.bool (decide (z.bar < x.fr))) (by intro α; show _ = _; kernel_rfl) (by kernel_rfl) ?_
              refine SX.VC_br (decide (z.bar < x.fr)) (by kernel_rfl) (fun h42 => ?_) (fun h42 => ?_)
              · try simp only [NRM] at h42
                refine SX.VC_df (.bool (true ^^ decide ((gE x z) = z))) (fun α => SX.eqr_rel (f := cellsSg) cellsSg_inj (y := (gE x z)) (z := z) (by kernel_rfl) (by kernel_rfl) (by kernel_rfl)) (by kernel_rfl) ?_
                refine SX.VC_br (true ^^ decide ((gE x z) = z)) (by kernel_rfl) (fun h43 => absurd h43 (by first | (rw [decide_eq_true (hp.1 (by omega))]; decide) | (rw [decide_eq_true (hp.2.1 (by omega))]; decide) | (rw [decide_eq_true (hp.2.2.1 (by omega))]; decide) | (rw [decide_eq_true (hp.2.2.2.1 (by omega))]; decide) | (rw [decide_eq_true (hp.2.2.2.2 (by omega))]; decide))) (fun h43 => ?_)
                try simp only [NRM] at h43
                refine SX.VC_df (.int .i64 (((i + 1 : Nat) : Int))) (fun α => Eq.trans (b := some (.int .i64 (IntKind.i64.wrap ((i : Nat) + 1)))) (by kernel_rfl) (by rw [show ((i + 1 : Nat) : Int) = ((i : Nat) : Int) + 1 by omega, wrap_i64 (by omega) (by omega)])) (by kernel_rfl) ?_
                exact SX.VC_again fun α => ⟨⟨i + 1, by kernel_rfl, by omega⟩, cast (by kernel_rfl) (show n - ((i + 1 : Nat) : Int).toNat < n - (i : Int).toNat by omega)⟩
              · try simp only [NRM] at h42
                refine SX.VC_df (.bool (decide (z.bar > x.to))) (by intro α; show _ = _; kernel_rfl) (by kernel_rfl) ?_
                refine SX.VC_br (decide (z.bar > x.to)) (by kernel_rfl) (fun h43 => ?_) (fun h43 => ?_)
                · try simp only [NRM] at h43
                  refine SX.VC_df (.bool (true ^^ decide ((gE x z) = z))) (fun α => SX.eqr_rel (f := cellsSg) cellsSg_inj (y := (gE x z)) (z := z) (by kernel_rfl) (by kernel_rfl) (by kernel_rfl)) (by kernel_rfl) ?_
                  refine SX.VC_br (true ^^ decide ((gE x z) = z)) (by kernel_rfl) (fun h44 => absurd h44 (by first | (rw [decide_eq_true (hp.1 (by omega))]; decide) | (rw [decide_eq_true (hp.2.1 (by omega))]; decide) | (rw [decide_eq_true (hp.2.2.1 (by omega))]; decide) | (rw [decide_eq_true (hp.2.2.2.1 (by omega))]; decide) | (rw [decide_eq_true (hp.2.2.2.2 (by omega))]; decide))) (fun h44 => ?_)
                  try simp only [NRM] at h44
                  refine SX.VC_df (.int .i64 (((i + 1 : Nat) : Int))) (fun α => Eq.trans (b := some (.int .i64 (IntKind.i64.wrap ((i : Nat) + 1)))) (by kernel_rfl) (by rw [show ((i + 1 : Nat) : Int) = ((i : Nat) : Int) + 1 by omega, wrap_i64 (by omega) (by omega)])) (by kernel_rfl) ?_
                  exact SX.VC_again fun α => ⟨⟨i + 1, by kernel_rfl, by omega⟩, cast (by kernel_rfl) (show n - ((i + 1 : Nat) : Int).toNat < n - (i : Int).toNat by omega)⟩
                · try simp only [NRM] at h43
                  refine SX.VC_df (.bool ((x.kind : Int) != 6)) (by intro α; show _ = _; kernel_rfl) (by kernel_rfl) ?_
                  refine SX.VC_br ((x.kind : Int) != 6) (by kernel_rfl) (fun h44 => ?_) (fun h44 => ?_)
                  · try simp only [NRM] at h44
                    refine SX.VC_df (.bool (decide (x.role > 0))) (by intro α; show _ = _; kernel_rfl) (by kernel_rfl) ?_
                    refine SX.VC_br (decide (x.role > 0)) (by kernel_rfl) (fun h45 => ?_) (fun h45 => ?_)
                    · try simp only [NRM] at h45
                      refine SX.VC_df (.int .i64 (x.role - 1)) (fun α => Eq.trans (b := some (.int .i64 (IntKind.i64.wrap (x.role - 1)))) (by kernel_rfl) (by rw [wrap_i64 (by omega) (by omega)])) (by kernel_rfl) ?_
                      refine SX.VC_df (.bool ((z.role : Int) != x.role - 1)) (by intro α; show _ = _; kernel_rfl) (by kernel_rfl) ?_
                      refine SX.VC_br ((z.role : Int) != x.role - 1) (by kernel_rfl) (fun h47 => ?_) (fun h47 => ?_)
                      · try simp only [NRM] at h47
                        refine SX.VC_df (.bool (true ^^ decide ((gE x z) = z))) (fun α => SX.eqr_rel (f := cellsSg) cellsSg_inj (y := (gE x z)) (z := z) (by kernel_rfl) (by kernel_rfl) (by kernel_rfl)) (by kernel_rfl) ?_
                        refine SX.VC_br (true ^^ decide ((gE x z) = z)) (by kernel_rfl) (fun h48 => absurd h48 (by first | (rw [decide_eq_true (hp.1 (by omega))]; decide) | (rw [decide_eq_true (hp.2.1 (by omega))]; decide) | (rw [decide_eq_true (hp.2.2.1 (by omega))]; decide) | (rw [decide_eq_true (hp.2.2.2.1 (by omega))]; decide) | (rw [decide_eq_true (hp.2.2.2.2 (by omega))]; decide))) (fun h48 => ?_)
                        try simp only [NRM] at h48
                        refine SX.VC_df (.int .i64 (((i + 1 : Nat) : Int))) (fun α => Eq.trans (b := some (.int .i64 (IntKind.i64.wrap ((i : Nat) + 1)))) (by kernel_rfl) (by rw [show ((i + 1 : Nat) : Int) = ((i : Nat) : Int) + 1 by omega, wrap_i64 (by omega) (by omega)])) (by kernel_rfl) ?_
                        exact SX.VC_again fun α => ⟨⟨i + 1, by kernel_rfl, by omega⟩, cast (by kernel_rfl) (show n - ((i + 1 : Nat) : Int).toNat < n - (i : Int).toNat by omega)⟩
                      · try simp only [NRM] at h47
                        refine SX.VC_df (.bool ((x.kind : Int) == 1)) (by intro α; show _ = _; kernel_rfl) (by kernel_rfl) ?_
                        refine SX.VC_br ((x.kind : Int) == 1) (by kernel_rfl) (fun h48 => ?_) (fun h48 => ?_)
                        · try simp only [NRM] at h48
                          refine SX.VC_df (.bool (true ^^ decide ((⟨(gE x z).id, (gE x z).role, (gE x z).bar, (gE x z).mark, (gE x z).kind, z.side, z.dir, (gE x z).level, z.size, (gE x z).with_, (gE x z).fn, (gE x z).fd, (gE x z).tn, (gE x z).td⟩ : Sg) = z))) (fun α => SX.eqr_rel (f := cellsSg) cellsSg_inj (y := (⟨(gE x z).id, (gE x z).role, (gE x z).bar, (gE x z).mark, (gE x z).kind, z.side, z.dir, (gE x z).level, z.size, (gE x z).with_, (gE x z).fn, (gE x z).fd, (gE x z).tn, (gE x z).td⟩ : Sg)) (z := z) (by kernel_rfl) (by kernel_rfl) (by kernel_rfl)) (by kernel_rfl) ?_
                          refine SX.VC_br (true ^^ decide ((⟨(gE x z).id, (gE x z).role, (gE x z).bar, (gE x z).mark, (gE x z).kind, z.side, z.dir, (gE x z).level, z.size, (gE x z).with_, (gE x z).fn, (gE x z).fd, (gE x z).tn, (gE x z).td⟩ : Sg) = z)) (by kernel_rfl) (fun h49 => absurd h49 (by first | (rw [decide_eq_true (hp.1 (by omega))]; decide) | (rw [decide_eq_true (hp.2.1 (by omega))]; decide) | (rw [decide_eq_true (hp.2.2.1 (by omega))]; decide) | (rw [decide_eq_true (hp.2.2.2.1 (by omega))]; decide) | (rw [decide_eq_true (hp.2.2.2.2 (by omega))]; decide))) (fun h49 => ?_)
                          try simp only [NRM] at h49
                          refine SX.VC_df (.int .i64 (((i + 1 : Nat) : Int))) (fun α => Eq.trans (b := some (.int .i64 (IntKind.i64.wrap ((i : Nat) + 1)))) (by kernel_rfl) (by rw [show ((i + 1 : Nat) : Int) = ((i : Nat) : Int) + 1 by omega, wrap_i64 (by omega) (by omega)])) (by kernel_rfl) ?_
                          exact SX.VC_again fun α => ⟨⟨i + 1, by kernel_rfl, by omega⟩, cast (by kernel_rfl) (show n - ((i + 1 : Nat) : Int).toNat < n - (i : Int).toNat by omega)⟩
                        · try simp only [NRM] at h48
                          refine SX.VC_df (.bool ((x.kind : Int) == 2)) (by intro α; show _ = _; kernel_rfl) (by kernel_rfl) ?_
                          refine SX.VC_br ((x.kind : Int) == 2) (by kernel_rfl) (fun h49 => ?_) (fun h49 => ?_)
                          · try simp only [NRM] at h49
                            refine SX.VC_df (.bool (true ^^ decide ((⟨(gE x z).id, (gE x z).role, (gE x z).bar, (gE x z).mark, (gE x z).kind, (gE x z).side, z.dir, (gE x z).level, (gE x z).size, (gE x z).with_, (gE x z).fn, (gE x z).fd, (gE x z).tn, (gE x z).td⟩ : Sg) = z))) (fun α => SX.eqr_rel (f := cellsSg) cellsSg_inj (y := (⟨(gE x z).id, (gE x z).role, (gE x z).bar, (gE x z).mark, (gE x z).kind, (gE x z).side, z.dir, (gE x z).level, (gE x z).size, (gE x z).with_, (gE x z).fn, (gE x z).fd, (gE x z).tn, (gE x z).td⟩ : Sg)) (z := z) (by kernel_rfl) (by kernel_rfl) (by kernel_rfl)) (by kernel_rfl) ?_
                            refine SX.VC_br (true ^^ decide ((⟨(gE x z).id, (gE x z).role, (gE x z).bar, (gE x z).mark, (gE x z).kind, (gE x z).side, z.dir, (gE x z).level, (gE x z).size, (gE x z).with_, (gE x z).fn, (gE x z).fd, (gE x z).tn, (gE x z).td⟩ : Sg) = z)) (by kernel_rfl) (fun h50 => absurd h50 (by first | (rw [decide_eq_true (hp.1 (by omega))]; decide) | (rw [decide_eq_true (hp.2.1 (by omega))]; decide) | (rw [decide_eq_true (hp.2.2.1 (by omega))]; decide) | (rw [decide_eq_true (hp.2.2.2.1 (by omega))]; decide) | (rw [decide_eq_true (hp.2.2.2.2 (by omega))]; decide))) (fun h50 => ?_)
                            try simp only [NRM] at h50
                            refine SX.VC_df (.int .i64 (((i + 1 : Nat) : Int))) (fun α => Eq.trans (b := some (.int .i64 (IntKind.i64.wrap ((i : Nat) + 1)))) (by kernel_rfl) (by rw [show ((i + 1 : Nat) : Int) = ((i : Nat) : Int) + 1 by omega, wrap_i64 (by omega) (by omega)])) (by kernel_rfl) ?_
                            exact SX.VC_again fun α => ⟨⟨i + 1, by kernel_rfl, by omega⟩, cast (by kernel_rfl) (show n - ((i + 1 : Nat) : Int).toNat < n - (i : Int).toNat by omega)⟩
                          · try simp only [NRM] at h49
                            refine SX.VC_df (.bool ((x.kind : Int) == 6)) (by intro α; show _ = _; kernel_rfl) (by kernel_rfl) ?_
                            refine SX.VC_br ((x.kind : Int) == 6) (by kernel_rfl) (fun h50 => ?_) (fun h50 => ?_)
                            · try simp only [NRM] at h50
                              refine SX.VC_df (.bool (true ^^ decide ((⟨(gE x z).id, z.role, (gE x z).bar, (gE x z).mark, (gE x z).kind, (gE x z).side, (gE x z).dir, (gE x z).level, (gE x z).size, z.with_, (gE x z).fn, (gE x z).fd, (gE x z).tn, (gE x z).td⟩ : Sg) = z))) (fun α => SX.eqr_rel (f := cellsSg) cellsSg_inj (y := (⟨(gE x z).id, z.role, (gE x z).bar, (gE x z).mark, (gE x z).kind, (gE x z).side, (gE x z).dir, (gE x z).level, (gE x z).size, z.with_, (gE x z).fn, (gE x z).fd, (gE x z).tn, (gE x z).td⟩ : Sg)) (z := z) (by kernel_rfl) (by kernel_rfl) (by kernel_rfl)) (by kernel_rfl) ?_
                              refine SX.VC_br (true ^^ decide ((⟨(gE x z).id, z.role, (gE x z).bar, (gE x z).mark, (gE x z).kind, (gE x z).side, (gE x z).dir, (gE x z).level, (gE x z).size, z.with_, (gE x z).fn, (gE x z).fd, (gE x z).tn, (gE x z).td⟩ : Sg) = z)) (by kernel_rfl) (fun h51 => absurd h51 (by first | (rw [decide_eq_true (hp.1 (by omega))]; decide) | (rw [decide_eq_true (hp.2.1 (by omega))]; decide) | (rw [decide_eq_true (hp.2.2.1 (by omega))]; decide) | (rw [decide_eq_true (hp.2.2.2.1 (by omega))]; decide) | (rw [decide_eq_true (hp.2.2.2.2 (by omega))]; decide))) (fun h51 => ?_)
                              try simp only [NRM] at h51
                              refine SX.VC_df (.int .i64 (((i + 1 : Nat) : Int))) (fun α => Eq.trans (b := some (.int .i64 (IntKind.i64.wrap ((i : Nat) + 1)))) (by kernel_rfl) (by rw [show ((i + 1 : Nat) : Int) = ((i : Nat) : Int) + 1 by omega, wrap_i64 (by omega) (by omega)])) (by kernel_rfl) ?_
                              exact SX.VC_again fun α => ⟨⟨i + 1, by kernel_rfl, by omega⟩, cast (by kernel_rfl) (show n - ((i + 1 : Nat) : Int).toNat < n - (i : Int).toNat by omega)⟩
                            · try simp only [NRM] at h50
                              refine SX.VC_df (.bool ((x.kind : Int) == 7)) (by intro α; show _ = _; kernel_rfl) (by kernel_rfl) ?_
                              refine SX.VC_br ((x.kind : Int) == 7) (by kernel_rfl) (fun h51 => ?_) (fun h51 => ?_)
                              · try simp only [NRM] at h51
                                refine SX.VC_df (.bool (true ^^ decide ((⟨(gE x z).id, (gE x z).role, (gE x z).bar, (gE x z).mark, (gE x z).kind, (gE x z).side, (gE x z).dir, (gE x z).level, (gE x z).size, (gE x z).with_, z.fn, z.fd, z.tn, z.td⟩ : Sg) = z))) (fun α => SX.eqr_rel (f := cellsSg) cellsSg_inj (y := (⟨(gE x z).id, (gE x z).role, (gE x z).bar, (gE x z).mark, (gE x z).kind, (gE x z).side, (gE x z).dir, (gE x z).level, (gE x z).size, (gE x z).with_, z.fn, z.fd, z.tn, z.td⟩ : Sg)) (z := z) (by kernel_rfl) (by kernel_rfl) (by kernel_rfl)) (by kernel_rfl) ?_
                                refine SX.VC_br (true ^^ decide ((⟨(gE x z).id, (gE x z).role, (gE x z).bar, (gE x z).mark, (gE x z).kind, (gE x z).side, (gE x z).dir, (gE x z).level, (gE x z).size, (gE x z).with_, z.fn, z.fd, z.tn, z.td⟩ : Sg) = z)) (by kernel_rfl) (fun h52 => absurd h52 (by first | (rw [decide_eq_true (hp.1 (by omega))]; decide) | (rw [decide_eq_true (hp.2.1 (by omega))]; decide) | (rw [decide_eq_true (hp.2.2.1 (by omega))]; decide) | (rw [decide_eq_true (hp.2.2.2.1 (by omega))]; decide) | (rw [decide_eq_true (hp.2.2.2.2 (by omega))]; decide))) (fun h52 => ?_)
                                try simp only [NRM] at h52
                                refine SX.VC_df (.int .i64 (((i + 1 : Nat) : Int))) (fun α => Eq.trans (b := some (.int .i64 (IntKind.i64.wrap ((i : Nat) + 1)))) (by kernel_rfl) (by rw [show ((i + 1 : Nat) : Int) = ((i : Nat) : Int) + 1 by omega, wrap_i64 (by omega) (by omega)])) (by kernel_rfl) ?_
                                exact SX.VC_again fun α => ⟨⟨i + 1, by kernel_rfl, by omega⟩, cast (by kernel_rfl) (show n - ((i + 1 : Nat) : Int).toNat < n - (i : Int).toNat by omega)⟩
                              · try simp only [NRM] at h51
                                exfalso; omega
                    · try simp only [NRM] at h45
                      refine SX.VC_df (.bool ((x.kind : Int) == 1)) (by intro α; show _ = _; kernel_rfl) (by kernel_rfl) ?_
                      refine SX.VC_br ((x.kind : Int) == 1) (by kernel_rfl) (fun h46 => ?_) (fun h46 => ?_)
                      · try simp only [NRM] at h46
                        refine SX.VC_df (.bool (true ^^ decide ((⟨(gE x z).id, (gE x z).role, (gE x z).bar, (gE x z).mark, (gE x z).kind, z.side, z.dir, (gE x z).level, z.size, (gE x z).with_, (gE x z).fn, (gE x z).fd, (gE x z).tn, (gE x z).td⟩ : Sg) = z))) (fun α => SX.eqr_rel (f := cellsSg) cellsSg_inj (y := (⟨(gE x z).id, (gE x z).role, (gE x z).bar, (gE x z).mark, (gE x z).kind, z.side, z.dir, (gE x z).level, z.size, (gE x z).with_, (gE x z).fn, (gE x z).fd, (gE x z).tn, (gE x z).td⟩ : Sg)) (z := z) (by kernel_rfl) (by kernel_rfl) (by kernel_rfl)) (by kernel_rfl) ?_
                        refine SX.VC_br (true ^^ decide ((⟨(gE x z).id, (gE x z).role, (gE x z).bar, (gE x z).mark, (gE x z).kind, z.side, z.dir, (gE x z).level, z.size, (gE x z).with_, (gE x z).fn, (gE x z).fd, (gE x z).tn, (gE x z).td⟩ : Sg) = z)) (by kernel_rfl) (fun h47 => absurd h47 (by first | (rw [decide_eq_true (hp.1 (by omega))]; decide) | (rw [decide_eq_true (hp.2.1 (by omega))]; decide) | (rw [decide_eq_true (hp.2.2.1 (by omega))]; decide) | (rw [decide_eq_true (hp.2.2.2.1 (by omega))]; decide) | (rw [decide_eq_true (hp.2.2.2.2 (by omega))]; decide))) (fun h47 => ?_)
                        try simp only [NRM] at h47
                        refine SX.VC_df (.int .i64 (((i + 1 : Nat) : Int))) (fun α => Eq.trans (b := some (.int .i64 (IntKind.i64.wrap ((i : Nat) + 1)))) (by kernel_rfl) (by rw [show ((i + 1 : Nat) : Int) = ((i : Nat) : Int) + 1 by omega, wrap_i64 (by omega) (by omega)])) (by kernel_rfl) ?_
                        exact SX.VC_again fun α => ⟨⟨i + 1, by kernel_rfl, by omega⟩, cast (by kernel_rfl) (show n - ((i + 1 : Nat) : Int).toNat < n - (i : Int).toNat by omega)⟩
                      · try simp only [NRM] at h46
                        refine SX.VC_df (.bool ((x.kind : Int) == 2)) (by intro α; show _ = _; kernel_rfl) (by kernel_rfl) ?_
                        refine SX.VC_br ((x.kind : Int) == 2) (by kernel_rfl) (fun h47 => ?_) (fun h47 => ?_)
                        · try simp only [NRM] at h47
                          refine SX.VC_df (.bool (true ^^ decide ((⟨(gE x z).id, (gE x z).role, (gE x z).bar, (gE x z).mark, (gE x z).kind, (gE x z).side, z.dir, (gE x z).level, (gE x z).size, (gE x z).with_, (gE x z).fn, (gE x z).fd, (gE x z).tn, (gE x z).td⟩ : Sg) = z))) (fun α => SX.eqr_rel (f := cellsSg) cellsSg_inj (y := (⟨(gE x z).id, (gE x z).role, (gE x z).bar, (gE x z).mark, (gE x z).kind, (gE x z).side, z.dir, (gE x z).level, (gE x z).size, (gE x z).with_, (gE x z).fn, (gE x z).fd, (gE x z).tn, (gE x z).td⟩ : Sg)) (z := z) (by kernel_rfl) (by kernel_rfl) (by kernel_rfl)) (by kernel_rfl) ?_
                          refine SX.VC_br (true ^^ decide ((⟨(gE x z).id, (gE x z).role, (gE x z).bar, (gE x z).mark, (gE x z).kind, (gE x z).side, z.dir, (gE x z).level, (gE x z).size, (gE x z).with_, (gE x z).fn, (gE x z).fd, (gE x z).tn, (gE x z).td⟩ : Sg) = z)) (by kernel_rfl) (fun h48 => absurd h48 (by first | (rw [decide_eq_true (hp.1 (by omega))]; decide) | (rw [decide_eq_true (hp.2.1 (by omega))]; decide) | (rw [decide_eq_true (hp.2.2.1 (by omega))]; decide) | (rw [decide_eq_true (hp.2.2.2.1 (by omega))]; decide) | (rw [decide_eq_true (hp.2.2.2.2 (by omega))]; decide))) (fun h48 => ?_)
                          try simp only [NRM] at h48
                          refine SX.VC_df (.int .i64 (((i + 1 : Nat) : Int))) (fun α => Eq.trans (b := some (.int .i64 (IntKind.i64.wrap ((i : Nat) + 1)))) (by kernel_rfl) (by rw [show ((i + 1 : Nat) : Int) = ((i : Nat) : Int) + 1 by omega, wrap_i64 (by omega) (by omega)])) (by kernel_rfl) ?_
                          exact SX.VC_again fun α => ⟨⟨i + 1, by kernel_rfl, by omega⟩, cast (by kernel_rfl) (show n - ((i + 1 : Nat) : Int).toNat < n - (i : Int).toNat by omega)⟩
                        · try simp only [NRM] at h47
                          refine SX.VC_df (.bool ((x.kind : Int) == 6)) (by intro α; show _ = _; kernel_rfl) (by kernel_rfl) ?_
                          refine SX.VC_br ((x.kind : Int) == 6) (by kernel_rfl) (fun h48 => ?_) (fun h48 => ?_)
                          · try simp only [NRM] at h48
                            refine SX.VC_df (.bool (true ^^ decide ((⟨(gE x z).id, z.role, (gE x z).bar, (gE x z).mark, (gE x z).kind, (gE x z).side, (gE x z).dir, (gE x z).level, (gE x z).size, z.with_, (gE x z).fn, (gE x z).fd, (gE x z).tn, (gE x z).td⟩ : Sg) = z))) (fun α => SX.eqr_rel (f := cellsSg) cellsSg_inj (y := (⟨(gE x z).id, z.role, (gE x z).bar, (gE x z).mark, (gE x z).kind, (gE x z).side, (gE x z).dir, (gE x z).level, (gE x z).size, z.with_, (gE x z).fn, (gE x z).fd, (gE x z).tn, (gE x z).td⟩ : Sg)) (z := z) (by kernel_rfl) (by kernel_rfl) (by kernel_rfl)) (by kernel_rfl) ?_
                            refine SX.VC_br (true ^^ decide ((⟨(gE x z).id, z.role, (gE x z).bar, (gE x z).mark, (gE x z).kind, (gE x z).side, (gE x z).dir, (gE x z).level, (gE x z).size, z.with_, (gE x z).fn, (gE x z).fd, (gE x z).tn, (gE x z).td⟩ : Sg) = z)) (by kernel_rfl) (fun h49 => absurd h49 (by first | (rw [decide_eq_true (hp.1 (by omega))]; decide) | (rw [decide_eq_true (hp.2.1 (by omega))]; decide) | (rw [decide_eq_true (hp.2.2.1 (by omega))]; decide) | (rw [decide_eq_true (hp.2.2.2.1 (by omega))]; decide) | (rw [decide_eq_true (hp.2.2.2.2 (by omega))]; decide))) (fun h49 => ?_)
                            try simp only [NRM] at h49
                            refine SX.VC_df (.int .i64 (((i + 1 : Nat) : Int))) (fun α => Eq.trans (b := some (.int .i64 (IntKind.i64.wrap ((i : Nat) + 1)))) (by kernel_rfl) (by rw [show ((i + 1 : Nat) : Int) = ((i : Nat) : Int) + 1 by omega, wrap_i64 (by omega) (by omega)])) (by kernel_rfl) ?_
                            exact SX.VC_again fun α => ⟨⟨i + 1, by kernel_rfl, by omega⟩, cast (by kernel_rfl) (show n - ((i + 1 : Nat) : Int).toNat < n - (i : Int).toNat by omega)⟩
                          · try simp only [NRM] at h48
                            refine SX.VC_df (.bool ((x.kind : Int) == 7)) (by intro α; show _ = _; kernel_rfl) (by kernel_rfl) ?_
                            refine SX.VC_br ((x.kind : Int) == 7) (by kernel_rfl) (fun h49 => ?_) (fun h49 => ?_)
                            · try simp only [NRM] at h49
                              refine SX.VC_df (.bool (true ^^ decide ((⟨(gE x z).id, (gE x z).role, (gE x z).bar, (gE x z).mark, (gE x z).kind, (gE x z).side, (gE x z).dir, (gE x z).level, (gE x z).size, (gE x z).with_, z.fn, z.fd, z.tn, z.td⟩ : Sg) = z))) (fun α => SX.eqr_rel (f := cellsSg) cellsSg_inj (y := (⟨(gE x z).id, (gE x z).role, (gE x z).bar, (gE x z).mark, (gE x z).kind, (gE x z).side, (gE x z).dir, (gE x z).level, (gE x z).size, (gE x z).with_, z.fn, z.fd, z.tn, z.td⟩ : Sg)) (z := z) (by kernel_rfl) (by kernel_rfl) (by kernel_rfl)) (by kernel_rfl) ?_
                              refine SX.VC_br (true ^^ decide ((⟨(gE x z).id, (gE x z).role, (gE x z).bar, (gE x z).mark, (gE x z).kind, (gE x z).side, (gE x z).dir, (gE x z).level, (gE x z).size, (gE x z).with_, z.fn, z.fd, z.tn, z.td⟩ : Sg) = z)) (by kernel_rfl) (fun h50 => absurd h50 (by first | (rw [decide_eq_true (hp.1 (by omega))]; decide) | (rw [decide_eq_true (hp.2.1 (by omega))]; decide) | (rw [decide_eq_true (hp.2.2.1 (by omega))]; decide) | (rw [decide_eq_true (hp.2.2.2.1 (by omega))]; decide) | (rw [decide_eq_true (hp.2.2.2.2 (by omega))]; decide))) (fun h50 => ?_)
                              try simp only [NRM] at h50
                              refine SX.VC_df (.int .i64 (((i + 1 : Nat) : Int))) (fun α => Eq.trans (b := some (.int .i64 (IntKind.i64.wrap ((i : Nat) + 1)))) (by kernel_rfl) (by rw [show ((i + 1 : Nat) : Int) = ((i : Nat) : Int) + 1 by omega, wrap_i64 (by omega) (by omega)])) (by kernel_rfl) ?_
                              exact SX.VC_again fun α => ⟨⟨i + 1, by kernel_rfl, by omega⟩, cast (by kernel_rfl) (show n - ((i + 1 : Nat) : Int).toNat < n - (i : Int).toNat by omega)⟩
                            · try simp only [NRM] at h49
                              exfalso; omega
                  · try simp only [NRM] at h44
                    refine SX.VC_df (.bool ((x.kind : Int) == 1)) (by intro α; show _ = _; kernel_rfl) (by kernel_rfl) ?_
                    refine SX.VC_br ((x.kind : Int) == 1) (by kernel_rfl) (fun h45 => ?_) (fun h45 => ?_)
                    · try simp only [NRM] at h45
                      refine SX.VC_df (.bool (true ^^ decide ((⟨(gE x z).id, (gE x z).role, (gE x z).bar, (gE x z).mark, (gE x z).kind, z.side, z.dir, (gE x z).level, z.size, (gE x z).with_, (gE x z).fn, (gE x z).fd, (gE x z).tn, (gE x z).td⟩ : Sg) = z))) (fun α => SX.eqr_rel (f := cellsSg) cellsSg_inj (y := (⟨(gE x z).id, (gE x z).role, (gE x z).bar, (gE x z).mark, (gE x z).kind, z.side, z.dir, (gE x z).level, z.size, (gE x z).with_, (gE x z).fn, (gE x z).fd, (gE x z).tn, (gE x z).td⟩ : Sg)) (z := z) (by kernel_rfl) (by kernel_rfl) (by kernel_rfl)) (by kernel_rfl) ?_
                      refine SX.VC_br (true ^^ decide ((⟨(gE x z).id, (gE x z).role, (gE x z).bar, (gE x z).mark, (gE x z).kind, z.side, z.dir, (gE x z).level, z.size, (gE x z).with_, (gE x z).fn, (gE x z).fd, (gE x z).tn, (gE x z).td⟩ : Sg) = z)) (by kernel_rfl) (fun h46 => absurd h46 (by first | (rw [decide_eq_true (hp.1 (by omega))]; decide) | (rw [decide_eq_true (hp.2.1 (by omega))]; decide) | (rw [decide_eq_true (hp.2.2.1 (by omega))]; decide) | (rw [decide_eq_true (hp.2.2.2.1 (by omega))]; decide) | (rw [decide_eq_true (hp.2.2.2.2 (by omega))]; decide))) (fun h46 => ?_)
                      try simp only [NRM] at h46
                      refine SX.VC_df (.int .i64 (((i + 1 : Nat) : Int))) (fun α => Eq.trans (b := some (.int .i64 (IntKind.i64.wrap ((i : Nat) + 1)))) (by kernel_rfl) (by rw [show ((i + 1 : Nat) : Int) = ((i : Nat) : Int) + 1 by omega, wrap_i64 (by omega) (by omega)])) (by kernel_rfl) ?_
                      exact SX.VC_again fun α => ⟨⟨i + 1, by kernel_rfl, by omega⟩, cast (by kernel_rfl) (show n - ((i + 1 : Nat) : Int).toNat < n - (i : Int).toNat by omega)⟩
                    · try simp only [NRM] at h45
                      refine SX.VC_df (.bool ((x.kind : Int) == 2)) (by intro α; show _ = _; kernel_rfl) (by kernel_rfl) ?_
                      refine SX.VC_br ((x.kind : Int) == 2) (by kernel_rfl) (fun h46 => ?_) (fun h46 => ?_)
                      · try simp only [NRM] at h46
                        refine SX.VC_df (.bool (true ^^ decide ((⟨(gE x z).id, (gE x z).role, (gE x z).bar, (gE x z).mark, (gE x z).kind, (gE x z).side, z.dir, (gE x z).level, (gE x z).size, (gE x z).with_, (gE x z).fn, (gE x z).fd, (gE x z).tn, (gE x z).td⟩ : Sg) = z))) (fun α => SX.eqr_rel (f := cellsSg) cellsSg_inj (y := (⟨(gE x z).id, (gE x z).role, (gE x z).bar, (gE x z).mark, (gE x z).kind, (gE x z).side, z.dir, (gE x z).level, (gE x z).size, (gE x z).with_, (gE x z).fn, (gE x z).fd, (gE x z).tn, (gE x z).td⟩ : Sg)) (z := z) (by kernel_rfl) (by kernel_rfl) (by kernel_rfl)) (by kernel_rfl) ?_
                        refine SX.VC_br (true ^^ decide ((⟨(gE x z).id, (gE x z).role, (gE x z).bar, (gE x z).mark, (gE x z).kind, (gE x z).side, z.dir, (gE x z).level, (gE x z).size, (gE x z).with_, (gE x z).fn, (gE x z).fd, (gE x z).tn, (gE x z).td⟩ : Sg) = z)) (by kernel_rfl) (fun h47 => absurd h47 (by first | (rw [decide_eq_true (hp.1 (by omega))]; decide) | (rw [decide_eq_true (hp.2.1 (by omega))]; decide) | (rw [decide_eq_true (hp.2.2.1 (by omega))]; decide) | (rw [decide_eq_true (hp.2.2.2.1 (by omega))]; decide) | (rw [decide_eq_true (hp.2.2.2.2 (by omega))]; decide))) (fun h47 => ?_)
                        try simp only [NRM] at h47
                        refine SX.VC_df (.int .i64 (((i + 1 : Nat) : Int))) (fun α => Eq.trans (b := some (.int .i64 (IntKind.i64.wrap ((i : Nat) + 1)))) (by kernel_rfl) (by rw [show ((i + 1 : Nat) : Int) = ((i : Nat) : Int) + 1 by omega, wrap_i64 (by omega) (by omega)])) (by kernel_rfl) ?_
                        exact SX.VC_again fun α => ⟨⟨i + 1, by kernel_rfl, by omega⟩, cast (by kernel_rfl) (show n - ((i + 1 : Nat) : Int).toNat < n - (i : Int).toNat by omega)⟩
                      · try simp only [NRM] at h46
                        refine SX.VC_df (.bool ((x.kind : Int) == 6)) (by intro α; show _ = _; kernel_rfl) (by kernel_rfl) ?_
                        refine SX.VC_br ((x.kind : Int) == 6) (by kernel_rfl) (fun h47 => ?_) (fun h47 => ?_)
                        · try simp only [NRM] at h47
                          refine SX.VC_df (.bool (true ^^ decide ((⟨(gE x z).id, z.role, (gE x z).bar, (gE x z).mark, (gE x z).kind, (gE x z).side, (gE x z).dir, (gE x z).level, (gE x z).size, z.with_, (gE x z).fn, (gE x z).fd, (gE x z).tn, (gE x z).td⟩ : Sg) = z))) (fun α => SX.eqr_rel (f := cellsSg) cellsSg_inj (y := (⟨(gE x z).id, z.role, (gE x z).bar, (gE x z).mark, (gE x z).kind, (gE x z).side, (gE x z).dir, (gE x z).level, (gE x z).size, z.with_, (gE x z).fn, (gE x z).fd, (gE x z).tn, (gE x z).td⟩ : Sg)) (z := z) (by kernel_rfl) (by kernel_rfl) (by kernel_rfl)) (by kernel_rfl) ?_
                          refine SX.VC_br (true ^^ decide ((⟨(gE x z).id, z.role, (gE x z).bar, (gE x z).mark, (gE x z).kind, (gE x z).side, (gE x z).dir, (gE x z).level, (gE x z).size, z.with_, (gE x z).fn, (gE x z).fd, (gE x z).tn, (gE x z).td⟩ : Sg) = z)) (by kernel_rfl) (fun h48 => absurd h48 (by first | (rw [decide_eq_true (hp.1 (by omega))]; decide) | (rw [decide_eq_true (hp.2.1 (by omega))]; decide) | (rw [decide_eq_true (hp.2.2.1 (by omega))]; decide) | (rw [decide_eq_true (hp.2.2.2.1 (by omega))]; decide) | (rw [decide_eq_true (hp.2.2.2.2 (by omega))]; decide))) (fun h48 => ?_)
                          try simp only [NRM] at h48
                          refine SX.VC_df (.int .i64 (((i + 1 : Nat) : Int))) (fun α => Eq.trans (b := some (.int .i64 (IntKind.i64.wrap ((i : Nat) + 1)))) (by kernel_rfl) (by rw [show ((i + 1 : Nat) : Int) = ((i : Nat) : Int) + 1 by omega, wrap_i64 (by omega) (by omega)])) (by kernel_rfl) ?_
                          exact SX.VC_again fun α => ⟨⟨i + 1, by kernel_rfl, by omega⟩, cast (by kernel_rfl) (show n - ((i + 1 : Nat) : Int).toNat < n - (i : Int).toNat by omega)⟩
                        · try simp only [NRM] at h47
                          refine SX.VC_df (.bool ((x.kind : Int) == 7)) (by intro α; show _ = _; kernel_rfl) (by kernel_rfl) ?_
                          refine SX.VC_br ((x.kind : Int) == 7) (by kernel_rfl) (fun h48 => ?_) (fun h48 => ?_)
                          · try simp only [NRM] at h48
                            refine SX.VC_df (.bool (true ^^ decide ((⟨(gE x z).id, (gE x z).role, (gE x z).bar, (gE x z).mark, (gE x z).kind, (gE x z).side, (gE x z).dir, (gE x z).level, (gE x z).size, (gE x z).with_, z.fn, z.fd, z.tn, z.td⟩ : Sg) = z))) (fun α => SX.eqr_rel (f := cellsSg) cellsSg_inj (y := (⟨(gE x z).id, (gE x z).role, (gE x z).bar, (gE x z).mark, (gE x z).kind, (gE x z).side, (gE x z).dir, (gE x z).level, (gE x z).size, (gE x z).with_, z.fn, z.fd, z.tn, z.td⟩ : Sg)) (z := z) (by kernel_rfl) (by kernel_rfl) (by kernel_rfl)) (by kernel_rfl) ?_
                            refine SX.VC_br (true ^^ decide ((⟨(gE x z).id, (gE x z).role, (gE x z).bar, (gE x z).mark, (gE x z).kind, (gE x z).side, (gE x z).dir, (gE x z).level, (gE x z).size, (gE x z).with_, z.fn, z.fd, z.tn, z.td⟩ : Sg) = z)) (by kernel_rfl) (fun h49 => absurd h49 (by first | (rw [decide_eq_true (hp.1 (by omega))]; decide) | (rw [decide_eq_true (hp.2.1 (by omega))]; decide) | (rw [decide_eq_true (hp.2.2.1 (by omega))]; decide) | (rw [decide_eq_true (hp.2.2.2.1 (by omega))]; decide) | (rw [decide_eq_true (hp.2.2.2.2 (by omega))]; decide))) (fun h49 => ?_)
                            try simp only [NRM] at h49
                            refine SX.VC_df (.int .i64 (((i + 1 : Nat) : Int))) (fun α => Eq.trans (b := some (.int .i64 (IntKind.i64.wrap ((i : Nat) + 1)))) (by kernel_rfl) (by rw [show ((i + 1 : Nat) : Int) = ((i : Nat) : Int) + 1 by omega, wrap_i64 (by omega) (by omega)])) (by kernel_rfl) ?_
                            exact SX.VC_again fun α => ⟨⟨i + 1, by kernel_rfl, by omega⟩, cast (by kernel_rfl) (show n - ((i + 1 : Nat) : Int).toNat < n - (i : Int).toNat by omega)⟩
                          · try simp only [NRM] at h48
                            exfalso; omega
            · try simp only [NRM] at h37
              exact SX.VC_ret fun α W _ _ hS => SX.ret_of hS (x := .bool true) (by kernel_rfl) (rfl)
end Go.Proofs.Ytnaooclbphaelaa
