/-
  The chapter's examples.
-/
import Derived.Test.YtnaooclbphaelaaEm
namespace Go.Proofs.Ytnaooclbphaelaa
set_option linter.unusedSimpArgs false
set_option linter.unusedVariables false
open Go Go.RowKit
def intI (l : List Int) : List Value := l.map (.int .i64)
theorem intI_inj : ∀ (a b : List Int), intI a = intI b → a = b
  | [], [], _ => rfl
  | [], _ :: _, h => by simp [intI] at h
  | _ :: _, [], h => by simp [intI] at h
  | x :: a, y :: b, h => by
    simp only [intI, List.map_cons, List.cons.injEq, Value.int.injEq, true_and] at h
    rw [h.1, intI_inj a b h.2]
namespace SX
variable {C : Cx} {ρ : List Value} {α : Nat → AV}
theorem rbnd_k {c i : V} {sz L j : Nat} (h : (cellsV (c.den ρ α)).length = L) (hi : i.den ρ α = .int .i64 (j : Int)) (hlt : j < L / sz) : Opq.rel C ρ α (.rbnd sz) [c, i] (.bool true) := by
  refine ⟨?_, rfl⟩
  rw [hi, h]
  show 0 ≤ (j : Int) ∧ (j : Int) < ((L / sz : Nat) : Int)
  omega
theorem app_k {vs : List V} {y : V} {sz by' : Nat} {cs : List Value} (h : denL ρ α vs = cs) (h1 : cs.all (·.oneCell') = true) (h2 : (0 + cs.length) / sz * by' ≤ 140737488355328) (h3 : (0 + cs.length) / sz ≤ 140737488355328) : Opq.rel C ρ α (.app sz by' (.own sz vs)) [.cat [], y] (.agg cs.toArray) := by
  subst h
  exact ⟨⟨y.den ρ α, sz, denL ρ α vs⟩, ⟨rfl, trivial⟩, rfl, fun u hu => List.all_eq_true.1 h1 u hu, h2, h3, rfl⟩
end SX
theorem made_flat (z : Array Value) : ∀ n : Nat, (madeCells z (n * z.size)).toList = (List.replicate n z.toList).flatten
  | 0 => by simp [madeCells]
  | n + 1 => by
    have ih := made_flat z n
    rw [List.replicate_succ, List.flatten_cons, ← ih]
    unfold madeCells
    rw [show (n + 1) * z.size = z.size + n * z.size by rw [Nat.add_mul]; omega]
    simp only [Array.toList_map, Array.toList_range, List.range_add, List.map_append, List.map_map]
    congr 1
    · apply List.ext_getElem
      · simp
      · intro i h1 h2
        have hi : i < z.size := by simpa using h2
        simp [Nat.mod_eq_of_lt hi, hi]
    · apply List.map_congr_left
      intro i _
      simp [Nat.add_mod_left]
theorem mks_sg : sgsL (List.replicate 4097 zeroSg) = (madeCells (cellsSg zeroSg).toArray (4097 * 14)).toList := by
  have h := made_flat (cellsSg zeroSg).toArray 4097
  rw [show (cellsSg zeroSg).toArray.size = 14 from rfl] at h
  rw [h]
  unfold sgsL
  rw [List.flatMap_def, List.map_replicate]
theorem mks_val : Value.agg (sgsL (List.replicate 4097 zeroSg)).toArray = .agg (madeCells (cellsSg zeroSg).toArray (4097 * 14)) := by
  rw [mks_sg, Array.toArray_toList]
theorem sane_a1 : applyE (⟨1, 0, 0, 0, 9, 0, 0, 0, zeroSg⟩ : Ed) ([⟨4, 1, 2, 1, 4, 1, 7, 2, 0, 0, 0, 1, 1, 2⟩] : List Sg) = (([⟨4, 1, 2, 1, 4, 2, 3, 2, 0, 0, 0, 1, 1, 2⟩] : List Sg), 0) := applyE_ok (by decide +kernel) (by refine ⟨by decide, by decide, rfl, ?_⟩; simp only [rightE, roleE, barsE]; decide +kernel) (by decide +kernel) (by decide +kernel)
theorem sane_a7 : applyE (⟨7, 2, 0, 0, 2, 0, 1, 2, zeroSg⟩ : Ed) ([⟨4, 1, 2, 1, 4, 1, 7, 2, 0, 0, 0, 1, 1, 2⟩] : List Sg) = (([⟨4, 1, 2, 1, 4, 1, 7, 2, 0, 0, 0, 1, 1, 4⟩] : List Sg), 0) := applyE_ok (by decide +kernel) (by refine ⟨by decide, by decide, rfl, ?_⟩; simp only [rightE, roleE, barsE]; decide +kernel) (by decide +kernel) (by decide +kernel)
theorem sane_a3 : applyE (⟨3, 0, 0, 2, 3, 0, 0, 0, zeroSg⟩ : Ed) ([⟨4, 1, 2, 1, 4, 1, 7, 2, 0, 0, 0, 1, 1, 2⟩] : List Sg) = (([] : List Sg), 0) := applyE_ok (by decide +kernel) (by refine ⟨by decide, by decide, rfl, ?_⟩; simp only [rightE, roleE, barsE]; decide +kernel) (by decide +kernel) (by decide +kernel)
theorem sane_a0 : applyE (⟨0, 0, 0, 0, 0, 0, 0, 0, zeroSg⟩ : Ed) ([] : List Sg) = (([] : List Sg), 360) := applyE_no (by decide +kernel) (by rintro ⟨h1, h2, h3, h4⟩; revert h1 h2 h3 h4; simp only [rightE, roleE, barsE]; decide +kernel)
theorem sane_a2 : applyE (⟨2, 0, 0, 0, 0, 8, 0, 0, zeroSg⟩ : Ed) ([] : List Sg) = (([] : List Sg), 360) := applyE_no (by decide +kernel) (by rintro ⟨h1, h2, h3, h4⟩; revert h1 h2 h3 h4; simp only [rightE, roleE, barsE]; decide +kernel)
theorem sane_rep : chkS (List.replicate 4097 zeroSg) = 2 := by unfold chkS; rw [if_pos (by rw [List.length_replicate]; decide)]
/-- what the examples call -/
def RE5 (f : FuncId) (xs : List SX.Arg) (v : Value) : Prop :=
  (f = 12 ∧ ∃ (u : Value) (ss : List Sg) (d : Ed), xs = [⟨u, 14, sgsL ss⟩, ⟨valE d, 0, []⟩] ∧ ss.length ≤ 9223372036854775807 ∧ d.kind ≠ 5 ∧ v = .tuple #[.agg (sgsL (applyE d ss).1).toArray, .int .i64 (applyE d ss).2]) ∨
  (f = 14 ∧ ∃ (u : Value) (ss : List Sg), xs = [⟨u, 14, sgsL ss⟩] ∧ ss.length ≤ 9223372036854775807 ∧ v = .int .i64 (chkS ss)) ∨
  (f = 16 ∧ ∃ (u u2 : Value) (ss tt : List Sg), xs = [⟨u, 14, sgsL ss⟩, ⟨u2, 14, sgsL tt⟩] ∧ ss.length ≤ 9223372036854775807 ∧ tt.length ≤ 9223372036854775807 ∧ v = .bool (decide (ss = tt)))
def shpE5 : FuncId → Option SX.Sh := fun f => if f = 12 then some (.tp [.sl 14, .one]) else if f = 14 then some .one else if f = 16 then some .one else none
noncomputable def cxE5 (K A : Value → Nat → List Value → Prop) : SX.Cx := { P := Try.prog, R := fun _ => RE5, shp := shpE5, K := K, A := A, stc := true, trm := true, cut := [(7, 0, true), (8, 1, true), (10, 2, true), (11, 3, true), (13, 4, true), (17, 5, true), (19, 6, false), (20, 7, true), (26, 8, true), (29, 9, true), (30, 10, true), (31, 11, true), (32, 12, true), (35, 13, true), (36, 14, true), (37, 15, true), (38, 16, true), (39, 17, true), (40, 18, true), (41, 19, true), (43, 20, true), (45, 21, true), (47, 22, true), (50, 23, true), (51, 24, false), (52, 25, false), (54, 26, true), (56, 27, false), (58, 28, false), (60, 29, true), (62, 30, false), (65, 31, false), (68, 32, true), (70, 33, true)], tl := [47, 57, 42, 41] }
theorem okE5 (K A : Value → Nat → List Value → Prop) : (cxE5 K A).Ok := by
  refine SX.Cx.ok_of (fun _ => rfl) ?_
  intro K f xs v W hR hrd hKf
  rcases hR with ⟨rfl, u, ss, d, rfl, hl, hd, rfl⟩ | ⟨rfl, u, ss, rfl, hl, rfl⟩ | ⟨rfl, u, u2, ss, tt, rfl, hl, hl2, rfl⟩
  · refine Calls.mono ?_ fun e w' h => SX.SlRet.ok0 rfl h
    obtain ⟨A, n, c, rfl, h2, h3, h4⟩ := sgs_arg (hrd ⟨u, 14, sgsL ss⟩ (by simp))
    exact apply_any ss A n c d W h2 (by omega) h3 hd
  · obtain ⟨A, n, c, rfl, h2, h3, h4⟩ := sgs_arg (hrd ⟨u, 14, sgsL ss⟩ (by simp))
    exact (echeck_any ss A n c W h2 (by omega) h3).mono fun e w' h => SX.plainOk rfl h
  · obtain ⟨A, n, c, rfl, h2, h3, h4⟩ := sgs_arg (hrd ⟨u, 14, sgsL ss⟩ (by simp))
    obtain ⟨A', n', c', rfl, h2', h3', h4'⟩ := sgs_arg (hrd ⟨u2, 14, sgsL tt⟩ (by simp))
    exact (same_any ss tt A A' n c n' c' W h2 (by omega) h3 h2' (by omega) h3').mono fun e w' h => SX.plainOk rfl h
def tree_sane36 : SX.Tree :=
(.df (.call 12 [(.own 14 [(.k (.int .i64 4)), (.k (.int .i64 1)), (.k (.int .i64 2)), (.k (.int .i64 1)), (.k (.int .i64 4)), (.k (.int .i64 1)), (.k (.int .i64 7)), (.k (.int .i64 2)), (.k (.int .i64 0)), (.k (.int .i64 0)), (.k (.int .i64 0)), (.k (.int .i64 1)), (.k (.int .i64 1)), (.k (.int .i64 2))]), .no]) [(.sl 1 0 1 1), (.a [(.k (.int .i64 1)), (.k (.int .i64 0)), (.k (.int .i64 0)), (.k (.int .i64 0)), (.k (.int .i64 9)), (.k (.int .i64 0)), (.k (.int .i64 0)), (.k (.int .i64 0)), (.k (.int .i64 0)), (.k (.int .i64 0)), (.k (.int .i64 0)), (.k (.int .i64 0)), (.k (.int .i64 0)), (.k (.int .i64 0)), (.k (.int .i64 0)), (.k (.int .i64 0)), (.k (.int .i64 0)), (.k (.int .i64 0)), (.k (.int .i64 0)), (.k (.int .i64 0)), (.k (.int .i64 0)), (.k (.int .i64 0))])] (.tp [(.sl 14), .one]) 
(.df (.call 12 [(.own 14 [(.k (.int .i64 4)), (.k (.int .i64 1)), (.k (.int .i64 2)), (.k (.int .i64 1)), (.k (.int .i64 4)), (.k (.int .i64 1)), (.k (.int .i64 7)), (.k (.int .i64 2)), (.k (.int .i64 0)), (.k (.int .i64 0)), (.k (.int .i64 0)), (.k (.int .i64 1)), (.k (.int .i64 1)), (.k (.int .i64 2))]), .no]) [(.sl 1 0 1 1), (.a [(.k (.int .i64 7)), (.k (.int .i64 2)), (.k (.int .i64 0)), (.k (.int .i64 0)), (.k (.int .i64 2)), (.k (.int .i64 0)), (.k (.int .i64 1)), (.k (.int .i64 2)), (.k (.int .i64 0)), (.k (.int .i64 0)), (.k (.int .i64 0)), (.k (.int .i64 0)), (.k (.int .i64 0)), (.k (.int .i64 0)), (.k (.int .i64 0)), (.k (.int .i64 0)), (.k (.int .i64 0)), (.k (.int .i64 0)), (.k (.int .i64 0)), (.k (.int .i64 0)), (.k (.int .i64 0)), (.k (.int .i64 0))])] (.tp [(.sl 14), .one]) 
(.df (.call 12 [(.own 14 [(.k (.int .i64 4)), (.k (.int .i64 1)), (.k (.int .i64 2)), (.k (.int .i64 1)), (.k (.int .i64 4)), (.k (.int .i64 1)), (.k (.int .i64 7)), (.k (.int .i64 2)), (.k (.int .i64 0)), (.k (.int .i64 0)), (.k (.int .i64 0)), (.k (.int .i64 1)), (.k (.int .i64 1)), (.k (.int .i64 2))]), .no]) [(.sl 1 0 1 1), (.a [(.k (.int .i64 3)), (.k (.int .i64 0)), (.k (.int .i64 0)), (.k (.int .i64 2)), (.k (.int .i64 3)), (.k (.int .i64 0)), (.k (.int .i64 0)), (.k (.int .i64 0)), (.k (.int .i64 0)), (.k (.int .i64 0)), (.k (.int .i64 0)), (.k (.int .i64 0)), (.k (.int .i64 0)), (.k (.int .i64 0)), (.k (.int .i64 0)), (.k (.int .i64 0)), (.k (.int .i64 0)), (.k (.int .i64 0)), (.k (.int .i64 0)), (.k (.int .i64 0)), (.k (.int .i64 0)), (.k (.int .i64 0))])] (.tp [(.sl 14), .one]) 
(.df (.call 12 [(.own 14 []), .no]) [(.k (.slice none 0 0)), (.a [(.k (.int .i64 0)), (.k (.int .i64 0)), (.k (.int .i64 0)), (.k (.int .i64 0)), (.k (.int .i64 0)), (.k (.int .i64 0)), (.k (.int .i64 0)), (.k (.int .i64 0)), (.k (.int .i64 0)), (.k (.int .i64 0)), (.k (.int .i64 0)), (.k (.int .i64 0)), (.k (.int .i64 0)), (.k (.int .i64 0)), (.k (.int .i64 0)), (.k (.int .i64 0)), (.k (.int .i64 0)), (.k (.int .i64 0)), (.k (.int .i64 0)), (.k (.int .i64 0)), (.k (.int .i64 0)), (.k (.int .i64 0))])] (.tp [(.sl 14), .one]) 
(.df (.call 12 [(.own 14 []), .no]) [(.k (.slice none 0 0)), (.a [(.k (.int .i64 2)), (.k (.int .i64 0)), (.k (.int .i64 0)), (.k (.int .i64 0)), (.k (.int .i64 0)), (.k (.int .i64 8)), (.k (.int .i64 0)), (.k (.int .i64 0)), (.k (.int .i64 0)), (.k (.int .i64 0)), (.k (.int .i64 0)), (.k (.int .i64 0)), (.k (.int .i64 0)), (.k (.int .i64 0)), (.k (.int .i64 0)), (.k (.int .i64 0)), (.k (.int .i64 0)), (.k (.int .i64 0)), (.k (.int .i64 0)), (.k (.int .i64 0)), (.k (.int .i64 0)), (.k (.int .i64 0))])] (.tp [(.sl 14), .one]) 
(.df (.call 14 [(.own 14 [(.k (.int .i64 4)), (.k (.int .i64 1)), (.k (.int .i64 2)), (.k (.int .i64 1)), (.k (.int .i64 4)), (.k (.int .i64 1)), (.k (.int .i64 7)), (.k (.int .i64 2)), (.k (.int .i64 0)), (.k (.int .i64 0)), (.k (.int .i64 0)), (.k (.int .i64 1)), (.k (.int .i64 1)), (.k (.int .i64 2))])]) [(.sl 1 0 1 1)] .one 
(.df (.call 14 [(.own 14 [(.k (.int .i64 4)), (.k (.int .i64 1)), (.k (.int .i64 2)), (.k (.int .i64 1)), (.k (.int .i64 4)), (.k (.int .i64 1)), (.k (.int .i64 7)), (.k (.int .i64 3)), (.k (.int .i64 0)), (.k (.int .i64 0)), (.k (.int .i64 0)), (.k (.int .i64 1)), (.k (.int .i64 1)), (.k (.int .i64 2))])]) [(.sl 10 0 1 1)] .one 
(.df (.bin .neq 31) [(.x 5 []), (.k (.int .i64 0))] .one 
(.br 7 [] (.bad 70 []) 
(.df (.bin .neq 31) [(.x 6 []), (.k (.int .i64 0))] .one 
(.br 8 [] (.bad 70 []) 
(.df (.app 19 168 (.own 19 [(.k (.int .i64 0)), (.k (.int .i64 1)), (.k (.int .i64 4)), (.k (.int .i64 6)), (.k (.int .i64 0)), (.k (.int .i64 0)), (.k (.int .i64 0)), (.k (.int .i64 0)), (.k (.int .i64 0)), (.k (.int .i64 0)), (.k (.int .i64 0)), (.k (.int .i64 3)), (.k (.int .i64 0)), (.k (.int .i64 0)), (.k (.int .i64 0)), (.k (.int .i64 0)), (.k (.int .i64 0)), (.k (.int .i64 0)), (.k (.slice none 0 0))])) [(.cat []), (.sl 26 0 1 1)] .any 
(.df (.eqr true 2 [(.i .i64), (.i .i64)]) [(.k (.int .i64 0)), (.k (.int .i64 1)), (.k (.int .i64 0)), (.k (.int .i64 1))] .one 
(.br 10 [] (.bad 70 []) 
(.df (.eqr true 2 [(.i .i64), (.i .i64)]) [(.k (.int .i64 1)), (.k (.int .i64 2)), (.k (.int .i64 1)), (.k (.int .i64 2))] .one 
(.br 11 [] (.bad 70 []) 
(.df (.rlen 19) [(.cat [(.a [(.k (.int .i64 0)), (.k (.int .i64 1)), (.k (.int .i64 4)), (.k (.int .i64 6)), (.k (.int .i64 0)), (.k (.int .i64 0)), (.k (.int .i64 0)), (.k (.int .i64 0)), (.k (.int .i64 0)), (.k (.int .i64 0)), (.k (.int .i64 0)), (.k (.int .i64 3)), (.k (.int .i64 0)), (.k (.int .i64 0)), (.k (.int .i64 0)), (.k (.int .i64 0)), (.k (.int .i64 0)), (.k (.int .i64 0)), (.k (.slice none 0 0))])])] .one 
(.df (.bin .gtr 3) [(.x 12 []), (.k (.int .i64 512))] .one 
(.br 13 [] (.bad 70 []) 
(.df (.rlen 19) [(.cat [(.a [(.k (.int .i64 0)), (.k (.int .i64 1)), (.k (.int .i64 4)), (.k (.int .i64 6)), (.k (.int .i64 0)), (.k (.int .i64 0)), (.k (.int .i64 0)), (.k (.int .i64 0)), (.k (.int .i64 0)), (.k (.int .i64 0)), (.k (.int .i64 0)), (.k (.int .i64 3)), (.k (.int .i64 0)), (.k (.int .i64 0)), (.k (.int .i64 0)), (.k (.int .i64 0)), (.k (.int .i64 0)), (.k (.int .i64 0)), (.k (.slice none 0 0))])])] .one 
(.df (.bin .add 3) [(.k (.int .i64 7)), (.x 14 [])] .one 
(.df (.bin .sub 3) [(.x 15 []), (.k (.int .i64 1))] .one 
(.df (.bin .gtr 3) [(.x 16 []), (.k (.int .i64 1048576))] .one 
(.br 17 [] (.bad 70 []) 
(.df (.rlen 19) [(.cat [(.a [(.k (.int .i64 0)), (.k (.int .i64 1)), (.k (.int .i64 4)), (.k (.int .i64 6)), (.k (.int .i64 0)), (.k (.int .i64 0)), (.k (.int .i64 0)), (.k (.int .i64 0)), (.k (.int .i64 0)), (.k (.int .i64 0)), (.k (.int .i64 0)), (.k (.int .i64 3)), (.k (.int .i64 0)), (.k (.int .i64 0)), (.k (.int .i64 0)), (.k (.int .i64 0)), (.k (.int .i64 0)), (.k (.int .i64 0)), (.k (.slice none 0 0))])])] .one 
(.df (.bin .lss 3) [(.k (.int .i64 0)), (.x 18 [])] .one 
(.br 19 [] 
(.df (.snil false) [(.sl 11 0 2 2)] .one 
(.br 20 [] (.bad 70 []) 
(.df (.app 1 8 (.own 1 [(.k (.int .i64 2)), (.k (.int .i64 5))])) [(.cat []), (.sl 11 0 2 2)] .any 
(.df (.rbnd 19) [(.cat [(.a [(.k (.int .i64 0)), (.k (.int .i64 1)), (.k (.int .i64 4)), (.k (.int .i64 6)), (.k (.int .i64 0)), (.k (.int .i64 0)), (.k (.int .i64 0)), (.k (.int .i64 0)), (.k (.int .i64 0)), (.k (.int .i64 0)), (.k (.int .i64 0)), (.k (.int .i64 3)), (.k (.int .i64 0)), (.k (.int .i64 0)), (.k (.int .i64 0)), (.k (.int .i64 0)), (.k (.int .i64 0)), (.k (.int .i64 0)), (.k (.slice none 0 0))])]), (.k (.int .i64 0))] .one 
(.df (.rbnd 19) [(.cat [(.a [(.k (.int .i64 0)), (.k (.int .i64 1)), (.k (.int .i64 4)), (.k (.int .i64 6)), (.k (.int .i64 0)), (.k (.int .i64 0)), (.k (.int .i64 0)), (.k (.int .i64 0)), (.k (.int .i64 0)), (.k (.int .i64 0)), (.k (.int .i64 0)), (.k (.int .i64 3)), (.k (.int .i64 0)), (.k (.int .i64 0)), (.k (.int .i64 0)), (.k (.int .i64 0)), (.k (.int .i64 0)), (.k (.int .i64 0)), (.k (.slice none 0 0))])]), (.k (.int .i64 0))] .one 
(.df (.rbnd 19) [(.cat [(.a [(.k (.int .i64 0)), (.k (.int .i64 1)), (.k (.int .i64 4)), (.k (.int .i64 6)), (.k (.int .i64 0)), (.k (.int .i64 0)), (.k (.int .i64 0)), (.k (.int .i64 0)), (.k (.int .i64 0)), (.k (.int .i64 0)), (.k (.int .i64 0)), (.k (.int .i64 3)), (.k (.int .i64 0)), (.k (.int .i64 0)), (.k (.int .i64 0)), (.k (.int .i64 0)), (.k (.int .i64 0)), (.k (.int .i64 0)), (.k (.slice none 0 0))])]), (.k (.int .i64 0))] .one 
(.df (.rbnd 19) [(.cat [(.a [(.k (.int .i64 0)), (.k (.int .i64 1)), (.k (.int .i64 4)), (.k (.int .i64 6)), (.k (.int .i64 0)), (.k (.int .i64 0)), (.k (.int .i64 0)), (.k (.int .i64 0)), (.k (.int .i64 0)), (.k (.int .i64 0)), (.k (.int .i64 0)), (.k (.int .i64 3)), (.k (.int .i64 0)), (.k (.int .i64 0)), (.k (.int .i64 0)), (.k (.int .i64 0)), (.k (.int .i64 0)), (.k (.int .i64 0)), (.k (.slice none 0 0))])]), (.k (.int .i64 0))] .one 
(.df (.bin .lss 3) [(.k (.int .i64 1)), (.x 18 [])] .one 
(.br 26 [] (.bad 70 []) 
(.df (.call 14 [(.own 14 [(.k (.int .i64 4)), (.k (.int .i64 1)), (.k (.int .i64 2)), (.k (.int .i64 1)), (.k (.int .i64 4)), (.k (.int .i64 1)), (.k (.int .i64 7)), (.k (.int .i64 2)), (.k (.int .i64 0)), (.k (.int .i64 0)), (.k (.int .i64 0)), (.k (.int .i64 1)), (.k (.int .i64 1)), (.k (.int .i64 2))])]) [(.sl 1 0 1 1)] .one 
(.df (.call 14 [(.own 14 [(.k (.int .i64 4)), (.k (.int .i64 1)), (.k (.int .i64 2)), (.k (.int .i64 1)), (.k (.int .i64 4)), (.k (.int .i64 1)), (.k (.int .i64 7)), (.k (.int .i64 2)), (.k (.int .i64 0)), (.k (.int .i64 0)), (.k (.int .i64 0)), (.k (.int .i64 1)), (.k (.int .i64 1)), (.k (.int .i64 2))])]) [(.sl 1 0 1 1)] .one 
(.df (.bin .neq 31) [(.x 27 []), (.k (.int .i64 0))] .one 
(.br 29 [] (.bad 70 []) 
(.df (.bin .neq 31) [(.x 28 []), (.k (.int .i64 0))] .one 
(.br 30 [] (.bad 70 []) 
(.df (.eqr true 2 [(.i .i64), (.i .i64)]) [(.k (.int .i64 0)), (.k (.int .i64 1)), (.k (.int .i64 0)), (.k (.int .i64 1))] .one 
(.br 31 [] (.bad 70 []) 
(.df (.eqr true 2 [(.i .i64), (.i .i64)]) [(.k (.int .i64 1)), (.k (.int .i64 2)), (.k (.int .i64 1)), (.k (.int .i64 2))] .one 
(.br 32 [] (.bad 70 []) 
(.df (.call 14 [(.own 14 [(.k (.int .i64 4)), (.k (.int .i64 1)), (.k (.int .i64 2)), (.k (.int .i64 1)), (.k (.int .i64 4)), (.k (.int .i64 1)), (.k (.int .i64 7)), (.k (.int .i64 2)), (.k (.int .i64 0)), (.k (.int .i64 0)), (.k (.int .i64 0)), (.k (.int .i64 1)), (.k (.int .i64 1)), (.k (.int .i64 2))])]) [(.sl 1 0 1 1)] .one 
(.df (.call 14 [(.own 14 [(.k (.int .i64 4)), (.k (.int .i64 1)), (.k (.int .i64 2)), (.k (.int .i64 1)), (.k (.int .i64 4)), (.k (.int .i64 1)), (.k (.int .i64 7)), (.k (.int .i64 2)), (.k (.int .i64 0)), (.k (.int .i64 0)), (.k (.int .i64 0)), (.k (.int .i64 1)), (.k (.int .i64 1)), (.k (.int .i64 2))])]) [(.sl 1 0 1 1)] .one 
(.df (.bin .neq 31) [(.x 33 []), (.k (.int .i64 0))] .one 
(.br 35 [] (.bad 70 []) 
(.df (.bin .neq 31) [(.x 34 []), (.k (.int .i64 0))] .one 
(.br 36 [] (.bad 70 []) 
(.df (.bin .neq 31) [(.x 0 [1]), (.k (.int .i64 0))] .one 
(.br 37 [] (.bad 70 []) 
(.df (.bin .neq 31) [(.x 1 [1]), (.k (.int .i64 0))] .one 
(.br 38 [] (.bad 70 []) 
(.df (.bin .neq 31) [(.x 2 [1]), (.k (.int .i64 0))] .one 
(.br 39 [] (.bad 70 []) 
(.df (.bin .neq 31) [(.x 3 [1]), (.k (.int .i64 360))] .one 
(.br 40 [] (.bad 70 []) 
(.df (.bin .neq 31) [(.x 4 [1]), (.k (.int .i64 360))] .one 
(.br 41 [] (.bad 70 []) 
(.df (.rlen 14) [(.cat [(.x 2 [0])])] .one 
(.df (.bin .neq 3) [(.x 42 []), (.k (.int .i64 0))] .one 
(.br 43 [] (.bad 70 []) 
(.df (.call 14 [(.own 14 [])]) [(.k (.slice none 0 0))] .one 
(.df (.bin .neq 31) [(.x 44 []), (.k (.int .i64 0))] .one 
(.br 45 [] (.bad 70 []) 
(.df (.call 14 [(.own 14 [(.k (.int .i64 4)), (.k (.int .i64 1)), (.k (.int .i64 2)), (.k (.int .i64 1)), (.k (.int .i64 4)), (.k (.int .i64 1)), (.k (.int .i64 7)), (.k (.int .i64 2)), (.k (.int .i64 0)), (.k (.int .i64 0)), (.k (.int .i64 0)), (.k (.int .i64 1)), (.k (.int .i64 1)), (.k (.int .i64 2)), (.k (.int .i64 4)), (.k (.int .i64 1)), (.k (.int .i64 2)), (.k (.int .i64 1)), (.k (.int .i64 4)), (.k (.int .i64 1)), (.k (.int .i64 7)), (.k (.int .i64 2)), (.k (.int .i64 0)), (.k (.int .i64 0)), (.k (.int .i64 0)), (.k (.int .i64 1)), (.k (.int .i64 1)), (.k (.int .i64 2))])]) [(.sl 48 0 2 2)] .one 
(.df (.bin .neq 31) [(.x 46 []), (.k (.int .i64 360))] .one 
(.br 47 [] (.bad 70 []) 
(.df (.mks (.agg #[(.int .i64 0), (.int .i64 0), (.int .i64 0), (.int .i64 0), (.int .i64 0), (.int .i64 0), (.int .i64 0), (.int .i64 0), (.int .i64 0), (.int .i64 0), (.int .i64 0), (.int .i64 0), (.int .i64 0), (.int .i64 0)]) 14 112) [(.k (.int .i64 4097)), (.k (.int .i64 4097))] .any 
(.df (.call 14 [(.row 14 [(.x 48 [])])]) [(.row 49)] .one 
(.df (.bin .neq 31) [(.x 49 []), (.k (.int .i64 2))] .one 
(.br 50 [] (.bad 70 []) 
(.df (.call 16 [(.row 14 [(.x 0 [0])]), (.own 14 [(.k (.int .i64 4)), (.k (.int .i64 1)), (.k (.int .i64 2)), (.k (.int .i64 1)), (.k (.int .i64 4)), (.k (.int .i64 2)), (.k (.int .i64 3)), (.k (.int .i64 2)), (.k (.int .i64 0)), (.k (.int .i64 0)), (.k (.int .i64 0)), (.k (.int .i64 1)), (.k (.int .i64 1)), (.k (.int .i64 2))])]) [(.row 5), (.sl 50 0 1 1)] .one 
(.br 51 [] 
(.df (.call 16 [(.row 14 [(.x 1 [0])]), (.own 14 [(.k (.int .i64 4)), (.k (.int .i64 1)), (.k (.int .i64 2)), (.k (.int .i64 1)), (.k (.int .i64 4)), (.k (.int .i64 1)), (.k (.int .i64 7)), (.k (.int .i64 2)), (.k (.int .i64 0)), (.k (.int .i64 0)), (.k (.int .i64 0)), (.k (.int .i64 1)), (.k (.int .i64 1)), (.k (.int .i64 4))])]) [(.row 6), (.sl 51 0 1 1)] .one 
(.br 52 [] 
(.df (.rlen 19) [(.cat [(.a [(.k (.int .i64 0)), (.k (.int .i64 1)), (.k (.int .i64 4)), (.k (.int .i64 6)), (.k (.int .i64 0)), (.k (.int .i64 0)), (.k (.int .i64 0)), (.k (.int .i64 0)), (.k (.int .i64 0)), (.k (.int .i64 0)), (.k (.int .i64 0)), (.k (.int .i64 3)), (.k (.int .i64 0)), (.k (.int .i64 0)), (.k (.int .i64 0)), (.k (.int .i64 0)), (.k (.int .i64 0)), (.k (.int .i64 0)), (.k (.slice none 0 0))])])] .one 
(.df (.bin .neq 3) [(.x 53 []), (.k (.int .i64 1))] .one 
(.br 54 [] (.bad 70 []) 
(.df (.rlen 19) [(.cat [(.a [(.k (.int .i64 0)), (.k (.int .i64 1)), (.k (.int .i64 4)), (.k (.int .i64 6)), (.k (.int .i64 0)), (.k (.int .i64 0)), (.k (.int .i64 0)), (.k (.int .i64 0)), (.k (.int .i64 0)), (.k (.int .i64 0)), (.k (.int .i64 0)), (.k (.int .i64 3)), (.k (.int .i64 0)), (.k (.int .i64 0)), (.k (.int .i64 0)), (.k (.int .i64 0)), (.k (.int .i64 0)), (.k (.int .i64 0)), (.k (.slice none 0 0))])])] .one 
(.df (.bin .lss 3) [(.k (.int .i64 0)), (.x 55 [])] .one 
(.br 56 [] 
(.df (.rbnd 19) [(.cat [(.a [(.k (.int .i64 0)), (.k (.int .i64 1)), (.k (.int .i64 4)), (.k (.int .i64 6)), (.k (.int .i64 0)), (.k (.int .i64 0)), (.k (.int .i64 0)), (.k (.int .i64 0)), (.k (.int .i64 0)), (.k (.int .i64 0)), (.k (.int .i64 0)), (.k (.int .i64 3)), (.k (.int .i64 0)), (.k (.int .i64 0)), (.k (.int .i64 0)), (.k (.int .i64 0)), (.k (.int .i64 0)), (.k (.int .i64 0)), (.k (.slice none 0 0))])]), (.k (.int .i64 0))] .one 
(.df (.eqr false 14 [(.i .i64), (.i .i64), (.i .i64), (.i .i64), (.i .i64), (.i .i64), (.i .i64), (.i .i64), (.i .i64), (.i .i64), (.i .i64), (.i .i64), (.i .i64), (.i .i64)]) [(.k (.int .i64 0)), (.k (.int .i64 0)), (.k (.int .i64 0)), (.k (.int .i64 0)), (.k (.int .i64 0)), (.k (.int .i64 0)), (.k (.int .i64 0)), (.k (.int .i64 3)), (.k (.int .i64 0)), (.k (.int .i64 0)), (.k (.int .i64 0)), (.k (.int .i64 0)), (.k (.int .i64 0)), (.k (.int .i64 0)), (.k (.int .i64 0)), (.k (.int .i64 0)), (.k (.int .i64 0)), (.k (.int .i64 0)), (.k (.int .i64 0)), (.k (.int .i64 0)), (.k (.int .i64 0)), (.k (.int .i64 3)), (.k (.int .i64 0)), (.k (.int .i64 0)), (.k (.int .i64 0)), (.k (.int .i64 0)), (.k (.int .i64 0)), (.k (.int .i64 0))] .one 
(.br 58 [] 
(.df (.rlen 1) [(.cat [(.a [(.k (.int .i64 2)), (.k (.int .i64 5))])])] .one 
(.df (.bin .neq 3) [(.x 59 []), (.k (.int .i64 2))] .one 
(.br 60 [] (.bad 70 []) 
(.df (.rlen 1) [(.cat [(.a [(.k (.int .i64 2)), (.k (.int .i64 5))])])] .one 
(.df (.bin .lss 3) [(.k (.int .i64 0)), (.x 61 [])] .one 
(.br 62 [] 
(.df (.rbnd 1) [(.cat [(.a [(.k (.int .i64 2)), (.k (.int .i64 5))])]), (.k (.int .i64 0))] .one 
(.df (.rlen 1) [(.cat [(.a [(.k (.int .i64 2)), (.k (.int .i64 5))])])] .one 
(.df (.bin .lss 3) [(.k (.int .i64 1)), (.x 64 [])] .one 
(.br 65 [] 
(.df (.rbnd 1) [(.cat [(.a [(.k (.int .i64 2)), (.k (.int .i64 5))])]), (.k (.int .i64 1))] .one 
(.df (.rlen 1) [(.cat [(.a [(.k (.int .i64 2)), (.k (.int .i64 5))])])] .one 
(.df (.bin .lss 3) [(.k (.int .i64 2)), (.x 67 [])] .one 
(.br 68 [] (.bad 70 []) 
(.df (.rlen 19) [(.cat [(.a [(.k (.int .i64 0)), (.k (.int .i64 1)), (.k (.int .i64 4)), (.k (.int .i64 6)), (.k (.int .i64 0)), (.k (.int .i64 0)), (.k (.int .i64 0)), (.k (.int .i64 0)), (.k (.int .i64 0)), (.k (.int .i64 0)), (.k (.int .i64 0)), (.k (.int .i64 3)), (.k (.int .i64 0)), (.k (.int .i64 0)), (.k (.int .i64 0)), (.k (.int .i64 0)), (.k (.int .i64 0)), (.k (.int .i64 0)), (.k (.slice none 0 0))])])] .one 
(.df (.bin .lss 3) [(.k (.int .i64 1)), (.x 69 [])] .one 
(.br 70 [] (.bad 70 []) 
(.ret (.k (.bool true)) [] [])))))))) (.bad 70 []))))) (.bad 70 []))))))) (.bad 70 [])))) (.bad 70 []))))))) (.bad 70 []))) (.bad 70 []))))))))))))))))))))))))))))))))))))))))))))))))))) (.bad 70 []))))))))))))))))))))))))))))
set_option maxRecDepth 100000 in
theorem run_sane36 (K A : Value → Nat → List Value → Prop) : (SX.run (cxE5 K A) ⟨fun _ => true, [], 0, 100⟩ 100000 0 (SX.door 10 Try.f10 [] []) [.code (Try.f10.body.getD .skip), .top Try.f10]).strip = tree_sane36 := by kernel_rfl
set_option maxRecDepth 100000 in
set_option maxHeartbeats 4000000 in
theorem sane36_any (w : World) : Calls Try.prog 10 #[] w fun e w' => e = .returned (.bool true) ∧ Below w.heap.size w w' := by
  refine SX.calls_of_run (C := cxE5 (fun _ _ _ => False) (fun _ _ _ => False)) (G := ⟨fun _ => true, [], 0, 100⟩) (args := []) (sh := []) (ρ := []) 100000 tree_sane36 (okE5 _ _) Try.func10 rfl (run_sane36 _ _) (by kernel_rfl) (by kernel_rfl) (by kernel_rfl) (fun W _ => SX.Kf_none (fun _ _ _ h => h) W) ?_
  unfold tree_sane36
  refine SX.VC_df (.tuple #[.agg (sgsL ([⟨4, 1, 2, 1, 4, 2, 3, 2, 0, 0, 0, 1, 1, 2⟩] : List Sg)).toArray, .int .i64 0]) (fun α => ⟨[⟨(.slice (some ⟨(α 1).b, 0, none⟩) 1 1), 14, sgsL ([⟨4, 1, 2, 1, 4, 1, 7, 2, 0, 0, 0, 1, 1, 2⟩] : List Sg)⟩, ⟨valE (⟨1, 0, 0, 0, 9, 0, 0, 0, zeroSg⟩ : Ed), 0, []⟩], ⟨by kernel_rfl, by kernel_rfl, by kernel_rfl, trivial⟩, .inl ⟨rfl, _, ([⟨4, 1, 2, 1, 4, 1, 7, 2, 0, 0, 0, 1, 1, 2⟩] : List Sg), (⟨1, 0, 0, 0, 9, 0, 0, 0, zeroSg⟩ : Ed), rfl, by decide, by decide, by rw [sane_a1]⟩, SX.noAli rfl⟩) (sgs_fit _ _) ?_
  refine SX.VC_df (.tuple #[.agg (sgsL ([⟨4, 1, 2, 1, 4, 1, 7, 2, 0, 0, 0, 1, 1, 4⟩] : List Sg)).toArray, .int .i64 0]) (fun α => ⟨[⟨(.slice (some ⟨(α 1).b, 0, none⟩) 1 1), 14, sgsL ([⟨4, 1, 2, 1, 4, 1, 7, 2, 0, 0, 0, 1, 1, 2⟩] : List Sg)⟩, ⟨valE (⟨7, 2, 0, 0, 2, 0, 1, 2, zeroSg⟩ : Ed), 0, []⟩], ⟨by kernel_rfl, by kernel_rfl, by kernel_rfl, trivial⟩, .inl ⟨rfl, _, ([⟨4, 1, 2, 1, 4, 1, 7, 2, 0, 0, 0, 1, 1, 2⟩] : List Sg), (⟨7, 2, 0, 0, 2, 0, 1, 2, zeroSg⟩ : Ed), rfl, by decide, by decide, by rw [sane_a7]⟩, SX.noAli rfl⟩) (sgs_fit _ _) ?_
  refine SX.VC_df (.tuple #[.agg (sgsL ([] : List Sg)).toArray, .int .i64 0]) (fun α => ⟨[⟨(.slice (some ⟨(α 1).b, 0, none⟩) 1 1), 14, sgsL ([⟨4, 1, 2, 1, 4, 1, 7, 2, 0, 0, 0, 1, 1, 2⟩] : List Sg)⟩, ⟨valE (⟨3, 0, 0, 2, 3, 0, 0, 0, zeroSg⟩ : Ed), 0, []⟩], ⟨by kernel_rfl, by kernel_rfl, by kernel_rfl, trivial⟩, .inl ⟨rfl, _, ([⟨4, 1, 2, 1, 4, 1, 7, 2, 0, 0, 0, 1, 1, 2⟩] : List Sg), (⟨3, 0, 0, 2, 3, 0, 0, 0, zeroSg⟩ : Ed), rfl, by decide, by decide, by rw [sane_a3]⟩, SX.noAli rfl⟩) (sgs_fit _ _) ?_
  refine SX.VC_df (.tuple #[.agg (sgsL ([] : List Sg)).toArray, .int .i64 360]) (fun α => ⟨[⟨(.slice none 0 0), 14, sgsL ([] : List Sg)⟩, ⟨valE (⟨0, 0, 0, 0, 0, 0, 0, 0, zeroSg⟩ : Ed), 0, []⟩], ⟨by kernel_rfl, by kernel_rfl, by kernel_rfl, trivial⟩, .inl ⟨rfl, _, ([] : List Sg), (⟨0, 0, 0, 0, 0, 0, 0, 0, zeroSg⟩ : Ed), rfl, by decide, by decide, by rw [sane_a0]⟩, SX.noAli rfl⟩) (sgs_fit _ _) ?_
  refine SX.VC_df (.tuple #[.agg (sgsL ([] : List Sg)).toArray, .int .i64 360]) (fun α => ⟨[⟨(.slice none 0 0), 14, sgsL ([] : List Sg)⟩, ⟨valE (⟨2, 0, 0, 0, 0, 8, 0, 0, zeroSg⟩ : Ed), 0, []⟩], ⟨by kernel_rfl, by kernel_rfl, by kernel_rfl, trivial⟩, .inl ⟨rfl, _, ([] : List Sg), (⟨2, 0, 0, 0, 0, 8, 0, 0, zeroSg⟩ : Ed), rfl, by decide, by decide, by rw [sane_a2]⟩, SX.noAli rfl⟩) (sgs_fit _ _) ?_
  refine SX.VC_df (.int .i64 0) (fun α => ⟨[⟨(.slice (some ⟨(α 1).b, 0, none⟩) 1 1), 14, sgsL ([⟨4, 1, 2, 1, 4, 1, 7, 2, 0, 0, 0, 1, 1, 2⟩] : List Sg)⟩], ⟨by kernel_rfl, trivial⟩, .inr (.inl ⟨rfl, _, ([⟨4, 1, 2, 1, 4, 1, 7, 2, 0, 0, 0, 1, 1, 2⟩] : List Sg), rfl, by decide, by kernel_rfl⟩), SX.noAli rfl⟩) (by kernel_rfl) ?_
  refine SX.VC_df (.int .i64 0) (fun α => ⟨[⟨(.slice (some ⟨(α 10).b, 0, none⟩) 1 1), 14, sgsL ([⟨4, 1, 2, 1, 4, 1, 7, 3, 0, 0, 0, 1, 1, 2⟩] : List Sg)⟩], ⟨by kernel_rfl, trivial⟩, .inr (.inl ⟨rfl, _, ([⟨4, 1, 2, 1, 4, 1, 7, 3, 0, 0, 0, 1, 1, 2⟩] : List Sg), rfl, by decide, by kernel_rfl⟩), SX.noAli rfl⟩) (by kernel_rfl) ?_
  refine SX.VC_df (.bool false) (by intro α; show _ = _; kernel_rfl) (by kernel_rfl) ?_
  refine SX.VC_br false (by kernel_rfl) (fun h => Bool.noConfusion h) (fun _ => ?_)
  refine SX.VC_df (.bool false) (by intro α; show _ = _; kernel_rfl) (by kernel_rfl) ?_
  refine SX.VC_br false (by kernel_rfl) (fun h => Bool.noConfusion h) (fun _ => ?_)
  refine SX.VC_df (.agg ([.int .i64 0, .int .i64 1, .int .i64 4, .int .i64 6, .int .i64 0, .int .i64 0, .int .i64 0, .int .i64 0, .int .i64 0, .int .i64 0, .int .i64 0, .int .i64 3, .int .i64 0, .int .i64 0, .int .i64 0, .int .i64 0, .int .i64 0, .int .i64 0, .slice none 0 0] : List Value).toArray) (fun α => SX.app_k (cs := [.int .i64 0, .int .i64 1, .int .i64 4, .int .i64 6, .int .i64 0, .int .i64 0, .int .i64 0, .int .i64 0, .int .i64 0, .int .i64 0, .int .i64 0, .int .i64 3, .int .i64 0, .int .i64 0, .int .i64 0, .int .i64 0, .int .i64 0, .int .i64 0, .slice none 0 0]) (by kernel_rfl) (by kernel_rfl) (by decide) (by decide)) (by kernel_rfl) ?_
  refine SX.VC_df (.bool (true ^^ decide (([0, 1] : List Int) = [0, 1]))) (fun α => SX.eqr_rel (f := intI) intI_inj (y := [0, 1]) (z := [0, 1]) (by kernel_rfl) (by kernel_rfl) (by kernel_rfl)) (by kernel_rfl) ?_
  refine SX.VC_br false (by kernel_rfl) (fun h => Bool.noConfusion h) (fun _ => ?_)
  refine SX.VC_df (.bool (true ^^ decide (([1, 2] : List Int) = [1, 2]))) (fun α => SX.eqr_rel (f := intI) intI_inj (y := [1, 2]) (z := [1, 2]) (by kernel_rfl) (by kernel_rfl) (by kernel_rfl)) (by kernel_rfl) ?_
  refine SX.VC_br false (by kernel_rfl) (fun h => Bool.noConfusion h) (fun _ => ?_)
  refine SX.VC_df (.int .i64 1) (fun α => (by show _ = _; kernel_rfl)) (by kernel_rfl) ?_
  refine SX.VC_df (.bool false) (by intro α; show _ = _; kernel_rfl) (by kernel_rfl) ?_
  refine SX.VC_br false (by kernel_rfl) (fun h => Bool.noConfusion h) (fun _ => ?_)
  refine SX.VC_df (.int .i64 1) (fun α => (by show _ = _; kernel_rfl)) (by kernel_rfl) ?_
  refine SX.VC_df (.int .i64 8) (by intro α; show _ = _; kernel_rfl) (by kernel_rfl) ?_
  refine SX.VC_df (.int .i64 7) (by intro α; show _ = _; kernel_rfl) (by kernel_rfl) ?_
  refine SX.VC_df (.bool false) (by intro α; show _ = _; kernel_rfl) (by kernel_rfl) ?_
  refine SX.VC_br false (by kernel_rfl) (fun h => Bool.noConfusion h) (fun _ => ?_)
  refine SX.VC_df (.int .i64 1) (fun α => (by show _ = _; kernel_rfl)) (by kernel_rfl) ?_
  refine SX.VC_df (.bool true) (by intro α; show _ = _; kernel_rfl) (by kernel_rfl) ?_
  refine SX.VC_br true (by kernel_rfl) (fun _ => ?_) (fun h => Bool.noConfusion h)
  refine SX.VC_df (.bool false) (fun α => ⟨some ⟨(α 11).b, 0, none⟩, 2, 2, by kernel_rfl, rfl⟩) (by kernel_rfl) ?_
  refine SX.VC_br false (by kernel_rfl) (fun h => Bool.noConfusion h) (fun _ => ?_)
  refine SX.VC_df (.agg ([.int .i64 2, .int .i64 5] : List Value).toArray) (fun α => SX.app_k (cs := [.int .i64 2, .int .i64 5]) (by kernel_rfl) (by kernel_rfl) (by decide) (by decide)) (by kernel_rfl) ?_
  refine SX.VC_df (.bool true) (fun α => SX.rbnd_k (L := 19) (j := 0) (by kernel_rfl) (by kernel_rfl) (by decide)) (by kernel_rfl) ?_
  refine SX.VC_df (.bool true) (fun α => SX.rbnd_k (L := 19) (j := 0) (by kernel_rfl) (by kernel_rfl) (by decide)) (by kernel_rfl) ?_
  refine SX.VC_df (.bool true) (fun α => SX.rbnd_k (L := 19) (j := 0) (by kernel_rfl) (by kernel_rfl) (by decide)) (by kernel_rfl) ?_
  refine SX.VC_df (.bool true) (fun α => SX.rbnd_k (L := 19) (j := 0) (by kernel_rfl) (by kernel_rfl) (by decide)) (by kernel_rfl) ?_
  refine SX.VC_df (.bool false) (by intro α; show _ = _; kernel_rfl) (by kernel_rfl) ?_
  refine SX.VC_br false (by kernel_rfl) (fun h => Bool.noConfusion h) (fun _ => ?_)
  refine SX.VC_df (.int .i64 0) (fun α => ⟨[⟨(.slice (some ⟨(α 1).b, 0, none⟩) 1 1), 14, sgsL ([⟨4, 1, 2, 1, 4, 1, 7, 2, 0, 0, 0, 1, 1, 2⟩] : List Sg)⟩], ⟨by kernel_rfl, trivial⟩, .inr (.inl ⟨rfl, _, ([⟨4, 1, 2, 1, 4, 1, 7, 2, 0, 0, 0, 1, 1, 2⟩] : List Sg), rfl, by decide, by kernel_rfl⟩), SX.noAli rfl⟩) (by kernel_rfl) ?_
  refine SX.VC_df (.int .i64 0) (fun α => ⟨[⟨(.slice (some ⟨(α 1).b, 0, none⟩) 1 1), 14, sgsL ([⟨4, 1, 2, 1, 4, 1, 7, 2, 0, 0, 0, 1, 1, 2⟩] : List Sg)⟩], ⟨by kernel_rfl, trivial⟩, .inr (.inl ⟨rfl, _, ([⟨4, 1, 2, 1, 4, 1, 7, 2, 0, 0, 0, 1, 1, 2⟩] : List Sg), rfl, by decide, by kernel_rfl⟩), SX.noAli rfl⟩) (by kernel_rfl) ?_
  refine SX.VC_df (.bool false) (by intro α; show _ = _; kernel_rfl) (by kernel_rfl) ?_
  refine SX.VC_br false (by kernel_rfl) (fun h => Bool.noConfusion h) (fun _ => ?_)
  refine SX.VC_df (.bool false) (by intro α; show _ = _; kernel_rfl) (by kernel_rfl) ?_
  refine SX.VC_br false (by kernel_rfl) (fun h => Bool.noConfusion h) (fun _ => ?_)
  refine SX.VC_df (.bool (true ^^ decide (([0, 1] : List Int) = [0, 1]))) (fun α => SX.eqr_rel (f := intI) intI_inj (y := [0, 1]) (z := [0, 1]) (by kernel_rfl) (by kernel_rfl) (by kernel_rfl)) (by kernel_rfl) ?_
  refine SX.VC_br false (by kernel_rfl) (fun h => Bool.noConfusion h) (fun _ => ?_)
  refine SX.VC_df (.bool (true ^^ decide (([1, 2] : List Int) = [1, 2]))) (fun α => SX.eqr_rel (f := intI) intI_inj (y := [1, 2]) (z := [1, 2]) (by kernel_rfl) (by kernel_rfl) (by kernel_rfl)) (by kernel_rfl) ?_
  refine SX.VC_br false (by kernel_rfl) (fun h => Bool.noConfusion h) (fun _ => ?_)
  refine SX.VC_df (.int .i64 0) (fun α => ⟨[⟨(.slice (some ⟨(α 1).b, 0, none⟩) 1 1), 14, sgsL ([⟨4, 1, 2, 1, 4, 1, 7, 2, 0, 0, 0, 1, 1, 2⟩] : List Sg)⟩], ⟨by kernel_rfl, trivial⟩, .inr (.inl ⟨rfl, _, ([⟨4, 1, 2, 1, 4, 1, 7, 2, 0, 0, 0, 1, 1, 2⟩] : List Sg), rfl, by decide, by kernel_rfl⟩), SX.noAli rfl⟩) (by kernel_rfl) ?_
  refine SX.VC_df (.int .i64 0) (fun α => ⟨[⟨(.slice (some ⟨(α 1).b, 0, none⟩) 1 1), 14, sgsL ([⟨4, 1, 2, 1, 4, 1, 7, 2, 0, 0, 0, 1, 1, 2⟩] : List Sg)⟩], ⟨by kernel_rfl, trivial⟩, .inr (.inl ⟨rfl, _, ([⟨4, 1, 2, 1, 4, 1, 7, 2, 0, 0, 0, 1, 1, 2⟩] : List Sg), rfl, by decide, by kernel_rfl⟩), SX.noAli rfl⟩) (by kernel_rfl) ?_
  refine SX.VC_df (.bool false) (by intro α; show _ = _; kernel_rfl) (by kernel_rfl) ?_
  refine SX.VC_br false (by kernel_rfl) (fun h => Bool.noConfusion h) (fun _ => ?_)
  refine SX.VC_df (.bool false) (by intro α; show _ = _; kernel_rfl) (by kernel_rfl) ?_
  refine SX.VC_br false (by kernel_rfl) (fun h => Bool.noConfusion h) (fun _ => ?_)
  refine SX.VC_df (.bool false) (by intro α; show _ = _; kernel_rfl) (by kernel_rfl) ?_
  refine SX.VC_br false (by kernel_rfl) (fun h => Bool.noConfusion h) (fun _ => ?_)
  refine SX.VC_df (.bool false) (by intro α; show _ = _; kernel_rfl) (by kernel_rfl) ?_
  refine SX.VC_br false (by kernel_rfl) (fun h => Bool.noConfusion h) (fun _ => ?_)
  refine SX.VC_df (.bool false) (by intro α; show _ = _; kernel_rfl) (by kernel_rfl) ?_
  refine SX.VC_br false (by kernel_rfl) (fun h => Bool.noConfusion h) (fun _ => ?_)
  refine SX.VC_df (.bool false) (by intro α; show _ = _; kernel_rfl) (by kernel_rfl) ?_
  refine SX.VC_br false (by kernel_rfl) (fun h => Bool.noConfusion h) (fun _ => ?_)
  refine SX.VC_df (.bool false) (by intro α; show _ = _; kernel_rfl) (by kernel_rfl) ?_
  refine SX.VC_br false (by kernel_rfl) (fun h => Bool.noConfusion h) (fun _ => ?_)
  refine SX.VC_df (.int .i64 0) (fun α => (by show _ = _; kernel_rfl)) (by kernel_rfl) ?_
  refine SX.VC_df (.bool false) (by intro α; show _ = _; kernel_rfl) (by kernel_rfl) ?_
  refine SX.VC_br false (by kernel_rfl) (fun h => Bool.noConfusion h) (fun _ => ?_)
  refine SX.VC_df (.int .i64 0) (fun α => ⟨[⟨(.slice none 0 0), 14, sgsL ([] : List Sg)⟩], ⟨by kernel_rfl, trivial⟩, .inr (.inl ⟨rfl, _, ([] : List Sg), rfl, by decide, by kernel_rfl⟩), SX.noAli rfl⟩) (by kernel_rfl) ?_
  refine SX.VC_df (.bool false) (by intro α; show _ = _; kernel_rfl) (by kernel_rfl) ?_
  refine SX.VC_br false (by kernel_rfl) (fun h => Bool.noConfusion h) (fun _ => ?_)
  refine SX.VC_df (.int .i64 360) (fun α => ⟨[⟨(.slice (some ⟨(α 48).b, 0, none⟩) 2 2), 14, sgsL ([⟨4, 1, 2, 1, 4, 1, 7, 2, 0, 0, 0, 1, 1, 2⟩, ⟨4, 1, 2, 1, 4, 1, 7, 2, 0, 0, 0, 1, 1, 2⟩] : List Sg)⟩], ⟨by kernel_rfl, trivial⟩, .inr (.inl ⟨rfl, _, ([⟨4, 1, 2, 1, 4, 1, 7, 2, 0, 0, 0, 1, 1, 2⟩, ⟨4, 1, 2, 1, 4, 1, 7, 2, 0, 0, 0, 1, 1, 2⟩] : List Sg), rfl, by decide, by kernel_rfl⟩), SX.noAli rfl⟩) (by kernel_rfl) ?_
  refine SX.VC_df (.bool false) (by intro α; show _ = _; kernel_rfl) (by kernel_rfl) ?_
  refine SX.VC_br false (by kernel_rfl) (fun h => Bool.noConfusion h) (fun _ => ?_)
  refine SX.VC_df (.agg (sgsL (List.replicate 4097 zeroSg)).toArray) (fun α => ⟨.i64, .i64, 4097, 4097, by kernel_rfl, by kernel_rfl, by decide, by decide, by decide, by decide, mks_val.trans (by kernel_rfl)⟩) (by kernel_rfl) ?_
  refine SX.VC_df (.int .i64 2) (fun α => ⟨[⟨(α 49).h, 14, sgsL (List.replicate 4097 zeroSg)⟩], ⟨Eq.trans (b := ⟨(α 49).h, 14, [Value.agg (sgsL (List.replicate 4097 zeroSg)).toArray].flatMap SX.cellsV⟩) (by simp [SX.cellsV]) (by kernel_rfl), trivial⟩, .inr (.inl ⟨rfl, _, List.replicate 4097 zeroSg, rfl, (by rw [List.length_replicate]; decide), by rw [sane_rep]⟩), SX.noAli rfl⟩) (by kernel_rfl) ?_
  refine SX.VC_df (.bool false) (by intro α; show _ = _; kernel_rfl) (by kernel_rfl) ?_
  refine SX.VC_br false (by kernel_rfl) (fun h => Bool.noConfusion h) (fun _ => ?_)
  refine SX.VC_df (.bool true) (fun α => ⟨[⟨(α 5).h, 14, sgsL ([⟨4, 1, 2, 1, 4, 2, 3, 2, 0, 0, 0, 1, 1, 2⟩] : List Sg)⟩, ⟨(.slice (some ⟨(α 50).b, 0, none⟩) 1 1), 14, sgsL ([⟨4, 1, 2, 1, 4, 2, 3, 2, 0, 0, 0, 1, 1, 2⟩] : List Sg)⟩], ⟨by kernel_rfl, by kernel_rfl, trivial⟩, .inr (.inr (⟨rfl, _, _, ([⟨4, 1, 2, 1, 4, 2, 3, 2, 0, 0, 0, 1, 1, 2⟩] : List Sg), ([⟨4, 1, 2, 1, 4, 2, 3, 2, 0, 0, 0, 1, 1, 2⟩] : List Sg), rfl, by decide, by decide, by kernel_rfl⟩)), SX.noAli rfl⟩) (by kernel_rfl) ?_
  refine SX.VC_br true (by kernel_rfl) (fun _ => ?_) (fun h => Bool.noConfusion h)
  refine SX.VC_df (.bool true) (fun α => ⟨[⟨(α 6).h, 14, sgsL ([⟨4, 1, 2, 1, 4, 1, 7, 2, 0, 0, 0, 1, 1, 4⟩] : List Sg)⟩, ⟨(.slice (some ⟨(α 51).b, 0, none⟩) 1 1), 14, sgsL ([⟨4, 1, 2, 1, 4, 1, 7, 2, 0, 0, 0, 1, 1, 4⟩] : List Sg)⟩], ⟨by kernel_rfl, by kernel_rfl, trivial⟩, .inr (.inr (⟨rfl, _, _, ([⟨4, 1, 2, 1, 4, 1, 7, 2, 0, 0, 0, 1, 1, 4⟩] : List Sg), ([⟨4, 1, 2, 1, 4, 1, 7, 2, 0, 0, 0, 1, 1, 4⟩] : List Sg), rfl, by decide, by decide, by kernel_rfl⟩)), SX.noAli rfl⟩) (by kernel_rfl) ?_
  refine SX.VC_br true (by kernel_rfl) (fun _ => ?_) (fun h => Bool.noConfusion h)
  refine SX.VC_df (.int .i64 1) (fun α => (by show _ = _; kernel_rfl)) (by kernel_rfl) ?_
  refine SX.VC_df (.bool false) (by intro α; show _ = _; kernel_rfl) (by kernel_rfl) ?_
  refine SX.VC_br false (by kernel_rfl) (fun h => Bool.noConfusion h) (fun _ => ?_)
  refine SX.VC_df (.int .i64 1) (fun α => (by show _ = _; kernel_rfl)) (by kernel_rfl) ?_
  refine SX.VC_df (.bool true) (by intro α; show _ = _; kernel_rfl) (by kernel_rfl) ?_
  refine SX.VC_br true (by kernel_rfl) (fun _ => ?_) (fun h => Bool.noConfusion h)
  refine SX.VC_df (.bool true) (fun α => SX.rbnd_k (L := 19) (j := 0) (by kernel_rfl) (by kernel_rfl) (by decide)) (by kernel_rfl) ?_
  refine SX.VC_df (.bool (false ^^ decide (([0, 0, 0, 0, 0, 0, 0, 3, 0, 0, 0, 0, 0, 0] : List Int) = [0, 0, 0, 0, 0, 0, 0, 3, 0, 0, 0, 0, 0, 0]))) (fun α => SX.eqr_rel (f := intI) intI_inj (y := [0, 0, 0, 0, 0, 0, 0, 3, 0, 0, 0, 0, 0, 0]) (z := [0, 0, 0, 0, 0, 0, 0, 3, 0, 0, 0, 0, 0, 0]) (by kernel_rfl) (by kernel_rfl) (by kernel_rfl)) (by kernel_rfl) ?_
  refine SX.VC_br true (by kernel_rfl) (fun _ => ?_) (fun h => Bool.noConfusion h)
  refine SX.VC_df (.int .i64 2) (fun α => (by show _ = _; kernel_rfl)) (by kernel_rfl) ?_
  refine SX.VC_df (.bool false) (by intro α; show _ = _; kernel_rfl) (by kernel_rfl) ?_
  refine SX.VC_br false (by kernel_rfl) (fun h => Bool.noConfusion h) (fun _ => ?_)
  refine SX.VC_df (.int .i64 2) (fun α => (by show _ = _; kernel_rfl)) (by kernel_rfl) ?_
  refine SX.VC_df (.bool true) (by intro α; show _ = _; kernel_rfl) (by kernel_rfl) ?_
  refine SX.VC_br true (by kernel_rfl) (fun _ => ?_) (fun h => Bool.noConfusion h)
  refine SX.VC_df (.bool true) (fun α => SX.rbnd_k (L := 2) (j := 0) (by kernel_rfl) (by kernel_rfl) (by decide)) (by kernel_rfl) ?_
  refine SX.VC_df (.int .i64 2) (fun α => (by show _ = _; kernel_rfl)) (by kernel_rfl) ?_
  refine SX.VC_df (.bool true) (by intro α; show _ = _; kernel_rfl) (by kernel_rfl) ?_
  refine SX.VC_br true (by kernel_rfl) (fun _ => ?_) (fun h => Bool.noConfusion h)
  refine SX.VC_df (.bool true) (fun α => SX.rbnd_k (L := 2) (j := 1) (by kernel_rfl) (by kernel_rfl) (by decide)) (by kernel_rfl) ?_
  refine SX.VC_df (.int .i64 2) (fun α => (by show _ = _; kernel_rfl)) (by kernel_rfl) ?_
  refine SX.VC_df (.bool false) (by intro α; show _ = _; kernel_rfl) (by kernel_rfl) ?_
  refine SX.VC_br false (by kernel_rfl) (fun h => Bool.noConfusion h) (fun _ => ?_)
  refine SX.VC_df (.int .i64 1) (fun α => (by show _ = _; kernel_rfl)) (by kernel_rfl) ?_
  refine SX.VC_df (.bool false) (by intro α; show _ = _; kernel_rfl) (by kernel_rfl) ?_
  refine SX.VC_br false (by kernel_rfl) (fun h => Bool.noConfusion h) (fun _ => ?_)
  exact SX.VC_ret fun α W _ _ hS => SX.ret_of hS (x := .bool true) (by kernel_rfl) rfl
end Go.Proofs.Ytnaooclbphaelaa
