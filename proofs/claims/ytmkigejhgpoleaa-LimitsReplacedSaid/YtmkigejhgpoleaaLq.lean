/-
  What becomes known later, and limits of other people: the walk.
-/
import Derived.Test.YtmkigejhgpoleaaLo
namespace Go.Proofs.Ytmkigejhgpoleaa
set_option linter.unusedSimpArgs false
set_option linter.unusedVariables false
open Go Go.RowKit
/-- what is known for the laws -/
def RLT (f : FuncId) (xs : List SX.Arg) (v : Value) : Prop :=
  (f = 14 ∧ ∃ (u : Value) (ls : List Lim), xs = [⟨u, 9, lmL ls⟩] ∧ ls.length ≤ 9223372036854775807 ∧ fitLm ls ∧ v = .int .i64 (chkL ls)) ∨
  (f = 16 ∧ ∃ (u u2 : Value) (ls ms : List Lim), xs = [⟨u, 9, lmL ls⟩, ⟨u2, 9, lmL ms⟩] ∧ ls.length ≤ 9223372036854775807 ∧ ms.length ≤ 9223372036854775807 ∧ v = .bool (decide (ls = ms))) ∨
  (f = 12 ∧ ∃ (u : Value) (ls : List Lim) (x : Lim), xs = [⟨u, 9, lmL ls⟩, ⟨valLm x, 0, []⟩] ∧ ls.length ≤ 9223372036854775807 ∧ fitLm ls ∧ fitI x.of_ ∧ v = .tuple #[.agg (lmL (addR ls x).1).toArray, .int .i64 (addR ls x).2]) ∨
  (f = 17 ∧ ∃ (u : Value) (ls : List Lim) (p d t : Int), xs = [⟨u, 9, lmL ls⟩, ⟨.int .i64 p, 0, []⟩, ⟨.int .i64 d, 0, []⟩, ⟨.int .i64 t, 0, []⟩] ∧ ls.length ≤ 9223372036854775807 ∧ fitLm ls ∧ v = .tuple #[.agg (lmL (standR ls p d t).1).toArray, .int .i64 (standR ls p d t).2]) ∨
  (f = 19 ∧ ∃ (b : Bod.Bd) (u : Value) (ls : List Lim) (p d t : Int), xs = [⟨valBd b, 0, []⟩, ⟨u, 9, lmL ls⟩, ⟨.int .i64 p, 0, []⟩, ⟨.int .i64 d, 0, []⟩, ⟨.int .i64 t, 0, []⟩] ∧ b.name.size ≤ maxLen ∧ ls.length ≤ 9223372036854775807 ∧ fitLm ls ∧ v = .tuple #[valBd (inForceR b ls p d t).1, .int .i64 (inForceR b ls p d t).2]) ∨
  (f = 10 ∧ xs = [] ∧ v = .bool true)
def shpLT : FuncId → Option SX.Sh := fun f => if f = 14 then some .one else if f = 16 then some .one else if f = 12 then some (.tp [.sl 9, .one]) else if f = 17 then some (.tp [.sl 9, .one]) else if f = 19 then some (.tp [.ag 17, .one]) else if f = 10 then some .one else none
noncomputable def cxLT (K A : Value → Nat → List Value → Prop) : SX.Cx := { P := Try.prog, R := fun _ => RLT, shp := shpLT, K := K, A := A, trm := true }
theorem okLT (K A : Value → Nat → List Value → Prop) : (cxLT K A).Ok := by
  refine SX.Cx.ok_of (fun _ => rfl) ?_
  intro K f xs v W hR hrd hKf
  rcases hR with ⟨rfl, u, ls, rfl, hl, hf, rfl⟩ | ⟨rfl, u, u2, ls, ms, rfl, hl, hl2, rfl⟩ | ⟨rfl, u, ls, x, rfl, hl, hf, hx, rfl⟩ | ⟨rfl, u, ls, p, d, t, rfl, hl, hf, rfl⟩ | ⟨rfl, b, u, ls, p, d, t, rfl, hs, hl, hf, rfl⟩ | ⟨rfl, rfl, rfl⟩
  · obtain ⟨A, n, c, rfl, h2, h3, h4⟩ := lms_arg (hrd ⟨u, 9, lmL ls⟩ (by simp))
    exact (lCheck_any ls A n c W h2 (by omega) h3 hf).mono fun e w' h => SX.plainOk rfl h
  · obtain ⟨A, n, c, rfl, h2, h3, h4⟩ := lms_arg (hrd ⟨u, 9, lmL ls⟩ (by simp))
    obtain ⟨A', n', c', rfl, h2', h3', h4'⟩ := lms_arg (hrd ⟨u2, 9, lmL ms⟩ (by simp))
    exact (same_any ls ms A A' n c n' c' W h2 (by omega) h3 h2' (by omega) h3').mono fun e w' h => SX.plainOk rfl h
  · refine Calls.mono ?_ fun e w' h => SX.SlRet.ok0 rfl h
    obtain ⟨A, n, c, rfl, h2, h3, h4⟩ := lms_arg (hrd ⟨u, 9, lmL ls⟩ (by simp))
    exact lAdd_any ls A n c x W h2 (by omega) h3 hf hx
  · refine Calls.mono ?_ fun e w' h => SX.SlRet.ok0 rfl h
    obtain ⟨A, n, c, rfl, h2, h3, h4⟩ := lms_arg (hrd ⟨u, 9, lmL ls⟩ (by simp))
    exact lStand_any ls A n c p d t W h2 (by omega) h3 hf
  · obtain ⟨A, n, c, rfl, h2, h3, h4⟩ := lms_arg (hrd ⟨u, 9, lmL ls⟩ (by simp))
    exact (inForce_any b ls A n c p d t W hs h2 (by omega) h3 hf).mono fun e w' h => SX.plainOk rfl h
  · exact (lSane_any W).mono fun e w' h => SX.plainOk rfl h
theorem ownL_yes {ls : List Lim} {p t : Int} {i : Nat} {z : Lim} (hz : ls[i]? = some z) (h : z.person = p ∧ z.known ≤ t) : ownL (ls.take (i + 1)) p t = ownL (ls.take i) p t ++ [z] := by
  unfold ownL
  rw [List.take_add_one, hz, List.filter_append]
  simp [ownB_iff, h]
theorem ownL_no {ls : List Lim} {p t : Int} {i : Nat} {z : Lim} (hz : ls[i]? = some z) (h : ¬ (z.person = p ∧ z.known ≤ t)) : ownL (ls.take (i + 1)) p t = ownL (ls.take i) p t := by
  unfold ownL
  rw [List.take_add_one, hz, List.filter_append]
  have : ownT p t z = false := by rw [Bool.eq_false_iff]; exact fun hk => h (ownB_iff.1 hk)
  simp [this]
def tree_known : SX.Tree :=
(.df (.call 10 []) [] .one 
(.df .not [(.x 4 [])] .one 
(.br 5 [] 
(.ret (.k (.bool false)) [] []) 
(.df (.len false) [(.x 0 [])] .one 
(.df (.bin .gtr 3) [(.x 6 []), (.k (.int .i64 120))] .one 
(.br 7 [] 
(.ret (.k (.bool true)) [] []) 
(.df (.call 14 [(.ext 9)]) [(.x 0 [])] .one 
(.df (.bin .neq 29) [(.x 8 []), (.k (.int .i64 0))] .one 
(.br 9 [] 
(.ret (.k (.bool true)) [] []) 
(.df (.len false) [(.x 0 [])] .one 
(.loop [(.k (.int .i64 0)), (.cat [])] [.one, .any] 
(.df (.bin .lss 3) [(.x 11 []), (.x 10 [])] .one 
(.br 13 [] 
(.df .bnd [(.x 0 []), (.x 11 [])] .one 
(.df (.elems 9 0 9) [(.x 0 []), (.x 11 [])] (.ag 9) 
(.df (.bin .eql 3) [(.x 15 [1]), (.x 1 [])] .one 
(.br 16 [] 
(.df (.bin .leq 3) [(.x 15 [5]), (.x 3 [])] .one 
(.br 17 [] 
(.df (.app 9 72 (.own 9 [(.x 15 [0]), (.x 15 [1]), (.x 15 [2]), (.x 15 [3]), (.x 15 [4]), (.x 15 [5]), (.x 15 [6]), (.x 15 [7]), (.x 15 [8])])) [(.cat [(.x 12 [])]), (.sl 4 0 1 1)] .any 
(.df (.bin .add 3) [(.x 11 []), (.k (.int .i64 1))] .one 
(.again 0 [(.x 19 []), (.cat [(.x 12 []), (.x 18 [])])]))) 
(.df (.bin .add 3) [(.x 11 []), (.k (.int .i64 1))] .one 
(.again 0 [(.x 18 []), (.cat [(.x 12 [])])])))) 
(.df (.bin .add 3) [(.x 11 []), (.k (.int .i64 1))] .one 
(.again 0 [(.x 17 []), (.cat [(.x 12 [])])])))))) 
(.df (.call 17 [(.ext 9), .no, .no, .no]) [(.x 0 []), (.x 1 []), (.x 2 []), (.x 3 [])] (.tp [(.sl 9), .one]) 
(.df (.call 17 [(.row 9 [(.x 12 [])]), .no, .no, .no]) [(.row 2), (.x 1 []), (.x 2 []), (.x 3 [])] (.tp [(.sl 9), .one]) 
(.df (.bin .eql 29) [(.x 14 [1]), (.x 15 [1])] .one 
(.br 16 [] 
(.df (.call 16 [(.row 9 [(.x 14 [0])]), (.row 9 [(.x 15 [0])])]) [(.row 3), (.row 4)] .one 
(.ret (.x 17 []) [] [])) 
(.ret (.k (.bool false)) [] []))))))))))))))))))
def args_known : List SX.V := [.x 0 [], .x 1 [], .x 2 [], .x 3 []]
set_option maxRecDepth 100000 in
theorem run_known (K A : Value → Nat → List Value → Prop) : (SX.run (cxLT K A) ⟨fun f => true, [⟨5, 7, [(.s 28, .one), (.s 9, .row 9 26)]⟩], 0, 100⟩ 100000 0 (SX.door 5 Try.f5 args_known (List.replicate 4 .one)) [.code (Try.f5.body.getD .skip), .top Try.f5]).strip = tree_known := by kernel_rfl
set_option maxRecDepth 100000 in
set_option maxHeartbeats 4000000 in
theorem known_any (ls : List Lim) (A : Option Addr) (n c : Nat) (p d t : Int) (w : World) (hr : Rd w 9 A n (lmL ls)) (hn : n ≤ 9223372036854775807) (hc : n ≤ c) (hfit : fitLm ls) : Calls Try.prog 5 #[.slice A n c, .int .i64 p, .int .i64 d, .int .i64 t] w fun e w' => e = .returned (.bool true) ∧ Below w.heap.size w w' := by
  refine SX.calls_of_run (C := cxLT (fun s sz cells => s = .slice A n c ∧ sz = 9 ∧ cells = lmL ls) (fun _ _ _ => False)) (G := ⟨fun f => true, [⟨5, 7, [(.s 28, .one), (.s 9, .row 9 26)]⟩], 0, 100⟩) (args := args_known) (sh := (List.replicate 4 .one)) (ρ := [.slice A n c, .int .i64 p, .int .i64 d, .int .i64 t]) 100000 tree_known (okLT _ _) Try.func5 rfl (run_known _ _) (by kernel_rfl) (by kernel_rfl) (by kernel_rfl) ?_ ?_
  · rintro W hW s sz cells ⟨rfl, rfl, rfl⟩; exact ⟨hr.same0 hW, hc⟩
  have hA := SX.rd_some hr
  have hln : ls.length = n := by have := hr.1; rw [lmL_len] at this; omega
  unfold tree_known
  refine SX.VC_df (.bool true) (fun α => ⟨[], trivial, .inr (.inr (.inr (.inr (.inr (⟨rfl, rfl, rfl⟩))))), SX.noAli rfl⟩) (by kernel_rfl) ?_
  refine SX.VC_df (.bool (!(true))) (by intro α; show _ = _; kernel_rfl) (by kernel_rfl) ?_
  refine SX.VC_br (!(true)) (by kernel_rfl) (fun h5 => absurd h5 (by simp)) (fun h5 => ?_)
  try simp only [NRM] at h5
  refine SX.VC_df (.int .i64 (((n : Nat) : Int))) (by intro α; show _ = _; kernel_rfl) (by kernel_rfl) ?_
  refine SX.VC_df (.bool (decide (((n : Nat) : Int) > 120))) (by intro α; show _ = _; kernel_rfl) (by kernel_rfl) ?_
  refine SX.VC_br (decide (((n : Nat) : Int) > 120)) (by kernel_rfl) (fun h7 => ?_) (fun h7 => ?_)
  · try simp only [NRM] at h7
    exact SX.VC_ret fun α W _ _ hS => SX.ret_of hS (x := .bool true) (by kernel_rfl) (by simp)
  · try simp only [NRM] at h7
    refine SX.VC_df (.int .i64 ((chkL ls))) (fun α => ⟨[⟨.slice A n c, 9, lmL ls⟩], ⟨by kernel_rfl, rfl, ⟨by kernel_rfl, rfl, rfl⟩, trivial⟩, .inl ⟨rfl, _, ls, rfl, by omega, hfit, rfl⟩, SX.noAli rfl⟩) (by kernel_rfl) ?_
    refine SX.VC_df (.bool (((chkL ls) : Int) != 0)) (by intro α; show _ = _; kernel_rfl) (by kernel_rfl) ?_
    refine SX.VC_br (((chkL ls) : Int) != 0) (by kernel_rfl) (fun h9 => ?_) (fun h9 => ?_)
    · try simp only [NRM] at h9
      exact SX.VC_ret fun α W _ _ hS => SX.ret_of hS (x := .bool true) (by kernel_rfl) (by simp)
    · try simp only [NRM] at h9
      refine SX.VC_df (.int .i64 (((n : Nat) : Int))) (by intro α; show _ = _; kernel_rfl) (by kernel_rfl) ?_
      have hk0 : chkL ls = 0 := by simpa using h9
      refine SX.VC_loop (fun xs => ∃ (i : Nat), xs = [.int .i64 (i : Int), .agg (lmL (ownL (ls.take i) p t)).toArray] ∧ i ≤ n) (fun xs => match xs with | (.int _ i) :: _ => n - i.toNat | _ => 0) (fun α => ⟨0, Eq.trans (b := [.int .i64 0, .agg #[]]) (by kernel_rfl) (by simp [ownL, lmL]), by omega⟩) ?_
      rintro xs - ⟨i, rfl, hin⟩
      have hol : (ownL (ls.take i) p t).length ≤ i := Nat.le_trans (ownL_le _ _ _) (by rw [List.length_take]; omega)
      refine SX.VC_df (.bool (decide (((i : Nat) : Int) < ((n : Nat) : Int)))) (by intro α; show _ = _; kernel_rfl) (by kernel_rfl) ?_
      refine SX.VC_br (decide (((i : Nat) : Int) < ((n : Nat) : Int))) (by kernel_rfl) (fun h13 => ?_) (fun h13 => ?_)
      · try simp only [NRM] at h13
        obtain ⟨z, hz⟩ : ∃ z, ls[i]? = some z := ⟨_, List.getElem?_eq_getElem (by omega)⟩
        refine SX.VC_df (.bool true) (fun α => SX.extBnd (A := A) (n := n) (c := c) (j := i) hA (by kernel_rfl) (by kernel_rfl) (by omega)) (by kernel_rfl) ?_
        refine SX.VC_df (.agg (cellsLm z).toArray) (fun α => SX.extElems (f := cellsLm) (l := ls) (A := A) (n := n) (c := c) (j := i) (z := z) (fun _ => rfl) hA (by kernel_rfl) (by kernel_rfl) (by omega) ⟨rfl, rfl, rfl⟩ hz) (by kernel_rfl) ?_
        refine SX.VC_df (.bool ((z.person : Int) == p)) (by intro α; show _ = _; kernel_rfl) (by kernel_rfl) ?_
        refine SX.VC_br ((z.person : Int) == p) (by kernel_rfl) (fun h16 => ?_) (fun h16 => ?_)
        · try simp only [NRM] at h16
          refine SX.VC_df (.bool (decide (z.known ≤ t))) (by intro α; show _ = _; kernel_rfl) (by kernel_rfl) ?_
          refine SX.VC_br (decide (z.known ≤ t)) (by kernel_rfl) (fun h17 => ?_) (fun h17 => ?_)
          · try simp only [NRM] at h17
            refine SX.VC_df (Value.agg (([z]).flatMap cellsLm).toArray) (fun α => SX.app_rel (f := cellsLm) (l1 := ownL (ls.take i) p t) (l2 := [z]) (fun _ => rfl) cellsLm_one (by decide) (SX.cat1 (by kernel_rfl)) (SX.src_own (by kernel_rfl)) (by simp only [List.length_cons, List.length_nil]; omega) (by simp only [List.length_cons, List.length_nil]; omega)) (by kernel_rfl) ?_
            refine SX.VC_df (.int .i64 (((i + 1 : Nat) : Int))) (fun α => Eq.trans (b := some (.int .i64 (IntKind.i64.wrap ((i : Int) + 1)))) (by kernel_rfl) (by rw [show ((i + 1 : Nat) : Int) = (i : Int) + 1 by omega, wrap_i64 (by omega) (by omega)])) (by kernel_rfl) ?_
            exact SX.VC_again fun α => ⟨⟨i + 1, Eq.trans (b := [.int .i64 ((i + 1 : Nat) : Int), .agg ([Value.agg (lmL (ownL (ls.take i) p t)).toArray, Value.agg (([z]).flatMap cellsLm).toArray].flatMap SX.cellsV).toArray]) (by kernel_rfl) (by rw [ownL_yes hz ⟨by simpa using h16, by omega⟩]; simp [SX.cellsV, lmL]), by omega⟩, cast (by kernel_rfl) (show n - ((i + 1 : Nat) : Int).toNat < n - (i : Int).toNat by omega)⟩
          · try simp only [NRM] at h17
            refine SX.VC_df (.int .i64 (((i + 1 : Nat) : Int))) (fun α => Eq.trans (b := some (.int .i64 (IntKind.i64.wrap ((i : Int) + 1)))) (by kernel_rfl) (by rw [show ((i + 1 : Nat) : Int) = (i : Int) + 1 by omega, wrap_i64 (by omega) (by omega)])) (by kernel_rfl) ?_
            exact SX.VC_again fun α => ⟨⟨i + 1, Eq.trans (b := [.int .i64 ((i + 1 : Nat) : Int), .agg ([Value.agg (lmL (ownL (ls.take i) p t)).toArray].flatMap SX.cellsV).toArray]) (by kernel_rfl) (by rw [ownL_no hz (fun hk => by have := hk.2; omega)]; simp [SX.cellsV]), by omega⟩, cast (by kernel_rfl) (show n - ((i + 1 : Nat) : Int).toNat < n - (i : Int).toNat by omega)⟩
        · try simp only [NRM] at h16
          refine SX.VC_df (.int .i64 (((i + 1 : Nat) : Int))) (fun α => Eq.trans (b := some (.int .i64 (IntKind.i64.wrap ((i : Int) + 1)))) (by kernel_rfl) (by rw [show ((i + 1 : Nat) : Int) = (i : Int) + 1 by omega, wrap_i64 (by omega) (by omega)])) (by kernel_rfl) ?_
          exact SX.VC_again fun α => ⟨⟨i + 1, Eq.trans (b := [.int .i64 ((i + 1 : Nat) : Int), .agg ([Value.agg (lmL (ownL (ls.take i) p t)).toArray].flatMap SX.cellsV).toArray]) (by kernel_rfl) (by rw [ownL_no hz (fun hk => absurd hk.1 (by simpa using h16))]; simp [SX.cellsV]), by omega⟩, cast (by kernel_rfl) (show n - ((i + 1 : Nat) : Int).toNat < n - (i : Int).toNat by omega)⟩
      · try simp only [NRM] at h13
        have hat : ownL (ls.take i) p t = ownL ls p t := by rw [List.take_of_length_le (by omega)]
        have hon := ownL_le ls p t
        refine SX.VC_df (.tuple #[Value.agg (lmL (standR ls p d t).1).toArray, .int .i64 ((standR ls p d t).2)]) (fun α => ⟨[⟨.slice A n c, 9, lmL ls⟩, ⟨.int .i64 p, 0, []⟩, ⟨.int .i64 d, 0, []⟩, ⟨.int .i64 t, 0, []⟩], ⟨by kernel_rfl, rfl, ⟨by kernel_rfl, rfl, rfl⟩, by kernel_rfl, by kernel_rfl, by kernel_rfl, by kernel_rfl, by kernel_rfl, by kernel_rfl, trivial⟩, .inr (.inr (.inr (.inl ⟨rfl, _, ls, p, d, t, rfl, by omega, hfit, rfl⟩))), SX.noAli rfl⟩) (lms_fit _ _) ?_
        refine SX.VC_df (.tuple #[Value.agg (lmL (standR (ownL ls p t) p d t).1).toArray, .int .i64 ((standR (ownL ls p t) p d t).2)]) (fun α => ⟨[⟨(α 2).h, 9, lmL (ownL ls p t)⟩, ⟨.int .i64 p, 0, []⟩, ⟨.int .i64 d, 0, []⟩, ⟨.int .i64 t, 0, []⟩], ⟨Eq.trans (b := (⟨(α 2).h, 9, [Value.agg (lmL (ownL (ls.take i) p t)).toArray].flatMap SX.cellsV⟩ : SX.Arg)) (by rw [hat]; simp [SX.cellsV]) (by kernel_rfl), by kernel_rfl, by kernel_rfl, by kernel_rfl, by kernel_rfl, by kernel_rfl, by kernel_rfl, trivial⟩, .inr (.inr (.inr (.inl ⟨rfl, _, ownL ls p t, p, d, t, rfl, by omega, fitLm_own hfit p t, rfl⟩))), SX.noAli rfl⟩) (lms_fit _ _) ?_
        refine SX.VC_df (.bool (((standR ls p d t).2 : Int) == (standR (ownL ls p t) p d t).2)) (by intro α; show _ = _; kernel_rfl) (by kernel_rfl) ?_
        refine SX.VC_br (((standR ls p d t).2 : Int) == (standR (ownL ls p t) p d t).2) (by kernel_rfl) (fun h16 => ?_) (fun h16 => absurd h16 (by rw [standR_own hk0]; simp))
        try simp only [NRM] at h16
        refine SX.VC_df (.bool true) (fun α => ⟨[⟨(α 3).h, 9, lmL ((standR ls p d t).1)⟩, ⟨(α 4).h, 9, lmL ((standR (ownL ls p t) p d t).1)⟩], ⟨Eq.trans (b := (⟨(α 3).h, 9, [Value.agg (lmL ((standR ls p d t).1)).toArray].flatMap SX.cellsV⟩ : SX.Arg)) (by simp [SX.cellsV]) (by kernel_rfl), Eq.trans (b := (⟨(α 4).h, 9, [Value.agg (lmL ((standR (ownL ls p t) p d t).1)).toArray].flatMap SX.cellsV⟩ : SX.Arg)) (by simp [SX.cellsV]) (by kernel_rfl), trivial⟩, .inr (.inl ⟨rfl, _, _, _, _, rfl, Nat.le_trans (standR_le _ _ _ _) (by omega), Nat.le_trans (standR_le _ _ _ _) (by omega), by rw [standR_own hk0]; simp⟩), SX.noAli rfl⟩) (by kernel_rfl) ?_
        exact SX.VC_ret fun α W _ _ hS => SX.ret_of hS (x := .bool true) (by kernel_rfl) (by simp)
end Go.Proofs.Ytmkigejhgpoleaa
