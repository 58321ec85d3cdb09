/-
  limits.InForce: the walk.
-/
import Derived.Test.YtmkigejhgpoleaaLh
namespace Go.Proofs.Ytmkigejhgpoleaa
set_option linter.unusedSimpArgs false
set_option linter.unusedVariables false
open Go Go.RowKit
theorem lms_fit (l : List Lim) (k : Int) : SX.Sh.fit (.tp [.sl 9, .one]) (.tuple #[.agg (lmL l).toArray, .int .i64 k]) = true := by
  have h1 : (lmL l).length % 9 = 0 := by rw [lmL_len]; omega
  have h2 : (lmL l).all (·.oneCell') = true := by
    rw [List.all_eq_true]
    intro u hu
    obtain ⟨a, _, h⟩ := List.mem_flatMap.1 hu
    exact cellsLm_one a u h
  simp only [SX.Sh.fit, SX.Sh.fitL, h1, h2]
  rfl
def tree_inForce : SX.Tree :=
(.df (.call 21 [.no]) [(.a [(.x 0 []), (.x 1 []), (.x 2 []), (.x 3 []), (.x 4 []), (.x 5 []), (.x 6 []), (.x 7 []), (.x 8 []), (.x 9 []), (.x 10 []), (.x 11 []), (.x 12 []), (.x 13 []), (.x 14 []), (.x 15 []), (.x 16 [])])] .one 
(.df (.bin .neq 29) [(.x 21 []), (.k (.int .i64 0))] .one 
(.br 22 [] 
(.ret (.t [(.a [(.k (.string ⟨#[]⟩)), (.k (.int .i64 0)), (.k (.int .i64 0)), (.k (.int .i64 0)), (.k (.int .i64 0)), (.k (.int .i64 0)), (.k (.int .i64 0)), (.k (.int .i64 0)), (.k (.int .i64 0)), (.k (.int .i64 0)), (.k (.int .i64 0)), (.k (.int .i64 0)), (.k (.int .i64 0)), (.k (.int .i64 0)), (.k (.int .i64 0)), (.k (.int .i64 0)), (.k (.int .i64 0))]), (.x 21 [])]) [] []) 
(.df (.call 17 [(.ext 9), .no, .no, .no]) [(.x 17 []), (.x 18 []), (.x 19 []), (.x 20 [])] (.tp [(.sl 9), .one]) 
(.df (.bin .neq 29) [(.x 23 [1]), (.k (.int .i64 0))] .one 
(.br 24 [] 
(.ret (.t [(.a [(.k (.string ⟨#[]⟩)), (.k (.int .i64 0)), (.k (.int .i64 0)), (.k (.int .i64 0)), (.k (.int .i64 0)), (.k (.int .i64 0)), (.k (.int .i64 0)), (.k (.int .i64 0)), (.k (.int .i64 0)), (.k (.int .i64 0)), (.k (.int .i64 0)), (.k (.int .i64 0)), (.k (.int .i64 0)), (.k (.int .i64 0)), (.k (.int .i64 0)), (.k (.int .i64 0)), (.k (.int .i64 0))]), (.x 23 [1])]) [] []) 
(.df (.rlen 9) [(.cat [(.x 23 [0])])] .one 
(.loop [(.k (.int .i64 0)), (.cat [])] [.one, .any] 
(.df (.bin .lss 3) [(.x 26 []), (.x 25 [])] .one 
(.br 28 [] 
(.df (.rbnd 9) [(.cat [(.x 23 [0])]), (.x 26 [])] .one 
(.df (.relems 9 0 9) [(.cat [(.x 23 [0])]), (.x 26 [])] (.ag 9) 
(.df (.app 3 24 (.own 3 [(.x 30 [6]), (.x 30 [7]), (.x 30 [8])])) [(.cat [(.x 27 [])]), (.sl 7 0 1 1)] .any 
(.df (.bin .add 3) [(.x 26 []), (.k (.int .i64 1))] .one 
(.again 0 [(.x 32 []), (.cat [(.x 27 []), (.x 31 [])])]))))) 
(.df (.call 41 [.no, (.row 3 [(.x 27 [])])]) [(.a [(.x 0 []), (.x 1 []), (.x 2 []), (.x 3 []), (.x 4 []), (.x 5 []), (.x 6 []), (.x 7 []), (.x 8 []), (.x 9 []), (.x 10 []), (.x 11 []), (.x 12 []), (.x 13 []), (.x 14 []), (.x 15 []), (.x 16 [])]), (.row 5)] (.tp [(.ag 17), .one]) 
(.ret (.t [(.a [(.x 29 [0, 0]), (.x 29 [0, 1]), (.x 29 [0, 2]), (.x 29 [0, 3]), (.x 29 [0, 4]), (.x 29 [0, 5]), (.x 29 [0, 6]), (.x 29 [0, 7]), (.x 29 [0, 8]), (.x 29 [0, 9]), (.x 29 [0, 10]), (.x 29 [0, 11]), (.x 29 [0, 12]), (.x 29 [0, 13]), (.x 29 [0, 14]), (.x 29 [0, 15]), (.x 29 [0, 16])]), (.x 29 [1])]) [] []))))))))))))
def args_inForce : List SX.V := [.a ((List.range 17).map fun j => .x j []), .x 17 [], .x 18 [], .x 19 [], .x 20 []]
set_option maxRecDepth 100000 in
theorem run_inForce (K A : Value → Nat → List Value → Prop) : (SX.run (cxH K A) ⟨fun f => true, [⟨19, 9, [(.s 36, .one), (.s 13, .row 3 24)]⟩], 0, 100⟩ 100000 0 (SX.door 19 Try.f19 args_inForce (List.replicate 21 .one)) [.code (Try.f19.body.getD .skip), .top Try.f19]).strip = tree_inForce := by kernel_rfl
set_option maxRecDepth 100000 in
set_option maxHeartbeats 4000000 in
theorem inForce_any (b : Bod.Bd) (ls : List Lim) (A : Option Addr) (n c : Nat) (p d t : Int) (w : World) (hs : b.name.size ≤ maxLen) (hr : Rd w 9 A n (lmL ls)) (hn : n ≤ 9223372036854775807) (hc : n ≤ c) (hfit : fitLm ls) : Calls Try.prog 19 #[valBd b, .slice A n c, .int .i64 p, .int .i64 d, .int .i64 t] w fun e w' => e = .returned (.tuple #[valBd (inForceR b ls p d t).1, .int .i64 (inForceR b ls p d t).2]) ∧ Below w.heap.size w w' := by
  refine SX.calls_of_run (C := cxH (fun s sz cells => s = .slice A n c ∧ sz = 9 ∧ cells = lmL ls) (fun _ _ _ => False)) (G := ⟨fun f => true, [⟨19, 9, [(.s 36, .one), (.s 13, .row 3 24)]⟩], 0, 100⟩) (args := args_inForce) (sh := (List.replicate 21 .one)) (ρ := (cellsBd b ++ [.slice A n c, .int .i64 p, .int .i64 d, .int .i64 t])) 100000 tree_inForce (okH _ _) Try.func19 rfl (run_inForce _ _) (by kernel_rfl) (by kernel_rfl) (by kernel_rfl) ?_ ?_
  · rintro W hW s sz cells ⟨rfl, rfl, rfl⟩; exact ⟨hr.same0 hW, hc⟩
  have hA := SX.rd_some hr
  have hln : ls.length = n := by have := hr.1; rw [lmL_len] at this; omega
  have hsl := standR_le ls p d t
  unfold tree_inForce
  refine SX.VC_df (.int .i64 b.chk) (fun α => ⟨[⟨valBd b, 0, []⟩], ⟨by kernel_rfl, by kernel_rfl, trivial⟩, .inl ⟨rfl, _, rfl, hs, rfl⟩, SX.noAli rfl⟩) (by kernel_rfl) ?_
  refine SX.VC_df (.bool ((b.chk : Int) != 0)) (by intro α; show _ = _; kernel_rfl) (by kernel_rfl) ?_
  refine SX.VC_br ((b.chk : Int) != 0) (by kernel_rfl) (fun h22 => ?_) (fun h22 => ?_)
  · try simp only [NRM] at h22
    have hE : inForceR b ls p d t = (Bod.Bd.zero, b.chk) := by rw [inForceR, if_pos (by simpa using h22)]
    exact SX.VC_ret fun α W _ _ hS => SX.ret_of hS (x := .tuple #[valBd Bod.Bd.zero, .int .i64 b.chk]) (by kernel_rfl) (by rw [hE])
  · try simp only [NRM] at h22
    refine SX.VC_df (.tuple #[Value.agg (lmL (standR ls p d t).1).toArray, .int .i64 ((standR ls p d t).2)]) (fun α => ⟨[⟨.slice A n c, 9, lmL ls⟩, ⟨.int .i64 p, 0, []⟩, ⟨.int .i64 d, 0, []⟩, ⟨.int .i64 t, 0, []⟩], ⟨by kernel_rfl, rfl, ⟨by kernel_rfl, rfl, rfl⟩, by kernel_rfl, by kernel_rfl, by kernel_rfl, by kernel_rfl, by kernel_rfl, by kernel_rfl, trivial⟩, .inr (.inr (⟨rfl, _, ls, p, d, t, rfl, by omega, hfit, rfl⟩)), SX.noAli rfl⟩) (lms_fit _ _) ?_
    refine SX.VC_df (.bool (((standR ls p d t).2 : Int) != 0)) (by intro α; show _ = _; kernel_rfl) (by kernel_rfl) ?_
    refine SX.VC_br (((standR ls p d t).2 : Int) != 0) (by kernel_rfl) (fun h24 => ?_) (fun h24 => ?_)
    · try simp only [NRM] at h24
      have hE : inForceR b ls p d t = (Bod.Bd.zero, (standR ls p d t).2) := by rw [inForceR, if_neg (by simpa using h22), if_pos (by simpa using h24)]
      exact SX.VC_ret fun α W _ _ hS => SX.ret_of hS (x := .tuple #[valBd Bod.Bd.zero, .int .i64 ((standR ls p d t).2)]) (by kernel_rfl) (by rw [hE])
    · try simp only [NRM] at h24
      refine SX.VC_df (.int .i64 ((((standR ls p d t).1.length : Nat) : Int))) (fun α => rlen_of (f := cellsLm) (l := (standR ls p d t).1) (fun _ => rfl) (by decide) (Eq.trans (b := [Value.agg (lmL (standR ls p d t).1).toArray].flatMap SX.cellsV) (by kernel_rfl) (by simp [SX.cellsV, lmL]))) (by kernel_rfl) ?_
      refine SX.VC_loop (fun xs => ∃ (i : Nat), xs = [.int .i64 (i : Int), .agg (cpL (((standR ls p d t).1.take i).map capOf)).toArray] ∧ i ≤ (standR ls p d t).1.length) (fun xs => match xs with | (.int _ i) :: _ => (standR ls p d t).1.length - i.toNat | _ => 0) (fun α => ⟨0, Eq.trans (b := [.int .i64 0, .agg #[]]) (by kernel_rfl) (by simp [cpL]), by omega⟩) ?_
      rintro xs - ⟨i, rfl, hin⟩
      refine SX.VC_df (.bool (decide (((i : Nat) : Int) < (((standR ls p d t).1.length : Nat) : Int)))) (by intro α; show _ = _; kernel_rfl) (by kernel_rfl) ?_
      refine SX.VC_br (decide (((i : Nat) : Int) < (((standR ls p d t).1.length : Nat) : Int))) (by kernel_rfl) (fun h28 => ?_) (fun h28 => ?_)
      · try simp only [NRM] at h28
        obtain ⟨z, hz⟩ : ∃ z, (standR ls p d t).1[i]? = some z := ⟨_, List.getElem?_eq_getElem (by omega)⟩
        refine SX.VC_df (.bool true) (fun α => SX.row_bnd (f := cellsLm) (l := (standR ls p d t).1) (k := i) (fun _ => rfl) (by decide) (Eq.trans (b := [Value.agg (lmL (standR ls p d t).1).toArray].flatMap SX.cellsV) (by kernel_rfl) (by simp [SX.cellsV, lmL])) (by kernel_rfl) (by omega)) (by kernel_rfl) ?_
        refine SX.VC_df (.agg (cellsLm z).toArray) (fun α => SX.row_elems (f := cellsLm) (l := (standR ls p d t).1) (k := i) (z := z) (fun _ => rfl) (by decide) (Eq.trans (b := [Value.agg (lmL (standR ls p d t).1).toArray].flatMap SX.cellsV) (by kernel_rfl) (by simp [SX.cellsV, lmL])) (by kernel_rfl) hz) (by kernel_rfl) ?_
        refine SX.VC_df (Value.agg (([capOf z]).flatMap cellsCp).toArray) (fun α => SX.app_rel (f := cellsCp) (l1 := ((standR ls p d t).1.take i).map capOf) (l2 := [capOf z]) (fun _ => rfl) cellsCp_one (by decide) (SX.cat1 (by kernel_rfl)) (SX.src_own (by kernel_rfl)) (by simp only [List.length_map, List.length_take, List.length_cons, List.length_nil]; omega) (by simp only [List.length_map, List.length_take, List.length_cons, List.length_nil]; omega)) (by kernel_rfl) ?_
        refine SX.VC_df (.int .i64 (((i + 1 : Nat) : Int))) (fun α => Eq.trans (b := some (.int .i64 (IntKind.i64.wrap ((i : Int) + 1)))) (by kernel_rfl) (by rw [show ((i + 1 : Nat) : Int) = (i : Int) + 1 by omega, wrap_i64 (by omega) (by omega)])) (by kernel_rfl) ?_
        exact SX.VC_again fun α => ⟨⟨i + 1, Eq.trans (b := [.int .i64 ((i + 1 : Nat) : Int), .agg ([Value.agg (cpL (((standR ls p d t).1.take i).map capOf)).toArray, Value.agg (([capOf z]).flatMap cellsCp).toArray].flatMap SX.cellsV).toArray]) (by kernel_rfl) (by rw [List.take_add_one, hz]; simp [SX.cellsV, cpL]), by omega⟩, cast (by kernel_rfl) (show (standR ls p d t).1.length - ((i + 1 : Nat) : Int).toNat < (standR ls p d t).1.length - (i : Int).toNat by omega)⟩
      · try simp only [NRM] at h28
        have hcs : (capsL (standR ls p d t).1) = ((standR ls p d t).1.take i).map capOf := by rw [List.take_of_length_le (by omega)]; rfl
        refine SX.VC_df (.tuple #[.agg #[.string ((b.allB (capsL (standR ls p d t).1)).name), .int .i64 ((b.allB (capsL (standR ls p d t).1)).weight), .int .i64 ((b.allB (capsL (standR ls p d t).1)).lift), .int .i64 ((b.allB (capsL (standR ls p d t).1)).girth), .int .i64 ((b.allB (capsL (standR ls p d t).1)).step), .int .i64 ((b.allB (capsL (standR ls p d t).1)).jump), .int .i64 ((b.allB (capsL (standR ls p d t).1)).r0), .int .i64 ((b.allB (capsL (standR ls p d t).1)).r1), .int .i64 ((b.allB (capsL (standR ls p d t).1)).r2), .int .i64 ((b.allB (capsL (standR ls p d t).1)).s0), .int .i64 ((b.allB (capsL (standR ls p d t).1)).s1), .int .i64 ((b.allB (capsL (standR ls p d t).1)).s2), .int .i64 ((b.allB (capsL (standR ls p d t).1)).t0), .int .i64 ((b.allB (capsL (standR ls p d t).1)).t1), .int .i64 ((b.allB (capsL (standR ls p d t).1)).t2), .int .i64 ((b.allB (capsL (standR ls p d t).1)).effort), .int .i64 ((b.allB (capsL (standR ls p d t).1)).recover)], .int .i64 ((b.allE (capsL (standR ls p d t).1)))]) (fun α => ⟨[⟨valBd b, 0, []⟩, ⟨(α 5).h, 3, cpL (capsL (standR ls p d t).1)⟩], ⟨by kernel_rfl, by kernel_rfl, Eq.trans (b := (⟨(α 5).h, 3, [Value.agg (cpL (((standR ls p d t).1.take i).map capOf)).toArray].flatMap SX.cellsV⟩ : SX.Arg)) (by rw [hcs]; simp [SX.cellsV]) (by kernel_rfl), trivial⟩, .inr (.inl ⟨rfl, b, _, (capsL (standR ls p d t).1), rfl, hs, by rw [capsL, List.length_map]; omega, rfl⟩), SX.noAli rfl⟩) (by kernel_rfl) ?_
        have hE : inForceR b ls p d t = (b.allB (capsL (standR ls p d t).1), b.allE (capsL (standR ls p d t).1)) := by rw [inForceR, if_neg (by simpa using h22), if_neg (by simpa using h24)]
        exact SX.VC_ret fun α W _ _ hS => SX.ret_of hS (x := .tuple #[valBd (b.allB (capsL (standR ls p d t).1)), .int .i64 (b.allE (capsL (standR ls p d t).1))]) (by kernel_rfl) (by rw [hE])
end Go.Proofs.Ytmkigejhgpoleaa
