/-
  Add in the specification.
-/
import Derived.Test.YtmkigejhgpoleaaLj
namespace Go.Proofs.Ytmkigejhgpoleaa
set_option linter.unusedSimpArgs false
set_option linter.unusedVariables false
open Go Go.RowKit
theorem half_at {ls : List Lim} {no : Int} {i : Nat} {z : Lim} (hk : okL ls) (h : ∀ y ∈ ls.take i, y.no < no) (hz : ls[i]? = some z) (hle : no ≤ z.no) : Half ls no i i :=
  have hi := (List.getElem?_eq_some_iff.1 hz).1
  half_hi hk (j := ls.length) ⟨by omega, Nat.le_refl _, h, fun y hy => by simp at hy⟩ hz (Nat.le_refl _) hle
theorem half_end {ls : List Lim} {no : Int} {i : Nat} (h : ∀ y ∈ ls.take i, y.no < no) (hi : i = ls.length) : Half ls no i i := ⟨Nat.le_refl _, by omega, h, fun y hy => by rw [List.drop_eq_nil_of_le (by omega)] at hy; simp at hy⟩
def tree_rAdd : SX.Tree :=
(.df (.call 15 [(.ext 9)]) [(.x 0 [])] .one 
(.df (.bin .neq 29) [(.x 10 []), (.k (.int .i64 0))] .one 
(.br 11 [] 
(.ret (.t [(.k (.slice none 0 0)), (.x 10 [])]) [none] []) 
(.loop [(.k (.int .i64 0)), (.cat [])] [.one, .any] 
(.df (.len false) [(.x 0 [])] .one 
(.df (.bin .lss 3) [(.x 12 []), (.x 14 [])] .one 
(.br 15 [] 
(.df .bnd [(.x 0 []), (.x 12 [])] .one 
(.df .bnd [(.x 0 []), (.x 12 [])] .one 
(.df (.elem 9 0) [(.x 0 []), (.x 12 [])] .one 
(.df (.bin .lss 3) [(.x 18 []), (.x 1 [])] .one 
(.br 19 [] 
(.df .bnd [(.x 0 []), (.x 12 [])] .one 
(.df (.elems 9 0 9) [(.x 0 []), (.x 12 [])] (.ag 9) 
(.df (.app 9 72 (.own 9 [(.x 21 [0]), (.x 21 [1]), (.x 21 [2]), (.x 21 [3]), (.x 21 [4]), (.x 21 [5]), (.x 21 [6]), (.x 21 [7]), (.x 21 [8])])) [(.cat [(.x 13 [])]), (.sl 4 0 1 1)] .any 
(.df (.bin .add 3) [(.x 12 []), (.k (.int .i64 1))] .one 
(.again 0 [(.x 23 []), (.cat [(.x 13 []), (.x 22 [])])]))))) 
(.df (.len false) [(.x 0 [])] .one 
(.df (.bin .lss 3) [(.x 12 []), (.x 20 [])] .one 
(.br 21 [] 
(.df .bnd [(.x 0 []), (.x 12 [])] .one 
(.df .bnd [(.x 0 []), (.x 12 [])] .one 
(.df (.elem 9 0) [(.x 0 []), (.x 12 [])] .one 
(.df (.bin .eql 3) [(.x 24 []), (.x 1 [])] .one 
(.br 25 [] 
(.ret (.t [(.k (.slice none 0 0)), (.k (.int .i64 171))]) [none, none, none, none] []) 
(.df (.app 9 72 (.own 9 [(.x 1 []), (.x 2 []), (.x 3 []), (.x 4 []), (.x 5 []), (.x 6 []), (.x 7 []), (.x 8 []), (.x 9 [])])) [(.cat [(.x 13 [])]), (.sl 6 0 1 1)] .any 
(.df (.slc false 9 true false false) [(.x 0 []), (.x 12 [])] .one 
(.df (.app 9 72 (.ext 9)) [(.cat [(.x 13 []), (.x 26 [])]), (.x 27 [])] .any 
(.df (.call 15 [(.row 9 [(.x 13 []), (.x 26 []), (.x 28 [])])]) [(.row 11)] .one 
(.df (.bin .neq 29) [(.x 29 []), (.k (.int .i64 0))] .one 
(.br 30 [] 
(.ret (.t [(.k (.slice none 0 0)), (.x 29 [])]) [none, none, none, none, none, none, none, none, none, none, none, none] []) 
(.ret (.t [(.row 11), (.k (.int .i64 0))]) [none, none, none, none, none, none, none, none, none, none, none, (some ⟨[(.x 13 []), (.x 26 []), (.x 28 [])], 26, (.row 9)⟩)] [])))))))))))) 
(.df (.app 9 72 (.own 9 [(.x 1 []), (.x 2 []), (.x 3 []), (.x 4 []), (.x 5 []), (.x 6 []), (.x 7 []), (.x 8 []), (.x 9 [])])) [(.cat [(.x 13 [])]), (.sl 6 0 1 1)] .any 
(.df (.slc false 9 true false false) [(.x 0 []), (.x 12 [])] .one 
(.df (.app 9 72 (.ext 9)) [(.cat [(.x 13 []), (.x 22 [])]), (.x 23 [])] .any 
(.df (.call 15 [(.row 9 [(.x 13 []), (.x 22 []), (.x 24 [])])]) [(.row 11)] .one 
(.df (.bin .neq 29) [(.x 25 []), (.k (.int .i64 0))] .one 
(.br 26 [] 
(.ret (.t [(.k (.slice none 0 0)), (.x 25 [])]) [none, none, none, none, none, none, none, none, none, none, none, none] []) 
(.ret (.t [(.row 11), (.k (.int .i64 0))]) [none, none, none, none, none, none, none, none, none, none, none, (some ⟨[(.x 13 []), (.x 22 []), (.x 24 [])], 26, (.row 9)⟩)] []))))))))))))))) 
(.df (.len false) [(.x 0 [])] .one 
(.df (.bin .lss 3) [(.x 12 []), (.x 16 [])] .one 
(.br 17 [] 
(.df .bnd [(.x 0 []), (.x 12 [])] .one 
(.df .bnd [(.x 0 []), (.x 12 [])] .one 
(.df (.elem 9 0) [(.x 0 []), (.x 12 [])] .one 
(.df (.bin .eql 3) [(.x 20 []), (.x 1 [])] .one 
(.br 21 [] 
(.ret (.t [(.k (.slice none 0 0)), (.k (.int .i64 171))]) [none, none, none, none] []) 
(.df (.app 9 72 (.own 9 [(.x 1 []), (.x 2 []), (.x 3 []), (.x 4 []), (.x 5 []), (.x 6 []), (.x 7 []), (.x 8 []), (.x 9 [])])) [(.cat [(.x 13 [])]), (.sl 6 0 1 1)] .any 
(.df (.slc false 9 true false false) [(.x 0 []), (.x 12 [])] .one 
(.df (.app 9 72 (.ext 9)) [(.cat [(.x 13 []), (.x 22 [])]), (.x 23 [])] .any 
(.df (.call 15 [(.row 9 [(.x 13 []), (.x 22 []), (.x 24 [])])]) [(.row 11)] .one 
(.df (.bin .neq 29) [(.x 25 []), (.k (.int .i64 0))] .one 
(.br 26 [] 
(.ret (.t [(.k (.slice none 0 0)), (.x 25 [])]) [none, none, none, none, none, none, none, none, none, none, none, none] []) 
(.ret (.t [(.row 11), (.k (.int .i64 0))]) [none, none, none, none, none, none, none, none, none, none, none, (some ⟨[(.x 13 []), (.x 22 []), (.x 24 [])], 26, (.row 9)⟩)] [])))))))))))) 
(.df (.app 9 72 (.own 9 [(.x 1 []), (.x 2 []), (.x 3 []), (.x 4 []), (.x 5 []), (.x 6 []), (.x 7 []), (.x 8 []), (.x 9 [])])) [(.cat [(.x 13 [])]), (.sl 6 0 1 1)] .any 
(.df (.slc false 9 true false false) [(.x 0 []), (.x 12 [])] .one 
(.df (.app 9 72 (.ext 9)) [(.cat [(.x 13 []), (.x 18 [])]), (.x 19 [])] .any 
(.df (.call 15 [(.row 9 [(.x 13 []), (.x 18 []), (.x 20 [])])]) [(.row 11)] .one 
(.df (.bin .neq 29) [(.x 21 []), (.k (.int .i64 0))] .one 
(.br 22 [] 
(.ret (.t [(.k (.slice none 0 0)), (.x 21 [])]) [none, none, none, none, none, none, none, none, none, none, none, none] []) 
(.ret (.t [(.row 11), (.k (.int .i64 0))]) [none, none, none, none, none, none, none, none, none, none, none, (some ⟨[(.x 13 []), (.x 18 []), (.x 20 [])], 26, (.row 9)⟩)] [])))))))))))))))))
def args_rAdd : List SX.V := [.x 0 [], .a ((List.range 9).map fun j => .x (1 + j) [])]
set_option maxRecDepth 100000 in
theorem run_rAdd (K A : Value → Nat → List Value → Prop) : (SX.run (cxL1 K A) ⟨fun f => true, [⟨13, 6, [(.s 8, .one), (.s 7, .row 9 26)]⟩], 2, 100⟩ 100000 0 (SX.door 13 Try.f13 args_rAdd (List.replicate 10 .one)) [.code (Try.f13.body.getD .skip), .top Try.f13]).strip = tree_rAdd := by kernel_rfl
set_option maxRecDepth 100000 in
set_option maxHeartbeats 4000000 in
theorem rAdd_any (ls : List Lim) (A : Option Addr) (n c : Nat) (x : Lim) (w : World) (hr : Rd w 9 A n (lmL ls)) (hn : n ≤ 9223372036854775807) (hc : n ≤ c) : Calls Try.prog 13 #[.slice A n c, valLm x] w fun e w' => Below w.heap.size w w' ∧ ∃ hdr, e = .returned (.tuple #[hdr, .int .i64 (addR ls x).2]) ∧ SX.SlRet w w' [] hdr 9 (lmL (addR ls x).1) := by
  refine SX.calls_of_run (C := cxL1 (SX.SubK A n c 9 (lmL ls)) (fun _ _ _ => False)) (G := ⟨fun f => true, [⟨13, 6, [(.s 8, .one), (.s 7, .row 9 26)]⟩], 2, 100⟩) (args := args_rAdd) (sh := (List.replicate 10 .one)) (ρ := (.slice A n c :: cellsLm x)) 100000 tree_rAdd (okL1 _ _) Try.func13 rfl (run_rAdd _ _) (by kernel_rfl) (by kernel_rfl) (by kernel_rfl) ?_ ?_
  · intro W hW s z xs h; exact h.rd (hr.same0 hW)
  have hA := SX.rd_some hr
  have hln : ls.length = n := by have := hr.1; rw [lmL_len] at this; omega
  have hdt : ∀ j, (ls.drop j).take (n - j) = ls.drop j := fun j => List.take_of_length_le (by simp; omega)
  unfold tree_rAdd
  refine SX.VC_df (.int .i64 ((chkL ls))) (fun α => ⟨[⟨.slice A n c, 9, lmL ls⟩], ⟨by kernel_rfl, rfl, cast (by kernel_rfl) (SX.SubK.full (A := A) hr.1 hc), trivial⟩, .inr (.inl ⟨rfl, _, ls, rfl, by omega, rfl⟩), SX.noAli rfl⟩) (by kernel_rfl) ?_
  refine SX.VC_df (.bool (((chkL ls) : Int) != 0)) (by intro α; show _ = _; kernel_rfl) (by kernel_rfl) ?_
  refine SX.VC_br (((chkL ls) : Int) != 0) (by kernel_rfl) (fun h11 => ?_) (fun h11 => ?_)
  · try simp only [NRM] at h11
    have hfact : addR ls x = ([], chkL ls) := by rw [addR, if_pos (by simpa using h11)]
    exact SX.VC_ret fun α W _ hR hS => ⟨hS.below, (.slice none 0 0), Eq.trans (b := Ending.returned (.tuple #[(.slice none 0 0), .int .i64 ((chkL ls))])) (by kernel_rfl) (by rw [hfact]), (by rw [hfact]; exact SX.SlRet.nil)⟩
  · try simp only [NRM] at h11
    obtain ⟨hl512, hokl⟩ := chkL_zero (show chkL ls = 0 by simpa using h11)
    refine SX.VC_loop (fun xs => ∃ (i : Nat), xs = [.int .i64 (i : Int), .agg (lmL (ls.take i)).toArray] ∧ i ≤ n ∧ ∀ y ∈ ls.take i, y.no < x.no) (fun xs => match xs with | (.int _ i) :: _ => n - i.toNat | _ => 0) (fun α => ⟨0, Eq.trans (b := [.int .i64 0, .agg #[]]) (by kernel_rfl) (by simp [lmL]), by omega, by simp⟩) ?_
    rintro xs - ⟨i, rfl, hin, hlo⟩
    refine SX.VC_df (.int .i64 (((n : Nat) : Int))) (by intro α; show _ = _; kernel_rfl) (by kernel_rfl) ?_
    refine SX.VC_df (.bool (decide (((i : Nat) : Int) < ((n : Nat) : Int)))) (by intro α; show _ = _; kernel_rfl) (by kernel_rfl) ?_
    refine SX.VC_br (decide (((i : Nat) : Int) < ((n : Nat) : Int))) (by kernel_rfl) (fun h15 => ?_) (fun h15 => ?_)
    · try simp only [NRM] at h15
      obtain ⟨z, hz⟩ : ∃ z, ls[i]? = some z := ⟨_, List.getElem?_eq_getElem (by omega)⟩
      refine SX.VC_df (.bool true) (fun α => SX.extBnd (A := A) (n := n) (c := c) (j := i) hA (by kernel_rfl) (by kernel_rfl) (by omega)) (by kernel_rfl) ?_
      refine SX.VC_df (.bool true) (fun α => SX.extBnd (A := A) (n := n) (c := c) (j := i) hA (by kernel_rfl) (by kernel_rfl) (by omega)) (by kernel_rfl) ?_
      refine SX.VC_df (.int .i64 z.no) (fun α => SX.extElem (o := 0) (v := .int .i64 z.no) (f := cellsLm) (l := ls) (A := A) (n := n) (c := c) (j := i) (z := z) (fun _ => rfl) hA (by kernel_rfl) (by kernel_rfl) (by omega) (cast (by kernel_rfl) (SX.SubK.full (A := A) hr.1 hc)) hz (by decide) (by kernel_rfl)) (by kernel_rfl) ?_
      refine SX.VC_df (.bool (decide (z.no < x.no))) (by intro α; show _ = _; kernel_rfl) (by kernel_rfl) ?_
      refine SX.VC_br (decide (z.no < x.no)) (by kernel_rfl) (fun h19 => ?_) (fun h19 => ?_)
      · try simp only [NRM] at h19
        refine SX.VC_df (.bool true) (fun α => SX.extBnd (A := A) (n := n) (c := c) (j := i) hA (by kernel_rfl) (by kernel_rfl) (by omega)) (by kernel_rfl) ?_
        refine SX.VC_df (.agg (cellsLm z).toArray) (fun α => SX.extElems (f := cellsLm) (l := ls) (A := A) (n := n) (c := c) (j := i) (z := z) (fun _ => rfl) hA (by kernel_rfl) (by kernel_rfl) (by omega) (cast (by kernel_rfl) (SX.SubK.full (A := A) hr.1 hc)) hz) (by kernel_rfl) ?_
        refine SX.VC_df (Value.agg (([z]).flatMap cellsLm).toArray) (fun α => SX.app_rel (f := cellsLm) (l1 := (ls.take i)) (l2 := [z]) (fun _ => rfl) cellsLm_one (by decide) (SX.cat1 (by kernel_rfl)) (SX.src_own (by kernel_rfl)) (by simp only [List.length_append, List.length_take, List.length_drop, List.length_cons, List.length_nil]; omega) (by simp only [List.length_append, List.length_take, List.length_drop, List.length_cons, List.length_nil]; omega)) (by kernel_rfl) ?_
        refine SX.VC_df (.int .i64 (((i + 1 : Nat) : Int))) (fun α => Eq.trans (b := some (.int .i64 (IntKind.i64.wrap ((i : Int) + 1)))) (by kernel_rfl) (by rw [show ((i + 1 : Nat) : Int) = (i : Int) + 1 by omega, wrap_i64 (by omega) (by omega)])) (by kernel_rfl) ?_
        exact SX.VC_again fun α => ⟨⟨i + 1, Eq.trans (b := [.int .i64 ((i + 1 : Nat) : Int), .agg ([Value.agg (lmL (ls.take i)).toArray, Value.agg (([z]).flatMap cellsLm).toArray].flatMap SX.cellsV).toArray]) (by kernel_rfl) (by rw [List.take_add_one, hz]; simp [SX.cellsV, lmL]), by omega, (all_take1 hz).2 ⟨hlo, by omega⟩⟩, cast (by kernel_rfl) (show n - ((i + 1 : Nat) : Int).toNat < n - (i : Int).toNat by omega)⟩
      · try simp only [NRM] at h19
        refine SX.VC_df (.int .i64 (((n : Nat) : Int))) (by intro α; show _ = _; kernel_rfl) (by kernel_rfl) ?_
        refine SX.VC_df (.bool (decide (((i : Nat) : Int) < ((n : Nat) : Int)))) (by intro α; show _ = _; kernel_rfl) (by kernel_rfl) ?_
        refine SX.VC_br (decide (((i : Nat) : Int) < ((n : Nat) : Int))) (by kernel_rfl) (fun h21 => ?_) (fun h21 => absurd h21 (by simp; omega))
        try simp only [NRM] at h21
        refine SX.VC_df (.bool true) (fun α => SX.extBnd (A := A) (n := n) (c := c) (j := i) hA (by kernel_rfl) (by kernel_rfl) (by omega)) (by kernel_rfl) ?_
        refine SX.VC_df (.bool true) (fun α => SX.extBnd (A := A) (n := n) (c := c) (j := i) hA (by kernel_rfl) (by kernel_rfl) (by omega)) (by kernel_rfl) ?_
        refine SX.VC_df (.int .i64 z.no) (fun α => SX.extElem (o := 0) (v := .int .i64 z.no) (f := cellsLm) (l := ls) (A := A) (n := n) (c := c) (j := i) (z := z) (fun _ => rfl) hA (by kernel_rfl) (by kernel_rfl) (by omega) (cast (by kernel_rfl) (SX.SubK.full (A := A) hr.1 hc)) hz (by decide) (by kernel_rfl)) (by kernel_rfl) ?_
        refine SX.VC_df (.bool ((z.no : Int) == x.no)) (by intro α; show _ = _; kernel_rfl) (by kernel_rfl) ?_
        refine SX.VC_br ((z.no : Int) == x.no) (by kernel_rfl) (fun h25 => ?_) (fun h25 => ?_)
        · try simp only [NRM] at h25
          have hfact : addR ls x = ([], 171) := by rw [addR, if_neg (by simpa using h11), if_pos ⟨z, List.mem_of_getElem? hz, by simpa using h25⟩]
          exact SX.VC_ret fun α W _ hR hS => ⟨hS.below, (.slice none 0 0), Eq.trans (b := Ending.returned (.tuple #[(.slice none 0 0), .int .i64 171])) (by kernel_rfl) (by rw [hfact]), (by rw [hfact]; exact SX.SlRet.nil)⟩
        · try simp only [NRM] at h25
          have hh := half_at hokl hlo hz (by omega)
          have hpos := half_pos hh (Int.le_refl _)
          have hnm : ¬ ∃ y ∈ ls, y.no = x.no := fun hq => by have := (half_met hokl hh (Int.le_refl _) hz).2.1 hq; simp [this] at h25
          refine SX.VC_df (Value.agg (([x]).flatMap cellsLm).toArray) (fun α => SX.app_rel (f := cellsLm) (l1 := (ls.take i)) (l2 := [x]) (fun _ => rfl) cellsLm_one (by decide) (SX.cat1 (by kernel_rfl)) (SX.src_own (by kernel_rfl)) (by simp only [List.length_append, List.length_take, List.length_drop, List.length_cons, List.length_nil]; omega) (by simp only [List.length_append, List.length_take, List.length_drop, List.length_cons, List.length_nil]; omega)) (by kernel_rfl) ?_
          refine SX.VC_df ((SX.subS A 9 i n c)) (fun α => SX.slc_lo (A := A) (n := n) (c := c) (k := i) (by kernel_rfl) (by kernel_rfl) (by omega)) (by kernel_rfl) ?_
          refine SX.VC_df (Value.agg (((ls.drop i).take (n - i)).flatMap cellsLm).toArray) (fun α => SX.app_rel (f := cellsLm) (l1 := (ls.take i) ++ [x]) (l2 := (ls.drop i).take (n - i)) (fun _ => rfl) cellsLm_one (by decide) (Eq.trans (b := [Value.agg ((ls.take i).flatMap cellsLm).toArray, Value.agg (([x]).flatMap cellsLm).toArray].flatMap SX.cellsV) (by kernel_rfl) (by simp [SX.cellsV])) (SX.src_ext (cast (by kernel_rfl) (SX.SubK.part (f := cellsLm) (sz := 9) (fun _ => rfl) (A := A) (n := n) (c := c) (L := ls) (l := i) (h := n) (m := c) (by omega) (by omega) (by omega) (by omega)))) (by simp only [List.length_append, List.length_take, List.length_drop, List.length_cons, List.length_nil]; omega) (by simp only [List.length_append, List.length_take, List.length_drop, List.length_cons, List.length_nil]; omega)) (by kernel_rfl) ?_
          refine SX.VC_df (.int .i64 ((chkL (insL ls i x)))) (fun α => ⟨[⟨(α 11).h, 9, lmL (insL ls i x)⟩], ⟨Eq.trans (b := (⟨(α 11).h, 9, [Value.agg ((ls.take i).flatMap cellsLm).toArray, Value.agg (([x]).flatMap cellsLm).toArray, Value.agg (((ls.drop i).take (n - i)).flatMap cellsLm).toArray].flatMap SX.cellsV⟩ : SX.Arg)) (by simp [SX.cellsV, lmL, insL, hdt]) (by kernel_rfl), trivial⟩, .inr (.inl ⟨rfl, _, (insL ls i x), rfl, by rw [insL_len (by omega)]; omega, rfl⟩), SX.noAli rfl⟩) (by kernel_rfl) ?_
          refine SX.VC_df (.bool (((chkL (insL ls i x)) : Int) != 0)) (by intro α; show _ = _; kernel_rfl) (by kernel_rfl) ?_
          refine SX.VC_br (((chkL (insL ls i x)) : Int) != 0) (by kernel_rfl) (fun h30 => ?_) (fun h30 => ?_)
          · try simp only [NRM] at h30
            have hfact : addR ls x = ([], chkL (insL ls i x)) := by rw [addR, if_neg (by simpa using h11), if_neg hnm, addL, hpos, if_pos (by simpa using h30)]
            exact SX.VC_ret fun α W _ hR hS => ⟨hS.below, (.slice none 0 0), Eq.trans (b := Ending.returned (.tuple #[(.slice none 0 0), .int .i64 ((chkL (insL ls i x)))])) (by kernel_rfl) (by rw [hfact]), (by rw [hfact]; exact SX.SlRet.nil)⟩
          · try simp only [NRM] at h30
            have hfact : addR ls x = ((insL ls i x), 0) := by rw [addR, if_neg (by simpa using h11), if_neg hnm, addL, hpos, if_neg (by simpa using h30)]
            exact SX.VC_ret fun α W _ hR hS => ⟨hS.below, (α 11).h, Eq.trans (b := Ending.returned (.tuple #[(α 11).h, .int .i64 0])) (by kernel_rfl) (by rw [hfact]), SX.SlRet.row hS (n := 11) (b := (⟨[(.x 13 []), (.x 26 []), (.x 28 [])], 26, (.row 9)⟩ : SX.Blk)) (by kernel_rfl) rfl (hR 11 _ (by kernel_rfl)) (Eq.trans (b := [Value.agg ((ls.take i).flatMap cellsLm).toArray, Value.agg (([x]).flatMap cellsLm).toArray, Value.agg (((ls.drop i).take (n - i)).flatMap cellsLm).toArray].flatMap SX.cellsV) (by kernel_rfl) (by rw [hfact]; simp [SX.cellsV, lmL, insL, hdt]))⟩
    · try simp only [NRM] at h15
      refine SX.VC_df (.int .i64 (((n : Nat) : Int))) (by intro α; show _ = _; kernel_rfl) (by kernel_rfl) ?_
      refine SX.VC_df (.bool (decide (((i : Nat) : Int) < ((n : Nat) : Int)))) (by intro α; show _ = _; kernel_rfl) (by kernel_rfl) ?_
      refine SX.VC_br (decide (((i : Nat) : Int) < ((n : Nat) : Int))) (by kernel_rfl) (fun h17 => absurd h17 (by simp; omega)) (fun h17 => ?_)
      try simp only [NRM] at h17
      have hh := half_end hlo (by omega)
      have hpos := half_pos hh (Int.le_refl _)
      have hnm := half_none hh (Int.le_refl _) (by omega)
      refine SX.VC_df (Value.agg (([x]).flatMap cellsLm).toArray) (fun α => SX.app_rel (f := cellsLm) (l1 := (ls.take i)) (l2 := [x]) (fun _ => rfl) cellsLm_one (by decide) (SX.cat1 (by kernel_rfl)) (SX.src_own (by kernel_rfl)) (by simp only [List.length_append, List.length_take, List.length_drop, List.length_cons, List.length_nil]; omega) (by simp only [List.length_append, List.length_take, List.length_drop, List.length_cons, List.length_nil]; omega)) (by kernel_rfl) ?_
      refine SX.VC_df ((SX.subS A 9 i n c)) (fun α => SX.slc_lo (A := A) (n := n) (c := c) (k := i) (by kernel_rfl) (by kernel_rfl) (by omega)) (by kernel_rfl) ?_
      refine SX.VC_df (Value.agg (((ls.drop i).take (n - i)).flatMap cellsLm).toArray) (fun α => SX.app_rel (f := cellsLm) (l1 := (ls.take i) ++ [x]) (l2 := (ls.drop i).take (n - i)) (fun _ => rfl) cellsLm_one (by decide) (Eq.trans (b := [Value.agg ((ls.take i).flatMap cellsLm).toArray, Value.agg (([x]).flatMap cellsLm).toArray].flatMap SX.cellsV) (by kernel_rfl) (by simp [SX.cellsV])) (SX.src_ext (cast (by kernel_rfl) (SX.SubK.part (f := cellsLm) (sz := 9) (fun _ => rfl) (A := A) (n := n) (c := c) (L := ls) (l := i) (h := n) (m := c) (by omega) (by omega) (by omega) (by omega)))) (by simp only [List.length_append, List.length_take, List.length_drop, List.length_cons, List.length_nil]; omega) (by simp only [List.length_append, List.length_take, List.length_drop, List.length_cons, List.length_nil]; omega)) (by kernel_rfl) ?_
      refine SX.VC_df (.int .i64 ((chkL (insL ls i x)))) (fun α => ⟨[⟨(α 11).h, 9, lmL (insL ls i x)⟩], ⟨Eq.trans (b := (⟨(α 11).h, 9, [Value.agg ((ls.take i).flatMap cellsLm).toArray, Value.agg (([x]).flatMap cellsLm).toArray, Value.agg (((ls.drop i).take (n - i)).flatMap cellsLm).toArray].flatMap SX.cellsV⟩ : SX.Arg)) (by simp [SX.cellsV, lmL, insL, hdt]) (by kernel_rfl), trivial⟩, .inr (.inl ⟨rfl, _, (insL ls i x), rfl, by rw [insL_len (by omega)]; omega, rfl⟩), SX.noAli rfl⟩) (by kernel_rfl) ?_
      refine SX.VC_df (.bool (((chkL (insL ls i x)) : Int) != 0)) (by intro α; show _ = _; kernel_rfl) (by kernel_rfl) ?_
      refine SX.VC_br (((chkL (insL ls i x)) : Int) != 0) (by kernel_rfl) (fun h22 => ?_) (fun h22 => ?_)
      · try simp only [NRM] at h22
        have hfact : addR ls x = ([], chkL (insL ls i x)) := by rw [addR, if_neg (by simpa using h11), if_neg hnm, addL, hpos, if_pos (by simpa using h22)]
        exact SX.VC_ret fun α W _ hR hS => ⟨hS.below, (.slice none 0 0), Eq.trans (b := Ending.returned (.tuple #[(.slice none 0 0), .int .i64 ((chkL (insL ls i x)))])) (by kernel_rfl) (by rw [hfact]), (by rw [hfact]; exact SX.SlRet.nil)⟩
      · try simp only [NRM] at h22
        have hfact : addR ls x = ((insL ls i x), 0) := by rw [addR, if_neg (by simpa using h11), if_neg hnm, addL, hpos, if_neg (by simpa using h22)]
        exact SX.VC_ret fun α W _ hR hS => ⟨hS.below, (α 11).h, Eq.trans (b := Ending.returned (.tuple #[(α 11).h, .int .i64 0])) (by kernel_rfl) (by rw [hfact]), SX.SlRet.row hS (n := 11) (b := (⟨[(.x 13 []), (.x 18 []), (.x 20 [])], 26, (.row 9)⟩ : SX.Blk)) (by kernel_rfl) rfl (hR 11 _ (by kernel_rfl)) (Eq.trans (b := [Value.agg ((ls.take i).flatMap cellsLm).toArray, Value.agg (([x]).flatMap cellsLm).toArray, Value.agg (((ls.drop i).take (n - i)).flatMap cellsLm).toArray].flatMap SX.cellsV) (by kernel_rfl) (by rw [hfact]; simp [SX.cellsV, lmL, insL, hdt]))⟩
end Go.Proofs.Ytmkigejhgpoleaa
