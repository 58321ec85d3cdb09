/-
  Small lists of patches; the sign with an ID.
-/
import Derived.Test.YtodlcjhefojibaaPn
namespace Go.Proofs.Ytodlcjhefojibaa
set_option linter.unusedSimpArgs false
set_option linter.unusedVariables false
open Go Go.RowKit
theorem upto {β : Type} {l : List β} {P : β → Prop} {i : Nat} {z : β} (h : ∀ (k : Nat) (y : β), k < i → l[k]? = some y → P y) (hz : l[i]? = some z) (hp : P z) : ∀ (k : Nat) (y : β), k < i + 1 → l[k]? = some y → P y := fun k y hk hy => by
  by_cases e : k = i
  · subst e; rw [hz] at hy; cases hy; exact hp
  · exact h k y (by omega) hy
def ofPh (q : Ph) : Pt × Value := (q.1, Ph.h q)
theorem pv_of (l : List Ph) : pvL (l.map ofPh) = phL l := by
  unfold pvL phL
  rw [List.flatMap_map]
  rfl
/-- are there few patches with few needs, or too many -/
def smallS (pl : List Ph) : Bool := decide (¬ (40 < pl.length ∧ pl.length ≤ 512 ∨ 600 < pl.length) ∧ ∀ q ∈ pl, q.1.needs.length ≤ 100)
def findO (ss : List Sg) (id : Int) : Option Sg := ss.find? fun s => decide (s.id = id)
def findS (ss : List Sg) (id : Int) : Sg := (findO ss id).getD zeroSg
def isS (ss : List Sg) (id : Int) : Bool := (findO ss id).isSome
theorem find_at {ss : List Sg} {id : Int} {i : Nat} {z : Sg} (h : ∀ (k : Nat) (y : Sg), k < i → ss[k]? = some y → y.id ≠ id) (hz : ss[i]? = some z) (he : z.id = id) : findO ss id = some z := by
  obtain ⟨hl, hv⟩ := List.getElem?_eq_some_iff.1 hz
  unfold findO
  rw [List.find?_eq_some_iff_getElem]
  refine ⟨by simpa using he, i, hl, hv, fun j hj => ?_⟩
  have := h j ss[j] hj (List.getElem?_eq_getElem (by omega))
  simpa using this
theorem find_no {ss : List Sg} {id : Int} {i : Nat} (h : ∀ (k : Nat) (y : Sg), k < i → ss[k]? = some y → y.id ≠ id) (hl : ss.length ≤ i) : findO ss id = none := by
  unfold findO
  rw [List.find?_eq_none]
  intro x hx
  obtain ⟨k, hk⟩ := List.mem_iff_getElem?.1 hx
  have := h k x (by have := (List.getElem?_eq_some_iff.1 hk).1; omega) hk
  simpa using this
def tree_small : SX.Tree :=
(.df (.len false) [(.x 0 [])] .one 
(.df (.bin .gtr 3) [(.x 1 []), (.k (.int .i64 40))] .one 
(.br 2 [] 
(.df (.len false) [(.x 0 [])] .one 
(.df (.bin .leq 3) [(.x 3 []), (.k (.int .i64 512))] .one 
(.br 4 [] 
(.ret (.k (.bool false)) [] []) 
(.df (.len false) [(.x 0 [])] .one 
(.df (.bin .gtr 3) [(.x 5 []), (.k (.int .i64 600))] .one 
(.br 6 [] 
(.ret (.k (.bool false)) [] []) 
(.df (.len false) [(.x 0 [])] .one 
(.loop [(.k (.int .i64 0))] [.one] 
(.df (.bin .lss 3) [(.x 8 []), (.x 7 [])] .one 
(.br 9 [] 
(.df .bnd [(.x 0 []), (.x 8 [])] .one 
(.df (.elems 19 0 19) [(.x 0 []), (.x 8 [])] (.ag 19) 
(.df (.len false) [(.x 11 [18])] .one 
(.df (.bin .gtr 3) [(.x 12 []), (.k (.int .i64 100))] .one 
(.br 13 [] 
(.ret (.k (.bool false)) [] []) 
(.df (.bin .add 3) [(.x 8 []), (.k (.int .i64 1))] .one 
(.again 0 [(.x 14 [])]))))))) 
(.ret (.k (.bool true)) [] []))))))))))) 
(.df (.len false) [(.x 0 [])] .one 
(.df (.bin .gtr 3) [(.x 3 []), (.k (.int .i64 600))] .one 
(.br 4 [] 
(.ret (.k (.bool false)) [] []) 
(.df (.len false) [(.x 0 [])] .one 
(.loop [(.k (.int .i64 0))] [.one] 
(.df (.bin .lss 3) [(.x 6 []), (.x 5 [])] .one 
(.br 7 [] 
(.df .bnd [(.x 0 []), (.x 6 [])] .one 
(.df (.elems 19 0 19) [(.x 0 []), (.x 6 [])] (.ag 19) 
(.df (.len false) [(.x 9 [18])] .one 
(.df (.bin .gtr 3) [(.x 10 []), (.k (.int .i64 100))] .one 
(.br 11 [] 
(.ret (.k (.bool false)) [] []) 
(.df (.bin .add 3) [(.x 6 []), (.k (.int .i64 1))] .one 
(.again 0 [(.x 12 [])]))))))) 
(.ret (.k (.bool true)) [] [])))))))))))
def args_small : List SX.V := [.x 0 []]
set_option maxRecDepth 100000 in
theorem run_small (K A : Value → Nat → List Value → Prop) : (SX.run (cx0 K A) ⟨fun _ => false, [⟨17, 4, [(.s 20, .one)]⟩], 0, 100⟩ 100000 0 (SX.door 17 Try.f17 args_small [.one]) [.code (Try.f17.body.getD .skip), .top Try.f17]).strip = tree_small := by kernel_rfl
set_option maxRecDepth 100000 in
set_option maxHeartbeats 4000000 in
theorem small_any (pl : List Ph) (A : Option Addr) (n c : Nat) (w : World) (hr : Rd w 19 A n (phL pl)) (hn : n ≤ 9223372036854775807) (hc : n ≤ c) (hq : ∀ q ∈ pl, q.1.needs.length = q.2.2.1 ∧ q.2.2.1 ≤ 9223372036854775807) : Calls Try.prog 17 #[.slice A n c] w fun e w' => e = .returned (.bool (smallS pl)) ∧ Below w.heap.size w w' := by
  refine SX.calls_of_run (C := cx0 (fun s sz cells => s = .slice A n c ∧ sz = 19 ∧ cells = phL pl) (fun _ _ _ => False)) (G := ⟨fun _ => false, [⟨17, 4, [(.s 20, .one)]⟩], 0, 100⟩) (args := args_small) (sh := [.one]) (ρ := [.slice A n c]) 100000 tree_small (cx0_ok _ _) Try.func17 rfl (run_small _ _) (by kernel_rfl) (by kernel_rfl) (by kernel_rfl) ?_ ?_
  · rintro W hW s sz cells ⟨rfl, rfl, rfl⟩; exact ⟨hr.same0 hW, hc⟩
  have hA := SX.rd_some hr
  have hln : pl.length = n := by have := hr.1; rw [phL_len] at this; omega
  unfold tree_small
  refine SX.VC_df (.int .i64 (((n : Nat) : Int))) (by intro α; show _ = _; kernel_rfl) (by kernel_rfl) ?_
  refine SX.VC_df (.bool (decide (((n : Nat) : Int) > 40))) (by intro α; show _ = _; kernel_rfl) (by kernel_rfl) ?_
  refine SX.VC_br (decide (((n : Nat) : Int) > 40)) (by kernel_rfl) (fun h2 => ?_) (fun h2 => ?_)
  · try simp only [NRM] at h2
    refine SX.VC_df (.int .i64 (((n : Nat) : Int))) (by intro α; show _ = _; kernel_rfl) (by kernel_rfl) ?_
    refine SX.VC_df (.bool (decide (((n : Nat) : Int) ≤ 512))) (by intro α; show _ = _; kernel_rfl) (by kernel_rfl) ?_
    refine SX.VC_br (decide (((n : Nat) : Int) ≤ 512)) (by kernel_rfl) (fun h4 => ?_) (fun h4 => ?_)
    · try simp only [NRM] at h4
      exact SX.VC_ret fun α W _ _ hS => SX.ret_of hS (x := .bool false) (by kernel_rfl) (by congr 1; symm; unfold smallS; rw [decide_eq_false_iff_not]; rintro ⟨h1, _⟩; omega)
    · try simp only [NRM] at h4
      refine SX.VC_df (.int .i64 (((n : Nat) : Int))) (by intro α; show _ = _; kernel_rfl) (by kernel_rfl) ?_
      refine SX.VC_df (.bool (decide (((n : Nat) : Int) > 600))) (by intro α; show _ = _; kernel_rfl) (by kernel_rfl) ?_
      refine SX.VC_br (decide (((n : Nat) : Int) > 600)) (by kernel_rfl) (fun h6 => ?_) (fun h6 => ?_)
      · try simp only [NRM] at h6
        exact SX.VC_ret fun α W _ _ hS => SX.ret_of hS (x := .bool false) (by kernel_rfl) (by congr 1; symm; unfold smallS; rw [decide_eq_false_iff_not]; rintro ⟨h1, _⟩; omega)
      · try simp only [NRM] at h6
        refine SX.VC_df (.int .i64 (((n : Nat) : Int))) (by intro α; show _ = _; kernel_rfl) (by kernel_rfl) ?_
        refine SX.VC_loop (fun xs => ∃ i : Nat, xs = [.int .i64 (i : Int)] ∧ i ≤ n ∧ ∀ (k : Nat) (q : Ph), k < i → pl[k]? = some q → q.1.needs.length ≤ 100) (fun xs => match xs with | [.int _ i] => n - i.toNat | _ => 0) (fun α => ⟨0, by kernel_rfl, by omega, fun k q hk => absurd hk (by omega)⟩) ?_
        rintro xs - ⟨i, rfl, hin, hal⟩
        refine SX.VC_df (.bool (decide (((i : Nat) : Int) < ((n : Nat) : Int)))) (by intro α; show _ = _; kernel_rfl) (by kernel_rfl) ?_
        refine SX.VC_br (decide (((i : Nat) : Int) < ((n : Nat) : Int))) (by kernel_rfl) (fun h9 => ?_) (fun h9 => ?_)
        · try simp only [NRM] at h9
          obtain ⟨z, hz⟩ : ∃ z, pl[i]? = some z := ⟨_, List.getElem?_eq_getElem (by omega)⟩
          obtain ⟨hzn, hzm⟩ := hq z (List.mem_of_getElem? hz)
          refine SX.VC_df (.bool true) (fun α => SX.extBnd (A := A) (n := n) (c := c) (j := i) hA (by kernel_rfl) (by kernel_rfl) (by omega)) (by kernel_rfl) ?_
          refine SX.VC_df (.agg (cellsH z).toArray) (fun α => SX.extElems (f := cellsH) (l := pl) (A := A) (n := n) (c := c) (j := i) (z := z) (fun _ => rfl) hA (by kernel_rfl) (by kernel_rfl) (by omega) ⟨rfl, rfl, rfl⟩ hz) (by kernel_rfl) ?_
          refine SX.VC_df (.int .i64 (((z.2.2.1 : Nat) : Int))) (by intro α; show _ = _; kernel_rfl) (by kernel_rfl) ?_
          refine SX.VC_df (.bool (decide (((z.2.2.1 : Nat) : Int) > 100))) (by intro α; show _ = _; kernel_rfl) (by kernel_rfl) ?_
          refine SX.VC_br (decide (((z.2.2.1 : Nat) : Int) > 100)) (by kernel_rfl) (fun h13 => ?_) (fun h13 => ?_)
          · try simp only [NRM] at h13
            exact SX.VC_ret fun α W _ _ hS => SX.ret_of hS (x := .bool false) (by kernel_rfl) (by congr 1; symm; unfold smallS; rw [decide_eq_false_iff_not]; rintro ⟨_, h2⟩; have := h2 z (List.mem_of_getElem? hz); omega)
          · try simp only [NRM] at h13
            refine SX.VC_df (.int .i64 (((i + 1 : Nat) : Int))) (fun α => Eq.trans (b := some (.int .i64 (IntKind.i64.wrap ((i : Nat) + 1)))) (by kernel_rfl) (by rw [show ((i + 1 : Nat) : Int) = ((i : Nat) : Int) + 1 by omega, wrap_i64 (by omega) (by omega)])) (by kernel_rfl) ?_
            exact SX.VC_again fun α => ⟨⟨i + 1, by kernel_rfl, by omega, upto hal hz (by omega)⟩, cast (by kernel_rfl) (show n - ((i + 1 : Nat) : Int).toNat < n - (i : Int).toNat by omega)⟩
        · try simp only [NRM] at h9
          exact SX.VC_ret fun α W _ _ hS => SX.ret_of hS (x := .bool true) (by kernel_rfl) (by congr 1; symm; unfold smallS; rw [decide_eq_true_eq]; refine ⟨by omega, fun q hqm => ?_⟩; obtain ⟨k, hk⟩ := List.mem_iff_getElem?.1 hqm; exact hal k q (by have := (List.getElem?_eq_some_iff.1 hk).1; omega) hk)
  · try simp only [NRM] at h2
    refine SX.VC_df (.int .i64 (((n : Nat) : Int))) (by intro α; show _ = _; kernel_rfl) (by kernel_rfl) ?_
    refine SX.VC_df (.bool (decide (((n : Nat) : Int) > 600))) (by intro α; show _ = _; kernel_rfl) (by kernel_rfl) ?_
    refine SX.VC_br (decide (((n : Nat) : Int) > 600)) (by kernel_rfl) (fun h4 => ?_) (fun h4 => ?_)
    · try simp only [NRM] at h4
      exact SX.VC_ret fun α W _ _ hS => SX.ret_of hS (x := .bool false) (by kernel_rfl) (by congr 1; symm; unfold smallS; rw [decide_eq_false_iff_not]; rintro ⟨h1, _⟩; omega)
    · try simp only [NRM] at h4
      refine SX.VC_df (.int .i64 (((n : Nat) : Int))) (by intro α; show _ = _; kernel_rfl) (by kernel_rfl) ?_
      refine SX.VC_loop (fun xs => ∃ i : Nat, xs = [.int .i64 (i : Int)] ∧ i ≤ n ∧ ∀ (k : Nat) (q : Ph), k < i → pl[k]? = some q → q.1.needs.length ≤ 100) (fun xs => match xs with | [.int _ i] => n - i.toNat | _ => 0) (fun α => ⟨0, by kernel_rfl, by omega, fun k q hk => absurd hk (by omega)⟩) ?_
      rintro xs - ⟨i, rfl, hin, hal⟩
      refine SX.VC_df (.bool (decide (((i : Nat) : Int) < ((n : Nat) : Int)))) (by intro α; show _ = _; kernel_rfl) (by kernel_rfl) ?_
      refine SX.VC_br (decide (((i : Nat) : Int) < ((n : Nat) : Int))) (by kernel_rfl) (fun h7 => ?_) (fun h7 => ?_)
      · try simp only [NRM] at h7
        obtain ⟨z, hz⟩ : ∃ z, pl[i]? = some z := ⟨_, List.getElem?_eq_getElem (by omega)⟩
        obtain ⟨hzn, hzm⟩ := hq z (List.mem_of_getElem? hz)
        refine SX.VC_df (.bool true) (fun α => SX.extBnd (A := A) (n := n) (c := c) (j := i) hA (by kernel_rfl) (by kernel_rfl) (by omega)) (by kernel_rfl) ?_
        refine SX.VC_df (.agg (cellsH z).toArray) (fun α => SX.extElems (f := cellsH) (l := pl) (A := A) (n := n) (c := c) (j := i) (z := z) (fun _ => rfl) hA (by kernel_rfl) (by kernel_rfl) (by omega) ⟨rfl, rfl, rfl⟩ hz) (by kernel_rfl) ?_
        refine SX.VC_df (.int .i64 (((z.2.2.1 : Nat) : Int))) (by intro α; show _ = _; kernel_rfl) (by kernel_rfl) ?_
        refine SX.VC_df (.bool (decide (((z.2.2.1 : Nat) : Int) > 100))) (by intro α; show _ = _; kernel_rfl) (by kernel_rfl) ?_
        refine SX.VC_br (decide (((z.2.2.1 : Nat) : Int) > 100)) (by kernel_rfl) (fun h11 => ?_) (fun h11 => ?_)
        · try simp only [NRM] at h11
          exact SX.VC_ret fun α W _ _ hS => SX.ret_of hS (x := .bool false) (by kernel_rfl) (by congr 1; symm; unfold smallS; rw [decide_eq_false_iff_not]; rintro ⟨_, h2⟩; have := h2 z (List.mem_of_getElem? hz); omega)
        · try simp only [NRM] at h11
          refine SX.VC_df (.int .i64 (((i + 1 : Nat) : Int))) (fun α => Eq.trans (b := some (.int .i64 (IntKind.i64.wrap ((i : Nat) + 1)))) (by kernel_rfl) (by rw [show ((i + 1 : Nat) : Int) = ((i : Nat) : Int) + 1 by omega, wrap_i64 (by omega) (by omega)])) (by kernel_rfl) ?_
          exact SX.VC_again fun α => ⟨⟨i + 1, by kernel_rfl, by omega, upto hal hz (by omega)⟩, cast (by kernel_rfl) (show n - ((i + 1 : Nat) : Int).toNat < n - (i : Int).toNat by omega)⟩
      · try simp only [NRM] at h7
        exact SX.VC_ret fun α W _ _ hS => SX.ret_of hS (x := .bool true) (by kernel_rfl) (by congr 1; symm; unfold smallS; rw [decide_eq_true_eq]; refine ⟨by omega, fun q hqm => ?_⟩; obtain ⟨k, hk⟩ := List.mem_iff_getElem?.1 hqm; exact hal k q (by have := (List.getElem?_eq_some_iff.1 hk).1; omega) hk)
def tree_find : SX.Tree :=
(.df (.len false) [(.x 0 [])] .one 
(.loop [(.k (.int .i64 0))] [.one] 
(.df (.bin .lss 3) [(.x 3 []), (.x 2 [])] .one 
(.br 4 [] 
(.df .bnd [(.x 0 []), (.x 3 [])] .one 
(.df (.elems 14 0 14) [(.x 0 []), (.x 3 [])] (.ag 14) 
(.df (.bin .eql 3) [(.x 6 [0]), (.x 1 [])] .one 
(.br 7 [] 
(.ret (.t [(.a [(.x 6 [0]), (.x 6 [1]), (.x 6 [2]), (.x 6 [3]), (.x 6 [4]), (.x 6 [5]), (.x 6 [6]), (.x 6 [7]), (.x 6 [8]), (.x 6 [9]), (.x 6 [10]), (.x 6 [11]), (.x 6 [12]), (.x 6 [13])]), (.k (.bool true))]) [] []) 
(.df (.bin .add 3) [(.x 3 []), (.k (.int .i64 1))] .one 
(.again 0 [(.x 8 [])])))))) 
(.ret (.t [(.a [(.k (.int .i64 0)), (.k (.int .i64 0)), (.k (.int .i64 0)), (.k (.int .i64 0)), (.k (.int .i64 0)), (.k (.int .i64 0)), (.k (.int .i64 0)), (.k (.int .i64 0)), (.k (.int .i64 0)), (.k (.int .i64 0)), (.k (.int .i64 0)), (.k (.int .i64 0)), (.k (.int .i64 0)), (.k (.int .i64 0))]), (.k (.bool false))]) [] [])))))
def args_find : List SX.V := [.x 0 [], .x 1 []]
set_option maxRecDepth 100000 in
theorem run_find (K A : Value → Nat → List Value → Prop) : (SX.run (cx0 K A) ⟨fun _ => false, [⟨28, 2, [(.s 10, .one)]⟩], 0, 100⟩ 100000 0 (SX.door 28 Try.f28 args_find [.one, .one]) [.code (Try.f28.body.getD .skip), .top Try.f28]).strip = tree_find := by kernel_rfl
set_option maxRecDepth 100000 in
set_option maxHeartbeats 4000000 in
theorem find_any (ss : List Sg) (A : Option Addr) (n c : Nat) (id : Int) (w : World) (hr : Rd w 14 A n (sgsL ss)) (hn : n ≤ 9223372036854775807) (hc : n ≤ c) : Calls Try.prog 28 #[.slice A n c, .int .i64 id] w fun e w' => e = .returned (.tuple #[valSg (findS ss id), .bool (isS ss id)]) ∧ Below w.heap.size w w' := by
  refine SX.calls_of_run (C := cx0 (fun s sz cells => s = .slice A n c ∧ sz = 14 ∧ cells = sgsL ss) (fun _ _ _ => False)) (G := ⟨fun _ => false, [⟨28, 2, [(.s 10, .one)]⟩], 0, 100⟩) (args := args_find) (sh := [.one, .one]) (ρ := [.slice A n c, .int .i64 id]) 100000 tree_find (cx0_ok _ _) Try.func28 rfl (run_find _ _) (by kernel_rfl) (by kernel_rfl) (by kernel_rfl) ?_ ?_
  · rintro W hW s sz cells ⟨rfl, rfl, rfl⟩; exact ⟨hr.same0 hW, hc⟩
  have hA := SX.rd_some hr
  have hln : ss.length = n := by have := hr.1; rw [sgsL_len] at this; omega
  unfold tree_find
  refine SX.VC_df (.int .i64 (((n : Nat) : Int))) (by intro α; show _ = _; kernel_rfl) (by kernel_rfl) ?_
  refine SX.VC_loop (fun xs => ∃ i : Nat, xs = [.int .i64 (i : Int)] ∧ i ≤ n ∧ ∀ (k : Nat) (y : Sg), k < i → ss[k]? = some y → y.id ≠ id) (fun xs => match xs with | [.int _ i] => n - i.toNat | _ => 0) (fun α => ⟨0, by kernel_rfl, by omega, fun k y hk => absurd hk (by omega)⟩) ?_
  rintro xs - ⟨i, rfl, hin, hal⟩
  refine SX.VC_df (.bool (decide (((i : Nat) : Int) < ((n : Nat) : Int)))) (by intro α; show _ = _; kernel_rfl) (by kernel_rfl) ?_
  refine SX.VC_br (decide (((i : Nat) : Int) < ((n : Nat) : Int))) (by kernel_rfl) (fun h4 => ?_) (fun h4 => ?_)
  · try simp only [NRM] at h4
    obtain ⟨z, hz⟩ : ∃ z, ss[i]? = some z := ⟨_, List.getElem?_eq_getElem (by omega)⟩
    refine SX.VC_df (.bool true) (fun α => SX.extBnd (A := A) (n := n) (c := c) (j := i) hA (by kernel_rfl) (by kernel_rfl) (by omega)) (by kernel_rfl) ?_
    refine SX.VC_df (.agg (cellsSg z).toArray) (fun α => SX.extElems (f := cellsSg) (l := ss) (A := A) (n := n) (c := c) (j := i) (z := z) (fun _ => rfl) hA (by kernel_rfl) (by kernel_rfl) (by omega) ⟨rfl, rfl, rfl⟩ hz) (by kernel_rfl) ?_
    refine SX.VC_df (.bool ((z.id : Int) == id)) (by intro α; show _ = _; kernel_rfl) (by kernel_rfl) ?_
    refine SX.VC_br ((z.id : Int) == id) (by kernel_rfl) (fun h7 => ?_) (fun h7 => ?_)
    · try simp only [NRM] at h7
      have hfact := find_at hal hz h7
      exact SX.VC_ret fun α W _ _ hS => SX.ret_of hS (x := .tuple #[valSg z, .bool true]) (by kernel_rfl) (by simp only [findS, isS, hfact]; rfl)
    · try simp only [NRM] at h7
      refine SX.VC_df (.int .i64 (((i + 1 : Nat) : Int))) (fun α => Eq.trans (b := some (.int .i64 (IntKind.i64.wrap ((i : Nat) + 1)))) (by kernel_rfl) (by rw [show ((i + 1 : Nat) : Int) = ((i : Nat) : Int) + 1 by omega, wrap_i64 (by omega) (by omega)])) (by kernel_rfl) ?_
      exact SX.VC_again fun α => ⟨⟨i + 1, by kernel_rfl, by omega, upto hal hz h7⟩, cast (by kernel_rfl) (show n - ((i + 1 : Nat) : Int).toNat < n - (i : Int).toNat by omega)⟩
  · try simp only [NRM] at h4
    have hfact := find_no hal (by omega)
    exact SX.VC_ret fun α W _ _ hS => SX.ret_of hS (x := .tuple #[valSg zeroSg, .bool false]) (by kernel_rfl) (by simp only [findS, isS, hfact]; rfl)
/-- what the laws of patches call -/
def RQ (K : Value → Nat → List Value → Prop) (f : FuncId) (xs : List SX.Arg) (v : Value) : Prop :=
  (f = 12 ∧ ∃ (u : Value) (ss : List Sg) (p : Pt) (h : Value), xs = [⟨u, 14, sgsL ss⟩, ⟨valP p h, 0, []⟩] ∧ ss.length ≤ 9223372036854775807 ∧ K h 1 (intsL p.needs) ∧ p.needs.length ≤ 9223372036854775807 ∧ v = .tuple #[.agg (sgsL (runS ss [p]).1).toArray, .int .i64 (runS ss [p]).2]) ∨
  (f = 13 ∧ ∃ (u : Value) (ss : List Sg) (p : Pt) (h : Value), xs = [⟨u, 14, sgsL ss⟩, ⟨valP p h, 0, []⟩] ∧ ss.length ≤ 9223372036854775807 ∧ K h 1 (intsL p.needs) ∧ p.needs.length ≤ 9223372036854775807 ∧ v = .tuple #[.agg (sgsL (runS ss [p]).1).toArray, .int .i64 (runS ss [p]).2]) ∨
  (f = 18 ∧ ∃ (u u2 : Value) (ss : List Sg) (pl : List (Pt × Value)), xs = [⟨u, 14, sgsL ss⟩, ⟨u2, 19, pvL pl⟩] ∧ ss.length ≤ 9223372036854775807 ∧ pl.length ≤ 9223372036854775807 ∧ (∀ q ∈ pl, K q.2 1 (intsL q.1.needs) ∧ q.1.needs.length ≤ 9223372036854775807) ∧ v = .tuple #[.agg (sgsL (runS ss (pl.map (·.1))).1).toArray, .int .i64 (runS ss (pl.map (·.1))).2]) ∨
  (f = 19 ∧ ∃ (u u2 : Value) (ss : List Sg) (pl : List (Pt × Value)), xs = [⟨u, 14, sgsL ss⟩, ⟨u2, 19, pvL pl⟩] ∧ ss.length ≤ 9223372036854775807 ∧ pl.length ≤ 9223372036854775807 ∧ (∀ q ∈ pl, K q.2 1 (intsL q.1.needs) ∧ q.1.needs.length ≤ 9223372036854775807) ∧ v = .tuple #[.agg (sgsL (runS ss (pl.map (·.1))).1).toArray, .int .i64 (runS ss (pl.map (·.1))).2]) ∨
  (f = 14 ∧ ∃ (p : Pt) (h : Value), xs = [⟨valP p h, 0, []⟩] ∧ K h 1 (intsL p.needs) ∧ p.needs.length ≤ 9223372036854775807 ∧ v = .int .i64 (chkP p)) ∨
  (f = 15 ∧ ∃ (p : Pt) (h : Value), xs = [⟨valP p h, 0, []⟩] ∧ K h 1 (intsL p.needs) ∧ p.needs.length ≤ 9223372036854775807 ∧ v = .int .i64 (chkP p)) ∨
  (f = 22 ∧ ∃ (p q : Pt) (h h' : Value), xs = [⟨valP p h, 0, []⟩, ⟨valP q h', 0, []⟩] ∧ K h 1 (intsL p.needs) ∧ K h' 1 (intsL q.needs) ∧ p.needs.length ≤ 9223372036854775807 ∧ q.needs.length ≤ 9223372036854775807 ∧ v = .tuple #[.bool (ovV p q), .int .i64 (ovE p q)]) ∨
  (f = 23 ∧ ∃ (p q : Pt) (h h' : Value), xs = [⟨valP p h, 0, []⟩, ⟨valP q h', 0, []⟩] ∧ K h 1 (intsL p.needs) ∧ K h' 1 (intsL q.needs) ∧ p.needs.length ≤ 9223372036854775807 ∧ q.needs.length ≤ 9223372036854775807 ∧ v = .tuple #[.bool (ovV p q), .int .i64 (ovE p q)]) ∨
  (f = 24 ∧ ∃ (u : Value) (ss : List Sg) (p q : Pt) (h h' : Value), xs = [⟨u, 14, sgsL ss⟩, ⟨valP p h, 0, []⟩, ⟨valP q h', 0, []⟩] ∧ ss.length ≤ 9223372036854775807 ∧ K h 1 (intsL p.needs) ∧ K h' 1 (intsL q.needs) ∧ p.needs.length ≤ 9223372036854775807 ∧ q.needs.length ≤ 9223372036854775807 ∧ v = .tuple #[.bool (comS ss p q).1, .int .i64 (comS ss p q).2]) ∨
  (f = 25 ∧ ∃ (u : Value) (ss : List Sg) (p q : Pt) (h h' : Value), xs = [⟨u, 14, sgsL ss⟩, ⟨valP p h, 0, []⟩, ⟨valP q h', 0, []⟩] ∧ ss.length ≤ 9223372036854775807 ∧ K h 1 (intsL p.needs) ∧ K h' 1 (intsL q.needs) ∧ p.needs.length ≤ 9223372036854775807 ∧ q.needs.length ≤ 9223372036854775807 ∧ v = .tuple #[.bool (comS ss p q).1, .int .i64 (comS ss p q).2]) ∨
  (f = 20 ∧ ∃ (u : Value) (ss : List Sg) (p : Pt) (h : Value) (id : Int), xs = [⟨u, 14, sgsL ss⟩, ⟨valP p h, 0, []⟩, ⟨.int .i64 id, 0, []⟩] ∧ ss.length ≤ 9223372036854775807 ∧ K h 1 (intsL p.needs) ∧ p.needs.length ≤ 9223372036854775807 ∧ v = .tuple #[ptV (invS ss p id).1, .int .i64 (invS ss p id).2]) ∨
  (f = 21 ∧ ∃ (u : Value) (ss : List Sg) (p : Pt) (h : Value) (id : Int), xs = [⟨u, 14, sgsL ss⟩, ⟨valP p h, 0, []⟩, ⟨.int .i64 id, 0, []⟩] ∧ ss.length ≤ 9223372036854775807 ∧ K h 1 (intsL p.needs) ∧ p.needs.length ≤ 9223372036854775807 ∧ v = .tuple #[ptV (invS ss p id).1, .int .i64 (invS ss p id).2]) ∨
  (f = 16 ∧ ∃ (u u2 : Value) (ss tt : List Sg), xs = [⟨u, 14, sgsL ss⟩, ⟨u2, 14, sgsL tt⟩] ∧ ss.length ≤ 9223372036854775807 ∧ tt.length ≤ 9223372036854775807 ∧ v = .bool (decide (ss = tt))) ∨
  (f = 26 ∧ ∃ (p q : Pt) (h h' : Value), xs = [⟨valP p h, 0, []⟩, ⟨valP q h', 0, []⟩] ∧ K h 1 (intsL p.needs) ∧ K h' 1 (intsL q.needs) ∧ p.needs.length ≤ 9223372036854775807 ∧ q.needs.length ≤ 9223372036854775807 ∧ v = .bool (decide (p = q))) ∨
  (f = 11 ∧ ∃ (u : Value) (ss : List Sg), xs = [⟨u, 14, sgsL ss⟩] ∧ ss.length ≤ 9223372036854775807 ∧ v = .bool (fewS ss)) ∨
  (f = 27 ∧ ∃ (u : Value) (ss : List Sg), xs = [⟨u, 14, sgsL ss⟩] ∧ ss.length ≤ 9223372036854775807 ∧ v = .int .i64 (chkS ss)) ∨
  (f = 29 ∧ ∃ (x y : Sg) (f : Int), xs = [⟨valSg x, 0, []⟩, ⟨.int .i64 f, 0, []⟩, ⟨valSg y, 0, []⟩] ∧ v = valSg (setF x f y)) ∨
  (f = 10 ∧ xs = [] ∧ v = .bool true) ∨
  (f = 17 ∧ ∃ (u : Value) (pl : List Ph), xs = [⟨u, 19, pvL (pl.map ofPh)⟩] ∧ pl.length ≤ 9223372036854775807 ∧ (∀ q ∈ pl, q.1.needs.length = q.2.2.1 ∧ q.2.2.1 ≤ 9223372036854775807) ∧ v = .bool (smallS pl)) ∨
  (f = 28 ∧ ∃ (u : Value) (ss : List Sg) (id : Int), xs = [⟨u, 14, sgsL ss⟩, ⟨.int .i64 id, 0, []⟩] ∧ ss.length ≤ 9223372036854775807 ∧ v = .tuple #[valSg (findS ss id), .bool (isS ss id)])
def shpQ : FuncId → Option SX.Sh := fun f => if f = 12 then some (.tp [.sl 14, .one]) else if f = 13 then some (.tp [.sl 14, .one]) else if f = 18 then some (.tp [.sl 14, .one]) else if f = 19 then some (.tp [.sl 14, .one]) else if f = 14 then some .one else if f = 15 then some .one else if f = 22 then some (.tp [.one, .one]) else if f = 23 then some (.tp [.one, .one]) else if f = 24 then some (.tp [.one, .one]) else if f = 25 then some (.tp [.one, .one]) else if f = 20 then some (.tp [.agl (List.replicate 18 .one ++ [.sl 1]), .one]) else if f = 21 then some (.tp [.agl (List.replicate 18 .one ++ [.sl 1]), .one]) else if f = 16 then some .one else if f = 26 then some .one else if f = 11 then some .one else if f = 27 then some .one else if f = 29 then some (.ag 14) else if f = 10 then some .one else if f = 17 then some .one else if f = 28 then some (.tp [.ag 14, .one]) else none
noncomputable def cxQ (K A : Value → Nat → List Value → Prop) : SX.Cx := { P := Try.prog, R := RQ, shp := shpQ, K := K, A := A, ali := fun f => if f = 12 then [0] else if f = 13 then [0] else if f = 18 then [0] else if f = 19 then [0] else [] }
theorem liftM (K0 A0 : Value → Nat → List Value → Prop) {K : Value → Nat → List Value → Prop} {f : FuncId} {xs : List SX.Arg} {v : Value} {W : World} (hM : RM K f xs v → Calls Try.prog f (xs.map SX.Arg.v).toArray W fun e W' => Below W.heap.size W W' ∧ ∃ hdr, e = .returned (((cxM (fun _ _ _ => False) (fun _ _ _ => False)).sh f).fill hdr v) ∧ ∀ p sz, (p, sz) ∈ ((cxM (fun _ _ _ => False) (fun _ _ _ => False)).sh f).sls [] → SX.HdrOk (cxM (fun _ _ _ => False) (fun _ _ _ => False)) f xs W W' hdr sz (SX.cellsV (p.foldl SX.comp v))) (h : RM K f xs v) :
    Calls Try.prog f (xs.map SX.Arg.v).toArray W fun e W' => Below W.heap.size W W' ∧ ∃ hdr, e = .returned (((cxQ K0 A0).sh f).fill hdr v) ∧ ∀ p sz, (p, sz) ∈ ((cxQ K0 A0).sh f).sls [] → SX.HdrOk (cxQ K0 A0) f xs W W' hdr sz (SX.cellsV (p.foldl SX.comp v)) := by
  have hs : (cxQ K0 A0).shp f = (cxM (fun _ _ _ => False) (fun _ _ _ => False)).shp f := by
    rcases h with ⟨rfl, _⟩ | ⟨rfl, _⟩ | ⟨rfl, _⟩ | ⟨rfl, _⟩ | ⟨rfl, _⟩ | ⟨rfl, _⟩ | ⟨rfl, _⟩ | ⟨rfl, _⟩ | ⟨rfl, _⟩ | ⟨rfl, _⟩ | ⟨rfl, _⟩ | ⟨rfl, _⟩ | ⟨rfl, _⟩ | ⟨rfl, _⟩ | ⟨rfl, _⟩ | ⟨rfl, _⟩ | ⟨rfl, _⟩ <;> rfl
  have hsh : (cxQ K0 A0).sh f = (cxM (fun _ _ _ => False) (fun _ _ _ => False)).sh f := by unfold SX.Cx.sh; rw [hs]
  rw [hsh]
  exact hM h
theorem okQ (K A : Value → Nat → List Value → Prop) : (cxQ K A).Ok := by
  refine SX.Cx.ok_of (fun _ => rfl) ?_
  intro K f xs v W hR hrd hKf
  have hM := fun (h : RM K f xs v) => (okM (fun _ _ _ => False) (fun _ _ _ => False)).r K f xs v W h hrd hKf
  rcases hR with h | h | h | h | h | h | h | h | h | h | h | h | h | h | h | h | h | ⟨rfl, rfl, rfl⟩ | ⟨rfl, u, pl, rfl, hl, hq, rfl⟩ | ⟨rfl, u, ss, id, rfl, hl, rfl⟩
  · exact liftM K A hM (.inl h)
  · exact liftM K A hM (.inr (.inl h))
  · exact liftM K A hM (.inr (.inr (.inl h)))
  · exact liftM K A hM (.inr (.inr (.inr (.inl h))))
  · exact liftM K A hM (.inr (.inr (.inr (.inr (.inl h)))))
  · exact liftM K A hM (.inr (.inr (.inr (.inr (.inr (.inl h))))))
  · exact liftM K A hM (.inr (.inr (.inr (.inr (.inr (.inr (.inl h)))))))
  · exact liftM K A hM (.inr (.inr (.inr (.inr (.inr (.inr (.inr (.inl h))))))))
  · exact liftM K A hM (.inr (.inr (.inr (.inr (.inr (.inr (.inr (.inr (.inl h)))))))))
  · exact liftM K A hM (.inr (.inr (.inr (.inr (.inr (.inr (.inr (.inr (.inr (.inl h))))))))))
  · exact liftM K A hM (.inr (.inr (.inr (.inr (.inr (.inr (.inr (.inr (.inr (.inr (.inl h)))))))))))
  · exact liftM K A hM (.inr (.inr (.inr (.inr (.inr (.inr (.inr (.inr (.inr (.inr (.inr (.inl h))))))))))))
  · exact liftM K A hM (.inr (.inr (.inr (.inr (.inr (.inr (.inr (.inr (.inr (.inr (.inr (.inr (.inl h)))))))))))))
  · exact liftM K A hM (.inr (.inr (.inr (.inr (.inr (.inr (.inr (.inr (.inr (.inr (.inr (.inr (.inr (.inl h))))))))))))))
  · exact liftM K A hM (.inr (.inr (.inr (.inr (.inr (.inr (.inr (.inr (.inr (.inr (.inr (.inr (.inr (.inr (.inl h)))))))))))))))
  · exact liftM K A hM (.inr (.inr (.inr (.inr (.inr (.inr (.inr (.inr (.inr (.inr (.inr (.inr (.inr (.inr (.inr (.inl h))))))))))))))))
  · exact liftM K A hM (.inr (.inr (.inr (.inr (.inr (.inr (.inr (.inr (.inr (.inr (.inr (.inr (.inr (.inr (.inr (.inr (h)))))))))))))))))
  · exact (sane_any W).mono fun e w' h => SX.plainOk rfl h
  · obtain ⟨A', n', c', rfl, h2', h3', h4'⟩ := ph_arg (pl := pl) (by rw [← pv_of]; exact hrd ⟨u, 19, pvL (pl.map ofPh)⟩ (by simp))
    exact (small_any pl A' n' c' W h2' (by omega) h3' hq).mono fun e w' h => SX.plainOk rfl h
  · obtain ⟨A, n, c, rfl, h2, h3, h4⟩ := sgs_arg (hrd ⟨u, 14, sgsL ss⟩ (by simp))
    exact (find_any ss A n c id W h2 (by omega) h3).mono fun e w' h => SX.plainOk rfl h
theorem inv_len (ss : List Sg) (p : Pt) (id : Int) : (invS ss p id).1.needs.length ≤ 9223372036854775807 := by
  unfold invS
  split
  · split
    · simp [zeroPt]
    · unfold invP
      split
      · simp
      · split <;> simp
  · simp [zeroPt]
theorem ptV_fit (p : Pt) (k : Int) : SX.Sh.fit (.tp [.agl (List.replicate 18 .one ++ [.sl 1]), .one]) (.tuple #[ptV p, .int .i64 k]) = true := by
  have h2 : (intsL p.needs).all (·.oneCell') = true := by
    rw [List.all_eq_true]
    intro u hu
    obtain ⟨a, _, h⟩ := List.mem_flatMap.1 hu
    obtain rfl : u = .int .i64 a := by simpa [cellsI] using h
    rfl
  have h3 : SX.Sh.fit (.sl 1) (.agg (intsL p.needs).toArray) = true := by
    simp only [SX.Sh.fit, h2, Nat.mod_one]
    rfl
  have h4 : SX.Sh.fit (.agl (List.replicate 18 .one ++ [.sl 1])) (ptV p) = true := by
    show SX.Sh.fitL (List.replicate 18 .one ++ [.sl 1]) ([Value.int .i64 p.id, Value.int .i64 p.kind, Value.int .i64 p.sign, Value.int .i64 p.field] ++ cellsSg p.new ++ [Value.agg (intsL p.needs).toArray]) = true
    simp only [List.replicate, List.cons_append, List.nil_append, cellsSg, SX.Sh.fitL, h3]
    rfl
  show (SX.Sh.fit (.agl (List.replicate 18 .one ++ [.sl 1])) (ptV p) && (SX.Sh.fit .one (Value.int .i64 k) && true)) = true
  rw [h4]
  rfl
end Go.Proofs.Ytodlcjhefojibaa
