/-
  Lists of signs: the program and the specification.
-/
import Derived.Test.YtnaooclbphaelaaPb
namespace Go.Proofs.Ytnaooclbphaelaa
set_option linter.unusedSimpArgs false
set_option linter.unusedVariables false
open Go Go.RowKit
def sgsL (l : List Sg) : List Value := l.flatMap cellsSg
/-- are signs in form -/
def okL (ss : List Sg) : Prop := (∀ s ∈ ss, s.ok) ∧ ss.Pairwise (fun a b => a.id < b.id)
instance (ss : List Sg) : Decidable (okL ss) := by unfold okL; infer_instance
def chkS (ss : List Sg) : Int := if 4096 < ss.length then 2 else if okL ss then 0 else 360
theorem okL_take {ss : List Sg} {i : Nat} {z : Sg} (hz : ss[i]? = some z) : okL (ss.take (i + 1)) ↔ okL (ss.take i) ∧ z.ok ∧ ∀ y, 0 < i → ss[i - 1]? = some y → y.id < z.id := by
  have hi := (List.getElem?_eq_some_iff.1 hz).1
  rw [List.take_add_one, hz]
  simp only [Option.toList_some, okL, List.mem_append, List.mem_singleton, List.pairwise_append, List.pairwise_singleton, forall_eq]
  constructor
  · rintro ⟨h1, h2, -, h3⟩
    refine ⟨⟨fun s hs => h1 s (.inl hs), h2⟩, h1 z (.inr rfl), fun y hi0 hy => h3 y ?_⟩
    exact List.mem_of_getElem? (i := i - 1) (by rw [List.getElem?_take, if_pos (by omega)]; exact hy)
  · rintro ⟨⟨h1, h2⟩, h3, h4⟩
    refine ⟨fun s hs => hs.elim (h1 s) fun e => e ▸ h3, h2, trivial, fun y hy => ?_⟩
    obtain ⟨j, hj⟩ := List.mem_iff_getElem?.1 hy
    rw [List.getElem?_take] at hj
    split at hj
    · rename_i hji
      have hl := h4 (ss[i - 1]'(by omega)) (by omega) (List.getElem?_eq_getElem _)
      by_cases he : j = i - 1
      · subst he
        rw [List.getElem?_eq_getElem (by omega)] at hj
        have hj : ss[i - 1]'(by omega) = y := by simpa using hj
        rw [← hj]; exact hl
      · have := List.pairwise_iff_getElem.1 h2 j (i - 1) (by simp; omega) (by simp; omega) (by omega)
        simp only [List.getElem_take] at this
        obtain ⟨hjl, hj⟩ := List.getElem?_eq_some_iff.1 hj
        rw [hj] at this
        omega
    · cases hj
theorem okL_le {ss : List Sg} (h : okL ss) (i : Nat) : okL (ss.take i) := ⟨fun s hs => h.1 s (List.mem_of_mem_take hs), h.2.sublist (List.take_sublist _ _)⟩
theorem okL_no {ss : List Sg} {i : Nat} (h : ¬ okL (ss.take i)) : ¬ okL ss := fun hk => h (okL_le hk i)
theorem okL_z {ss : List Sg} {i : Nat} {z : Sg} (hz : ss[i]? = some z) (h : ¬ z.ok) : ¬ okL ss := fun hk => h (hk.1 z (List.mem_of_getElem? hz))
theorem okL_yz {ss : List Sg} {i : Nat} {y z : Sg} (hz : ss[i]? = some z) (hi : 0 < i) (hy : ss[i - 1]? = some y) (h : ¬ y.id < z.id) : ¬ okL ss := okL_no (i := i + 1) fun hk => h (((okL_take hz).1 hk).2.2 y hi hy)
theorem sgsL_len (l : List Sg) : (sgsL l).length = l.length * 14 := SX.flat_len (f := cellsSg) (fun _ => rfl) l
/-- what is known of a sign -/
def RC0 (f : FuncId) (xs : List SX.Arg) (v : Value) : Prop :=
  (f = 86 ∧ ∃ s : Sg, xs = [⟨valSg s, 0, []⟩] ∧ v = .bool (decide s.ok)) ∨
  (f = 38 ∧ ∃ s : Sg, xs = [⟨valSg s, 0, []⟩] ∧ v = .bool (decide s.ok))
def shpC0 : FuncId → Option SX.Sh := fun f => if f = 86 then some .one else if f = 38 then some .one else none
noncomputable def cxC0 (K A : Value → Nat → List Value → Prop) : SX.Cx := { P := Try.prog, R := fun _ => RC0, shp := shpC0, K := K, A := A }
theorem okC0 (K A : Value → Nat → List Value → Prop) : (cxC0 K A).Ok := by
  refine SX.Cx.ok_of (fun _ => rfl) ?_
  intro K f xs v W hR hrd hKf
  rcases hR with ⟨rfl, s, rfl, rfl⟩ | ⟨rfl, s, rfl, rfl⟩
  · exact (Form_any s W).mono fun e w' h => SX.plainOk rfl h
  · exact (form_any s W).mono fun e w' h => SX.plainOk rfl h
def tree_echeck : SX.Tree :=
(.df (.len false) [(.x 0 [])] .one 
(.df (.bin .gtr 3) [(.x 1 []), (.k (.int .i64 4096))] .one 
(.br 2 [] 
(.ret (.k (.int .i64 2)) [] []) 
(.df (.len false) [(.x 0 [])] .one 
(.loop [(.k (.int .i64 0))] [.one] 
(.df (.bin .lss 3) [(.x 4 []), (.x 3 [])] .one 
(.br 5 [] 
(.df .bnd [(.x 0 []), (.x 4 [])] .one 
(.df (.elems 14 0 14) [(.x 0 []), (.x 4 [])] (.ag 14) 
(.df (.call 38 [.no]) [(.a [(.x 7 [0]), (.x 7 [1]), (.x 7 [2]), (.x 7 [3]), (.x 7 [4]), (.x 7 [5]), (.x 7 [6]), (.x 7 [7]), (.x 7 [8]), (.x 7 [9]), (.x 7 [10]), (.x 7 [11]), (.x 7 [12]), (.x 7 [13])])] .one 
(.df .not [(.x 8 [])] .one 
(.br 9 [] 
(.ret (.k (.int .i64 360)) [] []) 
(.df (.bin .gtr 3) [(.x 4 []), (.k (.int .i64 0))] .one 
(.br 10 [] 
(.df (.bin .sub 3) [(.x 4 []), (.k (.int .i64 1))] .one 
(.df .bnd [(.x 0 []), (.x 11 [])] .one 
(.df .bnd [(.x 0 []), (.x 11 [])] .one 
(.df (.elem 14 0) [(.x 0 []), (.x 11 [])] .one 
(.df (.bin .geq 3) [(.x 14 []), (.x 7 [0])] .one 
(.br 15 [] 
(.ret (.k (.int .i64 360)) [] []) 
(.df (.bin .add 3) [(.x 4 []), (.k (.int .i64 1))] .one 
(.again 0 [(.x 16 [])])))))))) 
(.df (.bin .add 3) [(.x 4 []), (.k (.int .i64 1))] .one 
(.again 0 [(.x 11 [])]))))))))) 
(.ret (.k (.int .i64 0)) [] []))))))))
def args_echeck : List SX.V := [.x 0 []]
set_option maxRecDepth 100000 in
theorem run_echeck (K A : Value → Nat → List Value → Prop) : (SX.run (cxC0 K A) ⟨fun _ => false, [⟨14, 4, [(.s 10, .one)]⟩], 0, 100⟩ 100000 0 (SX.door 14 Try.f14 args_echeck [.one]) [.code (Try.f14.body.getD .skip), .top Try.f14]).strip = tree_echeck := by kernel_rfl
set_option maxRecDepth 100000 in
set_option maxHeartbeats 4000000 in
theorem echeck_any (ss : List Sg) (A : Option Addr) (n c : Nat) (w : World) (hr : Rd w 14 A n (sgsL ss)) (hn : n ≤ 9223372036854775807) (hc : n ≤ c) : Calls Try.prog 14 #[.slice A n c] w fun e w' => e = .returned (.int .i64 (chkS ss)) ∧ Below w.heap.size w w' := by
  refine SX.calls_of_run (C := cxC0 (fun s sz cells => s = .slice A n c ∧ sz = 14 ∧ cells = sgsL ss) (fun _ _ _ => False)) (G := ⟨fun _ => false, [⟨14, 4, [(.s 10, .one)]⟩], 0, 100⟩) (args := args_echeck) (sh := [.one]) (ρ := [.slice A n c]) 100000 tree_echeck (okC0 _ _) Try.func14 rfl (run_echeck _ _) (by kernel_rfl) (by kernel_rfl) (by kernel_rfl) ?_ ?_
  · rintro W hW s sz cells ⟨rfl, rfl, rfl⟩; exact ⟨hr.same0 hW, hc⟩
  have hA := SX.rd_some hr
  have hln : ss.length = n := by have := hr.1; rw [sgsL_len] at this; omega
  unfold tree_echeck
  refine SX.VC_df (.int .i64 (((n : Nat) : Int))) (by intro α; show _ = _; kernel_rfl) (by kernel_rfl) ?_
  refine SX.VC_df (.bool (decide (((n : Nat) : Int) > 4096))) (by intro α; show _ = _; kernel_rfl) (by kernel_rfl) ?_
  refine SX.VC_br (decide (((n : Nat) : Int) > 4096)) (by kernel_rfl) (fun h2 => ?_) (fun h2 => ?_)
  · try simp only [NRM] at h2
    exact SX.VC_ret fun α W _ _ hS => SX.ret_of hS (x := .int .i64 2) (by kernel_rfl) (by first | (rw [chkS, if_pos (by omega)]) | (rw [chkS, if_neg (by omega), if_neg (okL_z hz h9)]) | (rw [chkS, if_neg (by omega), if_neg (okL_yz hz (by omega) hy (by omega))]) | (have hi : i = n := (by omega); subst hi; rw [List.take_of_length_le (by omega)] at hok; rw [chkS, if_neg (by omega), if_pos hok]))
  · try simp only [NRM] at h2
    refine SX.VC_df (.int .i64 (((n : Nat) : Int))) (by intro α; show _ = _; kernel_rfl) (by kernel_rfl) ?_
    refine SX.VC_loop (fun xs => ∃ i : Nat, xs = [.int .i64 (i : Int)] ∧ i ≤ n ∧ okL (ss.take i)) (fun xs => match xs with | [.int _ i] => n - i.toNat | _ => 0) (fun α => ⟨0, by kernel_rfl, by omega, by simp [okL]⟩) ?_
    rintro xs - ⟨i, rfl, hin, hok⟩
    refine SX.VC_df (.bool (decide (((i : Nat) : Int) < ((n : Nat) : Int)))) (by intro α; show _ = _; kernel_rfl) (by kernel_rfl) ?_
    refine SX.VC_br (decide (((i : Nat) : Int) < ((n : Nat) : Int))) (by kernel_rfl) (fun h5 => ?_) (fun h5 => ?_)
    · try simp only [NRM] at h5
      obtain ⟨z, hz⟩ : ∃ z, ss[i]? = some z := ⟨_, List.getElem?_eq_getElem (by omega)⟩
      refine SX.VC_df (.bool true) (fun α => SX.extBnd (A := A) (n := n) (c := c) (j := i) hA (by kernel_rfl) (by kernel_rfl) (by omega)) (by kernel_rfl) ?_
      refine SX.VC_df (.agg (cellsSg z).toArray) (fun α => SX.extElems (f := cellsSg) (l := ss) (A := A) (n := n) (c := c) (j := i) (z := z) (fun _ => rfl) hA (by kernel_rfl) (by kernel_rfl) (by omega) ⟨rfl, rfl, rfl⟩ hz) (by kernel_rfl) ?_
      refine SX.VC_df (.bool (decide z.ok)) (fun α => ⟨[⟨valSg z, 0, []⟩], ⟨by kernel_rfl, by kernel_rfl, trivial⟩, .inr (⟨rfl, z, rfl, rfl⟩), SX.noAli rfl⟩) (by kernel_rfl) ?_
      refine SX.VC_df (.bool (!(decide z.ok))) (by intro α; show _ = _; kernel_rfl) (by kernel_rfl) ?_
      refine SX.VC_br (!(decide z.ok)) (by kernel_rfl) (fun h9 => ?_) (fun h9 => ?_)
      · try simp only [NRM] at h9
        exact SX.VC_ret fun α W _ _ hS => SX.ret_of hS (x := .int .i64 360) (by kernel_rfl) (by first | (rw [chkS, if_pos (by omega)]) | (rw [chkS, if_neg (by omega), if_neg (okL_z hz h9)]) | (rw [chkS, if_neg (by omega), if_neg (okL_yz hz (by omega) hy (by omega))]) | (have hi : i = n := (by omega); subst hi; rw [List.take_of_length_le (by omega)] at hok; rw [chkS, if_neg (by omega), if_pos hok]))
      · try simp only [NRM] at h9
        refine SX.VC_df (.bool (decide (((i : Nat) : Int) > 0))) (by intro α; show _ = _; kernel_rfl) (by kernel_rfl) ?_
        refine SX.VC_br (decide (((i : Nat) : Int) > 0)) (by kernel_rfl) (fun h10 => ?_) (fun h10 => ?_)
        · try simp only [NRM] at h10
          obtain ⟨y, hy⟩ : ∃ y, ss[i - 1]? = some y := ⟨_, List.getElem?_eq_getElem (by omega)⟩
          refine SX.VC_df (.int .i64 (((i - 1 : Nat) : Int))) (fun α => Eq.trans (b := some (.int .i64 (IntKind.i64.wrap ((i : Int) - 1)))) (by kernel_rfl) (by rw [show ((i - 1 : Nat) : Int) = (i : Int) - 1 by omega, wrap_i64 (by omega) (by omega)])) (by kernel_rfl) ?_
          refine SX.VC_df (.bool true) (fun α => SX.extBnd (A := A) (n := n) (c := c) (j := i - 1) hA (by kernel_rfl) (by kernel_rfl) (by omega)) (by kernel_rfl) ?_
          refine SX.VC_df (.bool true) (fun α => SX.extBnd (A := A) (n := n) (c := c) (j := i - 1) hA (by kernel_rfl) (by kernel_rfl) (by omega)) (by kernel_rfl) ?_
          refine SX.VC_df (.int .i64 y.id) (fun α => SX.extElem (o := 0) (v := .int .i64 y.id) (f := cellsSg) (l := ss) (A := A) (n := n) (c := c) (j := i - 1) (z := y) (fun _ => rfl) hA (by kernel_rfl) (by kernel_rfl) (by omega) ⟨rfl, rfl, rfl⟩ hy (by decide) (by kernel_rfl)) (by kernel_rfl) ?_
          refine SX.VC_df (.bool (decide (y.id ≥ z.id))) (by intro α; show _ = _; kernel_rfl) (by kernel_rfl) ?_
          refine SX.VC_br (decide (y.id ≥ z.id)) (by kernel_rfl) (fun h15 => ?_) (fun h15 => ?_)
          · try simp only [NRM] at h15
            exact SX.VC_ret fun α W _ _ hS => SX.ret_of hS (x := .int .i64 360) (by kernel_rfl) (by first | (rw [chkS, if_pos (by omega)]) | (rw [chkS, if_neg (by omega), if_neg (okL_z hz h9)]) | (rw [chkS, if_neg (by omega), if_neg (okL_yz hz (by omega) hy (by omega))]) | (have hi : i = n := (by omega); subst hi; rw [List.take_of_length_le (by omega)] at hok; rw [chkS, if_neg (by omega), if_pos hok]))
          · try simp only [NRM] at h15
            refine SX.VC_df (.int .i64 (((i + 1 : Nat) : Int))) (fun α => Eq.trans (b := some (.int .i64 (IntKind.i64.wrap ((i : Int) + 1)))) (by kernel_rfl) (by rw [show ((i + 1 : Nat) : Int) = (i : Int) + 1 by omega, wrap_i64 (by omega) (by omega)])) (by kernel_rfl) ?_
            exact SX.VC_again fun α => ⟨⟨i + 1, by kernel_rfl, by omega, (okL_take hz).2 ⟨hok, h9, fun y' h0 hy' => by rw [hy] at hy'; cases hy'; omega⟩⟩, cast (by kernel_rfl) (show n - ((i + 1 : Nat) : Int).toNat < n - (i : Int).toNat by omega)⟩
        · try simp only [NRM] at h10
          refine SX.VC_df (.int .i64 (((i + 1 : Nat) : Int))) (fun α => Eq.trans (b := some (.int .i64 (IntKind.i64.wrap ((i : Int) + 1)))) (by kernel_rfl) (by rw [show ((i + 1 : Nat) : Int) = (i : Int) + 1 by omega, wrap_i64 (by omega) (by omega)])) (by kernel_rfl) ?_
          exact SX.VC_again fun α => ⟨⟨i + 1, by kernel_rfl, by omega, (okL_take hz).2 ⟨hok, h9, fun y' h0 hy' => absurd h0 (by omega)⟩⟩, cast (by kernel_rfl) (show n - ((i + 1 : Nat) : Int).toNat < n - (i : Int).toNat by omega)⟩
    · try simp only [NRM] at h5
      exact SX.VC_ret fun α W _ _ hS => SX.ret_of hS (x := .int .i64 0) (by kernel_rfl) (by first | (rw [chkS, if_pos (by omega)]) | (rw [chkS, if_neg (by omega), if_neg (okL_z hz h9)]) | (rw [chkS, if_neg (by omega), if_neg (okL_yz hz (by omega) hy (by omega))]) | (have hi : i = n := (by omega); subst hi; rw [List.take_of_length_le (by omega)] at hok; rw [chkS, if_neg (by omega), if_pos hok]))
def tree_right : SX.Tree :=
(.loop [(.k (.int .i64 0))] [.one] 
(.df (.len false) [(.x 0 [])] .one 
(.df (.bin .lss 3) [(.x 1 []), (.x 2 [])] .one 
(.br 3 [] 
(.df .bnd [(.x 0 []), (.x 1 [])] .one 
(.df (.elems 14 0 14) [(.x 0 []), (.x 1 [])] (.ag 14) 
(.df (.call 86 [.no]) [(.a [(.x 5 [0]), (.x 5 [1]), (.x 5 [2]), (.x 5 [3]), (.x 5 [4]), (.x 5 [5]), (.x 5 [6]), (.x 5 [7]), (.x 5 [8]), (.x 5 [9]), (.x 5 [10]), (.x 5 [11]), (.x 5 [12]), (.x 5 [13])])] .one 
(.df .not [(.x 6 [])] .one 
(.br 7 [] 
(.ret (.k (.bool false)) [] []) 
(.df (.bin .gtr 3) [(.x 1 []), (.k (.int .i64 0))] .one 
(.br 8 [] 
(.df .bnd [(.x 0 []), (.x 1 [])] .one 
(.df .bnd [(.x 0 []), (.x 1 [])] .one 
(.df (.elem 14 0) [(.x 0 []), (.x 1 [])] .one 
(.df (.bin .sub 3) [(.x 1 []), (.k (.int .i64 1))] .one 
(.df .bnd [(.x 0 []), (.x 12 [])] .one 
(.df .bnd [(.x 0 []), (.x 12 [])] .one 
(.df (.elem 14 0) [(.x 0 []), (.x 12 [])] .one 
(.df (.bin .leq 3) [(.x 11 []), (.x 15 [])] .one 
(.br 16 [] 
(.ret (.k (.bool false)) [] []) 
(.df (.bin .add 3) [(.x 1 []), (.k (.int .i64 1))] .one 
(.again 0 [(.x 17 [])]))))))))))) 
(.df (.bin .add 3) [(.x 1 []), (.k (.int .i64 1))] .one 
(.again 0 [(.x 9 [])]))))))))) 
(.ret (.k (.bool true)) [] [])))))
def args_right : List SX.V := [.x 0 []]
set_option maxRecDepth 100000 in
theorem run_right (K A : Value → Nat → List Value → Prop) : (SX.run (cxC0 K A) ⟨fun _ => false, [⟨39, 2, [(.s 3, .one)]⟩], 0, 100⟩ 100000 0 (SX.door 39 Try.f39 args_right [.one]) [.code (Try.f39.body.getD .skip), .top Try.f39]).strip = tree_right := by kernel_rfl
set_option maxRecDepth 100000 in
set_option maxHeartbeats 4000000 in
theorem right_any (ss : List Sg) (A : Option Addr) (n c : Nat) (w : World) (hr : Rd w 14 A n (sgsL ss)) (hn : n ≤ 9223372036854775807) (hc : n ≤ c) : Calls Try.prog 39 #[.slice A n c] w fun e w' => e = .returned (.bool (decide (okL ss))) ∧ Below w.heap.size w w' := by
  refine SX.calls_of_run (C := cxC0 (fun s sz cells => s = .slice A n c ∧ sz = 14 ∧ cells = sgsL ss) (fun _ _ _ => False)) (G := ⟨fun _ => false, [⟨39, 2, [(.s 3, .one)]⟩], 0, 100⟩) (args := args_right) (sh := [.one]) (ρ := [.slice A n c]) 100000 tree_right (okC0 _ _) Try.func39 rfl (run_right _ _) (by kernel_rfl) (by kernel_rfl) (by kernel_rfl) ?_ ?_
  · rintro W hW s sz cells ⟨rfl, rfl, rfl⟩; exact ⟨hr.same0 hW, hc⟩
  have hA := SX.rd_some hr
  have hln : ss.length = n := by have := hr.1; rw [sgsL_len] at this; omega
  unfold tree_right
  refine SX.VC_loop (fun xs => ∃ i : Nat, xs = [.int .i64 (i : Int)] ∧ i ≤ n ∧ okL (ss.take i)) (fun xs => match xs with | [.int _ i] => n - i.toNat | _ => 0) (fun α => ⟨0, by kernel_rfl, by omega, by simp [okL]⟩) ?_
  rintro xs - ⟨i, rfl, hin, hok⟩
  refine SX.VC_df (.int .i64 (((n : Nat) : Int))) (by intro α; show _ = _; kernel_rfl) (by kernel_rfl) ?_
  refine SX.VC_df (.bool (decide (((i : Nat) : Int) < ((n : Nat) : Int)))) (by intro α; show _ = _; kernel_rfl) (by kernel_rfl) ?_
  refine SX.VC_br (decide (((i : Nat) : Int) < ((n : Nat) : Int))) (by kernel_rfl) (fun h3 => ?_) (fun h3 => ?_)
  · try simp only [NRM] at h3
    obtain ⟨z, hz⟩ : ∃ z, ss[i]? = some z := ⟨_, List.getElem?_eq_getElem (by omega)⟩
    refine SX.VC_df (.bool true) (fun α => SX.extBnd (A := A) (n := n) (c := c) (j := i) hA (by kernel_rfl) (by kernel_rfl) (by omega)) (by kernel_rfl) ?_
    refine SX.VC_df (.agg (cellsSg z).toArray) (fun α => SX.extElems (f := cellsSg) (l := ss) (A := A) (n := n) (c := c) (j := i) (z := z) (fun _ => rfl) hA (by kernel_rfl) (by kernel_rfl) (by omega) ⟨rfl, rfl, rfl⟩ hz) (by kernel_rfl) ?_
    refine SX.VC_df (.bool (decide z.ok)) (fun α => ⟨[⟨valSg z, 0, []⟩], ⟨by kernel_rfl, by kernel_rfl, trivial⟩, .inl ⟨rfl, z, rfl, rfl⟩, SX.noAli rfl⟩) (by kernel_rfl) ?_
    refine SX.VC_df (.bool (!(decide z.ok))) (by intro α; show _ = _; kernel_rfl) (by kernel_rfl) ?_
    refine SX.VC_br (!(decide z.ok)) (by kernel_rfl) (fun h7 => ?_) (fun h7 => ?_)
    · try simp only [NRM] at h7
      exact SX.VC_ret fun α W _ _ hS => SX.ret_of hS (x := .bool false) (by kernel_rfl) (by congr 1; symm; first | (rw [decide_eq_false_iff_not]; exact okL_z hz h7) | (rw [decide_eq_false_iff_not]; exact okL_yz hz (by omega) hy (by omega)) | (have hi : i = n := (by omega); subst hi; rw [List.take_of_length_le (by omega)] at hok; rw [decide_eq_true_eq]; exact hok))
    · try simp only [NRM] at h7
      refine SX.VC_df (.bool (decide (((i : Nat) : Int) > 0))) (by intro α; show _ = _; kernel_rfl) (by kernel_rfl) ?_
      refine SX.VC_br (decide (((i : Nat) : Int) > 0)) (by kernel_rfl) (fun h8 => ?_) (fun h8 => ?_)
      · try simp only [NRM] at h8
        refine SX.VC_df (.bool true) (fun α => SX.extBnd (A := A) (n := n) (c := c) (j := i) hA (by kernel_rfl) (by kernel_rfl) (by omega)) (by kernel_rfl) ?_
        refine SX.VC_df (.bool true) (fun α => SX.extBnd (A := A) (n := n) (c := c) (j := i) hA (by kernel_rfl) (by kernel_rfl) (by omega)) (by kernel_rfl) ?_
        refine SX.VC_df (.int .i64 z.id) (fun α => SX.extElem (o := 0) (v := .int .i64 z.id) (f := cellsSg) (l := ss) (A := A) (n := n) (c := c) (j := i) (z := z) (fun _ => rfl) hA (by kernel_rfl) (by kernel_rfl) (by omega) ⟨rfl, rfl, rfl⟩ hz (by decide) (by kernel_rfl)) (by kernel_rfl) ?_
        obtain ⟨y, hy⟩ : ∃ y, ss[i - 1]? = some y := ⟨_, List.getElem?_eq_getElem (by omega)⟩
        refine SX.VC_df (.int .i64 (((i - 1 : Nat) : Int))) (fun α => Eq.trans (b := some (.int .i64 (IntKind.i64.wrap ((i : Int) - 1)))) (by kernel_rfl) (by rw [show ((i - 1 : Nat) : Int) = (i : Int) - 1 by omega, wrap_i64 (by omega) (by omega)])) (by kernel_rfl) ?_
        refine SX.VC_df (.bool true) (fun α => SX.extBnd (A := A) (n := n) (c := c) (j := i - 1) hA (by kernel_rfl) (by kernel_rfl) (by omega)) (by kernel_rfl) ?_
        refine SX.VC_df (.bool true) (fun α => SX.extBnd (A := A) (n := n) (c := c) (j := i - 1) hA (by kernel_rfl) (by kernel_rfl) (by omega)) (by kernel_rfl) ?_
        refine SX.VC_df (.int .i64 y.id) (fun α => SX.extElem (o := 0) (v := .int .i64 y.id) (f := cellsSg) (l := ss) (A := A) (n := n) (c := c) (j := i - 1) (z := y) (fun _ => rfl) hA (by kernel_rfl) (by kernel_rfl) (by omega) ⟨rfl, rfl, rfl⟩ hy (by decide) (by kernel_rfl)) (by kernel_rfl) ?_
        refine SX.VC_df (.bool (decide (z.id ≤ y.id))) (by intro α; show _ = _; kernel_rfl) (by kernel_rfl) ?_
        refine SX.VC_br (decide (z.id ≤ y.id)) (by kernel_rfl) (fun h16 => ?_) (fun h16 => ?_)
        · try simp only [NRM] at h16
          exact SX.VC_ret fun α W _ _ hS => SX.ret_of hS (x := .bool false) (by kernel_rfl) (by congr 1; symm; first | (rw [decide_eq_false_iff_not]; exact okL_z hz h7) | (rw [decide_eq_false_iff_not]; exact okL_yz hz (by omega) hy (by omega)) | (have hi : i = n := (by omega); subst hi; rw [List.take_of_length_le (by omega)] at hok; rw [decide_eq_true_eq]; exact hok))
        · try simp only [NRM] at h16
          refine SX.VC_df (.int .i64 (((i + 1 : Nat) : Int))) (fun α => Eq.trans (b := some (.int .i64 (IntKind.i64.wrap ((i : Int) + 1)))) (by kernel_rfl) (by rw [show ((i + 1 : Nat) : Int) = (i : Int) + 1 by omega, wrap_i64 (by omega) (by omega)])) (by kernel_rfl) ?_
          exact SX.VC_again fun α => ⟨⟨i + 1, by kernel_rfl, by omega, (okL_take hz).2 ⟨hok, h7, fun y' h0 hy' => by rw [hy] at hy'; cases hy'; omega⟩⟩, cast (by kernel_rfl) (show n - ((i + 1 : Nat) : Int).toNat < n - (i : Int).toNat by omega)⟩
      · try simp only [NRM] at h8
        refine SX.VC_df (.int .i64 (((i + 1 : Nat) : Int))) (fun α => Eq.trans (b := some (.int .i64 (IntKind.i64.wrap ((i : Int) + 1)))) (by kernel_rfl) (by rw [show ((i + 1 : Nat) : Int) = (i : Int) + 1 by omega, wrap_i64 (by omega) (by omega)])) (by kernel_rfl) ?_
        exact SX.VC_again fun α => ⟨⟨i + 1, by kernel_rfl, by omega, (okL_take hz).2 ⟨hok, h7, fun y' h0 hy' => absurd h0 (by omega)⟩⟩, cast (by kernel_rfl) (show n - ((i + 1 : Nat) : Int).toNat < n - (i : Int).toNat by omega)⟩
  · try simp only [NRM] at h3
    exact SX.VC_ret fun α W _ _ hS => SX.ret_of hS (x := .bool true) (by kernel_rfl) (by congr 1; symm; first | (rw [decide_eq_false_iff_not]; exact okL_z hz h7) | (rw [decide_eq_false_iff_not]; exact okL_yz hz (by omega) hy (by omega)) | (have hi : i = n := (by omega); subst hi; rw [List.take_of_length_le (by omega)] at hok; rw [decide_eq_true_eq]; exact hok))
end Go.Proofs.Ytnaooclbphaelaa
