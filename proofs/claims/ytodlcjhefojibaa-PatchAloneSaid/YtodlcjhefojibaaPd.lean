/-
  Lists of signs: what is equal, and where a sign is.
-/
import Derived.Test.YtodlcjhefojibaaPc
namespace Go.Proofs.Ytodlcjhefojibaa
set_option linter.unusedSimpArgs false
set_option linter.unusedVariables false
open Go Go.RowKit
theorem cellsSg_inj (a b : Sg) (h : cellsSg a = cellsSg b) : a = b := by
  cases a; cases b
  simpa [cellsSg] using h
/-- where a sign with an ID is, or would be -/
def idx (ss : List Sg) (id : Int) : Nat := ss.findIdx fun s => decide (id ≤ s.id)
def there (ss : List Sg) (id : Int) : Bool := match ss[idx ss id]? with
  | some z => z.id == id
  | none => false
theorem idx_eq {ss : List Sg} {id : Int} {i : Nat} (hi : i ≤ ss.length) (h1 : ∀ k z, k < i → ss[k]? = some z → z.id < id) (h2 : ∀ z, ss[i]? = some z → id ≤ z.id) : idx ss id = i := by
  unfold idx
  by_cases h : i = ss.length
  · rw [h, List.findIdx_eq_length]
    intro x hx
    obtain ⟨k, hk⟩ := List.mem_iff_getElem?.1 hx
    have := h1 k x (by rw [h]; exact (List.getElem?_eq_some_iff.1 hk).1) hk
    simp only [decide_eq_false_iff_not]; omega
  · have hlt : i < ss.length := by omega
    rw [List.findIdx_eq hlt]
    refine ⟨by have := h2 _ (List.getElem?_eq_getElem hlt); simpa using this, fun j hj => ?_⟩
    have := h1 j _ hj (List.getElem?_eq_getElem (by omega))
    simp only [decide_eq_false_iff_not]; omega
theorem there_at {ss : List Sg} {id : Int} {i : Nat} {z : Sg} (h : idx ss id = i) (hz : ss[i]? = some z) : there ss id = (z.id == id) := by
  unfold there; rw [h, hz]
theorem there_end {ss : List Sg} {id : Int} {i : Nat} (h : idx ss id = i) (hz : ss.length ≤ i) : there ss id = false := by
  unfold there; rw [h, List.getElem?_eq_none hz]
/-- what is known of lists of signs -/
def RC1 (f : FuncId) (xs : List SX.Arg) (v : Value) : Prop :=
  (f = 49 ∧ ∃ (u : Value) (ss : List Sg), xs = [⟨u, 14, sgsL ss⟩] ∧ ss.length ≤ 9223372036854775807 ∧ v = .bool (decide (okL ss)))
def shpC1 : FuncId → Option SX.Sh := fun f => if f = 49 then some .one else none
noncomputable def cxC1 (K A : Value → Nat → List Value → Prop) : SX.Cx := { P := Try.prog, R := fun _ => RC1, shp := shpC1, K := K, A := A }
theorem okC1 (K A : Value → Nat → List Value → Prop) : (cxC1 K A).Ok := by
  refine SX.Cx.ok_of (fun _ => rfl) ?_
  intro K f xs v W hR hrd hKf
  rcases hR with ⟨rfl, u, ss, rfl, hl, rfl⟩
  · have h1 := hrd ⟨u, 14, sgsL ss⟩ (by simp)
    unfold SX.Arg.rd at h1
    split at h1
    · rename_i A n cap hu
      have hu : u = .slice A n cap := hu
      subst hu
      have hn : n ≤ 9223372036854775807 := by have := h1.1.1; simp only [sgsL_len] at this; omega
      exact (right_any ss A n cap W h1.1 hn h1.2).mono fun e w' h => SX.plainOk rfl h
    · cases h1
def tree_rcheckL : SX.Tree :=
(.df (.len false) [(.x 0 [])] .one 
(.df (.bin .gtr 3) [(.x 1 []), (.k (.int .i64 4096))] .one 
(.br 2 [] 
(.ret (.k (.int .i64 2)) [] []) 
(.df (.call 49 [(.ext 14)]) [(.x 0 [])] .one 
(.df .not [(.x 3 [])] .one 
(.br 4 [] 
(.ret (.k (.int .i64 360)) [] []) 
(.ret (.k (.int .i64 0)) [] [])))))))
def args_rcheckL : List SX.V := [.x 0 []]
set_option maxRecDepth 100000 in
theorem run_rcheckL (K A : Value → Nat → List Value → Prop) : (SX.run (cxC1 K A) ⟨fun _ => false, [], 0, 100⟩ 100000 0 (SX.door 33 Try.f33 args_rcheckL [.one]) [.code (Try.f33.body.getD .skip), .top Try.f33]).strip = tree_rcheckL := by kernel_rfl
set_option maxRecDepth 100000 in
set_option maxHeartbeats 4000000 in
theorem rcheckL_any (ss : List Sg) (A : Option Addr) (n c : Nat) (w : World) (hr : Rd w 14 A n (sgsL ss)) (hn : n ≤ 9223372036854775807) (hc : n ≤ c) : Calls Try.prog 33 #[.slice A n c] w fun e w' => e = .returned (.int .i64 (chkS ss)) ∧ Below w.heap.size w w' := by
  refine SX.calls_of_run (C := cxC1 (fun s sz cells => s = .slice A n c ∧ sz = 14 ∧ cells = sgsL ss) (fun _ _ _ => False)) (G := ⟨fun _ => false, [], 0, 100⟩) (args := args_rcheckL) (sh := [.one]) (ρ := [.slice A n c]) 100000 tree_rcheckL (okC1 _ _) Try.func33 rfl (run_rcheckL _ _) (by kernel_rfl) (by kernel_rfl) (by kernel_rfl) ?_ ?_
  · rintro W hW s sz cells ⟨rfl, rfl, rfl⟩; exact ⟨hr.same0 hW, hc⟩
  have hA := SX.rd_some hr
  have hln : ss.length = n := by have := hr.1; rw [sgsL_len] at this; omega
  unfold tree_rcheckL
  refine SX.VC_df (.int .i64 (((n : Nat) : Int))) (by intro α; show _ = _; kernel_rfl) (by kernel_rfl) ?_
  refine SX.VC_df (.bool (decide (((n : Nat) : Int) > 4096))) (by intro α; show _ = _; kernel_rfl) (by kernel_rfl) ?_
  refine SX.VC_br (decide (((n : Nat) : Int) > 4096)) (by kernel_rfl) (fun h2 => ?_) (fun h2 => ?_)
  · try simp only [NRM] at h2
    exact SX.VC_ret fun α W _ _ hS => SX.ret_of hS (x := .int .i64 2) (by kernel_rfl) (by first | (rw [chkS, if_pos (by omega)]) | (rw [chkS, if_neg (by omega), if_neg h4]) | (rw [chkS, if_neg (by omega), if_pos h4]))
  · try simp only [NRM] at h2
    refine SX.VC_df (.bool (decide (okL ss))) (fun α => ⟨[⟨.slice A n c, 14, sgsL ss⟩], ⟨by kernel_rfl, rfl, ⟨by kernel_rfl, rfl, rfl⟩, trivial⟩, ⟨rfl, .slice A n c, ss, rfl, by omega, rfl⟩, SX.noAli rfl⟩) (by kernel_rfl) ?_
    refine SX.VC_df (.bool (!(decide (okL ss)))) (by intro α; show _ = _; kernel_rfl) (by kernel_rfl) ?_
    refine SX.VC_br (!(decide (okL ss))) (by kernel_rfl) (fun h4 => ?_) (fun h4 => ?_)
    · try simp only [NRM] at h4
      exact SX.VC_ret fun α W _ _ hS => SX.ret_of hS (x := .int .i64 360) (by kernel_rfl) (by first | (rw [chkS, if_pos (by omega)]) | (rw [chkS, if_neg (by omega), if_neg h4]) | (rw [chkS, if_neg (by omega), if_pos h4]))
    · try simp only [NRM] at h4
      exact SX.VC_ret fun α W _ _ hS => SX.ret_of hS (x := .int .i64 0) (by kernel_rfl) (by first | (rw [chkS, if_pos (by omega)]) | (rw [chkS, if_neg (by omega), if_neg h4]) | (rw [chkS, if_neg (by omega), if_pos h4]))
def tree_At : SX.Tree :=
(.loop [(.k (.int .i64 0))] [.one] 
(.df (.len false) [(.x 0 [])] .one 
(.df (.bin .lss 3) [(.x 2 []), (.x 3 [])] .one 
(.br 4 [] 
(.df .bnd [(.x 0 []), (.x 2 [])] .one 
(.df .bnd [(.x 0 []), (.x 2 [])] .one 
(.df (.elem 14 0) [(.x 0 []), (.x 2 [])] .one 
(.df (.bin .geq 3) [(.x 7 []), (.x 1 [])] .one 
(.br 8 [] 
(.df .bnd [(.x 0 []), (.x 2 [])] .one 
(.df .bnd [(.x 0 []), (.x 2 [])] .one 
(.df (.elem 14 0) [(.x 0 []), (.x 2 [])] .one 
(.df (.bin .eql 3) [(.x 11 []), (.x 1 [])] .one 
(.ret (.t [(.x 2 []), (.x 12 [])]) [] []))))) 
(.df (.bin .add 3) [(.x 2 []), (.k (.int .i64 1))] .one 
(.again 0 [(.x 9 [])]))))))) 
(.df (.len false) [(.x 0 [])] .one 
(.ret (.t [(.x 5 []), (.k (.bool false))]) [] []))))))
def args_At : List SX.V := [.x 0 [], .x 1 []]
set_option maxRecDepth 100000 in
theorem run_At (K A : Value → Nat → List Value → Prop) : (SX.run (cx0 K A) ⟨fun _ => false, [⟨40, 2, [(.s 6, .one)]⟩], 0, 100⟩ 100000 0 (SX.door 40 Try.f40 args_At [.one, .one]) [.code (Try.f40.body.getD .skip), .top Try.f40]).strip = tree_At := by kernel_rfl
set_option maxRecDepth 100000 in
set_option maxHeartbeats 4000000 in
theorem At_any (ss : List Sg) (A : Option Addr) (n c : Nat) (id : Int) (w : World) (hr : Rd w 14 A n (sgsL ss)) (hn : n ≤ 9223372036854775807) (hc : n ≤ c) : Calls Try.prog 40 #[.slice A n c, .int .i64 id] w fun e w' => e = .returned (.tuple #[.int .i64 (idx ss id), .bool (there ss id)]) ∧ Below w.heap.size w w' := by
  refine SX.calls_of_run (C := cx0 (fun s sz cells => s = .slice A n c ∧ sz = 14 ∧ cells = sgsL ss) (fun _ _ _ => False)) (G := ⟨fun _ => false, [⟨40, 2, [(.s 6, .one)]⟩], 0, 100⟩) (args := args_At) (sh := [.one, .one]) (ρ := [.slice A n c, .int .i64 id]) 100000 tree_At (cx0_ok _ _) Try.func40 rfl (run_At _ _) (by kernel_rfl) (by kernel_rfl) (by kernel_rfl) ?_ ?_
  · rintro W hW s sz cells ⟨rfl, rfl, rfl⟩; exact ⟨hr.same0 hW, hc⟩
  have hA := SX.rd_some hr
  have hln : ss.length = n := by have := hr.1; rw [sgsL_len] at this; omega
  unfold tree_At
  refine SX.VC_loop (fun xs => ∃ i : Nat, xs = [.int .i64 (i : Int)] ∧ i ≤ n ∧ ∀ k z, k < i → ss[k]? = some z → z.id < id) (fun xs => match xs with | [.int _ i] => n - i.toNat | _ => 0) (fun α => ⟨0, by kernel_rfl, by omega, fun k z h => absurd h (by omega)⟩) ?_
  rintro xs - ⟨i, rfl, hin, hlt⟩
  refine SX.VC_df (.int .i64 (((n : Nat) : Int))) (by intro α; show _ = _; kernel_rfl) (by kernel_rfl) ?_
  refine SX.VC_df (.bool (decide (((i : Nat) : Int) < ((n : Nat) : Int)))) (by intro α; show _ = _; kernel_rfl) (by kernel_rfl) ?_
  refine SX.VC_br (decide (((i : Nat) : Int) < ((n : Nat) : Int))) (by kernel_rfl) (fun h4 => ?_) (fun h4 => ?_)
  · try simp only [NRM] at h4
    obtain ⟨z, hz⟩ : ∃ z, ss[i]? = some z := ⟨_, List.getElem?_eq_getElem (by omega)⟩
    refine SX.VC_df (.bool true) (fun α => SX.extBnd (A := A) (n := n) (c := c) (j := i) hA (by kernel_rfl) (by kernel_rfl) (by omega)) (by kernel_rfl) ?_
    refine SX.VC_df (.bool true) (fun α => SX.extBnd (A := A) (n := n) (c := c) (j := i) hA (by kernel_rfl) (by kernel_rfl) (by omega)) (by kernel_rfl) ?_
    refine SX.VC_df (.int .i64 z.id) (fun α => SX.extElem (o := 0) (v := .int .i64 z.id) (f := cellsSg) (l := ss) (A := A) (n := n) (c := c) (j := i) (z := z) (fun _ => rfl) hA (by kernel_rfl) (by kernel_rfl) (by omega) ⟨rfl, rfl, rfl⟩ hz (by decide) (by kernel_rfl)) (by kernel_rfl) ?_
    refine SX.VC_df (.bool (decide (z.id ≥ id))) (by intro α; show _ = _; kernel_rfl) (by kernel_rfl) ?_
    refine SX.VC_br (decide (z.id ≥ id)) (by kernel_rfl) (fun h8 => ?_) (fun h8 => ?_)
    · try simp only [NRM] at h8
      refine SX.VC_df (.bool true) (fun α => SX.extBnd (A := A) (n := n) (c := c) (j := i) hA (by kernel_rfl) (by kernel_rfl) (by omega)) (by kernel_rfl) ?_
      refine SX.VC_df (.bool true) (fun α => SX.extBnd (A := A) (n := n) (c := c) (j := i) hA (by kernel_rfl) (by kernel_rfl) (by omega)) (by kernel_rfl) ?_
      refine SX.VC_df (.int .i64 z.id) (fun α => SX.extElem (o := 0) (v := .int .i64 z.id) (f := cellsSg) (l := ss) (A := A) (n := n) (c := c) (j := i) (z := z) (fun _ => rfl) hA (by kernel_rfl) (by kernel_rfl) (by omega) ⟨rfl, rfl, rfl⟩ hz (by decide) (by kernel_rfl)) (by kernel_rfl) ?_
      refine SX.VC_df (.bool ((z.id : Int) == id)) (by intro α; show _ = _; kernel_rfl) (by kernel_rfl) ?_
      exact SX.VC_ret fun α W _ _ hS => SX.ret_of hS (x := .tuple #[.int .i64 (((i : Nat) : Int)), .bool ((z.id : Int) == id)]) (by kernel_rfl) (by first | (have q := idx_eq (id := id) (i := i) (by omega) hlt (fun y hy => by rw [hz] at hy; cases hy; omega); rw [there_at q hz, q]) | (have q := idx_eq (id := id) (i := n) (by omega) (fun k y hk hy => hlt k y (by omega) hy) (fun y hy => by rw [List.getElem?_eq_none (by omega)] at hy; cases hy); rw [there_end q (by omega), q]))
    · try simp only [NRM] at h8
      refine SX.VC_df (.int .i64 (((i + 1 : Nat) : Int))) (fun α => Eq.trans (b := some (.int .i64 (IntKind.i64.wrap ((i : Int) + 1)))) (by kernel_rfl) (by rw [show ((i + 1 : Nat) : Int) = (i : Int) + 1 by omega, wrap_i64 (by omega) (by omega)])) (by kernel_rfl) ?_
      exact SX.VC_again fun α => ⟨⟨i + 1, by kernel_rfl, by omega, fun k y hk hy => by
        by_cases he : k = i
        · subst he; rw [hz] at hy; cases hy; omega
        · exact hlt k y (by omega) hy⟩, cast (by kernel_rfl) (show n - ((i + 1 : Nat) : Int).toNat < n - (i : Int).toNat by omega)⟩
  · try simp only [NRM] at h4
    have hi : i = n := by omega
    refine SX.VC_df (.int .i64 (((n : Nat) : Int))) (by intro α; show _ = _; kernel_rfl) (by kernel_rfl) ?_
    exact SX.VC_ret fun α W _ _ hS => SX.ret_of hS (x := .tuple #[.int .i64 (((n : Nat) : Int)), .bool false]) (by kernel_rfl) (by first | (have q := idx_eq (id := id) (i := i) (by omega) hlt (fun y hy => by rw [hz] at hy; cases hy; omega); rw [there_at q hz, q]) | (have q := idx_eq (id := id) (i := n) (by omega) (fun k y hk hy => hlt k y (by omega) hy) (fun y hy => by rw [List.getElem?_eq_none (by omega)] at hy; cases hy); rw [there_end q (by omega), q]))
theorem srt_lt {ss : List Sg} (hs : okL ss) {i j : Nat} {y z : Sg} (hij : i < j) (hy : ss[i]? = some y) (hz : ss[j]? = some z) : y.id < z.id := by
  obtain ⟨h1, h2⟩ := List.getElem?_eq_some_iff.1 hy
  obtain ⟨h3, h4⟩ := List.getElem?_eq_some_iff.1 hz
  have := List.pairwise_iff_getElem.1 hs.2 i j h1 h3 hij
  rw [h2, h4] at this
  exact this
def tree_at : SX.Tree :=
(.df (.len false) [(.x 0 [])] .one 
(.loop [(.k (.int .i64 0)), (.x 2 [])] [.one, .one] 
(.df (.bin .lss 3) [(.x 3 []), (.x 4 [])] .one 
(.br 5 [] 
(.df (.bin .add 3) [(.x 3 []), (.x 4 [])] .one 
(.df (.conv .u64) [(.x 6 [])] .one 
(.df (.bin .shr 89) [(.x 7 []), (.k (.int .u64 1))] .one 
(.df (.conv .i64) [(.x 8 [])] .one 
(.df .bnd [(.x 0 []), (.x 9 [])] .one 
(.df (.elems 14 0 14) [(.x 0 []), (.x 9 [])] (.ag 14) 
(.df (.bin .sub 3) [(.x 11 [0]), (.x 1 [])] .one 
(.df (.bin .lss 3) [(.x 12 []), (.k (.int .i64 0))] .one 
(.br 13 [] 
(.df (.bin .add 3) [(.x 9 []), (.k (.int .i64 1))] .one 
(.again 0 [(.x 14 []), (.x 4 [])])) 
(.again 0 [(.x 3 []), (.x 9 [])])))))))))) 
(.df (.bin .lss 3) [(.x 3 []), (.x 2 [])] .one 
(.br 6 [] 
(.df .bnd [(.x 0 []), (.x 3 [])] .one 
(.df (.elems 14 0 14) [(.x 0 []), (.x 3 [])] (.ag 14) 
(.df (.bin .sub 3) [(.x 8 [0]), (.x 1 [])] .one 
(.df (.bin .eql 3) [(.x 9 []), (.k (.int .i64 0))] .one 
(.ret (.t [(.x 3 []), (.x 10 [])]) [] []))))) 
(.ret (.t [(.x 3 []), (.k (.bool false))]) [] [])))))))
def args_at : List SX.V := [.x 0 [], .x 1 []]
set_option maxRecDepth 100000 in
theorem run_at (K A : Value → Nat → List Value → Prop) : (SX.run (cx0 K A) ⟨fun _ => true, [⟨54, 3, [(.s 9, .one), (.s 10, .one)]⟩], 0, 100⟩ 100000 0 (SX.door 39 Try.f39 args_at [.one, .one]) [.code (Try.f39.body.getD .skip), .top Try.f39]).strip = tree_at := by kernel_rfl
set_option maxRecDepth 100000 in
set_option maxHeartbeats 4000000 in
theorem at_any (ss : List Sg) (A : Option Addr) (n c : Nat) (id : Int) (w : World) (hr : Rd w 14 A n (sgsL ss)) (hn : n ≤ 9007199254740992) (hc : n ≤ c) (hs : okL ss) (hi0 : 0 ≤ id) (hi1 : id ≤ 1048576) : Calls Try.prog 39 #[.slice A n c, .int .i64 id] w fun e w' => e = .returned (.tuple #[.int .i64 (idx ss id), .bool (there ss id)]) ∧ Below w.heap.size w w' := by
  refine SX.calls_of_run (C := cx0 (fun s sz cells => s = .slice A n c ∧ sz = 14 ∧ cells = sgsL ss) (fun _ _ _ => False)) (G := ⟨fun _ => true, [⟨54, 3, [(.s 9, .one), (.s 10, .one)]⟩], 0, 100⟩) (args := args_at) (sh := [.one, .one]) (ρ := [.slice A n c, .int .i64 id]) 100000 tree_at (cx0_ok _ _) Try.func39 rfl (run_at _ _) (by kernel_rfl) (by kernel_rfl) (by kernel_rfl) ?_ ?_
  · rintro W hW s sz cells ⟨rfl, rfl, rfl⟩; exact ⟨hr.same0 hW, hc⟩
  have hA := SX.rd_some hr
  have hln : ss.length = n := by have := hr.1; rw [sgsL_len] at this; omega
  unfold tree_at
  refine SX.VC_df (.int .i64 (((n : Nat) : Int))) (by intro α; show _ = _; kernel_rfl) (by kernel_rfl) ?_
  refine SX.VC_loop (fun xs => ∃ i j : Nat, xs = [.int .i64 (i : Int), .int .i64 (j : Int)] ∧ i ≤ j ∧ j ≤ n ∧ (∀ k z, k < i → ss[k]? = some z → z.id < id) ∧ ∀ k z, j ≤ k → ss[k]? = some z → id ≤ z.id) (fun xs => match xs with | [.int _ i, .int _ j] => j.toNat - i.toNat | _ => 0) (fun α => ⟨0, n, by kernel_rfl, by omega, by omega, fun k z h => absurd h (by omega), fun k z h hz => absurd (List.getElem?_eq_some_iff.1 hz).1 (by omega)⟩) ?_
  rintro xs - ⟨i, j, rfl, hij, hjn, hlt, hge⟩
  refine SX.VC_df (.bool (decide (((i : Nat) : Int) < ((j : Nat) : Int)))) (by intro α; show _ = _; kernel_rfl) (by kernel_rfl) ?_
  refine SX.VC_br (decide (((i : Nat) : Int) < ((j : Nat) : Int))) (by kernel_rfl) (fun h5 => ?_) (fun h5 => ?_)
  · try simp only [NRM] at h5
    refine SX.VC_df (.int .i64 (((i + j : Nat) : Int))) (fun α => Eq.trans (b := some (.int .i64 (IntKind.i64.wrap ((i : Int) + (j : Int))))) (by kernel_rfl) (by rw [show ((i + j : Nat) : Int) = (i : Int) + (j : Int) by omega, wrap_i64 (by omega) (by omega)])) (by kernel_rfl) ?_
    refine SX.VC_df (.int .u64 (((i + j : Nat) : Int))) (fun α => Eq.trans (b := some (.int .u64 (IntKind.u64.wrap ((i + j : Nat) : Int)))) (by kernel_rfl) (by rw [wrap_u64 (by omega) (by omega)])) (by kernel_rfl) ?_
    refine SX.VC_df (.int .u64 ((((i + j) / 2 : Nat) : Int))) (fun α => Eq.trans (b := SX.binV .shr (.int .u64 ((i + j : Nat) : Int)) (.int .u64 1)) (by kernel_rfl) SX.shr1_u64) (by kernel_rfl) ?_
    refine SX.VC_df (.int .i64 ((((i + j) / 2 : Nat) : Int))) (fun α => Eq.trans (b := some (.int .i64 (IntKind.i64.wrap (((i + j) / 2 : Nat) : Int)))) (by kernel_rfl) (by rw [wrap_i64 (by omega) (by omega)])) (by kernel_rfl) ?_
    obtain ⟨z, hz⟩ : ∃ z, ss[(i + j) / 2]? = some z := ⟨_, List.getElem?_eq_getElem (by omega)⟩
    have hzb : 0 ≤ z.id ∧ z.id ≤ 1048576 := (hs.1 z (List.mem_of_getElem? hz)).1
    refine SX.VC_df (.bool true) (fun α => SX.extBnd (A := A) (n := n) (c := c) (j := (i + j) / 2) hA (by kernel_rfl) (by kernel_rfl) (by omega)) (by kernel_rfl) ?_
    refine SX.VC_df (.agg (cellsSg z).toArray) (fun α => SX.extElems (f := cellsSg) (l := ss) (A := A) (n := n) (c := c) (j := (i + j) / 2) (z := z) (fun _ => rfl) hA (by kernel_rfl) (by kernel_rfl) (by omega) ⟨rfl, rfl, rfl⟩ hz) (by kernel_rfl) ?_
    refine SX.VC_df (.int .i64 (z.id - id)) (fun α => Eq.trans (b := some (.int .i64 (IntKind.i64.wrap (z.id - id)))) (by kernel_rfl) (by rw [wrap_i64 (by omega) (by omega)])) (by kernel_rfl) ?_
    refine SX.VC_df (.bool (decide (z.id - id < 0))) (by intro α; show _ = _; kernel_rfl) (by kernel_rfl) ?_
    refine SX.VC_br (decide (z.id - id < 0)) (by kernel_rfl) (fun h13 => ?_) (fun h13 => ?_)
    · try simp only [NRM] at h13
      refine SX.VC_df (.int .i64 ((((i + j) / 2 + 1 : Nat) : Int))) (fun α => Eq.trans (b := some (.int .i64 (IntKind.i64.wrap ((((i + j) / 2 : Nat) : Int) + 1)))) (by kernel_rfl) (by rw [show (((i + j) / 2 + 1 : Nat) : Int) = (((i + j) / 2 : Nat) : Int) + 1 by omega, wrap_i64 (by omega) (by omega)])) (by kernel_rfl) ?_
      exact SX.VC_again fun α => ⟨⟨(i + j) / 2 + 1, j, by kernel_rfl, by omega, hjn, fun k y hk hy => by
        by_cases he : k = (i + j) / 2
        · subst he; rw [hz] at hy; cases hy; omega
        · have := srt_lt hs (show k < (i + j) / 2 by omega) hy hz
          omega, hge⟩, cast (by kernel_rfl) (show (j : Int).toNat - (((i + j) / 2 + 1 : Nat) : Int).toNat < (j : Int).toNat - (i : Int).toNat by omega)⟩
    · try simp only [NRM] at h13
      exact SX.VC_again fun α => ⟨⟨i, (i + j) / 2, by kernel_rfl, by omega, by omega, hlt, fun k y hk hy => by
        by_cases he : k = (i + j) / 2
        · subst he; rw [hz] at hy; cases hy; omega
        · have := srt_lt hs (show (i + j) / 2 < k by omega) hz hy
          omega⟩, cast (by kernel_rfl) (show (((i + j) / 2 : Nat) : Int).toNat - (i : Int).toNat < (j : Int).toNat - (i : Int).toNat by omega)⟩
  · try simp only [NRM] at h5
    refine SX.VC_df (.bool (decide (((i : Nat) : Int) < ((n : Nat) : Int)))) (by intro α; show _ = _; kernel_rfl) (by kernel_rfl) ?_
    refine SX.VC_br (decide (((i : Nat) : Int) < ((n : Nat) : Int))) (by kernel_rfl) (fun h6 => ?_) (fun h6 => ?_)
    · try simp only [NRM] at h6
      have hij2 : i = j := by omega
      obtain ⟨z, hz⟩ : ∃ z, ss[i]? = some z := ⟨_, List.getElem?_eq_getElem (by omega)⟩
      have hzb : 0 ≤ z.id ∧ z.id ≤ 1048576 := (hs.1 z (List.mem_of_getElem? hz)).1
      refine SX.VC_df (.bool true) (fun α => SX.extBnd (A := A) (n := n) (c := c) (j := i) hA (by kernel_rfl) (by kernel_rfl) (by omega)) (by kernel_rfl) ?_
      refine SX.VC_df (.agg (cellsSg z).toArray) (fun α => SX.extElems (f := cellsSg) (l := ss) (A := A) (n := n) (c := c) (j := i) (z := z) (fun _ => rfl) hA (by kernel_rfl) (by kernel_rfl) (by omega) ⟨rfl, rfl, rfl⟩ hz) (by kernel_rfl) ?_
      refine SX.VC_df (.int .i64 (z.id - id)) (fun α => Eq.trans (b := some (.int .i64 (IntKind.i64.wrap (z.id - id)))) (by kernel_rfl) (by rw [wrap_i64 (by omega) (by omega)])) (by kernel_rfl) ?_
      refine SX.VC_df (.bool ((z.id - id : Int) == 0)) (by intro α; show _ = _; kernel_rfl) (by kernel_rfl) ?_
      exact SX.VC_ret fun α W _ _ hS => SX.ret_of hS (x := .tuple #[.int .i64 (((i : Nat) : Int)), .bool ((z.id - id : Int) == 0)]) (by kernel_rfl) (by first | (have q := idx_eq (id := id) (i := i) (by omega) hlt (fun y hy => hge i y (by omega) hy); rw [there_at q hz, q, show (z.id - id == 0) = (z.id == id) from (by rw [Bool.eq_iff_iff]; simp only [beq_iff_eq]; omega)]) | (have q := idx_eq (id := id) (i := i) (by omega) hlt (fun y hy => hge i y (by omega) hy); rw [there_end q (by omega), q]))
    · try simp only [NRM] at h6
      exact SX.VC_ret fun α W _ _ hS => SX.ret_of hS (x := .tuple #[.int .i64 (((i : Nat) : Int)), .bool false]) (by kernel_rfl) (by first | (have q := idx_eq (id := id) (i := i) (by omega) hlt (fun y hy => hge i y (by omega) hy); rw [there_at q hz, q, show (z.id - id == 0) = (z.id == id) from (by rw [Bool.eq_iff_iff]; simp only [beq_iff_eq]; omega)]) | (have q := idx_eq (id := id) (i := i) (by omega) hlt (fun y hy => hge i y (by omega) hy); rw [there_end q (by omega), q]))
def tree_same : SX.Tree :=
(.df (.len false) [(.x 0 [])] .one 
(.df (.len false) [(.x 1 [])] .one 
(.df (.bin .neq 3) [(.x 2 []), (.x 3 [])] .one 
(.br 4 [] 
(.ret (.k (.bool false)) [] []) 
(.loop [(.k (.int .i64 0))] [.one] 
(.df (.len false) [(.x 0 [])] .one 
(.df (.bin .lss 3) [(.x 5 []), (.x 6 [])] .one 
(.br 7 [] 
(.df .bnd [(.x 0 []), (.x 5 [])] .one 
(.df (.elems 14 0 14) [(.x 0 []), (.x 5 [])] (.ag 14) 
(.df .bnd [(.x 1 []), (.x 5 [])] .one 
(.df (.elems 14 0 14) [(.x 1 []), (.x 5 [])] (.ag 14) 
(.df (.eqr true 14 [(.i .i64), (.i .i64), (.i .i64), (.i .i64), (.i .i64), (.i .i64), (.i .i64), (.i .i64), (.i .i64), (.i .i64), (.i .i64), (.i .i64), (.i .i64), (.i .i64)]) [(.x 9 [0]), (.x 9 [1]), (.x 9 [2]), (.x 9 [3]), (.x 9 [4]), (.x 9 [5]), (.x 9 [6]), (.x 9 [7]), (.x 9 [8]), (.x 9 [9]), (.x 9 [10]), (.x 9 [11]), (.x 9 [12]), (.x 9 [13]), (.x 11 [0]), (.x 11 [1]), (.x 11 [2]), (.x 11 [3]), (.x 11 [4]), (.x 11 [5]), (.x 11 [6]), (.x 11 [7]), (.x 11 [8]), (.x 11 [9]), (.x 11 [10]), (.x 11 [11]), (.x 11 [12]), (.x 11 [13])] .one 
(.br 12 [] 
(.ret (.k (.bool false)) [] []) 
(.df (.bin .add 3) [(.x 5 []), (.k (.int .i64 1))] .one 
(.again 0 [(.x 13 [])])))))))) 
(.ret (.k (.bool true)) [] [])))))))))
def args_same : List SX.V := [.x 0 [], .x 1 []]
set_option maxRecDepth 100000 in
theorem run_same (K A : Value → Nat → List Value → Prop) : (SX.run (cx0 K A) ⟨fun _ => false, [⟨16, 4, [(.s 5, .one)]⟩], 0, 100⟩ 100000 0 (SX.door 16 Try.f16 args_same [.one, .one]) [.code (Try.f16.body.getD .skip), .top Try.f16]).strip = tree_same := by kernel_rfl
set_option maxRecDepth 100000 in
set_option maxHeartbeats 4000000 in
theorem same_any (ss tt : List Sg) (A A' : Option Addr) (n c n' c' : Nat) (w : World) (hr : Rd w 14 A n (sgsL ss)) (hn : n ≤ 9223372036854775807) (hc : n ≤ c) (hr' : Rd w 14 A' n' (sgsL tt)) (hn' : n' ≤ 9223372036854775807) (hc' : n' ≤ c') : Calls Try.prog 16 #[.slice A n c, .slice A' n' c'] w fun e w' => e = .returned (.bool (decide (ss = tt))) ∧ Below w.heap.size w w' := by
  refine SX.calls_of_run (C := cx0 (fun s sz cells => (s = .slice A n c ∧ sz = 14 ∧ cells = sgsL ss) ∨ (s = .slice A' n' c' ∧ sz = 14 ∧ cells = sgsL tt)) (fun _ _ _ => False)) (G := ⟨fun _ => false, [⟨16, 4, [(.s 5, .one)]⟩], 0, 100⟩) (args := args_same) (sh := [.one, .one]) (ρ := [.slice A n c, .slice A' n' c']) 100000 tree_same (cx0_ok _ _) Try.func16 rfl (run_same _ _) (by kernel_rfl) (by kernel_rfl) (by kernel_rfl) ?_ ?_
  · rintro W hW s sz cells (⟨rfl, rfl, rfl⟩ | ⟨rfl, rfl, rfl⟩)
    · exact ⟨hr.same0 hW, hc⟩
    · exact ⟨hr'.same0 hW, hc'⟩
  have hA := SX.rd_some hr
  have hln : ss.length = n := by have := hr.1; rw [sgsL_len] at this; omega
  have hA' := SX.rd_some hr'
  have hln' : tt.length = n' := by have := hr'.1; rw [sgsL_len] at this; omega
  unfold tree_same
  refine SX.VC_df (.int .i64 (((n : Nat) : Int))) (by intro α; show _ = _; kernel_rfl) (by kernel_rfl) ?_
  refine SX.VC_df (.int .i64 (((n' : Nat) : Int))) (by intro α; show _ = _; kernel_rfl) (by kernel_rfl) ?_
  refine SX.VC_df (.bool ((((n : Nat) : Int) : Int) != ((n' : Nat) : Int))) (by intro α; show _ = _; kernel_rfl) (by kernel_rfl) ?_
  refine SX.VC_br ((((n : Nat) : Int) : Int) != ((n' : Nat) : Int)) (by kernel_rfl) (fun h4 => ?_) (fun h4 => ?_)
  · try simp only [NRM] at h4
    exact SX.VC_ret fun α W _ _ hS => SX.ret_of hS (x := .bool false) (by kernel_rfl) (by congr 1; symm; first | (rw [decide_eq_false_iff_not]; rintro rfl; omega) | (rw [decide_eq_false_iff_not]; rintro rfl; rw [hy] at hz; cases hz; simp at h12) | (have hi : i = n := (by omega); subst hi; rw [List.take_of_length_le (by omega), List.take_of_length_le (by omega)] at htk; rw [decide_eq_true_eq]; exact htk))
  · try simp only [NRM] at h4
    refine SX.VC_loop (fun xs => ∃ i : Nat, xs = [.int .i64 (i : Int)] ∧ i ≤ n ∧ ss.take i = tt.take i) (fun xs => match xs with | [.int _ i] => n - i.toNat | _ => 0) (fun α => ⟨0, by kernel_rfl, by omega, by simp⟩) ?_
    rintro xs - ⟨i, rfl, hin, htk⟩
    refine SX.VC_df (.int .i64 (((n : Nat) : Int))) (by intro α; show _ = _; kernel_rfl) (by kernel_rfl) ?_
    refine SX.VC_df (.bool (decide (((i : Nat) : Int) < ((n : Nat) : Int)))) (by intro α; show _ = _; kernel_rfl) (by kernel_rfl) ?_
    refine SX.VC_br (decide (((i : Nat) : Int) < ((n : Nat) : Int))) (by kernel_rfl) (fun h7 => ?_) (fun h7 => ?_)
    · try simp only [NRM] at h7
      obtain ⟨y, hy⟩ : ∃ z, ss[i]? = some z := ⟨_, List.getElem?_eq_getElem (by omega)⟩
      obtain ⟨z, hz⟩ : ∃ z, tt[i]? = some z := ⟨_, List.getElem?_eq_getElem (by omega)⟩
      refine SX.VC_df (.bool true) (fun α => SX.extBnd (A := A) (n := n) (c := c) (j := i) hA (by kernel_rfl) (by kernel_rfl) (by omega)) (by kernel_rfl) ?_
      refine SX.VC_df (.agg (cellsSg y).toArray) (fun α => SX.extElems (f := cellsSg) (l := ss) (A := A) (n := n) (c := c) (j := i) (z := y) (fun _ => rfl) hA (by kernel_rfl) (by kernel_rfl) (by omega) (.inl ⟨rfl, rfl, rfl⟩) hy) (by kernel_rfl) ?_
      refine SX.VC_df (.bool true) (fun α => SX.extBnd (A := A') (n := n') (c := c') (j := i) hA' (by kernel_rfl) (by kernel_rfl) (by omega)) (by kernel_rfl) ?_
      refine SX.VC_df (.agg (cellsSg z).toArray) (fun α => SX.extElems (f := cellsSg) (l := tt) (A := A') (n := n') (c := c') (j := i) (z := z) (fun _ => rfl) hA' (by kernel_rfl) (by kernel_rfl) (by omega) (.inr ⟨rfl, rfl, rfl⟩) hz) (by kernel_rfl) ?_
      refine SX.VC_df (.bool (true ^^ decide (y = z))) (fun α => SX.eqr_rel (f := cellsSg) cellsSg_inj (y := y) (z := z) (by kernel_rfl) (by kernel_rfl) (by kernel_rfl)) (by kernel_rfl) ?_
      refine SX.VC_br (true ^^ decide (y = z)) (by kernel_rfl) (fun h12 => ?_) (fun h12 => ?_)
      · try simp only [NRM] at h12
        exact SX.VC_ret fun α W _ _ hS => SX.ret_of hS (x := .bool false) (by kernel_rfl) (by congr 1; symm; first | (rw [decide_eq_false_iff_not]; rintro rfl; omega) | (rw [decide_eq_false_iff_not]; rintro rfl; rw [hy] at hz; cases hz; simp at h12) | (have hi : i = n := (by omega); subst hi; rw [List.take_of_length_le (by omega), List.take_of_length_le (by omega)] at htk; rw [decide_eq_true_eq]; exact htk))
      · try simp only [NRM] at h12
        refine SX.VC_df (.int .i64 (((i + 1 : Nat) : Int))) (fun α => Eq.trans (b := some (.int .i64 (IntKind.i64.wrap ((i : Int) + 1)))) (by kernel_rfl) (by rw [show ((i + 1 : Nat) : Int) = (i : Int) + 1 by omega, wrap_i64 (by omega) (by omega)])) (by kernel_rfl) ?_
        exact SX.VC_again fun α => ⟨⟨i + 1, by kernel_rfl, by omega, by rw [List.take_add_one, List.take_add_one, htk, hy, hz, h12]⟩, cast (by kernel_rfl) (show n - ((i + 1 : Nat) : Int).toNat < n - (i : Int).toNat by omega)⟩
    · try simp only [NRM] at h7
      exact SX.VC_ret fun α W _ _ hS => SX.ret_of hS (x := .bool true) (by kernel_rfl) (by congr 1; symm; first | (rw [decide_eq_false_iff_not]; rintro rfl; omega) | (rw [decide_eq_false_iff_not]; rintro rfl; rw [hy] at hz; cases hz; simp at h12) | (have hi : i = n := (by omega); subst hi; rw [List.take_of_length_le (by omega), List.take_of_length_le (by omega)] at htk; rw [decide_eq_true_eq]; exact htk))
end Go.Proofs.Ytodlcjhefojibaa
