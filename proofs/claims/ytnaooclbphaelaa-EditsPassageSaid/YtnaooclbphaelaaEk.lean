/-
  Same, right, passage.
-/
import Derived.Test.YtnaooclbphaelaaEj
namespace Go.Proofs.Ytnaooclbphaelaa
set_option linter.unusedSimpArgs false
set_option linter.unusedVariables false
open Go Go.RowKit
def tree_same : SX.Tree :=
(.df (.len false) [(.x 0 [])] .one 
(.df (.len false) [(.x 1 [])] .one 
(.df (.bin .neq 3) [(.x 2 []), (.x 3 [])] .one 
(.br 4 [] 
(.ret (.k (.bool false)) [] []) 
(.loop [(.k (.int .i64 0))] [.one] 
(.df (.len false) [(.x 0 [])] .one 
(.df (.bin .lss 3) [(.x 5 []), (.x 6 [])] .one 
(.br 7 [] 
(.df .bnd [(.x 0 []), (.x 5 [])] .one 
(.df (.elems 14 0 14) [(.x 0 []), (.x 5 [])] (.ag 14) 
(.df .bnd [(.x 1 []), (.x 5 [])] .one 
(.df (.elems 14 0 14) [(.x 1 []), (.x 5 [])] (.ag 14) 
(.df (.eqr true 14 [(.i .i64), (.i .i64), (.i .i64), (.i .i64), (.i .i64), (.i .i64), (.i .i64), (.i .i64), (.i .i64), (.i .i64), (.i .i64), (.i .i64), (.i .i64), (.i .i64)]) [(.x 9 [0]), (.x 9 [1]), (.x 9 [2]), (.x 9 [3]), (.x 9 [4]), (.x 9 [5]), (.x 9 [6]), (.x 9 [7]), (.x 9 [8]), (.x 9 [9]), (.x 9 [10]), (.x 9 [11]), (.x 9 [12]), (.x 9 [13]), (.x 11 [0]), (.x 11 [1]), (.x 11 [2]), (.x 11 [3]), (.x 11 [4]), (.x 11 [5]), (.x 11 [6]), (.x 11 [7]), (.x 11 [8]), (.x 11 [9]), (.x 11 [10]), (.x 11 [11]), (.x 11 [12]), (.x 11 [13])] .one 
(.br 12 [] 
(.ret (.k (.bool false)) [] []) 
(.df (.bin .add 3) [(.x 5 []), (.k (.int .i64 1))] .one 
(.again 0 [(.x 13 [])])))))))) 
(.ret (.k (.bool true)) [] [])))))))))
def args_same : List SX.V := [.x 0 [], .x 1 []]
set_option maxRecDepth 100000 in
theorem run_same (K A : Value → Nat → List Value → Prop) : (SX.run (cx0 K A) ⟨fun _ => false, [⟨16, 4, [(.s 5, .one)]⟩], 0, 100⟩ 100000 0 (SX.door 16 Try.f16 args_same [.one, .one]) [.code (Try.f16.body.getD .skip), .top Try.f16]).strip = tree_same := by kernel_rfl
set_option maxRecDepth 100000 in
set_option maxHeartbeats 4000000 in
theorem same_any (ss tt : List Sg) (A A' : Option Addr) (n c n' c' : Nat) (w : World) (hr : Rd w 14 A n (sgsL ss)) (hn : n ≤ 9223372036854775807) (hc : n ≤ c) (hr' : Rd w 14 A' n' (sgsL tt)) (hn' : n' ≤ 9223372036854775807) (hc' : n' ≤ c') : Calls Try.prog 16 #[.slice A n c, .slice A' n' c'] w fun e w' => e = .returned (.bool (decide (ss = tt))) ∧ Below w.heap.size w w' := by
  refine SX.calls_of_run (C := cx0 (fun s sz cells => (s = .slice A n c ∧ sz = 14 ∧ cells = sgsL ss) ∨ (s = .slice A' n' c' ∧ sz = 14 ∧ cells = sgsL tt)) (fun _ _ _ => False)) (G := ⟨fun _ => false, [⟨16, 4, [(.s 5, .one)]⟩], 0, 100⟩) (args := args_same) (sh := [.one, .one]) (ρ := [.slice A n c, .slice A' n' c']) 100000 tree_same (cx0_ok _ _) Try.func16 rfl (run_same _ _) (by kernel_rfl) (by kernel_rfl) (by kernel_rfl) ?_ ?_
  · rintro W hW s sz cells (⟨rfl, rfl, rfl⟩ | ⟨rfl, rfl, rfl⟩)
    · exact ⟨hr.same0 hW, hc⟩
    · exact ⟨hr'.same0 hW, hc'⟩
  have hA := SX.rd_some hr
  have hln : ss.length = n := by have := hr.1; rw [sgsL_len] at this; omega
  have hA' := SX.rd_some hr'
  have hln' : tt.length = n' := by have := hr'.1; rw [sgsL_len] at this; omega
  unfold tree_same
  refine SX.VC_df (.int .i64 (((n : Nat) : Int))) (by intro α; show _ = _; kernel_rfl) (by kernel_rfl) ?_
  refine SX.VC_df (.int .i64 (((n' : Nat) : Int))) (by intro α; show _ = _; kernel_rfl) (by kernel_rfl) ?_
  refine SX.VC_df (.bool ((((n : Nat) : Int) : Int) != ((n' : Nat) : Int))) (by intro α; show _ = _; kernel_rfl) (by kernel_rfl) ?_
  refine SX.VC_br ((((n : Nat) : Int) : Int) != ((n' : Nat) : Int)) (by kernel_rfl) (fun h4 => ?_) (fun h4 => ?_)
  · try simp only [NRM] at h4
    exact SX.VC_ret fun α W _ _ hS => SX.ret_of hS (x := .bool false) (by kernel_rfl) (by congr 1; symm; first | (rw [decide_eq_false_iff_not]; rintro rfl; omega) | (rw [decide_eq_false_iff_not]; rintro rfl; rw [hy] at hz; cases hz; simp at h12) | (have hi : i = n := (by omega); subst hi; rw [List.take_of_length_le (by omega), List.take_of_length_le (by omega)] at htk; rw [decide_eq_true_eq]; exact htk))
  · try simp only [NRM] at h4
    refine SX.VC_loop (fun xs => ∃ i : Nat, xs = [.int .i64 (i : Int)] ∧ i ≤ n ∧ ss.take i = tt.take i) (fun xs => match xs with | [.int _ i] => n - i.toNat | _ => 0) (fun α => ⟨0, by kernel_rfl, by omega, by simp⟩) ?_
    rintro xs - ⟨i, rfl, hin, htk⟩
    refine SX.VC_df (.int .i64 (((n : Nat) : Int))) (by intro α; show _ = _; kernel_rfl) (by kernel_rfl) ?_
    refine SX.VC_df (.bool (decide (((i : Nat) : Int) < ((n : Nat) : Int)))) (by intro α; show _ = _; kernel_rfl) (by kernel_rfl) ?_
    refine SX.VC_br (decide (((i : Nat) : Int) < ((n : Nat) : Int))) (by kernel_rfl) (fun h7 => ?_) (fun h7 => ?_)
    · try simp only [NRM] at h7
      obtain ⟨y, hy⟩ : ∃ z, ss[i]? = some z := ⟨_, List.getElem?_eq_getElem (by omega)⟩
      obtain ⟨z, hz⟩ : ∃ z, tt[i]? = some z := ⟨_, List.getElem?_eq_getElem (by omega)⟩
      refine SX.VC_df (.bool true) (fun α => SX.extBnd (A := A) (n := n) (c := c) (j := i) hA (by kernel_rfl) (by kernel_rfl) (by omega)) (by kernel_rfl) ?_
      refine SX.VC_df (.agg (cellsSg y).toArray) (fun α => SX.extElems (f := cellsSg) (l := ss) (A := A) (n := n) (c := c) (j := i) (z := y) (fun _ => rfl) hA (by kernel_rfl) (by kernel_rfl) (by omega) (.inl ⟨rfl, rfl, rfl⟩) hy) (by kernel_rfl) ?_
      refine SX.VC_df (.bool true) (fun α => SX.extBnd (A := A') (n := n') (c := c') (j := i) hA' (by kernel_rfl) (by kernel_rfl) (by omega)) (by kernel_rfl) ?_
      refine SX.VC_df (.agg (cellsSg z).toArray) (fun α => SX.extElems (f := cellsSg) (l := tt) (A := A') (n := n') (c := c') (j := i) (z := z) (fun _ => rfl) hA' (by kernel_rfl) (by kernel_rfl) (by omega) (.inr ⟨rfl, rfl, rfl⟩) hz) (by kernel_rfl) ?_
      refine SX.VC_df (.bool (true ^^ decide (y = z))) (fun α => SX.eqr_rel (f := cellsSg) cellsSg_inj (y := y) (z := z) (by kernel_rfl) (by kernel_rfl) (by kernel_rfl)) (by kernel_rfl) ?_
      refine SX.VC_br (true ^^ decide (y = z)) (by kernel_rfl) (fun h12 => ?_) (fun h12 => ?_)
      · try simp only [NRM] at h12
        exact SX.VC_ret fun α W _ _ hS => SX.ret_of hS (x := .bool false) (by kernel_rfl) (by congr 1; symm; first | (rw [decide_eq_false_iff_not]; rintro rfl; omega) | (rw [decide_eq_false_iff_not]; rintro rfl; rw [hy] at hz; cases hz; simp at h12) | (have hi : i = n := (by omega); subst hi; rw [List.take_of_length_le (by omega), List.take_of_length_le (by omega)] at htk; rw [decide_eq_true_eq]; exact htk))
      · try simp only [NRM] at h12
        refine SX.VC_df (.int .i64 (((i + 1 : Nat) : Int))) (fun α => Eq.trans (b := some (.int .i64 (IntKind.i64.wrap ((i : Int) + 1)))) (by kernel_rfl) (by rw [show ((i + 1 : Nat) : Int) = (i : Int) + 1 by omega, wrap_i64 (by omega) (by omega)])) (by kernel_rfl) ?_
        exact SX.VC_again fun α => ⟨⟨i + 1, by kernel_rfl, by omega, by rw [List.take_add_one, List.take_add_one, htk, hy, hz, h12]⟩, cast (by kernel_rfl) (show n - ((i + 1 : Nat) : Int).toNat < n - (i : Int).toNat by omega)⟩
    · try simp only [NRM] at h7
      exact SX.VC_ret fun α W _ _ hS => SX.ret_of hS (x := .bool true) (by kernel_rfl) (by congr 1; symm; first | (rw [decide_eq_false_iff_not]; rintro rfl; omega) | (rw [decide_eq_false_iff_not]; rintro rfl; rw [hy] at hz; cases hz; simp at h12) | (have hi : i = n := (by omega); subst hi; rw [List.take_of_length_le (by omega), List.take_of_length_le (by omega)] at htk; rw [decide_eq_true_eq]; exact htk))
/-- what is known of lists of signs -/
def RC1 (f : FuncId) (xs : List SX.Arg) (v : Value) : Prop :=
  (f = 39 ∧ ∃ (u : Value) (ss : List Sg), xs = [⟨u, 14, sgsL ss⟩] ∧ ss.length ≤ 9223372036854775807 ∧ v = .bool (decide (okL ss)))
def shpC1 : FuncId → Option SX.Sh := fun f => if f = 39 then some .one else none
noncomputable def cxC1 (K A : Value → Nat → List Value → Prop) : SX.Cx := { P := Try.prog, R := fun _ => RC1, shp := shpC1, K := K, A := A }
theorem okC1 (K A : Value → Nat → List Value → Prop) : (cxC1 K A).Ok := by
  refine SX.Cx.ok_of (fun _ => rfl) ?_
  intro K f xs v W hR hrd hKf
  rcases hR with ⟨rfl, u, ss, rfl, hl, rfl⟩
  · have h1 := hrd ⟨u, 14, sgsL ss⟩ (by simp)
    unfold SX.Arg.rd at h1
    split at h1
    · rename_i A n cap hu
      have hu : u = .slice A n cap := hu
      subst hu
      have hn : n ≤ 9223372036854775807 := by have := h1.1.1; simp only [sgsL_len] at this; omega
      exact (right_any ss A n cap W h1.1 hn h1.2).mono fun e w' h => SX.plainOk rfl h
    · cases h1
theorem rem_i64 {x k : Int} (h : 0 ≤ x) (hk : 0 < k) (h2 : x ≤ 1000000) : SX.binV .rem (.int .i64 x) (.int .i64 k) = some (.int .i64 (x % k)) := by
  simp only [SX.binV, if_true]
  rw [if_neg (by omega), Int.tmod_eq_emod_of_nonneg h]
/-- an edit of a passage -/
def passE (kind role fr many : Int) : Ed := ⟨kind, role % 65, 0, fr, fr + many, 0, 0, 0, zeroSg⟩
def tree_lright : SX.Tree :=
(.df (.len false) [(.x 0 [])] .one 
(.df (.bin .leq 3) [(.x 1 []), (.k (.int .i64 200))] .one 
(.br 2 [] 
(.df (.call 39 [(.ext 14)]) [(.x 0 [])] .one 
(.ret (.x 3 []) [] [])) 
(.ret (.k (.bool false)) [] []))))
def args_lright : List SX.V := [.x 0 []]
set_option maxRecDepth 100000 in
theorem run_lright (K A : Value → Nat → List Value → Prop) : (SX.run (cxC1 K A) ⟨fun f => true, [], 0, 100⟩ 100000 0 (SX.door 20 Try.f20 args_lright [.one]) [.code (Try.f20.body.getD .skip), .top Try.f20]).strip = tree_lright := by kernel_rfl
set_option maxRecDepth 100000 in
set_option maxHeartbeats 4000000 in
theorem lright_any (ss : List Sg) (A : Option Addr) (n c : Nat) (w : World) (hr : Rd w 14 A n (sgsL ss)) (hn : n ≤ 9223372036854775807) (hc : n ≤ c) : Calls Try.prog 20 #[.slice A n c] w fun e w' => e = .returned (.bool (decide (ss.length ≤ 200 ∧ okL ss))) ∧ Below w.heap.size w w' := by
  refine SX.calls_of_run (C := cxC1 (fun s sz cells => s = .slice A n c ∧ sz = 14 ∧ cells = sgsL ss) (fun _ _ _ => False)) (G := ⟨fun f => true, [], 0, 100⟩) (args := args_lright) (sh := [.one]) (ρ := [.slice A n c]) 100000 tree_lright (okC1 _ _) Try.func20 rfl (run_lright _ _) (by kernel_rfl) (by kernel_rfl) (by kernel_rfl) ?_ ?_
  · rintro W hW s sz cells ⟨rfl, rfl, rfl⟩; exact ⟨hr.same0 hW, hc⟩
  have hln : ss.length = n := by have := hr.1; rw [sgsL_len] at this; omega
  have k1 : (fun s sz cells => s = .slice A n c ∧ sz = 14 ∧ cells = sgsL ss) (Value.slice A n c) 14 (sgsL ss) := ⟨rfl, rfl, rfl⟩
  unfold tree_lright
  refine SX.VC_df (.int .i64 (((n : Nat) : Int))) (by intro α; show _ = _; kernel_rfl) (by kernel_rfl) ?_
  refine SX.VC_df (.bool (decide (((n : Nat) : Int) ≤ 200))) (by intro α; show _ = _; kernel_rfl) (by kernel_rfl) ?_
  refine SX.VC_br (decide (((n : Nat) : Int) ≤ 200)) (by kernel_rfl) (fun h2 => ?_) (fun h2 => ?_)
  · try simp only [NRM] at h2
    refine SX.VC_df (.bool (decide (okL ss))) (fun α => ⟨[⟨.slice A n c, 14, sgsL ss⟩], ⟨by kernel_rfl, rfl, cast (by kernel_rfl) k1, trivial⟩, ⟨rfl, .slice A n c, ss, rfl, by omega, rfl⟩, SX.noAli rfl⟩) (by kernel_rfl) ?_
    exact SX.VC_ret fun α W _ _ hS => SX.ret_of hS (x := .bool (decide (okL ss))) (by kernel_rfl) (by by_cases hk : okL ss <;> by_cases h9 : ss.length ≤ 200 <;> simp [hk, h9] <;> omega)
  · try simp only [NRM] at h2
    exact SX.VC_ret fun α W _ _ hS => SX.ret_of hS (x := .bool false) (by kernel_rfl) (by by_cases hk : okL ss <;> by_cases h9 : ss.length ≤ 200 <;> simp [hk, h9] <;> omega)
def tree_passage : SX.Tree :=
(.df (.conv .i64) [(.x 1 [])] .one 
(.df (.bin .rem 3) [(.x 4 []), (.k (.int .i64 65))] .one 
(.df (.conv .i64) [(.x 2 [])] .one 
(.df (.conv .i64) [(.x 2 [])] .one 
(.df (.conv .i64) [(.x 3 [])] .one 
(.df (.bin .add 3) [(.x 7 []), (.x 8 [])] .one 
(.ret (.a [(.x 0 []), (.x 5 []), (.k (.int .i64 0)), (.x 6 []), (.x 9 []), (.k (.int .i64 0)), (.k (.int .i64 0)), (.k (.int .i64 0)), (.k (.int .i64 0)), (.k (.int .i64 0)), (.k (.int .i64 0)), (.k (.int .i64 0)), (.k (.int .i64 0)), (.k (.int .i64 0)), (.k (.int .i64 0)), (.k (.int .i64 0)), (.k (.int .i64 0)), (.k (.int .i64 0)), (.k (.int .i64 0)), (.k (.int .i64 0)), (.k (.int .i64 0)), (.k (.int .i64 0))]) [] [])))))))
def args_passage : List SX.V := [.x 0 [], .x 1 [], .x 2 [], .x 3 []]
set_option maxRecDepth 100000 in
theorem run_passage (K A : Value → Nat → List Value → Prop) : (SX.run (cx0 K A) ⟨fun f => true, [], 0, 100⟩ 100000 0 (SX.door 21 Try.f21 args_passage (List.replicate 4 .one)) [.code (Try.f21.body.getD .skip), .top Try.f21]).strip = tree_passage := by kernel_rfl
set_option maxRecDepth 100000 in
set_option maxHeartbeats 4000000 in
theorem passage_any (kind role fr many : Int) (w : World) (hrole0 : 0 ≤ role) (hrole1 : role ≤ 255) (hfr0 : 0 ≤ fr) (hfr1 : fr ≤ 255) (hmany0 : 0 ≤ many) (hmany1 : many ≤ 255) : Calls Try.prog 21 #[.int .i64 kind, .int .u8 role, .int .u8 fr, .int .u8 many] w fun e w' => e = .returned (valE (passE kind role fr many)) ∧ Below w.heap.size w w' := by
  refine SX.calls_of_run (C := cx0 (fun _ _ _ => False) (fun _ _ _ => False)) (G := ⟨fun f => true, [], 0, 100⟩) (args := args_passage) (sh := (List.replicate 4 .one)) (ρ := [.int .i64 kind, .int .u8 role, .int .u8 fr, .int .u8 many]) 100000 tree_passage (cx0_ok _ _) Try.func21 rfl (run_passage _ _) (by kernel_rfl) (by kernel_rfl) (by kernel_rfl) ?_ ?_
  · exact fun W _ => SX.Kf_none (fun _ _ _ h => h) W
  unfold tree_passage
  refine SX.VC_df (.int .i64 role) (fun α => Eq.trans (b := some (.int .i64 (IntKind.i64.wrap role))) (by kernel_rfl) (by rw [wrap_i64 (by omega) (by omega)])) (by kernel_rfl) ?_
  refine SX.VC_df (.int .i64 (role % 65)) (fun α => Eq.trans (b := SX.binV .rem (.int .i64 role) (.int .i64 65)) (by kernel_rfl) (rem_i64 (by omega) (by omega) (by omega))) (by kernel_rfl) ?_
  refine SX.VC_df (.int .i64 fr) (fun α => Eq.trans (b := some (.int .i64 (IntKind.i64.wrap fr))) (by kernel_rfl) (by rw [wrap_i64 (by omega) (by omega)])) (by kernel_rfl) ?_
  refine SX.VC_df (.int .i64 fr) (fun α => Eq.trans (b := some (.int .i64 (IntKind.i64.wrap fr))) (by kernel_rfl) (by rw [wrap_i64 (by omega) (by omega)])) (by kernel_rfl) ?_
  refine SX.VC_df (.int .i64 many) (fun α => Eq.trans (b := some (.int .i64 (IntKind.i64.wrap many))) (by kernel_rfl) (by rw [wrap_i64 (by omega) (by omega)])) (by kernel_rfl) ?_
  refine SX.VC_df (.int .i64 (fr + many)) (fun α => Eq.trans (b := some (.int .i64 (IntKind.i64.wrap (fr + many)))) (by kernel_rfl) (by rw [wrap_i64 (by omega) (by omega)])) (by kernel_rfl) ?_
  exact SX.VC_ret fun α W _ _ hS => SX.ret_of hS (x := valE (passE kind role fr many)) (by kernel_rfl) rfl
end Go.Proofs.Ytnaooclbphaelaa
