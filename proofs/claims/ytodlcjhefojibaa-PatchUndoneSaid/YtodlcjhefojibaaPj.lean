/-
  Equal patches.
-/
import Derived.Test.YtodlcjhefojibaaPi
namespace Go.Proofs.Ytodlcjhefojibaa
set_option linter.unusedSimpArgs false
set_option linter.unusedVariables false
open Go Go.RowKit
def tree_same37 : SX.Tree :=
(.df (.bin .neq 3) [(.x 0 []), (.x 19 [])] .one 
(.br 38 [] 
(.ret (.k (.bool false)) [] []) 
(.df (.bin .neq 3) [(.x 1 []), (.x 20 [])] .one 
(.br 39 [] 
(.ret (.k (.bool false)) [] []) 
(.df (.bin .neq 3) [(.x 2 []), (.x 21 [])] .one 
(.br 40 [] 
(.ret (.k (.bool false)) [] []) 
(.df (.bin .neq 3) [(.x 3 []), (.x 22 [])] .one 
(.br 41 [] 
(.ret (.k (.bool false)) [] []) 
(.df (.eqr true 14 [(.i .i64), (.i .i64), (.i .i64), (.i .i64), (.i .i64), (.i .i64), (.i .i64), (.i .i64), (.i .i64), (.i .i64), (.i .i64), (.i .i64), (.i .i64), (.i .i64)]) [(.x 4 []), (.x 5 []), (.x 6 []), (.x 7 []), (.x 8 []), (.x 9 []), (.x 10 []), (.x 11 []), (.x 12 []), (.x 13 []), (.x 14 []), (.x 15 []), (.x 16 []), (.x 17 []), (.x 23 []), (.x 24 []), (.x 25 []), (.x 26 []), (.x 27 []), (.x 28 []), (.x 29 []), (.x 30 []), (.x 31 []), (.x 32 []), (.x 33 []), (.x 34 []), (.x 35 []), (.x 36 [])] .one 
(.br 42 [] 
(.ret (.k (.bool false)) [] []) 
(.df (.len false) [(.x 18 [])] .one 
(.df (.len false) [(.x 37 [])] .one 
(.df (.bin .neq 3) [(.x 43 []), (.x 44 [])] .one 
(.br 45 [] 
(.ret (.k (.bool false)) [] []) 
(.loop [(.k (.int .i64 0))] [.one] 
(.df (.len false) [(.x 18 [])] .one 
(.df (.bin .lss 3) [(.x 46 []), (.x 47 [])] .one 
(.br 48 [] 
(.df .bnd [(.x 18 []), (.x 46 [])] .one 
(.df (.elem 1 0) [(.x 18 []), (.x 46 [])] .one 
(.df .bnd [(.x 37 []), (.x 46 [])] .one 
(.df (.elem 1 0) [(.x 37 []), (.x 46 [])] .one 
(.df (.bin .neq 3) [(.x 50 []), (.x 52 [])] .one 
(.br 53 [] 
(.ret (.k (.bool false)) [] []) 
(.df (.bin .add 3) [(.x 46 []), (.k (.int .i64 1))] .one 
(.again 0 [(.x 54 [])])))))))) 
(.ret (.k (.bool true)) [] [])))))))))))))))))))
def args_same37 : List SX.V := [.a ((List.range 19).map fun j => .x j []), .a ((List.range 19).map fun j => .x (19 + j) [])]
set_option maxRecDepth 100000 in
theorem run_same37 (K A : Value → Nat → List Value → Prop) : (SX.run (cx0 K A) ⟨fun _ => false, [⟨26, 4, [(.s 5, .one)]⟩], 0, 100⟩ 100000 0 (SX.door 26 Try.f26 args_same37 (List.replicate 38 .one)) [.code (Try.f26.body.getD .skip), .top Try.f26]).strip = tree_same37 := by kernel_rfl
set_option maxRecDepth 100000 in
set_option maxHeartbeats 4000000 in
theorem same37_any (p q : Pt) (B : Option Addr) (m d : Nat) (B' : Option Addr) (m' d' : Nat) (w : World) (hp : Rd w 1 B m (intsL p.needs)) (hm : m ≤ 9223372036854775807) (hmd : m ≤ d) (hp' : Rd w 1 B' m' (intsL q.needs)) (hm' : m' ≤ 9223372036854775807) (hmd' : m' ≤ d') : Calls Try.prog 26 #[valP p (.slice B m d), valP q (.slice B' m' d')] w fun e w' => e = .returned (.bool (decide (p = q))) ∧ Below w.heap.size w w' := by
  refine SX.calls_of_run (C := cx0 (twoK p (.slice B m d) q (.slice B' m' d')) (fun _ _ _ => False)) (G := ⟨fun _ => false, [⟨26, 4, [(.s 5, .one)]⟩], 0, 100⟩) (args := args_same37) (sh := (List.replicate 38 .one)) (ρ := (cellsP p (.slice B m d) ++ cellsP q (.slice B' m' d'))) 100000 tree_same37 (cx0_ok _ _) Try.func26 rfl (run_same37 _ _) (by kernel_rfl) (by kernel_rfl) (by kernel_rfl) ?_ ?_
  · rintro W hW s sz cells (⟨rfl, rfl, rfl⟩ | ⟨rfl, rfl, rfl⟩)
    · exact ⟨hp.same0 hW, hmd⟩
    · exact ⟨hp'.same0 hW, hmd'⟩
  have hA := SX.rd_some hp
  have hA' := SX.rd_some hp'
  have hlm : p.needs.length = m := by have := hp.1; rw [intsL_len] at this; omega
  have hlm' : q.needs.length = m' := by have := hp'.1; rw [intsL_len] at this; omega
  have hpq : p = q ↔ p.id = q.id ∧ p.kind = q.kind ∧ p.sign = q.sign ∧ p.field = q.field ∧ p.new = q.new ∧ p.needs = q.needs := by
    cases p; cases q; simp
  unfold tree_same37
  refine SX.VC_df (.bool ((p.id : Int) != q.id)) (by intro α; show _ = _; kernel_rfl) (by kernel_rfl) ?_
  refine SX.VC_br ((p.id : Int) != q.id) (by kernel_rfl) (fun h38 => ?_) (fun h38 => ?_)
  · try simp only [NRM] at h38
    exact SX.VC_ret fun α W _ _ hS => SX.ret_of hS (x := .bool false) (by kernel_rfl) (by congr 1; symm; rw [decide_eq_false_iff_not, hpq]; intro hk; exact h38 hk.1)
  · try simp only [NRM] at h38
    refine SX.VC_df (.bool ((p.kind : Int) != q.kind)) (by intro α; show _ = _; kernel_rfl) (by kernel_rfl) ?_
    refine SX.VC_br ((p.kind : Int) != q.kind) (by kernel_rfl) (fun h39 => ?_) (fun h39 => ?_)
    · try simp only [NRM] at h39
      exact SX.VC_ret fun α W _ _ hS => SX.ret_of hS (x := .bool false) (by kernel_rfl) (by congr 1; symm; rw [decide_eq_false_iff_not, hpq]; intro hk; exact h39 hk.2.1)
    · try simp only [NRM] at h39
      refine SX.VC_df (.bool ((p.sign : Int) != q.sign)) (by intro α; show _ = _; kernel_rfl) (by kernel_rfl) ?_
      refine SX.VC_br ((p.sign : Int) != q.sign) (by kernel_rfl) (fun h40 => ?_) (fun h40 => ?_)
      · try simp only [NRM] at h40
        exact SX.VC_ret fun α W _ _ hS => SX.ret_of hS (x := .bool false) (by kernel_rfl) (by congr 1; symm; rw [decide_eq_false_iff_not, hpq]; intro hk; exact h40 hk.2.2.1)
      · try simp only [NRM] at h40
        refine SX.VC_df (.bool ((p.field : Int) != q.field)) (by intro α; show _ = _; kernel_rfl) (by kernel_rfl) ?_
        refine SX.VC_br ((p.field : Int) != q.field) (by kernel_rfl) (fun h41 => ?_) (fun h41 => ?_)
        · try simp only [NRM] at h41
          exact SX.VC_ret fun α W _ _ hS => SX.ret_of hS (x := .bool false) (by kernel_rfl) (by congr 1; symm; rw [decide_eq_false_iff_not, hpq]; intro hk; exact h41 hk.2.2.2.1)
        · try simp only [NRM] at h41
          refine SX.VC_df (.bool (true ^^ decide (p.new = q.new))) (fun α => SX.eqr_rel (f := cellsSg) cellsSg_inj (y := p.new) (z := q.new) (by kernel_rfl) (by kernel_rfl) (by kernel_rfl)) (by kernel_rfl) ?_
          refine SX.VC_br (true ^^ decide (p.new = q.new)) (by kernel_rfl) (fun h42 => ?_) (fun h42 => ?_)
          · try simp only [NRM] at h42
            exact SX.VC_ret fun α W _ _ hS => SX.ret_of hS (x := .bool false) (by kernel_rfl) (by congr 1; symm; rw [decide_eq_false_iff_not, hpq]; intro hk; exact h42 hk.2.2.2.2.1)
          · try simp only [NRM] at h42
            refine SX.VC_df (.int .i64 (((m : Nat) : Int))) (by intro α; show _ = _; kernel_rfl) (by kernel_rfl) ?_
            refine SX.VC_df (.int .i64 (((m' : Nat) : Int))) (by intro α; show _ = _; kernel_rfl) (by kernel_rfl) ?_
            refine SX.VC_df (.bool ((((m : Nat) : Int) : Int) != ((m' : Nat) : Int))) (by intro α; show _ = _; kernel_rfl) (by kernel_rfl) ?_
            refine SX.VC_br ((((m : Nat) : Int) : Int) != ((m' : Nat) : Int)) (by kernel_rfl) (fun h45 => ?_) (fun h45 => ?_)
            · try simp only [NRM] at h45
              exact SX.VC_ret fun α W _ _ hS => SX.ret_of hS (x := .bool false) (by kernel_rfl) (by congr 1; symm; rw [decide_eq_false_iff_not, hpq]; intro hk; exact h45 (by have := congrArg List.length hk.2.2.2.2.2; omega))
            · try simp only [NRM] at h45
              refine SX.VC_loop (fun xs => ∃ i : Nat, xs = [.int .i64 (i : Int)] ∧ i ≤ m ∧ p.needs.take i = q.needs.take i) (fun xs => match xs with | [.int _ i] => m - i.toNat | _ => 0) (fun α => ⟨0, by kernel_rfl, by omega, by simp⟩) ?_
              rintro xs - ⟨i, rfl, him, htk⟩
              refine SX.VC_df (.int .i64 (((m : Nat) : Int))) (by intro α; show _ = _; kernel_rfl) (by kernel_rfl) ?_
              refine SX.VC_df (.bool (decide (((i : Nat) : Int) < ((m : Nat) : Int)))) (by intro α; show _ = _; kernel_rfl) (by kernel_rfl) ?_
              refine SX.VC_br (decide (((i : Nat) : Int) < ((m : Nat) : Int))) (by kernel_rfl) (fun h48 => ?_) (fun h48 => ?_)
              · try simp only [NRM] at h48
                obtain ⟨y, hy⟩ : ∃ y, p.needs[i]? = some y := ⟨_, List.getElem?_eq_getElem (by omega)⟩
                obtain ⟨z, hz⟩ : ∃ z, q.needs[i]? = some z := ⟨_, List.getElem?_eq_getElem (by omega)⟩
                refine SX.VC_df (.bool true) (fun α => SX.extBnd (A := B) (n := m) (c := d) (j := i) hA (by kernel_rfl) (by kernel_rfl) (by omega)) (by kernel_rfl) ?_
                refine SX.VC_df (.int .i64 y) (fun α => SX.extElem (o := 0) (v := .int .i64 y) (f := cellsI) (l := p.needs) (A := B) (n := m) (c := d) (j := i) (z := y) (fun _ => rfl) hA (by kernel_rfl) (by kernel_rfl) (by omega) (.inl ⟨rfl, rfl, rfl⟩) hy (by decide) (by kernel_rfl)) (by kernel_rfl) ?_
                refine SX.VC_df (.bool true) (fun α => SX.extBnd (A := B') (n := m') (c := d') (j := i) hA' (by kernel_rfl) (by kernel_rfl) (by omega)) (by kernel_rfl) ?_
                refine SX.VC_df (.int .i64 z) (fun α => SX.extElem (o := 0) (v := .int .i64 z) (f := cellsI) (l := q.needs) (A := B') (n := m') (c := d') (j := i) (z := z) (fun _ => rfl) hA' (by kernel_rfl) (by kernel_rfl) (by omega) (.inr ⟨rfl, rfl, rfl⟩) hz (by decide) (by kernel_rfl)) (by kernel_rfl) ?_
                refine SX.VC_df (.bool ((y : Int) != z)) (by intro α; show _ = _; kernel_rfl) (by kernel_rfl) ?_
                refine SX.VC_br ((y : Int) != z) (by kernel_rfl) (fun h53 => ?_) (fun h53 => ?_)
                · try simp only [NRM] at h53
                  exact SX.VC_ret fun α W _ _ hS => SX.ret_of hS (x := .bool false) (by kernel_rfl) (by congr 1; symm; rw [decide_eq_false_iff_not, hpq]; intro hk; exact h53 (by have := hk.2.2.2.2.2; rw [this] at hy; rw [hy] at hz; exact Option.some.inj hz))
                · try simp only [NRM] at h53
                  refine SX.VC_df (.int .i64 (((i + 1 : Nat) : Int))) (fun α => Eq.trans (b := some (.int .i64 (IntKind.i64.wrap ((i : Nat) + 1)))) (by kernel_rfl) (by rw [show ((i + 1 : Nat) : Int) = ((i : Nat) : Int) + 1 by omega, wrap_i64 (by omega) (by omega)])) (by kernel_rfl) ?_
                  exact SX.VC_again fun α => ⟨⟨i + 1, by kernel_rfl, by omega, by rw [List.take_add_one, List.take_add_one, htk, hy, hz, h53]⟩, cast (by kernel_rfl) (show m - ((i + 1 : Nat) : Int).toNat < m - (i : Int).toNat by omega)⟩
              · try simp only [NRM] at h48
                have hne : p.needs = q.needs := by rw [List.take_of_length_le (by omega), List.take_of_length_le (by omega)] at htk; exact htk
                exact SX.VC_ret fun α W _ _ hS => SX.ret_of hS (x := .bool true) (by kernel_rfl) (by congr 1; symm; rw [decide_eq_true_eq, hpq]; exact ⟨h38, h39, h40, h41, h42, hne⟩)
end Go.Proofs.Ytodlcjhefojibaa
