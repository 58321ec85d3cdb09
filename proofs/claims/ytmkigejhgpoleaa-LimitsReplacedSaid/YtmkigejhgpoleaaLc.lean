/-
  The form of limits in the specification.
-/
import Derived.Test.YtmkigejhgpoleaaLb
namespace Go.Proofs.Ytmkigejhgpoleaa
set_option linter.unusedSimpArgs false
set_option linter.unusedVariables false
open Go Go.RowKit
def cellsCap (p : Int × Int × Int) : List Value := [.int .i64 p.1, .int .i64 p.2.1, .int .i64 p.2.2]
theorem cellsCap_inj (a b : Int × Int × Int) (h : cellsCap a = cellsCap b) : a = b := by
  obtain ⟨a1, a2, a3⟩ := a
  obtain ⟨b1, b2, b3⟩ := b
  simpa [cellsCap] using h
theorem lms_arg {W : World} {u : Value} {ls : List Lim} (h : SX.Arg.rd W ⟨u, 9, lmL ls⟩) : ∃ A n c, u = .slice A n c ∧ Rd W 9 A n (lmL ls) ∧ n ≤ c ∧ ls.length = n := by
  unfold SX.Arg.rd at h
  split at h
  · rename_i A n c hu
    have hu : u = .slice A n c := hu
    refine ⟨A, n, c, hu, h.1, h.2, ?_⟩
    have := h.1.1; simp only [lmL_len] at this; omega
  · cases h
/-- what is known of the parts -/
def RL0 (f : FuncId) (xs : List SX.Arg) (v : Value) : Prop :=
  (f = 35 ∧ ∃ a b c : Int, xs = [⟨.int .i64 a, 0, []⟩, ⟨.int .i64 b, 0, []⟩, ⟨.int .i64 c, 0, []⟩] ∧ v = .bool (decide (b ≤ a ∧ a ≤ c))) ∨
  (f = 36 ∧ ∃ k l n : Int, xs = [⟨.agg #[.int .i64 k, .int .i64 l, .int .i64 n], 0, []⟩] ∧ v = .bool (decide (capOk k l n))) ∨
  (f = 33 ∧ ∃ k l n : Int, xs = [⟨.agg #[.int .i64 k, .int .i64 l, .int .i64 n], 0, []⟩] ∧ v = .bool (decide (capOk k l n))) ∨
  (f = 37 ∧ ∃ (u : Value) (ls : List Lim) (i : Nat) (z : Lim), xs = [⟨u, 9, lmL ls⟩, ⟨.int .i64 i, 0, []⟩] ∧ ls.length ≤ 9223372036854775807 ∧ ls[i]? = some z ∧ okTo ls i ∧ v = .bool (decide (refOk (ls.take i) z))) ∨
  (f = 40 ∧ ∃ (u : Value) (ls : List Lim) (no k : Int), xs = [⟨u, 9, lmL ls⟩, ⟨.int .i64 no, 0, []⟩, ⟨.int .i64 k, 0, []⟩] ∧ ls.length ≤ 9223372036854775807 ∧ 0 ≤ no ∧ no ≤ 1048576 ∧ v = .bool (decide (∃ y ∈ ls, y.of_ = no + 1 ∧ y.known ≤ k)))
def shpL0 : FuncId → Option SX.Sh := fun f => if f = 35 then some .one else if f = 36 then some .one else if f = 33 then some .one else if f = 37 then some .one else if f = 40 then some .one else none
noncomputable def cxL0 (K A : Value → Nat → List Value → Prop) : SX.Cx := { P := Try.prog, R := fun _ => RL0, shp := shpL0, K := K, A := A, trm := true }
theorem okL0 (K A : Value → Nat → List Value → Prop) : (cxL0 K A).Ok := by
  refine SX.Cx.ok_of (fun _ => rfl) ?_
  intro K f xs v W hR hrd hKf
  rcases hR with ⟨rfl, a, b, c, rfl, rfl⟩ | ⟨rfl, k, l, n, rfl, rfl⟩ | ⟨rfl, k, l, n, rfl, rfl⟩ | ⟨rfl, u, ls, i, z, rfl, hl, hz, hok, rfl⟩ | ⟨rfl, u, ls, no, k, rfl, hl, h0, h1, rfl⟩
  · exact (rwithin_any a b c W).mono fun e w' h => SX.plainOk rfl h
  · exact (rvalid_any k l n W).mono fun e w' h => SX.plainOk rfl h
  · exact (cvalid_any k l n W).mono fun e w' h => SX.plainOk rfl h
  · obtain ⟨A, n, c, rfl, h2, h3, h4⟩ := lms_arg (hrd ⟨u, 9, lmL ls⟩ (by simp))
    exact (refers_any ls A n c i z W h2 (by omega) h3 hz hok).mono fun e w' h => SX.plainOk rfl h
  · obtain ⟨A, n, c, rfl, h2, h3, h4⟩ := lms_arg (hrd ⟨u, 9, lmL ls⟩ (by simp))
    exact (replaced_any ls A n c no k W h2 (by omega) h3 h0 h1).mono fun e w' h => SX.plainOk rfl h
def tree_rCheck : SX.Tree :=
(.df (.len false) [(.x 0 [])] .one 
(.df (.bin .gtr 3) [(.x 1 []), (.k (.int .i64 512))] .one 
(.br 2 [] 
(.ret (.k (.int .i64 2)) [] []) 
(.loop [(.k (.int .i64 0))] [.one] 
(.df (.len false) [(.x 0 [])] .one 
(.df (.bin .lss 3) [(.x 3 []), (.x 4 [])] .one 
(.br 5 [] 
(.df .bnd [(.x 0 []), (.x 3 [])] .one 
(.df (.elems 9 0 9) [(.x 0 []), (.x 3 [])] (.ag 9) 
(.df (.call 35 [.no, .no, .no]) [(.x 7 [0]), (.k (.int .i64 0)), (.k (.int .i64 1048576))] .one 
(.df .not [(.x 8 [])] .one 
(.br 9 [] 
(.ret (.k (.int .i64 340)) [] []) 
(.df (.bin .gtr 3) [(.x 3 []), (.k (.int .i64 0))] .one 
(.br 10 [] 
(.df (.bin .sub 3) [(.x 3 []), (.k (.int .i64 1))] .one 
(.df .bnd [(.x 0 []), (.x 11 [])] .one 
(.df .bnd [(.x 0 []), (.x 11 [])] .one 
(.df (.elem 9 0) [(.x 0 []), (.x 11 [])] .one 
(.df (.bin .leq 3) [(.x 7 [0]), (.x 14 [])] .one 
(.br 15 [] 
(.ret (.k (.int .i64 340)) [] []) 
(.df (.call 35 [.no, .no, .no]) [(.x 7 [1]), (.k (.int .i64 0)), (.k (.int .i64 63))] .one 
(.df .not [(.x 16 [])] .one 
(.br 17 [] 
(.ret (.k (.int .i64 340)) [] []) 
(.df (.call 35 [.no, .no, .no]) [(.x 7 [3]), (.k (.int .i64 0)), (.x 7 [4])] .one 
(.df .not [(.x 18 [])] .one 
(.br 19 [] 
(.ret (.k (.int .i64 340)) [] []) 
(.df (.bin .gtr 3) [(.x 7 [4]), (.k (.int .i64 73048))] .one 
(.br 20 [] 
(.ret (.k (.int .i64 340)) [] []) 
(.df (.call 35 [.no, .no, .no]) [(.x 7 [5]), (.k (.int .i64 0)), (.k (.int .i64 134217727))] .one 
(.df .not [(.x 21 [])] .one 
(.br 22 [] 
(.ret (.k (.int .i64 340)) [] []) 
(.df (.call 36 [.no]) [(.a [(.x 7 [6]), (.x 7 [7]), (.x 7 [8])])] .one 
(.df .not [(.x 23 [])] .one 
(.br 24 [] 
(.df (.eqr true 3 [(.i .i64), (.i .i64), (.i .i64)]) [(.x 7 [6]), (.x 7 [7]), (.x 7 [8]), (.k (.int .i64 0)), (.k (.int .i64 0)), (.k (.int .i64 0))] .one 
(.br 25 [] 
(.ret (.k (.int .i64 340)) [] []) 
(.df (.bin .eql 3) [(.x 7 [2]), (.k (.int .i64 0))] .one 
(.br 26 [] 
(.ret (.k (.int .i64 340)) [] []) 
(.df (.call 37 [(.ext 9), .no]) [(.x 0 []), (.x 3 [])] .one 
(.df .not [(.x 27 [])] .one 
(.br 28 [] 
(.ret (.k (.int .i64 340)) [] []) 
(.df (.bin .add 3) [(.x 3 []), (.k (.int .i64 1))] .one 
(.again 0 [(.x 29 [])]))))))))) 
(.df (.call 37 [(.ext 9), .no]) [(.x 0 []), (.x 3 [])] .one 
(.df .not [(.x 25 [])] .one 
(.br 26 [] 
(.ret (.k (.int .i64 340)) [] []) 
(.df (.bin .add 3) [(.x 3 []), (.k (.int .i64 1))] .one 
(.again 0 [(.x 27 [])]))))))))))))))))))))))))) 
(.df (.call 35 [.no, .no, .no]) [(.x 7 [1]), (.k (.int .i64 0)), (.k (.int .i64 63))] .one 
(.df .not [(.x 11 [])] .one 
(.br 12 [] 
(.ret (.k (.int .i64 340)) [] []) 
(.df (.call 35 [.no, .no, .no]) [(.x 7 [3]), (.k (.int .i64 0)), (.x 7 [4])] .one 
(.df .not [(.x 13 [])] .one 
(.br 14 [] 
(.ret (.k (.int .i64 340)) [] []) 
(.df (.bin .gtr 3) [(.x 7 [4]), (.k (.int .i64 73048))] .one 
(.br 15 [] 
(.ret (.k (.int .i64 340)) [] []) 
(.df (.call 35 [.no, .no, .no]) [(.x 7 [5]), (.k (.int .i64 0)), (.k (.int .i64 134217727))] .one 
(.df .not [(.x 16 [])] .one 
(.br 17 [] 
(.ret (.k (.int .i64 340)) [] []) 
(.df (.call 36 [.no]) [(.a [(.x 7 [6]), (.x 7 [7]), (.x 7 [8])])] .one 
(.df .not [(.x 18 [])] .one 
(.br 19 [] 
(.df (.eqr true 3 [(.i .i64), (.i .i64), (.i .i64)]) [(.x 7 [6]), (.x 7 [7]), (.x 7 [8]), (.k (.int .i64 0)), (.k (.int .i64 0)), (.k (.int .i64 0))] .one 
(.br 20 [] 
(.ret (.k (.int .i64 340)) [] []) 
(.df (.bin .eql 3) [(.x 7 [2]), (.k (.int .i64 0))] .one 
(.br 21 [] 
(.ret (.k (.int .i64 340)) [] []) 
(.df (.call 37 [(.ext 9), .no]) [(.x 0 []), (.x 3 [])] .one 
(.df .not [(.x 22 [])] .one 
(.br 23 [] 
(.ret (.k (.int .i64 340)) [] []) 
(.df (.bin .add 3) [(.x 3 []), (.k (.int .i64 1))] .one 
(.again 0 [(.x 24 [])]))))))))) 
(.df (.call 37 [(.ext 9), .no]) [(.x 0 []), (.x 3 [])] .one 
(.df .not [(.x 20 [])] .one 
(.br 21 [] 
(.ret (.k (.int .i64 340)) [] []) 
(.df (.bin .add 3) [(.x 3 []), (.k (.int .i64 1))] .one 
(.again 0 [(.x 22 [])])))))))))))))))))))))))))) 
(.ret (.k (.int .i64 0)) [] []))))))))
def args_rCheck : List SX.V := [.x 0 []]
set_option maxRecDepth 100000 in
theorem run_rCheck (K A : Value → Nat → List Value → Prop) : (SX.run (cxL0 K A) ⟨fun f => false, [⟨15, 4, [(.s 3, .one)]⟩], 0, 100⟩ 100000 0 (SX.door 15 Try.f15 args_rCheck [.one]) [.code (Try.f15.body.getD .skip), .top Try.f15]).strip = tree_rCheck := by kernel_rfl
set_option maxRecDepth 100000 in
set_option maxHeartbeats 4000000 in
theorem rCheck_any (ls : List Lim) (A : Option Addr) (n c : Nat) (w : World) (hr : Rd w 9 A n (lmL ls)) (hn : n ≤ 9223372036854775807) (hc : n ≤ c) : Calls Try.prog 15 #[.slice A n c] w fun e w' => e = .returned (.int .i64 (chkL ls)) ∧ Below w.heap.size w w' := by
  refine SX.calls_of_run (C := cxL0 (fun s sz cells => s = .slice A n c ∧ sz = 9 ∧ cells = lmL ls) (fun _ _ _ => False)) (G := ⟨fun f => false, [⟨15, 4, [(.s 3, .one)]⟩], 0, 100⟩) (args := args_rCheck) (sh := [.one]) (ρ := [.slice A n c]) 100000 tree_rCheck (okL0 _ _) Try.func15 rfl (run_rCheck _ _) (by kernel_rfl) (by kernel_rfl) (by kernel_rfl) ?_ ?_
  · rintro W hW s sz cells ⟨rfl, rfl, rfl⟩; exact ⟨hr.same0 hW, hc⟩
  have hA := SX.rd_some hr
  have hln : ls.length = n := by have := hr.1; rw [lmL_len] at this; omega
  unfold tree_rCheck
  refine SX.VC_df (.int .i64 (((n : Nat) : Int))) (by intro α; show _ = _; kernel_rfl) (by kernel_rfl) ?_
  refine SX.VC_df (.bool (decide (((n : Nat) : Int) > 512))) (by intro α; show _ = _; kernel_rfl) (by kernel_rfl) ?_
  refine SX.VC_br (decide (((n : Nat) : Int) > 512)) (by kernel_rfl) (fun h2 => ?_) (fun h2 => ?_)
  · try simp only [NRM] at h2
    exact SX.VC_ret fun α W _ _ hS => SX.ret_of hS (x := .int .i64 2) (by kernel_rfl) (by rw [chkL, if_pos (by omega)])
  · try simp only [NRM] at h2
    refine SX.VC_loop (fun xs => ∃ (i : Nat), xs = [.int .i64 (i : Int)] ∧ i ≤ n ∧ okTo ls i) (fun xs => match xs with | [.int _ i] => n - i.toNat | _ => 0) (fun α => ⟨0, by kernel_rfl, by omega, okTo_zero ls⟩) ?_
    rintro xs - ⟨i, rfl, hin, hok⟩
    refine SX.VC_df (.int .i64 (((n : Nat) : Int))) (by intro α; show _ = _; kernel_rfl) (by kernel_rfl) ?_
    refine SX.VC_df (.bool (decide (((i : Nat) : Int) < ((n : Nat) : Int)))) (by intro α; show _ = _; kernel_rfl) (by kernel_rfl) ?_
    refine SX.VC_br (decide (((i : Nat) : Int) < ((n : Nat) : Int))) (by kernel_rfl) (fun h5 => ?_) (fun h5 => ?_)
    · try simp only [NRM] at h5
      obtain ⟨z, hz⟩ : ∃ z, ls[i]? = some z := ⟨_, List.getElem?_eq_getElem (by omega)⟩
      refine SX.VC_df (.bool true) (fun α => SX.extBnd (A := A) (n := n) (c := c) (j := i) hA (by kernel_rfl) (by kernel_rfl) (by omega)) (by kernel_rfl) ?_
      refine SX.VC_df (.agg (cellsLm z).toArray) (fun α => SX.extElems (f := cellsLm) (l := ls) (A := A) (n := n) (c := c) (j := i) (z := z) (fun _ => rfl) hA (by kernel_rfl) (by kernel_rfl) (by omega) ⟨rfl, rfl, rfl⟩ hz) (by kernel_rfl) ?_
      refine SX.VC_df (.bool (decide (0 ≤ z.no ∧ z.no ≤ 1048576))) (fun α => ⟨[⟨.int .i64 z.no, 0, []⟩, ⟨.int .i64 0, 0, []⟩, ⟨.int .i64 1048576, 0, []⟩], ⟨by kernel_rfl, by kernel_rfl, by kernel_rfl, by kernel_rfl, by kernel_rfl, by kernel_rfl, trivial⟩, .inl ⟨rfl, _, _, _, rfl, rfl⟩, SX.noAli rfl⟩) (by kernel_rfl) ?_
      refine SX.VC_df (.bool (!(decide (0 ≤ z.no ∧ z.no ≤ 1048576)))) (by intro α; show _ = _; kernel_rfl) (by kernel_rfl) ?_
      refine SX.VC_br (!(decide (0 ≤ z.no ∧ z.no ≤ 1048576))) (by kernel_rfl) (fun h9 => ?_) (fun h9 => ?_)
      · try simp only [NRM] at h9
        exact SX.VC_ret fun α W _ _ hS => SX.ret_of hS (x := .int .i64 340) (by kernel_rfl) (by rw [chkL, if_neg (by omega), if_neg (not_ok hz fun hk => by have ⟨hk1, hk2, hk3, hk4, hk5, hk6⟩ := elemOk_iff.1 hk.1; have q := h9; (try simp at q); omega)])
      · try simp only [NRM] at h9
        refine SX.VC_df (.bool (decide (((i : Nat) : Int) > 0))) (by intro α; show _ = _; kernel_rfl) (by kernel_rfl) ?_
        refine SX.VC_br (decide (((i : Nat) : Int) > 0)) (by kernel_rfl) (fun h10 => ?_) (fun h10 => ?_)
        · try simp only [NRM] at h10
          obtain ⟨y, hy⟩ : ∃ z, ls[i - 1]? = some z := ⟨_, List.getElem?_eq_getElem (by omega)⟩
          refine SX.VC_df (.int .i64 (((i - 1 : Nat) : Int))) (fun α => Eq.trans (b := some (.int .i64 (IntKind.i64.wrap ((i : Int) - 1)))) (by kernel_rfl) (by rw [show ((i - 1 : Nat) : Int) = (i : Int) - 1 by omega, wrap_i64 (by omega) (by omega)])) (by kernel_rfl) ?_
          refine SX.VC_df (.bool true) (fun α => SX.extBnd (A := A) (n := n) (c := c) (j := i - 1) hA (by kernel_rfl) (by kernel_rfl) (by omega)) (by kernel_rfl) ?_
          refine SX.VC_df (.bool true) (fun α => SX.extBnd (A := A) (n := n) (c := c) (j := i - 1) hA (by kernel_rfl) (by kernel_rfl) (by omega)) (by kernel_rfl) ?_
          refine SX.VC_df (.int .i64 y.no) (fun α => SX.extElem (o := 0) (v := .int .i64 y.no) (f := cellsLm) (l := ls) (A := A) (n := n) (c := c) (j := i - 1) (z := y) (fun _ => rfl) hA (by kernel_rfl) (by kernel_rfl) (by omega) ⟨rfl, rfl, rfl⟩ hy (by decide) (by kernel_rfl)) (by kernel_rfl) ?_
          refine SX.VC_df (.bool (decide (z.no ≤ y.no))) (by intro α; show _ = _; kernel_rfl) (by kernel_rfl) ?_
          refine SX.VC_br (decide (z.no ≤ y.no)) (by kernel_rfl) (fun h15 => ?_) (fun h15 => ?_)
          · try simp only [NRM] at h15
            exact SX.VC_ret fun α W _ _ hS => SX.ret_of hS (x := .int .i64 340) (by kernel_rfl) (by rw [chkL, if_neg (by omega), if_neg (not_ok hz fun hk => by exact absurd ((rise_last hok (by omega) hy).1 hk.2.1) (by omega))])
          · try simp only [NRM] at h15
            refine SX.VC_df (.bool (decide (0 ≤ z.person ∧ z.person ≤ 63))) (fun α => ⟨[⟨.int .i64 z.person, 0, []⟩, ⟨.int .i64 0, 0, []⟩, ⟨.int .i64 63, 0, []⟩], ⟨by kernel_rfl, by kernel_rfl, by kernel_rfl, by kernel_rfl, by kernel_rfl, by kernel_rfl, trivial⟩, .inl ⟨rfl, _, _, _, rfl, rfl⟩, SX.noAli rfl⟩) (by kernel_rfl) ?_
            refine SX.VC_df (.bool (!(decide (0 ≤ z.person ∧ z.person ≤ 63)))) (by intro α; show _ = _; kernel_rfl) (by kernel_rfl) ?_
            refine SX.VC_br (!(decide (0 ≤ z.person ∧ z.person ≤ 63))) (by kernel_rfl) (fun h17 => ?_) (fun h17 => ?_)
            · try simp only [NRM] at h17
              exact SX.VC_ret fun α W _ _ hS => SX.ret_of hS (x := .int .i64 340) (by kernel_rfl) (by rw [chkL, if_neg (by omega), if_neg (not_ok hz fun hk => by have ⟨hk1, hk2, hk3, hk4, hk5, hk6⟩ := elemOk_iff.1 hk.1; have q := h17; (try simp at q); omega)])
            · try simp only [NRM] at h17
              refine SX.VC_df (.bool (decide (0 ≤ z.from_ ∧ z.from_ ≤ z.to_))) (fun α => ⟨[⟨.int .i64 z.from_, 0, []⟩, ⟨.int .i64 0, 0, []⟩, ⟨.int .i64 z.to_, 0, []⟩], ⟨by kernel_rfl, by kernel_rfl, by kernel_rfl, by kernel_rfl, by kernel_rfl, by kernel_rfl, trivial⟩, .inl ⟨rfl, _, _, _, rfl, rfl⟩, SX.noAli rfl⟩) (by kernel_rfl) ?_
              refine SX.VC_df (.bool (!(decide (0 ≤ z.from_ ∧ z.from_ ≤ z.to_)))) (by intro α; show _ = _; kernel_rfl) (by kernel_rfl) ?_
              refine SX.VC_br (!(decide (0 ≤ z.from_ ∧ z.from_ ≤ z.to_))) (by kernel_rfl) (fun h19 => ?_) (fun h19 => ?_)
              · try simp only [NRM] at h19
                exact SX.VC_ret fun α W _ _ hS => SX.ret_of hS (x := .int .i64 340) (by kernel_rfl) (by rw [chkL, if_neg (by omega), if_neg (not_ok hz fun hk => by have ⟨hk1, hk2, hk3, hk4, hk5, hk6⟩ := elemOk_iff.1 hk.1; have q := h19; (try simp at q); omega)])
              · try simp only [NRM] at h19
                refine SX.VC_df (.bool (decide (z.to_ > 73048))) (by intro α; show _ = _; kernel_rfl) (by kernel_rfl) ?_
                refine SX.VC_br (decide (z.to_ > 73048)) (by kernel_rfl) (fun h20 => ?_) (fun h20 => ?_)
                · try simp only [NRM] at h20
                  exact SX.VC_ret fun α W _ _ hS => SX.ret_of hS (x := .int .i64 340) (by kernel_rfl) (by rw [chkL, if_neg (by omega), if_neg (not_ok hz fun hk => by have ⟨hk1, hk2, hk3, hk4, hk5, hk6⟩ := elemOk_iff.1 hk.1; have q := h20; (try simp at q); omega)])
                · try simp only [NRM] at h20
                  refine SX.VC_df (.bool (decide (0 ≤ z.known ∧ z.known ≤ 134217727))) (fun α => ⟨[⟨.int .i64 z.known, 0, []⟩, ⟨.int .i64 0, 0, []⟩, ⟨.int .i64 134217727, 0, []⟩], ⟨by kernel_rfl, by kernel_rfl, by kernel_rfl, by kernel_rfl, by kernel_rfl, by kernel_rfl, trivial⟩, .inl ⟨rfl, _, _, _, rfl, rfl⟩, SX.noAli rfl⟩) (by kernel_rfl) ?_
                  refine SX.VC_df (.bool (!(decide (0 ≤ z.known ∧ z.known ≤ 134217727)))) (by intro α; show _ = _; kernel_rfl) (by kernel_rfl) ?_
                  refine SX.VC_br (!(decide (0 ≤ z.known ∧ z.known ≤ 134217727))) (by kernel_rfl) (fun h22 => ?_) (fun h22 => ?_)
                  · try simp only [NRM] at h22
                    exact SX.VC_ret fun α W _ _ hS => SX.ret_of hS (x := .int .i64 340) (by kernel_rfl) (by rw [chkL, if_neg (by omega), if_neg (not_ok hz fun hk => by have ⟨hk1, hk2, hk3, hk4, hk5, hk6⟩ := elemOk_iff.1 hk.1; have q := h22; (try simp at q); omega)])
                  · try simp only [NRM] at h22
                    refine SX.VC_df (.bool (decide (capOk z.kind z.limb z.n))) (fun α => ⟨[⟨.agg #[.int .i64 z.kind, .int .i64 z.limb, .int .i64 z.n], 0, []⟩], ⟨by kernel_rfl, by kernel_rfl, trivial⟩, .inr (.inl ⟨rfl, _, _, _, rfl, rfl⟩), SX.noAli rfl⟩) (by kernel_rfl) ?_
                    refine SX.VC_df (.bool (!(decide (capOk z.kind z.limb z.n)))) (by intro α; show _ = _; kernel_rfl) (by kernel_rfl) ?_
                    refine SX.VC_br (!(decide (capOk z.kind z.limb z.n))) (by kernel_rfl) (fun h24 => ?_) (fun h24 => ?_)
                    · try simp only [NRM] at h24
                      refine SX.VC_df (.bool (true ^^ decide ((z.kind, z.limb, z.n) = ((0 : Int), (0 : Int), (0 : Int))))) (fun α => SX.eqr_rel (f := cellsCap) cellsCap_inj (y := (z.kind, z.limb, z.n)) (z := ((0 : Int), (0 : Int), (0 : Int))) (by kernel_rfl) (by kernel_rfl) (by kernel_rfl)) (by kernel_rfl) ?_
                      refine SX.VC_br (true ^^ decide ((z.kind, z.limb, z.n) = ((0 : Int), (0 : Int), (0 : Int)))) (by kernel_rfl) (fun h25 => ?_) (fun h25 => ?_)
                      · try simp only [NRM] at h25
                        exact SX.VC_ret fun α W _ _ hS => SX.ret_of hS (x := .int .i64 340) (by kernel_rfl) (by rw [chkL, if_neg (by omega), if_neg (not_ok hz fun hk => by have ⟨hk1, hk2, hk3, hk4, hk5, hk6⟩ := elemOk_iff.1 hk.1; exact hk6.elim (fun h => by have q := h24; simp [h] at q) (fun h => by have q := h25; simp [h.1, h.2.1, h.2.2.1] at q))])
                      · try simp only [NRM] at h25
                        refine SX.VC_df (.bool ((z.of_ : Int) == 0)) (by intro α; show _ = _; kernel_rfl) (by kernel_rfl) ?_
                        refine SX.VC_br ((z.of_ : Int) == 0) (by kernel_rfl) (fun h26 => ?_) (fun h26 => ?_)
                        · try simp only [NRM] at h26
                          exact SX.VC_ret fun α W _ _ hS => SX.ret_of hS (x := .int .i64 340) (by kernel_rfl) (by rw [chkL, if_neg (by omega), if_neg (not_ok hz fun hk => by have ⟨hk1, hk2, hk3, hk4, hk5, hk6⟩ := elemOk_iff.1 hk.1; exact hk6.elim (fun h => by have q := h24; simp [h] at q) (fun h => h.2.2.2 (by simpa using h26)))])
                        · try simp only [NRM] at h26
                          refine SX.VC_df (.bool (decide (refOk (ls.take i) z))) (fun α => ⟨[⟨.slice A n c, 9, lmL ls⟩, ⟨.int .i64 (i : Int), 0, []⟩], ⟨by kernel_rfl, rfl, ⟨by kernel_rfl, rfl, rfl⟩, by kernel_rfl, by kernel_rfl, trivial⟩, .inr (.inr (.inr (.inl ⟨rfl, .slice A n c, ls, i, z, rfl, by omega, hz, hok, rfl⟩))), SX.noAli rfl⟩) (by kernel_rfl) ?_
                          refine SX.VC_df (.bool (!(decide (refOk (ls.take i) z)))) (by intro α; show _ = _; kernel_rfl) (by kernel_rfl) ?_
                          refine SX.VC_br (!(decide (refOk (ls.take i) z))) (by kernel_rfl) (fun h28 => ?_) (fun h28 => ?_)
                          · try simp only [NRM] at h28
                            exact SX.VC_ret fun α W _ _ hS => SX.ret_of hS (x := .int .i64 340) (by kernel_rfl) (by rw [chkL, if_neg (by omega), if_neg (not_ok hz fun hk => by have q := h28; simp [hk.2.2] at q)])
                          · try simp only [NRM] at h28
                            refine SX.VC_df (.int .i64 (((i + 1 : Nat) : Int))) (fun α => Eq.trans (b := some (.int .i64 (IntKind.i64.wrap ((i : Int) + 1)))) (by kernel_rfl) (by rw [show ((i + 1 : Nat) : Int) = (i : Int) + 1 by omega, wrap_i64 (by omega) (by omega)])) (by kernel_rfl) ?_
                            exact SX.VC_again fun α => ⟨⟨i + 1, by kernel_rfl, by omega, okTo_succ hok hz ⟨elemOk_iff.2 ⟨(by have q := h9; (try simp at q); omega), (by have q := h17; (try simp at q); omega), (by have q := h19; (try simp at q); omega), (by have q := h20; (try simp at q); omega), (by have q := h22; (try simp at q); omega), .inr (by have q1 := h25; have q2 := h26; simp at q1 q2; exact ⟨q1.1, q1.2.1, q1.2.2, q2⟩)⟩, (rise_last hok (by omega) hy).2 (by omega), by simpa using h28⟩⟩, cast (by kernel_rfl) (show n - ((i + 1 : Nat) : Int).toNat < n - (i : Int).toNat by omega)⟩
                    · try simp only [NRM] at h24
                      refine SX.VC_df (.bool (decide (refOk (ls.take i) z))) (fun α => ⟨[⟨.slice A n c, 9, lmL ls⟩, ⟨.int .i64 (i : Int), 0, []⟩], ⟨by kernel_rfl, rfl, ⟨by kernel_rfl, rfl, rfl⟩, by kernel_rfl, by kernel_rfl, trivial⟩, .inr (.inr (.inr (.inl ⟨rfl, .slice A n c, ls, i, z, rfl, by omega, hz, hok, rfl⟩))), SX.noAli rfl⟩) (by kernel_rfl) ?_
                      refine SX.VC_df (.bool (!(decide (refOk (ls.take i) z)))) (by intro α; show _ = _; kernel_rfl) (by kernel_rfl) ?_
                      refine SX.VC_br (!(decide (refOk (ls.take i) z))) (by kernel_rfl) (fun h26 => ?_) (fun h26 => ?_)
                      · try simp only [NRM] at h26
                        exact SX.VC_ret fun α W _ _ hS => SX.ret_of hS (x := .int .i64 340) (by kernel_rfl) (by rw [chkL, if_neg (by omega), if_neg (not_ok hz fun hk => by have q := h26; simp [hk.2.2] at q)])
                      · try simp only [NRM] at h26
                        refine SX.VC_df (.int .i64 (((i + 1 : Nat) : Int))) (fun α => Eq.trans (b := some (.int .i64 (IntKind.i64.wrap ((i : Int) + 1)))) (by kernel_rfl) (by rw [show ((i + 1 : Nat) : Int) = (i : Int) + 1 by omega, wrap_i64 (by omega) (by omega)])) (by kernel_rfl) ?_
                        exact SX.VC_again fun α => ⟨⟨i + 1, by kernel_rfl, by omega, okTo_succ hok hz ⟨elemOk_iff.2 ⟨(by have q := h9; (try simp at q); omega), (by have q := h17; (try simp at q); omega), (by have q := h19; (try simp at q); omega), (by have q := h20; (try simp at q); omega), (by have q := h22; (try simp at q); omega), .inl (by simpa using h24)⟩, (rise_last hok (by omega) hy).2 (by omega), by simpa using h26⟩⟩, cast (by kernel_rfl) (show n - ((i + 1 : Nat) : Int).toNat < n - (i : Int).toNat by omega)⟩
        · try simp only [NRM] at h10
          refine SX.VC_df (.bool (decide (0 ≤ z.person ∧ z.person ≤ 63))) (fun α => ⟨[⟨.int .i64 z.person, 0, []⟩, ⟨.int .i64 0, 0, []⟩, ⟨.int .i64 63, 0, []⟩], ⟨by kernel_rfl, by kernel_rfl, by kernel_rfl, by kernel_rfl, by kernel_rfl, by kernel_rfl, trivial⟩, .inl ⟨rfl, _, _, _, rfl, rfl⟩, SX.noAli rfl⟩) (by kernel_rfl) ?_
          refine SX.VC_df (.bool (!(decide (0 ≤ z.person ∧ z.person ≤ 63)))) (by intro α; show _ = _; kernel_rfl) (by kernel_rfl) ?_
          refine SX.VC_br (!(decide (0 ≤ z.person ∧ z.person ≤ 63))) (by kernel_rfl) (fun h12 => ?_) (fun h12 => ?_)
          · try simp only [NRM] at h12
            exact SX.VC_ret fun α W _ _ hS => SX.ret_of hS (x := .int .i64 340) (by kernel_rfl) (by rw [chkL, if_neg (by omega), if_neg (not_ok hz fun hk => by have ⟨hk1, hk2, hk3, hk4, hk5, hk6⟩ := elemOk_iff.1 hk.1; have q := h12; (try simp at q); omega)])
          · try simp only [NRM] at h12
            refine SX.VC_df (.bool (decide (0 ≤ z.from_ ∧ z.from_ ≤ z.to_))) (fun α => ⟨[⟨.int .i64 z.from_, 0, []⟩, ⟨.int .i64 0, 0, []⟩, ⟨.int .i64 z.to_, 0, []⟩], ⟨by kernel_rfl, by kernel_rfl, by kernel_rfl, by kernel_rfl, by kernel_rfl, by kernel_rfl, trivial⟩, .inl ⟨rfl, _, _, _, rfl, rfl⟩, SX.noAli rfl⟩) (by kernel_rfl) ?_
            refine SX.VC_df (.bool (!(decide (0 ≤ z.from_ ∧ z.from_ ≤ z.to_)))) (by intro α; show _ = _; kernel_rfl) (by kernel_rfl) ?_
            refine SX.VC_br (!(decide (0 ≤ z.from_ ∧ z.from_ ≤ z.to_))) (by kernel_rfl) (fun h14 => ?_) (fun h14 => ?_)
            · try simp only [NRM] at h14
              exact SX.VC_ret fun α W _ _ hS => SX.ret_of hS (x := .int .i64 340) (by kernel_rfl) (by rw [chkL, if_neg (by omega), if_neg (not_ok hz fun hk => by have ⟨hk1, hk2, hk3, hk4, hk5, hk6⟩ := elemOk_iff.1 hk.1; have q := h14; (try simp at q); omega)])
            · try simp only [NRM] at h14
              refine SX.VC_df (.bool (decide (z.to_ > 73048))) (by intro α; show _ = _; kernel_rfl) (by kernel_rfl) ?_
              refine SX.VC_br (decide (z.to_ > 73048)) (by kernel_rfl) (fun h15 => ?_) (fun h15 => ?_)
              · try simp only [NRM] at h15
                exact SX.VC_ret fun α W _ _ hS => SX.ret_of hS (x := .int .i64 340) (by kernel_rfl) (by rw [chkL, if_neg (by omega), if_neg (not_ok hz fun hk => by have ⟨hk1, hk2, hk3, hk4, hk5, hk6⟩ := elemOk_iff.1 hk.1; have q := h15; (try simp at q); omega)])
              · try simp only [NRM] at h15
                refine SX.VC_df (.bool (decide (0 ≤ z.known ∧ z.known ≤ 134217727))) (fun α => ⟨[⟨.int .i64 z.known, 0, []⟩, ⟨.int .i64 0, 0, []⟩, ⟨.int .i64 134217727, 0, []⟩], ⟨by kernel_rfl, by kernel_rfl, by kernel_rfl, by kernel_rfl, by kernel_rfl, by kernel_rfl, trivial⟩, .inl ⟨rfl, _, _, _, rfl, rfl⟩, SX.noAli rfl⟩) (by kernel_rfl) ?_
                refine SX.VC_df (.bool (!(decide (0 ≤ z.known ∧ z.known ≤ 134217727)))) (by intro α; show _ = _; kernel_rfl) (by kernel_rfl) ?_
                refine SX.VC_br (!(decide (0 ≤ z.known ∧ z.known ≤ 134217727))) (by kernel_rfl) (fun h17 => ?_) (fun h17 => ?_)
                · try simp only [NRM] at h17
                  exact SX.VC_ret fun α W _ _ hS => SX.ret_of hS (x := .int .i64 340) (by kernel_rfl) (by rw [chkL, if_neg (by omega), if_neg (not_ok hz fun hk => by have ⟨hk1, hk2, hk3, hk4, hk5, hk6⟩ := elemOk_iff.1 hk.1; have q := h17; (try simp at q); omega)])
                · try simp only [NRM] at h17
                  refine SX.VC_df (.bool (decide (capOk z.kind z.limb z.n))) (fun α => ⟨[⟨.agg #[.int .i64 z.kind, .int .i64 z.limb, .int .i64 z.n], 0, []⟩], ⟨by kernel_rfl, by kernel_rfl, trivial⟩, .inr (.inl ⟨rfl, _, _, _, rfl, rfl⟩), SX.noAli rfl⟩) (by kernel_rfl) ?_
                  refine SX.VC_df (.bool (!(decide (capOk z.kind z.limb z.n)))) (by intro α; show _ = _; kernel_rfl) (by kernel_rfl) ?_
                  refine SX.VC_br (!(decide (capOk z.kind z.limb z.n))) (by kernel_rfl) (fun h19 => ?_) (fun h19 => ?_)
                  · try simp only [NRM] at h19
                    refine SX.VC_df (.bool (true ^^ decide ((z.kind, z.limb, z.n) = ((0 : Int), (0 : Int), (0 : Int))))) (fun α => SX.eqr_rel (f := cellsCap) cellsCap_inj (y := (z.kind, z.limb, z.n)) (z := ((0 : Int), (0 : Int), (0 : Int))) (by kernel_rfl) (by kernel_rfl) (by kernel_rfl)) (by kernel_rfl) ?_
                    refine SX.VC_br (true ^^ decide ((z.kind, z.limb, z.n) = ((0 : Int), (0 : Int), (0 : Int)))) (by kernel_rfl) (fun h20 => ?_) (fun h20 => ?_)
                    · try simp only [NRM] at h20
                      exact SX.VC_ret fun α W _ _ hS => SX.ret_of hS (x := .int .i64 340) (by kernel_rfl) (by rw [chkL, if_neg (by omega), if_neg (not_ok hz fun hk => by have ⟨hk1, hk2, hk3, hk4, hk5, hk6⟩ := elemOk_iff.1 hk.1; exact hk6.elim (fun h => by have q := h19; simp [h] at q) (fun h => by have q := h20; simp [h.1, h.2.1, h.2.2.1] at q))])
                    · try simp only [NRM] at h20
                      refine SX.VC_df (.bool ((z.of_ : Int) == 0)) (by intro α; show _ = _; kernel_rfl) (by kernel_rfl) ?_
                      refine SX.VC_br ((z.of_ : Int) == 0) (by kernel_rfl) (fun h21 => ?_) (fun h21 => ?_)
                      · try simp only [NRM] at h21
                        exact SX.VC_ret fun α W _ _ hS => SX.ret_of hS (x := .int .i64 340) (by kernel_rfl) (by rw [chkL, if_neg (by omega), if_neg (not_ok hz fun hk => by have ⟨hk1, hk2, hk3, hk4, hk5, hk6⟩ := elemOk_iff.1 hk.1; exact hk6.elim (fun h => by have q := h19; simp [h] at q) (fun h => h.2.2.2 (by simpa using h21)))])
                      · try simp only [NRM] at h21
                        refine SX.VC_df (.bool (decide (refOk (ls.take i) z))) (fun α => ⟨[⟨.slice A n c, 9, lmL ls⟩, ⟨.int .i64 (i : Int), 0, []⟩], ⟨by kernel_rfl, rfl, ⟨by kernel_rfl, rfl, rfl⟩, by kernel_rfl, by kernel_rfl, trivial⟩, .inr (.inr (.inr (.inl ⟨rfl, .slice A n c, ls, i, z, rfl, by omega, hz, hok, rfl⟩))), SX.noAli rfl⟩) (by kernel_rfl) ?_
                        refine SX.VC_df (.bool (!(decide (refOk (ls.take i) z)))) (by intro α; show _ = _; kernel_rfl) (by kernel_rfl) ?_
                        refine SX.VC_br (!(decide (refOk (ls.take i) z))) (by kernel_rfl) (fun h23 => ?_) (fun h23 => ?_)
                        · try simp only [NRM] at h23
                          exact SX.VC_ret fun α W _ _ hS => SX.ret_of hS (x := .int .i64 340) (by kernel_rfl) (by rw [chkL, if_neg (by omega), if_neg (not_ok hz fun hk => by have q := h23; simp [hk.2.2] at q)])
                        · try simp only [NRM] at h23
                          refine SX.VC_df (.int .i64 (((i + 1 : Nat) : Int))) (fun α => Eq.trans (b := some (.int .i64 (IntKind.i64.wrap ((i : Int) + 1)))) (by kernel_rfl) (by rw [show ((i + 1 : Nat) : Int) = (i : Int) + 1 by omega, wrap_i64 (by omega) (by omega)])) (by kernel_rfl) ?_
                          exact SX.VC_again fun α => ⟨⟨i + 1, by kernel_rfl, by omega, okTo_succ hok hz ⟨elemOk_iff.2 ⟨(by have q := h9; (try simp at q); omega), (by have q := h12; (try simp at q); omega), (by have q := h14; (try simp at q); omega), (by have q := h15; (try simp at q); omega), (by have q := h17; (try simp at q); omega), .inr (by have q1 := h20; have q2 := h21; simp at q1 q2; exact ⟨q1.1, q1.2.1, q1.2.2, q2⟩)⟩, fun q hq => absurd (take_memI hq) (by rintro ⟨j, hj, -⟩; omega), by simpa using h23⟩⟩, cast (by kernel_rfl) (show n - ((i + 1 : Nat) : Int).toNat < n - (i : Int).toNat by omega)⟩
                  · try simp only [NRM] at h19
                    refine SX.VC_df (.bool (decide (refOk (ls.take i) z))) (fun α => ⟨[⟨.slice A n c, 9, lmL ls⟩, ⟨.int .i64 (i : Int), 0, []⟩], ⟨by kernel_rfl, rfl, ⟨by kernel_rfl, rfl, rfl⟩, by kernel_rfl, by kernel_rfl, trivial⟩, .inr (.inr (.inr (.inl ⟨rfl, .slice A n c, ls, i, z, rfl, by omega, hz, hok, rfl⟩))), SX.noAli rfl⟩) (by kernel_rfl) ?_
                    refine SX.VC_df (.bool (!(decide (refOk (ls.take i) z)))) (by intro α; show _ = _; kernel_rfl) (by kernel_rfl) ?_
                    refine SX.VC_br (!(decide (refOk (ls.take i) z))) (by kernel_rfl) (fun h21 => ?_) (fun h21 => ?_)
                    · try simp only [NRM] at h21
                      exact SX.VC_ret fun α W _ _ hS => SX.ret_of hS (x := .int .i64 340) (by kernel_rfl) (by rw [chkL, if_neg (by omega), if_neg (not_ok hz fun hk => by have q := h21; simp [hk.2.2] at q)])
                    · try simp only [NRM] at h21
                      refine SX.VC_df (.int .i64 (((i + 1 : Nat) : Int))) (fun α => Eq.trans (b := some (.int .i64 (IntKind.i64.wrap ((i : Int) + 1)))) (by kernel_rfl) (by rw [show ((i + 1 : Nat) : Int) = (i : Int) + 1 by omega, wrap_i64 (by omega) (by omega)])) (by kernel_rfl) ?_
                      exact SX.VC_again fun α => ⟨⟨i + 1, by kernel_rfl, by omega, okTo_succ hok hz ⟨elemOk_iff.2 ⟨(by have q := h9; (try simp at q); omega), (by have q := h12; (try simp at q); omega), (by have q := h14; (try simp at q); omega), (by have q := h15; (try simp at q); omega), (by have q := h17; (try simp at q); omega), .inl (by simpa using h19)⟩, fun q hq => absurd (take_memI hq) (by rintro ⟨j, hj, -⟩; omega), by simpa using h21⟩⟩, cast (by kernel_rfl) (show n - ((i + 1 : Nat) : Int).toNat < n - (i : Int).toNat by omega)⟩
    · try simp only [NRM] at h5
      exact SX.VC_ret fun α W _ _ hS => SX.ret_of hS (x := .int .i64 0) (by kernel_rfl) (by rw [chkL, if_neg (by omega), if_pos (okTo_len hok (by omega))])
end Go.Proofs.Ytmkigejhgpoleaa
