/-
  law10's cards: the walk of GroupNumbersSpec.
-/
import Derived.Test.YtockbjpldlopiaaDoorHq
namespace Go.Proofs.YtockbjpldlopiaaDoor
set_option linter.unusedSimpArgs false
set_option linter.unusedVariables false
open Go Go.RowKit
set_option maxRecDepth 100000 in
theorem relement_any (n : Int) (w : World) :
    Calls Tryd.prog 7 #[.int .i64 n] w fun e w' => e = .returned (.tuple #[.int .i64 (Jac.elV n), .int .i64 (Jac.elE n)]) ∧ w = w' := by
  rcases Jac.el_cases n with ⟨hn, hm⟩ | ⟨hn, hm⟩ | ⟨hn1, hn2, hv, hm⟩ | ⟨hn1, hn2, hv, hm⟩
  all_goals
    have HM := Lib.hid hm
    clear hm
    go_enter Tryd.func7, Tryd.ntmps7
    go_wp2_with (go_at_call 16; refine (rvalid_any _ _).mono ?_; rintro e w' ⟨rfl, rfl⟩)
    go_ret2
    exact ⟨ret_ii HM.out.1.symm HM.out.2.symm, rfl⟩
set_option maxRecDepth 100000 in
theorem rnumber_any (n : Int) (w : World) :
    Calls Tryd.prog 9 #[.int .i64 n] w fun e w' => e = .returned (.tuple #[.int .i64 (Jac.nuV n), .int .i64 (Jac.mulE n n)]) ∧ w = w' := by
  rcases Jac.nu_cases n with ⟨hv, hm⟩ | ⟨hv, h1, h2, h3, hm⟩ | ⟨hv, h1, h2, h3, hm⟩
  all_goals
    have HM := Lib.hid hm
    clear hm
    go_enter Tryd.func9, Tryd.ntmps9
    go_wp2_with (go_at_call 16; refine (rvalid_any _ _).mono ?_; rintro e w' ⟨rfl, rfl⟩)
    go_ret2
    exact ⟨ret_ii HM.out.1.symm HM.out.2.symm, rfl⟩
theorem same_below {w w' : World} {u : Value} {e : Ending} (h : e = .returned u ∧ w = w') : e = .returned u ∧ Below w.heap.size w w' := ⟨h.1, by rw [← h.2]; exact Below.refl _ _⟩
def NumR (f : FuncId) (xs : List SX.Arg) (v : Value) : Prop := (f ∈ [6, 7] ∧ ∃ n : Int, xs = [⟨.int .i64 n, 0, []⟩] ∧ v = .tuple #[.int .i64 (Jac.elV n), .int .i64 (Jac.elE n)]) ∨ (f ∈ [8, 9] ∧ ∃ n : Int, xs = [⟨.int .i64 n, 0, []⟩] ∧ v = .tuple #[.int .i64 (Jac.nuV n), .int .i64 (Jac.mulE n n)])
def RhashR (f : FuncId) (xs : List SX.Arg) (v : Value) : Prop := f = 11 ∧ ∃ (s : ByteArray) (u : Value) (l : List W8), xs = [⟨.string s, 0, []⟩, ⟨u, 1, l.flatMap c8⟩] ∧ s.size < 2 ^ 44 ∧ l.length < 2 ^ 44 ∧ v = .int .i64 (hashN (tagE (sb s) l) : Int)
noncomputable def cxN (K A : Value → Nat → List Value → Prop) : SX.Cx := { P := Tryd.prog, R := fun K f xs v => HashR K f xs v ∨ SaneR f xs v ∨ NumR f xs v ∨ RhashR f xs v, shp := fun f => if f ∈ [6, 7, 8, 9] then some (.tp [.one, .one]) else if f ∈ [10, 11, 5] then some .one else none, K := K, A := A, arr := true, trm := true }
theorem cxN_ok (K A : Value → Nat → List Value → Prop) : (cxN K A).Ok := SX.Cx.ok_of (fun _ => rfl) fun _ f xs v W h hrd hK => by
  rcases h with h | ⟨rfl, rfl, rfl⟩ | (⟨hf, n, rfl, rfl⟩ | ⟨hf, n, rfl, rfl⟩) | ⟨rfl, s, u, l, rfl, hs, hl, rfl⟩
  · have hf := h.1
    exact (hashR_calls h hrd hK).mono fun e w' h => SX.plainOk (by subst hf; rfl) h
  · exact (sane_any W).mono fun e w' h => SX.plainOk rfl h
  · rcases List.mem_cons.1 hf with rfl | hf
    · exact (element_any n W).mono fun e w' h => SX.plainOk rfl (same_below h)
    · obtain rfl := List.mem_singleton.1 hf
      exact (relement_any n W).mono fun e w' h => SX.plainOk rfl (same_below h)
  · rcases List.mem_cons.1 hf with rfl | hf
    · exact (number_any n W).mono fun e w' h => SX.plainOk rfl (same_below h)
    · obtain rfl := List.mem_singleton.1 hf
      exact (rnumber_any n W).mono fun e w' h => SX.plainOk rfl (same_below h)
  · obtain ⟨A, n, c, rfl, hr, hc, hn⟩ := byte_arg (hrd ⟨u, 1, l.flatMap c8⟩ (List.mem_cons_of_mem _ (List.mem_singleton_self _)))
    exact (rhash_any s l hs hl A n c W hr hc).mono fun e w' h => SX.plainOk rfl h
def args_lnum : List SX.V := [.x 0 [], .x 1 [], .x 2 []]
def tree_lnum : SX.Tree :=
(.df (.call 5 []) [] .one 
(.df .not [(.x 3 [])] .one 
(.br 4 [] 
(.ret (.k (.bool false)) [] []) 
(.df (.len false) [(.x 2 [])] .one 
(.df (.bin .gtr 3) [(.x 5 []), (.k (.int .i64 2000))] .one 
(.br 6 [] 
(.ret (.k (.bool true)) [] []) 
(.df (.len true) [(.x 1 [])] .one 
(.df (.bin .gtr 3) [(.x 7 []), (.k (.int .i64 200))] .one 
(.br 8 [] 
(.ret (.k (.bool true)) [] []) 
(.df (.call 6 [.no]) [(.x 0 [])] (.tp [.one, .one]) 
(.df (.call 7 [.no]) [(.x 0 [])] (.tp [.one, .one]) 
(.df (.call 8 [.no]) [(.x 0 [])] (.tp [.one, .one]) 
(.df (.call 9 [.no]) [(.x 0 [])] (.tp [.one, .one]) 
(.df (.bin .eql 3) [(.x 9 [0]), (.x 10 [0])] .one 
(.br 13 [] 
(.df (.bin .eql 24) [(.x 9 [1]), (.x 10 [1])] .one 
(.br 14 [] 
(.df (.bin .eql 3) [(.x 11 [0]), (.x 12 [0])] .one 
(.br 15 [] 
(.df (.bin .eql 24) [(.x 11 [1]), (.x 12 [1])] .one 
(.br 16 [] 
(.df (.call 10 [.no, (.ext 1)]) [(.x 1 []), (.x 2 [])] .one 
(.df (.call 11 [.no, (.ext 1)]) [(.x 1 []), (.x 2 [])] .one 
(.df (.bin .eql 3) [(.x 17 []), (.x 18 [])] .one 
(.ret (.x 19 []) [] [])))) 
(.ret (.k (.bool false)) [] []))) 
(.ret (.k (.bool false)) [] []))) 
(.ret (.k (.bool false)) [] []))) 
(.ret (.k (.bool false)) [] []))))))))))))))))
set_option maxRecDepth 100000 in
theorem run_lnum (K A : Value → Nat → List Value → Prop) : (SX.run (cxN K A) ⟨fun _ => false, [], 0, 100⟩ 100000 0 (SX.door 3 Tryd.f3 args_lnum [.one, .one, .one]) [.code (Tryd.f3.body.getD .skip), .top Tryd.f3]).strip = tree_lnum := by kernel_rfl
theorem eql_self (x : Int) : SX.binV .eql (.int .i64 x) (.int .i64 x) = some (.bool true) := by simp [SX.binV, binI]
set_option maxRecDepth 100000 in
set_option maxHeartbeats 4000000 in
theorem groupNumbers_walk (m : Int) (s : ByteArray) (A : Option Addr) (n c : Nat) (l : List W8) (w : World) (hr : Rd w 1 A n (l.flatMap c8)) (hc : n ≤ c) (hlaid : Laid w) : Calls Tryd.prog 3 #[.int .i64 m, .string s, .slice A n c] w fun e w' => e = .returned (.bool true) ∧ Below w.heap.size w w' := by
  have hln : l.length = n := by have := hr.1; rw [SX.flat_len c8_len] at this; omega
  refine SX.calls_of_run (C := cxN (KS A n c l) (KS A n c l)) (G := ⟨fun _ => false, [], 0, 100⟩) (args := args_lnum) (sh := [.one, .one, .one]) (ρ := [.int .i64 m, .string s, .slice A n c]) 100000 tree_lnum (cxN_ok _ _) Tryd.func3 rfl (cast (by kernel_rfl) (run_lnum (KS A n c l) (KS A n c l))) (by kernel_rfl) (by kernel_rfl) (by kernel_rfl) ?_ ?_
  · rintro W hW v z xs (⟨rfl, rfl, rfl⟩ | ⟨rfl, rfl, rfl⟩ | ⟨rfl, rfl, rfl⟩)
    · exact ⟨hr.same0 hW, hc⟩
    · exact ⟨hlaid.1.same0 hW, Nat.le_refl _⟩
    · exact ⟨hlaid.2.same0 hW, Nat.le_refl _⟩
  have hL : LaidK (KS A n c l) := ⟨.inr (.inl ⟨rfl, rfl, rfl⟩), .inr (.inr ⟨rfl, rfl, rfl⟩)⟩
  have hin : (KS A n c l) (.slice A n c) 1 (l.flatMap c8) := .inl ⟨rfl, rfl, rfl⟩
  unfold tree_lnum
  refine SX.VC_df (.bool true) (fun α => ⟨[], trivial, .inr (.inl ⟨rfl, rfl, rfl⟩), SX.noAli rfl⟩) (by kernel_rfl) ?_
  refine SX.VC_df (.bool false) (by intro α; show _ = _; kernel_rfl) (by kernel_rfl) ?_
  refine SX.VC_br false (by kernel_rfl) (fun h => absurd h (by simp)) (fun _ => ?_)
  refine SX.VC_df (.int .i64 (n : Int)) (by intro α; show _ = _; kernel_rfl) (by kernel_rfl) ?_
  refine SX.VC_df (.bool (decide (2000 < n))) (fun α => cast (by kernel_rfl) (gtr_nat n 2000)) (by kernel_rfl) ?_
  refine SX.VC_br (decide (2000 < n)) (by kernel_rfl) (fun h1 => ?_) (fun h1 => ?_)
  · exact SX.VC_ret fun α W _ _ hS => SX.ret_of (x := .bool true) hS (by kernel_rfl) rfl
  have h1 : ¬ 2000 < n := by simpa using h1
  refine SX.VC_df (.int .i64 (s.size : Int)) (by intro α; show _ = _; kernel_rfl) (by kernel_rfl) ?_
  refine SX.VC_df (.bool (decide (200 < s.size))) (fun α => cast (by kernel_rfl) (gtr_nat s.size 200)) (by kernel_rfl) ?_
  refine SX.VC_br (decide (200 < s.size)) (by kernel_rfl) (fun h2 => ?_) (fun h2 => ?_)
  · exact SX.VC_ret fun α W _ _ hS => SX.ret_of (x := .bool true) hS (by kernel_rfl) rfl
  have h2 : ¬ 200 < s.size := by simpa using h2
  refine SX.VC_df (.tuple #[.int .i64 (Jac.elV m), .int .i64 (Jac.elE m)]) (fun α => ⟨[⟨.int .i64 m, 0, []⟩], ⟨by kernel_rfl, by kernel_rfl, trivial⟩, .inr (.inr (.inl (.inl ⟨by decide, m, rfl, rfl⟩))), SX.noAli rfl⟩) (by kernel_rfl) ?_
  refine SX.VC_df (.tuple #[.int .i64 (Jac.elV m), .int .i64 (Jac.elE m)]) (fun α => ⟨[⟨.int .i64 m, 0, []⟩], ⟨by kernel_rfl, by kernel_rfl, trivial⟩, .inr (.inr (.inl (.inl ⟨by decide, m, rfl, rfl⟩))), SX.noAli rfl⟩) (by kernel_rfl) ?_
  refine SX.VC_df (.tuple #[.int .i64 (Jac.nuV m), .int .i64 (Jac.mulE m m)]) (fun α => ⟨[⟨.int .i64 m, 0, []⟩], ⟨by kernel_rfl, by kernel_rfl, trivial⟩, .inr (.inr (.inl (.inr ⟨by decide, m, rfl, rfl⟩))), SX.noAli rfl⟩) (by kernel_rfl) ?_
  refine SX.VC_df (.tuple #[.int .i64 (Jac.nuV m), .int .i64 (Jac.mulE m m)]) (fun α => ⟨[⟨.int .i64 m, 0, []⟩], ⟨by kernel_rfl, by kernel_rfl, trivial⟩, .inr (.inr (.inl (.inr ⟨by decide, m, rfl, rfl⟩))), SX.noAli rfl⟩) (by kernel_rfl) ?_
  refine SX.VC_df (.bool true) (fun α => cast (by kernel_rfl) (eql_self (Jac.elV m))) (by kernel_rfl) ?_
  refine SX.VC_br true (by kernel_rfl) (fun _ => ?_) (fun h => absurd h (by simp))
  refine SX.VC_df (.bool true) (fun α => cast (by kernel_rfl) (eql_self (Jac.elE m))) (by kernel_rfl) ?_
  refine SX.VC_br true (by kernel_rfl) (fun _ => ?_) (fun h => absurd h (by simp))
  refine SX.VC_df (.bool true) (fun α => cast (by kernel_rfl) (eql_self (Jac.nuV m))) (by kernel_rfl) ?_
  refine SX.VC_br true (by kernel_rfl) (fun _ => ?_) (fun h => absurd h (by simp))
  refine SX.VC_df (.bool true) (fun α => cast (by kernel_rfl) (eql_self (Jac.mulE m m))) (by kernel_rfl) ?_
  refine SX.VC_br true (by kernel_rfl) (fun _ => ?_) (fun h => absurd h (by simp))
  refine SX.VC_df (.int .i64 (hashN (tagE (sb s) l) : Int)) (fun α => ⟨[⟨.string s, 0, []⟩, ⟨.slice A n c, 1, l.flatMap c8⟩], ⟨by kernel_rfl, by kernel_rfl, by kernel_rfl, by kernel_rfl, cast (by kernel_rfl) hin, trivial⟩, .inl ⟨rfl, hL, s, _, l, rfl, by omega, by omega, rfl⟩, SX.noAli rfl⟩) (by kernel_rfl) ?_
  refine SX.VC_df (.int .i64 (hashN (tagE (sb s) l) : Int)) (fun α => ⟨[⟨.string s, 0, []⟩, ⟨.slice A n c, 1, l.flatMap c8⟩], ⟨by kernel_rfl, by kernel_rfl, by kernel_rfl, by kernel_rfl, cast (by kernel_rfl) hin, trivial⟩, .inr (.inr (.inr ⟨rfl, s, _, l, rfl, by omega, by omega, rfl⟩)), SX.noAli rfl⟩) (by kernel_rfl) ?_
  refine SX.VC_df (.bool true) (fun α => cast (by kernel_rfl) (eql_self (hashN (tagE (sb s) l) : Int))) (by kernel_rfl) ?_
  exact SX.VC_ret fun α W _ _ hS => SX.ret_of (x := .bool true) hS (by kernel_rfl) rfl
end Go.Proofs.YtockbjpldlopiaaDoor
