/-
  A further limit: the walk.
-/
import Derived.Test.YtmkigejhgpoleaaLfa
namespace Go.Proofs.Ytmkigejhgpoleaa
set_option linter.unusedSimpArgs false
set_option linter.unusedVariables false
open Go Go.RowKit
/-- the limit, replacing nothing -/
def noOf (x : Lim) : Lim := ⟨x.no, x.person, 0, x.from_, x.to_, x.known, x.kind, x.limb, x.n⟩
def tree_further : SX.Tree :=
(.df (.call 10 []) [] .one 
(.df .not [(.x 30 [])] .one 
(.br 31 [] 
(.ret (.k (.bool false)) [] []) 
(.df (.call 12 [(.ext 9), .no]) [(.x 17 []), (.a [(.x 18 []), (.x 19 []), (.k (.int .i64 0)), (.x 21 []), (.x 22 []), (.x 23 []), (.x 24 []), (.x 25 []), (.x 26 [])])] (.tp [(.sl 9), .one]) 
(.df (.len false) [(.x 17 [])] .one 
(.df (.bin .gtr 3) [(.x 33 []), (.k (.int .i64 60))] .one 
(.br 34 [] 
(.ret (.k (.bool true)) [] []) 
(.df (.bin .neq 29) [(.x 32 [1]), (.k (.int .i64 0))] .one 
(.br 35 [] 
(.ret (.k (.bool true)) [] []) 
(.df (.call 19 [.no, (.ext 9), .no, .no, .no]) [(.a [(.x 0 []), (.x 1 []), (.x 2 []), (.x 3 []), (.x 4 []), (.x 5 []), (.x 6 []), (.x 7 []), (.x 8 []), (.x 9 []), (.x 10 []), (.x 11 []), (.x 12 []), (.x 13 []), (.x 14 []), (.x 15 []), (.x 16 [])]), (.x 17 []), (.x 27 []), (.x 28 []), (.x 29 [])] (.tp [(.ag 17), .one]) 
(.df (.call 19 [.no, (.row 9 [(.x 32 [0])]), .no, .no, .no]) [(.a [(.x 0 []), (.x 1 []), (.x 2 []), (.x 3 []), (.x 4 []), (.x 5 []), (.x 6 []), (.x 7 []), (.x 8 []), (.x 9 []), (.x 10 []), (.x 11 []), (.x 12 []), (.x 13 []), (.x 14 []), (.x 15 []), (.x 16 [])]), (.row 2), (.x 27 []), (.x 28 []), (.x 29 [])] (.tp [(.ag 17), .one]) 
(.df (.bin .neq 29) [(.x 36 [1]), (.x 37 [1])] .one 
(.br 38 [] 
(.ret (.k (.bool false)) [] []) 
(.df (.bin .neq 29) [(.x 36 [1]), (.k (.int .i64 0))] .one 
(.br 39 [] 
(.ret (.k (.bool true)) [] []) 
(.df (.bin .neq 3) [(.x 19 []), (.x 27 [])] .one 
(.br 40 [] 
(.df (.eqr false 17 [.s, (.i .i64), (.i .i64), (.i .i64), (.i .i64), (.i .i64), (.i .i64), (.i .i64), (.i .i64), (.i .i64), (.i .i64), (.i .i64), (.i .i64), (.i .i64), (.i .i64), (.i .i64), (.i .i64)]) [(.x 36 [0, 0]), (.x 36 [0, 1]), (.x 36 [0, 2]), (.x 36 [0, 3]), (.x 36 [0, 4]), (.x 36 [0, 5]), (.x 36 [0, 6]), (.x 36 [0, 7]), (.x 36 [0, 8]), (.x 36 [0, 9]), (.x 36 [0, 10]), (.x 36 [0, 11]), (.x 36 [0, 12]), (.x 36 [0, 13]), (.x 36 [0, 14]), (.x 36 [0, 15]), (.x 36 [0, 16]), (.x 37 [0, 0]), (.x 37 [0, 1]), (.x 37 [0, 2]), (.x 37 [0, 3]), (.x 37 [0, 4]), (.x 37 [0, 5]), (.x 37 [0, 6]), (.x 37 [0, 7]), (.x 37 [0, 8]), (.x 37 [0, 9]), (.x 37 [0, 10]), (.x 37 [0, 11]), (.x 37 [0, 12]), (.x 37 [0, 13]), (.x 37 [0, 14]), (.x 37 [0, 15]), (.x 37 [0, 16])] .one 
(.ret (.x 41 []) [] [])) 
(.df (.bin .gtr 3) [(.x 23 []), (.x 29 [])] .one 
(.br 41 [] 
(.df (.eqr false 17 [.s, (.i .i64), (.i .i64), (.i .i64), (.i .i64), (.i .i64), (.i .i64), (.i .i64), (.i .i64), (.i .i64), (.i .i64), (.i .i64), (.i .i64), (.i .i64), (.i .i64), (.i .i64), (.i .i64)]) [(.x 36 [0, 0]), (.x 36 [0, 1]), (.x 36 [0, 2]), (.x 36 [0, 3]), (.x 36 [0, 4]), (.x 36 [0, 5]), (.x 36 [0, 6]), (.x 36 [0, 7]), (.x 36 [0, 8]), (.x 36 [0, 9]), (.x 36 [0, 10]), (.x 36 [0, 11]), (.x 36 [0, 12]), (.x 36 [0, 13]), (.x 36 [0, 14]), (.x 36 [0, 15]), (.x 36 [0, 16]), (.x 37 [0, 0]), (.x 37 [0, 1]), (.x 37 [0, 2]), (.x 37 [0, 3]), (.x 37 [0, 4]), (.x 37 [0, 5]), (.x 37 [0, 6]), (.x 37 [0, 7]), (.x 37 [0, 8]), (.x 37 [0, 9]), (.x 37 [0, 10]), (.x 37 [0, 11]), (.x 37 [0, 12]), (.x 37 [0, 13]), (.x 37 [0, 14]), (.x 37 [0, 15]), (.x 37 [0, 16])] .one 
(.ret (.x 42 []) [] [])) 
(.df (.bin .lss 3) [(.x 28 []), (.x 21 [])] .one 
(.br 42 [] 
(.df (.eqr false 17 [.s, (.i .i64), (.i .i64), (.i .i64), (.i .i64), (.i .i64), (.i .i64), (.i .i64), (.i .i64), (.i .i64), (.i .i64), (.i .i64), (.i .i64), (.i .i64), (.i .i64), (.i .i64), (.i .i64)]) [(.x 36 [0, 0]), (.x 36 [0, 1]), (.x 36 [0, 2]), (.x 36 [0, 3]), (.x 36 [0, 4]), (.x 36 [0, 5]), (.x 36 [0, 6]), (.x 36 [0, 7]), (.x 36 [0, 8]), (.x 36 [0, 9]), (.x 36 [0, 10]), (.x 36 [0, 11]), (.x 36 [0, 12]), (.x 36 [0, 13]), (.x 36 [0, 14]), (.x 36 [0, 15]), (.x 36 [0, 16]), (.x 37 [0, 0]), (.x 37 [0, 1]), (.x 37 [0, 2]), (.x 37 [0, 3]), (.x 37 [0, 4]), (.x 37 [0, 5]), (.x 37 [0, 6]), (.x 37 [0, 7]), (.x 37 [0, 8]), (.x 37 [0, 9]), (.x 37 [0, 10]), (.x 37 [0, 11]), (.x 37 [0, 12]), (.x 37 [0, 13]), (.x 37 [0, 14]), (.x 37 [0, 15]), (.x 37 [0, 16])] .one 
(.ret (.x 43 []) [] [])) 
(.df (.bin .gtr 3) [(.x 28 []), (.x 22 [])] .one 
(.br 43 [] 
(.df (.eqr false 17 [.s, (.i .i64), (.i .i64), (.i .i64), (.i .i64), (.i .i64), (.i .i64), (.i .i64), (.i .i64), (.i .i64), (.i .i64), (.i .i64), (.i .i64), (.i .i64), (.i .i64), (.i .i64), (.i .i64)]) [(.x 36 [0, 0]), (.x 36 [0, 1]), (.x 36 [0, 2]), (.x 36 [0, 3]), (.x 36 [0, 4]), (.x 36 [0, 5]), (.x 36 [0, 6]), (.x 36 [0, 7]), (.x 36 [0, 8]), (.x 36 [0, 9]), (.x 36 [0, 10]), (.x 36 [0, 11]), (.x 36 [0, 12]), (.x 36 [0, 13]), (.x 36 [0, 14]), (.x 36 [0, 15]), (.x 36 [0, 16]), (.x 37 [0, 0]), (.x 37 [0, 1]), (.x 37 [0, 2]), (.x 37 [0, 3]), (.x 37 [0, 4]), (.x 37 [0, 5]), (.x 37 [0, 6]), (.x 37 [0, 7]), (.x 37 [0, 8]), (.x 37 [0, 9]), (.x 37 [0, 10]), (.x 37 [0, 11]), (.x 37 [0, 12]), (.x 37 [0, 13]), (.x 37 [0, 14]), (.x 37 [0, 15]), (.x 37 [0, 16])] .one 
(.ret (.x 44 []) [] [])) 
(.df (.call 22 [.no, .no]) [(.a [(.x 37 [0, 0]), (.x 37 [0, 1]), (.x 37 [0, 2]), (.x 37 [0, 3]), (.x 37 [0, 4]), (.x 37 [0, 5]), (.x 37 [0, 6]), (.x 37 [0, 7]), (.x 37 [0, 8]), (.x 37 [0, 9]), (.x 37 [0, 10]), (.x 37 [0, 11]), (.x 37 [0, 12]), (.x 37 [0, 13]), (.x 37 [0, 14]), (.x 37 [0, 15]), (.x 37 [0, 16])]), (.a [(.x 36 [0, 0]), (.x 36 [0, 1]), (.x 36 [0, 2]), (.x 36 [0, 3]), (.x 36 [0, 4]), (.x 36 [0, 5]), (.x 36 [0, 6]), (.x 36 [0, 7]), (.x 36 [0, 8]), (.x 36 [0, 9]), (.x 36 [0, 10]), (.x 36 [0, 11]), (.x 36 [0, 12]), (.x 36 [0, 13]), (.x 36 [0, 14]), (.x 36 [0, 15]), (.x 36 [0, 16])])] (.tp [.one, .one]) 
(.df (.bin .eql 29) [(.x 44 [1]), (.k (.int .i64 0))] .one 
(.br 45 [] 
(.br 44 [0] 
(.df (.call 23 [.no, .no]) [(.a [(.x 37 [0, 0]), (.x 37 [0, 1]), (.x 37 [0, 2]), (.x 37 [0, 3]), (.x 37 [0, 4]), (.x 37 [0, 5]), (.x 37 [0, 6]), (.x 37 [0, 7]), (.x 37 [0, 8]), (.x 37 [0, 9]), (.x 37 [0, 10]), (.x 37 [0, 11]), (.x 37 [0, 12]), (.x 37 [0, 13]), (.x 37 [0, 14]), (.x 37 [0, 15]), (.x 37 [0, 16])]), (.a [(.x 24 []), (.x 25 []), (.x 26 [])])] .one 
(.ret (.x 46 []) [] [])) 
(.ret (.k (.bool false)) [] [])) 
(.ret (.k (.bool false)) [] [])))))))))))))))))))))))))))
def args_further : List SX.V := [.a ((List.range 17).map fun j => .x (0 + j) []), .x 17 [], .a ((List.range 9).map fun j => .x (18 + j) []), .x 27 [], .x 28 [], .x 29 []]
set_option maxRecDepth 100000 in
theorem run_further (K A : Value → Nat → List Value → Prop) : (SX.run (cxG K A) ⟨fun f => true, [], 0, 100⟩ 100000 0 (SX.door 9 Try.f9 args_further (List.replicate 30 .one)) [.code (Try.f9.body.getD .skip), .top Try.f9]).strip = tree_further := by kernel_rfl
set_option maxRecDepth 100000 in
set_option maxHeartbeats 4000000 in
theorem further_any (b : Bod.Bd) (ls : List Lim) (A : Option Addr) (n c : Nat) (x : Lim) (p d t : Int) (w : World) (hs : b.name.size ≤ maxLen) (hr : Rd w 9 A n (lmL ls)) (hn : n ≤ 9223372036854775807) (hc : n ≤ c) (hfit : fitLm ls) : Calls Try.prog 9 #[valBd b, .slice A n c, valLm x, .int .i64 p, .int .i64 d, .int .i64 t] w fun e w' => e = .returned (.bool true) ∧ Below w.heap.size w w' := by
  refine SX.calls_of_run (C := cxG (fun s sz cells => s = .slice A n c ∧ sz = 9 ∧ cells = lmL ls) (fun _ _ _ => False)) (G := ⟨fun f => true, [], 0, 100⟩) (args := args_further) (sh := (List.replicate 30 .one)) (ρ := (cellsBd b ++ [.slice A n c] ++ cellsLm x ++ [.int .i64 p, .int .i64 d, .int .i64 t])) 100000 tree_further (okG _ _) Try.func9 rfl (run_further _ _) (by kernel_rfl) (by kernel_rfl) (by kernel_rfl) ?_ ?_
  · rintro W hW s sz cells ⟨rfl, rfl, rfl⟩; exact ⟨hr.same0 hW, hc⟩
  have hA := SX.rd_some hr
  have hln : ls.length = n := by have := hr.1; rw [lmL_len] at this; omega
  have h00 : fitI (noOf x).of_ := by show fitI 0; unfold fitI; omega
  unfold tree_further
  refine SX.VC_df (.bool true) (fun α => ⟨[], trivial, .inr (.inr (.inr (.inr (.inr (.inl ⟨rfl, rfl, rfl⟩))))), SX.noAli rfl⟩) (by kernel_rfl) ?_
  refine SX.VC_df (.bool (!(true))) (by intro α; show _ = _; kernel_rfl) (by kernel_rfl) ?_
  refine SX.VC_br (!(true)) (by kernel_rfl) (fun h31 => absurd h31 (by simp)) (fun h31 => ?_)
  try simp only [NRM] at h31
  refine SX.VC_df (.tuple #[Value.agg (lmL (addR ls (noOf x)).1).toArray, .int .i64 ((addR ls (noOf x)).2)]) (fun α => ⟨[⟨.slice A n c, 9, lmL ls⟩, ⟨valLm (noOf x), 0, []⟩], ⟨by kernel_rfl, rfl, ⟨by kernel_rfl, rfl, rfl⟩, by kernel_rfl, by kernel_rfl, trivial⟩, .inr (.inr (.inl ⟨rfl, _, ls, noOf x, rfl, by omega, hfit, h00, rfl⟩)), SX.noAli rfl⟩) (lms_fit _ _) ?_
  refine SX.VC_df (.int .i64 (((n : Nat) : Int))) (by intro α; show _ = _; kernel_rfl) (by kernel_rfl) ?_
  refine SX.VC_df (.bool (decide (((n : Nat) : Int) > 60))) (by intro α; show _ = _; kernel_rfl) (by kernel_rfl) ?_
  refine SX.VC_br (decide (((n : Nat) : Int) > 60)) (by kernel_rfl) (fun h34 => ?_) (fun h34 => ?_)
  · try simp only [NRM] at h34
    exact SX.VC_ret fun α W _ _ hS => SX.ret_of hS (x := .bool true) (by kernel_rfl) (by simp)
  · try simp only [NRM] at h34
    refine SX.VC_df (.bool (((addR ls (noOf x)).2 : Int) != 0)) (by intro α; show _ = _; kernel_rfl) (by kernel_rfl) ?_
    refine SX.VC_br (((addR ls (noOf x)).2 : Int) != 0) (by kernel_rfl) (fun h35 => ?_) (fun h35 => ?_)
    · try simp only [NRM] at h35
      exact SX.VC_ret fun α W _ _ hS => SX.ret_of hS (x := .bool true) (by kernel_rfl) (by simp)
    · try simp only [NRM] at h35
      have hx0 : (addR ls (noOf x)).2 = 0 := by simpa using h35
      have hl60 : ls.length ≤ 60 := by omega
      have he := further_err (b := b) (p := p) (d := d) (t := t) hx0 hl60
      refine SX.VC_df (.tuple #[(valBd (inForceR b ls p d t).1), .int .i64 ((inForceR b ls p d t).2)]) (fun α => ⟨[⟨valBd b, 0, []⟩, ⟨.slice A n c, 9, lmL ls⟩, ⟨.int .i64 p, 0, []⟩, ⟨.int .i64 d, 0, []⟩, ⟨.int .i64 t, 0, []⟩], ⟨by kernel_rfl, by kernel_rfl, by kernel_rfl, rfl, ⟨by kernel_rfl, rfl, rfl⟩, by kernel_rfl, by kernel_rfl, by kernel_rfl, by kernel_rfl, by kernel_rfl, by kernel_rfl, trivial⟩, .inr (.inr (.inr (.inr (.inl ⟨rfl, b, _, ls, p, d, t, rfl, hs, by omega, hfit, rfl⟩)))), SX.noAli rfl⟩) (by kernel_rfl) ?_
      refine SX.VC_df (.tuple #[(valBd (inForceR b (addR ls (noOf x)).1 p d t).1), .int .i64 ((inForceR b (addR ls (noOf x)).1 p d t).2)]) (fun α => ⟨[⟨valBd b, 0, []⟩, ⟨(α 2).h, 9, lmL ((addR ls (noOf x)).1)⟩, ⟨.int .i64 p, 0, []⟩, ⟨.int .i64 d, 0, []⟩, ⟨.int .i64 t, 0, []⟩], ⟨by kernel_rfl, by kernel_rfl, Eq.trans (b := (⟨(α 2).h, 9, [Value.agg (lmL ((addR ls (noOf x)).1)).toArray].flatMap SX.cellsV⟩ : SX.Arg)) (by simp [SX.cellsV]) (by kernel_rfl), by kernel_rfl, by kernel_rfl, by kernel_rfl, by kernel_rfl, by kernel_rfl, by kernel_rfl, trivial⟩, .inr (.inr (.inr (.inr (.inl ⟨rfl, b, _, (addR ls (noOf x)).1, p, d, t, rfl, hs, Nat.le_trans (addR_le _ _) (by omega), addR_fit hfit h00, rfl⟩)))), SX.noAli rfl⟩) (by kernel_rfl) ?_
      refine SX.VC_df (.bool (((inForceR b ls p d t).2 : Int) != (inForceR b (addR ls (noOf x)).1 p d t).2)) (by intro α; show _ = _; kernel_rfl) (by kernel_rfl) ?_
      refine SX.VC_br (((inForceR b ls p d t).2 : Int) != (inForceR b (addR ls (noOf x)).1 p d t).2) (by kernel_rfl) (fun h38 => absurd h38 (by rw [he]; simp)) (fun h38 => ?_)
      try simp only [NRM] at h38
      refine SX.VC_df (.bool (((inForceR b ls p d t).2 : Int) != 0)) (by intro α; show _ = _; kernel_rfl) (by kernel_rfl) ?_
      refine SX.VC_br (((inForceR b ls p d t).2 : Int) != 0) (by kernel_rfl) (fun h39 => ?_) (fun h39 => ?_)
      · try simp only [NRM] at h39
        exact SX.VC_ret fun α W _ _ hS => SX.ret_of hS (x := .bool true) (by kernel_rfl) (by simp)
      · try simp only [NRM] at h39
        have hu0 : (inForceR b ls p d t).2 = 0 := by simpa using h39
        have hv0 : (inForceR b (addR ls (noOf x)).1 p d t).2 = 0 := by rw [← he]; exact hu0
        refine SX.VC_df (.bool ((x.person : Int) != p)) (by intro α; show _ = _; kernel_rfl) (by kernel_rfl) ?_
        refine SX.VC_br ((x.person : Int) != p) (by kernel_rfl) (fun h40 => ?_) (fun h40 => ?_)
        · try simp only [NRM] at h40
          refine SX.VC_df (.bool (false ^^ decide ((inForceR b ls p d t).1 = (inForceR b (addR ls (noOf x)).1 p d t).1))) (fun α => SX.eqr_rel (f := cellsBd) cellsBd_inj (y := (inForceR b ls p d t).1) (z := (inForceR b (addR ls (noOf x)).1 p d t).1) (by kernel_rfl) (by kernel_rfl) (by kernel_rfl)) (by kernel_rfl) ?_
          exact SX.VC_ret fun α W _ _ hS => SX.ret_of hS (x := .bool (false ^^ decide ((inForceR b ls p d t).1 = (inForceR b (addR ls (noOf x)).1 p d t).1))) (by kernel_rfl) (by rw [further_same hx0 rfl hu0 hv0 (fun hk => by exact absurd hk.1 (by simpa [noOf] using h40))]; simp)
        · try simp only [NRM] at h40
          refine SX.VC_df (.bool (decide (x.known > t))) (by intro α; show _ = _; kernel_rfl) (by kernel_rfl) ?_
          refine SX.VC_br (decide (x.known > t)) (by kernel_rfl) (fun h41 => ?_) (fun h41 => ?_)
          · try simp only [NRM] at h41
            refine SX.VC_df (.bool (false ^^ decide ((inForceR b ls p d t).1 = (inForceR b (addR ls (noOf x)).1 p d t).1))) (fun α => SX.eqr_rel (f := cellsBd) cellsBd_inj (y := (inForceR b ls p d t).1) (z := (inForceR b (addR ls (noOf x)).1 p d t).1) (by kernel_rfl) (by kernel_rfl) (by kernel_rfl)) (by kernel_rfl) ?_
            exact SX.VC_ret fun α W _ _ hS => SX.ret_of hS (x := .bool (false ^^ decide ((inForceR b ls p d t).1 = (inForceR b (addR ls (noOf x)).1 p d t).1))) (by kernel_rfl) (by rw [further_same hx0 rfl hu0 hv0 (fun hk => by have q := hk.2.1; have q : x.known ≤ t := q; omega)]; simp)
          · try simp only [NRM] at h41
            refine SX.VC_df (.bool (decide (d < x.from_))) (by intro α; show _ = _; kernel_rfl) (by kernel_rfl) ?_
            refine SX.VC_br (decide (d < x.from_)) (by kernel_rfl) (fun h42 => ?_) (fun h42 => ?_)
            · try simp only [NRM] at h42
              refine SX.VC_df (.bool (false ^^ decide ((inForceR b ls p d t).1 = (inForceR b (addR ls (noOf x)).1 p d t).1))) (fun α => SX.eqr_rel (f := cellsBd) cellsBd_inj (y := (inForceR b ls p d t).1) (z := (inForceR b (addR ls (noOf x)).1 p d t).1) (by kernel_rfl) (by kernel_rfl) (by kernel_rfl)) (by kernel_rfl) ?_
              exact SX.VC_ret fun α W _ _ hS => SX.ret_of hS (x := .bool (false ^^ decide ((inForceR b ls p d t).1 = (inForceR b (addR ls (noOf x)).1 p d t).1))) (by kernel_rfl) (by rw [further_same hx0 rfl hu0 hv0 (fun hk => by have q := hk.2.2.1; have q : x.from_ ≤ d := q; omega)]; simp)
            · try simp only [NRM] at h42
              refine SX.VC_df (.bool (decide (d > x.to_))) (by intro α; show _ = _; kernel_rfl) (by kernel_rfl) ?_
              refine SX.VC_br (decide (d > x.to_)) (by kernel_rfl) (fun h43 => ?_) (fun h43 => ?_)
              · try simp only [NRM] at h43
                refine SX.VC_df (.bool (false ^^ decide ((inForceR b ls p d t).1 = (inForceR b (addR ls (noOf x)).1 p d t).1))) (fun α => SX.eqr_rel (f := cellsBd) cellsBd_inj (y := (inForceR b ls p d t).1) (z := (inForceR b (addR ls (noOf x)).1 p d t).1) (by kernel_rfl) (by kernel_rfl) (by kernel_rfl)) (by kernel_rfl) ?_
                exact SX.VC_ret fun α W _ _ hS => SX.ret_of hS (x := .bool (false ^^ decide ((inForceR b ls p d t).1 = (inForceR b (addR ls (noOf x)).1 p d t).1))) (by kernel_rfl) (by rw [further_same hx0 rfl hu0 hv0 (fun hk => by have q := hk.2.2.2; have q : d ≤ x.to_ := q; omega)]; simp)
              · try simp only [NRM] at h43
                refine SX.VC_df (.tuple #[.bool ((weakR (inForceR b (addR ls (noOf x)).1 p d t).1 (inForceR b ls p d t).1).1), .int .i64 ((weakR (inForceR b (addR ls (noOf x)).1 p d t).1 (inForceR b ls p d t).1).2)]) (fun α => ⟨[⟨valBd (inForceR b (addR ls (noOf x)).1 p d t).1, 0, []⟩, ⟨valBd (inForceR b ls p d t).1, 0, []⟩], ⟨by kernel_rfl, by kernel_rfl, by kernel_rfl, by kernel_rfl, trivial⟩, .inr (.inr (.inr (.inr (.inr (.inr (.inr (.inl ⟨rfl, _, _, rfl, by rw [inf_name hv0]; exact hs, by rw [inf_name hu0]; exact hs, rfl⟩))))))), SX.noAli rfl⟩) (by kernel_rfl) ?_
                refine SX.VC_df (.bool (((weakR (inForceR b (addR ls (noOf x)).1 p d t).1 (inForceR b ls p d t).1).2 : Int) == 0)) (by intro α; show _ = _; kernel_rfl) (by kernel_rfl) ?_
                refine SX.VC_br (((weakR (inForceR b (addR ls (noOf x)).1 p d t).1 (inForceR b ls p d t).1).2 : Int) == 0) (by kernel_rfl) (fun h45 => ?_) (fun h45 => absurd h45 (by rw [further_le hx0 rfl hu0 hv0]; simp))
                try simp only [NRM] at h45
                refine SX.VC_br ((weakR (inForceR b (addR ls (noOf x)).1 p d t).1 (inForceR b ls p d t).1).1) (by kernel_rfl) (fun h44_0 => ?_) (fun h44_0 => absurd h44_0 (by rw [further_le hx0 rfl hu0 hv0]; simp))
                try simp only [NRM] at h44_0
                refine SX.VC_df (.bool (keepV (inForceR b (addR ls (noOf x)).1 p d t).1 (capOf (noOf x)))) (fun α => ⟨[⟨valBd (inForceR b (addR ls (noOf x)).1 p d t).1, 0, []⟩, ⟨valCp (capOf (noOf x)), 0, []⟩], ⟨by kernel_rfl, by kernel_rfl, by kernel_rfl, by kernel_rfl, trivial⟩, .inr (.inr (.inr (.inr (.inr (.inr (.inr (.inr (⟨rfl, _, noOf x, rfl, further_cap hx0 rfl, rfl⟩)))))))), SX.noAli rfl⟩) (by kernel_rfl) ?_
                exact SX.VC_ret fun α W _ _ hS => SX.ret_of hS (x := .bool (keepV (inForceR b (addR ls (noOf x)).1 p d t).1 (capOf (noOf x)))) (by kernel_rfl) (by rw [further_keep hx0 rfl hv0 ⟨by simpa [noOf] using h40, by show x.known ≤ t; omega, by show x.from_ ≤ d; omega, by show d ≤ x.to_; omega⟩])
end Go.Proofs.Ytmkigejhgpoleaa
