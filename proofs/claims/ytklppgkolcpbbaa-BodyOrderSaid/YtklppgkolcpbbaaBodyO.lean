/-
  Walk by the executor: the law that neither the order nor the repetition of caps matters.
-/
import Derived.Test.YtklppgkolcpbbaaBodyM
import Derived.Test.YtklppgkolcpbbaaBodyP4
namespace Go.Proofs.Ytklppgkolcpbbaa
set_option linter.unusedSimpArgs false
set_option linter.unusedVariables false
open Go Go.RowKit
def treeOrder : SX.Tree :=
(.df (.call 9 []) [] .one 
(.df .not [(.x 20 [])] .one 
(.br 21 [] 
(.ret (.k (.bool false)) [] []) 
(.df (.len false) [(.x 17 [])] .one 
(.df (.bin .gtr 3) [(.x 22 []), (.k (.int .i64 30))] .one 
(.br 23 [] 
(.ret (.k (.bool true)) [] []) 
(.df (.len false) [(.x 17 [])] .one 
(.df (.bin .eql 3) [(.x 24 []), (.k (.int .i64 0))] .one 
(.br 25 [] 
(.ret (.k (.bool true)) [] []) 
(.df (.call 16 [.no, (.ext 3)]) [(.a [(.x 0 []), (.x 1 []), (.x 2 []), (.x 3 []), (.x 4 []), (.x 5 []), (.x 6 []), (.x 7 []), (.x 8 []), (.x 9 []), (.x 10 []), (.x 11 []), (.x 12 []), (.x 13 []), (.x 14 []), (.x 15 []), (.x 16 [])]), (.x 17 [])] (.tp [(.ag 17), .one]) 
(.df (.conv .i64) [(.x 18 [])] .one 
(.df (.len false) [(.x 17 [])] .one 
(.df (.bin .rem 3) [(.x 27 []), (.x 28 [])] .one 
(.df (.conv .i64) [(.x 19 [])] .one 
(.df (.len false) [(.x 17 [])] .one 
(.df (.bin .rem 3) [(.x 30 []), (.x 31 [])] .one 
(.df (.app 3 24 (.ext 3)) [(.cat []), (.x 17 [])] .any 
(.df (.rbnd 3) [(.cat [(.x 33 [])]), (.x 32 [])] .one 
(.df (.relems 3 0 3) [(.cat [(.x 33 [])]), (.x 32 [])] (.ag 3) 
(.df (.rbnd 3) [(.cat [(.x 33 [])]), (.x 29 [])] .one 
(.df (.relems 3 0 3) [(.cat [(.x 33 [])]), (.x 29 [])] (.ag 3) 
(.df (.rbnd 3) [(.cat [(.x 33 [])]), (.x 29 [])] .one 
(.df (.rset 3 0) [(.cat [(.x 33 [])]), (.x 29 []), (.x 35 [0]), (.x 35 [1]), (.x 35 [2])] .any 
(.df (.rbnd 3) [(.cat [(.x 33 [])]), (.x 32 [])] .one 
(.df (.rset 3 0) [(.cat [(.x 39 [])]), (.x 32 []), (.x 37 [0]), (.x 37 [1]), (.x 37 [2])] .any 
(.df (.call 16 [.no, (.row 3 [(.x 41 [])])]) [(.a [(.x 0 []), (.x 1 []), (.x 2 []), (.x 3 []), (.x 4 []), (.x 5 []), (.x 6 []), (.x 7 []), (.x 8 []), (.x 9 []), (.x 10 []), (.x 11 []), (.x 12 []), (.x 13 []), (.x 14 []), (.x 15 []), (.x 16 [])]), (.row 15)] (.tp [(.ag 17), .one]) 
(.df (.app 3 24 (.ext 3)) [(.cat [(.x 41 [])]), (.x 17 [])] .any 
(.df (.call 16 [.no, (.row 3 [(.x 41 []), (.x 43 [])])]) [(.a [(.x 0 []), (.x 1 []), (.x 2 []), (.x 3 []), (.x 4 []), (.x 5 []), (.x 6 []), (.x 7 []), (.x 8 []), (.x 9 []), (.x 10 []), (.x 11 []), (.x 12 []), (.x 13 []), (.x 14 []), (.x 15 []), (.x 16 [])]), (.row 36)] (.tp [(.ag 17), .one]) 
(.df (.bin .neq 28) [(.x 26 [1]), (.x 42 [1])] .one 
(.br 45 [] 
(.ret (.k (.bool false)) [] []) 
(.df (.bin .neq 28) [(.x 42 [1]), (.x 44 [1])] .one 
(.br 46 [] 
(.ret (.k (.bool false)) [] []) 
(.df (.eqr true 17 [.s, (.i .i64), (.i .i64), (.i .i64), (.i .i64), (.i .i64), (.i .i64), (.i .i64), (.i .i64), (.i .i64), (.i .i64), (.i .i64), (.i .i64), (.i .i64), (.i .i64), (.i .i64), (.i .i64)]) [(.x 26 [0, 0]), (.x 26 [0, 1]), (.x 26 [0, 2]), (.x 26 [0, 3]), (.x 26 [0, 4]), (.x 26 [0, 5]), (.x 26 [0, 6]), (.x 26 [0, 7]), (.x 26 [0, 8]), (.x 26 [0, 9]), (.x 26 [0, 10]), (.x 26 [0, 11]), (.x 26 [0, 12]), (.x 26 [0, 13]), (.x 26 [0, 14]), (.x 26 [0, 15]), (.x 26 [0, 16]), (.x 42 [0, 0]), (.x 42 [0, 1]), (.x 42 [0, 2]), (.x 42 [0, 3]), (.x 42 [0, 4]), (.x 42 [0, 5]), (.x 42 [0, 6]), (.x 42 [0, 7]), (.x 42 [0, 8]), (.x 42 [0, 9]), (.x 42 [0, 10]), (.x 42 [0, 11]), (.x 42 [0, 12]), (.x 42 [0, 13]), (.x 42 [0, 14]), (.x 42 [0, 15]), (.x 42 [0, 16])] .one 
(.br 47 [] 
(.ret (.k (.bool false)) [] []) 
(.df (.eqr true 17 [.s, (.i .i64), (.i .i64), (.i .i64), (.i .i64), (.i .i64), (.i .i64), (.i .i64), (.i .i64), (.i .i64), (.i .i64), (.i .i64), (.i .i64), (.i .i64), (.i .i64), (.i .i64), (.i .i64)]) [(.x 42 [0, 0]), (.x 42 [0, 1]), (.x 42 [0, 2]), (.x 42 [0, 3]), (.x 42 [0, 4]), (.x 42 [0, 5]), (.x 42 [0, 6]), (.x 42 [0, 7]), (.x 42 [0, 8]), (.x 42 [0, 9]), (.x 42 [0, 10]), (.x 42 [0, 11]), (.x 42 [0, 12]), (.x 42 [0, 13]), (.x 42 [0, 14]), (.x 42 [0, 15]), (.x 42 [0, 16]), (.x 44 [0, 0]), (.x 44 [0, 1]), (.x 44 [0, 2]), (.x 44 [0, 3]), (.x 44 [0, 4]), (.x 44 [0, 5]), (.x 44 [0, 6]), (.x 44 [0, 7]), (.x 44 [0, 8]), (.x 44 [0, 9]), (.x 44 [0, 10]), (.x 44 [0, 11]), (.x 44 [0, 12]), (.x 44 [0, 13]), (.x 44 [0, 14]), (.x 44 [0, 15]), (.x 44 [0, 16])] .one 
(.br 48 [] 
(.ret (.k (.bool false)) [] []) 
(.df (.call 12 [.no]) [(.a [(.x 0 []), (.x 1 []), (.x 2 []), (.x 3 []), (.x 4 []), (.x 5 []), (.x 6 []), (.x 7 []), (.x 8 []), (.x 9 []), (.x 10 []), (.x 11 []), (.x 12 []), (.x 13 []), (.x 14 []), (.x 15 []), (.x 16 [])])] .one 
(.df (.len false) [(.x 17 [])] .one 
(.loop [(.k (.int .i64 0)), (.x 49 []), (.x 0 []), (.x 1 []), (.x 2 []), (.x 3 []), (.x 4 []), (.x 5 []), (.x 6 []), (.x 7 []), (.x 8 []), (.x 9 []), (.x 10 []), (.x 11 []), (.x 12 []), (.x 13 []), (.x 14 []), (.x 15 []), (.x 16 [])] 
(.df (.bin .lss 3) [(.x 51 []), (.x 50 [])] .one 
(.br 70 [] 
(.df .bnd [(.x 17 []), (.x 51 [])] .one 
(.df (.elems 3 0 3) [(.x 17 []), (.x 51 [])] (.ag 3) 
(.df (.bin .eql 28) [(.x 52 []), (.k (.int .i64 0))] .one 
(.br 73 [] 
(.df (.call 10 [.no, .no]) [(.a [(.x 53 []), (.x 54 []), (.x 55 []), (.x 56 []), (.x 57 []), (.x 58 []), (.x 59 []), (.x 60 []), (.x 61 []), (.x 62 []), (.x 63 []), (.x 64 []), (.x 65 []), (.x 66 []), (.x 67 []), (.x 68 []), (.x 69 [])]), (.a [(.x 72 [0]), (.x 72 [1]), (.x 72 [2])])] (.tp [(.ag 17), .one]) 
(.df (.bin .add 3) [(.x 51 []), (.k (.int .i64 1))] .one 
(.again 0 [(.x 75 []), (.x 74 [1]), (.x 74 [0, 0]), (.x 74 [0, 1]), (.x 74 [0, 2]), (.x 74 [0, 3]), (.x 74 [0, 4]), (.x 74 [0, 5]), (.x 74 [0, 6]), (.x 74 [0, 7]), (.x 74 [0, 8]), (.x 74 [0, 9]), (.x 74 [0, 10]), (.x 74 [0, 11]), (.x 74 [0, 12]), (.x 74 [0, 13]), (.x 74 [0, 14]), (.x 74 [0, 15]), (.x 74 [0, 16])]))) 
(.df (.bin .add 3) [(.x 51 []), (.k (.int .i64 1))] .one 
(.again 0 [(.x 74 []), (.x 52 []), (.x 53 []), (.x 54 []), (.x 55 []), (.x 56 []), (.x 57 []), (.x 58 []), (.x 59 []), (.x 60 []), (.x 61 []), (.x 62 []), (.x 63 []), (.x 64 []), (.x 65 []), (.x 66 []), (.x 67 []), (.x 68 []), (.x 69 [])])))))) 
(.df (.bin .eql 28) [(.x 52 []), (.x 26 [1])] .one 
(.br 71 [] 
(.df (.bin .neq 28) [(.x 26 [1]), (.k (.int .i64 0))] .one 
(.br 72 [] 
(.ret (.k (.bool true)) [] []) 
(.df (.eqr false 17 [.s, (.i .i64), (.i .i64), (.i .i64), (.i .i64), (.i .i64), (.i .i64), (.i .i64), (.i .i64), (.i .i64), (.i .i64), (.i .i64), (.i .i64), (.i .i64), (.i .i64), (.i .i64), (.i .i64)]) [(.x 53 []), (.x 54 []), (.x 55 []), (.x 56 []), (.x 57 []), (.x 58 []), (.x 59 []), (.x 60 []), (.x 61 []), (.x 62 []), (.x 63 []), (.x 64 []), (.x 65 []), (.x 66 []), (.x 67 []), (.x 68 []), (.x 69 []), (.x 26 [0, 0]), (.x 26 [0, 1]), (.x 26 [0, 2]), (.x 26 [0, 3]), (.x 26 [0, 4]), (.x 26 [0, 5]), (.x 26 [0, 6]), (.x 26 [0, 7]), (.x 26 [0, 8]), (.x 26 [0, 9]), (.x 26 [0, 10]), (.x 26 [0, 11]), (.x 26 [0, 12]), (.x 26 [0, 13]), (.x 26 [0, 14]), (.x 26 [0, 15]), (.x 26 [0, 16])] .one 
(.ret (.x 73 []) [] [])))) 
(.ret (.k (.bool false)) [] []))))))))))))))))))))))))))))))))))))))))))))
def orderArgs : List SX.V := [.a ((List.range 17).map fun j => .x j []), .x 17 [], .x 18 [], .x 19 []]
def orderG : SX.Cfg := ⟨fun _ => false, [⟨6, 15, [102, 19], (List.range 17).map fun j => (47, j)⟩], false, 100⟩
set_option maxRecDepth 100000 in
theorem order_run (K : Value → Nat → List Value → Prop) : SX.run (bodyCx K) orderG 100000 0 (SX.door 6 Try.f6 orderArgs (List.replicate 20 .one)) [.code (Try.f6.body.getD .skip), .top Try.f6] = treeOrder := by kernel_rfl
set_option maxRecDepth 100000 in
theorem order_door : SX.doorOk Try.f6 orderArgs (List.replicate 20 .one) = true := by kernel_rfl
def orderR (b : Bod.Bd) (A : Option Addr) (n c : Nat) (x y : Int) : List Value := (cellsB b).toList ++ [.slice A n c, .int .u8 x, .int .u8 y]
theorem order_vals (b : Bod.Bd) (A : Option Addr) (n c : Nat) (x y : Int) : (SX.denL (orderR b A n c x y) (fun _ => default) orderArgs).toArray = #[valB b, .slice A n c, .int .u8 x, .int .u8 y] := by rfl
theorem order_fit (b : Bod.Bd) (A : Option Addr) (n c : Nat) (x y : Int) : SX.Sh.fitL (List.replicate 20 .one) (orderR b A n c x y) = true := by rfl

theorem capsBnd {C : SX.Cx} {ρ : List Value} {α : Nat → SX.AV} {cc iv : SX.V} {l : List Bod.Cp} {k : Nat} (hc : SX.cellsV (cc.den ρ α) = capsL l) (hi : iv.den ρ α = .int .i64 (k : Int)) (hk : k < l.length) : SX.Opq.rel C ρ α (.rbnd 3) [cc, iv] (.bool true) := by
  refine ⟨?_, rfl⟩
  rw [hc, hi, capsL_len]
  unfold SX.Rbnd
  simp only
  rw [Nat.mul_div_cancel _ (by omega)]
  omega
theorem capsElem {C : SX.Cx} {ρ : List Value} {α : Nat → SX.AV} {cc iv : SX.V} {l : List Bod.Cp} {k : Nat} {z : Bod.Cp} (hc : SX.cellsV (cc.den ρ α) = capsL l) (hi : iv.den ρ α = .int .i64 (k : Int)) (hz : l[k]? = some z) : SX.Opq.rel C ρ α (.relems 3 0 3) [cc, iv] (.agg (cellsC z)) := by
  have hk := (List.getElem?_eq_some_iff.1 hz).1
  refine ⟨(capsBnd (C := C) hc hi hk).1, ?_, ?_⟩
  · rw [hc, hi, capsL_len]; show (k : Int).toNat * 3 + 0 + 3 ≤ _; omega
  · rw [hc, hi]
    show _ = Value.agg (((capsL l).drop ((k : Int).toNat * 3 + 0)).take 3).toArray
    rw [Int.toNat_natCast, Nat.add_zero, capsL_elem hz]
theorem capsSet {C : SX.Cx} {ρ : List Value} {α : Nat → SX.AV} {cc iv : SX.V} {vs : List SX.V} {l : List Bod.Cp} {k : Nat} {z : Bod.Cp} (hc : SX.cellsV (cc.den ρ α) = capsL l) (hi : iv.den ρ α = .int .i64 (k : Int)) (hk : k < l.length) (hv : SX.denL ρ α vs = (cellsC z).toList) : SX.Opq.rel C ρ α (.rset 3 0) (cc :: iv :: vs) (.agg (capsL (l.set k z)).toArray) := by
  have hl : vs.length = 3 := by have := congrArg List.length hv; rw [SX.denL_len] at this; exact this
  refine ⟨(capsBnd (C := C) hc hi hk).1, by omega, ?_⟩
  rw [hc, hi, hv, hl]
  show _ = Value.agg ((capsL l).take ((k : Int).toNat * 3 + 0) ++ (cellsC z).toList ++ (capsL l).drop ((k : Int).toNat * 3 + 0 + 3)).toArray
  rw [Int.toNat_natCast, Nat.add_zero, capsL_set hk]

def orderI (b : Bod.Bd) (l : List Bod.Cp) (n : Nat) (xs : List Value) : Prop := ∃ j : Nat, j ≤ n ∧ xs = .int .i64 (j : Int) :: .int .i64 (chainC b (l.take j)).2 :: (cellsB (chainC b (l.take j)).1).toList
def orderM (n : Nat) (xs : List Value) : Nat := match xs with
  | .int _ j :: _ => n - j.toNat
  | _ => 0
theorem orderNext {b : Bod.Bd} {l : List Bod.Cp} {n j m : Nat} {xs : List Value} (hj : j ≤ n) (he : xs = .int .i64 (j : Int) :: .int .i64 (chainC b (l.take j)).2 :: (cellsB (chainC b (l.take j)).1).toList) (hm : n - j < m) : orderI b l n xs ∧ orderM n xs < m := by
  refine ⟨⟨j, hj, he⟩, ?_⟩
  subst he
  simpa [orderM] using hm

theorem extBnd {C : SX.Cx} {ρ : List Value} {α : Nat → SX.AV} {s i : SX.V} {ad : Addr} {n c j : Nat} (hs : s.den ρ α = .slice (some ad) n c) (hi : i.den ρ α = .int .i64 (j : Int)) (hj : j < n) : SX.Opq.rel C ρ α .bnd [s, i] (.bool true) := by
  refine ⟨?_, rfl⟩
  rw [hs, hi]
  exact ⟨by omega, by omega⟩
theorem extElem {K : Value → Nat → List Value → Prop} {ρ : List Value} {α : Nat → SX.AV} {s i : SX.V} {ad : Addr} {n c j : Nat} {l : List Bod.Cp} {z : Bod.Cp} (hs : s.den ρ α = .slice (some ad) n c) (hi : i.den ρ α = .int .i64 (j : Int)) (hj : j < n) (hK : K (.slice (some ad) n c) 3 (capsL l)) (hz : l[j]? = some z) : SX.Opq.rel (bodyCx K) ρ α (.elems 3 0 3) [s, i] (.agg (cellsC z)) := by
  have hk := (List.getElem?_eq_some_iff.1 hz).1
  refine ⟨(extBnd (C := bodyCx K) hs hi hj).1, capsL l, by rw [hs]; exact hK, ?_, ?_⟩
  · rw [hi, capsL_len]; show (j : Int).toNat * 3 + 0 + 3 ≤ _; omega
  · rw [hi]
    show _ = Value.agg (((capsL l).drop ((j : Int).toNat * 3 + 0)).take 3).toArray
    rw [Int.toNat_natCast, Nat.add_zero, capsL_elem hz]

set_option maxRecDepth 100000 in
set_option maxHeartbeats 4000000 in
theorem bodyOrder_walk (b : Bod.Bd) (l : List Bod.Cp) (A : Option Addr) (n c : Nat) (x y : Int) (hb : b.name.size ≤ maxLen) (hx : 0 ≤ IntKind.i64.wrap x) (hy : 0 ≤ IntKind.i64.wrap y) (w : World) (hr : Rd w 3 A n (capsL l)) (hl : n ≤ maxLen)
    (hs : Value.slice A n c = .slice none 0 0 ∨ ∃ ad k j, Value.slice A n c = .slice (some ad) k j) :
    Calls Try.prog 6 #[valB b, .slice A n c, .int .u8 x, .int .u8 y] w fun e w' => e = .returned (.bool true) ∧ Below w.heap.size w w' := by
  have hln : l.length = n := by have := hr.1; rw [capsL_len] at this; omega
  refine SX.calls_of_run (C := bodyCx fun s sz cells => s = .slice A n c ∧ sz = 3 ∧ cells = capsL l) (G := orderG) (args := orderArgs) (sh := List.replicate 20 .one) (ρ := orderR b A n c x y)
    100000 treeOrder (bodyCx_ok _) Try.func6 rfl (order_run _) order_door (order_fit ..) (order_vals ..) ?_ ?_
  · rintro W hW s sz cells ⟨rfl, rfl, rfl⟩
    exact hr.same0 hW
  unfold treeOrder
  refine SX.VC_df (.bool true) (fun α => ⟨[], trivial, .inl ⟨rfl, rfl, rfl⟩⟩) (by kernel_rfl) ?_
  refine SX.VC_df (.bool false) (by intro α; show _ = _; kernel_rfl) (by kernel_rfl) ?_
  refine SX.VC_br false (by kernel_rfl) nofun fun _ => ?_
  refine SX.VC_df (.int .i64 n) (by intro α; show _ = _; kernel_rfl) (by kernel_rfl) ?_
  refine SX.VC_df (.bool (decide ((n : Int) > 30))) (by intro α; show _ = _; kernel_rfl) (by kernel_rfl) ?_
  refine SX.VC_br (decide ((n : Int) > 30)) (by kernel_rfl) (fun _ => SX.VC_ret fun α W _ _ hS => ⟨by kernel_rfl, hS.below⟩) fun h1 => ?_
  refine SX.VC_df (.int .i64 n) (by intro α; show _ = _; kernel_rfl) (by kernel_rfl) ?_
  refine SX.VC_df (.bool ((n : Int) == 0)) (by intro α; show _ = _; kernel_rfl) (by kernel_rfl) ?_
  refine SX.VC_br ((n : Int) == 0) (by kernel_rfl) (fun _ => SX.VC_ret fun α W _ _ hS => ⟨by kernel_rfl, hS.below⟩) fun h2 => ?_
  have h30 : l.length ≤ 30 := by simp at h1; omega
  have hn0 : (n : Int) ≠ 0 := by simpa using h2
  have hn1 : ¬ n = 0 := by omega
  refine SX.VC_df (.tuple #[valB (b.allB l), .int .i64 (b.allE l)]) (fun α => ⟨[⟨valB b, 0, []⟩, ⟨.slice A n c, 3, capsL l⟩], ⟨by kernel_rfl, by kernel_rfl, by kernel_rfl, rfl, ⟨by kernel_rfl, rfl, rfl⟩, trivial⟩, .inr (.inl ⟨rfl, b, l, _, rfl, hb, by omega, rfl⟩)⟩) (by kernel_rfl) ?_
  obtain ⟨i, hi, hil⟩ : ∃ i : Nat, (IntKind.i64.wrap x).tmod n = i ∧ i < n := ⟨((IntKind.i64.wrap x).tmod n).toNat, by have := Int.tmod_nonneg (n : Int) hx; omega, by have := Int.tmod_lt_of_pos (IntKind.i64.wrap x) (show (0 : Int) < n by omega); have := Int.tmod_nonneg (n : Int) hx; omega⟩
  obtain ⟨k, hk, hkl⟩ : ∃ k : Nat, (IntKind.i64.wrap y).tmod n = k ∧ k < n := ⟨((IntKind.i64.wrap y).tmod n).toNat, by have := Int.tmod_nonneg (n : Int) hy; omega, by have := Int.tmod_lt_of_pos (IntKind.i64.wrap y) (show (0 : Int) < n by omega); have := Int.tmod_nonneg (n : Int) hy; omega⟩
  refine SX.VC_df (.int .i64 (IntKind.i64.wrap x)) (by intro α; show _ = _; kernel_rfl) (by kernel_rfl) ?_
  refine SX.VC_df (.int .i64 n) (by intro α; show _ = _; kernel_rfl) (by kernel_rfl) ?_
  refine SX.VC_df (.int .i64 i) (fun α => Eq.trans (b := SX.binV .rem (.int .i64 (IntKind.i64.wrap x)) (.int .i64 n)) (by kernel_rfl) (by simp [SX.binV, hn1, hi])) (by kernel_rfl) ?_
  refine SX.VC_df (.int .i64 (IntKind.i64.wrap y)) (by intro α; show _ = _; kernel_rfl) (by kernel_rfl) ?_
  refine SX.VC_df (.int .i64 n) (by intro α; show _ = _; kernel_rfl) (by kernel_rfl) ?_
  refine SX.VC_df (.int .i64 k) (fun α => Eq.trans (b := SX.binV .rem (.int .i64 (IntKind.i64.wrap y)) (.int .i64 n)) (by kernel_rfl) (by simp [SX.binV, hn1, hk])) (by kernel_rfl) ?_
  have hcl : ∀ (ρ : List Value) (α : Nat → SX.AV) (j : Nat) (m : List Bod.Cp), ρ.getD j undef = .agg (capsL m).toArray → SX.cellsV ((SX.V.cat [.x j []]).den ρ α) = capsL m := fun ρ α j m h => by
    simp only [SX.V.den, SX.denL, List.foldl_nil, h, List.flatMap_cons, List.flatMap_nil, SX.cellsV, List.append_nil]
  obtain ⟨zi, hzi⟩ : ∃ z, l[i]? = some z := ⟨_, List.getElem?_eq_getElem (by omega)⟩
  obtain ⟨zk, hzk⟩ : ∃ z, l[k]? = some z := ⟨_, List.getElem?_eq_getElem (by omega)⟩
  refine SX.VC_df (.agg (capsL l).toArray) (fun α => capsApp (l0 := []) (by kernel_rfl) (by kernel_rfl) ⟨rfl, rfl, rfl⟩ hs (fun e => by cases e; exact List.eq_nil_of_length_eq_zero hln) (by simp; omega)) (by kernel_rfl) ?_
  refine SX.VC_df (.bool true) (fun α => capsBnd (l := l) (k := k) (hcl _ _ _ _ (by kernel_rfl)) (by kernel_rfl) (by omega)) (by kernel_rfl) ?_
  refine SX.VC_df (.agg (cellsC zk)) (fun α => capsElem (l := l) (k := k) (hcl _ _ _ _ (by kernel_rfl)) (by kernel_rfl) hzk) (by kernel_rfl) ?_
  refine SX.VC_df (.bool true) (fun α => capsBnd (l := l) (k := i) (hcl _ _ _ _ (by kernel_rfl)) (by kernel_rfl) (by omega)) (by kernel_rfl) ?_
  refine SX.VC_df (.agg (cellsC zi)) (fun α => capsElem (l := l) (k := i) (hcl _ _ _ _ (by kernel_rfl)) (by kernel_rfl) hzi) (by kernel_rfl) ?_
  refine SX.VC_df (.bool true) (fun α => capsBnd (l := l) (k := i) (hcl _ _ _ _ (by kernel_rfl)) (by kernel_rfl) (by omega)) (by kernel_rfl) ?_
  refine SX.VC_df (.agg (capsL (l.set i zk)).toArray) (fun α => capsSet (l := l) (k := i) (hcl _ _ _ _ (by kernel_rfl)) (by kernel_rfl) (by omega) (by kernel_rfl)) (by kernel_rfl) ?_
  refine SX.VC_df (.bool true) (fun α => capsBnd (l := l) (k := k) (hcl _ _ _ _ (by kernel_rfl)) (by kernel_rfl) (by omega)) (by kernel_rfl) ?_
  refine SX.VC_df (.agg (capsL ((l.set i zk).set k zi)).toArray) (fun α => capsSet (l := l.set i zk) (k := k) (hcl _ _ _ _ (by kernel_rfl)) (by kernel_rfl) (by simp; omega) (by kernel_rfl)) (by kernel_rfl) ?_
  generalize hl2 : (l.set i zk).set k zi = l2
  have hlen2 : l2.length = l.length := by rw [← hl2]; simp
  have hmem : ∀ c, c ∈ l ↔ c ∈ l2 := fun c => by rw [← hl2]; exact (swap_mem hzi hzk c).symm
  have hmem2 : ∀ c, c ∈ l2 ↔ c ∈ l2 ++ l := fun c => by rw [List.mem_append, hmem c]; simp
  have hE1 : b.allE l = b.allE l2 := allE_same (by omega) (by omega) hmem
  have hB1 : b.allB l = b.allB l2 := allB_same (by omega) (by omega) hmem
  have hE2 : b.allE l2 = b.allE (l2 ++ l) := allE_same (by omega) (by simp; omega) hmem2
  have hB2 : b.allB l2 = b.allB (l2 ++ l) := allB_same (by omega) (by simp; omega) hmem2
  refine SX.VC_df (.tuple #[valB (b.allB l2), .int .i64 (b.allE l2)]) (fun α => ⟨[⟨valB b, 0, []⟩, ⟨(α 15).h, 3, capsL l2⟩], ⟨by kernel_rfl, by kernel_rfl, Eq.trans (b := (⟨(α 15).h, 3, [Value.agg (capsL l2).toArray].flatMap SX.cellsV⟩ : SX.Arg)) (by simp [SX.cellsV]) (by kernel_rfl), trivial⟩, .inr (.inl ⟨rfl, b, l2, _, rfl, hb, by unfold maxLen; omega, rfl⟩)⟩) (by kernel_rfl) ?_
  refine SX.VC_df (.agg (capsL l).toArray) (fun α => capsApp (l0 := l2) (hcl _ _ _ _ (by kernel_rfl)) (by kernel_rfl) ⟨rfl, rfl, rfl⟩ hs (fun e => by cases e; exact List.eq_nil_of_length_eq_zero hln) (by omega)) (by kernel_rfl) ?_
  refine SX.VC_df (.tuple #[valB (b.allB (l2 ++ l)), .int .i64 (b.allE (l2 ++ l))]) (fun α => ⟨[⟨valB b, 0, []⟩, ⟨(α 36).h, 3, capsL (l2 ++ l)⟩], ⟨by kernel_rfl, by kernel_rfl, Eq.trans (b := (⟨(α 36).h, 3, [Value.agg (capsL l2).toArray, Value.agg (capsL l).toArray].flatMap SX.cellsV⟩ : SX.Arg)) (by simp [SX.cellsV, capsL]) (by kernel_rfl), trivial⟩, .inr (.inl ⟨rfl, b, l2 ++ l, _, rfl, hb, by unfold maxLen; simp; omega, rfl⟩)⟩) (by kernel_rfl) ?_
  refine SX.VC_df (.bool (b.allE l != b.allE l2)) (by intro α; show _ = _; kernel_rfl) (by kernel_rfl) ?_
  refine SX.VC_br (b.allE l != b.allE l2) (by kernel_rfl) (fun h => by rw [hE1] at h; simp at h) fun _ => ?_
  refine SX.VC_df (.bool (b.allE l2 != b.allE (l2 ++ l))) (by intro α; show _ = _; kernel_rfl) (by kernel_rfl) ?_
  refine SX.VC_br (b.allE l2 != b.allE (l2 ++ l)) (by kernel_rfl) (fun h => by rw [← hE2] at h; simp at h) fun _ => ?_
  refine SX.VC_df (.bool false) (fun α => ⟨true, ⟨fun _ => Eq.trans (b := (cellsB (b.allB l)).toList) (by kernel_rfl) (Eq.trans (b := (cellsB (b.allB l2)).toList) (by rw [hB1]) (by kernel_rfl)), fun _ => rfl⟩, by kernel_rfl, by kernel_rfl, rfl⟩) (by kernel_rfl) ?_
  refine SX.VC_br false (by kernel_rfl) nofun fun _ => ?_
  refine SX.VC_df (.bool false) (fun α => ⟨true, ⟨fun _ => Eq.trans (b := (cellsB (b.allB l2)).toList) (by kernel_rfl) (Eq.trans (b := (cellsB (b.allB (l2 ++ l))).toList) (by rw [hB2]) (by kernel_rfl)), fun _ => rfl⟩, by kernel_rfl, by kernel_rfl, rfl⟩) (by kernel_rfl) ?_
  refine SX.VC_br false (by kernel_rfl) nofun fun _ => ?_
  refine SX.VC_df (.int .i64 b.chk) (fun α => ⟨[⟨valB b, 0, []⟩], ⟨by kernel_rfl, by kernel_rfl, trivial⟩, .inr (.inr (.inr (.inl ⟨rfl, b, rfl, hb, rfl⟩)))⟩) (by kernel_rfl) ?_
  refine SX.VC_df (.int .i64 n) (by intro α; show _ = _; kernel_rfl) (by kernel_rfl) ?_
  unfold SX.VC
  refine ⟨orderI b l n, orderM n, fun α => ⟨0, by omega, by kernel_rfl⟩, ?_⟩
  rintro xs - - ⟨j, hj, rfl⟩
  refine SX.VC_df (.bool (decide ((j : Int) < n))) (by intro α; show _ = _; kernel_rfl) (by kernel_rfl) ?_
  refine SX.VC_br (decide ((j : Int) < n)) (by kernel_rfl) (fun hlt => ?_) fun hge => ?_
  · have hlt : j < n := by have : (j : Int) < n := by simpa using hlt
                           omega
    obtain ⟨cp, hcp⟩ : ∃ z, l[j]? = some z := ⟨_, List.getElem?_eq_getElem (by omega)⟩
    have hsucc := chain_succ (b := b) hcp
    obtain ⟨ad, rfl⟩ : ∃ ad, A = some ad := by
      rcases hs with h | ⟨ad, _, _, h⟩
      · cases h; omega
      · cases h; exact ⟨_, rfl⟩
    have hwrap : IntKind.i64.wrap ((j : Int) + 1) = ((j + 1 : Nat) : Int) := by
      have : j ≤ 30 := by omega
      rw [IntKind.wrap_i64]
      omega
    have hnm : (chainC b (l.take j)).2 = 0 → (chainC b (l.take j)).1.name.size ≤ maxLen := fun h => by
      obtain ⟨g1, g2⟩ := chain_eq b (l.take j) (by simp; omega)
      have h0 := g1.symm.trans h
      obtain ⟨_, _, _, hok, _⟩ := (all_cases b (l.take j)).resolve_left fun h => h.1 h0
      rw [g2 h0, (meets_le _ b hok).1]; exact hb
    generalize hp : chainC b (l.take j) = p at *
    refine SX.VC_df (.bool true) (fun α => extBnd (ad := ad) (n := n) (c := c) (j := j) (by kernel_rfl) (by kernel_rfl) hlt) (by kernel_rfl) ?_
    refine SX.VC_df (.agg (cellsC cp)) (fun α => extElem (ad := ad) (n := n) (c := c) (j := j) (by kernel_rfl) (by kernel_rfl) hlt ⟨rfl, rfl, rfl⟩ hcp) (by kernel_rfl) ?_
    refine SX.VC_df (.bool (p.2 == 0)) (by intro α; show _ = _; kernel_rfl) (by kernel_rfl) ?_
    refine SX.VC_br (p.2 == 0) (by kernel_rfl) (fun h => ?_) fun h => ?_
    · have h0 : p.2 = 0 := by simpa using h
      refine SX.VC_df (.tuple #[valB (p.1.allB [cp]), .int .i64 (p.1.allE [cp])]) (fun α => ⟨[⟨valB p.1, 0, []⟩, ⟨valC cp, 0, []⟩], ⟨by kernel_rfl, by kernel_rfl, by kernel_rfl, by kernel_rfl, trivial⟩, .inr (.inr (.inr (.inr ⟨rfl, p.1, cp, rfl, hnm h0, rfl⟩)))⟩) (by kernel_rfl) ?_
      refine SX.VC_df (.int .i64 ((j + 1 : Nat) : Int)) (fun α => Eq.trans (b := some (.int .i64 (IntKind.i64.wrap ((j : Int) + 1)))) (by kernel_rfl) (by rw [hwrap])) (by kernel_rfl) ?_
      unfold SX.VC
      intro α
      have hst : stepC p cp = (p.1.allB [cp], p.1.allE [cp]) := by unfold stepC; rw [if_pos h0]
      exact orderNext (j := j + 1) (b := b) (l := l) (n := n) (by omega) (by rw [hsucc, hst]; kernel_rfl) (by show n - (j + 1) < n - (j : Int).toNat; rw [Int.toNat_natCast]; omega)
    · have h0 : p.2 ≠ 0 := by simpa using h
      refine SX.VC_df (.int .i64 ((j + 1 : Nat) : Int)) (fun α => Eq.trans (b := some (.int .i64 (IntKind.i64.wrap ((j : Int) + 1)))) (by kernel_rfl) (by rw [hwrap])) (by kernel_rfl) ?_
      unfold SX.VC
      intro α
      have hst : stepC p cp = p := by unfold stepC; rw [if_neg h0]
      exact orderNext (j := j + 1) (b := b) (l := l) (n := n) (by omega) (by rw [hsucc, hst]; kernel_rfl) (by show n - (j + 1) < n - (j : Int).toNat; rw [Int.toNat_natCast]; omega)
  · have hjn : j = n := by have : ¬ ((j : Int) < n) := by simpa using hge
                           omega
    subst hjn
    obtain ⟨hc1, hc2⟩ := chain_eq b l (by omega)
    have htk : l.take j = l := List.take_of_length_le (by omega)
    rw [htk]
    refine SX.VC_df (.bool ((chainC b l).2 == b.allE l)) (by intro α; show _ = _; kernel_rfl) (by kernel_rfl) ?_
    refine SX.VC_br ((chainC b l).2 == b.allE l) (by kernel_rfl) (fun _ => ?_) fun h => by rw [hc1] at h; simp at h
    refine SX.VC_df (.bool (b.allE l != 0)) (by intro α; show _ = _; kernel_rfl) (by kernel_rfl) ?_
    refine SX.VC_br (b.allE l != 0) (by kernel_rfl) (fun _ => SX.VC_ret fun α W _ _ hS => ⟨by kernel_rfl, hS.below⟩) fun h0 => ?_
    simp only [bne_eq_false_iff_eq] at h0
    have hone : (chainC b l).1 = b.allB l := by rw [hc2 h0]; unfold Bod.Bd.allB; rw [if_pos h0]
    refine SX.VC_df (.bool true) (fun α => ⟨true, ⟨fun _ => Eq.trans (b := (cellsB (chainC b l).1).toList) (by kernel_rfl) (Eq.trans (b := (cellsB (b.allB l)).toList) (by rw [hone]) (by kernel_rfl)), fun _ => rfl⟩, by kernel_rfl, by kernel_rfl, rfl⟩) (by kernel_rfl) ?_
    exact SX.VC_ret fun α W _ _ hS => ⟨by kernel_rfl, hS.below⟩
end Go.Proofs.Ytklppgkolcpbbaa
