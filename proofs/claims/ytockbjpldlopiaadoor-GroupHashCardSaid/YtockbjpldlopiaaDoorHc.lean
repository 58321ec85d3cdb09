/-
  law10's cards: a word of four bytes.
-/
import Derived.Test.YtockbjpldlopiaaDoorHb
namespace Go.Proofs.YtockbjpldlopiaaDoor
set_option linter.unusedSimpArgs false
set_option linter.unusedVariables false
open Go Go.RowKit
/-- bytes as cells -/
def c8 (b : W8) : List Value := [w8 b]
theorem c8_len (b : W8) : (c8 b).length = 1 := rfl
noncomputable def cxW (K A : Value → Nat → List Value → Prop) : SX.Cx := { cx0 K A with cut := [(3, 0, false), (8, 1, false), (14, 2, false), (20, 3, false), (26, 4, true)] }
theorem cxW_ok (K A : Value → Nat → List Value → Prop) : (cxW K A).Ok := SX.Cx.ok_of (fun _ => rfl) fun _ f xs v W h => h.elim
/-- the number that four bytes are -/
def wordOf (a b c d : W8) : W32 := (((0 ||| a.setWidth 32) <<< 8 ||| b.setWidth 32) <<< 8 ||| c.setWidth 32) <<< 8 ||| d.setWidth 32
def tree_word : SX.Tree :=
(.df (.slc false 1 false true false) [(.x 0 []), (.k (.int .i64 4))] .one 
(.df (.len false) [(.x 1 [])] .one 
(.df (.bin .lss 3) [(.k (.int .i64 0)), (.x 2 [])] .one 
(.br 3 [] 
(.df .bnd [(.x 1 []), (.k (.int .i64 0))] .one 
(.df (.elem 1 0) [(.x 1 []), (.k (.int .i64 0))] .one 
(.df (.conv .u32) [(.x 5 [])] .one 
(.df (.bin .or 43) [(.k (.int .u32 0)), (.x 6 [])] .one 
(.df (.bin .lss 3) [(.k (.int .i64 1)), (.x 2 [])] .one 
(.br 8 [] 
(.df .bnd [(.x 1 []), (.k (.int .i64 1))] .one 
(.df (.elem 1 0) [(.x 1 []), (.k (.int .i64 1))] .one 
(.df (.bin .shl 43) [(.x 7 []), (.k (.int .u64 8))] .one 
(.df (.conv .u32) [(.x 10 [])] .one 
(.df (.bin .or 43) [(.x 11 []), (.x 12 [])] .one 
(.df (.bin .lss 3) [(.k (.int .i64 2)), (.x 2 [])] .one 
(.br 14 [] 
(.df .bnd [(.x 1 []), (.k (.int .i64 2))] .one 
(.df (.elem 1 0) [(.x 1 []), (.k (.int .i64 2))] .one 
(.df (.bin .shl 43) [(.x 13 []), (.k (.int .u64 8))] .one 
(.df (.conv .u32) [(.x 16 [])] .one 
(.df (.bin .or 43) [(.x 17 []), (.x 18 [])] .one 
(.df (.bin .lss 3) [(.k (.int .i64 3)), (.x 2 [])] .one 
(.br 20 [] 
(.df .bnd [(.x 1 []), (.k (.int .i64 3))] .one 
(.df (.elem 1 0) [(.x 1 []), (.k (.int .i64 3))] .one 
(.df (.bin .shl 43) [(.x 19 []), (.k (.int .u64 8))] .one 
(.df (.conv .u32) [(.x 22 [])] .one 
(.df (.bin .or 43) [(.x 23 []), (.x 24 [])] .one 
(.df (.bin .lss 3) [(.k (.int .i64 4)), (.x 2 [])] .one 
(.br 26 [] (.bad 70 []) 
(.ret (.x 25 []) [] [])))))))) (.bad 70 [])))))))) (.bad 70 [])))))))) (.bad 70 []))))))) (.bad 70 [])))))
def args_word : List SX.V := [.x 0 []]
set_option maxRecDepth 100000 in
theorem run_word (K A : Value → Nat → List Value → Prop) : (SX.run (cxW K A) ⟨fun _ => false, [], 0, 100⟩ 100000 0 (SX.door 30 Tryd.f30 args_word [.any]) [.code (Tryd.f30.body.getD .skip), .top Tryd.f30]).strip = tree_word := by kernel_rfl
set_option maxRecDepth 100000 in
theorem word_any (l : List W8) (b0 b1 b2 b3 : W8) (hl : l.take 4 = [b0, b1, b2, b3]) (A : Option Addr) (n c : Nat) (w : World) (hr : Rd w 1 A n (l.flatMap c8)) (hn : n ≤ 9223372036854775807) (hc : n ≤ c) : Calls Tryd.prog 30 #[.slice A n c] w fun e w' => e = .returned (w32 (wordOf b0 b1 b2 b3)) ∧ Below w.heap.size w w' := by
  have hln : l.length = n := by have := hr.1; rw [SX.flat_len c8_len] at this; omega
  have h4 : 4 ≤ n := by
    have := congrArg List.length hl
    simp only [List.length_take, List.length_cons, List.length_nil] at this
    omega
  refine SX.calls_of_run (C := cxW (SX.SubK A n c 1 (l.flatMap c8)) (fun _ _ _ => False)) (G := ⟨fun _ => false, [], 0, 100⟩) (args := args_word) (sh := [.any]) (ρ := [.slice A n c]) 100000 tree_word (cxW_ok _ _) Tryd.func30 rfl (run_word _ _) (by kernel_rfl) (by kernel_rfl) (by kernel_rfl) (fun W hW s z xs h => SX.SubK.rd (hr.same0 hW) h) ?_
  have hA := SX.rd_some hr
  have hA' : 0 < 4 → (if c = 0 then A else A.map (·.add (0 * 1))).isSome = true := fun _ => by
    rw [if_neg (by omega)]
    have := hA (by omega)
    cases A with
    | none => cases this
    | some a => rfl
  have hK : SX.SubK A n c 1 (l.flatMap c8) (.slice (if c = 0 then A else A.map (·.add (0 * 1))) 4 c) 1 ([b0, b1, b2, b3].flatMap c8) := by
    have := SX.SubK.part c8_len (A := A) (n := n) (c := c) (L := l) (l := 0) (h := 4) (m := c) (by omega) h4 (by omega) (by omega)
    rw [show ((l.drop 0).take (4 - 0)) = [b0, b1, b2, b3] from hl] at this
    exact this
  unfold tree_word
  refine SX.VC_df (SX.subS A 1 0 4 c) (fun α => SX.slc_hi (n := n) (k := 4) (by kernel_rfl) (by kernel_rfl) (by omega)) (by kernel_rfl) ?_
  refine SX.VC_df (.int .i64 4) (by intro α; show _ = _; kernel_rfl) (by kernel_rfl) ?_
  refine SX.VC_df (.bool true) (by intro α; show _ = _; kernel_rfl) (by kernel_rfl) ?_
  refine SX.VC_br true (by kernel_rfl) (fun _ => ?_) (fun h => absurd h (by simp))
  refine SX.VC_df (.bool true) (fun α => SX.extBnd (A := if c = 0 then A else A.map (·.add (0 * 1))) (n := 4) (c := c) (j := 0) hA' (by kernel_rfl) (by kernel_rfl) (by omega)) (by kernel_rfl) ?_
  refine SX.VC_df (w8 b0) (fun α => SX.extElem (f := c8) (l := [b0, b1, b2, b3]) (A := if c = 0 then A else A.map (·.add (0 * 1))) (n := 4) (c := c) (j := 0) (z := b0) c8_len hA' (by kernel_rfl) (by kernel_rfl) (by omega) (cast (by kernel_rfl) hK) rfl (by omega) rfl) (by kernel_rfl) ?_
  refine SX.VC_df (w32 (b0.setWidth 32)) (fun α => cast (by kernel_rfl) (w_conv8 b0)) (by kernel_rfl) ?_
  refine SX.VC_df (w32 (0 ||| b0.setWidth 32 : W32)) (fun α => cast (by kernel_rfl) (w_or 0 (b0.setWidth 32))) (by kernel_rfl) ?_
  refine SX.VC_df (.bool true) (by intro α; show _ = _; kernel_rfl) (by kernel_rfl) ?_
  refine SX.VC_br true (by kernel_rfl) (fun _ => ?_) (fun h => absurd h (by simp))
  refine SX.VC_df (.bool true) (fun α => SX.extBnd (A := if c = 0 then A else A.map (·.add (0 * 1))) (n := 4) (c := c) (j := 1) hA' (by kernel_rfl) (by kernel_rfl) (by omega)) (by kernel_rfl) ?_
  refine SX.VC_df (w8 b1) (fun α => SX.extElem (f := c8) (l := [b0, b1, b2, b3]) (A := if c = 0 then A else A.map (·.add (0 * 1))) (n := 4) (c := c) (j := 1) (z := b1) c8_len hA' (by kernel_rfl) (by kernel_rfl) (by omega) (cast (by kernel_rfl) hK) rfl (by omega) rfl) (by kernel_rfl) ?_
  refine SX.VC_df (w32 ((0 ||| b0.setWidth 32 : W32) <<< 8)) (fun α => cast (by kernel_rfl) (w_shl (0 ||| b0.setWidth 32 : W32) .u64 8 (by omega))) (by kernel_rfl) ?_
  refine SX.VC_df (w32 (b1.setWidth 32)) (fun α => cast (by kernel_rfl) (w_conv8 b1)) (by kernel_rfl) ?_
  refine SX.VC_df (w32 ((0 ||| b0.setWidth 32 : W32) <<< 8 ||| b1.setWidth 32 : W32)) (fun α => cast (by kernel_rfl) (w_or ((0 ||| b0.setWidth 32 : W32) <<< 8) (b1.setWidth 32))) (by kernel_rfl) ?_
  refine SX.VC_df (.bool true) (by intro α; show _ = _; kernel_rfl) (by kernel_rfl) ?_
  refine SX.VC_br true (by kernel_rfl) (fun _ => ?_) (fun h => absurd h (by simp))
  refine SX.VC_df (.bool true) (fun α => SX.extBnd (A := if c = 0 then A else A.map (·.add (0 * 1))) (n := 4) (c := c) (j := 2) hA' (by kernel_rfl) (by kernel_rfl) (by omega)) (by kernel_rfl) ?_
  refine SX.VC_df (w8 b2) (fun α => SX.extElem (f := c8) (l := [b0, b1, b2, b3]) (A := if c = 0 then A else A.map (·.add (0 * 1))) (n := 4) (c := c) (j := 2) (z := b2) c8_len hA' (by kernel_rfl) (by kernel_rfl) (by omega) (cast (by kernel_rfl) hK) rfl (by omega) rfl) (by kernel_rfl) ?_
  refine SX.VC_df (w32 (((0 ||| b0.setWidth 32 : W32) <<< 8 ||| b1.setWidth 32 : W32) <<< 8)) (fun α => cast (by kernel_rfl) (w_shl ((0 ||| b0.setWidth 32 : W32) <<< 8 ||| b1.setWidth 32 : W32) .u64 8 (by omega))) (by kernel_rfl) ?_
  refine SX.VC_df (w32 (b2.setWidth 32)) (fun α => cast (by kernel_rfl) (w_conv8 b2)) (by kernel_rfl) ?_
  refine SX.VC_df (w32 (((0 ||| b0.setWidth 32 : W32) <<< 8 ||| b1.setWidth 32 : W32) <<< 8 ||| b2.setWidth 32 : W32)) (fun α => cast (by kernel_rfl) (w_or (((0 ||| b0.setWidth 32 : W32) <<< 8 ||| b1.setWidth 32 : W32) <<< 8) (b2.setWidth 32))) (by kernel_rfl) ?_
  refine SX.VC_df (.bool true) (by intro α; show _ = _; kernel_rfl) (by kernel_rfl) ?_
  refine SX.VC_br true (by kernel_rfl) (fun _ => ?_) (fun h => absurd h (by simp))
  refine SX.VC_df (.bool true) (fun α => SX.extBnd (A := if c = 0 then A else A.map (·.add (0 * 1))) (n := 4) (c := c) (j := 3) hA' (by kernel_rfl) (by kernel_rfl) (by omega)) (by kernel_rfl) ?_
  refine SX.VC_df (w8 b3) (fun α => SX.extElem (f := c8) (l := [b0, b1, b2, b3]) (A := if c = 0 then A else A.map (·.add (0 * 1))) (n := 4) (c := c) (j := 3) (z := b3) c8_len hA' (by kernel_rfl) (by kernel_rfl) (by omega) (cast (by kernel_rfl) hK) rfl (by omega) rfl) (by kernel_rfl) ?_
  refine SX.VC_df (w32 ((((0 ||| b0.setWidth 32 : W32) <<< 8 ||| b1.setWidth 32 : W32) <<< 8 ||| b2.setWidth 32 : W32) <<< 8)) (fun α => cast (by kernel_rfl) (w_shl (((0 ||| b0.setWidth 32 : W32) <<< 8 ||| b1.setWidth 32 : W32) <<< 8 ||| b2.setWidth 32 : W32) .u64 8 (by omega))) (by kernel_rfl) ?_
  refine SX.VC_df (w32 (b3.setWidth 32)) (fun α => cast (by kernel_rfl) (w_conv8 b3)) (by kernel_rfl) ?_
  refine SX.VC_df (w32 ((((0 ||| b0.setWidth 32 : W32) <<< 8 ||| b1.setWidth 32 : W32) <<< 8 ||| b2.setWidth 32 : W32) <<< 8 ||| b3.setWidth 32 : W32)) (fun α => cast (by kernel_rfl) (w_or ((((0 ||| b0.setWidth 32 : W32) <<< 8 ||| b1.setWidth 32 : W32) <<< 8 ||| b2.setWidth 32 : W32) <<< 8) (b3.setWidth 32))) (by kernel_rfl) ?_
  refine SX.VC_df (.bool false) (by intro α; show _ = _; kernel_rfl) (by kernel_rfl) ?_
  refine SX.VC_br false (by kernel_rfl) (fun h => absurd h (by simp)) (fun _ => ?_)
  exact SX.VC_ret fun α W _ _ hS => SX.ret_of hS (x := w32 (wordOf b0 b1 b2 b3)) (by kernel_rfl) rfl
end Go.Proofs.YtockbjpldlopiaaDoor
