/-
  law10's cards: the reference's hash: ror, word, numbers, block.
-/
import Derived.Test.YtockbjpldlopiaaDoorHm
import Derived.Test.YtockbjpldlopiaaDoorHi
namespace Go.Proofs.YtockbjpldlopiaaDoor
set_option linter.unusedSimpArgs false
set_option linter.unusedVariables false
open Go Go.RowKit
def args_rror : List SX.V := [.x 0 [], .x 1 []]
def tree_rror : SX.Tree :=
(.df (.bin .shr 43) [(.x 0 []), (.x 1 [])] .one 
(.df (.bin .sub 3) [(.k (.int .i64 32)), (.x 1 [])] .one 
(.df (.bin .shl 43) [(.x 0 []), (.x 3 [])] .one 
(.df (.bin .or 43) [(.x 2 []), (.x 4 [])] .one 
(.ret (.x 5 []) [] [])))))
set_option maxRecDepth 100000 in
theorem run_rror (K A : Value → Nat → List Value → Prop) : (SX.run (cx0 K A) ⟨fun _ => false, [], 0, 100⟩ 100000 0 (SX.door 34 Tryd.f34 args_rror [.one, .one]) [.code (Tryd.f34.body.getD .skip), .top Tryd.f34]).strip = tree_rror := by kernel_rfl
set_option maxRecDepth 100000 in
theorem rror_any (x : W32) (n : Nat) (h0 : 0 < n) (hn : n < 32) (w : World) : Calls Tryd.prog 34 #[w32 x, .int .i64 (n : Int)] w fun e w' => e = .returned (w32 (rorE x n)) ∧ Below w.heap.size w w' := by
  refine SX.calls_of_run (C := cx0 (fun _ _ _ => False) (fun _ _ _ => False)) (G := ⟨fun _ => false, [], 0, 100⟩) (args := args_rror) (sh := [.one, .one]) (ρ := [w32 x, .int .i64 (n : Int)]) 100000 tree_rror (cx0_ok _ _) Tryd.func34 rfl (cast (by kernel_rfl) (run_rror (fun _ _ _ => False) (fun _ _ _ => False))) (by kernel_rfl) (by kernel_rfl) (by kernel_rfl) (fun _ _ _ _ _ h => h.elim) ?_
  unfold tree_rror
  refine SX.VC_df (w32 (x >>> n)) (fun α => cast (by kernel_rfl) (w_shr x .i64 n hn)) (by kernel_rfl) ?_
  refine SX.VC_df (.int .i64 ((32 - n : Nat) : Int)) (fun α => cast (by kernel_rfl) (i_sub' (a := 32) (b := n) (d := 32 - n) (by omega) (by omega))) (by kernel_rfl) ?_
  refine SX.VC_df (w32 (x <<< (32 - n))) (fun α => cast (by kernel_rfl) (w_shl x .i64 (32 - n) (by omega))) (by kernel_rfl) ?_
  refine SX.VC_df (w32 (rorE x n)) (fun α => cast (by kernel_rfl) (w_or (x >>> n) (x <<< (32 - n)))) (by kernel_rfl) ?_
  exact SX.VC_ret fun α W _ _ hS => SX.ret_of hS (x := w32 (rorE x n)) (by kernel_rfl) rfl
def args_rword : List SX.V := [.x 0 []]
def tree_rword : SX.Tree :=
(.df .bnd [(.x 0 []), (.k (.int .i64 0))] .one 
(.df (.elem 1 0) [(.x 0 []), (.k (.int .i64 0))] .one 
(.df (.conv .u32) [(.x 2 [])] .one 
(.df (.bin .shl 43) [(.x 3 []), (.k (.int .u64 24))] .one 
(.df .bnd [(.x 0 []), (.k (.int .i64 1))] .one 
(.df (.elem 1 0) [(.x 0 []), (.k (.int .i64 1))] .one 
(.df (.conv .u32) [(.x 6 [])] .one 
(.df (.bin .shl 43) [(.x 7 []), (.k (.int .u64 16))] .one 
(.df (.bin .or 43) [(.x 4 []), (.x 8 [])] .one 
(.df .bnd [(.x 0 []), (.k (.int .i64 2))] .one 
(.df (.elem 1 0) [(.x 0 []), (.k (.int .i64 2))] .one 
(.df (.conv .u32) [(.x 11 [])] .one 
(.df (.bin .shl 43) [(.x 12 []), (.k (.int .u64 8))] .one 
(.df (.bin .or 43) [(.x 9 []), (.x 13 [])] .one 
(.df .bnd [(.x 0 []), (.k (.int .i64 3))] .one 
(.df (.elem 1 0) [(.x 0 []), (.k (.int .i64 3))] .one 
(.df (.conv .u32) [(.x 16 [])] .one 
(.df (.bin .or 43) [(.x 14 []), (.x 17 [])] .one 
(.ret (.x 18 []) [] [])))))))))))))))))))
set_option maxRecDepth 100000 in
theorem run_rword (K A : Value → Nat → List Value → Prop) : (SX.run (cx0 K A) ⟨fun _ => false, [], 0, 100⟩ 100000 0 (SX.door 33 Tryd.f33 args_rword [.any]) [.code (Tryd.f33.body.getD .skip), .top Tryd.f33]).strip = tree_rword := by kernel_rfl
set_option maxRecDepth 100000 in
theorem rword_any (b0 b1 b2 b3 : W8) (A : Option Addr) (n c : Nat) (w : World) (hr : Rd w 1 A n ([b0, b1, b2, b3].flatMap c8)) (hc : n ≤ c) : Calls Tryd.prog 33 #[.slice A n c] w fun e w' => e = .returned (w32 (rword b0 b1 b2 b3)) ∧ Below w.heap.size w w' := by
  obtain rfl : 4 = n := by have := hr.1; rw [SX.flat_len c8_len] at this; simpa using this
  have hA := SX.rd_some hr
  refine SX.calls_of_run (C := cx0 (fun v z xs => v = .slice A 4 c ∧ z = 1 ∧ xs = [b0, b1, b2, b3].flatMap c8) (fun _ _ _ => False)) (G := ⟨fun _ => false, [], 0, 100⟩) (args := args_rword) (sh := [.any]) (ρ := [.slice A 4 c]) 100000 tree_rword (cx0_ok _ _) Tryd.func33 rfl (cast (by kernel_rfl) (run_rword (fun v z xs => v = .slice A 4 c ∧ z = 1 ∧ xs = [b0, b1, b2, b3].flatMap c8) (fun _ _ _ => False))) (by kernel_rfl) (by kernel_rfl) (by kernel_rfl) (fun W hW v z xs ⟨h1, h2, h3⟩ => by subst h1; subst h2; subst h3; exact ⟨hr.same0 hW, hc⟩) ?_
  unfold tree_rword
  refine SX.VC_df (.bool true) (fun α => SX.extBnd (A := A) (n := 4) (c := c) (j := 0) hA (by kernel_rfl) (by kernel_rfl) (by omega)) (by kernel_rfl) ?_
  refine SX.VC_df (w8 b0) (fun α => SX.extElem (f := c8) (l := [b0, b1, b2, b3]) (A := A) (n := 4) (c := c) (j := 0) (z := b0) c8_len hA (by kernel_rfl) (by kernel_rfl) (by omega) ⟨rfl, rfl, rfl⟩ rfl (by omega) rfl) (by kernel_rfl) ?_
  refine SX.VC_df (w32 (b0.setWidth 32)) (fun α => cast (by kernel_rfl) (w_conv8 b0)) (by kernel_rfl) ?_
  refine SX.VC_df (w32 ((b0.setWidth 32 : W32) <<< 24)) (fun α => cast (by kernel_rfl) (w_shl (b0.setWidth 32 : W32) .u64 24 (by omega))) (by kernel_rfl) ?_
  refine SX.VC_df (.bool true) (fun α => SX.extBnd (A := A) (n := 4) (c := c) (j := 1) hA (by kernel_rfl) (by kernel_rfl) (by omega)) (by kernel_rfl) ?_
  refine SX.VC_df (w8 b1) (fun α => SX.extElem (f := c8) (l := [b0, b1, b2, b3]) (A := A) (n := 4) (c := c) (j := 1) (z := b1) c8_len hA (by kernel_rfl) (by kernel_rfl) (by omega) ⟨rfl, rfl, rfl⟩ rfl (by omega) rfl) (by kernel_rfl) ?_
  refine SX.VC_df (w32 (b1.setWidth 32)) (fun α => cast (by kernel_rfl) (w_conv8 b1)) (by kernel_rfl) ?_
  refine SX.VC_df (w32 ((b1.setWidth 32 : W32) <<< 16)) (fun α => cast (by kernel_rfl) (w_shl (b1.setWidth 32 : W32) .u64 16 (by omega))) (by kernel_rfl) ?_
  refine SX.VC_df (w32 (((b0.setWidth 32 : W32) <<< 24) ||| ((b1.setWidth 32 : W32) <<< 16))) (fun α => cast (by kernel_rfl) (w_or ((b0.setWidth 32 : W32) <<< 24) ((b1.setWidth 32 : W32) <<< 16))) (by kernel_rfl) ?_
  refine SX.VC_df (.bool true) (fun α => SX.extBnd (A := A) (n := 4) (c := c) (j := 2) hA (by kernel_rfl) (by kernel_rfl) (by omega)) (by kernel_rfl) ?_
  refine SX.VC_df (w8 b2) (fun α => SX.extElem (f := c8) (l := [b0, b1, b2, b3]) (A := A) (n := 4) (c := c) (j := 2) (z := b2) c8_len hA (by kernel_rfl) (by kernel_rfl) (by omega) ⟨rfl, rfl, rfl⟩ rfl (by omega) rfl) (by kernel_rfl) ?_
  refine SX.VC_df (w32 (b2.setWidth 32)) (fun α => cast (by kernel_rfl) (w_conv8 b2)) (by kernel_rfl) ?_
  refine SX.VC_df (w32 ((b2.setWidth 32 : W32) <<< 8)) (fun α => cast (by kernel_rfl) (w_shl (b2.setWidth 32 : W32) .u64 8 (by omega))) (by kernel_rfl) ?_
  refine SX.VC_df (w32 ((((b0.setWidth 32 : W32) <<< 24) ||| ((b1.setWidth 32 : W32) <<< 16)) ||| ((b2.setWidth 32 : W32) <<< 8))) (fun α => cast (by kernel_rfl) (w_or (((b0.setWidth 32 : W32) <<< 24) ||| ((b1.setWidth 32 : W32) <<< 16)) ((b2.setWidth 32 : W32) <<< 8))) (by kernel_rfl) ?_
  refine SX.VC_df (.bool true) (fun α => SX.extBnd (A := A) (n := 4) (c := c) (j := 3) hA (by kernel_rfl) (by kernel_rfl) (by omega)) (by kernel_rfl) ?_
  refine SX.VC_df (w8 b3) (fun α => SX.extElem (f := c8) (l := [b0, b1, b2, b3]) (A := A) (n := 4) (c := c) (j := 3) (z := b3) c8_len hA (by kernel_rfl) (by kernel_rfl) (by omega) ⟨rfl, rfl, rfl⟩ rfl (by omega) rfl) (by kernel_rfl) ?_
  refine SX.VC_df (w32 (b3.setWidth 32)) (fun α => cast (by kernel_rfl) (w_conv8 b3)) (by kernel_rfl) ?_
  refine SX.VC_df (w32 (((((b0.setWidth 32 : W32) <<< 24) ||| ((b1.setWidth 32 : W32) <<< 16)) ||| ((b2.setWidth 32 : W32) <<< 8)) ||| (b3.setWidth 32 : W32))) (fun α => cast (by kernel_rfl) (w_or ((((b0.setWidth 32 : W32) <<< 24) ||| ((b1.setWidth 32 : W32) <<< 16)) ||| ((b2.setWidth 32 : W32) <<< 8)) (b3.setWidth 32 : W32))) (by kernel_rfl) ?_
  exact SX.VC_ret fun α W _ _ hS => SX.ret_of hS (x := w32 (rword b0 b1 b2 b3)) (by kernel_rfl) rfl
def args_rnums : List SX.V := []
def tree_rnums : SX.Tree :=
(.ret (.a [(.k (.int .u32 1116352408)), (.k (.int .u32 1899447441)), (.k (.int .u32 3049323471)), (.k (.int .u32 3921009573)), (.k (.int .u32 961987163)), (.k (.int .u32 1508970993)), (.k (.int .u32 2453635748)), (.k (.int .u32 2870763221)), (.k (.int .u32 3624381080)), (.k (.int .u32 310598401)), (.k (.int .u32 607225278)), (.k (.int .u32 1426881987)), (.k (.int .u32 1925078388)), (.k (.int .u32 2162078206)), (.k (.int .u32 2614888103)), (.k (.int .u32 3248222580)), (.k (.int .u32 3835390401)), (.k (.int .u32 4022224774)), (.k (.int .u32 264347078)), (.k (.int .u32 604807628)), (.k (.int .u32 770255983)), (.k (.int .u32 1249150122)), (.k (.int .u32 1555081692)), (.k (.int .u32 1996064986)), (.k (.int .u32 2554220882)), (.k (.int .u32 2821834349)), (.k (.int .u32 2952996808)), (.k (.int .u32 3210313671)), (.k (.int .u32 3336571891)), (.k (.int .u32 3584528711)), (.k (.int .u32 113926993)), (.k (.int .u32 338241895)), (.k (.int .u32 666307205)), (.k (.int .u32 773529912)), (.k (.int .u32 1294757372)), (.k (.int .u32 1396182291)), (.k (.int .u32 1695183700)), (.k (.int .u32 1986661051)), (.k (.int .u32 2177026350)), (.k (.int .u32 2456956037)), (.k (.int .u32 2730485921)), (.k (.int .u32 2820302411)), (.k (.int .u32 3259730800)), (.k (.int .u32 3345764771)), (.k (.int .u32 3516065817)), (.k (.int .u32 3600352804)), (.k (.int .u32 4094571909)), (.k (.int .u32 275423344)), (.k (.int .u32 430227734)), (.k (.int .u32 506948616)), (.k (.int .u32 659060556)), (.k (.int .u32 883997877)), (.k (.int .u32 958139571)), (.k (.int .u32 1322822218)), (.k (.int .u32 1537002063)), (.k (.int .u32 1747873779)), (.k (.int .u32 1955562222)), (.k (.int .u32 2024104815)), (.k (.int .u32 2227730452)), (.k (.int .u32 2361852424)), (.k (.int .u32 2428436474)), (.k (.int .u32 2756734187)), (.k (.int .u32 3204031479)), (.k (.int .u32 3329325298))]) [] [])
set_option maxRecDepth 100000 in
theorem run_rnums (K A : Value → Nat → List Value → Prop) : (SX.run (cx0 K A) ⟨fun _ => false, [], 0, 100⟩ 100000 0 (SX.door 35 Tryd.f35 args_rnums []) [.code (Tryd.f35.body.getD .skip), .top Tryd.f35]).strip = tree_rnums := by kernel_rfl
set_option maxRecDepth 100000 in
theorem rnums_any (w : World) : Calls Tryd.prog 35 #[] w fun e w' => e = .returned (.agg (numbersK.flatMap c32).toArray) ∧ Below w.heap.size w w' := by
  refine SX.calls_of_run (C := cx0 (fun _ _ _ => False) (fun _ _ _ => False)) (G := ⟨fun _ => false, [], 0, 100⟩) (args := args_rnums) (sh := []) (ρ := []) 100000 tree_rnums (cx0_ok _ _) Tryd.func35 rfl (cast (by kernel_rfl) (run_rnums (fun _ _ _ => False) (fun _ _ _ => False))) (by kernel_rfl) (by kernel_rfl) (by kernel_rfl) (fun _ _ _ _ _ h => h.elim) ?_
  unfold tree_rnums
  exact SX.VC_ret fun α W _ _ hS => SX.ret_of hS (x := .agg (numbersK.flatMap c32).toArray) (by kernel_rfl) rfl
def RorR (f : FuncId) (xs : List SX.Arg) (v : Value) : Prop := f = 34 ∧ ∃ (x : W32) (n : Nat), 0 < n ∧ n < 32 ∧ xs = [⟨w32 x, 0, []⟩, ⟨.int .i64 (n : Int), 0, []⟩] ∧ v = w32 (rorE x n)
def RwordR (f : FuncId) (xs : List SX.Arg) (v : Value) : Prop := f = 33 ∧ ∃ (u : Value) (l : List W8), l.length = 4 ∧ xs = [⟨u, 1, l.flatMap c8⟩] ∧ v = w32 (rword (l.getD 0 0) (l.getD 1 0) (l.getD 2 0) (l.getD 3 0))
def RnumsR (f : FuncId) (xs : List SX.Arg) (v : Value) : Prop := f = 35 ∧ xs = [] ∧ v = .agg (numbersK.flatMap c32).toArray
noncomputable def cxB (K A : Value → Nat → List Value → Prop) : SX.Cx := { P := Tryd.prog, R := fun _ f xs v => RorR f xs v ∨ RwordR f xs v ∨ RnumsR f xs v, shp := fun f => if f ∈ [34, 33] then some .one else if f = 35 then some (.ag 64) else none, K := K, A := A, arr := true, trm := true }
theorem cxB_ok (K A : Value → Nat → List Value → Prop) : (cxB K A).Ok := SX.Cx.ok_of (fun _ => rfl) fun _ f xs v W h hrd hK => by
  rcases h with ⟨rfl, x, n, h0, hn, rfl, rfl⟩ | ⟨rfl, u, l, hl, rfl, rfl⟩ | ⟨rfl, rfl, rfl⟩
  · exact (rror_any x n h0 hn W).mono fun e w' h => SX.plainOk rfl h
  · obtain ⟨A, n, c, rfl, hr, hc, hn⟩ := byte_arg (hrd ⟨u, 1, l.flatMap c8⟩ (List.mem_singleton_self _))
    have e : l = [l.getD 0 0, l.getD 1 0, l.getD 2 0, l.getD 3 0] := by rw [← take4 l (by omega), List.take_of_length_le (by omega)]
    rw [e] at hr
    exact (rword_any _ _ _ _ A n c W hr hc).mono fun e w' h => SX.plainOk rfl h
  · exact (rnums_any W).mono fun e w' h => SX.plainOk rfl h
theorem slc_lh {C : SX.Cx} {ρ : List Value} {α : Nat → SX.AV} {s i i' : SX.V} {A : Option Addr} {n c lo hi sz : Nat} (hs : s.den ρ α = .slice A n c) (h1 : i.den ρ α = .int .i64 (lo : Int)) (h2 : i'.den ρ α = .int .i64 (hi : Int)) (hl : lo ≤ hi) (hh : hi ≤ c) : SX.Opq.rel C ρ α (.slc false sz true true false) [s, i, i'] (SX.subS A sz lo hi c) := by
  show SX.slcV _ _ _ _ _ _ = _
  simp only [SX.denL, hs, h1, h2, SX.slcV, SX.optsV, Option.bind_some, SX.boundsV, SX.bndV]
  rw [if_pos (by omega)]
  simp only [Option.bind_some, Int.toNat_natCast]
  rw [if_pos (by omega)]
  simp [SX.subS]
theorem w_cpl (x : W32) : SX.cplV (w32 x) = some (w32 (~~~x)) := by
  have h : (BitVec.ofInt 32 (x.toNat : Int)) = x := by apply BitVec.eq_of_toNat_eq; simp
  show some (Value.int .u32 (IntKind.u32.wrap ((BitVec.ofInt 32 (4294967295 : Int) ^^^ BitVec.ofInt 32 (x.toNat : Int) : BitVec 32).toNat : Int))) = _
  rw [h, wrap_u32]
  have e : (BitVec.ofInt 32 (4294967295 : Int)) ^^^ x = ~~~x := by
    rw [show (BitVec.ofInt 32 (4294967295 : Int)) = BitVec.allOnes 32 from rfl, BitVec.allOnes_xor]
  rw [e, BitVec.ofNat_toNat, BitVec.setWidth_eq]
  rfl
theorem wordAt_r (l : List W8) (t : Nat) (h : 4 * t + 4 ≤ l.length) : rword (((l.drop (4 * t)).take 4).getD 0 0) (((l.drop (4 * t)).take 4).getD 1 0) (((l.drop (4 * t)).take 4).getD 2 0) (((l.drop (4 * t)).take 4).getD 3 0) = wordAt l t := by
  rw [rword_eq]
  unfold wordAt
  simp only [List.getD_eq_getElem?_getD, List.getElem?_take, List.getElem?_drop]
  rfl
def args_rblock : List SX.V := [.a ((List.range 8).map fun j => .x j []), .x 8 []]
def tree_rblock : SX.Tree :=
(.df (.slc false 1 true true false) [(.x 8 []), (.k (.int .i64 0)), (.k (.int .i64 4))] .one 
(.df (.call 33 [(.ext 1)]) [(.x 9 [])] .one 
(.df (.slc false 1 true true false) [(.x 8 []), (.k (.int .i64 4)), (.k (.int .i64 8))] .one 
(.df (.call 33 [(.ext 1)]) [(.x 11 [])] .one 
(.df (.slc false 1 true true false) [(.x 8 []), (.k (.int .i64 8)), (.k (.int .i64 12))] .one 
(.df (.call 33 [(.ext 1)]) [(.x 13 [])] .one 
(.df (.slc false 1 true true false) [(.x 8 []), (.k (.int .i64 12)), (.k (.int .i64 16))] .one 
(.df (.call 33 [(.ext 1)]) [(.x 15 [])] .one 
(.df (.slc false 1 true true false) [(.x 8 []), (.k (.int .i64 16)), (.k (.int .i64 20))] .one 
(.df (.call 33 [(.ext 1)]) [(.x 17 [])] .one 
(.df (.slc false 1 true true false) [(.x 8 []), (.k (.int .i64 20)), (.k (.int .i64 24))] .one 
(.df (.call 33 [(.ext 1)]) [(.x 19 [])] .one 
(.df (.slc false 1 true true false) [(.x 8 []), (.k (.int .i64 24)), (.k (.int .i64 28))] .one 
(.df (.call 33 [(.ext 1)]) [(.x 21 [])] .one 
(.df (.slc false 1 true true false) [(.x 8 []), (.k (.int .i64 28)), (.k (.int .i64 32))] .one 
(.df (.call 33 [(.ext 1)]) [(.x 23 [])] .one 
(.df (.slc false 1 true true false) [(.x 8 []), (.k (.int .i64 32)), (.k (.int .i64 36))] .one 
(.df (.call 33 [(.ext 1)]) [(.x 25 [])] .one 
(.df (.slc false 1 true true false) [(.x 8 []), (.k (.int .i64 36)), (.k (.int .i64 40))] .one 
(.df (.call 33 [(.ext 1)]) [(.x 27 [])] .one 
(.df (.slc false 1 true true false) [(.x 8 []), (.k (.int .i64 40)), (.k (.int .i64 44))] .one 
(.df (.call 33 [(.ext 1)]) [(.x 29 [])] .one 
(.df (.slc false 1 true true false) [(.x 8 []), (.k (.int .i64 44)), (.k (.int .i64 48))] .one 
(.df (.call 33 [(.ext 1)]) [(.x 31 [])] .one 
(.df (.slc false 1 true true false) [(.x 8 []), (.k (.int .i64 48)), (.k (.int .i64 52))] .one 
(.df (.call 33 [(.ext 1)]) [(.x 33 [])] .one 
(.df (.slc false 1 true true false) [(.x 8 []), (.k (.int .i64 52)), (.k (.int .i64 56))] .one 
(.df (.call 33 [(.ext 1)]) [(.x 35 [])] .one 
(.df (.slc false 1 true true false) [(.x 8 []), (.k (.int .i64 56)), (.k (.int .i64 60))] .one 
(.df (.call 33 [(.ext 1)]) [(.x 37 [])] .one 
(.df (.slc false 1 true true false) [(.x 8 []), (.k (.int .i64 60)), (.k (.int .i64 64))] .one 
(.df (.call 33 [(.ext 1)]) [(.x 39 [])] .one 
(.loop [(.k (.int .i64 16)), (.x 10 []), (.x 12 []), (.x 14 []), (.x 16 []), (.x 18 []), (.x 20 []), (.x 22 []), (.x 24 []), (.x 26 []), (.x 28 []), (.x 30 []), (.x 32 []), (.x 34 []), (.x 36 []), (.x 38 []), (.x 40 []), (.k (.int .u32 0)), (.k (.int .u32 0)), (.k (.int .u32 0)), (.k (.int .u32 0)), (.k (.int .u32 0)), (.k (.int .u32 0)), (.k (.int .u32 0)), (.k (.int .u32 0)), (.k (.int .u32 0)), (.k (.int .u32 0)), (.k (.int .u32 0)), (.k (.int .u32 0)), (.k (.int .u32 0)), (.k (.int .u32 0)), (.k (.int .u32 0)), (.k (.int .u32 0)), (.k (.int .u32 0)), (.k (.int .u32 0)), (.k (.int .u32 0)), (.k (.int .u32 0)), (.k (.int .u32 0)), (.k (.int .u32 0)), (.k (.int .u32 0)), (.k (.int .u32 0)), (.k (.int .u32 0)), (.k (.int .u32 0)), (.k (.int .u32 0)), (.k (.int .u32 0)), (.k (.int .u32 0)), (.k (.int .u32 0)), (.k (.int .u32 0)), (.k (.int .u32 0)), (.k (.int .u32 0)), (.k (.int .u32 0)), (.k (.int .u32 0)), (.k (.int .u32 0)), (.k (.int .u32 0)), (.k (.int .u32 0)), (.k (.int .u32 0)), (.k (.int .u32 0)), (.k (.int .u32 0)), (.k (.int .u32 0)), (.k (.int .u32 0)), (.k (.int .u32 0)), (.k (.int .u32 0)), (.k (.int .u32 0)), (.k (.int .u32 0)), (.k (.int .u32 0))] [.one, .one, .one, .one, .one, .one, .one, .one, .one, .one, .one, .one, .one, .one, .one, .one, .one, .one, .one, .one, .one, .one, .one, .one, .one, .one, .one, .one, .one, .one, .one, .one, .one, .one, .one, .one, .one, .one, .one, .one, .one, .one, .one, .one, .one, .one, .one, .one, .one, .one, .one, .one, .one, .one, .one, .one, .one, .one, .one, .one, .one, .one, .one, .one, .one] 
(.df (.bin .lss 3) [(.x 41 []), (.k (.int .i64 64))] .one 
(.br 106 [] 
(.df (.bin .sub 3) [(.x 41 []), (.k (.int .i64 15))] .one 
(.df .bnd [(.sl 2 0 64 64), (.x 107 [])] .one 
(.df (.relem 1 0) [(.cat [(.a [(.x 42 []), (.x 43 []), (.x 44 []), (.x 45 []), (.x 46 []), (.x 47 []), (.x 48 []), (.x 49 []), (.x 50 []), (.x 51 []), (.x 52 []), (.x 53 []), (.x 54 []), (.x 55 []), (.x 56 []), (.x 57 []), (.x 58 []), (.x 59 []), (.x 60 []), (.x 61 []), (.x 62 []), (.x 63 []), (.x 64 []), (.x 65 []), (.x 66 []), (.x 67 []), (.x 68 []), (.x 69 []), (.x 70 []), (.x 71 []), (.x 72 []), (.x 73 []), (.x 74 []), (.x 75 []), (.x 76 []), (.x 77 []), (.x 78 []), (.x 79 []), (.x 80 []), (.x 81 []), (.x 82 []), (.x 83 []), (.x 84 []), (.x 85 []), (.x 86 []), (.x 87 []), (.x 88 []), (.x 89 []), (.x 90 []), (.x 91 []), (.x 92 []), (.x 93 []), (.x 94 []), (.x 95 []), (.x 96 []), (.x 97 []), (.x 98 []), (.x 99 []), (.x 100 []), (.x 101 []), (.x 102 []), (.x 103 []), (.x 104 []), (.x 105 [])])]), (.x 107 [])] .one 
(.df (.bin .sub 3) [(.x 41 []), (.k (.int .i64 2))] .one 
(.df .bnd [(.sl 2 0 64 64), (.x 110 [])] .one 
(.df (.relem 1 0) [(.cat [(.a [(.x 42 []), (.x 43 []), (.x 44 []), (.x 45 []), (.x 46 []), (.x 47 []), (.x 48 []), (.x 49 []), (.x 50 []), (.x 51 []), (.x 52 []), (.x 53 []), (.x 54 []), (.x 55 []), (.x 56 []), (.x 57 []), (.x 58 []), (.x 59 []), (.x 60 []), (.x 61 []), (.x 62 []), (.x 63 []), (.x 64 []), (.x 65 []), (.x 66 []), (.x 67 []), (.x 68 []), (.x 69 []), (.x 70 []), (.x 71 []), (.x 72 []), (.x 73 []), (.x 74 []), (.x 75 []), (.x 76 []), (.x 77 []), (.x 78 []), (.x 79 []), (.x 80 []), (.x 81 []), (.x 82 []), (.x 83 []), (.x 84 []), (.x 85 []), (.x 86 []), (.x 87 []), (.x 88 []), (.x 89 []), (.x 90 []), (.x 91 []), (.x 92 []), (.x 93 []), (.x 94 []), (.x 95 []), (.x 96 []), (.x 97 []), (.x 98 []), (.x 99 []), (.x 100 []), (.x 101 []), (.x 102 []), (.x 103 []), (.x 104 []), (.x 105 [])])]), (.x 110 [])] .one 
(.df (.bin .sub 3) [(.x 41 []), (.k (.int .i64 16))] .one 
(.df .bnd [(.sl 2 0 64 64), (.x 113 [])] .one 
(.df (.relem 1 0) [(.cat [(.a [(.x 42 []), (.x 43 []), (.x 44 []), (.x 45 []), (.x 46 []), (.x 47 []), (.x 48 []), (.x 49 []), (.x 50 []), (.x 51 []), (.x 52 []), (.x 53 []), (.x 54 []), (.x 55 []), (.x 56 []), (.x 57 []), (.x 58 []), (.x 59 []), (.x 60 []), (.x 61 []), (.x 62 []), (.x 63 []), (.x 64 []), (.x 65 []), (.x 66 []), (.x 67 []), (.x 68 []), (.x 69 []), (.x 70 []), (.x 71 []), (.x 72 []), (.x 73 []), (.x 74 []), (.x 75 []), (.x 76 []), (.x 77 []), (.x 78 []), (.x 79 []), (.x 80 []), (.x 81 []), (.x 82 []), (.x 83 []), (.x 84 []), (.x 85 []), (.x 86 []), (.x 87 []), (.x 88 []), (.x 89 []), (.x 90 []), (.x 91 []), (.x 92 []), (.x 93 []), (.x 94 []), (.x 95 []), (.x 96 []), (.x 97 []), (.x 98 []), (.x 99 []), (.x 100 []), (.x 101 []), (.x 102 []), (.x 103 []), (.x 104 []), (.x 105 [])])]), (.x 113 [])] .one 
(.df (.call 34 [.no, .no]) [(.x 109 []), (.k (.int .i64 7))] .one 
(.df (.call 34 [.no, .no]) [(.x 109 []), (.k (.int .i64 18))] .one 
(.df (.bin .xor 43) [(.x 116 []), (.x 117 [])] .one 
(.df (.bin .shr 43) [(.x 109 []), (.k (.int .u64 3))] .one 
(.df (.bin .xor 43) [(.x 118 []), (.x 119 [])] .one 
(.df (.bin .add 43) [(.x 115 []), (.x 120 [])] .one 
(.df (.bin .sub 3) [(.x 41 []), (.k (.int .i64 7))] .one 
(.df .bnd [(.sl 2 0 64 64), (.x 122 [])] .one 
(.df (.relem 1 0) [(.cat [(.a [(.x 42 []), (.x 43 []), (.x 44 []), (.x 45 []), (.x 46 []), (.x 47 []), (.x 48 []), (.x 49 []), (.x 50 []), (.x 51 []), (.x 52 []), (.x 53 []), (.x 54 []), (.x 55 []), (.x 56 []), (.x 57 []), (.x 58 []), (.x 59 []), (.x 60 []), (.x 61 []), (.x 62 []), (.x 63 []), (.x 64 []), (.x 65 []), (.x 66 []), (.x 67 []), (.x 68 []), (.x 69 []), (.x 70 []), (.x 71 []), (.x 72 []), (.x 73 []), (.x 74 []), (.x 75 []), (.x 76 []), (.x 77 []), (.x 78 []), (.x 79 []), (.x 80 []), (.x 81 []), (.x 82 []), (.x 83 []), (.x 84 []), (.x 85 []), (.x 86 []), (.x 87 []), (.x 88 []), (.x 89 []), (.x 90 []), (.x 91 []), (.x 92 []), (.x 93 []), (.x 94 []), (.x 95 []), (.x 96 []), (.x 97 []), (.x 98 []), (.x 99 []), (.x 100 []), (.x 101 []), (.x 102 []), (.x 103 []), (.x 104 []), (.x 105 [])])]), (.x 122 [])] .one 
(.df (.bin .add 43) [(.x 121 []), (.x 124 [])] .one 
(.df (.call 34 [.no, .no]) [(.x 112 []), (.k (.int .i64 17))] .one 
(.df (.call 34 [.no, .no]) [(.x 112 []), (.k (.int .i64 19))] .one 
(.df (.bin .xor 43) [(.x 126 []), (.x 127 [])] .one 
(.df (.bin .shr 43) [(.x 112 []), (.k (.int .u64 10))] .one 
(.df (.bin .xor 43) [(.x 128 []), (.x 129 [])] .one 
(.df (.bin .add 43) [(.x 125 []), (.x 130 [])] .one 
(.df .bnd [(.sl 2 0 64 64), (.x 41 [])] .one 
(.df (.rset 1 0) [(.cat [(.a [(.x 42 []), (.x 43 []), (.x 44 []), (.x 45 []), (.x 46 []), (.x 47 []), (.x 48 []), (.x 49 []), (.x 50 []), (.x 51 []), (.x 52 []), (.x 53 []), (.x 54 []), (.x 55 []), (.x 56 []), (.x 57 []), (.x 58 []), (.x 59 []), (.x 60 []), (.x 61 []), (.x 62 []), (.x 63 []), (.x 64 []), (.x 65 []), (.x 66 []), (.x 67 []), (.x 68 []), (.x 69 []), (.x 70 []), (.x 71 []), (.x 72 []), (.x 73 []), (.x 74 []), (.x 75 []), (.x 76 []), (.x 77 []), (.x 78 []), (.x 79 []), (.x 80 []), (.x 81 []), (.x 82 []), (.x 83 []), (.x 84 []), (.x 85 []), (.x 86 []), (.x 87 []), (.x 88 []), (.x 89 []), (.x 90 []), (.x 91 []), (.x 92 []), (.x 93 []), (.x 94 []), (.x 95 []), (.x 96 []), (.x 97 []), (.x 98 []), (.x 99 []), (.x 100 []), (.x 101 []), (.x 102 []), (.x 103 []), (.x 104 []), (.x 105 [])])]), (.x 41 []), (.x 131 [])] (.ag 64) 
(.df (.bin .add 3) [(.x 41 []), (.k (.int .i64 1))] .one 
(.again 0 [(.x 134 []), (.x 133 [0]), (.x 133 [1]), (.x 133 [2]), (.x 133 [3]), (.x 133 [4]), (.x 133 [5]), (.x 133 [6]), (.x 133 [7]), (.x 133 [8]), (.x 133 [9]), (.x 133 [10]), (.x 133 [11]), (.x 133 [12]), (.x 133 [13]), (.x 133 [14]), (.x 133 [15]), (.x 133 [16]), (.x 133 [17]), (.x 133 [18]), (.x 133 [19]), (.x 133 [20]), (.x 133 [21]), (.x 133 [22]), (.x 133 [23]), (.x 133 [24]), (.x 133 [25]), (.x 133 [26]), (.x 133 [27]), (.x 133 [28]), (.x 133 [29]), (.x 133 [30]), (.x 133 [31]), (.x 133 [32]), (.x 133 [33]), (.x 133 [34]), (.x 133 [35]), (.x 133 [36]), (.x 133 [37]), (.x 133 [38]), (.x 133 [39]), (.x 133 [40]), (.x 133 [41]), (.x 133 [42]), (.x 133 [43]), (.x 133 [44]), (.x 133 [45]), (.x 133 [46]), (.x 133 [47]), (.x 133 [48]), (.x 133 [49]), (.x 133 [50]), (.x 133 [51]), (.x 133 [52]), (.x 133 [53]), (.x 133 [54]), (.x 133 [55]), (.x 133 [56]), (.x 133 [57]), (.x 133 [58]), (.x 133 [59]), (.x 133 [60]), (.x 133 [61]), (.x 133 [62]), (.x 133 [63])]))))))))))))))))))))))))))))) 
(.df (.call 35 []) [] (.ag 64) 
(.loop [(.k (.int .i64 0)), (.x 0 []), (.x 1 []), (.x 2 []), (.x 3 []), (.x 4 []), (.x 5 []), (.x 6 []), (.x 7 [])] [.one, .one, .one, .one, .one, .one, .one, .one, .one] 
(.df (.bin .lss 3) [(.x 108 []), (.k (.int .i64 64))] .one 
(.br 117 [] 
(.df (.call 34 [.no, .no]) [(.x 113 []), (.k (.int .i64 6))] .one 
(.df (.call 34 [.no, .no]) [(.x 113 []), (.k (.int .i64 11))] .one 
(.df (.bin .xor 43) [(.x 118 []), (.x 119 [])] .one 
(.df (.call 34 [.no, .no]) [(.x 113 []), (.k (.int .i64 25))] .one 
(.df (.bin .xor 43) [(.x 120 []), (.x 121 [])] .one 
(.df (.bin .add 43) [(.x 116 []), (.x 122 [])] .one 
(.df (.bin .and 43) [(.x 113 []), (.x 114 [])] .one 
(.df .cpl [(.x 113 [])] .one 
(.df (.bin .and 43) [(.x 125 []), (.x 115 [])] .one 
(.df (.bin .xor 43) [(.x 124 []), (.x 126 [])] .one 
(.df (.bin .add 43) [(.x 123 []), (.x 127 [])] .one 
(.df .bnd [(.sl 68 0 64 64), (.x 108 [])] .one 
(.df (.relem 1 0) [(.cat [(.a [(.x 107 [0]), (.x 107 [1]), (.x 107 [2]), (.x 107 [3]), (.x 107 [4]), (.x 107 [5]), (.x 107 [6]), (.x 107 [7]), (.x 107 [8]), (.x 107 [9]), (.x 107 [10]), (.x 107 [11]), (.x 107 [12]), (.x 107 [13]), (.x 107 [14]), (.x 107 [15]), (.x 107 [16]), (.x 107 [17]), (.x 107 [18]), (.x 107 [19]), (.x 107 [20]), (.x 107 [21]), (.x 107 [22]), (.x 107 [23]), (.x 107 [24]), (.x 107 [25]), (.x 107 [26]), (.x 107 [27]), (.x 107 [28]), (.x 107 [29]), (.x 107 [30]), (.x 107 [31]), (.x 107 [32]), (.x 107 [33]), (.x 107 [34]), (.x 107 [35]), (.x 107 [36]), (.x 107 [37]), (.x 107 [38]), (.x 107 [39]), (.x 107 [40]), (.x 107 [41]), (.x 107 [42]), (.x 107 [43]), (.x 107 [44]), (.x 107 [45]), (.x 107 [46]), (.x 107 [47]), (.x 107 [48]), (.x 107 [49]), (.x 107 [50]), (.x 107 [51]), (.x 107 [52]), (.x 107 [53]), (.x 107 [54]), (.x 107 [55]), (.x 107 [56]), (.x 107 [57]), (.x 107 [58]), (.x 107 [59]), (.x 107 [60]), (.x 107 [61]), (.x 107 [62]), (.x 107 [63])])]), (.x 108 [])] .one 
(.df (.bin .add 43) [(.x 128 []), (.x 130 [])] .one 
(.df .bnd [(.sl 2 0 64 64), (.x 108 [])] .one 
(.df (.relem 1 0) [(.cat [(.a [(.x 42 []), (.x 43 []), (.x 44 []), (.x 45 []), (.x 46 []), (.x 47 []), (.x 48 []), (.x 49 []), (.x 50 []), (.x 51 []), (.x 52 []), (.x 53 []), (.x 54 []), (.x 55 []), (.x 56 []), (.x 57 []), (.x 58 []), (.x 59 []), (.x 60 []), (.x 61 []), (.x 62 []), (.x 63 []), (.x 64 []), (.x 65 []), (.x 66 []), (.x 67 []), (.x 68 []), (.x 69 []), (.x 70 []), (.x 71 []), (.x 72 []), (.x 73 []), (.x 74 []), (.x 75 []), (.x 76 []), (.x 77 []), (.x 78 []), (.x 79 []), (.x 80 []), (.x 81 []), (.x 82 []), (.x 83 []), (.x 84 []), (.x 85 []), (.x 86 []), (.x 87 []), (.x 88 []), (.x 89 []), (.x 90 []), (.x 91 []), (.x 92 []), (.x 93 []), (.x 94 []), (.x 95 []), (.x 96 []), (.x 97 []), (.x 98 []), (.x 99 []), (.x 100 []), (.x 101 []), (.x 102 []), (.x 103 []), (.x 104 []), (.x 105 [])])]), (.x 108 [])] .one 
(.df (.bin .add 43) [(.x 131 []), (.x 133 [])] .one 
(.df (.call 34 [.no, .no]) [(.x 109 []), (.k (.int .i64 2))] .one 
(.df (.call 34 [.no, .no]) [(.x 109 []), (.k (.int .i64 13))] .one 
(.df (.bin .xor 43) [(.x 135 []), (.x 136 [])] .one 
(.df (.call 34 [.no, .no]) [(.x 109 []), (.k (.int .i64 22))] .one 
(.df (.bin .xor 43) [(.x 137 []), (.x 138 [])] .one 
(.df (.bin .and 43) [(.x 109 []), (.x 110 [])] .one 
(.df (.bin .and 43) [(.x 109 []), (.x 111 [])] .one 
(.df (.bin .xor 43) [(.x 140 []), (.x 141 [])] .one 
(.df (.bin .and 43) [(.x 110 []), (.x 111 [])] .one 
(.df (.bin .xor 43) [(.x 142 []), (.x 143 [])] .one 
(.df (.bin .add 43) [(.x 139 []), (.x 144 [])] .one 
(.df (.bin .add 43) [(.x 112 []), (.x 134 [])] .one 
(.df (.bin .add 43) [(.x 134 []), (.x 145 [])] .one 
(.df (.bin .add 3) [(.x 108 []), (.k (.int .i64 1))] .one 
(.again 1 [(.x 148 []), (.x 147 []), (.x 109 []), (.x 110 []), (.x 111 []), (.x 146 []), (.x 113 []), (.x 114 []), (.x 115 [])])))))))))))))))))))))))))))))))) 
(.df (.bin .add 43) [(.x 0 []), (.x 109 [])] .one 
(.df (.bin .add 43) [(.x 1 []), (.x 110 [])] .one 
(.df (.bin .add 43) [(.x 2 []), (.x 111 [])] .one 
(.df (.bin .add 43) [(.x 3 []), (.x 112 [])] .one 
(.df (.bin .add 43) [(.x 4 []), (.x 113 [])] .one 
(.df (.bin .add 43) [(.x 5 []), (.x 114 [])] .one 
(.df (.bin .add 43) [(.x 6 []), (.x 115 [])] .one 
(.df (.bin .add 43) [(.x 7 []), (.x 116 [])] .one 
(.ret (.a [(.x 118 []), (.x 119 []), (.x 120 []), (.x 121 []), (.x 122 []), (.x 123 []), (.x 124 []), (.x 125 [])]) [] []))))))))))))))))))))))))))))))))))))))))))))))))
set_option maxRecDepth 100000 in
theorem run_rblock (K A : Value → Nat → List Value → Prop) : (SX.run (cxB K A) ⟨fun _ => false, [⟨29, 7, ([(.s 7, .one)] ++ (List.range 64).map fun j => (.c 12 j, .one))⟩, ⟨29, 7, ([(.s 7, .one)] ++ (List.range 64).map fun j => (.c 11 j, .one))⟩, ⟨29, 7, ([(.s 7, .one)] ++ (List.range 64).map fun j => (.c 10 j, .one))⟩, ⟨29, 7, ([(.s 7, .one)] ++ (List.range 64).map fun j => (.c 9 j, .one))⟩, ⟨29, 7, ([(.s 7, .one)] ++ (List.range 64).map fun j => (.c 8 j, .one))⟩, ⟨29, 7, ([(.s 7, .one)] ++ (List.range 64).map fun j => (.c 7 j, .one))⟩, ⟨29, 7, ([(.s 7, .one)] ++ (List.range 64).map fun j => (.c 6 j, .one))⟩, ⟨29, 7, ([(.s 7, .one)] ++ (List.range 64).map fun j => (.c 5 j, .one))⟩, ⟨29, 7, ([(.s 7, .one)] ++ (List.range 64).map fun j => (.c 4 j, .one))⟩, ⟨29, 7, ([(.s 7, .one)] ++ (List.range 64).map fun j => (.c 3 j, .one))⟩, ⟨29, 7, ([(.s 7, .one)] ++ (List.range 64).map fun j => (.c 2 j, .one))⟩, ⟨29, 7, ([(.s 7, .one)] ++ (List.range 64).map fun j => (.c 1 j, .one))⟩, ⟨29, 15, [(.s 19, .one), (.s 11, .one), (.s 12, .one), (.s 13, .one), (.s 14, .one), (.s 15, .one), (.s 16, .one), (.s 17, .one), (.s 18, .one)]⟩], 0, 100⟩ 100000 0 (SX.door 29 Tryd.f29 args_rblock (List.replicate 8 .one ++ [.any])) [.code (Tryd.f29.body.getD .skip), .top Tryd.f29]).strip = tree_rblock := by kernel_rfl
end Go.Proofs.YtockbjpldlopiaaDoor
