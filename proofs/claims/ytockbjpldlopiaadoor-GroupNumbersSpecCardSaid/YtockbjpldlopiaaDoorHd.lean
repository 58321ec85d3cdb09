/-
  law10's cards: numbers of 32 and 8 bits; turning, words; what absorb computes.
-/
import Derived.Test.YtockbjpldlopiaaDoorSz
namespace Go.Proofs.YtockbjpldlopiaaDoor
set_option linter.unusedSimpArgs false
set_option linter.unusedVariables false
open Go Go.RowKit
abbrev W32 := BitVec 32
abbrev W8 := BitVec 8
def w32 (x : W32) : Value := .int .u32 (x.toNat : Int)
def w8 (x : W8) : Value := .int .u8 (x.toNat : Int)
theorem wrap_u32 (n : Nat) : IntKind.u32.wrap (n : Int) = ((BitVec.ofNat 32 n).toNat : Int) := by
  simp [IntKind.wrap, IntKind.signed, IntKind.bits]
theorem wrap_u8 (n : Nat) : IntKind.u8.wrap (n : Int) = ((BitVec.ofNat 8 n).toNat : Int) := by
  simp [IntKind.wrap, IntKind.signed, IntKind.bits]
theorem w_add (x y : W32) : SX.binV .add (w32 x) (w32 y) = some (w32 (x + y)) := by
  simp only [SX.binV, binI, w32, if_true]
  rw [← Int.natCast_add, wrap_u32, BitVec.ofNat_add]
  simp
theorem w_and (x y : W32) : SX.binV .and (w32 x) (w32 y) = some (w32 (x &&& y)) := by
  have h : (BitVec.ofInt 32 (x.toNat : Int)) = x := by apply BitVec.eq_of_toNat_eq; simp
  have h' : (BitVec.ofInt 32 (y.toNat : Int)) = y := by apply BitVec.eq_of_toNat_eq; simp
  simp only [SX.binV, w32, if_true, IntKind.bits, h, h', wrap_u32, BitVec.ofNat_toNat, BitVec.setWidth_eq]
  rfl
theorem w_or (x y : W32) : SX.binV .or (w32 x) (w32 y) = some (w32 (x ||| y)) := by
  have h : (BitVec.ofInt 32 (x.toNat : Int)) = x := by apply BitVec.eq_of_toNat_eq; simp
  have h' : (BitVec.ofInt 32 (y.toNat : Int)) = y := by apply BitVec.eq_of_toNat_eq; simp
  simp only [SX.binV, w32, if_true, IntKind.bits, h, h', wrap_u32, BitVec.ofNat_toNat, BitVec.setWidth_eq]
  rfl
theorem w_xor (x y : W32) : SX.binV .xor (w32 x) (w32 y) = some (w32 (x ^^^ y)) := by
  have h : (BitVec.ofInt 32 (x.toNat : Int)) = x := by apply BitVec.eq_of_toNat_eq; simp
  have h' : (BitVec.ofInt 32 (y.toNat : Int)) = y := by apply BitVec.eq_of_toNat_eq; simp
  simp only [SX.binV, w32, if_true, IntKind.bits, h, h', wrap_u32, BitVec.ofNat_toNat, BitVec.setWidth_eq]
  rfl
theorem w_shl (x : W32) (k : IntKind) (n : Nat) (hn : n < 32) : SX.binV .shl (w32 x) (.int k (n : Int)) = some (w32 (x <<< n)) := by
  have h1 : ¬ ((n : Int) < 0) := by omega
  have h2 : min n 32 = n := by omega
  simp only [SX.binV, w32, h1, if_false, Int.toNat_natCast, IntKind.bits, h2]
  rw [show ((x.toNat : Int) * 2 ^ n) = ((x.toNat * 2 ^ n : Nat) : Int) by simp, wrap_u32]
  congr 2
  simp [BitVec.toNat_shiftLeft, Nat.shiftLeft_eq]
theorem w_shr (x : W32) (k : IntKind) (n : Nat) (hn : n < 32) : SX.binV .shr (w32 x) (.int k (n : Int)) = some (w32 (x >>> n)) := by
  have h1 : ¬ ((n : Int) < 0) := by omega
  have h2 : min n 32 = n := by omega
  simp only [SX.binV, w32, h1, if_false, Int.toNat_natCast, IntKind.bits, h2]
  rw [BitVec.toNat_ushiftRight, Nat.shiftRight_eq_div_pow]
  congr 2
  rw [show ((2 : Int) ^ n) = ((2 ^ n : Nat) : Int) by simp, Int.fdiv_eq_ediv_of_nonneg _ (Int.natCast_nonneg _)]
  exact (Int.natCast_ediv _ _).symm
theorem w_conv8 (b : W8) : SX.convV .u32 (w8 b) = some (w32 (b.setWidth 32)) := by
  simp [SX.convV, w8, w32, wrap_u32]
theorem w_to8 (n : Nat) (k : IntKind) : SX.convV .u8 (.int k (n : Int)) = some (w8 (BitVec.ofNat 8 n)) := by
  simp [SX.convV, w8, wrap_u8]
theorem w_one (x : W32) : (w32 x).oneCell' = true := rfl
/-- turned to the left -/
def rotL (x : W32) (n : Nat) : W32 := x <<< n ||| x >>> (32 - n)
noncomputable def cx0 (K A : Value → Nat → List Value → Prop) : SX.Cx := { P := Tryd.prog, R := fun _ _ _ _ => False, shp := fun _ => none, K := K, A := A }
theorem cx0_ok (K A : Value → Nat → List Value → Prop) : (cx0 K A).Ok := SX.Cx.ok_of (fun _ => rfl) fun _ f xs v W h => h.elim
def tree_rotl : SX.Tree :=
(.df (.conv .u64) [(.x 1 [])] .one 
(.df (.bin .and 35) [(.x 2 []), (.k (.int .u64 31))] .one 
(.df (.bin .shl 43) [(.x 0 []), (.x 3 [])] .one 
(.df (.bin .sub 35) [(.k (.int .u64 32)), (.x 3 [])] .one 
(.df (.bin .shr 43) [(.x 0 []), (.x 5 [])] .one 
(.df (.bin .or 43) [(.x 4 []), (.x 6 [])] .one 
(.ret (.x 7 []) [] [])))))))
def args_rotl : List SX.V := [.x 0 [], .x 1 []]
set_option maxRecDepth 100000 in
theorem run_rotl (K A : Value → Nat → List Value → Prop) : (SX.run (cx0 K A) ⟨fun _ => false, [], 0, 100⟩ 100000 0 (SX.door 31 Tryd.f31 args_rotl [.one, .one]) [.code (Tryd.f31.body.getD .skip), .top Tryd.f31]).strip = tree_rotl := by kernel_rfl
/-- the turns that are asked for -/
def turnOf (k : Int) : Nat := (k % 32).toNat
def turns : List Int := [-2, -6, -7, -11, -13, -17, -18, -19, -22, -25]
set_option maxRecDepth 100000 in
theorem rotl_any (x : W32) (k : Int) (hk : k ∈ turns) (w : World) : Calls Tryd.prog 31 #[w32 x, .int .i64 k] w fun e w' => e = .returned (w32 (rotL x (turnOf k))) ∧ Below w.heap.size w w' := by
  have hc : SX.convV .u64 (.int .i64 k) = some (.int .u64 (IntKind.u64.wrap k)) := rfl
  have ha : SX.binV .and (.int .u64 (IntKind.u64.wrap k)) (.int .u64 31) = some (.int .u64 (turnOf k : Nat)) := by
    simp only [turns, List.mem_cons, List.not_mem_nil, or_false] at hk
    rcases hk with rfl | rfl | rfl | rfl | rfl | rfl | rfl | rfl | rfl | rfl <;> kernel_rfl
  have hb : 0 < turnOf k ∧ turnOf k < 32 := by
    simp only [turns, List.mem_cons, List.not_mem_nil, or_false] at hk
    rcases hk with rfl | rfl | rfl | rfl | rfl | rfl | rfl | rfl | rfl | rfl <;> decide
  have hs : SX.binV .sub (.int .u64 32) (.int .u64 (turnOf k : Nat)) = some (.int .u64 ((32 - turnOf k : Nat) : Int)) := by
    simp only [SX.binV, binI, if_true]
    rw [wrap_u64 (by omega) (by omega)]
    congr 2
    omega
  refine SX.calls_of_run (C := cx0 (fun _ _ _ => False) (fun _ _ _ => False)) (G := ⟨fun _ => false, [], 0, 100⟩) (args := args_rotl) (sh := [.one, .one]) (ρ := [w32 x, .int .i64 k]) 100000 tree_rotl (cx0_ok _ _) Tryd.func31 rfl (run_rotl _ _) (by kernel_rfl) (by kernel_rfl) (by kernel_rfl) (fun W _ => SX.Kf_none (fun _ _ _ h => h) W) ?_
  unfold tree_rotl
  refine SX.VC_df (.int .u64 (IntKind.u64.wrap k)) (fun α => cast (by kernel_rfl) hc) (by kernel_rfl) ?_
  refine SX.VC_df (.int .u64 (turnOf k : Nat)) (fun α => cast (by kernel_rfl) ha) (by kernel_rfl) ?_
  refine SX.VC_df (w32 (x <<< turnOf k)) (fun α => cast (by kernel_rfl) (w_shl x .u64 (turnOf k) hb.2)) (by kernel_rfl) ?_
  refine SX.VC_df (.int .u64 ((32 - turnOf k : Nat) : Int)) (fun α => cast (by kernel_rfl) hs) (by kernel_rfl) ?_
  refine SX.VC_df (w32 (x >>> (32 - turnOf k))) (fun α => cast (by kernel_rfl) (w_shr x .u64 (32 - turnOf k) (by omega))) (by kernel_rfl) ?_
  refine SX.VC_df (w32 (rotL x (turnOf k))) (fun α => cast (by kernel_rfl) (w_or (x <<< turnOf k) (x >>> (32 - turnOf k)))) (by kernel_rfl) ?_
  exact SX.VC_ret fun α W _ _ hS => SX.ret_of hS (x := w32 (rotL x (turnOf k))) (by kernel_rfl) rfl
/-- what is known: turning -/
def RotR (f : FuncId) (xs : List SX.Arg) (v : Value) : Prop := f = 31 ∧ ∃ (x : W32) (k : Int), k ∈ turns ∧ xs = [⟨w32 x, 0, []⟩, ⟨.int .i64 k, 0, []⟩] ∧ v = w32 (rotL x (turnOf k))
noncomputable def cxR (K A : Value → Nat → List Value → Prop) : SX.Cx := { P := Tryd.prog, R := fun _ => RotR, shp := fun f => if f = 31 then some .one else none, K := K, A := A }
theorem cxR_ok (K A : Value → Nat → List Value → Prop) : (cxR K A).Ok := SX.Cx.ok_of (fun _ => rfl) fun _ f xs v W h hrd hK => by
  obtain ⟨rfl, x, k, hk, rfl, rfl⟩ := h
  exact (rotl_any x k hk W).mono fun e w' h => SX.plainOk rfl h
def tree_rotated : SX.Tree :=
(.df .neg [(.x 1 [])] .one 
(.df (.call 31 [.no, .no]) [(.x 0 []), (.x 4 [])] .one 
(.df .neg [(.x 2 [])] .one 
(.df (.call 31 [.no, .no]) [(.x 0 []), (.x 6 [])] .one 
(.df (.bin .xor 43) [(.x 5 []), (.x 7 [])] .one 
(.df .neg [(.x 3 [])] .one 
(.df (.call 31 [.no, .no]) [(.x 0 []), (.x 9 [])] .one 
(.df (.bin .xor 43) [(.x 8 []), (.x 10 [])] .one 
(.ret (.x 11 []) [] [])))))))))
def args_rotated : List SX.V := [.x 0 [], .x 1 [], .x 2 [], .x 3 []]
set_option maxRecDepth 100000 in
theorem run_rotated (K A : Value → Nat → List Value → Prop) : (SX.run (cxR K A) ⟨fun _ => false, [], 0, 100⟩ 100000 0 (SX.door 32 Tryd.f32 args_rotated [.one, .one, .one, .one]) [.code (Tryd.f32.body.getD .skip), .top Tryd.f32]).strip = tree_rotated := by kernel_rfl
set_option maxRecDepth 100000 in
theorem rotated_any (x : W32) (a b c : Int) (ha : -a ∈ turns) (hb : -b ∈ turns) (hc : -c ∈ turns) (w : World) : Calls Tryd.prog 32 #[w32 x, .int .i64 a, .int .i64 b, .int .i64 c] w fun e w' => e = .returned (w32 (rotL x (turnOf (-a)) ^^^ rotL x (turnOf (-b)) ^^^ rotL x (turnOf (-c)))) ∧ Below w.heap.size w w' := by
  have hn : ∀ a : Int, -a ∈ turns → SX.negV (.int .i64 a) = some (.int .i64 (-a)) := fun a h => by
    simp only [SX.negV]
    rw [wrap_i64]
    · revert h; generalize -a = b; intro h; simp only [turns, List.mem_cons, List.not_mem_nil, or_false] at h; omega
    · revert h; generalize -a = b; intro h; simp only [turns, List.mem_cons, List.not_mem_nil, or_false] at h; omega
  refine SX.calls_of_run (C := cxR (fun _ _ _ => False) (fun _ _ _ => False)) (G := ⟨fun _ => false, [], 0, 100⟩) (args := args_rotated) (sh := [.one, .one, .one, .one]) (ρ := [w32 x, .int .i64 a, .int .i64 b, .int .i64 c]) 100000 tree_rotated (cxR_ok _ _) Tryd.func32 rfl (run_rotated _ _) (by kernel_rfl) (by kernel_rfl) (by kernel_rfl) (fun W _ => SX.Kf_none (fun _ _ _ h => h) W) ?_
  unfold tree_rotated
  refine SX.VC_df (.int .i64 (-a)) (fun α => cast (by kernel_rfl) (hn a ha)) (by kernel_rfl) ?_
  refine SX.VC_df (w32 (rotL x (turnOf (-a)))) (fun α => ⟨[⟨w32 x, 0, []⟩, ⟨.int .i64 (-a), 0, []⟩], ⟨by kernel_rfl, by kernel_rfl, by kernel_rfl, by kernel_rfl, trivial⟩, ⟨rfl, x, -a, ha, rfl, rfl⟩, SX.noAli rfl⟩) (by kernel_rfl) ?_
  refine SX.VC_df (.int .i64 (-b)) (fun α => cast (by kernel_rfl) (hn b hb)) (by kernel_rfl) ?_
  refine SX.VC_df (w32 (rotL x (turnOf (-b)))) (fun α => ⟨[⟨w32 x, 0, []⟩, ⟨.int .i64 (-b), 0, []⟩], ⟨by kernel_rfl, by kernel_rfl, by kernel_rfl, by kernel_rfl, trivial⟩, ⟨rfl, x, -b, hb, rfl, rfl⟩, SX.noAli rfl⟩) (by kernel_rfl) ?_
  refine SX.VC_df (w32 (rotL x (turnOf (-a)) ^^^ rotL x (turnOf (-b)))) (fun α => cast (by kernel_rfl) (w_xor (rotL x (turnOf (-a))) (rotL x (turnOf (-b))))) (by kernel_rfl) ?_
  refine SX.VC_df (.int .i64 (-c)) (fun α => cast (by kernel_rfl) (hn c hc)) (by kernel_rfl) ?_
  refine SX.VC_df (w32 (rotL x (turnOf (-c)))) (fun α => ⟨[⟨w32 x, 0, []⟩, ⟨.int .i64 (-c), 0, []⟩], ⟨by kernel_rfl, by kernel_rfl, by kernel_rfl, by kernel_rfl, trivial⟩, ⟨rfl, x, -c, hc, rfl, rfl⟩, SX.noAli rfl⟩) (by kernel_rfl) ?_
  refine SX.VC_df (w32 (rotL x (turnOf (-a)) ^^^ rotL x (turnOf (-b)) ^^^ rotL x (turnOf (-c)))) (fun α => cast (by kernel_rfl) (w_xor (rotL x (turnOf (-a)) ^^^ rotL x (turnOf (-b))) (rotL x (turnOf (-c))))) (by kernel_rfl) ?_
  exact SX.VC_ret fun α W _ _ hS => SX.ret_of hS (x := w32 (rotL x (turnOf (-a)) ^^^ rotL x (turnOf (-b)) ^^^ rotL x (turnOf (-c)))) (by kernel_rfl) rfl
/-- bytes as cells -/
def c8 (b : W8) : List Value := [w8 b]
theorem c8_len (b : W8) : (c8 b).length = 1 := rfl
noncomputable def cxW (K A : Value → Nat → List Value → Prop) : SX.Cx := { cx0 K A with cut := [(3, 0, false), (8, 1, false), (14, 2, false), (20, 3, false), (26, 4, true)] }
theorem cxW_ok (K A : Value → Nat → List Value → Prop) : (cxW K A).Ok := SX.Cx.ok_of (fun _ => rfl) fun _ f xs v W h => h.elim
/-- the number that four bytes are -/
def wordOf (a b c d : W8) : W32 := (((0 ||| a.setWidth 32) <<< 8 ||| b.setWidth 32) <<< 8 ||| c.setWidth 32) <<< 8 ||| d.setWidth 32
def tree_word : SX.Tree :=
(.df (.slc false 1 false true false) [(.x 0 []), (.k (.int .i64 4))] .one 
(.df (.len false) [(.x 1 [])] .one 
(.df (.bin .lss 3) [(.k (.int .i64 0)), (.x 2 [])] .one 
(.br 3 [] 
(.df .bnd [(.x 1 []), (.k (.int .i64 0))] .one 
(.df (.elem 1 0) [(.x 1 []), (.k (.int .i64 0))] .one 
(.df (.conv .u32) [(.x 5 [])] .one 
(.df (.bin .or 43) [(.k (.int .u32 0)), (.x 6 [])] .one 
(.df (.bin .lss 3) [(.k (.int .i64 1)), (.x 2 [])] .one 
(.br 8 [] 
(.df .bnd [(.x 1 []), (.k (.int .i64 1))] .one 
(.df (.elem 1 0) [(.x 1 []), (.k (.int .i64 1))] .one 
(.df (.bin .shl 43) [(.x 7 []), (.k (.int .u64 8))] .one 
(.df (.conv .u32) [(.x 10 [])] .one 
(.df (.bin .or 43) [(.x 11 []), (.x 12 [])] .one 
(.df (.bin .lss 3) [(.k (.int .i64 2)), (.x 2 [])] .one 
(.br 14 [] 
(.df .bnd [(.x 1 []), (.k (.int .i64 2))] .one 
(.df (.elem 1 0) [(.x 1 []), (.k (.int .i64 2))] .one 
(.df (.bin .shl 43) [(.x 13 []), (.k (.int .u64 8))] .one 
(.df (.conv .u32) [(.x 16 [])] .one 
(.df (.bin .or 43) [(.x 17 []), (.x 18 [])] .one 
(.df (.bin .lss 3) [(.k (.int .i64 3)), (.x 2 [])] .one 
(.br 20 [] 
(.df .bnd [(.x 1 []), (.k (.int .i64 3))] .one 
(.df (.elem 1 0) [(.x 1 []), (.k (.int .i64 3))] .one 
(.df (.bin .shl 43) [(.x 19 []), (.k (.int .u64 8))] .one 
(.df (.conv .u32) [(.x 22 [])] .one 
(.df (.bin .or 43) [(.x 23 []), (.x 24 [])] .one 
(.df (.bin .lss 3) [(.k (.int .i64 4)), (.x 2 [])] .one 
(.br 26 [] (.bad 70 []) 
(.ret (.x 25 []) [] [])))))))) (.bad 70 [])))))))) (.bad 70 [])))))))) (.bad 70 []))))))) (.bad 70 [])))))
def args_word : List SX.V := [.x 0 []]
set_option maxRecDepth 100000 in
theorem run_word (K A : Value → Nat → List Value → Prop) : (SX.run (cxW K A) ⟨fun _ => false, [], 0, 100⟩ 100000 0 (SX.door 30 Tryd.f30 args_word [.any]) [.code (Tryd.f30.body.getD .skip), .top Tryd.f30]).strip = tree_word := by kernel_rfl
set_option maxRecDepth 100000 in
theorem word_any (l : List W8) (b0 b1 b2 b3 : W8) (hl : l.take 4 = [b0, b1, b2, b3]) (A : Option Addr) (n c : Nat) (w : World) (hr : Rd w 1 A n (l.flatMap c8)) (hn : n ≤ 9223372036854775807) (hc : n ≤ c) : Calls Tryd.prog 30 #[.slice A n c] w fun e w' => e = .returned (w32 (wordOf b0 b1 b2 b3)) ∧ Below w.heap.size w w' := by
  have hln : l.length = n := by have := hr.1; rw [SX.flat_len c8_len] at this; omega
  have h4 : 4 ≤ n := by
    have := congrArg List.length hl
    simp only [List.length_take, List.length_cons, List.length_nil] at this
    omega
  refine SX.calls_of_run (C := cxW (SX.SubK A n c 1 (l.flatMap c8)) (fun _ _ _ => False)) (G := ⟨fun _ => false, [], 0, 100⟩) (args := args_word) (sh := [.any]) (ρ := [.slice A n c]) 100000 tree_word (cxW_ok _ _) Tryd.func30 rfl (run_word _ _) (by kernel_rfl) (by kernel_rfl) (by kernel_rfl) (fun W hW s z xs h => SX.SubK.rd (hr.same0 hW) h) ?_
  have hA := SX.rd_some hr
  have hA' : 0 < 4 → (if c = 0 then A else A.map (·.add (0 * 1))).isSome = true := fun _ => by
    rw [if_neg (by omega)]
    have := hA (by omega)
    cases A with
    | none => cases this
    | some a => rfl
  have hK : SX.SubK A n c 1 (l.flatMap c8) (.slice (if c = 0 then A else A.map (·.add (0 * 1))) 4 c) 1 ([b0, b1, b2, b3].flatMap c8) := by
    have := SX.SubK.part c8_len (A := A) (n := n) (c := c) (L := l) (l := 0) (h := 4) (m := c) (by omega) h4 (by omega) (by omega)
    rw [show ((l.drop 0).take (4 - 0)) = [b0, b1, b2, b3] from hl] at this
    exact this
  unfold tree_word
  refine SX.VC_df (SX.subS A 1 0 4 c) (fun α => SX.slc_hi (n := n) (k := 4) (by kernel_rfl) (by kernel_rfl) (by omega)) (by kernel_rfl) ?_
  refine SX.VC_df (.int .i64 4) (by intro α; show _ = _; kernel_rfl) (by kernel_rfl) ?_
  refine SX.VC_df (.bool true) (by intro α; show _ = _; kernel_rfl) (by kernel_rfl) ?_
  refine SX.VC_br true (by kernel_rfl) (fun _ => ?_) (fun h => absurd h (by simp))
  refine SX.VC_df (.bool true) (fun α => SX.extBnd (A := if c = 0 then A else A.map (·.add (0 * 1))) (n := 4) (c := c) (j := 0) hA' (by kernel_rfl) (by kernel_rfl) (by omega)) (by kernel_rfl) ?_
  refine SX.VC_df (w8 b0) (fun α => SX.extElem (f := c8) (l := [b0, b1, b2, b3]) (A := if c = 0 then A else A.map (·.add (0 * 1))) (n := 4) (c := c) (j := 0) (z := b0) c8_len hA' (by kernel_rfl) (by kernel_rfl) (by omega) (cast (by kernel_rfl) hK) rfl (by omega) rfl) (by kernel_rfl) ?_
  refine SX.VC_df (w32 (b0.setWidth 32)) (fun α => cast (by kernel_rfl) (w_conv8 b0)) (by kernel_rfl) ?_
  refine SX.VC_df (w32 (0 ||| b0.setWidth 32 : W32)) (fun α => cast (by kernel_rfl) (w_or 0 (b0.setWidth 32))) (by kernel_rfl) ?_
  refine SX.VC_df (.bool true) (by intro α; show _ = _; kernel_rfl) (by kernel_rfl) ?_
  refine SX.VC_br true (by kernel_rfl) (fun _ => ?_) (fun h => absurd h (by simp))
  refine SX.VC_df (.bool true) (fun α => SX.extBnd (A := if c = 0 then A else A.map (·.add (0 * 1))) (n := 4) (c := c) (j := 1) hA' (by kernel_rfl) (by kernel_rfl) (by omega)) (by kernel_rfl) ?_
  refine SX.VC_df (w8 b1) (fun α => SX.extElem (f := c8) (l := [b0, b1, b2, b3]) (A := if c = 0 then A else A.map (·.add (0 * 1))) (n := 4) (c := c) (j := 1) (z := b1) c8_len hA' (by kernel_rfl) (by kernel_rfl) (by omega) (cast (by kernel_rfl) hK) rfl (by omega) rfl) (by kernel_rfl) ?_
  refine SX.VC_df (w32 ((0 ||| b0.setWidth 32 : W32) <<< 8)) (fun α => cast (by kernel_rfl) (w_shl (0 ||| b0.setWidth 32 : W32) .u64 8 (by omega))) (by kernel_rfl) ?_
  refine SX.VC_df (w32 (b1.setWidth 32)) (fun α => cast (by kernel_rfl) (w_conv8 b1)) (by kernel_rfl) ?_
  refine SX.VC_df (w32 ((0 ||| b0.setWidth 32 : W32) <<< 8 ||| b1.setWidth 32 : W32)) (fun α => cast (by kernel_rfl) (w_or ((0 ||| b0.setWidth 32 : W32) <<< 8) (b1.setWidth 32))) (by kernel_rfl) ?_
  refine SX.VC_df (.bool true) (by intro α; show _ = _; kernel_rfl) (by kernel_rfl) ?_
  refine SX.VC_br true (by kernel_rfl) (fun _ => ?_) (fun h => absurd h (by simp))
  refine SX.VC_df (.bool true) (fun α => SX.extBnd (A := if c = 0 then A else A.map (·.add (0 * 1))) (n := 4) (c := c) (j := 2) hA' (by kernel_rfl) (by kernel_rfl) (by omega)) (by kernel_rfl) ?_
  refine SX.VC_df (w8 b2) (fun α => SX.extElem (f := c8) (l := [b0, b1, b2, b3]) (A := if c = 0 then A else A.map (·.add (0 * 1))) (n := 4) (c := c) (j := 2) (z := b2) c8_len hA' (by kernel_rfl) (by kernel_rfl) (by omega) (cast (by kernel_rfl) hK) rfl (by omega) rfl) (by kernel_rfl) ?_
  refine SX.VC_df (w32 (((0 ||| b0.setWidth 32 : W32) <<< 8 ||| b1.setWidth 32 : W32) <<< 8)) (fun α => cast (by kernel_rfl) (w_shl ((0 ||| b0.setWidth 32 : W32) <<< 8 ||| b1.setWidth 32 : W32) .u64 8 (by omega))) (by kernel_rfl) ?_
  refine SX.VC_df (w32 (b2.setWidth 32)) (fun α => cast (by kernel_rfl) (w_conv8 b2)) (by kernel_rfl) ?_
  refine SX.VC_df (w32 (((0 ||| b0.setWidth 32 : W32) <<< 8 ||| b1.setWidth 32 : W32) <<< 8 ||| b2.setWidth 32 : W32)) (fun α => cast (by kernel_rfl) (w_or (((0 ||| b0.setWidth 32 : W32) <<< 8 ||| b1.setWidth 32 : W32) <<< 8) (b2.setWidth 32))) (by kernel_rfl) ?_
  refine SX.VC_df (.bool true) (by intro α; show _ = _; kernel_rfl) (by kernel_rfl) ?_
  refine SX.VC_br true (by kernel_rfl) (fun _ => ?_) (fun h => absurd h (by simp))
  refine SX.VC_df (.bool true) (fun α => SX.extBnd (A := if c = 0 then A else A.map (·.add (0 * 1))) (n := 4) (c := c) (j := 3) hA' (by kernel_rfl) (by kernel_rfl) (by omega)) (by kernel_rfl) ?_
  refine SX.VC_df (w8 b3) (fun α => SX.extElem (f := c8) (l := [b0, b1, b2, b3]) (A := if c = 0 then A else A.map (·.add (0 * 1))) (n := 4) (c := c) (j := 3) (z := b3) c8_len hA' (by kernel_rfl) (by kernel_rfl) (by omega) (cast (by kernel_rfl) hK) rfl (by omega) rfl) (by kernel_rfl) ?_
  refine SX.VC_df (w32 ((((0 ||| b0.setWidth 32 : W32) <<< 8 ||| b1.setWidth 32 : W32) <<< 8 ||| b2.setWidth 32 : W32) <<< 8)) (fun α => cast (by kernel_rfl) (w_shl (((0 ||| b0.setWidth 32 : W32) <<< 8 ||| b1.setWidth 32 : W32) <<< 8 ||| b2.setWidth 32 : W32) .u64 8 (by omega))) (by kernel_rfl) ?_
  refine SX.VC_df (w32 (b3.setWidth 32)) (fun α => cast (by kernel_rfl) (w_conv8 b3)) (by kernel_rfl) ?_
  refine SX.VC_df (w32 ((((0 ||| b0.setWidth 32 : W32) <<< 8 ||| b1.setWidth 32 : W32) <<< 8 ||| b2.setWidth 32 : W32) <<< 8 ||| b3.setWidth 32 : W32)) (fun α => cast (by kernel_rfl) (w_or ((((0 ||| b0.setWidth 32 : W32) <<< 8 ||| b1.setWidth 32 : W32) <<< 8 ||| b2.setWidth 32 : W32) <<< 8) (b3.setWidth 32))) (by kernel_rfl) ?_
  refine SX.VC_df (.bool false) (by intro α; show _ = _; kernel_rfl) (by kernel_rfl) ?_
  refine SX.VC_br false (by kernel_rfl) (fun h => absurd h (by simp)) (fun _ => ?_)
  exact SX.VC_ret fun α W _ _ hS => SX.ret_of hS (x := w32 (wordOf b0 b1 b2 b3)) (by kernel_rfl) rfl
/-- words as cells -/
def c32 (x : W32) : List Value := [w32 x]
theorem c32_len (x : W32) : (c32 x).length = 1 := rfl
theorem flat_c32 : ∀ l : List W32, l.flatMap c32 = l.map w32
  | [] => rfl
  | x :: l => by simp [c32, flat_c32 l]
def wordAt (l : List W8) (t : Nat) : W32 := wordOf (l.getD (4 * t) 0) (l.getD (4 * t + 1) 0) (l.getD (4 * t + 2) 0) (l.getD (4 * t + 3) 0)
theorem take4 (l : List W8) (h : 4 ≤ l.length) : l.take 4 = [l.getD 0 0, l.getD 1 0, l.getD 2 0, l.getD 3 0] := by
  match l, h with
  | a :: b :: c :: d :: l, _ => rfl
/-- the first 64 words -/
def ws0 (l : List W8) : List W32 := ((List.range 16).map fun t => wordAt l t) ++ List.replicate 48 0
theorem ws0_len (l : List W8) : (ws0 l).length = 64 := by simp [ws0]
def nextW (u : List W32) (t : Nat) : W32 := u.getD (t - 16) 0 + (rotL (u.getD (t - 15) 0) (turnOf (-7)) ^^^ rotL (u.getD (t - 15) 0) (turnOf (-18)) ^^^ u.getD (t - 15) 0 >>> 3) + u.getD (t - 7) 0 + (rotL (u.getD (t - 2) 0) (turnOf (-17)) ^^^ rotL (u.getD (t - 2) 0) (turnOf (-19)) ^^^ u.getD (t - 2) 0 >>> 10)
def expd (l : List W8) : Nat → List W32
  | 0 => ws0 l
  | k + 1 => (expd l k).set (16 + k) (nextW (expd l k) (16 + k))
theorem expd_len (l : List W8) : ∀ k, (expd l k).length = 64
  | 0 => ws0_len l
  | k + 1 => by simp [expd, expd_len l k]
structure S8 where
  a : W32
  b : W32
  c : W32
  d : W32
  e : W32
  f : W32
  g : W32
  h : W32
def S8.cells (s : S8) : List Value := [w32 s.a, w32 s.b, w32 s.c, w32 s.d, w32 s.e, w32 s.f, w32 s.g, w32 s.h]
def sig (x : W32) (a b c : Int) : W32 := rotL x (turnOf (-a)) ^^^ rotL x (turnOf (-b)) ^^^ rotL x (turnOf (-c))
def S8.p (s : S8) (k w : W32) : W32 := s.h + sig s.e 6 11 25 + (s.g ^^^ (s.e &&& (s.f ^^^ s.g))) + k + w
def S8.q (s : S8) : W32 := sig s.a 2 13 22 + ((s.a &&& s.b) ||| (s.c &&& (s.a ||| s.b)))
def S8.rnd (s : S8) (k w : W32) : S8 := ⟨s.p k w + s.q, s.a, s.b, s.c, s.d + s.p k w, s.e, s.f, s.g⟩
def numbersK : List W32 := [0x428a2f98, 0x71374491, 0xb5c0fbcf, 0xe9b5dba5, 0x3956c25b, 0x59f111f1, 0x923f82a4, 0xab1c5ed5, 0xd807aa98, 0x12835b01, 0x243185be, 0x550c7dc3, 0x72be5d74, 0x80deb1fe, 0x9bdc06a7, 0xc19bf174, 0xe49b69c1, 0xefbe4786, 0x0fc19dc6, 0x240ca1cc, 0x2de92c6f, 0x4a7484aa, 0x5cb0a9dc, 0x76f988da, 0x983e5152, 0xa831c66d, 0xb00327c8, 0xbf597fc7, 0xc6e00bf3, 0xd5a79147, 0x06ca6351, 0x14292967, 0x27b70a85, 0x2e1b2138, 0x4d2c6dfc, 0x53380d13, 0x650a7354, 0x766a0abb, 0x81c2c92e, 0x92722c85, 0xa2bfe8a1, 0xa81a664b, 0xc24b8b70, 0xc76c51a3, 0xd192e819, 0xd6990624, 0xf40e3585, 0x106aa070, 0x19a4c116, 0x1e376c08, 0x2748774c, 0x34b0bcb5, 0x391c0cb3, 0x4ed8aa4a, 0x5b9cca4f, 0x682e6ff3, 0x748f82ee, 0x78a5636f, 0x84c87814, 0x8cc70208, 0x90befffa, 0xa4506ceb, 0xbef9a3f7, 0xc67178f2]
def rnds (ws : List W32) (s : S8) : Nat → S8
  | 0 => s
  | k + 1 => (rnds ws s k).rnd (numbersK.getD k 0) (ws.getD k 0)
/-- the state after a block of 64 bytes -/
def absorbE (s : S8) (l : List W8) : S8 := let v := rnds (expd l 48) s 64; ⟨s.a + v.a, s.b + v.b, s.c + v.c, s.d + v.d, s.e + v.e, s.f + v.f, s.g + v.g, s.h + v.h⟩
section
variable {C : SX.Cx} {ρ : List Value} {α : Nat → SX.AV}
theorem relemW {c i : SX.V} {u : List W32} {k : Nat} (hc : SX.cellsV (c.den ρ α) = u.map w32) (hi : i.den ρ α = .int .i64 (k : Int)) (hk : k < u.length) : SX.Opq.rel C ρ α (.relem 1 0) [c, i] (w32 (u.getD k 0)) := by
  refine ⟨?_, ?_⟩
  · rw [hc, hi]
    refine ⟨by omega, ?_⟩
    simp only [List.length_map, Nat.div_one]
    omega
  · rw [hc, hi]
    simp [SX.idxOf, List.getD_eq_getElem?_getD, List.getElem?_eq_getElem hk]
theorem rsetW {c i x : SX.V} {u : List W32} {k : Nat} {y : W32} (hc : SX.cellsV (c.den ρ α) = u.map w32) (hi : i.den ρ α = .int .i64 (k : Int)) (hx : x.den ρ α = w32 y) (hk : k < u.length) : SX.Opq.rel C ρ α (.rset 1 0) [c, i, x] (.agg ((u.set k y).map w32).toArray) := by
  refine ⟨?_, by simp, ?_⟩
  · rw [hc, hi]
    refine ⟨by omega, ?_⟩
    simp only [List.length_map, Nat.div_one]
    omega
  · rw [hc, hi]
    simp only [SX.idxOf, Int.toNat_natCast, Nat.mul_one, Nat.add_zero, SX.denL, hx, List.length_cons, List.length_nil, Nat.zero_add]
    congr 2
    rw [List.map_set, List.set_eq_take_append_cons_drop, if_pos (by simpa using hk)]
    simp
theorem again_den {vals : List SX.V} {v0 : SX.V} {m N : Nat} {t : Value} {cs : List Value} (hv : vals = v0 :: (List.range N).map fun j => SX.V.x m [j]) (h0 : v0.den ρ α = t) (hm : ρ.getD m undef = .agg cs.toArray) (hl : cs.length = N) : SX.denL ρ α vals = t :: cs := by
  subst hv
  have := SX.xs_den (ρ := ρ) (α := α) (u := undef) (path := []) (m := m) (N := N) (cs := cs) (by rw [List.foldl_nil]; exact hm) hl
  simp only [List.nil_append] at this
  simp only [SX.denL, h0, this]
end
theorem VC_again2 {C : SX.Cx} {w0 : Org} {ps : List (World → Prop)} {T0 : List SX.TF} {R : Ending → World → Prop} {L : List (List Value → Prop)} {ρ : List Value} {l : Nat} {vals : List SX.V} {I : List Value → Prop} {μ : List Value → Nat} {m0 : Nat} (hL : L.getD l (fun _ => False) = fun ys => I ys ∧ μ ys < m0) (h : ∀ α, I (SX.denL ρ α vals)) (hm : ∀ α, μ (SX.denL ρ α vals) < m0) : SX.VC C w0 ps T0 R L ρ (.again l vals) :=
  SX.VC_again fun α => by rw [hL]; exact ⟨h α, hm α⟩
theorem fitW {n : Nat} (l : List W32) (h : l.length = n) : (SX.Sh.ag n).fit (.agg (l.map w32).toArray) = true := by
  simp only [SX.Sh.fit, List.length_map, h, beq_self_eq_true, Bool.true_and, List.all_eq_true]
  intro x hx
  obtain ⟨y, -, rfl⟩ := List.mem_map.1 hx
  rfl
theorem list64 (l : List W32) (h : l.length = 64) : ∃ g : Nat → W32, l = (List.range 64).map g := by
  refine ⟨fun j => l.getD j 0, ?_⟩
  apply List.ext_getElem
  · simp [h]
  · intro j h1 h2
    simp [List.getD_eq_getElem?_getD, h1]
end Go.Proofs.YtockbjpldlopiaaDoor
