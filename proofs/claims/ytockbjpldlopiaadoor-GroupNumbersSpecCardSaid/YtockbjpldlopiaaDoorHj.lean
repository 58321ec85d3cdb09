/-
  law10's cards: Hash, and the law GroupHash.
-/
import Derived.Test.YtockbjpldlopiaaDoorHi
import Derived.Test.YtockbjpldlopiaaDoorGroupV6
namespace Go.Proofs.YtockbjpldlopiaaDoor
set_option linter.unusedSimpArgs false
set_option linter.unusedVariables false
open Go Go.RowKit
def TagR (K : Value → Nat → List Value → Prop) (f : FuncId) (xs : List SX.Arg) (v : Value) : Prop := f = 12 ∧ LaidK K ∧ ∃ (s : ByteArray) (u : Value) (l : List W8), xs = [⟨.string s, 0, []⟩, ⟨u, 1, l.flatMap c8⟩] ∧ s.size < 2 ^ 60 ∧ l.length < 2 ^ 44 ∧ v = .agg ((tagE (sb s) l).flatMap c8).toArray
theorem tagR_calls {K : Value → Nat → List Value → Prop} {f : FuncId} {xs : List SX.Arg} {v : Value} {W : World} (h : TagR K f xs v) (hrd : ∀ x ∈ xs, x.rd W) (hK : ∀ s sz cells, K s sz cells → SX.Arg.rd W ⟨s, sz, cells⟩) : Calls Tryd.prog f (xs.map SX.Arg.v).toArray W fun e w' => e = .returned v ∧ Below W.heap.size W w' := by
  obtain ⟨rfl, hL, s, u, l, rfl, h60, h44, rfl⟩ := h
  obtain ⟨A, n, c, rfl, hr, hc, hn⟩ := byte_arg (hrd ⟨u, 1, l.flatMap c8⟩ (by simp))
  exact tagged_any s l h60 h44 A n c W hr hc (laid_of hL hK)
/-- what remains of the first eight bytes without the highest bit -/
def hashN (d : List W8) : Nat := (((((((((d.getD 0 0).toNat % 128) * 256 + (d.getD 1 0).toNat) * 256 + (d.getD 2 0).toNat) * 256 + (d.getD 3 0).toNat) * 256 + (d.getD 4 0).toNat) * 256 + (d.getD 5 0).toNat) * 256 + (d.getD 6 0).toNat) * 256 + (d.getD 7 0).toNat) % 1073741789
theorem wrap_b64 (n : Nat) (h : n < 2 ^ 63) : IntKind.i64.wrap (n : Int) = (n : Int) := wrap_i64 (by omega) (by omega)
theorem or_nat (n d : Nat) (h : n * 256 + d < 2 ^ 63) (hd : d < 256) : SX.binV .or (.int .i64 ((n * 256 : Nat) : Int)) (.int .i64 (d : Int)) = some (.int .i64 ((n * 256 + d : Nat) : Int)) := by
  simp only [SX.binV, if_true]
  show some (Value.int .i64 (IntKind.i64.wrap ((BitVec.ofInt 64 ((n * 256 : Nat) : Int) ||| BitVec.ofInt 64 (d : Int) : BitVec 64).toNat : Int))) = _
  have e : ∀ m : Nat, (BitVec.ofInt 64 (m : Int)) = BitVec.ofNat 64 m := fun m => by apply BitVec.eq_of_toNat_eq; simp
  have m1 : n * 256 % 2 ^ 64 = n * 256 := by omega
  have m2 : d % 2 ^ 64 = d := by omega
  rw [e, e, BitVec.toNat_or, BitVec.toNat_ofNat, BitVec.toNat_ofNat, m1, m2]
  have e2 : n * 256 ||| d = n * 256 + d := by
    rw [show n * 256 = n <<< 8 by rw [Nat.shiftLeft_eq], Nat.shiftLeft_add_eq_or_of_lt (show d < 2 ^ 8 by omega)]
  rw [e2, wrap_b64 _ h]
theorem or_zero (d : Nat) (h : d < 2 ^ 63) : SX.binV .or (.int .i64 0) (.int .i64 (d : Int)) = some (.int .i64 (d : Int)) := by
  simp only [SX.binV, if_true]
  show some (Value.int .i64 (IntKind.i64.wrap ((BitVec.ofInt 64 0 ||| BitVec.ofInt 64 (d : Int) : BitVec 64).toNat : Int))) = _
  have e : (BitVec.ofInt 64 (d : Int)) = BitVec.ofNat 64 d := by apply BitVec.eq_of_toNat_eq; simp
  rw [e, show (BitVec.ofInt 64 0) = 0#64 from rfl, BitVec.zero_or, BitVec.toNat_ofNat, show d % 2 ^ 64 = d by omega, wrap_b64 _ h]
theorem shl8_nat (n : Nat) (h : n * 256 < 2 ^ 63) : SX.binV .shl (.int .i64 (n : Int)) (.int .u64 8) = some (.int .i64 ((n * 256 : Nat) : Int)) := by
  show some (Value.int .i64 (IntKind.i64.wrap ((n : Int) * 2 ^ 8))) = _
  rw [show ((n : Int) * 2 ^ 8) = ((n * 256 : Nat) : Int) by omega, wrap_b64 _ h]
theorem and127 (d : W8) : SX.binV .and (w8 d) (.int .u8 127) = some (w8 (BitVec.ofNat 8 (d.toNat % 128))) := by
  have h : (BitVec.ofInt 8 (d.toNat : Int)) = d := by apply BitVec.eq_of_toNat_eq; simp
  simp only [SX.binV, w8, if_true]
  show some (Value.int .u8 (IntKind.u8.wrap ((BitVec.ofInt 8 (d.toNat : Int) &&& BitVec.ofInt 8 127 : BitVec 8).toNat : Int))) = _
  rw [h, wrap_u8]
  have e : (d &&& BitVec.ofInt 8 127).toNat = d.toNat % 128 := by
    rw [BitVec.toNat_and, show (BitVec.ofInt 8 127).toNat = 2 ^ 7 - 1 from rfl, Nat.and_two_pow_sub_one_eq_mod]
  rw [e]
theorem conv_w8 (d : W8) : SX.convV .i64 (w8 d) = some (.int .i64 ((d.toNat : Nat) : Int)) := by
  simp only [SX.convV, w8]
  rw [wrap_b64 _ (by have := d.isLt; omega)]
theorem mul256 (n : Nat) (h : n * 256 < 2 ^ 63) : SX.binV .mul (.int .i64 (n : Int)) (.int .i64 256) = some (.int .i64 ((n * 256 : Nat) : Int)) := by
  simp only [SX.binV, binI, if_true]
  rw [show ((n : Int) * 256) = ((n * 256 : Nat) : Int) by omega, wrap_b64 _ h]
theorem remQ (a : Nat) : SX.binV .rem (.int .i64 (a : Int)) (.int .i64 1073741789) = some (.int .i64 ((a % 1073741789 : Nat) : Int)) := SX.rem_nat (b := 1073741789) (by omega)
theorem rem128 (a : Nat) : SX.binV .rem (.int .i64 (a : Int)) (.int .i64 128) = some (.int .i64 ((a % 128 : Nat) : Int)) := SX.rem_nat (b := 128) (by omega)
theorem ofNat128 (d : W8) : (BitVec.ofNat 8 (d.toNat % 128)).toNat = d.toNat % 128 := by
  rw [BitVec.toNat_ofNat]; omega
noncomputable def cxH (K A : Value → Nat → List Value → Prop) : SX.Cx := { P := Tryd.prog, R := TagR, shp := fun f => if f = 12 then some (.ag 32) else none, K := K, A := A, arr := true, trm := true }
theorem cxH_ok (K A : Value → Nat → List Value → Prop) : (cxH K A).Ok := SX.Cx.ok_of (fun _ => rfl) fun _ f xs v W h hrd hK => by
  have hf := h.1
  exact (tagR_calls h hrd hK).mono fun e w' h => SX.plainOk (by subst hf; rfl) h
def args_hash : List SX.V := [.x 0 [], .x 1 []]
def tree_hash : SX.Tree :=
(.df (.call 12 [.no, (.ext 1)]) [(.x 0 []), (.x 1 [])] (.ag 32) 
(.df (.bin .and 5) [(.x 2 [0]), (.k (.int .u8 127))] .one 
(.df (.conv .i64) [(.x 3 [])] .one 
(.df (.bin .or 3) [(.k (.int .i64 0)), (.x 4 [])] .one 
(.df (.bin .shl 3) [(.x 5 []), (.k (.int .u64 8))] .one 
(.df (.conv .i64) [(.x 2 [1])] .one 
(.df (.bin .or 3) [(.x 6 []), (.x 7 [])] .one 
(.df (.bin .shl 3) [(.x 8 []), (.k (.int .u64 8))] .one 
(.df (.conv .i64) [(.x 2 [2])] .one 
(.df (.bin .or 3) [(.x 9 []), (.x 10 [])] .one 
(.df (.bin .shl 3) [(.x 11 []), (.k (.int .u64 8))] .one 
(.df (.conv .i64) [(.x 2 [3])] .one 
(.df (.bin .or 3) [(.x 12 []), (.x 13 [])] .one 
(.df (.bin .shl 3) [(.x 14 []), (.k (.int .u64 8))] .one 
(.df (.conv .i64) [(.x 2 [4])] .one 
(.df (.bin .or 3) [(.x 15 []), (.x 16 [])] .one 
(.df (.bin .shl 3) [(.x 17 []), (.k (.int .u64 8))] .one 
(.df (.conv .i64) [(.x 2 [5])] .one 
(.df (.bin .or 3) [(.x 18 []), (.x 19 [])] .one 
(.df (.bin .shl 3) [(.x 20 []), (.k (.int .u64 8))] .one 
(.df (.conv .i64) [(.x 2 [6])] .one 
(.df (.bin .or 3) [(.x 21 []), (.x 22 [])] .one 
(.df (.bin .shl 3) [(.x 23 []), (.k (.int .u64 8))] .one 
(.df (.conv .i64) [(.x 2 [7])] .one 
(.df (.bin .or 3) [(.x 24 []), (.x 25 [])] .one 
(.df (.bin .rem 3) [(.x 26 []), (.k (.int .i64 1073741789))] .one 
(.ret (.x 27 []) [] [])))))))))))))))))))))))))))
set_option maxRecDepth 100000 in
theorem run_hash (K A : Value → Nat → List Value → Prop) : (SX.run (cxH K A) ⟨fun _ => true, [], 0, 100⟩ 100000 0 (SX.door 10 Tryd.f10 args_hash [.one, .one]) [.code (Tryd.f10.body.getD .skip), .top Tryd.f10]).strip = tree_hash := by kernel_rfl
set_option maxRecDepth 100000 in
set_option maxHeartbeats 4000000 in
theorem hash_any (s : ByteArray) (l : List W8) (hs : s.size < 2 ^ 60) (hl : l.length < 2 ^ 44) (A : Option Addr) (n c : Nat) (w : World) (hr : Rd w 1 A n (l.flatMap c8)) (hc : n ≤ c) (hlaid : Laid w) : Calls Tryd.prog 10 #[.string s, .slice A n c] w fun e w' => e = .returned (.int .i64 (hashN (tagE (sb s) l) : Int)) ∧ Below w.heap.size w w' := by
  refine SX.calls_of_run (C := cxH (KS A n c l) (KS A n c l)) (G := ⟨fun _ => true, [], 0, 100⟩) (args := args_hash) (sh := [.one, .one]) (ρ := [.string s, .slice A n c]) 100000 tree_hash (cxH_ok _ _) Tryd.func10 rfl (cast (by kernel_rfl) (run_hash (KS A n c l) (KS A n c l))) (by kernel_rfl) (by kernel_rfl) (by kernel_rfl) ?_ ?_
  · rintro W hW v z xs (⟨rfl, rfl, rfl⟩ | ⟨rfl, rfl, rfl⟩ | ⟨rfl, rfl, rfl⟩)
    · exact ⟨hr.same0 hW, hc⟩
    · exact ⟨hlaid.1.same0 hW, Nat.le_refl _⟩
    · exact ⟨hlaid.2.same0 hW, Nat.le_refl _⟩
  have hL : LaidK (KS A n c l) := ⟨.inr (.inl ⟨rfl, rfl, rfl⟩), .inr (.inr ⟨rfl, rfl, rfl⟩)⟩
  have hin : (KS A n c l) (.slice A n c) 1 (l.flatMap c8) := .inl ⟨rfl, rfl, rfl⟩
  unfold tree_hash
  obtain ⟨g, hg⟩ := listN (n := 32) (tagE (sb s) l) rfl
  refine SX.VC_df (.agg (((List.range 32).map g).flatMap c8).toArray) (fun α => by rw [← hg]; exact ⟨[⟨.string s, 0, []⟩, ⟨.slice A n c, 1, l.flatMap c8⟩], ⟨by kernel_rfl, by kernel_rfl, by kernel_rfl, by kernel_rfl, cast (by kernel_rfl) hin, trivial⟩, ⟨rfl, hL, s, _, l, rfl, hs, hl, rfl⟩, SX.noAli rfl⟩) (by kernel_rfl) ?_
  have l0 := (g 0).isLt
  have l1 := (g 1).isLt
  have l2 := (g 2).isLt
  have l3 := (g 3).isLt
  have l4 := (g 4).isLt
  have l5 := (g 5).isLt
  have l6 := (g 6).isLt
  have l7 := (g 7).isLt
  obtain ⟨n0, hn0⟩ : ∃ z, z = (g 0).toNat % 128 := ⟨_, rfl⟩
  obtain ⟨n1, hn1⟩ : ∃ z, z = n0 * 256 + (g 1).toNat := ⟨_, rfl⟩
  obtain ⟨n2, hn2⟩ : ∃ z, z = n1 * 256 + (g 2).toNat := ⟨_, rfl⟩
  obtain ⟨n3, hn3⟩ : ∃ z, z = n2 * 256 + (g 3).toNat := ⟨_, rfl⟩
  obtain ⟨n4, hn4⟩ : ∃ z, z = n3 * 256 + (g 4).toNat := ⟨_, rfl⟩
  obtain ⟨n5, hn5⟩ : ∃ z, z = n4 * 256 + (g 5).toNat := ⟨_, rfl⟩
  obtain ⟨n6, hn6⟩ : ∃ z, z = n5 * 256 + (g 6).toNat := ⟨_, rfl⟩
  obtain ⟨n7, hn7⟩ : ∃ z, z = n6 * 256 + (g 7).toNat := ⟨_, rfl⟩
  refine SX.VC_df (w8 (BitVec.ofNat 8 ((g 0).toNat % 128))) (fun α => cast (by kernel_rfl) (and127 (g 0))) (by kernel_rfl) ?_
  refine SX.VC_df (.int .i64 (n0 : Int)) (fun α => cast (by kernel_rfl) (show SX.convV .i64 (w8 (BitVec.ofNat 8 ((g 0).toNat % 128))) = some (.int .i64 (n0 : Int)) from by rw [conv_w8, ofNat128, hn0])) (by kernel_rfl) ?_
  refine SX.VC_df (.int .i64 (n0 : Int)) (fun α => cast (by kernel_rfl) (or_zero n0 (by omega))) (by kernel_rfl) ?_
  refine SX.VC_df (.int .i64 ((n0 * 256 : Nat) : Int)) (fun α => cast (by kernel_rfl) (shl8_nat n0 (by omega))) (by kernel_rfl) ?_
  refine SX.VC_df (.int .i64 ((g 1).toNat : Int)) (fun α => cast (by kernel_rfl) (conv_w8 (g 1))) (by kernel_rfl) ?_
  refine SX.VC_df (.int .i64 (n1 : Int)) (fun α => cast (by kernel_rfl) (show SX.binV .or (.int .i64 ((n0 * 256 : Nat) : Int)) (.int .i64 ((g 1).toNat : Int)) = some (.int .i64 (n1 : Int)) from by rw [or_nat n0 (g 1).toNat (by omega) (by omega), hn1])) (by kernel_rfl) ?_
  refine SX.VC_df (.int .i64 ((n1 * 256 : Nat) : Int)) (fun α => cast (by kernel_rfl) (shl8_nat n1 (by omega))) (by kernel_rfl) ?_
  refine SX.VC_df (.int .i64 ((g 2).toNat : Int)) (fun α => cast (by kernel_rfl) (conv_w8 (g 2))) (by kernel_rfl) ?_
  refine SX.VC_df (.int .i64 (n2 : Int)) (fun α => cast (by kernel_rfl) (show SX.binV .or (.int .i64 ((n1 * 256 : Nat) : Int)) (.int .i64 ((g 2).toNat : Int)) = some (.int .i64 (n2 : Int)) from by rw [or_nat n1 (g 2).toNat (by omega) (by omega), hn2])) (by kernel_rfl) ?_
  refine SX.VC_df (.int .i64 ((n2 * 256 : Nat) : Int)) (fun α => cast (by kernel_rfl) (shl8_nat n2 (by omega))) (by kernel_rfl) ?_
  refine SX.VC_df (.int .i64 ((g 3).toNat : Int)) (fun α => cast (by kernel_rfl) (conv_w8 (g 3))) (by kernel_rfl) ?_
  refine SX.VC_df (.int .i64 (n3 : Int)) (fun α => cast (by kernel_rfl) (show SX.binV .or (.int .i64 ((n2 * 256 : Nat) : Int)) (.int .i64 ((g 3).toNat : Int)) = some (.int .i64 (n3 : Int)) from by rw [or_nat n2 (g 3).toNat (by omega) (by omega), hn3])) (by kernel_rfl) ?_
  refine SX.VC_df (.int .i64 ((n3 * 256 : Nat) : Int)) (fun α => cast (by kernel_rfl) (shl8_nat n3 (by omega))) (by kernel_rfl) ?_
  refine SX.VC_df (.int .i64 ((g 4).toNat : Int)) (fun α => cast (by kernel_rfl) (conv_w8 (g 4))) (by kernel_rfl) ?_
  refine SX.VC_df (.int .i64 (n4 : Int)) (fun α => cast (by kernel_rfl) (show SX.binV .or (.int .i64 ((n3 * 256 : Nat) : Int)) (.int .i64 ((g 4).toNat : Int)) = some (.int .i64 (n4 : Int)) from by rw [or_nat n3 (g 4).toNat (by omega) (by omega), hn4])) (by kernel_rfl) ?_
  refine SX.VC_df (.int .i64 ((n4 * 256 : Nat) : Int)) (fun α => cast (by kernel_rfl) (shl8_nat n4 (by omega))) (by kernel_rfl) ?_
  refine SX.VC_df (.int .i64 ((g 5).toNat : Int)) (fun α => cast (by kernel_rfl) (conv_w8 (g 5))) (by kernel_rfl) ?_
  refine SX.VC_df (.int .i64 (n5 : Int)) (fun α => cast (by kernel_rfl) (show SX.binV .or (.int .i64 ((n4 * 256 : Nat) : Int)) (.int .i64 ((g 5).toNat : Int)) = some (.int .i64 (n5 : Int)) from by rw [or_nat n4 (g 5).toNat (by omega) (by omega), hn5])) (by kernel_rfl) ?_
  refine SX.VC_df (.int .i64 ((n5 * 256 : Nat) : Int)) (fun α => cast (by kernel_rfl) (shl8_nat n5 (by omega))) (by kernel_rfl) ?_
  refine SX.VC_df (.int .i64 ((g 6).toNat : Int)) (fun α => cast (by kernel_rfl) (conv_w8 (g 6))) (by kernel_rfl) ?_
  refine SX.VC_df (.int .i64 (n6 : Int)) (fun α => cast (by kernel_rfl) (show SX.binV .or (.int .i64 ((n5 * 256 : Nat) : Int)) (.int .i64 ((g 6).toNat : Int)) = some (.int .i64 (n6 : Int)) from by rw [or_nat n5 (g 6).toNat (by omega) (by omega), hn6])) (by kernel_rfl) ?_
  refine SX.VC_df (.int .i64 ((n6 * 256 : Nat) : Int)) (fun α => cast (by kernel_rfl) (shl8_nat n6 (by omega))) (by kernel_rfl) ?_
  refine SX.VC_df (.int .i64 ((g 7).toNat : Int)) (fun α => cast (by kernel_rfl) (conv_w8 (g 7))) (by kernel_rfl) ?_
  refine SX.VC_df (.int .i64 (n7 : Int)) (fun α => cast (by kernel_rfl) (show SX.binV .or (.int .i64 ((n6 * 256 : Nat) : Int)) (.int .i64 ((g 7).toNat : Int)) = some (.int .i64 (n7 : Int)) from by rw [or_nat n6 (g 7).toNat (by omega) (by omega), hn7])) (by kernel_rfl) ?_
  refine SX.VC_df (.int .i64 ((n7 % 1073741789 : Nat) : Int)) (fun α => cast (by kernel_rfl) (remQ n7)) (by kernel_rfl) ?_
  have hN : hashN (tagE (sb s) l) = n7 % 1073741789 := by rw [hg]; subst hn7 hn6 hn5 hn4 hn3 hn2 hn1 hn0; rfl
  exact SX.VC_ret fun α W _ _ hS => SX.ret_of (x := .int .i64 ((n7 % 1073741789 : Nat) : Int)) hS (by kernel_rfl) (by rw [hN])
def HashR (K : Value → Nat → List Value → Prop) (f : FuncId) (xs : List SX.Arg) (v : Value) : Prop := f = 10 ∧ LaidK K ∧ ∃ (s : ByteArray) (u : Value) (l : List W8), xs = [⟨.string s, 0, []⟩, ⟨u, 1, l.flatMap c8⟩] ∧ s.size < 2 ^ 60 ∧ l.length < 2 ^ 44 ∧ v = .int .i64 (hashN (tagE (sb s) l) : Int)
theorem hashR_calls {K : Value → Nat → List Value → Prop} {f : FuncId} {xs : List SX.Arg} {v : Value} {W : World} (h : HashR K f xs v) (hrd : ∀ x ∈ xs, x.rd W) (hK : ∀ s sz cells, K s sz cells → SX.Arg.rd W ⟨s, sz, cells⟩) : Calls Tryd.prog f (xs.map SX.Arg.v).toArray W fun e w' => e = .returned v ∧ Below W.heap.size W w' := by
  obtain ⟨rfl, hL, s, u, l, rfl, h60, h44, rfl⟩ := h
  obtain ⟨A, n, c, rfl, hr, hc, hn⟩ := byte_arg (hrd ⟨u, 1, l.flatMap c8⟩ (by simp))
  exact hash_any s l h60 h44 A n c W hr hc (laid_of hL hK)
def SaneR (f : FuncId) (xs : List SX.Arg) (v : Value) : Prop := f = 5 ∧ xs = [] ∧ v = .bool true
noncomputable def cxL (K A : Value → Nat → List Value → Prop) : SX.Cx := { P := Tryd.prog, R := fun K f xs v => TagR K f xs v ∨ HashR K f xs v ∨ SaneR f xs v, shp := fun f => if f = 12 then some (.ag 32) else if f ∈ [10, 5] then some .one else none, K := K, A := A, arr := true, trm := true }
theorem cxL_ok (K A : Value → Nat → List Value → Prop) : (cxL K A).Ok := SX.Cx.ok_of (fun _ => rfl) fun _ f xs v W h hrd hK => by
  rcases h with h | h | ⟨rfl, rfl, rfl⟩
  · have hf := h.1
    exact (tagR_calls h hrd hK).mono fun e w' h => SX.plainOk (by subst hf; rfl) h
  · have hf := h.1
    exact (hashR_calls h hrd hK).mono fun e w' h => SX.plainOk (by subst hf; rfl) h
  · exact (sane_any W).mono fun e w' h => SX.plainOk rfl h
def tree_lhash : SX.Tree :=
(.df (.call 5 []) [] .one 
(.df .not [(.x 2 [])] .one 
(.br 3 [] 
(.ret (.k (.bool false)) [] []) 
(.df (.len false) [(.x 1 [])] .one 
(.df (.bin .gtr 3) [(.x 4 []), (.k (.int .i64 2000))] .one 
(.br 5 [] 
(.ret (.k (.bool true)) [] []) 
(.df (.len true) [(.x 0 [])] .one 
(.df (.bin .gtr 3) [(.x 6 []), (.k (.int .i64 200))] .one 
(.br 7 [] 
(.ret (.k (.bool true)) [] []) 
(.df (.call 10 [.no, (.ext 1)]) [(.x 0 []), (.x 1 [])] .one 
(.df (.call 12 [.no, (.ext 1)]) [(.x 0 []), (.x 1 [])] (.ag 32) 
(.df (.conv .i64) [(.x 9 [0])] .one 
(.df (.bin .rem 3) [(.x 10 []), (.k (.int .i64 128))] .one 
(.df (.bin .add 3) [(.k (.int .i64 0)), (.x 11 [])] .one 
(.df (.bin .rem 3) [(.x 12 []), (.k (.int .i64 1073741789))] .one 
(.df (.conv .i64) [(.x 9 [1])] .one 
(.df (.bin .mul 3) [(.x 13 []), (.k (.int .i64 256))] .one 
(.df (.bin .add 3) [(.x 15 []), (.x 14 [])] .one 
(.df (.bin .rem 3) [(.x 16 []), (.k (.int .i64 1073741789))] .one 
(.df (.conv .i64) [(.x 9 [2])] .one 
(.df (.bin .mul 3) [(.x 17 []), (.k (.int .i64 256))] .one 
(.df (.bin .add 3) [(.x 19 []), (.x 18 [])] .one 
(.df (.bin .rem 3) [(.x 20 []), (.k (.int .i64 1073741789))] .one 
(.df (.conv .i64) [(.x 9 [3])] .one 
(.df (.bin .mul 3) [(.x 21 []), (.k (.int .i64 256))] .one 
(.df (.bin .add 3) [(.x 23 []), (.x 22 [])] .one 
(.df (.bin .rem 3) [(.x 24 []), (.k (.int .i64 1073741789))] .one 
(.df (.conv .i64) [(.x 9 [4])] .one 
(.df (.bin .mul 3) [(.x 25 []), (.k (.int .i64 256))] .one 
(.df (.bin .add 3) [(.x 27 []), (.x 26 [])] .one 
(.df (.bin .rem 3) [(.x 28 []), (.k (.int .i64 1073741789))] .one 
(.df (.conv .i64) [(.x 9 [5])] .one 
(.df (.bin .mul 3) [(.x 29 []), (.k (.int .i64 256))] .one 
(.df (.bin .add 3) [(.x 31 []), (.x 30 [])] .one 
(.df (.bin .rem 3) [(.x 32 []), (.k (.int .i64 1073741789))] .one 
(.df (.conv .i64) [(.x 9 [6])] .one 
(.df (.bin .mul 3) [(.x 33 []), (.k (.int .i64 256))] .one 
(.df (.bin .add 3) [(.x 35 []), (.x 34 [])] .one 
(.df (.bin .rem 3) [(.x 36 []), (.k (.int .i64 1073741789))] .one 
(.df (.conv .i64) [(.x 9 [7])] .one 
(.df (.bin .mul 3) [(.x 37 []), (.k (.int .i64 256))] .one 
(.df (.bin .add 3) [(.x 39 []), (.x 38 [])] .one 
(.df (.bin .rem 3) [(.x 40 []), (.k (.int .i64 1073741789))] .one 
(.df (.bin .eql 3) [(.x 8 []), (.x 41 [])] .one 
(.br 42 [] 
(.df (.bin .geq 3) [(.x 8 []), (.k (.int .i64 0))] .one 
(.br 43 [] 
(.df (.bin .lss 3) [(.x 8 []), (.k (.int .i64 1073741789))] .one 
(.ret (.x 44 []) [] [])) 
(.ret (.k (.bool false)) [] []))) 
(.ret (.k (.bool false)) [] []))))))))))))))))))))))))))))))))))))))))))))))
set_option maxRecDepth 100000 in
theorem run_lhash (K A : Value → Nat → List Value → Prop) : (SX.run (cxL K A) ⟨fun _ => false, [], 0, 100⟩ 100000 0 (SX.door 4 Tryd.f4 args_hash [.one, .one]) [.code (Tryd.f4.body.getD .skip), .top Tryd.f4]).strip = tree_lhash := by kernel_rfl
theorem modQ (m n k : Nat) : (m % 1073741789 * 256 + k) % 1073741789 = (m * 256 + k) % 1073741789 := by omega
set_option maxRecDepth 100000 in
set_option maxHeartbeats 4000000 in
theorem groupHash_walk (s : ByteArray) (A : Option Addr) (n c : Nat) (l : List W8) (w : World) (hr : Rd w 1 A n (l.flatMap c8)) (hc : n ≤ c) (hlaid : Laid w) : Calls Tryd.prog 4 #[.string s, .slice A n c] w fun e w' => e = .returned (.bool true) ∧ Below w.heap.size w w' := by
  have hln : l.length = n := by have := hr.1; rw [SX.flat_len c8_len] at this; omega
  refine SX.calls_of_run (C := cxL (KS A n c l) (KS A n c l)) (G := ⟨fun _ => false, [], 0, 100⟩) (args := args_hash) (sh := [.one, .one]) (ρ := [.string s, .slice A n c]) 100000 tree_lhash (cxL_ok _ _) Tryd.func4 rfl (cast (by kernel_rfl) (run_lhash (KS A n c l) (KS A n c l))) (by kernel_rfl) (by kernel_rfl) (by kernel_rfl) ?_ ?_
  · rintro W hW v z xs (⟨rfl, rfl, rfl⟩ | ⟨rfl, rfl, rfl⟩ | ⟨rfl, rfl, rfl⟩)
    · exact ⟨hr.same0 hW, hc⟩
    · exact ⟨hlaid.1.same0 hW, Nat.le_refl _⟩
    · exact ⟨hlaid.2.same0 hW, Nat.le_refl _⟩
  have hL : LaidK (KS A n c l) := ⟨.inr (.inl ⟨rfl, rfl, rfl⟩), .inr (.inr ⟨rfl, rfl, rfl⟩)⟩
  have hin : (KS A n c l) (.slice A n c) 1 (l.flatMap c8) := .inl ⟨rfl, rfl, rfl⟩
  unfold tree_lhash
  refine SX.VC_df (.bool true) (fun α => ⟨[], trivial, .inr (.inr ⟨rfl, rfl, rfl⟩), SX.noAli rfl⟩) (by kernel_rfl) ?_
  refine SX.VC_df (.bool false) (by intro α; show _ = _; kernel_rfl) (by kernel_rfl) ?_
  refine SX.VC_br false (by kernel_rfl) (fun h => absurd h (by simp)) (fun _ => ?_)
  refine SX.VC_df (.int .i64 (n : Int)) (by intro α; show _ = _; kernel_rfl) (by kernel_rfl) ?_
  refine SX.VC_df (.bool (decide (2000 < n))) (fun α => cast (by kernel_rfl) (gtr_nat n 2000)) (by kernel_rfl) ?_
  refine SX.VC_br (decide (2000 < n)) (by kernel_rfl) (fun h1 => ?_) (fun h1 => ?_)
  · exact SX.VC_ret fun α W _ _ hS => SX.ret_of (x := .bool true) hS (by kernel_rfl) rfl
  have h1 : ¬ 2000 < n := by simpa using h1
  refine SX.VC_df (.int .i64 (s.size : Int)) (by intro α; show _ = _; kernel_rfl) (by kernel_rfl) ?_
  refine SX.VC_df (.bool (decide (200 < s.size))) (fun α => cast (by kernel_rfl) (gtr_nat s.size 200)) (by kernel_rfl) ?_
  refine SX.VC_br (decide (200 < s.size)) (by kernel_rfl) (fun h2 => ?_) (fun h2 => ?_)
  · exact SX.VC_ret fun α W _ _ hS => SX.ret_of (x := .bool true) hS (by kernel_rfl) rfl
  have h2 : ¬ 200 < s.size := by simpa using h2
  obtain ⟨g, hg⟩ := listN (n := 32) (tagE (sb s) l) rfl
  have l0 := (g 0).isLt
  have l1 := (g 1).isLt
  have l2 := (g 2).isLt
  have l3 := (g 3).isLt
  have l4 := (g 4).isLt
  have l5 := (g 5).isLt
  have l6 := (g 6).isLt
  have l7 := (g 7).isLt
  obtain ⟨n0, hn0⟩ : ∃ z, z = (g 0).toNat % 128 := ⟨_, rfl⟩
  obtain ⟨n1, hn1⟩ : ∃ z, z = n0 * 256 + (g 1).toNat := ⟨_, rfl⟩
  obtain ⟨n2, hn2⟩ : ∃ z, z = n1 * 256 + (g 2).toNat := ⟨_, rfl⟩
  obtain ⟨n3, hn3⟩ : ∃ z, z = n2 * 256 + (g 3).toNat := ⟨_, rfl⟩
  obtain ⟨n4, hn4⟩ : ∃ z, z = n3 * 256 + (g 4).toNat := ⟨_, rfl⟩
  obtain ⟨n5, hn5⟩ : ∃ z, z = n4 * 256 + (g 5).toNat := ⟨_, rfl⟩
  obtain ⟨n6, hn6⟩ : ∃ z, z = n5 * 256 + (g 6).toNat := ⟨_, rfl⟩
  obtain ⟨n7, hn7⟩ : ∃ z, z = n6 * 256 + (g 7).toNat := ⟨_, rfl⟩
  have hN : hashN (tagE (sb s) l) = n7 % 1073741789 := by rw [hg]; subst hn7 hn6 hn5 hn4 hn3 hn2 hn1 hn0; rfl
  refine SX.VC_df (.int .i64 ((n7 % 1073741789 : Nat) : Int)) (fun α => by rw [← hN]; exact ⟨[⟨.string s, 0, []⟩, ⟨.slice A n c, 1, l.flatMap c8⟩], ⟨by kernel_rfl, by kernel_rfl, by kernel_rfl, by kernel_rfl, cast (by kernel_rfl) hin, trivial⟩, .inr (.inl ⟨rfl, hL, s, _, l, rfl, by omega, by omega, rfl⟩), SX.noAli rfl⟩) (by kernel_rfl) ?_
  refine SX.VC_df (.agg (((List.range 32).map g).flatMap c8).toArray) (fun α => by rw [← hg]; exact ⟨[⟨.string s, 0, []⟩, ⟨.slice A n c, 1, l.flatMap c8⟩], ⟨by kernel_rfl, by kernel_rfl, by kernel_rfl, by kernel_rfl, cast (by kernel_rfl) hin, trivial⟩, .inl ⟨rfl, hL, s, _, l, rfl, by omega, by omega, rfl⟩, SX.noAli rfl⟩) (by kernel_rfl) ?_
  refine SX.VC_df (.int .i64 ((g 0).toNat : Int)) (fun α => cast (by kernel_rfl) (conv_w8 (g 0))) (by kernel_rfl) ?_
  refine SX.VC_df (.int .i64 (n0 : Int)) (fun α => cast (by kernel_rfl) (show SX.binV .rem (.int .i64 ((g 0).toNat : Int)) (.int .i64 128) = some (.int .i64 (n0 : Int)) from by rw [rem128, hn0])) (by kernel_rfl) ?_
  refine SX.VC_df (.int .i64 (n0 : Int)) (fun α => cast (by kernel_rfl) (i_add' (a := 0) (b := n0) (d := n0) (by omega) (by omega))) (by kernel_rfl) ?_
  refine SX.VC_df (.int .i64 ((n0 % 1073741789 : Nat) : Int)) (fun α => cast (by kernel_rfl) (remQ n0)) (by kernel_rfl) ?_
  refine SX.VC_df (.int .i64 ((g 1).toNat : Int)) (fun α => cast (by kernel_rfl) (conv_w8 (g 1))) (by kernel_rfl) ?_
  refine SX.VC_df (.int .i64 ((n0 % 1073741789 * 256 : Nat) : Int)) (fun α => cast (by kernel_rfl) (mul256 (n0 % 1073741789) (by omega))) (by kernel_rfl) ?_
  refine SX.VC_df (.int .i64 ((n0 % 1073741789 * 256 + (g 1).toNat : Nat) : Int)) (fun α => cast (by kernel_rfl) (i_add' (a := n0 % 1073741789 * 256) (b := (g 1).toNat) (d := n0 % 1073741789 * 256 + (g 1).toNat) rfl (by omega))) (by kernel_rfl) ?_
  refine SX.VC_df (.int .i64 ((n1 % 1073741789 : Nat) : Int)) (fun α => cast (by kernel_rfl) (show SX.binV .rem (.int .i64 ((n0 % 1073741789 * 256 + (g 1).toNat : Nat) : Int)) (.int .i64 1073741789) = some (.int .i64 ((n1 % 1073741789 : Nat) : Int)) from by rw [remQ, modQ _ 0, hn1])) (by kernel_rfl) ?_
  refine SX.VC_df (.int .i64 ((g 2).toNat : Int)) (fun α => cast (by kernel_rfl) (conv_w8 (g 2))) (by kernel_rfl) ?_
  refine SX.VC_df (.int .i64 ((n1 % 1073741789 * 256 : Nat) : Int)) (fun α => cast (by kernel_rfl) (mul256 (n1 % 1073741789) (by omega))) (by kernel_rfl) ?_
  refine SX.VC_df (.int .i64 ((n1 % 1073741789 * 256 + (g 2).toNat : Nat) : Int)) (fun α => cast (by kernel_rfl) (i_add' (a := n1 % 1073741789 * 256) (b := (g 2).toNat) (d := n1 % 1073741789 * 256 + (g 2).toNat) rfl (by omega))) (by kernel_rfl) ?_
  refine SX.VC_df (.int .i64 ((n2 % 1073741789 : Nat) : Int)) (fun α => cast (by kernel_rfl) (show SX.binV .rem (.int .i64 ((n1 % 1073741789 * 256 + (g 2).toNat : Nat) : Int)) (.int .i64 1073741789) = some (.int .i64 ((n2 % 1073741789 : Nat) : Int)) from by rw [remQ, modQ _ 0, hn2])) (by kernel_rfl) ?_
  refine SX.VC_df (.int .i64 ((g 3).toNat : Int)) (fun α => cast (by kernel_rfl) (conv_w8 (g 3))) (by kernel_rfl) ?_
  refine SX.VC_df (.int .i64 ((n2 % 1073741789 * 256 : Nat) : Int)) (fun α => cast (by kernel_rfl) (mul256 (n2 % 1073741789) (by omega))) (by kernel_rfl) ?_
  refine SX.VC_df (.int .i64 ((n2 % 1073741789 * 256 + (g 3).toNat : Nat) : Int)) (fun α => cast (by kernel_rfl) (i_add' (a := n2 % 1073741789 * 256) (b := (g 3).toNat) (d := n2 % 1073741789 * 256 + (g 3).toNat) rfl (by omega))) (by kernel_rfl) ?_
  refine SX.VC_df (.int .i64 ((n3 % 1073741789 : Nat) : Int)) (fun α => cast (by kernel_rfl) (show SX.binV .rem (.int .i64 ((n2 % 1073741789 * 256 + (g 3).toNat : Nat) : Int)) (.int .i64 1073741789) = some (.int .i64 ((n3 % 1073741789 : Nat) : Int)) from by rw [remQ, modQ _ 0, hn3])) (by kernel_rfl) ?_
  refine SX.VC_df (.int .i64 ((g 4).toNat : Int)) (fun α => cast (by kernel_rfl) (conv_w8 (g 4))) (by kernel_rfl) ?_
  refine SX.VC_df (.int .i64 ((n3 % 1073741789 * 256 : Nat) : Int)) (fun α => cast (by kernel_rfl) (mul256 (n3 % 1073741789) (by omega))) (by kernel_rfl) ?_
  refine SX.VC_df (.int .i64 ((n3 % 1073741789 * 256 + (g 4).toNat : Nat) : Int)) (fun α => cast (by kernel_rfl) (i_add' (a := n3 % 1073741789 * 256) (b := (g 4).toNat) (d := n3 % 1073741789 * 256 + (g 4).toNat) rfl (by omega))) (by kernel_rfl) ?_
  refine SX.VC_df (.int .i64 ((n4 % 1073741789 : Nat) : Int)) (fun α => cast (by kernel_rfl) (show SX.binV .rem (.int .i64 ((n3 % 1073741789 * 256 + (g 4).toNat : Nat) : Int)) (.int .i64 1073741789) = some (.int .i64 ((n4 % 1073741789 : Nat) : Int)) from by rw [remQ, modQ _ 0, hn4])) (by kernel_rfl) ?_
  refine SX.VC_df (.int .i64 ((g 5).toNat : Int)) (fun α => cast (by kernel_rfl) (conv_w8 (g 5))) (by kernel_rfl) ?_
  refine SX.VC_df (.int .i64 ((n4 % 1073741789 * 256 : Nat) : Int)) (fun α => cast (by kernel_rfl) (mul256 (n4 % 1073741789) (by omega))) (by kernel_rfl) ?_
  refine SX.VC_df (.int .i64 ((n4 % 1073741789 * 256 + (g 5).toNat : Nat) : Int)) (fun α => cast (by kernel_rfl) (i_add' (a := n4 % 1073741789 * 256) (b := (g 5).toNat) (d := n4 % 1073741789 * 256 + (g 5).toNat) rfl (by omega))) (by kernel_rfl) ?_
  refine SX.VC_df (.int .i64 ((n5 % 1073741789 : Nat) : Int)) (fun α => cast (by kernel_rfl) (show SX.binV .rem (.int .i64 ((n4 % 1073741789 * 256 + (g 5).toNat : Nat) : Int)) (.int .i64 1073741789) = some (.int .i64 ((n5 % 1073741789 : Nat) : Int)) from by rw [remQ, modQ _ 0, hn5])) (by kernel_rfl) ?_
  refine SX.VC_df (.int .i64 ((g 6).toNat : Int)) (fun α => cast (by kernel_rfl) (conv_w8 (g 6))) (by kernel_rfl) ?_
  refine SX.VC_df (.int .i64 ((n5 % 1073741789 * 256 : Nat) : Int)) (fun α => cast (by kernel_rfl) (mul256 (n5 % 1073741789) (by omega))) (by kernel_rfl) ?_
  refine SX.VC_df (.int .i64 ((n5 % 1073741789 * 256 + (g 6).toNat : Nat) : Int)) (fun α => cast (by kernel_rfl) (i_add' (a := n5 % 1073741789 * 256) (b := (g 6).toNat) (d := n5 % 1073741789 * 256 + (g 6).toNat) rfl (by omega))) (by kernel_rfl) ?_
  refine SX.VC_df (.int .i64 ((n6 % 1073741789 : Nat) : Int)) (fun α => cast (by kernel_rfl) (show SX.binV .rem (.int .i64 ((n5 % 1073741789 * 256 + (g 6).toNat : Nat) : Int)) (.int .i64 1073741789) = some (.int .i64 ((n6 % 1073741789 : Nat) : Int)) from by rw [remQ, modQ _ 0, hn6])) (by kernel_rfl) ?_
  refine SX.VC_df (.int .i64 ((g 7).toNat : Int)) (fun α => cast (by kernel_rfl) (conv_w8 (g 7))) (by kernel_rfl) ?_
  refine SX.VC_df (.int .i64 ((n6 % 1073741789 * 256 : Nat) : Int)) (fun α => cast (by kernel_rfl) (mul256 (n6 % 1073741789) (by omega))) (by kernel_rfl) ?_
  refine SX.VC_df (.int .i64 ((n6 % 1073741789 * 256 + (g 7).toNat : Nat) : Int)) (fun α => cast (by kernel_rfl) (i_add' (a := n6 % 1073741789 * 256) (b := (g 7).toNat) (d := n6 % 1073741789 * 256 + (g 7).toNat) rfl (by omega))) (by kernel_rfl) ?_
  refine SX.VC_df (.int .i64 ((n7 % 1073741789 : Nat) : Int)) (fun α => cast (by kernel_rfl) (show SX.binV .rem (.int .i64 ((n6 % 1073741789 * 256 + (g 7).toNat : Nat) : Int)) (.int .i64 1073741789) = some (.int .i64 ((n7 % 1073741789 : Nat) : Int)) from by rw [remQ, modQ _ 0, hn7])) (by kernel_rfl) ?_
  refine SX.VC_df (.bool true) (fun α => cast (by kernel_rfl) (show SX.binV .eql (.int .i64 ((n7 % 1073741789 : Nat) : Int)) (.int .i64 ((n7 % 1073741789 : Nat) : Int)) = some (.bool true) from by simp [SX.binV, binI])) (by kernel_rfl) ?_
  refine SX.VC_br true (by kernel_rfl) (fun _ => ?_) (fun h => absurd h (by simp))
  refine SX.VC_df (.bool true) (fun α => cast (by kernel_rfl) (show SX.binV .geq (.int .i64 ((n7 % 1073741789 : Nat) : Int)) (.int .i64 ((0 : Nat) : Int)) = some (.bool true) from by rw [geq_nat, decide_eq_true (by omega)])) (by kernel_rfl) ?_
  refine SX.VC_br true (by kernel_rfl) (fun _ => ?_) (fun h => absurd h (by simp))
  refine SX.VC_df (.bool true) (fun α => cast (by kernel_rfl) (show SX.binV .lss (.int .i64 ((n7 % 1073741789 : Nat) : Int)) (.int .i64 ((1073741789 : Nat) : Int)) = some (.bool true) from by rw [lss_nat, decide_eq_true (by omega)])) (by kernel_rfl) ?_
  exact SX.VC_ret fun α W _ _ hS => SX.ret_of (x := .bool true) hS (by kernel_rfl) rfl
end Go.Proofs.YtockbjpldlopiaaDoor
