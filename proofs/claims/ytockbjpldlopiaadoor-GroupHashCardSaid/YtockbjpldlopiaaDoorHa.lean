/-
  law10's cards: numbers of 32 and 8 bits.
-/
import Derived.Test.YtockbjpldlopiaaDoorSz
namespace Go.Proofs.YtockbjpldlopiaaDoor
set_option linter.unusedSimpArgs false
set_option linter.unusedVariables false
open Go Go.RowKit
abbrev W32 := BitVec 32
abbrev W8 := BitVec 8
def w32 (x : W32) : Value := .int .u32 (x.toNat : Int)
def w8 (x : W8) : Value := .int .u8 (x.toNat : Int)
theorem wrap_u32 (n : Nat) : IntKind.u32.wrap (n : Int) = ((BitVec.ofNat 32 n).toNat : Int) := by
  simp [IntKind.wrap, IntKind.signed, IntKind.bits]
theorem wrap_u8 (n : Nat) : IntKind.u8.wrap (n : Int) = ((BitVec.ofNat 8 n).toNat : Int) := by
  simp [IntKind.wrap, IntKind.signed, IntKind.bits]
theorem w_add (x y : W32) : SX.binV .add (w32 x) (w32 y) = some (w32 (x + y)) := by
  simp only [SX.binV, binI, w32, if_true]
  rw [← Int.natCast_add, wrap_u32, BitVec.ofNat_add]
  simp
theorem w_and (x y : W32) : SX.binV .and (w32 x) (w32 y) = some (w32 (x &&& y)) := by
  have h : (BitVec.ofInt 32 (x.toNat : Int)) = x := by apply BitVec.eq_of_toNat_eq; simp
  have h' : (BitVec.ofInt 32 (y.toNat : Int)) = y := by apply BitVec.eq_of_toNat_eq; simp
  simp only [SX.binV, w32, if_true, IntKind.bits, h, h', wrap_u32, BitVec.ofNat_toNat, BitVec.setWidth_eq]
  rfl
theorem w_or (x y : W32) : SX.binV .or (w32 x) (w32 y) = some (w32 (x ||| y)) := by
  have h : (BitVec.ofInt 32 (x.toNat : Int)) = x := by apply BitVec.eq_of_toNat_eq; simp
  have h' : (BitVec.ofInt 32 (y.toNat : Int)) = y := by apply BitVec.eq_of_toNat_eq; simp
  simp only [SX.binV, w32, if_true, IntKind.bits, h, h', wrap_u32, BitVec.ofNat_toNat, BitVec.setWidth_eq]
  rfl
theorem w_xor (x y : W32) : SX.binV .xor (w32 x) (w32 y) = some (w32 (x ^^^ y)) := by
  have h : (BitVec.ofInt 32 (x.toNat : Int)) = x := by apply BitVec.eq_of_toNat_eq; simp
  have h' : (BitVec.ofInt 32 (y.toNat : Int)) = y := by apply BitVec.eq_of_toNat_eq; simp
  simp only [SX.binV, w32, if_true, IntKind.bits, h, h', wrap_u32, BitVec.ofNat_toNat, BitVec.setWidth_eq]
  rfl
theorem w_shl (x : W32) (k : IntKind) (n : Nat) (hn : n < 32) : SX.binV .shl (w32 x) (.int k (n : Int)) = some (w32 (x <<< n)) := by
  have h1 : ¬ ((n : Int) < 0) := by omega
  have h2 : min n 32 = n := by omega
  simp only [SX.binV, w32, h1, if_false, Int.toNat_natCast, IntKind.bits, h2]
  rw [show ((x.toNat : Int) * 2 ^ n) = ((x.toNat * 2 ^ n : Nat) : Int) by simp, wrap_u32]
  congr 2
  simp [BitVec.toNat_shiftLeft, Nat.shiftLeft_eq]
theorem w_shr (x : W32) (k : IntKind) (n : Nat) (hn : n < 32) : SX.binV .shr (w32 x) (.int k (n : Int)) = some (w32 (x >>> n)) := by
  have h1 : ¬ ((n : Int) < 0) := by omega
  have h2 : min n 32 = n := by omega
  simp only [SX.binV, w32, h1, if_false, Int.toNat_natCast, IntKind.bits, h2]
  rw [BitVec.toNat_ushiftRight, Nat.shiftRight_eq_div_pow]
  congr 2
  rw [show ((2 : Int) ^ n) = ((2 ^ n : Nat) : Int) by simp, Int.fdiv_eq_ediv_of_nonneg _ (Int.natCast_nonneg _)]
  exact (Int.natCast_ediv _ _).symm
theorem w_conv8 (b : W8) : SX.convV .u32 (w8 b) = some (w32 (b.setWidth 32)) := by
  simp [SX.convV, w8, w32, wrap_u32]
theorem w_to8 (n : Nat) (k : IntKind) : SX.convV .u8 (.int k (n : Int)) = some (w8 (BitVec.ofNat 8 n)) := by
  simp [SX.convV, w8, wrap_u8]
theorem w_one (x : W32) : (w32 x).oneCell' = true := rfl
/-- turned to the left -/
def rotL (x : W32) (n : Nat) : W32 := x <<< n ||| x >>> (32 - n)
end Go.Proofs.YtockbjpldlopiaaDoor
