/-
  law10's cards: Sum.
-/
import Derived.Test.YtockbjpldlopiaaDoorHf
namespace Go.Proofs.YtockbjpldlopiaaDoor
set_option linter.unusedSimpArgs false
set_option linter.unusedVariables false
open Go Go.RowKit
def startS : S8 := ⟨0x6a09e667, 0xbb67ae85, 0x3c6ef372, 0xa54ff53a, 0x510e527f, 0x9b05688c, 0x1f83d9ab, 0x5be0cd19⟩
def absAll (s : S8) (l : List W8) : S8 × List W8 := if 64 ≤ l.length then absAll (absorbE s (l.take 64)) (l.drop 64) else (s, l)
termination_by l.length
decreasing_by simp only [List.length_drop]; omega
theorem absAll_ge {s : S8} {l : List W8} (h : 64 ≤ l.length) : absAll s l = absAll (absorbE s (l.take 64)) (l.drop 64) := by rw [absAll, if_pos h]
theorem absAll_lt {s : S8} {l : List W8} (h : ¬ 64 ≤ l.length) : absAll s l = (s, l) := by rw [absAll, if_neg h]
def byteAt (n k : Nat) : W8 := BitVec.ofNat 8 (n / 2 ^ k)
def be64 (n : Nat) : List W8 := [byteAt n 56, byteAt n 48, byteAt n 40, byteAt n 32, byteAt n 24, byteAt n 16, byteAt n 8, byteAt n 0]
def be32 (x : W32) : List W8 := [byteAt x.toNat 24, byteAt x.toNat 16, byteAt x.toNat 8, byteAt x.toNat 0]
/-- what is left, the mark behind it, zeros up to 64 -/
def marked (r : List W8) : List W8 := (r ++ List.replicate (64 - r.length) 0).set r.length 128
def outS (s : S8) : List W8 := be32 s.a ++ be32 s.b ++ be32 s.c ++ be32 s.d ++ be32 s.e ++ be32 s.f ++ be32 s.g ++ be32 s.h
/-- the last block or blocks -/
def endS (s : S8) (r : List W8) (n : Nat) : S8 :=
  if 55 < r.length then absorbE (absorbE s (marked r)) (List.replicate 56 0 ++ be64 (8 * n)) else absorbE s ((marked r).take 56 ++ be64 (8 * n))
def sumE (l : List W8) : List W8 := outS (endS (absAll startS l).1 (absAll startS l).2 l.length)
theorem sumE_len (l : List W8) : (sumE l).length = 32 := rfl
theorem list64b (l : List W8) (h : l.length = 64) : ∃ g : Nat → W8, l = (List.range 64).map g := by
  refine ⟨fun j => l.getD j 0, ?_⟩
  apply List.ext_getElem
  · simp [h]
  · intro j h1 h2
    simp [List.getD_eq_getElem?_getD, h1]
theorem flat_c8 : ∀ l : List W8, l.flatMap c8 = l.map w8
  | [] => rfl
  | x :: l => by simp [c8, flat_c8 l]
theorem u_shr (N k : Nat) (hk : k < 64) : SX.binV .shr (.int .u64 (N : Int)) (.int .i64 (k : Int)) = some (.int .u64 ((N / 2 ^ k : Nat) : Int)) := by
  have h1 : ¬ ((k : Int) < 0) := by omega
  have h2 : min k 64 = k := by omega
  simp only [SX.binV, h1, if_false, Int.toNat_natCast, IntKind.bits, h2]
  congr 2
  rw [show ((2 : Int) ^ k) = ((2 ^ k : Nat) : Int) by simp, Int.fdiv_eq_ediv_of_nonneg _ (Int.natCast_nonneg _)]
  exact (Int.natCast_ediv _ _).symm
theorem u_conv (n : Nat) (k : IntKind) (h : n < 2 ^ 60) : SX.convV .u64 (.int k (n : Int)) = some (.int .u64 (n : Int)) := by
  simp only [SX.convV]
  rw [wrap_u64 (by omega) (by omega)]
theorem u_conv32 (x : W32) : SX.convV .u64 (w32 x) = some (.int .u64 (x.toNat : Int)) := u_conv _ _ (by have := x.isLt; omega)
theorem u_mul8 (n : Nat) (h : n < 2 ^ 60) : SX.binV .mul (.int .u64 (n : Int)) (.int .u64 8) = some (.int .u64 ((8 * n : Nat) : Int)) := by
  simp only [SX.binV, binI, if_true]
  rw [wrap_u64 (by omega) (by omega)]
  congr 2
  omega
theorem w_byte (N k : Nat) : SX.convV .u8 (.int .u64 ((N / 2 ^ k : Nat) : Int)) = some (w8 (byteAt N k)) := w_to8 _ _
theorem geq_nat (a b : Nat) : SX.binV .geq (.int .i64 (a : Int)) (.int .i64 (b : Int)) = some (.bool (decide (b ≤ a))) := by
  have e : decide ((b : Int) ≤ (a : Int)) = decide (b ≤ a) := by simp only [decide_eq_decide]; omega
  rw [← e]; rfl
theorem gtr_nat (a b : Nat) : SX.binV .gtr (.int .i64 (a : Int)) (.int .i64 (b : Int)) = some (.bool (decide (b < a))) := by
  have e : decide ((b : Int) < (a : Int)) = decide (b < a) := by simp only [decide_eq_decide]; omega
  rw [← e]; rfl
/-- the package's variables: numbers and start -/
def LaidK (K : Value → Nat → List Value → Prop) : Prop := K (.slice (some ⟨0, 0, none⟩) 1 1) 8 startS.cells ∧ K (.slice (some ⟨1, 0, none⟩) 64 64) 1 (numbersK.flatMap c32)
section
variable {C : SX.Cx} {ρ : List Value} {α : Nat → SX.AV}
theorem absorb_row (hP : C.P = Tryd.prog) (hK : LaidK C.K) {j m : Nat} {l : List W8} {s : S8} {st : List SX.V} (hc : ρ.getD j undef = .agg (l.flatMap c8).toArray) (hl : l.length = 64) (hs : SX.denL ρ α st = s.cells) : SX.Opq.rel C ρ α (.callp 24 [.row 1 [.x j []]] 45) (.row m :: st) (.agg (absorbE s l).cells.toArray) := by
  refine ⟨[⟨(α m).h, 1, l.flatMap c8⟩], ⟨?_, trivial⟩, ?_⟩
  · simp only [SX.denL, SX.V.den, List.foldl_nil, hc, List.flatMap_cons, List.flatMap_nil, List.append_nil, SX.cellsV]
  · show SX.PCall C _ _ (SX.denL ρ α st) _ _
    rw [hs]
    exact absorb_any C hP hK.2 s l hl _
theorem absorb_own (hP : C.P = Tryd.prog) (hK : LaidK C.K) {cs : List SX.V} {v : SX.V} {l : List W8} {s : S8} {st : List SX.V} (hc : SX.denL ρ α cs = l.flatMap c8) (hl : l.length = 64) (hs : SX.denL ρ α st = s.cells) : SX.Opq.rel C ρ α (.callp 24 [.own 1 cs] 45) (v :: st) (.agg (absorbE s l).cells.toArray) := by
  refine ⟨[⟨v.den ρ α, 1, l.flatMap c8⟩], ⟨by rw [hc], trivial⟩, ?_⟩
  show SX.PCall C _ _ (SX.denL ρ α st) _ _
  rw [hs]
  exact absorb_any C hP hK.2 s l hl _
theorem row_len8 {c : SX.V} {l : List W8} (hc : SX.cellsV (c.den ρ α) = l.flatMap c8) : SX.Opq.rel C ρ α (.rlen 1) [c] (.int .i64 (l.length : Int)) := by
  show _ = _
  rw [hc, SX.flat_len c8_len, Nat.mul_one, Nat.div_one]
theorem slcx_take {c i : SX.V} {l : List W8} {k : Nat} (hc : SX.cellsV (c.den ρ α) = l.flatMap c8) (hi : i.den ρ α = .int .i64 (k : Int)) (hk : k ≤ l.length) : SX.Opq.rel C ρ α (.slcx 1 false true) [c, i] (.agg ((l.take k).flatMap c8).toArray) := by
  refine ⟨0, k, l.length, none, some (.int .i64 (k : Int)), ?_, ?_, ?_⟩
  · simp [SX.denL, hi, SX.optsV]
  · rw [hc, SX.flat_len c8_len]
    simp only [SX.boundsV, Nat.mul_one, Nat.div_one, Option.bind_some, SX.bndV]
    rw [if_pos (by omega)]
    simp
  · rw [hc, ← SX.flat_take c8_len]; simp
theorem slcx_drop {c i : SX.V} {l : List W8} {k : Nat} (hc : SX.cellsV (c.den ρ α) = l.flatMap c8) (hi : i.den ρ α = .int .i64 (k : Int)) (hk : k ≤ l.length) : SX.Opq.rel C ρ α (.slcx 1 true false) [c, i] (.agg ((l.drop k).flatMap c8).toArray) := by
  refine ⟨k, l.length, l.length, some (.int .i64 (k : Int)), none, ?_, ?_, ?_⟩
  · simp [SX.denL, hi, SX.optsV]
  · rw [hc, SX.flat_len c8_len]
    simp only [SX.boundsV, Nat.mul_one, Nat.div_one, Option.bind_some, SX.bndV]
    rw [if_pos (by omega)]
    simp
  · rw [hc, ← SX.flat_drop c8_len, List.take_of_length_le]
    rw [List.length_drop, SX.flat_len c8_len]; omega
theorem c8_one (l : List W8) : ∀ u ∈ l.flatMap c8, u.oneCell' = true := fun u hu => by
  obtain ⟨a, _, h⟩ := List.mem_flatMap.1 hu
  obtain rfl : u = w8 a := by simpa [c8] using h
  rfl
theorem cpyx8 {c y : SX.V} {l z : List W8} {k : Nat} (hc : SX.cellsV (c.den ρ α) = z.flatMap c8) (hy : SX.cellsV (y.den ρ α) = l.flatMap c8) (hl : l.length ≤ k) : SX.Opq.rel C ρ α (.cpyx k) [c, y] (.tuple #[.int .i64 (l.length : Int), .agg ((l ++ z.drop l.length).flatMap c8).toArray]) := by
  refine ⟨by rw [hy]; exact c8_one l, ?_⟩
  rw [hy, hc]
  have e : Nat.min (l.flatMap c8).length k = l.length := by rw [SX.flat_len c8_len]; show min _ _ = _; omega
  rw [e]
  have e2 : (z.flatMap c8).drop l.length = (z.drop l.length).flatMap c8 := by rw [← SX.flat_drop c8_len, Nat.mul_one]
  rw [e2, List.take_of_length_le (by rw [SX.flat_len c8_len]; omega), List.flatMap_append]
theorem rset8 {c i x : SX.V} {u : List W8} {k : Nat} {y : W8} (hc : SX.cellsV (c.den ρ α) = u.flatMap c8) (hi : i.den ρ α = .int .i64 (k : Int)) (hx : x.den ρ α = w8 y) (hk : k < u.length) : SX.Opq.rel C ρ α (.rset 1 0) [c, i, x] (.agg ((u.set k y).flatMap c8).toArray) :=
  SX.row_set c8_len (by omega) hc hi hk (by simp [SX.denL, hx, c8])
end
theorem fit8 {n : Nat} (l : List W8) (h : l.length = n) : (SX.Sh.ag n).fit (.agg (l.flatMap c8).toArray) = true := by
  simp only [SX.Sh.fit, SX.flat_len c8_len, Nat.mul_one, h, beq_self_eq_true, Bool.true_and, List.all_eq_true]
  exact c8_one l
noncomputable def cxS (K A : Value → Nat → List Value → Prop) : SX.Cx := { P := Tryd.prog, R := fun _ f xs v => False, shp := fun f => none, K := K, A := A, arr := true, trm := true, cp := fun f => if f = 24 then some 8 else none }
theorem cxS_ok (K A : Value → Nat → List Value → Prop) : (cxS K A).Ok := SX.Cx.ok_of (fun _ => rfl) fun _ f xs v W h => h.elim
def args_sum : List SX.V := [.x 0 []]
def tree_sum : SX.Tree :=
(.df (.elems 8 0 8) [(.k (.slice (some ⟨0, 0, none⟩) 1 1)), (.k (.int .i64 0))] (.ag 8) 
(.df (.kext 1) [(.x 0 [])] .any 
(.loop [(.cat [(.x 2 [])]), (.x 1 [0]), (.x 1 [1]), (.x 1 [2]), (.x 1 [3]), (.x 1 [4]), (.x 1 [5]), (.x 1 [6]), (.x 1 [7])] [.any, .one, .one, .one, .one, .one, .one, .one, .one] 
(.df (.rlen 1) [(.cat [(.x 3 [])])] .one 
(.df (.bin .geq 3) [(.x 12 []), (.k (.int .i64 64))] .one 
(.br 13 [] 
(.df (.slcx 1 false true) [(.cat [(.x 3 [])]), (.k (.int .i64 64))] .any 
(.df (.callp 24 [(.row 1 [(.x 14 [])])] 45) [(.row 12), (.x 4 []), (.x 5 []), (.x 6 []), (.x 7 []), (.x 8 []), (.x 9 []), (.x 10 []), (.x 11 [])] (.ag 8) 
(.df (.slcx 1 true false) [(.cat [(.x 3 [])]), (.k (.int .i64 64))] .any 
(.again 0 [(.cat [(.x 16 [])]), (.x 15 [0]), (.x 15 [1]), (.x 15 [2]), (.x 15 [3]), (.x 15 [4]), (.x 15 [5]), (.x 15 [6]), (.x 15 [7])])))) 
(.df (.cpyx 64) [(.a [(.k (.int .u8 0)), (.k (.int .u8 0)), (.k (.int .u8 0)), (.k (.int .u8 0)), (.k (.int .u8 0)), (.k (.int .u8 0)), (.k (.int .u8 0)), (.k (.int .u8 0)), (.k (.int .u8 0)), (.k (.int .u8 0)), (.k (.int .u8 0)), (.k (.int .u8 0)), (.k (.int .u8 0)), (.k (.int .u8 0)), (.k (.int .u8 0)), (.k (.int .u8 0)), (.k (.int .u8 0)), (.k (.int .u8 0)), (.k (.int .u8 0)), (.k (.int .u8 0)), (.k (.int .u8 0)), (.k (.int .u8 0)), (.k (.int .u8 0)), (.k (.int .u8 0)), (.k (.int .u8 0)), (.k (.int .u8 0)), (.k (.int .u8 0)), (.k (.int .u8 0)), (.k (.int .u8 0)), (.k (.int .u8 0)), (.k (.int .u8 0)), (.k (.int .u8 0)), (.k (.int .u8 0)), (.k (.int .u8 0)), (.k (.int .u8 0)), (.k (.int .u8 0)), (.k (.int .u8 0)), (.k (.int .u8 0)), (.k (.int .u8 0)), (.k (.int .u8 0)), (.k (.int .u8 0)), (.k (.int .u8 0)), (.k (.int .u8 0)), (.k (.int .u8 0)), (.k (.int .u8 0)), (.k (.int .u8 0)), (.k (.int .u8 0)), (.k (.int .u8 0)), (.k (.int .u8 0)), (.k (.int .u8 0)), (.k (.int .u8 0)), (.k (.int .u8 0)), (.k (.int .u8 0)), (.k (.int .u8 0)), (.k (.int .u8 0)), (.k (.int .u8 0)), (.k (.int .u8 0)), (.k (.int .u8 0)), (.k (.int .u8 0)), (.k (.int .u8 0)), (.k (.int .u8 0)), (.k (.int .u8 0)), (.k (.int .u8 0)), (.k (.int .u8 0))]), (.cat [(.x 3 [])])] (.tp [.one, (.ag 64)]) 
(.df (.rlen 1) [(.cat [(.x 3 [])])] .one 
(.df .bnd [(.sl 12 0 64 128), (.x 15 [])] .one 
(.df (.rset 1 0) [(.cat [(.a [(.x 14 [1, 0]), (.x 14 [1, 1]), (.x 14 [1, 2]), (.x 14 [1, 3]), (.x 14 [1, 4]), (.x 14 [1, 5]), (.x 14 [1, 6]), (.x 14 [1, 7]), (.x 14 [1, 8]), (.x 14 [1, 9]), (.x 14 [1, 10]), (.x 14 [1, 11]), (.x 14 [1, 12]), (.x 14 [1, 13]), (.x 14 [1, 14]), (.x 14 [1, 15]), (.x 14 [1, 16]), (.x 14 [1, 17]), (.x 14 [1, 18]), (.x 14 [1, 19]), (.x 14 [1, 20]), (.x 14 [1, 21]), (.x 14 [1, 22]), (.x 14 [1, 23]), (.x 14 [1, 24]), (.x 14 [1, 25]), (.x 14 [1, 26]), (.x 14 [1, 27]), (.x 14 [1, 28]), (.x 14 [1, 29]), (.x 14 [1, 30]), (.x 14 [1, 31]), (.x 14 [1, 32]), (.x 14 [1, 33]), (.x 14 [1, 34]), (.x 14 [1, 35]), (.x 14 [1, 36]), (.x 14 [1, 37]), (.x 14 [1, 38]), (.x 14 [1, 39]), (.x 14 [1, 40]), (.x 14 [1, 41]), (.x 14 [1, 42]), (.x 14 [1, 43]), (.x 14 [1, 44]), (.x 14 [1, 45]), (.x 14 [1, 46]), (.x 14 [1, 47]), (.x 14 [1, 48]), (.x 14 [1, 49]), (.x 14 [1, 50]), (.x 14 [1, 51]), (.x 14 [1, 52]), (.x 14 [1, 53]), (.x 14 [1, 54]), (.x 14 [1, 55]), (.x 14 [1, 56]), (.x 14 [1, 57]), (.x 14 [1, 58]), (.x 14 [1, 59]), (.x 14 [1, 60]), (.x 14 [1, 61]), (.x 14 [1, 62]), (.x 14 [1, 63])])]), (.x 15 []), (.k (.int .u8 128))] (.ag 64) 
(.df (.rlen 1) [(.cat [(.x 3 [])])] .one 
(.df (.bin .gtr 3) [(.x 18 []), (.k (.int .i64 55))] .one 
(.br 19 [] 
(.df (.len false) [(.x 0 [])] .one 
(.df (.conv .u64) [(.x 20 [])] .one 
(.df (.bin .mul 48) [(.x 21 []), (.k (.int .u64 8))] .one 
(.df (.bin .shr 48) [(.x 22 []), (.k (.int .i64 0))] .one 
(.df (.conv .u8) [(.x 23 [])] .one 
(.df (.bin .shr 48) [(.x 22 []), (.k (.int .i64 8))] .one 
(.df (.conv .u8) [(.x 25 [])] .one 
(.df (.bin .shr 48) [(.x 22 []), (.k (.int .i64 16))] .one 
(.df (.conv .u8) [(.x 27 [])] .one 
(.df (.bin .shr 48) [(.x 22 []), (.k (.int .i64 24))] .one 
(.df (.conv .u8) [(.x 29 [])] .one 
(.df (.bin .shr 48) [(.x 22 []), (.k (.int .i64 32))] .one 
(.df (.conv .u8) [(.x 31 [])] .one 
(.df (.bin .shr 48) [(.x 22 []), (.k (.int .i64 40))] .one 
(.df (.conv .u8) [(.x 33 [])] .one 
(.df (.bin .shr 48) [(.x 22 []), (.k (.int .i64 48))] .one 
(.df (.conv .u8) [(.x 35 [])] .one 
(.df (.bin .shr 48) [(.x 22 []), (.k (.int .i64 56))] .one 
(.df (.conv .u8) [(.x 37 [])] .one 
(.df (.callp 24 [(.own 1 [(.x 17 [0]), (.x 17 [1]), (.x 17 [2]), (.x 17 [3]), (.x 17 [4]), (.x 17 [5]), (.x 17 [6]), (.x 17 [7]), (.x 17 [8]), (.x 17 [9]), (.x 17 [10]), (.x 17 [11]), (.x 17 [12]), (.x 17 [13]), (.x 17 [14]), (.x 17 [15]), (.x 17 [16]), (.x 17 [17]), (.x 17 [18]), (.x 17 [19]), (.x 17 [20]), (.x 17 [21]), (.x 17 [22]), (.x 17 [23]), (.x 17 [24]), (.x 17 [25]), (.x 17 [26]), (.x 17 [27]), (.x 17 [28]), (.x 17 [29]), (.x 17 [30]), (.x 17 [31]), (.x 17 [32]), (.x 17 [33]), (.x 17 [34]), (.x 17 [35]), (.x 17 [36]), (.x 17 [37]), (.x 17 [38]), (.x 17 [39]), (.x 17 [40]), (.x 17 [41]), (.x 17 [42]), (.x 17 [43]), (.x 17 [44]), (.x 17 [45]), (.x 17 [46]), (.x 17 [47]), (.x 17 [48]), (.x 17 [49]), (.x 17 [50]), (.x 17 [51]), (.x 17 [52]), (.x 17 [53]), (.x 17 [54]), (.x 17 [55]), (.x 17 [56]), (.x 17 [57]), (.x 17 [58]), (.x 17 [59]), (.x 17 [60]), (.x 17 [61]), (.x 17 [62]), (.x 17 [63])])] 45) [(.sl 12 0 64 128), (.x 4 []), (.x 5 []), (.x 6 []), (.x 7 []), (.x 8 []), (.x 9 []), (.x 10 []), (.x 11 [])] (.ag 8) 
(.df (.callp 24 [(.own 1 [(.k (.int .u8 0)), (.k (.int .u8 0)), (.k (.int .u8 0)), (.k (.int .u8 0)), (.k (.int .u8 0)), (.k (.int .u8 0)), (.k (.int .u8 0)), (.k (.int .u8 0)), (.k (.int .u8 0)), (.k (.int .u8 0)), (.k (.int .u8 0)), (.k (.int .u8 0)), (.k (.int .u8 0)), (.k (.int .u8 0)), (.k (.int .u8 0)), (.k (.int .u8 0)), (.k (.int .u8 0)), (.k (.int .u8 0)), (.k (.int .u8 0)), (.k (.int .u8 0)), (.k (.int .u8 0)), (.k (.int .u8 0)), (.k (.int .u8 0)), (.k (.int .u8 0)), (.k (.int .u8 0)), (.k (.int .u8 0)), (.k (.int .u8 0)), (.k (.int .u8 0)), (.k (.int .u8 0)), (.k (.int .u8 0)), (.k (.int .u8 0)), (.k (.int .u8 0)), (.k (.int .u8 0)), (.k (.int .u8 0)), (.k (.int .u8 0)), (.k (.int .u8 0)), (.k (.int .u8 0)), (.k (.int .u8 0)), (.k (.int .u8 0)), (.k (.int .u8 0)), (.k (.int .u8 0)), (.k (.int .u8 0)), (.k (.int .u8 0)), (.k (.int .u8 0)), (.k (.int .u8 0)), (.k (.int .u8 0)), (.k (.int .u8 0)), (.k (.int .u8 0)), (.k (.int .u8 0)), (.k (.int .u8 0)), (.k (.int .u8 0)), (.k (.int .u8 0)), (.k (.int .u8 0)), (.k (.int .u8 0)), (.k (.int .u8 0)), (.k (.int .u8 0)), (.x 38 []), (.x 36 []), (.x 34 []), (.x 32 []), (.x 30 []), (.x 28 []), (.x 26 []), (.x 24 [])])] 45) [(.sl 12 64 64 64), (.x 39 [0]), (.x 39 [1]), (.x 39 [2]), (.x 39 [3]), (.x 39 [4]), (.x 39 [5]), (.x 39 [6]), (.x 39 [7])] (.ag 8) 
(.df (.conv .u64) [(.x 40 [0])] .one 
(.df (.bin .shr 48) [(.x 41 []), (.k (.int .i64 0))] .one 
(.df (.conv .u8) [(.x 42 [])] .one 
(.df (.bin .shr 48) [(.x 41 []), (.k (.int .i64 8))] .one 
(.df (.conv .u8) [(.x 44 [])] .one 
(.df (.bin .shr 48) [(.x 41 []), (.k (.int .i64 16))] .one 
(.df (.conv .u8) [(.x 46 [])] .one 
(.df (.bin .shr 48) [(.x 41 []), (.k (.int .i64 24))] .one 
(.df (.conv .u8) [(.x 48 [])] .one 
(.df (.conv .u64) [(.x 40 [1])] .one 
(.df (.bin .shr 48) [(.x 50 []), (.k (.int .i64 0))] .one 
(.df (.conv .u8) [(.x 51 [])] .one 
(.df (.bin .shr 48) [(.x 50 []), (.k (.int .i64 8))] .one 
(.df (.conv .u8) [(.x 53 [])] .one 
(.df (.bin .shr 48) [(.x 50 []), (.k (.int .i64 16))] .one 
(.df (.conv .u8) [(.x 55 [])] .one 
(.df (.bin .shr 48) [(.x 50 []), (.k (.int .i64 24))] .one 
(.df (.conv .u8) [(.x 57 [])] .one 
(.df (.conv .u64) [(.x 40 [2])] .one 
(.df (.bin .shr 48) [(.x 59 []), (.k (.int .i64 0))] .one 
(.df (.conv .u8) [(.x 60 [])] .one 
(.df (.bin .shr 48) [(.x 59 []), (.k (.int .i64 8))] .one 
(.df (.conv .u8) [(.x 62 [])] .one 
(.df (.bin .shr 48) [(.x 59 []), (.k (.int .i64 16))] .one 
(.df (.conv .u8) [(.x 64 [])] .one 
(.df (.bin .shr 48) [(.x 59 []), (.k (.int .i64 24))] .one 
(.df (.conv .u8) [(.x 66 [])] .one 
(.df (.conv .u64) [(.x 40 [3])] .one 
(.df (.bin .shr 48) [(.x 68 []), (.k (.int .i64 0))] .one 
(.df (.conv .u8) [(.x 69 [])] .one 
(.df (.bin .shr 48) [(.x 68 []), (.k (.int .i64 8))] .one 
(.df (.conv .u8) [(.x 71 [])] .one 
(.df (.bin .shr 48) [(.x 68 []), (.k (.int .i64 16))] .one 
(.df (.conv .u8) [(.x 73 [])] .one 
(.df (.bin .shr 48) [(.x 68 []), (.k (.int .i64 24))] .one 
(.df (.conv .u8) [(.x 75 [])] .one 
(.df (.conv .u64) [(.x 40 [4])] .one 
(.df (.bin .shr 48) [(.x 77 []), (.k (.int .i64 0))] .one 
(.df (.conv .u8) [(.x 78 [])] .one 
(.df (.bin .shr 48) [(.x 77 []), (.k (.int .i64 8))] .one 
(.df (.conv .u8) [(.x 80 [])] .one 
(.df (.bin .shr 48) [(.x 77 []), (.k (.int .i64 16))] .one 
(.df (.conv .u8) [(.x 82 [])] .one 
(.df (.bin .shr 48) [(.x 77 []), (.k (.int .i64 24))] .one 
(.df (.conv .u8) [(.x 84 [])] .one 
(.df (.conv .u64) [(.x 40 [5])] .one 
(.df (.bin .shr 48) [(.x 86 []), (.k (.int .i64 0))] .one 
(.df (.conv .u8) [(.x 87 [])] .one 
(.df (.bin .shr 48) [(.x 86 []), (.k (.int .i64 8))] .one 
(.df (.conv .u8) [(.x 89 [])] .one 
(.df (.bin .shr 48) [(.x 86 []), (.k (.int .i64 16))] .one 
(.df (.conv .u8) [(.x 91 [])] .one 
(.df (.bin .shr 48) [(.x 86 []), (.k (.int .i64 24))] .one 
(.df (.conv .u8) [(.x 93 [])] .one 
(.df (.conv .u64) [(.x 40 [6])] .one 
(.df (.bin .shr 48) [(.x 95 []), (.k (.int .i64 0))] .one 
(.df (.conv .u8) [(.x 96 [])] .one 
(.df (.bin .shr 48) [(.x 95 []), (.k (.int .i64 8))] .one 
(.df (.conv .u8) [(.x 98 [])] .one 
(.df (.bin .shr 48) [(.x 95 []), (.k (.int .i64 16))] .one 
(.df (.conv .u8) [(.x 100 [])] .one 
(.df (.bin .shr 48) [(.x 95 []), (.k (.int .i64 24))] .one 
(.df (.conv .u8) [(.x 102 [])] .one 
(.df (.conv .u64) [(.x 40 [7])] .one 
(.df (.bin .shr 48) [(.x 104 []), (.k (.int .i64 0))] .one 
(.df (.conv .u8) [(.x 105 [])] .one 
(.df (.bin .shr 48) [(.x 104 []), (.k (.int .i64 8))] .one 
(.df (.conv .u8) [(.x 107 [])] .one 
(.df (.bin .shr 48) [(.x 104 []), (.k (.int .i64 16))] .one 
(.df (.conv .u8) [(.x 109 [])] .one 
(.df (.bin .shr 48) [(.x 104 []), (.k (.int .i64 24))] .one 
(.df (.conv .u8) [(.x 111 [])] .one 
(.ret (.a [(.x 49 []), (.x 47 []), (.x 45 []), (.x 43 []), (.x 58 []), (.x 56 []), (.x 54 []), (.x 52 []), (.x 67 []), (.x 65 []), (.x 63 []), (.x 61 []), (.x 76 []), (.x 74 []), (.x 72 []), (.x 70 []), (.x 85 []), (.x 83 []), (.x 81 []), (.x 79 []), (.x 94 []), (.x 92 []), (.x 90 []), (.x 88 []), (.x 103 []), (.x 101 []), (.x 99 []), (.x 97 []), (.x 112 []), (.x 110 []), (.x 108 []), (.x 106 [])]) [] [])))))))))))))))))))))))))))))))))))))))))))))))))))))))))))))))))))))))))))))))))))))))))))))) 
(.df (.len false) [(.x 0 [])] .one 
(.df (.conv .u64) [(.x 20 [])] .one 
(.df (.bin .mul 48) [(.x 21 []), (.k (.int .u64 8))] .one 
(.df (.bin .shr 48) [(.x 22 []), (.k (.int .i64 0))] .one 
(.df (.conv .u8) [(.x 23 [])] .one 
(.df (.bin .shr 48) [(.x 22 []), (.k (.int .i64 8))] .one 
(.df (.conv .u8) [(.x 25 [])] .one 
(.df (.bin .shr 48) [(.x 22 []), (.k (.int .i64 16))] .one 
(.df (.conv .u8) [(.x 27 [])] .one 
(.df (.bin .shr 48) [(.x 22 []), (.k (.int .i64 24))] .one 
(.df (.conv .u8) [(.x 29 [])] .one 
(.df (.bin .shr 48) [(.x 22 []), (.k (.int .i64 32))] .one 
(.df (.conv .u8) [(.x 31 [])] .one 
(.df (.bin .shr 48) [(.x 22 []), (.k (.int .i64 40))] .one 
(.df (.conv .u8) [(.x 33 [])] .one 
(.df (.bin .shr 48) [(.x 22 []), (.k (.int .i64 48))] .one 
(.df (.conv .u8) [(.x 35 [])] .one 
(.df (.bin .shr 48) [(.x 22 []), (.k (.int .i64 56))] .one 
(.df (.conv .u8) [(.x 37 [])] .one 
(.df (.callp 24 [(.own 1 [(.x 17 [0]), (.x 17 [1]), (.x 17 [2]), (.x 17 [3]), (.x 17 [4]), (.x 17 [5]), (.x 17 [6]), (.x 17 [7]), (.x 17 [8]), (.x 17 [9]), (.x 17 [10]), (.x 17 [11]), (.x 17 [12]), (.x 17 [13]), (.x 17 [14]), (.x 17 [15]), (.x 17 [16]), (.x 17 [17]), (.x 17 [18]), (.x 17 [19]), (.x 17 [20]), (.x 17 [21]), (.x 17 [22]), (.x 17 [23]), (.x 17 [24]), (.x 17 [25]), (.x 17 [26]), (.x 17 [27]), (.x 17 [28]), (.x 17 [29]), (.x 17 [30]), (.x 17 [31]), (.x 17 [32]), (.x 17 [33]), (.x 17 [34]), (.x 17 [35]), (.x 17 [36]), (.x 17 [37]), (.x 17 [38]), (.x 17 [39]), (.x 17 [40]), (.x 17 [41]), (.x 17 [42]), (.x 17 [43]), (.x 17 [44]), (.x 17 [45]), (.x 17 [46]), (.x 17 [47]), (.x 17 [48]), (.x 17 [49]), (.x 17 [50]), (.x 17 [51]), (.x 17 [52]), (.x 17 [53]), (.x 17 [54]), (.x 17 [55]), (.x 38 []), (.x 36 []), (.x 34 []), (.x 32 []), (.x 30 []), (.x 28 []), (.x 26 []), (.x 24 [])])] 45) [(.sl 12 0 64 128), (.x 4 []), (.x 5 []), (.x 6 []), (.x 7 []), (.x 8 []), (.x 9 []), (.x 10 []), (.x 11 [])] (.ag 8) 
(.df (.conv .u64) [(.x 39 [0])] .one 
(.df (.bin .shr 48) [(.x 40 []), (.k (.int .i64 0))] .one 
(.df (.conv .u8) [(.x 41 [])] .one 
(.df (.bin .shr 48) [(.x 40 []), (.k (.int .i64 8))] .one 
(.df (.conv .u8) [(.x 43 [])] .one 
(.df (.bin .shr 48) [(.x 40 []), (.k (.int .i64 16))] .one 
(.df (.conv .u8) [(.x 45 [])] .one 
(.df (.bin .shr 48) [(.x 40 []), (.k (.int .i64 24))] .one 
(.df (.conv .u8) [(.x 47 [])] .one 
(.df (.conv .u64) [(.x 39 [1])] .one 
(.df (.bin .shr 48) [(.x 49 []), (.k (.int .i64 0))] .one 
(.df (.conv .u8) [(.x 50 [])] .one 
(.df (.bin .shr 48) [(.x 49 []), (.k (.int .i64 8))] .one 
(.df (.conv .u8) [(.x 52 [])] .one 
(.df (.bin .shr 48) [(.x 49 []), (.k (.int .i64 16))] .one 
(.df (.conv .u8) [(.x 54 [])] .one 
(.df (.bin .shr 48) [(.x 49 []), (.k (.int .i64 24))] .one 
(.df (.conv .u8) [(.x 56 [])] .one 
(.df (.conv .u64) [(.x 39 [2])] .one 
(.df (.bin .shr 48) [(.x 58 []), (.k (.int .i64 0))] .one 
(.df (.conv .u8) [(.x 59 [])] .one 
(.df (.bin .shr 48) [(.x 58 []), (.k (.int .i64 8))] .one 
(.df (.conv .u8) [(.x 61 [])] .one 
(.df (.bin .shr 48) [(.x 58 []), (.k (.int .i64 16))] .one 
(.df (.conv .u8) [(.x 63 [])] .one 
(.df (.bin .shr 48) [(.x 58 []), (.k (.int .i64 24))] .one 
(.df (.conv .u8) [(.x 65 [])] .one 
(.df (.conv .u64) [(.x 39 [3])] .one 
(.df (.bin .shr 48) [(.x 67 []), (.k (.int .i64 0))] .one 
(.df (.conv .u8) [(.x 68 [])] .one 
(.df (.bin .shr 48) [(.x 67 []), (.k (.int .i64 8))] .one 
(.df (.conv .u8) [(.x 70 [])] .one 
(.df (.bin .shr 48) [(.x 67 []), (.k (.int .i64 16))] .one 
(.df (.conv .u8) [(.x 72 [])] .one 
(.df (.bin .shr 48) [(.x 67 []), (.k (.int .i64 24))] .one 
(.df (.conv .u8) [(.x 74 [])] .one 
(.df (.conv .u64) [(.x 39 [4])] .one 
(.df (.bin .shr 48) [(.x 76 []), (.k (.int .i64 0))] .one 
(.df (.conv .u8) [(.x 77 [])] .one 
(.df (.bin .shr 48) [(.x 76 []), (.k (.int .i64 8))] .one 
(.df (.conv .u8) [(.x 79 [])] .one 
(.df (.bin .shr 48) [(.x 76 []), (.k (.int .i64 16))] .one 
(.df (.conv .u8) [(.x 81 [])] .one 
(.df (.bin .shr 48) [(.x 76 []), (.k (.int .i64 24))] .one 
(.df (.conv .u8) [(.x 83 [])] .one 
(.df (.conv .u64) [(.x 39 [5])] .one 
(.df (.bin .shr 48) [(.x 85 []), (.k (.int .i64 0))] .one 
(.df (.conv .u8) [(.x 86 [])] .one 
(.df (.bin .shr 48) [(.x 85 []), (.k (.int .i64 8))] .one 
(.df (.conv .u8) [(.x 88 [])] .one 
(.df (.bin .shr 48) [(.x 85 []), (.k (.int .i64 16))] .one 
(.df (.conv .u8) [(.x 90 [])] .one 
(.df (.bin .shr 48) [(.x 85 []), (.k (.int .i64 24))] .one 
(.df (.conv .u8) [(.x 92 [])] .one 
(.df (.conv .u64) [(.x 39 [6])] .one 
(.df (.bin .shr 48) [(.x 94 []), (.k (.int .i64 0))] .one 
(.df (.conv .u8) [(.x 95 [])] .one 
(.df (.bin .shr 48) [(.x 94 []), (.k (.int .i64 8))] .one 
(.df (.conv .u8) [(.x 97 [])] .one 
(.df (.bin .shr 48) [(.x 94 []), (.k (.int .i64 16))] .one 
(.df (.conv .u8) [(.x 99 [])] .one 
(.df (.bin .shr 48) [(.x 94 []), (.k (.int .i64 24))] .one 
(.df (.conv .u8) [(.x 101 [])] .one 
(.df (.conv .u64) [(.x 39 [7])] .one 
(.df (.bin .shr 48) [(.x 103 []), (.k (.int .i64 0))] .one 
(.df (.conv .u8) [(.x 104 [])] .one 
(.df (.bin .shr 48) [(.x 103 []), (.k (.int .i64 8))] .one 
(.df (.conv .u8) [(.x 106 [])] .one 
(.df (.bin .shr 48) [(.x 103 []), (.k (.int .i64 16))] .one 
(.df (.conv .u8) [(.x 108 [])] .one 
(.df (.bin .shr 48) [(.x 103 []), (.k (.int .i64 24))] .one 
(.df (.conv .u8) [(.x 110 [])] .one 
(.ret (.a [(.x 48 []), (.x 46 []), (.x 44 []), (.x 42 []), (.x 57 []), (.x 55 []), (.x 53 []), (.x 51 []), (.x 66 []), (.x 64 []), (.x 62 []), (.x 60 []), (.x 75 []), (.x 73 []), (.x 71 []), (.x 69 []), (.x 84 []), (.x 82 []), (.x 80 []), (.x 78 []), (.x 93 []), (.x 91 []), (.x 89 []), (.x 87 []), (.x 102 []), (.x 100 []), (.x 98 []), (.x 96 []), (.x 111 []), (.x 109 []), (.x 107 []), (.x 105 [])]) [] []))))))))))))))))))))))))))))))))))))))))))))))))))))))))))))))))))))))))))))))))))))))))))))))))))))))))))
set_option maxRecDepth 100000 in
theorem run_sum (K A : Value → Nat → List Value → Prop) : (SX.run (cxS K A) ⟨fun _ => true, [⟨18, 4, ((.s 5, .ext 1) :: (List.range 8).map fun j => (.c 1 j, .one))⟩], 0, 100⟩ 100000 0 (SX.door 18 Tryd.f18 args_sum [.any]) [.code (Tryd.f18.body.getD .skip), .top Tryd.f18]).strip = tree_sum := by kernel_rfl
end Go.Proofs.YtockbjpldlopiaaDoor
