/-
  law10's cards: absorb.
-/
import Derived.Test.YtockbjpldlopiaaDoorHd
namespace Go.Proofs.YtockbjpldlopiaaDoor
set_option linter.unusedSimpArgs false
set_option linter.unusedVariables false
open Go Go.RowKit
def SigR (f : FuncId) (xs : List SX.Arg) (v : Value) : Prop := f = 32 ∧ ∃ (x : W32) (a b c : Int), -a ∈ turns ∧ -b ∈ turns ∧ -c ∈ turns ∧ xs = [⟨w32 x, 0, []⟩, ⟨.int .i64 a, 0, []⟩, ⟨.int .i64 b, 0, []⟩, ⟨.int .i64 c, 0, []⟩] ∧ v = w32 (sig x a b c)
def WordR (f : FuncId) (xs : List SX.Arg) (v : Value) : Prop := f = 30 ∧ ∃ (u : Value) (l : List W8), xs = [⟨u, 1, l.flatMap c8⟩] ∧ 4 ≤ l.length ∧ l.length ≤ 64 ∧ v = w32 (wordAt l 0)
noncomputable def cxA (K A : Value → Nat → List Value → Prop) : SX.Cx := { P := Tryd.prog, R := fun _ f xs v => RotR f xs v ∨ SigR f xs v ∨ WordR f xs v, shp := fun f => if f ∈ [31, 32, 30] then some .one else none, K := K, A := A, arr := true, trm := true }
theorem byte_arg {W : World} {u : Value} {l : List W8} (h : SX.Arg.rd W ⟨u, 1, l.flatMap c8⟩) : ∃ A n c, u = .slice A n c ∧ Rd W 1 A n (l.flatMap c8) ∧ n ≤ c ∧ l.length = n := by
  unfold SX.Arg.rd at h
  split at h
  · rename_i A n c hu
    have hu : u = .slice A n c := hu
    refine ⟨A, n, c, hu, h.1, h.2, ?_⟩
    have := h.1.1; rw [SX.flat_len c8_len] at this; simp only at this; omega
  · cases h
theorem cxA_ok (K A : Value → Nat → List Value → Prop) : (cxA K A).Ok := SX.Cx.ok_of (fun _ => rfl) fun _ f xs v W h hrd hK => by
  rcases h with ⟨rfl, x, k, hk, rfl, rfl⟩ | ⟨rfl, x, a, b, c, ha, hb, hc, rfl, rfl⟩ | ⟨rfl, u, l, rfl, h4, h64, rfl⟩
  · exact (rotl_any x k hk W).mono fun e w' h => SX.plainOk rfl h
  · exact (rotated_any x a b c ha hb hc W).mono fun e w' h => SX.plainOk rfl h
  · obtain ⟨A, n, c, rfl, hr, hc, hn⟩ := byte_arg (hrd ⟨u, 1, l.flatMap c8⟩ (by simp))
    exact (word_any l _ _ _ _ (take4 l h4) A n c W hr (by omega) hc).mono fun e w' h => SX.plainOk rfl h
theorem i_sub {a b d : Nat} (h : d + b = a) (ha : a ≤ 1000) : SX.binV .sub (.int .i64 (a : Int)) (.int .i64 (b : Int)) = some (.int .i64 (d : Int)) := by
  simp only [SX.binV, binI, if_true]
  rw [wrap_i64 (by omega) (by omega)]
  congr 2
  omega
theorem i_add {a b d : Nat} (h : a + b = d) (ha : d ≤ 1000) : SX.binV .add (.int .i64 (a : Int)) (.int .i64 (b : Int)) = some (.int .i64 (d : Int)) := by
  simp only [SX.binV, binI, if_true]
  rw [wrap_i64 (by omega) (by omega)]
  congr 2
  omega
/-- what absorb knows: its block, and the numbers -/
def KA (A : Option Addr) (c : Nat) (l : List W8) (v : Value) (z : Nat) (xs : List Value) : Prop := SX.SubK A 64 c 1 (l.flatMap c8) v z xs ∨ (v = .slice (some ⟨1, 0, none⟩) 64 64 ∧ z = 1 ∧ xs = numbersK.flatMap c32)
theorem KA_part (A : Option Addr) (c : Nat) (l : List W8) (hl : l.length = 64) (hc : 64 ≤ c) (j : Nat) (hj : j ≤ 64) : KA A c l (SX.subS A 1 j 64 c) 1 ((l.drop j).flatMap c8) := by
  have := SX.SubK.part c8_len (A := A) (n := 64) (c := c) (L := l) (l := j) (h := 64) (m := c) hj (by omega) hc (by omega)
  rw [List.take_of_length_le (by rw [List.length_drop]; omega)] at this
  exact .inl this
theorem wordAt_drop (l : List W8) (t : Nat) : wordAt (l.drop (4 * t)) 0 = wordAt l t := by
  simp [wordAt, List.getD_eq_getElem?_getD]
theorem cellsV_agg (X : List Value) : SX.cellsV (.agg X.toArray) = X := rfl
theorem absorbE_eq {s v : S8} {l : List W8} (h : rnds (expd l 48) s 64 = v) : absorbE s l = ⟨s.a + v.a, s.b + v.b, s.c + v.c, s.d + v.d, s.e + v.e, s.f + v.f, s.g + v.g, s.h + v.h⟩ := by
  subst h; rfl
theorem rnds_succ {ws : List W32} {s v : S8} {j : Nat} {kn : W32} (h : rnds ws s j = v) (hk : numbersK.getD j 0 = kn) : rnds ws s (j + 1) = v.rnd kn (ws.getD j 0) := by
  subst h; subst hk; rfl
def args_absorb : List SX.V := [.p 0 0, .x 8 []]
def bl_absorb : List SX.Blk := [⟨(List.range 8).map fun j => .x j [], 45, .cells⟩]
def tree_absorb : SX.Tree :=
(.df (.slc false 1 true false false) [(.x 8 []), (.k (.int .i64 0))] .one 
(.df (.call 30 [(.ext 1)]) [(.x 9 [])] .one 
(.df (.slc false 1 true false false) [(.x 8 []), (.k (.int .i64 4))] .one 
(.df (.call 30 [(.ext 1)]) [(.x 11 [])] .one 
(.df (.slc false 1 true false false) [(.x 8 []), (.k (.int .i64 8))] .one 
(.df (.call 30 [(.ext 1)]) [(.x 13 [])] .one 
(.df (.slc false 1 true false false) [(.x 8 []), (.k (.int .i64 12))] .one 
(.df (.call 30 [(.ext 1)]) [(.x 15 [])] .one 
(.df (.slc false 1 true false false) [(.x 8 []), (.k (.int .i64 16))] .one 
(.df (.call 30 [(.ext 1)]) [(.x 17 [])] .one 
(.df (.slc false 1 true false false) [(.x 8 []), (.k (.int .i64 20))] .one 
(.df (.call 30 [(.ext 1)]) [(.x 19 [])] .one 
(.df (.slc false 1 true false false) [(.x 8 []), (.k (.int .i64 24))] .one 
(.df (.call 30 [(.ext 1)]) [(.x 21 [])] .one 
(.df (.slc false 1 true false false) [(.x 8 []), (.k (.int .i64 28))] .one 
(.df (.call 30 [(.ext 1)]) [(.x 23 [])] .one 
(.df (.slc false 1 true false false) [(.x 8 []), (.k (.int .i64 32))] .one 
(.df (.call 30 [(.ext 1)]) [(.x 25 [])] .one 
(.df (.slc false 1 true false false) [(.x 8 []), (.k (.int .i64 36))] .one 
(.df (.call 30 [(.ext 1)]) [(.x 27 [])] .one 
(.df (.slc false 1 true false false) [(.x 8 []), (.k (.int .i64 40))] .one 
(.df (.call 30 [(.ext 1)]) [(.x 29 [])] .one 
(.df (.slc false 1 true false false) [(.x 8 []), (.k (.int .i64 44))] .one 
(.df (.call 30 [(.ext 1)]) [(.x 31 [])] .one 
(.df (.slc false 1 true false false) [(.x 8 []), (.k (.int .i64 48))] .one 
(.df (.call 30 [(.ext 1)]) [(.x 33 [])] .one 
(.df (.slc false 1 true false false) [(.x 8 []), (.k (.int .i64 52))] .one 
(.df (.call 30 [(.ext 1)]) [(.x 35 [])] .one 
(.df (.slc false 1 true false false) [(.x 8 []), (.k (.int .i64 56))] .one 
(.df (.call 30 [(.ext 1)]) [(.x 37 [])] .one 
(.df (.slc false 1 true false false) [(.x 8 []), (.k (.int .i64 60))] .one 
(.df (.call 30 [(.ext 1)]) [(.x 39 [])] .one 
(.loop [(.k (.int .i64 16)), (.x 10 []), (.x 12 []), (.x 14 []), (.x 16 []), (.x 18 []), (.x 20 []), (.x 22 []), (.x 24 []), (.x 26 []), (.x 28 []), (.x 30 []), (.x 32 []), (.x 34 []), (.x 36 []), (.x 38 []), (.x 40 []), (.k (.int .u32 0)), (.k (.int .u32 0)), (.k (.int .u32 0)), (.k (.int .u32 0)), (.k (.int .u32 0)), (.k (.int .u32 0)), (.k (.int .u32 0)), (.k (.int .u32 0)), (.k (.int .u32 0)), (.k (.int .u32 0)), (.k (.int .u32 0)), (.k (.int .u32 0)), (.k (.int .u32 0)), (.k (.int .u32 0)), (.k (.int .u32 0)), (.k (.int .u32 0)), (.k (.int .u32 0)), (.k (.int .u32 0)), (.k (.int .u32 0)), (.k (.int .u32 0)), (.k (.int .u32 0)), (.k (.int .u32 0)), (.k (.int .u32 0)), (.k (.int .u32 0)), (.k (.int .u32 0)), (.k (.int .u32 0)), (.k (.int .u32 0)), (.k (.int .u32 0)), (.k (.int .u32 0)), (.k (.int .u32 0)), (.k (.int .u32 0)), (.k (.int .u32 0)), (.k (.int .u32 0)), (.k (.int .u32 0)), (.k (.int .u32 0)), (.k (.int .u32 0)), (.k (.int .u32 0)), (.k (.int .u32 0)), (.k (.int .u32 0)), (.k (.int .u32 0)), (.k (.int .u32 0)), (.k (.int .u32 0)), (.k (.int .u32 0)), (.k (.int .u32 0)), (.k (.int .u32 0)), (.k (.int .u32 0)), (.k (.int .u32 0)), (.k (.int .u32 0))] [.one, .one, .one, .one, .one, .one, .one, .one, .one, .one, .one, .one, .one, .one, .one, .one, .one, .one, .one, .one, .one, .one, .one, .one, .one, .one, .one, .one, .one, .one, .one, .one, .one, .one, .one, .one, .one, .one, .one, .one, .one, .one, .one, .one, .one, .one, .one, .one, .one, .one, .one, .one, .one, .one, .one, .one, .one, .one, .one, .one, .one, .one, .one, .one, .one] 
(.df (.bin .lss 3) [(.x 41 []), (.k (.int .i64 64))] .one 
(.br 106 [] 
(.df (.bin .sub 3) [(.x 41 []), (.k (.int .i64 15))] .one 
(.df .bnd [(.sl 1 0 64 64), (.x 107 [])] .one 
(.df (.relem 1 0) [(.cat [(.a [(.x 42 []), (.x 43 []), (.x 44 []), (.x 45 []), (.x 46 []), (.x 47 []), (.x 48 []), (.x 49 []), (.x 50 []), (.x 51 []), (.x 52 []), (.x 53 []), (.x 54 []), (.x 55 []), (.x 56 []), (.x 57 []), (.x 58 []), (.x 59 []), (.x 60 []), (.x 61 []), (.x 62 []), (.x 63 []), (.x 64 []), (.x 65 []), (.x 66 []), (.x 67 []), (.x 68 []), (.x 69 []), (.x 70 []), (.x 71 []), (.x 72 []), (.x 73 []), (.x 74 []), (.x 75 []), (.x 76 []), (.x 77 []), (.x 78 []), (.x 79 []), (.x 80 []), (.x 81 []), (.x 82 []), (.x 83 []), (.x 84 []), (.x 85 []), (.x 86 []), (.x 87 []), (.x 88 []), (.x 89 []), (.x 90 []), (.x 91 []), (.x 92 []), (.x 93 []), (.x 94 []), (.x 95 []), (.x 96 []), (.x 97 []), (.x 98 []), (.x 99 []), (.x 100 []), (.x 101 []), (.x 102 []), (.x 103 []), (.x 104 []), (.x 105 [])])]), (.x 107 [])] .one 
(.df (.bin .sub 3) [(.x 41 []), (.k (.int .i64 2))] .one 
(.df .bnd [(.sl 1 0 64 64), (.x 110 [])] .one 
(.df (.relem 1 0) [(.cat [(.a [(.x 42 []), (.x 43 []), (.x 44 []), (.x 45 []), (.x 46 []), (.x 47 []), (.x 48 []), (.x 49 []), (.x 50 []), (.x 51 []), (.x 52 []), (.x 53 []), (.x 54 []), (.x 55 []), (.x 56 []), (.x 57 []), (.x 58 []), (.x 59 []), (.x 60 []), (.x 61 []), (.x 62 []), (.x 63 []), (.x 64 []), (.x 65 []), (.x 66 []), (.x 67 []), (.x 68 []), (.x 69 []), (.x 70 []), (.x 71 []), (.x 72 []), (.x 73 []), (.x 74 []), (.x 75 []), (.x 76 []), (.x 77 []), (.x 78 []), (.x 79 []), (.x 80 []), (.x 81 []), (.x 82 []), (.x 83 []), (.x 84 []), (.x 85 []), (.x 86 []), (.x 87 []), (.x 88 []), (.x 89 []), (.x 90 []), (.x 91 []), (.x 92 []), (.x 93 []), (.x 94 []), (.x 95 []), (.x 96 []), (.x 97 []), (.x 98 []), (.x 99 []), (.x 100 []), (.x 101 []), (.x 102 []), (.x 103 []), (.x 104 []), (.x 105 [])])]), (.x 110 [])] .one 
(.df (.bin .sub 3) [(.x 41 []), (.k (.int .i64 16))] .one 
(.df .bnd [(.sl 1 0 64 64), (.x 113 [])] .one 
(.df (.relem 1 0) [(.cat [(.a [(.x 42 []), (.x 43 []), (.x 44 []), (.x 45 []), (.x 46 []), (.x 47 []), (.x 48 []), (.x 49 []), (.x 50 []), (.x 51 []), (.x 52 []), (.x 53 []), (.x 54 []), (.x 55 []), (.x 56 []), (.x 57 []), (.x 58 []), (.x 59 []), (.x 60 []), (.x 61 []), (.x 62 []), (.x 63 []), (.x 64 []), (.x 65 []), (.x 66 []), (.x 67 []), (.x 68 []), (.x 69 []), (.x 70 []), (.x 71 []), (.x 72 []), (.x 73 []), (.x 74 []), (.x 75 []), (.x 76 []), (.x 77 []), (.x 78 []), (.x 79 []), (.x 80 []), (.x 81 []), (.x 82 []), (.x 83 []), (.x 84 []), (.x 85 []), (.x 86 []), (.x 87 []), (.x 88 []), (.x 89 []), (.x 90 []), (.x 91 []), (.x 92 []), (.x 93 []), (.x 94 []), (.x 95 []), (.x 96 []), (.x 97 []), (.x 98 []), (.x 99 []), (.x 100 []), (.x 101 []), (.x 102 []), (.x 103 []), (.x 104 []), (.x 105 [])])]), (.x 113 [])] .one 
(.df (.call 31 [.no, .no]) [(.x 109 []), (.k (.int .i64 (-7)))] .one 
(.df (.call 31 [.no, .no]) [(.x 109 []), (.k (.int .i64 (-18)))] .one 
(.df (.bin .xor 43) [(.x 116 []), (.x 117 [])] .one 
(.df (.bin .shr 43) [(.x 109 []), (.k (.int .u64 3))] .one 
(.df (.bin .xor 43) [(.x 118 []), (.x 119 [])] .one 
(.df (.bin .add 43) [(.x 115 []), (.x 120 [])] .one 
(.df (.bin .sub 3) [(.x 41 []), (.k (.int .i64 7))] .one 
(.df .bnd [(.sl 1 0 64 64), (.x 122 [])] .one 
(.df (.relem 1 0) [(.cat [(.a [(.x 42 []), (.x 43 []), (.x 44 []), (.x 45 []), (.x 46 []), (.x 47 []), (.x 48 []), (.x 49 []), (.x 50 []), (.x 51 []), (.x 52 []), (.x 53 []), (.x 54 []), (.x 55 []), (.x 56 []), (.x 57 []), (.x 58 []), (.x 59 []), (.x 60 []), (.x 61 []), (.x 62 []), (.x 63 []), (.x 64 []), (.x 65 []), (.x 66 []), (.x 67 []), (.x 68 []), (.x 69 []), (.x 70 []), (.x 71 []), (.x 72 []), (.x 73 []), (.x 74 []), (.x 75 []), (.x 76 []), (.x 77 []), (.x 78 []), (.x 79 []), (.x 80 []), (.x 81 []), (.x 82 []), (.x 83 []), (.x 84 []), (.x 85 []), (.x 86 []), (.x 87 []), (.x 88 []), (.x 89 []), (.x 90 []), (.x 91 []), (.x 92 []), (.x 93 []), (.x 94 []), (.x 95 []), (.x 96 []), (.x 97 []), (.x 98 []), (.x 99 []), (.x 100 []), (.x 101 []), (.x 102 []), (.x 103 []), (.x 104 []), (.x 105 [])])]), (.x 122 [])] .one 
(.df (.bin .add 43) [(.x 121 []), (.x 124 [])] .one 
(.df (.call 31 [.no, .no]) [(.x 112 []), (.k (.int .i64 (-17)))] .one 
(.df (.call 31 [.no, .no]) [(.x 112 []), (.k (.int .i64 (-19)))] .one 
(.df (.bin .xor 43) [(.x 126 []), (.x 127 [])] .one 
(.df (.bin .shr 43) [(.x 112 []), (.k (.int .u64 10))] .one 
(.df (.bin .xor 43) [(.x 128 []), (.x 129 [])] .one 
(.df (.bin .add 43) [(.x 125 []), (.x 130 [])] .one 
(.df .bnd [(.sl 1 0 64 64), (.x 41 [])] .one 
(.df (.rset 1 0) [(.cat [(.a [(.x 42 []), (.x 43 []), (.x 44 []), (.x 45 []), (.x 46 []), (.x 47 []), (.x 48 []), (.x 49 []), (.x 50 []), (.x 51 []), (.x 52 []), (.x 53 []), (.x 54 []), (.x 55 []), (.x 56 []), (.x 57 []), (.x 58 []), (.x 59 []), (.x 60 []), (.x 61 []), (.x 62 []), (.x 63 []), (.x 64 []), (.x 65 []), (.x 66 []), (.x 67 []), (.x 68 []), (.x 69 []), (.x 70 []), (.x 71 []), (.x 72 []), (.x 73 []), (.x 74 []), (.x 75 []), (.x 76 []), (.x 77 []), (.x 78 []), (.x 79 []), (.x 80 []), (.x 81 []), (.x 82 []), (.x 83 []), (.x 84 []), (.x 85 []), (.x 86 []), (.x 87 []), (.x 88 []), (.x 89 []), (.x 90 []), (.x 91 []), (.x 92 []), (.x 93 []), (.x 94 []), (.x 95 []), (.x 96 []), (.x 97 []), (.x 98 []), (.x 99 []), (.x 100 []), (.x 101 []), (.x 102 []), (.x 103 []), (.x 104 []), (.x 105 [])])]), (.x 41 []), (.x 131 [])] (.ag 64) 
(.df (.bin .add 3) [(.x 41 []), (.k (.int .i64 1))] .one 
(.again 0 [(.x 134 []), (.x 133 [0]), (.x 133 [1]), (.x 133 [2]), (.x 133 [3]), (.x 133 [4]), (.x 133 [5]), (.x 133 [6]), (.x 133 [7]), (.x 133 [8]), (.x 133 [9]), (.x 133 [10]), (.x 133 [11]), (.x 133 [12]), (.x 133 [13]), (.x 133 [14]), (.x 133 [15]), (.x 133 [16]), (.x 133 [17]), (.x 133 [18]), (.x 133 [19]), (.x 133 [20]), (.x 133 [21]), (.x 133 [22]), (.x 133 [23]), (.x 133 [24]), (.x 133 [25]), (.x 133 [26]), (.x 133 [27]), (.x 133 [28]), (.x 133 [29]), (.x 133 [30]), (.x 133 [31]), (.x 133 [32]), (.x 133 [33]), (.x 133 [34]), (.x 133 [35]), (.x 133 [36]), (.x 133 [37]), (.x 133 [38]), (.x 133 [39]), (.x 133 [40]), (.x 133 [41]), (.x 133 [42]), (.x 133 [43]), (.x 133 [44]), (.x 133 [45]), (.x 133 [46]), (.x 133 [47]), (.x 133 [48]), (.x 133 [49]), (.x 133 [50]), (.x 133 [51]), (.x 133 [52]), (.x 133 [53]), (.x 133 [54]), (.x 133 [55]), (.x 133 [56]), (.x 133 [57]), (.x 133 [58]), (.x 133 [59]), (.x 133 [60]), (.x 133 [61]), (.x 133 [62]), (.x 133 [63])]))))))))))))))))))))))))))))) 
(.loop [(.k (.int .i64 0)), (.x 0 []), (.x 1 []), (.x 2 []), (.x 3 []), (.x 4 []), (.x 5 []), (.x 6 []), (.x 7 [])] [.one, .one, .one, .one, .one, .one, .one, .one, .one] 
(.df (.bin .lss 3) [(.x 107 []), (.k (.int .i64 64))] .one 
(.br 116 [] 
(.df (.call 32 [.no, .no, .no, .no]) [(.x 112 []), (.k (.int .i64 6)), (.k (.int .i64 11)), (.k (.int .i64 25))] .one 
(.df (.bin .add 43) [(.x 115 []), (.x 117 [])] .one 
(.df (.bin .xor 43) [(.x 113 []), (.x 114 [])] .one 
(.df (.bin .and 43) [(.x 112 []), (.x 119 [])] .one 
(.df (.bin .xor 43) [(.x 114 []), (.x 120 [])] .one 
(.df (.bin .add 43) [(.x 118 []), (.x 121 [])] .one 
(.df .bnd [(.k (.slice (some ⟨1, 0, none⟩) 64 64)), (.x 107 [])] .one 
(.df (.elem 1 0) [(.k (.slice (some ⟨1, 0, none⟩) 64 64)), (.x 107 [])] .one 
(.df (.bin .add 43) [(.x 122 []), (.x 124 [])] .one 
(.df .bnd [(.sl 1 0 64 64), (.x 107 [])] .one 
(.df (.relem 1 0) [(.cat [(.a [(.x 42 []), (.x 43 []), (.x 44 []), (.x 45 []), (.x 46 []), (.x 47 []), (.x 48 []), (.x 49 []), (.x 50 []), (.x 51 []), (.x 52 []), (.x 53 []), (.x 54 []), (.x 55 []), (.x 56 []), (.x 57 []), (.x 58 []), (.x 59 []), (.x 60 []), (.x 61 []), (.x 62 []), (.x 63 []), (.x 64 []), (.x 65 []), (.x 66 []), (.x 67 []), (.x 68 []), (.x 69 []), (.x 70 []), (.x 71 []), (.x 72 []), (.x 73 []), (.x 74 []), (.x 75 []), (.x 76 []), (.x 77 []), (.x 78 []), (.x 79 []), (.x 80 []), (.x 81 []), (.x 82 []), (.x 83 []), (.x 84 []), (.x 85 []), (.x 86 []), (.x 87 []), (.x 88 []), (.x 89 []), (.x 90 []), (.x 91 []), (.x 92 []), (.x 93 []), (.x 94 []), (.x 95 []), (.x 96 []), (.x 97 []), (.x 98 []), (.x 99 []), (.x 100 []), (.x 101 []), (.x 102 []), (.x 103 []), (.x 104 []), (.x 105 [])])]), (.x 107 [])] .one 
(.df (.bin .add 43) [(.x 125 []), (.x 127 [])] .one 
(.df (.call 32 [.no, .no, .no, .no]) [(.x 108 []), (.k (.int .i64 2)), (.k (.int .i64 13)), (.k (.int .i64 22))] .one 
(.df (.bin .and 43) [(.x 108 []), (.x 109 [])] .one 
(.df (.bin .or 43) [(.x 108 []), (.x 109 [])] .one 
(.df (.bin .and 43) [(.x 110 []), (.x 131 [])] .one 
(.df (.bin .or 43) [(.x 130 []), (.x 132 [])] .one 
(.df (.bin .add 43) [(.x 129 []), (.x 133 [])] .one 
(.df (.bin .add 43) [(.x 111 []), (.x 128 [])] .one 
(.df (.bin .add 43) [(.x 128 []), (.x 134 [])] .one 
(.df (.bin .add 3) [(.x 107 []), (.k (.int .i64 1))] .one 
(.again 1 [(.x 137 []), (.x 136 []), (.x 108 []), (.x 109 []), (.x 110 []), (.x 135 []), (.x 112 []), (.x 113 []), (.x 114 [])])))))))))))))))))))))) 
(.df (.bin .add 43) [(.x 0 []), (.x 108 [])] .one 
(.df (.bin .add 43) [(.x 1 []), (.x 109 [])] .one 
(.df (.bin .add 43) [(.x 2 []), (.x 110 [])] .one 
(.df (.bin .add 43) [(.x 3 []), (.x 111 [])] .one 
(.df (.bin .add 43) [(.x 4 []), (.x 112 [])] .one 
(.df (.bin .add 43) [(.x 5 []), (.x 113 [])] .one 
(.df (.bin .add 43) [(.x 6 []), (.x 114 [])] .one 
(.df (.bin .add 43) [(.x 7 []), (.x 115 [])] .one 
(.ret (.t []) [(some ⟨[(.x 117 []), (.x 118 []), (.x 119 []), (.x 120 []), (.x 121 []), (.x 122 []), (.x 123 []), (.x 124 [])], 45, .cells⟩), (some ⟨[(.x 42 []), (.x 43 []), (.x 44 []), (.x 45 []), (.x 46 []), (.x 47 []), (.x 48 []), (.x 49 []), (.x 50 []), (.x 51 []), (.x 52 []), (.x 53 []), (.x 54 []), (.x 55 []), (.x 56 []), (.x 57 []), (.x 58 []), (.x 59 []), (.x 60 []), (.x 61 []), (.x 62 []), (.x 63 []), (.x 64 []), (.x 65 []), (.x 66 []), (.x 67 []), (.x 68 []), (.x 69 []), (.x 70 []), (.x 71 []), (.x 72 []), (.x 73 []), (.x 74 []), (.x 75 []), (.x 76 []), (.x 77 []), (.x 78 []), (.x 79 []), (.x 80 []), (.x 81 []), (.x 82 []), (.x 83 []), (.x 84 []), (.x 85 []), (.x 86 []), (.x 87 []), (.x 88 []), (.x 89 []), (.x 90 []), (.x 91 []), (.x 92 []), (.x 93 []), (.x 94 []), (.x 95 []), (.x 96 []), (.x 97 []), (.x 98 []), (.x 99 []), (.x 100 []), (.x 101 []), (.x 102 []), (.x 103 []), (.x 104 []), (.x 105 [])], 56, .cells⟩), none, none, none, none, none, none, none, none, none, none, none, none, none, none, none, none, none, none, none, none, none, none, none, none, none, none, none, none, none, none, none, none, none, none, none, none, none, none, none, none, none, none, none, none, none, none, none, none, none, none, none, none, none, none, none, none, none, none, none, none, none, none, none, none, none, (some ⟨[(.x 108 []), (.x 109 []), (.x 110 []), (.x 111 []), (.x 112 []), (.x 113 []), (.x 114 []), (.x 115 [])], 45, .cells⟩), none, none, none, none, none, none, none, none, none] [[(some (.p 0 0))]])))))))))))))))))))))))))))))))))))))))))))))))
set_option maxRecDepth 100000 in
theorem run_absorb (K A : Value → Nat → List Value → Prop) : (SX.run (cxA K A) ⟨fun _ => false, [⟨24, 7, ((.s 6, .one) :: (List.range 64).map fun j => (.c 1 j, .one))⟩, ⟨24, 13, ((.s 69, .one) :: (List.range 8).map fun j => (.c 67 j, .one))⟩], 1, 100⟩ 100000 0 { fr := args_absorb.map some ++ List.replicate (Tryd.f24.ntmps - args_absorb.length) (some (.k undef)), stk := [(List.range (bl_absorb).length).map fun n => some (.p n 0)], hp := (bl_absorb).map some, ln := (bl_absorb).map some, sh := (List.replicate 8 .one ++ [.any]), kn := [], lps := [], cur := 24 } [.code (Tryd.f24.body.getD .skip), .top Tryd.f24]).strip = tree_absorb := by kernel_rfl
end Go.Proofs.YtockbjpldlopiaaDoor
