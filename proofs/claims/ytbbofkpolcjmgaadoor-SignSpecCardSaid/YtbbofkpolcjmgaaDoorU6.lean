/-
  The statement 'SignSpec' as its tied card: for every input the law returns true, and each argument reads as it read before; the listed variables are as the program's text lays them. No other condition.
-/
import Derived.Test.YtbbofkpolcjmgaaDoorU5
import Derived.Test.YtbbofkpolcjmgaaDoorCards
import Derived.Test.YtbbofkpolcjmgaaDoorTie
import Derived.SevenTiedAt
set_option linter.unusedSimpArgs false
set_option linter.unusedVariables false
namespace Go.Proofs.YtbbofkpolcjmgaaDoor
open Go Go.RowKit
set_option maxRecDepth 100000 in
set_option maxHeartbeats 4000000 in
theorem rblock_any (s : S8) (l : List W8) (hl : l.length = 64) (A : Option Addr) (n c : Nat) (w : World) (hr : Rd w 1 A n (l.flatMap c8)) (hc : n ≤ c) : Calls Tryd.prog 64 #[.agg s.cells.toArray, .slice A n c] w fun e w' => e = .returned (.agg (absorbE s l).cells.toArray) ∧ Below w.heap.size w w' := by
  obtain rfl : n = 64 := by have := hr.1; rw [SX.flat_len c8_len] at this; omega
  refine SX.calls_of_run (C := cxB (SX.SubK A 64 c 1 (l.flatMap c8)) (fun _ _ _ => False)) (G := ⟨fun _ => false, [⟨64, 7, ([(.s 7, .one)] ++ (List.range 64).map fun j => (.c 12 j, .one))⟩, ⟨64, 7, ([(.s 7, .one)] ++ (List.range 64).map fun j => (.c 11 j, .one))⟩, ⟨64, 7, ([(.s 7, .one)] ++ (List.range 64).map fun j => (.c 10 j, .one))⟩, ⟨64, 7, ([(.s 7, .one)] ++ (List.range 64).map fun j => (.c 9 j, .one))⟩, ⟨64, 7, ([(.s 7, .one)] ++ (List.range 64).map fun j => (.c 8 j, .one))⟩, ⟨64, 7, ([(.s 7, .one)] ++ (List.range 64).map fun j => (.c 7 j, .one))⟩, ⟨64, 7, ([(.s 7, .one)] ++ (List.range 64).map fun j => (.c 6 j, .one))⟩, ⟨64, 7, ([(.s 7, .one)] ++ (List.range 64).map fun j => (.c 5 j, .one))⟩, ⟨64, 7, ([(.s 7, .one)] ++ (List.range 64).map fun j => (.c 4 j, .one))⟩, ⟨64, 7, ([(.s 7, .one)] ++ (List.range 64).map fun j => (.c 3 j, .one))⟩, ⟨64, 7, ([(.s 7, .one)] ++ (List.range 64).map fun j => (.c 2 j, .one))⟩, ⟨64, 7, ([(.s 7, .one)] ++ (List.range 64).map fun j => (.c 1 j, .one))⟩, ⟨64, 15, [(.s 19, .one), (.s 11, .one), (.s 12, .one), (.s 13, .one), (.s 14, .one), (.s 15, .one), (.s 16, .one), (.s 17, .one), (.s 18, .one)]⟩], 0, 100⟩) (args := args_rblock) (sh := (List.replicate 8 .one ++ [.any])) (ρ := [w32 s.a, w32 s.b, w32 s.c, w32 s.d, w32 s.e, w32 s.f, w32 s.g, w32 s.h, .slice A 64 c]) 100000 tree_rblock (cxB_ok _ _) Tryd.func64 rfl (cast (by kernel_rfl) (run_rblock (SX.SubK A 64 c 1 (l.flatMap c8)) (fun _ _ _ => False))) (by kernel_rfl) (by kernel_rfl) (by kernel_rfl) (fun W hW s z xs h => SX.SubK.rd (hr.same0 hW) h) ?_
  have part : ∀ t, t < 16 → SX.SubK A 64 c 1 (l.flatMap c8) (SX.subS A 1 (4 * t) (4 * t + 4) c) 1 (((l.drop (4 * t)).take 4).flatMap c8) := fun t ht => by
    have := SX.SubK.part c8_len (A := A) (n := 64) (c := c) (L := l) (l := 4 * t) (h := 4 * t + 4) (m := c) (by omega) (by omega) (by omega) (by omega)
    rwa [show 4 * t + 4 - 4 * t = 4 by omega] at this
  unfold tree_rblock
  refine SX.E (SX.subS A 1 0 4 c) (fun α => slc_lh (n := 64) (lo := 0) (hi := 4) (by kernel_rfl) (by kernel_rfl) (by kernel_rfl) (by omega) (by omega)) ?_
  refine SX.E (w32 (wordAt l 0)) (fun α => ⟨[⟨SX.subS A 1 0 4 c, 1, ((l.drop (4 * 0)).take 4).flatMap c8⟩], ⟨by kernel_rfl, rfl, cast (by kernel_rfl) (part 0 (by omega)), trivial⟩, .inr (.inl ⟨rfl, _, _, by rw [List.length_take, List.length_drop]; omega, rfl, by rw [wordAt_r l 0 (by omega)]⟩), SX.noAli rfl⟩) ?_
  refine SX.E (SX.subS A 1 4 8 c) (fun α => slc_lh (n := 64) (lo := 4) (hi := 8) (by kernel_rfl) (by kernel_rfl) (by kernel_rfl) (by omega) (by omega)) ?_
  refine SX.E (w32 (wordAt l 1)) (fun α => ⟨[⟨SX.subS A 1 4 8 c, 1, ((l.drop (4 * 1)).take 4).flatMap c8⟩], ⟨by kernel_rfl, rfl, cast (by kernel_rfl) (part 1 (by omega)), trivial⟩, .inr (.inl ⟨rfl, _, _, by rw [List.length_take, List.length_drop]; omega, rfl, by rw [wordAt_r l 1 (by omega)]⟩), SX.noAli rfl⟩) ?_
  refine SX.E (SX.subS A 1 8 12 c) (fun α => slc_lh (n := 64) (lo := 8) (hi := 12) (by kernel_rfl) (by kernel_rfl) (by kernel_rfl) (by omega) (by omega)) ?_
  refine SX.E (w32 (wordAt l 2)) (fun α => ⟨[⟨SX.subS A 1 8 12 c, 1, ((l.drop (4 * 2)).take 4).flatMap c8⟩], ⟨by kernel_rfl, rfl, cast (by kernel_rfl) (part 2 (by omega)), trivial⟩, .inr (.inl ⟨rfl, _, _, by rw [List.length_take, List.length_drop]; omega, rfl, by rw [wordAt_r l 2 (by omega)]⟩), SX.noAli rfl⟩) ?_
  refine SX.E (SX.subS A 1 12 16 c) (fun α => slc_lh (n := 64) (lo := 12) (hi := 16) (by kernel_rfl) (by kernel_rfl) (by kernel_rfl) (by omega) (by omega)) ?_
  refine SX.E (w32 (wordAt l 3)) (fun α => ⟨[⟨SX.subS A 1 12 16 c, 1, ((l.drop (4 * 3)).take 4).flatMap c8⟩], ⟨by kernel_rfl, rfl, cast (by kernel_rfl) (part 3 (by omega)), trivial⟩, .inr (.inl ⟨rfl, _, _, by rw [List.length_take, List.length_drop]; omega, rfl, by rw [wordAt_r l 3 (by omega)]⟩), SX.noAli rfl⟩) ?_
  refine SX.E (SX.subS A 1 16 20 c) (fun α => slc_lh (n := 64) (lo := 16) (hi := 20) (by kernel_rfl) (by kernel_rfl) (by kernel_rfl) (by omega) (by omega)) ?_
  refine SX.E (w32 (wordAt l 4)) (fun α => ⟨[⟨SX.subS A 1 16 20 c, 1, ((l.drop (4 * 4)).take 4).flatMap c8⟩], ⟨by kernel_rfl, rfl, cast (by kernel_rfl) (part 4 (by omega)), trivial⟩, .inr (.inl ⟨rfl, _, _, by rw [List.length_take, List.length_drop]; omega, rfl, by rw [wordAt_r l 4 (by omega)]⟩), SX.noAli rfl⟩) ?_
  refine SX.E (SX.subS A 1 20 24 c) (fun α => slc_lh (n := 64) (lo := 20) (hi := 24) (by kernel_rfl) (by kernel_rfl) (by kernel_rfl) (by omega) (by omega)) ?_
  refine SX.E (w32 (wordAt l 5)) (fun α => ⟨[⟨SX.subS A 1 20 24 c, 1, ((l.drop (4 * 5)).take 4).flatMap c8⟩], ⟨by kernel_rfl, rfl, cast (by kernel_rfl) (part 5 (by omega)), trivial⟩, .inr (.inl ⟨rfl, _, _, by rw [List.length_take, List.length_drop]; omega, rfl, by rw [wordAt_r l 5 (by omega)]⟩), SX.noAli rfl⟩) ?_
  refine SX.E (SX.subS A 1 24 28 c) (fun α => slc_lh (n := 64) (lo := 24) (hi := 28) (by kernel_rfl) (by kernel_rfl) (by kernel_rfl) (by omega) (by omega)) ?_
  refine SX.E (w32 (wordAt l 6)) (fun α => ⟨[⟨SX.subS A 1 24 28 c, 1, ((l.drop (4 * 6)).take 4).flatMap c8⟩], ⟨by kernel_rfl, rfl, cast (by kernel_rfl) (part 6 (by omega)), trivial⟩, .inr (.inl ⟨rfl, _, _, by rw [List.length_take, List.length_drop]; omega, rfl, by rw [wordAt_r l 6 (by omega)]⟩), SX.noAli rfl⟩) ?_
  refine SX.E (SX.subS A 1 28 32 c) (fun α => slc_lh (n := 64) (lo := 28) (hi := 32) (by kernel_rfl) (by kernel_rfl) (by kernel_rfl) (by omega) (by omega)) ?_
  refine SX.E (w32 (wordAt l 7)) (fun α => ⟨[⟨SX.subS A 1 28 32 c, 1, ((l.drop (4 * 7)).take 4).flatMap c8⟩], ⟨by kernel_rfl, rfl, cast (by kernel_rfl) (part 7 (by omega)), trivial⟩, .inr (.inl ⟨rfl, _, _, by rw [List.length_take, List.length_drop]; omega, rfl, by rw [wordAt_r l 7 (by omega)]⟩), SX.noAli rfl⟩) ?_
  refine SX.E (SX.subS A 1 32 36 c) (fun α => slc_lh (n := 64) (lo := 32) (hi := 36) (by kernel_rfl) (by kernel_rfl) (by kernel_rfl) (by omega) (by omega)) ?_
  refine SX.E (w32 (wordAt l 8)) (fun α => ⟨[⟨SX.subS A 1 32 36 c, 1, ((l.drop (4 * 8)).take 4).flatMap c8⟩], ⟨by kernel_rfl, rfl, cast (by kernel_rfl) (part 8 (by omega)), trivial⟩, .inr (.inl ⟨rfl, _, _, by rw [List.length_take, List.length_drop]; omega, rfl, by rw [wordAt_r l 8 (by omega)]⟩), SX.noAli rfl⟩) ?_
  refine SX.E (SX.subS A 1 36 40 c) (fun α => slc_lh (n := 64) (lo := 36) (hi := 40) (by kernel_rfl) (by kernel_rfl) (by kernel_rfl) (by omega) (by omega)) ?_
  refine SX.E (w32 (wordAt l 9)) (fun α => ⟨[⟨SX.subS A 1 36 40 c, 1, ((l.drop (4 * 9)).take 4).flatMap c8⟩], ⟨by kernel_rfl, rfl, cast (by kernel_rfl) (part 9 (by omega)), trivial⟩, .inr (.inl ⟨rfl, _, _, by rw [List.length_take, List.length_drop]; omega, rfl, by rw [wordAt_r l 9 (by omega)]⟩), SX.noAli rfl⟩) ?_
  refine SX.E (SX.subS A 1 40 44 c) (fun α => slc_lh (n := 64) (lo := 40) (hi := 44) (by kernel_rfl) (by kernel_rfl) (by kernel_rfl) (by omega) (by omega)) ?_
  refine SX.E (w32 (wordAt l 10)) (fun α => ⟨[⟨SX.subS A 1 40 44 c, 1, ((l.drop (4 * 10)).take 4).flatMap c8⟩], ⟨by kernel_rfl, rfl, cast (by kernel_rfl) (part 10 (by omega)), trivial⟩, .inr (.inl ⟨rfl, _, _, by rw [List.length_take, List.length_drop]; omega, rfl, by rw [wordAt_r l 10 (by omega)]⟩), SX.noAli rfl⟩) ?_
  refine SX.E (SX.subS A 1 44 48 c) (fun α => slc_lh (n := 64) (lo := 44) (hi := 48) (by kernel_rfl) (by kernel_rfl) (by kernel_rfl) (by omega) (by omega)) ?_
  refine SX.E (w32 (wordAt l 11)) (fun α => ⟨[⟨SX.subS A 1 44 48 c, 1, ((l.drop (4 * 11)).take 4).flatMap c8⟩], ⟨by kernel_rfl, rfl, cast (by kernel_rfl) (part 11 (by omega)), trivial⟩, .inr (.inl ⟨rfl, _, _, by rw [List.length_take, List.length_drop]; omega, rfl, by rw [wordAt_r l 11 (by omega)]⟩), SX.noAli rfl⟩) ?_
  refine SX.E (SX.subS A 1 48 52 c) (fun α => slc_lh (n := 64) (lo := 48) (hi := 52) (by kernel_rfl) (by kernel_rfl) (by kernel_rfl) (by omega) (by omega)) ?_
  refine SX.E (w32 (wordAt l 12)) (fun α => ⟨[⟨SX.subS A 1 48 52 c, 1, ((l.drop (4 * 12)).take 4).flatMap c8⟩], ⟨by kernel_rfl, rfl, cast (by kernel_rfl) (part 12 (by omega)), trivial⟩, .inr (.inl ⟨rfl, _, _, by rw [List.length_take, List.length_drop]; omega, rfl, by rw [wordAt_r l 12 (by omega)]⟩), SX.noAli rfl⟩) ?_
  refine SX.E (SX.subS A 1 52 56 c) (fun α => slc_lh (n := 64) (lo := 52) (hi := 56) (by kernel_rfl) (by kernel_rfl) (by kernel_rfl) (by omega) (by omega)) ?_
  refine SX.E (w32 (wordAt l 13)) (fun α => ⟨[⟨SX.subS A 1 52 56 c, 1, ((l.drop (4 * 13)).take 4).flatMap c8⟩], ⟨by kernel_rfl, rfl, cast (by kernel_rfl) (part 13 (by omega)), trivial⟩, .inr (.inl ⟨rfl, _, _, by rw [List.length_take, List.length_drop]; omega, rfl, by rw [wordAt_r l 13 (by omega)]⟩), SX.noAli rfl⟩) ?_
  refine SX.E (SX.subS A 1 56 60 c) (fun α => slc_lh (n := 64) (lo := 56) (hi := 60) (by kernel_rfl) (by kernel_rfl) (by kernel_rfl) (by omega) (by omega)) ?_
  refine SX.E (w32 (wordAt l 14)) (fun α => ⟨[⟨SX.subS A 1 56 60 c, 1, ((l.drop (4 * 14)).take 4).flatMap c8⟩], ⟨by kernel_rfl, rfl, cast (by kernel_rfl) (part 14 (by omega)), trivial⟩, .inr (.inl ⟨rfl, _, _, by rw [List.length_take, List.length_drop]; omega, rfl, by rw [wordAt_r l 14 (by omega)]⟩), SX.noAli rfl⟩) ?_
  refine SX.E (SX.subS A 1 60 64 c) (fun α => slc_lh (n := 64) (lo := 60) (hi := 64) (by kernel_rfl) (by kernel_rfl) (by kernel_rfl) (by omega) (by omega)) ?_
  refine SX.E (w32 (wordAt l 15)) (fun α => ⟨[⟨SX.subS A 1 60 64 c, 1, ((l.drop (4 * 15)).take 4).flatMap c8⟩], ⟨by kernel_rfl, rfl, cast (by kernel_rfl) (part 15 (by omega)), trivial⟩, .inr (.inl ⟨rfl, _, _, by rw [List.length_take, List.length_drop]; omega, rfl, by rw [wordAt_r l 15 (by omega)]⟩), SX.noAli rfl⟩) ?_
  refine SX.VC_loop (fun xs => ∃ k : Nat, xs = .int .i64 ((16 + k : Nat) : Int) :: (expd l k).map w32 ∧ k ≤ 48) (fun xs => match xs with | .int _ i :: _ => 64 - i.toNat | _ => 0) (fun α => ⟨0, Eq.trans (b := .int .i64 16 :: ([wordAt l 0, wordAt l 1, wordAt l 2, wordAt l 3, wordAt l 4, wordAt l 5, wordAt l 6, wordAt l 7, wordAt l 8, wordAt l 9, wordAt l 10, wordAt l 11, wordAt l 12, wordAt l 13, wordAt l 14, wordAt l 15, 0, 0, 0, 0, 0, 0, 0, 0, 0, 0, 0, 0, 0, 0, 0, 0, 0, 0, 0, 0, 0, 0, 0, 0, 0, 0, 0, 0, 0, 0, 0, 0, 0, 0, 0, 0, 0, 0, 0, 0, 0, 0, 0, 0, 0, 0, 0, 0] : List W32).map w32) (by kernel_rfl) (by rfl), by omega⟩) ?_
  rintro xs - ⟨k, rfl, hk⟩
  obtain ⟨g, hu⟩ := list64 (expd l k) (expd_len l k)
  have hL := expd_len l k
  rw [hu]
  refine SX.D (.bool (decide (((16 + k : Nat) : Int) < 64))) ?_
  refine SX.B (decide (((16 + k : Nat) : Int) < 64)) (fun hlt => ?_) (fun hge => ?_)
  · have hk2 : k < 48 := by simp only [decide_eq_true_eq] at hlt; omega
    refine SX.E (.int .i64 ((16 + k - 15 : Nat) : Int)) (fun α => cast (by kernel_rfl) (i_sub (a := 16 + k) (b := 15) (d := 16 + k - 15) (by omega) (by omega))) ?_
    refine SX.E (.bool true) (fun α => SX.extBnd (A := some ⟨(α 2).b, 0, none⟩) (n := 64) (c := 64) (j := (16 + k - 15)) (fun _ => rfl) rfl (by kernel_rfl) (by omega)) ?_
    refine SX.E (w32 ((expd l k).getD (16 + k - 15) 0)) (fun α => relemW (u := (expd l k)) (k := (16 + k - 15)) (by rw [hu]; kernel_rfl) (by kernel_rfl) (by rw [hL]; omega)) ?_
    refine SX.E (.int .i64 ((16 + k - 2 : Nat) : Int)) (fun α => cast (by kernel_rfl) (i_sub (a := 16 + k) (b := 2) (d := 16 + k - 2) (by omega) (by omega))) ?_
    refine SX.E (.bool true) (fun α => SX.extBnd (A := some ⟨(α 2).b, 0, none⟩) (n := 64) (c := 64) (j := (16 + k - 2)) (fun _ => rfl) rfl (by kernel_rfl) (by omega)) ?_
    refine SX.E (w32 ((expd l k).getD (16 + k - 2) 0)) (fun α => relemW (u := (expd l k)) (k := (16 + k - 2)) (by rw [hu]; kernel_rfl) (by kernel_rfl) (by rw [hL]; omega)) ?_
    refine SX.E (.int .i64 ((16 + k - 16 : Nat) : Int)) (fun α => cast (by kernel_rfl) (i_sub (a := 16 + k) (b := 16) (d := 16 + k - 16) (by omega) (by omega))) ?_
    refine SX.E (.bool true) (fun α => SX.extBnd (A := some ⟨(α 2).b, 0, none⟩) (n := 64) (c := 64) (j := (16 + k - 16)) (fun _ => rfl) rfl (by kernel_rfl) (by omega)) ?_
    refine SX.E (w32 ((expd l k).getD (16 + k - 16) 0)) (fun α => relemW (u := (expd l k)) (k := (16 + k - 16)) (by rw [hu]; kernel_rfl) (by kernel_rfl) (by rw [hL]; omega)) ?_
    refine SX.E (w32 (rorE ((expd l k).getD (16 + k - 15) 0) 7)) (fun α => ⟨[⟨w32 ((expd l k).getD (16 + k - 15) 0), 0, []⟩, ⟨.int .i64 7, 0, []⟩], ⟨by kernel_rfl, by kernel_rfl, by kernel_rfl, by kernel_rfl, trivial⟩, .inl ⟨rfl, ((expd l k).getD (16 + k - 15) 0), 7, by omega, by omega, rfl, rfl⟩, SX.noAli rfl⟩) ?_
    refine SX.E (w32 (rorE ((expd l k).getD (16 + k - 15) 0) 18)) (fun α => ⟨[⟨w32 ((expd l k).getD (16 + k - 15) 0), 0, []⟩, ⟨.int .i64 18, 0, []⟩], ⟨by kernel_rfl, by kernel_rfl, by kernel_rfl, by kernel_rfl, trivial⟩, .inl ⟨rfl, ((expd l k).getD (16 + k - 15) 0), 18, by omega, by omega, rfl, rfl⟩, SX.noAli rfl⟩) ?_
    refine SX.E (w32 ((rorE ((expd l k).getD (16 + k - 15) 0) 7) ^^^ (rorE ((expd l k).getD (16 + k - 15) 0) 18))) (fun α => cast (by kernel_rfl) (w_xor (rorE ((expd l k).getD (16 + k - 15) 0) 7) (rorE ((expd l k).getD (16 + k - 15) 0) 18))) ?_
    refine SX.E (w32 (((expd l k).getD (16 + k - 15) 0) >>> 3)) (fun α => cast (by kernel_rfl) (w_shr ((expd l k).getD (16 + k - 15) 0) .u64 3 (by omega))) ?_
    refine SX.E (w32 (((rorE ((expd l k).getD (16 + k - 15) 0) 7) ^^^ (rorE ((expd l k).getD (16 + k - 15) 0) 18)) ^^^ (((expd l k).getD (16 + k - 15) 0) >>> 3))) (fun α => cast (by kernel_rfl) (w_xor ((rorE ((expd l k).getD (16 + k - 15) 0) 7) ^^^ (rorE ((expd l k).getD (16 + k - 15) 0) 18)) (((expd l k).getD (16 + k - 15) 0) >>> 3))) ?_
    refine SX.E (w32 (((expd l k).getD (16 + k - 16) 0) + (((rorE ((expd l k).getD (16 + k - 15) 0) 7) ^^^ (rorE ((expd l k).getD (16 + k - 15) 0) 18)) ^^^ (((expd l k).getD (16 + k - 15) 0) >>> 3)))) (fun α => cast (by kernel_rfl) (w_add ((expd l k).getD (16 + k - 16) 0) (((rorE ((expd l k).getD (16 + k - 15) 0) 7) ^^^ (rorE ((expd l k).getD (16 + k - 15) 0) 18)) ^^^ (((expd l k).getD (16 + k - 15) 0) >>> 3)))) ?_
    refine SX.E (.int .i64 ((16 + k - 7 : Nat) : Int)) (fun α => cast (by kernel_rfl) (i_sub (a := 16 + k) (b := 7) (d := 16 + k - 7) (by omega) (by omega))) ?_
    refine SX.E (.bool true) (fun α => SX.extBnd (A := some ⟨(α 2).b, 0, none⟩) (n := 64) (c := 64) (j := (16 + k - 7)) (fun _ => rfl) rfl (by kernel_rfl) (by omega)) ?_
    refine SX.E (w32 ((expd l k).getD (16 + k - 7) 0)) (fun α => relemW (u := (expd l k)) (k := (16 + k - 7)) (by rw [hu]; kernel_rfl) (by kernel_rfl) (by rw [hL]; omega)) ?_
    refine SX.E (w32 ((((expd l k).getD (16 + k - 16) 0) + (((rorE ((expd l k).getD (16 + k - 15) 0) 7) ^^^ (rorE ((expd l k).getD (16 + k - 15) 0) 18)) ^^^ (((expd l k).getD (16 + k - 15) 0) >>> 3))) + ((expd l k).getD (16 + k - 7) 0))) (fun α => cast (by kernel_rfl) (w_add (((expd l k).getD (16 + k - 16) 0) + (((rorE ((expd l k).getD (16 + k - 15) 0) 7) ^^^ (rorE ((expd l k).getD (16 + k - 15) 0) 18)) ^^^ (((expd l k).getD (16 + k - 15) 0) >>> 3))) ((expd l k).getD (16 + k - 7) 0))) ?_
    refine SX.E (w32 (rorE ((expd l k).getD (16 + k - 2) 0) 17)) (fun α => ⟨[⟨w32 ((expd l k).getD (16 + k - 2) 0), 0, []⟩, ⟨.int .i64 17, 0, []⟩], ⟨by kernel_rfl, by kernel_rfl, by kernel_rfl, by kernel_rfl, trivial⟩, .inl ⟨rfl, ((expd l k).getD (16 + k - 2) 0), 17, by omega, by omega, rfl, rfl⟩, SX.noAli rfl⟩) ?_
    refine SX.E (w32 (rorE ((expd l k).getD (16 + k - 2) 0) 19)) (fun α => ⟨[⟨w32 ((expd l k).getD (16 + k - 2) 0), 0, []⟩, ⟨.int .i64 19, 0, []⟩], ⟨by kernel_rfl, by kernel_rfl, by kernel_rfl, by kernel_rfl, trivial⟩, .inl ⟨rfl, ((expd l k).getD (16 + k - 2) 0), 19, by omega, by omega, rfl, rfl⟩, SX.noAli rfl⟩) ?_
    refine SX.E (w32 ((rorE ((expd l k).getD (16 + k - 2) 0) 17) ^^^ (rorE ((expd l k).getD (16 + k - 2) 0) 19))) (fun α => cast (by kernel_rfl) (w_xor (rorE ((expd l k).getD (16 + k - 2) 0) 17) (rorE ((expd l k).getD (16 + k - 2) 0) 19))) ?_
    refine SX.E (w32 (((expd l k).getD (16 + k - 2) 0) >>> 10)) (fun α => cast (by kernel_rfl) (w_shr ((expd l k).getD (16 + k - 2) 0) .u64 10 (by omega))) ?_
    refine SX.E (w32 (((rorE ((expd l k).getD (16 + k - 2) 0) 17) ^^^ (rorE ((expd l k).getD (16 + k - 2) 0) 19)) ^^^ (((expd l k).getD (16 + k - 2) 0) >>> 10))) (fun α => cast (by kernel_rfl) (w_xor ((rorE ((expd l k).getD (16 + k - 2) 0) 17) ^^^ (rorE ((expd l k).getD (16 + k - 2) 0) 19)) (((expd l k).getD (16 + k - 2) 0) >>> 10))) ?_
    refine SX.E (w32 (((((expd l k).getD (16 + k - 16) 0) + (((rorE ((expd l k).getD (16 + k - 15) 0) 7) ^^^ (rorE ((expd l k).getD (16 + k - 15) 0) 18)) ^^^ (((expd l k).getD (16 + k - 15) 0) >>> 3))) + ((expd l k).getD (16 + k - 7) 0)) + (((rorE ((expd l k).getD (16 + k - 2) 0) 17) ^^^ (rorE ((expd l k).getD (16 + k - 2) 0) 19)) ^^^ (((expd l k).getD (16 + k - 2) 0) >>> 10)))) (fun α => cast (by kernel_rfl) (w_add ((((expd l k).getD (16 + k - 16) 0) + (((rorE ((expd l k).getD (16 + k - 15) 0) 7) ^^^ (rorE ((expd l k).getD (16 + k - 15) 0) 18)) ^^^ (((expd l k).getD (16 + k - 15) 0) >>> 3))) + ((expd l k).getD (16 + k - 7) 0)) (((rorE ((expd l k).getD (16 + k - 2) 0) 17) ^^^ (rorE ((expd l k).getD (16 + k - 2) 0) 19)) ^^^ (((expd l k).getD (16 + k - 2) 0) >>> 10)))) ?_
    refine SX.E (.bool true) (fun α => SX.extBnd (A := some ⟨(α 2).b, 0, none⟩) (n := 64) (c := 64) (j := (16 + k)) (fun _ => rfl) rfl (by kernel_rfl) (by omega)) ?_
    refine SX.VC_df (.agg (((expd l k).set (16 + k) (nextW (expd l k) (16 + k))).map w32).toArray) (fun α => by rw [← rnextW_eq]; exact rsetW (u := (expd l k)) (k := 16 + k) (y := rnextW (expd l k) (16 + k)) (by rw [hu]; kernel_rfl) (by kernel_rfl) (by kernel_rfl) (by rw [hL]; omega)) (fitW _ (by simp [expd_len])) ?_
    refine SX.E (.int .i64 ((16 + (k + 1) : Nat) : Int)) (fun α => cast (by kernel_rfl) (i_add (a := 16 + k) (b := 1) (d := 16 + (k + 1)) (by omega) (by omega))) ?_
    exact VC_again2 rfl (fun α => ⟨k + 1, again_den (v0 := .x 134 []) (m := 133) (N := 64) (by kernel_rfl) (by kernel_rfl) (by kernel_rfl) (by simp [expd_len]), by omega⟩) (fun α => cast (by kernel_rfl) (show 64 - (16 + (k + 1)) < 64 - (16 + k) by omega))
  obtain rfl : k = 48 := by simp only [decide_eq_false_iff_not] at hge; omega
  refine SX.E (.agg (numbersK.flatMap c32).toArray) (fun α => ⟨[], trivial, .inr (.inr ⟨rfl, rfl, rfl⟩), SX.noAli rfl⟩) ?_
  refine SX.VC_loop (fun xs => ∃ j : Nat, xs = .int .i64 (j : Int) :: (rnds (expd l 48) s j).cells ∧ j ≤ 64) (fun xs => match xs with | .int _ i :: _ => 64 - i.toNat | _ => 0) (fun α => ⟨0, by kernel_rfl, by omega⟩) ?_
  rintro xs - ⟨j, rfl, hj⟩
  generalize hv : rnds (expd l 48) s j = v
  refine SX.D (.bool (decide ((j : Int) < 64))) ?_
  refine SX.B (decide ((j : Int) < 64)) (fun hlt => ?_) (fun hge => ?_)
  · have hj2 : j < 64 := by simp only [decide_eq_true_eq] at hlt; omega
    obtain ⟨kn, hkn2⟩ : ∃ z, numbersK.getD j 0 = z := ⟨_, rfl⟩
    refine SX.E (w32 (rorE v.e 6)) (fun α => ⟨[⟨w32 v.e, 0, []⟩, ⟨.int .i64 6, 0, []⟩], ⟨by kernel_rfl, by kernel_rfl, by kernel_rfl, by kernel_rfl, trivial⟩, .inl ⟨rfl, v.e, 6, by omega, by omega, rfl, rfl⟩, SX.noAli rfl⟩) ?_
    refine SX.E (w32 (rorE v.e 11)) (fun α => ⟨[⟨w32 v.e, 0, []⟩, ⟨.int .i64 11, 0, []⟩], ⟨by kernel_rfl, by kernel_rfl, by kernel_rfl, by kernel_rfl, trivial⟩, .inl ⟨rfl, v.e, 11, by omega, by omega, rfl, rfl⟩, SX.noAli rfl⟩) ?_
    refine SX.E (w32 ((rorE v.e 6) ^^^ (rorE v.e 11))) (fun α => cast (by kernel_rfl) (w_xor (rorE v.e 6) (rorE v.e 11))) ?_
    refine SX.E (w32 (rorE v.e 25)) (fun α => ⟨[⟨w32 v.e, 0, []⟩, ⟨.int .i64 25, 0, []⟩], ⟨by kernel_rfl, by kernel_rfl, by kernel_rfl, by kernel_rfl, trivial⟩, .inl ⟨rfl, v.e, 25, by omega, by omega, rfl, rfl⟩, SX.noAli rfl⟩) ?_
    refine SX.E (w32 (((rorE v.e 6) ^^^ (rorE v.e 11)) ^^^ (rorE v.e 25))) (fun α => cast (by kernel_rfl) (w_xor ((rorE v.e 6) ^^^ (rorE v.e 11)) (rorE v.e 25))) ?_
    refine SX.E (w32 (v.h + (((rorE v.e 6) ^^^ (rorE v.e 11)) ^^^ (rorE v.e 25)))) (fun α => cast (by kernel_rfl) (w_add v.h (((rorE v.e 6) ^^^ (rorE v.e 11)) ^^^ (rorE v.e 25)))) ?_
    refine SX.E (w32 (v.e &&& v.f)) (fun α => cast (by kernel_rfl) (w_and v.e v.f)) ?_
    refine SX.E (w32 (~~~v.e)) (fun α => cast (by kernel_rfl) (w_cpl v.e)) ?_
    refine SX.E (w32 ((~~~v.e) &&& v.g)) (fun α => cast (by kernel_rfl) (w_and (~~~v.e) v.g)) ?_
    refine SX.E (w32 ((v.e &&& v.f) ^^^ ((~~~v.e) &&& v.g))) (fun α => cast (by kernel_rfl) (w_xor (v.e &&& v.f) ((~~~v.e) &&& v.g))) ?_
    refine SX.E (w32 ((v.h + (((rorE v.e 6) ^^^ (rorE v.e 11)) ^^^ (rorE v.e 25))) + ((v.e &&& v.f) ^^^ ((~~~v.e) &&& v.g)))) (fun α => cast (by kernel_rfl) (w_add (v.h + (((rorE v.e 6) ^^^ (rorE v.e 11)) ^^^ (rorE v.e 25))) ((v.e &&& v.f) ^^^ ((~~~v.e) &&& v.g)))) ?_
    refine SX.E (.bool true) (fun α => SX.extBnd (A := some ⟨(α 68).b, 0, none⟩) (n := 64) (c := 64) (j := j) (fun _ => rfl) rfl (by kernel_rfl) (by omega)) ?_
    refine SX.E (w32 kn) (fun α => by rw [← hkn2]; exact relemW (u := numbersK) (k := j) (by kernel_rfl) (by kernel_rfl) hj2) ?_
    refine SX.E (w32 (((v.h + (((rorE v.e 6) ^^^ (rorE v.e 11)) ^^^ (rorE v.e 25))) + ((v.e &&& v.f) ^^^ ((~~~v.e) &&& v.g))) + kn)) (fun α => cast (by kernel_rfl) (w_add ((v.h + (((rorE v.e 6) ^^^ (rorE v.e 11)) ^^^ (rorE v.e 25))) + ((v.e &&& v.f) ^^^ ((~~~v.e) &&& v.g))) kn)) ?_
    refine SX.E (.bool true) (fun α => SX.extBnd (A := some ⟨(α 2).b, 0, none⟩) (n := 64) (c := 64) (j := j) (fun _ => rfl) rfl (by kernel_rfl) (by omega)) ?_
    refine SX.E (w32 ((expd l 48).getD j 0)) (fun α => relemW (u := (expd l 48)) (k := j) (by rw [hu]; kernel_rfl) (by kernel_rfl) (by rw [hL]; omega)) ?_
    refine SX.E (w32 ((((v.h + (((rorE v.e 6) ^^^ (rorE v.e 11)) ^^^ (rorE v.e 25))) + ((v.e &&& v.f) ^^^ ((~~~v.e) &&& v.g))) + kn) + ((expd l 48).getD j 0))) (fun α => cast (by kernel_rfl) (w_add (((v.h + (((rorE v.e 6) ^^^ (rorE v.e 11)) ^^^ (rorE v.e 25))) + ((v.e &&& v.f) ^^^ ((~~~v.e) &&& v.g))) + kn) ((expd l 48).getD j 0))) ?_
    refine SX.E (w32 (rorE v.a 2)) (fun α => ⟨[⟨w32 v.a, 0, []⟩, ⟨.int .i64 2, 0, []⟩], ⟨by kernel_rfl, by kernel_rfl, by kernel_rfl, by kernel_rfl, trivial⟩, .inl ⟨rfl, v.a, 2, by omega, by omega, rfl, rfl⟩, SX.noAli rfl⟩) ?_
    refine SX.E (w32 (rorE v.a 13)) (fun α => ⟨[⟨w32 v.a, 0, []⟩, ⟨.int .i64 13, 0, []⟩], ⟨by kernel_rfl, by kernel_rfl, by kernel_rfl, by kernel_rfl, trivial⟩, .inl ⟨rfl, v.a, 13, by omega, by omega, rfl, rfl⟩, SX.noAli rfl⟩) ?_
    refine SX.E (w32 ((rorE v.a 2) ^^^ (rorE v.a 13))) (fun α => cast (by kernel_rfl) (w_xor (rorE v.a 2) (rorE v.a 13))) ?_
    refine SX.E (w32 (rorE v.a 22)) (fun α => ⟨[⟨w32 v.a, 0, []⟩, ⟨.int .i64 22, 0, []⟩], ⟨by kernel_rfl, by kernel_rfl, by kernel_rfl, by kernel_rfl, trivial⟩, .inl ⟨rfl, v.a, 22, by omega, by omega, rfl, rfl⟩, SX.noAli rfl⟩) ?_
    refine SX.E (w32 (((rorE v.a 2) ^^^ (rorE v.a 13)) ^^^ (rorE v.a 22))) (fun α => cast (by kernel_rfl) (w_xor ((rorE v.a 2) ^^^ (rorE v.a 13)) (rorE v.a 22))) ?_
    refine SX.E (w32 (v.a &&& v.b)) (fun α => cast (by kernel_rfl) (w_and v.a v.b)) ?_
    refine SX.E (w32 (v.a &&& v.c)) (fun α => cast (by kernel_rfl) (w_and v.a v.c)) ?_
    refine SX.E (w32 ((v.a &&& v.b) ^^^ (v.a &&& v.c))) (fun α => cast (by kernel_rfl) (w_xor (v.a &&& v.b) (v.a &&& v.c))) ?_
    refine SX.E (w32 (v.b &&& v.c)) (fun α => cast (by kernel_rfl) (w_and v.b v.c)) ?_
    refine SX.E (w32 (((v.a &&& v.b) ^^^ (v.a &&& v.c)) ^^^ (v.b &&& v.c))) (fun α => cast (by kernel_rfl) (w_xor ((v.a &&& v.b) ^^^ (v.a &&& v.c)) (v.b &&& v.c))) ?_
    refine SX.E (w32 ((((rorE v.a 2) ^^^ (rorE v.a 13)) ^^^ (rorE v.a 22)) + (((v.a &&& v.b) ^^^ (v.a &&& v.c)) ^^^ (v.b &&& v.c)))) (fun α => cast (by kernel_rfl) (w_add (((rorE v.a 2) ^^^ (rorE v.a 13)) ^^^ (rorE v.a 22)) (((v.a &&& v.b) ^^^ (v.a &&& v.c)) ^^^ (v.b &&& v.c)))) ?_
    refine SX.E (w32 (v.d + ((((v.h + (((rorE v.e 6) ^^^ (rorE v.e 11)) ^^^ (rorE v.e 25))) + ((v.e &&& v.f) ^^^ ((~~~v.e) &&& v.g))) + kn) + ((expd l 48).getD j 0)))) (fun α => cast (by kernel_rfl) (w_add v.d ((((v.h + (((rorE v.e 6) ^^^ (rorE v.e 11)) ^^^ (rorE v.e 25))) + ((v.e &&& v.f) ^^^ ((~~~v.e) &&& v.g))) + kn) + ((expd l 48).getD j 0)))) ?_
    refine SX.E (w32 (((((v.h + (((rorE v.e 6) ^^^ (rorE v.e 11)) ^^^ (rorE v.e 25))) + ((v.e &&& v.f) ^^^ ((~~~v.e) &&& v.g))) + kn) + ((expd l 48).getD j 0)) + ((((rorE v.a 2) ^^^ (rorE v.a 13)) ^^^ (rorE v.a 22)) + (((v.a &&& v.b) ^^^ (v.a &&& v.c)) ^^^ (v.b &&& v.c))))) (fun α => cast (by kernel_rfl) (w_add ((((v.h + (((rorE v.e 6) ^^^ (rorE v.e 11)) ^^^ (rorE v.e 25))) + ((v.e &&& v.f) ^^^ ((~~~v.e) &&& v.g))) + kn) + ((expd l 48).getD j 0)) ((((rorE v.a 2) ^^^ (rorE v.a 13)) ^^^ (rorE v.a 22)) + (((v.a &&& v.b) ^^^ (v.a &&& v.c)) ^^^ (v.b &&& v.c))))) ?_
    refine SX.E (.int .i64 ((j + 1 : Nat) : Int)) (fun α => cast (by kernel_rfl) (i_add (a := j) (b := 1) (d := j + 1) rfl (by omega))) ?_
    exact VC_again2 rfl (fun α => ⟨j + 1, Eq.trans (b := .int .i64 ((j + 1 : Nat) : Int) :: (S8.cells ⟨v.rp kn ((expd l 48).getD j 0) + v.rq, v.a, v.b, v.c, v.d + v.rp kn ((expd l 48).getD j 0), v.e, v.f, v.g⟩)) (by kernel_rfl) (by rw [← rrnd_eq, rnds_succ hv hkn2]), by omega⟩) (fun α => cast (by kernel_rfl) (show 64 - (j + 1) < 64 - j by omega))
  obtain rfl : j = 64 := by simp only [decide_eq_false_iff_not] at hge; omega
  refine SX.E (w32 (s.a + v.a)) (fun α => cast (by kernel_rfl) (w_add s.a v.a)) ?_
  refine SX.E (w32 (s.b + v.b)) (fun α => cast (by kernel_rfl) (w_add s.b v.b)) ?_
  refine SX.E (w32 (s.c + v.c)) (fun α => cast (by kernel_rfl) (w_add s.c v.c)) ?_
  refine SX.E (w32 (s.d + v.d)) (fun α => cast (by kernel_rfl) (w_add s.d v.d)) ?_
  refine SX.E (w32 (s.e + v.e)) (fun α => cast (by kernel_rfl) (w_add s.e v.e)) ?_
  refine SX.E (w32 (s.f + v.f)) (fun α => cast (by kernel_rfl) (w_add s.f v.f)) ?_
  refine SX.E (w32 (s.g + v.g)) (fun α => cast (by kernel_rfl) (w_add s.g v.g)) ?_
  refine SX.E (w32 (s.h + v.h)) (fun α => cast (by kernel_rfl) (w_add s.h v.h)) ?_
  exact SX.F (.agg (S8.cells ⟨s.a + v.a, s.b + v.b, s.c + v.c, s.d + v.d, s.e + v.e, s.f + v.f, s.g + v.g, s.h + v.h⟩).toArray) (by rw [absorbE_eq hv])
noncomputable def cxP (K A : Value → Nat → List Value → Prop) : SX.Cx := { P := Tryd.prog, R := fun _ f xs v => False, shp := fun f => none, K := K, A := A, arr := true, trm := true }
theorem cxP_ok (K A : Value → Nat → List Value → Prop) : (cxP K A).Ok := SX.Cx.ok_of (fun _ => rfl) fun _ f xs v W h => h.elim
def args_rpad : List SX.V := [.x 0 []]
def tree_rpad : SX.Tree :=
(.df (.app 1 1 (.ext 1)) [(.cat []), (.q 0)] .any
(.df (.app 1 1 (.own 1 [(.k (.int .u8 128))])) [(.cat [(.q 1)]), (.sl 2 0 1 1)] .any
(.loop [(.cat [(.q 1), (.q 2)])] [.any]
(.df (.rlen 1) [(.cat [(.q 3)])] .one
(.df (.bin .rem 3) [(.q 4), (.i 64)] .one
(.df (.bin .neq 3) [(.q 5), (.i 56)] .one
(.br 6 []
(.df (.app 1 1 (.own 1 [(.k (.int .u8 0))])) [(.cat [(.q 3)]), (.sl 5 0 1 1)] .any
(.again 0 [(.cat [(.q 3), (.q 7)])]))
(.df (.len false) [(.q 0)] .one
(.df (.conv .u64) [(.q 7)] .one
(.df (.bin .mul 76) [(.q 8), (.k (.int .u64 8))] .one
(.df (.bin .shr 76) [(.q 9), (.i 56)] .one
(.df (.conv .u8) [(.q 10)] .one
(.df (.app 1 1 (.own 1 [(.q 11)])) [(.cat [(.q 3)]), (.sl 5 0 1 1)] .any
(.df (.bin .shr 76) [(.q 9), (.i 48)] .one
(.df (.conv .u8) [(.q 13)] .one
(.df (.app 1 1 (.own 1 [(.q 14)])) [(.cat [(.q 3), (.q 12)]), (.sl 7 0 1 1)] .any
(.df (.bin .shr 76) [(.q 9), (.i 40)] .one
(.df (.conv .u8) [(.q 16)] .one
(.df (.app 1 1 (.own 1 [(.q 17)])) [(.cat [(.q 3), (.q 12), (.q 15)]), (.sl 9 0 1 1)] .any
(.df (.bin .shr 76) [(.q 9), (.i 32)] .one
(.df (.conv .u8) [(.q 19)] .one
(.df (.app 1 1 (.own 1 [(.q 20)])) [(.cat [(.q 3), (.q 12), (.q 15), (.q 18)]), (.sl 11 0 1 1)] .any
(.df (.bin .shr 76) [(.q 9), (.i 24)] .one
(.df (.conv .u8) [(.q 22)] .one
(.df (.app 1 1 (.own 1 [(.q 23)])) [(.cat [(.q 3), (.q 12), (.q 15), (.q 18), (.q 21)]), (.sl 13 0 1 1)] .any
(.df (.bin .shr 76) [(.q 9), (.i 16)] .one
(.df (.conv .u8) [(.q 25)] .one
(.df (.app 1 1 (.own 1 [(.q 26)])) [(.cat [(.q 3), (.q 12), (.q 15), (.q 18), (.q 21), (.q 24)]), (.sl 15 0 1 1)] .any
(.df (.bin .shr 76) [(.q 9), (.i 8)] .one
(.df (.conv .u8) [(.q 28)] .one
(.df (.app 1 1 (.own 1 [(.q 29)])) [(.cat [(.q 3), (.q 12), (.q 15), (.q 18), (.q 21), (.q 24), (.q 27)]), (.sl 17 0 1 1)] .any
(.df (.bin .shr 76) [(.q 9), (.i 0)] .one
(.df (.conv .u8) [(.q 31)] .one
(.df (.app 1 1 (.own 1 [(.q 32)])) [(.cat [(.q 3), (.q 12), (.q 15), (.q 18), (.q 21), (.q 24), (.q 27), (.q 30)]), (.sl 19 0 1 1)] .any
(.ret (.row 20) (List.replicate 20 none ++ [(some ⟨[(.q 3), (.q 12), (.q 15), (.q 18), (.q 21), (.q 24), (.q 27), (.q 30), (.q 33)], 5, (.row 1)⟩)]) [])))))))))))))))))))))))))))))))))))
set_option maxRecDepth 100000 in
theorem run_rpad (K A : Value → Nat → List Value → Prop) : (SX.run (cxP K A) ⟨fun _ => false, [⟨63, 2, [(.s 3, .row 1 5)]⟩], 2, 100⟩ 100000 0 (SX.door 63 Tryd.f63 args_rpad [.any]) [.code (Tryd.f63.body.getD .skip), .top Tryd.f63]).strip = tree_rpad := by kernel_rfl
theorem neq_nat (a b : Nat) : SX.binV .neq (.int .i64 (a : Int)) (.int .i64 (b : Int)) = some (.bool (decide (a ≠ b))) := by
  simp only [SX.binV, binI, if_true]
  congr 2
  by_cases h : a = b
  · subst h; simp
  have : (a : Int) ≠ (b : Int) := by omega
  simp [h, this]
set_option maxRecDepth 100000 in
set_option maxHeartbeats 4000000 in
theorem rpad_any (l : List W8) (hl : l.length < 2 ^ 45) (A : Option Addr) (n c : Nat) (w : World) (hr : Rd w 1 A n (l.flatMap c8)) (hc : n ≤ c) : Calls Tryd.prog 63 #[.slice A n c] w fun e w' => Below w.heap.size w w' ∧ ∃ hdr, e = .returned hdr ∧ SX.SlRet w w' [] hdr 1 ((padR l).flatMap c8) := by
  have hln : l.length = n := by have := hr.1; rw [SX.flat_len c8_len] at this; omega
  refine SX.calls_of_run (C := cxP (fun v z xs => v = .slice A n c ∧ z = 1 ∧ xs = l.flatMap c8) (fun _ _ _ => False)) (G := ⟨fun _ => false, [⟨63, 2, [(.s 3, .row 1 5)]⟩], 2, 100⟩) (args := args_rpad) (sh := [.any]) (ρ := [.slice A n c]) 100000 tree_rpad (cxP_ok _ _) Tryd.func63 rfl (cast (by kernel_rfl) (run_rpad (fun v z xs => v = .slice A n c ∧ z = 1 ∧ xs = l.flatMap c8) (fun _ _ _ => False))) (by kernel_rfl) (by kernel_rfl) (by kernel_rfl) (fun W hW v z xs ⟨h1, h2, h3⟩ => by subst h1; subst h2; subst h3; exact ⟨hr.same0 hW, hc⟩) ?_
  have one : ∀ a, ∀ u ∈ c8 a, u.oneCell' = true := fun a u hu => by obtain rfl : u = w8 a := by simpa [c8] using hu
                                                                    rfl
  have hpad : padN n < 64 := by unfold padN; omega
  have hpad2 : (n + 1 + padN n) % 64 = 56 := by unfold padN; omega
  unfold tree_rpad
  refine SX.E (.agg (l.flatMap c8).toArray) (fun α => SX.app_rel c8_len one (by omega) (l1 := []) (l2 := l) (by kernel_rfl) (SX.src_ext ⟨rfl, rfl, rfl⟩) (by simp; omega) (by simp; omega)) ?_
  refine SX.E (.agg ([128].flatMap c8).toArray) (fun α => SX.app_rel c8_len one (by omega) (l1 := l) (l2 := [128]) (SX.cat1 (by kernel_rfl)) (SX.src_own (by kernel_rfl)) (by simp; omega) (by simp; omega)) ?_
  refine SX.VC_loop (fun xs => ∃ k : Nat, xs = [.agg ((l ++ [128] ++ List.replicate k 0).flatMap c8).toArray] ∧ k ≤ padN n) (fun xs => match xs with | .agg cs :: _ => n + 1 + padN n - cs.toList.length | _ => 0) (fun α => ⟨0, Eq.trans (b := [.agg (l.flatMap c8 ++ ([128].flatMap c8 ++ [])).toArray]) (by kernel_rfl) (by rw [List.append_nil, List.replicate_zero, List.append_nil, List.flatMap_append]), by omega⟩) ?_
  rintro xs - ⟨k, rfl, hk⟩
  obtain ⟨r, hr0⟩ : ∃ r, r = l ++ [128] ++ List.replicate k 0 := ⟨_, rfl⟩
  have hrl : r.length = n + 1 + k := by rw [hr0]; simp; omega
  rw [← hr0]
  refine SX.E (.int .i64 (r.length : Int)) (fun α => row_len8 (SX.cat1 (j := 3) (by kernel_rfl))) ?_
  refine SX.E (.int .i64 ((r.length % 64 : Nat) : Int)) (fun α => cast (by kernel_rfl) (SX.rem_nat (a := r.length) (b := 64) (by omega))) ?_
  refine SX.E (.bool (decide (r.length % 64 ≠ 56))) (fun α => cast (by kernel_rfl) (neq_nat (r.length % 64) 56)) ?_
  refine SX.B (decide (r.length % 64 ≠ 56)) (fun h56 => ?_) (fun h56 => ?_)
  · have h56 : r.length % 64 ≠ 56 := by simpa using h56
    have hk2 : k < padN n := by rcases Nat.lt_or_ge k (padN n) with h | h; · exact h
                                exfalso; apply h56; rw [hrl, show k = padN n by omega]; exact hpad2
    refine SX.E (.agg ([0].flatMap c8).toArray) (fun α => SX.app_rel c8_len one (by omega) (l1 := r) (l2 := [0]) (SX.cat1 (by kernel_rfl)) (SX.src_own (by kernel_rfl)) (by simp; omega) (by simp; omega)) ?_
    exact VC_again2 rfl (fun α => ⟨k + 1, Eq.trans (b := [.agg (r.flatMap c8 ++ ([0].flatMap c8 ++ [])).toArray]) (by kernel_rfl) (by rw [List.append_nil, ← List.flatMap_append, hr0, List.append_assoc _ _ [0], ← List.replicate_succ']), by omega⟩) (fun α => cast (by kernel_rfl) (show n + 1 + padN n - (r.flatMap c8 ++ ([0].flatMap c8 ++ [])).length < n + 1 + padN n - (r.flatMap c8).length by rw [List.append_nil, List.length_append, SX.flat_len c8_len, SX.flat_len c8_len]; simp only [LL]; omega))
  have h56 : r.length % 64 = 56 := by simpa using h56
  have hk2 : k = padN n := by omega
  refine SX.D (.int .i64 (n : Int)) ?_
  refine SX.E (.int .u64 (n : Int)) (fun α => cast (by kernel_rfl) (u_conv n .i64 (by omega))) ?_
  refine SX.E (.int .u64 ((8 * n : Nat) : Int)) (fun α => cast (by kernel_rfl) (u_mul8 n (by omega))) ?_
  refine SX.E (.int .u64 ((8 * n / 2 ^ 56 : Nat) : Int)) (fun α => cast (by kernel_rfl) (u_shr (8 * n) 56 (by omega))) ?_
  refine SX.E (w8 (byteAt (8 * n) 56)) (fun α => cast (by kernel_rfl) (w_byte (8 * n) 56)) ?_
  refine SX.E (.agg ([byteAt (8 * n) 56].flatMap c8).toArray) (fun α => SX.app_rel c8_len one (by omega) (l1 := r) (l2 := [byteAt (8 * n) 56]) (SX.cat1 (j := 3) (by kernel_rfl)) (SX.src_own (by kernel_rfl)) (by simp; omega) (by simp; omega)) ?_
  refine SX.E (.int .u64 ((8 * n / 2 ^ 48 : Nat) : Int)) (fun α => cast (by kernel_rfl) (u_shr (8 * n) 48 (by omega))) ?_
  refine SX.E (w8 (byteAt (8 * n) 48)) (fun α => cast (by kernel_rfl) (w_byte (8 * n) 48)) ?_
  refine SX.E (.agg ([byteAt (8 * n) 48].flatMap c8).toArray) (fun α => SX.app_rel c8_len one (by omega) (l1 := (r ++ [byteAt (8 * n) 56])) (l2 := [byteAt (8 * n) 48]) (Eq.trans (b := r.flatMap c8 ++ [byteAt (8 * n) 56].flatMap c8) (by kernel_rfl) (by rw [← List.flatMap_append])) (SX.src_own (by kernel_rfl)) (by simp; omega) (by simp; omega)) ?_
  refine SX.E (.int .u64 ((8 * n / 2 ^ 40 : Nat) : Int)) (fun α => cast (by kernel_rfl) (u_shr (8 * n) 40 (by omega))) ?_
  refine SX.E (w8 (byteAt (8 * n) 40)) (fun α => cast (by kernel_rfl) (w_byte (8 * n) 40)) ?_
  refine SX.E (.agg ([byteAt (8 * n) 40].flatMap c8).toArray) (fun α => SX.app_rel c8_len one (by omega) (l1 := (r ++ [byteAt (8 * n) 56, byteAt (8 * n) 48])) (l2 := [byteAt (8 * n) 40]) (Eq.trans (b := r.flatMap c8 ++ [byteAt (8 * n) 56, byteAt (8 * n) 48].flatMap c8) (by kernel_rfl) (by rw [← List.flatMap_append])) (SX.src_own (by kernel_rfl)) (by simp; omega) (by simp; omega)) ?_
  refine SX.E (.int .u64 ((8 * n / 2 ^ 32 : Nat) : Int)) (fun α => cast (by kernel_rfl) (u_shr (8 * n) 32 (by omega))) ?_
  refine SX.E (w8 (byteAt (8 * n) 32)) (fun α => cast (by kernel_rfl) (w_byte (8 * n) 32)) ?_
  refine SX.E (.agg ([byteAt (8 * n) 32].flatMap c8).toArray) (fun α => SX.app_rel c8_len one (by omega) (l1 := (r ++ [byteAt (8 * n) 56, byteAt (8 * n) 48, byteAt (8 * n) 40])) (l2 := [byteAt (8 * n) 32]) (Eq.trans (b := r.flatMap c8 ++ [byteAt (8 * n) 56, byteAt (8 * n) 48, byteAt (8 * n) 40].flatMap c8) (by kernel_rfl) (by rw [← List.flatMap_append])) (SX.src_own (by kernel_rfl)) (by simp; omega) (by simp; omega)) ?_
  refine SX.E (.int .u64 ((8 * n / 2 ^ 24 : Nat) : Int)) (fun α => cast (by kernel_rfl) (u_shr (8 * n) 24 (by omega))) ?_
  refine SX.E (w8 (byteAt (8 * n) 24)) (fun α => cast (by kernel_rfl) (w_byte (8 * n) 24)) ?_
  refine SX.E (.agg ([byteAt (8 * n) 24].flatMap c8).toArray) (fun α => SX.app_rel c8_len one (by omega) (l1 := (r ++ [byteAt (8 * n) 56, byteAt (8 * n) 48, byteAt (8 * n) 40, byteAt (8 * n) 32])) (l2 := [byteAt (8 * n) 24]) (Eq.trans (b := r.flatMap c8 ++ [byteAt (8 * n) 56, byteAt (8 * n) 48, byteAt (8 * n) 40, byteAt (8 * n) 32].flatMap c8) (by kernel_rfl) (by rw [← List.flatMap_append])) (SX.src_own (by kernel_rfl)) (by simp; omega) (by simp; omega)) ?_
  refine SX.E (.int .u64 ((8 * n / 2 ^ 16 : Nat) : Int)) (fun α => cast (by kernel_rfl) (u_shr (8 * n) 16 (by omega))) ?_
  refine SX.E (w8 (byteAt (8 * n) 16)) (fun α => cast (by kernel_rfl) (w_byte (8 * n) 16)) ?_
  refine SX.E (.agg ([byteAt (8 * n) 16].flatMap c8).toArray) (fun α => SX.app_rel c8_len one (by omega) (l1 := (r ++ [byteAt (8 * n) 56, byteAt (8 * n) 48, byteAt (8 * n) 40, byteAt (8 * n) 32, byteAt (8 * n) 24])) (l2 := [byteAt (8 * n) 16]) (Eq.trans (b := r.flatMap c8 ++ [byteAt (8 * n) 56, byteAt (8 * n) 48, byteAt (8 * n) 40, byteAt (8 * n) 32, byteAt (8 * n) 24].flatMap c8) (by kernel_rfl) (by rw [← List.flatMap_append])) (SX.src_own (by kernel_rfl)) (by simp; omega) (by simp; omega)) ?_
  refine SX.E (.int .u64 ((8 * n / 2 ^ 8 : Nat) : Int)) (fun α => cast (by kernel_rfl) (u_shr (8 * n) 8 (by omega))) ?_
  refine SX.E (w8 (byteAt (8 * n) 8)) (fun α => cast (by kernel_rfl) (w_byte (8 * n) 8)) ?_
  refine SX.E (.agg ([byteAt (8 * n) 8].flatMap c8).toArray) (fun α => SX.app_rel c8_len one (by omega) (l1 := (r ++ [byteAt (8 * n) 56, byteAt (8 * n) 48, byteAt (8 * n) 40, byteAt (8 * n) 32, byteAt (8 * n) 24, byteAt (8 * n) 16])) (l2 := [byteAt (8 * n) 8]) (Eq.trans (b := r.flatMap c8 ++ [byteAt (8 * n) 56, byteAt (8 * n) 48, byteAt (8 * n) 40, byteAt (8 * n) 32, byteAt (8 * n) 24, byteAt (8 * n) 16].flatMap c8) (by kernel_rfl) (by rw [← List.flatMap_append])) (SX.src_own (by kernel_rfl)) (by simp; omega) (by simp; omega)) ?_
  refine SX.E (.int .u64 ((8 * n / 2 ^ 0 : Nat) : Int)) (fun α => cast (by kernel_rfl) (u_shr (8 * n) 0 (by omega))) ?_
  refine SX.E (w8 (byteAt (8 * n) 0)) (fun α => cast (by kernel_rfl) (w_byte (8 * n) 0)) ?_
  refine SX.E (.agg ([byteAt (8 * n) 0].flatMap c8).toArray) (fun α => SX.app_rel c8_len one (by omega) (l1 := (r ++ [byteAt (8 * n) 56, byteAt (8 * n) 48, byteAt (8 * n) 40, byteAt (8 * n) 32, byteAt (8 * n) 24, byteAt (8 * n) 16, byteAt (8 * n) 8])) (l2 := [byteAt (8 * n) 0]) (Eq.trans (b := r.flatMap c8 ++ [byteAt (8 * n) 56, byteAt (8 * n) 48, byteAt (8 * n) 40, byteAt (8 * n) 32, byteAt (8 * n) 24, byteAt (8 * n) 16, byteAt (8 * n) 8].flatMap c8) (by kernel_rfl) (by rw [← List.flatMap_append])) (SX.src_own (by kernel_rfl)) (by simp; omega) (by simp; omega)) ?_
  have hfin : padR l = r ++ be64 (8 * n) := by unfold padR; rw [hln, hr0, hk2]
  exact SX.VC_ret fun α W _ hrow hS => ⟨hS.below, _, rfl, SX.SlRet.row hS (n := 20) rfl rfl (hrow 20 _ rfl) (Eq.trans (b := r.flatMap c8 ++ (be64 (8 * n)).flatMap c8) (by kernel_rfl) (by rw [hfin, List.flatMap_append]))⟩
def RpadR (f : FuncId) (xs : List SX.Arg) (v : Value) : Prop := f = 63 ∧ ∃ (u : Value) (l : List W8), l.length < 2 ^ 45 ∧ xs = [⟨u, 1, l.flatMap c8⟩] ∧ v = .agg ((padR l).flatMap c8).toArray
def RblockR (f : FuncId) (xs : List SX.Arg) (v : Value) : Prop := f = 64 ∧ ∃ (s : S8) (u : Value) (l : List W8), l.length = 64 ∧ xs = [⟨.agg s.cells.toArray, 0, []⟩, ⟨u, 1, l.flatMap c8⟩] ∧ v = .agg (absorbE s l).cells.toArray
noncomputable def cxU (K A : Value → Nat → List Value → Prop) : SX.Cx := { P := Tryd.prog, R := fun _ f xs v => RpadR f xs v ∨ RblockR f xs v, shp := fun f => if f = 63 then some (.sl 1) else if f = 64 then some (.ag 8) else none, K := K, A := A, arr := true, trm := true }
theorem cxU_ok (K A : Value → Nat → List Value → Prop) : (cxU K A).Ok := SX.Cx.ok_of (fun _ => rfl) fun _ f xs v W h hrd hK => by
  rcases h with ⟨rfl, u, l, hl, rfl, rfl⟩ | ⟨rfl, s, u, l, hl, rfl, rfl⟩
  · obtain ⟨A, n, c, rfl, hr, hc, hn⟩ := byte_arg (hrd ⟨u, 1, l.flatMap c8⟩ (List.mem_singleton_self _))
    exact (rpad_any l hl A n c W hr hc).mono fun e w' h => SX.SlRet.ok1 rfl h
  obtain ⟨A, n, c, rfl, hr, hc, hn⟩ := byte_arg (hrd ⟨u, 1, l.flatMap c8⟩ (List.mem_cons_of_mem _ (List.mem_singleton_self _)))
  exact (rblock_any s l hl A n c W hr hc).mono fun e w' h => SX.plainOk rfl h
def args_rsum : List SX.V := [.x 0 []]
def tree_rsum : SX.Tree :=
(.df (.call 63 [(.ext 1)]) [(.q 0)] (.sl 1)
(.loop [(.i 0), (.k (.int .u32 1779033703)), (.k (.int .u32 3144134277)), (.k (.int .u32 1013904242)), (.k (.int .u32 2773480762)), (.k (.int .u32 1359893119)), (.k (.int .u32 2600822924)), (.k (.int .u32 528734635)), (.k (.int .u32 1541459225))] [.one, .one, .one, .one, .one, .one, .one, .one, .one]
(.df (.rlen 1) [(.cat [(.q 1)])] .one
(.df (.bin .lss 3) [(.q 2), (.q 11)] .one
(.br 12 []
(.df (.bin .add 3) [(.q 2), (.i 64)] .one
(.df (.slcx 1 true true) [(.cat [(.q 1)]), (.q 2), (.q 13)] .any
(.df (.call 64 [.no, (.row 1 [(.q 14)])]) [(.a (SX.Z 3 8)), (.row 17)] (.ag 8)
(.df (.bin .add 3) [(.q 2), (.i 64)] .one
(.again 0 ([(.q 16)] ++ SX.Y 15 0 8))))))
(.df (.bin .shr 84) [(.q 3), (.i 24)] .one
(.df (.conv .u8) [(.q 13)] .one
(.df (.bin .shr 84) [(.q 3), (.i 16)] .one
(.df (.conv .u8) [(.q 15)] .one
(.df (.bin .shr 84) [(.q 3), (.i 8)] .one
(.df (.conv .u8) [(.q 17)] .one
(.df (.bin .shr 84) [(.q 3), (.i 0)] .one
(.df (.conv .u8) [(.q 19)] .one
(.df (.bin .shr 84) [(.q 4), (.i 24)] .one
(.df (.conv .u8) [(.q 21)] .one
(.df (.bin .shr 84) [(.q 4), (.i 16)] .one
(.df (.conv .u8) [(.q 23)] .one
(.df (.bin .shr 84) [(.q 4), (.i 8)] .one
(.df (.conv .u8) [(.q 25)] .one
(.df (.bin .shr 84) [(.q 4), (.i 0)] .one
(.df (.conv .u8) [(.q 27)] .one
(.df (.bin .shr 84) [(.q 5), (.i 24)] .one
(.df (.conv .u8) [(.q 29)] .one
(.df (.bin .shr 84) [(.q 5), (.i 16)] .one
(.df (.conv .u8) [(.q 31)] .one
(.df (.bin .shr 84) [(.q 5), (.i 8)] .one
(.df (.conv .u8) [(.q 33)] .one
(.df (.bin .shr 84) [(.q 5), (.i 0)] .one
(.df (.conv .u8) [(.q 35)] .one
(.df (.bin .shr 84) [(.q 6), (.i 24)] .one
(.df (.conv .u8) [(.q 37)] .one
(.df (.bin .shr 84) [(.q 6), (.i 16)] .one
(.df (.conv .u8) [(.q 39)] .one
(.df (.bin .shr 84) [(.q 6), (.i 8)] .one
(.df (.conv .u8) [(.q 41)] .one
(.df (.bin .shr 84) [(.q 6), (.i 0)] .one
(.df (.conv .u8) [(.q 43)] .one
(.df (.bin .shr 84) [(.q 7), (.i 24)] .one
(.df (.conv .u8) [(.q 45)] .one
(.df (.bin .shr 84) [(.q 7), (.i 16)] .one
(.df (.conv .u8) [(.q 47)] .one
(.df (.bin .shr 84) [(.q 7), (.i 8)] .one
(.df (.conv .u8) [(.q 49)] .one
(.df (.bin .shr 84) [(.q 7), (.i 0)] .one
(.df (.conv .u8) [(.q 51)] .one
(.df (.bin .shr 84) [(.q 8), (.i 24)] .one
(.df (.conv .u8) [(.q 53)] .one
(.df (.bin .shr 84) [(.q 8), (.i 16)] .one
(.df (.conv .u8) [(.q 55)] .one
(.df (.bin .shr 84) [(.q 8), (.i 8)] .one
(.df (.conv .u8) [(.q 57)] .one
(.df (.bin .shr 84) [(.q 8), (.i 0)] .one
(.df (.conv .u8) [(.q 59)] .one
(.df (.bin .shr 84) [(.q 9), (.i 24)] .one
(.df (.conv .u8) [(.q 61)] .one
(.df (.bin .shr 84) [(.q 9), (.i 16)] .one
(.df (.conv .u8) [(.q 63)] .one
(.df (.bin .shr 84) [(.q 9), (.i 8)] .one
(.df (.conv .u8) [(.q 65)] .one
(.df (.bin .shr 84) [(.q 9), (.i 0)] .one
(.df (.conv .u8) [(.q 67)] .one
(.df (.bin .shr 84) [(.q 10), (.i 24)] .one
(.df (.conv .u8) [(.q 69)] .one
(.df (.bin .shr 84) [(.q 10), (.i 16)] .one
(.df (.conv .u8) [(.q 71)] .one
(.df (.bin .shr 84) [(.q 10), (.i 8)] .one
(.df (.conv .u8) [(.q 73)] .one
(.df (.bin .shr 84) [(.q 10), (.i 0)] .one
(.df (.conv .u8) [(.q 75)] .one
(.ret (.a [(.q 14), (.q 16), (.q 18), (.q 20), (.q 22), (.q 24), (.q 26), (.q 28), (.q 30), (.q 32), (.q 34), (.q 36), (.q 38), (.q 40), (.q 42), (.q 44), (.q 46), (.q 48), (.q 50), (.q 52), (.q 54), (.q 56), (.q 58), (.q 60), (.q 62), (.q 64), (.q 66), (.q 68), (.q 70), (.q 72), (.q 74), (.q 76)]) [] []))))))))))))))))))))))))))))))))))))))))))))))))))))))))))))))))))))))
set_option maxRecDepth 100000 in
theorem run_rsum (K A : Value → Nat → List Value → Prop) : (SX.run (cxU K A) ⟨fun _ => false, [⟨59, 4, ([(.s 5, .one)] ++ (List.range 8).map fun j => (.c 9 j, .one))⟩, ⟨59, 4, ([(.s 5, .one)] ++ (List.range 8).map fun j => (.c 8 j, .one))⟩, ⟨59, 4, ([(.s 5, .one)] ++ (List.range 8).map fun j => (.c 7 j, .one))⟩, ⟨59, 4, ([(.s 5, .one)] ++ (List.range 8).map fun j => (.c 6 j, .one))⟩, ⟨59, 4, ([(.s 5, .one)] ++ (List.range 8).map fun j => (.c 5 j, .one))⟩, ⟨59, 4, ([(.s 5, .one)] ++ (List.range 8).map fun j => (.c 4 j, .one))⟩, ⟨59, 4, ([(.s 5, .one)] ++ (List.range 8).map fun j => (.c 3 j, .one))⟩, ⟨59, 4, ([(.s 5, .one)] ++ (List.range 8).map fun j => (.c 2 j, .one))⟩, ⟨59, 4, ([(.s 5, .one)] ++ (List.range 8).map fun j => (.c 1 j, .one))⟩], 0, 100⟩ 100000 0 (SX.door 59 Tryd.f59 args_rsum [.any]) [.code (Tryd.f59.body.getD .skip), .top Tryd.f59]).strip = tree_rsum := by kernel_rfl
theorem slcx_mid {C : SX.Cx} {ρ : List Value} {α : Nat → SX.AV} {c i i' : SX.V} {l : List W8} {lo hi : Nat} (hc : SX.cellsV (c.den ρ α) = l.flatMap c8) (h1 : i.den ρ α = .int .i64 (lo : Int)) (h2 : i'.den ρ α = .int .i64 (hi : Int)) (hl : lo ≤ hi) (hh : hi ≤ l.length) : SX.Opq.rel C ρ α (.slcx 1 true true) [c, i, i'] (.agg (((l.drop lo).take (hi - lo)).flatMap c8).toArray) := by
  refine ⟨lo, hi, l.length, some (.int .i64 (lo : Int)), some (.int .i64 (hi : Int)), ?_, ?_, ?_⟩
  · simp [SX.denL, h1, h2, SX.optsV]
  · rw [hc, SX.flat_len c8_len]
    simp only [SX.boundsV, Nat.mul_one, Nat.div_one, Option.bind_some, SX.bndV]
    rw [if_pos (by omega)]
    simp only [Option.bind_some, Int.toNat_natCast]
    rw [if_pos (by omega)]
    rfl
  rw [hc, ← SX.flat_take c8_len, ← SX.flat_drop c8_len]
theorem fitSl8 (l : List W8) : (SX.Sh.sl 1).fit (.agg (l.flatMap c8).toArray) = true := by
  simp only [SX.Sh.fit, Nat.mod_one, beq_self_eq_true, Bool.and_true, Bool.and_eq_true, List.all_eq_true]
  exact ⟨by decide, c8_one l⟩
theorem w_byte32 (x : W32) (k : Nat) : SX.convV .u8 (w32 (x >>> k)) = some (w8 (byteAt x.toNat k)) := by
  have := w_to8 (x >>> k).toNat .u32
  rw [BitVec.toNat_ushiftRight, Nat.shiftRight_eq_div_pow] at this
  unfold w32
  rw [BitVec.toNat_ushiftRight, Nat.shiftRight_eq_div_pow]
  exact this
set_option maxRecDepth 100000 in
set_option maxHeartbeats 4000000 in
theorem rsum_any (l : List W8) (hl : l.length < 2 ^ 45) (A : Option Addr) (n c : Nat) (w : World) (hr : Rd w 1 A n (l.flatMap c8)) (hc : n ≤ c) : Calls Tryd.prog 59 #[.slice A n c] w fun e w' => e = .returned (.agg ((sumE l).flatMap c8).toArray) ∧ Below w.heap.size w w' := by
  refine SX.calls_of_run (C := cxU (fun v z xs => v = .slice A n c ∧ z = 1 ∧ xs = l.flatMap c8) (fun _ _ _ => False)) (G := ⟨fun _ => false, [⟨59, 4, ([(.s 5, .one)] ++ (List.range 8).map fun j => (.c 9 j, .one))⟩, ⟨59, 4, ([(.s 5, .one)] ++ (List.range 8).map fun j => (.c 8 j, .one))⟩, ⟨59, 4, ([(.s 5, .one)] ++ (List.range 8).map fun j => (.c 7 j, .one))⟩, ⟨59, 4, ([(.s 5, .one)] ++ (List.range 8).map fun j => (.c 6 j, .one))⟩, ⟨59, 4, ([(.s 5, .one)] ++ (List.range 8).map fun j => (.c 5 j, .one))⟩, ⟨59, 4, ([(.s 5, .one)] ++ (List.range 8).map fun j => (.c 4 j, .one))⟩, ⟨59, 4, ([(.s 5, .one)] ++ (List.range 8).map fun j => (.c 3 j, .one))⟩, ⟨59, 4, ([(.s 5, .one)] ++ (List.range 8).map fun j => (.c 2 j, .one))⟩, ⟨59, 4, ([(.s 5, .one)] ++ (List.range 8).map fun j => (.c 1 j, .one))⟩], 0, 100⟩) (args := args_rsum) (sh := [.any]) (ρ := [.slice A n c]) 100000 tree_rsum (cxU_ok _ _) Tryd.func59 rfl (cast (by kernel_rfl) (run_rsum (fun v z xs => v = .slice A n c ∧ z = 1 ∧ xs = l.flatMap c8) (fun _ _ _ => False))) (by kernel_rfl) (by kernel_rfl) (by kernel_rfl) (fun W hW v z xs ⟨h1, h2, h3⟩ => by subst h1; subst h2; subst h3; exact ⟨hr.same0 hW, hc⟩) ?_
  have hsum := sumE_eq l
  have hp64 := padR_len l
  have hpl : (padR l).length < 2 ^ 46 := by unfold padR padN; simp only [List.length_append, List.length_replicate, List.length_cons, List.length_nil, show (be64 (8 * l.length)).length = 8 from rfl]; omega
  unfold tree_rsum
  refine SX.VC_df (.agg ((padR l).flatMap c8).toArray) (fun α => ⟨[⟨.slice A n c, 1, l.flatMap c8⟩], ⟨rfl, rfl, ⟨rfl, rfl, rfl⟩, trivial⟩, .inl ⟨rfl, _, l, hl, rfl, rfl⟩, SX.noAli rfl⟩) (fitSl8 _) ?_
  generalize hP : padR l = P at hsum hp64 hpl
  refine SX.VC_loop (fun xs => ∃ (k : Nat) (s : S8), xs = .int .i64 ((64 * k : Nat) : Int) :: s.cells ∧ 64 * k ≤ P.length ∧ (absAll s (P.drop (64 * k))).1 = (absAll startS P).1) (fun xs => match xs with | .int _ i :: _ => P.length - i.toNat | _ => 0) (fun α => ⟨0, startS, by kernel_rfl, by omega, rfl⟩) ?_
  rintro xs - ⟨k, s, rfl, hk, hI⟩
  refine SX.E (.int .i64 (P.length : Int)) (fun α => row_len8 (SX.cat1 (j := 1) (by kernel_rfl))) ?_
  refine SX.E (.bool (decide (64 * k < P.length))) (fun α => cast (by kernel_rfl) (lss_nat (64 * k) P.length)) ?_
  refine SX.B (decide (64 * k < P.length)) (fun hlt => ?_) (fun hge => ?_)
  · have hlt : 64 * k < P.length := by simpa using hlt
    have h2 : 64 * k + 64 ≤ P.length := by omega
    obtain ⟨Q, hQ⟩ : ∃ Q, Q = (P.drop (64 * k)).take (64 * k + 64 - 64 * k) := ⟨_, rfl⟩
    have hQl : Q.length = 64 := by rw [hQ, List.length_take, List.length_drop]; omega
    have hstep : absAll s (P.drop (64 * k)) = absAll (absorbE s Q) (P.drop (64 * (k + 1))) := by
      rw [absAll_ge (by rw [List.length_drop]; omega), hQ, List.drop_drop, show 64 * k + 64 - 64 * k = 64 by omega, show 64 * k + 64 = 64 * (k + 1) by omega]
    refine SX.E (.int .i64 ((64 * k + 64 : Nat) : Int)) (fun α => cast (by kernel_rfl) (i_add' (a := 64 * k) (b := 64) (d := 64 * k + 64) rfl (by omega))) ?_
    refine SX.E (.agg (Q.flatMap c8).toArray) (fun α => by rw [hQ]; exact slcx_mid (l := P) (lo := 64 * k) (hi := 64 * k + 64) (SX.cat1 (j := 1) (by kernel_rfl)) (by kernel_rfl) (by kernel_rfl) (by omega) h2) ?_
    refine SX.E (.agg (absorbE s Q).cells.toArray) (fun α => ⟨[⟨.agg s.cells.toArray, 0, []⟩, ⟨(α 17).h, 1, Q.flatMap c8⟩], ⟨by kernel_rfl, by kernel_rfl, Eq.trans (b := ⟨(α 17).h, 1, Q.flatMap c8 ++ []⟩) (by rw [List.append_nil]) (by kernel_rfl), trivial⟩, .inr ⟨rfl, s, _, Q, hQl, rfl, rfl⟩, SX.noAli rfl⟩) ?_
    refine SX.E (.int .i64 ((64 * (k + 1) : Nat) : Int)) (fun α => cast (by kernel_rfl) (i_add' (a := 64 * k) (b := 64) (d := 64 * (k + 1)) (by omega) (by omega))) ?_
    exact VC_again2 rfl (fun α => ⟨k + 1, absorbE s Q, by kernel_rfl, by omega, by rw [← hstep, hI]⟩) (fun α => cast (by kernel_rfl) (show P.length - (64 * (k + 1)) < P.length - 64 * k by omega))
  have hge : ¬ 64 * k < P.length := by simpa using hge
  have hs : (absAll startS P).1 = s := by
    rw [← hI, List.drop_of_length_le (by omega), absAll_lt (by simp)]
  refine SX.E (w32 (s.a >>> 24)) (fun α => cast (by kernel_rfl) (w_shr s.a .i64 24 (by omega))) ?_
  refine SX.E (w8 (byteAt s.a.toNat 24)) (fun α => cast (by kernel_rfl) (w_byte32 s.a 24)) ?_
  refine SX.E (w32 (s.a >>> 16)) (fun α => cast (by kernel_rfl) (w_shr s.a .i64 16 (by omega))) ?_
  refine SX.E (w8 (byteAt s.a.toNat 16)) (fun α => cast (by kernel_rfl) (w_byte32 s.a 16)) ?_
  refine SX.E (w32 (s.a >>> 8)) (fun α => cast (by kernel_rfl) (w_shr s.a .i64 8 (by omega))) ?_
  refine SX.E (w8 (byteAt s.a.toNat 8)) (fun α => cast (by kernel_rfl) (w_byte32 s.a 8)) ?_
  refine SX.E (w32 (s.a >>> 0)) (fun α => cast (by kernel_rfl) (w_shr s.a .i64 0 (by omega))) ?_
  refine SX.E (w8 (byteAt s.a.toNat 0)) (fun α => cast (by kernel_rfl) (w_byte32 s.a 0)) ?_
  refine SX.E (w32 (s.b >>> 24)) (fun α => cast (by kernel_rfl) (w_shr s.b .i64 24 (by omega))) ?_
  refine SX.E (w8 (byteAt s.b.toNat 24)) (fun α => cast (by kernel_rfl) (w_byte32 s.b 24)) ?_
  refine SX.E (w32 (s.b >>> 16)) (fun α => cast (by kernel_rfl) (w_shr s.b .i64 16 (by omega))) ?_
  refine SX.E (w8 (byteAt s.b.toNat 16)) (fun α => cast (by kernel_rfl) (w_byte32 s.b 16)) ?_
  refine SX.E (w32 (s.b >>> 8)) (fun α => cast (by kernel_rfl) (w_shr s.b .i64 8 (by omega))) ?_
  refine SX.E (w8 (byteAt s.b.toNat 8)) (fun α => cast (by kernel_rfl) (w_byte32 s.b 8)) ?_
  refine SX.E (w32 (s.b >>> 0)) (fun α => cast (by kernel_rfl) (w_shr s.b .i64 0 (by omega))) ?_
  refine SX.E (w8 (byteAt s.b.toNat 0)) (fun α => cast (by kernel_rfl) (w_byte32 s.b 0)) ?_
  refine SX.E (w32 (s.c >>> 24)) (fun α => cast (by kernel_rfl) (w_shr s.c .i64 24 (by omega))) ?_
  refine SX.E (w8 (byteAt s.c.toNat 24)) (fun α => cast (by kernel_rfl) (w_byte32 s.c 24)) ?_
  refine SX.E (w32 (s.c >>> 16)) (fun α => cast (by kernel_rfl) (w_shr s.c .i64 16 (by omega))) ?_
  refine SX.E (w8 (byteAt s.c.toNat 16)) (fun α => cast (by kernel_rfl) (w_byte32 s.c 16)) ?_
  refine SX.E (w32 (s.c >>> 8)) (fun α => cast (by kernel_rfl) (w_shr s.c .i64 8 (by omega))) ?_
  refine SX.E (w8 (byteAt s.c.toNat 8)) (fun α => cast (by kernel_rfl) (w_byte32 s.c 8)) ?_
  refine SX.E (w32 (s.c >>> 0)) (fun α => cast (by kernel_rfl) (w_shr s.c .i64 0 (by omega))) ?_
  refine SX.E (w8 (byteAt s.c.toNat 0)) (fun α => cast (by kernel_rfl) (w_byte32 s.c 0)) ?_
  refine SX.E (w32 (s.d >>> 24)) (fun α => cast (by kernel_rfl) (w_shr s.d .i64 24 (by omega))) ?_
  refine SX.E (w8 (byteAt s.d.toNat 24)) (fun α => cast (by kernel_rfl) (w_byte32 s.d 24)) ?_
  refine SX.E (w32 (s.d >>> 16)) (fun α => cast (by kernel_rfl) (w_shr s.d .i64 16 (by omega))) ?_
  refine SX.E (w8 (byteAt s.d.toNat 16)) (fun α => cast (by kernel_rfl) (w_byte32 s.d 16)) ?_
  refine SX.E (w32 (s.d >>> 8)) (fun α => cast (by kernel_rfl) (w_shr s.d .i64 8 (by omega))) ?_
  refine SX.E (w8 (byteAt s.d.toNat 8)) (fun α => cast (by kernel_rfl) (w_byte32 s.d 8)) ?_
  refine SX.E (w32 (s.d >>> 0)) (fun α => cast (by kernel_rfl) (w_shr s.d .i64 0 (by omega))) ?_
  refine SX.E (w8 (byteAt s.d.toNat 0)) (fun α => cast (by kernel_rfl) (w_byte32 s.d 0)) ?_
  refine SX.E (w32 (s.e >>> 24)) (fun α => cast (by kernel_rfl) (w_shr s.e .i64 24 (by omega))) ?_
  refine SX.E (w8 (byteAt s.e.toNat 24)) (fun α => cast (by kernel_rfl) (w_byte32 s.e 24)) ?_
  refine SX.E (w32 (s.e >>> 16)) (fun α => cast (by kernel_rfl) (w_shr s.e .i64 16 (by omega))) ?_
  refine SX.E (w8 (byteAt s.e.toNat 16)) (fun α => cast (by kernel_rfl) (w_byte32 s.e 16)) ?_
  refine SX.E (w32 (s.e >>> 8)) (fun α => cast (by kernel_rfl) (w_shr s.e .i64 8 (by omega))) ?_
  refine SX.E (w8 (byteAt s.e.toNat 8)) (fun α => cast (by kernel_rfl) (w_byte32 s.e 8)) ?_
  refine SX.E (w32 (s.e >>> 0)) (fun α => cast (by kernel_rfl) (w_shr s.e .i64 0 (by omega))) ?_
  refine SX.E (w8 (byteAt s.e.toNat 0)) (fun α => cast (by kernel_rfl) (w_byte32 s.e 0)) ?_
  refine SX.E (w32 (s.f >>> 24)) (fun α => cast (by kernel_rfl) (w_shr s.f .i64 24 (by omega))) ?_
  refine SX.E (w8 (byteAt s.f.toNat 24)) (fun α => cast (by kernel_rfl) (w_byte32 s.f 24)) ?_
  refine SX.E (w32 (s.f >>> 16)) (fun α => cast (by kernel_rfl) (w_shr s.f .i64 16 (by omega))) ?_
  refine SX.E (w8 (byteAt s.f.toNat 16)) (fun α => cast (by kernel_rfl) (w_byte32 s.f 16)) ?_
  refine SX.E (w32 (s.f >>> 8)) (fun α => cast (by kernel_rfl) (w_shr s.f .i64 8 (by omega))) ?_
  refine SX.E (w8 (byteAt s.f.toNat 8)) (fun α => cast (by kernel_rfl) (w_byte32 s.f 8)) ?_
  refine SX.E (w32 (s.f >>> 0)) (fun α => cast (by kernel_rfl) (w_shr s.f .i64 0 (by omega))) ?_
  refine SX.E (w8 (byteAt s.f.toNat 0)) (fun α => cast (by kernel_rfl) (w_byte32 s.f 0)) ?_
  refine SX.E (w32 (s.g >>> 24)) (fun α => cast (by kernel_rfl) (w_shr s.g .i64 24 (by omega))) ?_
  refine SX.E (w8 (byteAt s.g.toNat 24)) (fun α => cast (by kernel_rfl) (w_byte32 s.g 24)) ?_
  refine SX.E (w32 (s.g >>> 16)) (fun α => cast (by kernel_rfl) (w_shr s.g .i64 16 (by omega))) ?_
  refine SX.E (w8 (byteAt s.g.toNat 16)) (fun α => cast (by kernel_rfl) (w_byte32 s.g 16)) ?_
  refine SX.E (w32 (s.g >>> 8)) (fun α => cast (by kernel_rfl) (w_shr s.g .i64 8 (by omega))) ?_
  refine SX.E (w8 (byteAt s.g.toNat 8)) (fun α => cast (by kernel_rfl) (w_byte32 s.g 8)) ?_
  refine SX.E (w32 (s.g >>> 0)) (fun α => cast (by kernel_rfl) (w_shr s.g .i64 0 (by omega))) ?_
  refine SX.E (w8 (byteAt s.g.toNat 0)) (fun α => cast (by kernel_rfl) (w_byte32 s.g 0)) ?_
  refine SX.E (w32 (s.h >>> 24)) (fun α => cast (by kernel_rfl) (w_shr s.h .i64 24 (by omega))) ?_
  refine SX.E (w8 (byteAt s.h.toNat 24)) (fun α => cast (by kernel_rfl) (w_byte32 s.h 24)) ?_
  refine SX.E (w32 (s.h >>> 16)) (fun α => cast (by kernel_rfl) (w_shr s.h .i64 16 (by omega))) ?_
  refine SX.E (w8 (byteAt s.h.toNat 16)) (fun α => cast (by kernel_rfl) (w_byte32 s.h 16)) ?_
  refine SX.E (w32 (s.h >>> 8)) (fun α => cast (by kernel_rfl) (w_shr s.h .i64 8 (by omega))) ?_
  refine SX.E (w8 (byteAt s.h.toNat 8)) (fun α => cast (by kernel_rfl) (w_byte32 s.h 8)) ?_
  refine SX.E (w32 (s.h >>> 0)) (fun α => cast (by kernel_rfl) (w_shr s.h .i64 0 (by omega))) ?_
  refine SX.E (w8 (byteAt s.h.toNat 0)) (fun α => cast (by kernel_rfl) (w_byte32 s.h 0)) ?_
  exact SX.VC_ret fun α W _ _ hS => SX.ret_of (x := .agg ((outS s).flatMap c8).toArray) hS (by kernel_rfl) (by rw [hsum, hs])
def RsumR (f : FuncId) (xs : List SX.Arg) (v : Value) : Prop := f = 59 ∧ ∃ (u : Value) (l : List W8), xs = [⟨u, 1, l.flatMap c8⟩] ∧ l.length < 2 ^ 45 ∧ v = .agg ((sumE l).flatMap c8).toArray
noncomputable def cxV (K A : Value → Nat → List Value → Prop) : SX.Cx := { P := Tryd.prog, R := fun _ f xs v => RsumR f xs v, shp := fun f => if f = 59 then some (.ag 32) else none, K := K, A := A, arr := true, trm := true }
theorem cxV_ok (K A : Value → Nat → List Value → Prop) : (cxV K A).Ok := SX.Cx.ok_of (fun _ => rfl) fun _ f xs v W h hrd hK => by
  obtain ⟨rfl, u, l, rfl, hl, rfl⟩ := h
  obtain ⟨A, n, c, rfl, hr, hc, hn⟩ := byte_arg (hrd ⟨u, 1, l.flatMap c8⟩ (List.mem_singleton_self _))
  exact (rsum_any l hl A n c W hr hc).mono fun e w' h => SX.plainOk rfl h
def args_rtagged : List SX.V := [.x 0 [], .x 1 []]
def tree_rtagged : SX.Tree :=
(.df .s2b [(.q 0)] .any
(.df (.call 59 [(.row 1 [(.q 2)])]) [(.row 1)] (.ag 32)
(.df (.app 1 1 (.own 1 (SX.Y 3 0 32))) [(.cat []), (.sl 2 0 32 32)] .any
(.df (.app 1 1 (.ext 1)) [(.cat [(.q 4)]), (.q 1)] .any
(.df (.call 59 [(.row 1 [(.q 4), (.q 5)])]) [(.row 5)] (.ag 32)
(.ret (.a (SX.Y 6 0 32)) [] []))))))
set_option maxRecDepth 100000 in
theorem run_rtagged (K A : Value → Nat → List Value → Prop) : (SX.run (cxV K A) ⟨fun _ => true, [], 0, 100⟩ 100000 0 (SX.door 42 Tryd.f42 args_rtagged [.one, .one]) [.code (Tryd.f42.body.getD .skip), .top Tryd.f42]).strip = tree_rtagged := by kernel_rfl
set_option maxRecDepth 100000 in
set_option maxHeartbeats 4000000 in
theorem rtagged_any (s : ByteArray) (l : List W8) (hs : s.size < 2 ^ 44) (hl : l.length < 2 ^ 44) (A : Option Addr) (n c : Nat) (w : World) (hr : Rd w 1 A n (l.flatMap c8)) (hc : n ≤ c) : Calls Tryd.prog 42 #[.string s, .slice A n c] w fun e w' => e = .returned (.agg ((tagE (sb s) l).flatMap c8).toArray) ∧ Below w.heap.size w w' := by
  refine SX.calls_of_run (C := cxV (fun v z xs => v = .slice A n c ∧ z = 1 ∧ xs = l.flatMap c8) (fun _ _ _ => False)) (G := ⟨fun _ => true, [], 0, 100⟩) (args := args_rtagged) (sh := [.one, .one]) (ρ := [.string s, .slice A n c]) 100000 tree_rtagged (cxV_ok _ _) Tryd.func42 rfl (cast (by kernel_rfl) (run_rtagged (fun v z xs => v = .slice A n c ∧ z = 1 ∧ xs = l.flatMap c8) (fun _ _ _ => False))) (by kernel_rfl) (by kernel_rfl) (by kernel_rfl) (fun W hW v z xs ⟨h1, h2, h3⟩ => by subst h1; subst h2; subst h3; exact ⟨hr.same0 hW, hc⟩) ?_
  have one : ∀ a, ∀ u ∈ c8 a, u.oneCell' = true := fun a u hu => by obtain rfl : u = w8 a := by simpa [c8] using hu
                                                                    rfl
  unfold tree_rtagged
  refine SX.E (.agg ((sb s).flatMap c8).toArray) (fun α => s2b_rel (by kernel_rfl)) ?_
  obtain ⟨g, hg⟩ := listN (n := 32) (sumE (sb s)) rfl
  refine SX.E (.agg (((List.range 32).map g).flatMap c8).toArray) (fun α => by rw [← hg]; exact ⟨[⟨(α 1).h, 1, (sb s).flatMap c8⟩], ⟨Eq.trans (b := ⟨(α 1).h, 1, (sb s).flatMap c8 ++ []⟩) (by rw [List.append_nil]) (by kernel_rfl), trivial⟩, ⟨rfl, _, _, rfl, by rw [sb_len]; omega, rfl⟩, SX.noAli rfl⟩) ?_
  refine SX.E (.agg (((List.range 32).map g).flatMap c8).toArray) (fun α => SX.app_rel c8_len one (by omega) (l1 := []) (l2 := ((List.range 32).map g)) (by kernel_rfl) (SX.src_own (by kernel_rfl)) (by simp) (by simp)) ?_
  refine SX.E (.agg (l.flatMap c8).toArray) (fun α => SX.app_rel c8_len one (by omega) (l1 := ((List.range 32).map g)) (l2 := l) (SX.cat1 (by kernel_rfl)) (SX.src_ext ⟨rfl, rfl, rfl⟩) (by simp; omega) (by simp; omega)) ?_
  obtain ⟨g2, hg2⟩ := listN (n := 32) (tagE (sb s) l) rfl
  refine SX.E (.agg (((List.range 32).map g2).flatMap c8).toArray) (fun α => by rw [← hg2]; exact ⟨[⟨(α 5).h, 1, (sumE (sb s) ++ l).flatMap c8⟩], ⟨Eq.trans (b := ⟨(α 5).h, 1, ((List.range 32).map g).flatMap c8 ++ (l.flatMap c8 ++ [])⟩) (by rw [hg, List.append_nil, List.flatMap_append]) (by kernel_rfl), trivial⟩, ⟨rfl, _, _, rfl, by simp only [List.length_append, sumE_len]; omega, rfl⟩, SX.noAli rfl⟩) ?_
  exact SX.VC_ret fun α W _ _ hS => SX.ret_of (x := .agg (((List.range 32).map g2).flatMap c8).toArray) hS (by kernel_rfl) (by rw [hg2])
def RtagR (f : FuncId) (xs : List SX.Arg) (v : Value) : Prop := f = 42 ∧ ∃ (s : ByteArray) (u : Value) (l : List W8), xs = [⟨.string s, 0, []⟩, ⟨u, 1, l.flatMap c8⟩] ∧ s.size < 2 ^ 44 ∧ l.length < 2 ^ 44 ∧ v = .agg ((tagE (sb s) l).flatMap c8).toArray
noncomputable def cxX (K A : Value → Nat → List Value → Prop) : SX.Cx := { P := Tryd.prog, R := fun _ f xs v => RtagR f xs v, shp := fun f => if f = 42 then some (.ag 32) else none, K := K, A := A, arr := true, trm := true }
theorem cxX_ok (K A : Value → Nat → List Value → Prop) : (cxX K A).Ok := SX.Cx.ok_of (fun _ => rfl) fun _ f xs v W h hrd hK => by
  obtain ⟨rfl, s, u, l, rfl, hs, hl, rfl⟩ := h
  obtain ⟨A, n, c, rfl, hr, hc, hn⟩ := byte_arg (hrd ⟨u, 1, l.flatMap c8⟩ (List.mem_cons_of_mem _ (List.mem_singleton_self _)))
  exact (rtagged_any s l hs hl A n c W hr hc).mono fun e w' h => SX.plainOk rfl h
def args_rhash : List SX.V := [.x 0 [], .x 1 []]
def tree_rhash : SX.Tree :=
(.df (.call 42 [.no, (.ext 1)]) [(.q 0), (.q 1)] (.ag 32)
(.df (.conv .i64) [(.x 2 [0])] .one
(.df (.bin .rem 3) [(.q 3), (.i 128)] .one
(.df (.bin .mul 3) [(.q 4), (.i 256)] .one
(.df (.conv .i64) [(.x 2 [1])] .one
(.df (.bin .add 3) [(.q 5), (.q 6)] .one
(.df (.bin .mul 3) [(.q 7), (.i 256)] .one
(.df (.conv .i64) [(.x 2 [2])] .one
(.df (.bin .add 3) [(.q 8), (.q 9)] .one
(.df (.bin .mul 3) [(.q 10), (.i 256)] .one
(.df (.conv .i64) [(.x 2 [3])] .one
(.df (.bin .add 3) [(.q 11), (.q 12)] .one
(.df (.bin .mul 3) [(.q 13), (.i 256)] .one
(.df (.conv .i64) [(.x 2 [4])] .one
(.df (.bin .add 3) [(.q 14), (.q 15)] .one
(.df (.bin .mul 3) [(.q 16), (.i 256)] .one
(.df (.conv .i64) [(.x 2 [5])] .one
(.df (.bin .add 3) [(.q 17), (.q 18)] .one
(.df (.bin .mul 3) [(.q 19), (.i 256)] .one
(.df (.conv .i64) [(.x 2 [6])] .one
(.df (.bin .add 3) [(.q 20), (.q 21)] .one
(.df (.bin .mul 3) [(.q 22), (.i 256)] .one
(.df (.conv .i64) [(.x 2 [7])] .one
(.df (.bin .add 3) [(.q 23), (.q 24)] .one
(.df (.bin .rem 3) [(.q 25), (.i 1073741789)] .one
(.ret (.q 26) [] []))))))))))))))))))))))))))
set_option maxRecDepth 100000 in
theorem run_rhash (K A : Value → Nat → List Value → Prop) : (SX.run (cxX K A) ⟨fun _ => true, [], 0, 100⟩ 100000 0 (SX.door 27 Tryd.f27 args_rhash [.one, .one]) [.code (Tryd.f27.body.getD .skip), .top Tryd.f27]).strip = tree_rhash := by kernel_rfl
theorem i_add63 {a b d : Nat} (h : a + b = d) (ha : d < 2 ^ 63) : SX.binV .add (.int .i64 (a : Int)) (.int .i64 (b : Int)) = some (.int .i64 (d : Int)) := by
  simp only [SX.binV, binI, if_true]
  rw [wrap_i64 (by omega) (by omega)]
  congr 2
  omega
set_option maxRecDepth 100000 in
set_option maxHeartbeats 4000000 in
theorem rhash_any (s : ByteArray) (l : List W8) (hs : s.size < 2 ^ 44) (hl : l.length < 2 ^ 44) (A : Option Addr) (n c : Nat) (w : World) (hr : Rd w 1 A n (l.flatMap c8)) (hc : n ≤ c) : Calls Tryd.prog 27 #[.string s, .slice A n c] w fun e w' => e = .returned (.int .i64 (hashN (tagE (sb s) l) : Int)) ∧ Below w.heap.size w w' := by
  refine SX.calls_of_run (C := cxX (fun v z xs => v = .slice A n c ∧ z = 1 ∧ xs = l.flatMap c8) (fun _ _ _ => False)) (G := ⟨fun _ => true, [], 0, 100⟩) (args := args_rhash) (sh := [.one, .one]) (ρ := [.string s, .slice A n c]) 100000 tree_rhash (cxX_ok _ _) Tryd.func27 rfl (cast (by kernel_rfl) (run_rhash (fun v z xs => v = .slice A n c ∧ z = 1 ∧ xs = l.flatMap c8) (fun _ _ _ => False))) (by kernel_rfl) (by kernel_rfl) (by kernel_rfl) (fun W hW v z xs ⟨h1, h2, h3⟩ => by subst h1; subst h2; subst h3; exact ⟨hr.same0 hW, hc⟩) ?_
  unfold tree_rhash
  obtain ⟨g, hg⟩ := listN (n := 32) (tagE (sb s) l) rfl
  refine SX.E (.agg (((List.range 32).map g).flatMap c8).toArray) (fun α => by rw [← hg]; exact ⟨[⟨.string s, 0, []⟩, ⟨.slice A n c, 1, l.flatMap c8⟩], ⟨by kernel_rfl, by kernel_rfl, by kernel_rfl, by kernel_rfl, ⟨rfl, rfl, rfl⟩, trivial⟩, ⟨rfl, s, _, l, rfl, hs, hl, rfl⟩, SX.noAli rfl⟩) ?_
  have l0 := (g 0).isLt
  have l1 := (g 1).isLt
  have l2 := (g 2).isLt
  have l3 := (g 3).isLt
  have l4 := (g 4).isLt
  have l5 := (g 5).isLt
  have l6 := (g 6).isLt
  have l7 := (g 7).isLt
  obtain ⟨n0, hn0⟩ : ∃ z, z = (g 0).toNat % 128 := ⟨_, rfl⟩
  obtain ⟨n1, hn1⟩ : ∃ z, z = n0 * 256 + (g 1).toNat := ⟨_, rfl⟩
  obtain ⟨n2, hn2⟩ : ∃ z, z = n1 * 256 + (g 2).toNat := ⟨_, rfl⟩
  obtain ⟨n3, hn3⟩ : ∃ z, z = n2 * 256 + (g 3).toNat := ⟨_, rfl⟩
  obtain ⟨n4, hn4⟩ : ∃ z, z = n3 * 256 + (g 4).toNat := ⟨_, rfl⟩
  obtain ⟨n5, hn5⟩ : ∃ z, z = n4 * 256 + (g 5).toNat := ⟨_, rfl⟩
  obtain ⟨n6, hn6⟩ : ∃ z, z = n5 * 256 + (g 6).toNat := ⟨_, rfl⟩
  obtain ⟨n7, hn7⟩ : ∃ z, z = n6 * 256 + (g 7).toNat := ⟨_, rfl⟩
  refine SX.E (.int .i64 ((g 0).toNat : Int)) (fun α => cast (by kernel_rfl) (conv_w8 (g 0))) ?_
  refine SX.E (.int .i64 (n0 : Int)) (fun α => cast (by kernel_rfl) (show SX.binV .rem (.int .i64 ((g 0).toNat : Int)) (.int .i64 128) = some (.int .i64 (n0 : Int)) from by rw [rem128, hn0])) ?_
  refine SX.E (.int .i64 ((n0 * 256 : Nat) : Int)) (fun α => cast (by kernel_rfl) (mul256 n0 (by omega))) ?_
  refine SX.E (.int .i64 ((g 1).toNat : Int)) (fun α => cast (by kernel_rfl) (conv_w8 (g 1))) ?_
  refine SX.E (.int .i64 (n1 : Int)) (fun α => cast (by kernel_rfl) (i_add63 (a := n0 * 256) (b := (g 1).toNat) (d := n1) (by omega) (by omega))) ?_
  refine SX.E (.int .i64 ((n1 * 256 : Nat) : Int)) (fun α => cast (by kernel_rfl) (mul256 n1 (by omega))) ?_
  refine SX.E (.int .i64 ((g 2).toNat : Int)) (fun α => cast (by kernel_rfl) (conv_w8 (g 2))) ?_
  refine SX.E (.int .i64 (n2 : Int)) (fun α => cast (by kernel_rfl) (i_add63 (a := n1 * 256) (b := (g 2).toNat) (d := n2) (by omega) (by omega))) ?_
  refine SX.E (.int .i64 ((n2 * 256 : Nat) : Int)) (fun α => cast (by kernel_rfl) (mul256 n2 (by omega))) ?_
  refine SX.E (.int .i64 ((g 3).toNat : Int)) (fun α => cast (by kernel_rfl) (conv_w8 (g 3))) ?_
  refine SX.E (.int .i64 (n3 : Int)) (fun α => cast (by kernel_rfl) (i_add63 (a := n2 * 256) (b := (g 3).toNat) (d := n3) (by omega) (by omega))) ?_
  refine SX.E (.int .i64 ((n3 * 256 : Nat) : Int)) (fun α => cast (by kernel_rfl) (mul256 n3 (by omega))) ?_
  refine SX.E (.int .i64 ((g 4).toNat : Int)) (fun α => cast (by kernel_rfl) (conv_w8 (g 4))) ?_
  refine SX.E (.int .i64 (n4 : Int)) (fun α => cast (by kernel_rfl) (i_add63 (a := n3 * 256) (b := (g 4).toNat) (d := n4) (by omega) (by omega))) ?_
  refine SX.E (.int .i64 ((n4 * 256 : Nat) : Int)) (fun α => cast (by kernel_rfl) (mul256 n4 (by omega))) ?_
  refine SX.E (.int .i64 ((g 5).toNat : Int)) (fun α => cast (by kernel_rfl) (conv_w8 (g 5))) ?_
  refine SX.E (.int .i64 (n5 : Int)) (fun α => cast (by kernel_rfl) (i_add63 (a := n4 * 256) (b := (g 5).toNat) (d := n5) (by omega) (by omega))) ?_
  refine SX.E (.int .i64 ((n5 * 256 : Nat) : Int)) (fun α => cast (by kernel_rfl) (mul256 n5 (by omega))) ?_
  refine SX.E (.int .i64 ((g 6).toNat : Int)) (fun α => cast (by kernel_rfl) (conv_w8 (g 6))) ?_
  refine SX.E (.int .i64 (n6 : Int)) (fun α => cast (by kernel_rfl) (i_add63 (a := n5 * 256) (b := (g 6).toNat) (d := n6) (by omega) (by omega))) ?_
  refine SX.E (.int .i64 ((n6 * 256 : Nat) : Int)) (fun α => cast (by kernel_rfl) (mul256 n6 (by omega))) ?_
  refine SX.E (.int .i64 ((g 7).toNat : Int)) (fun α => cast (by kernel_rfl) (conv_w8 (g 7))) ?_
  refine SX.E (.int .i64 (n7 : Int)) (fun α => cast (by kernel_rfl) (i_add63 (a := n6 * 256) (b := (g 7).toNat) (d := n7) (by omega) (by omega))) ?_
  refine SX.E (.int .i64 ((n7 % 1073741789 : Nat) : Int)) (fun α => cast (by kernel_rfl) (remQ n7)) ?_
  have hN : hashN (tagE (sb s) l) = n7 % 1073741789 := by rw [hg]; subst hn7 hn6 hn5 hn4 hn3 hn2 hn1 hn0; rfl
  exact SX.VC_ret fun α W _ _ hS => SX.ret_of (x := .int .i64 ((n7 % 1073741789 : Nat) : Int)) hS (by kernel_rfl) (by rw [hN])
end Go.Proofs.YtbbofkpolcjmgaaDoor
namespace Go.Proofs.YtbbofkpolcjmgaaDoor
open Go.RowKit
theorem exponent_any (n : Int) (w : World) :
    Calls Tryd.prog 44 #[.int .i64 n] w fun e w' => e = .returned (.int .i64 (Jac.red n)) ∧ w = w' := by
  have h1 := Int.tmod_lt_of_pos n (b := 1073741789) (by omega)
  have h2 := Jac.tmod_lo n
  have HR := Lib.hid (Jac.red_eq n)
  go_enter Tryd.func44, Tryd.ntmps44
  go_wp2
  · go_ret
    exact ⟨ret_int (by rw [HR.out, if_pos (by assumption)]), rfl⟩
  go_ret
  exact ⟨ret_int (by rw [HR.out, if_neg (by omega)]), rfl⟩
theorem rmul_any (a b : Int) (w : World) :
    Calls Tryd.prog 45 #[.int .i64 a, .int .i64 b] w fun e w' => e = .returned (.tuple #[.int .i64 (Jac.mulV a b), .int .i64 (Jac.mulE a b)]) ∧ w = w' := by
  rcases Jac.mul_cases a b with ⟨ha, hm⟩ | ⟨ha, hb, hm⟩ | ⟨ha, hb, ba, bb, bm, hm⟩
  all_goals
    have HM := Lib.hid hm
    clear hm
    try (have ba1 := ba.1; have ba2 := ba.2; have bb1 := bb.1; have bb2 := bb.2)
    go_enter Tryd.func45, Tryd.ntmps45
    go_wp2_with (go_at_call 32; refine (rvalid_any _ _).mono ?_; rintro e w' ⟨rfl, rfl⟩)
    go_ret2
    exact ⟨ret_ii HM.out.1.symm HM.out.2.symm, rfl⟩
theorem rpow_any (a n : Int) (w : World) :
    Calls Tryd.prog 28 #[.int .i64 a, .int .i64 n] w fun e w' => e = .returned (.tuple #[.int .i64 (Jac.powV a n), .int .i64 (Jac.mulE a a)]) ∧ w = w' := by
  have hr := Jac.red_bounds n
  have hr1 := hr.1
  have hr2 := hr.2
  clear hr
  rcases Jac.pow_cases a n with ⟨ha, hm⟩ | ⟨ha, ba1, ba2, hm⟩
  all_goals
    have HM := Lib.hid hm
    clear hm
    go_enter Tryd.func28, Tryd.ntmps28
    go_wp2_with (first | (go_at_call 32; refine (rvalid_any _ _).mono ?_; rintro e w' ⟨rfl, rfl⟩) | (go_at_call 44; refine (exponent_any _ _).mono ?_; rintro e w' ⟨rfl, rfl⟩) | (go_at_call 43; refine (power_int _ _ _ (by omega) (by omega) (by omega) (by omega)).mono ?_; rintro e w' ⟨rfl, rfl⟩))
    go_ret2
    exact ⟨ret_ii HM.out.1.symm HM.out.2.symm, rfl⟩
end Go.Proofs.YtbbofkpolcjmgaaDoor
namespace Go.Proofs.YtbbofkpolcjmgaaDoor
set_option maxRecDepth 20000
open Go Go.RowKit
namespace Jac
end Jac
def modQ (n : Int) : Int := n % 1073741789
theorem modQ_bd (n : Int) : 0 ≤ modQ n ∧ modQ n < 1073741789 := by unfold modQ; omega
theorem rem_t (x : Int) : SX.binV .rem (.int .i64 x) (.int .i64 1073741789) = some (.int .i64 (x.tmod 1073741789)) := by
  simp only [SX.binV, if_true]
  rw [if_neg (by decide)]
theorem modQ_eq (n : Int) : modQ n = if n.tmod 1073741789 < 0 then n.tmod 1073741789 + 1073741789 else n.tmod 1073741789 := Jac.red_eq n
def tree_mod : SX.Tree :=
(.df (.bin .rem 3) [(.q 0), (.i 1073741789)] .one
(.df (.bin .lss 3) [(.q 1), (.i 0)] .one
(.br 2 []
(.df (.bin .add 3) [(.q 1), (.i 1073741789)] .one
(.ret (.q 3) [] []))
(.ret (.q 1) [] []))))
def args_mod : List SX.V := [.x 0 []]
set_option maxRecDepth 100000 in
theorem run_mod (K A : Value → Nat → List Value → Prop) : (SX.run (cx0 K A) ⟨fun f => true, [], 0, 100⟩ 100000 0 (SX.door 17 Tryd.f17 args_mod [.one]) [.code (Tryd.f17.body.getD .skip), .top Tryd.f17]).strip = tree_mod := by kernel_rfl
set_option maxRecDepth 100000 in
set_option maxHeartbeats 4000000 in
theorem mod_any (n : Int) (w : World)  : Calls Tryd.prog 17 #[.int .i64 n] w fun e w' => e = .returned (.int .i64 (modQ n)) ∧ Below w.heap.size w w' := by
  refine SX.calls_of_run (C := cx0 (fun _ _ _ => False) (fun _ _ _ => False)) (G := ⟨fun f => true, [], 0, 100⟩) (args := args_mod) (sh := [.one]) (ρ := [.int .i64 n]) 100000 tree_mod (cx0_ok _ _) Tryd.func17 rfl (run_mod _ _) (by kernel_rfl) (by kernel_rfl) (by kernel_rfl) ?_ ?_
  · exact fun W _ => SX.Kf_none (fun _ _ _ h => h) W
  have t1 := Jac.tmod_lo n
  have t2 := Int.tmod_lt_of_pos n (b := 1073741789) (by omega)
  unfold tree_mod
  refine SX.E (.int .i64 ((n.tmod 1073741789))) (fun α => Eq.trans (b := SX.binV .rem (.int .i64 n) (.int .i64 1073741789)) (by kernel_rfl) (rem_t n)) ?_
  refine SX.D (.bool (decide ((n.tmod 1073741789) < 0))) ?_
  refine SX.B (decide ((n.tmod 1073741789) < 0)) (fun h2 => ?_) (fun h2 => ?_)
  · try simp only [NRM] at h2
    refine SX.E (.int .i64 (((n.tmod 1073741789)) + 1073741789)) (fun α => SX.W (((n.tmod 1073741789)) + 1073741789)) ?_
    exact SX.F (.int .i64 (((n.tmod 1073741789)) + 1073741789)) (by rw [modQ_eq]; split <;> first | rfl | omega)
  try simp only [NRM] at h2
  exact SX.F (.int .i64 ((n.tmod 1073741789))) (by rw [modQ_eq]; split <;> first | rfl | omega)
def RQM (f : FuncId) (xs : List SX.Arg) (v : Value) : Prop :=
  (f = 17 ∧ ∃ n : Int, xs = [⟨.int .i64 n, 0, []⟩] ∧ v = .int .i64 (modQ n))
def shpQM : FuncId → Option SX.Sh := fun f => if f = 17 then some .one else none
noncomputable def cxQM (K A : Value → Nat → List Value → Prop) : SX.Cx := { P := Tryd.prog, R := fun _ => RQM, shp := shpQM, K := K, A := A }
theorem okQM (K A : Value → Nat → List Value → Prop) : (cxQM K A).Ok := by
  refine SX.Cx.ok_of (fun _ => rfl) ?_
  intro K f xs v W hR hrd hKf
  rcases hR with ⟨rfl, n, rfl, rfl⟩
  exact (mod_any n W).mono fun e w' h => SX.plainOk rfl h
def tree_rtimes : SX.Tree :=
(.df (.call 17 [.no]) [(.q 0)] .one
(.df (.call 17 [.no]) [(.q 1)] .one
(.df (.bin .mul 3) [(.q 2), (.q 3)] .one
(.df (.bin .rem 3) [(.q 4), (.i 1073741789)] .one
(.ret (.q 5) [] [])))))
def args_rtimes : List SX.V := [.x 0 [], .x 1 []]
set_option maxRecDepth 100000 in
theorem run_rtimes (K A : Value → Nat → List Value → Prop) : (SX.run (cxQM K A) ⟨fun f => true, [], 0, 100⟩ 100000 0 (SX.door 30 Tryd.f30 args_rtimes [.one, .one]) [.code (Tryd.f30.body.getD .skip), .top Tryd.f30]).strip = tree_rtimes := by kernel_rfl
set_option maxRecDepth 100000 in
set_option maxHeartbeats 4000000 in
theorem rtimes_any (a b : Int) (w : World)  : Calls Tryd.prog 30 #[.int .i64 a, .int .i64 b] w fun e w' => e = .returned (.int .i64 (modQ a * modQ b % 1073741789)) ∧ Below w.heap.size w w' := by
  refine SX.calls_of_run (C := cxQM (fun _ _ _ => False) (fun _ _ _ => False)) (G := ⟨fun f => true, [], 0, 100⟩) (args := args_rtimes) (sh := [.one, .one]) (ρ := [.int .i64 a, .int .i64 b]) 100000 tree_rtimes (okQM _ _) Tryd.func30 rfl (run_rtimes _ _) (by kernel_rfl) (by kernel_rfl) (by kernel_rfl) ?_ ?_
  · exact fun W _ => SX.Kf_none (fun _ _ _ h => h) W
  have m1 := modQ_bd a
  have m2 := modQ_bd b
  unfold tree_rtimes
  refine SX.E (.int .i64 ((modQ a))) (fun α => ⟨[⟨.int .i64 a, 0, []⟩], ⟨by kernel_rfl, by kernel_rfl, trivial⟩, ⟨rfl, _, rfl, rfl⟩, SX.noAli rfl⟩) ?_
  refine SX.E (.int .i64 ((modQ b))) (fun α => ⟨[⟨.int .i64 b, 0, []⟩], ⟨by kernel_rfl, by kernel_rfl, trivial⟩, ⟨rfl, _, rfl, rfl⟩, SX.noAli rfl⟩) ?_
  refine SX.E (.int .i64 (modQ a * modQ b)) (fun α => Eq.trans (b := some (.int .i64 (IntKind.i64.wrap (modQ a * modQ b)))) (by kernel_rfl) (by have := mul_q m1.1 m1.2 m2.1 m2.2; rw [wrap_i64 (by omega) (by omega)])) ?_
  refine SX.E (.int .i64 ((modQ a * modQ b) % 1073741789)) (fun α => Eq.trans (b := SX.binV .rem (.int .i64 (modQ a * modQ b)) (.int .i64 1073741789)) (by kernel_rfl) (rem_q (mul_q m1.1 m1.2 m2.1 m2.2).1)) ?_
  exact SX.F (.int .i64 ((modQ a * modQ b) % 1073741789)) (rfl)
def RY6 (K : Value → Nat → List Value → Prop) (f : FuncId) (xs : List SX.Arg) (v : Value) : Prop :=
  (f = 23 ∧ ∃ (hdr : Value) (fl : List Fl), xs = [⟨.agg #[.int .i64 3, .int .i64 0, .string ⟨#[]⟩, hdr], 0, []⟩] ∧ K hdr 4 (flL fl) ∧ fl.length ≤ 1048576 ∧ (∀ z ∈ fl, z.fits) ∧ v = .tuple #[.agg ((encL fl).flatMap c8).toArray, .int .i64 0]) ∨
  (f = 27 ∧ ∃ (s : ByteArray) (u : Value) (l : List W8), xs = [⟨.string s, 0, []⟩, ⟨u, 1, l.flatMap c8⟩] ∧ s.size < 2 ^ 44 ∧ l.length < 2 ^ 44 ∧ v = .int .i64 (hashN (tagE (sb s) l) : Int)) ∨
  (f = 28 ∧ ∃ a n : Int, xs = [⟨.int .i64 a, 0, []⟩, ⟨.int .i64 n, 0, []⟩] ∧ v = .tuple #[.int .i64 (Jac.powV a n), .int .i64 (Jac.mulE a a)]) ∨
  (f = 45 ∧ ∃ a n : Int, xs = [⟨.int .i64 a, 0, []⟩, ⟨.int .i64 n, 0, []⟩] ∧ v = .tuple #[.int .i64 (Jac.mulV a n), .int .i64 (Jac.mulE a n)]) ∨
  (f = 32 ∧ ∃ x : Int, xs = [⟨.int .i64 x, 0, []⟩] ∧ v = .bool (Jac.vld x)) ∨
  (f = 30 ∧ ∃ a b : Int, xs = [⟨.int .i64 a, 0, []⟩, ⟨.int .i64 b, 0, []⟩] ∧ v = .int .i64 (modQ a * modQ b % 1073741789))
def shpY6 : FuncId → Option SX.Sh := fun f => if f = 23 then some (.tp [.sl 1, .one]) else if f = 27 then some .one else if f = 28 then some (.tp [.one, .one]) else if f = 45 then some (.tp [.one, .one]) else if f = 32 then some .one else if f = 30 then some .one else none
noncomputable def cxY6 (K A : Value → Nat → List Value → Prop) : SX.Cx := { P := Tryd.prog, R := RY6, shp := shpY6, K := K, A := A, trm := true }
theorem okY6 (K A : Value → Nat → List Value → Prop) : (cxY6 K A).Ok := by
  refine SX.Cx.ok_of (fun _ => rfl) ?_
  intro K f xs v W hR hrd hKf
  rcases hR with ⟨rfl, hdr, fl, rfl, hk, hl, hf, rfl⟩ | ⟨rfl, s, u, l, rfl, hs, hl, rfl⟩ | ⟨rfl, a, n, rfl, rfl⟩ | ⟨rfl, a, n, rfl, rfl⟩ | ⟨rfl, x, rfl, rfl⟩ | ⟨rfl, a, b, rfl, rfl⟩
  · obtain ⟨A, n, c, rfl, h2, h3, h4⟩ := fl_arg (hKf _ _ _ hk)
    exact Calls.mono (rencode_any fl A n c W h2 (by omega) h3 hf) fun e w' h => SX.SlRet.ok0 rfl h
  · obtain ⟨A, n, c, rfl, hr, hc, -⟩ := byte_arg (hrd ⟨u, 1, l.flatMap c8⟩ (by simp))
    exact (rhash_any s l hs hl A n c W hr hc).mono fun e w' h => SX.plainOk rfl h
  · exact (rpow_any a n W).mono fun e w' h => SX.plainOk rfl ⟨h.1, h.2 ▸ Below.refl _ _⟩
  · exact (rmul_any a n W).mono fun e w' h => SX.plainOk rfl ⟨h.1, h.2 ▸ Below.refl _ _⟩
  · exact (rvalid_any x W).mono fun e w' h => SX.plainOk rfl ⟨h.1, h.2 ▸ Below.refl _ _⟩
  exact (rtimes_any a b W).mono fun e w' h => SX.plainOk rfl h
def tree_rshash : SX.Tree :=
(.df .b2sx [(.q 2)] .one
(.df (.callg 23 [.no] [(.own 4 [(.i 1), (.q 0), (.k (.string ⟨#[]⟩)), (.k (.slice none 0 0)), (.i 1), (.q 1), (.k (.string ⟨#[]⟩)), (.k (.slice none 0 0)), (.i 2), (.i 0), (.q 3), (.k (.slice none 0 0))])]) [(.a [(.i 3), (.i 0), (.k (.string ⟨#[]⟩)), (.sl 7 0 3 3)]), (.sl 7 0 3 3)] (.tp [(.sl 1), .one])
(.df (.call 27 [.no, (.row 1 [(.x 4 [0])])]) [(.k (.string ⟨#[115, 105, 103, 110]⟩)), (.row 9)] .one
(.ret (.q 5) [] []))))
def args_rshash : List SX.V := [.x 0 [], .x 1 [], .x 2 []]
set_option maxRecDepth 100000 in
theorem run_rshash (K A : Value → Nat → List Value → Prop) : (SX.run (cxY6 K A) ⟨fun f => true, [], 0, 100⟩ 100000 0 (SX.door 29 Tryd.f29 args_rshash [.one, .one, .one]) [.code (Tryd.f29.body.getD .skip), .top Tryd.f29]).strip = tree_rshash := by kernel_rfl
set_option maxRecDepth 100000 in
set_option maxHeartbeats 4000000 in
theorem rshash_any (r key : Int) (tx : ByteArray) (A : Option Addr) (n c : Nat) (w : World) (b1 : -9223372036854775808 ≤ r) (b2 : r ≤ 9223372036854775807) (b3 : -9223372036854775808 ≤ key) (b4 : key ≤ 9223372036854775807) (hr : Rd w 1 A n ((sb tx).flatMap c8)) (hc : n ≤ c) (htx : tx.size ≤ 1048576) : Calls Tryd.prog 29 #[.int .i64 r, .int .i64 key, .slice A n c] w fun e w' => e = .returned (.int .i64 (pointH r key tx)) ∧ Below w.heap.size w w' := by
  refine SX.calls_of_run (C := cxY6 (fun s sz cells => s = .slice A n c ∧ sz = 1 ∧ cells = (sb tx).flatMap c8) (fun _ _ _ => False)) (G := ⟨fun f => true, [], 0, 100⟩) (args := args_rshash) (sh := [.one, .one, .one]) (ρ := [.int .i64 r, .int .i64 key, .slice A n c]) 100000 tree_rshash (okY6 _ _) Tryd.func29 rfl (run_rshash _ _) (by kernel_rfl) (by kernel_rfl) (by kernel_rfl) ?_ ?_
  · rintro W hW s sz cells ⟨rfl, rfl, rfl⟩; exact ⟨hr.same0 hW, hc⟩
  unfold tree_rshash
  refine SX.E (.string tx) (fun α => ⟨tx.data.toList, A, n, c, by rw [sb_l]; exact ⟨rfl, rfl, rfl⟩, by kernel_rfl, by simp⟩) ?_
  refine SX.VC_df (.tuple #[Value.agg ((encL [.n r, .n key, .s tx]).flatMap c8).toArray, .int .i64 0]) (fun α => ⟨[⟨.agg #[.int .i64 3, .int .i64 0, .string ⟨#[]⟩, .slice (some ⟨(α 7).b, 0, none⟩) 3 3], 0, []⟩], [⟨.slice (some ⟨(α 7).b, 0, none⟩) 3 3, 4, flL [.n r, .n key, .s tx]⟩], ⟨by kernel_rfl, by kernel_rfl, trivial⟩, ⟨by kernel_rfl, trivial⟩, .inl ⟨rfl, _, [.n r, .n key, .s tx], rfl, .inr (by simp), by simp, by intro z hz; simp only [List.mem_cons, List.not_mem_nil, or_false] at hz; rcases hz with rfl | rfl | rfl <;> simp only [Fl.fits] <;> omega, rfl⟩, SX.noAli rfl⟩) ((enc_fit _ _)) ?_
  refine SX.E (.int .i64 ((hashV signT [.n r, .n key, .s tx]))) (fun α => ⟨[⟨.string signT, 0, []⟩, ⟨(α 9).h, 1, (encL [.n r, .n key, .s tx]).flatMap c8⟩], ⟨by kernel_rfl, by kernel_rfl, Eq.trans (b := (⟨(α 9).h, 1, [Value.agg ((encL [.n r, .n key, .s tx]).flatMap c8).toArray].flatMap SX.cellsV⟩ : SX.Arg)) (by simp [SX.cellsV]) (by kernel_rfl), trivial⟩, .inr (.inl ⟨rfl, signT, _, encL [.n r, .n key, .s tx], rfl, by decide, encL_lt (by intro z hz; simp only [List.mem_cons, List.not_mem_nil, or_false] at hz; rcases hz with rfl | rfl | rfl <;> simp only [Fl.fits] <;> omega) (by simp), rfl⟩), SX.noAli rfl⟩) ?_
  exact SX.F (.int .i64 ((hashV signT [.n r, .n key, .s tx]))) (rfl)
def tree_rpoint : SX.Tree :=
(.df (.call 28 [.no, .no]) [(.i 4), (.q 2)] (.tp [.one, .one])
(.df .neg [(.q 1)] .one
(.df (.call 28 [.no, .no]) [(.q 0), (.q 4)] (.tp [.one, .one])
(.df (.call 45 [.no, .no]) [(.x 3 [0]), (.x 5 [0])] (.tp [.one, .one])
(.ret (.x 6 [0]) [] [])))))
def args_rpoint : List SX.V := [.x 0 [], .a [.x 1 [], .x 2 []]]
set_option maxRecDepth 100000 in
theorem run_rpoint (K A : Value → Nat → List Value → Prop) : (SX.run (cxY6 K A) ⟨fun f => true, [], 0, 100⟩ 100000 0 (SX.door 33 Tryd.f33 args_rpoint (List.replicate 3 .one)) [.code (Tryd.f33.body.getD .skip), .top Tryd.f33]).strip = tree_rpoint := by kernel_rfl
set_option maxRecDepth 100000 in
set_option maxHeartbeats 4000000 in
theorem rpoint_any (key E S : Int) (w : World) (h1 : 0 ≤ E) (h2 : E < 1073741789) : Calls Tryd.prog 33 #[.int .i64 key, .agg #[.int .i64 E, .int .i64 S]] w fun e w' => e = .returned (.int .i64 (Jac.mulV (Jac.powV 4 S) (Jac.powV key (-E)))) ∧ Below w.heap.size w w' := by
  refine SX.calls_of_run (C := cxY6 (fun _ _ _ => False) (fun _ _ _ => False)) (G := ⟨fun f => true, [], 0, 100⟩) (args := args_rpoint) (sh := (List.replicate 3 .one)) (ρ := [.int .i64 key, .int .i64 E, .int .i64 S]) 100000 tree_rpoint (okY6 _ _) Tryd.func33 rfl (run_rpoint _ _) (by kernel_rfl) (by kernel_rfl) (by kernel_rfl) ?_ ?_
  · exact fun W _ => SX.Kf_none (fun _ _ _ h => h) W
  unfold tree_rpoint
  refine SX.E (.tuple #[.int .i64 ((Jac.powV 4 S)), .int .i64 ((Jac.mulE 4 4))]) (fun α => ⟨[⟨.int .i64 4, 0, []⟩, ⟨.int .i64 S, 0, []⟩], ⟨by kernel_rfl, by kernel_rfl, by kernel_rfl, by kernel_rfl, trivial⟩, .inr (.inr (.inl ⟨rfl, _, _, rfl, rfl⟩)), SX.noAli rfl⟩) ?_
  refine SX.E (.int .i64 ((-E))) (fun α => SX.W (-E)) ?_
  refine SX.E (.tuple #[.int .i64 ((Jac.powV key ((-E)))), .int .i64 ((Jac.mulE key key))]) (fun α => ⟨[⟨.int .i64 key, 0, []⟩, ⟨.int .i64 ((-E)), 0, []⟩], ⟨by kernel_rfl, by kernel_rfl, by kernel_rfl, by kernel_rfl, trivial⟩, .inr (.inr (.inl ⟨rfl, _, _, rfl, rfl⟩)), SX.noAli rfl⟩) ?_
  refine SX.E (.tuple #[.int .i64 ((Jac.mulV ((Jac.powV 4 S)) ((Jac.powV key ((-E)))))), .int .i64 ((Jac.mulE ((Jac.powV 4 S)) ((Jac.powV key ((-E))))))]) (fun α => ⟨[⟨.int .i64 ((Jac.powV 4 S)), 0, []⟩, ⟨.int .i64 ((Jac.powV key ((-E)))), 0, []⟩], ⟨by kernel_rfl, by kernel_rfl, by kernel_rfl, by kernel_rfl, trivial⟩, .inr (.inr (.inr (.inl ⟨rfl, _, _, rfl, rfl⟩))), SX.noAli rfl⟩) ?_
  exact SX.F (.int .i64 ((Jac.mulV ((Jac.powV 4 S)) ((Jac.powV key ((-E))))))) (rfl)
def RY7 (K : Value → Nat → List Value → Prop) (f : FuncId) (xs : List SX.Arg) (v : Value) : Prop :=
  (f = 23 ∧ ∃ (hdr : Value) (fl : List Fl), xs = [⟨.agg #[.int .i64 3, .int .i64 0, .string ⟨#[]⟩, hdr], 0, []⟩] ∧ K hdr 4 (flL fl) ∧ fl.length ≤ 1048576 ∧ (∀ z ∈ fl, z.fits) ∧ v = .tuple #[.agg ((encL fl).flatMap c8).toArray, .int .i64 0]) ∨
  (f = 27 ∧ ∃ (s : ByteArray) (u : Value) (l : List W8), xs = [⟨.string s, 0, []⟩, ⟨u, 1, l.flatMap c8⟩] ∧ s.size < 2 ^ 44 ∧ l.length < 2 ^ 44 ∧ v = .int .i64 (hashN (tagE (sb s) l) : Int)) ∨
  (f = 28 ∧ ∃ a n : Int, xs = [⟨.int .i64 a, 0, []⟩, ⟨.int .i64 n, 0, []⟩] ∧ v = .tuple #[.int .i64 (Jac.powV a n), .int .i64 (Jac.mulE a a)]) ∨
  (f = 32 ∧ ∃ x : Int, xs = [⟨.int .i64 x, 0, []⟩] ∧ v = .bool (Jac.vld x)) ∨
  (f = 30 ∧ ∃ a b : Int, xs = [⟨.int .i64 a, 0, []⟩, ⟨.int .i64 b, 0, []⟩] ∧ v = .int .i64 (modQ a * modQ b % 1073741789)) ∨
  (f = 29 ∧ ∃ (r key : Int) (u : Value) (tx : ByteArray), xs = [⟨.int .i64 r, 0, []⟩, ⟨.int .i64 key, 0, []⟩, ⟨u, 1, (sb tx).flatMap c8⟩] ∧ tx.size ≤ 1048576 ∧ (-9223372036854775808 ≤ r ∧ r ≤ 9223372036854775807 ∧ -9223372036854775808 ≤ key ∧ key ≤ 9223372036854775807) ∧ v = .int .i64 (pointH r key tx)) ∨
  (f = 33 ∧ ∃ key E S : Int, xs = [⟨.int .i64 key, 0, []⟩, ⟨.agg #[.int .i64 E, .int .i64 S], 0, []⟩] ∧ 0 ≤ E ∧ E < 1073741789 ∧ v = .int .i64 (Jac.mulV (Jac.powV 4 S) (Jac.powV key (-E))))
def shpY7 : FuncId → Option SX.Sh := fun f => if f = 23 then some (.tp [.sl 1, .one]) else if f = 27 then some .one else if f = 28 then some (.tp [.one, .one]) else if f = 32 then some .one else if f = 30 then some .one else if f = 29 then some .one else if f = 33 then some .one else none
noncomputable def cxY7 (K A : Value → Nat → List Value → Prop) : SX.Cx := { P := Tryd.prog, R := RY7, shp := shpY7, K := K, A := A, trm := true }
theorem okY7 (K A : Value → Nat → List Value → Prop) : (cxY7 K A).Ok := by
  refine SX.Cx.ok_of (fun _ => rfl) ?_
  intro K f xs v W hR hrd hKf
  rcases hR with ⟨rfl, hdr, fl, rfl, hk, hl, hf, rfl⟩ | ⟨rfl, s, u, l, rfl, hs, hl, rfl⟩ | ⟨rfl, a, n, rfl, rfl⟩ | ⟨rfl, x, rfl, rfl⟩ | ⟨rfl, a, b, rfl, rfl⟩ | ⟨rfl, r, key, u, tx, rfl, htx, ⟨b1, b2, b3, b4⟩, rfl⟩ | ⟨rfl, key, E, S, rfl, h1, h2, rfl⟩
  · obtain ⟨A, n, c, rfl, h2, h3, h4⟩ := fl_arg (hKf _ _ _ hk)
    exact Calls.mono (rencode_any fl A n c W h2 (by omega) h3 hf) fun e w' h => SX.SlRet.ok0 rfl h
  · obtain ⟨A, n, c, rfl, hr, hc, -⟩ := byte_arg (hrd ⟨u, 1, l.flatMap c8⟩ (by simp))
    exact (rhash_any s l hs hl A n c W hr hc).mono fun e w' h => SX.plainOk rfl h
  · exact (rpow_any a n W).mono fun e w' h => SX.plainOk rfl ⟨h.1, h.2 ▸ Below.refl _ _⟩
  · exact (rvalid_any x W).mono fun e w' h => SX.plainOk rfl ⟨h.1, h.2 ▸ Below.refl _ _⟩
  · exact (rtimes_any a b W).mono fun e w' h => SX.plainOk rfl h
  · obtain ⟨A, n, c, rfl, hr, hc, -⟩ := byte_arg (hrd ⟨u, 1, (sb tx).flatMap c8⟩ (by simp))
    exact (rshash_any r key tx A n c W b1 b2 b3 b4 hr hc htx).mono fun e w' h => SX.plainOk rfl h
  exact (rpoint_any key E S W h1 h2).mono fun e w' h => SX.plainOk rfl h
theorem modQ_in {a : Int} (h1 : 0 ≤ a) (h2 : a < 1073741789) : modQ a = a := by
  rw [modQ_eq, Int.tmod_eq_emod_of_nonneg h1, Int.emod_eq_of_lt h1 h2, if_neg (by omega)]
def tree_rsign : SX.Tree :=
(.df (.bin .lss 3) [(.q 0), (.i 1)] .one
(.br 2 []
(.ret (.t [(.a [(.i 0), (.i 0)]), (.i 110)]) [] [])
(.df (.bin .geq 3) [(.q 0), (.i 1073741789)] .one
(.br 3 []
(.ret (.t [(.a [(.i 0), (.i 0)]), (.i 110)]) [] [])
(.df .b2sx [(.q 1)] .one
(.df (.callg 23 [.no] [(.own 4 [(.i 1), (.q 0), (.k (.string ⟨#[]⟩)), (.k (.slice none 0 0)), (.i 2), (.i 0), (.q 4), (.k (.slice none 0 0))])]) [(.a [(.i 3), (.i 0), (.k (.string ⟨#[]⟩)), (.sl 6 0 2 2)]), (.sl 6 0 2 2)] (.tp [(.sl 1), .one])
(.df (.call 27 [.no, (.row 1 [(.x 5 [0])])]) [(.k (.string ⟨#[110, 111, 110, 99, 101]⟩)), (.row 8)] .one
(.df (.bin .eql 3) [(.q 6), (.i 0)] .one
(.br 7 []
(.df (.call 28 [.no, .no]) [(.i 4), (.q 0)] (.tp [.one, .one])
(.df (.call 28 [.no, .no]) [(.i 4), (.i 1)] (.tp [.one, .one])
(.df (.call 29 [.no, .no, (.ext 1)]) [(.x 9 [0]), (.x 8 [0]), (.q 1)] .one
(.df (.call 30 [.no, .no]) [(.q 10), (.q 0)] .one
(.df (.bin .add 3) [(.i 1), (.q 11)] .one
(.df (.bin .rem 3) [(.q 12), (.i 1073741789)] .one
(.ret (.t [(.a [(.q 10), (.q 13)]), (.i 0)]) [] [])))))))
(.df (.call 28 [.no, .no]) [(.i 4), (.q 0)] (.tp [.one, .one])
(.df (.call 28 [.no, .no]) [(.i 4), (.q 6)] (.tp [.one, .one])
(.df (.call 29 [.no, .no, (.ext 1)]) [(.x 9 [0]), (.x 8 [0]), (.q 1)] .one
(.df (.call 30 [.no, .no]) [(.q 10), (.q 0)] .one
(.df (.bin .add 3) [(.q 6), (.q 11)] .one
(.df (.bin .rem 3) [(.q 12), (.i 1073741789)] .one
(.ret (.t [(.a [(.q 10), (.q 13)]), (.i 0)]) [] []))))))))))))))))
def args_rsign : List SX.V := [.x 0 [], .x 1 []]
set_option maxRecDepth 100000 in
theorem run_rsign (K A : Value → Nat → List Value → Prop) : (SX.run (cxY7 K A) ⟨fun f => true, [], 0, 100⟩ 100000 0 (SX.door 9 Tryd.f9 args_rsign [.one, .one]) [.code (Tryd.f9.body.getD .skip), .top Tryd.f9]).strip = tree_rsign := by kernel_rfl
set_option maxRecDepth 100000 in
set_option maxHeartbeats 4000000 in
theorem rsign_any (secret : Int) (tx : ByteArray) (A : Option Addr) (n c : Nat) (w : World) (hr : Rd w 1 A n ((sb tx).flatMap c8)) (hc : n ≤ c) (htx : tx.size ≤ 1048576) : Calls Tryd.prog 9 #[.int .i64 secret, .slice A n c] w fun e w' => e = .returned (.tuple #[.agg #[.int .i64 (signV secret tx).1, .int .i64 (signV secret tx).2.1], .int .i64 (signV secret tx).2.2]) ∧ Below w.heap.size w w' := by
  refine SX.calls_of_run (C := cxY7 (fun s sz cells => s = .slice A n c ∧ sz = 1 ∧ cells = (sb tx).flatMap c8) (fun _ _ _ => False)) (G := ⟨fun f => true, [], 0, 100⟩) (args := args_rsign) (sh := [.one, .one]) (ρ := [.int .i64 secret, .slice A n c]) 100000 tree_rsign (okY7 _ _) Tryd.func9 rfl (run_rsign _ _) (by kernel_rfl) (by kernel_rfl) (by kernel_rfl) ?_ ?_
  · rintro W hW s sz cells ⟨rfl, rfl, rfl⟩; exact ⟨hr.same0 hW, hc⟩
  unfold tree_rsign
  refine SX.D (.bool (decide (secret < 1))) ?_
  refine SX.B (decide (secret < 1)) (fun h2 => ?_) (fun h2 => ?_)
  · try simp only [NRM] at h2
    exact SX.F (.tuple #[.agg #[.int .i64 0, .int .i64 0], .int .i64 110]) (by rw [signV_no (by omega)])
  try simp only [NRM] at h2
  refine SX.D (.bool (decide (secret ≥ 1073741789))) ?_
  refine SX.B (decide (secret ≥ 1073741789)) (fun h3 => ?_) (fun h3 => ?_)
  · try simp only [NRM] at h3
    exact SX.F (.tuple #[.agg #[.int .i64 0, .int .i64 0], .int .i64 110]) (by rw [signV_no (by omega)])
  try simp only [NRM] at h3
  refine SX.E (.string tx) (fun α => ⟨tx.data.toList, A, n, c, by rw [sb_l]; exact ⟨rfl, rfl, rfl⟩, by kernel_rfl, by simp⟩) ?_
  refine SX.VC_df (.tuple #[Value.agg ((encL [.n secret, .s tx]).flatMap c8).toArray, .int .i64 0]) (fun α => ⟨[⟨.agg #[.int .i64 3, .int .i64 0, .string ⟨#[]⟩, .slice (some ⟨(α 6).b, 0, none⟩) 2 2], 0, []⟩], [⟨.slice (some ⟨(α 6).b, 0, none⟩) 2 2, 4, flL [.n secret, .s tx]⟩], ⟨by kernel_rfl, by kernel_rfl, trivial⟩, ⟨by kernel_rfl, trivial⟩, .inl ⟨rfl, _, [.n secret, .s tx], rfl, .inr (by simp), by simp, by intro z hz; simp only [List.mem_cons, List.not_mem_nil, or_false] at hz; rcases hz with rfl | rfl <;> simp only [Fl.fits] <;> omega, rfl⟩, SX.noAli rfl⟩) ((enc_fit _ _)) ?_
  refine SX.E (.int .i64 ((hashV nonceT [.n secret, .s tx]))) (fun α => ⟨[⟨.string nonceT, 0, []⟩, ⟨(α 8).h, 1, (encL [.n secret, .s tx]).flatMap c8⟩], ⟨by kernel_rfl, by kernel_rfl, Eq.trans (b := (⟨(α 8).h, 1, [Value.agg ((encL [.n secret, .s tx]).flatMap c8).toArray].flatMap SX.cellsV⟩ : SX.Arg)) (by simp [SX.cellsV]) (by kernel_rfl), trivial⟩, .inr (.inl ⟨rfl, nonceT, _, encL [.n secret, .s tx], rfl, by decide, encL_lt (by intro z hz; simp only [List.mem_cons, List.not_mem_nil, or_false] at hz; rcases hz with rfl | rfl <;> simp only [Fl.fits] <;> omega) (by simp), rfl⟩), SX.noAli rfl⟩) ?_
  have hkb := hashV_bd nonceT [.n secret, .s tx]
  have hp2 := powV_bd 4 secret
  refine SX.D (.bool (((hashV nonceT [.n secret, .s tx]) : Int) == 0)) ?_
  refine SX.B (((hashV nonceT [.n secret, .s tx]) : Int) == 0) (fun h7 => ?_) (fun h7 => ?_)
  · try simp only [NRM] at h7
    have hnv : nonceV secret tx = 1 := by unfold nonceV; rw [show hashV nonceT [.n secret, .s tx] = 0 by simpa using h7]; rfl
    refine SX.E (.tuple #[.int .i64 ((Jac.powV 4 secret)), .int .i64 ((Jac.mulE 4 4))]) (fun α => ⟨[⟨.int .i64 4, 0, []⟩, ⟨.int .i64 secret, 0, []⟩], ⟨by kernel_rfl, by kernel_rfl, by kernel_rfl, by kernel_rfl, trivial⟩, .inr (.inr (.inl ⟨rfl, _, _, rfl, rfl⟩)), SX.noAli rfl⟩) ?_
    refine SX.E (.tuple #[.int .i64 ((Jac.powV 4 1)), .int .i64 ((Jac.mulE 4 4))]) (fun α => ⟨[⟨.int .i64 4, 0, []⟩, ⟨.int .i64 1, 0, []⟩], ⟨by kernel_rfl, by kernel_rfl, by kernel_rfl, by kernel_rfl, trivial⟩, .inr (.inr (.inl ⟨rfl, _, _, rfl, rfl⟩)), SX.noAli rfl⟩) ?_
    have hp1 := powV_bd 4 1
    refine SX.E (.int .i64 ((pointH ((Jac.powV 4 1)) ((Jac.powV 4 secret)) tx))) (fun α => ⟨[⟨.int .i64 ((Jac.powV 4 1)), 0, []⟩, ⟨.int .i64 ((Jac.powV 4 secret)), 0, []⟩, ⟨.slice A n c, 1, (sb tx).flatMap c8⟩], ⟨by kernel_rfl, by kernel_rfl, by kernel_rfl, by kernel_rfl, by kernel_rfl, by kernel_rfl, ⟨rfl, rfl, rfl⟩, trivial⟩, .inr (.inr (.inr (.inr (.inr (.inl ⟨rfl, _, _, _, tx, rfl, by omega, ⟨by omega, by omega, by omega, by omega⟩, rfl⟩))))), SX.noAli rfl⟩) ?_
    have heb := pointH_bd (Jac.powV 4 1) (Jac.powV 4 secret) tx
    have hub := Int.emod_nonneg (pointH (Jac.powV 4 1) (Jac.powV 4 secret) tx * secret) (show (1073741789 : Int) ≠ 0 by decide)
    have hub2 := Int.emod_lt_of_pos (pointH (Jac.powV 4 1) (Jac.powV 4 secret) tx * secret) (show (0 : Int) < 1073741789 by decide)
    refine SX.E (.int .i64 ((((pointH ((Jac.powV 4 1)) ((Jac.powV 4 secret)) tx)) * secret % 1073741789))) (fun α => ⟨[⟨.int .i64 ((pointH ((Jac.powV 4 1)) ((Jac.powV 4 secret)) tx)), 0, []⟩, ⟨.int .i64 secret, 0, []⟩], ⟨by kernel_rfl, by kernel_rfl, by kernel_rfl, by kernel_rfl, trivial⟩, .inr (.inr (.inr (.inr (.inl ⟨rfl, _, _, rfl, by rw [modQ_in (by omega) (by omega), modQ_in (by omega) (by omega)]⟩)))), SX.noAli rfl⟩) ?_
    refine SX.E (.int .i64 (1 + ((((pointH ((Jac.powV 4 1)) ((Jac.powV 4 secret)) tx)) * secret % 1073741789)))) (fun α => Eq.trans (b := some (.int .i64 (IntKind.i64.wrap (1 + ((((pointH ((Jac.powV 4 1)) ((Jac.powV 4 secret)) tx)) * secret % 1073741789)))))) (by kernel_rfl) (by rw [wrap_i64 (by omega) (by omega)])) ?_
    refine SX.E (.int .i64 ((1 + ((((pointH ((Jac.powV 4 1)) ((Jac.powV 4 secret)) tx)) * secret % 1073741789))) % 1073741789)) (fun α => Eq.trans (b := SX.binV .rem (.int .i64 (1 + ((((pointH ((Jac.powV 4 1)) ((Jac.powV 4 secret)) tx)) * secret % 1073741789)))) (.int .i64 1073741789)) (by kernel_rfl) (rem_q (by omega))) ?_
    exact SX.F (.tuple #[.agg #[.int .i64 ((pointH ((Jac.powV 4 1)) ((Jac.powV 4 secret)) tx)), .int .i64 ((1 + ((((pointH ((Jac.powV 4 1)) ((Jac.powV 4 secret)) tx)) * secret % 1073741789))) % 1073741789)], .int .i64 0]) (by unfold signV; rw [if_neg (by omega), hnv])
  try simp only [NRM] at h7
  have hnv : nonceV secret tx = (hashV nonceT [.n secret, .s tx]) := by unfold nonceV; omega
  refine SX.E (.tuple #[.int .i64 ((Jac.powV 4 secret)), .int .i64 ((Jac.mulE 4 4))]) (fun α => ⟨[⟨.int .i64 4, 0, []⟩, ⟨.int .i64 secret, 0, []⟩], ⟨by kernel_rfl, by kernel_rfl, by kernel_rfl, by kernel_rfl, trivial⟩, .inr (.inr (.inl ⟨rfl, _, _, rfl, rfl⟩)), SX.noAli rfl⟩) ?_
  refine SX.E (.tuple #[.int .i64 ((Jac.powV 4 ((hashV nonceT [.n secret, .s tx])))), .int .i64 ((Jac.mulE 4 4))]) (fun α => ⟨[⟨.int .i64 4, 0, []⟩, ⟨.int .i64 ((hashV nonceT [.n secret, .s tx])), 0, []⟩], ⟨by kernel_rfl, by kernel_rfl, by kernel_rfl, by kernel_rfl, trivial⟩, .inr (.inr (.inl ⟨rfl, _, _, rfl, rfl⟩)), SX.noAli rfl⟩) ?_
  have hp1 := powV_bd 4 (hashV nonceT [.n secret, .s tx])
  refine SX.E (.int .i64 ((pointH ((Jac.powV 4 ((hashV nonceT [.n secret, .s tx])))) ((Jac.powV 4 secret)) tx))) (fun α => ⟨[⟨.int .i64 ((Jac.powV 4 ((hashV nonceT [.n secret, .s tx])))), 0, []⟩, ⟨.int .i64 ((Jac.powV 4 secret)), 0, []⟩, ⟨.slice A n c, 1, (sb tx).flatMap c8⟩], ⟨by kernel_rfl, by kernel_rfl, by kernel_rfl, by kernel_rfl, by kernel_rfl, by kernel_rfl, ⟨rfl, rfl, rfl⟩, trivial⟩, .inr (.inr (.inr (.inr (.inr (.inl ⟨rfl, _, _, _, tx, rfl, by omega, ⟨by omega, by omega, by omega, by omega⟩, rfl⟩))))), SX.noAli rfl⟩) ?_
  have heb := pointH_bd (Jac.powV 4 (hashV nonceT [.n secret, .s tx])) (Jac.powV 4 secret) tx
  have hub := Int.emod_nonneg (pointH (Jac.powV 4 (hashV nonceT [.n secret, .s tx])) (Jac.powV 4 secret) tx * secret) (show (1073741789 : Int) ≠ 0 by decide)
  have hub2 := Int.emod_lt_of_pos (pointH (Jac.powV 4 (hashV nonceT [.n secret, .s tx])) (Jac.powV 4 secret) tx * secret) (show (0 : Int) < 1073741789 by decide)
  refine SX.E (.int .i64 ((((pointH ((Jac.powV 4 ((hashV nonceT [.n secret, .s tx])))) ((Jac.powV 4 secret)) tx)) * secret % 1073741789))) (fun α => ⟨[⟨.int .i64 ((pointH ((Jac.powV 4 ((hashV nonceT [.n secret, .s tx])))) ((Jac.powV 4 secret)) tx)), 0, []⟩, ⟨.int .i64 secret, 0, []⟩], ⟨by kernel_rfl, by kernel_rfl, by kernel_rfl, by kernel_rfl, trivial⟩, .inr (.inr (.inr (.inr (.inl ⟨rfl, _, _, rfl, by rw [modQ_in (by omega) (by omega), modQ_in (by omega) (by omega)]⟩)))), SX.noAli rfl⟩) ?_
  refine SX.E (.int .i64 (((hashV nonceT [.n secret, .s tx])) + ((((pointH ((Jac.powV 4 ((hashV nonceT [.n secret, .s tx])))) ((Jac.powV 4 secret)) tx)) * secret % 1073741789)))) (fun α => Eq.trans (b := some (.int .i64 (IntKind.i64.wrap (((hashV nonceT [.n secret, .s tx])) + ((((pointH ((Jac.powV 4 ((hashV nonceT [.n secret, .s tx])))) ((Jac.powV 4 secret)) tx)) * secret % 1073741789)))))) (by kernel_rfl) (by rw [wrap_i64 (by omega) (by omega)])) ?_
  refine SX.E (.int .i64 ((((hashV nonceT [.n secret, .s tx])) + ((((pointH ((Jac.powV 4 ((hashV nonceT [.n secret, .s tx])))) ((Jac.powV 4 secret)) tx)) * secret % 1073741789))) % 1073741789)) (fun α => Eq.trans (b := SX.binV .rem (.int .i64 (((hashV nonceT [.n secret, .s tx])) + ((((pointH ((Jac.powV 4 ((hashV nonceT [.n secret, .s tx])))) ((Jac.powV 4 secret)) tx)) * secret % 1073741789)))) (.int .i64 1073741789)) (by kernel_rfl) (rem_q (by omega))) ?_
  exact SX.F (.tuple #[.agg #[.int .i64 ((pointH ((Jac.powV 4 ((hashV nonceT [.n secret, .s tx])))) ((Jac.powV 4 secret)) tx)), .int .i64 ((((hashV nonceT [.n secret, .s tx])) + ((((pointH ((Jac.powV 4 ((hashV nonceT [.n secret, .s tx])))) ((Jac.powV 4 secret)) tx)) * secret % 1073741789))) % 1073741789)], .int .i64 0]) (by unfold signV; rw [if_neg (by omega), hnv])
def tree_rverify : SX.Tree :=
(.df (.call 32 [.no]) [(.q 0)] .one
(.df .not [(.q 4)] .one
(.br 5 []
(.ret (.k (.bool false)) [] [])
(.df (.bin .lss 3) [(.q 2), (.i 0)] .one
(.br 6 []
(.ret (.k (.bool false)) [] [])
(.df (.bin .geq 3) [(.q 2), (.i 1073741789)] .one
(.br 7 []
(.ret (.k (.bool false)) [] [])
(.df (.bin .lss 3) [(.q 3), (.i 0)] .one
(.br 8 []
(.ret (.k (.bool false)) [] [])
(.df (.bin .geq 3) [(.q 3), (.i 1073741789)] .one
(.br 9 []
(.ret (.k (.bool false)) [] [])
(.df (.call 33 [.no, .no]) [(.q 0), (.a [(.q 2), (.q 3)])] .one
(.df (.call 29 [.no, .no, (.ext 1)]) [(.q 10), (.q 0), (.q 1)] .one
(.df (.bin .eql 3) [(.q 2), (.q 11)] .one
(.ret (.q 12) [] [])))))))))))))))
def args_rverify : List SX.V := [.x 0 [], .x 1 [], .a [.x 2 [], .x 3 []]]
set_option maxRecDepth 100000 in
theorem run_rverify (K A : Value → Nat → List Value → Prop) : (SX.run (cxY7 K A) ⟨fun f => true, [], 0, 100⟩ 100000 0 (SX.door 11 Tryd.f11 args_rverify (List.replicate 4 .one)) [.code (Tryd.f11.body.getD .skip), .top Tryd.f11]).strip = tree_rverify := by kernel_rfl
set_option maxRecDepth 100000 in
set_option maxHeartbeats 4000000 in
theorem rverify_any (key : Int) (tx : ByteArray) (A : Option Addr) (n c : Nat) (E S : Int) (w : World) (hr : Rd w 1 A n ((sb tx).flatMap c8)) (hc : n ≤ c) (htx : tx.size ≤ 1048576) : Calls Tryd.prog 11 #[.int .i64 key, .slice A n c, .agg #[.int .i64 E, .int .i64 S]] w fun e w' => e = .returned (.bool (verV key tx E S)) ∧ Below w.heap.size w w' := by
  refine SX.calls_of_run (C := cxY7 (fun s sz cells => s = .slice A n c ∧ sz = 1 ∧ cells = (sb tx).flatMap c8) (fun _ _ _ => False)) (G := ⟨fun f => true, [], 0, 100⟩) (args := args_rverify) (sh := (List.replicate 4 .one)) (ρ := [.int .i64 key, .slice A n c, .int .i64 E, .int .i64 S]) 100000 tree_rverify (okY7 _ _) Tryd.func11 rfl (run_rverify _ _) (by kernel_rfl) (by kernel_rfl) (by kernel_rfl) ?_ ?_
  · rintro W hW s sz cells ⟨rfl, rfl, rfl⟩; exact ⟨hr.same0 hW, hc⟩
  unfold tree_rverify
  refine SX.E (.bool (Jac.vld key)) (fun α => ⟨[⟨.int .i64 key, 0, []⟩], ⟨by kernel_rfl, by kernel_rfl, trivial⟩, .inr (.inr (.inr (.inl ⟨rfl, _, rfl, rfl⟩))), SX.noAli rfl⟩) ?_
  refine SX.D (.bool (!(Jac.vld key))) ?_
  refine SX.B (!(Jac.vld key)) (fun h5 => ?_) (fun h5 => ?_)
  · try simp only [NRM] at h5
    exact SX.F (.bool false) (by unfold verV; rw [if_pos (by first | omega | (right; right; right; right; simpa using h5))])
  try simp only [NRM] at h5
  refine SX.D (.bool (decide (E < 0))) ?_
  refine SX.B (decide (E < 0)) (fun h6 => ?_) (fun h6 => ?_)
  · try simp only [NRM] at h6
    exact SX.F (.bool false) (by unfold verV; rw [if_pos (by first | omega | (right; right; right; right; simpa using h5))])
  try simp only [NRM] at h6
  refine SX.D (.bool (decide (E ≥ 1073741789))) ?_
  refine SX.B (decide (E ≥ 1073741789)) (fun h7 => ?_) (fun h7 => ?_)
  · try simp only [NRM] at h7
    exact SX.F (.bool false) (by unfold verV; rw [if_pos (by first | omega | (right; right; right; right; simpa using h5))])
  try simp only [NRM] at h7
  refine SX.D (.bool (decide (S < 0))) ?_
  refine SX.B (decide (S < 0)) (fun h8 => ?_) (fun h8 => ?_)
  · try simp only [NRM] at h8
    exact SX.F (.bool false) (by unfold verV; rw [if_pos (by first | omega | (right; right; right; right; simpa using h5))])
  try simp only [NRM] at h8
  refine SX.D (.bool (decide (S ≥ 1073741789))) ?_
  refine SX.B (decide (S ≥ 1073741789)) (fun h9 => ?_) (fun h9 => ?_)
  · try simp only [NRM] at h9
    exact SX.F (.bool false) (by unfold verV; rw [if_pos (by first | omega | (right; right; right; right; simpa using h5))])
  try simp only [NRM] at h9
  have hmb := mulV_bd (Jac.powV 4 S) (Jac.powV key (-E))
  have hvk := Jac.vld_bounds (show Jac.vld key = true by simpa using h5)
  refine SX.E (.int .i64 ((Jac.mulV (Jac.powV 4 S) (Jac.powV key (-E))))) (fun α => ⟨[⟨.int .i64 key, 0, []⟩, ⟨.agg #[.int .i64 E, .int .i64 S], 0, []⟩], ⟨by kernel_rfl, by kernel_rfl, by kernel_rfl, by kernel_rfl, trivial⟩, .inr (.inr (.inr (.inr (.inr (.inr (⟨rfl, _, _, _, rfl, by omega, by omega, rfl⟩)))))), SX.noAli rfl⟩) ?_
  refine SX.E (.int .i64 ((pointH ((Jac.mulV (Jac.powV 4 S) (Jac.powV key (-E)))) key tx))) (fun α => ⟨[⟨.int .i64 ((Jac.mulV (Jac.powV 4 S) (Jac.powV key (-E)))), 0, []⟩, ⟨.int .i64 key, 0, []⟩, ⟨.slice A n c, 1, (sb tx).flatMap c8⟩], ⟨by kernel_rfl, by kernel_rfl, by kernel_rfl, by kernel_rfl, by kernel_rfl, by kernel_rfl, ⟨rfl, rfl, rfl⟩, trivial⟩, .inr (.inr (.inr (.inr (.inr (.inl ⟨rfl, _, _, _, tx, rfl, by omega, ⟨by omega, by omega, by omega, by omega⟩, rfl⟩))))), SX.noAli rfl⟩) ?_
  refine SX.D (.bool ((E : Int) == (pointH ((Jac.mulV (Jac.powV 4 S) (Jac.powV key (-E)))) key tx))) ?_
  exact SX.F (.bool ((E : Int) == (pointH ((Jac.mulV (Jac.powV 4 S) (Jac.powV key (-E)))) key tx))) (by unfold verV; rw [if_neg (by rintro (q | q | q | q | q) <;> first | omega | (simp [q] at h5))]; first | rfl | exact congrArg Value.bool (beq_eq_decide ..))
def RY8 (K : Value → Nat → List Value → Prop) (f : FuncId) (xs : List SX.Arg) (v : Value) : Prop :=
  (f = 8 ∧ LaidK K ∧ ∃ (s : Int) (u : Value) (tx : ByteArray), xs = [⟨.int .i64 s, 0, []⟩, ⟨u, 1, (sb tx).flatMap c8⟩] ∧ tx.size ≤ 1048576 ∧ v = .tuple #[.agg #[.int .i64 (signV s tx).1, .int .i64 (signV s tx).2.1], .int .i64 (signV s tx).2.2]) ∨
  (f = 10 ∧ LaidK K ∧ ∃ (key : Int) (u : Value) (tx : ByteArray) (E S : Int), xs = [⟨.int .i64 key, 0, []⟩, ⟨u, 1, (sb tx).flatMap c8⟩, ⟨.agg #[.int .i64 E, .int .i64 S], 0, []⟩] ∧ tx.size ≤ 1048576 ∧ v = .bool (verV key tx E S)) ∨
  (f = 7 ∧ LaidK K ∧ xs = [] ∧ v = .bool true) ∨
  (f = 9 ∧ ∃ (s : Int) (u : Value) (tx : ByteArray), xs = [⟨.int .i64 s, 0, []⟩, ⟨u, 1, (sb tx).flatMap c8⟩] ∧ tx.size ≤ 1048576 ∧ v = .tuple #[.agg #[.int .i64 (signV s tx).1, .int .i64 (signV s tx).2.1], .int .i64 (signV s tx).2.2]) ∨
  (f = 11 ∧ ∃ (key : Int) (u : Value) (tx : ByteArray) (E S : Int), xs = [⟨.int .i64 key, 0, []⟩, ⟨u, 1, (sb tx).flatMap c8⟩, ⟨.agg #[.int .i64 E, .int .i64 S], 0, []⟩] ∧ tx.size ≤ 1048576 ∧ v = .bool (verV key tx E S))
def shpY8 : FuncId → Option SX.Sh := fun f => if f = 8 then some (.tp [.ag 2, .one]) else if f = 10 then some .one else if f = 7 then some .one else if f = 9 then some (.tp [.ag 2, .one]) else if f = 11 then some .one else none
noncomputable def cxY8 (K A : Value → Nat → List Value → Prop) : SX.Cx := { P := Tryd.prog, R := RY8, shp := shpY8, K := K, A := A, trm := true }
theorem okY8 (K A : Value → Nat → List Value → Prop) : (cxY8 K A).Ok := by
  refine SX.Cx.ok_of (fun _ => rfl) ?_
  intro K f xs v W hR hrd hKf
  rcases hR with ⟨rfl, hL, s, u, tx, rfl, htx, rfl⟩ | ⟨rfl, hL, key, u, tx, E, S, rfl, htx, rfl⟩ | ⟨rfl, hL, rfl, rfl⟩ | ⟨rfl, s, u, tx, rfl, htx, rfl⟩ | ⟨rfl, key, u, tx, E, S, rfl, htx, rfl⟩
  · obtain ⟨A, n, c, rfl, hr, hc, -⟩ := byte_arg (hrd ⟨u, 1, (sb tx).flatMap c8⟩ (by simp))
    exact (sign_any s tx A n c W hr hc htx (laid_of hL hKf)).mono fun e w' h => SX.plainOk rfl h
  · obtain ⟨A, n, c, rfl, hr, hc, -⟩ := byte_arg (hrd ⟨u, 1, (sb tx).flatMap c8⟩ (by simp))
    exact (verify_any key tx A n c E S W hr hc htx (laid_of hL hKf)).mono fun e w' h => SX.plainOk rfl h
  · exact (sane_any W (laid_of hL hKf)).mono fun e w' h => SX.plainOk rfl h
  · obtain ⟨A, n, c, rfl, hr, hc, -⟩ := byte_arg (hrd ⟨u, 1, (sb tx).flatMap c8⟩ (by simp))
    exact (rsign_any s tx A n c W hr hc htx).mono fun e w' h => SX.plainOk rfl h
  obtain ⟨A, n, c, rfl, hr, hc, -⟩ := byte_arg (hrd ⟨u, 1, (sb tx).flatMap c8⟩ (by simp))
  exact (rverify_any key tx A n c E S W hr hc htx).mono fun e w' h => SX.plainOk rfl h
def tree_signSpec : SX.Tree :=
(.df (.call 7 []) [] .one
(.df .not [(.q 5)] .one
(.br 6 []
(.ret (.k (.bool false)) [] [])
(.df (.len false) [(.q 2)] .one
(.df (.bin .gtr 3) [(.q 7), (.i 600)] .one
(.br 8 []
(.ret (.k (.bool true)) [] [])
(.df (.call 8 [.no, (.ext 1)]) [(.q 0), (.q 2)] (.tp [(.ag 2), .one])
(.df (.call 9 [.no, (.ext 1)]) [(.q 0), (.q 2)] (.tp [(.ag 2), .one])
(.df (.eqr false 2 [(.i .i64), (.i .i64)]) [(.x 9 [0, 0]), (.x 9 [0, 1]), (.x 10 [0, 0]), (.x 10 [0, 1])] .one
(.br 11 []
(.df (.bin .eql 26) [(.x 9 [1]), (.x 10 [1])] .one
(.br 12 []
(.df (.call 10 [.no, (.ext 1), .no]) [(.q 1), (.q 2), (.a [(.q 3), (.q 4)])] .one
(.df (.call 11 [.no, (.ext 1), .no]) [(.q 1), (.q 2), (.a [(.q 3), (.q 4)])] .one
(.df (.binb .eql) [(.q 13), (.q 14)] .one
(.ret (.q 15) [] []))))
(.ret (.k (.bool false)) [] [])))
(.ret (.k (.bool false)) [] [])))))))))))
def args_signSpec : List SX.V := [.x 0 [], .x 1 [], .x 2 [], .a [.x 3 [], .x 4 []]]
set_option maxRecDepth 100000 in
theorem run_signSpec (K A : Value → Nat → List Value → Prop) : (SX.run (cxY8 K A) ⟨fun f => true, [], 0, 100⟩ 100000 0 (SX.door 3 Tryd.f3 args_signSpec (List.replicate 5 .one)) [.code (Tryd.f3.body.getD .skip), .top Tryd.f3]).strip = tree_signSpec := by kernel_rfl
set_option maxRecDepth 100000 in
set_option maxHeartbeats 4000000 in
theorem signSpec_any (secret key : Int) (tx : ByteArray) (A : Option Addr) (n c : Nat) (E S : Int) (w : World) (hr : Rd w 1 A n ((sb tx).flatMap c8)) (hc : n ≤ c) (htx : n < 2 ^ 63) (hlaid : Laid w) : Calls Tryd.prog 3 #[.int .i64 secret, .int .i64 key, .slice A n c, .agg #[.int .i64 E, .int .i64 S]] w fun e w' => e = .returned (.bool true) ∧ Below w.heap.size w w' := by
  refine SX.calls_of_run (C := cxY8 (KS A n c (sb tx)) (fun _ _ _ => False)) (G := ⟨fun f => true, [], 0, 100⟩) (args := args_signSpec) (sh := (List.replicate 5 .one)) (ρ := [.int .i64 secret, .int .i64 key, .slice A n c, .int .i64 E, .int .i64 S]) 100000 tree_signSpec (okY8 _ _) Tryd.func3 rfl (run_signSpec _ _) (by kernel_rfl) (by kernel_rfl) (by kernel_rfl) ?_ ?_
  · rintro W hW s sz cells (⟨rfl, rfl, rfl⟩ | ⟨rfl, rfl, rfl⟩ | ⟨rfl, rfl, rfl⟩)
    · exact ⟨hr.same0 hW, hc⟩
    · exact ⟨hlaid.1.same0 hW, Nat.le_refl _⟩
    exact ⟨hlaid.2.same0 hW, Nat.le_refl _⟩
  have hsz : tx.size = n := by have := hr.1; rw [SX.flat_len c8_len, sb_len] at this; omega
  unfold tree_signSpec
  refine SX.E (.bool true) (fun α => ⟨[], trivial, .inr (.inr (.inl ⟨rfl, ⟨.inr (.inl ⟨rfl, rfl, rfl⟩), .inr (.inr ⟨rfl, rfl, rfl⟩)⟩, rfl, rfl⟩)), SX.noAli rfl⟩) ?_
  refine SX.D (.bool (!(true))) ?_
  refine SX.B (!(true)) (fun h6 => ?_) (fun h6 => ?_)
  · try simp only [NRM] at h6
    exact SX.F (.bool false) (by exfalso; simp_all)
  try simp only [NRM] at h6
  refine SX.D (.int .i64 (((n : Nat) : Int))) ?_
  refine SX.D (.bool (decide (((n : Nat) : Int) > 600))) ?_
  refine SX.B (decide (((n : Nat) : Int) > 600)) (fun h8 => ?_) (fun h8 => ?_)
  · try simp only [NRM] at h8
    exact SX.F (.bool true) (rfl)
  try simp only [NRM] at h8
  refine SX.E (.tuple #[.agg #[.int .i64 ((signV secret tx).1), .int .i64 ((signV secret tx).2.1)], .int .i64 ((signV secret tx).2.2)]) (fun α => ⟨[⟨.int .i64 secret, 0, []⟩, ⟨(.slice A n c), 1, (sb tx).flatMap c8⟩], ⟨by kernel_rfl, by kernel_rfl, by kernel_rfl, by kernel_rfl, .inl ⟨rfl, rfl, rfl⟩, trivial⟩, .inl ⟨rfl, ⟨.inr (.inl ⟨rfl, rfl, rfl⟩), .inr (.inr ⟨rfl, rfl, rfl⟩)⟩, _, _, tx, rfl, by omega, rfl⟩, SX.noAli rfl⟩) ?_
  refine SX.E (.tuple #[.agg #[.int .i64 ((signV secret tx).1), .int .i64 ((signV secret tx).2.1)], .int .i64 ((signV secret tx).2.2)]) (fun α => ⟨[⟨.int .i64 secret, 0, []⟩, ⟨(.slice A n c), 1, (sb tx).flatMap c8⟩], ⟨by kernel_rfl, by kernel_rfl, by kernel_rfl, by kernel_rfl, .inl ⟨rfl, rfl, rfl⟩, trivial⟩, .inr (.inr (.inr (.inl ⟨rfl, _, _, tx, rfl, by omega, rfl⟩))), SX.noAli rfl⟩) ?_
  refine SX.E (.bool (false ^^ decide (((signV secret tx).1, (signV secret tx).2.1) = ((signV secret tx).1, (signV secret tx).2.1)))) (fun α => SX.eqr_rel (f := sgI) sgI_inj (y := ((signV secret tx).1, (signV secret tx).2.1)) (z := ((signV secret tx).1, (signV secret tx).2.1)) (by kernel_rfl) (by kernel_rfl) (by kernel_rfl)) ?_
  refine SX.B (false ^^ decide (((signV secret tx).1, (signV secret tx).2.1) = ((signV secret tx).1, (signV secret tx).2.1))) (fun h11 => ?_) (fun h11 => ?_)
  · try simp only [NRM] at h11
    refine SX.D (.bool (((signV secret tx).2.2 : Int) == (signV secret tx).2.2)) ?_
    refine SX.B (((signV secret tx).2.2 : Int) == (signV secret tx).2.2) (fun h12 => ?_) (fun h12 => ?_)
    · try simp only [NRM] at h12
      refine SX.E (.bool (verV key tx E S)) (fun α => ⟨[⟨.int .i64 key, 0, []⟩, ⟨(.slice A n c), 1, (sb tx).flatMap c8⟩, ⟨.agg #[.int .i64 E, .int .i64 S], 0, []⟩], ⟨by kernel_rfl, by kernel_rfl, by kernel_rfl, by kernel_rfl, .inl ⟨rfl, rfl, rfl⟩, by kernel_rfl, by kernel_rfl, trivial⟩, .inr (.inl ⟨rfl, ⟨.inr (.inl ⟨rfl, rfl, rfl⟩), .inr (.inr ⟨rfl, rfl, rfl⟩)⟩, _, _, tx, _, _, rfl, by omega, rfl⟩), SX.noAli rfl⟩) ?_
      refine SX.E (.bool (verV key tx E S)) (fun α => ⟨[⟨.int .i64 key, 0, []⟩, ⟨(.slice A n c), 1, (sb tx).flatMap c8⟩, ⟨.agg #[.int .i64 E, .int .i64 S], 0, []⟩], ⟨by kernel_rfl, by kernel_rfl, by kernel_rfl, by kernel_rfl, .inl ⟨rfl, rfl, rfl⟩, by kernel_rfl, by kernel_rfl, trivial⟩, .inr (.inr (.inr (.inr (⟨rfl, _, _, tx, _, _, rfl, by omega, rfl⟩)))), SX.noAli rfl⟩) ?_
      refine SX.D (.bool (((verV key tx E S) == (verV key tx E S)))) ?_
      exact SX.F (.bool (((verV key tx E S) == (verV key tx E S)))) (by rw [show (verV key tx E S == verV key tx E S) = true from beq_self_eq_true _])
    try simp only [NRM] at h12
    exact SX.F (.bool false) (by exfalso; simp_all)
  try simp only [NRM] at h11
  exact SX.F (.bool false) (by exfalso; simp_all)
theorem signSpec_walk (secret key : Int) (A : Option Addr) (n c : Nat) (l : List W8) (E S : Int) (w : World) (hr : Rd w 1 A n (l.flatMap c8)) (hc : n ≤ c) (hm : c ≤ maxLen) (hlaid : Laid w) : Calls Tryd.prog 3 #[.int .i64 secret, .int .i64 key, .slice A n c, .agg #[.int .i64 E, .int .i64 S]] w fun e w' => e = .returned (.bool true) ∧ Below w.heap.size w w' := by
  obtain ⟨tx, rfl⟩ := sb_of l
  exact signSpec_any secret key tx A n c E S w hr hc (by unfold maxLen at hm; omega) hlaid
end Go.Proofs.YtbbofkpolcjmgaaDoor
namespace Go.Proofs.YtbbofkpolcjmgaaDoor.signSpec
open Go Go.ChangeShapes Go.WideShapes Go.ChangeAt Go.RowKit
set_option maxRecDepth 100000 in
theorem lifted (os : Os) (started : os.Started) (H : Type) (enc : TypeId × Value → H) :
    ReturnsInHanded {} Tryd.checked os 3 .any (fun w args => (Rows.signSpecSpec.pre enc Tryd.prog Tryd.f3 [] false w args ∧ laidMetH Tryd.prog laidL w) ∧ sizedMet enc Tryd.prog Tryd.f3 (OpenSpec.ofChange Rows.signSpecSpec) false w args)
      (Rows.signSpecSpec.post enc Tryd.prog Tryd.f3 false true false false) := by
  refine returnsInHanded_of_change_and (C := Tryd.checked) (X := fun w _ => laidMetH Tryd.prog laidL w) (fun _ _ _ hh h => h.of_heap hh) ownK started (by kernel_rfl) Tryd.func3
    (ChangeSpec.witness_shaped (enc := enc) (C := Tryd.checked) (os := os) (X := fun w _ => laidMetH Tryd.prog laidL w) false (World.doorLaid Tryd.prog 400 os) #[.int .i64 0, .int .i64 0, .slice none 0 0, .agg #[.int .i64 0, .int .i64 0]] 8 rfl (World.shaped_of_RefB (by kernel_rfl) (by kernel_rfl)) (by kernel_rfl) (by kernel_rfl) (by kernel_rfl) (door_met os _)) ?_
  intro W base args ds gs before hval0 hW _ _ hL _
  have hval : ∀ (j : Nat) t v, Tryd.f3.params[j]? = some t → args[j]? = some v → Value.okWide Tryd.prog W .any base t v := hval0
  have hW' := hW
  obtain ⟨p, q, hA0, hV, rfl, hfz, hnd⟩ := hW
  have hA : DataW.TrodAll enc Tryd.prog W 0 (fun _ => true) true Tryd.f3.params.toList args.toList ds p := hA0
  rw [Tryd.params3] at hA hval
  obtain ⟨v0, vs0, d0, ds0, p0, q0, hargs, rfl, rfl, h0, r0⟩ := trodAll_cons hA
  obtain ⟨v1, vs1, d1, ds1, p1, q1, rfl, rfl, rfl, h1, r1⟩ := trodAll_cons r0
  obtain ⟨v2, vs2, d2, ds2, p2, q2, rfl, rfl, rfl, h2, r2⟩ := trodAll_cons r1
  obtain ⟨v3, vs3, d3, ds3, p3, q3, rfl, rfl, rfl, h3, r3⟩ := trodAll_cons r2
  obtain ⟨rfl, rfl, rfl⟩ := trodAll_nil r3
  obtain rfl : args = #[v0, v1, v2, v3] := by cases args; simp_all
  obtain ⟨rfl, rfl⟩ := trodVars_none hV
  obtain ⟨a0, rfl, rfl, rfl, w0⟩ := open_int Tryd.underlying3 (hval 0 3 v0 rfl rfl) h0
  obtain ⟨a1, rfl, rfl, rfl, w1⟩ := open_int Tryd.underlying3 (hval 1 3 v1 rfl rfl) h1
  obtain ⟨A2, n2, c2, l2, rfl, hr2, hc2, hm2⟩ := open_bytes (hval 2 22 v2 rfl rfl) h2
  obtain ⟨E3, S3, rfl⟩ := open_sig (hval 3 24 v3 rfl rfl) h3
  clear hA0 hval0
  have hlaid := laid_world hL
  refine (signSpec_walk a0 a1 A2 n2 c2 l2 E3 S3 W hr2 hc2 hm2 hlaid).mono fun e W' ⟨he, hb⟩ => ?_
  subst he
  exact ⟨_, rfl, law_post laidOut (by kernel_rfl) rfl hW' hb rfl rfl Tryd.underlying4⟩
theorem over : Rows.signSpecRow.holds Tryd.pinned (OpenSpec.ofChange Rows.signSpecSpec) :=
  OpenClaim.holds_of_wide 3 Tryd.f3 rfl rfl rfl rfl rfl rfl rfl ⟨rfl, rfl, rfl, rfl, rfl⟩ rfl rfl rfl rfl rfl (by kernel_rfl) Tryd.func3 (by kernel_rfl)
    (of_decide_eq_true (by kernel_rfl)) (by unfold Func.isWrapper; first | (rw [if_pos (by decide +kernel)]; kernel_rfl) | (rw [if_neg (by decide +kernel)]; exact ⟨rfl, rfl⟩))
    (fun os started H enc _ => lifted os started H enc)
theorem proved : Rows.SignSpecCardSaid :=
  Claim7.holds_tied_plain_at .later [] [.data, .data] true (true, "6d179b596eba8ceb76626de96847ed48fee7106413bcbf3fd943586f39bf2e6f") true
    over (fun _ h => by cases h) (by kernel_rfl) (fun _ h => by cases h) signSpec_row_tie rfl ⟨rfl, rfl⟩ (by kernel_rfl) rfl
    (fun f fn hf hfn => by
      obtain rfl : f = 3 := Option.some.inj ((show Tryd.prog.funcNamed "kinesphere/kinespherelaw11.SignSpec" = some 3 by kernel_rfl).symm.trans hf) |>.symm
      obtain rfl : fn = Tryd.f3 := (Option.some.inj (Tryd.func3.symm.trans hfn)).symm
      exact ⟨by kernel_rfl, fun j t ht => by
        rw [Tryd.params3] at ht
        have hm : t ∈ [3, 3, 22, 24] := by simpa using Array.mem_of_getElem? ht
        have hall : ([3, 3, 22, 24].all fun u => !Tryd.prog.wantsStandIn u) = true := by kernel_rfl
        exact (show Tryd.prog.wantsStandIn t = false by simpa using List.all_eq_true.1 hall t hm)⟩)
    (by kernel_rfl)
#print axioms proved
end Go.Proofs.YtbbofkpolcjmgaaDoor.signSpec
