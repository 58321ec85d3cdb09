/-
  law10's cards: the walk of Sum.
-/
import Derived.Test.YtockbjpldlopiaaDoorHg
namespace Go.Proofs.YtockbjpldlopiaaDoor
set_option linter.unusedSimpArgs false
set_option linter.unusedVariables false
open Go Go.RowKit
/-- what Sum knows -/
def KS (A : Option Addr) (n c : Nat) (l : List W8) (v : Value) (z : Nat) (xs : List Value) : Prop := (v = .slice A n c ∧ z = 1 ∧ xs = l.flatMap c8) ∨ (v = .slice (some ⟨0, 0, none⟩) 1 1 ∧ z = 8 ∧ xs = startS.cells) ∨ (v = .slice (some ⟨1, 0, none⟩) 64 64 ∧ z = 1 ∧ xs = numbersK.flatMap c32)
/-- the package's variables lie there -/
def Laid (w : World) : Prop := Rd w 8 (some ⟨0, 0, none⟩) 1 startS.cells ∧ Rd w 1 (some ⟨1, 0, none⟩) 64 (numbersK.flatMap c32)
set_option maxRecDepth 100000 in
set_option maxHeartbeats 4000000 in
theorem sum_any (l : List W8) (hn60 : l.length < 2 ^ 60) (A : Option Addr) (n c : Nat) (w : World) (hr : Rd w 1 A n (l.flatMap c8)) (hc : n ≤ c) (hlaid : Laid w) : Calls Tryd.prog 18 #[.slice A n c] w fun e w' => e = .returned (.agg ((sumE l).flatMap c8).toArray) ∧ Below w.heap.size w w' := by
  have hln : l.length = n := by have := hr.1; rw [SX.flat_len c8_len] at this; omega
  refine SX.calls_of_run (C := cxS (KS A n c l) (KS A n c l)) (G := ⟨fun _ => true, [⟨18, 4, ((.s 5, .ext 1) :: (List.range 8).map fun j => (.c 1 j, .one))⟩], 0, 100⟩) (args := args_sum) (sh := [.any]) (ρ := [.slice A n c]) 100000 tree_sum (cxS_ok _ _) Tryd.func18 rfl (cast (by kernel_rfl) (run_sum (KS A n c l) (KS A n c l))) (by kernel_rfl) (by kernel_rfl) (by kernel_rfl) ?_ ?_
  · rintro W hW v z xs (⟨rfl, rfl, rfl⟩ | ⟨rfl, rfl, rfl⟩ | ⟨rfl, rfl, rfl⟩)
    · exact ⟨hr.same0 hW, hc⟩
    · exact ⟨hlaid.1.same0 hW, Nat.le_refl _⟩
    · exact ⟨hlaid.2.same0 hW, Nat.le_refl _⟩
  have hL : LaidK (cxS (KS A n c l) (KS A n c l)).K := ⟨.inr (.inl ⟨rfl, rfl, rfl⟩), .inr (.inr ⟨rfl, rfl, rfl⟩)⟩
  have hPr : (cxS (KS A n c l) (KS A n c l)).P = Tryd.prog := rfl
  have hin : (KS A n c l) (.slice A n c) 1 (l.flatMap c8) := .inl ⟨rfl, rfl, rfl⟩
  unfold tree_sum
  refine SX.VC_df (.agg startS.cells.toArray) (fun α => SX.extElems (f := S8.cells) (l := [startS]) (A := some ⟨0, 0, none⟩) (n := 1) (c := 1) (j := 0) (z := startS) (fun _ => rfl) (fun _ => rfl) rfl (by kernel_rfl) (by omega) (cast (by kernel_rfl) hL.1) rfl) (by kernel_rfl) ?_
  refine SX.VC_df (.agg (l.flatMap c8).toArray) (fun α => ⟨l.flatMap c8, ⟨A, n, c, rfl, hc⟩, hin, hin, rfl⟩) (by kernel_rfl) ?_
  refine SX.VC_loop (fun xs => ∃ (s : S8) (r : List W8), xs = .agg (r.flatMap c8).toArray :: s.cells ∧ absAll s r = absAll startS l) (fun xs => match xs with | .agg cs :: _ => cs.toList.length | _ => 0) (fun α => ⟨startS, l, Eq.trans (b := (.agg (SX.cellsV (.agg (l.flatMap c8).toArray) ++ []).toArray) :: startS.cells) (by kernel_rfl) (by rw [List.append_nil]; rfl), rfl⟩) ?_
  rintro xs - ⟨s, r, rfl, hI⟩
  have hcat : ∀ (α : Nat → SX.AV) (t : List Value), SX.cellsV ((SX.V.cat [.x 3 []]).den ([.slice A n c] ++ [.agg startS.cells.toArray] ++ [.agg (l.flatMap c8).toArray] ++ (.agg (r.flatMap c8).toArray :: s.cells) ++ t) α) = r.flatMap c8 := fun α t => SX.cat1 (by kernel_rfl)
  refine SX.VC_df (.int .i64 (r.length : Int)) (fun α => row_len8 (SX.cat1 (j := 3) (by kernel_rfl))) (by kernel_rfl) ?_
  refine SX.VC_df (.bool (decide (64 ≤ r.length))) (fun α => cast (by kernel_rfl) (geq_nat r.length 64)) (by kernel_rfl) ?_
  refine SX.VC_br (decide (64 ≤ r.length)) (by kernel_rfl) (fun h64 => ?_) (fun h64 => ?_)
  · have h64 : 64 ≤ r.length := by simpa using h64
    have ht : (r.take 64).length = 64 := by rw [List.length_take]; omega
    refine SX.VC_df (.agg ((r.take 64).flatMap c8).toArray) (fun α => slcx_take (k := 64) (SX.cat1 (j := 3) (by kernel_rfl)) (by kernel_rfl) h64) (by kernel_rfl) ?_
    refine SX.VC_df (.agg (absorbE s (r.take 64)).cells.toArray) (fun α => absorb_row hPr hL (l := r.take 64) (s := s) (by kernel_rfl) ht (by kernel_rfl)) (by kernel_rfl) ?_
    refine SX.VC_df (.agg ((r.drop 64).flatMap c8).toArray) (fun α => slcx_drop (k := 64) (SX.cat1 (j := 3) (by kernel_rfl)) (by kernel_rfl) h64) (by kernel_rfl) ?_
    exact VC_again2 rfl (fun α => ⟨absorbE s (r.take 64), r.drop 64, Eq.trans (b := (.agg (SX.cellsV (.agg ((r.drop 64).flatMap c8).toArray) ++ []).toArray) :: (absorbE s (r.take 64)).cells) (by kernel_rfl) (by rw [List.append_nil]; rfl), by rw [← hI, absAll_ge h64]⟩) (fun α => cast (by kernel_rfl) (show (((r.drop 64).flatMap c8) ++ []).length < (r.flatMap c8).length by rw [List.append_nil, SX.flat_len c8_len, SX.flat_len c8_len, List.length_drop]; omega))
  · have h64 : ¬ 64 ≤ r.length := by simpa using h64
    rw [absAll_lt h64] at hI
    have e1 : (absAll startS l).1 = s := by rw [← hI]
    have e2 : (absAll startS l).2 = r := by rw [← hI]
    have hp : (r ++ (List.replicate 64 (0 : W8)).drop r.length).length = 64 := by simp; omega
    obtain ⟨g1, hg1⟩ := list64b _ hp
    refine SX.VC_df (.tuple #[.int .i64 (r.length : Int), .agg (((List.range 64).map g1).flatMap c8).toArray]) (fun α => by rw [← hg1]; exact cpyx8 (l := r) (z := List.replicate 64 0) (by kernel_rfl) (SX.cat1 (j := 3) (by kernel_rfl)) (by omega)) (by kernel_rfl) ?_
    refine SX.VC_df (.int .i64 (r.length : Int)) (fun α => row_len8 (SX.cat1 (j := 3) (by kernel_rfl))) (by kernel_rfl) ?_
    refine SX.VC_df (.bool true) (fun α => SX.extBnd (A := some ⟨(α 12).b, 0, none⟩) (n := 64) (c := 128) (j := r.length) (fun _ => rfl) rfl (by kernel_rfl) (by omega)) (by kernel_rfl) ?_
    have hm : (((List.range 64).map g1).set r.length 128 : List W8) = marked r := by rw [← hg1]; unfold marked; rw [List.drop_replicate]
    have hml : (marked r).length = 64 := by rw [← hm]; simp
    obtain ⟨g2, hg2⟩ := list64b _ hml
    refine SX.VC_df (.agg (((List.range 64).map g2).flatMap c8).toArray) (fun α => by rw [← hg2, ← hm]; exact rset8 (u := (List.range 64).map g1) (k := r.length) (y := 128) (Eq.trans (b := SX.cellsV (.agg (((List.range 64).map g1).flatMap c8).toArray) ++ []) (by kernel_rfl) (List.append_nil _)) (by kernel_rfl) (by kernel_rfl) (by simp; omega)) (fit8 _ (by simp)) ?_
    refine SX.VC_df (.int .i64 (r.length : Int)) (fun α => row_len8 (SX.cat1 (j := 3) (by kernel_rfl))) (by kernel_rfl) ?_
    refine SX.VC_df (.bool (decide (55 < r.length))) (fun α => cast (by kernel_rfl) (gtr_nat r.length 55)) (by kernel_rfl) ?_
    refine SX.VC_br (decide (55 < r.length)) (by kernel_rfl) (fun h55 => ?_) (fun h55 => ?_)
    · have h55 : 55 < r.length := by simpa using h55
      refine SX.VC_df (.int .i64 (n : Int)) (by intro α; show _ = _; kernel_rfl) (by kernel_rfl) ?_
      refine SX.VC_df (.int .u64 (n : Int)) (fun α => cast (by kernel_rfl) (u_conv n .i64 (by omega))) (by kernel_rfl) ?_
      refine SX.VC_df (.int .u64 ((8 * n : Nat) : Int)) (fun α => cast (by kernel_rfl) (u_mul8 n (by omega))) (by kernel_rfl) ?_
      refine SX.VC_df (.int .u64 ((8 * n / 2 ^ 0 : Nat) : Int)) (fun α => cast (by kernel_rfl) (u_shr (8 * n) 0 (by omega))) (by kernel_rfl) ?_
      refine SX.VC_df (w8 (byteAt (8 * n) 0)) (fun α => cast (by kernel_rfl) (w_byte (8 * n) 0)) (by kernel_rfl) ?_
      refine SX.VC_df (.int .u64 ((8 * n / 2 ^ 8 : Nat) : Int)) (fun α => cast (by kernel_rfl) (u_shr (8 * n) 8 (by omega))) (by kernel_rfl) ?_
      refine SX.VC_df (w8 (byteAt (8 * n) 8)) (fun α => cast (by kernel_rfl) (w_byte (8 * n) 8)) (by kernel_rfl) ?_
      refine SX.VC_df (.int .u64 ((8 * n / 2 ^ 16 : Nat) : Int)) (fun α => cast (by kernel_rfl) (u_shr (8 * n) 16 (by omega))) (by kernel_rfl) ?_
      refine SX.VC_df (w8 (byteAt (8 * n) 16)) (fun α => cast (by kernel_rfl) (w_byte (8 * n) 16)) (by kernel_rfl) ?_
      refine SX.VC_df (.int .u64 ((8 * n / 2 ^ 24 : Nat) : Int)) (fun α => cast (by kernel_rfl) (u_shr (8 * n) 24 (by omega))) (by kernel_rfl) ?_
      refine SX.VC_df (w8 (byteAt (8 * n) 24)) (fun α => cast (by kernel_rfl) (w_byte (8 * n) 24)) (by kernel_rfl) ?_
      refine SX.VC_df (.int .u64 ((8 * n / 2 ^ 32 : Nat) : Int)) (fun α => cast (by kernel_rfl) (u_shr (8 * n) 32 (by omega))) (by kernel_rfl) ?_
      refine SX.VC_df (w8 (byteAt (8 * n) 32)) (fun α => cast (by kernel_rfl) (w_byte (8 * n) 32)) (by kernel_rfl) ?_
      refine SX.VC_df (.int .u64 ((8 * n / 2 ^ 40 : Nat) : Int)) (fun α => cast (by kernel_rfl) (u_shr (8 * n) 40 (by omega))) (by kernel_rfl) ?_
      refine SX.VC_df (w8 (byteAt (8 * n) 40)) (fun α => cast (by kernel_rfl) (w_byte (8 * n) 40)) (by kernel_rfl) ?_
      refine SX.VC_df (.int .u64 ((8 * n / 2 ^ 48 : Nat) : Int)) (fun α => cast (by kernel_rfl) (u_shr (8 * n) 48 (by omega))) (by kernel_rfl) ?_
      refine SX.VC_df (w8 (byteAt (8 * n) 48)) (fun α => cast (by kernel_rfl) (w_byte (8 * n) 48)) (by kernel_rfl) ?_
      refine SX.VC_df (.int .u64 ((8 * n / 2 ^ 56 : Nat) : Int)) (fun α => cast (by kernel_rfl) (u_shr (8 * n) 56 (by omega))) (by kernel_rfl) ?_
      refine SX.VC_df (w8 (byteAt (8 * n) 56)) (fun α => cast (by kernel_rfl) (w_byte (8 * n) 56)) (by kernel_rfl) ?_
      refine SX.VC_df (.agg (absorbE s (marked r)).cells.toArray) (fun α => absorb_own hPr hL (l := marked r) (s := s) (by rw [hg2]; kernel_rfl) hml (by kernel_rfl)) (by kernel_rfl) ?_
      generalize hs1 : absorbE s (marked r) = s1
      refine SX.VC_df (.agg (absorbE s1 (List.replicate 56 0 ++ be64 (8 * n))).cells.toArray) (fun α => absorb_own hPr hL (l := List.replicate 56 0 ++ be64 (8 * n)) (s := s1) (by kernel_rfl) (by kernel_rfl) (by kernel_rfl)) (by kernel_rfl) ?_
      generalize hs2 : absorbE s1 (List.replicate 56 0 ++ be64 (8 * n)) = s2
      refine SX.VC_df (.int .u64 (s2.a.toNat : Int)) (fun α => cast (by kernel_rfl) (u_conv32 s2.a)) (by kernel_rfl) ?_
      refine SX.VC_df (.int .u64 ((s2.a.toNat / 2 ^ 0 : Nat) : Int)) (fun α => cast (by kernel_rfl) (u_shr s2.a.toNat 0 (by omega))) (by kernel_rfl) ?_
      refine SX.VC_df (w8 (byteAt s2.a.toNat 0)) (fun α => cast (by kernel_rfl) (w_byte s2.a.toNat 0)) (by kernel_rfl) ?_
      refine SX.VC_df (.int .u64 ((s2.a.toNat / 2 ^ 8 : Nat) : Int)) (fun α => cast (by kernel_rfl) (u_shr s2.a.toNat 8 (by omega))) (by kernel_rfl) ?_
      refine SX.VC_df (w8 (byteAt s2.a.toNat 8)) (fun α => cast (by kernel_rfl) (w_byte s2.a.toNat 8)) (by kernel_rfl) ?_
      refine SX.VC_df (.int .u64 ((s2.a.toNat / 2 ^ 16 : Nat) : Int)) (fun α => cast (by kernel_rfl) (u_shr s2.a.toNat 16 (by omega))) (by kernel_rfl) ?_
      refine SX.VC_df (w8 (byteAt s2.a.toNat 16)) (fun α => cast (by kernel_rfl) (w_byte s2.a.toNat 16)) (by kernel_rfl) ?_
      refine SX.VC_df (.int .u64 ((s2.a.toNat / 2 ^ 24 : Nat) : Int)) (fun α => cast (by kernel_rfl) (u_shr s2.a.toNat 24 (by omega))) (by kernel_rfl) ?_
      refine SX.VC_df (w8 (byteAt s2.a.toNat 24)) (fun α => cast (by kernel_rfl) (w_byte s2.a.toNat 24)) (by kernel_rfl) ?_
      refine SX.VC_df (.int .u64 (s2.b.toNat : Int)) (fun α => cast (by kernel_rfl) (u_conv32 s2.b)) (by kernel_rfl) ?_
      refine SX.VC_df (.int .u64 ((s2.b.toNat / 2 ^ 0 : Nat) : Int)) (fun α => cast (by kernel_rfl) (u_shr s2.b.toNat 0 (by omega))) (by kernel_rfl) ?_
      refine SX.VC_df (w8 (byteAt s2.b.toNat 0)) (fun α => cast (by kernel_rfl) (w_byte s2.b.toNat 0)) (by kernel_rfl) ?_
      refine SX.VC_df (.int .u64 ((s2.b.toNat / 2 ^ 8 : Nat) : Int)) (fun α => cast (by kernel_rfl) (u_shr s2.b.toNat 8 (by omega))) (by kernel_rfl) ?_
      refine SX.VC_df (w8 (byteAt s2.b.toNat 8)) (fun α => cast (by kernel_rfl) (w_byte s2.b.toNat 8)) (by kernel_rfl) ?_
      refine SX.VC_df (.int .u64 ((s2.b.toNat / 2 ^ 16 : Nat) : Int)) (fun α => cast (by kernel_rfl) (u_shr s2.b.toNat 16 (by omega))) (by kernel_rfl) ?_
      refine SX.VC_df (w8 (byteAt s2.b.toNat 16)) (fun α => cast (by kernel_rfl) (w_byte s2.b.toNat 16)) (by kernel_rfl) ?_
      refine SX.VC_df (.int .u64 ((s2.b.toNat / 2 ^ 24 : Nat) : Int)) (fun α => cast (by kernel_rfl) (u_shr s2.b.toNat 24 (by omega))) (by kernel_rfl) ?_
      refine SX.VC_df (w8 (byteAt s2.b.toNat 24)) (fun α => cast (by kernel_rfl) (w_byte s2.b.toNat 24)) (by kernel_rfl) ?_
      refine SX.VC_df (.int .u64 (s2.c.toNat : Int)) (fun α => cast (by kernel_rfl) (u_conv32 s2.c)) (by kernel_rfl) ?_
      refine SX.VC_df (.int .u64 ((s2.c.toNat / 2 ^ 0 : Nat) : Int)) (fun α => cast (by kernel_rfl) (u_shr s2.c.toNat 0 (by omega))) (by kernel_rfl) ?_
      refine SX.VC_df (w8 (byteAt s2.c.toNat 0)) (fun α => cast (by kernel_rfl) (w_byte s2.c.toNat 0)) (by kernel_rfl) ?_
      refine SX.VC_df (.int .u64 ((s2.c.toNat / 2 ^ 8 : Nat) : Int)) (fun α => cast (by kernel_rfl) (u_shr s2.c.toNat 8 (by omega))) (by kernel_rfl) ?_
      refine SX.VC_df (w8 (byteAt s2.c.toNat 8)) (fun α => cast (by kernel_rfl) (w_byte s2.c.toNat 8)) (by kernel_rfl) ?_
      refine SX.VC_df (.int .u64 ((s2.c.toNat / 2 ^ 16 : Nat) : Int)) (fun α => cast (by kernel_rfl) (u_shr s2.c.toNat 16 (by omega))) (by kernel_rfl) ?_
      refine SX.VC_df (w8 (byteAt s2.c.toNat 16)) (fun α => cast (by kernel_rfl) (w_byte s2.c.toNat 16)) (by kernel_rfl) ?_
      refine SX.VC_df (.int .u64 ((s2.c.toNat / 2 ^ 24 : Nat) : Int)) (fun α => cast (by kernel_rfl) (u_shr s2.c.toNat 24 (by omega))) (by kernel_rfl) ?_
      refine SX.VC_df (w8 (byteAt s2.c.toNat 24)) (fun α => cast (by kernel_rfl) (w_byte s2.c.toNat 24)) (by kernel_rfl) ?_
      refine SX.VC_df (.int .u64 (s2.d.toNat : Int)) (fun α => cast (by kernel_rfl) (u_conv32 s2.d)) (by kernel_rfl) ?_
      refine SX.VC_df (.int .u64 ((s2.d.toNat / 2 ^ 0 : Nat) : Int)) (fun α => cast (by kernel_rfl) (u_shr s2.d.toNat 0 (by omega))) (by kernel_rfl) ?_
      refine SX.VC_df (w8 (byteAt s2.d.toNat 0)) (fun α => cast (by kernel_rfl) (w_byte s2.d.toNat 0)) (by kernel_rfl) ?_
      refine SX.VC_df (.int .u64 ((s2.d.toNat / 2 ^ 8 : Nat) : Int)) (fun α => cast (by kernel_rfl) (u_shr s2.d.toNat 8 (by omega))) (by kernel_rfl) ?_
      refine SX.VC_df (w8 (byteAt s2.d.toNat 8)) (fun α => cast (by kernel_rfl) (w_byte s2.d.toNat 8)) (by kernel_rfl) ?_
      refine SX.VC_df (.int .u64 ((s2.d.toNat / 2 ^ 16 : Nat) : Int)) (fun α => cast (by kernel_rfl) (u_shr s2.d.toNat 16 (by omega))) (by kernel_rfl) ?_
      refine SX.VC_df (w8 (byteAt s2.d.toNat 16)) (fun α => cast (by kernel_rfl) (w_byte s2.d.toNat 16)) (by kernel_rfl) ?_
      refine SX.VC_df (.int .u64 ((s2.d.toNat / 2 ^ 24 : Nat) : Int)) (fun α => cast (by kernel_rfl) (u_shr s2.d.toNat 24 (by omega))) (by kernel_rfl) ?_
      refine SX.VC_df (w8 (byteAt s2.d.toNat 24)) (fun α => cast (by kernel_rfl) (w_byte s2.d.toNat 24)) (by kernel_rfl) ?_
      refine SX.VC_df (.int .u64 (s2.e.toNat : Int)) (fun α => cast (by kernel_rfl) (u_conv32 s2.e)) (by kernel_rfl) ?_
      refine SX.VC_df (.int .u64 ((s2.e.toNat / 2 ^ 0 : Nat) : Int)) (fun α => cast (by kernel_rfl) (u_shr s2.e.toNat 0 (by omega))) (by kernel_rfl) ?_
      refine SX.VC_df (w8 (byteAt s2.e.toNat 0)) (fun α => cast (by kernel_rfl) (w_byte s2.e.toNat 0)) (by kernel_rfl) ?_
      refine SX.VC_df (.int .u64 ((s2.e.toNat / 2 ^ 8 : Nat) : Int)) (fun α => cast (by kernel_rfl) (u_shr s2.e.toNat 8 (by omega))) (by kernel_rfl) ?_
      refine SX.VC_df (w8 (byteAt s2.e.toNat 8)) (fun α => cast (by kernel_rfl) (w_byte s2.e.toNat 8)) (by kernel_rfl) ?_
      refine SX.VC_df (.int .u64 ((s2.e.toNat / 2 ^ 16 : Nat) : Int)) (fun α => cast (by kernel_rfl) (u_shr s2.e.toNat 16 (by omega))) (by kernel_rfl) ?_
      refine SX.VC_df (w8 (byteAt s2.e.toNat 16)) (fun α => cast (by kernel_rfl) (w_byte s2.e.toNat 16)) (by kernel_rfl) ?_
      refine SX.VC_df (.int .u64 ((s2.e.toNat / 2 ^ 24 : Nat) : Int)) (fun α => cast (by kernel_rfl) (u_shr s2.e.toNat 24 (by omega))) (by kernel_rfl) ?_
      refine SX.VC_df (w8 (byteAt s2.e.toNat 24)) (fun α => cast (by kernel_rfl) (w_byte s2.e.toNat 24)) (by kernel_rfl) ?_
      refine SX.VC_df (.int .u64 (s2.f.toNat : Int)) (fun α => cast (by kernel_rfl) (u_conv32 s2.f)) (by kernel_rfl) ?_
      refine SX.VC_df (.int .u64 ((s2.f.toNat / 2 ^ 0 : Nat) : Int)) (fun α => cast (by kernel_rfl) (u_shr s2.f.toNat 0 (by omega))) (by kernel_rfl) ?_
      refine SX.VC_df (w8 (byteAt s2.f.toNat 0)) (fun α => cast (by kernel_rfl) (w_byte s2.f.toNat 0)) (by kernel_rfl) ?_
      refine SX.VC_df (.int .u64 ((s2.f.toNat / 2 ^ 8 : Nat) : Int)) (fun α => cast (by kernel_rfl) (u_shr s2.f.toNat 8 (by omega))) (by kernel_rfl) ?_
      refine SX.VC_df (w8 (byteAt s2.f.toNat 8)) (fun α => cast (by kernel_rfl) (w_byte s2.f.toNat 8)) (by kernel_rfl) ?_
      refine SX.VC_df (.int .u64 ((s2.f.toNat / 2 ^ 16 : Nat) : Int)) (fun α => cast (by kernel_rfl) (u_shr s2.f.toNat 16 (by omega))) (by kernel_rfl) ?_
      refine SX.VC_df (w8 (byteAt s2.f.toNat 16)) (fun α => cast (by kernel_rfl) (w_byte s2.f.toNat 16)) (by kernel_rfl) ?_
      refine SX.VC_df (.int .u64 ((s2.f.toNat / 2 ^ 24 : Nat) : Int)) (fun α => cast (by kernel_rfl) (u_shr s2.f.toNat 24 (by omega))) (by kernel_rfl) ?_
      refine SX.VC_df (w8 (byteAt s2.f.toNat 24)) (fun α => cast (by kernel_rfl) (w_byte s2.f.toNat 24)) (by kernel_rfl) ?_
      refine SX.VC_df (.int .u64 (s2.g.toNat : Int)) (fun α => cast (by kernel_rfl) (u_conv32 s2.g)) (by kernel_rfl) ?_
      refine SX.VC_df (.int .u64 ((s2.g.toNat / 2 ^ 0 : Nat) : Int)) (fun α => cast (by kernel_rfl) (u_shr s2.g.toNat 0 (by omega))) (by kernel_rfl) ?_
      refine SX.VC_df (w8 (byteAt s2.g.toNat 0)) (fun α => cast (by kernel_rfl) (w_byte s2.g.toNat 0)) (by kernel_rfl) ?_
      refine SX.VC_df (.int .u64 ((s2.g.toNat / 2 ^ 8 : Nat) : Int)) (fun α => cast (by kernel_rfl) (u_shr s2.g.toNat 8 (by omega))) (by kernel_rfl) ?_
      refine SX.VC_df (w8 (byteAt s2.g.toNat 8)) (fun α => cast (by kernel_rfl) (w_byte s2.g.toNat 8)) (by kernel_rfl) ?_
      refine SX.VC_df (.int .u64 ((s2.g.toNat / 2 ^ 16 : Nat) : Int)) (fun α => cast (by kernel_rfl) (u_shr s2.g.toNat 16 (by omega))) (by kernel_rfl) ?_
      refine SX.VC_df (w8 (byteAt s2.g.toNat 16)) (fun α => cast (by kernel_rfl) (w_byte s2.g.toNat 16)) (by kernel_rfl) ?_
      refine SX.VC_df (.int .u64 ((s2.g.toNat / 2 ^ 24 : Nat) : Int)) (fun α => cast (by kernel_rfl) (u_shr s2.g.toNat 24 (by omega))) (by kernel_rfl) ?_
      refine SX.VC_df (w8 (byteAt s2.g.toNat 24)) (fun α => cast (by kernel_rfl) (w_byte s2.g.toNat 24)) (by kernel_rfl) ?_
      refine SX.VC_df (.int .u64 (s2.h.toNat : Int)) (fun α => cast (by kernel_rfl) (u_conv32 s2.h)) (by kernel_rfl) ?_
      refine SX.VC_df (.int .u64 ((s2.h.toNat / 2 ^ 0 : Nat) : Int)) (fun α => cast (by kernel_rfl) (u_shr s2.h.toNat 0 (by omega))) (by kernel_rfl) ?_
      refine SX.VC_df (w8 (byteAt s2.h.toNat 0)) (fun α => cast (by kernel_rfl) (w_byte s2.h.toNat 0)) (by kernel_rfl) ?_
      refine SX.VC_df (.int .u64 ((s2.h.toNat / 2 ^ 8 : Nat) : Int)) (fun α => cast (by kernel_rfl) (u_shr s2.h.toNat 8 (by omega))) (by kernel_rfl) ?_
      refine SX.VC_df (w8 (byteAt s2.h.toNat 8)) (fun α => cast (by kernel_rfl) (w_byte s2.h.toNat 8)) (by kernel_rfl) ?_
      refine SX.VC_df (.int .u64 ((s2.h.toNat / 2 ^ 16 : Nat) : Int)) (fun α => cast (by kernel_rfl) (u_shr s2.h.toNat 16 (by omega))) (by kernel_rfl) ?_
      refine SX.VC_df (w8 (byteAt s2.h.toNat 16)) (fun α => cast (by kernel_rfl) (w_byte s2.h.toNat 16)) (by kernel_rfl) ?_
      refine SX.VC_df (.int .u64 ((s2.h.toNat / 2 ^ 24 : Nat) : Int)) (fun α => cast (by kernel_rfl) (u_shr s2.h.toNat 24 (by omega))) (by kernel_rfl) ?_
      refine SX.VC_df (w8 (byteAt s2.h.toNat 24)) (fun α => cast (by kernel_rfl) (w_byte s2.h.toNat 24)) (by kernel_rfl) ?_
      exact SX.VC_ret fun α W _ _ hS => SX.ret_of (x := .agg ((outS s2).flatMap c8).toArray) hS (by kernel_rfl) (by unfold sumE endS; rw [e1, e2, hln, if_pos h55, hs1, hs2])
    · have h55 : ¬ 55 < r.length := by simpa using h55
      refine SX.VC_df (.int .i64 (n : Int)) (by intro α; show _ = _; kernel_rfl) (by kernel_rfl) ?_
      refine SX.VC_df (.int .u64 (n : Int)) (fun α => cast (by kernel_rfl) (u_conv n .i64 (by omega))) (by kernel_rfl) ?_
      refine SX.VC_df (.int .u64 ((8 * n : Nat) : Int)) (fun α => cast (by kernel_rfl) (u_mul8 n (by omega))) (by kernel_rfl) ?_
      refine SX.VC_df (.int .u64 ((8 * n / 2 ^ 0 : Nat) : Int)) (fun α => cast (by kernel_rfl) (u_shr (8 * n) 0 (by omega))) (by kernel_rfl) ?_
      refine SX.VC_df (w8 (byteAt (8 * n) 0)) (fun α => cast (by kernel_rfl) (w_byte (8 * n) 0)) (by kernel_rfl) ?_
      refine SX.VC_df (.int .u64 ((8 * n / 2 ^ 8 : Nat) : Int)) (fun α => cast (by kernel_rfl) (u_shr (8 * n) 8 (by omega))) (by kernel_rfl) ?_
      refine SX.VC_df (w8 (byteAt (8 * n) 8)) (fun α => cast (by kernel_rfl) (w_byte (8 * n) 8)) (by kernel_rfl) ?_
      refine SX.VC_df (.int .u64 ((8 * n / 2 ^ 16 : Nat) : Int)) (fun α => cast (by kernel_rfl) (u_shr (8 * n) 16 (by omega))) (by kernel_rfl) ?_
      refine SX.VC_df (w8 (byteAt (8 * n) 16)) (fun α => cast (by kernel_rfl) (w_byte (8 * n) 16)) (by kernel_rfl) ?_
      refine SX.VC_df (.int .u64 ((8 * n / 2 ^ 24 : Nat) : Int)) (fun α => cast (by kernel_rfl) (u_shr (8 * n) 24 (by omega))) (by kernel_rfl) ?_
      refine SX.VC_df (w8 (byteAt (8 * n) 24)) (fun α => cast (by kernel_rfl) (w_byte (8 * n) 24)) (by kernel_rfl) ?_
      refine SX.VC_df (.int .u64 ((8 * n / 2 ^ 32 : Nat) : Int)) (fun α => cast (by kernel_rfl) (u_shr (8 * n) 32 (by omega))) (by kernel_rfl) ?_
      refine SX.VC_df (w8 (byteAt (8 * n) 32)) (fun α => cast (by kernel_rfl) (w_byte (8 * n) 32)) (by kernel_rfl) ?_
      refine SX.VC_df (.int .u64 ((8 * n / 2 ^ 40 : Nat) : Int)) (fun α => cast (by kernel_rfl) (u_shr (8 * n) 40 (by omega))) (by kernel_rfl) ?_
      refine SX.VC_df (w8 (byteAt (8 * n) 40)) (fun α => cast (by kernel_rfl) (w_byte (8 * n) 40)) (by kernel_rfl) ?_
      refine SX.VC_df (.int .u64 ((8 * n / 2 ^ 48 : Nat) : Int)) (fun α => cast (by kernel_rfl) (u_shr (8 * n) 48 (by omega))) (by kernel_rfl) ?_
      refine SX.VC_df (w8 (byteAt (8 * n) 48)) (fun α => cast (by kernel_rfl) (w_byte (8 * n) 48)) (by kernel_rfl) ?_
      refine SX.VC_df (.int .u64 ((8 * n / 2 ^ 56 : Nat) : Int)) (fun α => cast (by kernel_rfl) (u_shr (8 * n) 56 (by omega))) (by kernel_rfl) ?_
      refine SX.VC_df (w8 (byteAt (8 * n) 56)) (fun α => cast (by kernel_rfl) (w_byte (8 * n) 56)) (by kernel_rfl) ?_
      refine SX.VC_df (.agg (absorbE s ((marked r).take 56 ++ be64 (8 * n))).cells.toArray) (fun α => absorb_own hPr hL (l := (marked r).take 56 ++ be64 (8 * n)) (s := s) (by rw [hg2]; kernel_rfl) (by rw [List.length_append, List.length_take, hml]; rfl) (by kernel_rfl)) (by kernel_rfl) ?_
      generalize hs2 : absorbE s ((marked r).take 56 ++ be64 (8 * n)) = s2
      refine SX.VC_df (.int .u64 (s2.a.toNat : Int)) (fun α => cast (by kernel_rfl) (u_conv32 s2.a)) (by kernel_rfl) ?_
      refine SX.VC_df (.int .u64 ((s2.a.toNat / 2 ^ 0 : Nat) : Int)) (fun α => cast (by kernel_rfl) (u_shr s2.a.toNat 0 (by omega))) (by kernel_rfl) ?_
      refine SX.VC_df (w8 (byteAt s2.a.toNat 0)) (fun α => cast (by kernel_rfl) (w_byte s2.a.toNat 0)) (by kernel_rfl) ?_
      refine SX.VC_df (.int .u64 ((s2.a.toNat / 2 ^ 8 : Nat) : Int)) (fun α => cast (by kernel_rfl) (u_shr s2.a.toNat 8 (by omega))) (by kernel_rfl) ?_
      refine SX.VC_df (w8 (byteAt s2.a.toNat 8)) (fun α => cast (by kernel_rfl) (w_byte s2.a.toNat 8)) (by kernel_rfl) ?_
      refine SX.VC_df (.int .u64 ((s2.a.toNat / 2 ^ 16 : Nat) : Int)) (fun α => cast (by kernel_rfl) (u_shr s2.a.toNat 16 (by omega))) (by kernel_rfl) ?_
      refine SX.VC_df (w8 (byteAt s2.a.toNat 16)) (fun α => cast (by kernel_rfl) (w_byte s2.a.toNat 16)) (by kernel_rfl) ?_
      refine SX.VC_df (.int .u64 ((s2.a.toNat / 2 ^ 24 : Nat) : Int)) (fun α => cast (by kernel_rfl) (u_shr s2.a.toNat 24 (by omega))) (by kernel_rfl) ?_
      refine SX.VC_df (w8 (byteAt s2.a.toNat 24)) (fun α => cast (by kernel_rfl) (w_byte s2.a.toNat 24)) (by kernel_rfl) ?_
      refine SX.VC_df (.int .u64 (s2.b.toNat : Int)) (fun α => cast (by kernel_rfl) (u_conv32 s2.b)) (by kernel_rfl) ?_
      refine SX.VC_df (.int .u64 ((s2.b.toNat / 2 ^ 0 : Nat) : Int)) (fun α => cast (by kernel_rfl) (u_shr s2.b.toNat 0 (by omega))) (by kernel_rfl) ?_
      refine SX.VC_df (w8 (byteAt s2.b.toNat 0)) (fun α => cast (by kernel_rfl) (w_byte s2.b.toNat 0)) (by kernel_rfl) ?_
      refine SX.VC_df (.int .u64 ((s2.b.toNat / 2 ^ 8 : Nat) : Int)) (fun α => cast (by kernel_rfl) (u_shr s2.b.toNat 8 (by omega))) (by kernel_rfl) ?_
      refine SX.VC_df (w8 (byteAt s2.b.toNat 8)) (fun α => cast (by kernel_rfl) (w_byte s2.b.toNat 8)) (by kernel_rfl) ?_
      refine SX.VC_df (.int .u64 ((s2.b.toNat / 2 ^ 16 : Nat) : Int)) (fun α => cast (by kernel_rfl) (u_shr s2.b.toNat 16 (by omega))) (by kernel_rfl) ?_
      refine SX.VC_df (w8 (byteAt s2.b.toNat 16)) (fun α => cast (by kernel_rfl) (w_byte s2.b.toNat 16)) (by kernel_rfl) ?_
      refine SX.VC_df (.int .u64 ((s2.b.toNat / 2 ^ 24 : Nat) : Int)) (fun α => cast (by kernel_rfl) (u_shr s2.b.toNat 24 (by omega))) (by kernel_rfl) ?_
      refine SX.VC_df (w8 (byteAt s2.b.toNat 24)) (fun α => cast (by kernel_rfl) (w_byte s2.b.toNat 24)) (by kernel_rfl) ?_
      refine SX.VC_df (.int .u64 (s2.c.toNat : Int)) (fun α => cast (by kernel_rfl) (u_conv32 s2.c)) (by kernel_rfl) ?_
      refine SX.VC_df (.int .u64 ((s2.c.toNat / 2 ^ 0 : Nat) : Int)) (fun α => cast (by kernel_rfl) (u_shr s2.c.toNat 0 (by omega))) (by kernel_rfl) ?_
      refine SX.VC_df (w8 (byteAt s2.c.toNat 0)) (fun α => cast (by kernel_rfl) (w_byte s2.c.toNat 0)) (by kernel_rfl) ?_
      refine SX.VC_df (.int .u64 ((s2.c.toNat / 2 ^ 8 : Nat) : Int)) (fun α => cast (by kernel_rfl) (u_shr s2.c.toNat 8 (by omega))) (by kernel_rfl) ?_
      refine SX.VC_df (w8 (byteAt s2.c.toNat 8)) (fun α => cast (by kernel_rfl) (w_byte s2.c.toNat 8)) (by kernel_rfl) ?_
      refine SX.VC_df (.int .u64 ((s2.c.toNat / 2 ^ 16 : Nat) : Int)) (fun α => cast (by kernel_rfl) (u_shr s2.c.toNat 16 (by omega))) (by kernel_rfl) ?_
      refine SX.VC_df (w8 (byteAt s2.c.toNat 16)) (fun α => cast (by kernel_rfl) (w_byte s2.c.toNat 16)) (by kernel_rfl) ?_
      refine SX.VC_df (.int .u64 ((s2.c.toNat / 2 ^ 24 : Nat) : Int)) (fun α => cast (by kernel_rfl) (u_shr s2.c.toNat 24 (by omega))) (by kernel_rfl) ?_
      refine SX.VC_df (w8 (byteAt s2.c.toNat 24)) (fun α => cast (by kernel_rfl) (w_byte s2.c.toNat 24)) (by kernel_rfl) ?_
      refine SX.VC_df (.int .u64 (s2.d.toNat : Int)) (fun α => cast (by kernel_rfl) (u_conv32 s2.d)) (by kernel_rfl) ?_
      refine SX.VC_df (.int .u64 ((s2.d.toNat / 2 ^ 0 : Nat) : Int)) (fun α => cast (by kernel_rfl) (u_shr s2.d.toNat 0 (by omega))) (by kernel_rfl) ?_
      refine SX.VC_df (w8 (byteAt s2.d.toNat 0)) (fun α => cast (by kernel_rfl) (w_byte s2.d.toNat 0)) (by kernel_rfl) ?_
      refine SX.VC_df (.int .u64 ((s2.d.toNat / 2 ^ 8 : Nat) : Int)) (fun α => cast (by kernel_rfl) (u_shr s2.d.toNat 8 (by omega))) (by kernel_rfl) ?_
      refine SX.VC_df (w8 (byteAt s2.d.toNat 8)) (fun α => cast (by kernel_rfl) (w_byte s2.d.toNat 8)) (by kernel_rfl) ?_
      refine SX.VC_df (.int .u64 ((s2.d.toNat / 2 ^ 16 : Nat) : Int)) (fun α => cast (by kernel_rfl) (u_shr s2.d.toNat 16 (by omega))) (by kernel_rfl) ?_
      refine SX.VC_df (w8 (byteAt s2.d.toNat 16)) (fun α => cast (by kernel_rfl) (w_byte s2.d.toNat 16)) (by kernel_rfl) ?_
      refine SX.VC_df (.int .u64 ((s2.d.toNat / 2 ^ 24 : Nat) : Int)) (fun α => cast (by kernel_rfl) (u_shr s2.d.toNat 24 (by omega))) (by kernel_rfl) ?_
      refine SX.VC_df (w8 (byteAt s2.d.toNat 24)) (fun α => cast (by kernel_rfl) (w_byte s2.d.toNat 24)) (by kernel_rfl) ?_
      refine SX.VC_df (.int .u64 (s2.e.toNat : Int)) (fun α => cast (by kernel_rfl) (u_conv32 s2.e)) (by kernel_rfl) ?_
      refine SX.VC_df (.int .u64 ((s2.e.toNat / 2 ^ 0 : Nat) : Int)) (fun α => cast (by kernel_rfl) (u_shr s2.e.toNat 0 (by omega))) (by kernel_rfl) ?_
      refine SX.VC_df (w8 (byteAt s2.e.toNat 0)) (fun α => cast (by kernel_rfl) (w_byte s2.e.toNat 0)) (by kernel_rfl) ?_
      refine SX.VC_df (.int .u64 ((s2.e.toNat / 2 ^ 8 : Nat) : Int)) (fun α => cast (by kernel_rfl) (u_shr s2.e.toNat 8 (by omega))) (by kernel_rfl) ?_
      refine SX.VC_df (w8 (byteAt s2.e.toNat 8)) (fun α => cast (by kernel_rfl) (w_byte s2.e.toNat 8)) (by kernel_rfl) ?_
      refine SX.VC_df (.int .u64 ((s2.e.toNat / 2 ^ 16 : Nat) : Int)) (fun α => cast (by kernel_rfl) (u_shr s2.e.toNat 16 (by omega))) (by kernel_rfl) ?_
      refine SX.VC_df (w8 (byteAt s2.e.toNat 16)) (fun α => cast (by kernel_rfl) (w_byte s2.e.toNat 16)) (by kernel_rfl) ?_
      refine SX.VC_df (.int .u64 ((s2.e.toNat / 2 ^ 24 : Nat) : Int)) (fun α => cast (by kernel_rfl) (u_shr s2.e.toNat 24 (by omega))) (by kernel_rfl) ?_
      refine SX.VC_df (w8 (byteAt s2.e.toNat 24)) (fun α => cast (by kernel_rfl) (w_byte s2.e.toNat 24)) (by kernel_rfl) ?_
      refine SX.VC_df (.int .u64 (s2.f.toNat : Int)) (fun α => cast (by kernel_rfl) (u_conv32 s2.f)) (by kernel_rfl) ?_
      refine SX.VC_df (.int .u64 ((s2.f.toNat / 2 ^ 0 : Nat) : Int)) (fun α => cast (by kernel_rfl) (u_shr s2.f.toNat 0 (by omega))) (by kernel_rfl) ?_
      refine SX.VC_df (w8 (byteAt s2.f.toNat 0)) (fun α => cast (by kernel_rfl) (w_byte s2.f.toNat 0)) (by kernel_rfl) ?_
      refine SX.VC_df (.int .u64 ((s2.f.toNat / 2 ^ 8 : Nat) : Int)) (fun α => cast (by kernel_rfl) (u_shr s2.f.toNat 8 (by omega))) (by kernel_rfl) ?_
      refine SX.VC_df (w8 (byteAt s2.f.toNat 8)) (fun α => cast (by kernel_rfl) (w_byte s2.f.toNat 8)) (by kernel_rfl) ?_
      refine SX.VC_df (.int .u64 ((s2.f.toNat / 2 ^ 16 : Nat) : Int)) (fun α => cast (by kernel_rfl) (u_shr s2.f.toNat 16 (by omega))) (by kernel_rfl) ?_
      refine SX.VC_df (w8 (byteAt s2.f.toNat 16)) (fun α => cast (by kernel_rfl) (w_byte s2.f.toNat 16)) (by kernel_rfl) ?_
      refine SX.VC_df (.int .u64 ((s2.f.toNat / 2 ^ 24 : Nat) : Int)) (fun α => cast (by kernel_rfl) (u_shr s2.f.toNat 24 (by omega))) (by kernel_rfl) ?_
      refine SX.VC_df (w8 (byteAt s2.f.toNat 24)) (fun α => cast (by kernel_rfl) (w_byte s2.f.toNat 24)) (by kernel_rfl) ?_
      refine SX.VC_df (.int .u64 (s2.g.toNat : Int)) (fun α => cast (by kernel_rfl) (u_conv32 s2.g)) (by kernel_rfl) ?_
      refine SX.VC_df (.int .u64 ((s2.g.toNat / 2 ^ 0 : Nat) : Int)) (fun α => cast (by kernel_rfl) (u_shr s2.g.toNat 0 (by omega))) (by kernel_rfl) ?_
      refine SX.VC_df (w8 (byteAt s2.g.toNat 0)) (fun α => cast (by kernel_rfl) (w_byte s2.g.toNat 0)) (by kernel_rfl) ?_
      refine SX.VC_df (.int .u64 ((s2.g.toNat / 2 ^ 8 : Nat) : Int)) (fun α => cast (by kernel_rfl) (u_shr s2.g.toNat 8 (by omega))) (by kernel_rfl) ?_
      refine SX.VC_df (w8 (byteAt s2.g.toNat 8)) (fun α => cast (by kernel_rfl) (w_byte s2.g.toNat 8)) (by kernel_rfl) ?_
      refine SX.VC_df (.int .u64 ((s2.g.toNat / 2 ^ 16 : Nat) : Int)) (fun α => cast (by kernel_rfl) (u_shr s2.g.toNat 16 (by omega))) (by kernel_rfl) ?_
      refine SX.VC_df (w8 (byteAt s2.g.toNat 16)) (fun α => cast (by kernel_rfl) (w_byte s2.g.toNat 16)) (by kernel_rfl) ?_
      refine SX.VC_df (.int .u64 ((s2.g.toNat / 2 ^ 24 : Nat) : Int)) (fun α => cast (by kernel_rfl) (u_shr s2.g.toNat 24 (by omega))) (by kernel_rfl) ?_
      refine SX.VC_df (w8 (byteAt s2.g.toNat 24)) (fun α => cast (by kernel_rfl) (w_byte s2.g.toNat 24)) (by kernel_rfl) ?_
      refine SX.VC_df (.int .u64 (s2.h.toNat : Int)) (fun α => cast (by kernel_rfl) (u_conv32 s2.h)) (by kernel_rfl) ?_
      refine SX.VC_df (.int .u64 ((s2.h.toNat / 2 ^ 0 : Nat) : Int)) (fun α => cast (by kernel_rfl) (u_shr s2.h.toNat 0 (by omega))) (by kernel_rfl) ?_
      refine SX.VC_df (w8 (byteAt s2.h.toNat 0)) (fun α => cast (by kernel_rfl) (w_byte s2.h.toNat 0)) (by kernel_rfl) ?_
      refine SX.VC_df (.int .u64 ((s2.h.toNat / 2 ^ 8 : Nat) : Int)) (fun α => cast (by kernel_rfl) (u_shr s2.h.toNat 8 (by omega))) (by kernel_rfl) ?_
      refine SX.VC_df (w8 (byteAt s2.h.toNat 8)) (fun α => cast (by kernel_rfl) (w_byte s2.h.toNat 8)) (by kernel_rfl) ?_
      refine SX.VC_df (.int .u64 ((s2.h.toNat / 2 ^ 16 : Nat) : Int)) (fun α => cast (by kernel_rfl) (u_shr s2.h.toNat 16 (by omega))) (by kernel_rfl) ?_
      refine SX.VC_df (w8 (byteAt s2.h.toNat 16)) (fun α => cast (by kernel_rfl) (w_byte s2.h.toNat 16)) (by kernel_rfl) ?_
      refine SX.VC_df (.int .u64 ((s2.h.toNat / 2 ^ 24 : Nat) : Int)) (fun α => cast (by kernel_rfl) (u_shr s2.h.toNat 24 (by omega))) (by kernel_rfl) ?_
      refine SX.VC_df (w8 (byteAt s2.h.toNat 24)) (fun α => cast (by kernel_rfl) (w_byte s2.h.toNat 24)) (by kernel_rfl) ?_
      exact SX.VC_ret fun α W _ _ hS => SX.ret_of (x := .agg ((outS s2).flatMap c8).toArray) hS (by kernel_rfl) (by unfold sumE endS; rw [e1, e2, hln, if_neg h55, hs2])
end Go.Proofs.YtockbjpldlopiaaDoor
