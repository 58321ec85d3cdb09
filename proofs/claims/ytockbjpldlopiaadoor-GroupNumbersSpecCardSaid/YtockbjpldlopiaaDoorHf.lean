/-
  law10's cards: the walk of absorb.
-/
import Derived.Test.YtockbjpldlopiaaDoorHe
namespace Go.Proofs.YtockbjpldlopiaaDoor
set_option linter.unusedSimpArgs false
set_option linter.unusedVariables false
open Go Go.RowKit
set_option maxRecDepth 100000 in
set_option maxHeartbeats 4000000 in
theorem absorb_any (C : SX.Cx) (hP : C.P = Tryd.prog) (hnum : C.K (.slice (some ⟨1, 0, none⟩) 64 64) 1 (numbersK.flatMap c32)) (s : S8) (l : List W8) (hl : l.length = 64) (u : Value) : SX.PCall C 24 [⟨u, 1, l.flatMap c8⟩] s.cells 45 (.agg (absorbE s l).cells.toArray) := by
  intro w b hrd hK hb
  rw [hP]
  have hrd' : ∀ W', Same [b] w W' → SX.Arg.rd W' ⟨u, 1, l.flatMap c8⟩ := fun W' h => hrd _ (by simp) W' h
  obtain ⟨A, n, c, rfl, hr, hc, hn⟩ := byte_arg (hrd' w (.refl _ _))
  obtain rfl : n = 64 := by omega
  refine SX.calls_of_runW (C := cxA (KA A c l) (fun _ _ _ => False)) (G := ⟨fun _ => false, [⟨24, 7, ((.s 6, .one) :: (List.range 64).map fun j => (.c 1 j, .one))⟩, ⟨24, 13, ((.s 69, .one) :: (List.range 8).map fun j => (.c 67 j, .one))⟩], 1, 100⟩) (args := args_absorb) (sh := (List.replicate 8 .one ++ [.any])) (ρ := [w32 s.a, w32 s.b, w32 s.c, w32 s.d, w32 s.e, w32 s.f, w32 s.g, w32 s.h, .slice A 64 c]) (bs := [b]) (bl := bl_absorb) 100000 tree_absorb (cxA_ok _ _) Tryd.func24 rfl (cast (by kernel_rfl) (run_absorb (KA A c l) (fun _ _ _ => False))) (by kernel_rfl) (by kernel_rfl) (by kernel_rfl) ?_ (by simp) rfl ?_ (by decide) ?_
  · rintro W hW v z xs (h | ⟨rfl, rfl, rfl⟩)
    · obtain ⟨A', n', c', h1, h2, h3, h4⟩ := byte_arg (hrd' W hW)
      cases h1
      exact SX.SubK.rd h2 h
    · exact hK _ _ _ hnum W hW
  · intro i b0 B h2 h3
    match i, h2, h3 with
    | 0, h2, h3 => cases h2; cases h3; exact cast (by kernel_rfl) hb
    | i + 1, h2, _ => simp at h2
  have hA := SX.rd_some hr
  have fin : ∀ (α : Nat → SX.AV) (W : World) (hp : List (Option SX.Blk)) (cs : List SX.V) (ρ : List Value) (os : List Ow) (ps : List (World → Prop)), hp[0]? = some (some ⟨cs, 45, .cells⟩) → SX.denL ρ α cs = (absorbE s l).cells → SX.Fms ρ α [[some (.p 0 0)]] [⟨([b].map fun b => Value.pointer (some ⟨b, 0, none⟩)).toArray, [], none⟩] → St ⟨w, [b], SX.Af (cxA (KA A c l) (fun _ _ _ => False)), SX.Bf (cxA (KA A c l) (fun _ _ _ => False))⟩ (SX.chs ρ α 0 hp) os ps W →
      Ending.returned (.tuple #[]) = .returned (.tuple #[]) ∧ W.os = w.os ∧ W.tape = w.tape ∧ W.output = w.output ∧ Same [b] w W ∧ W.heap[b]? = some (.cells (SX.cellsV (.agg (absorbE s l).cells.toArray)).toArray 45 (0, 0)) := by
    intro α W hp cs ρ os ps hhp hcs hF hS
    have e0 : b = (α 0).b := by
      have := hF.1.2 0 (.p 0 0) rfl
      simpa [SX.V.den] using this
    have g0 := hS.at_ (k := (α 0).b) (c := (absorbE s l).cells.toArray) (t := 45) (SX.chs_mem (k := 0) (n := 0) (b := ⟨cs, 45, .cells⟩) hhp (by simp only [SX.Blk.ch, hcs]))
    refine ⟨rfl, hS.old.os, hS.old.tape, hS.old.output, ⟨hS.old.size, fun b' hb' hm => hS.old.block b' hb' hm⟩, ?_⟩
    rw [e0, cellsV_agg]
    exact g0
  unfold tree_absorb
  refine SX.VC_df (SX.subS A 1 0 64 c) (fun α => SX.slc_lo (n := 64) (k := 0) (by kernel_rfl) (by kernel_rfl) (by omega)) (by kernel_rfl) ?_
  refine SX.VC_df (w32 (wordAt (l.drop 0) 0)) (fun α => ⟨[⟨SX.subS A 1 0 64 c, 1, (l.drop 0).flatMap c8⟩], ⟨by kernel_rfl, rfl, cast (by kernel_rfl) (KA_part A c l hl hc 0 (by omega)), trivial⟩, .inr (.inr ⟨rfl, _, _, rfl, by rw [List.length_drop]; omega, by rw [List.length_drop]; omega, rfl⟩), SX.noAli rfl⟩) (by kernel_rfl) ?_
  refine SX.VC_df (SX.subS A 1 4 64 c) (fun α => SX.slc_lo (n := 64) (k := 4) (by kernel_rfl) (by kernel_rfl) (by omega)) (by kernel_rfl) ?_
  refine SX.VC_df (w32 (wordAt (l.drop 4) 0)) (fun α => ⟨[⟨SX.subS A 1 4 64 c, 1, (l.drop 4).flatMap c8⟩], ⟨by kernel_rfl, rfl, cast (by kernel_rfl) (KA_part A c l hl hc 4 (by omega)), trivial⟩, .inr (.inr ⟨rfl, _, _, rfl, by rw [List.length_drop]; omega, by rw [List.length_drop]; omega, rfl⟩), SX.noAli rfl⟩) (by kernel_rfl) ?_
  refine SX.VC_df (SX.subS A 1 8 64 c) (fun α => SX.slc_lo (n := 64) (k := 8) (by kernel_rfl) (by kernel_rfl) (by omega)) (by kernel_rfl) ?_
  refine SX.VC_df (w32 (wordAt (l.drop 8) 0)) (fun α => ⟨[⟨SX.subS A 1 8 64 c, 1, (l.drop 8).flatMap c8⟩], ⟨by kernel_rfl, rfl, cast (by kernel_rfl) (KA_part A c l hl hc 8 (by omega)), trivial⟩, .inr (.inr ⟨rfl, _, _, rfl, by rw [List.length_drop]; omega, by rw [List.length_drop]; omega, rfl⟩), SX.noAli rfl⟩) (by kernel_rfl) ?_
  refine SX.VC_df (SX.subS A 1 12 64 c) (fun α => SX.slc_lo (n := 64) (k := 12) (by kernel_rfl) (by kernel_rfl) (by omega)) (by kernel_rfl) ?_
  refine SX.VC_df (w32 (wordAt (l.drop 12) 0)) (fun α => ⟨[⟨SX.subS A 1 12 64 c, 1, (l.drop 12).flatMap c8⟩], ⟨by kernel_rfl, rfl, cast (by kernel_rfl) (KA_part A c l hl hc 12 (by omega)), trivial⟩, .inr (.inr ⟨rfl, _, _, rfl, by rw [List.length_drop]; omega, by rw [List.length_drop]; omega, rfl⟩), SX.noAli rfl⟩) (by kernel_rfl) ?_
  refine SX.VC_df (SX.subS A 1 16 64 c) (fun α => SX.slc_lo (n := 64) (k := 16) (by kernel_rfl) (by kernel_rfl) (by omega)) (by kernel_rfl) ?_
  refine SX.VC_df (w32 (wordAt (l.drop 16) 0)) (fun α => ⟨[⟨SX.subS A 1 16 64 c, 1, (l.drop 16).flatMap c8⟩], ⟨by kernel_rfl, rfl, cast (by kernel_rfl) (KA_part A c l hl hc 16 (by omega)), trivial⟩, .inr (.inr ⟨rfl, _, _, rfl, by rw [List.length_drop]; omega, by rw [List.length_drop]; omega, rfl⟩), SX.noAli rfl⟩) (by kernel_rfl) ?_
  refine SX.VC_df (SX.subS A 1 20 64 c) (fun α => SX.slc_lo (n := 64) (k := 20) (by kernel_rfl) (by kernel_rfl) (by omega)) (by kernel_rfl) ?_
  refine SX.VC_df (w32 (wordAt (l.drop 20) 0)) (fun α => ⟨[⟨SX.subS A 1 20 64 c, 1, (l.drop 20).flatMap c8⟩], ⟨by kernel_rfl, rfl, cast (by kernel_rfl) (KA_part A c l hl hc 20 (by omega)), trivial⟩, .inr (.inr ⟨rfl, _, _, rfl, by rw [List.length_drop]; omega, by rw [List.length_drop]; omega, rfl⟩), SX.noAli rfl⟩) (by kernel_rfl) ?_
  refine SX.VC_df (SX.subS A 1 24 64 c) (fun α => SX.slc_lo (n := 64) (k := 24) (by kernel_rfl) (by kernel_rfl) (by omega)) (by kernel_rfl) ?_
  refine SX.VC_df (w32 (wordAt (l.drop 24) 0)) (fun α => ⟨[⟨SX.subS A 1 24 64 c, 1, (l.drop 24).flatMap c8⟩], ⟨by kernel_rfl, rfl, cast (by kernel_rfl) (KA_part A c l hl hc 24 (by omega)), trivial⟩, .inr (.inr ⟨rfl, _, _, rfl, by rw [List.length_drop]; omega, by rw [List.length_drop]; omega, rfl⟩), SX.noAli rfl⟩) (by kernel_rfl) ?_
  refine SX.VC_df (SX.subS A 1 28 64 c) (fun α => SX.slc_lo (n := 64) (k := 28) (by kernel_rfl) (by kernel_rfl) (by omega)) (by kernel_rfl) ?_
  refine SX.VC_df (w32 (wordAt (l.drop 28) 0)) (fun α => ⟨[⟨SX.subS A 1 28 64 c, 1, (l.drop 28).flatMap c8⟩], ⟨by kernel_rfl, rfl, cast (by kernel_rfl) (KA_part A c l hl hc 28 (by omega)), trivial⟩, .inr (.inr ⟨rfl, _, _, rfl, by rw [List.length_drop]; omega, by rw [List.length_drop]; omega, rfl⟩), SX.noAli rfl⟩) (by kernel_rfl) ?_
  refine SX.VC_df (SX.subS A 1 32 64 c) (fun α => SX.slc_lo (n := 64) (k := 32) (by kernel_rfl) (by kernel_rfl) (by omega)) (by kernel_rfl) ?_
  refine SX.VC_df (w32 (wordAt (l.drop 32) 0)) (fun α => ⟨[⟨SX.subS A 1 32 64 c, 1, (l.drop 32).flatMap c8⟩], ⟨by kernel_rfl, rfl, cast (by kernel_rfl) (KA_part A c l hl hc 32 (by omega)), trivial⟩, .inr (.inr ⟨rfl, _, _, rfl, by rw [List.length_drop]; omega, by rw [List.length_drop]; omega, rfl⟩), SX.noAli rfl⟩) (by kernel_rfl) ?_
  refine SX.VC_df (SX.subS A 1 36 64 c) (fun α => SX.slc_lo (n := 64) (k := 36) (by kernel_rfl) (by kernel_rfl) (by omega)) (by kernel_rfl) ?_
  refine SX.VC_df (w32 (wordAt (l.drop 36) 0)) (fun α => ⟨[⟨SX.subS A 1 36 64 c, 1, (l.drop 36).flatMap c8⟩], ⟨by kernel_rfl, rfl, cast (by kernel_rfl) (KA_part A c l hl hc 36 (by omega)), trivial⟩, .inr (.inr ⟨rfl, _, _, rfl, by rw [List.length_drop]; omega, by rw [List.length_drop]; omega, rfl⟩), SX.noAli rfl⟩) (by kernel_rfl) ?_
  refine SX.VC_df (SX.subS A 1 40 64 c) (fun α => SX.slc_lo (n := 64) (k := 40) (by kernel_rfl) (by kernel_rfl) (by omega)) (by kernel_rfl) ?_
  refine SX.VC_df (w32 (wordAt (l.drop 40) 0)) (fun α => ⟨[⟨SX.subS A 1 40 64 c, 1, (l.drop 40).flatMap c8⟩], ⟨by kernel_rfl, rfl, cast (by kernel_rfl) (KA_part A c l hl hc 40 (by omega)), trivial⟩, .inr (.inr ⟨rfl, _, _, rfl, by rw [List.length_drop]; omega, by rw [List.length_drop]; omega, rfl⟩), SX.noAli rfl⟩) (by kernel_rfl) ?_
  refine SX.VC_df (SX.subS A 1 44 64 c) (fun α => SX.slc_lo (n := 64) (k := 44) (by kernel_rfl) (by kernel_rfl) (by omega)) (by kernel_rfl) ?_
  refine SX.VC_df (w32 (wordAt (l.drop 44) 0)) (fun α => ⟨[⟨SX.subS A 1 44 64 c, 1, (l.drop 44).flatMap c8⟩], ⟨by kernel_rfl, rfl, cast (by kernel_rfl) (KA_part A c l hl hc 44 (by omega)), trivial⟩, .inr (.inr ⟨rfl, _, _, rfl, by rw [List.length_drop]; omega, by rw [List.length_drop]; omega, rfl⟩), SX.noAli rfl⟩) (by kernel_rfl) ?_
  refine SX.VC_df (SX.subS A 1 48 64 c) (fun α => SX.slc_lo (n := 64) (k := 48) (by kernel_rfl) (by kernel_rfl) (by omega)) (by kernel_rfl) ?_
  refine SX.VC_df (w32 (wordAt (l.drop 48) 0)) (fun α => ⟨[⟨SX.subS A 1 48 64 c, 1, (l.drop 48).flatMap c8⟩], ⟨by kernel_rfl, rfl, cast (by kernel_rfl) (KA_part A c l hl hc 48 (by omega)), trivial⟩, .inr (.inr ⟨rfl, _, _, rfl, by rw [List.length_drop]; omega, by rw [List.length_drop]; omega, rfl⟩), SX.noAli rfl⟩) (by kernel_rfl) ?_
  refine SX.VC_df (SX.subS A 1 52 64 c) (fun α => SX.slc_lo (n := 64) (k := 52) (by kernel_rfl) (by kernel_rfl) (by omega)) (by kernel_rfl) ?_
  refine SX.VC_df (w32 (wordAt (l.drop 52) 0)) (fun α => ⟨[⟨SX.subS A 1 52 64 c, 1, (l.drop 52).flatMap c8⟩], ⟨by kernel_rfl, rfl, cast (by kernel_rfl) (KA_part A c l hl hc 52 (by omega)), trivial⟩, .inr (.inr ⟨rfl, _, _, rfl, by rw [List.length_drop]; omega, by rw [List.length_drop]; omega, rfl⟩), SX.noAli rfl⟩) (by kernel_rfl) ?_
  refine SX.VC_df (SX.subS A 1 56 64 c) (fun α => SX.slc_lo (n := 64) (k := 56) (by kernel_rfl) (by kernel_rfl) (by omega)) (by kernel_rfl) ?_
  refine SX.VC_df (w32 (wordAt (l.drop 56) 0)) (fun α => ⟨[⟨SX.subS A 1 56 64 c, 1, (l.drop 56).flatMap c8⟩], ⟨by kernel_rfl, rfl, cast (by kernel_rfl) (KA_part A c l hl hc 56 (by omega)), trivial⟩, .inr (.inr ⟨rfl, _, _, rfl, by rw [List.length_drop]; omega, by rw [List.length_drop]; omega, rfl⟩), SX.noAli rfl⟩) (by kernel_rfl) ?_
  refine SX.VC_df (SX.subS A 1 60 64 c) (fun α => SX.slc_lo (n := 64) (k := 60) (by kernel_rfl) (by kernel_rfl) (by omega)) (by kernel_rfl) ?_
  refine SX.VC_df (w32 (wordAt (l.drop 60) 0)) (fun α => ⟨[⟨SX.subS A 1 60 64 c, 1, (l.drop 60).flatMap c8⟩], ⟨by kernel_rfl, rfl, cast (by kernel_rfl) (KA_part A c l hl hc 60 (by omega)), trivial⟩, .inr (.inr ⟨rfl, _, _, rfl, by rw [List.length_drop]; omega, by rw [List.length_drop]; omega, rfl⟩), SX.noAli rfl⟩) (by kernel_rfl) ?_
  have hw0 : ([wordAt (l.drop 0) 0, wordAt (l.drop 4) 0, wordAt (l.drop 8) 0, wordAt (l.drop 12) 0, wordAt (l.drop 16) 0, wordAt (l.drop 20) 0, wordAt (l.drop 24) 0, wordAt (l.drop 28) 0, wordAt (l.drop 32) 0, wordAt (l.drop 36) 0, wordAt (l.drop 40) 0, wordAt (l.drop 44) 0, wordAt (l.drop 48) 0, wordAt (l.drop 52) 0, wordAt (l.drop 56) 0, wordAt (l.drop 60) 0, 0, 0, 0, 0, 0, 0, 0, 0, 0, 0, 0, 0, 0, 0, 0, 0, 0, 0, 0, 0, 0, 0, 0, 0, 0, 0, 0, 0, 0, 0, 0, 0, 0, 0, 0, 0, 0, 0, 0, 0, 0, 0, 0, 0, 0, 0, 0, 0] : List W32) = ws0 l := by
    have := fun t => wordAt_drop l t
    rw [show ws0 l = [wordAt l 0, wordAt l 1, wordAt l 2, wordAt l 3, wordAt l 4, wordAt l 5, wordAt l 6, wordAt l 7, wordAt l 8, wordAt l 9, wordAt l 10, wordAt l 11, wordAt l 12, wordAt l 13, wordAt l 14, wordAt l 15, 0, 0, 0, 0, 0, 0, 0, 0, 0, 0, 0, 0, 0, 0, 0, 0, 0, 0, 0, 0, 0, 0, 0, 0, 0, 0, 0, 0, 0, 0, 0, 0, 0, 0, 0, 0, 0, 0, 0, 0, 0, 0, 0, 0, 0, 0, 0, 0] from rfl]
    rw [← wordAt_drop l 0, ← wordAt_drop l 1, ← wordAt_drop l 2, ← wordAt_drop l 3, ← wordAt_drop l 4, ← wordAt_drop l 5, ← wordAt_drop l 6, ← wordAt_drop l 7, ← wordAt_drop l 8, ← wordAt_drop l 9, ← wordAt_drop l 10, ← wordAt_drop l 11, ← wordAt_drop l 12, ← wordAt_drop l 13, ← wordAt_drop l 14, ← wordAt_drop l 15]
  refine SX.VC_loop (fun xs => ∃ k : Nat, xs = .int .i64 ((16 + k : Nat) : Int) :: (expd l k).map w32 ∧ k ≤ 48) (fun xs => match xs with | .int _ i :: _ => 64 - i.toNat | _ => 0) (fun α => ⟨0, Eq.trans (b := .int .i64 16 :: ([wordAt (l.drop 0) 0, wordAt (l.drop 4) 0, wordAt (l.drop 8) 0, wordAt (l.drop 12) 0, wordAt (l.drop 16) 0, wordAt (l.drop 20) 0, wordAt (l.drop 24) 0, wordAt (l.drop 28) 0, wordAt (l.drop 32) 0, wordAt (l.drop 36) 0, wordAt (l.drop 40) 0, wordAt (l.drop 44) 0, wordAt (l.drop 48) 0, wordAt (l.drop 52) 0, wordAt (l.drop 56) 0, wordAt (l.drop 60) 0, 0, 0, 0, 0, 0, 0, 0, 0, 0, 0, 0, 0, 0, 0, 0, 0, 0, 0, 0, 0, 0, 0, 0, 0, 0, 0, 0, 0, 0, 0, 0, 0, 0, 0, 0, 0, 0, 0, 0, 0, 0, 0, 0, 0, 0, 0, 0, 0] : List W32).map w32) (by kernel_rfl) (by rw [hw0]; rfl), by omega⟩) ?_
  rintro xs - ⟨k, rfl, hk⟩
  obtain ⟨g, hu⟩ := list64 (expd l k) (expd_len l k)
  have hL := expd_len l k
  rw [hu]
  refine SX.VC_df (.bool (decide (((16 + k : Nat) : Int) < 64))) (by intro α; show _ = _; kernel_rfl) (by kernel_rfl) ?_
  refine SX.VC_br (decide (((16 + k : Nat) : Int) < 64)) (by kernel_rfl) (fun hlt => ?_) (fun hge => ?_)
  · have hk2 : k < 48 := by simp only [decide_eq_true_eq] at hlt; omega
    refine SX.VC_df (.int .i64 ((16 + k - 15 : Nat) : Int)) (fun α => cast (by kernel_rfl) (i_sub (a := 16 + k) (b := 15) (d := 16 + k - 15) (by omega) (by omega))) (by kernel_rfl) ?_
    refine SX.VC_df (.bool true) (fun α => SX.extBnd (A := some ⟨(α 1).b, 0, none⟩) (n := 64) (c := 64) (j := (16 + k - 15)) (fun _ => rfl) rfl (by kernel_rfl) (by omega)) (by kernel_rfl) ?_
    refine SX.VC_df (w32 ((expd l k).getD (16 + k - 15) 0)) (fun α => relemW (u := (expd l k)) (k := (16 + k - 15)) (by rw [hu]; kernel_rfl) (by kernel_rfl) (by rw [hL]; omega)) (by kernel_rfl) ?_
    refine SX.VC_df (.int .i64 ((16 + k - 2 : Nat) : Int)) (fun α => cast (by kernel_rfl) (i_sub (a := 16 + k) (b := 2) (d := 16 + k - 2) (by omega) (by omega))) (by kernel_rfl) ?_
    refine SX.VC_df (.bool true) (fun α => SX.extBnd (A := some ⟨(α 1).b, 0, none⟩) (n := 64) (c := 64) (j := (16 + k - 2)) (fun _ => rfl) rfl (by kernel_rfl) (by omega)) (by kernel_rfl) ?_
    refine SX.VC_df (w32 ((expd l k).getD (16 + k - 2) 0)) (fun α => relemW (u := (expd l k)) (k := (16 + k - 2)) (by rw [hu]; kernel_rfl) (by kernel_rfl) (by rw [hL]; omega)) (by kernel_rfl) ?_
    refine SX.VC_df (.int .i64 ((16 + k - 16 : Nat) : Int)) (fun α => cast (by kernel_rfl) (i_sub (a := 16 + k) (b := 16) (d := 16 + k - 16) (by omega) (by omega))) (by kernel_rfl) ?_
    refine SX.VC_df (.bool true) (fun α => SX.extBnd (A := some ⟨(α 1).b, 0, none⟩) (n := 64) (c := 64) (j := (16 + k - 16)) (fun _ => rfl) rfl (by kernel_rfl) (by omega)) (by kernel_rfl) ?_
    refine SX.VC_df (w32 ((expd l k).getD (16 + k - 16) 0)) (fun α => relemW (u := (expd l k)) (k := (16 + k - 16)) (by rw [hu]; kernel_rfl) (by kernel_rfl) (by rw [hL]; omega)) (by kernel_rfl) ?_
    refine SX.VC_df (w32 (rotL ((expd l k).getD (16 + k - 15) 0) (turnOf (-7)))) (fun α => ⟨[⟨w32 ((expd l k).getD (16 + k - 15) 0), 0, []⟩, ⟨.int .i64 (-7), 0, []⟩], ⟨by kernel_rfl, by kernel_rfl, by kernel_rfl, by kernel_rfl, trivial⟩, .inl ⟨rfl, ((expd l k).getD (16 + k - 15) 0), -7, by decide, rfl, rfl⟩, SX.noAli rfl⟩) (by kernel_rfl) ?_
    refine SX.VC_df (w32 (rotL ((expd l k).getD (16 + k - 15) 0) (turnOf (-18)))) (fun α => ⟨[⟨w32 ((expd l k).getD (16 + k - 15) 0), 0, []⟩, ⟨.int .i64 (-18), 0, []⟩], ⟨by kernel_rfl, by kernel_rfl, by kernel_rfl, by kernel_rfl, trivial⟩, .inl ⟨rfl, ((expd l k).getD (16 + k - 15) 0), -18, by decide, rfl, rfl⟩, SX.noAli rfl⟩) (by kernel_rfl) ?_
    refine SX.VC_df (w32 ((rotL ((expd l k).getD (16 + k - 15) 0) (turnOf (-7))) ^^^ (rotL ((expd l k).getD (16 + k - 15) 0) (turnOf (-18))))) (fun α => cast (by kernel_rfl) (w_xor (rotL ((expd l k).getD (16 + k - 15) 0) (turnOf (-7))) (rotL ((expd l k).getD (16 + k - 15) 0) (turnOf (-18))))) (by kernel_rfl) ?_
    refine SX.VC_df (w32 (((expd l k).getD (16 + k - 15) 0) >>> 3)) (fun α => cast (by kernel_rfl) (w_shr ((expd l k).getD (16 + k - 15) 0) .u64 3 (by omega))) (by kernel_rfl) ?_
    refine SX.VC_df (w32 (((rotL ((expd l k).getD (16 + k - 15) 0) (turnOf (-7))) ^^^ (rotL ((expd l k).getD (16 + k - 15) 0) (turnOf (-18)))) ^^^ (((expd l k).getD (16 + k - 15) 0) >>> 3))) (fun α => cast (by kernel_rfl) (w_xor ((rotL ((expd l k).getD (16 + k - 15) 0) (turnOf (-7))) ^^^ (rotL ((expd l k).getD (16 + k - 15) 0) (turnOf (-18)))) (((expd l k).getD (16 + k - 15) 0) >>> 3))) (by kernel_rfl) ?_
    refine SX.VC_df (w32 (((expd l k).getD (16 + k - 16) 0) + (((rotL ((expd l k).getD (16 + k - 15) 0) (turnOf (-7))) ^^^ (rotL ((expd l k).getD (16 + k - 15) 0) (turnOf (-18)))) ^^^ (((expd l k).getD (16 + k - 15) 0) >>> 3)))) (fun α => cast (by kernel_rfl) (w_add ((expd l k).getD (16 + k - 16) 0) (((rotL ((expd l k).getD (16 + k - 15) 0) (turnOf (-7))) ^^^ (rotL ((expd l k).getD (16 + k - 15) 0) (turnOf (-18)))) ^^^ (((expd l k).getD (16 + k - 15) 0) >>> 3)))) (by kernel_rfl) ?_
    refine SX.VC_df (.int .i64 ((16 + k - 7 : Nat) : Int)) (fun α => cast (by kernel_rfl) (i_sub (a := 16 + k) (b := 7) (d := 16 + k - 7) (by omega) (by omega))) (by kernel_rfl) ?_
    refine SX.VC_df (.bool true) (fun α => SX.extBnd (A := some ⟨(α 1).b, 0, none⟩) (n := 64) (c := 64) (j := (16 + k - 7)) (fun _ => rfl) rfl (by kernel_rfl) (by omega)) (by kernel_rfl) ?_
    refine SX.VC_df (w32 ((expd l k).getD (16 + k - 7) 0)) (fun α => relemW (u := (expd l k)) (k := (16 + k - 7)) (by rw [hu]; kernel_rfl) (by kernel_rfl) (by rw [hL]; omega)) (by kernel_rfl) ?_
    refine SX.VC_df (w32 ((((expd l k).getD (16 + k - 16) 0) + (((rotL ((expd l k).getD (16 + k - 15) 0) (turnOf (-7))) ^^^ (rotL ((expd l k).getD (16 + k - 15) 0) (turnOf (-18)))) ^^^ (((expd l k).getD (16 + k - 15) 0) >>> 3))) + ((expd l k).getD (16 + k - 7) 0))) (fun α => cast (by kernel_rfl) (w_add (((expd l k).getD (16 + k - 16) 0) + (((rotL ((expd l k).getD (16 + k - 15) 0) (turnOf (-7))) ^^^ (rotL ((expd l k).getD (16 + k - 15) 0) (turnOf (-18)))) ^^^ (((expd l k).getD (16 + k - 15) 0) >>> 3))) ((expd l k).getD (16 + k - 7) 0))) (by kernel_rfl) ?_
    refine SX.VC_df (w32 (rotL ((expd l k).getD (16 + k - 2) 0) (turnOf (-17)))) (fun α => ⟨[⟨w32 ((expd l k).getD (16 + k - 2) 0), 0, []⟩, ⟨.int .i64 (-17), 0, []⟩], ⟨by kernel_rfl, by kernel_rfl, by kernel_rfl, by kernel_rfl, trivial⟩, .inl ⟨rfl, ((expd l k).getD (16 + k - 2) 0), -17, by decide, rfl, rfl⟩, SX.noAli rfl⟩) (by kernel_rfl) ?_
    refine SX.VC_df (w32 (rotL ((expd l k).getD (16 + k - 2) 0) (turnOf (-19)))) (fun α => ⟨[⟨w32 ((expd l k).getD (16 + k - 2) 0), 0, []⟩, ⟨.int .i64 (-19), 0, []⟩], ⟨by kernel_rfl, by kernel_rfl, by kernel_rfl, by kernel_rfl, trivial⟩, .inl ⟨rfl, ((expd l k).getD (16 + k - 2) 0), -19, by decide, rfl, rfl⟩, SX.noAli rfl⟩) (by kernel_rfl) ?_
    refine SX.VC_df (w32 ((rotL ((expd l k).getD (16 + k - 2) 0) (turnOf (-17))) ^^^ (rotL ((expd l k).getD (16 + k - 2) 0) (turnOf (-19))))) (fun α => cast (by kernel_rfl) (w_xor (rotL ((expd l k).getD (16 + k - 2) 0) (turnOf (-17))) (rotL ((expd l k).getD (16 + k - 2) 0) (turnOf (-19))))) (by kernel_rfl) ?_
    refine SX.VC_df (w32 (((expd l k).getD (16 + k - 2) 0) >>> 10)) (fun α => cast (by kernel_rfl) (w_shr ((expd l k).getD (16 + k - 2) 0) .u64 10 (by omega))) (by kernel_rfl) ?_
    refine SX.VC_df (w32 (((rotL ((expd l k).getD (16 + k - 2) 0) (turnOf (-17))) ^^^ (rotL ((expd l k).getD (16 + k - 2) 0) (turnOf (-19)))) ^^^ (((expd l k).getD (16 + k - 2) 0) >>> 10))) (fun α => cast (by kernel_rfl) (w_xor ((rotL ((expd l k).getD (16 + k - 2) 0) (turnOf (-17))) ^^^ (rotL ((expd l k).getD (16 + k - 2) 0) (turnOf (-19)))) (((expd l k).getD (16 + k - 2) 0) >>> 10))) (by kernel_rfl) ?_
    refine SX.VC_df (w32 (((((expd l k).getD (16 + k - 16) 0) + (((rotL ((expd l k).getD (16 + k - 15) 0) (turnOf (-7))) ^^^ (rotL ((expd l k).getD (16 + k - 15) 0) (turnOf (-18)))) ^^^ (((expd l k).getD (16 + k - 15) 0) >>> 3))) + ((expd l k).getD (16 + k - 7) 0)) + (((rotL ((expd l k).getD (16 + k - 2) 0) (turnOf (-17))) ^^^ (rotL ((expd l k).getD (16 + k - 2) 0) (turnOf (-19)))) ^^^ (((expd l k).getD (16 + k - 2) 0) >>> 10)))) (fun α => cast (by kernel_rfl) (w_add ((((expd l k).getD (16 + k - 16) 0) + (((rotL ((expd l k).getD (16 + k - 15) 0) (turnOf (-7))) ^^^ (rotL ((expd l k).getD (16 + k - 15) 0) (turnOf (-18)))) ^^^ (((expd l k).getD (16 + k - 15) 0) >>> 3))) + ((expd l k).getD (16 + k - 7) 0)) (((rotL ((expd l k).getD (16 + k - 2) 0) (turnOf (-17))) ^^^ (rotL ((expd l k).getD (16 + k - 2) 0) (turnOf (-19)))) ^^^ (((expd l k).getD (16 + k - 2) 0) >>> 10)))) (by kernel_rfl) ?_
    refine SX.VC_df (.bool true) (fun α => SX.extBnd (A := some ⟨(α 1).b, 0, none⟩) (n := 64) (c := 64) (j := (16 + k)) (fun _ => rfl) rfl (by kernel_rfl) (by omega)) (by kernel_rfl) ?_
    refine SX.VC_df (.agg (((expd l k).set (16 + k) (nextW (expd l k) (16 + k))).map w32).toArray) (fun α => rsetW (u := (expd l k)) (k := 16 + k) (y := nextW (expd l k) (16 + k)) (by rw [hu]; kernel_rfl) (by kernel_rfl) (by kernel_rfl) (by rw [hL]; omega)) (fitW _ (by simp [expd_len])) ?_
    refine SX.VC_df (.int .i64 ((16 + (k + 1) : Nat) : Int)) (fun α => cast (by kernel_rfl) (i_add (a := 16 + k) (b := 1) (d := 16 + (k + 1)) (by omega) (by omega))) (by kernel_rfl) ?_
    exact VC_again2 rfl (fun α => ⟨k + 1, again_den (v0 := .x 134 []) (m := 133) (N := 64) (by kernel_rfl) (by kernel_rfl) (by kernel_rfl) (by simp [expd_len]), by omega⟩) (fun α => cast (by kernel_rfl) (show 64 - (16 + (k + 1)) < 64 - (16 + k) by omega))
  · obtain rfl : k = 48 := by simp only [decide_eq_false_iff_not] at hge; omega
    refine SX.VC_loop (fun xs => ∃ j : Nat, xs = .int .i64 (j : Int) :: (rnds (expd l 48) s j).cells ∧ j ≤ 64) (fun xs => match xs with | .int _ i :: _ => 64 - i.toNat | _ => 0) (fun α => ⟨0, by kernel_rfl, by omega⟩) ?_
    rintro xs - ⟨j, rfl, hj⟩
    generalize hv : rnds (expd l 48) s j = v
    refine SX.VC_df (.bool (decide ((j : Int) < 64))) (by intro α; show _ = _; kernel_rfl) (by kernel_rfl) ?_
    refine SX.VC_br (decide ((j : Int) < 64)) (by kernel_rfl) (fun hlt => ?_) (fun hge => ?_)
    · have hj2 : j < 64 := by simp only [decide_eq_true_eq] at hlt; omega
      obtain ⟨kn, hkn⟩ : ∃ z, numbersK[j]? = some z := ⟨_, List.getElem?_eq_getElem (show j < 64 from hj2)⟩
      have hkn2 : numbersK.getD j 0 = kn := by rw [List.getD_eq_getElem?_getD, hkn]; rfl
      refine SX.VC_df (w32 (sig v.e 6 11 25)) (fun α => ⟨[⟨w32 v.e, 0, []⟩, ⟨.int .i64 6, 0, []⟩, ⟨.int .i64 11, 0, []⟩, ⟨.int .i64 25, 0, []⟩], ⟨by kernel_rfl, by kernel_rfl, by kernel_rfl, by kernel_rfl, by kernel_rfl, by kernel_rfl, by kernel_rfl, by kernel_rfl, trivial⟩, .inr (.inl ⟨rfl, v.e, 6, 11, 25, by decide, by decide, by decide, rfl, rfl⟩), SX.noAli rfl⟩) (by kernel_rfl) ?_
      refine SX.VC_df (w32 (v.h + (sig v.e 6 11 25))) (fun α => cast (by kernel_rfl) (w_add v.h (sig v.e 6 11 25))) (by kernel_rfl) ?_
      refine SX.VC_df (w32 (v.f ^^^ v.g)) (fun α => cast (by kernel_rfl) (w_xor v.f v.g)) (by kernel_rfl) ?_
      refine SX.VC_df (w32 (v.e &&& (v.f ^^^ v.g))) (fun α => cast (by kernel_rfl) (w_and v.e (v.f ^^^ v.g))) (by kernel_rfl) ?_
      refine SX.VC_df (w32 (v.g ^^^ (v.e &&& (v.f ^^^ v.g)))) (fun α => cast (by kernel_rfl) (w_xor v.g (v.e &&& (v.f ^^^ v.g)))) (by kernel_rfl) ?_
      refine SX.VC_df (w32 ((v.h + (sig v.e 6 11 25)) + (v.g ^^^ (v.e &&& (v.f ^^^ v.g))))) (fun α => cast (by kernel_rfl) (w_add (v.h + (sig v.e 6 11 25)) (v.g ^^^ (v.e &&& (v.f ^^^ v.g))))) (by kernel_rfl) ?_
      refine SX.VC_df (.bool true) (fun α => SX.extBnd (A := some ⟨1, 0, none⟩) (n := 64) (c := 64) (j := j) (fun _ => rfl) rfl (by kernel_rfl) (by omega)) (by kernel_rfl) ?_
      refine SX.VC_df (w32 kn) (fun α => SX.extElem (f := c32) (l := numbersK) (A := some ⟨1, 0, none⟩) (n := 64) (c := 64) (j := j) (z := kn) c32_len (fun _ => rfl) rfl (by kernel_rfl) (by omega) (.inr ⟨rfl, rfl, rfl⟩) hkn (by omega) rfl) (by kernel_rfl) ?_
      refine SX.VC_df (w32 (((v.h + (sig v.e 6 11 25)) + (v.g ^^^ (v.e &&& (v.f ^^^ v.g)))) + kn)) (fun α => cast (by kernel_rfl) (w_add ((v.h + (sig v.e 6 11 25)) + (v.g ^^^ (v.e &&& (v.f ^^^ v.g)))) kn)) (by kernel_rfl) ?_
      refine SX.VC_df (.bool true) (fun α => SX.extBnd (A := some ⟨(α 1).b, 0, none⟩) (n := 64) (c := 64) (j := j) (fun _ => rfl) rfl (by kernel_rfl) (by omega)) (by kernel_rfl) ?_
      refine SX.VC_df (w32 ((expd l 48).getD j 0)) (fun α => relemW (u := (expd l 48)) (k := j) (by rw [hu]; kernel_rfl) (by kernel_rfl) (by rw [hL]; omega)) (by kernel_rfl) ?_
      refine SX.VC_df (w32 ((((v.h + (sig v.e 6 11 25)) + (v.g ^^^ (v.e &&& (v.f ^^^ v.g)))) + kn) + ((expd l 48).getD j 0))) (fun α => cast (by kernel_rfl) (w_add (((v.h + (sig v.e 6 11 25)) + (v.g ^^^ (v.e &&& (v.f ^^^ v.g)))) + kn) ((expd l 48).getD j 0))) (by kernel_rfl) ?_
      refine SX.VC_df (w32 (sig v.a 2 13 22)) (fun α => ⟨[⟨w32 v.a, 0, []⟩, ⟨.int .i64 2, 0, []⟩, ⟨.int .i64 13, 0, []⟩, ⟨.int .i64 22, 0, []⟩], ⟨by kernel_rfl, by kernel_rfl, by kernel_rfl, by kernel_rfl, by kernel_rfl, by kernel_rfl, by kernel_rfl, by kernel_rfl, trivial⟩, .inr (.inl ⟨rfl, v.a, 2, 13, 22, by decide, by decide, by decide, rfl, rfl⟩), SX.noAli rfl⟩) (by kernel_rfl) ?_
      refine SX.VC_df (w32 (v.a &&& v.b)) (fun α => cast (by kernel_rfl) (w_and v.a v.b)) (by kernel_rfl) ?_
      refine SX.VC_df (w32 (v.a ||| v.b)) (fun α => cast (by kernel_rfl) (w_or v.a v.b)) (by kernel_rfl) ?_
      refine SX.VC_df (w32 (v.c &&& (v.a ||| v.b))) (fun α => cast (by kernel_rfl) (w_and v.c (v.a ||| v.b))) (by kernel_rfl) ?_
      refine SX.VC_df (w32 ((v.a &&& v.b) ||| (v.c &&& (v.a ||| v.b)))) (fun α => cast (by kernel_rfl) (w_or (v.a &&& v.b) (v.c &&& (v.a ||| v.b)))) (by kernel_rfl) ?_
      refine SX.VC_df (w32 ((sig v.a 2 13 22) + ((v.a &&& v.b) ||| (v.c &&& (v.a ||| v.b))))) (fun α => cast (by kernel_rfl) (w_add (sig v.a 2 13 22) ((v.a &&& v.b) ||| (v.c &&& (v.a ||| v.b))))) (by kernel_rfl) ?_
      refine SX.VC_df (w32 (v.d + ((((v.h + (sig v.e 6 11 25)) + (v.g ^^^ (v.e &&& (v.f ^^^ v.g)))) + kn) + ((expd l 48).getD j 0)))) (fun α => cast (by kernel_rfl) (w_add v.d ((((v.h + (sig v.e 6 11 25)) + (v.g ^^^ (v.e &&& (v.f ^^^ v.g)))) + kn) + ((expd l 48).getD j 0)))) (by kernel_rfl) ?_
      refine SX.VC_df (w32 (((((v.h + (sig v.e 6 11 25)) + (v.g ^^^ (v.e &&& (v.f ^^^ v.g)))) + kn) + ((expd l 48).getD j 0)) + ((sig v.a 2 13 22) + ((v.a &&& v.b) ||| (v.c &&& (v.a ||| v.b)))))) (fun α => cast (by kernel_rfl) (w_add ((((v.h + (sig v.e 6 11 25)) + (v.g ^^^ (v.e &&& (v.f ^^^ v.g)))) + kn) + ((expd l 48).getD j 0)) ((sig v.a 2 13 22) + ((v.a &&& v.b) ||| (v.c &&& (v.a ||| v.b)))))) (by kernel_rfl) ?_
      refine SX.VC_df (.int .i64 ((j + 1 : Nat) : Int)) (fun α => cast (by kernel_rfl) (i_add (a := j) (b := 1) (d := j + 1) rfl (by omega))) (by kernel_rfl) ?_
      exact VC_again2 rfl (fun α => ⟨j + 1, Eq.trans (b := .int .i64 ((j + 1 : Nat) : Int) :: (v.rnd kn ((expd l 48).getD j 0)).cells) (by kernel_rfl) (by rw [rnds_succ hv hkn2]), by omega⟩) (fun α => cast (by kernel_rfl) (show 64 - (j + 1) < 64 - j by omega))
    · obtain rfl : j = 64 := by simp only [decide_eq_false_iff_not] at hge; omega
      refine SX.VC_df (w32 (s.a + v.a)) (fun α => cast (by kernel_rfl) (w_add s.a v.a)) (by kernel_rfl) ?_
      refine SX.VC_df (w32 (s.b + v.b)) (fun α => cast (by kernel_rfl) (w_add s.b v.b)) (by kernel_rfl) ?_
      refine SX.VC_df (w32 (s.c + v.c)) (fun α => cast (by kernel_rfl) (w_add s.c v.c)) (by kernel_rfl) ?_
      refine SX.VC_df (w32 (s.d + v.d)) (fun α => cast (by kernel_rfl) (w_add s.d v.d)) (by kernel_rfl) ?_
      refine SX.VC_df (w32 (s.e + v.e)) (fun α => cast (by kernel_rfl) (w_add s.e v.e)) (by kernel_rfl) ?_
      refine SX.VC_df (w32 (s.f + v.f)) (fun α => cast (by kernel_rfl) (w_add s.f v.f)) (by kernel_rfl) ?_
      refine SX.VC_df (w32 (s.g + v.g)) (fun α => cast (by kernel_rfl) (w_add s.g v.g)) (by kernel_rfl) ?_
      refine SX.VC_df (w32 (s.h + v.h)) (fun α => cast (by kernel_rfl) (w_add s.h v.h)) (by kernel_rfl) ?_
      exact SX.VC_ret fun α W hF _ hS => fin α W _ _ _ _ _ rfl (Eq.trans (b := (⟨s.a + v.a, s.b + v.b, s.c + v.c, s.d + v.d, s.e + v.e, s.f + v.f, s.g + v.g, s.h + v.h⟩ : S8).cells) (by kernel_rfl) (by rw [absorbE_eq hv])) hF hS
end Go.Proofs.YtockbjpldlopiaaDoor
