/-
  law10's cards: the reference's hash: Sum, Tagged, Hash.
-/
import Derived.Test.YtockbjpldlopiaaDoorHj
import Derived.Test.YtockbjpldlopiaaDoorHp
namespace Go.Proofs.YtockbjpldlopiaaDoor
set_option linter.unusedSimpArgs false
set_option linter.unusedVariables false
open Go Go.RowKit
theorem slcx_mid {C : SX.Cx} {ρ : List Value} {α : Nat → SX.AV} {c i i' : SX.V} {l : List W8} {lo hi : Nat} (hc : SX.cellsV (c.den ρ α) = l.flatMap c8) (h1 : i.den ρ α = .int .i64 (lo : Int)) (h2 : i'.den ρ α = .int .i64 (hi : Int)) (hl : lo ≤ hi) (hh : hi ≤ l.length) : SX.Opq.rel C ρ α (.slcx 1 true true) [c, i, i'] (.agg (((l.drop lo).take (hi - lo)).flatMap c8).toArray) := by
  refine ⟨lo, hi, l.length, some (.int .i64 (lo : Int)), some (.int .i64 (hi : Int)), ?_, ?_, ?_⟩
  · simp [SX.denL, h1, h2, SX.optsV]
  · rw [hc, SX.flat_len c8_len]
    simp only [SX.boundsV, Nat.mul_one, Nat.div_one, Option.bind_some, SX.bndV]
    rw [if_pos (by omega)]
    simp only [Option.bind_some, Int.toNat_natCast]
    rw [if_pos (by omega)]
    rfl
  · rw [hc, ← SX.flat_take c8_len, ← SX.flat_drop c8_len]
theorem fitSl8 (l : List W8) : (SX.Sh.sl 1).fit (.agg (l.flatMap c8).toArray) = true := by
  simp only [SX.Sh.fit, Nat.mod_one, beq_self_eq_true, Bool.and_true, Bool.and_eq_true, List.all_eq_true]
  exact ⟨by decide, c8_one l⟩
theorem w_byte32 (x : W32) (k : Nat) : SX.convV .u8 (w32 (x >>> k)) = some (w8 (byteAt x.toNat k)) := by
  have := w_to8 (x >>> k).toNat .u32
  rw [BitVec.toNat_ushiftRight, Nat.shiftRight_eq_div_pow] at this
  unfold w32
  rw [BitVec.toNat_ushiftRight, Nat.shiftRight_eq_div_pow]
  exact this
set_option maxRecDepth 100000 in
set_option maxHeartbeats 4000000 in
theorem rsum_any (l : List W8) (hl : l.length < 2 ^ 45) (A : Option Addr) (n c : Nat) (w : World) (hr : Rd w 1 A n (l.flatMap c8)) (hc : n ≤ c) : Calls Tryd.prog 23 #[.slice A n c] w fun e w' => e = .returned (.agg ((sumE l).flatMap c8).toArray) ∧ Below w.heap.size w w' := by
  refine SX.calls_of_run (C := cxU (fun v z xs => v = .slice A n c ∧ z = 1 ∧ xs = l.flatMap c8) (fun _ _ _ => False)) (G := ⟨fun _ => false, [⟨23, 4, ([(.s 5, .one)] ++ (List.range 8).map fun j => (.c 9 j, .one))⟩, ⟨23, 4, ([(.s 5, .one)] ++ (List.range 8).map fun j => (.c 8 j, .one))⟩, ⟨23, 4, ([(.s 5, .one)] ++ (List.range 8).map fun j => (.c 7 j, .one))⟩, ⟨23, 4, ([(.s 5, .one)] ++ (List.range 8).map fun j => (.c 6 j, .one))⟩, ⟨23, 4, ([(.s 5, .one)] ++ (List.range 8).map fun j => (.c 5 j, .one))⟩, ⟨23, 4, ([(.s 5, .one)] ++ (List.range 8).map fun j => (.c 4 j, .one))⟩, ⟨23, 4, ([(.s 5, .one)] ++ (List.range 8).map fun j => (.c 3 j, .one))⟩, ⟨23, 4, ([(.s 5, .one)] ++ (List.range 8).map fun j => (.c 2 j, .one))⟩, ⟨23, 4, ([(.s 5, .one)] ++ (List.range 8).map fun j => (.c 1 j, .one))⟩], 0, 100⟩) (args := args_rsum) (sh := [.any]) (ρ := [.slice A n c]) 100000 tree_rsum (cxU_ok _ _) Tryd.func23 rfl (cast (by kernel_rfl) (run_rsum (fun v z xs => v = .slice A n c ∧ z = 1 ∧ xs = l.flatMap c8) (fun _ _ _ => False))) (by kernel_rfl) (by kernel_rfl) (by kernel_rfl) (fun W hW v z xs ⟨h1, h2, h3⟩ => by subst h1; subst h2; subst h3; exact ⟨hr.same0 hW, hc⟩) ?_
  have hsum := sumE_eq l
  have hp64 := padR_len l
  have hpl : (padR l).length < 2 ^ 46 := by unfold padR padN; simp only [List.length_append, List.length_replicate, List.length_cons, List.length_nil, show (be64 (8 * l.length)).length = 8 from rfl]; omega
  unfold tree_rsum
  refine SX.VC_df (.agg ((padR l).flatMap c8).toArray) (fun α => ⟨[⟨.slice A n c, 1, l.flatMap c8⟩], ⟨rfl, rfl, ⟨rfl, rfl, rfl⟩, trivial⟩, .inl ⟨rfl, _, l, hl, rfl, rfl⟩, SX.noAli rfl⟩) (fitSl8 _) ?_
  generalize hP : padR l = P at hsum hp64 hpl
  refine SX.VC_loop (fun xs => ∃ (k : Nat) (s : S8), xs = .int .i64 ((64 * k : Nat) : Int) :: s.cells ∧ 64 * k ≤ P.length ∧ (absAll s (P.drop (64 * k))).1 = (absAll startS P).1) (fun xs => match xs with | .int _ i :: _ => P.length - i.toNat | _ => 0) (fun α => ⟨0, startS, by kernel_rfl, by omega, rfl⟩) ?_
  rintro xs - ⟨k, s, rfl, hk, hI⟩
  refine SX.VC_df (.int .i64 (P.length : Int)) (fun α => row_len8 (SX.cat1 (j := 1) (by kernel_rfl))) (by kernel_rfl) ?_
  refine SX.VC_df (.bool (decide (64 * k < P.length))) (fun α => cast (by kernel_rfl) (lss_nat (64 * k) P.length)) (by kernel_rfl) ?_
  refine SX.VC_br (decide (64 * k < P.length)) (by kernel_rfl) (fun hlt => ?_) (fun hge => ?_)
  · have hlt : 64 * k < P.length := by simpa using hlt
    have h2 : 64 * k + 64 ≤ P.length := by omega
    obtain ⟨Q, hQ⟩ : ∃ Q, Q = (P.drop (64 * k)).take (64 * k + 64 - 64 * k) := ⟨_, rfl⟩
    have hQl : Q.length = 64 := by rw [hQ, List.length_take, List.length_drop]; omega
    have hstep : absAll s (P.drop (64 * k)) = absAll (absorbE s Q) (P.drop (64 * (k + 1))) := by
      rw [absAll_ge (by rw [List.length_drop]; omega), hQ, List.drop_drop, show 64 * k + 64 - 64 * k = 64 by omega, show 64 * k + 64 = 64 * (k + 1) by omega]
    refine SX.VC_df (.int .i64 ((64 * k + 64 : Nat) : Int)) (fun α => cast (by kernel_rfl) (i_add' (a := 64 * k) (b := 64) (d := 64 * k + 64) rfl (by omega))) (by kernel_rfl) ?_
    refine SX.VC_df (.agg (Q.flatMap c8).toArray) (fun α => by rw [hQ]; exact slcx_mid (l := P) (lo := 64 * k) (hi := 64 * k + 64) (SX.cat1 (j := 1) (by kernel_rfl)) (by kernel_rfl) (by kernel_rfl) (by omega) h2) (by kernel_rfl) ?_
    refine SX.VC_df (.agg (absorbE s Q).cells.toArray) (fun α => ⟨[⟨.agg s.cells.toArray, 0, []⟩, ⟨(α 17).h, 1, Q.flatMap c8⟩], ⟨by kernel_rfl, by kernel_rfl, Eq.trans (b := ⟨(α 17).h, 1, Q.flatMap c8 ++ []⟩) (by rw [List.append_nil]) (by kernel_rfl), trivial⟩, .inr ⟨rfl, s, _, Q, hQl, rfl, rfl⟩, SX.noAli rfl⟩) (by kernel_rfl) ?_
    refine SX.VC_df (.int .i64 ((64 * (k + 1) : Nat) : Int)) (fun α => cast (by kernel_rfl) (i_add' (a := 64 * k) (b := 64) (d := 64 * (k + 1)) (by omega) (by omega))) (by kernel_rfl) ?_
    exact VC_again2 rfl (fun α => ⟨k + 1, absorbE s Q, by kernel_rfl, by omega, by rw [← hstep, hI]⟩) (fun α => cast (by kernel_rfl) (show P.length - (64 * (k + 1)) < P.length - 64 * k by omega))
  · have hge : ¬ 64 * k < P.length := by simpa using hge
    have hs : (absAll startS P).1 = s := by
      rw [← hI, List.drop_of_length_le (by omega), absAll_lt (by simp)]
    refine SX.VC_df (w32 (s.a >>> 24)) (fun α => cast (by kernel_rfl) (w_shr s.a .i64 24 (by omega))) (by kernel_rfl) ?_
    refine SX.VC_df (w8 (byteAt s.a.toNat 24)) (fun α => cast (by kernel_rfl) (w_byte32 s.a 24)) (by kernel_rfl) ?_
    refine SX.VC_df (w32 (s.a >>> 16)) (fun α => cast (by kernel_rfl) (w_shr s.a .i64 16 (by omega))) (by kernel_rfl) ?_
    refine SX.VC_df (w8 (byteAt s.a.toNat 16)) (fun α => cast (by kernel_rfl) (w_byte32 s.a 16)) (by kernel_rfl) ?_
    refine SX.VC_df (w32 (s.a >>> 8)) (fun α => cast (by kernel_rfl) (w_shr s.a .i64 8 (by omega))) (by kernel_rfl) ?_
    refine SX.VC_df (w8 (byteAt s.a.toNat 8)) (fun α => cast (by kernel_rfl) (w_byte32 s.a 8)) (by kernel_rfl) ?_
    refine SX.VC_df (w32 (s.a >>> 0)) (fun α => cast (by kernel_rfl) (w_shr s.a .i64 0 (by omega))) (by kernel_rfl) ?_
    refine SX.VC_df (w8 (byteAt s.a.toNat 0)) (fun α => cast (by kernel_rfl) (w_byte32 s.a 0)) (by kernel_rfl) ?_
    refine SX.VC_df (w32 (s.b >>> 24)) (fun α => cast (by kernel_rfl) (w_shr s.b .i64 24 (by omega))) (by kernel_rfl) ?_
    refine SX.VC_df (w8 (byteAt s.b.toNat 24)) (fun α => cast (by kernel_rfl) (w_byte32 s.b 24)) (by kernel_rfl) ?_
    refine SX.VC_df (w32 (s.b >>> 16)) (fun α => cast (by kernel_rfl) (w_shr s.b .i64 16 (by omega))) (by kernel_rfl) ?_
    refine SX.VC_df (w8 (byteAt s.b.toNat 16)) (fun α => cast (by kernel_rfl) (w_byte32 s.b 16)) (by kernel_rfl) ?_
    refine SX.VC_df (w32 (s.b >>> 8)) (fun α => cast (by kernel_rfl) (w_shr s.b .i64 8 (by omega))) (by kernel_rfl) ?_
    refine SX.VC_df (w8 (byteAt s.b.toNat 8)) (fun α => cast (by kernel_rfl) (w_byte32 s.b 8)) (by kernel_rfl) ?_
    refine SX.VC_df (w32 (s.b >>> 0)) (fun α => cast (by kernel_rfl) (w_shr s.b .i64 0 (by omega))) (by kernel_rfl) ?_
    refine SX.VC_df (w8 (byteAt s.b.toNat 0)) (fun α => cast (by kernel_rfl) (w_byte32 s.b 0)) (by kernel_rfl) ?_
    refine SX.VC_df (w32 (s.c >>> 24)) (fun α => cast (by kernel_rfl) (w_shr s.c .i64 24 (by omega))) (by kernel_rfl) ?_
    refine SX.VC_df (w8 (byteAt s.c.toNat 24)) (fun α => cast (by kernel_rfl) (w_byte32 s.c 24)) (by kernel_rfl) ?_
    refine SX.VC_df (w32 (s.c >>> 16)) (fun α => cast (by kernel_rfl) (w_shr s.c .i64 16 (by omega))) (by kernel_rfl) ?_
    refine SX.VC_df (w8 (byteAt s.c.toNat 16)) (fun α => cast (by kernel_rfl) (w_byte32 s.c 16)) (by kernel_rfl) ?_
    refine SX.VC_df (w32 (s.c >>> 8)) (fun α => cast (by kernel_rfl) (w_shr s.c .i64 8 (by omega))) (by kernel_rfl) ?_
    refine SX.VC_df (w8 (byteAt s.c.toNat 8)) (fun α => cast (by kernel_rfl) (w_byte32 s.c 8)) (by kernel_rfl) ?_
    refine SX.VC_df (w32 (s.c >>> 0)) (fun α => cast (by kernel_rfl) (w_shr s.c .i64 0 (by omega))) (by kernel_rfl) ?_
    refine SX.VC_df (w8 (byteAt s.c.toNat 0)) (fun α => cast (by kernel_rfl) (w_byte32 s.c 0)) (by kernel_rfl) ?_
    refine SX.VC_df (w32 (s.d >>> 24)) (fun α => cast (by kernel_rfl) (w_shr s.d .i64 24 (by omega))) (by kernel_rfl) ?_
    refine SX.VC_df (w8 (byteAt s.d.toNat 24)) (fun α => cast (by kernel_rfl) (w_byte32 s.d 24)) (by kernel_rfl) ?_
    refine SX.VC_df (w32 (s.d >>> 16)) (fun α => cast (by kernel_rfl) (w_shr s.d .i64 16 (by omega))) (by kernel_rfl) ?_
    refine SX.VC_df (w8 (byteAt s.d.toNat 16)) (fun α => cast (by kernel_rfl) (w_byte32 s.d 16)) (by kernel_rfl) ?_
    refine SX.VC_df (w32 (s.d >>> 8)) (fun α => cast (by kernel_rfl) (w_shr s.d .i64 8 (by omega))) (by kernel_rfl) ?_
    refine SX.VC_df (w8 (byteAt s.d.toNat 8)) (fun α => cast (by kernel_rfl) (w_byte32 s.d 8)) (by kernel_rfl) ?_
    refine SX.VC_df (w32 (s.d >>> 0)) (fun α => cast (by kernel_rfl) (w_shr s.d .i64 0 (by omega))) (by kernel_rfl) ?_
    refine SX.VC_df (w8 (byteAt s.d.toNat 0)) (fun α => cast (by kernel_rfl) (w_byte32 s.d 0)) (by kernel_rfl) ?_
    refine SX.VC_df (w32 (s.e >>> 24)) (fun α => cast (by kernel_rfl) (w_shr s.e .i64 24 (by omega))) (by kernel_rfl) ?_
    refine SX.VC_df (w8 (byteAt s.e.toNat 24)) (fun α => cast (by kernel_rfl) (w_byte32 s.e 24)) (by kernel_rfl) ?_
    refine SX.VC_df (w32 (s.e >>> 16)) (fun α => cast (by kernel_rfl) (w_shr s.e .i64 16 (by omega))) (by kernel_rfl) ?_
    refine SX.VC_df (w8 (byteAt s.e.toNat 16)) (fun α => cast (by kernel_rfl) (w_byte32 s.e 16)) (by kernel_rfl) ?_
    refine SX.VC_df (w32 (s.e >>> 8)) (fun α => cast (by kernel_rfl) (w_shr s.e .i64 8 (by omega))) (by kernel_rfl) ?_
    refine SX.VC_df (w8 (byteAt s.e.toNat 8)) (fun α => cast (by kernel_rfl) (w_byte32 s.e 8)) (by kernel_rfl) ?_
    refine SX.VC_df (w32 (s.e >>> 0)) (fun α => cast (by kernel_rfl) (w_shr s.e .i64 0 (by omega))) (by kernel_rfl) ?_
    refine SX.VC_df (w8 (byteAt s.e.toNat 0)) (fun α => cast (by kernel_rfl) (w_byte32 s.e 0)) (by kernel_rfl) ?_
    refine SX.VC_df (w32 (s.f >>> 24)) (fun α => cast (by kernel_rfl) (w_shr s.f .i64 24 (by omega))) (by kernel_rfl) ?_
    refine SX.VC_df (w8 (byteAt s.f.toNat 24)) (fun α => cast (by kernel_rfl) (w_byte32 s.f 24)) (by kernel_rfl) ?_
    refine SX.VC_df (w32 (s.f >>> 16)) (fun α => cast (by kernel_rfl) (w_shr s.f .i64 16 (by omega))) (by kernel_rfl) ?_
    refine SX.VC_df (w8 (byteAt s.f.toNat 16)) (fun α => cast (by kernel_rfl) (w_byte32 s.f 16)) (by kernel_rfl) ?_
    refine SX.VC_df (w32 (s.f >>> 8)) (fun α => cast (by kernel_rfl) (w_shr s.f .i64 8 (by omega))) (by kernel_rfl) ?_
    refine SX.VC_df (w8 (byteAt s.f.toNat 8)) (fun α => cast (by kernel_rfl) (w_byte32 s.f 8)) (by kernel_rfl) ?_
    refine SX.VC_df (w32 (s.f >>> 0)) (fun α => cast (by kernel_rfl) (w_shr s.f .i64 0 (by omega))) (by kernel_rfl) ?_
    refine SX.VC_df (w8 (byteAt s.f.toNat 0)) (fun α => cast (by kernel_rfl) (w_byte32 s.f 0)) (by kernel_rfl) ?_
    refine SX.VC_df (w32 (s.g >>> 24)) (fun α => cast (by kernel_rfl) (w_shr s.g .i64 24 (by omega))) (by kernel_rfl) ?_
    refine SX.VC_df (w8 (byteAt s.g.toNat 24)) (fun α => cast (by kernel_rfl) (w_byte32 s.g 24)) (by kernel_rfl) ?_
    refine SX.VC_df (w32 (s.g >>> 16)) (fun α => cast (by kernel_rfl) (w_shr s.g .i64 16 (by omega))) (by kernel_rfl) ?_
    refine SX.VC_df (w8 (byteAt s.g.toNat 16)) (fun α => cast (by kernel_rfl) (w_byte32 s.g 16)) (by kernel_rfl) ?_
    refine SX.VC_df (w32 (s.g >>> 8)) (fun α => cast (by kernel_rfl) (w_shr s.g .i64 8 (by omega))) (by kernel_rfl) ?_
    refine SX.VC_df (w8 (byteAt s.g.toNat 8)) (fun α => cast (by kernel_rfl) (w_byte32 s.g 8)) (by kernel_rfl) ?_
    refine SX.VC_df (w32 (s.g >>> 0)) (fun α => cast (by kernel_rfl) (w_shr s.g .i64 0 (by omega))) (by kernel_rfl) ?_
    refine SX.VC_df (w8 (byteAt s.g.toNat 0)) (fun α => cast (by kernel_rfl) (w_byte32 s.g 0)) (by kernel_rfl) ?_
    refine SX.VC_df (w32 (s.h >>> 24)) (fun α => cast (by kernel_rfl) (w_shr s.h .i64 24 (by omega))) (by kernel_rfl) ?_
    refine SX.VC_df (w8 (byteAt s.h.toNat 24)) (fun α => cast (by kernel_rfl) (w_byte32 s.h 24)) (by kernel_rfl) ?_
    refine SX.VC_df (w32 (s.h >>> 16)) (fun α => cast (by kernel_rfl) (w_shr s.h .i64 16 (by omega))) (by kernel_rfl) ?_
    refine SX.VC_df (w8 (byteAt s.h.toNat 16)) (fun α => cast (by kernel_rfl) (w_byte32 s.h 16)) (by kernel_rfl) ?_
    refine SX.VC_df (w32 (s.h >>> 8)) (fun α => cast (by kernel_rfl) (w_shr s.h .i64 8 (by omega))) (by kernel_rfl) ?_
    refine SX.VC_df (w8 (byteAt s.h.toNat 8)) (fun α => cast (by kernel_rfl) (w_byte32 s.h 8)) (by kernel_rfl) ?_
    refine SX.VC_df (w32 (s.h >>> 0)) (fun α => cast (by kernel_rfl) (w_shr s.h .i64 0 (by omega))) (by kernel_rfl) ?_
    refine SX.VC_df (w8 (byteAt s.h.toNat 0)) (fun α => cast (by kernel_rfl) (w_byte32 s.h 0)) (by kernel_rfl) ?_
    exact SX.VC_ret fun α W _ _ hS => SX.ret_of (x := .agg ((outS s).flatMap c8).toArray) hS (by kernel_rfl) (by rw [hsum, hs])
def RsumR (f : FuncId) (xs : List SX.Arg) (v : Value) : Prop := f = 23 ∧ ∃ (u : Value) (l : List W8), xs = [⟨u, 1, l.flatMap c8⟩] ∧ l.length < 2 ^ 45 ∧ v = .agg ((sumE l).flatMap c8).toArray
noncomputable def cxV (K A : Value → Nat → List Value → Prop) : SX.Cx := { P := Tryd.prog, R := fun _ f xs v => RsumR f xs v, shp := fun f => if f = 23 then some (.ag 32) else none, K := K, A := A, arr := true, trm := true }
theorem cxV_ok (K A : Value → Nat → List Value → Prop) : (cxV K A).Ok := SX.Cx.ok_of (fun _ => rfl) fun _ f xs v W h hrd hK => by
  obtain ⟨rfl, u, l, rfl, hl, rfl⟩ := h
  obtain ⟨A, n, c, rfl, hr, hc, hn⟩ := byte_arg (hrd ⟨u, 1, l.flatMap c8⟩ (List.mem_singleton_self _))
  exact (rsum_any l hl A n c W hr hc).mono fun e w' h => SX.plainOk rfl h
def args_rtagged : List SX.V := [.x 0 [], .x 1 []]
def tree_rtagged : SX.Tree :=
(.df .s2b [(.x 0 [])] .any 
(.df (.call 23 [(.row 1 [(.x 2 [])])]) [(.row 1)] (.ag 32) 
(.df (.app 1 1 (.own 1 [(.x 3 [0]), (.x 3 [1]), (.x 3 [2]), (.x 3 [3]), (.x 3 [4]), (.x 3 [5]), (.x 3 [6]), (.x 3 [7]), (.x 3 [8]), (.x 3 [9]), (.x 3 [10]), (.x 3 [11]), (.x 3 [12]), (.x 3 [13]), (.x 3 [14]), (.x 3 [15]), (.x 3 [16]), (.x 3 [17]), (.x 3 [18]), (.x 3 [19]), (.x 3 [20]), (.x 3 [21]), (.x 3 [22]), (.x 3 [23]), (.x 3 [24]), (.x 3 [25]), (.x 3 [26]), (.x 3 [27]), (.x 3 [28]), (.x 3 [29]), (.x 3 [30]), (.x 3 [31])])) [(.cat []), (.sl 2 0 32 32)] .any 
(.df (.app 1 1 (.ext 1)) [(.cat [(.x 4 [])]), (.x 1 [])] .any 
(.df (.call 23 [(.row 1 [(.x 4 []), (.x 5 [])])]) [(.row 5)] (.ag 32) 
(.ret (.a [(.x 6 [0]), (.x 6 [1]), (.x 6 [2]), (.x 6 [3]), (.x 6 [4]), (.x 6 [5]), (.x 6 [6]), (.x 6 [7]), (.x 6 [8]), (.x 6 [9]), (.x 6 [10]), (.x 6 [11]), (.x 6 [12]), (.x 6 [13]), (.x 6 [14]), (.x 6 [15]), (.x 6 [16]), (.x 6 [17]), (.x 6 [18]), (.x 6 [19]), (.x 6 [20]), (.x 6 [21]), (.x 6 [22]), (.x 6 [23]), (.x 6 [24]), (.x 6 [25]), (.x 6 [26]), (.x 6 [27]), (.x 6 [28]), (.x 6 [29]), (.x 6 [30]), (.x 6 [31])]) [] []))))))
set_option maxRecDepth 100000 in
theorem run_rtagged (K A : Value → Nat → List Value → Prop) : (SX.run (cxV K A) ⟨fun _ => true, [], 0, 100⟩ 100000 0 (SX.door 17 Tryd.f17 args_rtagged [.one, .one]) [.code (Tryd.f17.body.getD .skip), .top Tryd.f17]).strip = tree_rtagged := by kernel_rfl
set_option maxRecDepth 100000 in
set_option maxHeartbeats 4000000 in
theorem rtagged_any (s : ByteArray) (l : List W8) (hs : s.size < 2 ^ 44) (hl : l.length < 2 ^ 44) (A : Option Addr) (n c : Nat) (w : World) (hr : Rd w 1 A n (l.flatMap c8)) (hc : n ≤ c) : Calls Tryd.prog 17 #[.string s, .slice A n c] w fun e w' => e = .returned (.agg ((tagE (sb s) l).flatMap c8).toArray) ∧ Below w.heap.size w w' := by
  refine SX.calls_of_run (C := cxV (fun v z xs => v = .slice A n c ∧ z = 1 ∧ xs = l.flatMap c8) (fun _ _ _ => False)) (G := ⟨fun _ => true, [], 0, 100⟩) (args := args_rtagged) (sh := [.one, .one]) (ρ := [.string s, .slice A n c]) 100000 tree_rtagged (cxV_ok _ _) Tryd.func17 rfl (cast (by kernel_rfl) (run_rtagged (fun v z xs => v = .slice A n c ∧ z = 1 ∧ xs = l.flatMap c8) (fun _ _ _ => False))) (by kernel_rfl) (by kernel_rfl) (by kernel_rfl) (fun W hW v z xs ⟨h1, h2, h3⟩ => by subst h1; subst h2; subst h3; exact ⟨hr.same0 hW, hc⟩) ?_
  have one : ∀ a, ∀ u ∈ c8 a, u.oneCell' = true := fun a u hu => by obtain rfl : u = w8 a := by simpa [c8] using hu
                                                                    rfl
  unfold tree_rtagged
  refine SX.VC_df (.agg ((sb s).flatMap c8).toArray) (fun α => s2b_rel (by kernel_rfl)) (by kernel_rfl) ?_
  obtain ⟨g, hg⟩ := listN (n := 32) (sumE (sb s)) rfl
  refine SX.VC_df (.agg (((List.range 32).map g).flatMap c8).toArray) (fun α => by rw [← hg]; exact ⟨[⟨(α 1).h, 1, (sb s).flatMap c8⟩], ⟨Eq.trans (b := ⟨(α 1).h, 1, (sb s).flatMap c8 ++ []⟩) (by rw [List.append_nil]) (by kernel_rfl), trivial⟩, ⟨rfl, _, _, rfl, by rw [sb_len]; omega, rfl⟩, SX.noAli rfl⟩) (by kernel_rfl) ?_
  refine SX.VC_df (.agg (((List.range 32).map g).flatMap c8).toArray) (fun α => SX.app_rel c8_len one (by omega) (l1 := []) (l2 := ((List.range 32).map g)) (by kernel_rfl) (SX.src_own (by kernel_rfl)) (by simp) (by simp)) (by kernel_rfl) ?_
  refine SX.VC_df (.agg (l.flatMap c8).toArray) (fun α => SX.app_rel c8_len one (by omega) (l1 := ((List.range 32).map g)) (l2 := l) (SX.cat1 (by kernel_rfl)) (SX.src_ext ⟨rfl, rfl, rfl⟩) (by simp; omega) (by simp; omega)) (by kernel_rfl) ?_
  obtain ⟨g2, hg2⟩ := listN (n := 32) (tagE (sb s) l) rfl
  refine SX.VC_df (.agg (((List.range 32).map g2).flatMap c8).toArray) (fun α => by rw [← hg2]; exact ⟨[⟨(α 5).h, 1, (sumE (sb s) ++ l).flatMap c8⟩], ⟨Eq.trans (b := ⟨(α 5).h, 1, ((List.range 32).map g).flatMap c8 ++ (l.flatMap c8 ++ [])⟩) (by rw [hg, List.append_nil, List.flatMap_append]) (by kernel_rfl), trivial⟩, ⟨rfl, _, _, rfl, by simp only [List.length_append, sumE_len]; omega, rfl⟩, SX.noAli rfl⟩) (by kernel_rfl) ?_
  exact SX.VC_ret fun α W _ _ hS => SX.ret_of (x := .agg (((List.range 32).map g2).flatMap c8).toArray) hS (by kernel_rfl) (by rw [hg2])
def RtagR (f : FuncId) (xs : List SX.Arg) (v : Value) : Prop := f = 17 ∧ ∃ (s : ByteArray) (u : Value) (l : List W8), xs = [⟨.string s, 0, []⟩, ⟨u, 1, l.flatMap c8⟩] ∧ s.size < 2 ^ 44 ∧ l.length < 2 ^ 44 ∧ v = .agg ((tagE (sb s) l).flatMap c8).toArray
noncomputable def cxX (K A : Value → Nat → List Value → Prop) : SX.Cx := { P := Tryd.prog, R := fun _ f xs v => RtagR f xs v, shp := fun f => if f = 17 then some (.ag 32) else none, K := K, A := A, arr := true, trm := true }
theorem cxX_ok (K A : Value → Nat → List Value → Prop) : (cxX K A).Ok := SX.Cx.ok_of (fun _ => rfl) fun _ f xs v W h hrd hK => by
  obtain ⟨rfl, s, u, l, rfl, hs, hl, rfl⟩ := h
  obtain ⟨A, n, c, rfl, hr, hc, hn⟩ := byte_arg (hrd ⟨u, 1, l.flatMap c8⟩ (List.mem_cons_of_mem _ (List.mem_singleton_self _)))
  exact (rtagged_any s l hs hl A n c W hr hc).mono fun e w' h => SX.plainOk rfl h
def args_rhash : List SX.V := [.x 0 [], .x 1 []]
def tree_rhash : SX.Tree :=
(.df (.call 17 [.no, (.ext 1)]) [(.x 0 []), (.x 1 [])] (.ag 32) 
(.df (.conv .i64) [(.x 2 [0])] .one 
(.df (.bin .rem 3) [(.x 3 []), (.k (.int .i64 128))] .one 
(.df (.bin .mul 3) [(.x 4 []), (.k (.int .i64 256))] .one 
(.df (.conv .i64) [(.x 2 [1])] .one 
(.df (.bin .add 3) [(.x 5 []), (.x 6 [])] .one 
(.df (.bin .mul 3) [(.x 7 []), (.k (.int .i64 256))] .one 
(.df (.conv .i64) [(.x 2 [2])] .one 
(.df (.bin .add 3) [(.x 8 []), (.x 9 [])] .one 
(.df (.bin .mul 3) [(.x 10 []), (.k (.int .i64 256))] .one 
(.df (.conv .i64) [(.x 2 [3])] .one 
(.df (.bin .add 3) [(.x 11 []), (.x 12 [])] .one 
(.df (.bin .mul 3) [(.x 13 []), (.k (.int .i64 256))] .one 
(.df (.conv .i64) [(.x 2 [4])] .one 
(.df (.bin .add 3) [(.x 14 []), (.x 15 [])] .one 
(.df (.bin .mul 3) [(.x 16 []), (.k (.int .i64 256))] .one 
(.df (.conv .i64) [(.x 2 [5])] .one 
(.df (.bin .add 3) [(.x 17 []), (.x 18 [])] .one 
(.df (.bin .mul 3) [(.x 19 []), (.k (.int .i64 256))] .one 
(.df (.conv .i64) [(.x 2 [6])] .one 
(.df (.bin .add 3) [(.x 20 []), (.x 21 [])] .one 
(.df (.bin .mul 3) [(.x 22 []), (.k (.int .i64 256))] .one 
(.df (.conv .i64) [(.x 2 [7])] .one 
(.df (.bin .add 3) [(.x 23 []), (.x 24 [])] .one 
(.df (.bin .rem 3) [(.x 25 []), (.k (.int .i64 1073741789))] .one 
(.ret (.x 26 []) [] []))))))))))))))))))))))))))
set_option maxRecDepth 100000 in
theorem run_rhash (K A : Value → Nat → List Value → Prop) : (SX.run (cxX K A) ⟨fun _ => true, [], 0, 100⟩ 100000 0 (SX.door 11 Tryd.f11 args_rhash [.one, .one]) [.code (Tryd.f11.body.getD .skip), .top Tryd.f11]).strip = tree_rhash := by kernel_rfl
theorem i_add63 {a b d : Nat} (h : a + b = d) (ha : d < 2 ^ 63) : SX.binV .add (.int .i64 (a : Int)) (.int .i64 (b : Int)) = some (.int .i64 (d : Int)) := by
  simp only [SX.binV, binI, if_true]
  rw [wrap_i64 (by omega) (by omega)]
  congr 2
  omega
set_option maxRecDepth 100000 in
set_option maxHeartbeats 4000000 in
theorem rhash_any (s : ByteArray) (l : List W8) (hs : s.size < 2 ^ 44) (hl : l.length < 2 ^ 44) (A : Option Addr) (n c : Nat) (w : World) (hr : Rd w 1 A n (l.flatMap c8)) (hc : n ≤ c) : Calls Tryd.prog 11 #[.string s, .slice A n c] w fun e w' => e = .returned (.int .i64 (hashN (tagE (sb s) l) : Int)) ∧ Below w.heap.size w w' := by
  refine SX.calls_of_run (C := cxX (fun v z xs => v = .slice A n c ∧ z = 1 ∧ xs = l.flatMap c8) (fun _ _ _ => False)) (G := ⟨fun _ => true, [], 0, 100⟩) (args := args_rhash) (sh := [.one, .one]) (ρ := [.string s, .slice A n c]) 100000 tree_rhash (cxX_ok _ _) Tryd.func11 rfl (cast (by kernel_rfl) (run_rhash (fun v z xs => v = .slice A n c ∧ z = 1 ∧ xs = l.flatMap c8) (fun _ _ _ => False))) (by kernel_rfl) (by kernel_rfl) (by kernel_rfl) (fun W hW v z xs ⟨h1, h2, h3⟩ => by subst h1; subst h2; subst h3; exact ⟨hr.same0 hW, hc⟩) ?_
  unfold tree_rhash
  obtain ⟨g, hg⟩ := listN (n := 32) (tagE (sb s) l) rfl
  refine SX.VC_df (.agg (((List.range 32).map g).flatMap c8).toArray) (fun α => by rw [← hg]; exact ⟨[⟨.string s, 0, []⟩, ⟨.slice A n c, 1, l.flatMap c8⟩], ⟨by kernel_rfl, by kernel_rfl, by kernel_rfl, by kernel_rfl, ⟨rfl, rfl, rfl⟩, trivial⟩, ⟨rfl, s, _, l, rfl, hs, hl, rfl⟩, SX.noAli rfl⟩) (by kernel_rfl) ?_
  have l0 := (g 0).isLt
  have l1 := (g 1).isLt
  have l2 := (g 2).isLt
  have l3 := (g 3).isLt
  have l4 := (g 4).isLt
  have l5 := (g 5).isLt
  have l6 := (g 6).isLt
  have l7 := (g 7).isLt
  obtain ⟨n0, hn0⟩ : ∃ z, z = (g 0).toNat % 128 := ⟨_, rfl⟩
  obtain ⟨n1, hn1⟩ : ∃ z, z = n0 * 256 + (g 1).toNat := ⟨_, rfl⟩
  obtain ⟨n2, hn2⟩ : ∃ z, z = n1 * 256 + (g 2).toNat := ⟨_, rfl⟩
  obtain ⟨n3, hn3⟩ : ∃ z, z = n2 * 256 + (g 3).toNat := ⟨_, rfl⟩
  obtain ⟨n4, hn4⟩ : ∃ z, z = n3 * 256 + (g 4).toNat := ⟨_, rfl⟩
  obtain ⟨n5, hn5⟩ : ∃ z, z = n4 * 256 + (g 5).toNat := ⟨_, rfl⟩
  obtain ⟨n6, hn6⟩ : ∃ z, z = n5 * 256 + (g 6).toNat := ⟨_, rfl⟩
  obtain ⟨n7, hn7⟩ : ∃ z, z = n6 * 256 + (g 7).toNat := ⟨_, rfl⟩
  refine SX.VC_df (.int .i64 ((g 0).toNat : Int)) (fun α => cast (by kernel_rfl) (conv_w8 (g 0))) (by kernel_rfl) ?_
  refine SX.VC_df (.int .i64 (n0 : Int)) (fun α => cast (by kernel_rfl) (show SX.binV .rem (.int .i64 ((g 0).toNat : Int)) (.int .i64 128) = some (.int .i64 (n0 : Int)) from by rw [rem128, hn0])) (by kernel_rfl) ?_
  refine SX.VC_df (.int .i64 ((n0 * 256 : Nat) : Int)) (fun α => cast (by kernel_rfl) (mul256 n0 (by omega))) (by kernel_rfl) ?_
  refine SX.VC_df (.int .i64 ((g 1).toNat : Int)) (fun α => cast (by kernel_rfl) (conv_w8 (g 1))) (by kernel_rfl) ?_
  refine SX.VC_df (.int .i64 (n1 : Int)) (fun α => cast (by kernel_rfl) (i_add63 (a := n0 * 256) (b := (g 1).toNat) (d := n1) (by omega) (by omega))) (by kernel_rfl) ?_
  refine SX.VC_df (.int .i64 ((n1 * 256 : Nat) : Int)) (fun α => cast (by kernel_rfl) (mul256 n1 (by omega))) (by kernel_rfl) ?_
  refine SX.VC_df (.int .i64 ((g 2).toNat : Int)) (fun α => cast (by kernel_rfl) (conv_w8 (g 2))) (by kernel_rfl) ?_
  refine SX.VC_df (.int .i64 (n2 : Int)) (fun α => cast (by kernel_rfl) (i_add63 (a := n1 * 256) (b := (g 2).toNat) (d := n2) (by omega) (by omega))) (by kernel_rfl) ?_
  refine SX.VC_df (.int .i64 ((n2 * 256 : Nat) : Int)) (fun α => cast (by kernel_rfl) (mul256 n2 (by omega))) (by kernel_rfl) ?_
  refine SX.VC_df (.int .i64 ((g 3).toNat : Int)) (fun α => cast (by kernel_rfl) (conv_w8 (g 3))) (by kernel_rfl) ?_
  refine SX.VC_df (.int .i64 (n3 : Int)) (fun α => cast (by kernel_rfl) (i_add63 (a := n2 * 256) (b := (g 3).toNat) (d := n3) (by omega) (by omega))) (by kernel_rfl) ?_
  refine SX.VC_df (.int .i64 ((n3 * 256 : Nat) : Int)) (fun α => cast (by kernel_rfl) (mul256 n3 (by omega))) (by kernel_rfl) ?_
  refine SX.VC_df (.int .i64 ((g 4).toNat : Int)) (fun α => cast (by kernel_rfl) (conv_w8 (g 4))) (by kernel_rfl) ?_
  refine SX.VC_df (.int .i64 (n4 : Int)) (fun α => cast (by kernel_rfl) (i_add63 (a := n3 * 256) (b := (g 4).toNat) (d := n4) (by omega) (by omega))) (by kernel_rfl) ?_
  refine SX.VC_df (.int .i64 ((n4 * 256 : Nat) : Int)) (fun α => cast (by kernel_rfl) (mul256 n4 (by omega))) (by kernel_rfl) ?_
  refine SX.VC_df (.int .i64 ((g 5).toNat : Int)) (fun α => cast (by kernel_rfl) (conv_w8 (g 5))) (by kernel_rfl) ?_
  refine SX.VC_df (.int .i64 (n5 : Int)) (fun α => cast (by kernel_rfl) (i_add63 (a := n4 * 256) (b := (g 5).toNat) (d := n5) (by omega) (by omega))) (by kernel_rfl) ?_
  refine SX.VC_df (.int .i64 ((n5 * 256 : Nat) : Int)) (fun α => cast (by kernel_rfl) (mul256 n5 (by omega))) (by kernel_rfl) ?_
  refine SX.VC_df (.int .i64 ((g 6).toNat : Int)) (fun α => cast (by kernel_rfl) (conv_w8 (g 6))) (by kernel_rfl) ?_
  refine SX.VC_df (.int .i64 (n6 : Int)) (fun α => cast (by kernel_rfl) (i_add63 (a := n5 * 256) (b := (g 6).toNat) (d := n6) (by omega) (by omega))) (by kernel_rfl) ?_
  refine SX.VC_df (.int .i64 ((n6 * 256 : Nat) : Int)) (fun α => cast (by kernel_rfl) (mul256 n6 (by omega))) (by kernel_rfl) ?_
  refine SX.VC_df (.int .i64 ((g 7).toNat : Int)) (fun α => cast (by kernel_rfl) (conv_w8 (g 7))) (by kernel_rfl) ?_
  refine SX.VC_df (.int .i64 (n7 : Int)) (fun α => cast (by kernel_rfl) (i_add63 (a := n6 * 256) (b := (g 7).toNat) (d := n7) (by omega) (by omega))) (by kernel_rfl) ?_
  refine SX.VC_df (.int .i64 ((n7 % 1073741789 : Nat) : Int)) (fun α => cast (by kernel_rfl) (remQ n7)) (by kernel_rfl) ?_
  have hN : hashN (tagE (sb s) l) = n7 % 1073741789 := by rw [hg]; subst hn7 hn6 hn5 hn4 hn3 hn2 hn1 hn0; rfl
  exact SX.VC_ret fun α W _ _ hS => SX.ret_of (x := .int .i64 ((n7 % 1073741789 : Nat) : Int)) hS (by kernel_rfl) (by rw [hN])
end Go.Proofs.YtockbjpldlopiaaDoor
