/-
  law10's cards: the reference's hash: padded, Sum.
-/
import Derived.Test.YtockbjpldlopiaaDoorHo
namespace Go.Proofs.YtockbjpldlopiaaDoor
set_option linter.unusedSimpArgs false
set_option linter.unusedVariables false
open Go Go.RowKit
noncomputable def cxP (K A : Value → Nat → List Value → Prop) : SX.Cx := { P := Tryd.prog, R := fun _ f xs v => False, shp := fun f => none, K := K, A := A, arr := true, trm := true }
theorem cxP_ok (K A : Value → Nat → List Value → Prop) : (cxP K A).Ok := SX.Cx.ok_of (fun _ => rfl) fun _ f xs v W h => h.elim
def args_rpad : List SX.V := [.x 0 []]
def tree_rpad : SX.Tree :=
(.df (.app 1 1 (.ext 1)) [(.cat []), (.x 0 [])] .any 
(.df (.app 1 1 (.own 1 [(.k (.int .u8 128))])) [(.cat [(.x 1 [])]), (.sl 2 0 1 1)] .any 
(.loop [(.cat [(.x 1 []), (.x 2 [])])] [.any] 
(.df (.rlen 1) [(.cat [(.x 3 [])])] .one 
(.df (.bin .rem 3) [(.x 4 []), (.k (.int .i64 64))] .one 
(.df (.bin .neq 3) [(.x 5 []), (.k (.int .i64 56))] .one 
(.br 6 [] 
(.df (.app 1 1 (.own 1 [(.k (.int .u8 0))])) [(.cat [(.x 3 [])]), (.sl 5 0 1 1)] .any 
(.again 0 [(.cat [(.x 3 []), (.x 7 [])])])) 
(.df (.len false) [(.x 0 [])] .one 
(.df (.conv .u64) [(.x 7 [])] .one 
(.df (.bin .mul 48) [(.x 8 []), (.k (.int .u64 8))] .one 
(.df (.bin .shr 48) [(.x 9 []), (.k (.int .i64 56))] .one 
(.df (.conv .u8) [(.x 10 [])] .one 
(.df (.app 1 1 (.own 1 [(.x 11 [])])) [(.cat [(.x 3 [])]), (.sl 5 0 1 1)] .any 
(.df (.bin .shr 48) [(.x 9 []), (.k (.int .i64 48))] .one 
(.df (.conv .u8) [(.x 13 [])] .one 
(.df (.app 1 1 (.own 1 [(.x 14 [])])) [(.cat [(.x 3 []), (.x 12 [])]), (.sl 7 0 1 1)] .any 
(.df (.bin .shr 48) [(.x 9 []), (.k (.int .i64 40))] .one 
(.df (.conv .u8) [(.x 16 [])] .one 
(.df (.app 1 1 (.own 1 [(.x 17 [])])) [(.cat [(.x 3 []), (.x 12 []), (.x 15 [])]), (.sl 9 0 1 1)] .any 
(.df (.bin .shr 48) [(.x 9 []), (.k (.int .i64 32))] .one 
(.df (.conv .u8) [(.x 19 [])] .one 
(.df (.app 1 1 (.own 1 [(.x 20 [])])) [(.cat [(.x 3 []), (.x 12 []), (.x 15 []), (.x 18 [])]), (.sl 11 0 1 1)] .any 
(.df (.bin .shr 48) [(.x 9 []), (.k (.int .i64 24))] .one 
(.df (.conv .u8) [(.x 22 [])] .one 
(.df (.app 1 1 (.own 1 [(.x 23 [])])) [(.cat [(.x 3 []), (.x 12 []), (.x 15 []), (.x 18 []), (.x 21 [])]), (.sl 13 0 1 1)] .any 
(.df (.bin .shr 48) [(.x 9 []), (.k (.int .i64 16))] .one 
(.df (.conv .u8) [(.x 25 [])] .one 
(.df (.app 1 1 (.own 1 [(.x 26 [])])) [(.cat [(.x 3 []), (.x 12 []), (.x 15 []), (.x 18 []), (.x 21 []), (.x 24 [])]), (.sl 15 0 1 1)] .any 
(.df (.bin .shr 48) [(.x 9 []), (.k (.int .i64 8))] .one 
(.df (.conv .u8) [(.x 28 [])] .one 
(.df (.app 1 1 (.own 1 [(.x 29 [])])) [(.cat [(.x 3 []), (.x 12 []), (.x 15 []), (.x 18 []), (.x 21 []), (.x 24 []), (.x 27 [])]), (.sl 17 0 1 1)] .any 
(.df (.bin .shr 48) [(.x 9 []), (.k (.int .i64 0))] .one 
(.df (.conv .u8) [(.x 31 [])] .one 
(.df (.app 1 1 (.own 1 [(.x 32 [])])) [(.cat [(.x 3 []), (.x 12 []), (.x 15 []), (.x 18 []), (.x 21 []), (.x 24 []), (.x 27 []), (.x 30 [])]), (.sl 19 0 1 1)] .any 
(.ret (.row 20) [none, none, none, none, none, none, none, none, none, none, none, none, none, none, none, none, none, none, none, none, (some ⟨[(.x 3 []), (.x 12 []), (.x 15 []), (.x 18 []), (.x 21 []), (.x 24 []), (.x 27 []), (.x 30 []), (.x 33 [])], 5, (.row 1)⟩)] [])))))))))))))))))))))))))))))))))))
set_option maxRecDepth 100000 in
theorem run_rpad (K A : Value → Nat → List Value → Prop) : (SX.run (cxP K A) ⟨fun _ => false, [⟨28, 2, [(.s 3, .row 1 5)]⟩], 2, 100⟩ 100000 0 (SX.door 28 Tryd.f28 args_rpad [.any]) [.code (Tryd.f28.body.getD .skip), .top Tryd.f28]).strip = tree_rpad := by kernel_rfl
theorem neq_nat (a b : Nat) : SX.binV .neq (.int .i64 (a : Int)) (.int .i64 (b : Int)) = some (.bool (decide (a ≠ b))) := by
  simp only [SX.binV, binI, if_true]
  congr 2
  by_cases h : a = b
  · subst h; simp
  · have : (a : Int) ≠ (b : Int) := by omega
    simp [h, this]
set_option maxRecDepth 100000 in
set_option maxHeartbeats 4000000 in
theorem rpad_any (l : List W8) (hl : l.length < 2 ^ 45) (A : Option Addr) (n c : Nat) (w : World) (hr : Rd w 1 A n (l.flatMap c8)) (hc : n ≤ c) : Calls Tryd.prog 28 #[.slice A n c] w fun e w' => Below w.heap.size w w' ∧ ∃ hdr, e = .returned hdr ∧ SX.SlRet w w' [] hdr 1 ((padR l).flatMap c8) := by
  have hln : l.length = n := by have := hr.1; rw [SX.flat_len c8_len] at this; omega
  refine SX.calls_of_run (C := cxP (fun v z xs => v = .slice A n c ∧ z = 1 ∧ xs = l.flatMap c8) (fun _ _ _ => False)) (G := ⟨fun _ => false, [⟨28, 2, [(.s 3, .row 1 5)]⟩], 2, 100⟩) (args := args_rpad) (sh := [.any]) (ρ := [.slice A n c]) 100000 tree_rpad (cxP_ok _ _) Tryd.func28 rfl (cast (by kernel_rfl) (run_rpad (fun v z xs => v = .slice A n c ∧ z = 1 ∧ xs = l.flatMap c8) (fun _ _ _ => False))) (by kernel_rfl) (by kernel_rfl) (by kernel_rfl) (fun W hW v z xs ⟨h1, h2, h3⟩ => by subst h1; subst h2; subst h3; exact ⟨hr.same0 hW, hc⟩) ?_
  have one : ∀ a, ∀ u ∈ c8 a, u.oneCell' = true := fun a u hu => by obtain rfl : u = w8 a := by simpa [c8] using hu
                                                                    rfl
  have hpad : padN n < 64 := by unfold padN; omega
  have hpad2 : (n + 1 + padN n) % 64 = 56 := by unfold padN; omega
  unfold tree_rpad
  refine SX.VC_df (.agg (l.flatMap c8).toArray) (fun α => SX.app_rel c8_len one (by omega) (l1 := []) (l2 := l) (by kernel_rfl) (SX.src_ext ⟨rfl, rfl, rfl⟩) (by simp; omega) (by simp; omega)) (by kernel_rfl) ?_
  refine SX.VC_df (.agg ([128].flatMap c8).toArray) (fun α => SX.app_rel c8_len one (by omega) (l1 := l) (l2 := [128]) (SX.cat1 (by kernel_rfl)) (SX.src_own (by kernel_rfl)) (by simp; omega) (by simp; omega)) (by kernel_rfl) ?_
  refine SX.VC_loop (fun xs => ∃ k : Nat, xs = [.agg ((l ++ [128] ++ List.replicate k 0).flatMap c8).toArray] ∧ k ≤ padN n) (fun xs => match xs with | .agg cs :: _ => n + 1 + padN n - cs.toList.length | _ => 0) (fun α => ⟨0, Eq.trans (b := [.agg (l.flatMap c8 ++ ([128].flatMap c8 ++ [])).toArray]) (by kernel_rfl) (by rw [List.append_nil, List.replicate_zero, List.append_nil, List.flatMap_append]), by omega⟩) ?_
  rintro xs - ⟨k, rfl, hk⟩
  obtain ⟨r, hr0⟩ : ∃ r, r = l ++ [128] ++ List.replicate k 0 := ⟨_, rfl⟩
  have hrl : r.length = n + 1 + k := by rw [hr0]; simp; omega
  rw [← hr0]
  refine SX.VC_df (.int .i64 (r.length : Int)) (fun α => row_len8 (SX.cat1 (j := 3) (by kernel_rfl))) (by kernel_rfl) ?_
  refine SX.VC_df (.int .i64 ((r.length % 64 : Nat) : Int)) (fun α => cast (by kernel_rfl) (SX.rem_nat (a := r.length) (b := 64) (by omega))) (by kernel_rfl) ?_
  refine SX.VC_df (.bool (decide (r.length % 64 ≠ 56))) (fun α => cast (by kernel_rfl) (neq_nat (r.length % 64) 56)) (by kernel_rfl) ?_
  refine SX.VC_br (decide (r.length % 64 ≠ 56)) (by kernel_rfl) (fun h56 => ?_) (fun h56 => ?_)
  · have h56 : r.length % 64 ≠ 56 := by simpa using h56
    have hk2 : k < padN n := by rcases Nat.lt_or_ge k (padN n) with h | h; · exact h
                                · exfalso; apply h56; rw [hrl, show k = padN n by omega]; exact hpad2
    refine SX.VC_df (.agg ([0].flatMap c8).toArray) (fun α => SX.app_rel c8_len one (by omega) (l1 := r) (l2 := [0]) (SX.cat1 (by kernel_rfl)) (SX.src_own (by kernel_rfl)) (by simp; omega) (by simp; omega)) (by kernel_rfl) ?_
    exact VC_again2 rfl (fun α => ⟨k + 1, Eq.trans (b := [.agg (r.flatMap c8 ++ ([0].flatMap c8 ++ [])).toArray]) (by kernel_rfl) (by rw [List.append_nil, ← List.flatMap_append, hr0, List.append_assoc _ _ [0], ← List.replicate_succ']), by omega⟩) (fun α => cast (by kernel_rfl) (show n + 1 + padN n - (r.flatMap c8 ++ ([0].flatMap c8 ++ [])).length < n + 1 + padN n - (r.flatMap c8).length by rw [List.append_nil, List.length_append, SX.flat_len c8_len, SX.flat_len c8_len]; simp only [List.length_cons, List.length_nil]; omega))
  · have h56 : r.length % 64 = 56 := by simpa using h56
    have hk2 : k = padN n := by omega
    refine SX.VC_df (.int .i64 (n : Int)) (by intro α; show _ = _; kernel_rfl) (by kernel_rfl) ?_
    refine SX.VC_df (.int .u64 (n : Int)) (fun α => cast (by kernel_rfl) (u_conv n .i64 (by omega))) (by kernel_rfl) ?_
    refine SX.VC_df (.int .u64 ((8 * n : Nat) : Int)) (fun α => cast (by kernel_rfl) (u_mul8 n (by omega))) (by kernel_rfl) ?_
    refine SX.VC_df (.int .u64 ((8 * n / 2 ^ 56 : Nat) : Int)) (fun α => cast (by kernel_rfl) (u_shr (8 * n) 56 (by omega))) (by kernel_rfl) ?_
    refine SX.VC_df (w8 (byteAt (8 * n) 56)) (fun α => cast (by kernel_rfl) (w_byte (8 * n) 56)) (by kernel_rfl) ?_
    refine SX.VC_df (.agg ([byteAt (8 * n) 56].flatMap c8).toArray) (fun α => SX.app_rel c8_len one (by omega) (l1 := r) (l2 := [byteAt (8 * n) 56]) (SX.cat1 (j := 3) (by kernel_rfl)) (SX.src_own (by kernel_rfl)) (by simp; omega) (by simp; omega)) (by kernel_rfl) ?_
    refine SX.VC_df (.int .u64 ((8 * n / 2 ^ 48 : Nat) : Int)) (fun α => cast (by kernel_rfl) (u_shr (8 * n) 48 (by omega))) (by kernel_rfl) ?_
    refine SX.VC_df (w8 (byteAt (8 * n) 48)) (fun α => cast (by kernel_rfl) (w_byte (8 * n) 48)) (by kernel_rfl) ?_
    refine SX.VC_df (.agg ([byteAt (8 * n) 48].flatMap c8).toArray) (fun α => SX.app_rel c8_len one (by omega) (l1 := (r ++ [byteAt (8 * n) 56])) (l2 := [byteAt (8 * n) 48]) (Eq.trans (b := r.flatMap c8 ++ [byteAt (8 * n) 56].flatMap c8) (by kernel_rfl) (by rw [← List.flatMap_append])) (SX.src_own (by kernel_rfl)) (by simp; omega) (by simp; omega)) (by kernel_rfl) ?_
    refine SX.VC_df (.int .u64 ((8 * n / 2 ^ 40 : Nat) : Int)) (fun α => cast (by kernel_rfl) (u_shr (8 * n) 40 (by omega))) (by kernel_rfl) ?_
    refine SX.VC_df (w8 (byteAt (8 * n) 40)) (fun α => cast (by kernel_rfl) (w_byte (8 * n) 40)) (by kernel_rfl) ?_
    refine SX.VC_df (.agg ([byteAt (8 * n) 40].flatMap c8).toArray) (fun α => SX.app_rel c8_len one (by omega) (l1 := (r ++ [byteAt (8 * n) 56, byteAt (8 * n) 48])) (l2 := [byteAt (8 * n) 40]) (Eq.trans (b := r.flatMap c8 ++ [byteAt (8 * n) 56, byteAt (8 * n) 48].flatMap c8) (by kernel_rfl) (by rw [← List.flatMap_append])) (SX.src_own (by kernel_rfl)) (by simp; omega) (by simp; omega)) (by kernel_rfl) ?_
    refine SX.VC_df (.int .u64 ((8 * n / 2 ^ 32 : Nat) : Int)) (fun α => cast (by kernel_rfl) (u_shr (8 * n) 32 (by omega))) (by kernel_rfl) ?_
    refine SX.VC_df (w8 (byteAt (8 * n) 32)) (fun α => cast (by kernel_rfl) (w_byte (8 * n) 32)) (by kernel_rfl) ?_
    refine SX.VC_df (.agg ([byteAt (8 * n) 32].flatMap c8).toArray) (fun α => SX.app_rel c8_len one (by omega) (l1 := (r ++ [byteAt (8 * n) 56, byteAt (8 * n) 48, byteAt (8 * n) 40])) (l2 := [byteAt (8 * n) 32]) (Eq.trans (b := r.flatMap c8 ++ [byteAt (8 * n) 56, byteAt (8 * n) 48, byteAt (8 * n) 40].flatMap c8) (by kernel_rfl) (by rw [← List.flatMap_append])) (SX.src_own (by kernel_rfl)) (by simp; omega) (by simp; omega)) (by kernel_rfl) ?_
    refine SX.VC_df (.int .u64 ((8 * n / 2 ^ 24 : Nat) : Int)) (fun α => cast (by kernel_rfl) (u_shr (8 * n) 24 (by omega))) (by kernel_rfl) ?_
    refine SX.VC_df (w8 (byteAt (8 * n) 24)) (fun α => cast (by kernel_rfl) (w_byte (8 * n) 24)) (by kernel_rfl) ?_
    refine SX.VC_df (.agg ([byteAt (8 * n) 24].flatMap c8).toArray) (fun α => SX.app_rel c8_len one (by omega) (l1 := (r ++ [byteAt (8 * n) 56, byteAt (8 * n) 48, byteAt (8 * n) 40, byteAt (8 * n) 32])) (l2 := [byteAt (8 * n) 24]) (Eq.trans (b := r.flatMap c8 ++ [byteAt (8 * n) 56, byteAt (8 * n) 48, byteAt (8 * n) 40, byteAt (8 * n) 32].flatMap c8) (by kernel_rfl) (by rw [← List.flatMap_append])) (SX.src_own (by kernel_rfl)) (by simp; omega) (by simp; omega)) (by kernel_rfl) ?_
    refine SX.VC_df (.int .u64 ((8 * n / 2 ^ 16 : Nat) : Int)) (fun α => cast (by kernel_rfl) (u_shr (8 * n) 16 (by omega))) (by kernel_rfl) ?_
    refine SX.VC_df (w8 (byteAt (8 * n) 16)) (fun α => cast (by kernel_rfl) (w_byte (8 * n) 16)) (by kernel_rfl) ?_
    refine SX.VC_df (.agg ([byteAt (8 * n) 16].flatMap c8).toArray) (fun α => SX.app_rel c8_len one (by omega) (l1 := (r ++ [byteAt (8 * n) 56, byteAt (8 * n) 48, byteAt (8 * n) 40, byteAt (8 * n) 32, byteAt (8 * n) 24])) (l2 := [byteAt (8 * n) 16]) (Eq.trans (b := r.flatMap c8 ++ [byteAt (8 * n) 56, byteAt (8 * n) 48, byteAt (8 * n) 40, byteAt (8 * n) 32, byteAt (8 * n) 24].flatMap c8) (by kernel_rfl) (by rw [← List.flatMap_append])) (SX.src_own (by kernel_rfl)) (by simp; omega) (by simp; omega)) (by kernel_rfl) ?_
    refine SX.VC_df (.int .u64 ((8 * n / 2 ^ 8 : Nat) : Int)) (fun α => cast (by kernel_rfl) (u_shr (8 * n) 8 (by omega))) (by kernel_rfl) ?_
    refine SX.VC_df (w8 (byteAt (8 * n) 8)) (fun α => cast (by kernel_rfl) (w_byte (8 * n) 8)) (by kernel_rfl) ?_
    refine SX.VC_df (.agg ([byteAt (8 * n) 8].flatMap c8).toArray) (fun α => SX.app_rel c8_len one (by omega) (l1 := (r ++ [byteAt (8 * n) 56, byteAt (8 * n) 48, byteAt (8 * n) 40, byteAt (8 * n) 32, byteAt (8 * n) 24, byteAt (8 * n) 16])) (l2 := [byteAt (8 * n) 8]) (Eq.trans (b := r.flatMap c8 ++ [byteAt (8 * n) 56, byteAt (8 * n) 48, byteAt (8 * n) 40, byteAt (8 * n) 32, byteAt (8 * n) 24, byteAt (8 * n) 16].flatMap c8) (by kernel_rfl) (by rw [← List.flatMap_append])) (SX.src_own (by kernel_rfl)) (by simp; omega) (by simp; omega)) (by kernel_rfl) ?_
    refine SX.VC_df (.int .u64 ((8 * n / 2 ^ 0 : Nat) : Int)) (fun α => cast (by kernel_rfl) (u_shr (8 * n) 0 (by omega))) (by kernel_rfl) ?_
    refine SX.VC_df (w8 (byteAt (8 * n) 0)) (fun α => cast (by kernel_rfl) (w_byte (8 * n) 0)) (by kernel_rfl) ?_
    refine SX.VC_df (.agg ([byteAt (8 * n) 0].flatMap c8).toArray) (fun α => SX.app_rel c8_len one (by omega) (l1 := (r ++ [byteAt (8 * n) 56, byteAt (8 * n) 48, byteAt (8 * n) 40, byteAt (8 * n) 32, byteAt (8 * n) 24, byteAt (8 * n) 16, byteAt (8 * n) 8])) (l2 := [byteAt (8 * n) 0]) (Eq.trans (b := r.flatMap c8 ++ [byteAt (8 * n) 56, byteAt (8 * n) 48, byteAt (8 * n) 40, byteAt (8 * n) 32, byteAt (8 * n) 24, byteAt (8 * n) 16, byteAt (8 * n) 8].flatMap c8) (by kernel_rfl) (by rw [← List.flatMap_append])) (SX.src_own (by kernel_rfl)) (by simp; omega) (by simp; omega)) (by kernel_rfl) ?_
    have hfin : padR l = r ++ be64 (8 * n) := by unfold padR; rw [hln, hr0, hk2]
    exact SX.VC_ret fun α W _ hrow hS => ⟨hS.below, _, rfl, SX.SlRet.row hS (n := 20) rfl rfl (hrow 20 _ rfl) (Eq.trans (b := r.flatMap c8 ++ (be64 (8 * n)).flatMap c8) (by kernel_rfl) (by rw [hfin, List.flatMap_append]))⟩
def RpadR (f : FuncId) (xs : List SX.Arg) (v : Value) : Prop := f = 28 ∧ ∃ (u : Value) (l : List W8), l.length < 2 ^ 45 ∧ xs = [⟨u, 1, l.flatMap c8⟩] ∧ v = .agg ((padR l).flatMap c8).toArray
def RblockR (f : FuncId) (xs : List SX.Arg) (v : Value) : Prop := f = 29 ∧ ∃ (s : S8) (u : Value) (l : List W8), l.length = 64 ∧ xs = [⟨.agg s.cells.toArray, 0, []⟩, ⟨u, 1, l.flatMap c8⟩] ∧ v = .agg (absorbE s l).cells.toArray
theorem SX.SlRet.ok1 {C : SX.Cx} {f : FuncId} {as' : List SX.Arg} {W W' : World} {e : Ending} {cells : List Value} {sz : Nat} (hs : C.sh f = .sl sz) (h : Below W.heap.size W W' ∧ ∃ hdr, e = .returned hdr ∧ SX.SlRet W W' [] hdr sz cells) :
    Below W.heap.size W W' ∧ ∃ hdr, e = .returned ((C.sh f).fill hdr (.agg cells.toArray)) ∧ ∀ p z, (p, z) ∈ (C.sh f).sls [] → SX.HdrOk C f as' W W' hdr z (SX.cellsV (p.foldl SX.comp (.agg cells.toArray))) := by
  obtain ⟨hb, hdr, he, h1, h2, h3⟩ := h
  refine ⟨hb, hdr, by rw [hs, he]; rfl, fun p z hp => ?_⟩
  rw [hs] at hp
  obtain ⟨rfl, rfl⟩ : p = [] ∧ z = sz := by simpa [SX.Sh.sls] using hp
  exact ⟨h1, h2, .inl (h3.resolve_right fun ⟨y, hy, _⟩ => nomatch hy)⟩
noncomputable def cxU (K A : Value → Nat → List Value → Prop) : SX.Cx := { P := Tryd.prog, R := fun _ f xs v => RpadR f xs v ∨ RblockR f xs v, shp := fun f => if f = 28 then some (.sl 1) else if f = 29 then some (.ag 8) else none, K := K, A := A, arr := true, trm := true }
theorem cxU_ok (K A : Value → Nat → List Value → Prop) : (cxU K A).Ok := SX.Cx.ok_of (fun _ => rfl) fun _ f xs v W h hrd hK => by
  rcases h with ⟨rfl, u, l, hl, rfl, rfl⟩ | ⟨rfl, s, u, l, hl, rfl, rfl⟩
  · obtain ⟨A, n, c, rfl, hr, hc, hn⟩ := byte_arg (hrd ⟨u, 1, l.flatMap c8⟩ (List.mem_singleton_self _))
    exact (rpad_any l hl A n c W hr hc).mono fun e w' h => SX.SlRet.ok1 rfl h
  · obtain ⟨A, n, c, rfl, hr, hc, hn⟩ := byte_arg (hrd ⟨u, 1, l.flatMap c8⟩ (List.mem_cons_of_mem _ (List.mem_singleton_self _)))
    exact (rblock_any s l hl A n c W hr hc).mono fun e w' h => SX.plainOk rfl h
def args_rsum : List SX.V := [.x 0 []]
def tree_rsum : SX.Tree :=
(.df (.call 28 [(.ext 1)]) [(.x 0 [])] (.sl 1) 
(.loop [(.k (.int .i64 0)), (.k (.int .u32 1779033703)), (.k (.int .u32 3144134277)), (.k (.int .u32 1013904242)), (.k (.int .u32 2773480762)), (.k (.int .u32 1359893119)), (.k (.int .u32 2600822924)), (.k (.int .u32 528734635)), (.k (.int .u32 1541459225))] [.one, .one, .one, .one, .one, .one, .one, .one, .one] 
(.df (.rlen 1) [(.cat [(.x 1 [])])] .one 
(.df (.bin .lss 3) [(.x 2 []), (.x 11 [])] .one 
(.br 12 [] 
(.df (.bin .add 3) [(.x 2 []), (.k (.int .i64 64))] .one 
(.df (.slcx 1 true true) [(.cat [(.x 1 [])]), (.x 2 []), (.x 13 [])] .any 
(.df (.call 29 [.no, (.row 1 [(.x 14 [])])]) [(.a [(.x 3 []), (.x 4 []), (.x 5 []), (.x 6 []), (.x 7 []), (.x 8 []), (.x 9 []), (.x 10 [])]), (.row 17)] (.ag 8) 
(.df (.bin .add 3) [(.x 2 []), (.k (.int .i64 64))] .one 
(.again 0 [(.x 16 []), (.x 15 [0]), (.x 15 [1]), (.x 15 [2]), (.x 15 [3]), (.x 15 [4]), (.x 15 [5]), (.x 15 [6]), (.x 15 [7])]))))) 
(.df (.bin .shr 43) [(.x 3 []), (.k (.int .i64 24))] .one 
(.df (.conv .u8) [(.x 13 [])] .one 
(.df (.bin .shr 43) [(.x 3 []), (.k (.int .i64 16))] .one 
(.df (.conv .u8) [(.x 15 [])] .one 
(.df (.bin .shr 43) [(.x 3 []), (.k (.int .i64 8))] .one 
(.df (.conv .u8) [(.x 17 [])] .one 
(.df (.bin .shr 43) [(.x 3 []), (.k (.int .i64 0))] .one 
(.df (.conv .u8) [(.x 19 [])] .one 
(.df (.bin .shr 43) [(.x 4 []), (.k (.int .i64 24))] .one 
(.df (.conv .u8) [(.x 21 [])] .one 
(.df (.bin .shr 43) [(.x 4 []), (.k (.int .i64 16))] .one 
(.df (.conv .u8) [(.x 23 [])] .one 
(.df (.bin .shr 43) [(.x 4 []), (.k (.int .i64 8))] .one 
(.df (.conv .u8) [(.x 25 [])] .one 
(.df (.bin .shr 43) [(.x 4 []), (.k (.int .i64 0))] .one 
(.df (.conv .u8) [(.x 27 [])] .one 
(.df (.bin .shr 43) [(.x 5 []), (.k (.int .i64 24))] .one 
(.df (.conv .u8) [(.x 29 [])] .one 
(.df (.bin .shr 43) [(.x 5 []), (.k (.int .i64 16))] .one 
(.df (.conv .u8) [(.x 31 [])] .one 
(.df (.bin .shr 43) [(.x 5 []), (.k (.int .i64 8))] .one 
(.df (.conv .u8) [(.x 33 [])] .one 
(.df (.bin .shr 43) [(.x 5 []), (.k (.int .i64 0))] .one 
(.df (.conv .u8) [(.x 35 [])] .one 
(.df (.bin .shr 43) [(.x 6 []), (.k (.int .i64 24))] .one 
(.df (.conv .u8) [(.x 37 [])] .one 
(.df (.bin .shr 43) [(.x 6 []), (.k (.int .i64 16))] .one 
(.df (.conv .u8) [(.x 39 [])] .one 
(.df (.bin .shr 43) [(.x 6 []), (.k (.int .i64 8))] .one 
(.df (.conv .u8) [(.x 41 [])] .one 
(.df (.bin .shr 43) [(.x 6 []), (.k (.int .i64 0))] .one 
(.df (.conv .u8) [(.x 43 [])] .one 
(.df (.bin .shr 43) [(.x 7 []), (.k (.int .i64 24))] .one 
(.df (.conv .u8) [(.x 45 [])] .one 
(.df (.bin .shr 43) [(.x 7 []), (.k (.int .i64 16))] .one 
(.df (.conv .u8) [(.x 47 [])] .one 
(.df (.bin .shr 43) [(.x 7 []), (.k (.int .i64 8))] .one 
(.df (.conv .u8) [(.x 49 [])] .one 
(.df (.bin .shr 43) [(.x 7 []), (.k (.int .i64 0))] .one 
(.df (.conv .u8) [(.x 51 [])] .one 
(.df (.bin .shr 43) [(.x 8 []), (.k (.int .i64 24))] .one 
(.df (.conv .u8) [(.x 53 [])] .one 
(.df (.bin .shr 43) [(.x 8 []), (.k (.int .i64 16))] .one 
(.df (.conv .u8) [(.x 55 [])] .one 
(.df (.bin .shr 43) [(.x 8 []), (.k (.int .i64 8))] .one 
(.df (.conv .u8) [(.x 57 [])] .one 
(.df (.bin .shr 43) [(.x 8 []), (.k (.int .i64 0))] .one 
(.df (.conv .u8) [(.x 59 [])] .one 
(.df (.bin .shr 43) [(.x 9 []), (.k (.int .i64 24))] .one 
(.df (.conv .u8) [(.x 61 [])] .one 
(.df (.bin .shr 43) [(.x 9 []), (.k (.int .i64 16))] .one 
(.df (.conv .u8) [(.x 63 [])] .one 
(.df (.bin .shr 43) [(.x 9 []), (.k (.int .i64 8))] .one 
(.df (.conv .u8) [(.x 65 [])] .one 
(.df (.bin .shr 43) [(.x 9 []), (.k (.int .i64 0))] .one 
(.df (.conv .u8) [(.x 67 [])] .one 
(.df (.bin .shr 43) [(.x 10 []), (.k (.int .i64 24))] .one 
(.df (.conv .u8) [(.x 69 [])] .one 
(.df (.bin .shr 43) [(.x 10 []), (.k (.int .i64 16))] .one 
(.df (.conv .u8) [(.x 71 [])] .one 
(.df (.bin .shr 43) [(.x 10 []), (.k (.int .i64 8))] .one 
(.df (.conv .u8) [(.x 73 [])] .one 
(.df (.bin .shr 43) [(.x 10 []), (.k (.int .i64 0))] .one 
(.df (.conv .u8) [(.x 75 [])] .one 
(.ret (.a [(.x 14 []), (.x 16 []), (.x 18 []), (.x 20 []), (.x 22 []), (.x 24 []), (.x 26 []), (.x 28 []), (.x 30 []), (.x 32 []), (.x 34 []), (.x 36 []), (.x 38 []), (.x 40 []), (.x 42 []), (.x 44 []), (.x 46 []), (.x 48 []), (.x 50 []), (.x 52 []), (.x 54 []), (.x 56 []), (.x 58 []), (.x 60 []), (.x 62 []), (.x 64 []), (.x 66 []), (.x 68 []), (.x 70 []), (.x 72 []), (.x 74 []), (.x 76 [])]) [] []))))))))))))))))))))))))))))))))))))))))))))))))))))))))))))))))))))))
set_option maxRecDepth 100000 in
theorem run_rsum (K A : Value → Nat → List Value → Prop) : (SX.run (cxU K A) ⟨fun _ => false, [⟨23, 4, ([(.s 5, .one)] ++ (List.range 8).map fun j => (.c 9 j, .one))⟩, ⟨23, 4, ([(.s 5, .one)] ++ (List.range 8).map fun j => (.c 8 j, .one))⟩, ⟨23, 4, ([(.s 5, .one)] ++ (List.range 8).map fun j => (.c 7 j, .one))⟩, ⟨23, 4, ([(.s 5, .one)] ++ (List.range 8).map fun j => (.c 6 j, .one))⟩, ⟨23, 4, ([(.s 5, .one)] ++ (List.range 8).map fun j => (.c 5 j, .one))⟩, ⟨23, 4, ([(.s 5, .one)] ++ (List.range 8).map fun j => (.c 4 j, .one))⟩, ⟨23, 4, ([(.s 5, .one)] ++ (List.range 8).map fun j => (.c 3 j, .one))⟩, ⟨23, 4, ([(.s 5, .one)] ++ (List.range 8).map fun j => (.c 2 j, .one))⟩, ⟨23, 4, ([(.s 5, .one)] ++ (List.range 8).map fun j => (.c 1 j, .one))⟩], 0, 100⟩ 100000 0 (SX.door 23 Tryd.f23 args_rsum [.any]) [.code (Tryd.f23.body.getD .skip), .top Tryd.f23]).strip = tree_rsum := by kernel_rfl
end Go.Proofs.YtockbjpldlopiaaDoor
