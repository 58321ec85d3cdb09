/-
  The statement 'EditsDiffSpec': for every input the law returns true, and each argument reads as it read before. No condition.
-/
import Derived.Test.YtnaooclbphaelaaDA6
import Derived.Test.YtnaooclbphaelaaDA1
import Derived.DataElems
set_option linter.unusedSimpArgs false
set_option linter.unusedVariables false
namespace Go.Proofs.Ytnaooclbphaelaa
open Go Go.RowKit
theorem ints_arg {W : World} {u : Value} {l : List Int} (h : SX.Arg.rd W ⟨u, 1, intsL l⟩) : ∃ A n c, u = .slice A n c ∧ Rd W 1 A n (intsL l) ∧ n ≤ c ∧ l.length = n := by
  unfold SX.Arg.rd at h
  split at h
  · rename_i A n c hu
    have hu : u = .slice A n c := hu
    refine ⟨A, n, c, hu, h.1, h.2, ?_⟩
    have := h.1.1; simp only [intsL_len] at this; omega
  cases h
def tree_cloneI : SX.Tree :=
(.df (.snil false) [(.q 0)] .one
(.br 1 []
(.ret (.k (.slice none 0 0)) [] [])
(.df (.app 1 8 (.ext 1)) [(.cat []), (.q 0)] .any
(.ret (.row 1) [none, (some ⟨[(.q 2)], 3, (.row 1)⟩)] []))))
def args_cloneI : List SX.V := [.x 0 []]
set_option maxRecDepth 100000 in
theorem run_cloneI (K A : Value → Nat → List Value → Prop) : (SX.run (cx0 K A) ⟨fun f => true, [], 2, 100⟩ 100000 0 (SX.door 43 Try.f43 args_cloneI [.one]) [.code (Try.f43.body.getD .skip), .top Try.f43]).strip = tree_cloneI := by kernel_rfl
set_option maxRecDepth 100000 in
set_option maxHeartbeats 4000000 in
theorem cloneI_any (l : List Int) (A : Option Addr) (n c : Nat) (w : World) (hr : Rd w 1 A n (intsL l)) (hc : n ≤ c) (hn : n ≤ 1000000) : Calls Try.prog 43 #[.slice A n c] w fun e w' => Below w.heap.size w w' ∧ ∃ hdr, e = .returned hdr ∧ SX.SlRet w w' [] hdr 1 (intsL l) := by
  refine SX.calls_of_run (C := cx0 (fun s sz cells => s = .slice A n c ∧ sz = 1 ∧ cells = intsL l) (fun _ _ _ => False)) (G := ⟨fun f => true, [], 2, 100⟩) (args := args_cloneI) (sh := [.one]) (ρ := [.slice A n c]) 100000 tree_cloneI (cx0_ok _ _) Try.func43 rfl (run_cloneI _ _) (by kernel_rfl) (by kernel_rfl) (by kernel_rfl) ?_ ?_
  · rintro W hW s sz cells ⟨rfl, rfl, rfl⟩; exact ⟨hr.same0 hW, hc⟩
  have hA := SX.rd_some hr
  have hln : l.length = n := by have := hr.1; rw [intsL_len] at this; omega
  unfold tree_cloneI
  refine SX.E (.bool (false ^^ A.isNone)) (fun α => ⟨A, n, c, by kernel_rfl, rfl⟩) ?_
  refine SX.B (false ^^ A.isNone) (fun h1 => ?_) (fun h1 => ?_)
  · have hA0 : A = none := by cases A <;> simp_all
    have hn0 : n = 0 := by
      rcases Nat.eq_zero_or_pos n with h | h
      · exact h
      · have := hA h; rw [hA0] at this; cases this
    have hl0 : l = [] := List.length_eq_zero_iff.1 (by omega)
    subst hl0
    exact SX.VC_ret fun α W _ _ hS => ⟨hS.below, _, rfl, SX.SlRet.nil⟩
  refine SX.VC_df (.agg (intsL l).toArray) (fun α => SX.app_rel (f := cellsI) (l1 := []) (l2 := l) (fun _ => rfl) (fun a u hu => by obtain rfl := List.mem_singleton.1 hu; rfl) (by decide) (by kernel_rfl) (SX.src_ext ⟨rfl, rfl, rfl⟩) (by simp; omega) (by simp; omega)) rfl ?_
  exact SX.VC_ret fun α W _ hrow hS => ⟨hS.below, _, by kernel_rfl, SX.SlRet.row hS (n := 1) (b := (⟨[(.x 2 [])], 3, (.row 1)⟩ : SX.Blk)) (by kernel_rfl) rfl (hrow 1 _ (by kernel_rfl)) (Eq.trans (b := [Value.agg (intsL l).toArray].flatMap SX.cellsV) (by kernel_rfl) (by simp [SX.cellsV]))⟩
def tree_rfield : SX.Tree :=
(.df (.bin .eql 3) [(.q 1), (.i 1)] .one
(.br 2 []
(.ret (.a [(.i 0), (.x 0 [1]), (.i 0), (.i 0), (.i 0), (.i 0), (.i 0), (.i 0), (.i 0), (.i 0), (.i 0), (.i 0), (.i 0), (.i 0)]) [] [])
(.df (.bin .eql 3) [(.q 1), (.i 2)] .one
(.br 3 []
(.ret (.a [(.i 0), (.i 0), (.x 0 [2]), (.i 0), (.i 0), (.i 0), (.i 0), (.i 0), (.i 0), (.i 0), (.i 0), (.i 0), (.i 0), (.i 0)]) [] [])
(.df (.bin .eql 3) [(.q 1), (.i 3)] .one
(.br 4 []
(.ret (.a [(.i 0), (.i 0), (.i 0), (.x 0 [3]), (.i 0), (.i 0), (.i 0), (.i 0), (.i 0), (.i 0), (.i 0), (.i 0), (.i 0), (.i 0)]) [] [])
(.df (.bin .eql 3) [(.q 1), (.i 4)] .one
(.br 5 []
(.ret (.a [(.i 0), (.i 0), (.i 0), (.i 0), (.i 0), (.x 0 [5]), (.i 0), (.i 0), (.i 0), (.i 0), (.i 0), (.i 0), (.i 0), (.i 0)]) [] [])
(.df (.bin .eql 3) [(.q 1), (.i 5)] .one
(.br 6 []
(.ret (.a [(.i 0), (.i 0), (.i 0), (.i 0), (.i 0), (.i 0), (.x 0 [6]), (.i 0), (.i 0), (.i 0), (.i 0), (.i 0), (.i 0), (.i 0)]) [] [])
(.df (.bin .eql 3) [(.q 1), (.i 6)] .one
(.br 7 []
(.ret (.a [(.i 0), (.i 0), (.i 0), (.i 0), (.i 0), (.i 0), (.i 0), (.x 0 [7]), (.i 0), (.i 0), (.i 0), (.i 0), (.i 0), (.i 0)]) [] [])
(.df (.bin .eql 3) [(.q 1), (.i 7)] .one
(.br 8 []
(.ret (.a [(.i 0), (.i 0), (.i 0), (.i 0), (.i 0), (.i 0), (.i 0), (.i 0), (.x 0 [8]), (.i 0), (.i 0), (.i 0), (.i 0), (.i 0)]) [] [])
(.df (.bin .eql 3) [(.q 1), (.i 8)] .one
(.br 9 []
(.ret (.a [(.i 0), (.i 0), (.i 0), (.i 0), (.i 0), (.i 0), (.i 0), (.i 0), (.i 0), (.x 0 [9]), (.i 0), (.i 0), (.i 0), (.i 0)]) [] [])
(.df (.bin .eql 3) [(.q 1), (.i 9)] .one
(.br 10 []
(.ret (.a ([(.i 0), (.i 0), (.i 0), (.i 0), (.i 0), (.i 0), (.i 0), (.i 0), (.i 0), (.i 0)] ++ SX.Y 0 10 4)) [] [])
(.ret (.a [(.i 0), (.i 0), (.i 0), (.i 0), (.i 0), (.i 0), (.i 0), (.i 0), (.i 0), (.i 0), (.i 0), (.i 0), (.i 0), (.i 0)]) [] [])))))))))))))))))))
def args_rfield : List SX.V := [.a ((List.range 14).map fun j => .x 0 [j]), .x 1 []]
set_option maxRecDepth 100000 in
theorem run_rfield (K A : Value → Nat → List Value → Prop) : (SX.run (cx0 K A) ⟨fun f => true, [], 0, 100⟩ 100000 0 (SX.door 95 Try.f95 args_rfield [.ag 14, .one]) [.code (Try.f95.body.getD .skip), .top Try.f95]).strip = tree_rfield := by kernel_rfl
set_option maxRecDepth 100000 in
set_option maxHeartbeats 4000000 in
theorem rfield_any (k : Sg) (f : Int) (w : World) (h1 : 1 ≤ f) (hf9 : f ≤ 9) : Calls Try.prog 95 #[valSg k, .int .i64 f] w fun e w' => e = .returned (valSg (setF zeroSg f k)) ∧ Below w.heap.size w w' := by
  refine SX.calls_of_run (C := cx0 (fun _ _ _ => False) (fun _ _ _ => False)) (G := ⟨fun f => true, [], 0, 100⟩) (args := args_rfield) (sh := [.ag 14, .one]) (ρ := [valSg k, .int .i64 f]) 100000 tree_rfield (cx0_ok _ _) Try.func95 rfl (run_rfield _ _) (by kernel_rfl) (by kernel_rfl) (by kernel_rfl) ?_ ?_
  · exact fun W _ => SX.Kf_none (fun _ _ _ h => h) W
  unfold tree_rfield
  refine SX.D (.bool ((f : Int) == 1)) ?_
  refine SX.B ((f : Int) == 1) (fun h2 => ?_) (fun h2 => ?_)
  · try simp only [NRM] at h2
    exact SX.VC_ret fun α W _ _ hS => SX.ret_of hS (x := valSg (setF zeroSg f k)) (by subst h2; kernel_rfl) rfl
  try simp only [NRM] at h2
  refine SX.D (.bool ((f : Int) == 2)) ?_
  refine SX.B ((f : Int) == 2) (fun h3 => ?_) (fun h3 => ?_)
  · try simp only [NRM] at h3
    exact SX.VC_ret fun α W _ _ hS => SX.ret_of hS (x := valSg (setF zeroSg f k)) (by subst h3; kernel_rfl) rfl
  try simp only [NRM] at h3
  refine SX.D (.bool ((f : Int) == 3)) ?_
  refine SX.B ((f : Int) == 3) (fun h4 => ?_) (fun h4 => ?_)
  · try simp only [NRM] at h4
    exact SX.VC_ret fun α W _ _ hS => SX.ret_of hS (x := valSg (setF zeroSg f k)) (by subst h4; kernel_rfl) rfl
  try simp only [NRM] at h4
  refine SX.D (.bool ((f : Int) == 4)) ?_
  refine SX.B ((f : Int) == 4) (fun h5 => ?_) (fun h5 => ?_)
  · try simp only [NRM] at h5
    exact SX.VC_ret fun α W _ _ hS => SX.ret_of hS (x := valSg (setF zeroSg f k)) (by subst h5; kernel_rfl) rfl
  try simp only [NRM] at h5
  refine SX.D (.bool ((f : Int) == 5)) ?_
  refine SX.B ((f : Int) == 5) (fun h6 => ?_) (fun h6 => ?_)
  · try simp only [NRM] at h6
    exact SX.VC_ret fun α W _ _ hS => SX.ret_of hS (x := valSg (setF zeroSg f k)) (by subst h6; kernel_rfl) rfl
  try simp only [NRM] at h6
  refine SX.D (.bool ((f : Int) == 6)) ?_
  refine SX.B ((f : Int) == 6) (fun h7 => ?_) (fun h7 => ?_)
  · try simp only [NRM] at h7
    exact SX.VC_ret fun α W _ _ hS => SX.ret_of hS (x := valSg (setF zeroSg f k)) (by subst h7; kernel_rfl) rfl
  try simp only [NRM] at h7
  refine SX.D (.bool ((f : Int) == 7)) ?_
  refine SX.B ((f : Int) == 7) (fun h8 => ?_) (fun h8 => ?_)
  · try simp only [NRM] at h8
    exact SX.VC_ret fun α W _ _ hS => SX.ret_of hS (x := valSg (setF zeroSg f k)) (by subst h8; kernel_rfl) rfl
  try simp only [NRM] at h8
  refine SX.D (.bool ((f : Int) == 8)) ?_
  refine SX.B ((f : Int) == 8) (fun h9 => ?_) (fun h9 => ?_)
  · try simp only [NRM] at h9
    exact SX.VC_ret fun α W _ _ hS => SX.ret_of hS (x := valSg (setF zeroSg f k)) (by subst h9; kernel_rfl) rfl
  try simp only [NRM] at h9
  refine SX.D (.bool ((f : Int) == 9)) ?_
  refine SX.B ((f : Int) == 9) (fun h10 => ?_) (fun h10 => ?_)
  · try simp only [NRM] at h10
    exact SX.VC_ret fun α W _ _ hS => SX.ret_of hS (x := valSg (setF zeroSg f k)) (by subst h10; kernel_rfl) rfl
  try simp only [NRM] at h10
  exact absurd h1 (by omega)
def dP (a b : Sg) (inA inB : Bool) : List Pt := if inB = false then [remP a] else if inA = false then [insP b] else chP a b
theorem nilL_snoc (l : List Pt) (p : Pt) : nilL (l ++ [p]) = nilL l ++ [nilP p] := by simp [nilL]
theorem phL_app (l m : List Ph) : phL (l ++ m) = phL l ++ phL m := by simp [phL]
theorem src_rowD {C : SX.Cx} {ρ : List Value} {α : Nat → SX.AV} {y : SX.V} {sz : Nat} {cs : List SX.V} {xs : List Value} (h : (SX.denL ρ α cs).flatMap SX.cellsV = xs) : SX.srcRel C ρ α sz (.row sz cs) y xs := ⟨⟨y.den ρ α, sz, xs⟩, ⟨by rw [← h], trivial⟩, rfl, rfl⟩
def RD1 (f : FuncId) (xs : List SX.Arg) (v : Value) : Prop :=
  (f = 95 ∧ ∃ (s : Sg) (f : Int), xs = [⟨valSg s, 0, []⟩, ⟨.int .i64 f, 0, []⟩] ∧ 1 ≤ f ∧ f ≤ 9 ∧ v = valSg (setF zeroSg f s))
def shpD1 : FuncId → Option SX.Sh := fun f => if f = 95 then some (.ag 14) else none
noncomputable def cxD1 (K A : Value → Nat → List Value → Prop) : SX.Cx := { P := Try.prog, R := fun _ => RD1, shp := shpD1, K := K, A := A }
theorem okD1 (K A : Value → Nat → List Value → Prop) : (cxD1 K A).Ok := by
  refine SX.Cx.ok_of (fun _ => rfl) ?_
  intro K f xs v W hR hrd hKf
  rcases hR with ⟨rfl, s, f, rfl, h1, h9, rfl⟩
  exact (rfield_any s f W h1 h9).mono fun e w' h => SX.plainOk rfl h
noncomputable def cxD1B (K A : Value → Nat → List Value → Prop) : SX.Cx := { cxD1 K A with bsr := true }
theorem okD1B (K A : Value → Nat → List Value → Prop) : (cxD1B K A).Ok := by
  refine SX.Cx.ok_of (fun _ => rfl) ?_
  exact (okD1 K A).r
def tree_rdiff : SX.Tree :=
(.df .not [(.q 3)] .one
(.br 4 []
(.ret (.row 2) [none, none, (some ⟨[(.a [(.i 0), (.i 3), (.x 0 [0]), (.i 0), (.i 0), (.i 0), (.i 0), (.i 0), (.i 0), (.i 0), (.i 0), (.i 0), (.i 0), (.i 0), (.i 0), (.i 0), (.i 0), (.i 0), (.k (.slice none 0 0))])], 55, (.row 19)⟩)] [])
(.df .not [(.q 2)] .one
(.br 5 []
(.ret (.row 2) [none, none, (some ⟨[(.a [(.i 0), (.i 2), (.x 1 [0]), (.i 0), (.x 1 [0]), (.x 1 [1]), (.x 1 [2]), (.x 1 [3]), (.x 1 [4]), (.x 1 [5]), (.x 1 [6]), (.x 1 [7]), (.x 1 [8]), (.x 1 [9]), (.x 1 [10]), (.x 1 [11]), (.x 1 [12]), (.x 1 [13]), (.k (.slice none 0 0))])], 55, (.row 19)⟩)] [])
(.loop [(.i 1), (.cat [])] [.one, .any]
(.df (.bin .leq 3) [(.q 6), (.i 9)] .one
(.br 8 []
(.df (.call 95 [.no, .no]) [(.a (SX.Y 0 0 14)), (.q 6)] (.ag 14)
(.df (.call 95 [.no, .no]) [(.a (SX.Y 1 0 14)), (.q 6)] (.ag 14)
(.df (.eqr true 14 [(.i .i64), (.i .i64), (.i .i64), (.i .i64), (.i .i64), (.i .i64), (.i .i64), (.i .i64), (.i .i64), (.i .i64), (.i .i64), (.i .i64), (.i .i64), (.i .i64)]) (SX.Y 9 0 14 ++ SX.Y 10 0 14) .one
(.br 11 []
(.df (.call 95 [.no, .no]) [(.a (SX.Y 1 0 14)), (.q 6)] (.ag 14)
(.df (.app 19 168 (.row 19 [(.a [(.i 0), (.i 1), (.x 0 [0]), (.q 6), (.x 12 [0]), (.x 12 [1]), (.x 12 [2]), (.x 12 [3]), (.x 12 [4]), (.x 12 [5]), (.x 12 [6]), (.x 12 [7]), (.x 12 [8]), (.x 12 [9]), (.x 12 [10]), (.x 12 [11]), (.x 12 [12]), (.x 12 [13]), (.k (.slice none 0 0))])])) [(.cat [(.q 7)]), (.row 20)] .any
(.df (.bin .add 3) [(.q 6), (.i 1)] .one
(.again 0 [(.q 14), (.cat [(.q 7), (.q 13)])]))))
(.df (.bin .add 3) [(.q 6), (.i 1)] .one
(.again 0 [(.q 12), (.cat [(.q 7)])]))))))
(.ret (.row 4) [none, none, none, none, (some ⟨[(.q 7)], 55, (.row 19)⟩)] []))))))))
def args_rdiff : List SX.V := [.a ((List.range 14).map fun j => .x 0 [j]), .a ((List.range 14).map fun j => .x 1 [j]), .x 2 [], .x 3 []]
set_option maxRecDepth 100000 in
theorem run_rdiff (K A : Value → Nat → List Value → Prop) : (SX.run (cxD1B K A) ⟨fun f => true, [⟨46, 7, [(.s 10, .one), (.s 9, .row 19 55)]⟩], 2, 100⟩ 100000 0 (SX.door 46 Try.f46 args_rdiff [.ag 14, .ag 14, .one, .one]) [.code (Try.f46.body.getD .skip), .top Try.f46]).strip = tree_rdiff := by kernel_rfl
set_option maxRecDepth 100000 in
set_option maxHeartbeats 4000000 in
theorem rdiff_any (x y : Sg) (inA inB : Bool) (w : World)  : Calls Try.prog 46 #[valSg x, valSg y, .bool inA, .bool inB] w fun e w' => Below w.heap.size w w' ∧ ∃ hdr, e = .returned hdr ∧ SX.SlRet w w' [] hdr 19 (phL (nilL (dP x y inA inB))) := by
  refine SX.calls_of_run (C := cxD1B (fun _ _ _ => False) (fun _ _ _ => False)) (G := ⟨fun f => true, [⟨46, 7, [(.s 10, .one), (.s 9, .row 19 55)]⟩], 2, 100⟩) (args := args_rdiff) (sh := [.ag 14, .ag 14, .one, .one]) (ρ := [valSg x, valSg y, .bool inA, .bool inB]) 100000 tree_rdiff (okD1B _ _) Try.func46 rfl (run_rdiff _ _) (by kernel_rfl) (by kernel_rfl) (by kernel_rfl) ?_ ?_
  · exact fun W _ => SX.Kf_none (fun _ _ _ h => h) W
  unfold tree_rdiff
  refine SX.D (.bool (!(inB))) ?_
  refine SX.B (!(inB)) (fun h4 => ?_) (fun h4 => ?_)
  · try simp only [NRM] at h4
    have hq : dP x y inA inB = [remP x] := by simp only [dP]; rw [if_pos (by simpa using h4)]
    rw [hq]
    exact SX.VC_ret fun α W _ hrow hS => ⟨hS.below, _, by kernel_rfl, SX.SlRet.row hS (n := 2) (b := (⟨[(.a [(.k (.int .i64 0)), (.k (.int .i64 3)), (.x 0 [0]), (.k (.int .i64 0)), (.k (.int .i64 0)), (.k (.int .i64 0)), (.k (.int .i64 0)), (.k (.int .i64 0)), (.k (.int .i64 0)), (.k (.int .i64 0)), (.k (.int .i64 0)), (.k (.int .i64 0)), (.k (.int .i64 0)), (.k (.int .i64 0)), (.k (.int .i64 0)), (.k (.int .i64 0)), (.k (.int .i64 0)), (.k (.int .i64 0)), (.k (.slice none 0 0))])], 55, (.row 19)⟩ : SX.Blk)) (by kernel_rfl) rfl (hrow 2 _ (by kernel_rfl)) (by kernel_rfl)⟩
  try simp only [NRM] at h4
  refine SX.D (.bool (!(inA))) ?_
  refine SX.B (!(inA)) (fun h5 => ?_) (fun h5 => ?_)
  · try simp only [NRM] at h5
    have hq : dP x y inA inB = [insP y] := by simp only [dP]; rw [if_neg (by simpa using h4), if_pos (by simpa using h5)]
    rw [hq]
    exact SX.VC_ret fun α W _ hrow hS => ⟨hS.below, _, by kernel_rfl, SX.SlRet.row hS (n := 2) (b := (⟨[(.a [(.k (.int .i64 0)), (.k (.int .i64 2)), (.x 1 [0]), (.k (.int .i64 0)), (.x 1 [0]), (.x 1 [1]), (.x 1 [2]), (.x 1 [3]), (.x 1 [4]), (.x 1 [5]), (.x 1 [6]), (.x 1 [7]), (.x 1 [8]), (.x 1 [9]), (.x 1 [10]), (.x 1 [11]), (.x 1 [12]), (.x 1 [13]), (.k (.slice none 0 0))])], 55, (.row 19)⟩ : SX.Blk)) (by kernel_rfl) rfl (hrow 2 _ (by kernel_rfl)) (by kernel_rfl)⟩
  try simp only [NRM] at h5
  refine SX.VC_loop (fun xs => ∃ k : Nat, xs = [.int .i64 ((k + 1 : Nat) : Int), .agg (phL (nilL (chT x y k))).toArray] ∧ k ≤ 9) (fun xs => match xs with | .int _ i :: _ => 10 - i.toNat | _ => 0) (fun α => ⟨0, by kernel_rfl, by omega⟩) ?_
  rintro xs - ⟨k, rfl, hk⟩
  refine SX.D (.bool (decide (((k + 1 : Nat) : Int) ≤ 9))) ?_
  refine SX.B (decide (((k + 1 : Nat) : Int) ≤ 9)) (fun h8 => ?_) (fun h8 => ?_)
  · try simp only [NRM] at h8
    refine SX.E (valSg (setF zeroSg ((k + 1 : Nat) : Int) x)) (fun α => ⟨[⟨valSg x, 0, []⟩, ⟨.int .i64 ((k + 1 : Nat) : Int), 0, []⟩], ⟨by kernel_rfl, by kernel_rfl, by kernel_rfl, by kernel_rfl, trivial⟩, ⟨rfl, x, ((k + 1 : Nat) : Int), rfl, by omega, by omega, rfl⟩, SX.noAli rfl⟩) ?_
    refine SX.E (valSg (setF zeroSg ((k + 1 : Nat) : Int) y)) (fun α => ⟨[⟨valSg y, 0, []⟩, ⟨.int .i64 ((k + 1 : Nat) : Int), 0, []⟩], ⟨by kernel_rfl, by kernel_rfl, by kernel_rfl, by kernel_rfl, trivial⟩, ⟨rfl, y, ((k + 1 : Nat) : Int), rfl, by omega, by omega, rfl⟩, SX.noAli rfl⟩) ?_
    refine SX.E (.bool (true ^^ decide ((setF zeroSg ((k + 1 : Nat) : Int) x) = (setF zeroSg ((k + 1 : Nat) : Int) y)))) (fun α => SX.eqr_rel (f := cellsSg) cellsSg_inj (y := (setF zeroSg ((k + 1 : Nat) : Int) x)) (z := (setF zeroSg ((k + 1 : Nat) : Int) y)) (by kernel_rfl) (by kernel_rfl) (by kernel_rfl)) ?_
    refine SX.B (true ^^ decide ((setF zeroSg ((k + 1 : Nat) : Int) x) = (setF zeroSg ((k + 1 : Nat) : Int) y))) (fun h11 => ?_) (fun h11 => ?_)
    · try simp only [NRM] at h11
      refine SX.E (valSg (setF zeroSg ((k + 1 : Nat) : Int) y)) (fun α => ⟨[⟨valSg y, 0, []⟩, ⟨.int .i64 ((k + 1 : Nat) : Int), 0, []⟩], ⟨by kernel_rfl, by kernel_rfl, by kernel_rfl, by kernel_rfl, trivial⟩, ⟨rfl, y, ((k + 1 : Nat) : Int), rfl, by omega, by omega, rfl⟩, SX.noAli rfl⟩) ?_
      refine SX.VC_df (Value.agg (phL [nilP (⟨0, 1, x.id, ((k + 1 : Nat) : Int), setF zeroSg ((k + 1 : Nat) : Int) y, []⟩ : Pt)]).toArray) (fun α => SX.app_rel (f := cellsH) (l1 := nilL (chT x y k)) (l2 := [nilP (⟨0, 1, x.id, ((k + 1 : Nat) : Int), setF zeroSg ((k + 1 : Nat) : Int) y, []⟩ : Pt)]) (fun _ => rfl) cellsH_one (by decide) (SX.cat1 (by kernel_rfl)) (src_rowD (by kernel_rfl)) (by have := chT_len x y k; simp only [nilL, List.length_map, List.length_cons, List.length_nil]; omega) (by have := chT_len x y k; simp only [nilL, List.length_map, List.length_cons, List.length_nil]; omega)) (rfl) ?_
      refine SX.E (.int .i64 ((((k + 1) + 1 : Nat) : Int))) (fun α => Eq.trans (b := some (.int .i64 (IntKind.i64.wrap ((k + 1 : Nat) + 1)))) (by kernel_rfl) (by rw [show (((k + 1) + 1 : Nat) : Int) = ((k + 1 : Nat) : Int) + 1 by omega, wrap_i64 (by omega) (by omega)])) ?_
      exact SX.VC_again fun α => ⟨⟨k + 1, Eq.trans (b := [.int .i64 (((k + 1) + 1 : Nat) : Int), .agg ([Value.agg (phL (nilL (chT x y k))).toArray, Value.agg (phL [nilP (⟨0, 1, x.id, ((k + 1 : Nat) : Int), setF zeroSg ((k + 1 : Nat) : Int) y, []⟩ : Pt)]).toArray].flatMap SX.cellsV).toArray]) (by kernel_rfl) (by rw [chT_other (by simpa using h11), nilL_snoc, phL_app]; simp [SX.cellsV]), by omega⟩, cast (by kernel_rfl) (show 10 - ((k + 1 + 1 : Nat) : Int).toNat < 10 - ((k + 1 : Nat) : Int).toNat by omega)⟩
    try simp only [NRM] at h11
    refine SX.E (.int .i64 ((((k + 1) + 1 : Nat) : Int))) (fun α => Eq.trans (b := some (.int .i64 (IntKind.i64.wrap ((k + 1 : Nat) + 1)))) (by kernel_rfl) (by rw [show (((k + 1) + 1 : Nat) : Int) = ((k + 1 : Nat) : Int) + 1 by omega, wrap_i64 (by omega) (by omega)])) ?_
    exact SX.VC_again fun α => ⟨⟨k + 1, Eq.trans (b := [.int .i64 (((k + 1) + 1 : Nat) : Int), .agg ([Value.agg (phL (nilL (chT x y k))).toArray].flatMap SX.cellsV).toArray]) (by kernel_rfl) (by rw [chT_same (by simpa using h11)]; simp [SX.cellsV]), by omega⟩, cast (by kernel_rfl) (show 10 - ((k + 1 + 1 : Nat) : Int).toNat < 10 - ((k + 1 : Nat) : Int).toNat by omega)⟩
  try simp only [NRM] at h8
  have hq : dP x y inA inB = chT x y k := by simp only [dP]; rw [if_neg (by simpa using h4), if_neg (by simpa using h5), show k = 9 by omega]; rfl
  rw [hq]
  exact SX.VC_ret fun α W _ hrow hS => ⟨hS.below, _, by kernel_rfl, SX.SlRet.row hS (n := 4) (b := (⟨[(.x 7 [])], 55, (.row 19)⟩ : SX.Blk)) (by kernel_rfl) rfl (hrow 4 _ (by kernel_rfl)) (Eq.trans (b := [Value.agg (phL (nilL (chT x y k))).toArray].flatMap SX.cellsV) (by kernel_rfl) (by simp [SX.cellsV]))⟩
def tree_rincr : SX.Tree :=
(.loop [(.i 0)] [.one]
(.df (.len false) [(.q 0)] .one
(.df (.bin .lss 3) [(.q 3), (.q 4)] .one
(.br 5 []
(.df .bnd [(.q 0), (.q 3)] .one
(.df (.elem 1 0) [(.q 0), (.q 3)] .one
(.df (.bin .lss 3) [(.q 7), (.q 1)] .one
(.br 8 []
(.ret (.k (.bool false)) [] [])
(.df .bnd [(.q 0), (.q 3)] .one
(.df (.elem 1 0) [(.q 0), (.q 3)] .one
(.df (.bin .gtr 3) [(.q 10), (.q 2)] .one
(.br 11 []
(.ret (.k (.bool false)) [] [])
(.df (.bin .gtr 3) [(.q 3), (.i 0)] .one
(.br 12 []
(.df .bnd [(.q 0), (.q 3)] .one
(.df (.elem 1 0) [(.q 0), (.q 3)] .one
(.df (.bin .sub 3) [(.q 3), (.i 1)] .one
(.df .bnd [(.q 0), (.q 15)] .one
(.df (.elem 1 0) [(.q 0), (.q 15)] .one
(.df (.bin .leq 3) [(.q 14), (.q 17)] .one
(.br 18 []
(.ret (.k (.bool false)) [] [])
(.df (.bin .add 3) [(.q 3), (.i 1)] .one
(.again 0 [(.q 19)])))))))))
(.df (.bin .add 3) [(.q 3), (.i 1)] .one
(.again 0 [(.q 13)]))))))))))))
(.ret (.k (.bool true)) [] [])))))
def args_rincr : List SX.V := [.x 0 [], .x 1 [], .x 2 []]
set_option maxRecDepth 100000 in
theorem run_rincr (K A : Value → Nat → List Value → Prop) : (SX.run (cx0 K A) ⟨fun f => true, [⟨45, 2, [(.s 7, .one)]⟩], 0, 100⟩ 100000 0 (SX.door 45 Try.f45 args_rincr [.one, .one, .one]) [.code (Try.f45.body.getD .skip), .top Try.f45]).strip = tree_rincr := by kernel_rfl
set_option maxRecDepth 100000 in
set_option maxHeartbeats 4000000 in
theorem rincr_any (l : List Int) (A : Option Addr) (n c : Nat) (lo hi : Int) (w : World) (hr : Rd w 1 A n (intsL l)) (hn : n ≤ 9223372036854775807) (hc : n ≤ c) : Calls Try.prog 45 #[.slice A n c, .int .i64 lo, .int .i64 hi] w fun e w' => e = .returned (.bool (incrB l lo hi)) ∧ Below w.heap.size w w' := by
  refine SX.calls_of_run (C := cx0 (fun s sz cells => s = .slice A n c ∧ sz = 1 ∧ cells = intsL l) (fun _ _ _ => False)) (G := ⟨fun f => true, [⟨45, 2, [(.s 7, .one)]⟩], 0, 100⟩) (args := args_rincr) (sh := [.one, .one, .one]) (ρ := [.slice A n c, .int .i64 lo, .int .i64 hi]) 100000 tree_rincr (cx0_ok _ _) Try.func45 rfl (run_rincr _ _) (by kernel_rfl) (by kernel_rfl) (by kernel_rfl) ?_ ?_
  · rintro W hW s sz cells ⟨rfl, rfl, rfl⟩; exact ⟨hr.same0 hW, hc⟩
  have hA := SX.rd_some hr
  have hln : l.length = n := by have := hr.1; rw [intsL_len] at this; omega
  unfold tree_rincr
  refine SX.VC_loop (fun xs => ∃ i : Nat, xs = [.int .i64 (i : Int)] ∧ i ≤ n ∧ incrTo l lo hi i) (fun xs => match xs with | [.int _ i] => n - i.toNat | _ => 0) (fun α => ⟨0, by kernel_rfl, by omega, incrTo_zero⟩) ?_
  rintro xs - ⟨i, rfl, hin, hok⟩
  refine SX.D (.int .i64 (((n : Nat) : Int))) ?_
  refine SX.D (.bool (decide (((i : Nat) : Int) < ((n : Nat) : Int)))) ?_
  refine SX.B (decide (((i : Nat) : Int) < ((n : Nat) : Int))) (fun h5 => ?_) (fun h5 => ?_)
  · try simp only [NRM] at h5
    obtain ⟨y, hy⟩ : ∃ y, l[i]? = some y := ⟨_, List.getElem?_eq_getElem (by omega)⟩
    refine SX.E (.bool true) (fun α => SX.extBnd (A := A) (n := n) (c := c) (j := i) hA (by kernel_rfl) (by kernel_rfl) (by omega)) ?_
    refine SX.E (.int .i64 y) (fun α => SX.extElem (o := 0) (v := .int .i64 y) (f := cellsI) (l := l) (A := A) (n := n) (c := c) (j := i) (z := y) (fun _ => rfl) hA (by kernel_rfl) (by kernel_rfl) (by omega) ⟨rfl, rfl, rfl⟩ hy (by decide) (by kernel_rfl)) ?_
    refine SX.D (.bool (decide (y < lo))) ?_
    refine SX.B (decide (y < lo)) (fun h8 => ?_) (fun h8 => ?_)
    · try simp only [NRM] at h8
      have hq : incrB l lo hi = false := incrB_no (incrTo_no hy fun hk => by omega)
      exact SX.F (.bool false) (by rw [hq])
    try simp only [NRM] at h8
    refine SX.E (.bool true) (fun α => SX.extBnd (A := A) (n := n) (c := c) (j := i) hA (by kernel_rfl) (by kernel_rfl) (by omega)) ?_
    refine SX.E (.int .i64 y) (fun α => SX.extElem (o := 0) (v := .int .i64 y) (f := cellsI) (l := l) (A := A) (n := n) (c := c) (j := i) (z := y) (fun _ => rfl) hA (by kernel_rfl) (by kernel_rfl) (by omega) ⟨rfl, rfl, rfl⟩ hy (by decide) (by kernel_rfl)) ?_
    refine SX.D (.bool (decide (y > hi))) ?_
    refine SX.B (decide (y > hi)) (fun h11 => ?_) (fun h11 => ?_)
    · try simp only [NRM] at h11
      have hq : incrB l lo hi = false := incrB_no (incrTo_no hy fun hk => by omega)
      exact SX.F (.bool false) (by rw [hq])
    try simp only [NRM] at h11
    refine SX.D (.bool (decide (((i : Nat) : Int) > 0))) ?_
    refine SX.B (decide (((i : Nat) : Int) > 0)) (fun h12 => ?_) (fun h12 => ?_)
    · try simp only [NRM] at h12
      refine SX.E (.bool true) (fun α => SX.extBnd (A := A) (n := n) (c := c) (j := i) hA (by kernel_rfl) (by kernel_rfl) (by omega)) ?_
      refine SX.E (.int .i64 y) (fun α => SX.extElem (o := 0) (v := .int .i64 y) (f := cellsI) (l := l) (A := A) (n := n) (c := c) (j := i) (z := y) (fun _ => rfl) hA (by kernel_rfl) (by kernel_rfl) (by omega) ⟨rfl, rfl, rfl⟩ hy (by decide) (by kernel_rfl)) ?_
      obtain ⟨z, hz⟩ : ∃ z, l[i - 1]? = some z := ⟨_, List.getElem?_eq_getElem (by omega)⟩
      refine SX.E (.int .i64 (((i - 1 : Nat) : Int))) (fun α => Eq.trans (b := some (.int .i64 (IntKind.i64.wrap ((i : Int) - 1)))) (by kernel_rfl) (by rw [show ((i - 1 : Nat) : Int) = (i : Int) - 1 by omega, wrap_i64 (by omega) (by omega)])) ?_
      refine SX.E (.bool true) (fun α => SX.extBnd (A := A) (n := n) (c := c) (j := i - 1) hA (by kernel_rfl) (by kernel_rfl) (by omega)) ?_
      refine SX.E (.int .i64 z) (fun α => SX.extElem (o := 0) (v := .int .i64 z) (f := cellsI) (l := l) (A := A) (n := n) (c := c) (j := i - 1) (z := z) (fun _ => rfl) hA (by kernel_rfl) (by kernel_rfl) (by omega) ⟨rfl, rfl, rfl⟩ hz (by decide) (by kernel_rfl)) ?_
      refine SX.D (.bool (decide (y ≤ z))) ?_
      refine SX.B (decide (y ≤ z)) (fun h18 => ?_) (fun h18 => ?_)
      · try simp only [NRM] at h18
        have hq : incrB l lo hi = false := incrB_no (incrTo_no hy fun hk => absurd (hk.2.2 z (by omega) hz) (by omega))
        exact SX.F (.bool false) (by rw [hq])
      try simp only [NRM] at h18
      refine SX.E (.int .i64 (((i + 1 : Nat) : Int))) (fun α => SX.W1 i) ?_
      exact SX.VC_again fun α => ⟨⟨i + 1, by kernel_rfl, by omega, incrTo_succ hok hy (by omega) (by omega) fun z' h0 hz' => by rw [hz] at hz'; cases hz'; omega⟩, cast (by kernel_rfl) (show n - ((i + 1 : Nat) : Int).toNat < n - (i : Int).toNat by omega)⟩
    try simp only [NRM] at h12
    refine SX.E (.int .i64 (((i + 1 : Nat) : Int))) (fun α => SX.W1 i) ?_
    exact SX.VC_again fun α => ⟨⟨i + 1, by kernel_rfl, by omega, incrTo_succ hok hy (by omega) (by omega) fun z' h0 hz' => absurd h0 (by omega)⟩, cast (by kernel_rfl) (show n - ((i + 1 : Nat) : Int).toNat < n - (i : Int).toNat by omega)⟩
  try simp only [NRM] at h5
  have hq : incrB l lo hi = true := incrB_yes (by have : i = l.length := (by omega); subst this; exact hok)
  exact SX.F (.bool true) (by rw [hq])
def tree_rints : SX.Tree :=
(.df (.len false) [(.q 0)] .one
(.df (.len false) [(.q 1)] .one
(.df (.bin .neq 3) [(.q 2), (.q 3)] .one
(.br 4 []
(.ret (.k (.bool false)) [] [])
(.loop [(.i 0)] [.one]
(.df (.len false) [(.q 0)] .one
(.df (.bin .lss 3) [(.q 5), (.q 6)] .one
(.br 7 []
(.df .bnd [(.q 0), (.q 5)] .one
(.df (.elem 1 0) [(.q 0), (.q 5)] .one
(.df .bnd [(.q 1), (.q 5)] .one
(.df (.elem 1 0) [(.q 1), (.q 5)] .one
(.df (.bin .neq 3) [(.q 9), (.q 11)] .one
(.br 12 []
(.ret (.k (.bool false)) [] [])
(.df (.bin .add 3) [(.q 5), (.i 1)] .one
(.again 0 [(.q 13)]))))))))
(.ret (.k (.bool true)) [] [])))))))))
def args_rints : List SX.V := [.x 0 [], .x 1 []]
set_option maxRecDepth 100000 in
theorem run_rints (K A : Value → Nat → List Value → Prop) : (SX.run (cx0 K A) ⟨fun f => true, [⟨96, 4, [(.s 5, .one)]⟩], 0, 100⟩ 100000 0 (SX.door 96 Try.f96 args_rints [.one, .one]) [.code (Try.f96.body.getD .skip), .top Try.f96]).strip = tree_rints := by kernel_rfl
set_option maxRecDepth 100000 in
set_option maxHeartbeats 4000000 in
theorem rints_any (l m : List Int) (A : Option Addr) (n c : Nat) (B : Option Addr) (k d : Nat) (w : World) (hr : Rd w 1 A n (intsL l)) (hn : n ≤ 9223372036854775807) (hc : n ≤ c) (hr2 : Rd w 1 B k (intsL m)) (hn2 : k ≤ 9223372036854775807) (hc2 : k ≤ d) : Calls Try.prog 96 #[.slice A n c, .slice B k d] w fun e w' => e = .returned (.bool (decide (l = m))) ∧ Below w.heap.size w w' := by
  refine SX.calls_of_run (C := cx0 (fun s sz cells => (s = .slice A n c ∧ sz = 1 ∧ cells = intsL l) ∨ (s = .slice B k d ∧ sz = 1 ∧ cells = intsL m)) (fun _ _ _ => False)) (G := ⟨fun f => true, [⟨96, 4, [(.s 5, .one)]⟩], 0, 100⟩) (args := args_rints) (sh := [.one, .one]) (ρ := [.slice A n c, .slice B k d]) 100000 tree_rints (cx0_ok _ _) Try.func96 rfl (run_rints _ _) (by kernel_rfl) (by kernel_rfl) (by kernel_rfl) ?_ ?_
  · rintro W hW s sz cells (⟨rfl, rfl, rfl⟩ | ⟨rfl, rfl, rfl⟩)
    · exact ⟨hr.same0 hW, hc⟩
    exact ⟨hr2.same0 hW, hc2⟩
  have hA := SX.rd_some hr
  have hln : l.length = n := by have := hr.1; rw [intsL_len] at this; omega
  have hB := SX.rd_some hr2
  have hlm : m.length = k := by have := hr2.1; rw [intsL_len] at this; omega
  unfold tree_rints
  refine SX.D (.int .i64 (((n : Nat) : Int))) ?_
  refine SX.D (.int .i64 (((k : Nat) : Int))) ?_
  refine SX.D (.bool ((((n : Nat) : Int) : Int) != ((k : Nat) : Int))) ?_
  refine SX.B ((((n : Nat) : Int) : Int) != ((k : Nat) : Int)) (fun h4 => ?_) (fun h4 => ?_)
  · try simp only [NRM] at h4
    have hq : decide (l = m) = false := decide_eq_false fun hk => h4 (by rw [← hln, ← hlm, hk])
    exact SX.F (.bool false) (by rw [hq])
  try simp only [NRM] at h4
  refine SX.VC_loop (fun xs => ∃ i : Nat, xs = [.int .i64 (i : Int)] ∧ i ≤ n ∧ l.take i = m.take i) (fun xs => match xs with | [.int _ i] => n - i.toNat | _ => 0) (fun α => ⟨0, by kernel_rfl, by omega, rfl⟩) ?_
  rintro xs - ⟨i, rfl, hin, htk⟩
  refine SX.D (.int .i64 (((n : Nat) : Int))) ?_
  refine SX.D (.bool (decide (((i : Nat) : Int) < ((n : Nat) : Int)))) ?_
  refine SX.B (decide (((i : Nat) : Int) < ((n : Nat) : Int))) (fun h7 => ?_) (fun h7 => ?_)
  · try simp only [NRM] at h7
    obtain ⟨y, hy⟩ : ∃ y, l[i]? = some y := ⟨_, List.getElem?_eq_getElem (by omega)⟩
    obtain ⟨z, hz⟩ : ∃ z, m[i]? = some z := ⟨_, List.getElem?_eq_getElem (by omega)⟩
    refine SX.E (.bool true) (fun α => SX.extBnd (A := A) (n := n) (c := c) (j := i) hA (by kernel_rfl) (by kernel_rfl) (by omega)) ?_
    refine SX.E (.int .i64 y) (fun α => SX.extElem (o := 0) (v := .int .i64 y) (f := cellsI) (l := l) (A := A) (n := n) (c := c) (j := i) (z := y) (fun _ => rfl) hA (by kernel_rfl) (by kernel_rfl) (by omega) (.inl ⟨rfl, rfl, rfl⟩) hy (by decide) (by kernel_rfl)) ?_
    refine SX.E (.bool true) (fun α => SX.extBnd (A := B) (n := k) (c := d) (j := i) hB (by kernel_rfl) (by kernel_rfl) (by omega)) ?_
    refine SX.E (.int .i64 z) (fun α => SX.extElem (o := 0) (v := .int .i64 z) (f := cellsI) (l := m) (A := B) (n := k) (c := d) (j := i) (z := z) (fun _ => rfl) hB (by kernel_rfl) (by kernel_rfl) (by omega) (.inr ⟨rfl, rfl, rfl⟩) hz (by decide) (by kernel_rfl)) ?_
    refine SX.D (.bool ((y : Int) != z)) ?_
    refine SX.B ((y : Int) != z) (fun h12 => ?_) (fun h12 => ?_)
    · try simp only [NRM] at h12
      have hq : decide (l = m) = false := decide_eq_false fun hk => h12 (by rw [hk, hz] at hy; cases hy; rfl)
      exact SX.F (.bool false) (by rw [hq])
    try simp only [NRM] at h12
    refine SX.E (.int .i64 (((i + 1 : Nat) : Int))) (fun α => SX.W1 i) ?_
    exact SX.VC_again fun α => ⟨⟨i + 1, by kernel_rfl, by omega, by rw [List.take_add_one, List.take_add_one, htk, hy, hz, h12]⟩, cast (by kernel_rfl) (show n - ((i + 1 : Nat) : Int).toNat < n - (i : Int).toNat by omega)⟩
  try simp only [NRM] at h7
  have hq : decide (l = m) = true := decide_eq_true (by rw [List.take_of_length_le (by omega), List.take_of_length_le (by omega)] at htk; exact htk)
  exact SX.F (.bool true) (by rw [hq])
def RD2 (f : FuncId) (xs : List SX.Arg) (v : Value) : Prop :=
  (f = 96 ∧ ∃ (u1 u2 : Value) (l m : List Int), xs = [⟨u1, 1, intsL l⟩, ⟨u2, 1, intsL m⟩] ∧ l.length ≤ 9223372036854775807 ∧ m.length ≤ 9223372036854775807 ∧ v = .bool (decide (l = m)))
def shpD2 : FuncId → Option SX.Sh := fun f => if f = 96 then some .one else none
noncomputable def cxD2 (K A : Value → Nat → List Value → Prop) : SX.Cx := { P := Try.prog, R := fun _ => RD2, shp := shpD2, K := K, A := A }
theorem okD2 (K A : Value → Nat → List Value → Prop) : (cxD2 K A).Ok := by
  refine SX.Cx.ok_of (fun _ => rfl) ?_
  intro K f xs v W hR hrd hKf
  rcases hR with ⟨rfl, u1, u2, l, m, rfl, hl, hm, rfl⟩
  obtain ⟨A, n, c, rfl, hr, hc, hln⟩ := ints_arg (hrd ⟨u1, 1, intsL l⟩ (by simp))
  obtain ⟨B, k, d, rfl, hr2, hc2, hlm⟩ := ints_arg (hrd ⟨u2, 1, intsL m⟩ (by simp))
  exact (rints_any l m A n c B k d W hr (by omega) hc hr2 (by omega) hc2).mono fun e w' h => SX.plainOk rfl h
def tree_rpatch : SX.Tree :=
(.df (.bin .eql 3) [(.x 0 [0]), (.x 1 [0])] .one
(.br 2 []
(.df (.bin .eql 3) [(.x 0 [1]), (.x 1 [1])] .one
(.br 3 []
(.df (.bin .eql 3) [(.x 0 [2]), (.x 1 [2])] .one
(.br 4 []
(.df (.bin .eql 3) [(.x 0 [3]), (.x 1 [3])] .one
(.br 5 []
(.df (.eqr false 14 [(.i .i64), (.i .i64), (.i .i64), (.i .i64), (.i .i64), (.i .i64), (.i .i64), (.i .i64), (.i .i64), (.i .i64), (.i .i64), (.i .i64), (.i .i64), (.i .i64)]) (SX.Y 0 4 14 ++ SX.Y 1 4 14) .one
(.br 6 []
(.df (.call 96 [(.ext 1), (.ext 1)]) [(.x 0 [18]), (.x 1 [18])] .one
(.ret (.q 7) [] []))
(.ret (.k (.bool false)) [] [])))
(.ret (.k (.bool false)) [] [])))
(.ret (.k (.bool false)) [] [])))
(.ret (.k (.bool false)) [] [])))
(.ret (.k (.bool false)) [] [])))
def args_rpatch : List SX.V := [.a ((List.range 19).map fun j => .x 0 [j]), .a ((List.range 19).map fun j => .x 1 [j])]
set_option maxRecDepth 100000 in
theorem run_rpatch (K A : Value → Nat → List Value → Prop) : (SX.run (cxD2 K A) ⟨fun f => true, [], 0, 100⟩ 100000 0 (SX.door 47 Try.f47 args_rpatch [.ag 19, .ag 19]) [.code (Try.f47.body.getD .skip), .top Try.f47]).strip = tree_rpatch := by kernel_rfl
set_option maxRecDepth 100000 in
set_option maxHeartbeats 4000000 in
theorem rpatch_any (y z : Ph) (w : World) (hr : SX.Arg.rd w ⟨y.h, 1, intsL y.1.needs⟩) (hr2 : SX.Arg.rd w ⟨z.h, 1, intsL z.1.needs⟩) (hy9 : y.1.needs.length ≤ 9223372036854775807) (hz9 : z.1.needs.length ≤ 9223372036854775807) : Calls Try.prog 47 #[.agg (cellsH y).toArray, .agg (cellsH z).toArray] w fun e w' => e = .returned (.bool (decide (y.1 = z.1))) ∧ Below w.heap.size w w' := by
  refine SX.calls_of_run (C := cxD2 (fun s sz cells => (s = y.h ∧ sz = 1 ∧ cells = intsL y.1.needs) ∨ (s = z.h ∧ sz = 1 ∧ cells = intsL z.1.needs)) (fun _ _ _ => False)) (G := ⟨fun f => true, [], 0, 100⟩) (args := args_rpatch) (sh := [.ag 19, .ag 19]) (ρ := [.agg (cellsH y).toArray, .agg (cellsH z).toArray]) 100000 tree_rpatch (okD2 _ _) Try.func47 rfl (run_rpatch _ _) (by kernel_rfl) (by kernel_rfl) (by kernel_rfl) ?_ ?_
  · rintro W hW s sz cells (⟨rfl, rfl, rfl⟩ | ⟨rfl, rfl, rfl⟩)
    · exact ⟨hr.1.same0 hW, hr.2⟩
    exact ⟨hr2.1.same0 hW, hr2.2⟩
  have hpq : y.1 = z.1 ↔ y.1.id = z.1.id ∧ y.1.kind = z.1.kind ∧ y.1.sign = z.1.sign ∧ y.1.field = z.1.field ∧ y.1.new = z.1.new ∧ y.1.needs = z.1.needs := by
    obtain ⟨p, -⟩ := y; obtain ⟨q, -⟩ := z; cases p; cases q; simp
  unfold tree_rpatch
  refine SX.D (.bool ((y.1.id : Int) == z.1.id)) ?_
  refine SX.B ((y.1.id : Int) == z.1.id) (fun h2 => ?_) (fun h2 => ?_)
  · try simp only [NRM] at h2
    refine SX.D (.bool ((y.1.kind : Int) == z.1.kind)) ?_
    refine SX.B ((y.1.kind : Int) == z.1.kind) (fun h3 => ?_) (fun h3 => ?_)
    · try simp only [NRM] at h3
      refine SX.D (.bool ((y.1.sign : Int) == z.1.sign)) ?_
      refine SX.B ((y.1.sign : Int) == z.1.sign) (fun h4 => ?_) (fun h4 => ?_)
      · try simp only [NRM] at h4
        refine SX.D (.bool ((y.1.field : Int) == z.1.field)) ?_
        refine SX.B ((y.1.field : Int) == z.1.field) (fun h5 => ?_) (fun h5 => ?_)
        · try simp only [NRM] at h5
          refine SX.E (.bool (false ^^ decide (y.1.new = z.1.new))) (fun α => SX.eqr_rel (f := cellsSg) cellsSg_inj (y := y.1.new) (z := z.1.new) (by kernel_rfl) (by kernel_rfl) (by kernel_rfl)) ?_
          refine SX.B (false ^^ decide (y.1.new = z.1.new)) (fun h6 => ?_) (fun h6 => ?_)
          · try simp only [NRM] at h6
            refine SX.E (.bool (decide (y.1.needs = z.1.needs))) (fun α => ⟨[⟨y.h, 1, intsL y.1.needs⟩, ⟨z.h, 1, intsL z.1.needs⟩], ⟨by kernel_rfl, by kernel_rfl, .inl ⟨rfl, rfl, rfl⟩, by kernel_rfl, by kernel_rfl, .inr ⟨rfl, rfl, rfl⟩, trivial⟩, ⟨rfl, _, _, y.1.needs, z.1.needs, rfl, hy9, hz9, rfl⟩, SX.noAli rfl⟩) ?_
            have hq : decide (y.1 = z.1) = decide (y.1.needs = z.1.needs) := by
              by_cases hk : y.1.needs = z.1.needs
              · rw [decide_eq_true hk, decide_eq_true (hpq.2 ⟨h2, h3, h4, h5, by simpa using h6, hk⟩)]
              rw [decide_eq_false hk, decide_eq_false fun h => hk (hpq.1 h).2.2.2.2.2]
            exact SX.F (.bool (decide (y.1.needs = z.1.needs))) (by rw [hq])
          try simp only [NRM] at h6
          exact SX.F (.bool false) (by congr 1; symm; rw [decide_eq_false_iff_not, hpq]; intro hk; exact absurd hk.2.2.2.2.1 (by simpa using h6))
        try simp only [NRM] at h5
        exact SX.F (.bool false) (by congr 1; symm; rw [decide_eq_false_iff_not, hpq]; intro hk; exact h5 hk.2.2.2.1)
      try simp only [NRM] at h4
      exact SX.F (.bool false) (by congr 1; symm; rw [decide_eq_false_iff_not, hpq]; intro hk; exact h4 hk.2.2.1)
    try simp only [NRM] at h3
    exact SX.F (.bool false) (by congr 1; symm; rw [decide_eq_false_iff_not, hpq]; intro hk; exact h3 hk.2.1)
  try simp only [NRM] at h2
  exact SX.F (.bool false) (by congr 1; symm; rw [decide_eq_false_iff_not, hpq]; intro hk; exact h2 hk.1)
theorem ph_arg {W : World} {u : Value} {l : List Ph} (h : SX.Arg.rd W ⟨u, 19, phL l⟩) : ∃ A n c, u = .slice A n c ∧ Rd W 19 A n (phL l) ∧ n ≤ c ∧ l.length = n := by
  unfold SX.Arg.rd at h
  split at h
  · rename_i A n c hu
    have hu : u = .slice A n c := hu
    refine ⟨A, n, c, hu, h.1, h.2, ?_⟩
    have := h.1.1; simp only [phL_len] at this; omega
  cases h
def RD3 (K : Value → Nat → List Value → Prop) (f : FuncId) (xs : List SX.Arg) (v : Value) : Prop :=
  (f = 47 ∧ ∃ (y z : Ph), xs = [⟨.agg (cellsH y).toArray, 0, []⟩, ⟨.agg (cellsH z).toArray, 0, []⟩] ∧ K y.h 1 (intsL y.1.needs) ∧ K z.h 1 (intsL z.1.needs) ∧ y.1.needs.length ≤ 9223372036854775807 ∧ z.1.needs.length ≤ 9223372036854775807 ∧ v = .bool (decide (y.1 = z.1)))
def shpD3 : FuncId → Option SX.Sh := fun f => if f = 47 then some .one else none
noncomputable def cxD3 (K A : Value → Nat → List Value → Prop) : SX.Cx := { P := Try.prog, R := RD3, shp := shpD3, K := K, A := A }
theorem okD3 (K A : Value → Nat → List Value → Prop) : (cxD3 K A).Ok := by
  refine SX.Cx.ok_of (fun _ => rfl) ?_
  intro K f xs v W hR hrd hKf
  rcases hR with ⟨rfl, y, z, rfl, hk1, hk2, hb1, hb2, rfl⟩
  exact (rpatch_any y z W (hKf _ _ _ hk1) (hKf _ _ _ hk2) hb1 hb2).mono fun e w' h => SX.plainOk rfl h
def KP2 (A : Option Addr) (n c : Nat) (L : List Ph) (B : Option Addr) (m d : Nat) (M : List Ph) (s : Value) (z : Nat) (xs : List Value) : Prop :=
  (s = .slice A n c ∧ z = 19 ∧ xs = phL L) ∨ (s = .slice B m d ∧ z = 19 ∧ xs = phL M) ∨ (∃ y ∈ L, s = y.h ∧ z = 1 ∧ xs = intsL y.1.needs) ∨ (∃ y ∈ M, s = y.h ∧ z = 1 ∧ xs = intsL y.1.needs)
def tree_rpatches : SX.Tree :=
(.df (.len false) [(.q 0)] .one
(.df (.len false) [(.q 1)] .one
(.df (.bin .neq 3) [(.q 2), (.q 3)] .one
(.br 4 []
(.ret (.k (.bool false)) [] [])
(.loop [(.i 0)] [.one]
(.df (.len false) [(.q 0)] .one
(.df (.bin .lss 3) [(.q 5), (.q 6)] .one
(.br 7 []
(.df .bnd [(.q 0), (.q 5)] .one
(.df (.elems 19 0 19) [(.q 0), (.q 5)] (.ag 19)
(.df .bnd [(.q 1), (.q 5)] .one
(.df (.elems 19 0 19) [(.q 1), (.q 5)] (.ag 19)
(.df (.call 47 [.no, .no]) [(.a (SX.Y 9 0 19)), (.a (SX.Y 11 0 19))] .one
(.df .not [(.q 12)] .one
(.br 13 []
(.ret (.k (.bool false)) [] [])
(.df (.bin .add 3) [(.q 5), (.i 1)] .one
(.again 0 [(.q 14)])))))))))
(.ret (.k (.bool true)) [] [])))))))))
def args_rpatches : List SX.V := [.x 0 [], .x 1 []]
set_option maxRecDepth 100000 in
theorem run_rpatches (K A : Value → Nat → List Value → Prop) : (SX.run (cxD3 K A) ⟨fun f => true, [⟨19, 4, [(.s 5, .one)]⟩], 0, 100⟩ 100000 0 (SX.door 19 Try.f19 args_rpatches [.one, .one]) [.code (Try.f19.body.getD .skip), .top Try.f19]).strip = tree_rpatches := by kernel_rfl
set_option maxRecDepth 100000 in
set_option maxHeartbeats 4000000 in
theorem rpatches_any (L M : List Ph) (A : Option Addr) (n c : Nat) (B : Option Addr) (m d : Nat) (w : World) (hr : Rd w 19 A n (phL L)) (hn : n ≤ 9223372036854775807) (hc : n ≤ c) (hr2 : Rd w 19 B m (phL M)) (hn2 : m ≤ 9223372036854775807) (hc2 : m ≤ d) (hd : ∀ y ∈ L, SX.Arg.rd w ⟨y.h, 1, intsL y.1.needs⟩ ∧ y.1.needs.length ≤ 9223372036854775807) (hd2 : ∀ y ∈ M, SX.Arg.rd w ⟨y.h, 1, intsL y.1.needs⟩ ∧ y.1.needs.length ≤ 9223372036854775807) : Calls Try.prog 19 #[.slice A n c, .slice B m d] w fun e w' => e = .returned (.bool (decide (L.map (·.1) = M.map (·.1)))) ∧ Below w.heap.size w w' := by
  refine SX.calls_of_run (C := cxD3 (KP2 A n c L B m d M) (fun _ _ _ => False)) (G := ⟨fun f => true, [⟨19, 4, [(.s 5, .one)]⟩], 0, 100⟩) (args := args_rpatches) (sh := [.one, .one]) (ρ := [.slice A n c, .slice B m d]) 100000 tree_rpatches (okD3 _ _) Try.func19 rfl (run_rpatches _ _) (by kernel_rfl) (by kernel_rfl) (by kernel_rfl) ?_ ?_
  · rintro W hW s sz cells (⟨rfl, rfl, rfl⟩ | ⟨rfl, rfl, rfl⟩ | ⟨y, hy, rfl, rfl, rfl⟩ | ⟨y, hy, rfl, rfl, rfl⟩)
    · exact ⟨hr.same0 hW, hc⟩
    · exact ⟨hr2.same0 hW, hc2⟩
    · exact ⟨(hd y hy).1.1.same0 hW, (hd y hy).1.2⟩
    exact ⟨(hd2 y hy).1.1.same0 hW, (hd2 y hy).1.2⟩
  have hA := SX.rd_some hr
  have hln : L.length = n := by have := hr.1; rw [phL_len] at this; omega
  have hB := SX.rd_some hr2
  have hlm : M.length = m := by have := hr2.1; rw [phL_len] at this; omega
  unfold tree_rpatches
  refine SX.D (.int .i64 (((n : Nat) : Int))) ?_
  refine SX.D (.int .i64 (((m : Nat) : Int))) ?_
  refine SX.D (.bool ((((n : Nat) : Int) : Int) != ((m : Nat) : Int))) ?_
  refine SX.B ((((n : Nat) : Int) : Int) != ((m : Nat) : Int)) (fun h4 => ?_) (fun h4 => ?_)
  · try simp only [NRM] at h4
    have hq : decide (L.map (·.1) = M.map (·.1)) = false := decide_eq_false fun hk => h4 (by have := congrArg List.length hk; simp only [List.length_map] at this; omega)
    exact SX.F (.bool false) (by rw [hq])
  try simp only [NRM] at h4
  refine SX.VC_loop (fun xs => ∃ i : Nat, xs = [.int .i64 (i : Int)] ∧ i ≤ n ∧ (L.take i).map (·.1) = (M.take i).map (·.1)) (fun xs => match xs with | [.int _ i] => n - i.toNat | _ => 0) (fun α => ⟨0, by kernel_rfl, by omega, rfl⟩) ?_
  rintro xs - ⟨i, rfl, hin, htk⟩
  refine SX.D (.int .i64 (((n : Nat) : Int))) ?_
  refine SX.D (.bool (decide (((i : Nat) : Int) < ((n : Nat) : Int)))) ?_
  refine SX.B (decide (((i : Nat) : Int) < ((n : Nat) : Int))) (fun h7 => ?_) (fun h7 => ?_)
  · try simp only [NRM] at h7
    obtain ⟨y, hy⟩ : ∃ y, L[i]? = some y := ⟨_, List.getElem?_eq_getElem (by omega)⟩
    obtain ⟨z, hz⟩ : ∃ z, M[i]? = some z := ⟨_, List.getElem?_eq_getElem (by omega)⟩
    refine SX.E (.bool true) (fun α => SX.extBnd (A := A) (n := n) (c := c) (j := i) hA (by kernel_rfl) (by kernel_rfl) (by omega)) ?_
    refine SX.E (.agg (cellsH y).toArray) (fun α => SX.extElems (f := cellsH) (l := L) (A := A) (n := n) (c := c) (j := i) (z := y) (fun _ => rfl) hA (by kernel_rfl) (by kernel_rfl) (by omega) (.inl ⟨rfl, rfl, rfl⟩) hy) ?_
    refine SX.E (.bool true) (fun α => SX.extBnd (A := B) (n := m) (c := d) (j := i) hB (by kernel_rfl) (by kernel_rfl) (by omega)) ?_
    refine SX.E (.agg (cellsH z).toArray) (fun α => SX.extElems (f := cellsH) (l := M) (A := B) (n := m) (c := d) (j := i) (z := z) (fun _ => rfl) hB (by kernel_rfl) (by kernel_rfl) (by omega) (.inr (.inl ⟨rfl, rfl, rfl⟩)) hz) ?_
    refine SX.E (.bool (decide (y.1 = z.1))) (fun α => ⟨[⟨.agg (cellsH y).toArray, 0, []⟩, ⟨.agg (cellsH z).toArray, 0, []⟩], ⟨by kernel_rfl, by kernel_rfl, by kernel_rfl, by kernel_rfl, trivial⟩, ⟨rfl, y, z, rfl, .inr (.inr (.inl ⟨y, List.mem_of_getElem? hy, rfl, rfl, rfl⟩)), .inr (.inr (.inr ⟨z, List.mem_of_getElem? hz, rfl, rfl, rfl⟩)), (hd y (List.mem_of_getElem? hy)).2, (hd2 z (List.mem_of_getElem? hz)).2, rfl⟩, SX.noAli rfl⟩) ?_
    refine SX.D (.bool (!(decide (y.1 = z.1)))) ?_
    refine SX.B (!(decide (y.1 = z.1))) (fun h13 => ?_) (fun h13 => ?_)
    · try simp only [NRM] at h13
      have hq : decide (L.map (·.1) = M.map (·.1)) = false := decide_eq_false fun hk => by
        have h0 := congrArg (fun q : List Pt => q[i]?) hk
        simp only [List.getElem?_map, hy, hz, Option.map_some, Option.some.injEq] at h0
        simp [h0] at h13
      exact SX.F (.bool false) (by rw [hq])
    try simp only [NRM] at h13
    refine SX.E (.int .i64 (((i + 1 : Nat) : Int))) (fun α => SX.W1 i) ?_
    exact SX.VC_again fun α => ⟨⟨i + 1, by kernel_rfl, by omega, by rw [List.take_add_one, List.take_add_one, List.map_append, List.map_append, htk, hy, hz]; simpa using h13⟩, cast (by kernel_rfl) (show n - ((i + 1 : Nat) : Int).toNat < n - (i : Int).toNat by omega)⟩
  try simp only [NRM] at h7
  have hq : decide (L.map (·.1) = M.map (·.1)) = true := decide_eq_true (by rw [List.take_of_length_le (by omega), List.take_of_length_le (by omega)] at htk; exact htk)
  exact SX.F (.bool true) (by rw [hq])
theorem K_ofD {C : SX.Cx} {v : Value} {y : SX.Arg} (hv : v = y.v) (h : C.K y.v y.sz y.cells) : C.K v y.sz y.cells := by subst hv; exact h
theorem hd_drop {β : Type} {l : List β} {x : β} (h : l[0]? = some x) : l = x :: l.drop 1 := by
  cases l with
  | nil => cases h
  | cons y l => cases h; rfl
theorem mrg_rmD {a b : List Sg} {x : Sg} (hx : a[0]? = some x) (h : ∀ y, b[0]? = some y → x.id < y.id) : mrg a b = (mrg (a.drop 1) b).map ([remP x] ++ ·) := by
  conv => lhs; rw [hd_drop hx]
  exact mrg_rm h
theorem mrg_inD {a b : List Sg} {y : Sg} (hy : b[0]? = some y) (h : ∀ x, a[0]? = some x → y.id < x.id) : mrg a b = (mrg a (b.drop 1)).map ([insP y] ++ ·) := by
  conv => lhs; rw [hd_drop hy]
  exact mrg_in h
theorem mrg_noD {a b : List Sg} {x y : Sg} (hx : a[0]? = some x) (hy : b[0]? = some y) (h : x.id = y.id) (hk : x.kind ≠ y.kind) : mrg a b = none := by
  rw [hd_drop hx, hd_drop hy]
  exact mrg_no h hk
theorem mrg_chD {a b : List Sg} {x y : Sg} (hx : a[0]? = some x) (hy : b[0]? = some y) (h : x.id = y.id) (hk : x.kind = y.kind) : mrg a b = (mrg (a.drop 1) (b.drop 1)).map (chP x y ++ ·) := by
  conv => lhs; rw [hd_drop hx, hd_drop hy]
  exact mrg_ch h hk
theorem mrg_step {M : Option (List Pt)} {a b a2 b2 : List Sg} {acc p : List Pt} (h : M = (mrg a b).map (acc ++ ·)) (h2 : mrg a b = (mrg a2 b2).map (p ++ ·)) : M = (mrg a2 b2).map ((acc ++ p) ++ ·) := by
  rw [h, h2, Option.map_map]
  congr 1
  funext l
  simp [Function.comp]
theorem no_head {β : Type} {l : List β} (h : l.length = 0) {x : β} (hx : l[0]? = some x) : False := by
  have := (List.getElem?_eq_some_iff.1 hx).1
  omega
abbrev Hd := Option Addr × Nat × Nat
def Hd.v (h : Hd) : Value := .slice h.1 h.2.1 h.2.2
theorem num_app (first : Int) (needs : List Int) (k : Nat) (l m : List Pt) : num first needs k (l ++ m) = num first needs k l ++ num first needs (k + l.length) m := by
  induction l generalizing k with
  | nil => rfl
  | cons p l ih =>
    simp only [List.cons_append, num, ih, List.length_cons]
    rw [show k + 1 + l.length = k + (l.length + 1) by omega]
def doneL (first : Int) (needs : List Int) (l : List Pt) (hs : List Hd) : List Ph := (num first needs 0 (l.take hs.length)).zip hs ++ nilL (l.drop hs.length)
theorem doneL_nil (first : Int) (needs : List Int) (l : List Pt) : doneL first needs l [] = nilL l := rfl
theorem doneL_pre {first : Int} {needs : List Int} {l : List Pt} {hs : List Hd} (h : hs.length ≤ l.length) : ((num first needs 0 (l.take hs.length)).zip hs).length = hs.length := by
  rw [List.length_zip, num_len, List.length_take]; omega
theorem doneL_len {first : Int} {needs : List Int} {l : List Pt} {hs : List Hd} (h : hs.length ≤ l.length) : (doneL first needs l hs).length = l.length := by
  unfold doneL
  rw [List.length_append, doneL_pre h, nilL, List.length_map, List.length_drop]; omega
theorem doneL_at {first : Int} {needs : List Int} {l : List Pt} {hs : List Hd} {p : Pt} (h : l[hs.length]? = some p) : (doneL first needs l hs)[hs.length]? = some (nilP p) := by
  have hl := (List.getElem?_eq_some_iff.1 h).1
  unfold doneL
  rw [List.getElem?_append_right (by rw [doneL_pre (by omega)]; exact Nat.le_refl _), doneL_pre (by omega), Nat.sub_self, nilL, List.getElem?_map, List.getElem?_drop, Nat.add_zero, h]
  rfl
theorem doneL_set {first : Int} {needs : List Int} {l : List Pt} {hs : List Hd} {p : Pt} (h : l[hs.length]? = some p) (z : Hd) (q : Ph) : ((doneL first needs l hs).set hs.length q).set hs.length ({p with id := first + (hs.length : Int), needs := needs}, z) = doneL first needs l (hs ++ [z]) := by
  have hl := (List.getElem?_eq_some_iff.1 h).1
  have e1 : l.drop hs.length = p :: l.drop (hs.length + 1) := by rw [List.drop_eq_getElem_cons hl, (List.getElem?_eq_some_iff.1 h).2]
  have e2 : l.take (hs.length + 1) = l.take hs.length ++ [p] := by rw [List.take_add_one, h]; rfl
  have e3 : (l.take hs.length).length = hs.length := by rw [List.length_take]; omega
  rw [List.set_set]
  unfold doneL
  rw [e1, List.length_append, List.length_singleton, e2, num_app, e3, List.zip_append (by rw [num_len, e3]), List.set_append_right _ _ (by rw [doneL_pre (by omega)]; exact Nat.le_refl _), doneL_pre (by omega), Nat.sub_self]
  simp [nilL, num]
theorem doneL_all {first : Int} {needs : List Int} {l : List Pt} {hs : List Hd} (h : hs.length = l.length) : doneL first needs l hs = (num first needs 0 l).zip hs := by
  unfold doneL
  rw [h, List.take_length, List.drop_length]
  simp [nilL]
def cells2 (p : Int × Int) : List Value := [.int .i64 p.1, .int .i64 p.2]
theorem cells2_inj (a b : Int × Int) (h : cells2 a = cells2 b) : a = b := by
  obtain ⟨a1, a2⟩ := a; obtain ⟨b1, b2⟩ := b
  simpa [cells2] using h
theorem span_iff {x y : Sg} : setF zeroSg 9 x = setF zeroSg 9 y ↔ (x.fn, x.fd) = (y.fn, y.fd) ∧ (x.tn, x.td) = (y.tn, y.td) := by
  simp [setF, zeroSg, and_assoc]
theorem nilL_app (l m : List Pt) : nilL (l ++ m) = nilL l ++ nilL m := by simp [nilL]
def KDf (A : Option Addr) (n c : Nat) (a : List Sg) (B : Option Addr) (m d : Nat) (b : List Sg) (D : Option Addr) (k e : Nat) (needs : List Int) (s : Value) (z : Nat) (xs : List Value) : Prop :=
  (s = .slice A n c ∧ z = 14 ∧ xs = sgsL a) ∨ (s = .slice B m d ∧ z = 14 ∧ xs = sgsL b) ∨ (s = .slice D k e ∧ z = 1 ∧ xs = intsL needs)
def RnI (K : Value → Nat → List Value → Prop) (f : FuncId) (xs : List SX.Arg) (Q : Value → List SX.Arg → Prop) : Prop := f = 43 ∧ ∃ (u : Value) (l : List Int), xs = [⟨u, 1, intsL l⟩] ∧ l.length ≤ 1000000 ∧ ∀ A n c, Q (.slice A n c) [⟨.slice A n c, 1, intsL l⟩]
def RD4 (f : FuncId) (xs : List SX.Arg) (v : Value) : Prop :=
  (f = 14 ∧ ∃ (u : Value) (ss : List Sg), xs = [⟨u, 14, sgsL ss⟩] ∧ ss.length ≤ 9223372036854775807 ∧ v = .int .i64 (chkS ss))
def shpD4 : FuncId → Option SX.Sh := fun f => if f = 14 then some .one else none
noncomputable def cxD4 (nb : Nat) (K A : Value → Nat → List Value → Prop) : SX.Cx := { nsh := fun f => if f = 43 then some .one else none, Rn := RnI, nb := nb, trm := true, tl := [42, 41], cut := [(7, 1000001, false), (8, 1000129, false), (28, 8935714284162, false), (37, 36600681612927618, true), (28, 8935714284225, true), (30, 571885651190402, true), (32, 36600681613185730, false)], P := Try.prog, R := fun _ => RD4, shp := shpD4, K := K, A := A }
theorem okD4 (nb : Nat) (K A : Value → Nat → List Value → Prop) : (cxD4 nb K A).Ok := by
  refine SX.Cx.ok_nd (fun _ => rfl) ?_ fun f sh hs K xs Q W h hrd hK => ?_
  case refine_2 =>
    obtain ⟨rfl, u, l, rfl, hl, hQ⟩ := h
    have hs : some SX.Sh.one = some sh := hs
    cases hs
    obtain ⟨A, n, c, rfl, hr, hc, hn⟩ := ints_arg (hrd ⟨u, 1, intsL l⟩ (by simp))
    refine (cloneI_any l A n c W hr hc (by omega)).mono fun e w' ⟨h1, hdr, h2, ⟨A2, n2, c2, h3, _⟩, h4, h5⟩ => ?_
    subst h3
    refine ⟨h1, _, _, h2, rfl, hQ A2 n2 c2, fun y hy => ?_⟩
    obtain rfl : y = ⟨.slice A2 n2 c2, 1, intsL l⟩ := by simpa using hy
    exact ⟨h4, h5.resolve_right fun ⟨y, hy, _⟩ => nomatch hy⟩
  intro K f xs v W hR hrd hKf
  rcases hR with ⟨rfl, u, ss, rfl, hb, rfl⟩
  obtain ⟨A, n, c, rfl, h2, h3, h4⟩ := sgs_arg (hrd ⟨u, 14, sgsL ss⟩ (by simp))
  exact (echeck_any ss A n c W h2 (by omega) h3).mono fun e w' h => SX.plainOk rfl h
def tree_diff : SX.Tree :=
(.df (.call 14 [(.ext 14)]) [(.q 0)] .one
(.df (.call 14 [(.ext 14)]) [(.q 1)] .one
(.df (.bin .neq 31) [(.q 4), (.i 0)] .one
(.br 6 []
(.df (.bin .neq 31) [(.q 4), (.i 0)] .one
(.br 7 []
(.ret (.t [(.k (.slice none 0 0)), (.q 4)]) [none] []) (.bad 70 [])))
(.df (.bin .neq 31) [(.q 5), (.i 0)] .one
(.br 7 []
(.df (.bin .neq 31) [(.q 5), (.i 0)] .one
(.br 8 []
(.ret (.t [(.k (.slice none 0 0)), (.q 5)]) [none] []) (.bad 70 [])))
(.df (.len false) [(.q 3)] .one
(.df (.bin .gtr 3) [(.q 8), (.i 32)] .one
(.br 9 []
(.ret (.t [(.k (.slice none 0 0)), (.i 2)]) [none] [])
(.df (.len false) [(.q 3)] .one
(.loop [(.i 0), (.i 0), (.cat [])] [.one, .one, .any]
(.df (.bin .lss 3) [(.q 11), (.q 10)] .one
(.br 14 []
(.df .bnd [(.q 3), (.q 11)] .one
(.df (.elem 1 0) [(.q 3), (.q 11)] .one
(.df (.bin .leq 3) [(.q 16), (.q 12)] .one
(.br 17 []
(.ret (.t [(.k (.slice none 0 0)), (.i 360)]) [none, none, none, none, none] [])
(.df (.bin .geq 3) [(.q 16), (.q 2)] .one
(.br 18 []
(.ret (.t [(.k (.slice none 0 0)), (.i 360)]) [none, none, none, none, none] [])
(.df (.bin .add 3) [(.q 11), (.i 1)] .one
(.again 0 [(.q 19), (.q 16), (.cat [(.q 13)])]))))))))
(.df (.bin .geq 3) [(.q 2), (.i 1)] .one
(.br 15 []
(.df (.bin .leq 3) [(.q 2), (.i 1048576)] .one
(.df .not [(.q 16)] .one
(.br 17 []
(.ret (.t [(.k (.slice none 0 0)), (.i 360)]) [none, none, none, none, none] [])
(.df (.kext 14) [(.q 0)] .any
(.df (.kext 14) [(.q 1)] .any
(.loop [(.cat [(.q 18)]), (.cat [(.q 19)]), (.cat [(.q 13)])] [.any, .any, .any]
(.df (.rlen 14) [(.cat [(.q 20)])] .one
(.df (.bin .gtr 3) [(.q 23), (.i 0)] .one
(.br 24 []
(.df (.rlen 14) [(.cat [(.q 21)])] .one
(.df (.bin .eql 3) [(.q 25), (.i 0)] .one
(.br 26 []
(.df (.rbnd 14) [(.cat [(.q 20)]), (.i 0)] .one
(.df (.rbnd 14) [(.cat [(.q 20)]), (.i 0)] .one
(.df (.relem 14 0) [(.cat [(.q 20)]), (.i 0)] .one
(.df (.app 19 168 (.own 19 [(.i 0), (.i 3), (.q 29), (.i 0), (.i 0), (.i 0), (.i 0), (.i 0), (.i 0), (.i 0), (.i 0), (.i 0), (.i 0), (.i 0), (.i 0), (.i 0), (.i 0), (.i 0), (.k (.slice none 0 0))])) [(.cat [(.q 22)]), (.sl 10 0 1 1)] .any
(.df (.slcx 14 true false) [(.cat [(.q 20)]), (.i 1)] .any
(.again 1 [(.cat [(.q 31)]), (.cat [(.q 21)]), (.cat [(.q 22), (.q 30)])]))))))
(.df (.rlen 14) [(.cat [(.q 20)])] .one
(.df (.bin .gtr 3) [(.q 27), (.i 0)] .one
(.br 28 []
(.df (.rbnd 14) [(.cat [(.q 20)]), (.i 0)] .one
(.df (.rbnd 14) [(.cat [(.q 20)]), (.i 0)] .one
(.df (.relem 14 0) [(.cat [(.q 20)]), (.i 0)] .one
(.df (.rbnd 14) [(.cat [(.q 21)]), (.i 0)] .one
(.df (.rbnd 14) [(.cat [(.q 21)]), (.i 0)] .one
(.df (.relem 14 0) [(.cat [(.q 21)]), (.i 0)] .one
(.df (.bin .lss 3) [(.q 31), (.q 34)] .one
(.br 35 []
(.df (.rbnd 14) [(.cat [(.q 20)]), (.i 0)] .one
(.df (.rbnd 14) [(.cat [(.q 20)]), (.i 0)] .one
(.df (.relem 14 0) [(.cat [(.q 20)]), (.i 0)] .one
(.df (.app 19 168 (.own 19 [(.i 0), (.i 3), (.q 38), (.i 0), (.i 0), (.i 0), (.i 0), (.i 0), (.i 0), (.i 0), (.i 0), (.i 0), (.i 0), (.i 0), (.i 0), (.i 0), (.i 0), (.i 0), (.k (.slice none 0 0))])) [(.cat [(.q 22)]), (.sl 10 0 1 1)] .any
(.df (.slcx 14 true false) [(.cat [(.q 20)]), (.i 1)] .any
(.again 1 [(.cat [(.q 40)]), (.cat [(.q 21)]), (.cat [(.q 22), (.q 39)])]))))))
(.df (.rlen 14) [(.cat [(.q 20)])] .one
(.df (.bin .eql 3) [(.q 36), (.i 0)] .one
(.br 37 [] (.bad 70 [])
(.df (.rbnd 14) [(.cat [(.q 21)]), (.i 0)] .one
(.df (.rbnd 14) [(.cat [(.q 21)]), (.i 0)] .one
(.df (.relem 14 0) [(.cat [(.q 21)]), (.i 0)] .one
(.df (.rbnd 14) [(.cat [(.q 20)]), (.i 0)] .one
(.df (.rbnd 14) [(.cat [(.q 20)]), (.i 0)] .one
(.df (.relem 14 0) [(.cat [(.q 20)]), (.i 0)] .one
(.df (.bin .lss 3) [(.q 40), (.q 43)] .one
(.br 44 []
(.df (.rbnd 14) [(.cat [(.q 21)]), (.i 0)] .one
(.df (.rbnd 14) [(.cat [(.q 21)]), (.i 0)] .one
(.df (.relem 14 0) [(.cat [(.q 21)]), (.i 0)] .one
(.df (.rbnd 14) [(.cat [(.q 21)]), (.i 0)] .one
(.df (.relems 14 0 14) [(.cat [(.q 21)]), (.i 0)] (.ag 14)
(.df (.app 19 168 (.own 19 [(.i 0), (.i 2), (.q 47), (.i 0), (.x 49 [0]), (.x 49 [1]), (.x 49 [2]), (.x 49 [3]), (.x 49 [4]), (.x 49 [5]), (.x 49 [6]), (.x 49 [7]), (.x 49 [8]), (.x 49 [9]), (.x 49 [10]), (.x 49 [11]), (.x 49 [12]), (.x 49 [13]), (.k (.slice none 0 0))])) [(.cat [(.q 22)]), (.sl 19 0 1 1)] .any
(.df (.slcx 14 true false) [(.cat [(.q 21)]), (.i 1)] .any
(.again 1 [(.cat [(.q 20)]), (.cat [(.q 51)]), (.cat [(.q 22), (.q 50)])]))))))))
(.df (.rbnd 14) [(.cat [(.q 20)]), (.i 0)] .one
(.df (.rbnd 14) [(.cat [(.q 20)]), (.i 0)] .one
(.df (.relem 14 4) [(.cat [(.q 20)]), (.i 0)] .one
(.df (.rbnd 14) [(.cat [(.q 21)]), (.i 0)] .one
(.df (.rbnd 14) [(.cat [(.q 21)]), (.i 0)] .one
(.df (.relem 14 4) [(.cat [(.q 21)]), (.i 0)] .one
(.df (.bin .neq 3) [(.q 47), (.q 50)] .one
(.br 51 []
(.ret (.t [(.k (.slice none 0 0)), (.i 360)]) (List.replicate 10 none) [])
(.df (.rbnd 14) [(.cat [(.q 20)]), (.i 0)] .one
(.df (.relems 14 0 14) [(.cat [(.q 20)]), (.i 0)] (.ag 14)
(.df (.rbnd 14) [(.cat [(.q 21)]), (.i 0)] .one
(.df (.relems 14 0 14) [(.cat [(.q 21)]), (.i 0)] (.ag 14)
(.loop [(.i 0), (.cat [(.q 22)])] [.one, .any]
(.df (.bin .lss 3) [(.q 56), (.i 8)] .one
(.br 58 []
(.sp 56 [] [
(.df (.bin .eql 3) [(.x 53 [1]), (.x 55 [1])] .one
(.br 59 []
(.again 2 [(.i 1), (.cat [(.q 57)])])
(.df (.app 19 168 (.own 19 [(.i 0), (.i 1), (.x 53 [0]), (.i 1), (.i 0), (.x 55 [1]), (.i 0), (.i 0), (.i 0), (.i 0), (.i 0), (.i 0), (.i 0), (.i 0), (.i 0), (.i 0), (.i 0), (.i 0), (.k (.slice none 0 0))])) [(.cat [(.q 57)]), (.sl 20 0 1 1)] .any
(.again 2 [(.i 1), (.cat [(.q 57), (.q 60)])])))),
(.df (.bin .eql 3) [(.x 53 [2]), (.x 55 [2])] .one
(.br 59 []
(.again 2 [(.i 2), (.cat [(.q 57)])])
(.df (.app 19 168 (.own 19 [(.i 0), (.i 1), (.x 53 [0]), (.i 2), (.i 0), (.i 0), (.x 55 [2]), (.i 0), (.i 0), (.i 0), (.i 0), (.i 0), (.i 0), (.i 0), (.i 0), (.i 0), (.i 0), (.i 0), (.k (.slice none 0 0))])) [(.cat [(.q 57)]), (.sl 20 0 1 1)] .any
(.again 2 [(.i 2), (.cat [(.q 57), (.q 60)])])))),
(.df (.bin .eql 3) [(.x 53 [3]), (.x 55 [3])] .one
(.br 59 []
(.again 2 [(.i 3), (.cat [(.q 57)])])
(.df (.app 19 168 (.own 19 [(.i 0), (.i 1), (.x 53 [0]), (.i 3), (.i 0), (.i 0), (.i 0), (.x 55 [3]), (.i 0), (.i 0), (.i 0), (.i 0), (.i 0), (.i 0), (.i 0), (.i 0), (.i 0), (.i 0), (.k (.slice none 0 0))])) [(.cat [(.q 57)]), (.sl 20 0 1 1)] .any
(.again 2 [(.i 3), (.cat [(.q 57), (.q 60)])])))),
(.df (.bin .eql 3) [(.x 53 [5]), (.x 55 [5])] .one
(.br 59 []
(.again 2 [(.i 4), (.cat [(.q 57)])])
(.df (.app 19 168 (.own 19 [(.i 0), (.i 1), (.x 53 [0]), (.i 4), (.i 0), (.i 0), (.i 0), (.i 0), (.i 0), (.x 55 [5]), (.i 0), (.i 0), (.i 0), (.i 0), (.i 0), (.i 0), (.i 0), (.i 0), (.k (.slice none 0 0))])) [(.cat [(.q 57)]), (.sl 20 0 1 1)] .any
(.again 2 [(.i 4), (.cat [(.q 57), (.q 60)])])))),
(.df (.bin .eql 3) [(.x 53 [6]), (.x 55 [6])] .one
(.br 59 []
(.again 2 [(.i 5), (.cat [(.q 57)])])
(.df (.app 19 168 (.own 19 [(.i 0), (.i 1), (.x 53 [0]), (.i 5), (.i 0), (.i 0), (.i 0), (.i 0), (.i 0), (.i 0), (.x 55 [6]), (.i 0), (.i 0), (.i 0), (.i 0), (.i 0), (.i 0), (.i 0), (.k (.slice none 0 0))])) [(.cat [(.q 57)]), (.sl 20 0 1 1)] .any
(.again 2 [(.i 5), (.cat [(.q 57), (.q 60)])])))),
(.df (.bin .eql 3) [(.x 53 [7]), (.x 55 [7])] .one
(.br 59 []
(.again 2 [(.i 6), (.cat [(.q 57)])])
(.df (.app 19 168 (.own 19 [(.i 0), (.i 1), (.x 53 [0]), (.i 6), (.i 0), (.i 0), (.i 0), (.i 0), (.i 0), (.i 0), (.i 0), (.x 55 [7]), (.i 0), (.i 0), (.i 0), (.i 0), (.i 0), (.i 0), (.k (.slice none 0 0))])) [(.cat [(.q 57)]), (.sl 20 0 1 1)] .any
(.again 2 [(.i 6), (.cat [(.q 57), (.q 60)])])))),
(.df (.bin .eql 3) [(.x 53 [8]), (.x 55 [8])] .one
(.br 59 []
(.again 2 [(.i 7), (.cat [(.q 57)])])
(.df (.app 19 168 (.own 19 [(.i 0), (.i 1), (.x 53 [0]), (.i 7), (.i 0), (.i 0), (.i 0), (.i 0), (.i 0), (.i 0), (.i 0), (.i 0), (.x 55 [8]), (.i 0), (.i 0), (.i 0), (.i 0), (.i 0), (.k (.slice none 0 0))])) [(.cat [(.q 57)]), (.sl 20 0 1 1)] .any
(.again 2 [(.i 7), (.cat [(.q 57), (.q 60)])])))),
(.df (.bin .eql 3) [(.x 53 [9]), (.x 55 [9])] .one
(.br 59 []
(.again 2 [(.i 8), (.cat [(.q 57)])])
(.df (.app 19 168 (.own 19 [(.i 0), (.i 1), (.x 53 [0]), (.i 8), (.i 0), (.i 0), (.i 0), (.i 0), (.i 0), (.i 0), (.i 0), (.i 0), (.i 0), (.x 55 [9]), (.i 0), (.i 0), (.i 0), (.i 0), (.k (.slice none 0 0))])) [(.cat [(.q 57)]), (.sl 20 0 1 1)] .any
(.again 2 [(.i 8), (.cat [(.q 57), (.q 60)])]))))])
(.df (.eqr true 2 [(.i .i64), (.i .i64)]) [(.x 53 [10]), (.x 53 [11]), (.x 55 [10]), (.x 55 [11])] .one
(.br 59 []
(.df (.app 19 168 (.own 19 [(.i 0), (.i 1), (.x 53 [0]), (.i 9), (.i 0), (.i 0), (.i 0), (.i 0), (.i 0), (.i 0), (.i 0), (.i 0), (.i 0), (.i 0), (.x 55 [10]), (.x 55 [11]), (.x 55 [12]), (.x 55 [13]), (.k (.slice none 0 0))])) [(.cat [(.q 57)]), (.sl 18 0 1 1)] .any
(.df (.slcx 14 true false) [(.cat [(.q 20)]), (.i 1)] .any
(.df (.slcx 14 true false) [(.cat [(.q 21)]), (.i 1)] .any
(.again 1 [(.cat [(.q 61)]), (.cat [(.q 62)]), (.cat [(.q 57), (.q 60)])]))))
(.df (.eqr true 2 [(.i .i64), (.i .i64)]) [(.x 53 [12]), (.x 53 [13]), (.x 55 [12]), (.x 55 [13])] .one
(.br 60 []
(.df (.app 19 168 (.own 19 [(.i 0), (.i 1), (.x 53 [0]), (.i 9), (.i 0), (.i 0), (.i 0), (.i 0), (.i 0), (.i 0), (.i 0), (.i 0), (.i 0), (.i 0), (.x 55 [10]), (.x 55 [11]), (.x 55 [12]), (.x 55 [13]), (.k (.slice none 0 0))])) [(.cat [(.q 57)]), (.sl 18 0 1 1)] .any
(.df (.slcx 14 true false) [(.cat [(.q 20)]), (.i 1)] .any
(.df (.slcx 14 true false) [(.cat [(.q 21)]), (.i 1)] .any
(.again 1 [(.cat [(.q 62)]), (.cat [(.q 63)]), (.cat [(.q 57), (.q 61)])]))))
(.df (.slcx 14 true false) [(.cat [(.q 20)]), (.i 1)] .any
(.df (.slcx 14 true false) [(.cat [(.q 21)]), (.i 1)] .any
(.again 1 [(.cat [(.q 61)]), (.cat [(.q 62)]), (.cat [(.q 57)])]))))))))))))))))))))))))))))))))))))))))) (.bad 70 [])))))))
(.df (.rlen 14) [(.cat [(.q 21)])] .one
(.df (.bin .gtr 3) [(.q 25), (.i 0)] .one
(.br 26 []
(.df (.rlen 14) [(.cat [(.q 21)])] .one
(.df (.bin .eql 3) [(.q 27), (.i 0)] .one
(.br 28 [] (.bad 70 [])
(.df (.rlen 14) [(.cat [(.q 20)])] .one
(.df (.bin .gtr 3) [(.q 29), (.i 0)] .one
(.br 30 [] (.bad 70 [])
(.df (.rlen 14) [(.cat [(.q 20)])] .one
(.df (.bin .eql 3) [(.q 31), (.i 0)] .one
(.br 32 []
(.df (.rbnd 14) [(.cat [(.q 21)]), (.i 0)] .one
(.df (.rbnd 14) [(.cat [(.q 21)]), (.i 0)] .one
(.df (.relem 14 0) [(.cat [(.q 21)]), (.i 0)] .one
(.df (.rbnd 14) [(.cat [(.q 21)]), (.i 0)] .one
(.df (.relems 14 0 14) [(.cat [(.q 21)]), (.i 0)] (.ag 14)
(.df (.app 19 168 (.own 19 [(.i 0), (.i 2), (.q 35), (.i 0), (.x 37 [0]), (.x 37 [1]), (.x 37 [2]), (.x 37 [3]), (.x 37 [4]), (.x 37 [5]), (.x 37 [6]), (.x 37 [7]), (.x 37 [8]), (.x 37 [9]), (.x 37 [10]), (.x 37 [11]), (.x 37 [12]), (.x 37 [13]), (.k (.slice none 0 0))])) [(.cat [(.q 22)]), (.sl 19 0 1 1)] .any
(.df (.slcx 14 true false) [(.cat [(.q 21)]), (.i 1)] .any
(.again 1 [(.cat [(.q 20)]), (.cat [(.q 39)]), (.cat [(.q 22), (.q 38)])])))))))) (.bad 70 []))))))))))
(.df (.rlen 19) [(.cat [(.q 22)])] .one
(.df (.bin .gtr 3) [(.q 27), (.i 512)] .one
(.br 28 []
(.ret (.t [(.k (.slice none 0 0)), (.i 2)]) (List.replicate 10 none) [])
(.df (.rlen 19) [(.cat [(.q 22)])] .one
(.df (.bin .add 3) [(.q 2), (.q 29)] .one
(.df (.bin .sub 3) [(.q 30), (.i 1)] .one
(.df (.bin .gtr 3) [(.q 31), (.i 1048576)] .one
(.br 32 []
(.ret (.t [(.k (.slice none 0 0)), (.i 2)]) (List.replicate 10 none) [])
(.df (.rlen 19) [(.cat [(.q 22)])] .one
(.loop [(.i 0), (.cat [(.q 22)])] [.one, .any]
(.df (.bin .lss 3) [(.q 34), (.q 33)] .one
(.br 36 []
(.df (.bin .add 3) [(.q 2), (.q 34)] .one
(.df (.callq 43 [(.ext 1)]) [(.q 3)] .one
(.df (.rbnd 19) [(.cat [(.q 35)]), (.q 34)] .one
(.df (.rbnd 19) [(.cat [(.q 35)]), (.q 34)] .one
(.df (.rset 19 0) [(.cat [(.q 35)]), (.q 34), (.q 37)] .any
(.df (.rbnd 19) [(.cat [(.q 35)]), (.q 34)] .one
(.df (.rbnd 19) [(.cat [(.q 35)]), (.q 34)] .one
(.df (.rset 19 18) [(.cat [(.q 41)]), (.q 34), (.q 38)] .any
(.df (.bin .add 3) [(.q 34), (.i 1)] .one
(.again 2 [(.q 45), (.cat [(.q 44)])]))))))))))
(.ret (.t [(.row 11), (.i 0)]) (List.replicate 11 none ++ [(some ⟨[(.q 35)], 55, (.row 19)⟩)]) [])))))))))))))))))))))))))
(.ret (.t [(.k (.slice none 0 0)), (.i 360)]) [none, none, none, none, none] []))))))))))))))))
def args_diff : List SX.V := [.x 0 [], .x 1 [], .x 2 [], .x 3 []]
set_option maxRecDepth 100000 in
theorem run_diff (nb : Nat) (K A : Value → Nat → List Value → Prop) : (SX.run (cxD4 nb K A) ⟨fun f => f != 43, [⟨17, 8, [(.s 28, .one), (.s 10, .one), (.s 8, .row 19 55)]⟩, ⟨17, 16, [(.s 0, .ext 14), (.s 1, .ext 14), (.s 8, .row 19 55)]⟩, ⟨93, 1, [(.s 9, .one), (.c 12 0, .row 19 55)]⟩, ⟨17, 30, [(.s 147, .one), (.s 8, .row 19 55)]⟩], 2, 100⟩ 100000 0 (SX.door 17 Try.f17 args_diff [.one, .one, .one, .one]) [.code (Try.f17.body.getD .skip), .top Try.f17]).strip = tree_diff := by kernel_rfl
set_option maxRecDepth 100000 in
set_option maxHeartbeats 4000000 in
theorem diff_any (a : List Sg) (A : Option Addr) (n c : Nat) (b : List Sg) (B : Option Addr) (m d : Nat) (first : Int) (needs : List Int) (D : Option Addr) (k e : Nat) (w : World) (hr : Rd w 14 A n (sgsL a)) (hn : n ≤ 9223372036854775807) (hc : n ≤ c) (hr2 : Rd w 14 B m (sgsL b)) (hn2 : m ≤ 9223372036854775807) (hc2 : m ≤ d) (hr3 : Rd w 1 D k (intsL needs)) (hn3 : k ≤ 9223372036854775807) (hc3 : k ≤ e) : Calls Try.prog 17 #[.slice A n c, .slice B m d, .int .i64 first, .slice D k e] w fun e w' => Below w.heap.size w w' ∧ ∃ hdr hs, e = .returned (.tuple #[hdr, .int .i64 (diffR a b first needs).2]) ∧ hs.length = (diffR a b first needs).1.length ∧ SX.SlRet w w' [] hdr 19 (phL ((diffR a b first needs).1.zip hs)) ∧ ∀ h ∈ hs, SX.SlRet w w' [] (Hd.v h) 1 (intsL needs) := by
  refine SX.calls_of_run (C := cxD4 w.heap.size (KDf A n c a B m d b D k e needs) (KDf A n c a B m d b D k e needs)) (G := ⟨fun f => f != 43, [⟨17, 8, [(.s 28, .one), (.s 10, .one), (.s 8, .row 19 55)]⟩, ⟨17, 16, [(.s 0, .ext 14), (.s 1, .ext 14), (.s 8, .row 19 55)]⟩, ⟨93, 1, [(.s 9, .one), (.c 12 0, .row 19 55)]⟩, ⟨17, 30, [(.s 147, .one), (.s 8, .row 19 55)]⟩], 2, 100⟩) (args := args_diff) (sh := [.one, .one, .one, .one]) (ρ := [.slice A n c, .slice B m d, .int .i64 first, .slice D k e]) 100000 tree_diff (okD4 w.heap.size _ _) Try.func17 rfl (run_diff _ _ _) (by kernel_rfl) (by kernel_rfl) (by kernel_rfl) ?_ ?_ (hN := ⟨rfl, Nat.le_refl _⟩)
  · rintro W hW s sz cells (⟨rfl, rfl, rfl⟩ | ⟨rfl, rfl, rfl⟩ | ⟨rfl, rfl, rfl⟩)
    · exact ⟨hr.same0 hW, hc⟩
    · exact ⟨hr2.same0 hW, hc2⟩
    exact ⟨hr3.same0 hW, hc3⟩
  have hA := SX.rd_some hr
  have hln : a.length = n := by have := hr.1; rw [sgsL_len] at this; omega
  have hB := SX.rd_some hr2
  have hlm : b.length = m := by have := hr2.1; rw [sgsL_len] at this; omega
  have hD := SX.rd_some hr3
  have hlk : needs.length = k := by have := hr3.1; rw [intsL_len] at this; omega
  unfold tree_diff
  refine SX.E (.int .i64 ((chkS a))) (fun α => ⟨[⟨.slice A n c, 14, sgsL a⟩], ⟨by kernel_rfl, by kernel_rfl, .inl ⟨rfl, rfl, rfl⟩, trivial⟩, ⟨rfl, _, a, rfl, by omega, rfl⟩, SX.noAli rfl⟩) ?_
  refine SX.E (.int .i64 ((chkS b))) (fun α => ⟨[⟨.slice B m d, 14, sgsL b⟩], ⟨by kernel_rfl, by kernel_rfl, .inr (.inl ⟨rfl, rfl, rfl⟩), trivial⟩, ⟨rfl, _, b, rfl, by omega, rfl⟩, SX.noAli rfl⟩) ?_
  refine SX.D (.bool (((chkS a) : Int) != 0)) ?_
  refine SX.B (((chkS a) : Int) != 0) (fun h6 => ?_) (fun h6 => ?_)
  · try simp only [NRM] at h6
    refine SX.D (.bool (((chkS a) : Int) != 0)) ?_
    refine SX.B (((chkS a) : Int) != 0) (fun h7 => ?_) (fun h7 => absurd (by assumption) (show ¬ (((chkS a) : Int) ≠ 0) by simpa using h7))
    have hq : diffR a b first needs = ([], chkS a) := diffR_a (by simpa using h6)
    exact SX.VC_ret fun α W _ hrow hS => ⟨hS.below, .slice none 0 0, [], Eq.trans (b := Ending.returned (.tuple #[.slice none 0 0, .int .i64 (chkS a)])) (by kernel_rfl) (by rw [hq]), by rw [hq]; rfl, by rw [hq]; exact SX.SlRet.nil, fun h hh => nomatch hh⟩
  try simp only [NRM] at h6
  refine SX.D (.bool (((chkS b) : Int) != 0)) ?_
  refine SX.B (((chkS b) : Int) != 0) (fun h7 => ?_) (fun h7 => ?_)
  · try simp only [NRM] at h7
    refine SX.D (.bool (((chkS b) : Int) != 0)) ?_
    refine SX.B (((chkS b) : Int) != 0) (fun h8 => ?_) (fun h8 => absurd (by assumption) (show ¬ (((chkS b) : Int) ≠ 0) by simpa using h8))
    have hq : diffR a b first needs = ([], chkS b) := diffR_b (by simpa using h6) (by simpa using h7)
    exact SX.VC_ret fun α W _ hrow hS => ⟨hS.below, .slice none 0 0, [], Eq.trans (b := Ending.returned (.tuple #[.slice none 0 0, .int .i64 (chkS b)])) (by kernel_rfl) (by rw [hq]), by rw [hq]; rfl, by rw [hq]; exact SX.SlRet.nil, fun h hh => nomatch hh⟩
  try simp only [NRM] at h7
  refine SX.D (.int .i64 (((k : Nat) : Int))) ?_
  refine SX.D (.bool (decide (((k : Nat) : Int) > 32))) ?_
  refine SX.B (decide (((k : Nat) : Int) > 32)) (fun h9 => ?_) (fun h9 => ?_)
  · try simp only [NRM] at h9
    have hq : diffR a b first needs = ([], 2) := diffR_n (by simpa using h6) (by simpa using h7) (by (try simp at h9); omega)
    exact SX.VC_ret fun α W _ hrow hS => ⟨hS.below, .slice none 0 0, [], Eq.trans (b := Ending.returned (.tuple #[.slice none 0 0, .int .i64 (2)])) (by kernel_rfl) (by rw [hq]), by rw [hq]; rfl, by rw [hq]; exact SX.SlRet.nil, fun h hh => nomatch hh⟩
  try simp only [NRM] at h9
  refine SX.D (.int .i64 (((k : Nat) : Int))) ?_
  refine SX.VC_loop (fun xs => ∃ (i : Nat) (last : Int), xs = [.int .i64 (i : Int), .int .i64 last, .agg (phL (nilL [])).toArray] ∧ i ≤ k ∧ incrTo needs 1 (first - 1) i ∧ (i = 0 → last = 0) ∧ (∀ z, 0 < i → needs[i - 1]? = some z → last = z) ∧ 0 ≤ last) (fun xs => match xs with | .int _ i :: _ => k - i.toNat | _ => 0) (fun α => ⟨0, 0, by kernel_rfl, by omega, incrTo_zero, fun _ => rfl, fun z h => absurd h (by omega), by omega⟩) ?_
  rintro xs - ⟨i, last, rfl, hik, hok, hl0, hlz, hlp⟩
  refine SX.D (.bool (decide (((i : Nat) : Int) < ((k : Nat) : Int)))) ?_
  refine SX.B (decide (((i : Nat) : Int) < ((k : Nat) : Int))) (fun h14 => ?_) (fun h14 => ?_)
  · try simp only [NRM] at h14
    obtain ⟨y, hy⟩ : ∃ y, needs[i]? = some y := ⟨_, List.getElem?_eq_getElem (by omega)⟩
    refine SX.E (.bool true) (fun α => SX.extBnd (A := D) (n := k) (c := e) (j := i) hD (by kernel_rfl) (by kernel_rfl) (by omega)) ?_
    refine SX.E (.int .i64 y) (fun α => SX.extElem (o := 0) (v := .int .i64 y) (f := cellsI) (l := needs) (A := D) (n := k) (c := e) (j := i) (z := y) (fun _ => rfl) hD (by kernel_rfl) (by kernel_rfl) (by omega) (.inr (.inr ⟨rfl, rfl, rfl⟩)) hy (by decide) (by kernel_rfl)) ?_
    refine SX.D (.bool (decide (y ≤ last))) ?_
    refine SX.B (decide (y ≤ last)) (fun h17 => ?_) (fun h17 => ?_)
    · try simp only [NRM] at h17
      have hq : diffR a b first needs = ([], 360) := diffR_i (by simpa using h6) (by simpa using h7) (by (try simp at h9); omega) (fun hk => incrTo_no hy (fun hj => by
          rcases Nat.eq_zero_or_pos i with h0 | h0
          · have := hl0 h0; omega
          obtain ⟨z, hz⟩ : ∃ z, needs[i - 1]? = some z := ⟨_, List.getElem?_eq_getElem (by omega)⟩
          have q1 := hlz z h0 hz
          have q2 := hj.2.2 z h0 hz
          omega) hk.2)
      exact SX.VC_ret fun α W _ hrow hS => ⟨hS.below, .slice none 0 0, [], Eq.trans (b := Ending.returned (.tuple #[.slice none 0 0, .int .i64 (360)])) (by kernel_rfl) (by rw [hq]), by rw [hq]; rfl, by rw [hq]; exact SX.SlRet.nil, fun h hh => nomatch hh⟩
    try simp only [NRM] at h17
    refine SX.D (.bool (decide (y ≥ first))) ?_
    refine SX.B (decide (y ≥ first)) (fun h18 => ?_) (fun h18 => ?_)
    · try simp only [NRM] at h18
      have hq : diffR a b first needs = ([], 360) := diffR_i (by simpa using h6) (by simpa using h7) (by (try simp at h9); omega) (fun hk => incrTo_no hy (fun hj => by omega) hk.2)
      exact SX.VC_ret fun α W _ hrow hS => ⟨hS.below, .slice none 0 0, [], Eq.trans (b := Ending.returned (.tuple #[.slice none 0 0, .int .i64 (360)])) (by kernel_rfl) (by rw [hq]), by rw [hq]; rfl, by rw [hq]; exact SX.SlRet.nil, fun h hh => nomatch hh⟩
    try simp only [NRM] at h18
    refine SX.E (.int .i64 (((i + 1 : Nat) : Int))) (fun α => SX.W1 i) ?_
    exact SX.VC_again fun α => ⟨⟨i + 1, y, by kernel_rfl, by omega, incrTo_succ hok hy (by omega) (by omega) (fun z h0 hz => by have := hlz z h0 hz; omega), fun h => absurd h (by omega), fun z _ hz => by rw [Nat.add_sub_cancel, hy] at hz; cases hz; rfl, by omega⟩, cast (by kernel_rfl) (show k - ((i + 1 : Nat) : Int).toNat < k - (i : Int).toNat by omega)⟩
  try simp only [NRM] at h14
  refine SX.D (.bool (decide (first ≥ 1))) ?_
  refine SX.B (decide (first ≥ 1)) (fun h15 => ?_) (fun h15 => ?_)
  · try simp only [NRM] at h15
    refine SX.D (.bool (decide (first ≤ 1048576))) ?_
    refine SX.D (.bool (!(decide (first ≤ 1048576)))) ?_
    refine SX.B (!(decide (first ≤ 1048576))) (fun h17 => ?_) (fun h17 => ?_)
    · try simp only [NRM] at h17
      have hq : diffR a b first needs = ([], 360) := diffR_i (by simpa using h6) (by simpa using h7) (by (try simp at h9); omega) (fun hk => by (try simp at h17); omega)
      exact SX.VC_ret fun α W _ hrow hS => ⟨hS.below, .slice none 0 0, [], Eq.trans (b := Ending.returned (.tuple #[.slice none 0 0, .int .i64 (360)])) (by kernel_rfl) (by rw [hq]), by rw [hq]; rfl, by rw [hq]; exact SX.SlRet.nil, fun h hh => nomatch hh⟩
    try simp only [NRM] at h17
    refine SX.VC_df (.agg ((a).flatMap cellsSg).toArray) (fun α => ⟨sgsL a, ⟨A, n, c, by kernel_rfl, hc⟩, .inl ⟨rfl, rfl, rfl⟩, .inl ⟨rfl, rfl, rfl⟩, rfl⟩) (rfl) ?_
    refine SX.VC_df (.agg ((b).flatMap cellsSg).toArray) (fun α => ⟨sgsL b, ⟨B, m, d, by kernel_rfl, hc2⟩, .inr (.inl ⟨rfl, rfl, rfl⟩), .inr (.inl ⟨rfl, rfl, rfl⟩), rfl⟩) (rfl) ?_
    have hla : a.length ≤ 4096 ∧ b.length ≤ 4096 := ⟨(chkS_ok (by simpa using h6)).2, (chkS_ok (by simpa using h7)).2⟩
    have h9n : needs.length ≤ 32 := by (try simp at h9); omega
    have hfs : (1 ≤ first ∧ first ≤ 1048576) ∧ incr needs 1 (first - 1) := ⟨⟨by omega, by (try simp at h17); omega⟩, by have e : i = needs.length := (by omega); subst e; exact hok⟩
    have hD0 := diffR_m (a := a) (b := b) (by simpa using h6) (by simpa using h7) (by omega) hfs
    refine SX.VC_loop (fun xs => ∃ (a1 b1 : List Sg) (acc : List Pt), xs = [.agg (sgsL a1).toArray, .agg (sgsL b1).toArray, .agg (phL (nilL acc)).toArray] ∧ mrg a b = (mrg a1 b1).map (acc ++ ·) ∧ acc.length + 9 * (a1.length + b1.length) ≤ 73728) (fun xs => match xs with | .agg p :: .agg q :: _ => p.size + q.size | _ => 0) (fun α => ⟨a, b, [], Eq.trans (b := [.agg ([Value.agg (sgsL a).toArray].flatMap SX.cellsV).toArray, .agg ([Value.agg (sgsL b).toArray].flatMap SX.cellsV).toArray, .agg ([Value.agg (phL (nilL [])).toArray].flatMap SX.cellsV).toArray]) (by kernel_rfl) (by simp [SX.cellsV]), by simp, by simp; omega⟩) ?_
    rintro xs - ⟨a1, b1, acc, rfl, hm, hlen⟩
    have hnl : (nilL acc).length = acc.length := by simp [nilL]
    refine SX.E (.int .i64 ((((a1).length : Nat) : Int))) (fun α => SX.rlenD (f := cellsSg) (l := a1) (fun _ => rfl) (by decide) (SX.cat1 (by kernel_rfl))) ?_
    refine SX.D (.bool (decide ((((a1).length : Nat) : Int) > 0))) ?_
    refine SX.B (decide ((((a1).length : Nat) : Int) > 0)) (fun h24 => ?_) (fun h24 => ?_)
    · try simp only [NRM] at h24
      refine SX.E (.int .i64 ((((b1).length : Nat) : Int))) (fun α => SX.rlenD (f := cellsSg) (l := b1) (fun _ => rfl) (by decide) (SX.cat1 (by kernel_rfl))) ?_
      refine SX.D (.bool (((((b1).length : Nat) : Int) : Int) == 0)) ?_
      refine SX.B (((((b1).length : Nat) : Int) : Int) == 0) (fun h26 => ?_) (fun h26 => ?_)
      · try simp only [NRM] at h26
        obtain ⟨x, hx⟩ : ∃ x, a1[0]? = some x := ⟨_, List.getElem?_eq_getElem (by omega)⟩
        have hid : ∀ y, b1[0]? = some y → x.id < y.id := fun y hy => (no_head (by have : ((b1.length : Nat) : Int) = 0 := (by simpa using h26); omega) hy).elim
        refine SX.E (.bool true) (fun α => SX.row_bnd (f := cellsSg) (l := a1) (k := 0) (fun _ => rfl) (by decide) (SX.cat1 (by kernel_rfl)) (by kernel_rfl) ((List.getElem?_eq_some_iff.1 hx).1)) ?_
        refine SX.E (.bool true) (fun α => SX.row_bnd (f := cellsSg) (l := a1) (k := 0) (fun _ => rfl) (by decide) (SX.cat1 (by kernel_rfl)) (by kernel_rfl) ((List.getElem?_eq_some_iff.1 hx).1)) ?_
        refine SX.E (.int .i64 x.id) (fun α => SX.relemD (f := cellsSg) (l := a1) (k := 0) (z := x) (v := .int .i64 x.id) (fun _ => rfl) (by decide) (SX.cat1 (by kernel_rfl)) (by kernel_rfl) hx rfl) ?_
        refine SX.VC_df (Value.agg (phL [nilP (remP x)]).toArray) (fun α => SX.app_rel (f := cellsH) (l1 := nilL acc) (l2 := [nilP (remP x)]) (fun _ => rfl) cellsH_one (by decide) (SX.cat1 (by kernel_rfl)) (SX.src_own (by kernel_rfl)) (by simp only [nilL, List.length_map, List.length_cons, List.length_nil]; omega) (by simp only [nilL, List.length_map, List.length_cons, List.length_nil]; omega)) (rfl) ?_
        refine SX.VC_df (.agg (((a1).drop 1).flatMap cellsSg).toArray) (fun α => SX.slcxD (f := cellsSg) (l := a1) (k := 1) (fun _ => rfl) (by decide) (SX.cat1 (by kernel_rfl)) (by kernel_rfl) (by have := (List.getElem?_eq_some_iff.1 hx).1; omega)) (rfl) ?_
        exact SX.VC_again fun α => ⟨⟨(a1).drop 1, b1, acc ++ [remP x], Eq.trans (b := [.agg ([Value.agg (sgsL ((a1).drop 1)).toArray].flatMap SX.cellsV).toArray, .agg ([Value.agg (sgsL (b1)).toArray].flatMap SX.cellsV).toArray, .agg ([Value.agg (phL (nilL acc)).toArray, Value.agg (phL [nilP (remP x)]).toArray].flatMap SX.cellsV).toArray]) (by kernel_rfl) (by simp [SX.cellsV, nilL_app, phL_app, nilL]), mrg_step hm (mrg_rmD hx hid), by have q1 := (List.getElem?_eq_some_iff.1 hx).1; simp only [LL]; omega⟩, cast (by kernel_rfl) (show ([Value.agg (sgsL ((a1).drop 1)).toArray].flatMap SX.cellsV).toArray.size + ([Value.agg (sgsL (b1)).toArray].flatMap SX.cellsV).toArray.size < (sgsL a1).toArray.size + (sgsL b1).toArray.size from by have q1 := (List.getElem?_eq_some_iff.1 hx).1; simp only [List.flatMap_cons, List.flatMap_nil, List.append_nil, SX.cellsV, List.toList_toArray, List.size_toArray, sgsL_len, List.length_drop]; omega)⟩
      try simp only [NRM] at h26
      refine SX.E (.int .i64 ((((a1).length : Nat) : Int))) (fun α => SX.rlenD (f := cellsSg) (l := a1) (fun _ => rfl) (by decide) (SX.cat1 (by kernel_rfl))) ?_
      refine SX.D (.bool (decide ((((a1).length : Nat) : Int) > 0))) ?_
      refine SX.B (decide ((((a1).length : Nat) : Int) > 0)) (fun h28 => ?_) (fun h28 => absurd (show (((a1).length : Nat) : Int) > 0 by omega) (of_decide_eq_false h28))
      obtain ⟨x, hx⟩ : ∃ x, a1[0]? = some x := ⟨_, List.getElem?_eq_getElem (by omega)⟩
      obtain ⟨y, hy⟩ : ∃ y, b1[0]? = some y := ⟨_, List.getElem?_eq_getElem (by have : ¬ ((b1.length : Nat) : Int) = 0 := (by simpa using h26); omega)⟩
      refine SX.E (.bool true) (fun α => SX.row_bnd (f := cellsSg) (l := a1) (k := 0) (fun _ => rfl) (by decide) (SX.cat1 (by kernel_rfl)) (by kernel_rfl) ((List.getElem?_eq_some_iff.1 hx).1)) ?_
      refine SX.E (.bool true) (fun α => SX.row_bnd (f := cellsSg) (l := a1) (k := 0) (fun _ => rfl) (by decide) (SX.cat1 (by kernel_rfl)) (by kernel_rfl) ((List.getElem?_eq_some_iff.1 hx).1)) ?_
      refine SX.E (.int .i64 x.id) (fun α => SX.relemD (f := cellsSg) (l := a1) (k := 0) (z := x) (v := .int .i64 x.id) (fun _ => rfl) (by decide) (SX.cat1 (by kernel_rfl)) (by kernel_rfl) hx rfl) ?_
      refine SX.E (.bool true) (fun α => SX.row_bnd (f := cellsSg) (l := b1) (k := 0) (fun _ => rfl) (by decide) (SX.cat1 (by kernel_rfl)) (by kernel_rfl) ((List.getElem?_eq_some_iff.1 hy).1)) ?_
      refine SX.E (.bool true) (fun α => SX.row_bnd (f := cellsSg) (l := b1) (k := 0) (fun _ => rfl) (by decide) (SX.cat1 (by kernel_rfl)) (by kernel_rfl) ((List.getElem?_eq_some_iff.1 hy).1)) ?_
      refine SX.E (.int .i64 y.id) (fun α => SX.relemD (f := cellsSg) (l := b1) (k := 0) (z := y) (v := .int .i64 y.id) (fun _ => rfl) (by decide) (SX.cat1 (by kernel_rfl)) (by kernel_rfl) hy rfl) ?_
      refine SX.D (.bool (decide (x.id < y.id))) ?_
      refine SX.B (decide (x.id < y.id)) (fun h35 => ?_) (fun h35 => ?_)
      · try simp only [NRM] at h35
        have hid : ∀ z, b1[0]? = some z → x.id < z.id := fun z hz => by rw [hy] at hz; cases hz; omega
        refine SX.E (.bool true) (fun α => SX.row_bnd (f := cellsSg) (l := a1) (k := 0) (fun _ => rfl) (by decide) (SX.cat1 (by kernel_rfl)) (by kernel_rfl) ((List.getElem?_eq_some_iff.1 hx).1)) ?_
        refine SX.E (.bool true) (fun α => SX.row_bnd (f := cellsSg) (l := a1) (k := 0) (fun _ => rfl) (by decide) (SX.cat1 (by kernel_rfl)) (by kernel_rfl) ((List.getElem?_eq_some_iff.1 hx).1)) ?_
        refine SX.E (.int .i64 x.id) (fun α => SX.relemD (f := cellsSg) (l := a1) (k := 0) (z := x) (v := .int .i64 x.id) (fun _ => rfl) (by decide) (SX.cat1 (by kernel_rfl)) (by kernel_rfl) hx rfl) ?_
        refine SX.VC_df (Value.agg (phL [nilP (remP x)]).toArray) (fun α => SX.app_rel (f := cellsH) (l1 := nilL acc) (l2 := [nilP (remP x)]) (fun _ => rfl) cellsH_one (by decide) (SX.cat1 (by kernel_rfl)) (SX.src_own (by kernel_rfl)) (by simp only [nilL, List.length_map, List.length_cons, List.length_nil]; omega) (by simp only [nilL, List.length_map, List.length_cons, List.length_nil]; omega)) (rfl) ?_
        refine SX.VC_df (.agg (((a1).drop 1).flatMap cellsSg).toArray) (fun α => SX.slcxD (f := cellsSg) (l := a1) (k := 1) (fun _ => rfl) (by decide) (SX.cat1 (by kernel_rfl)) (by kernel_rfl) (by have := (List.getElem?_eq_some_iff.1 hx).1; omega)) (rfl) ?_
        exact SX.VC_again fun α => ⟨⟨(a1).drop 1, b1, acc ++ [remP x], Eq.trans (b := [.agg ([Value.agg (sgsL ((a1).drop 1)).toArray].flatMap SX.cellsV).toArray, .agg ([Value.agg (sgsL (b1)).toArray].flatMap SX.cellsV).toArray, .agg ([Value.agg (phL (nilL acc)).toArray, Value.agg (phL [nilP (remP x)]).toArray].flatMap SX.cellsV).toArray]) (by kernel_rfl) (by simp [SX.cellsV, nilL_app, phL_app, nilL]), mrg_step hm (mrg_rmD hx hid), by have q1 := (List.getElem?_eq_some_iff.1 hx).1; simp only [LL]; omega⟩, cast (by kernel_rfl) (show ([Value.agg (sgsL ((a1).drop 1)).toArray].flatMap SX.cellsV).toArray.size + ([Value.agg (sgsL (b1)).toArray].flatMap SX.cellsV).toArray.size < (sgsL a1).toArray.size + (sgsL b1).toArray.size from by have q1 := (List.getElem?_eq_some_iff.1 hx).1; simp only [List.flatMap_cons, List.flatMap_nil, List.append_nil, SX.cellsV, List.toList_toArray, List.size_toArray, sgsL_len, List.length_drop]; omega)⟩
      try simp only [NRM] at h35
      refine SX.E (.int .i64 ((((a1).length : Nat) : Int))) (fun α => SX.rlenD (f := cellsSg) (l := a1) (fun _ => rfl) (by decide) (SX.cat1 (by kernel_rfl))) ?_
      refine SX.D (.bool (((((a1).length : Nat) : Int) : Int) == 0)) ?_
      refine SX.B (((((a1).length : Nat) : Int) : Int) == 0) (fun h37 => absurd (beq_iff_eq.1 h37) (by omega)) (fun h37 => ?_)
      refine SX.E (.bool true) (fun α => SX.row_bnd (f := cellsSg) (l := b1) (k := 0) (fun _ => rfl) (by decide) (SX.cat1 (by kernel_rfl)) (by kernel_rfl) ((List.getElem?_eq_some_iff.1 hy).1)) ?_
      refine SX.E (.bool true) (fun α => SX.row_bnd (f := cellsSg) (l := b1) (k := 0) (fun _ => rfl) (by decide) (SX.cat1 (by kernel_rfl)) (by kernel_rfl) ((List.getElem?_eq_some_iff.1 hy).1)) ?_
      refine SX.E (.int .i64 y.id) (fun α => SX.relemD (f := cellsSg) (l := b1) (k := 0) (z := y) (v := .int .i64 y.id) (fun _ => rfl) (by decide) (SX.cat1 (by kernel_rfl)) (by kernel_rfl) hy rfl) ?_
      refine SX.E (.bool true) (fun α => SX.row_bnd (f := cellsSg) (l := a1) (k := 0) (fun _ => rfl) (by decide) (SX.cat1 (by kernel_rfl)) (by kernel_rfl) ((List.getElem?_eq_some_iff.1 hx).1)) ?_
      refine SX.E (.bool true) (fun α => SX.row_bnd (f := cellsSg) (l := a1) (k := 0) (fun _ => rfl) (by decide) (SX.cat1 (by kernel_rfl)) (by kernel_rfl) ((List.getElem?_eq_some_iff.1 hx).1)) ?_
      refine SX.E (.int .i64 x.id) (fun α => SX.relemD (f := cellsSg) (l := a1) (k := 0) (z := x) (v := .int .i64 x.id) (fun _ => rfl) (by decide) (SX.cat1 (by kernel_rfl)) (by kernel_rfl) hx rfl) ?_
      refine SX.D (.bool (decide (y.id < x.id))) ?_
      refine SX.B (decide (y.id < x.id)) (fun h44 => ?_) (fun h44 => ?_)
      · try simp only [NRM] at h44
        have hid : ∀ z, a1[0]? = some z → y.id < z.id := fun z hz => by rw [hx] at hz; cases hz; omega
        refine SX.E (.bool true) (fun α => SX.row_bnd (f := cellsSg) (l := b1) (k := 0) (fun _ => rfl) (by decide) (SX.cat1 (by kernel_rfl)) (by kernel_rfl) ((List.getElem?_eq_some_iff.1 hy).1)) ?_
        refine SX.E (.bool true) (fun α => SX.row_bnd (f := cellsSg) (l := b1) (k := 0) (fun _ => rfl) (by decide) (SX.cat1 (by kernel_rfl)) (by kernel_rfl) ((List.getElem?_eq_some_iff.1 hy).1)) ?_
        refine SX.E (.int .i64 y.id) (fun α => SX.relemD (f := cellsSg) (l := b1) (k := 0) (z := y) (v := .int .i64 y.id) (fun _ => rfl) (by decide) (SX.cat1 (by kernel_rfl)) (by kernel_rfl) hy rfl) ?_
        refine SX.E (.bool true) (fun α => SX.row_bnd (f := cellsSg) (l := b1) (k := 0) (fun _ => rfl) (by decide) (SX.cat1 (by kernel_rfl)) (by kernel_rfl) ((List.getElem?_eq_some_iff.1 hy).1)) ?_
        refine SX.E (.agg (cellsSg y).toArray) (fun α => SX.row_elems (f := cellsSg) (l := b1) (k := 0) (z := y) (fun _ => rfl) (by decide) (SX.cat1 (by kernel_rfl)) (by kernel_rfl) hy) ?_
        refine SX.VC_df (Value.agg (phL [nilP (insP y)]).toArray) (fun α => SX.app_rel (f := cellsH) (l1 := nilL acc) (l2 := [nilP (insP y)]) (fun _ => rfl) cellsH_one (by decide) (SX.cat1 (by kernel_rfl)) (SX.src_own (by kernel_rfl)) (by simp only [nilL, List.length_map, List.length_cons, List.length_nil]; omega) (by simp only [nilL, List.length_map, List.length_cons, List.length_nil]; omega)) (rfl) ?_
        refine SX.VC_df (.agg (((b1).drop 1).flatMap cellsSg).toArray) (fun α => SX.slcxD (f := cellsSg) (l := b1) (k := 1) (fun _ => rfl) (by decide) (SX.cat1 (by kernel_rfl)) (by kernel_rfl) (by have := (List.getElem?_eq_some_iff.1 hy).1; omega)) (rfl) ?_
        exact SX.VC_again fun α => ⟨⟨a1, (b1).drop 1, acc ++ [insP y], Eq.trans (b := [.agg ([Value.agg (sgsL (a1)).toArray].flatMap SX.cellsV).toArray, .agg ([Value.agg (sgsL ((b1).drop 1)).toArray].flatMap SX.cellsV).toArray, .agg ([Value.agg (phL (nilL acc)).toArray, Value.agg (phL [nilP (insP y)]).toArray].flatMap SX.cellsV).toArray]) (by kernel_rfl) (by simp [SX.cellsV, nilL_app, phL_app, nilL]), mrg_step hm (mrg_inD hy hid), by have q2 := (List.getElem?_eq_some_iff.1 hy).1; simp only [LL]; omega⟩, cast (by kernel_rfl) (show ([Value.agg (sgsL (a1)).toArray].flatMap SX.cellsV).toArray.size + ([Value.agg (sgsL ((b1).drop 1)).toArray].flatMap SX.cellsV).toArray.size < (sgsL a1).toArray.size + (sgsL b1).toArray.size from by have q2 := (List.getElem?_eq_some_iff.1 hy).1; simp only [List.flatMap_cons, List.flatMap_nil, List.append_nil, SX.cellsV, List.toList_toArray, List.size_toArray, sgsL_len, List.length_drop]; omega)⟩
      try simp only [NRM] at h44
      have hid : x.id = y.id := by omega
      refine SX.E (.bool true) (fun α => SX.row_bnd (f := cellsSg) (l := a1) (k := 0) (fun _ => rfl) (by decide) (SX.cat1 (by kernel_rfl)) (by kernel_rfl) ((List.getElem?_eq_some_iff.1 hx).1)) ?_
      refine SX.E (.bool true) (fun α => SX.row_bnd (f := cellsSg) (l := a1) (k := 0) (fun _ => rfl) (by decide) (SX.cat1 (by kernel_rfl)) (by kernel_rfl) ((List.getElem?_eq_some_iff.1 hx).1)) ?_
      refine SX.E (.int .i64 x.kind) (fun α => SX.relemD (f := cellsSg) (l := a1) (k := 0) (z := x) (v := .int .i64 x.kind) (fun _ => rfl) (by decide) (SX.cat1 (by kernel_rfl)) (by kernel_rfl) hx rfl) ?_
      refine SX.E (.bool true) (fun α => SX.row_bnd (f := cellsSg) (l := b1) (k := 0) (fun _ => rfl) (by decide) (SX.cat1 (by kernel_rfl)) (by kernel_rfl) ((List.getElem?_eq_some_iff.1 hy).1)) ?_
      refine SX.E (.bool true) (fun α => SX.row_bnd (f := cellsSg) (l := b1) (k := 0) (fun _ => rfl) (by decide) (SX.cat1 (by kernel_rfl)) (by kernel_rfl) ((List.getElem?_eq_some_iff.1 hy).1)) ?_
      refine SX.E (.int .i64 y.kind) (fun α => SX.relemD (f := cellsSg) (l := b1) (k := 0) (z := y) (v := .int .i64 y.kind) (fun _ => rfl) (by decide) (SX.cat1 (by kernel_rfl)) (by kernel_rfl) hy rfl) ?_
      refine SX.D (.bool ((x.kind : Int) != y.kind)) ?_
      refine SX.B ((x.kind : Int) != y.kind) (fun h51 => ?_) (fun h51 => ?_)
      · try simp only [NRM] at h51
        have hq : diffR a b first needs = ([], 360) := by
          rw [hD0, hm, mrg_noD hx hy hid (by simpa using h51)]; rfl
        exact SX.VC_ret fun α W _ hrow hS => ⟨hS.below, .slice none 0 0, [], Eq.trans (b := Ending.returned (.tuple #[.slice none 0 0, .int .i64 (360)])) (by kernel_rfl) (by rw [hq]), by rw [hq]; rfl, by rw [hq]; exact SX.SlRet.nil, fun h hh => nomatch hh⟩
      try simp only [NRM] at h51
      have hkd : x.kind = y.kind := by simpa using h51
      refine SX.E (.bool true) (fun α => SX.row_bnd (f := cellsSg) (l := a1) (k := 0) (fun _ => rfl) (by decide) (SX.cat1 (by kernel_rfl)) (by kernel_rfl) ((List.getElem?_eq_some_iff.1 hx).1)) ?_
      refine SX.E (.agg (cellsSg x).toArray) (fun α => SX.row_elems (f := cellsSg) (l := a1) (k := 0) (z := x) (fun _ => rfl) (by decide) (SX.cat1 (by kernel_rfl)) (by kernel_rfl) hx) ?_
      refine SX.E (.bool true) (fun α => SX.row_bnd (f := cellsSg) (l := b1) (k := 0) (fun _ => rfl) (by decide) (SX.cat1 (by kernel_rfl)) (by kernel_rfl) ((List.getElem?_eq_some_iff.1 hy).1)) ?_
      refine SX.E (.agg (cellsSg y).toArray) (fun α => SX.row_elems (f := cellsSg) (l := b1) (k := 0) (z := y) (fun _ => rfl) (by decide) (SX.cat1 (by kernel_rfl)) (by kernel_rfl) hy) ?_
      refine SX.VC_loop (fun xs => ∃ k2 : Nat, xs = [.int .i64 (k2 : Int), .agg (phL (nilL (acc ++ chT x y k2))).toArray] ∧ k2 ≤ 8) (fun xs => match xs with | .int _ i :: _ => 8 - i.toNat | _ => 0) (fun α => ⟨0, Eq.trans (b := [.int .i64 0, .agg ([Value.agg (phL (nilL acc)).toArray].flatMap SX.cellsV).toArray]) (by kernel_rfl) (by simp [SX.cellsV, chT]), by omega⟩) ?_
      rintro xs - ⟨k2, rfl, hk2⟩
      refine SX.D (.bool (decide (((k2 : Nat) : Int) < 8))) ?_
      refine SX.B (decide (((k2 : Nat) : Int) < 8)) (fun h58 => ?_) (fun h58 => ?_)
      · try simp only [NRM] at h58
        refine SX.VC_sp k2 (by show k2 < 8; omega) (by kernel_rfl) fun t ht => ?_
        have hk3 : k2 = 0 ∨ k2 = 1 ∨ k2 = 2 ∨ k2 = 3 ∨ k2 = 4 ∨ k2 = 5 ∨ k2 = 6 ∨ k2 = 7 := by omega
        rcases hk3 with rfl | rfl | rfl | rfl | rfl | rfl | rfl | rfl
        · cases (Option.some.inj ht)
          refine SX.D (.bool ((x.role : Int) == y.role)) ?_
          refine SX.B ((x.role : Int) == y.role) (fun h59 => ?_) (fun h59 => ?_)
          · try simp only [NRM] at h59
            exact SX.VC_again fun α => ⟨⟨1, Eq.trans (b := [.int .i64 1, .agg ([Value.agg (phL (nilL (acc ++ chT x y 0))).toArray].flatMap SX.cellsV).toArray]) (by kernel_rfl) (by rw [show chT x y 1 = chT x y 0 from chT_same (k := 0) (by show setF zeroSg 1 x = setF zeroSg 1 y; simpa [setF, zeroSg] using h59)]; simp [SX.cellsV]), by omega⟩, cast (by kernel_rfl) (show 8 - (1 : Int).toNat < 8 - (0 : Int).toNat by decide)⟩
          try simp only [NRM] at h59
          refine SX.VC_df (Value.agg (phL [nilP ((⟨0, 1, x.id, 1, setF zeroSg 1 y, []⟩ : Pt))]).toArray) (fun α => SX.app_rel (f := cellsH) (l1 := nilL (acc ++ chT x y 0)) (l2 := [nilP ((⟨0, 1, x.id, 1, setF zeroSg 1 y, []⟩ : Pt))]) (fun _ => rfl) cellsH_one (by decide) (SX.cat1 (by kernel_rfl)) (SX.src_own (by kernel_rfl)) (by have := chT_len x y 8; have := chT_len x y 0; simp only [nilL, List.length_map, List.length_append, List.length_cons, List.length_nil]; omega) (by have := chT_len x y 8; have := chT_len x y 0; simp only [nilL, List.length_map, List.length_append, List.length_cons, List.length_nil]; omega)) (rfl) ?_
          exact SX.VC_again fun α => ⟨⟨1, Eq.trans (b := [.int .i64 1, .agg ([Value.agg (phL (nilL (acc ++ chT x y 0))).toArray, Value.agg (phL [nilP (⟨0, 1, x.id, 1, setF zeroSg 1 y, []⟩ : Pt)]).toArray].flatMap SX.cellsV).toArray]) (by kernel_rfl) (by rw [show chT x y 1 = chT x y 0 ++ [(⟨0, 1, x.id, 1, setF zeroSg 1 y, []⟩ : Pt)] from chT_other (k := 0) (by show ¬ setF zeroSg 1 x = setF zeroSg 1 y; simpa [setF, zeroSg] using h59)]; simp [SX.cellsV, nilL_app, phL_app, nilL]), by omega⟩, cast (by kernel_rfl) (show 8 - (1 : Int).toNat < 8 - (0 : Int).toNat by decide)⟩
        · cases (Option.some.inj ht)
          refine SX.D (.bool ((x.bar : Int) == y.bar)) ?_
          refine SX.B ((x.bar : Int) == y.bar) (fun h59 => ?_) (fun h59 => ?_)
          · try simp only [NRM] at h59
            exact SX.VC_again fun α => ⟨⟨2, Eq.trans (b := [.int .i64 2, .agg ([Value.agg (phL (nilL (acc ++ chT x y 1))).toArray].flatMap SX.cellsV).toArray]) (by kernel_rfl) (by rw [show chT x y 2 = chT x y 1 from chT_same (k := 1) (by show setF zeroSg 2 x = setF zeroSg 2 y; simpa [setF, zeroSg] using h59)]; simp [SX.cellsV]), by omega⟩, cast (by kernel_rfl) (show 8 - (2 : Int).toNat < 8 - (1 : Int).toNat by decide)⟩
          try simp only [NRM] at h59
          refine SX.VC_df (Value.agg (phL [nilP ((⟨0, 1, x.id, 2, setF zeroSg 2 y, []⟩ : Pt))]).toArray) (fun α => SX.app_rel (f := cellsH) (l1 := nilL (acc ++ chT x y 1)) (l2 := [nilP ((⟨0, 1, x.id, 2, setF zeroSg 2 y, []⟩ : Pt))]) (fun _ => rfl) cellsH_one (by decide) (SX.cat1 (by kernel_rfl)) (SX.src_own (by kernel_rfl)) (by have := chT_len x y 8; have := chT_len x y 1; simp only [nilL, List.length_map, List.length_append, List.length_cons, List.length_nil]; omega) (by have := chT_len x y 8; have := chT_len x y 1; simp only [nilL, List.length_map, List.length_append, List.length_cons, List.length_nil]; omega)) (rfl) ?_
          exact SX.VC_again fun α => ⟨⟨2, Eq.trans (b := [.int .i64 2, .agg ([Value.agg (phL (nilL (acc ++ chT x y 1))).toArray, Value.agg (phL [nilP (⟨0, 1, x.id, 2, setF zeroSg 2 y, []⟩ : Pt)]).toArray].flatMap SX.cellsV).toArray]) (by kernel_rfl) (by rw [show chT x y 2 = chT x y 1 ++ [(⟨0, 1, x.id, 2, setF zeroSg 2 y, []⟩ : Pt)] from chT_other (k := 1) (by show ¬ setF zeroSg 2 x = setF zeroSg 2 y; simpa [setF, zeroSg] using h59)]; simp [SX.cellsV, nilL_app, phL_app, nilL]), by omega⟩, cast (by kernel_rfl) (show 8 - (2 : Int).toNat < 8 - (1 : Int).toNat by decide)⟩
        · cases (Option.some.inj ht)
          refine SX.D (.bool ((x.mark : Int) == y.mark)) ?_
          refine SX.B ((x.mark : Int) == y.mark) (fun h59 => ?_) (fun h59 => ?_)
          · try simp only [NRM] at h59
            exact SX.VC_again fun α => ⟨⟨3, Eq.trans (b := [.int .i64 3, .agg ([Value.agg (phL (nilL (acc ++ chT x y 2))).toArray].flatMap SX.cellsV).toArray]) (by kernel_rfl) (by rw [show chT x y 3 = chT x y 2 from chT_same (k := 2) (by show setF zeroSg 3 x = setF zeroSg 3 y; simpa [setF, zeroSg] using h59)]; simp [SX.cellsV]), by omega⟩, cast (by kernel_rfl) (show 8 - (3 : Int).toNat < 8 - (2 : Int).toNat by decide)⟩
          try simp only [NRM] at h59
          refine SX.VC_df (Value.agg (phL [nilP ((⟨0, 1, x.id, 3, setF zeroSg 3 y, []⟩ : Pt))]).toArray) (fun α => SX.app_rel (f := cellsH) (l1 := nilL (acc ++ chT x y 2)) (l2 := [nilP ((⟨0, 1, x.id, 3, setF zeroSg 3 y, []⟩ : Pt))]) (fun _ => rfl) cellsH_one (by decide) (SX.cat1 (by kernel_rfl)) (SX.src_own (by kernel_rfl)) (by have := chT_len x y 8; have := chT_len x y 2; simp only [nilL, List.length_map, List.length_append, List.length_cons, List.length_nil]; omega) (by have := chT_len x y 8; have := chT_len x y 2; simp only [nilL, List.length_map, List.length_append, List.length_cons, List.length_nil]; omega)) (rfl) ?_
          exact SX.VC_again fun α => ⟨⟨3, Eq.trans (b := [.int .i64 3, .agg ([Value.agg (phL (nilL (acc ++ chT x y 2))).toArray, Value.agg (phL [nilP (⟨0, 1, x.id, 3, setF zeroSg 3 y, []⟩ : Pt)]).toArray].flatMap SX.cellsV).toArray]) (by kernel_rfl) (by rw [show chT x y 3 = chT x y 2 ++ [(⟨0, 1, x.id, 3, setF zeroSg 3 y, []⟩ : Pt)] from chT_other (k := 2) (by show ¬ setF zeroSg 3 x = setF zeroSg 3 y; simpa [setF, zeroSg] using h59)]; simp [SX.cellsV, nilL_app, phL_app, nilL]), by omega⟩, cast (by kernel_rfl) (show 8 - (3 : Int).toNat < 8 - (2 : Int).toNat by decide)⟩
        · cases (Option.some.inj ht)
          refine SX.D (.bool ((x.side : Int) == y.side)) ?_
          refine SX.B ((x.side : Int) == y.side) (fun h59 => ?_) (fun h59 => ?_)
          · try simp only [NRM] at h59
            exact SX.VC_again fun α => ⟨⟨4, Eq.trans (b := [.int .i64 4, .agg ([Value.agg (phL (nilL (acc ++ chT x y 3))).toArray].flatMap SX.cellsV).toArray]) (by kernel_rfl) (by rw [show chT x y 4 = chT x y 3 from chT_same (k := 3) (by show setF zeroSg 4 x = setF zeroSg 4 y; simpa [setF, zeroSg] using h59)]; simp [SX.cellsV]), by omega⟩, cast (by kernel_rfl) (show 8 - (4 : Int).toNat < 8 - (3 : Int).toNat by decide)⟩
          try simp only [NRM] at h59
          refine SX.VC_df (Value.agg (phL [nilP ((⟨0, 1, x.id, 4, setF zeroSg 4 y, []⟩ : Pt))]).toArray) (fun α => SX.app_rel (f := cellsH) (l1 := nilL (acc ++ chT x y 3)) (l2 := [nilP ((⟨0, 1, x.id, 4, setF zeroSg 4 y, []⟩ : Pt))]) (fun _ => rfl) cellsH_one (by decide) (SX.cat1 (by kernel_rfl)) (SX.src_own (by kernel_rfl)) (by have := chT_len x y 8; have := chT_len x y 3; simp only [nilL, List.length_map, List.length_append, List.length_cons, List.length_nil]; omega) (by have := chT_len x y 8; have := chT_len x y 3; simp only [nilL, List.length_map, List.length_append, List.length_cons, List.length_nil]; omega)) (rfl) ?_
          exact SX.VC_again fun α => ⟨⟨4, Eq.trans (b := [.int .i64 4, .agg ([Value.agg (phL (nilL (acc ++ chT x y 3))).toArray, Value.agg (phL [nilP (⟨0, 1, x.id, 4, setF zeroSg 4 y, []⟩ : Pt)]).toArray].flatMap SX.cellsV).toArray]) (by kernel_rfl) (by rw [show chT x y 4 = chT x y 3 ++ [(⟨0, 1, x.id, 4, setF zeroSg 4 y, []⟩ : Pt)] from chT_other (k := 3) (by show ¬ setF zeroSg 4 x = setF zeroSg 4 y; simpa [setF, zeroSg] using h59)]; simp [SX.cellsV, nilL_app, phL_app, nilL]), by omega⟩, cast (by kernel_rfl) (show 8 - (4 : Int).toNat < 8 - (3 : Int).toNat by decide)⟩
        · cases (Option.some.inj ht)
          refine SX.D (.bool ((x.dir : Int) == y.dir)) ?_
          refine SX.B ((x.dir : Int) == y.dir) (fun h59 => ?_) (fun h59 => ?_)
          · try simp only [NRM] at h59
            exact SX.VC_again fun α => ⟨⟨5, Eq.trans (b := [.int .i64 5, .agg ([Value.agg (phL (nilL (acc ++ chT x y 4))).toArray].flatMap SX.cellsV).toArray]) (by kernel_rfl) (by rw [show chT x y 5 = chT x y 4 from chT_same (k := 4) (by show setF zeroSg 5 x = setF zeroSg 5 y; simpa [setF, zeroSg] using h59)]; simp [SX.cellsV]), by omega⟩, cast (by kernel_rfl) (show 8 - (5 : Int).toNat < 8 - (4 : Int).toNat by decide)⟩
          try simp only [NRM] at h59
          refine SX.VC_df (Value.agg (phL [nilP ((⟨0, 1, x.id, 5, setF zeroSg 5 y, []⟩ : Pt))]).toArray) (fun α => SX.app_rel (f := cellsH) (l1 := nilL (acc ++ chT x y 4)) (l2 := [nilP ((⟨0, 1, x.id, 5, setF zeroSg 5 y, []⟩ : Pt))]) (fun _ => rfl) cellsH_one (by decide) (SX.cat1 (by kernel_rfl)) (SX.src_own (by kernel_rfl)) (by have := chT_len x y 8; have := chT_len x y 4; simp only [nilL, List.length_map, List.length_append, List.length_cons, List.length_nil]; omega) (by have := chT_len x y 8; have := chT_len x y 4; simp only [nilL, List.length_map, List.length_append, List.length_cons, List.length_nil]; omega)) (rfl) ?_
          exact SX.VC_again fun α => ⟨⟨5, Eq.trans (b := [.int .i64 5, .agg ([Value.agg (phL (nilL (acc ++ chT x y 4))).toArray, Value.agg (phL [nilP (⟨0, 1, x.id, 5, setF zeroSg 5 y, []⟩ : Pt)]).toArray].flatMap SX.cellsV).toArray]) (by kernel_rfl) (by rw [show chT x y 5 = chT x y 4 ++ [(⟨0, 1, x.id, 5, setF zeroSg 5 y, []⟩ : Pt)] from chT_other (k := 4) (by show ¬ setF zeroSg 5 x = setF zeroSg 5 y; simpa [setF, zeroSg] using h59)]; simp [SX.cellsV, nilL_app, phL_app, nilL]), by omega⟩, cast (by kernel_rfl) (show 8 - (5 : Int).toNat < 8 - (4 : Int).toNat by decide)⟩
        · cases (Option.some.inj ht)
          refine SX.D (.bool ((x.level : Int) == y.level)) ?_
          refine SX.B ((x.level : Int) == y.level) (fun h59 => ?_) (fun h59 => ?_)
          · try simp only [NRM] at h59
            exact SX.VC_again fun α => ⟨⟨6, Eq.trans (b := [.int .i64 6, .agg ([Value.agg (phL (nilL (acc ++ chT x y 5))).toArray].flatMap SX.cellsV).toArray]) (by kernel_rfl) (by rw [show chT x y 6 = chT x y 5 from chT_same (k := 5) (by show setF zeroSg 6 x = setF zeroSg 6 y; simpa [setF, zeroSg] using h59)]; simp [SX.cellsV]), by omega⟩, cast (by kernel_rfl) (show 8 - (6 : Int).toNat < 8 - (5 : Int).toNat by decide)⟩
          try simp only [NRM] at h59
          refine SX.VC_df (Value.agg (phL [nilP ((⟨0, 1, x.id, 6, setF zeroSg 6 y, []⟩ : Pt))]).toArray) (fun α => SX.app_rel (f := cellsH) (l1 := nilL (acc ++ chT x y 5)) (l2 := [nilP ((⟨0, 1, x.id, 6, setF zeroSg 6 y, []⟩ : Pt))]) (fun _ => rfl) cellsH_one (by decide) (SX.cat1 (by kernel_rfl)) (SX.src_own (by kernel_rfl)) (by have := chT_len x y 8; have := chT_len x y 5; simp only [nilL, List.length_map, List.length_append, List.length_cons, List.length_nil]; omega) (by have := chT_len x y 8; have := chT_len x y 5; simp only [nilL, List.length_map, List.length_append, List.length_cons, List.length_nil]; omega)) (rfl) ?_
          exact SX.VC_again fun α => ⟨⟨6, Eq.trans (b := [.int .i64 6, .agg ([Value.agg (phL (nilL (acc ++ chT x y 5))).toArray, Value.agg (phL [nilP (⟨0, 1, x.id, 6, setF zeroSg 6 y, []⟩ : Pt)]).toArray].flatMap SX.cellsV).toArray]) (by kernel_rfl) (by rw [show chT x y 6 = chT x y 5 ++ [(⟨0, 1, x.id, 6, setF zeroSg 6 y, []⟩ : Pt)] from chT_other (k := 5) (by show ¬ setF zeroSg 6 x = setF zeroSg 6 y; simpa [setF, zeroSg] using h59)]; simp [SX.cellsV, nilL_app, phL_app, nilL]), by omega⟩, cast (by kernel_rfl) (show 8 - (6 : Int).toNat < 8 - (5 : Int).toNat by decide)⟩
        · cases (Option.some.inj ht)
          refine SX.D (.bool ((x.size : Int) == y.size)) ?_
          refine SX.B ((x.size : Int) == y.size) (fun h59 => ?_) (fun h59 => ?_)
          · try simp only [NRM] at h59
            exact SX.VC_again fun α => ⟨⟨7, Eq.trans (b := [.int .i64 7, .agg ([Value.agg (phL (nilL (acc ++ chT x y 6))).toArray].flatMap SX.cellsV).toArray]) (by kernel_rfl) (by rw [show chT x y 7 = chT x y 6 from chT_same (k := 6) (by show setF zeroSg 7 x = setF zeroSg 7 y; simpa [setF, zeroSg] using h59)]; simp [SX.cellsV]), by omega⟩, cast (by kernel_rfl) (show 8 - (7 : Int).toNat < 8 - (6 : Int).toNat by decide)⟩
          try simp only [NRM] at h59
          refine SX.VC_df (Value.agg (phL [nilP ((⟨0, 1, x.id, 7, setF zeroSg 7 y, []⟩ : Pt))]).toArray) (fun α => SX.app_rel (f := cellsH) (l1 := nilL (acc ++ chT x y 6)) (l2 := [nilP ((⟨0, 1, x.id, 7, setF zeroSg 7 y, []⟩ : Pt))]) (fun _ => rfl) cellsH_one (by decide) (SX.cat1 (by kernel_rfl)) (SX.src_own (by kernel_rfl)) (by have := chT_len x y 8; have := chT_len x y 6; simp only [nilL, List.length_map, List.length_append, List.length_cons, List.length_nil]; omega) (by have := chT_len x y 8; have := chT_len x y 6; simp only [nilL, List.length_map, List.length_append, List.length_cons, List.length_nil]; omega)) (rfl) ?_
          exact SX.VC_again fun α => ⟨⟨7, Eq.trans (b := [.int .i64 7, .agg ([Value.agg (phL (nilL (acc ++ chT x y 6))).toArray, Value.agg (phL [nilP (⟨0, 1, x.id, 7, setF zeroSg 7 y, []⟩ : Pt)]).toArray].flatMap SX.cellsV).toArray]) (by kernel_rfl) (by rw [show chT x y 7 = chT x y 6 ++ [(⟨0, 1, x.id, 7, setF zeroSg 7 y, []⟩ : Pt)] from chT_other (k := 6) (by show ¬ setF zeroSg 7 x = setF zeroSg 7 y; simpa [setF, zeroSg] using h59)]; simp [SX.cellsV, nilL_app, phL_app, nilL]), by omega⟩, cast (by kernel_rfl) (show 8 - (7 : Int).toNat < 8 - (6 : Int).toNat by decide)⟩
        cases (Option.some.inj ht)
        refine SX.D (.bool ((x.with_ : Int) == y.with_)) ?_
        refine SX.B ((x.with_ : Int) == y.with_) (fun h59 => ?_) (fun h59 => ?_)
        · try simp only [NRM] at h59
          exact SX.VC_again fun α => ⟨⟨8, Eq.trans (b := [.int .i64 8, .agg ([Value.agg (phL (nilL (acc ++ chT x y 7))).toArray].flatMap SX.cellsV).toArray]) (by kernel_rfl) (by rw [show chT x y 8 = chT x y 7 from chT_same (k := 7) (by show setF zeroSg 8 x = setF zeroSg 8 y; simpa [setF, zeroSg] using h59)]; simp [SX.cellsV]), by omega⟩, cast (by kernel_rfl) (show 8 - (8 : Int).toNat < 8 - (7 : Int).toNat by decide)⟩
        try simp only [NRM] at h59
        refine SX.VC_df (Value.agg (phL [nilP ((⟨0, 1, x.id, 8, setF zeroSg 8 y, []⟩ : Pt))]).toArray) (fun α => SX.app_rel (f := cellsH) (l1 := nilL (acc ++ chT x y 7)) (l2 := [nilP ((⟨0, 1, x.id, 8, setF zeroSg 8 y, []⟩ : Pt))]) (fun _ => rfl) cellsH_one (by decide) (SX.cat1 (by kernel_rfl)) (SX.src_own (by kernel_rfl)) (by have := chT_len x y 8; have := chT_len x y 7; simp only [nilL, List.length_map, List.length_append, List.length_cons, List.length_nil]; omega) (by have := chT_len x y 8; have := chT_len x y 7; simp only [nilL, List.length_map, List.length_append, List.length_cons, List.length_nil]; omega)) (rfl) ?_
        exact SX.VC_again fun α => ⟨⟨8, Eq.trans (b := [.int .i64 8, .agg ([Value.agg (phL (nilL (acc ++ chT x y 7))).toArray, Value.agg (phL [nilP (⟨0, 1, x.id, 8, setF zeroSg 8 y, []⟩ : Pt)]).toArray].flatMap SX.cellsV).toArray]) (by kernel_rfl) (by rw [show chT x y 8 = chT x y 7 ++ [(⟨0, 1, x.id, 8, setF zeroSg 8 y, []⟩ : Pt)] from chT_other (k := 7) (by show ¬ setF zeroSg 8 x = setF zeroSg 8 y; simpa [setF, zeroSg] using h59)]; simp [SX.cellsV, nilL_app, phL_app, nilL]), by omega⟩, cast (by kernel_rfl) (show 8 - (8 : Int).toNat < 8 - (7 : Int).toNat by decide)⟩
      try simp only [NRM] at h58
      have e8 : k2 = 8 := by omega
      subst e8
      refine SX.E (.bool (true ^^ decide ((x.fn, x.fd) = (y.fn, y.fd)))) (fun α => SX.eqr_rel (f := cells2) cells2_inj (y := (x.fn, x.fd)) (z := (y.fn, y.fd)) (by kernel_rfl) (by kernel_rfl) (by kernel_rfl)) ?_
      refine SX.B (true ^^ decide ((x.fn, x.fd) = (y.fn, y.fd))) (fun h59 => ?_) (fun h59 => ?_)
      · try simp only [NRM] at h59
        have hsp : ¬ setF zeroSg 9 x = setF zeroSg 9 y := fun hk => by
          have := (span_iff.1 hk).1
          simp [this] at h59
        refine SX.VC_df (Value.agg (phL [nilP ((⟨0, 1, x.id, 9, setF zeroSg 9 y, []⟩ : Pt))]).toArray) (fun α => SX.app_rel (f := cellsH) (l1 := nilL (acc ++ chT x y 8)) (l2 := [nilP ((⟨0, 1, x.id, 9, setF zeroSg 9 y, []⟩ : Pt))]) (fun _ => rfl) cellsH_one (by decide) (SX.cat1 (by kernel_rfl)) (SX.src_own (by kernel_rfl)) (by have := chT_len x y 8; have := chT_len x y 8; simp only [nilL, List.length_map, List.length_append, List.length_cons, List.length_nil]; omega) (by have := chT_len x y 8; have := chT_len x y 8; simp only [nilL, List.length_map, List.length_append, List.length_cons, List.length_nil]; omega)) (rfl) ?_
        refine SX.VC_df (.agg (((a1).drop 1).flatMap cellsSg).toArray) (fun α => SX.slcxD (f := cellsSg) (l := a1) (k := 1) (fun _ => rfl) (by decide) (SX.cat1 (by kernel_rfl)) (by kernel_rfl) (by have := (List.getElem?_eq_some_iff.1 hx).1; omega)) (rfl) ?_
        refine SX.VC_df (.agg (((b1).drop 1).flatMap cellsSg).toArray) (fun α => SX.slcxD (f := cellsSg) (l := b1) (k := 1) (fun _ => rfl) (by decide) (SX.cat1 (by kernel_rfl)) (by kernel_rfl) (by have := (List.getElem?_eq_some_iff.1 hy).1; omega)) (rfl) ?_
        exact SX.VC_again fun α => ⟨⟨(a1).drop 1, (b1).drop 1, acc ++ chP x y, Eq.trans (b := [.agg ([Value.agg (sgsL ((a1).drop 1)).toArray].flatMap SX.cellsV).toArray, .agg ([Value.agg (sgsL ((b1).drop 1)).toArray].flatMap SX.cellsV).toArray, .agg ([Value.agg (phL (nilL (acc ++ chT x y 8))).toArray, Value.agg (phL [nilP ((⟨0, 1, x.id, 9, setF zeroSg 9 y, []⟩ : Pt))]).toArray].flatMap SX.cellsV).toArray]) (by kernel_rfl) (by rw [show acc ++ chP x y = (acc ++ chT x y 8) ++ [⟨0, 1, x.id, 9, setF zeroSg 9 y, []⟩] from by rw [List.append_assoc, show chP x y = _ from chT_other (k := 8) hsp]; rfl]; simp [SX.cellsV, nilL_app, phL_app, nilL]), mrg_step hm (mrg_chD hx hy hid hkd), by have q1 := (List.getElem?_eq_some_iff.1 hx).1; have q2 := (List.getElem?_eq_some_iff.1 hy).1; have q3 : (chP x y).length ≤ 9 := chT_len x y 9; simp only [LL]; omega⟩, cast (by kernel_rfl) (show ([Value.agg (sgsL ((a1).drop 1)).toArray].flatMap SX.cellsV).toArray.size + ([Value.agg (sgsL ((b1).drop 1)).toArray].flatMap SX.cellsV).toArray.size < (sgsL a1).toArray.size + (sgsL b1).toArray.size from by have q1 := (List.getElem?_eq_some_iff.1 hx).1; have q2 := (List.getElem?_eq_some_iff.1 hy).1; simp only [List.flatMap_cons, List.flatMap_nil, List.append_nil, SX.cellsV, List.toList_toArray, List.size_toArray, sgsL_len, List.length_drop]; omega)⟩
      try simp only [NRM] at h59
      refine SX.E (.bool (true ^^ decide ((x.tn, x.td) = (y.tn, y.td)))) (fun α => SX.eqr_rel (f := cells2) cells2_inj (y := (x.tn, x.td)) (z := (y.tn, y.td)) (by kernel_rfl) (by kernel_rfl) (by kernel_rfl)) ?_
      refine SX.B (true ^^ decide ((x.tn, x.td) = (y.tn, y.td))) (fun h60 => ?_) (fun h60 => ?_)
      · try simp only [NRM] at h60
        have hsp : ¬ setF zeroSg 9 x = setF zeroSg 9 y := fun hk => by
          have := (span_iff.1 hk).2
          simp [this] at h60
        refine SX.VC_df (Value.agg (phL [nilP ((⟨0, 1, x.id, 9, setF zeroSg 9 y, []⟩ : Pt))]).toArray) (fun α => SX.app_rel (f := cellsH) (l1 := nilL (acc ++ chT x y 8)) (l2 := [nilP ((⟨0, 1, x.id, 9, setF zeroSg 9 y, []⟩ : Pt))]) (fun _ => rfl) cellsH_one (by decide) (SX.cat1 (by kernel_rfl)) (SX.src_own (by kernel_rfl)) (by have := chT_len x y 8; have := chT_len x y 8; simp only [nilL, List.length_map, List.length_append, List.length_cons, List.length_nil]; omega) (by have := chT_len x y 8; have := chT_len x y 8; simp only [nilL, List.length_map, List.length_append, List.length_cons, List.length_nil]; omega)) (rfl) ?_
        refine SX.VC_df (.agg (((a1).drop 1).flatMap cellsSg).toArray) (fun α => SX.slcxD (f := cellsSg) (l := a1) (k := 1) (fun _ => rfl) (by decide) (SX.cat1 (by kernel_rfl)) (by kernel_rfl) (by have := (List.getElem?_eq_some_iff.1 hx).1; omega)) (rfl) ?_
        refine SX.VC_df (.agg (((b1).drop 1).flatMap cellsSg).toArray) (fun α => SX.slcxD (f := cellsSg) (l := b1) (k := 1) (fun _ => rfl) (by decide) (SX.cat1 (by kernel_rfl)) (by kernel_rfl) (by have := (List.getElem?_eq_some_iff.1 hy).1; omega)) (rfl) ?_
        exact SX.VC_again fun α => ⟨⟨(a1).drop 1, (b1).drop 1, acc ++ chP x y, Eq.trans (b := [.agg ([Value.agg (sgsL ((a1).drop 1)).toArray].flatMap SX.cellsV).toArray, .agg ([Value.agg (sgsL ((b1).drop 1)).toArray].flatMap SX.cellsV).toArray, .agg ([Value.agg (phL (nilL (acc ++ chT x y 8))).toArray, Value.agg (phL [nilP ((⟨0, 1, x.id, 9, setF zeroSg 9 y, []⟩ : Pt))]).toArray].flatMap SX.cellsV).toArray]) (by kernel_rfl) (by rw [show acc ++ chP x y = (acc ++ chT x y 8) ++ [⟨0, 1, x.id, 9, setF zeroSg 9 y, []⟩] from by rw [List.append_assoc, show chP x y = _ from chT_other (k := 8) hsp]; rfl]; simp [SX.cellsV, nilL_app, phL_app, nilL]), mrg_step hm (mrg_chD hx hy hid hkd), by have q1 := (List.getElem?_eq_some_iff.1 hx).1; have q2 := (List.getElem?_eq_some_iff.1 hy).1; have q3 : (chP x y).length ≤ 9 := chT_len x y 9; simp only [LL]; omega⟩, cast (by kernel_rfl) (show ([Value.agg (sgsL ((a1).drop 1)).toArray].flatMap SX.cellsV).toArray.size + ([Value.agg (sgsL ((b1).drop 1)).toArray].flatMap SX.cellsV).toArray.size < (sgsL a1).toArray.size + (sgsL b1).toArray.size from by have q1 := (List.getElem?_eq_some_iff.1 hx).1; have q2 := (List.getElem?_eq_some_iff.1 hy).1; simp only [List.flatMap_cons, List.flatMap_nil, List.append_nil, SX.cellsV, List.toList_toArray, List.size_toArray, sgsL_len, List.length_drop]; omega)⟩
      try simp only [NRM] at h60
      have hsp : setF zeroSg 9 x = setF zeroSg 9 y := span_iff.2 ⟨by simpa using h59, by simpa using h60⟩
      refine SX.VC_df (.agg (((a1).drop 1).flatMap cellsSg).toArray) (fun α => SX.slcxD (f := cellsSg) (l := a1) (k := 1) (fun _ => rfl) (by decide) (SX.cat1 (by kernel_rfl)) (by kernel_rfl) (by have := (List.getElem?_eq_some_iff.1 hx).1; omega)) (rfl) ?_
      refine SX.VC_df (.agg (((b1).drop 1).flatMap cellsSg).toArray) (fun α => SX.slcxD (f := cellsSg) (l := b1) (k := 1) (fun _ => rfl) (by decide) (SX.cat1 (by kernel_rfl)) (by kernel_rfl) (by have := (List.getElem?_eq_some_iff.1 hy).1; omega)) (rfl) ?_
      exact SX.VC_again fun α => ⟨⟨(a1).drop 1, (b1).drop 1, acc ++ chP x y, Eq.trans (b := [.agg ([Value.agg (sgsL ((a1).drop 1)).toArray].flatMap SX.cellsV).toArray, .agg ([Value.agg (sgsL ((b1).drop 1)).toArray].flatMap SX.cellsV).toArray, .agg ([Value.agg (phL (nilL (acc ++ chT x y 8))).toArray].flatMap SX.cellsV).toArray]) (by kernel_rfl) (by rw [show acc ++ chP x y = acc ++ chT x y 8 from by rw [show chP x y = _ from chT_same (k := 8) hsp]]; simp [SX.cellsV, nilL_app, phL_app, nilL]), mrg_step hm (mrg_chD hx hy hid hkd), by have q1 := (List.getElem?_eq_some_iff.1 hx).1; have q2 := (List.getElem?_eq_some_iff.1 hy).1; have q3 : (chP x y).length ≤ 9 := chT_len x y 9; simp only [LL]; omega⟩, cast (by kernel_rfl) (show ([Value.agg (sgsL ((a1).drop 1)).toArray].flatMap SX.cellsV).toArray.size + ([Value.agg (sgsL ((b1).drop 1)).toArray].flatMap SX.cellsV).toArray.size < (sgsL a1).toArray.size + (sgsL b1).toArray.size from by have q1 := (List.getElem?_eq_some_iff.1 hx).1; have q2 := (List.getElem?_eq_some_iff.1 hy).1; simp only [List.flatMap_cons, List.flatMap_nil, List.append_nil, SX.cellsV, List.toList_toArray, List.size_toArray, sgsL_len, List.length_drop]; omega)⟩
    try simp only [NRM] at h24
    refine SX.E (.int .i64 ((((b1).length : Nat) : Int))) (fun α => SX.rlenD (f := cellsSg) (l := b1) (fun _ => rfl) (by decide) (SX.cat1 (by kernel_rfl))) ?_
    refine SX.D (.bool (decide ((((b1).length : Nat) : Int) > 0))) ?_
    refine SX.B (decide ((((b1).length : Nat) : Int) > 0)) (fun h26 => ?_) (fun h26 => ?_)
    · try simp only [NRM] at h26
      refine SX.E (.int .i64 ((((b1).length : Nat) : Int))) (fun α => SX.rlenD (f := cellsSg) (l := b1) (fun _ => rfl) (by decide) (SX.cat1 (by kernel_rfl))) ?_
      refine SX.D (.bool (((((b1).length : Nat) : Int) : Int) == 0)) ?_
      refine SX.B (((((b1).length : Nat) : Int) : Int) == 0) (fun h28 => absurd (beq_iff_eq.1 h28) (by omega)) (fun h28 => ?_)
      refine SX.E (.int .i64 ((((a1).length : Nat) : Int))) (fun α => SX.rlenD (f := cellsSg) (l := a1) (fun _ => rfl) (by decide) (SX.cat1 (by kernel_rfl))) ?_
      refine SX.D (.bool (decide ((((a1).length : Nat) : Int) > 0))) ?_
      refine SX.B (decide ((((a1).length : Nat) : Int) > 0)) (fun h30 => absurd (of_decide_eq_true h30) (by omega)) (fun h30 => ?_)
      refine SX.E (.int .i64 ((((a1).length : Nat) : Int))) (fun α => SX.rlenD (f := cellsSg) (l := a1) (fun _ => rfl) (by decide) (SX.cat1 (by kernel_rfl))) ?_
      refine SX.D (.bool (((((a1).length : Nat) : Int) : Int) == 0)) ?_
      refine SX.B (((((a1).length : Nat) : Int) : Int) == 0) (fun h32 => ?_) (fun h32 => absurd (show ((((a1).length : Nat) : Int) : Int) = 0 by omega) (ne_of_beq_false h32))
      obtain ⟨y, hy⟩ : ∃ y, b1[0]? = some y := ⟨_, List.getElem?_eq_getElem (by omega)⟩
      have hid : ∀ x, a1[0]? = some x → y.id < x.id := fun x hx => (no_head (by omega) hx).elim
      refine SX.E (.bool true) (fun α => SX.row_bnd (f := cellsSg) (l := b1) (k := 0) (fun _ => rfl) (by decide) (SX.cat1 (by kernel_rfl)) (by kernel_rfl) ((List.getElem?_eq_some_iff.1 hy).1)) ?_
      refine SX.E (.bool true) (fun α => SX.row_bnd (f := cellsSg) (l := b1) (k := 0) (fun _ => rfl) (by decide) (SX.cat1 (by kernel_rfl)) (by kernel_rfl) ((List.getElem?_eq_some_iff.1 hy).1)) ?_
      refine SX.E (.int .i64 y.id) (fun α => SX.relemD (f := cellsSg) (l := b1) (k := 0) (z := y) (v := .int .i64 y.id) (fun _ => rfl) (by decide) (SX.cat1 (by kernel_rfl)) (by kernel_rfl) hy rfl) ?_
      refine SX.E (.bool true) (fun α => SX.row_bnd (f := cellsSg) (l := b1) (k := 0) (fun _ => rfl) (by decide) (SX.cat1 (by kernel_rfl)) (by kernel_rfl) ((List.getElem?_eq_some_iff.1 hy).1)) ?_
      refine SX.E (.agg (cellsSg y).toArray) (fun α => SX.row_elems (f := cellsSg) (l := b1) (k := 0) (z := y) (fun _ => rfl) (by decide) (SX.cat1 (by kernel_rfl)) (by kernel_rfl) hy) ?_
      refine SX.VC_df (Value.agg (phL [nilP (insP y)]).toArray) (fun α => SX.app_rel (f := cellsH) (l1 := nilL acc) (l2 := [nilP (insP y)]) (fun _ => rfl) cellsH_one (by decide) (SX.cat1 (by kernel_rfl)) (SX.src_own (by kernel_rfl)) (by simp only [nilL, List.length_map, List.length_cons, List.length_nil]; omega) (by simp only [nilL, List.length_map, List.length_cons, List.length_nil]; omega)) (rfl) ?_
      refine SX.VC_df (.agg (((b1).drop 1).flatMap cellsSg).toArray) (fun α => SX.slcxD (f := cellsSg) (l := b1) (k := 1) (fun _ => rfl) (by decide) (SX.cat1 (by kernel_rfl)) (by kernel_rfl) (by have := (List.getElem?_eq_some_iff.1 hy).1; omega)) (rfl) ?_
      exact SX.VC_again fun α => ⟨⟨a1, (b1).drop 1, acc ++ [insP y], Eq.trans (b := [.agg ([Value.agg (sgsL (a1)).toArray].flatMap SX.cellsV).toArray, .agg ([Value.agg (sgsL ((b1).drop 1)).toArray].flatMap SX.cellsV).toArray, .agg ([Value.agg (phL (nilL acc)).toArray, Value.agg (phL [nilP (insP y)]).toArray].flatMap SX.cellsV).toArray]) (by kernel_rfl) (by simp [SX.cellsV, nilL_app, phL_app, nilL]), mrg_step hm (mrg_inD hy hid), by have q2 := (List.getElem?_eq_some_iff.1 hy).1; simp only [LL]; omega⟩, cast (by kernel_rfl) (show ([Value.agg (sgsL (a1)).toArray].flatMap SX.cellsV).toArray.size + ([Value.agg (sgsL ((b1).drop 1)).toArray].flatMap SX.cellsV).toArray.size < (sgsL a1).toArray.size + (sgsL b1).toArray.size from by have q2 := (List.getElem?_eq_some_iff.1 hy).1; simp only [List.flatMap_cons, List.flatMap_nil, List.append_nil, SX.cellsV, List.toList_toArray, List.size_toArray, sgsL_len, List.length_drop]; omega)⟩
    try simp only [NRM] at h26
    refine SX.E (.int .i64 ((((nilL acc).length : Nat) : Int))) (fun α => SX.rlenD (f := cellsH) (l := nilL acc) (fun _ => rfl) (by decide) (SX.cat1 (by kernel_rfl))) ?_
    refine SX.D (.bool (decide ((((nilL acc).length : Nat) : Int) > 512))) ?_
    refine SX.B (decide ((((nilL acc).length : Nat) : Int) > 512)) (fun h28 => ?_) (fun h28 => ?_)
    · try simp only [NRM] at h28
      have hq : diffR a b first needs = ([], 2) := by
        have q1 : a1 = [] := List.length_eq_zero_iff.1 (by omega)
        have q2 : b1 = [] := List.length_eq_zero_iff.1 (by omega)
        rw [hD0, hm, q1, q2, mrg_nil]
        show (if 512 < (acc ++ ([] : List Pt)).length ∨ _ then _ else _) = _
        rw [if_pos (by simp only [List.nil_append, List.append_nil]; (try simp at h28); omega)]
      exact SX.VC_ret fun α W _ hrow hS => ⟨hS.below, .slice none 0 0, [], Eq.trans (b := Ending.returned (.tuple #[.slice none 0 0, .int .i64 (2)])) (by kernel_rfl) (by rw [hq]), by rw [hq]; rfl, by rw [hq]; exact SX.SlRet.nil, fun h hh => nomatch hh⟩
    try simp only [NRM] at h28
    refine SX.E (.int .i64 ((((nilL acc).length : Nat) : Int))) (fun α => SX.rlenD (f := cellsH) (l := nilL acc) (fun _ => rfl) (by decide) (SX.cat1 (by kernel_rfl))) ?_
    have hfr : 1 ≤ first ∧ first ≤ 1048576 := hfs.1
    have h28n : acc.length ≤ 512 := by (try simp at h28); omega
    refine SX.E (.int .i64 (first + (((nilL acc).length : Nat) : Int))) (fun α => Eq.trans (b := some (.int .i64 (IntKind.i64.wrap (first + (((nilL acc).length : Nat) : Int))))) (by kernel_rfl) (by rw [wrap_i64 (by omega) (by omega)])) ?_
    refine SX.E (.int .i64 (first + (((nilL acc).length : Nat) : Int) - 1)) (fun α => Eq.trans (b := some (.int .i64 (IntKind.i64.wrap (first + (((nilL acc).length : Nat) : Int) - 1)))) (by kernel_rfl) (by rw [wrap_i64 (by omega) (by omega)])) ?_
    refine SX.D (.bool (decide (first + (((nilL acc).length : Nat) : Int) - 1 > 1048576))) ?_
    refine SX.B (decide (first + (((nilL acc).length : Nat) : Int) - 1 > 1048576)) (fun h32 => ?_) (fun h32 => ?_)
    · try simp only [NRM] at h32
      have hq : diffR a b first needs = ([], 2) := by
        have q1 : a1 = [] := List.length_eq_zero_iff.1 (by omega)
        have q2 : b1 = [] := List.length_eq_zero_iff.1 (by omega)
        rw [hD0, hm, q1, q2, mrg_nil]
        show (if 512 < (acc ++ ([] : List Pt)).length ∨ _ then _ else _) = _
        rw [if_pos (by simp only [List.nil_append, List.append_nil]; (try simp at h32); omega)]
      exact SX.VC_ret fun α W _ hrow hS => ⟨hS.below, .slice none 0 0, [], Eq.trans (b := Ending.returned (.tuple #[.slice none 0 0, .int .i64 (2)])) (by kernel_rfl) (by rw [hq]), by rw [hq]; rfl, by rw [hq]; exact SX.SlRet.nil, fun h hh => nomatch hh⟩
    try simp only [NRM] at h32
    refine SX.E (.int .i64 ((((nilL acc).length : Nat) : Int))) (fun α => SX.rlenD (f := cellsH) (l := nilL acc) (fun _ => rfl) (by decide) (SX.cat1 (by kernel_rfl))) ?_
    have hmm : mrg a b = some acc := by
      have q1 : a1 = [] := List.length_eq_zero_iff.1 (by omega)
      have q2 : b1 = [] := List.length_eq_zero_iff.1 (by omega)
      rw [hm, q1, q2, mrg_nil]; simp
    have hq : diffR a b first needs = (num first needs 0 acc, 0) := by
      rw [hD0, hmm]
      show (if 512 < acc.length ∨ 1048576 < first + (acc.length : Int) - 1 then (([] : List Pt), (2 : Int)) else (num first needs 0 acc, 0)) = _
      rw [if_neg (by (try simp at h28); (try simp at h32); omega)]
    refine SX.VC_loopN (fun xs N => ∃ hs : List Hd, xs = [.int .i64 ((hs.length : Nat) : Int), .agg (phL (doneL first needs acc hs)).toArray] ∧ hs.length ≤ acc.length ∧ ∀ h ∈ hs, (⟨Hd.v h, 1, intsL needs⟩ : SX.Arg) ∈ N) (fun xs => match xs with | .int _ i :: _ => acc.length - i.toNat | _ => 0) (fun _ => rfl) (fun α => ⟨[], (fun y hy => nomatch hy), [], Eq.trans (b := [.int .i64 0, .agg ([Value.agg (phL (nilL acc)).toArray].flatMap SX.cellsV).toArray]) (by kernel_rfl) (by simp [SX.cellsV, doneL_nil]), by simp, fun h hh => nomatch hh⟩) ?_
    rintro xs N - ⟨hs, rfl, hle, hN⟩
    refine SX.D (.bool (decide (((hs.length : Nat) : Int) < (((nilL acc).length : Nat) : Int)))) ?_
    refine SX.B (decide (((hs.length : Nat) : Int) < (((nilL acc).length : Nat) : Int))) (fun h36 => ?_) (fun h36 => ?_)
    · try simp only [NRM] at h36
      refine SX.E (.int .i64 (first + ((hs.length : Nat) : Int))) (fun α => SX.W (first + ((hs.length : Nat) : Int))) ?_
      obtain ⟨p, hp⟩ : ∃ p, acc[hs.length]? = some p := ⟨_, List.getElem?_eq_getElem (by omega)⟩
      have hdl := doneL_len (first := first) (needs := needs) hle
      have hdp := doneL_at (first := first) (needs := needs) hp
      refine SX.VC_dn (fun v N3 => ∃ A2 n2 c2, v = .slice A2 n2 c2 ∧ N3 = [⟨.slice A2 n2 c2, 1, intsL needs⟩]) (fun _ => rfl) (fun α => ⟨[⟨.slice D k e, 1, intsL needs⟩], ⟨by kernel_rfl, by kernel_rfl, K_ofD (y := ⟨.slice D k e, 1, intsL needs⟩) (by kernel_rfl) (.inl (.inr (.inr ⟨rfl, rfl, rfl⟩))), trivial⟩, rfl, _, needs, rfl, by omega, fun A2 n2 c2 => ⟨A2, n2, c2, rfl, rfl⟩⟩) ?_
      rintro _ _ - ⟨A2, n2, c2, rfl, rfl⟩
      refine SX.E (.bool true) (fun α => SX.row_bnd (f := cellsH) (l := doneL first needs acc hs) (k := hs.length) (fun _ => rfl) (by decide) (SX.cat1 (by kernel_rfl)) (by kernel_rfl) (by (try simp only [List.length_set]); omega)) ?_
      refine SX.E (.bool true) (fun α => SX.row_bnd (f := cellsH) (l := doneL first needs acc hs) (k := hs.length) (fun _ => rfl) (by decide) (SX.cat1 (by kernel_rfl)) (by kernel_rfl) (by (try simp only [List.length_set]); omega)) ?_
      refine SX.VC_df (.agg (((doneL first needs acc hs).set hs.length (nilP {p with id := first + (hs.length : Int), needs := needs})).flatMap cellsH).toArray) (fun α => SX.rsetD (f := cellsH) (l := doneL first needs acc hs) (k := hs.length) (y := nilP p) (z := nilP {p with id := first + (hs.length : Int), needs := needs}) (fun _ => rfl) (by decide) (SX.cat1 (by kernel_rfl)) (by kernel_rfl) hdp (by decide) (by kernel_rfl)) (rfl) ?_
      refine SX.E (.bool true) (fun α => SX.row_bnd (f := cellsH) (l := doneL first needs acc hs) (k := hs.length) (fun _ => rfl) (by decide) (SX.cat1 (by kernel_rfl)) (by kernel_rfl) (by (try simp only [List.length_set]); omega)) ?_
      refine SX.E (.bool true) (fun α => SX.row_bnd (f := cellsH) (l := doneL first needs acc hs) (k := hs.length) (fun _ => rfl) (by decide) (SX.cat1 (by kernel_rfl)) (by kernel_rfl) (by (try simp only [List.length_set]); omega)) ?_
      refine SX.VC_df (.agg ((((doneL first needs acc hs).set hs.length (nilP {p with id := first + (hs.length : Int), needs := needs})).set hs.length ((({p with id := first + (hs.length : Int), needs := needs}, A2, n2, c2) : Ph))).flatMap cellsH).toArray) (fun α => SX.rsetD (f := cellsH) (l := (doneL first needs acc hs).set hs.length (nilP {p with id := first + (hs.length : Int), needs := needs})) (k := hs.length) (y := nilP {p with id := first + (hs.length : Int), needs := needs}) (z := (({p with id := first + (hs.length : Int), needs := needs}, A2, n2, c2) : Ph)) (fun _ => rfl) (by decide) (SX.cat1 (by kernel_rfl)) (by kernel_rfl) (List.getElem?_set_self (by omega)) (by decide) (by kernel_rfl)) (rfl) ?_
      refine SX.E (.int .i64 (((hs.length + 1 : Nat) : Int))) (fun α => Eq.trans (b := some (.int .i64 (IntKind.i64.wrap ((hs.length : Nat) + 1)))) (by kernel_rfl) (by rw [show ((hs.length + 1 : Nat) : Int) = ((hs.length : Nat) : Int) + 1 by omega, wrap_i64 (by omega) (by omega)])) ?_
      exact SX.VC_again fun α => ⟨rfl, _, (fun y hy => hy), ⟨hs ++ [(A2, n2, c2)], Eq.trans (b := [.int .i64 ((hs.length + 1 : Nat) : Int), .agg ([Value.agg (phL (((doneL first needs acc hs).set hs.length (nilP {p with id := first + (hs.length : Int), needs := needs})).set hs.length ({p with id := first + (hs.length : Int), needs := needs}, A2, n2, c2))).toArray].flatMap SX.cellsV).toArray]) (by kernel_rfl) (by rw [doneL_set hp]; simp [SX.cellsV]), by rw [List.length_append, List.length_singleton]; omega, fun h hh => by
        rcases List.mem_append.1 hh with hh | hh
        · exact List.mem_append_right _ (hN h hh)
        obtain rfl := List.mem_singleton.1 hh
        exact List.mem_append_left _ (List.mem_singleton.2 rfl)⟩, cast (by kernel_rfl) (show acc.length - ((hs.length + 1 : Nat) : Int).toNat < acc.length - ((hs.length : Nat) : Int).toNat by omega)⟩
    try simp only [NRM] at h36
    have hal : hs.length = acc.length := by omega
    refine SX.VC_ret fun α W _ hrow hS => ⟨hS.below, _, hs, Eq.trans (b := Ending.returned (.tuple #[(α 11).h, .int .i64 0])) (by kernel_rfl) (by rw [hq]), by rw [hq]; simp only [num_len]; exact hal, ?_, fun h hh => ?_⟩
    · rw [hq]
      exact SX.SlRet.row hS (n := 11) (b := (⟨[(.x 35 [])], 55, (.row 19)⟩ : SX.Blk)) (by kernel_rfl) rfl (hrow 11 _ (by kernel_rfl)) (Eq.trans (b := [Value.agg (phL (doneL first needs acc hs)).toArray].flatMap SX.cellsV) (by kernel_rfl) (by rw [doneL_all hal]; simp [SX.cellsV]))
    have hN2 := hS.fact (p := SX.NF _) (List.mem_append.2 (.inr (List.mem_cons_of_mem _ (List.mem_cons_self ..)))) ⟨Hd.v h, 1, intsL needs⟩ (hN h hh)
    exact ⟨⟨h.1, h.2.1, h.2.2, rfl, hN2.1.2⟩, hN2.1, .inl hN2.2⟩
  try simp only [NRM] at h15
  have hq : diffR a b first needs = ([], 360) := diffR_i (by simpa using h6) (by simpa using h7) (by (try simp at h9); omega) (fun hk => by (try simp at h15); omega)
  exact SX.VC_ret fun α W _ hrow hS => ⟨hS.below, .slice none 0 0, [], Eq.trans (b := Ending.returned (.tuple #[.slice none 0 0, .int .i64 (360)])) (by kernel_rfl) (by rw [hq]), by rw [hq]; rfl, by rw [hq]; exact SX.SlRet.nil, fun h hh => nomatch hh⟩
theorem SX.SlRet.okD1 {C : SX.Cx} {f : FuncId} {as' : List SX.Arg} {W W' : World} {e : Ending} {cells : List Value} {sz : Nat} (hs : C.sh f = .sl sz) (h : Below W.heap.size W W' ∧ ∃ hdr, e = .returned hdr ∧ SX.SlRet W W' [] hdr sz cells) :
    Below W.heap.size W W' ∧ ∃ hdr, e = .returned ((C.sh f).fill hdr (.agg cells.toArray)) ∧ ∀ p z, (p, z) ∈ (C.sh f).sls [] → SX.HdrOk C f as' W W' hdr z (SX.cellsV (p.foldl SX.comp (.agg cells.toArray))) := by
  obtain ⟨hb, hdr, he, h1, h2, h3⟩ := h
  refine ⟨hb, hdr, by rw [hs, he]; rfl, fun p z hp => ?_⟩
  rw [hs] at hp
  obtain ⟨rfl, rfl⟩ : p = [] ∧ z = sz := by simpa [SX.Sh.sls] using hp
  refine ⟨h1, h2, .inl (h3.resolve_right ?_)⟩
  rintro ⟨y, hy, _⟩
  cases hy
theorem phL_fit (l : List Ph) : SX.Sh.fit (.sl 19) (.agg (phL l).toArray) = true := by
  simp only [SX.Sh.fit, Bool.and_eq_true, decide_eq_true_eq, beq_iff_eq, List.all_eq_true]
  refine ⟨⟨by decide, by rw [phL_len]; exact Nat.mul_mod_left _ _⟩, fun u hu => ?_⟩
  obtain ⟨q, _, h⟩ := List.mem_flatMap.1 (show u ∈ l.flatMap cellsH from hu)
  exact cellsH_one q u h
theorem drop_at {β : Type} {l : List β} {i : Nat} {x : β} (h : l[i]? = some x) : (l.drop i)[0]? = some x := by rw [List.getElem?_drop, Nat.add_zero]; exact h
theorem drop_one {β : Type} {l : List β} {i : Nat} : (l.drop i).drop 1 = l.drop (i + 1) := by rw [List.drop_drop]
theorem at_drop {β : Type} {l : List β} {i : Nat} {x : β} (h : (l.drop i)[0]? = some x) : l[i]? = some x := by rw [List.getElem?_drop, Nat.add_zero] at h; exact h
theorem dP_a (x : Sg) : dP x zeroSg true false = [remP x] := rfl
theorem dP_b (y : Sg) : dP zeroSg y false true = [insP y] := rfl
theorem dP_c (x y : Sg) : dP x y true true = chP x y := rfl
def RD5 (f : FuncId) (xs : List SX.Arg) (v : Value) : Prop :=
  (f = 15 ∧ ∃ (u : Value) (ss : List Sg), xs = [⟨u, 14, sgsL ss⟩] ∧ ss.length ≤ 9223372036854775807 ∧ v = .int .i64 (chkS ss)) ∨
  (f = 45 ∧ ∃ (u : Value) (l : List Int) (lo hi : Int), xs = [⟨u, 1, intsL l⟩, ⟨.int .i64 lo, 0, []⟩, ⟨.int .i64 hi, 0, []⟩] ∧ l.length ≤ 9223372036854775807 ∧ v = .bool (incrB l lo hi)) ∨
  (f = 46 ∧ ∃ (x y : Sg) (inA inB : Bool), xs = [⟨valSg x, 0, []⟩, ⟨valSg y, 0, []⟩, ⟨.bool inA, 0, []⟩, ⟨.bool inB, 0, []⟩] ∧ v = .agg (phL (nilL (dP x y inA inB))).toArray)
def shpD5 : FuncId → Option SX.Sh := fun f => if f = 15 then some .one else if f = 45 then some .one else if f = 46 then some (.sl 19) else none
noncomputable def cxD5 (nb : Nat) (K A : Value → Nat → List Value → Prop) : SX.Cx := { nb := nb, trm := true, cut := [(22, 139621262017, false), (26, 571884594221697, true), (33, 571884594221698, false), (35, 36600613967188673, true), (42, 149916114805509804738, false), (24, 8935697769153, true), (26, 571884594225794, false), (28, 36600613967450817, false)], P := Try.prog, R := fun _ => RD5, shp := shpD5, K := K, A := A }
theorem okD5 (nb : Nat) (K A : Value → Nat → List Value → Prop) : (cxD5 nb K A).Ok := by
  refine SX.Cx.ok_of (fun _ => rfl) ?_
  intro K f xs v W hR hrd hKf
  rcases hR with ⟨rfl, u, ss, rfl, hb, rfl⟩ | ⟨rfl, u, l, lo, hi, rfl, hb, rfl⟩ | ⟨rfl, x, y, inA, inB, rfl, rfl⟩
  · obtain ⟨A, n, c, rfl, h2, h3, h4⟩ := sgs_arg (hrd ⟨u, 14, sgsL ss⟩ (by simp))
    exact (rcheckL_any ss A n c W h2 (by omega) h3).mono fun e w' h => SX.plainOk rfl h
  · obtain ⟨A, n, c, rfl, hr, hc, hln⟩ := ints_arg (hrd ⟨u, 1, intsL l⟩ (by simp))
    exact (rincr_any l A n c lo hi W hr (by omega) hc).mono fun e w' h => SX.plainOk rfl h
  exact (rdiff_any x y inA inB W).mono fun e w' h => SX.SlRet.okD1 rfl h
theorem dP_len (x y : Sg) (inA inB : Bool) : (nilL (dP x y inA inB)).length ≤ 9 := by
  unfold dP
  split
  · simp [nilL]
  split
  · simp [nilL]
  · have := chT_len x y 9
    simpa [nilL, chP] using this
def tree_rDiff : SX.Tree :=
(.df (.call 15 [(.ext 14)]) [(.q 0)] .one
(.df (.bin .neq 31) [(.q 4), (.i 0)] .one
(.br 5 []
(.ret (.t [(.k (.slice none 0 0)), (.q 4)]) [] [])
(.df (.call 15 [(.ext 14)]) [(.q 1)] .one
(.df (.bin .neq 31) [(.q 6), (.i 0)] .one
(.br 7 []
(.ret (.t [(.k (.slice none 0 0)), (.q 6)]) [] [])
(.df (.len false) [(.q 3)] .one
(.df (.bin .gtr 3) [(.q 8), (.i 32)] .one
(.br 9 []
(.ret (.t [(.k (.slice none 0 0)), (.i 2)]) [] [])
(.df (.bin .geq 3) [(.q 2), (.i 1)] .one
(.br 10 []
(.df (.bin .leq 3) [(.q 2), (.i 1048576)] .one
(.df .not [(.q 11)] .one
(.br 12 []
(.ret (.t [(.k (.slice none 0 0)), (.i 360)]) [] [])
(.df (.bin .sub 3) [(.q 2), (.i 1)] .one
(.df (.call 45 [(.ext 1), .no, .no]) [(.q 3), (.i 1), (.q 13)] .one
(.df .not [(.q 14)] .one
(.br 15 []
(.ret (.t [(.k (.slice none 0 0)), (.i 360)]) [] [])
(.loop [(.i 0), (.i 0), (.cat [])] [.one, .one, .any]
(.df (.len false) [(.q 0)] .one
(.df (.bin .lss 3) [(.q 16), (.q 19)] .one
(.br 20 []
(.df (.len false) [(.q 0)] .one
(.df (.bin .lss 3) [(.q 16), (.q 21)] .one
(.br 22 []
(.df (.len false) [(.q 1)] .one
(.df (.bin .eql 3) [(.q 17), (.q 23)] .one
(.br 24 []
(.df (.len false) [(.q 1)] .one
(.df (.bin .lss 3) [(.q 17), (.q 25)] .one
(.br 26 [] (.bad 70 [])
(.df .bnd [(.q 0), (.q 16)] .one
(.df (.elems 14 0 14) [(.q 0), (.q 16)] (.ag 14)
(.df (.bin .add 3) [(.q 16), (.i 1)] .one
(.df (.call 46 [.no, .no, .no, .no]) [(.a (SX.Y 28 0 14)), (.a [(.i 0), (.i 0), (.i 0), (.i 0), (.i 0), (.i 0), (.i 0), (.i 0), (.i 0), (.i 0), (.i 0), (.i 0), (.i 0), (.i 0)]), (.k (.bool true)), (.k (.bool false))] (.sl 19)
(.df (.app 19 168 (.row 19 [(.q 30)])) [(.cat [(.q 18)]), (.row 6)] .any
(.again 0 [(.q 29), (.q 17), (.cat [(.q 18), (.q 31)])])))))))))
(.df .bnd [(.q 0), (.q 16)] .one
(.df .bnd [(.q 0), (.q 16)] .one
(.df (.elem 14 0) [(.q 0), (.q 16)] .one
(.df .bnd [(.q 1), (.q 17)] .one
(.df .bnd [(.q 1), (.q 17)] .one
(.df (.elem 14 0) [(.q 1), (.q 17)] .one
(.df (.bin .leq 3) [(.q 27), (.q 30)] .one
(.df (.len false) [(.q 1)] .one
(.df (.bin .lss 3) [(.q 17), (.q 32)] .one
(.br 33 []
(.df (.len false) [(.q 0)] .one
(.df (.bin .eql 3) [(.q 16), (.q 34)] .one
(.br 35 [] (.bad 70 [])
(.df .bnd [(.q 1), (.q 17)] .one
(.df .bnd [(.q 1), (.q 17)] .one
(.df (.elem 14 0) [(.q 1), (.q 17)] .one
(.df .bnd [(.q 0), (.q 16)] .one
(.df .bnd [(.q 0), (.q 16)] .one
(.df (.elem 14 0) [(.q 0), (.q 16)] .one
(.df (.bin .leq 3) [(.q 38), (.q 41)] .one
(.br 31 []
(.df .bnd [(.q 0), (.q 16)] .one
(.df (.elems 14 0 14) [(.q 0), (.q 16)] (.ag 14)
(.df (.bin .add 3) [(.q 16), (.i 1)] .one
(.br 42 []
(.df .bnd [(.q 1), (.q 17)] .one
(.df (.elems 14 0 14) [(.q 1), (.q 17)] (.ag 14)
(.df (.bin .add 3) [(.q 17), (.i 1)] .one
(.df (.bin .neq 3) [(.x 44 [4]), (.x 47 [4])] .one
(.br 49 []
(.ret (.t [(.k (.slice none 0 0)), (.i 360)]) (List.replicate 6 none) [])
(.df (.call 46 [.no, .no, .no, .no]) [(.a (SX.Y 44 0 14)), (.a (SX.Y 47 0 14)), (.k (.bool true)), (.k (.bool true))] (.sl 19)
(.df (.app 19 168 (.row 19 [(.q 50)])) [(.cat [(.q 18)]), (.row 6)] .any
(.again 0 [(.q 45), (.q 48), (.cat [(.q 18), (.q 51)])]))))))))
(.df (.call 46 [.no, .no, .no, .no]) [(.a (SX.Y 44 0 14)), (.a [(.i 0), (.i 0), (.i 0), (.i 0), (.i 0), (.i 0), (.i 0), (.i 0), (.i 0), (.i 0), (.i 0), (.i 0), (.i 0), (.i 0)]), (.k (.bool true)), (.k (.bool false))] (.sl 19)
(.df (.app 19 168 (.row 19 [(.q 46)])) [(.cat [(.q 18)]), (.row 6)] .any
(.again 0 [(.q 45), (.q 17), (.cat [(.q 18), (.q 47)])])))))))
(.br 42 []
(.df .bnd [(.q 1), (.q 17)] .one
(.df (.elems 14 0 14) [(.q 1), (.q 17)] (.ag 14)
(.df (.bin .add 3) [(.q 17), (.i 1)] .one
(.df (.call 46 [.no, .no, .no, .no]) [(.a [(.i 0), (.i 0), (.i 0), (.i 0), (.i 0), (.i 0), (.i 0), (.i 0), (.i 0), (.i 0), (.i 0), (.i 0), (.i 0), (.i 0)]), (.a (SX.Y 44 0 14)), (.k (.bool false)), (.k (.bool true))] (.sl 19)
(.df (.app 19 168 (.row 19 [(.q 46)])) [(.cat [(.q 18)]), (.row 6)] .any
(.again 0 [(.q 16), (.q 45), (.cat [(.q 18), (.q 47)])])))))) (.bad 70 []))))))))))))) (.bad 70 [])))))))))))))) (.bad 70 []))))
(.df (.len false) [(.q 1)] .one
(.df (.bin .lss 3) [(.q 17), (.q 21)] .one
(.br 22 []
(.df (.len false) [(.q 0)] .one
(.df (.bin .lss 3) [(.q 16), (.q 23)] .one
(.br 24 [] (.bad 70 [])
(.df (.len false) [(.q 1)] .one
(.df (.bin .lss 3) [(.q 17), (.q 25)] .one
(.br 26 []
(.df (.len false) [(.q 0)] .one
(.df (.bin .eql 3) [(.q 16), (.q 27)] .one
(.br 28 []
(.df .bnd [(.q 1), (.q 17)] .one
(.df (.elems 14 0 14) [(.q 1), (.q 17)] (.ag 14)
(.df (.bin .add 3) [(.q 17), (.i 1)] .one
(.df (.call 46 [.no, .no, .no, .no]) [(.a [(.i 0), (.i 0), (.i 0), (.i 0), (.i 0), (.i 0), (.i 0), (.i 0), (.i 0), (.i 0), (.i 0), (.i 0), (.i 0), (.i 0)]), (.a (SX.Y 30 0 14)), (.k (.bool false)), (.k (.bool true))] (.sl 19)
(.df (.app 19 168 (.row 19 [(.q 32)])) [(.cat [(.q 18)]), (.row 6)] .any
(.again 0 [(.q 16), (.q 31), (.cat [(.q 18), (.q 33)])])))))) (.bad 70 [])))) (.bad 70 [])))))))
(.df (.rlen 19) [(.cat [(.q 18)])] .one
(.df (.bin .gtr 3) [(.q 23), (.i 512)] .one
(.br 24 []
(.ret (.t [(.k (.slice none 0 0)), (.i 2)]) [none, none, none, none] [])
(.df (.rlen 19) [(.cat [(.q 18)])] .one
(.df (.bin .add 3) [(.q 2), (.q 25)] .one
(.df (.bin .sub 3) [(.q 26), (.i 1)] .one
(.df (.bin .gtr 3) [(.q 27), (.i 1048576)] .one
(.br 28 []
(.ret (.t [(.k (.slice none 0 0)), (.i 2)]) [none, none, none, none] [])
(.loop [(.i 0), (.cat [(.q 18)])] [.one, .any]
(.df (.rlen 19) [(.cat [(.q 30)])] .one
(.df (.bin .lss 3) [(.q 29), (.q 31)] .one
(.br 32 []
(.df (.bin .add 3) [(.q 2), (.q 29)] .one
(.df (.rbnd 19) [(.cat [(.q 30)]), (.q 29)] .one
(.df (.rbnd 19) [(.cat [(.q 30)]), (.q 29)] .one
(.df (.rset 19 0) [(.cat [(.q 30)]), (.q 29), (.q 33)] .any
(.df (.app 1 8 (.ext 1)) [(.cat []), (.q 3)] .any
(.df (.rbnd 19) [(.cat [(.q 30)]), (.q 29)] .one
(.df (.rbnd 19) [(.cat [(.q 30)]), (.q 29)] .one
(.df (.lastq 1) [(.cat [(.q 37)])] .one
(.df (.rset 19 18) [(.cat [(.q 36)]), (.q 29), (.q 40)] .any
(.df (.bin .add 3) [(.q 29), (.i 1)] .one
(.again 1 [(.q 42), (.cat [(.q 41)])])))))))))))
(.ret (.t [(.row 5), (.i 0)]) [none, none, none, none, none, (some ⟨[(.q 30)], 55, (.row 19)⟩)] [])))))))))))))))))))))))))))
(.ret (.t [(.k (.slice none 0 0)), (.i 360)]) [] []))))))))))))
def args_rDiff : List SX.V := [.x 0 [], .x 1 [], .x 2 [], .x 3 []]
set_option maxRecDepth 100000 in
theorem run_rDiff (nb : Nat) (K A : Value → Nat → List Value → Prop) : (SX.run (cxD5 nb K A) ⟨fun f => true, [⟨18, 14, [(.s 12, .one), (.s 13, .one), (.s 11, .row 19 55)]⟩, ⟨18, 31, [(.s 18, .one), (.s 11, .row 19 55)]⟩], 12, 100⟩ 100000 0 (SX.door 18 Try.f18 args_rDiff [.one, .one, .one, .one]) [.code (Try.f18.body.getD .skip), .top Try.f18]).strip = tree_rDiff := by kernel_rfl
set_option maxRecDepth 100000 in
set_option maxHeartbeats 4000000 in
theorem rDiff_any (a : List Sg) (A : Option Addr) (n c : Nat) (b : List Sg) (B : Option Addr) (m d : Nat) (first : Int) (needs : List Int) (D : Option Addr) (k e : Nat) (w : World) (hr : Rd w 14 A n (sgsL a)) (hn : n ≤ 9223372036854775807) (hc : n ≤ c) (hr2 : Rd w 14 B m (sgsL b)) (hn2 : m ≤ 9223372036854775807) (hc2 : m ≤ d) (hr3 : Rd w 1 D k (intsL needs)) (hn3 : k ≤ 9223372036854775807) (hc3 : k ≤ e) : Calls Try.prog 18 #[.slice A n c, .slice B m d, .int .i64 first, .slice D k e] w fun e w' => Below w.heap.size w w' ∧ ∃ hdr hs, e = .returned (.tuple #[hdr, .int .i64 (diffR a b first needs).2]) ∧ hs.length = (diffR a b first needs).1.length ∧ SX.SlRet w w' [] hdr 19 (phL ((diffR a b first needs).1.zip hs)) ∧ ∀ h ∈ hs, SX.SlRet w w' [] (Hd.v h) 1 (intsL needs) := by
  refine SX.calls_of_run (C := cxD5 w.heap.size (KDf A n c a B m d b D k e needs) (KDf A n c a B m d b D k e needs)) (G := ⟨fun f => true, [⟨18, 14, [(.s 12, .one), (.s 13, .one), (.s 11, .row 19 55)]⟩, ⟨18, 31, [(.s 18, .one), (.s 11, .row 19 55)]⟩], 12, 100⟩) (args := args_rDiff) (sh := [.one, .one, .one, .one]) (ρ := [.slice A n c, .slice B m d, .int .i64 first, .slice D k e]) 100000 tree_rDiff (okD5 w.heap.size _ _) Try.func18 rfl (run_rDiff _ _ _) (by kernel_rfl) (by kernel_rfl) (by kernel_rfl) ?_ ?_ (hN := ⟨rfl, Nat.le_refl _⟩)
  · rintro W hW s sz cells (⟨rfl, rfl, rfl⟩ | ⟨rfl, rfl, rfl⟩ | ⟨rfl, rfl, rfl⟩)
    · exact ⟨hr.same0 hW, hc⟩
    · exact ⟨hr2.same0 hW, hc2⟩
    exact ⟨hr3.same0 hW, hc3⟩
  have hA := SX.rd_some hr
  have hln : a.length = n := by have := hr.1; rw [sgsL_len] at this; omega
  have hB := SX.rd_some hr2
  have hlm : b.length = m := by have := hr2.1; rw [sgsL_len] at this; omega
  have hD := SX.rd_some hr3
  have hlk : needs.length = k := by have := hr3.1; rw [intsL_len] at this; omega
  unfold tree_rDiff
  refine SX.E (.int .i64 ((chkS a))) (fun α => ⟨[⟨.slice A n c, 14, sgsL a⟩], ⟨by kernel_rfl, by kernel_rfl, .inl ⟨rfl, rfl, rfl⟩, trivial⟩, .inl ⟨rfl, _, a, rfl, by omega, rfl⟩, SX.noAli rfl⟩) ?_
  refine SX.D (.bool (((chkS a) : Int) != 0)) ?_
  refine SX.B (((chkS a) : Int) != 0) (fun h5 => ?_) (fun h5 => ?_)
  · try simp only [NRM] at h5
    have hq : diffR a b first needs = ([], chkS a) := diffR_a (by simpa using h5)
    exact SX.VC_ret fun α W _ hrow hS => ⟨hS.below, .slice none 0 0, [], Eq.trans (b := Ending.returned (.tuple #[.slice none 0 0, .int .i64 (chkS a)])) (by kernel_rfl) (by rw [hq]), by rw [hq]; rfl, by rw [hq]; exact SX.SlRet.nil, fun h hh => nomatch hh⟩
  try simp only [NRM] at h5
  refine SX.E (.int .i64 ((chkS b))) (fun α => ⟨[⟨.slice B m d, 14, sgsL b⟩], ⟨by kernel_rfl, by kernel_rfl, .inr (.inl ⟨rfl, rfl, rfl⟩), trivial⟩, .inl ⟨rfl, _, b, rfl, by omega, rfl⟩, SX.noAli rfl⟩) ?_
  refine SX.D (.bool (((chkS b) : Int) != 0)) ?_
  refine SX.B (((chkS b) : Int) != 0) (fun h7 => ?_) (fun h7 => ?_)
  · try simp only [NRM] at h7
    have hq : diffR a b first needs = ([], chkS b) := diffR_b (by simpa using h5) (by simpa using h7)
    exact SX.VC_ret fun α W _ hrow hS => ⟨hS.below, .slice none 0 0, [], Eq.trans (b := Ending.returned (.tuple #[.slice none 0 0, .int .i64 (chkS b)])) (by kernel_rfl) (by rw [hq]), by rw [hq]; rfl, by rw [hq]; exact SX.SlRet.nil, fun h hh => nomatch hh⟩
  try simp only [NRM] at h7
  refine SX.D (.int .i64 (((k : Nat) : Int))) ?_
  refine SX.D (.bool (decide (((k : Nat) : Int) > 32))) ?_
  refine SX.B (decide (((k : Nat) : Int) > 32)) (fun h9 => ?_) (fun h9 => ?_)
  · try simp only [NRM] at h9
    have hq : diffR a b first needs = ([], 2) := diffR_n (by simpa using h5) (by simpa using h7) (by (try simp at h9); omega)
    exact SX.VC_ret fun α W _ hrow hS => ⟨hS.below, .slice none 0 0, [], Eq.trans (b := Ending.returned (.tuple #[.slice none 0 0, .int .i64 (2)])) (by kernel_rfl) (by rw [hq]), by rw [hq]; rfl, by rw [hq]; exact SX.SlRet.nil, fun h hh => nomatch hh⟩
  try simp only [NRM] at h9
  refine SX.D (.bool (decide (first ≥ 1))) ?_
  refine SX.B (decide (first ≥ 1)) (fun h10 => ?_) (fun h10 => ?_)
  · try simp only [NRM] at h10
    refine SX.D (.bool (decide (first ≤ 1048576))) ?_
    refine SX.D (.bool (!(decide (first ≤ 1048576)))) ?_
    refine SX.B (!(decide (first ≤ 1048576))) (fun h12 => ?_) (fun h12 => ?_)
    · try simp only [NRM] at h12
      have hq : diffR a b first needs = ([], 360) := diffR_i (by simpa using h5) (by simpa using h7) (by (try simp at h9); omega) (fun hk => by (try simp at h12); omega)
      exact SX.VC_ret fun α W _ hrow hS => ⟨hS.below, .slice none 0 0, [], Eq.trans (b := Ending.returned (.tuple #[.slice none 0 0, .int .i64 (360)])) (by kernel_rfl) (by rw [hq]), by rw [hq]; rfl, by rw [hq]; exact SX.SlRet.nil, fun h hh => nomatch hh⟩
    try simp only [NRM] at h12
    refine SX.E (.int .i64 (first - 1)) (fun α => SX.W (first - 1)) ?_
    refine SX.E (.bool ((incrB needs 1 (first - 1)))) (fun α => ⟨[⟨.slice D k e, 1, intsL needs⟩, ⟨.int .i64 1, 0, []⟩, ⟨.int .i64 (first - 1), 0, []⟩], ⟨by kernel_rfl, by kernel_rfl, .inr (.inr ⟨rfl, rfl, rfl⟩), by kernel_rfl, by kernel_rfl, by kernel_rfl, by kernel_rfl, trivial⟩, .inr (.inl ⟨rfl, _, needs, 1, first - 1, rfl, by omega, rfl⟩), SX.noAli rfl⟩) ?_
    refine SX.D (.bool (!((incrB needs 1 (first - 1))))) ?_
    refine SX.B (!((incrB needs 1 (first - 1)))) (fun h15 => ?_) (fun h15 => ?_)
    · try simp only [NRM] at h15
      have hq : diffR a b first needs = ([], 360) := diffR_i (by simpa using h5) (by simpa using h7) (by (try simp at h9); omega) (fun hk => by have := incrB_iff.2 hk.2; simp [this] at h15)
      exact SX.VC_ret fun α W _ hrow hS => ⟨hS.below, .slice none 0 0, [], Eq.trans (b := Ending.returned (.tuple #[.slice none 0 0, .int .i64 (360)])) (by kernel_rfl) (by rw [hq]), by rw [hq]; rfl, by rw [hq]; exact SX.SlRet.nil, fun h hh => nomatch hh⟩
    try simp only [NRM] at h15
    have h9n : needs.length ≤ 32 := by (try simp at h9); omega
    have hla : a.length ≤ 4096 ∧ b.length ≤ 4096 := ⟨(chkS_ok (by simpa using h5)).2, (chkS_ok (by simpa using h7)).2⟩
    have hfs : (1 ≤ first ∧ first ≤ 1048576) ∧ incr needs 1 (first - 1) := ⟨⟨by omega, by (try simp at h12); omega⟩, incrB_iff.1 (by simpa using h15)⟩
    have hD0 := diffR_m (a := a) (b := b) (by simpa using h5) (by simpa using h7) (by omega) hfs
    refine SX.VC_loop (fun xs => ∃ (i j : Nat) (acc : List Pt), xs = [.int .i64 (i : Int), .int .i64 (j : Int), .agg (phL (nilL acc)).toArray] ∧ i ≤ n ∧ j ≤ m ∧ mrg a b = (mrg (a.drop i) (b.drop j)).map (acc ++ ·) ∧ acc.length + 9 * ((n - i) + (m - j)) ≤ 73728) (fun xs => match xs with | .int _ i :: .int _ j :: _ => (n - i.toNat) + (m - j.toNat) | _ => 0) (fun α => ⟨0, 0, [], Eq.trans (b := [.int .i64 0, .int .i64 0, .agg (([] : List Value).flatMap SX.cellsV).toArray]) (by kernel_rfl) (by simp [nilL, phL]), by omega, by omega, by simp, by simp only [List.length_nil]; omega⟩) ?_
    rintro xs - ⟨i, j, acc, rfl, hin, hjm, hm, hlen⟩
    have hnl : (nilL acc).length = acc.length := by simp [nilL]
    refine SX.D (.int .i64 (((n : Nat) : Int))) ?_
    refine SX.D (.bool (decide (((i : Nat) : Int) < ((n : Nat) : Int)))) ?_
    refine SX.B (decide (((i : Nat) : Int) < ((n : Nat) : Int))) (fun h20 => ?_) (fun h20 => ?_)
    · try simp only [NRM] at h20
      refine SX.D (.int .i64 (((n : Nat) : Int))) ?_
      refine SX.D (.bool (decide (((i : Nat) : Int) < ((n : Nat) : Int)))) ?_
      refine SX.B (decide (((i : Nat) : Int) < ((n : Nat) : Int))) (fun h22 => ?_) (fun h22 => absurd (show ((i : Nat) : Int) < ((n : Nat) : Int) by omega) (of_decide_eq_false h22))
      refine SX.D (.int .i64 (((m : Nat) : Int))) ?_
      refine SX.D (.bool ((((j : Nat) : Int) : Int) == ((m : Nat) : Int))) ?_
      refine SX.B ((((j : Nat) : Int) : Int) == ((m : Nat) : Int)) (fun h24 => ?_) (fun h24 => ?_)
      · try simp only [NRM] at h24
        refine SX.D (.int .i64 (((m : Nat) : Int))) ?_
        refine SX.D (.bool (decide (((j : Nat) : Int) < ((m : Nat) : Int)))) ?_
        refine SX.B (decide (((j : Nat) : Int) < ((m : Nat) : Int))) (fun h26 => absurd (of_decide_eq_true h26) (by omega)) (fun h26 => ?_)
        obtain ⟨x, hx⟩ : ∃ x, a[i]? = some x := ⟨_, List.getElem?_eq_getElem (by omega)⟩
        have hid : ∀ y, (b.drop j)[0]? = some y → x.id < y.id := fun y hy => (no_head (by rw [List.length_drop]; omega) hy).elim
        refine SX.E (.bool true) (fun α => SX.extBnd (A := A) (n := n) (c := c) (j := i) hA (by kernel_rfl) (by kernel_rfl) (by omega)) ?_
        refine SX.E (.agg (cellsSg x).toArray) (fun α => SX.extElems (f := cellsSg) (l := a) (A := A) (n := n) (c := c) (j := i) (z := x) (fun _ => rfl) hA (by kernel_rfl) (by kernel_rfl) (by omega) (.inl ⟨rfl, rfl, rfl⟩) hx) ?_
        refine SX.E (.int .i64 (((i + 1 : Nat) : Int))) (fun α => SX.W1 i) ?_
        refine SX.VC_df (.agg (phL (nilL (dP x zeroSg true false))).toArray) (fun α => ⟨[⟨valSg x, 0, []⟩, ⟨valSg zeroSg, 0, []⟩, ⟨.bool true, 0, []⟩, ⟨.bool false, 0, []⟩], ⟨by kernel_rfl, by kernel_rfl, by kernel_rfl, by kernel_rfl, by kernel_rfl, by kernel_rfl, by kernel_rfl, by kernel_rfl, trivial⟩, .inr (.inr (⟨rfl, x, zeroSg, true, false, rfl, rfl⟩)), SX.noAli rfl⟩) (phL_fit _) ?_
        refine SX.VC_df (Value.agg (phL (nilL (dP x zeroSg true false))).toArray) (fun α => SX.app_rel (f := cellsH) (l1 := nilL acc) (l2 := nilL (dP x zeroSg true false)) (fun _ => rfl) cellsH_one (by decide) (SX.cat1 (by kernel_rfl)) (src_rowD (Eq.trans (b := [Value.agg (phL (nilL (dP x zeroSg true false))).toArray].flatMap SX.cellsV) (by kernel_rfl) (by simp [SX.cellsV, phL]))) (by have : (nilL (dP x zeroSg true false)).length ≤ 9 := dP_len _ _ _ _; omega) (by have : (nilL (dP x zeroSg true false)).length ≤ 9 := dP_len _ _ _ _; omega)) (rfl) ?_
        exact SX.VC_again fun α => ⟨⟨i + 1, j, acc ++ [remP x], Eq.trans (b := [.int .i64 ((i + 1 : Nat) : Int), .int .i64 ((j : Nat) : Int), .agg ([Value.agg (phL (nilL acc)).toArray, Value.agg (phL (nilL (dP x zeroSg true false))).toArray].flatMap SX.cellsV).toArray]) (by kernel_rfl) (by rw [dP_a]; simp [SX.cellsV, nilL_app, phL_app]), by have q1 := (List.getElem?_eq_some_iff.1 hx).1; omega, by have q1 := (List.getElem?_eq_some_iff.1 hx).1; omega, mrg_step hm (by rw [← drop_one (l := a)]; exact mrg_rmD (drop_at hx) hid), by have q1 := (List.getElem?_eq_some_iff.1 hx).1; simp only [LL]; omega⟩, cast (by kernel_rfl) (show (n - ((i + 1 : Nat) : Int).toNat) + (m - ((j : Nat) : Int).toNat) < (n - (i : Int).toNat) + (m - (j : Int).toNat) from by have q1 := (List.getElem?_eq_some_iff.1 hx).1; omega)⟩
      try simp only [NRM] at h24
      obtain ⟨x, hx⟩ : ∃ x, a[i]? = some x := ⟨_, List.getElem?_eq_getElem (by omega)⟩
      obtain ⟨y, hy⟩ : ∃ y, b[j]? = some y := ⟨_, List.getElem?_eq_getElem (by omega)⟩
      refine SX.E (.bool true) (fun α => SX.extBnd (A := A) (n := n) (c := c) (j := i) hA (by kernel_rfl) (by kernel_rfl) (by omega)) ?_
      refine SX.E (.bool true) (fun α => SX.extBnd (A := A) (n := n) (c := c) (j := i) hA (by kernel_rfl) (by kernel_rfl) (by omega)) ?_
      refine SX.E (.int .i64 x.id) (fun α => SX.extElem (o := 0) (v := .int .i64 x.id) (f := cellsSg) (l := a) (A := A) (n := n) (c := c) (j := i) (z := x) (fun _ => rfl) hA (by kernel_rfl) (by kernel_rfl) (by omega) (.inl ⟨rfl, rfl, rfl⟩) hx (by decide) (by kernel_rfl)) ?_
      refine SX.E (.bool true) (fun α => SX.extBnd (A := B) (n := m) (c := d) (j := j) hB (by kernel_rfl) (by kernel_rfl) (by omega)) ?_
      refine SX.E (.bool true) (fun α => SX.extBnd (A := B) (n := m) (c := d) (j := j) hB (by kernel_rfl) (by kernel_rfl) (by omega)) ?_
      refine SX.E (.int .i64 y.id) (fun α => SX.extElem (o := 0) (v := .int .i64 y.id) (f := cellsSg) (l := b) (A := B) (n := m) (c := d) (j := j) (z := y) (fun _ => rfl) hB (by kernel_rfl) (by kernel_rfl) (by omega) (.inr (.inl ⟨rfl, rfl, rfl⟩)) hy (by decide) (by kernel_rfl)) ?_
      refine SX.D (.bool (decide (x.id ≤ y.id))) ?_
      refine SX.D (.int .i64 (((m : Nat) : Int))) ?_
      refine SX.D (.bool (decide (((j : Nat) : Int) < ((m : Nat) : Int)))) ?_
      refine SX.B (decide (((j : Nat) : Int) < ((m : Nat) : Int))) (fun h33 => ?_) (fun h33 => absurd (show ((j : Nat) : Int) < ((m : Nat) : Int) by omega) (of_decide_eq_false h33))
      refine SX.D (.int .i64 (((n : Nat) : Int))) ?_
      refine SX.D (.bool ((((i : Nat) : Int) : Int) == ((n : Nat) : Int))) ?_
      refine SX.B ((((i : Nat) : Int) : Int) == ((n : Nat) : Int)) (fun h35 => absurd (beq_iff_eq.1 h35) (by omega)) (fun h35 => ?_)
      refine SX.E (.bool true) (fun α => SX.extBnd (A := B) (n := m) (c := d) (j := j) hB (by kernel_rfl) (by kernel_rfl) (by omega)) ?_
      refine SX.E (.bool true) (fun α => SX.extBnd (A := B) (n := m) (c := d) (j := j) hB (by kernel_rfl) (by kernel_rfl) (by omega)) ?_
      refine SX.E (.int .i64 y.id) (fun α => SX.extElem (o := 0) (v := .int .i64 y.id) (f := cellsSg) (l := b) (A := B) (n := m) (c := d) (j := j) (z := y) (fun _ => rfl) hB (by kernel_rfl) (by kernel_rfl) (by omega) (.inr (.inl ⟨rfl, rfl, rfl⟩)) hy (by decide) (by kernel_rfl)) ?_
      refine SX.E (.bool true) (fun α => SX.extBnd (A := A) (n := n) (c := c) (j := i) hA (by kernel_rfl) (by kernel_rfl) (by omega)) ?_
      refine SX.E (.bool true) (fun α => SX.extBnd (A := A) (n := n) (c := c) (j := i) hA (by kernel_rfl) (by kernel_rfl) (by omega)) ?_
      refine SX.E (.int .i64 x.id) (fun α => SX.extElem (o := 0) (v := .int .i64 x.id) (f := cellsSg) (l := a) (A := A) (n := n) (c := c) (j := i) (z := x) (fun _ => rfl) hA (by kernel_rfl) (by kernel_rfl) (by omega) (.inl ⟨rfl, rfl, rfl⟩) hx (by decide) (by kernel_rfl)) ?_
      refine SX.D (.bool (decide (y.id ≤ x.id))) ?_
      refine SX.B (decide (x.id ≤ y.id)) (fun h31 => ?_) (fun h31 => ?_)
      · try simp only [NRM] at h31
        refine SX.E (.bool true) (fun α => SX.extBnd (A := A) (n := n) (c := c) (j := i) hA (by kernel_rfl) (by kernel_rfl) (by omega)) ?_
        refine SX.E (.agg (cellsSg x).toArray) (fun α => SX.extElems (f := cellsSg) (l := a) (A := A) (n := n) (c := c) (j := i) (z := x) (fun _ => rfl) hA (by kernel_rfl) (by kernel_rfl) (by omega) (.inl ⟨rfl, rfl, rfl⟩) hx) ?_
        refine SX.E (.int .i64 (((i + 1 : Nat) : Int))) (fun α => SX.W1 i) ?_
        refine SX.B (decide (y.id ≤ x.id)) (fun h42 => ?_) (fun h42 => ?_)
        · try simp only [NRM] at h42
          have hid : x.id = y.id := by omega
          refine SX.E (.bool true) (fun α => SX.extBnd (A := B) (n := m) (c := d) (j := j) hB (by kernel_rfl) (by kernel_rfl) (by omega)) ?_
          refine SX.E (.agg (cellsSg y).toArray) (fun α => SX.extElems (f := cellsSg) (l := b) (A := B) (n := m) (c := d) (j := j) (z := y) (fun _ => rfl) hB (by kernel_rfl) (by kernel_rfl) (by omega) (.inr (.inl ⟨rfl, rfl, rfl⟩)) hy) ?_
          refine SX.E (.int .i64 (((j + 1 : Nat) : Int))) (fun α => SX.W1 j) ?_
          refine SX.D (.bool ((x.kind : Int) != y.kind)) ?_
          refine SX.B ((x.kind : Int) != y.kind) (fun h49 => ?_) (fun h49 => ?_)
          · try simp only [NRM] at h49
            have hq : diffR a b first needs = ([], 360) := by
              rw [hD0, hm, mrg_noD (drop_at hx) (drop_at hy) hid (by simpa using h49)]; rfl
            exact SX.VC_ret fun α W _ hrow hS => ⟨hS.below, .slice none 0 0, [], Eq.trans (b := Ending.returned (.tuple #[.slice none 0 0, .int .i64 (360)])) (by kernel_rfl) (by rw [hq]), by rw [hq]; rfl, by rw [hq]; exact SX.SlRet.nil, fun h hh => nomatch hh⟩
          try simp only [NRM] at h49
          have hkd : x.kind = y.kind := by simpa using h49
          refine SX.VC_df (.agg (phL (nilL (dP x y true true))).toArray) (fun α => ⟨[⟨valSg x, 0, []⟩, ⟨valSg y, 0, []⟩, ⟨.bool true, 0, []⟩, ⟨.bool true, 0, []⟩], ⟨by kernel_rfl, by kernel_rfl, by kernel_rfl, by kernel_rfl, by kernel_rfl, by kernel_rfl, by kernel_rfl, by kernel_rfl, trivial⟩, .inr (.inr (⟨rfl, x, y, true, true, rfl, rfl⟩)), SX.noAli rfl⟩) (phL_fit _) ?_
          refine SX.VC_df (Value.agg (phL (nilL (dP x y true true))).toArray) (fun α => SX.app_rel (f := cellsH) (l1 := nilL acc) (l2 := nilL (dP x y true true)) (fun _ => rfl) cellsH_one (by decide) (SX.cat1 (by kernel_rfl)) (src_rowD (Eq.trans (b := [Value.agg (phL (nilL (dP x y true true))).toArray].flatMap SX.cellsV) (by kernel_rfl) (by simp [SX.cellsV, phL]))) (by have : (nilL (dP x y true true)).length ≤ 9 := dP_len _ _ _ _; omega) (by have : (nilL (dP x y true true)).length ≤ 9 := dP_len _ _ _ _; omega)) (rfl) ?_
          exact SX.VC_again fun α => ⟨⟨i + 1, j + 1, acc ++ chP x y, Eq.trans (b := [.int .i64 ((i + 1 : Nat) : Int), .int .i64 ((j + 1 : Nat) : Int), .agg ([Value.agg (phL (nilL acc)).toArray, Value.agg (phL (nilL (dP x y true true))).toArray].flatMap SX.cellsV).toArray]) (by kernel_rfl) (by rw [dP_c]; simp [SX.cellsV, nilL_app, phL_app]), by have q1 := (List.getElem?_eq_some_iff.1 hx).1; have q2 := (List.getElem?_eq_some_iff.1 hy).1; omega, by have q1 := (List.getElem?_eq_some_iff.1 hx).1; have q2 := (List.getElem?_eq_some_iff.1 hy).1; omega, mrg_step hm (by rw [← drop_one (l := a), ← drop_one (l := b)]; exact mrg_chD (drop_at hx) (drop_at hy) hid hkd), by have q1 := (List.getElem?_eq_some_iff.1 hx).1; have q2 := (List.getElem?_eq_some_iff.1 hy).1; have q3 : (chP x y).length ≤ 9 := chT_len x y 9; simp only [LL]; omega⟩, cast (by kernel_rfl) (show (n - ((i + 1 : Nat) : Int).toNat) + (m - ((j + 1 : Nat) : Int).toNat) < (n - (i : Int).toNat) + (m - (j : Int).toNat) from by have q1 := (List.getElem?_eq_some_iff.1 hx).1; have q2 := (List.getElem?_eq_some_iff.1 hy).1; omega)⟩
        try simp only [NRM] at h42
        have hid : ∀ z, (b.drop j)[0]? = some z → x.id < z.id := fun z hz => by rw [at_drop hz] at hy; cases hy; omega
        refine SX.VC_df (.agg (phL (nilL (dP x zeroSg true false))).toArray) (fun α => ⟨[⟨valSg x, 0, []⟩, ⟨valSg zeroSg, 0, []⟩, ⟨.bool true, 0, []⟩, ⟨.bool false, 0, []⟩], ⟨by kernel_rfl, by kernel_rfl, by kernel_rfl, by kernel_rfl, by kernel_rfl, by kernel_rfl, by kernel_rfl, by kernel_rfl, trivial⟩, .inr (.inr (⟨rfl, x, zeroSg, true, false, rfl, rfl⟩)), SX.noAli rfl⟩) (phL_fit _) ?_
        refine SX.VC_df (Value.agg (phL (nilL (dP x zeroSg true false))).toArray) (fun α => SX.app_rel (f := cellsH) (l1 := nilL acc) (l2 := nilL (dP x zeroSg true false)) (fun _ => rfl) cellsH_one (by decide) (SX.cat1 (by kernel_rfl)) (src_rowD (Eq.trans (b := [Value.agg (phL (nilL (dP x zeroSg true false))).toArray].flatMap SX.cellsV) (by kernel_rfl) (by simp [SX.cellsV, phL]))) (by have : (nilL (dP x zeroSg true false)).length ≤ 9 := dP_len _ _ _ _; omega) (by have : (nilL (dP x zeroSg true false)).length ≤ 9 := dP_len _ _ _ _; omega)) (rfl) ?_
        exact SX.VC_again fun α => ⟨⟨i + 1, j, acc ++ [remP x], Eq.trans (b := [.int .i64 ((i + 1 : Nat) : Int), .int .i64 ((j : Nat) : Int), .agg ([Value.agg (phL (nilL acc)).toArray, Value.agg (phL (nilL (dP x zeroSg true false))).toArray].flatMap SX.cellsV).toArray]) (by kernel_rfl) (by rw [dP_a]; simp [SX.cellsV, nilL_app, phL_app]), by have q1 := (List.getElem?_eq_some_iff.1 hx).1; omega, by have q1 := (List.getElem?_eq_some_iff.1 hx).1; omega, mrg_step hm (by rw [← drop_one (l := a)]; exact mrg_rmD (drop_at hx) hid), by have q1 := (List.getElem?_eq_some_iff.1 hx).1; simp only [LL]; omega⟩, cast (by kernel_rfl) (show (n - ((i + 1 : Nat) : Int).toNat) + (m - ((j : Nat) : Int).toNat) < (n - (i : Int).toNat) + (m - (j : Int).toNat) from by have q1 := (List.getElem?_eq_some_iff.1 hx).1; omega)⟩
      try simp only [NRM] at h31
      refine SX.B (decide (y.id ≤ x.id)) (fun h42 => ?_) (fun h42 => absurd (show y.id ≤ x.id by omega) (of_decide_eq_false h42))
      refine SX.E (.bool true) (fun α => SX.extBnd (A := B) (n := m) (c := d) (j := j) hB (by kernel_rfl) (by kernel_rfl) (by omega)) ?_
      refine SX.E (.agg (cellsSg y).toArray) (fun α => SX.extElems (f := cellsSg) (l := b) (A := B) (n := m) (c := d) (j := j) (z := y) (fun _ => rfl) hB (by kernel_rfl) (by kernel_rfl) (by omega) (.inr (.inl ⟨rfl, rfl, rfl⟩)) hy) ?_
      refine SX.E (.int .i64 (((j + 1 : Nat) : Int))) (fun α => SX.W1 j) ?_
      have hid : ∀ z, (a.drop i)[0]? = some z → y.id < z.id := fun z hz => by rw [at_drop hz] at hx; cases hx; omega
      refine SX.VC_df (.agg (phL (nilL (dP zeroSg y false true))).toArray) (fun α => ⟨[⟨valSg zeroSg, 0, []⟩, ⟨valSg y, 0, []⟩, ⟨.bool false, 0, []⟩, ⟨.bool true, 0, []⟩], ⟨by kernel_rfl, by kernel_rfl, by kernel_rfl, by kernel_rfl, by kernel_rfl, by kernel_rfl, by kernel_rfl, by kernel_rfl, trivial⟩, .inr (.inr (⟨rfl, zeroSg, y, false, true, rfl, rfl⟩)), SX.noAli rfl⟩) (phL_fit _) ?_
      refine SX.VC_df (Value.agg (phL (nilL (dP zeroSg y false true))).toArray) (fun α => SX.app_rel (f := cellsH) (l1 := nilL acc) (l2 := nilL (dP zeroSg y false true)) (fun _ => rfl) cellsH_one (by decide) (SX.cat1 (by kernel_rfl)) (src_rowD (Eq.trans (b := [Value.agg (phL (nilL (dP zeroSg y false true))).toArray].flatMap SX.cellsV) (by kernel_rfl) (by simp [SX.cellsV, phL]))) (by have : (nilL (dP zeroSg y false true)).length ≤ 9 := dP_len _ _ _ _; omega) (by have : (nilL (dP zeroSg y false true)).length ≤ 9 := dP_len _ _ _ _; omega)) (rfl) ?_
      exact SX.VC_again fun α => ⟨⟨i, j + 1, acc ++ [insP y], Eq.trans (b := [.int .i64 ((i : Nat) : Int), .int .i64 ((j + 1 : Nat) : Int), .agg ([Value.agg (phL (nilL acc)).toArray, Value.agg (phL (nilL (dP zeroSg y false true))).toArray].flatMap SX.cellsV).toArray]) (by kernel_rfl) (by rw [dP_b]; simp [SX.cellsV, nilL_app, phL_app]), by have q2 := (List.getElem?_eq_some_iff.1 hy).1; omega, by have q2 := (List.getElem?_eq_some_iff.1 hy).1; omega, mrg_step hm (by rw [← drop_one (l := b)]; exact mrg_inD (drop_at hy) hid), by have q2 := (List.getElem?_eq_some_iff.1 hy).1; simp only [LL]; omega⟩, cast (by kernel_rfl) (show (n - ((i : Nat) : Int).toNat) + (m - ((j + 1 : Nat) : Int).toNat) < (n - (i : Int).toNat) + (m - (j : Int).toNat) from by have q2 := (List.getElem?_eq_some_iff.1 hy).1; omega)⟩
    try simp only [NRM] at h20
    refine SX.D (.int .i64 (((m : Nat) : Int))) ?_
    refine SX.D (.bool (decide (((j : Nat) : Int) < ((m : Nat) : Int)))) ?_
    refine SX.B (decide (((j : Nat) : Int) < ((m : Nat) : Int))) (fun h22 => ?_) (fun h22 => ?_)
    · try simp only [NRM] at h22
      refine SX.D (.int .i64 (((n : Nat) : Int))) ?_
      refine SX.D (.bool (decide (((i : Nat) : Int) < ((n : Nat) : Int)))) ?_
      refine SX.B (decide (((i : Nat) : Int) < ((n : Nat) : Int))) (fun h24 => absurd (of_decide_eq_true h24) (by omega)) (fun h24 => ?_)
      refine SX.D (.int .i64 (((m : Nat) : Int))) ?_
      refine SX.D (.bool (decide (((j : Nat) : Int) < ((m : Nat) : Int)))) ?_
      refine SX.B (decide (((j : Nat) : Int) < ((m : Nat) : Int))) (fun h26 => ?_) (fun h26 => absurd (show ((j : Nat) : Int) < ((m : Nat) : Int) by omega) (of_decide_eq_false h26))
      refine SX.D (.int .i64 (((n : Nat) : Int))) ?_
      refine SX.D (.bool ((((i : Nat) : Int) : Int) == ((n : Nat) : Int))) ?_
      refine SX.B ((((i : Nat) : Int) : Int) == ((n : Nat) : Int)) (fun h28 => ?_) (fun h28 => absurd (show (((i : Nat) : Int) : Int) = ((n : Nat) : Int) by omega) (ne_of_beq_false h28))
      obtain ⟨y, hy⟩ : ∃ y, b[j]? = some y := ⟨_, List.getElem?_eq_getElem (by omega)⟩
      have hid : ∀ x, (a.drop i)[0]? = some x → y.id < x.id := fun x hx => (no_head (by rw [List.length_drop]; omega) hx).elim
      refine SX.E (.bool true) (fun α => SX.extBnd (A := B) (n := m) (c := d) (j := j) hB (by kernel_rfl) (by kernel_rfl) (by omega)) ?_
      refine SX.E (.agg (cellsSg y).toArray) (fun α => SX.extElems (f := cellsSg) (l := b) (A := B) (n := m) (c := d) (j := j) (z := y) (fun _ => rfl) hB (by kernel_rfl) (by kernel_rfl) (by omega) (.inr (.inl ⟨rfl, rfl, rfl⟩)) hy) ?_
      refine SX.E (.int .i64 (((j + 1 : Nat) : Int))) (fun α => SX.W1 j) ?_
      refine SX.VC_df (.agg (phL (nilL (dP zeroSg y false true))).toArray) (fun α => ⟨[⟨valSg zeroSg, 0, []⟩, ⟨valSg y, 0, []⟩, ⟨.bool false, 0, []⟩, ⟨.bool true, 0, []⟩], ⟨by kernel_rfl, by kernel_rfl, by kernel_rfl, by kernel_rfl, by kernel_rfl, by kernel_rfl, by kernel_rfl, by kernel_rfl, trivial⟩, .inr (.inr (⟨rfl, zeroSg, y, false, true, rfl, rfl⟩)), SX.noAli rfl⟩) (phL_fit _) ?_
      refine SX.VC_df (Value.agg (phL (nilL (dP zeroSg y false true))).toArray) (fun α => SX.app_rel (f := cellsH) (l1 := nilL acc) (l2 := nilL (dP zeroSg y false true)) (fun _ => rfl) cellsH_one (by decide) (SX.cat1 (by kernel_rfl)) (src_rowD (Eq.trans (b := [Value.agg (phL (nilL (dP zeroSg y false true))).toArray].flatMap SX.cellsV) (by kernel_rfl) (by simp [SX.cellsV, phL]))) (by have : (nilL (dP zeroSg y false true)).length ≤ 9 := dP_len _ _ _ _; omega) (by have : (nilL (dP zeroSg y false true)).length ≤ 9 := dP_len _ _ _ _; omega)) (rfl) ?_
      exact SX.VC_again fun α => ⟨⟨i, j + 1, acc ++ [insP y], Eq.trans (b := [.int .i64 ((i : Nat) : Int), .int .i64 ((j + 1 : Nat) : Int), .agg ([Value.agg (phL (nilL acc)).toArray, Value.agg (phL (nilL (dP zeroSg y false true))).toArray].flatMap SX.cellsV).toArray]) (by kernel_rfl) (by rw [dP_b]; simp [SX.cellsV, nilL_app, phL_app]), by have q2 := (List.getElem?_eq_some_iff.1 hy).1; omega, by have q2 := (List.getElem?_eq_some_iff.1 hy).1; omega, mrg_step hm (by rw [← drop_one (l := b)]; exact mrg_inD (drop_at hy) hid), by have q2 := (List.getElem?_eq_some_iff.1 hy).1; simp only [LL]; omega⟩, cast (by kernel_rfl) (show (n - ((i : Nat) : Int).toNat) + (m - ((j + 1 : Nat) : Int).toNat) < (n - (i : Int).toNat) + (m - (j : Int).toNat) from by have q2 := (List.getElem?_eq_some_iff.1 hy).1; omega)⟩
    try simp only [NRM] at h22
    refine SX.E (.int .i64 ((((nilL acc).length : Nat) : Int))) (fun α => SX.rlenD (f := cellsH) (l := nilL acc) (fun _ => rfl) (by decide) (SX.cat1 (by kernel_rfl))) ?_
    refine SX.D (.bool (decide ((((nilL acc).length : Nat) : Int) > 512))) ?_
    refine SX.B (decide ((((nilL acc).length : Nat) : Int) > 512)) (fun h24 => ?_) (fun h24 => ?_)
    · try simp only [NRM] at h24
      have hq : diffR a b first needs = ([], 2) := by
        have q1 : a.drop i = [] := List.drop_eq_nil_of_le (by omega)
        have q2 : b.drop j = [] := List.drop_eq_nil_of_le (by omega)
        rw [hD0, hm, q1, q2, mrg_nil]
        show (if 512 < (acc ++ ([] : List Pt)).length ∨ _ then _ else _) = _
        rw [if_pos (by simp only [List.nil_append, List.append_nil]; (try simp at h24); omega)]
      exact SX.VC_ret fun α W _ hrow hS => ⟨hS.below, .slice none 0 0, [], Eq.trans (b := Ending.returned (.tuple #[.slice none 0 0, .int .i64 (2)])) (by kernel_rfl) (by rw [hq]), by rw [hq]; rfl, by rw [hq]; exact SX.SlRet.nil, fun h hh => nomatch hh⟩
    try simp only [NRM] at h24
    refine SX.E (.int .i64 ((((nilL acc).length : Nat) : Int))) (fun α => SX.rlenD (f := cellsH) (l := nilL acc) (fun _ => rfl) (by decide) (SX.cat1 (by kernel_rfl))) ?_
    have hfr : 1 ≤ first ∧ first ≤ 1048576 := hfs.1
    have h24n : acc.length ≤ 512 := by (try simp at h24); omega
    refine SX.E (.int .i64 (first + (((nilL acc).length : Nat) : Int))) (fun α => Eq.trans (b := some (.int .i64 (IntKind.i64.wrap (first + (((nilL acc).length : Nat) : Int))))) (by kernel_rfl) (by rw [wrap_i64 (by omega) (by omega)])) ?_
    refine SX.E (.int .i64 (first + (((nilL acc).length : Nat) : Int) - 1)) (fun α => Eq.trans (b := some (.int .i64 (IntKind.i64.wrap (first + (((nilL acc).length : Nat) : Int) - 1)))) (by kernel_rfl) (by rw [wrap_i64 (by omega) (by omega)])) ?_
    refine SX.D (.bool (decide (first + (((nilL acc).length : Nat) : Int) - 1 > 1048576))) ?_
    refine SX.B (decide (first + (((nilL acc).length : Nat) : Int) - 1 > 1048576)) (fun h28 => ?_) (fun h28 => ?_)
    · try simp only [NRM] at h28
      have hq : diffR a b first needs = ([], 2) := by
        have q1 : a.drop i = [] := List.drop_eq_nil_of_le (by omega)
        have q2 : b.drop j = [] := List.drop_eq_nil_of_le (by omega)
        rw [hD0, hm, q1, q2, mrg_nil]
        show (if 512 < (acc ++ ([] : List Pt)).length ∨ _ then _ else _) = _
        rw [if_pos (by simp only [List.nil_append, List.append_nil]; (try simp at h28); omega)]
      exact SX.VC_ret fun α W _ hrow hS => ⟨hS.below, .slice none 0 0, [], Eq.trans (b := Ending.returned (.tuple #[.slice none 0 0, .int .i64 (2)])) (by kernel_rfl) (by rw [hq]), by rw [hq]; rfl, by rw [hq]; exact SX.SlRet.nil, fun h hh => nomatch hh⟩
    try simp only [NRM] at h28
    have hmm : mrg a b = some acc := by
      have q1 : a.drop i = [] := List.drop_eq_nil_of_le (by omega)
      have q2 : b.drop j = [] := List.drop_eq_nil_of_le (by omega)
      rw [hm, q1, q2, mrg_nil]; simp
    have hq : diffR a b first needs = (num first needs 0 acc, 0) := by
      rw [hD0, hmm]
      show (if 512 < acc.length ∨ 1048576 < first + (acc.length : Int) - 1 then (([] : List Pt), (2 : Int)) else (num first needs 0 acc, 0)) = _
      rw [if_neg (by (try simp at h24); (try simp at h28); omega)]
    refine SX.VC_loopN (fun xs N => ∃ hs : List Hd, xs = [.int .i64 ((hs.length : Nat) : Int), .agg (phL (doneL first needs acc hs)).toArray] ∧ hs.length ≤ acc.length ∧ ∀ h ∈ hs, (⟨Hd.v h, 1, intsL needs⟩ : SX.Arg) ∈ N) (fun xs => match xs with | .int _ i :: _ => acc.length - i.toNat | _ => 0) (fun _ => rfl) (fun α => ⟨[], (fun y hy => nomatch hy), [], Eq.trans (b := [.int .i64 0, .agg ([Value.agg (phL (nilL acc)).toArray].flatMap SX.cellsV).toArray]) (by kernel_rfl) (by simp [SX.cellsV, doneL_nil]), by simp, fun h hh => nomatch hh⟩) ?_
    rintro xs N - ⟨hs, rfl, hle, hN⟩
    have hdl := doneL_len (first := first) (needs := needs) hle
    refine SX.E (.int .i64 ((((doneL first needs acc hs).length : Nat) : Int))) (fun α => SX.rlenD (f := cellsH) (l := doneL first needs acc hs) (fun _ => rfl) (by decide) (SX.cat1 (by kernel_rfl))) ?_
    refine SX.D (.bool (decide (((hs.length : Nat) : Int) < (((doneL first needs acc hs).length : Nat) : Int)))) ?_
    refine SX.B (decide (((hs.length : Nat) : Int) < (((doneL first needs acc hs).length : Nat) : Int))) (fun h32 => ?_) (fun h32 => ?_)
    · try simp only [NRM] at h32
      refine SX.E (.int .i64 (first + ((hs.length : Nat) : Int))) (fun α => SX.W (first + ((hs.length : Nat) : Int))) ?_
      obtain ⟨p, hp⟩ : ∃ p, acc[hs.length]? = some p := ⟨_, List.getElem?_eq_getElem (by omega)⟩
      have hdp := doneL_at (first := first) (needs := needs) hp
      refine SX.E (.bool true) (fun α => SX.row_bnd (f := cellsH) (l := doneL first needs acc hs) (k := hs.length) (fun _ => rfl) (by decide) (SX.cat1 (by kernel_rfl)) (by kernel_rfl) (by (try simp only [List.length_set]); omega)) ?_
      refine SX.E (.bool true) (fun α => SX.row_bnd (f := cellsH) (l := doneL first needs acc hs) (k := hs.length) (fun _ => rfl) (by decide) (SX.cat1 (by kernel_rfl)) (by kernel_rfl) (by (try simp only [List.length_set]); omega)) ?_
      refine SX.VC_df (.agg (((doneL first needs acc hs).set hs.length (nilP {p with id := first + (hs.length : Int), needs := needs})).flatMap cellsH).toArray) (fun α => SX.rsetD (f := cellsH) (l := doneL first needs acc hs) (k := hs.length) (y := nilP p) (z := nilP {p with id := first + (hs.length : Int), needs := needs}) (fun _ => rfl) (by decide) (SX.cat1 (by kernel_rfl)) (by kernel_rfl) hdp (by decide) (by kernel_rfl)) (rfl) ?_
      refine SX.VC_df (.agg ((needs).flatMap cellsI).toArray) (fun α => SX.app_rel (f := cellsI) (l1 := []) (l2 := needs) (fun _ => rfl) (fun a u hu => by obtain rfl := List.mem_singleton.1 hu; rfl) (by decide) (by kernel_rfl) (SX.src_ext (K_ofD (y := ⟨.slice D k e, 1, intsL needs⟩) (by kernel_rfl) (.inl (.inr (.inr ⟨rfl, rfl, rfl⟩))))) (by simp only [List.length_nil]; omega) (by simp only [List.length_nil]; omega)) (rfl) ?_
      refine SX.E (.bool true) (fun α => SX.row_bnd (f := cellsH) (l := doneL first needs acc hs) (k := hs.length) (fun _ => rfl) (by decide) (SX.cat1 (by kernel_rfl)) (by kernel_rfl) (by (try simp only [List.length_set]); omega)) ?_
      refine SX.E (.bool true) (fun α => SX.row_bnd (f := cellsH) (l := doneL first needs acc hs) (k := hs.length) (fun _ => rfl) (by decide) (SX.cat1 (by kernel_rfl)) (by kernel_rfl) (by (try simp only [List.length_set]); omega)) ?_
      refine SX.VC_dn (fun v N3 => ∃ A2 n2 c2, v = .slice A2 n2 c2 ∧ N3 = [⟨.slice A2 n2 c2, 1, intsL needs⟩]) (fun _ => rfl) (fun α A2 n2 c2 => ⟨A2, n2, c2, rfl, Eq.trans (b := [⟨.slice A2 n2 c2, 1, [Value.agg ([Value.agg (intsL needs).toArray].flatMap SX.cellsV).toArray].flatMap SX.cellsV⟩]) (by kernel_rfl) (by simp [SX.cellsV])⟩) ?_
      rintro _ _ - ⟨A2, n2, c2, rfl, rfl⟩
      refine SX.VC_df (.agg ((((doneL first needs acc hs).set hs.length (nilP {p with id := first + (hs.length : Int), needs := needs})).set hs.length ((({p with id := first + (hs.length : Int), needs := needs}, A2, n2, c2) : Ph))).flatMap cellsH).toArray) (fun α => SX.rsetD (f := cellsH) (l := (doneL first needs acc hs).set hs.length (nilP {p with id := first + (hs.length : Int), needs := needs})) (k := hs.length) (y := nilP {p with id := first + (hs.length : Int), needs := needs}) (z := (({p with id := first + (hs.length : Int), needs := needs}, A2, n2, c2) : Ph)) (fun _ => rfl) (by decide) (SX.cat1 (by kernel_rfl)) (by kernel_rfl) (List.getElem?_set_self (by omega)) (by decide) (by kernel_rfl)) (rfl) ?_
      refine SX.E (.int .i64 (((hs.length + 1 : Nat) : Int))) (fun α => Eq.trans (b := some (.int .i64 (IntKind.i64.wrap ((hs.length : Nat) + 1)))) (by kernel_rfl) (by rw [show ((hs.length + 1 : Nat) : Int) = ((hs.length : Nat) : Int) + 1 by omega, wrap_i64 (by omega) (by omega)])) ?_
      exact SX.VC_again fun α => ⟨rfl, _, (fun y hy => hy), ⟨hs ++ [(A2, n2, c2)], Eq.trans (b := [.int .i64 ((hs.length + 1 : Nat) : Int), .agg ([Value.agg (phL (((doneL first needs acc hs).set hs.length (nilP {p with id := first + (hs.length : Int), needs := needs})).set hs.length ({p with id := first + (hs.length : Int), needs := needs}, A2, n2, c2))).toArray].flatMap SX.cellsV).toArray]) (by kernel_rfl) (by rw [doneL_set hp]; simp [SX.cellsV]), by rw [List.length_append, List.length_singleton]; omega, fun h hh => by
        rcases List.mem_append.1 hh with hh | hh
        · exact List.mem_append_right _ (hN h hh)
        obtain rfl := List.mem_singleton.1 hh
        exact List.mem_append_left _ (List.mem_singleton.2 rfl)⟩, cast (by kernel_rfl) (show acc.length - ((hs.length + 1 : Nat) : Int).toNat < acc.length - ((hs.length : Nat) : Int).toNat by omega)⟩
    try simp only [NRM] at h32
    have hal : hs.length = acc.length := by omega
    refine SX.VC_ret fun α W _ hrow hS => ⟨hS.below, _, hs, Eq.trans (b := Ending.returned (.tuple #[(α 5).h, .int .i64 0])) (by kernel_rfl) (by rw [hq]), by rw [hq]; simp only [num_len]; exact hal, ?_, fun h hh => ?_⟩
    · rw [hq]
      exact SX.SlRet.row hS (n := 5) (b := (⟨[(.x 30 [])], 55, (.row 19)⟩ : SX.Blk)) (by kernel_rfl) rfl (hrow 5 _ (by kernel_rfl)) (Eq.trans (b := [Value.agg (phL (doneL first needs acc hs)).toArray].flatMap SX.cellsV) (by kernel_rfl) (by rw [doneL_all hal]; simp [SX.cellsV]))
    have hN2 := hS.fact (p := SX.NF _) (List.mem_append.2 (.inr (List.mem_cons_of_mem _ (List.mem_cons_self ..)))) ⟨Hd.v h, 1, intsL needs⟩ (hN h hh)
    exact ⟨⟨h.1, h.2.1, h.2.2, rfl, hN2.1.2⟩, hN2.1, .inl hN2.2⟩
  try simp only [NRM] at h10
  have hq : diffR a b first needs = ([], 360) := diffR_i (by simpa using h5) (by simpa using h7) (by (try simp at h9); omega) (fun hk => by (try simp at h10); omega)
  exact SX.VC_ret fun α W _ hrow hS => ⟨hS.below, .slice none 0 0, [], Eq.trans (b := Ending.returned (.tuple #[.slice none 0 0, .int .i64 (360)])) (by kernel_rfl) (by rw [hq]), by rw [hq]; rfl, by rw [hq]; exact SX.SlRet.nil, fun h hh => nomatch hh⟩
def intI (l : List Int) : List Value := l.map (.int .i64)
theorem intI_inj : ∀ (a b : List Int), intI a = intI b → a = b
  | [], [], _ => rfl
  | [], _ :: _, h => by simp [intI] at h
  | _ :: _, [], h => by simp [intI] at h
  | x :: a, y :: b, h => by
    simp only [intI, List.map_cons, List.cons.injEq, Value.int.injEq, true_and] at h
    rw [h.1, intI_inj a b h.2]
namespace SX
variable {C : Cx} {ρ : List Value} {α : Nat → AV}
theorem rbnd_k {c i : V} {sz L j : Nat} (h : (cellsV (c.den ρ α)).length = L) (hi : i.den ρ α = .int .i64 (j : Int)) (hlt : j < L / sz) : Opq.rel C ρ α (.rbnd sz) [c, i] (.bool true) := by
  refine ⟨?_, rfl⟩
  rw [hi, h]
  show 0 ≤ (j : Int) ∧ (j : Int) < ((L / sz : Nat) : Int)
  omega
theorem app_k {vs : List V} {y : V} {sz by' : Nat} {cs : List Value} (h : denL ρ α vs = cs) (h1 : cs.all (·.oneCell') = true) (h2 : (0 + cs.length) / sz * by' ≤ 140737488355328) (h3 : (0 + cs.length) / sz ≤ 140737488355328) : Opq.rel C ρ α (.app sz by' (.own sz vs)) [.cat [], y] (.agg cs.toArray) := by
  subst h
  exact ⟨⟨y.den ρ α, sz, denL ρ α vs⟩, ⟨rfl, trivial⟩, rfl, fun u hu => List.all_eq_true.1 h1 u hu, h2, h3, rfl⟩
end SX
theorem made_flat (z : Array Value) : ∀ n : Nat, (madeCells z (n * z.size)).toList = (List.replicate n z.toList).flatten
  | 0 => by simp [madeCells]
  | n + 1 => by
    have ih := made_flat z n
    rw [List.replicate_succ, List.flatten_cons, ← ih]
    unfold madeCells
    rw [show (n + 1) * z.size = z.size + n * z.size by rw [Nat.add_mul]; omega]
    simp only [Array.toList_map, Array.toList_range, List.range_add, List.map_append, List.map_map]
    congr 1
    · apply List.ext_getElem
      · simp
      intro i h1 h2
      have hi : i < z.size := by simpa using h2
      simp [Nat.mod_eq_of_lt hi, hi]
    apply List.map_congr_left
    intro i _
    simp [Nat.add_mod_left]
theorem mks_sg : sgsL (List.replicate 4097 zeroSg) = (madeCells (cellsSg zeroSg).toArray (4097 * 14)).toList := by
  have h := made_flat (cellsSg zeroSg).toArray 4097
  rw [show (cellsSg zeroSg).toArray.size = 14 from rfl] at h
  rw [h]
  unfold sgsL
  rw [List.flatMap_def, List.map_replicate]
theorem mks_val : Value.agg (sgsL (List.replicate 4097 zeroSg)).toArray = .agg (madeCells (cellsSg zeroSg).toArray (4097 * 14)) := by
  rw [mks_sg, Array.toArray_toList]
theorem sane_a1 : applyE (⟨1, 0, 0, 0, 9, 0, 0, 0, zeroSg⟩ : Ed) ([⟨4, 1, 2, 1, 4, 1, 7, 2, 0, 0, 0, 1, 1, 2⟩] : List Sg) = (([⟨4, 1, 2, 1, 4, 2, 3, 2, 0, 0, 0, 1, 1, 2⟩] : List Sg), 0) := applyE_ok (by decide +kernel) (by refine ⟨by decide, by decide, rfl, ?_⟩; simp only [rightE, roleE, barsE]; decide +kernel) (by decide +kernel) (by decide +kernel)
theorem sane_a7 : applyE (⟨7, 2, 0, 0, 2, 0, 1, 2, zeroSg⟩ : Ed) ([⟨4, 1, 2, 1, 4, 1, 7, 2, 0, 0, 0, 1, 1, 2⟩] : List Sg) = (([⟨4, 1, 2, 1, 4, 1, 7, 2, 0, 0, 0, 1, 1, 4⟩] : List Sg), 0) := applyE_ok (by decide +kernel) (by refine ⟨by decide, by decide, rfl, ?_⟩; simp only [rightE, roleE, barsE]; decide +kernel) (by decide +kernel) (by decide +kernel)
theorem sane_a3 : applyE (⟨3, 0, 0, 2, 3, 0, 0, 0, zeroSg⟩ : Ed) ([⟨4, 1, 2, 1, 4, 1, 7, 2, 0, 0, 0, 1, 1, 2⟩] : List Sg) = (([] : List Sg), 0) := applyE_ok (by decide +kernel) (by refine ⟨by decide, by decide, rfl, ?_⟩; simp only [rightE, roleE, barsE]; decide +kernel) (by decide +kernel) (by decide +kernel)
theorem sane_a0 : applyE (⟨0, 0, 0, 0, 0, 0, 0, 0, zeroSg⟩ : Ed) ([] : List Sg) = (([] : List Sg), 360) := applyE_no (by decide +kernel) (by rintro ⟨h1, h2, h3, h4⟩; revert h1 h2 h3 h4; simp only [rightE, roleE, barsE]; decide +kernel)
theorem sane_a2 : applyE (⟨2, 0, 0, 0, 0, 8, 0, 0, zeroSg⟩ : Ed) ([] : List Sg) = (([] : List Sg), 360) := applyE_no (by decide +kernel) (by rintro ⟨h1, h2, h3, h4⟩; revert h1 h2 h3 h4; simp only [rightE, roleE, barsE]; decide +kernel)
theorem sane_rep : chkS (List.replicate 4097 zeroSg) = 2 := by unfold chkS; rw [if_pos (by rw [List.length_replicate]; decide)]
def RE5 (f : FuncId) (xs : List SX.Arg) (v : Value) : Prop :=
  (f = 12 ∧ ∃ (u : Value) (ss : List Sg) (d : Ed), xs = [⟨u, 14, sgsL ss⟩, ⟨valE d, 0, []⟩] ∧ ss.length ≤ 9223372036854775807 ∧ d.kind ≠ 5 ∧ v = .tuple #[.agg (sgsL (applyE d ss).1).toArray, .int .i64 (applyE d ss).2]) ∨
  (f = 14 ∧ ∃ (u : Value) (ss : List Sg), xs = [⟨u, 14, sgsL ss⟩] ∧ ss.length ≤ 9223372036854775807 ∧ v = .int .i64 (chkS ss)) ∨
  (f = 16 ∧ ∃ (u u2 : Value) (ss tt : List Sg), xs = [⟨u, 14, sgsL ss⟩, ⟨u2, 14, sgsL tt⟩] ∧ ss.length ≤ 9223372036854775807 ∧ tt.length ≤ 9223372036854775807 ∧ v = .bool (decide (ss = tt)))
def shpE5 : FuncId → Option SX.Sh := fun f => if f = 12 then some (.tp [.sl 14, .one]) else if f = 14 then some .one else if f = 16 then some .one else none
noncomputable def cxE5 (K A : Value → Nat → List Value → Prop) : SX.Cx := { P := Try.prog, R := fun _ => RE5, shp := shpE5, K := K, A := A, stc := true, trm := true, cut := [(7, 0, true), (8, 1, true), (10, 2, true), (11, 3, true), (13, 4, true), (17, 5, true), (19, 6, false), (20, 7, true), (26, 8, true), (29, 9, true), (30, 10, true), (31, 11, true), (32, 12, true), (35, 13, true), (36, 14, true), (37, 15, true), (38, 16, true), (39, 17, true), (40, 18, true), (41, 19, true), (43, 20, true), (45, 21, true), (47, 22, true), (50, 23, true), (51, 24, false), (52, 25, false), (54, 26, true), (56, 27, false), (58, 28, false), (60, 29, true), (62, 30, false), (65, 31, false), (68, 32, true), (70, 33, true)], tl := [47, 57, 42, 41] }
theorem okE5 (K A : Value → Nat → List Value → Prop) : (cxE5 K A).Ok := by
  refine SX.Cx.ok_of (fun _ => rfl) ?_
  intro K f xs v W hR hrd hKf
  rcases hR with ⟨rfl, u, ss, d, rfl, hl, hd, rfl⟩ | ⟨rfl, u, ss, rfl, hl, rfl⟩ | ⟨rfl, u, u2, ss, tt, rfl, hl, hl2, rfl⟩
  · refine Calls.mono ?_ fun e w' h => SX.SlRet.ok0 rfl h
    obtain ⟨A, n, c, rfl, h2, h3, h4⟩ := sgs_arg (hrd ⟨u, 14, sgsL ss⟩ (by simp))
    exact apply_any ss A n c d W h2 (by omega) h3 hd
  · obtain ⟨A, n, c, rfl, h2, h3, h4⟩ := sgs_arg (hrd ⟨u, 14, sgsL ss⟩ (by simp))
    exact (echeck_any ss A n c W h2 (by omega) h3).mono fun e w' h => SX.plainOk rfl h
  obtain ⟨A, n, c, rfl, h2, h3, h4⟩ := sgs_arg (hrd ⟨u, 14, sgsL ss⟩ (by simp))
  obtain ⟨A', n', c', rfl, h2', h3', h4'⟩ := sgs_arg (hrd ⟨u2, 14, sgsL tt⟩ (by simp))
  exact (same_any ss tt A A' n c n' c' W h2 (by omega) h3 h2' (by omega) h3').mono fun e w' h => SX.plainOk rfl h
def tree_sane36 : SX.Tree :=
(.df (.call 12 [(.own 14 [(.i 4), (.i 1), (.i 2), (.i 1), (.i 4), (.i 1), (.i 7), (.i 2), (.i 0), (.i 0), (.i 0), (.i 1), (.i 1), (.i 2)]), .no]) [(.sl 1 0 1 1), (.a [(.i 1), (.i 0), (.i 0), (.i 0), (.i 9), (.i 0), (.i 0), (.i 0), (.i 0), (.i 0), (.i 0), (.i 0), (.i 0), (.i 0), (.i 0), (.i 0), (.i 0), (.i 0), (.i 0), (.i 0), (.i 0), (.i 0)])] (.tp [(.sl 14), .one])
(.df (.call 12 [(.own 14 [(.i 4), (.i 1), (.i 2), (.i 1), (.i 4), (.i 1), (.i 7), (.i 2), (.i 0), (.i 0), (.i 0), (.i 1), (.i 1), (.i 2)]), .no]) [(.sl 1 0 1 1), (.a [(.i 7), (.i 2), (.i 0), (.i 0), (.i 2), (.i 0), (.i 1), (.i 2), (.i 0), (.i 0), (.i 0), (.i 0), (.i 0), (.i 0), (.i 0), (.i 0), (.i 0), (.i 0), (.i 0), (.i 0), (.i 0), (.i 0)])] (.tp [(.sl 14), .one])
(.df (.call 12 [(.own 14 [(.i 4), (.i 1), (.i 2), (.i 1), (.i 4), (.i 1), (.i 7), (.i 2), (.i 0), (.i 0), (.i 0), (.i 1), (.i 1), (.i 2)]), .no]) [(.sl 1 0 1 1), (.a [(.i 3), (.i 0), (.i 0), (.i 2), (.i 3), (.i 0), (.i 0), (.i 0), (.i 0), (.i 0), (.i 0), (.i 0), (.i 0), (.i 0), (.i 0), (.i 0), (.i 0), (.i 0), (.i 0), (.i 0), (.i 0), (.i 0)])] (.tp [(.sl 14), .one])
(.df (.call 12 [(.own 14 []), .no]) [(.k (.slice none 0 0)), (.a [(.i 0), (.i 0), (.i 0), (.i 0), (.i 0), (.i 0), (.i 0), (.i 0), (.i 0), (.i 0), (.i 0), (.i 0), (.i 0), (.i 0), (.i 0), (.i 0), (.i 0), (.i 0), (.i 0), (.i 0), (.i 0), (.i 0)])] (.tp [(.sl 14), .one])
(.df (.call 12 [(.own 14 []), .no]) [(.k (.slice none 0 0)), (.a [(.i 2), (.i 0), (.i 0), (.i 0), (.i 0), (.i 8), (.i 0), (.i 0), (.i 0), (.i 0), (.i 0), (.i 0), (.i 0), (.i 0), (.i 0), (.i 0), (.i 0), (.i 0), (.i 0), (.i 0), (.i 0), (.i 0)])] (.tp [(.sl 14), .one])
(.df (.call 14 [(.own 14 [(.i 4), (.i 1), (.i 2), (.i 1), (.i 4), (.i 1), (.i 7), (.i 2), (.i 0), (.i 0), (.i 0), (.i 1), (.i 1), (.i 2)])]) [(.sl 1 0 1 1)] .one
(.df (.call 14 [(.own 14 [(.i 4), (.i 1), (.i 2), (.i 1), (.i 4), (.i 1), (.i 7), (.i 3), (.i 0), (.i 0), (.i 0), (.i 1), (.i 1), (.i 2)])]) [(.sl 10 0 1 1)] .one
(.df (.bin .neq 31) [(.q 5), (.i 0)] .one
(.br 7 [] (.bad 70 [])
(.df (.bin .neq 31) [(.q 6), (.i 0)] .one
(.br 8 [] (.bad 70 [])
(.df (.app 19 168 (.own 19 [(.i 0), (.i 1), (.i 4), (.i 6), (.i 0), (.i 0), (.i 0), (.i 0), (.i 0), (.i 0), (.i 0), (.i 3), (.i 0), (.i 0), (.i 0), (.i 0), (.i 0), (.i 0), (.k (.slice none 0 0))])) [(.cat []), (.sl 26 0 1 1)] .any
(.df (.eqr true 2 [(.i .i64), (.i .i64)]) [(.i 0), (.i 1), (.i 0), (.i 1)] .one
(.br 10 [] (.bad 70 [])
(.df (.eqr true 2 [(.i .i64), (.i .i64)]) [(.i 1), (.i 2), (.i 1), (.i 2)] .one
(.br 11 [] (.bad 70 [])
(.df (.rlen 19) [(.cat [(.a [(.i 0), (.i 1), (.i 4), (.i 6), (.i 0), (.i 0), (.i 0), (.i 0), (.i 0), (.i 0), (.i 0), (.i 3), (.i 0), (.i 0), (.i 0), (.i 0), (.i 0), (.i 0), (.k (.slice none 0 0))])])] .one
(.df (.bin .gtr 3) [(.q 12), (.i 512)] .one
(.br 13 [] (.bad 70 [])
(.df (.rlen 19) [(.cat [(.a [(.i 0), (.i 1), (.i 4), (.i 6), (.i 0), (.i 0), (.i 0), (.i 0), (.i 0), (.i 0), (.i 0), (.i 3), (.i 0), (.i 0), (.i 0), (.i 0), (.i 0), (.i 0), (.k (.slice none 0 0))])])] .one
(.df (.bin .add 3) [(.i 7), (.q 14)] .one
(.df (.bin .sub 3) [(.q 15), (.i 1)] .one
(.df (.bin .gtr 3) [(.q 16), (.i 1048576)] .one
(.br 17 [] (.bad 70 [])
(.df (.rlen 19) [(.cat [(.a [(.i 0), (.i 1), (.i 4), (.i 6), (.i 0), (.i 0), (.i 0), (.i 0), (.i 0), (.i 0), (.i 0), (.i 3), (.i 0), (.i 0), (.i 0), (.i 0), (.i 0), (.i 0), (.k (.slice none 0 0))])])] .one
(.df (.bin .lss 3) [(.i 0), (.q 18)] .one
(.br 19 []
(.df (.snil false) [(.sl 11 0 2 2)] .one
(.br 20 [] (.bad 70 [])
(.df (.app 1 8 (.own 1 [(.i 2), (.i 5)])) [(.cat []), (.sl 11 0 2 2)] .any
(.df (.rbnd 19) [(.cat [(.a [(.i 0), (.i 1), (.i 4), (.i 6), (.i 0), (.i 0), (.i 0), (.i 0), (.i 0), (.i 0), (.i 0), (.i 3), (.i 0), (.i 0), (.i 0), (.i 0), (.i 0), (.i 0), (.k (.slice none 0 0))])]), (.i 0)] .one
(.df (.rbnd 19) [(.cat [(.a [(.i 0), (.i 1), (.i 4), (.i 6), (.i 0), (.i 0), (.i 0), (.i 0), (.i 0), (.i 0), (.i 0), (.i 3), (.i 0), (.i 0), (.i 0), (.i 0), (.i 0), (.i 0), (.k (.slice none 0 0))])]), (.i 0)] .one
(.df (.rbnd 19) [(.cat [(.a [(.i 0), (.i 1), (.i 4), (.i 6), (.i 0), (.i 0), (.i 0), (.i 0), (.i 0), (.i 0), (.i 0), (.i 3), (.i 0), (.i 0), (.i 0), (.i 0), (.i 0), (.i 0), (.k (.slice none 0 0))])]), (.i 0)] .one
(.df (.rbnd 19) [(.cat [(.a [(.i 0), (.i 1), (.i 4), (.i 6), (.i 0), (.i 0), (.i 0), (.i 0), (.i 0), (.i 0), (.i 0), (.i 3), (.i 0), (.i 0), (.i 0), (.i 0), (.i 0), (.i 0), (.k (.slice none 0 0))])]), (.i 0)] .one
(.df (.bin .lss 3) [(.i 1), (.q 18)] .one
(.br 26 [] (.bad 70 [])
(.df (.call 14 [(.own 14 [(.i 4), (.i 1), (.i 2), (.i 1), (.i 4), (.i 1), (.i 7), (.i 2), (.i 0), (.i 0), (.i 0), (.i 1), (.i 1), (.i 2)])]) [(.sl 1 0 1 1)] .one
(.df (.call 14 [(.own 14 [(.i 4), (.i 1), (.i 2), (.i 1), (.i 4), (.i 1), (.i 7), (.i 2), (.i 0), (.i 0), (.i 0), (.i 1), (.i 1), (.i 2)])]) [(.sl 1 0 1 1)] .one
(.df (.bin .neq 31) [(.q 27), (.i 0)] .one
(.br 29 [] (.bad 70 [])
(.df (.bin .neq 31) [(.q 28), (.i 0)] .one
(.br 30 [] (.bad 70 [])
(.df (.eqr true 2 [(.i .i64), (.i .i64)]) [(.i 0), (.i 1), (.i 0), (.i 1)] .one
(.br 31 [] (.bad 70 [])
(.df (.eqr true 2 [(.i .i64), (.i .i64)]) [(.i 1), (.i 2), (.i 1), (.i 2)] .one
(.br 32 [] (.bad 70 [])
(.df (.call 14 [(.own 14 [(.i 4), (.i 1), (.i 2), (.i 1), (.i 4), (.i 1), (.i 7), (.i 2), (.i 0), (.i 0), (.i 0), (.i 1), (.i 1), (.i 2)])]) [(.sl 1 0 1 1)] .one
(.df (.call 14 [(.own 14 [(.i 4), (.i 1), (.i 2), (.i 1), (.i 4), (.i 1), (.i 7), (.i 2), (.i 0), (.i 0), (.i 0), (.i 1), (.i 1), (.i 2)])]) [(.sl 1 0 1 1)] .one
(.df (.bin .neq 31) [(.q 33), (.i 0)] .one
(.br 35 [] (.bad 70 [])
(.df (.bin .neq 31) [(.q 34), (.i 0)] .one
(.br 36 [] (.bad 70 [])
(.df (.bin .neq 31) [(.x 0 [1]), (.i 0)] .one
(.br 37 [] (.bad 70 [])
(.df (.bin .neq 31) [(.x 1 [1]), (.i 0)] .one
(.br 38 [] (.bad 70 [])
(.df (.bin .neq 31) [(.x 2 [1]), (.i 0)] .one
(.br 39 [] (.bad 70 [])
(.df (.bin .neq 31) [(.x 3 [1]), (.i 360)] .one
(.br 40 [] (.bad 70 [])
(.df (.bin .neq 31) [(.x 4 [1]), (.i 360)] .one
(.br 41 [] (.bad 70 [])
(.df (.rlen 14) [(.cat [(.x 2 [0])])] .one
(.df (.bin .neq 3) [(.q 42), (.i 0)] .one
(.br 43 [] (.bad 70 [])
(.df (.call 14 [(.own 14 [])]) [(.k (.slice none 0 0))] .one
(.df (.bin .neq 31) [(.q 44), (.i 0)] .one
(.br 45 [] (.bad 70 [])
(.df (.call 14 [(.own 14 [(.i 4), (.i 1), (.i 2), (.i 1), (.i 4), (.i 1), (.i 7), (.i 2), (.i 0), (.i 0), (.i 0), (.i 1), (.i 1), (.i 2), (.i 4), (.i 1), (.i 2), (.i 1), (.i 4), (.i 1), (.i 7), (.i 2), (.i 0), (.i 0), (.i 0), (.i 1), (.i 1), (.i 2)])]) [(.sl 48 0 2 2)] .one
(.df (.bin .neq 31) [(.q 46), (.i 360)] .one
(.br 47 [] (.bad 70 [])
(.df (.mks (.agg #[(.int .i64 0), (.int .i64 0), (.int .i64 0), (.int .i64 0), (.int .i64 0), (.int .i64 0), (.int .i64 0), (.int .i64 0), (.int .i64 0), (.int .i64 0), (.int .i64 0), (.int .i64 0), (.int .i64 0), (.int .i64 0)]) 14 112) [(.i 4097), (.i 4097)] .any
(.df (.call 14 [(.row 14 [(.q 48)])]) [(.row 49)] .one
(.df (.bin .neq 31) [(.q 49), (.i 2)] .one
(.br 50 [] (.bad 70 [])
(.df (.call 16 [(.row 14 [(.x 0 [0])]), (.own 14 [(.i 4), (.i 1), (.i 2), (.i 1), (.i 4), (.i 2), (.i 3), (.i 2), (.i 0), (.i 0), (.i 0), (.i 1), (.i 1), (.i 2)])]) [(.row 5), (.sl 50 0 1 1)] .one
(.br 51 []
(.df (.call 16 [(.row 14 [(.x 1 [0])]), (.own 14 [(.i 4), (.i 1), (.i 2), (.i 1), (.i 4), (.i 1), (.i 7), (.i 2), (.i 0), (.i 0), (.i 0), (.i 1), (.i 1), (.i 4)])]) [(.row 6), (.sl 51 0 1 1)] .one
(.br 52 []
(.df (.rlen 19) [(.cat [(.a [(.i 0), (.i 1), (.i 4), (.i 6), (.i 0), (.i 0), (.i 0), (.i 0), (.i 0), (.i 0), (.i 0), (.i 3), (.i 0), (.i 0), (.i 0), (.i 0), (.i 0), (.i 0), (.k (.slice none 0 0))])])] .one
(.df (.bin .neq 3) [(.q 53), (.i 1)] .one
(.br 54 [] (.bad 70 [])
(.df (.rlen 19) [(.cat [(.a [(.i 0), (.i 1), (.i 4), (.i 6), (.i 0), (.i 0), (.i 0), (.i 0), (.i 0), (.i 0), (.i 0), (.i 3), (.i 0), (.i 0), (.i 0), (.i 0), (.i 0), (.i 0), (.k (.slice none 0 0))])])] .one
(.df (.bin .lss 3) [(.i 0), (.q 55)] .one
(.br 56 []
(.df (.rbnd 19) [(.cat [(.a [(.i 0), (.i 1), (.i 4), (.i 6), (.i 0), (.i 0), (.i 0), (.i 0), (.i 0), (.i 0), (.i 0), (.i 3), (.i 0), (.i 0), (.i 0), (.i 0), (.i 0), (.i 0), (.k (.slice none 0 0))])]), (.i 0)] .one
(.df (.eqr false 14 [(.i .i64), (.i .i64), (.i .i64), (.i .i64), (.i .i64), (.i .i64), (.i .i64), (.i .i64), (.i .i64), (.i .i64), (.i .i64), (.i .i64), (.i .i64), (.i .i64)]) [(.i 0), (.i 0), (.i 0), (.i 0), (.i 0), (.i 0), (.i 0), (.i 3), (.i 0), (.i 0), (.i 0), (.i 0), (.i 0), (.i 0), (.i 0), (.i 0), (.i 0), (.i 0), (.i 0), (.i 0), (.i 0), (.i 3), (.i 0), (.i 0), (.i 0), (.i 0), (.i 0), (.i 0)] .one
(.br 58 []
(.df (.rlen 1) [(.cat [(.a [(.i 2), (.i 5)])])] .one
(.df (.bin .neq 3) [(.q 59), (.i 2)] .one
(.br 60 [] (.bad 70 [])
(.df (.rlen 1) [(.cat [(.a [(.i 2), (.i 5)])])] .one
(.df (.bin .lss 3) [(.i 0), (.q 61)] .one
(.br 62 []
(.df (.rbnd 1) [(.cat [(.a [(.i 2), (.i 5)])]), (.i 0)] .one
(.df (.rlen 1) [(.cat [(.a [(.i 2), (.i 5)])])] .one
(.df (.bin .lss 3) [(.i 1), (.q 64)] .one
(.br 65 []
(.df (.rbnd 1) [(.cat [(.a [(.i 2), (.i 5)])]), (.i 1)] .one
(.df (.rlen 1) [(.cat [(.a [(.i 2), (.i 5)])])] .one
(.df (.bin .lss 3) [(.i 2), (.q 67)] .one
(.br 68 [] (.bad 70 [])
(.df (.rlen 19) [(.cat [(.a [(.i 0), (.i 1), (.i 4), (.i 6), (.i 0), (.i 0), (.i 0), (.i 0), (.i 0), (.i 0), (.i 0), (.i 3), (.i 0), (.i 0), (.i 0), (.i 0), (.i 0), (.i 0), (.k (.slice none 0 0))])])] .one
(.df (.bin .lss 3) [(.i 1), (.q 69)] .one
(.br 70 [] (.bad 70 [])
(.ret (.k (.bool true)) [] [])))))))) (.bad 70 []))))) (.bad 70 []))))))) (.bad 70 [])))) (.bad 70 []))))))) (.bad 70 []))) (.bad 70 []))))))))))))))))))))))))))))))))))))))))))))))))))) (.bad 70 []))))))))))))))))))))))))))))
set_option maxRecDepth 100000 in
theorem run_sane36 (K A : Value → Nat → List Value → Prop) : (SX.run (cxE5 K A) ⟨fun _ => true, [], 0, 100⟩ 100000 0 (SX.door 10 Try.f10 [] []) [.code (Try.f10.body.getD .skip), .top Try.f10]).strip = tree_sane36 := by kernel_rfl
set_option maxRecDepth 100000 in
set_option maxHeartbeats 4000000 in
theorem sane36_any (w : World) : Calls Try.prog 10 #[] w fun e w' => e = .returned (.bool true) ∧ Below w.heap.size w w' := by
  refine SX.calls_of_run (C := cxE5 (fun _ _ _ => False) (fun _ _ _ => False)) (G := ⟨fun _ => true, [], 0, 100⟩) (args := []) (sh := []) (ρ := []) 100000 tree_sane36 (okE5 _ _) Try.func10 rfl (run_sane36 _ _) (by kernel_rfl) (by kernel_rfl) (by kernel_rfl) (fun W _ => SX.Kf_none (fun _ _ _ h => h) W) ?_
  unfold tree_sane36
  refine SX.VC_df (.tuple #[.agg (sgsL ([⟨4, 1, 2, 1, 4, 2, 3, 2, 0, 0, 0, 1, 1, 2⟩] : List Sg)).toArray, .int .i64 0]) (fun α => ⟨[⟨(.slice (some ⟨(α 1).b, 0, none⟩) 1 1), 14, sgsL ([⟨4, 1, 2, 1, 4, 1, 7, 2, 0, 0, 0, 1, 1, 2⟩] : List Sg)⟩, ⟨valE (⟨1, 0, 0, 0, 9, 0, 0, 0, zeroSg⟩ : Ed), 0, []⟩], ⟨by kernel_rfl, by kernel_rfl, by kernel_rfl, trivial⟩, .inl ⟨rfl, _, ([⟨4, 1, 2, 1, 4, 1, 7, 2, 0, 0, 0, 1, 1, 2⟩] : List Sg), (⟨1, 0, 0, 0, 9, 0, 0, 0, zeroSg⟩ : Ed), rfl, by decide, by decide, by rw [sane_a1]⟩, SX.noAli rfl⟩) (sgs_fit _ _) ?_
  refine SX.VC_df (.tuple #[.agg (sgsL ([⟨4, 1, 2, 1, 4, 1, 7, 2, 0, 0, 0, 1, 1, 4⟩] : List Sg)).toArray, .int .i64 0]) (fun α => ⟨[⟨(.slice (some ⟨(α 1).b, 0, none⟩) 1 1), 14, sgsL ([⟨4, 1, 2, 1, 4, 1, 7, 2, 0, 0, 0, 1, 1, 2⟩] : List Sg)⟩, ⟨valE (⟨7, 2, 0, 0, 2, 0, 1, 2, zeroSg⟩ : Ed), 0, []⟩], ⟨by kernel_rfl, by kernel_rfl, by kernel_rfl, trivial⟩, .inl ⟨rfl, _, ([⟨4, 1, 2, 1, 4, 1, 7, 2, 0, 0, 0, 1, 1, 2⟩] : List Sg), (⟨7, 2, 0, 0, 2, 0, 1, 2, zeroSg⟩ : Ed), rfl, by decide, by decide, by rw [sane_a7]⟩, SX.noAli rfl⟩) (sgs_fit _ _) ?_
  refine SX.VC_df (.tuple #[.agg (sgsL ([] : List Sg)).toArray, .int .i64 0]) (fun α => ⟨[⟨(.slice (some ⟨(α 1).b, 0, none⟩) 1 1), 14, sgsL ([⟨4, 1, 2, 1, 4, 1, 7, 2, 0, 0, 0, 1, 1, 2⟩] : List Sg)⟩, ⟨valE (⟨3, 0, 0, 2, 3, 0, 0, 0, zeroSg⟩ : Ed), 0, []⟩], ⟨by kernel_rfl, by kernel_rfl, by kernel_rfl, trivial⟩, .inl ⟨rfl, _, ([⟨4, 1, 2, 1, 4, 1, 7, 2, 0, 0, 0, 1, 1, 2⟩] : List Sg), (⟨3, 0, 0, 2, 3, 0, 0, 0, zeroSg⟩ : Ed), rfl, by decide, by decide, by rw [sane_a3]⟩, SX.noAli rfl⟩) (sgs_fit _ _) ?_
  refine SX.VC_df (.tuple #[.agg (sgsL ([] : List Sg)).toArray, .int .i64 360]) (fun α => ⟨[⟨(.slice none 0 0), 14, sgsL ([] : List Sg)⟩, ⟨valE (⟨0, 0, 0, 0, 0, 0, 0, 0, zeroSg⟩ : Ed), 0, []⟩], ⟨by kernel_rfl, by kernel_rfl, by kernel_rfl, trivial⟩, .inl ⟨rfl, _, ([] : List Sg), (⟨0, 0, 0, 0, 0, 0, 0, 0, zeroSg⟩ : Ed), rfl, by decide, by decide, by rw [sane_a0]⟩, SX.noAli rfl⟩) (sgs_fit _ _) ?_
  refine SX.VC_df (.tuple #[.agg (sgsL ([] : List Sg)).toArray, .int .i64 360]) (fun α => ⟨[⟨(.slice none 0 0), 14, sgsL ([] : List Sg)⟩, ⟨valE (⟨2, 0, 0, 0, 0, 8, 0, 0, zeroSg⟩ : Ed), 0, []⟩], ⟨by kernel_rfl, by kernel_rfl, by kernel_rfl, trivial⟩, .inl ⟨rfl, _, ([] : List Sg), (⟨2, 0, 0, 0, 0, 8, 0, 0, zeroSg⟩ : Ed), rfl, by decide, by decide, by rw [sane_a2]⟩, SX.noAli rfl⟩) (sgs_fit _ _) ?_
  refine SX.E (.int .i64 0) (fun α => ⟨[⟨(.slice (some ⟨(α 1).b, 0, none⟩) 1 1), 14, sgsL ([⟨4, 1, 2, 1, 4, 1, 7, 2, 0, 0, 0, 1, 1, 2⟩] : List Sg)⟩], ⟨by kernel_rfl, trivial⟩, .inr (.inl ⟨rfl, _, ([⟨4, 1, 2, 1, 4, 1, 7, 2, 0, 0, 0, 1, 1, 2⟩] : List Sg), rfl, by decide, by kernel_rfl⟩), SX.noAli rfl⟩) ?_
  refine SX.E (.int .i64 0) (fun α => ⟨[⟨(.slice (some ⟨(α 10).b, 0, none⟩) 1 1), 14, sgsL ([⟨4, 1, 2, 1, 4, 1, 7, 3, 0, 0, 0, 1, 1, 2⟩] : List Sg)⟩], ⟨by kernel_rfl, trivial⟩, .inr (.inl ⟨rfl, _, ([⟨4, 1, 2, 1, 4, 1, 7, 3, 0, 0, 0, 1, 1, 2⟩] : List Sg), rfl, by decide, by kernel_rfl⟩), SX.noAli rfl⟩) ?_
  refine SX.D (.bool false) ?_
  refine SX.B false (fun h => Bool.noConfusion h) (fun _ => ?_)
  refine SX.D (.bool false) ?_
  refine SX.B false (fun h => Bool.noConfusion h) (fun _ => ?_)
  refine SX.E (.agg ([.int .i64 0, .int .i64 1, .int .i64 4, .int .i64 6, .int .i64 0, .int .i64 0, .int .i64 0, .int .i64 0, .int .i64 0, .int .i64 0, .int .i64 0, .int .i64 3, .int .i64 0, .int .i64 0, .int .i64 0, .int .i64 0, .int .i64 0, .int .i64 0, .slice none 0 0] : List Value).toArray) (fun α => SX.app_k (cs := [.int .i64 0, .int .i64 1, .int .i64 4, .int .i64 6, .int .i64 0, .int .i64 0, .int .i64 0, .int .i64 0, .int .i64 0, .int .i64 0, .int .i64 0, .int .i64 3, .int .i64 0, .int .i64 0, .int .i64 0, .int .i64 0, .int .i64 0, .int .i64 0, .slice none 0 0]) (by kernel_rfl) (by kernel_rfl) (by decide) (by decide)) ?_
  refine SX.E (.bool (true ^^ decide (([0, 1] : List Int) = [0, 1]))) (fun α => SX.eqr_rel (f := intI) intI_inj (y := [0, 1]) (z := [0, 1]) (by kernel_rfl) (by kernel_rfl) (by kernel_rfl)) ?_
  refine SX.B false (fun h => Bool.noConfusion h) (fun _ => ?_)
  refine SX.E (.bool (true ^^ decide (([1, 2] : List Int) = [1, 2]))) (fun α => SX.eqr_rel (f := intI) intI_inj (y := [1, 2]) (z := [1, 2]) (by kernel_rfl) (by kernel_rfl) (by kernel_rfl)) ?_
  refine SX.B false (fun h => Bool.noConfusion h) (fun _ => ?_)
  refine SX.E (.int .i64 1) (fun α => (by show _ = _; kernel_rfl)) ?_
  refine SX.D (.bool false) ?_
  refine SX.B false (fun h => Bool.noConfusion h) (fun _ => ?_)
  refine SX.E (.int .i64 1) (fun α => (by show _ = _; kernel_rfl)) ?_
  refine SX.D (.int .i64 8) ?_
  refine SX.D (.int .i64 7) ?_
  refine SX.D (.bool false) ?_
  refine SX.B false (fun h => Bool.noConfusion h) (fun _ => ?_)
  refine SX.E (.int .i64 1) (fun α => (by show _ = _; kernel_rfl)) ?_
  refine SX.D (.bool true) ?_
  refine SX.B true (fun _ => ?_) (fun h => Bool.noConfusion h)
  refine SX.E (.bool false) (fun α => ⟨some ⟨(α 11).b, 0, none⟩, 2, 2, by kernel_rfl, rfl⟩) ?_
  refine SX.B false (fun h => Bool.noConfusion h) (fun _ => ?_)
  refine SX.E (.agg ([.int .i64 2, .int .i64 5] : List Value).toArray) (fun α => SX.app_k (cs := [.int .i64 2, .int .i64 5]) (by kernel_rfl) (by kernel_rfl) (by decide) (by decide)) ?_
  refine SX.E (.bool true) (fun α => SX.rbnd_k (L := 19) (j := 0) (by kernel_rfl) (by kernel_rfl) (by decide)) ?_
  refine SX.E (.bool true) (fun α => SX.rbnd_k (L := 19) (j := 0) (by kernel_rfl) (by kernel_rfl) (by decide)) ?_
  refine SX.E (.bool true) (fun α => SX.rbnd_k (L := 19) (j := 0) (by kernel_rfl) (by kernel_rfl) (by decide)) ?_
  refine SX.E (.bool true) (fun α => SX.rbnd_k (L := 19) (j := 0) (by kernel_rfl) (by kernel_rfl) (by decide)) ?_
  refine SX.D (.bool false) ?_
  refine SX.B false (fun h => Bool.noConfusion h) (fun _ => ?_)
  refine SX.E (.int .i64 0) (fun α => ⟨[⟨(.slice (some ⟨(α 1).b, 0, none⟩) 1 1), 14, sgsL ([⟨4, 1, 2, 1, 4, 1, 7, 2, 0, 0, 0, 1, 1, 2⟩] : List Sg)⟩], ⟨by kernel_rfl, trivial⟩, .inr (.inl ⟨rfl, _, ([⟨4, 1, 2, 1, 4, 1, 7, 2, 0, 0, 0, 1, 1, 2⟩] : List Sg), rfl, by decide, by kernel_rfl⟩), SX.noAli rfl⟩) ?_
  refine SX.E (.int .i64 0) (fun α => ⟨[⟨(.slice (some ⟨(α 1).b, 0, none⟩) 1 1), 14, sgsL ([⟨4, 1, 2, 1, 4, 1, 7, 2, 0, 0, 0, 1, 1, 2⟩] : List Sg)⟩], ⟨by kernel_rfl, trivial⟩, .inr (.inl ⟨rfl, _, ([⟨4, 1, 2, 1, 4, 1, 7, 2, 0, 0, 0, 1, 1, 2⟩] : List Sg), rfl, by decide, by kernel_rfl⟩), SX.noAli rfl⟩) ?_
  refine SX.D (.bool false) ?_
  refine SX.B false (fun h => Bool.noConfusion h) (fun _ => ?_)
  refine SX.D (.bool false) ?_
  refine SX.B false (fun h => Bool.noConfusion h) (fun _ => ?_)
  refine SX.E (.bool (true ^^ decide (([0, 1] : List Int) = [0, 1]))) (fun α => SX.eqr_rel (f := intI) intI_inj (y := [0, 1]) (z := [0, 1]) (by kernel_rfl) (by kernel_rfl) (by kernel_rfl)) ?_
  refine SX.B false (fun h => Bool.noConfusion h) (fun _ => ?_)
  refine SX.E (.bool (true ^^ decide (([1, 2] : List Int) = [1, 2]))) (fun α => SX.eqr_rel (f := intI) intI_inj (y := [1, 2]) (z := [1, 2]) (by kernel_rfl) (by kernel_rfl) (by kernel_rfl)) ?_
  refine SX.B false (fun h => Bool.noConfusion h) (fun _ => ?_)
  refine SX.E (.int .i64 0) (fun α => ⟨[⟨(.slice (some ⟨(α 1).b, 0, none⟩) 1 1), 14, sgsL ([⟨4, 1, 2, 1, 4, 1, 7, 2, 0, 0, 0, 1, 1, 2⟩] : List Sg)⟩], ⟨by kernel_rfl, trivial⟩, .inr (.inl ⟨rfl, _, ([⟨4, 1, 2, 1, 4, 1, 7, 2, 0, 0, 0, 1, 1, 2⟩] : List Sg), rfl, by decide, by kernel_rfl⟩), SX.noAli rfl⟩) ?_
  refine SX.E (.int .i64 0) (fun α => ⟨[⟨(.slice (some ⟨(α 1).b, 0, none⟩) 1 1), 14, sgsL ([⟨4, 1, 2, 1, 4, 1, 7, 2, 0, 0, 0, 1, 1, 2⟩] : List Sg)⟩], ⟨by kernel_rfl, trivial⟩, .inr (.inl ⟨rfl, _, ([⟨4, 1, 2, 1, 4, 1, 7, 2, 0, 0, 0, 1, 1, 2⟩] : List Sg), rfl, by decide, by kernel_rfl⟩), SX.noAli rfl⟩) ?_
  refine SX.D (.bool false) ?_
  refine SX.B false (fun h => Bool.noConfusion h) (fun _ => ?_)
  refine SX.D (.bool false) ?_
  refine SX.B false (fun h => Bool.noConfusion h) (fun _ => ?_)
  refine SX.D (.bool false) ?_
  refine SX.B false (fun h => Bool.noConfusion h) (fun _ => ?_)
  refine SX.D (.bool false) ?_
  refine SX.B false (fun h => Bool.noConfusion h) (fun _ => ?_)
  refine SX.D (.bool false) ?_
  refine SX.B false (fun h => Bool.noConfusion h) (fun _ => ?_)
  refine SX.D (.bool false) ?_
  refine SX.B false (fun h => Bool.noConfusion h) (fun _ => ?_)
  refine SX.D (.bool false) ?_
  refine SX.B false (fun h => Bool.noConfusion h) (fun _ => ?_)
  refine SX.E (.int .i64 0) (fun α => (by show _ = _; kernel_rfl)) ?_
  refine SX.D (.bool false) ?_
  refine SX.B false (fun h => Bool.noConfusion h) (fun _ => ?_)
  refine SX.E (.int .i64 0) (fun α => ⟨[⟨(.slice none 0 0), 14, sgsL ([] : List Sg)⟩], ⟨by kernel_rfl, trivial⟩, .inr (.inl ⟨rfl, _, ([] : List Sg), rfl, by decide, by kernel_rfl⟩), SX.noAli rfl⟩) ?_
  refine SX.D (.bool false) ?_
  refine SX.B false (fun h => Bool.noConfusion h) (fun _ => ?_)
  refine SX.E (.int .i64 360) (fun α => ⟨[⟨(.slice (some ⟨(α 48).b, 0, none⟩) 2 2), 14, sgsL ([⟨4, 1, 2, 1, 4, 1, 7, 2, 0, 0, 0, 1, 1, 2⟩, ⟨4, 1, 2, 1, 4, 1, 7, 2, 0, 0, 0, 1, 1, 2⟩] : List Sg)⟩], ⟨by kernel_rfl, trivial⟩, .inr (.inl ⟨rfl, _, ([⟨4, 1, 2, 1, 4, 1, 7, 2, 0, 0, 0, 1, 1, 2⟩, ⟨4, 1, 2, 1, 4, 1, 7, 2, 0, 0, 0, 1, 1, 2⟩] : List Sg), rfl, by decide, by kernel_rfl⟩), SX.noAli rfl⟩) ?_
  refine SX.D (.bool false) ?_
  refine SX.B false (fun h => Bool.noConfusion h) (fun _ => ?_)
  refine SX.E (.agg (sgsL (List.replicate 4097 zeroSg)).toArray) (fun α => ⟨.i64, .i64, 4097, 4097, by kernel_rfl, by kernel_rfl, by decide, by decide, by decide, by decide, mks_val.trans (by kernel_rfl)⟩) ?_
  refine SX.E (.int .i64 2) (fun α => ⟨[⟨(α 49).h, 14, sgsL (List.replicate 4097 zeroSg)⟩], ⟨Eq.trans (b := ⟨(α 49).h, 14, [Value.agg (sgsL (List.replicate 4097 zeroSg)).toArray].flatMap SX.cellsV⟩) (by simp [SX.cellsV]) (by kernel_rfl), trivial⟩, .inr (.inl ⟨rfl, _, List.replicate 4097 zeroSg, rfl, (by rw [List.length_replicate]; decide), by rw [sane_rep]⟩), SX.noAli rfl⟩) ?_
  refine SX.D (.bool false) ?_
  refine SX.B false (fun h => Bool.noConfusion h) (fun _ => ?_)
  refine SX.E (.bool true) (fun α => ⟨[⟨(α 5).h, 14, sgsL ([⟨4, 1, 2, 1, 4, 2, 3, 2, 0, 0, 0, 1, 1, 2⟩] : List Sg)⟩, ⟨(.slice (some ⟨(α 50).b, 0, none⟩) 1 1), 14, sgsL ([⟨4, 1, 2, 1, 4, 2, 3, 2, 0, 0, 0, 1, 1, 2⟩] : List Sg)⟩], ⟨by kernel_rfl, by kernel_rfl, trivial⟩, .inr (.inr (⟨rfl, _, _, ([⟨4, 1, 2, 1, 4, 2, 3, 2, 0, 0, 0, 1, 1, 2⟩] : List Sg), ([⟨4, 1, 2, 1, 4, 2, 3, 2, 0, 0, 0, 1, 1, 2⟩] : List Sg), rfl, by decide, by decide, by kernel_rfl⟩)), SX.noAli rfl⟩) ?_
  refine SX.B true (fun _ => ?_) (fun h => Bool.noConfusion h)
  refine SX.E (.bool true) (fun α => ⟨[⟨(α 6).h, 14, sgsL ([⟨4, 1, 2, 1, 4, 1, 7, 2, 0, 0, 0, 1, 1, 4⟩] : List Sg)⟩, ⟨(.slice (some ⟨(α 51).b, 0, none⟩) 1 1), 14, sgsL ([⟨4, 1, 2, 1, 4, 1, 7, 2, 0, 0, 0, 1, 1, 4⟩] : List Sg)⟩], ⟨by kernel_rfl, by kernel_rfl, trivial⟩, .inr (.inr (⟨rfl, _, _, ([⟨4, 1, 2, 1, 4, 1, 7, 2, 0, 0, 0, 1, 1, 4⟩] : List Sg), ([⟨4, 1, 2, 1, 4, 1, 7, 2, 0, 0, 0, 1, 1, 4⟩] : List Sg), rfl, by decide, by decide, by kernel_rfl⟩)), SX.noAli rfl⟩) ?_
  refine SX.B true (fun _ => ?_) (fun h => Bool.noConfusion h)
  refine SX.E (.int .i64 1) (fun α => (by show _ = _; kernel_rfl)) ?_
  refine SX.D (.bool false) ?_
  refine SX.B false (fun h => Bool.noConfusion h) (fun _ => ?_)
  refine SX.E (.int .i64 1) (fun α => (by show _ = _; kernel_rfl)) ?_
  refine SX.D (.bool true) ?_
  refine SX.B true (fun _ => ?_) (fun h => Bool.noConfusion h)
  refine SX.E (.bool true) (fun α => SX.rbnd_k (L := 19) (j := 0) (by kernel_rfl) (by kernel_rfl) (by decide)) ?_
  refine SX.E (.bool (false ^^ decide (([0, 0, 0, 0, 0, 0, 0, 3, 0, 0, 0, 0, 0, 0] : List Int) = [0, 0, 0, 0, 0, 0, 0, 3, 0, 0, 0, 0, 0, 0]))) (fun α => SX.eqr_rel (f := intI) intI_inj (y := [0, 0, 0, 0, 0, 0, 0, 3, 0, 0, 0, 0, 0, 0]) (z := [0, 0, 0, 0, 0, 0, 0, 3, 0, 0, 0, 0, 0, 0]) (by kernel_rfl) (by kernel_rfl) (by kernel_rfl)) ?_
  refine SX.B true (fun _ => ?_) (fun h => Bool.noConfusion h)
  refine SX.E (.int .i64 2) (fun α => (by show _ = _; kernel_rfl)) ?_
  refine SX.D (.bool false) ?_
  refine SX.B false (fun h => Bool.noConfusion h) (fun _ => ?_)
  refine SX.E (.int .i64 2) (fun α => (by show _ = _; kernel_rfl)) ?_
  refine SX.D (.bool true) ?_
  refine SX.B true (fun _ => ?_) (fun h => Bool.noConfusion h)
  refine SX.E (.bool true) (fun α => SX.rbnd_k (L := 2) (j := 0) (by kernel_rfl) (by kernel_rfl) (by decide)) ?_
  refine SX.E (.int .i64 2) (fun α => (by show _ = _; kernel_rfl)) ?_
  refine SX.D (.bool true) ?_
  refine SX.B true (fun _ => ?_) (fun h => Bool.noConfusion h)
  refine SX.E (.bool true) (fun α => SX.rbnd_k (L := 2) (j := 1) (by kernel_rfl) (by kernel_rfl) (by decide)) ?_
  refine SX.E (.int .i64 2) (fun α => (by show _ = _; kernel_rfl)) ?_
  refine SX.D (.bool false) ?_
  refine SX.B false (fun h => Bool.noConfusion h) (fun _ => ?_)
  refine SX.E (.int .i64 1) (fun α => (by show _ = _; kernel_rfl)) ?_
  refine SX.D (.bool false) ?_
  refine SX.B false (fun h => Bool.noConfusion h) (fun _ => ?_)
  exact SX.VC_ret fun α W _ _ hS => SX.ret_of hS (x := .bool true) (by kernel_rfl) rfl
def LN (R : List Pt) (needs : List Int) (A : Option Addr) (n c : Nat) (hs : List Hd) : List SX.Arg := ⟨.slice A n c, 19, phL (R.zip hs)⟩ :: hs.map fun h => (⟨Hd.v h, 1, intsL needs⟩ : SX.Arg)
def RnD (K : Value → Nat → List Value → Prop) (f : FuncId) (xs : List SX.Arg) (Q : Value → List SX.Arg → Prop) : Prop := (f = 17 ∨ f = 18) ∧ ∃ (u1 u2 u3 : Value) (a b : List Sg) (first : Int) (needs : List Int), xs = [⟨u1, 14, sgsL a⟩, ⟨u2, 14, sgsL b⟩, ⟨.int .i64 first, 0, []⟩, ⟨u3, 1, intsL needs⟩] ∧ a.length ≤ 9223372036854775807 ∧ b.length ≤ 9223372036854775807 ∧ needs.length ≤ 9223372036854775807 ∧
  ∀ A n c (hs : List Hd), n = (diffR a b first needs).1.length → hs.length = n → Q (.tuple #[.slice A n c, .int .i64 (diffR a b first needs).2]) (LN (diffR a b first needs).1 needs A n c hs)
def nshD : FuncId → Option SX.Sh := fun f => if f ∈ [17, 18] then some (.tp [.one, .one]) else none
theorem rnD_ok (C : SX.Cx) (hP : C.P = Try.prog) (hs : C.nsh = nshD) (hR : C.Rn = RnD) : C.OkN := by
  intro f sh hf K xs Q W h hrd hK
  rw [hR] at h
  rw [hs] at hf
  rw [hP]
  obtain ⟨hf2, u1, u2, u3, a, b, first, needs, rfl, hla, hlb, hln, hQ⟩ := h
  obtain ⟨A, n, c, rfl, hr, hc, e1⟩ := sgs_arg (hrd ⟨u1, 14, sgsL a⟩ (by simp))
  obtain ⟨B, m, d, rfl, hr2, hc2, e2⟩ := sgs_arg (hrd ⟨u2, 14, sgsL b⟩ (by simp))
  obtain ⟨D, k, e, rfl, hr3, hc3, e3⟩ := ints_arg (hrd ⟨u3, 1, intsL needs⟩ (by simp))
  have hfin : ∀ (e' : Ending) (w' : World), (Below W.heap.size W w' ∧ ∃ hdr hs, e' = .returned (.tuple #[hdr, .int .i64 (diffR a b first needs).2]) ∧ hs.length = (diffR a b first needs).1.length ∧ SX.SlRet W w' [] hdr 19 (phL ((diffR a b first needs).1.zip hs)) ∧ ∀ h ∈ hs, SX.SlRet W w' [] (Hd.v h) 1 (intsL needs)) → sh = .tp [.one, .one] → Below W.heap.size W w' ∧ ∃ v N, e' = .returned v ∧ sh.fit v = true ∧ Q v N ∧ ∀ y ∈ N, y.rd w' ∧ SX.FrsB W.heap.size y.v := by
    rintro e' w' ⟨hb, hdr, hs', he, hl, ⟨⟨A2, n2, c2, rfl, hnc⟩, hrd2, hfr⟩, hh⟩ rfl
    have hn2 : n2 = (diffR a b first needs).1.length := by
      have h0 : (phL ((diffR a b first needs).1.zip hs')).length = n2 * 19 := hrd2.1.1
      rw [phL_len, List.length_zip] at h0
      omega
    refine ⟨hb, _, _, he, rfl, hQ A2 n2 c2 hs' hn2 (by omega), fun y hy => ?_⟩
    rcases List.mem_cons.1 hy with rfl | hy
    · exact ⟨hrd2, hfr.resolve_right fun ⟨y, hy, _⟩ => nomatch hy⟩
    obtain ⟨h, hm, rfl⟩ := List.mem_map.1 hy
    obtain ⟨_, h1, h2⟩ := hh h hm
    exact ⟨h1, h2.resolve_right fun ⟨y, hy, _⟩ => nomatch hy⟩
  rcases hf2 with rfl | rfl
  · have hf : some (SX.Sh.tp [.one, .one]) = some sh := hf
    exact (diff_any a A n c b B m d first needs D k e W hr (by omega) hc hr2 (by omega) hc2 hr3 (by omega) hc3).mono fun e' w' h => hfin e' w' h (by cases hf; rfl)
  have hf : some (SX.Sh.tp [.one, .one]) = some sh := hf
  exact (rDiff_any a A n c b B m d first needs D k e W hr (by omega) hc hr2 (by omega) hc2 hr3 (by omega) hc3).mono fun e' w' h => hfin e' w' h (by cases hf; rfl)
theorem num_needs {first : Int} {needs : List Int} {k : Nat} {l : List Pt} : ∀ p ∈ num first needs k l, p.needs = needs := by
  induction l generalizing k with
  | nil => intro p hp; cases hp
  | cons q l ih =>
    intro p hp
    rcases List.mem_cons.1 hp with rfl | hp
    · rfl
    exact ih p hp
theorem diffR_needs {a b : List Sg} {first : Int} {needs : List Int} : ∀ p ∈ (diffR a b first needs).1, p.needs = needs := by
  unfold diffR
  split
  · intro p hp; cases hp
  split
  · intro p hp; cases hp
  split
  · intro p hp; cases hp
  split
  · intro p hp; cases hp
  split
  · intro p hp; cases hp
  split
  · intro p hp; cases hp
  exact num_needs
theorem zip_data {K : Value → Nat → List Value → Prop} {R : List Pt} {hs : List Hd} {needs : List Int} (hR : ∀ p ∈ R, p.needs = needs) (hn : needs.length ≤ 9223372036854775807) (hK : ∀ h ∈ hs, K (Hd.v h) 1 (intsL needs)) : ∀ y ∈ (R.zip hs : List Ph), K (Ph.h y) 1 (intsL y.1.needs) ∧ y.1.needs.length ≤ 9223372036854775807 := fun y hy => by
  obtain ⟨h1, h2⟩ := List.of_mem_zip (show (y.1, y.2) ∈ R.zip hs from hy)
  rw [hR _ h1]
  exact ⟨hK _ h2, hn⟩
theorem diffR_len {a b : List Sg} {first : Int} {needs : List Int} : (diffR a b first needs).1.length ≤ 512 := by
  unfold diffR
  split
  · simp
  split
  · simp
  split
  · simp
  split
  · simp
  split
  · simp
  split
  · simp
  simp only [num_len]; omega
theorem zip_fst {R : List Pt} {hs : List Hd} (h : hs.length = R.length) : (R.zip hs).map (·.1) = R := List.map_fst_zip (by omega)
def fewD (ss : List Sg) : Bool := decide (ss.length ≤ 200) || (decide (4096 < ss.length) && decide (ss.length ≤ 5000))
def tree_rfewd : SX.Tree :=
(.df (.len false) [(.q 0)] .one
(.df (.bin .leq 3) [(.q 1), (.i 200)] .one
(.br 2 []
(.ret (.k (.bool true)) [] [])
(.df (.len false) [(.q 0)] .one
(.df (.bin .gtr 3) [(.q 3), (.i 4096)] .one
(.br 4 []
(.df (.len false) [(.q 0)] .one
(.df (.bin .leq 3) [(.q 5), (.i 5000)] .one
(.ret (.q 6) [] [])))
(.ret (.k (.bool false)) [] [])))))))
def args_rfewd : List SX.V := [.x 0 []]
set_option maxRecDepth 100000 in
theorem run_rfewd (K A : Value → Nat → List Value → Prop) : (SX.run (cx0 K A) ⟨fun f => true, [], 0, 100⟩ 100000 0 (SX.door 11 Try.f11 args_rfewd [.one]) [.code (Try.f11.body.getD .skip), .top Try.f11]).strip = tree_rfewd := by kernel_rfl
set_option maxRecDepth 100000 in
set_option maxHeartbeats 4000000 in
theorem rfewd_any (ss : List Sg) (A : Option Addr) (n c : Nat) (w : World) (hr : Rd w 14 A n (sgsL ss)) (hn : n ≤ 9223372036854775807) (hc : n ≤ c) : Calls Try.prog 11 #[.slice A n c] w fun e w' => e = .returned (.bool (fewD ss)) ∧ Below w.heap.size w w' := by
  refine SX.calls_of_run (C := cx0 (fun s sz cells => s = .slice A n c ∧ sz = 14 ∧ cells = sgsL ss) (fun _ _ _ => False)) (G := ⟨fun f => true, [], 0, 100⟩) (args := args_rfewd) (sh := [.one]) (ρ := [.slice A n c]) 100000 tree_rfewd (cx0_ok _ _) Try.func11 rfl (run_rfewd _ _) (by kernel_rfl) (by kernel_rfl) (by kernel_rfl) ?_ ?_
  · rintro W hW s sz cells ⟨rfl, rfl, rfl⟩; exact ⟨hr.same0 hW, hc⟩
  have hln : ss.length = n := by have := hr.1; rw [sgsL_len] at this; omega
  unfold tree_rfewd
  refine SX.D (.int .i64 (((n : Nat) : Int))) ?_
  refine SX.D (.bool (decide (((n : Nat) : Int) ≤ 200))) ?_
  refine SX.B (decide (((n : Nat) : Int) ≤ 200)) (fun h2 => ?_) (fun h2 => ?_)
  · try simp only [NRM] at h2
    exact SX.F (.bool true) (by congr 1; rw [Bool.eq_iff_iff]; simp only [fewD, Bool.or_eq_true, Bool.and_eq_true, decide_eq_true_eq, Bool.false_eq_true, true_iff, false_iff, iff_true, iff_false]; omega)
  try simp only [NRM] at h2
  refine SX.D (.int .i64 (((n : Nat) : Int))) ?_
  refine SX.D (.bool (decide (((n : Nat) : Int) > 4096))) ?_
  refine SX.B (decide (((n : Nat) : Int) > 4096)) (fun h4 => ?_) (fun h4 => ?_)
  · try simp only [NRM] at h4
    refine SX.D (.int .i64 (((n : Nat) : Int))) ?_
    refine SX.D (.bool (decide (((n : Nat) : Int) ≤ 5000))) ?_
    exact SX.F (.bool (decide (((n : Nat) : Int) ≤ 5000))) (by congr 1; rw [Bool.eq_iff_iff]; simp only [fewD, Bool.or_eq_true, Bool.and_eq_true, decide_eq_true_eq, Bool.false_eq_true, true_iff, false_iff, iff_true, iff_false]; omega)
  try simp only [NRM] at h4
  exact SX.F (.bool false) (by congr 1; rw [Bool.eq_iff_iff]; simp only [fewD, Bool.or_eq_true, Bool.and_eq_true, decide_eq_true_eq, Bool.false_eq_true, true_iff, false_iff, iff_true, iff_false]; omega)
def RDE (K : Value → Nat → List Value → Prop) (f : FuncId) (xs : List SX.Arg) (v : Value) : Prop :=
  (f = 10 ∧ xs = [] ∧ v = .bool true) ∨
  (f = 11 ∧ ∃ (u : Value) (ss : List Sg), xs = [⟨u, 14, sgsL ss⟩] ∧ ss.length ≤ 9223372036854775807 ∧ v = .bool (fewD ss)) ∨
  (f = 19 ∧ ∃ (u1 u2 : Value) (L M : List Ph), xs = [⟨u1, 19, phL L⟩, ⟨u2, 19, phL M⟩] ∧ L.length ≤ 9223372036854775807 ∧ M.length ≤ 9223372036854775807 ∧ (∀ y ∈ L, K y.h 1 (intsL y.1.needs) ∧ y.1.needs.length ≤ 9223372036854775807) ∧ (∀ y ∈ M, K y.h 1 (intsL y.1.needs) ∧ y.1.needs.length ≤ 9223372036854775807) ∧ v = .bool (decide (L.map (·.1) = M.map (·.1))))
def shpDE : FuncId → Option SX.Sh := fun f => if f = 10 then some .one else if f = 11 then some .one else if f = 19 then some .one else none
noncomputable def cxDE (nb : Nat) (K A : Value → Nat → List Value → Prop) : SX.Cx := { nsh := nshD, Rn := RnD, nb := nb, P := Try.prog, R := RDE, shp := shpDE, K := K, A := A }
theorem okDE (nb : Nat) (K A : Value → Nat → List Value → Prop) : (cxDE nb K A).Ok := by
  refine SX.Cx.ok_nd (fun _ => rfl) ?_ (rnD_ok _ rfl rfl rfl)
  intro K f xs v W hR hrd hKf
  rcases hR with ⟨rfl, rfl, rfl⟩ | ⟨rfl, u, ss, rfl, hb, rfl⟩ | ⟨rfl, u1, u2, L, M, rfl, hb1, hb2, hk1, hk2, rfl⟩
  · exact (sane36_any W).mono fun e w' h => SX.plainOk rfl h
  · obtain ⟨A, n, c, rfl, h2, h3, h4⟩ := sgs_arg (hrd ⟨u, 14, sgsL ss⟩ (by simp))
    exact (rfewd_any ss A n c W h2 (by omega) h3).mono fun e w' h => SX.plainOk rfl h
  obtain ⟨A, n, c, rfl, hr, hc, hln⟩ := ph_arg (hrd ⟨u1, 19, phL L⟩ (by simp))
  obtain ⟨B, m, d, rfl, hr2, hc2, hlm⟩ := ph_arg (hrd ⟨u2, 19, phL M⟩ (by simp))
  exact (rpatches_any L M A n c B m d W hr (by omega) hc hr2 (by omega) hc2 (fun y hy => ⟨hKf _ _ _ (hk1 y hy).1, (hk1 y hy).2⟩) (fun y hy => ⟨hKf _ _ _ (hk2 y hy).1, (hk2 y hy).2⟩)).mono fun e w' h => SX.plainOk rfl h
def tree_lspecd : SX.Tree :=
(.df (.call 10 []) [] .one
(.df .not [(.q 4)] .one
(.br 5 []
(.ret (.k (.bool false)) [] [])
(.df (.call 11 [(.ext 14)]) [(.q 0)] .one
(.df .not [(.q 6)] .one
(.br 7 []
(.ret (.k (.bool true)) [] [])
(.df (.call 11 [(.ext 14)]) [(.q 1)] .one
(.df .not [(.q 8)] .one
(.br 9 []
(.ret (.k (.bool true)) [] [])
(.df (.len false) [(.q 3)] .one
(.df (.bin .gtr 3) [(.q 10), (.i 50)] .one
(.br 11 []
(.ret (.k (.bool true)) [] [])
(.df (.callq 17 [(.ext 14), (.ext 14), .no, (.ext 1)]) (SX.Z 0 4) (.tp [.one, .one])
(.df (.callq 18 [(.ext 14), (.ext 14), .no, (.ext 1)]) (SX.Z 0 4) (.tp [.one, .one])
(.df (.call 19 [(.ext 19), (.ext 19)]) [(.x 12 [0]), (.x 13 [0])] .one
(.br 14 []
(.df (.bin .eql 31) [(.x 12 [1]), (.x 13 [1])] .one
(.ret (.q 15) [] []))
(.ret (.k (.bool false)) [] [])))))))))))))))))
def args_lspecd : List SX.V := [.x 0 [], .x 1 [], .x 2 [], .x 3 []]
set_option maxRecDepth 100000 in
theorem run_lspecd (nb : Nat) (K A : Value → Nat → List Value → Prop) : (SX.run (cxDE nb K A) ⟨fun f => true, [], 0, 100⟩ 100000 0 (SX.door 4 Try.f4 args_lspecd [.one, .one, .one, .one]) [.code (Try.f4.body.getD .skip), .top Try.f4]).strip = tree_lspecd := by kernel_rfl
set_option maxRecDepth 100000 in
set_option maxHeartbeats 4000000 in
theorem lspecd_any (a : List Sg) (A : Option Addr) (n c : Nat) (b : List Sg) (B : Option Addr) (m d : Nat) (first : Int) (needs : List Int) (D : Option Addr) (k e : Nat) (w : World) (hr : Rd w 14 A n (sgsL a)) (hn : n ≤ 9223372036854775807) (hc : n ≤ c) (hr2 : Rd w 14 B m (sgsL b)) (hn2 : m ≤ 9223372036854775807) (hc2 : m ≤ d) (hr3 : Rd w 1 D k (intsL needs)) (hn3 : k ≤ 9223372036854775807) (hc3 : k ≤ e) : Calls Try.prog 4 #[.slice A n c, .slice B m d, .int .i64 first, .slice D k e] w fun e w' => e = .returned (.bool true) ∧ Below w.heap.size w w' := by
  refine SX.calls_of_run (C := cxDE w.heap.size (KDf A n c a B m d b D k e needs) (fun _ _ _ => False)) (G := ⟨fun f => true, [], 0, 100⟩) (args := args_lspecd) (sh := [.one, .one, .one, .one]) (ρ := [.slice A n c, .slice B m d, .int .i64 first, .slice D k e]) 100000 tree_lspecd (okDE w.heap.size _ _) Try.func4 rfl (run_lspecd _ _ _) (by kernel_rfl) (by kernel_rfl) (by kernel_rfl) ?_ ?_ (hN := ⟨rfl, Nat.le_refl _⟩)
  · rintro W hW s sz cells (⟨rfl, rfl, rfl⟩ | ⟨rfl, rfl, rfl⟩ | ⟨rfl, rfl, rfl⟩)
    · exact ⟨hr.same0 hW, hc⟩
    · exact ⟨hr2.same0 hW, hc2⟩
    exact ⟨hr3.same0 hW, hc3⟩
  have hA := SX.rd_some hr
  have hln : a.length = n := by have := hr.1; rw [sgsL_len] at this; omega
  have hB := SX.rd_some hr2
  have hlm : b.length = m := by have := hr2.1; rw [sgsL_len] at this; omega
  have hD := SX.rd_some hr3
  have hlk : needs.length = k := by have := hr3.1; rw [intsL_len] at this; omega
  have hR5 := diffR_len (a := a) (b := b) (first := first) (needs := needs)
  unfold tree_lspecd
  refine SX.E (.bool true) (fun α => ⟨[], trivial, .inl ⟨rfl, rfl, rfl⟩, SX.noAli rfl⟩) ?_
  refine SX.D (.bool (!(true))) ?_
  refine SX.B (!(true)) (fun h5 => absurd h5 (by decide)) (fun h5 => ?_)
  try simp only [NRM] at h5
  refine SX.E (.bool ((fewD a))) (fun α => ⟨[⟨.slice A n c, 14, sgsL a⟩], ⟨by kernel_rfl, by kernel_rfl, .inl ⟨rfl, rfl, rfl⟩, trivial⟩, .inr (.inl ⟨rfl, _, a, rfl, by omega, rfl⟩), SX.noAli rfl⟩) ?_
  refine SX.D (.bool (!((fewD a)))) ?_
  refine SX.B (!((fewD a))) (fun h7 => ?_) (fun h7 => ?_)
  · try simp only [NRM] at h7
    exact SX.VC_ret fun α W _ _ hS => SX.ret_of hS (x := .bool true) (by kernel_rfl) rfl
  try simp only [NRM] at h7
  refine SX.E (.bool ((fewD b))) (fun α => ⟨[⟨.slice B m d, 14, sgsL b⟩], ⟨by kernel_rfl, by kernel_rfl, .inr (.inl ⟨rfl, rfl, rfl⟩), trivial⟩, .inr (.inl ⟨rfl, _, b, rfl, by omega, rfl⟩), SX.noAli rfl⟩) ?_
  refine SX.D (.bool (!((fewD b)))) ?_
  refine SX.B (!((fewD b))) (fun h9 => ?_) (fun h9 => ?_)
  · try simp only [NRM] at h9
    exact SX.VC_ret fun α W _ _ hS => SX.ret_of hS (x := .bool true) (by kernel_rfl) rfl
  try simp only [NRM] at h9
  refine SX.D (.int .i64 (((k : Nat) : Int))) ?_
  refine SX.D (.bool (decide (((k : Nat) : Int) > 50))) ?_
  refine SX.B (decide (((k : Nat) : Int) > 50)) (fun h11 => ?_) (fun h11 => ?_)
  · try simp only [NRM] at h11
    exact SX.VC_ret fun α W _ _ hS => SX.ret_of hS (x := .bool true) (by kernel_rfl) rfl
  try simp only [NRM] at h11
  refine SX.VC_dn (fun v N => ∃ A1 n1 c1 hs1, n1 = (diffR a b first needs).1.length ∧ List.length (α := Hd) hs1 = n1 ∧ v = .tuple #[.slice A1 n1 c1, .int .i64 (diffR a b first needs).2] ∧ N = (LN (diffR a b first needs).1 needs A1 n1 c1 hs1)) (fun _ => rfl) (fun α => ⟨[⟨.slice A n c, 14, sgsL a⟩, ⟨.slice B m d, 14, sgsL b⟩, ⟨.int .i64 first, 0, []⟩, ⟨.slice D k e, 1, intsL needs⟩], ⟨by kernel_rfl, by kernel_rfl, K_ofD (y := ⟨.slice A n c, 14, sgsL a⟩) (by kernel_rfl) (.inl ⟨rfl, rfl, rfl⟩), by kernel_rfl, by kernel_rfl, K_ofD (y := ⟨.slice B m d, 14, sgsL b⟩) (by kernel_rfl) (.inr (.inl ⟨rfl, rfl, rfl⟩)), by kernel_rfl, by kernel_rfl, by kernel_rfl, by kernel_rfl, K_ofD (y := ⟨.slice D k e, 1, intsL needs⟩) (by kernel_rfl) (.inr (.inr ⟨rfl, rfl, rfl⟩)), trivial⟩, .inl rfl, _, _, _, a, b, first, needs, rfl, by omega, by omega, by omega, fun A1 n1 c1 hs1 g1 g2 => ⟨A1, n1, c1, hs1, g1, g2, rfl, rfl⟩⟩) ?_
  rintro _ _ - ⟨A1, n1, c1, hs1, q1, z1, rfl, rfl⟩
  refine SX.VC_dn (fun v N => ∃ A2 n2 c2 hs2, n2 = (diffR a b first needs).1.length ∧ List.length (α := Hd) hs2 = n2 ∧ v = .tuple #[.slice A2 n2 c2, .int .i64 (diffR a b first needs).2] ∧ N = (LN (diffR a b first needs).1 needs A2 n2 c2 hs2)) (fun _ => rfl) (fun α => ⟨[⟨.slice A n c, 14, sgsL a⟩, ⟨.slice B m d, 14, sgsL b⟩, ⟨.int .i64 first, 0, []⟩, ⟨.slice D k e, 1, intsL needs⟩], ⟨by kernel_rfl, by kernel_rfl, K_ofD (y := ⟨.slice A n c, 14, sgsL a⟩) (by kernel_rfl) (.inl (.inl ⟨rfl, rfl, rfl⟩)), by kernel_rfl, by kernel_rfl, K_ofD (y := ⟨.slice B m d, 14, sgsL b⟩) (by kernel_rfl) (.inl (.inr (.inl ⟨rfl, rfl, rfl⟩))), by kernel_rfl, by kernel_rfl, by kernel_rfl, by kernel_rfl, K_ofD (y := ⟨.slice D k e, 1, intsL needs⟩) (by kernel_rfl) (.inl (.inr (.inr ⟨rfl, rfl, rfl⟩))), trivial⟩, .inr rfl, _, _, _, a, b, first, needs, rfl, by omega, by omega, by omega, fun A2 n2 c2 hs2 g1 g2 => ⟨A2, n2, c2, hs2, g1, g2, rfl, rfl⟩⟩) ?_
  rintro _ _ - ⟨A2, n2, c2, hs2, q2, z2, rfl, rfl⟩
  refine SX.E (.bool true) (fun α => ⟨[⟨.slice A1 n1 c1, 19, phL ((diffR a b first needs).1.zip hs1)⟩, ⟨.slice A2 n2 c2, 19, phL ((diffR a b first needs).1.zip hs2)⟩], ⟨by kernel_rfl, by kernel_rfl, K_ofD (y := ⟨.slice A1 n1 c1, 19, phL ((diffR a b first needs).1.zip hs1)⟩) (by kernel_rfl) (.inl (.inr (List.mem_append_left _ (List.mem_cons_self ..)))), by kernel_rfl, by kernel_rfl, K_ofD (y := ⟨.slice A2 n2 c2, 19, phL ((diffR a b first needs).1.zip hs2)⟩) (by kernel_rfl) (.inr (List.mem_append_left _ (List.mem_cons_self ..))), trivial⟩, .inr (.inr (⟨rfl, _, _, ((diffR a b first needs).1.zip hs1), ((diffR a b first needs).1.zip hs2), rfl, by rw [List.length_zip]; omega, by rw [List.length_zip]; omega, zip_data (K := (((cxDE w.heap.size (KDf A n c a B m d b D k e needs) (fun _ _ _ => False)).plus ((LN (diffR a b first needs).1 needs A1 n1 c1 hs1) ++ (cxDE w.heap.size (KDf A n c a B m d b D k e needs) (fun _ _ _ => False)).N)).plus ((LN (diffR a b first needs).1 needs A2 n2 c2 hs2) ++ ((cxDE w.heap.size (KDf A n c a B m d b D k e needs) (fun _ _ _ => False)).plus ((LN (diffR a b first needs).1 needs A1 n1 c1 hs1) ++ (cxDE w.heap.size (KDf A n c a B m d b D k e needs) (fun _ _ _ => False)).N)).N)).K) diffR_needs (by omega) (fun h hh => .inl (.inr (List.mem_append_left _ (List.mem_cons_of_mem _ (List.mem_map.2 ⟨h, hh, rfl⟩))))), zip_data (K := (((cxDE w.heap.size (KDf A n c a B m d b D k e needs) (fun _ _ _ => False)).plus ((LN (diffR a b first needs).1 needs A1 n1 c1 hs1) ++ (cxDE w.heap.size (KDf A n c a B m d b D k e needs) (fun _ _ _ => False)).N)).plus ((LN (diffR a b first needs).1 needs A2 n2 c2 hs2) ++ ((cxDE w.heap.size (KDf A n c a B m d b D k e needs) (fun _ _ _ => False)).plus ((LN (diffR a b first needs).1 needs A1 n1 c1 hs1) ++ (cxDE w.heap.size (KDf A n c a B m d b D k e needs) (fun _ _ _ => False)).N)).N)).K) diffR_needs (by omega) (fun h hh => .inr (List.mem_append_left _ (List.mem_cons_of_mem _ (List.mem_map.2 ⟨h, hh, rfl⟩)))), by rw [zip_fst (by omega), zip_fst (by omega), decide_eq_true rfl]⟩)), SX.noAli rfl⟩) ?_
  refine SX.B true (fun h14 => ?_) (fun h14 => absurd h14 (by decide))
  try simp only [NRM] at h14
  refine SX.D (.bool (((diffR a b first needs).2 : Int) == (diffR a b first needs).2)) ?_
  exact SX.F (.bool (((diffR a b first needs).2 : Int) == (diffR a b first needs).2)) (by simp)
end Go.Proofs.Ytnaooclbphaelaa
namespace Go.Proofs.Ytnaooclbphaelaa
set_option maxRecDepth 20000
open Go Go.RowKit Go.ChangeShapes Go.WideShapes Go.ChangeAt
theorem max_eq : maxLen = 9223372036854775807 := by unfold maxLen; rfl
section
variable {H : Type} {enc : TypeId × Value → H} {P : Program} {w : World} {base : Nat} {spare : Nat → Bool} {held : Bool} {fuel : Nat} {t : TypeId} {cs : List Value}
theorem take_at {off : Nat} {v : Value} (h : (cs.drop off).take 1 = [v]) : cs[off]? = some v := by
  have : ((cs.drop off).take 1)[0]? = some v := by rw [h]; rfl
  simpa [List.getElem?_take, List.getElem?_drop] using this
theorem int_at {off : Nat} (hu : P.underlying t = some (.int .i64)) {y : DataW H × List MemPlace} (h : DataW.trod enc P w base spare held fuel t ((cs.drop off).take 1) = some y) : ∃ n, cs[off]? = some (.int .i64 n) := by
  obtain ⟨n, e, _⟩ := DataW.trod_int hu h
  exact ⟨n, take_at e⟩
theorem ints2_at {off : Nat} {m k : Int} (h : (cs.drop off).take 2 = [.int .i64 m, .int .i64 k]) : cs[off]? = some (.int .i64 m) ∧ cs[off + 1]? = some (.int .i64 k) := by
  have h0 : ((cs.drop off).take 2)[0]? = some (.int .i64 m) := by rw [h]; rfl
  have h1 : ((cs.drop off).take 2)[1]? = some (.int .i64 k) := by rw [h]; rfl
  simp [List.getElem?_take, List.getElem?_drop] at h0 h1
  exact ⟨h0, h1⟩
end
section
variable {H : Type} {enc : TypeId × Value → H} {w : World} {base : Nat} {sp : Nat → Bool} {held : Bool} {r : Reach} {b0 : Nat} {v : Value} {d : DataW H} {ps : List MemPlace}
theorem ratio_cells {n : Nat} {cs : List Value} {y : DataW H × List MemPlace} (hf : DataW.trod enc Try.prog w base sp held n 24 cs = some y) : ∃ m k : Int, cs = [.int .i64 m, .int .i64 k] := by
  obtain ⟨xs, n, _, _, hlen, hl, hx⟩ := DataW.trod_struct Try.underlying24 hf
  have hC : Try.prog.cellsOf 24 = 2 := by kernel_rfl
  rw [hC] at hlen
  have hl' : xs.length = 2 := hl
  have g0 : DataW.trod enc Try.prog w base sp held n 3 ((cs.drop 0).take 1) = some (xs[0]'(by omega)) := (hx 0 _ rfl).trans (List.getElem?_eq_getElem _)
  obtain ⟨v0, e0⟩ := int_at Try.underlying3 g0
  have g1 : DataW.trod enc Try.prog w base sp held n 3 ((cs.drop 1).take 1) = some (xs[1]'(by omega)) := (hx 1 _ rfl).trans (List.getElem?_eq_getElem _)
  obtain ⟨v1, e1⟩ := int_at Try.underlying3 g1
  refine ⟨v0, v1, ?_⟩
  apply List.ext_getElem?
  intro i
  by_cases hi : i < 2
  · have hc : i = 0 ∨ i = 1 := by omega
    rcases hc with rfl | rfl
    · exact e0
    exact e1
  rw [List.getElem?_eq_none (by omega), List.getElem?_eq_none (by show 2 ≤ i; omega)]
theorem sign_cells {n : Nat} {cs : List Value} {y : DataW H × List MemPlace} (hf : DataW.trod enc Try.prog w base sp held n 26 cs = some y) : ∃ s : Sg, cs = cellsSg s := by
  obtain ⟨xs, n, _, _, hlen, hl, hx⟩ := DataW.trod_struct Try.underlying26 hf
  have hC : Try.prog.cellsOf 26 = 14 := by kernel_rfl
  rw [hC] at hlen
  have hl' : xs.length = 12 := hl
  have g0 : DataW.trod enc Try.prog w base sp held n 3 ((cs.drop 0).take 1) = some (xs[0]'(by omega)) := (hx 0 _ rfl).trans (List.getElem?_eq_getElem _)
  obtain ⟨v0, e0⟩ := int_at Try.underlying3 g0
  have g1 : DataW.trod enc Try.prog w base sp held n 3 ((cs.drop 1).take 1) = some (xs[1]'(by omega)) := (hx 1 _ rfl).trans (List.getElem?_eq_getElem _)
  obtain ⟨v1, e1⟩ := int_at Try.underlying3 g1
  have g2 : DataW.trod enc Try.prog w base sp held n 3 ((cs.drop 2).take 1) = some (xs[2]'(by omega)) := (hx 2 _ rfl).trans (List.getElem?_eq_getElem _)
  obtain ⟨v2, e2⟩ := int_at Try.underlying3 g2
  have g3 : DataW.trod enc Try.prog w base sp held n 3 ((cs.drop 3).take 1) = some (xs[3]'(by omega)) := (hx 3 _ rfl).trans (List.getElem?_eq_getElem _)
  obtain ⟨v3, e3⟩ := int_at Try.underlying3 g3
  have g4 : DataW.trod enc Try.prog w base sp held n 3 ((cs.drop 4).take 1) = some (xs[4]'(by omega)) := (hx 4 _ rfl).trans (List.getElem?_eq_getElem _)
  obtain ⟨v4, e4⟩ := int_at Try.underlying3 g4
  have g5 : DataW.trod enc Try.prog w base sp held n 3 ((cs.drop 5).take 1) = some (xs[5]'(by omega)) := (hx 5 _ rfl).trans (List.getElem?_eq_getElem _)
  obtain ⟨v5, e5⟩ := int_at Try.underlying3 g5
  have g6 : DataW.trod enc Try.prog w base sp held n 3 ((cs.drop 6).take 1) = some (xs[6]'(by omega)) := (hx 6 _ rfl).trans (List.getElem?_eq_getElem _)
  obtain ⟨v6, e6⟩ := int_at Try.underlying3 g6
  have g7 : DataW.trod enc Try.prog w base sp held n 3 ((cs.drop 7).take 1) = some (xs[7]'(by omega)) := (hx 7 _ rfl).trans (List.getElem?_eq_getElem _)
  obtain ⟨v7, e7⟩ := int_at Try.underlying3 g7
  have g8 : DataW.trod enc Try.prog w base sp held n 3 ((cs.drop 8).take 1) = some (xs[8]'(by omega)) := (hx 8 _ rfl).trans (List.getElem?_eq_getElem _)
  obtain ⟨v8, e8⟩ := int_at Try.underlying3 g8
  have g9 : DataW.trod enc Try.prog w base sp held n 3 ((cs.drop 9).take 1) = some (xs[9]'(by omega)) := (hx 9 _ rfl).trans (List.getElem?_eq_getElem _)
  obtain ⟨v9, e9⟩ := int_at Try.underlying3 g9
  have g10 : DataW.trod enc Try.prog w base sp held n 24 ((cs.drop 10).take 2) = some (xs[10]'(by omega)) := (hx 10 _ rfl).trans (List.getElem?_eq_getElem _)
  obtain ⟨v10, v11, r10⟩ := ratio_cells g10
  obtain ⟨e10, e11⟩ := ints2_at r10
  have g12 : DataW.trod enc Try.prog w base sp held n 24 ((cs.drop 12).take 2) = some (xs[11]'(by omega)) := (hx 11 _ rfl).trans (List.getElem?_eq_getElem _)
  obtain ⟨v12, v13, r12⟩ := ratio_cells g12
  obtain ⟨e12, e13⟩ := ints2_at r12
  refine ⟨⟨v0, v1, v2, v3, v4, v5, v6, v7, v8, v9, v10, v11, v12, v13⟩, ?_⟩
  apply List.ext_getElem?
  intro i
  by_cases hi : i < 14
  · have hc : i = 0 ∨ i = 1 ∨ i = 2 ∨ i = 3 ∨ i = 4 ∨ i = 5 ∨ i = 6 ∨ i = 7 ∨ i = 8 ∨ i = 9 ∨ i = 10 ∨ i = 11 ∨ i = 12 ∨ i = 13 := by omega
    rcases hc with rfl | rfl | rfl | rfl | rfl | rfl | rfl | rfl | rfl | rfl | rfl | rfl | rfl | rfl
    · exact e0
    · exact e1
    · exact e2
    · exact e3
    · exact e4
    · exact e5
    · exact e6
    · exact e7
    · exact e8
    · exact e9
    · exact e10
    · exact e11
    · exact e12
    exact e13
  rw [List.getElem?_eq_none (by omega), List.getElem?_eq_none (by show 14 ≤ i; omega)]
theorem els_of {β : Type} {f : β → List Value} {Q : β → Prop} {sz : Nat} (a : Addr) : ∀ (len : Nat), (∀ i, i < len → ∃ c : β, Q c ∧ w.cells? base (a.add (i * sz)) sz = some (f c)) →
    ∃ l : List β, l.length = len ∧ (∀ c ∈ l, Q c) ∧ ∀ i c, l[i]? = some c → w.cells? base (a.add (i * sz)) sz = some (f c)
  | 0, _ => ⟨[], rfl, (fun _ h => nomatch h), by simp⟩
  | len + 1, h => by
    obtain ⟨l, hl, hq, hx⟩ := els_of a len (fun i hi => h i (by omega))
    obtain ⟨c, hqc, hc⟩ := h len (by omega)
    refine ⟨l ++ [c], by simp [hl], fun c' hc' => ?_, fun i c' hc' => ?_⟩
    · rcases List.mem_append.1 hc' with h1 | h1
      · exact hq c' h1
      obtain rfl : c' = c := by simpa using h1
      exact hqc
    rw [List.getElem?_append] at hc'
    split at hc'
    · exact hx i c' hc'
    have : i - l.length = 0 := by
      rcases Nat.eq_zero_or_pos (i - l.length) with h0 | h0
      · exact h0
      rw [List.getElem?_eq_none (by simp; omega)] at hc'; cases hc'
    rw [this] at hc'
    obtain rfl : c = c' := by simpa using hc'
    obtain rfl : i = len := by omega
    exact hc
theorem slice_of {β : Type} {f : β → List Value} {Q : β → Prop} {sz : Nat} {t e : TypeId} {n : Nat} {cs : List Value} {y : DataW H × List MemPlace} (hu : Try.prog.underlying t = some (.slice e)) (hC : Try.prog.cellsOf e = sz) (h0 : 0 < sz) (hlen : ∀ c, (f c).length = sz)
    (hel : ∀ (n : Nat) (cs : List Value) (y : DataW H × List MemPlace), DataW.trod enc Try.prog w base sp held n e cs = some y → ∃ c, Q c ∧ cs = f c) (hf : DataW.trod enc Try.prog w base sp held n t cs = some y) :
    ∃ (A : Option Addr) (k cap : Nat) (l : List β), cs = [.slice A k cap] ∧ Rd w sz A k (l.flatMap f) ∧ k ≤ cap ∧ cap ≤ maxLen ∧ ∀ c ∈ l, Q c := by
  rcases DataW.trod_slice hu hf with ⟨he, _⟩ | ⟨a, len, cap', elems, rest, m, _, he, _, _, hlc, hcm, hel', hcell, _, _⟩
  · exact ⟨none, 0, 0, [], he, ⟨by simp, fun h => absurd h (by omega)⟩, Nat.le_refl _, by omega, fun _ h => nomatch h⟩
  rw [hC] at hcell
  obtain ⟨l, hl, hq, hx⟩ := els_of (w := w) (base := base) (f := f) (Q := Q) (sz := sz) a len fun i hi => by
    have h1 := hcell i hi
    rw [List.getElem?_eq_getElem (by omega)] at h1
    cases hq : w.cells? base (a.add (i * sz)) sz with
    | none => rw [hq] at h1; simp at h1
    | some cs =>
      rw [hq] at h1
      obtain ⟨c, hqc, rfl⟩ := hel _ _ _ (by simpa using h1)
      exact ⟨c, hqc, rfl⟩
  have hll : (l.flatMap f).length = len * sz := by rw [SX.flat_len hlen, hl]
  refine ⟨some a, len, cap', l, he, ⟨hll, fun hn => ⟨a, rfl, ?_, fun j u hu => ?_⟩⟩, by omega, by omega, hq⟩
  · obtain ⟨c, hc⟩ : ∃ c, l[0]? = some c := ⟨_, List.getElem?_eq_getElem (by omega)⟩
    have := World.cells?_block (hx 0 c hc) (by omega)
    rwa [block_of_add] at this
  have hj : j < len * sz := by
    have := (List.getElem?_eq_some_iff.1 hu).1
    rwa [hll] at this
  have hd : j / sz < len := Nat.div_lt_of_lt_mul (by rw [Nat.mul_comm]; exact hj)
  have hm : j % sz < sz := Nat.mod_lt _ h0
  obtain ⟨c, hc⟩ : ∃ c, l[j / sz]? = some c := ⟨_, List.getElem?_eq_getElem (by omega)⟩
  have hw := hx _ c hc
  have hjj : j / sz * sz + j % sz = j := by rw [Nat.mul_comm]; exact Nat.div_add_mod j sz
  have h4 : (f c)[j % sz]? = some u := by
    rw [← hjj, ← List.getElem?_drop, SX.flat_elem hlen hc, List.getElem?_append_left (by rw [hlen]; exact hm)] at hu
    exact hu
  obtain ⟨_, _, h5⟩ := World.cells?_some hw
  have h6 := (h5 (j % sz) hm).trans h4
  have h7 : (a.add (j / sz * sz)).add (j % sz) = a.add j := by rw [Addr.add_add, hjj]
  rw [h7] at h6
  exact h6
theorem open_sgs (hd : DataW.Trod enc Try.prog w base sp held 22 v d ps) : ∃ (A : Option Addr) (n cap : Nat) (l : List Sg), v.cells.toList = [.slice A n cap] ∧ Rd w 14 A n (sgsL l) ∧ n ≤ cap ∧ cap ≤ maxLen := by
  obtain ⟨fuel, hf⟩ := hd
  obtain ⟨A, k, cap, l, h1, h2, h3, h4, _⟩ := slice_of (f := cellsSg) (sz := 14) (Q := fun _ => True) Try.underlying22 (by kernel_rfl) (by decide) (fun _ => rfl) (fun n cs y h => by obtain ⟨s, e⟩ := sign_cells h; exact ⟨s, trivial, e⟩) hf
  exact ⟨A, k, cap, l, h1, h2, h3, h4⟩
theorem v_slice {r : Reach} {b0 : Nat} {t e : TypeId} (hu : Try.prog.underlying t = some (.slice e)) (hval : Value.okWide Try.prog w r b0 t v) {A : Option Addr} {n cap : Nat} (h : v.cells.toList = [.slice A n cap]) : v = .slice A n cap := by
  obtain ⟨A', n', c', rfl⟩ := okWide_slice hu hval
  simpa [Value.cells] using h
end
end Go.Proofs.Ytnaooclbphaelaa
namespace Go.Proofs.Ytnaooclbphaelaa
set_option maxRecDepth 20000
open Go Go.RowKit Go.ChangeShapes Go.WideShapes Go.ChangeAt
section
variable {H : Type} {enc : TypeId × Value → H} {w : World} {base : Nat} {sp : Nat → Bool} {held : Bool} {r : Reach} {b0 : Nat} {v : Value} {d : DataW H} {ps : List MemPlace}
theorem int_cell {n : Nat} {cs : List Value} {y : DataW H × List MemPlace} (hf : DataW.trod enc Try.prog w base sp held n 3 cs = some y) : ∃ c : Int, True ∧ cs = cellsI c := by
  obtain ⟨n, e, _⟩ := DataW.trod_int Try.underlying3 hf
  exact ⟨n, trivial, e⟩
theorem ints_of {n : Nat} {cs : List Value} {y : DataW H × List MemPlace} (hf : DataW.trod enc Try.prog w base sp held n 37 cs = some y) :
    ∃ (A : Option Addr) (k cap : Nat) (l : List Int), cs = [.slice A k cap] ∧ Rd w 1 A k (intsL l) ∧ k ≤ cap ∧ cap ≤ maxLen := by
  obtain ⟨A, k, cap, l, h1, h2, h3, h4, _⟩ := slice_of (f := cellsI) (sz := 1) (Q := fun _ => True) Try.underlying37 (by kernel_rfl) (by decide) (fun _ => rfl) (fun n cs y h => int_cell h) hf
  exact ⟨A, k, cap, l, h1, h2, h3, h4⟩
theorem open_ints (hd : DataW.Trod enc Try.prog w base sp held 37 v d ps) : ∃ (A : Option Addr) (n cap : Nat) (l : List Int), v.cells.toList = [.slice A n cap] ∧ Rd w 1 A n (intsL l) ∧ n ≤ cap ∧ cap ≤ maxLen := by
  obtain ⟨fuel, hf⟩ := hd
  exact ints_of hf
end
end Go.Proofs.Ytnaooclbphaelaa
namespace Go.Proofs.Ytnaooclbphaelaa.editsDiffSpec
open Go Go.ChangeShapes Go.WideShapes Go.ChangeAt Go.RowKit
set_option maxRecDepth 100000 in
theorem lifted (os : Os) (started : os.Started) (H : Type) (enc : TypeId × Value → H) :
    ReturnsInHanded {} Try.checked os 4 .any (Rows.editsDiffSpecSpec.pre6 enc Try.prog Try.f4 Rows.editsDiffSpecRow.domain false) (Rows.editsDiffSpecSpec.post enc Try.prog Try.f4 false true false false) := by
  refine returnsInHanded_of_change (C := Try.checked) ownK started (by kernel_rfl) Try.func4
    (ChangeSpec.witness6 (enc := enc) (C := Try.checked) false ⟨#[], #[.slice none 0 0, .slice none 0 0, .int .i64 0, .slice none 0 0], []⟩ 8 (by kernel_rfl) (by kernel_rfl) (by kernel_rfl) (by kernel_rfl)) ?_
  intro W base args ds gs before hval0 hW hcnd _
  have hval : ∀ (j : Nat) t v, Try.f4.params[j]? = some t → args[j]? = some v → Value.okWide Try.prog W .any base t v := hval0
  have hW' := hW
  obtain ⟨p, q, hA0, hV, rfl, hfz, hnd⟩ := hW
  have hA : DataW.TrodAll enc Try.prog W 0 (fun _ => true) true Try.f4.params.toList args.toList ds p := hA0
  rw [Try.params4] at hA hval
  obtain ⟨v0, vs0, d0, ds0, p0, q0, hargs, rfl, rfl, h0, r0⟩ := trodAll_cons hA
  obtain ⟨v1, vs1, d1, ds1, p1, q1, rfl, rfl, rfl, h1, r1⟩ := trodAll_cons r0
  obtain ⟨v2, vs2, d2, ds2, p2, q2, rfl, rfl, rfl, h2, r2⟩ := trodAll_cons r1
  obtain ⟨v3, vs3, d3, ds3, p3, q3, rfl, rfl, rfl, h3, r3⟩ := trodAll_cons r2
  obtain ⟨rfl, rfl, rfl⟩ := trodAll_nil r3
  obtain rfl : args = #[v0, v1, v2, v3] := by cases args; simp_all
  obtain ⟨rfl, rfl⟩ := trodVars_none hV
  obtain ⟨A0, n0, c0, l0, e0, hr0, hc0, hm0⟩ := open_sgs h0
  obtain rfl := v_slice Try.underlying22 (hval 0 22 v0 rfl rfl) e0
  rw [max_eq] at hm0
  obtain ⟨A1, n1, c1, l1, e1, hr1, hc1, hm1⟩ := open_sgs h1
  obtain rfl := v_slice Try.underlying22 (hval 1 22 v1 rfl rfl) e1
  rw [max_eq] at hm1
  obtain ⟨a2, rfl, rfl, rfl, w2⟩ := open_int Try.underlying3 (hval 2 3 v2 rfl rfl) h2
  obtain ⟨A3, n3, c3, l3, e3, hr3, hc3, hm3⟩ := open_ints h3
  obtain rfl := v_slice Try.underlying37 (hval 3 37 v3 rfl rfl) e3
  rw [max_eq] at hm3
  clear hA0 hval0
  refine (lspecd_any l0 A0 n0 c0 l1 A1 n1 c1 a2 l3 A3 n3 c3 W hr0 (by omega) hc0 hr1 (by omega) hc1 hr3 (by omega) hc3  ).mono fun e W' ⟨he, hb⟩ => ?_
  subst he
  exact ⟨_, rfl, law_post laidOut (by kernel_rfl) rfl hW' hb rfl rfl Try.underlying4⟩
theorem over : Rows.editsDiffSpecRow.holds Try.pinned (OpenSpec.ofChange Rows.editsDiffSpecSpec) :=
  OpenClaim.holds_of_wide 4 Try.f4 rfl rfl rfl rfl rfl rfl rfl ⟨rfl, rfl, rfl, rfl, rfl⟩ rfl rfl rfl rfl rfl (by kernel_rfl) Try.func4 (by kernel_rfl)
    (of_decide_eq_true (by kernel_rfl)) (by unfold Func.isWrapper; first | (rw [if_pos (by decide +kernel)]; kernel_rfl) | (rw [if_neg (by decide +kernel)]; exact ⟨rfl, rfl⟩))
    (fun os started H enc _ => lifted os started H enc)
theorem proved : Rows.EditsDiffSpecSaid :=
  over
#print axioms proved
end Go.Proofs.Ytnaooclbphaelaa.editsDiffSpec
