/-
  law10's cards: Tagged.
-/
import Derived.Test.YtockbjpldlopiaaDoorHh
namespace Go.Proofs.YtockbjpldlopiaaDoor
set_option linter.unusedSimpArgs false
set_option linter.unusedVariables false
open Go Go.RowKit
theorem listN {n : Nat} (l : List W8) (h : l.length = n) : ∃ g : Nat → W8, l = (List.range n).map g := by
  refine ⟨fun j => l.getD j 0, ?_⟩
  apply List.ext_getElem
  · simp [h]
  · intro j h1 h2
    simp [List.getD_eq_getElem?_getD, h1]
def SumR (K : Value → Nat → List Value → Prop) (f : FuncId) (xs : List SX.Arg) (v : Value) : Prop := f = 18 ∧ LaidK K ∧ ∃ (u : Value) (l : List W8), xs = [⟨u, 1, l.flatMap c8⟩] ∧ l.length < 2 ^ 60 ∧ v = .agg ((sumE l).flatMap c8).toArray
theorem laid_of {K : Value → Nat → List Value → Prop} {W : World} (h : LaidK K) (hK : ∀ s sz cells, K s sz cells → SX.Arg.rd W ⟨s, sz, cells⟩) : Laid W := ⟨(hK _ _ _ h.1).1, (hK _ _ _ h.2).1⟩
theorem sumR_calls {K : Value → Nat → List Value → Prop} {f : FuncId} {xs : List SX.Arg} {v : Value} {W : World} (h : SumR K f xs v) (hrd : ∀ x ∈ xs, x.rd W) (hK : ∀ s sz cells, K s sz cells → SX.Arg.rd W ⟨s, sz, cells⟩) : Calls Tryd.prog f (xs.map SX.Arg.v).toArray W fun e w' => e = .returned v ∧ Below W.heap.size W w' := by
  obtain ⟨rfl, hL, u, l, rfl, h60, rfl⟩ := h
  obtain ⟨A, n, c, rfl, hr, hc, hn⟩ := byte_arg (hrd ⟨u, 1, l.flatMap c8⟩ (List.mem_singleton_self _))
  exact sum_any l h60 A n c W hr hc (laid_of hL hK)
/-- a string's bytes -/
def sb (s : ByteArray) : List W8 := s.data.toList.map UInt8.toBitVec
theorem sb_len (s : ByteArray) : (sb s).length = s.size := by
  unfold sb
  rw [List.length_map]
  rfl
theorem sb_cells (s : ByteArray) : (s.data.toList.map fun x => Value.int .u8 (x.toNat : Int)) = (sb s).flatMap c8 := by
  unfold sb
  generalize s.data.toList = l
  induction l with
  | nil => rfl
  | cons a l ih => simp only [List.map_cons, List.flatMap_cons, ← ih]; rfl
def tagE (t l : List W8) : List W8 := sumE (sumE t ++ l)
theorem tagE_len (t l : List W8) : (tagE t l).length = 32 := rfl
theorem s2b_rel {C : SX.Cx} {ρ : List Value} {α : Nat → SX.AV} {x : SX.V} {s : ByteArray} (hx : x.den ρ α = .string s) : SX.Opq.rel C ρ α .s2b [x] (.agg ((sb s).flatMap c8).toArray) := ⟨s, hx, by rw [sb_cells]⟩
theorem i_add' {a b d : Nat} (h : a + b = d) (ha : d < 2 ^ 62) : SX.binV .add (.int .i64 (a : Int)) (.int .i64 (b : Int)) = some (.int .i64 (d : Int)) := by
  simp only [SX.binV, binI, if_true]
  rw [wrap_i64 (by omega) (by omega)]
  congr 2
  omega
theorem i_sub' {a b d : Nat} (h : d + b = a) (ha : a < 2 ^ 62) : SX.binV .sub (.int .i64 (a : Int)) (.int .i64 (b : Int)) = some (.int .i64 (d : Int)) := by
  simp only [SX.binV, binI, if_true]
  rw [wrap_i64 (by omega) (by omega)]
  congr 2
  omega
theorem lss_nat (a b : Nat) : SX.binV .lss (.int .i64 (a : Int)) (.int .i64 (b : Int)) = some (.bool (decide (a < b))) := by
  have e : decide ((a : Int) < (b : Int)) = decide (a < b) := by simp only [decide_eq_decide]; omega
  rw [← e]; rfl
noncomputable def cxT (K A : Value → Nat → List Value → Prop) : SX.Cx := { P := Tryd.prog, R := SumR, shp := fun f => if f = 18 then some (.ag 32) else none, K := K, A := A, arr := true, trm := true, cut := [(6,0,true),(7,1,true)] }
theorem cxT_ok (K A : Value → Nat → List Value → Prop) : (cxT K A).Ok := SX.Cx.ok_of (fun _ => rfl) fun _ f xs v W h hrd hK => by
  have hf := h.1
  exact (sumR_calls h hrd hK).mono fun e w' h => SX.plainOk (by subst hf; rfl) h
def args_tagged : List SX.V := [.x 0 [], .x 1 []]
def tree_tagged : SX.Tree :=
(.df .s2b [(.x 0 [])] .any 
(.df (.call 18 [(.row 1 [(.x 2 [])])]) [(.row 1)] (.ag 32) 
(.df (.len false) [(.x 1 [])] .one 
(.df (.bin .add 3) [(.k (.int .i64 32)), (.x 4 [])] .one 
(.df (.bin .lss 3) [(.x 5 []), (.k (.int .i64 0))] .one 
(.br 6 [] (.bad 70 []) 
(.df (.bin .lss 3) [(.x 5 []), (.k (.int .i64 0))] .one 
(.br 7 [] (.bad 70 []) 
(.df (.bin .sub 3) [(.x 5 []), (.k (.int .i64 0))] .one 
(.df (.bin .gtr 3) [(.x 8 []), (.k (.int .i64 0))] .one 
(.br 9 [] 
(.df (.apz (.int .u8 0) 1 1) [(.x 8 [])] .any 
(.df (.app 1 1 (.own 1 [(.x 3 [0]), (.x 3 [1]), (.x 3 [2]), (.x 3 [3]), (.x 3 [4]), (.x 3 [5]), (.x 3 [6]), (.x 3 [7]), (.x 3 [8]), (.x 3 [9]), (.x 3 [10]), (.x 3 [11]), (.x 3 [12]), (.x 3 [13]), (.x 3 [14]), (.x 3 [15]), (.x 3 [16]), (.x 3 [17]), (.x 3 [18]), (.x 3 [19]), (.x 3 [20]), (.x 3 [21]), (.x 3 [22]), (.x 3 [23]), (.x 3 [24]), (.x 3 [25]), (.x 3 [26]), (.x 3 [27]), (.x 3 [28]), (.x 3 [29]), (.x 3 [30]), (.x 3 [31])])) [(.cat []), (.sl 2 0 32 32)] .any 
(.df (.app 1 1 (.ext 1)) [(.cat [(.x 11 [])]), (.x 1 [])] .any 
(.df (.call 18 [(.row 1 [(.x 11 []), (.x 12 [])])]) [(.row 7)] (.ag 32) 
(.ret (.a [(.x 13 [0]), (.x 13 [1]), (.x 13 [2]), (.x 13 [3]), (.x 13 [4]), (.x 13 [5]), (.x 13 [6]), (.x 13 [7]), (.x 13 [8]), (.x 13 [9]), (.x 13 [10]), (.x 13 [11]), (.x 13 [12]), (.x 13 [13]), (.x 13 [14]), (.x 13 [15]), (.x 13 [16]), (.x 13 [17]), (.x 13 [18]), (.x 13 [19]), (.x 13 [20]), (.x 13 [21]), (.x 13 [22]), (.x 13 [23]), (.x 13 [24]), (.x 13 [25]), (.x 13 [26]), (.x 13 [27]), (.x 13 [28]), (.x 13 [29]), (.x 13 [30]), (.x 13 [31])]) [] []))))) 
(.df (.app 1 1 (.own 1 [(.x 3 [0]), (.x 3 [1]), (.x 3 [2]), (.x 3 [3]), (.x 3 [4]), (.x 3 [5]), (.x 3 [6]), (.x 3 [7]), (.x 3 [8]), (.x 3 [9]), (.x 3 [10]), (.x 3 [11]), (.x 3 [12]), (.x 3 [13]), (.x 3 [14]), (.x 3 [15]), (.x 3 [16]), (.x 3 [17]), (.x 3 [18]), (.x 3 [19]), (.x 3 [20]), (.x 3 [21]), (.x 3 [22]), (.x 3 [23]), (.x 3 [24]), (.x 3 [25]), (.x 3 [26]), (.x 3 [27]), (.x 3 [28]), (.x 3 [29]), (.x 3 [30]), (.x 3 [31])])) [(.cat []), (.sl 2 0 32 32)] .any 
(.df (.app 1 1 (.ext 1)) [(.cat [(.x 10 [])]), (.x 1 [])] .any 
(.df (.call 18 [(.row 1 [(.x 10 []), (.x 11 [])])]) [(.row 5)] (.ag 32) 
(.ret (.a [(.x 12 [0]), (.x 12 [1]), (.x 12 [2]), (.x 12 [3]), (.x 12 [4]), (.x 12 [5]), (.x 12 [6]), (.x 12 [7]), (.x 12 [8]), (.x 12 [9]), (.x 12 [10]), (.x 12 [11]), (.x 12 [12]), (.x 12 [13]), (.x 12 [14]), (.x 12 [15]), (.x 12 [16]), (.x 12 [17]), (.x 12 [18]), (.x 12 [19]), (.x 12 [20]), (.x 12 [21]), (.x 12 [22]), (.x 12 [23]), (.x 12 [24]), (.x 12 [25]), (.x 12 [26]), (.x 12 [27]), (.x 12 [28]), (.x 12 [29]), (.x 12 [30]), (.x 12 [31])]) [] [])))))))))))))))
set_option maxRecDepth 100000 in
theorem run_tagged (K A : Value → Nat → List Value → Prop) : (SX.run (cxT K A) ⟨fun _ => true, [], 0, 100⟩ 100000 0 (SX.door 12 Tryd.f12 args_tagged [.one, .one]) [.code (Tryd.f12.body.getD .skip), .top Tryd.f12]).strip = tree_tagged := by kernel_rfl
set_option maxRecDepth 100000 in
set_option maxHeartbeats 4000000 in
theorem tagged_any (s : ByteArray) (l : List W8) (hs : s.size < 2 ^ 60) (hl : l.length < 2 ^ 44) (A : Option Addr) (n c : Nat) (w : World) (hr : Rd w 1 A n (l.flatMap c8)) (hc : n ≤ c) (hlaid : Laid w) : Calls Tryd.prog 12 #[.string s, .slice A n c] w fun e w' => e = .returned (.agg ((tagE (sb s) l).flatMap c8).toArray) ∧ Below w.heap.size w w' := by
  have hln : l.length = n := by have := hr.1; rw [SX.flat_len c8_len] at this; omega
  refine SX.calls_of_run (C := cxT (KS A n c l) (KS A n c l)) (G := ⟨fun _ => true, [], 0, 100⟩) (args := args_tagged) (sh := [.one, .one]) (ρ := [.string s, .slice A n c]) 100000 tree_tagged (cxT_ok _ _) Tryd.func12 rfl (cast (by kernel_rfl) (run_tagged (KS A n c l) (KS A n c l))) (by kernel_rfl) (by kernel_rfl) (by kernel_rfl) ?_ ?_
  · rintro W hW v z xs (⟨rfl, rfl, rfl⟩ | ⟨rfl, rfl, rfl⟩ | ⟨rfl, rfl, rfl⟩)
    · exact ⟨hr.same0 hW, hc⟩
    · exact ⟨hlaid.1.same0 hW, Nat.le_refl _⟩
    · exact ⟨hlaid.2.same0 hW, Nat.le_refl _⟩
  have hL : LaidK (KS A n c l) := ⟨.inr (.inl ⟨rfl, rfl, rfl⟩), .inr (.inr ⟨rfl, rfl, rfl⟩)⟩
  have hin : (KS A n c l) (.slice A n c) 1 (l.flatMap c8) := .inl ⟨rfl, rfl, rfl⟩
  have one : ∀ a, ∀ u ∈ c8 a, u.oneCell' = true := fun a u hu => by obtain rfl : u = w8 a := by simpa [c8] using hu
                                                                    rfl
  unfold tree_tagged
  refine SX.VC_df (.agg ((sb s).flatMap c8).toArray) (fun α => s2b_rel (by kernel_rfl)) (by kernel_rfl) ?_
  obtain ⟨g, hg⟩ := listN (n := 32) (sumE (sb s)) rfl
  refine SX.VC_df (.agg (((List.range 32).map g).flatMap c8).toArray) (fun α => by rw [← hg]; exact ⟨[⟨(α 1).h, 1, (sb s).flatMap c8⟩], ⟨Eq.trans (b := ⟨(α 1).h, 1, (sb s).flatMap c8 ++ []⟩) (by rw [List.append_nil]) (by kernel_rfl), trivial⟩, ⟨rfl, hL, _, _, rfl, by rw [sb_len]; omega, rfl⟩, SX.noAli rfl⟩) (by kernel_rfl) ?_
  refine SX.VC_df (.int .i64 (n : Int)) (by intro α; show _ = _; kernel_rfl) (by kernel_rfl) ?_
  refine SX.VC_df (.int .i64 ((32 + n : Nat) : Int)) (fun α => cast (by kernel_rfl) (i_add' (a := 32) (b := n) (d := 32 + n) rfl (by omega))) (by kernel_rfl) ?_
  refine SX.VC_df (.bool false) (fun α => cast (by kernel_rfl) (show SX.binV .lss (.int .i64 ((32 + n : Nat) : Int)) (.int .i64 ((0 : Nat) : Int)) = some (.bool false) from by rw [lss_nat, decide_eq_false (by omega)])) (by kernel_rfl) ?_
  refine SX.VC_br false (by kernel_rfl) (fun h => absurd h (by simp)) (fun _ => ?_)
  refine SX.VC_df (.bool false) (fun α => cast (by kernel_rfl) (show SX.binV .lss (.int .i64 ((32 + n : Nat) : Int)) (.int .i64 ((0 : Nat) : Int)) = some (.bool false) from by rw [lss_nat, decide_eq_false (by omega)])) (by kernel_rfl) ?_
  refine SX.VC_br false (by kernel_rfl) (fun h => absurd h (by simp)) (fun _ => ?_)
  refine SX.VC_df (.int .i64 ((32 + n : Nat) : Int)) (fun α => cast (by kernel_rfl) (i_sub' (a := 32 + n) (b := 0) (d := 32 + n) rfl (by omega))) (by kernel_rfl) ?_
  refine SX.VC_df (.bool true) (fun α => cast (by kernel_rfl) (show SX.binV .gtr (.int .i64 ((32 + n : Nat) : Int)) (.int .i64 ((0 : Nat) : Int)) = some (.bool true) from by rw [gtr_nat, decide_eq_true (by omega)])) (by kernel_rfl) ?_
  refine SX.VC_br true (by kernel_rfl) (fun _ => ?_) (fun h => absurd h (by simp))
  refine SX.VC_df (.agg (madeCells (Value.int .u8 0).cells (((32 + n : Nat) : Int).toNat * 1))) (fun α => ⟨.i64, ((32 + n : Nat) : Int), by kernel_rfl, by omega, by omega, by omega, rfl⟩) (by kernel_rfl) ?_
  refine SX.VC_df (.agg (((List.range 32).map g).flatMap c8).toArray) (fun α => SX.app_rel c8_len one (by omega) (l1 := []) (l2 := ((List.range 32).map g)) (by kernel_rfl) (SX.src_own (by kernel_rfl)) (by simp) (by simp)) (by kernel_rfl) ?_
  refine SX.VC_df (.agg (l.flatMap c8).toArray) (fun α => SX.app_rel c8_len one (by omega) (l1 := ((List.range 32).map g)) (l2 := l) (SX.cat1 (by kernel_rfl)) (SX.src_ext (cast (by kernel_rfl) hin)) (by simp; omega) (by simp; omega)) (by kernel_rfl) ?_
  obtain ⟨g2, hg2⟩ := listN (n := 32) (tagE (sb s) l) rfl
  refine SX.VC_df (.agg (((List.range 32).map g2).flatMap c8).toArray) (fun α => by rw [← hg2]; exact ⟨[⟨(α 7).h, 1, (sumE (sb s) ++ l).flatMap c8⟩], ⟨Eq.trans (b := ⟨(α 7).h, 1, ((List.range 32).map g).flatMap c8 ++ (l.flatMap c8 ++ [])⟩) (by rw [hg, List.append_nil, List.flatMap_append]) (by kernel_rfl), trivial⟩, ⟨rfl, hL, _, _, rfl, by simp only [List.length_append, sumE_len]; omega, rfl⟩, SX.noAli rfl⟩) (by kernel_rfl) ?_
  exact SX.VC_ret fun α W _ _ hS => SX.ret_of (x := .agg (((List.range 32).map g2).flatMap c8).toArray) hS (by kernel_rfl) (by rw [hg2])
end Go.Proofs.YtockbjpldlopiaaDoor
