/-
  law10's cards: turning, words.
-/
import Derived.Test.YtockbjpldlopiaaDoorHa
namespace Go.Proofs.YtockbjpldlopiaaDoor
set_option linter.unusedSimpArgs false
set_option linter.unusedVariables false
open Go Go.RowKit
noncomputable def cx0 (K A : Value → Nat → List Value → Prop) : SX.Cx := { P := Tryd.prog, R := fun _ _ _ _ => False, shp := fun _ => none, K := K, A := A }
theorem cx0_ok (K A : Value → Nat → List Value → Prop) : (cx0 K A).Ok := SX.Cx.ok_of (fun _ => rfl) fun _ f xs v W h => h.elim
def tree_rotl : SX.Tree :=
(.df (.conv .u64) [(.x 1 [])] .one 
(.df (.bin .and 35) [(.x 2 []), (.k (.int .u64 31))] .one 
(.df (.bin .shl 43) [(.x 0 []), (.x 3 [])] .one 
(.df (.bin .sub 35) [(.k (.int .u64 32)), (.x 3 [])] .one 
(.df (.bin .shr 43) [(.x 0 []), (.x 5 [])] .one 
(.df (.bin .or 43) [(.x 4 []), (.x 6 [])] .one 
(.ret (.x 7 []) [] [])))))))
def args_rotl : List SX.V := [.x 0 [], .x 1 []]
set_option maxRecDepth 100000 in
theorem run_rotl (K A : Value → Nat → List Value → Prop) : (SX.run (cx0 K A) ⟨fun _ => false, [], 0, 100⟩ 100000 0 (SX.door 31 Tryd.f31 args_rotl [.one, .one]) [.code (Tryd.f31.body.getD .skip), .top Tryd.f31]).strip = tree_rotl := by kernel_rfl
/-- the turns that are asked for -/
def turnOf (k : Int) : Nat := (k % 32).toNat
def turns : List Int := [-2, -6, -7, -11, -13, -17, -18, -19, -22, -25]
set_option maxRecDepth 100000 in
theorem rotl_any (x : W32) (k : Int) (hk : k ∈ turns) (w : World) : Calls Tryd.prog 31 #[w32 x, .int .i64 k] w fun e w' => e = .returned (w32 (rotL x (turnOf k))) ∧ Below w.heap.size w w' := by
  have hc : SX.convV .u64 (.int .i64 k) = some (.int .u64 (IntKind.u64.wrap k)) := rfl
  have ha : SX.binV .and (.int .u64 (IntKind.u64.wrap k)) (.int .u64 31) = some (.int .u64 (turnOf k : Nat)) := by
    simp only [turns, List.mem_cons, List.not_mem_nil, or_false] at hk
    rcases hk with rfl | rfl | rfl | rfl | rfl | rfl | rfl | rfl | rfl | rfl <;> kernel_rfl
  have hb : 0 < turnOf k ∧ turnOf k < 32 := by
    simp only [turns, List.mem_cons, List.not_mem_nil, or_false] at hk
    rcases hk with rfl | rfl | rfl | rfl | rfl | rfl | rfl | rfl | rfl | rfl <;> decide
  have hs : SX.binV .sub (.int .u64 32) (.int .u64 (turnOf k : Nat)) = some (.int .u64 ((32 - turnOf k : Nat) : Int)) := by
    simp only [SX.binV, binI, if_true]
    rw [wrap_u64 (by omega) (by omega)]
    congr 2
    omega
  refine SX.calls_of_run (C := cx0 (fun _ _ _ => False) (fun _ _ _ => False)) (G := ⟨fun _ => false, [], 0, 100⟩) (args := args_rotl) (sh := [.one, .one]) (ρ := [w32 x, .int .i64 k]) 100000 tree_rotl (cx0_ok _ _) Tryd.func31 rfl (run_rotl _ _) (by kernel_rfl) (by kernel_rfl) (by kernel_rfl) (fun W _ => SX.Kf_none (fun _ _ _ h => h) W) ?_
  unfold tree_rotl
  refine SX.VC_df (.int .u64 (IntKind.u64.wrap k)) (fun α => cast (by kernel_rfl) hc) (by kernel_rfl) ?_
  refine SX.VC_df (.int .u64 (turnOf k : Nat)) (fun α => cast (by kernel_rfl) ha) (by kernel_rfl) ?_
  refine SX.VC_df (w32 (x <<< turnOf k)) (fun α => cast (by kernel_rfl) (w_shl x .u64 (turnOf k) hb.2)) (by kernel_rfl) ?_
  refine SX.VC_df (.int .u64 ((32 - turnOf k : Nat) : Int)) (fun α => cast (by kernel_rfl) hs) (by kernel_rfl) ?_
  refine SX.VC_df (w32 (x >>> (32 - turnOf k))) (fun α => cast (by kernel_rfl) (w_shr x .u64 (32 - turnOf k) (by omega))) (by kernel_rfl) ?_
  refine SX.VC_df (w32 (rotL x (turnOf k))) (fun α => cast (by kernel_rfl) (w_or (x <<< turnOf k) (x >>> (32 - turnOf k)))) (by kernel_rfl) ?_
  exact SX.VC_ret fun α W _ _ hS => SX.ret_of hS (x := w32 (rotL x (turnOf k))) (by kernel_rfl) rfl
/-- what is known: turning -/
def RotR (f : FuncId) (xs : List SX.Arg) (v : Value) : Prop := f = 31 ∧ ∃ (x : W32) (k : Int), k ∈ turns ∧ xs = [⟨w32 x, 0, []⟩, ⟨.int .i64 k, 0, []⟩] ∧ v = w32 (rotL x (turnOf k))
noncomputable def cxR (K A : Value → Nat → List Value → Prop) : SX.Cx := { P := Tryd.prog, R := fun _ => RotR, shp := fun f => if f = 31 then some .one else none, K := K, A := A }
theorem cxR_ok (K A : Value → Nat → List Value → Prop) : (cxR K A).Ok := SX.Cx.ok_of (fun _ => rfl) fun _ f xs v W h hrd hK => by
  obtain ⟨rfl, x, k, hk, rfl, rfl⟩ := h
  exact (rotl_any x k hk W).mono fun e w' h => SX.plainOk rfl h
def tree_rotated : SX.Tree :=
(.df .neg [(.x 1 [])] .one 
(.df (.call 31 [.no, .no]) [(.x 0 []), (.x 4 [])] .one 
(.df .neg [(.x 2 [])] .one 
(.df (.call 31 [.no, .no]) [(.x 0 []), (.x 6 [])] .one 
(.df (.bin .xor 43) [(.x 5 []), (.x 7 [])] .one 
(.df .neg [(.x 3 [])] .one 
(.df (.call 31 [.no, .no]) [(.x 0 []), (.x 9 [])] .one 
(.df (.bin .xor 43) [(.x 8 []), (.x 10 [])] .one 
(.ret (.x 11 []) [] [])))))))))
def args_rotated : List SX.V := [.x 0 [], .x 1 [], .x 2 [], .x 3 []]
set_option maxRecDepth 100000 in
theorem run_rotated (K A : Value → Nat → List Value → Prop) : (SX.run (cxR K A) ⟨fun _ => false, [], 0, 100⟩ 100000 0 (SX.door 32 Tryd.f32 args_rotated [.one, .one, .one, .one]) [.code (Tryd.f32.body.getD .skip), .top Tryd.f32]).strip = tree_rotated := by kernel_rfl
set_option maxRecDepth 100000 in
theorem rotated_any (x : W32) (a b c : Int) (ha : -a ∈ turns) (hb : -b ∈ turns) (hc : -c ∈ turns) (w : World) : Calls Tryd.prog 32 #[w32 x, .int .i64 a, .int .i64 b, .int .i64 c] w fun e w' => e = .returned (w32 (rotL x (turnOf (-a)) ^^^ rotL x (turnOf (-b)) ^^^ rotL x (turnOf (-c)))) ∧ Below w.heap.size w w' := by
  have hn : ∀ a : Int, -a ∈ turns → SX.negV (.int .i64 a) = some (.int .i64 (-a)) := fun a h => by
    simp only [SX.negV]
    rw [wrap_i64]
    · revert h; generalize -a = b; intro h; simp only [turns, List.mem_cons, List.not_mem_nil, or_false] at h; omega
    · revert h; generalize -a = b; intro h; simp only [turns, List.mem_cons, List.not_mem_nil, or_false] at h; omega
  refine SX.calls_of_run (C := cxR (fun _ _ _ => False) (fun _ _ _ => False)) (G := ⟨fun _ => false, [], 0, 100⟩) (args := args_rotated) (sh := [.one, .one, .one, .one]) (ρ := [w32 x, .int .i64 a, .int .i64 b, .int .i64 c]) 100000 tree_rotated (cxR_ok _ _) Tryd.func32 rfl (run_rotated _ _) (by kernel_rfl) (by kernel_rfl) (by kernel_rfl) (fun W _ => SX.Kf_none (fun _ _ _ h => h) W) ?_
  unfold tree_rotated
  refine SX.VC_df (.int .i64 (-a)) (fun α => cast (by kernel_rfl) (hn a ha)) (by kernel_rfl) ?_
  refine SX.VC_df (w32 (rotL x (turnOf (-a)))) (fun α => ⟨[⟨w32 x, 0, []⟩, ⟨.int .i64 (-a), 0, []⟩], ⟨by kernel_rfl, by kernel_rfl, by kernel_rfl, by kernel_rfl, trivial⟩, ⟨rfl, x, -a, ha, rfl, rfl⟩, SX.noAli rfl⟩) (by kernel_rfl) ?_
  refine SX.VC_df (.int .i64 (-b)) (fun α => cast (by kernel_rfl) (hn b hb)) (by kernel_rfl) ?_
  refine SX.VC_df (w32 (rotL x (turnOf (-b)))) (fun α => ⟨[⟨w32 x, 0, []⟩, ⟨.int .i64 (-b), 0, []⟩], ⟨by kernel_rfl, by kernel_rfl, by kernel_rfl, by kernel_rfl, trivial⟩, ⟨rfl, x, -b, hb, rfl, rfl⟩, SX.noAli rfl⟩) (by kernel_rfl) ?_
  refine SX.VC_df (w32 (rotL x (turnOf (-a)) ^^^ rotL x (turnOf (-b)))) (fun α => cast (by kernel_rfl) (w_xor (rotL x (turnOf (-a))) (rotL x (turnOf (-b))))) (by kernel_rfl) ?_
  refine SX.VC_df (.int .i64 (-c)) (fun α => cast (by kernel_rfl) (hn c hc)) (by kernel_rfl) ?_
  refine SX.VC_df (w32 (rotL x (turnOf (-c)))) (fun α => ⟨[⟨w32 x, 0, []⟩, ⟨.int .i64 (-c), 0, []⟩], ⟨by kernel_rfl, by kernel_rfl, by kernel_rfl, by kernel_rfl, trivial⟩, ⟨rfl, x, -c, hc, rfl, rfl⟩, SX.noAli rfl⟩) (by kernel_rfl) ?_
  refine SX.VC_df (w32 (rotL x (turnOf (-a)) ^^^ rotL x (turnOf (-b)) ^^^ rotL x (turnOf (-c)))) (fun α => cast (by kernel_rfl) (w_xor (rotL x (turnOf (-a)) ^^^ rotL x (turnOf (-b))) (rotL x (turnOf (-c))))) (by kernel_rfl) ?_
  exact SX.VC_ret fun α W _ _ hS => SX.ret_of hS (x := w32 (rotL x (turnOf (-a)) ^^^ rotL x (turnOf (-b)) ^^^ rotL x (turnOf (-c)))) (by kernel_rfl) rfl
end Go.Proofs.YtockbjpldlopiaaDoor
