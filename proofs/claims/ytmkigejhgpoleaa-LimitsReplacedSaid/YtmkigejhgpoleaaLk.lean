/-
  The sanity examples of the laws on limits.
-/
import Derived.Test.YtmkigejhgpoleaaLj
import Derived.Test.YtmkigejhgpoleaaLi
import Derived.Test.YtmkigejhgpoleaaLp
namespace Go.Proofs.Ytmkigejhgpoleaa
set_option linter.unusedSimpArgs false
set_option linter.unusedVariables false
open Go Go.RowKit
def fitI (k : Int) : Prop := -9223372036854775808 ≤ k ∧ k ≤ 9223372036854775807
instance (k : Int) : Decidable (fitI k) := by unfold fitI; infer_instance
theorem okL_fin {l : List Lim} : okL l ↔ ∀ i : Fin l.length, okAt l i.1 l[i.1] := by
  constructor
  · intro h i
    exact h i.1 _ (List.getElem?_eq_getElem i.2)
  · intro h i z hz
    obtain ⟨hi, rfl⟩ := List.getElem?_eq_some_iff.1 hz
    exact h ⟨i, hi⟩
instance (l : List Lim) (i : Nat) (z : Lim) : Decidable (okAt l i z) := by unfold okAt; infer_instance
theorem chk_ok {l : List Lim} (h1 : ¬ 512 < l.length) (h : ∀ i : Fin l.length, okAt l i.1 l[i.1]) : chkL l = 0 := by rw [chkL, if_neg h1, if_pos (okL_fin.2 h)]
theorem chk_no {l : List Lim} (h1 : ¬ 512 < l.length) (h : ¬ ∀ i : Fin l.length, okAt l i.1 l[i.1]) : chkL l = 340 := by rw [chkL, if_neg h1, if_neg (fun hk => h (okL_fin.1 hk))]
def weekL : Lim := ⟨3, 5, 0, 10, 16, 100, 3, 0, 2⟩
def goneL : Lim := ⟨4, 5, 4, 0, 0, 200, 0, 0, 0⟩
def danceB : Bod.Bd := ⟨⟨#[100]⟩, 60, 40, 1, 3, 2, 4, 3, 2, 100, 100, 100, 2, 3, 3, 500, 100⟩
def lowB : Bod.Bd := ⟨⟨#[100]⟩, 60, 40, 1, 2, 2, 4, 3, 2, 100, 100, 100, 2, 3, 3, 500, 100⟩
theorem kchk0 : chkL [] = 0 := chk_ok (by decide) (by decide)
theorem kchk1 : chkL [weekL] = 0 := chk_ok (by decide) (by decide)
theorem kchk2 : chkL [weekL, goneL] = 0 := chk_ok (by decide) (by decide)
theorem kchk3 : chkL [goneL] = 340 := chk_no (by decide) (by decide)
theorem kchk4 : chkL [zeroLm] = 340 := chk_no (by decide) (by decide)
theorem kadd1 : addR [] weekL = ([weekL], 0) := by rw [addR, if_neg (by rw [kchk0]; decide), if_neg (by decide), show addL [] weekL = [weekL] from rfl, kchk1, if_neg (by decide)]
theorem kadd2 : addR [weekL] goneL = ([weekL, goneL], 0) := by rw [addR, if_neg (by rw [kchk1]; decide), if_neg (by decide), show addL [weekL] goneL = [weekL, goneL] from rfl, kchk2, if_neg (by decide)]
theorem kadd3 : addR [] goneL = ([], 340) := by rw [addR, if_neg (by rw [kchk0]; decide), if_neg (by decide), show addL [] goneL = [goneL] from rfl, kchk3, if_pos (by decide)]
theorem kadd4 : addR [weekL] weekL = ([], 171) := by rw [addR, if_neg (by rw [kchk1]; decide), if_pos (by decide)]
theorem kst1 : standR [weekL, goneL] 5 12 199 = ([weekL], 0) := by rw [standR, if_neg (by rw [kchk2]; decide), if_neg (by decide)]; rfl
theorem kst2 : standR [weekL, goneL] 5 12 200 = ([], 0) := by rw [standR, if_neg (by rw [kchk2]; decide), if_neg (by decide)]; rfl
theorem kst3 : standR [weekL, goneL] 5 17 150 = ([], 0) := by rw [standR, if_neg (by rw [kchk2]; decide), if_neg (by decide)]; rfl
theorem kst4 : standR [] 64 0 0 = ([], 1) := by rw [standR, if_neg (by rw [kchk0]; decide), if_pos (by decide)]
theorem kst5 : standR [weekL, goneL] 5 16 100 = ([weekL], 0) := by rw [standR, if_neg (by rw [kchk2]; decide), if_neg (by decide)]; rfl
theorem kst6 : standR [] 0 0 0 = ([], 0) := by rw [standR, if_neg (by rw [kchk0]; decide), if_neg (by decide)]; rfl
theorem kdance : danceB.chk = 0 := by kernel_rfl
theorem kin1 : inForceR danceB [weekL, goneL] 5 16 100 = (lowB, 0) := by rw [inForceR, kst5, if_neg (by rw [kdance]; decide), if_neg (by decide)]; kernel_rfl
theorem kin2 : inForceR danceB [] 0 0 0 = (danceB, 0) := by rw [inForceR, kst6, if_neg (by rw [kdance]; decide), if_neg (by decide)]; kernel_rfl
noncomputable instance : DecidableEq Bod.Bd := fun a b => Classical.propDecidable (a = b)
theorem cellsBd_inj (a b : Bod.Bd) (h : cellsBd a = cellsBd b) : a = b := by
  cases a; cases b
  simpa [cellsBd] using h
theorem bd_fit (b : Bod.Bd) (k : Int) : SX.Sh.fit (.tp [.ag 17, .one]) (.tuple #[valBd b, .int .i64 k]) = true := rfl
/-- what is known for the examples -/
def RLS (f : FuncId) (xs : List SX.Arg) (v : Value) : Prop :=
  (f = 14 ∧ ∃ (u : Value) (ls : List Lim), xs = [⟨u, 9, lmL ls⟩] ∧ ls.length ≤ 9223372036854775807 ∧ fitLm ls ∧ v = .int .i64 (chkL ls)) ∨
  (f = 16 ∧ ∃ (u u2 : Value) (ls ms : List Lim), xs = [⟨u, 9, lmL ls⟩, ⟨u2, 9, lmL ms⟩] ∧ ls.length ≤ 9223372036854775807 ∧ ms.length ≤ 9223372036854775807 ∧ v = .bool (decide (ls = ms))) ∨
  (f = 12 ∧ ∃ (u : Value) (ls : List Lim) (x : Lim), xs = [⟨u, 9, lmL ls⟩, ⟨valLm x, 0, []⟩] ∧ ls.length ≤ 9223372036854775807 ∧ fitLm ls ∧ fitI x.of_ ∧ v = .tuple #[.agg (lmL (addR ls x).1).toArray, .int .i64 (addR ls x).2]) ∨
  (f = 17 ∧ ∃ (u : Value) (ls : List Lim) (p d t : Int), xs = [⟨u, 9, lmL ls⟩, ⟨.int .i64 p, 0, []⟩, ⟨.int .i64 d, 0, []⟩, ⟨.int .i64 t, 0, []⟩] ∧ ls.length ≤ 9223372036854775807 ∧ fitLm ls ∧ v = .tuple #[.agg (lmL (standR ls p d t).1).toArray, .int .i64 (standR ls p d t).2]) ∨
  (f = 19 ∧ ∃ (b : Bod.Bd) (u : Value) (ls : List Lim) (p d t : Int), xs = [⟨valBd b, 0, []⟩, ⟨u, 9, lmL ls⟩, ⟨.int .i64 p, 0, []⟩, ⟨.int .i64 d, 0, []⟩, ⟨.int .i64 t, 0, []⟩] ∧ b.name.size ≤ maxLen ∧ ls.length ≤ 9223372036854775807 ∧ fitLm ls ∧ v = .tuple #[valBd (inForceR b ls p d t).1, .int .i64 (inForceR b ls p d t).2])
def shpLS : FuncId → Option SX.Sh := fun f => if f = 14 then some .one else if f = 16 then some .one else if f = 12 then some (.tp [.sl 9, .one]) else if f = 17 then some (.tp [.sl 9, .one]) else if f = 19 then some (.tp [.ag 17, .one]) else none
noncomputable def cxLS (K A : Value → Nat → List Value → Prop) : SX.Cx := { P := Try.prog, R := fun _ => RLS, shp := shpLS, K := K, A := A, trm := true }
theorem okLS (K A : Value → Nat → List Value → Prop) : (cxLS K A).Ok := by
  refine SX.Cx.ok_of (fun _ => rfl) ?_
  intro K f xs v W hR hrd hKf
  rcases hR with ⟨rfl, u, ls, rfl, hl, hf, rfl⟩ | ⟨rfl, u, u2, ls, ms, rfl, hl, hl2, rfl⟩ | ⟨rfl, u, ls, x, rfl, hl, hf, hx, rfl⟩ | ⟨rfl, u, ls, p, d, t, rfl, hl, hf, rfl⟩ | ⟨rfl, b, u, ls, p, d, t, rfl, hs, hl, hf, rfl⟩
  · obtain ⟨A, n, c, rfl, h2, h3, h4⟩ := lms_arg (hrd ⟨u, 9, lmL ls⟩ (by simp))
    exact (lCheck_any ls A n c W h2 (by omega) h3 hf).mono fun e w' h => SX.plainOk rfl h
  · obtain ⟨A, n, c, rfl, h2, h3, h4⟩ := lms_arg (hrd ⟨u, 9, lmL ls⟩ (by simp))
    obtain ⟨A', n', c', rfl, h2', h3', h4'⟩ := lms_arg (hrd ⟨u2, 9, lmL ms⟩ (by simp))
    exact (same_any ls ms A A' n c n' c' W h2 (by omega) h3 h2' (by omega) h3').mono fun e w' h => SX.plainOk rfl h
  · refine Calls.mono ?_ fun e w' h => SX.SlRet.ok0 rfl h
    obtain ⟨A, n, c, rfl, h2, h3, h4⟩ := lms_arg (hrd ⟨u, 9, lmL ls⟩ (by simp))
    exact lAdd_any ls A n c x W h2 (by omega) h3 hf hx
  · refine Calls.mono ?_ fun e w' h => SX.SlRet.ok0 rfl h
    obtain ⟨A, n, c, rfl, h2, h3, h4⟩ := lms_arg (hrd ⟨u, 9, lmL ls⟩ (by simp))
    exact lStand_any ls A n c p d t W h2 (by omega) h3 hf
  · obtain ⟨A, n, c, rfl, h2, h3, h4⟩ := lms_arg (hrd ⟨u, 9, lmL ls⟩ (by simp))
    exact (inForce_any b ls A n c p d t W hs h2 (by omega) h3 hf).mono fun e w' h => SX.plainOk rfl h
theorem fit_w : fitLm [weekL] := fun z hz => by
  obtain rfl := List.mem_singleton.1 hz
  exact ⟨by decide, by decide⟩
theorem fit_z : fitLm [zeroLm] := fun z hz => by
  obtain rfl := List.mem_singleton.1 hz
  exact ⟨by decide, by decide⟩
theorem fit_wg : fitLm [weekL, goneL] := fun z hz => by
  rcases List.mem_cons.1 hz with rfl | hz
  · exact ⟨by decide, by decide⟩
  · obtain rfl := List.mem_singleton.1 hz
    exact ⟨by decide, by decide⟩
def tree_lSane : SX.Tree :=
(.df (.call 12 [(.own 9 []), .no]) [(.k (.slice none 0 0)), (.a [(.k (.int .i64 3)), (.k (.int .i64 5)), (.k (.int .i64 0)), (.k (.int .i64 10)), (.k (.int .i64 16)), (.k (.int .i64 100)), (.k (.int .i64 3)), (.k (.int .i64 0)), (.k (.int .i64 2))])] (.tp [(.sl 9), .one]) 
(.df (.call 12 [(.row 9 [(.x 0 [0])]), .no]) [(.row 2), (.a [(.k (.int .i64 4)), (.k (.int .i64 5)), (.k (.int .i64 4)), (.k (.int .i64 0)), (.k (.int .i64 0)), (.k (.int .i64 200)), (.k (.int .i64 0)), (.k (.int .i64 0)), (.k (.int .i64 0))])] (.tp [(.sl 9), .one]) 
(.df (.call 12 [(.own 9 []), .no]) [(.k (.slice none 0 0)), (.a [(.k (.int .i64 4)), (.k (.int .i64 5)), (.k (.int .i64 4)), (.k (.int .i64 0)), (.k (.int .i64 0)), (.k (.int .i64 200)), (.k (.int .i64 0)), (.k (.int .i64 0)), (.k (.int .i64 0))])] (.tp [(.sl 9), .one]) 
(.df (.call 12 [(.row 9 [(.x 0 [0])]), .no]) [(.row 2), (.a [(.k (.int .i64 3)), (.k (.int .i64 5)), (.k (.int .i64 0)), (.k (.int .i64 10)), (.k (.int .i64 16)), (.k (.int .i64 100)), (.k (.int .i64 3)), (.k (.int .i64 0)), (.k (.int .i64 2))])] (.tp [(.sl 9), .one]) 
(.df (.call 17 [(.row 9 [(.x 1 [0])]), .no, .no, .no]) [(.row 3), (.k (.int .i64 5)), (.k (.int .i64 12)), (.k (.int .i64 199))] (.tp [(.sl 9), .one]) 
(.df (.call 17 [(.row 9 [(.x 1 [0])]), .no, .no, .no]) [(.row 3), (.k (.int .i64 5)), (.k (.int .i64 12)), (.k (.int .i64 200))] (.tp [(.sl 9), .one]) 
(.df (.call 17 [(.row 9 [(.x 1 [0])]), .no, .no, .no]) [(.row 3), (.k (.int .i64 5)), (.k (.int .i64 17)), (.k (.int .i64 150))] (.tp [(.sl 9), .one]) 
(.df (.call 17 [(.own 9 []), .no, .no, .no]) [(.k (.slice none 0 0)), (.k (.int .i64 64)), (.k (.int .i64 0)), (.k (.int .i64 0))] (.tp [(.sl 9), .one]) 
(.df (.call 19 [.no, (.row 9 [(.x 1 [0])]), .no, .no, .no]) [(.a [(.k (.string ⟨#[100]⟩)), (.k (.int .i64 60)), (.k (.int .i64 40)), (.k (.int .i64 1)), (.k (.int .i64 3)), (.k (.int .i64 2)), (.k (.int .i64 4)), (.k (.int .i64 3)), (.k (.int .i64 2)), (.k (.int .i64 100)), (.k (.int .i64 100)), (.k (.int .i64 100)), (.k (.int .i64 2)), (.k (.int .i64 3)), (.k (.int .i64 3)), (.k (.int .i64 500)), (.k (.int .i64 100))]), (.row 3), (.k (.int .i64 5)), (.k (.int .i64 16)), (.k (.int .i64 100))] (.tp [(.ag 17), .one]) 
(.df (.call 19 [.no, (.own 9 []), .no, .no, .no]) [(.a [(.k (.string ⟨#[100]⟩)), (.k (.int .i64 60)), (.k (.int .i64 40)), (.k (.int .i64 1)), (.k (.int .i64 3)), (.k (.int .i64 2)), (.k (.int .i64 4)), (.k (.int .i64 3)), (.k (.int .i64 2)), (.k (.int .i64 100)), (.k (.int .i64 100)), (.k (.int .i64 100)), (.k (.int .i64 2)), (.k (.int .i64 3)), (.k (.int .i64 3)), (.k (.int .i64 500)), (.k (.int .i64 100))]), (.k (.slice none 0 0)), (.k (.int .i64 0)), (.k (.int .i64 0)), (.k (.int .i64 0))] (.tp [(.ag 17), .one]) 
(.df (.bin .neq 29) [(.x 0 [1]), (.k (.int .i64 0))] .one 
(.br 10 [] 
(.ret (.k (.bool false)) [] []) 
(.df (.bin .neq 29) [(.x 1 [1]), (.k (.int .i64 0))] .one 
(.br 11 [] 
(.ret (.k (.bool false)) [] []) 
(.df (.bin .neq 29) [(.x 2 [1]), (.k (.int .i64 340))] .one 
(.br 12 [] 
(.ret (.k (.bool false)) [] []) 
(.df (.bin .neq 29) [(.x 3 [1]), (.k (.int .i64 171))] .one 
(.br 13 [] 
(.ret (.k (.bool false)) [] []) 
(.df (.bin .neq 29) [(.x 4 [1]), (.k (.int .i64 0))] .one 
(.br 14 [] 
(.ret (.k (.bool false)) [] []) 
(.df (.bin .neq 29) [(.x 5 [1]), (.k (.int .i64 0))] .one 
(.br 15 [] 
(.ret (.k (.bool false)) [] []) 
(.df (.bin .neq 29) [(.x 6 [1]), (.k (.int .i64 0))] .one 
(.br 16 [] 
(.ret (.k (.bool false)) [] []) 
(.df (.bin .neq 29) [(.x 7 [1]), (.k (.int .i64 1))] .one 
(.br 17 [] 
(.ret (.k (.bool false)) [] []) 
(.df (.bin .neq 29) [(.x 8 [1]), (.k (.int .i64 0))] .one 
(.br 18 [] 
(.ret (.k (.bool false)) [] []) 
(.df (.bin .neq 29) [(.x 9 [1]), (.k (.int .i64 0))] .one 
(.br 19 [] 
(.ret (.k (.bool false)) [] []) 
(.df (.call 14 [(.own 9 [])]) [(.k (.slice none 0 0))] .one 
(.df (.bin .neq 29) [(.x 20 []), (.k (.int .i64 0))] .one 
(.br 21 [] 
(.ret (.k (.bool false)) [] []) 
(.df (.call 14 [(.own 9 [(.k (.int .i64 0)), (.k (.int .i64 0)), (.k (.int .i64 0)), (.k (.int .i64 0)), (.k (.int .i64 0)), (.k (.int .i64 0)), (.k (.int .i64 0)), (.k (.int .i64 0)), (.k (.int .i64 0))])]) [(.sl 16 0 1 1)] .one 
(.df (.bin .neq 29) [(.x 22 []), (.k (.int .i64 340))] .one 
(.br 23 [] 
(.ret (.k (.bool false)) [] []) 
(.df (.call 14 [(.row 9 [(.x 1 [0])])]) [(.row 3)] .one 
(.df (.bin .neq 29) [(.x 24 []), (.k (.int .i64 0))] .one 
(.br 25 [] 
(.ret (.k (.bool false)) [] []) 
(.df (.call 16 [(.row 9 [(.x 4 [0])]), (.own 9 [(.k (.int .i64 3)), (.k (.int .i64 5)), (.k (.int .i64 0)), (.k (.int .i64 10)), (.k (.int .i64 16)), (.k (.int .i64 100)), (.k (.int .i64 3)), (.k (.int .i64 0)), (.k (.int .i64 2))])]) [(.row 6), (.sl 19 0 1 1)] .one 
(.br 26 [] 
(.df (.rlen 9) [(.cat [(.x 5 [0])])] .one 
(.df (.bin .eql 3) [(.x 27 []), (.k (.int .i64 0))] .one 
(.br 28 [] 
(.df (.rlen 9) [(.cat [(.x 6 [0])])] .one 
(.df (.bin .eql 3) [(.x 29 []), (.k (.int .i64 0))] .one 
(.br 30 [] 
(.df (.eqr false 17 [.s, (.i .i64), (.i .i64), (.i .i64), (.i .i64), (.i .i64), (.i .i64), (.i .i64), (.i .i64), (.i .i64), (.i .i64), (.i .i64), (.i .i64), (.i .i64), (.i .i64), (.i .i64), (.i .i64)]) [(.x 8 [0, 0]), (.x 8 [0, 1]), (.x 8 [0, 2]), (.x 8 [0, 3]), (.x 8 [0, 4]), (.x 8 [0, 5]), (.x 8 [0, 6]), (.x 8 [0, 7]), (.x 8 [0, 8]), (.x 8 [0, 9]), (.x 8 [0, 10]), (.x 8 [0, 11]), (.x 8 [0, 12]), (.x 8 [0, 13]), (.x 8 [0, 14]), (.x 8 [0, 15]), (.x 8 [0, 16]), (.k (.string ⟨#[100]⟩)), (.k (.int .i64 60)), (.k (.int .i64 40)), (.k (.int .i64 1)), (.k (.int .i64 2)), (.k (.int .i64 2)), (.k (.int .i64 4)), (.k (.int .i64 3)), (.k (.int .i64 2)), (.k (.int .i64 100)), (.k (.int .i64 100)), (.k (.int .i64 100)), (.k (.int .i64 2)), (.k (.int .i64 3)), (.k (.int .i64 3)), (.k (.int .i64 500)), (.k (.int .i64 100))] .one 
(.br 31 [] 
(.df (.eqr false 17 [.s, (.i .i64), (.i .i64), (.i .i64), (.i .i64), (.i .i64), (.i .i64), (.i .i64), (.i .i64), (.i .i64), (.i .i64), (.i .i64), (.i .i64), (.i .i64), (.i .i64), (.i .i64), (.i .i64)]) [(.x 9 [0, 0]), (.x 9 [0, 1]), (.x 9 [0, 2]), (.x 9 [0, 3]), (.x 9 [0, 4]), (.x 9 [0, 5]), (.x 9 [0, 6]), (.x 9 [0, 7]), (.x 9 [0, 8]), (.x 9 [0, 9]), (.x 9 [0, 10]), (.x 9 [0, 11]), (.x 9 [0, 12]), (.x 9 [0, 13]), (.x 9 [0, 14]), (.x 9 [0, 15]), (.x 9 [0, 16]), (.k (.string ⟨#[100]⟩)), (.k (.int .i64 60)), (.k (.int .i64 40)), (.k (.int .i64 1)), (.k (.int .i64 3)), (.k (.int .i64 2)), (.k (.int .i64 4)), (.k (.int .i64 3)), (.k (.int .i64 2)), (.k (.int .i64 100)), (.k (.int .i64 100)), (.k (.int .i64 100)), (.k (.int .i64 2)), (.k (.int .i64 3)), (.k (.int .i64 3)), (.k (.int .i64 500)), (.k (.int .i64 100))] .one 
(.ret (.x 32 []) [] [])) 
(.ret (.k (.bool false)) [] []))) 
(.ret (.k (.bool false)) [] [])))) 
(.ret (.k (.bool false)) [] [])))) 
(.ret (.k (.bool false)) [] []))))))))))))))))))))))))))))))))))))))))))
def args_lSane : List SX.V := []
set_option maxRecDepth 100000 in
theorem run_lSane (K A : Value → Nat → List Value → Prop) : (SX.run (cxLS K A) ⟨fun f => true, [], 0, 100⟩ 100000 0 (SX.door 10 Try.f10 args_lSane []) [.code (Try.f10.body.getD .skip), .top Try.f10]).strip = tree_lSane := by kernel_rfl
set_option maxRecDepth 100000 in
set_option maxHeartbeats 4000000 in
theorem lSane_any  (w : World)  : Calls Try.prog 10 #[] w fun e w' => e = .returned (.bool true) ∧ Below w.heap.size w w' := by
  refine SX.calls_of_run (C := cxLS (fun _ _ _ => False) (fun _ _ _ => False)) (G := ⟨fun f => true, [], 0, 100⟩) (args := args_lSane) (sh := []) (ρ := []) 100000 tree_lSane (okLS _ _) Try.func10 rfl (run_lSane _ _) (by kernel_rfl) (by kernel_rfl) (by kernel_rfl) ?_ ?_
  · exact fun W _ => SX.Kf_none (fun _ _ _ h => h) W
  unfold tree_lSane
  refine SX.VC_df (.tuple #[Value.agg (lmL [weekL]).toArray, .int .i64 0]) (fun α => ⟨[⟨.slice none 0 0, 9, lmL []⟩, ⟨valLm weekL, 0, []⟩], ⟨by kernel_rfl, by kernel_rfl, by kernel_rfl, trivial⟩, .inr (.inr (.inl ⟨rfl, _, [], weekL, rfl, by simp, (fun z hz => nomatch hz), by decide, by rw [kadd1]⟩)), SX.noAli rfl⟩) (by kernel_rfl) ?_
  refine SX.VC_df (.tuple #[Value.agg (lmL [weekL, goneL]).toArray, .int .i64 0]) (fun α => ⟨[⟨(α 2).h, 9, lmL [weekL]⟩, ⟨valLm goneL, 0, []⟩], ⟨Eq.trans (b := (⟨(α 2).h, 9, [Value.agg (lmL [weekL]).toArray].flatMap SX.cellsV⟩ : SX.Arg)) (by simp [SX.cellsV]) (by kernel_rfl), by kernel_rfl, by kernel_rfl, trivial⟩, .inr (.inr (.inl ⟨rfl, _, [weekL], goneL, rfl, by simp, fit_w, by decide, by rw [kadd2]⟩)), SX.noAli rfl⟩) (by kernel_rfl) ?_
  refine SX.VC_df (.tuple #[Value.agg (lmL []).toArray, .int .i64 340]) (fun α => ⟨[⟨.slice none 0 0, 9, lmL []⟩, ⟨valLm goneL, 0, []⟩], ⟨by kernel_rfl, by kernel_rfl, by kernel_rfl, trivial⟩, .inr (.inr (.inl ⟨rfl, _, [], goneL, rfl, by simp, (fun z hz => nomatch hz), by decide, by rw [kadd3]⟩)), SX.noAli rfl⟩) (by kernel_rfl) ?_
  refine SX.VC_df (.tuple #[Value.agg (lmL []).toArray, .int .i64 171]) (fun α => ⟨[⟨(α 2).h, 9, lmL [weekL]⟩, ⟨valLm weekL, 0, []⟩], ⟨Eq.trans (b := (⟨(α 2).h, 9, [Value.agg (lmL [weekL]).toArray].flatMap SX.cellsV⟩ : SX.Arg)) (by simp [SX.cellsV]) (by kernel_rfl), by kernel_rfl, by kernel_rfl, trivial⟩, .inr (.inr (.inl ⟨rfl, _, [weekL], weekL, rfl, by simp, fit_w, by decide, by rw [kadd4]⟩)), SX.noAli rfl⟩) (by kernel_rfl) ?_
  refine SX.VC_df (.tuple #[Value.agg (lmL [weekL]).toArray, .int .i64 0]) (fun α => ⟨[⟨(α 3).h, 9, lmL [weekL, goneL]⟩, ⟨.int .i64 5, 0, []⟩, ⟨.int .i64 12, 0, []⟩, ⟨.int .i64 199, 0, []⟩], ⟨Eq.trans (b := (⟨(α 3).h, 9, [Value.agg (lmL [weekL, goneL]).toArray].flatMap SX.cellsV⟩ : SX.Arg)) (by simp [SX.cellsV]) (by kernel_rfl), by kernel_rfl, by kernel_rfl, by kernel_rfl, by kernel_rfl, by kernel_rfl, by kernel_rfl, trivial⟩, .inr (.inr (.inr (.inl ⟨rfl, _, [weekL, goneL], _, _, _, rfl, by simp, fit_wg, by rw [kst1]⟩))), SX.noAli rfl⟩) (by kernel_rfl) ?_
  refine SX.VC_df (.tuple #[Value.agg (lmL []).toArray, .int .i64 0]) (fun α => ⟨[⟨(α 3).h, 9, lmL [weekL, goneL]⟩, ⟨.int .i64 5, 0, []⟩, ⟨.int .i64 12, 0, []⟩, ⟨.int .i64 200, 0, []⟩], ⟨Eq.trans (b := (⟨(α 3).h, 9, [Value.agg (lmL [weekL, goneL]).toArray].flatMap SX.cellsV⟩ : SX.Arg)) (by simp [SX.cellsV]) (by kernel_rfl), by kernel_rfl, by kernel_rfl, by kernel_rfl, by kernel_rfl, by kernel_rfl, by kernel_rfl, trivial⟩, .inr (.inr (.inr (.inl ⟨rfl, _, [weekL, goneL], _, _, _, rfl, by simp, fit_wg, by rw [kst2]⟩))), SX.noAli rfl⟩) (by kernel_rfl) ?_
  refine SX.VC_df (.tuple #[Value.agg (lmL []).toArray, .int .i64 0]) (fun α => ⟨[⟨(α 3).h, 9, lmL [weekL, goneL]⟩, ⟨.int .i64 5, 0, []⟩, ⟨.int .i64 17, 0, []⟩, ⟨.int .i64 150, 0, []⟩], ⟨Eq.trans (b := (⟨(α 3).h, 9, [Value.agg (lmL [weekL, goneL]).toArray].flatMap SX.cellsV⟩ : SX.Arg)) (by simp [SX.cellsV]) (by kernel_rfl), by kernel_rfl, by kernel_rfl, by kernel_rfl, by kernel_rfl, by kernel_rfl, by kernel_rfl, trivial⟩, .inr (.inr (.inr (.inl ⟨rfl, _, [weekL, goneL], _, _, _, rfl, by simp, fit_wg, by rw [kst3]⟩))), SX.noAli rfl⟩) (by kernel_rfl) ?_
  refine SX.VC_df (.tuple #[Value.agg (lmL []).toArray, .int .i64 1]) (fun α => ⟨[⟨.slice none 0 0, 9, lmL []⟩, ⟨.int .i64 64, 0, []⟩, ⟨.int .i64 0, 0, []⟩, ⟨.int .i64 0, 0, []⟩], ⟨by kernel_rfl, by kernel_rfl, by kernel_rfl, by kernel_rfl, by kernel_rfl, by kernel_rfl, by kernel_rfl, trivial⟩, .inr (.inr (.inr (.inl ⟨rfl, _, [], _, _, _, rfl, by simp, (fun z hz => nomatch hz), by rw [kst4]⟩))), SX.noAli rfl⟩) (by kernel_rfl) ?_
  refine SX.VC_df (.tuple #[(valBd lowB), .int .i64 0]) (fun α => ⟨[⟨valBd danceB, 0, []⟩, ⟨(α 3).h, 9, lmL [weekL, goneL]⟩, ⟨.int .i64 5, 0, []⟩, ⟨.int .i64 16, 0, []⟩, ⟨.int .i64 100, 0, []⟩], ⟨by kernel_rfl, by kernel_rfl, Eq.trans (b := (⟨(α 3).h, 9, [Value.agg (lmL [weekL, goneL]).toArray].flatMap SX.cellsV⟩ : SX.Arg)) (by simp [SX.cellsV]) (by kernel_rfl), by kernel_rfl, by kernel_rfl, by kernel_rfl, by kernel_rfl, by kernel_rfl, by kernel_rfl, trivial⟩, .inr (.inr (.inr (.inr (⟨rfl, danceB, _, [weekL, goneL], _, _, _, rfl, by decide, by simp, fit_wg, by rw [kin1]⟩)))), SX.noAli rfl⟩) (by kernel_rfl) ?_
  refine SX.VC_df (.tuple #[(valBd danceB), .int .i64 0]) (fun α => ⟨[⟨valBd danceB, 0, []⟩, ⟨.slice none 0 0, 9, lmL []⟩, ⟨.int .i64 0, 0, []⟩, ⟨.int .i64 0, 0, []⟩, ⟨.int .i64 0, 0, []⟩], ⟨by kernel_rfl, by kernel_rfl, by kernel_rfl, by kernel_rfl, by kernel_rfl, by kernel_rfl, by kernel_rfl, by kernel_rfl, by kernel_rfl, trivial⟩, .inr (.inr (.inr (.inr (⟨rfl, danceB, _, [], _, _, _, rfl, by decide, by simp, (fun z hz => nomatch hz), by rw [kin2]⟩)))), SX.noAli rfl⟩) (by kernel_rfl) ?_
  refine SX.VC_df (.bool ((0 : Int) != 0)) (by intro α; show _ = _; kernel_rfl) (by kernel_rfl) ?_
  refine SX.VC_br ((0 : Int) != 0) (by kernel_rfl) (fun h10 => absurd h10 (by decide)) (fun h10 => ?_)
  try simp only [NRM] at h10
  refine SX.VC_df (.bool ((0 : Int) != 0)) (by intro α; show _ = _; kernel_rfl) (by kernel_rfl) ?_
  refine SX.VC_br ((0 : Int) != 0) (by kernel_rfl) (fun h11 => absurd h11 (by decide)) (fun h11 => ?_)
  try simp only [NRM] at h11
  refine SX.VC_df (.bool ((340 : Int) != 340)) (by intro α; show _ = _; kernel_rfl) (by kernel_rfl) ?_
  refine SX.VC_br ((340 : Int) != 340) (by kernel_rfl) (fun h12 => absurd h12 (by decide)) (fun h12 => ?_)
  try simp only [NRM] at h12
  refine SX.VC_df (.bool ((171 : Int) != 171)) (by intro α; show _ = _; kernel_rfl) (by kernel_rfl) ?_
  refine SX.VC_br ((171 : Int) != 171) (by kernel_rfl) (fun h13 => absurd h13 (by decide)) (fun h13 => ?_)
  try simp only [NRM] at h13
  refine SX.VC_df (.bool ((0 : Int) != 0)) (by intro α; show _ = _; kernel_rfl) (by kernel_rfl) ?_
  refine SX.VC_br ((0 : Int) != 0) (by kernel_rfl) (fun h14 => absurd h14 (by decide)) (fun h14 => ?_)
  try simp only [NRM] at h14
  refine SX.VC_df (.bool ((0 : Int) != 0)) (by intro α; show _ = _; kernel_rfl) (by kernel_rfl) ?_
  refine SX.VC_br ((0 : Int) != 0) (by kernel_rfl) (fun h15 => absurd h15 (by decide)) (fun h15 => ?_)
  try simp only [NRM] at h15
  refine SX.VC_df (.bool ((0 : Int) != 0)) (by intro α; show _ = _; kernel_rfl) (by kernel_rfl) ?_
  refine SX.VC_br ((0 : Int) != 0) (by kernel_rfl) (fun h16 => absurd h16 (by decide)) (fun h16 => ?_)
  try simp only [NRM] at h16
  refine SX.VC_df (.bool ((1 : Int) != 1)) (by intro α; show _ = _; kernel_rfl) (by kernel_rfl) ?_
  refine SX.VC_br ((1 : Int) != 1) (by kernel_rfl) (fun h17 => absurd h17 (by decide)) (fun h17 => ?_)
  try simp only [NRM] at h17
  refine SX.VC_df (.bool ((0 : Int) != 0)) (by intro α; show _ = _; kernel_rfl) (by kernel_rfl) ?_
  refine SX.VC_br ((0 : Int) != 0) (by kernel_rfl) (fun h18 => absurd h18 (by decide)) (fun h18 => ?_)
  try simp only [NRM] at h18
  refine SX.VC_df (.bool ((0 : Int) != 0)) (by intro α; show _ = _; kernel_rfl) (by kernel_rfl) ?_
  refine SX.VC_br ((0 : Int) != 0) (by kernel_rfl) (fun h19 => absurd h19 (by decide)) (fun h19 => ?_)
  try simp only [NRM] at h19
  refine SX.VC_df (.int .i64 0) (fun α => ⟨[⟨.slice none 0 0, 9, lmL []⟩], ⟨by kernel_rfl, trivial⟩, .inl ⟨rfl, _, [], rfl, by simp, (fun z hz => nomatch hz), by rw [kchk0]⟩, SX.noAli rfl⟩) (by kernel_rfl) ?_
  refine SX.VC_df (.bool ((0 : Int) != 0)) (by intro α; show _ = _; kernel_rfl) (by kernel_rfl) ?_
  refine SX.VC_br ((0 : Int) != 0) (by kernel_rfl) (fun h21 => absurd h21 (by decide)) (fun h21 => ?_)
  try simp only [NRM] at h21
  refine SX.VC_df (.int .i64 340) (fun α => ⟨[⟨.slice (some ⟨(α 16).b, 0, none⟩) 1 1, 9, lmL [zeroLm]⟩], ⟨by kernel_rfl, trivial⟩, .inl ⟨rfl, _, [zeroLm], rfl, by simp, fit_z, by rw [kchk4]⟩, SX.noAli rfl⟩) (by kernel_rfl) ?_
  refine SX.VC_df (.bool ((340 : Int) != 340)) (by intro α; show _ = _; kernel_rfl) (by kernel_rfl) ?_
  refine SX.VC_br ((340 : Int) != 340) (by kernel_rfl) (fun h23 => absurd h23 (by decide)) (fun h23 => ?_)
  try simp only [NRM] at h23
  refine SX.VC_df (.int .i64 0) (fun α => ⟨[⟨(α 3).h, 9, lmL [weekL, goneL]⟩], ⟨Eq.trans (b := (⟨(α 3).h, 9, [Value.agg (lmL [weekL, goneL]).toArray].flatMap SX.cellsV⟩ : SX.Arg)) (by simp [SX.cellsV]) (by kernel_rfl), trivial⟩, .inl ⟨rfl, _, [weekL, goneL], rfl, by simp, fit_wg, by rw [kchk2]⟩, SX.noAli rfl⟩) (by kernel_rfl) ?_
  refine SX.VC_df (.bool ((0 : Int) != 0)) (by intro α; show _ = _; kernel_rfl) (by kernel_rfl) ?_
  refine SX.VC_br ((0 : Int) != 0) (by kernel_rfl) (fun h25 => absurd h25 (by decide)) (fun h25 => ?_)
  try simp only [NRM] at h25
  refine SX.VC_df (.bool true) (fun α => ⟨[⟨(α 6).h, 9, lmL [weekL]⟩, ⟨.slice (some ⟨(α 19).b, 0, none⟩) 1 1, 9, lmL [weekL]⟩], ⟨Eq.trans (b := (⟨(α 6).h, 9, [Value.agg (lmL [weekL]).toArray].flatMap SX.cellsV⟩ : SX.Arg)) (by simp [SX.cellsV]) (by kernel_rfl), by kernel_rfl, trivial⟩, .inr (.inl ⟨rfl, _, _, [weekL], [weekL], rfl, by simp, by simp, by simp⟩), SX.noAli rfl⟩) (by kernel_rfl) ?_
  refine SX.VC_br true (by kernel_rfl) (fun h26 => ?_) (fun h26 => absurd h26 (by simp))
  try simp only [NRM] at h26
  refine SX.VC_df (.int .i64 0) (by intro α; show _ = _; kernel_rfl) (by kernel_rfl) ?_
  refine SX.VC_df (.bool ((0 : Int) == 0)) (by intro α; show _ = _; kernel_rfl) (by kernel_rfl) ?_
  refine SX.VC_br ((0 : Int) == 0) (by kernel_rfl) (fun h28 => ?_) (fun h28 => absurd h28 (by simp))
  try simp only [NRM] at h28
  refine SX.VC_df (.int .i64 0) (by intro α; show _ = _; kernel_rfl) (by kernel_rfl) ?_
  refine SX.VC_df (.bool ((0 : Int) == 0)) (by intro α; show _ = _; kernel_rfl) (by kernel_rfl) ?_
  refine SX.VC_br ((0 : Int) == 0) (by kernel_rfl) (fun h30 => ?_) (fun h30 => absurd h30 (by simp))
  try simp only [NRM] at h30
  refine SX.VC_df (.bool (false ^^ decide (lowB = lowB))) (fun α => SX.eqr_rel (f := cellsBd) cellsBd_inj (y := lowB) (z := lowB) (by kernel_rfl) (by kernel_rfl) (by kernel_rfl)) (by kernel_rfl) ?_
  refine SX.VC_br (false ^^ decide (lowB = lowB)) (by kernel_rfl) (fun h31 => ?_) (fun h31 => absurd h31 (by simp))
  try simp only [NRM] at h31
  refine SX.VC_df (.bool (false ^^ decide (danceB = danceB))) (fun α => SX.eqr_rel (f := cellsBd) cellsBd_inj (y := danceB) (z := danceB) (by kernel_rfl) (by kernel_rfl) (by kernel_rfl)) (by kernel_rfl) ?_
  exact SX.VC_ret fun α W _ _ hS => SX.ret_of hS (x := .bool (false ^^ decide (danceB = danceB))) (by kernel_rfl) (by simp)
end Go.Proofs.Ytmkigejhgpoleaa
