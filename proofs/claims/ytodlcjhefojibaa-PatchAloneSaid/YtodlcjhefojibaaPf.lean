/-
  Is a patch valid: the program and the specification.
-/
import Derived.Test.YtodlcjhefojibaaPe
namespace Go.Proofs.Ytodlcjhefojibaa
set_option linter.unusedSimpArgs false
set_option linter.unusedVariables false
open Go Go.RowKit
def zeroSg : Sg := ⟨0, 0, 0, 0, 0, 0, 0, 0, 0, 0, 0, 0, 0, 0⟩
def plainP : Sg := ⟨0, 0, 0, 3, 9, 0, 0, 0, 0, 0, 0, 1, 1, 2⟩
def plainR : Sg := ⟨0, 0, 0, 1, 1, 0, 0, 0, 0, 0, 0, 1, 1, 1⟩
theorem plain_ok {f : Int} {y : Sg} (h1 : 1 ≤ f) (h9 : f ≤ 9) : (setF plainP f y).ok ↔ (setF plainR f y).ok := by
  have hp : okS 0 1 1 2 := by decide
  have hr : okS 0 1 1 1 := by decide
  have hk : f = 1 ∨ f = 2 ∨ f = 3 ∨ f = 4 ∨ f = 5 ∨ f = 6 ∨ f = 7 ∨ f = 8 ∨ f = 9 := by omega
  rcases hk with rfl | rfl | rfl | rfl | rfl | rfl | rfl | rfl | rfl <;> simp [setF, plainP, plainR, Sg.ok_iff, hp, hr]
theorem zero_set {f : Int} {y : Sg} (h1 : 1 ≤ f) (h9 : f ≤ 9) : setF y f zeroSg = zeroSg ↔ setF zeroSg f y = y := by
  have hk : f = 1 ∨ f = 2 ∨ f = 3 ∨ f = 4 ∨ f = 5 ∨ f = 6 ∨ f = 7 ∨ f = 8 ∨ f = 9 := by omega
  cases y
  rcases hk with rfl | rfl | rfl | rfl | rfl | rfl | rfl | rfl | rfl <;> simp [setF, zeroSg] <;> omega
theorem chkS_one (s : Sg) : (chkS [s] == 0) = decide s.ok := by
  unfold chkS
  rw [if_neg (by simp)]
  by_cases h : s.ok
  · rw [if_pos (by simpa [okL] using h)]; simp [h]
  · rw [if_neg (by simpa [okL] using h)]; simp [h]
def cellsI (x : Int) : List Value := [.int .i64 x]
def intsL (l : List Int) : List Value := l.flatMap cellsI
theorem intsL_len (l : List Int) : (intsL l).length = l.length * 1 := SX.flat_len (f := cellsI) (fun _ => rfl) l
def needsOk (p : Pt) : Prop := (∀ x ∈ p.needs, 1 ≤ x ∧ x < p.id) ∧ p.needs.Pairwise (· < ·)
def kindOk (p : Pt) : Prop := (p.kind = 1 ∧ 1 ≤ p.field ∧ p.field ≤ 9 ∧ setF p.new p.field zeroSg = zeroSg ∧ (setF plainP p.field p.new).ok) ∨ (p.kind = 2 ∧ p.field = 0 ∧ p.new.id = p.sign ∧ p.new.ok) ∨ (p.kind = 3 ∧ p.field = 0 ∧ p.new = zeroSg)
/-- is a patch valid -/
def okP (p : Pt) : Prop := (1 ≤ p.id ∧ p.id ≤ 1048576) ∧ (0 ≤ p.sign ∧ p.sign ≤ 1048576) ∧ needsOk p ∧ kindOk p
instance (p : Pt) : Decidable (okP p) := by unfold okP needsOk kindOk; infer_instance
def chkP (p : Pt) : Int := if 32 < p.needs.length then 2 else if okP p then 0 else 370
/-- the needs up to a place are right -/
def needsTo (p : Pt) (i : Nat) : Prop := (∀ x ∈ p.needs.take i, 1 ≤ x ∧ x < p.id) ∧ (p.needs.take i).Pairwise (· < ·)
theorem needs_succ {p : Pt} {i : Nat} {z : Int} (hz : p.needs[i]? = some z) : needsTo p (i + 1) ↔ needsTo p i ∧ (1 ≤ z ∧ z < p.id) ∧ ∀ y, 0 < i → p.needs[i - 1]? = some y → y < z := by
  have hi := (List.getElem?_eq_some_iff.1 hz).1
  unfold needsTo
  rw [List.take_add_one, hz]
  simp only [Option.toList_some, List.mem_append, List.mem_singleton, List.pairwise_append, List.pairwise_singleton, forall_eq]
  constructor
  · rintro ⟨h1, h2, -, h3⟩
    exact ⟨⟨fun s hs => h1 s (.inl hs), h2⟩, h1 z (.inr rfl), fun y hi0 hy => h3 y (List.mem_of_getElem? (i := i - 1) (by rw [List.getElem?_take, if_pos (by omega)]; exact hy))⟩
  · rintro ⟨⟨h1, h2⟩, h3, h4⟩
    refine ⟨fun s hs => hs.elim (h1 s) fun e => e ▸ h3, h2, trivial, fun y hy => ?_⟩
    obtain ⟨j, hj⟩ := List.mem_iff_getElem?.1 hy
    rw [List.getElem?_take] at hj
    split at hj
    · rename_i hji
      have hl := h4 (p.needs[i - 1]'(by omega)) (by omega) (List.getElem?_eq_getElem _)
      by_cases he : j = i - 1
      · subst he
        rw [List.getElem?_eq_getElem (by omega)] at hj
        have hj : p.needs[i - 1]'(by omega) = y := by simpa using hj
        rw [← hj]; exact hl
      · have := List.pairwise_iff_getElem.1 h2 j (i - 1) (by simp; omega) (by simp; omega) (by omega)
        simp only [List.getElem_take] at this
        obtain ⟨hjl, hj⟩ := List.getElem?_eq_some_iff.1 hj
        rw [hj] at this
        omega
    · cases hj
theorem needs_to {p : Pt} (h : needsOk p) (i : Nat) : needsTo p i := ⟨fun s hs => h.1 s (List.mem_of_mem_take hs), h.2.sublist (List.take_sublist _ _)⟩
theorem needs_end {p : Pt} {i : Nat} (h : needsTo p i) (hi : p.needs.length ≤ i) : needsOk p := by
  unfold needsTo at h; rw [List.take_of_length_le hi] at h; exact h
theorem needs_no {p : Pt} {i : Nat} {z : Int} (hz : p.needs[i]? = some z) (h : ¬ ((1 ≤ z ∧ z < p.id) ∧ ∀ y, 0 < i → p.needs[i - 1]? = some y → y < z)) : ¬ okP p := fun hk => h ((needs_succ hz).1 (needs_to hk.2.2.1 (i + 1))).2
theorem needs_last {p : Pt} {i : Nat} {z last : Int} (hz : p.needs[i]? = some z) (hl0 : i = 0 → last = 0) (hly : ∀ y, 0 < i → p.needs[i - 1]? = some y → last = y) (h : z ≤ last ∨ p.id ≤ z) : ¬ okP p := needs_no hz fun hk => by
  obtain ⟨⟨q1, q2⟩, q3⟩ := hk
  rcases h with h | h
  · rcases Nat.eq_zero_or_pos i with q4 | q4
    · have := hl0 q4; omega
    · obtain ⟨y, hy⟩ : ∃ y, p.needs[i - 1]? = some y := ⟨_, List.getElem?_eq_getElem (by have := (List.getElem?_eq_some_iff.1 hz).1; omega)⟩
      have := hly y q4 hy
      have := q3 y q4 hy
      omega
  · omega
theorem needs_pos {p : Pt} {i : Nat} {z last : Int} (hnd : needsTo p i) (hz : p.needs[i]? = some z) (hl0 : i = 0 → last = 0) (hly : ∀ y, 0 < i → p.needs[i - 1]? = some y → last = y) (h : last < z) : 1 ≤ z := by
  rcases Nat.eq_zero_or_pos i with q4 | q4
  · have := hl0 q4; omega
  · obtain ⟨y, hy⟩ : ∃ y, p.needs[i - 1]? = some y := ⟨_, List.getElem?_eq_getElem (by have := (List.getElem?_eq_some_iff.1 hz).1; omega)⟩
    have := hly y q4 hy
    have := hnd.1 y (List.mem_of_getElem? (i := i - 1) (by rw [List.getElem?_take, if_pos (by omega)]; exact hy))
    omega
theorem no_of_needs {p : Pt} (h : ¬ okP p) (hl : ¬ 32 < p.needs.length) : chkP p = 370 := by rw [chkP, if_neg hl, if_neg h]
theorem okP_iff {p : Pt} : okP p ↔ (1 ≤ p.id ∧ p.id ≤ 1048576) ∧ (0 ≤ p.sign ∧ p.sign ≤ 1048576) ∧ needsOk p ∧ kindOk p := Iff.rfl
theorem kindOk_iff {p : Pt} : kindOk p ↔ (p.kind = 1 ∧ 1 ≤ p.field ∧ p.field ≤ 9 ∧ setF p.new p.field zeroSg = zeroSg ∧ (setF plainP p.field p.new).ok) ∨ (p.kind = 2 ∧ p.field = 0 ∧ p.new.id = p.sign ∧ p.new.ok) ∨ (p.kind = 3 ∧ p.field = 0 ∧ p.new = zeroSg) := Iff.rfl
/-- what is known of lists of signs -/
def RF0 (f : FuncId) (xs : List SX.Arg) (v : Value) : Prop :=
  (f = 27 ∧ ∃ (u : Value) (ss : List Sg), xs = [⟨u, 14, sgsL ss⟩] ∧ ss.length ≤ 9223372036854775807 ∧ v = .int .i64 (chkS ss)) ∨
  (f = 33 ∧ ∃ (u : Value) (ss : List Sg), xs = [⟨u, 14, sgsL ss⟩] ∧ ss.length ≤ 9223372036854775807 ∧ v = .int .i64 (chkS ss))
def shpF0 : FuncId → Option SX.Sh := fun f => if f = 27 then some .one else if f = 33 then some .one else none
noncomputable def cxF0 (K A : Value → Nat → List Value → Prop) : SX.Cx := { P := Try.prog, R := fun _ => RF0, shp := shpF0, K := K, A := A }
theorem okF0 (K A : Value → Nat → List Value → Prop) : (cxF0 K A).Ok := by
  refine SX.Cx.ok_of (fun _ => rfl) ?_
  intro K f xs v W hR hrd hKf
  rcases hR with ⟨rfl, u, ss, rfl, hl, rfl⟩ | ⟨rfl, u, ss, rfl, hl, rfl⟩
  · obtain ⟨A, n, c, rfl, h2, h3, h4⟩ := sgs_arg (hrd ⟨u, 14, sgsL ss⟩ (by simp))
    exact (echeck_any ss A n c W h2 (by omega) h3).mono fun e w' h => SX.plainOk rfl h
  · obtain ⟨A, n, c, rfl, h2, h3, h4⟩ := sgs_arg (hrd ⟨u, 14, sgsL ss⟩ (by simp))
    exact (rcheckL_any ss A n c W h2 (by omega) h3).mono fun e w' h => SX.plainOk rfl h
def tree_pform : SX.Tree :=
(.df (.call 27 [(.own 14 [(.x 0 []), (.x 1 []), (.x 2 []), (.x 3 []), (.x 4 []), (.x 5 []), (.x 6 []), (.x 7 []), (.x 8 []), (.x 9 []), (.x 10 []), (.x 11 []), (.x 12 []), (.x 13 [])])]) [(.sl 1 0 1 1)] .one 
(.df (.bin .eql 32) [(.x 14 []), (.k (.int .i64 0))] .one 
(.ret (.x 15 []) [] [])))
def args_pform : List SX.V := [.a ((List.range 14).map fun j => .x j [])]
set_option maxRecDepth 100000 in
theorem run_pform (K A : Value → Nat → List Value → Prop) : (SX.run (cxF0 K A) ⟨fun _ => false, [], 0, 100⟩ 100000 0 (SX.door 36 Try.f36 args_pform (List.replicate 14 .one)) [.code (Try.f36.body.getD .skip), .top Try.f36]).strip = tree_pform := by kernel_rfl
set_option maxRecDepth 100000 in
set_option maxHeartbeats 4000000 in
theorem pform_any (s : Sg) (w : World)  : Calls Try.prog 36 #[valSg s] w fun e w' => e = .returned (.bool (decide s.ok)) ∧ Below w.heap.size w w' := by
  refine SX.calls_of_run (C := cxF0 (fun _ _ _ => False) (fun _ _ _ => False)) (G := ⟨fun _ => false, [], 0, 100⟩) (args := args_pform) (sh := (List.replicate 14 .one)) (ρ := (cellsSg s)) 100000 tree_pform (okF0 _ _) Try.func36 rfl (run_pform _ _) (by kernel_rfl) (by kernel_rfl) (by kernel_rfl) ?_ ?_
  · exact fun W _ => SX.Kf_none (fun _ _ _ h => h) W
  unfold tree_pform
  refine SX.VC_df (.int .i64 ((chkS [s]))) (fun α => ⟨[⟨.slice (some ⟨(α 1).b, 0, none⟩) 1 1, 14, sgsL [s]⟩], ⟨by kernel_rfl, trivial⟩, .inl ⟨rfl, _, [s], rfl, by simp, rfl⟩, SX.noAli rfl⟩) (by kernel_rfl) ?_
  refine SX.VC_df (.bool (((chkS [s]) : Int) == 0)) (by intro α; show _ = _; kernel_rfl) (by kernel_rfl) ?_
  exact SX.VC_ret fun α W _ _ hS => SX.ret_of hS (x := .bool (((chkS [s]) : Int) == 0)) (by kernel_rfl) (by congr 1; exact chkS_one s)
def tree_rform : SX.Tree :=
(.df (.call 33 [(.own 14 [(.x 0 []), (.x 1 []), (.x 2 []), (.x 3 []), (.x 4 []), (.x 5 []), (.x 6 []), (.x 7 []), (.x 8 []), (.x 9 []), (.x 10 []), (.x 11 []), (.x 12 []), (.x 13 [])])]) [(.sl 1 0 1 1)] .one 
(.df (.bin .eql 32) [(.x 14 []), (.k (.int .i64 0))] .one 
(.ret (.x 15 []) [] [])))
def args_rform : List SX.V := [.a ((List.range 14).map fun j => .x j [])]
set_option maxRecDepth 100000 in
theorem run_rform (K A : Value → Nat → List Value → Prop) : (SX.run (cxF0 K A) ⟨fun _ => false, [], 0, 100⟩ 100000 0 (SX.door 51 Try.f51 args_rform (List.replicate 14 .one)) [.code (Try.f51.body.getD .skip), .top Try.f51]).strip = tree_rform := by kernel_rfl
set_option maxRecDepth 100000 in
set_option maxHeartbeats 4000000 in
theorem rform_any (s : Sg) (w : World)  : Calls Try.prog 51 #[valSg s] w fun e w' => e = .returned (.bool (decide s.ok)) ∧ Below w.heap.size w w' := by
  refine SX.calls_of_run (C := cxF0 (fun _ _ _ => False) (fun _ _ _ => False)) (G := ⟨fun _ => false, [], 0, 100⟩) (args := args_rform) (sh := (List.replicate 14 .one)) (ρ := (cellsSg s)) 100000 tree_rform (okF0 _ _) Try.func51 rfl (run_rform _ _) (by kernel_rfl) (by kernel_rfl) (by kernel_rfl) ?_ ?_
  · exact fun W _ => SX.Kf_none (fun _ _ _ h => h) W
  unfold tree_rform
  refine SX.VC_df (.int .i64 ((chkS [s]))) (fun α => ⟨[⟨.slice (some ⟨(α 1).b, 0, none⟩) 1 1, 14, sgsL [s]⟩], ⟨by kernel_rfl, trivial⟩, .inr (⟨rfl, _, [s], rfl, by simp, rfl⟩), SX.noAli rfl⟩) (by kernel_rfl) ?_
  refine SX.VC_df (.bool (((chkS [s]) : Int) == 0)) (by intro α; show _ = _; kernel_rfl) (by kernel_rfl) ?_
  exact SX.VC_ret fun α W _ _ hS => SX.ret_of hS (x := .bool (((chkS [s]) : Int) == 0)) (by kernel_rfl) (by congr 1; exact chkS_one s)
/-- what is known of fields and forms -/
def RF1 (f : FuncId) (xs : List SX.Arg) (v : Value) : Prop :=
  (f = 35 ∧ ∃ (x y : Sg) (f : Int), xs = [⟨valSg x, 0, []⟩, ⟨.int .i64 f, 0, []⟩, ⟨valSg y, 0, []⟩] ∧ 1 ≤ f ∧ f ≤ 9 ∧ v = valSg (setF x f y)) ∨
  (f = 29 ∧ ∃ (x y : Sg) (f : Int), xs = [⟨valSg x, 0, []⟩, ⟨.int .i64 f, 0, []⟩, ⟨valSg y, 0, []⟩] ∧ v = valSg (setF x f y)) ∨
  (f = 36 ∧ ∃ s : Sg, xs = [⟨valSg s, 0, []⟩] ∧ v = .bool (decide s.ok)) ∨
  (f = 51 ∧ ∃ s : Sg, xs = [⟨valSg s, 0, []⟩] ∧ v = .bool (decide s.ok))
def shpF1 : FuncId → Option SX.Sh := fun f => if f = 35 then some (.ag 14) else if f = 29 then some (.ag 14) else if f = 36 then some .one else if f = 51 then some .one else none
noncomputable def cxF1 (K A : Value → Nat → List Value → Prop) : SX.Cx := { P := Try.prog, R := fun _ => RF1, shp := shpF1, K := K, A := A }
theorem okF1 (K A : Value → Nat → List Value → Prop) : (cxF1 K A).Ok := by
  refine SX.Cx.ok_of (fun _ => rfl) ?_
  intro K f xs v W hR hrd hKf
  rcases hR with ⟨rfl, x, y, f, rfl, h1, h9, rfl⟩ | ⟨rfl, x, y, f, rfl, rfl⟩ | ⟨rfl, s, rfl, rfl⟩ | ⟨rfl, s, rfl, rfl⟩
  · exact (set_any x y f W h1 h9).mono fun e w' h => SX.plainOk rfl h
  · exact (Set_any x y f W).mono fun e w' h => SX.plainOk rfl h
  · exact (pform_any s W).mono fun e w' h => SX.plainOk rfl h
  · exact (rform_any s W).mono fun e w' h => SX.plainOk rfl h
def tree_pcheck : SX.Tree :=
(.df (.len false) [(.x 18 [])] .one 
(.df (.bin .gtr 3) [(.x 19 []), (.k (.int .i64 32))] .one 
(.br 20 [] 
(.ret (.k (.int .i64 2)) [] []) 
(.df (.len false) [(.x 18 [])] .one 
(.loop [(.k (.int .i64 0)), (.k (.int .i64 0))] [.one, .one] 
(.df (.bin .lss 3) [(.x 22 []), (.x 21 [])] .one 
(.br 24 [] 
(.df .bnd [(.x 18 []), (.x 22 [])] .one 
(.df (.elem 1 0) [(.x 18 []), (.x 22 [])] .one 
(.df (.bin .leq 3) [(.x 26 []), (.x 23 [])] .one 
(.br 27 [] 
(.ret (.k (.int .i64 370)) [] []) 
(.df (.bin .geq 3) [(.x 26 []), (.x 0 [])] .one 
(.br 28 [] 
(.ret (.k (.int .i64 370)) [] []) 
(.df (.bin .add 3) [(.x 22 []), (.k (.int .i64 1))] .one 
(.again 0 [(.x 29 []), (.x 26 [])])))))))) 
(.df (.bin .geq 3) [(.x 0 []), (.k (.int .i64 1))] .one 
(.br 25 [] 
(.df (.bin .leq 3) [(.x 0 []), (.k (.int .i64 1048576))] .one 
(.br 26 [] 
(.df (.bin .geq 3) [(.x 2 []), (.k (.int .i64 0))] .one 
(.br 27 [] 
(.df (.bin .leq 3) [(.x 2 []), (.k (.int .i64 1048576))] .one 
(.df (.bin .eql 3) [(.x 1 []), (.k (.int .i64 1))] .one 
(.br 29 [] 
(.df (.bin .lss 3) [(.x 3 []), (.k (.int .i64 1))] .one 
(.br 30 [] 
(.ret (.k (.int .i64 370)) [] []) 
(.df (.bin .gtr 3) [(.x 3 []), (.k (.int .i64 9))] .one 
(.br 31 [] 
(.ret (.k (.int .i64 370)) [] []) 
(.br 28 [] 
(.df (.call 35 [.no, .no, .no]) [(.a [(.x 4 []), (.x 5 []), (.x 6 []), (.x 7 []), (.x 8 []), (.x 9 []), (.x 10 []), (.x 11 []), (.x 12 []), (.x 13 []), (.x 14 []), (.x 15 []), (.x 16 []), (.x 17 [])]), (.x 3 []), (.a [(.k (.int .i64 0)), (.k (.int .i64 0)), (.k (.int .i64 0)), (.k (.int .i64 0)), (.k (.int .i64 0)), (.k (.int .i64 0)), (.k (.int .i64 0)), (.k (.int .i64 0)), (.k (.int .i64 0)), (.k (.int .i64 0)), (.k (.int .i64 0)), (.k (.int .i64 0)), (.k (.int .i64 0)), (.k (.int .i64 0))])] (.ag 14) 
(.df (.eqr false 14 [(.i .i64), (.i .i64), (.i .i64), (.i .i64), (.i .i64), (.i .i64), (.i .i64), (.i .i64), (.i .i64), (.i .i64), (.i .i64), (.i .i64), (.i .i64), (.i .i64)]) [(.x 32 [0]), (.x 32 [1]), (.x 32 [2]), (.x 32 [3]), (.x 32 [4]), (.x 32 [5]), (.x 32 [6]), (.x 32 [7]), (.x 32 [8]), (.x 32 [9]), (.x 32 [10]), (.x 32 [11]), (.x 32 [12]), (.x 32 [13]), (.k (.int .i64 0)), (.k (.int .i64 0)), (.k (.int .i64 0)), (.k (.int .i64 0)), (.k (.int .i64 0)), (.k (.int .i64 0)), (.k (.int .i64 0)), (.k (.int .i64 0)), (.k (.int .i64 0)), (.k (.int .i64 0)), (.k (.int .i64 0)), (.k (.int .i64 0)), (.k (.int .i64 0)), (.k (.int .i64 0))] .one 
(.br 33 [] 
(.df (.call 35 [.no, .no, .no]) [(.a [(.k (.int .i64 0)), (.k (.int .i64 0)), (.k (.int .i64 0)), (.k (.int .i64 3)), (.k (.int .i64 9)), (.k (.int .i64 0)), (.k (.int .i64 0)), (.k (.int .i64 0)), (.k (.int .i64 0)), (.k (.int .i64 0)), (.k (.int .i64 0)), (.k (.int .i64 1)), (.k (.int .i64 1)), (.k (.int .i64 2))]), (.x 3 []), (.a [(.x 4 []), (.x 5 []), (.x 6 []), (.x 7 []), (.x 8 []), (.x 9 []), (.x 10 []), (.x 11 []), (.x 12 []), (.x 13 []), (.x 14 []), (.x 15 []), (.x 16 []), (.x 17 [])])] (.ag 14) 
(.df (.call 36 [.no]) [(.a [(.x 34 [0]), (.x 34 [1]), (.x 34 [2]), (.x 34 [3]), (.x 34 [4]), (.x 34 [5]), (.x 34 [6]), (.x 34 [7]), (.x 34 [8]), (.x 34 [9]), (.x 34 [10]), (.x 34 [11]), (.x 34 [12]), (.x 34 [13])])] .one 
(.df .not [(.x 35 [])] .one 
(.br 36 [] 
(.ret (.k (.int .i64 370)) [] []) 
(.ret (.k (.int .i64 0)) [] []))))) 
(.ret (.k (.int .i64 370)) [] [])))) 
(.ret (.k (.int .i64 370)) [] [])))))) 
(.df (.bin .eql 3) [(.x 1 []), (.k (.int .i64 2))] .one 
(.br 30 [] 
(.br 28 [] 
(.df (.bin .eql 3) [(.x 3 []), (.k (.int .i64 0))] .one 
(.br 31 [] 
(.df (.bin .eql 3) [(.x 4 []), (.x 2 [])] .one 
(.br 32 [] 
(.df (.call 36 [.no]) [(.a [(.x 4 []), (.x 5 []), (.x 6 []), (.x 7 []), (.x 8 []), (.x 9 []), (.x 10 []), (.x 11 []), (.x 12 []), (.x 13 []), (.x 14 []), (.x 15 []), (.x 16 []), (.x 17 [])])] .one 
(.df .not [(.x 33 [])] .one 
(.br 34 [] 
(.ret (.k (.int .i64 370)) [] []) 
(.ret (.k (.int .i64 0)) [] [])))) 
(.ret (.k (.int .i64 370)) [] []))) 
(.ret (.k (.int .i64 370)) [] []))) 
(.ret (.k (.int .i64 370)) [] [])) 
(.df (.bin .eql 3) [(.x 1 []), (.k (.int .i64 3))] .one 
(.br 31 [] 
(.br 28 [] 
(.df (.bin .eql 3) [(.x 3 []), (.k (.int .i64 0))] .one 
(.br 32 [] 
(.df (.eqr false 14 [(.i .i64), (.i .i64), (.i .i64), (.i .i64), (.i .i64), (.i .i64), (.i .i64), (.i .i64), (.i .i64), (.i .i64), (.i .i64), (.i .i64), (.i .i64), (.i .i64)]) [(.x 4 []), (.x 5 []), (.x 6 []), (.x 7 []), (.x 8 []), (.x 9 []), (.x 10 []), (.x 11 []), (.x 12 []), (.x 13 []), (.x 14 []), (.x 15 []), (.x 16 []), (.x 17 []), (.k (.int .i64 0)), (.k (.int .i64 0)), (.k (.int .i64 0)), (.k (.int .i64 0)), (.k (.int .i64 0)), (.k (.int .i64 0)), (.k (.int .i64 0)), (.k (.int .i64 0)), (.k (.int .i64 0)), (.k (.int .i64 0)), (.k (.int .i64 0)), (.k (.int .i64 0)), (.k (.int .i64 0)), (.k (.int .i64 0))] .one 
(.df .not [(.x 33 [])] .one 
(.br 34 [] 
(.ret (.k (.int .i64 370)) [] []) 
(.ret (.k (.int .i64 0)) [] [])))) 
(.ret (.k (.int .i64 370)) [] []))) 
(.ret (.k (.int .i64 370)) [] [])) 
(.ret (.k (.int .i64 370)) [] [])))))))) 
(.df (.bin .eql 3) [(.x 1 []), (.k (.int .i64 1))] .one 
(.br 28 [] 
(.df (.bin .lss 3) [(.x 3 []), (.k (.int .i64 1))] .one 
(.br 29 [] 
(.ret (.k (.int .i64 370)) [] []) 
(.df (.bin .gtr 3) [(.x 3 []), (.k (.int .i64 9))] .one 
(.br 30 [] 
(.ret (.k (.int .i64 370)) [] []) 
(.ret (.k (.int .i64 370)) [] []))))) 
(.df (.bin .eql 3) [(.x 1 []), (.k (.int .i64 2))] .one 
(.br 29 [] 
(.ret (.k (.int .i64 370)) [] []) 
(.df (.bin .eql 3) [(.x 1 []), (.k (.int .i64 3))] .one 
(.br 30 [] 
(.ret (.k (.int .i64 370)) [] []) 
(.ret (.k (.int .i64 370)) [] []))))))))) 
(.df (.bin .eql 3) [(.x 1 []), (.k (.int .i64 1))] .one 
(.br 27 [] 
(.df (.bin .lss 3) [(.x 3 []), (.k (.int .i64 1))] .one 
(.br 28 [] 
(.ret (.k (.int .i64 370)) [] []) 
(.df (.bin .gtr 3) [(.x 3 []), (.k (.int .i64 9))] .one 
(.br 29 [] 
(.ret (.k (.int .i64 370)) [] []) 
(.ret (.k (.int .i64 370)) [] []))))) 
(.df (.bin .eql 3) [(.x 1 []), (.k (.int .i64 2))] .one 
(.br 28 [] 
(.ret (.k (.int .i64 370)) [] []) 
(.df (.bin .eql 3) [(.x 1 []), (.k (.int .i64 3))] .one 
(.br 29 [] 
(.ret (.k (.int .i64 370)) [] []) 
(.ret (.k (.int .i64 370)) [] []))))))))) 
(.df (.bin .eql 3) [(.x 1 []), (.k (.int .i64 1))] .one 
(.br 26 [] 
(.df (.bin .lss 3) [(.x 3 []), (.k (.int .i64 1))] .one 
(.br 27 [] 
(.ret (.k (.int .i64 370)) [] []) 
(.df (.bin .gtr 3) [(.x 3 []), (.k (.int .i64 9))] .one 
(.br 28 [] 
(.ret (.k (.int .i64 370)) [] []) 
(.ret (.k (.int .i64 370)) [] []))))) 
(.df (.bin .eql 3) [(.x 1 []), (.k (.int .i64 2))] .one 
(.br 27 [] 
(.ret (.k (.int .i64 370)) [] []) 
(.df (.bin .eql 3) [(.x 1 []), (.k (.int .i64 3))] .one 
(.br 28 [] 
(.ret (.k (.int .i64 370)) [] []) 
(.ret (.k (.int .i64 370)) [] []))))))))))))))))
def args_pcheck : List SX.V := [.a ((List.range 19).map fun j => .x j [])]
set_option maxRecDepth 100000 in
theorem run_pcheck (K A : Value → Nat → List Value → Prop) : (SX.run (cxF1 K A) ⟨fun _ => false, [⟨14, 5, [(.s 15, .one), (.s 3, .one)]⟩], 0, 100⟩ 100000 0 (SX.door 14 Try.f14 args_pcheck (List.replicate 19 .one)) [.code (Try.f14.body.getD .skip), .top Try.f14]).strip = tree_pcheck := by kernel_rfl
set_option maxRecDepth 100000 in
set_option maxHeartbeats 4000000 in
theorem pcheck_any (p : Pt) (B : Option Addr) (m d : Nat) (w : World) (hr : Rd w 1 B m (intsL p.needs)) (hm : m ≤ 9223372036854775807) (hc : m ≤ d) : Calls Try.prog 14 #[valP p (.slice B m d)] w fun e w' => e = .returned (.int .i64 (chkP p)) ∧ Below w.heap.size w w' := by
  refine SX.calls_of_run (C := cxF1 (fun s sz cells => s = .slice B m d ∧ sz = 1 ∧ cells = intsL p.needs) (fun _ _ _ => False)) (G := ⟨fun _ => false, [⟨14, 5, [(.s 15, .one), (.s 3, .one)]⟩], 0, 100⟩) (args := args_pcheck) (sh := (List.replicate 19 .one)) (ρ := (cellsP p (.slice B m d))) 100000 tree_pcheck (okF1 _ _) Try.func14 rfl (run_pcheck _ _) (by kernel_rfl) (by kernel_rfl) (by kernel_rfl) ?_ ?_
  · rintro W hW s sz cells ⟨rfl, rfl, rfl⟩; exact ⟨hr.same0 hW, hc⟩
  have hA := SX.rd_some hr
  have hln : p.needs.length = m := by have := hr.1; rw [intsL_len] at this; omega
  unfold tree_pcheck
  refine SX.VC_df (.int .i64 (((m : Nat) : Int))) (by intro α; show _ = _; kernel_rfl) (by kernel_rfl) ?_
  refine SX.VC_df (.bool (decide (((m : Nat) : Int) > 32))) (by intro α; show _ = _; kernel_rfl) (by kernel_rfl) ?_
  refine SX.VC_br (decide (((m : Nat) : Int) > 32)) (by kernel_rfl) (fun h20 => ?_) (fun h20 => ?_)
  · try simp only [NRM] at h20
    exact SX.VC_ret fun α W _ _ hS => SX.ret_of hS (x := .int .i64 2) (by kernel_rfl) (by rw [chkP, if_pos (by omega)])
  · try simp only [NRM] at h20
    refine SX.VC_df (.int .i64 (((m : Nat) : Int))) (by intro α; show _ = _; kernel_rfl) (by kernel_rfl) ?_
    refine SX.VC_loop (fun xs => ∃ (i : Nat) (last : Int), xs = [.int .i64 (i : Int), .int .i64 last] ∧ i ≤ m ∧ needsTo p i ∧ (i = 0 → last = 0) ∧ ∀ y, 0 < i → p.needs[i - 1]? = some y → last = y) (fun xs => match xs with | [.int _ i, _] => m - i.toNat | _ => 0) (fun α => ⟨0, 0, by kernel_rfl, by omega, by simp [needsTo], fun _ => rfl, fun y h => absurd h (by omega)⟩) ?_
    rintro xs - ⟨i, last, rfl, him, hnd, hl0, hly⟩
    refine SX.VC_df (.bool (decide (((i : Nat) : Int) < ((m : Nat) : Int)))) (by intro α; show _ = _; kernel_rfl) (by kernel_rfl) ?_
    refine SX.VC_br (decide (((i : Nat) : Int) < ((m : Nat) : Int))) (by kernel_rfl) (fun h24 => ?_) (fun h24 => ?_)
    · try simp only [NRM] at h24
      obtain ⟨z, hz⟩ : ∃ z, p.needs[i]? = some z := ⟨_, List.getElem?_eq_getElem (by omega)⟩
      refine SX.VC_df (.bool true) (fun α => SX.extBnd (A := B) (n := m) (c := d) (j := i) hA (by kernel_rfl) (by kernel_rfl) (by omega)) (by kernel_rfl) ?_
      refine SX.VC_df (.int .i64 z) (fun α => SX.extElem (o := 0) (v := .int .i64 z) (f := cellsI) (l := p.needs) (A := B) (n := m) (c := d) (j := i) (z := z) (fun _ => rfl) hA (by kernel_rfl) (by kernel_rfl) (by omega) ⟨rfl, rfl, rfl⟩ hz (by decide) (by kernel_rfl)) (by kernel_rfl) ?_
      refine SX.VC_df (.bool (decide (z ≤ last))) (by intro α; show _ = _; kernel_rfl) (by kernel_rfl) ?_
      refine SX.VC_br (decide (z ≤ last)) (by kernel_rfl) (fun h27 => ?_) (fun h27 => ?_)
      · try simp only [NRM] at h27
        exact SX.VC_ret fun α W _ _ hS => SX.ret_of hS (x := .int .i64 370) (by kernel_rfl) (by rw [no_of_needs (needs_last hz hl0 hly (by first | exact .inl (by omega) | exact .inr (by omega))) (by omega)])
      · try simp only [NRM] at h27
        refine SX.VC_df (.bool (decide (z ≥ p.id))) (by intro α; show _ = _; kernel_rfl) (by kernel_rfl) ?_
        refine SX.VC_br (decide (z ≥ p.id)) (by kernel_rfl) (fun h28 => ?_) (fun h28 => ?_)
        · try simp only [NRM] at h28
          exact SX.VC_ret fun α W _ _ hS => SX.ret_of hS (x := .int .i64 370) (by kernel_rfl) (by rw [no_of_needs (needs_last hz hl0 hly (by first | exact .inl (by omega) | exact .inr (by omega))) (by omega)])
        · try simp only [NRM] at h28
          have hz1 := needs_pos hnd hz hl0 hly (by omega)
          refine SX.VC_df (.int .i64 (((i + 1 : Nat) : Int))) (fun α => Eq.trans (b := some (.int .i64 (IntKind.i64.wrap ((i : Nat) + 1)))) (by kernel_rfl) (by rw [show ((i + 1 : Nat) : Int) = ((i : Nat) : Int) + 1 by omega, wrap_i64 (by omega) (by omega)])) (by kernel_rfl) ?_
          exact SX.VC_again fun α => ⟨⟨i + 1, z, by kernel_rfl, by omega, (needs_succ hz).2 ⟨hnd, ⟨hz1, by omega⟩, fun y h0 hy => by have := hly y h0 hy; omega⟩, fun h => absurd h (by omega), fun y _ hy => by rw [Nat.add_sub_cancel, hz] at hy; cases hy; rfl⟩, cast (by kernel_rfl) (show m - ((i + 1 : Nat) : Int).toNat < m - (i : Int).toNat by omega)⟩
    · try simp only [NRM] at h24
      have hN : needsOk p := needs_end hnd (by omega)
      refine SX.VC_df (.bool (decide (p.id ≥ 1))) (by intro α; show _ = _; kernel_rfl) (by kernel_rfl) ?_
      refine SX.VC_br (decide (p.id ≥ 1)) (by kernel_rfl) (fun h25 => ?_) (fun h25 => ?_)
      · try simp only [NRM] at h25
        refine SX.VC_df (.bool (decide (p.id ≤ 1048576))) (by intro α; show _ = _; kernel_rfl) (by kernel_rfl) ?_
        refine SX.VC_br (decide (p.id ≤ 1048576)) (by kernel_rfl) (fun h26 => ?_) (fun h26 => ?_)
        · try simp only [NRM] at h26
          refine SX.VC_df (.bool (decide (p.sign ≥ 0))) (by intro α; show _ = _; kernel_rfl) (by kernel_rfl) ?_
          refine SX.VC_br (decide (p.sign ≥ 0)) (by kernel_rfl) (fun h27 => ?_) (fun h27 => ?_)
          · try simp only [NRM] at h27
            refine SX.VC_df (.bool (decide (p.sign ≤ 1048576))) (by intro α; show _ = _; kernel_rfl) (by kernel_rfl) ?_
            refine SX.VC_df (.bool ((p.kind : Int) == 1)) (by intro α; show _ = _; kernel_rfl) (by kernel_rfl) ?_
            refine SX.VC_br ((p.kind : Int) == 1) (by kernel_rfl) (fun h29 => ?_) (fun h29 => ?_)
            · try simp only [NRM] at h29
              refine SX.VC_df (.bool (decide (p.field < 1))) (by intro α; show _ = _; kernel_rfl) (by kernel_rfl) ?_
              refine SX.VC_br (decide (p.field < 1)) (by kernel_rfl) (fun h30 => ?_) (fun h30 => ?_)
              · try simp only [NRM] at h30
                exact SX.VC_ret fun α W _ _ hS => SX.ret_of hS (x := .int .i64 370) (by kernel_rfl) (by rw [no_of_needs (by rintro ⟨⟨a1, a2⟩, ⟨a3, a4⟩, a5, (⟨b1, b2, b3, b4, b5⟩ | ⟨b1, b2, b3, b4⟩ | ⟨b1, b2, b3⟩)⟩ <;> first | omega | contradiction | simp_all) (by omega)])
              · try simp only [NRM] at h30
                refine SX.VC_df (.bool (decide (p.field > 9))) (by intro α; show _ = _; kernel_rfl) (by kernel_rfl) ?_
                refine SX.VC_br (decide (p.field > 9)) (by kernel_rfl) (fun h31 => ?_) (fun h31 => ?_)
                · try simp only [NRM] at h31
                  exact SX.VC_ret fun α W _ _ hS => SX.ret_of hS (x := .int .i64 370) (by kernel_rfl) (by rw [no_of_needs (by rintro ⟨⟨a1, a2⟩, ⟨a3, a4⟩, a5, (⟨b1, b2, b3, b4, b5⟩ | ⟨b1, b2, b3, b4⟩ | ⟨b1, b2, b3⟩)⟩ <;> first | omega | contradiction | simp_all) (by omega)])
                · try simp only [NRM] at h31
                  refine SX.VC_br (decide (p.sign ≤ 1048576)) (by kernel_rfl) (fun h28 => ?_) (fun h28 => ?_)
                  · try simp only [NRM] at h28
                    refine SX.VC_df (.agg (cellsSg (setF p.new p.field zeroSg)).toArray) (fun α => ⟨[⟨valSg p.new, 0, []⟩, ⟨.int .i64 p.field, 0, []⟩, ⟨valSg zeroSg, 0, []⟩], ⟨by kernel_rfl, by kernel_rfl, by kernel_rfl, by kernel_rfl, by kernel_rfl, by kernel_rfl, trivial⟩, .inl ⟨rfl, p.new, zeroSg, p.field, rfl, by omega, by omega, rfl⟩, SX.noAli rfl⟩) (by kernel_rfl) ?_
                    refine SX.VC_df (.bool (false ^^ decide ((setF p.new p.field zeroSg) = zeroSg))) (fun α => SX.eqr_rel (f := cellsSg) cellsSg_inj (y := (setF p.new p.field zeroSg)) (z := zeroSg) (by kernel_rfl) (by kernel_rfl) (by kernel_rfl)) (by kernel_rfl) ?_
                    refine SX.VC_br (false ^^ decide ((setF p.new p.field zeroSg) = zeroSg)) (by kernel_rfl) (fun h33 => ?_) (fun h33 => ?_)
                    · try simp only [NRM] at h33
                      refine SX.VC_df (.agg (cellsSg (setF plainP p.field p.new)).toArray) (fun α => ⟨[⟨valSg plainP, 0, []⟩, ⟨.int .i64 p.field, 0, []⟩, ⟨valSg p.new, 0, []⟩], ⟨by kernel_rfl, by kernel_rfl, by kernel_rfl, by kernel_rfl, by kernel_rfl, by kernel_rfl, trivial⟩, .inl ⟨rfl, plainP, p.new, p.field, rfl, by omega, by omega, rfl⟩, SX.noAli rfl⟩) (by kernel_rfl) ?_
                      refine SX.VC_df (.bool (decide ((setF plainP p.field p.new)).ok)) (fun α => ⟨[⟨valSg ((setF plainP p.field p.new)), 0, []⟩], ⟨by kernel_rfl, by kernel_rfl, trivial⟩, .inr (.inr (.inl ⟨rfl, (setF plainP p.field p.new), rfl, rfl⟩)), SX.noAli rfl⟩) (by kernel_rfl) ?_
                      refine SX.VC_df (.bool (!(decide ((setF plainP p.field p.new)).ok))) (by intro α; show _ = _; kernel_rfl) (by kernel_rfl) ?_
                      refine SX.VC_br (!(decide ((setF plainP p.field p.new)).ok)) (by kernel_rfl) (fun h36 => ?_) (fun h36 => ?_)
                      · try simp only [NRM] at h36
                        exact SX.VC_ret fun α W _ _ hS => SX.ret_of hS (x := .int .i64 370) (by kernel_rfl) (by rw [no_of_needs (by rintro ⟨⟨a1, a2⟩, ⟨a3, a4⟩, a5, (⟨b1, b2, b3, b4, b5⟩ | ⟨b1, b2, b3, b4⟩ | ⟨b1, b2, b3⟩)⟩ <;> first | omega | contradiction | simp_all) (by omega)])
                      · try simp only [NRM] at h36
                        exact SX.VC_ret fun α W _ _ hS => SX.ret_of hS (x := .int .i64 0) (by kernel_rfl) (by rw [chkP, if_neg (by omega), if_pos ⟨⟨by omega, by omega⟩, ⟨by omega, by omega⟩, hN, by first | exact .inl ⟨h29, by omega, by omega, h33, h36⟩ | exact .inr (.inl ⟨h30, h31, h32, h34⟩) | exact .inr (.inr ⟨h31, h32, h34⟩)⟩])
                    · try simp only [NRM] at h33
                      exact SX.VC_ret fun α W _ _ hS => SX.ret_of hS (x := .int .i64 370) (by kernel_rfl) (by rw [no_of_needs (by rintro ⟨⟨a1, a2⟩, ⟨a3, a4⟩, a5, (⟨b1, b2, b3, b4, b5⟩ | ⟨b1, b2, b3, b4⟩ | ⟨b1, b2, b3⟩)⟩ <;> first | omega | contradiction | simp_all) (by omega)])
                  · try simp only [NRM] at h28
                    exact SX.VC_ret fun α W _ _ hS => SX.ret_of hS (x := .int .i64 370) (by kernel_rfl) (by rw [no_of_needs (by rintro ⟨⟨a1, a2⟩, ⟨a3, a4⟩, a5, (⟨b1, b2, b3, b4, b5⟩ | ⟨b1, b2, b3, b4⟩ | ⟨b1, b2, b3⟩)⟩ <;> first | omega | contradiction | simp_all) (by omega)])
            · try simp only [NRM] at h29
              refine SX.VC_df (.bool ((p.kind : Int) == 2)) (by intro α; show _ = _; kernel_rfl) (by kernel_rfl) ?_
              refine SX.VC_br ((p.kind : Int) == 2) (by kernel_rfl) (fun h30 => ?_) (fun h30 => ?_)
              · try simp only [NRM] at h30
                refine SX.VC_br (decide (p.sign ≤ 1048576)) (by kernel_rfl) (fun h28 => ?_) (fun h28 => ?_)
                · try simp only [NRM] at h28
                  refine SX.VC_df (.bool ((p.field : Int) == 0)) (by intro α; show _ = _; kernel_rfl) (by kernel_rfl) ?_
                  refine SX.VC_br ((p.field : Int) == 0) (by kernel_rfl) (fun h31 => ?_) (fun h31 => ?_)
                  · try simp only [NRM] at h31
                    refine SX.VC_df (.bool ((p.new.id : Int) == p.sign)) (by intro α; show _ = _; kernel_rfl) (by kernel_rfl) ?_
                    refine SX.VC_br ((p.new.id : Int) == p.sign) (by kernel_rfl) (fun h32 => ?_) (fun h32 => ?_)
                    · try simp only [NRM] at h32
                      refine SX.VC_df (.bool (decide p.new.ok)) (fun α => ⟨[⟨valSg p.new, 0, []⟩], ⟨by kernel_rfl, by kernel_rfl, trivial⟩, .inr (.inr (.inl ⟨rfl, p.new, rfl, rfl⟩)), SX.noAli rfl⟩) (by kernel_rfl) ?_
                      refine SX.VC_df (.bool (!(decide p.new.ok))) (by intro α; show _ = _; kernel_rfl) (by kernel_rfl) ?_
                      refine SX.VC_br (!(decide p.new.ok)) (by kernel_rfl) (fun h34 => ?_) (fun h34 => ?_)
                      · try simp only [NRM] at h34
                        exact SX.VC_ret fun α W _ _ hS => SX.ret_of hS (x := .int .i64 370) (by kernel_rfl) (by rw [no_of_needs (by rintro ⟨⟨a1, a2⟩, ⟨a3, a4⟩, a5, (⟨b1, b2, b3, b4, b5⟩ | ⟨b1, b2, b3, b4⟩ | ⟨b1, b2, b3⟩)⟩ <;> first | omega | contradiction | simp_all) (by omega)])
                      · try simp only [NRM] at h34
                        exact SX.VC_ret fun α W _ _ hS => SX.ret_of hS (x := .int .i64 0) (by kernel_rfl) (by rw [chkP, if_neg (by omega), if_pos ⟨⟨by omega, by omega⟩, ⟨by omega, by omega⟩, hN, by first | exact .inl ⟨h29, by omega, by omega, h33, h36⟩ | exact .inr (.inl ⟨h30, h31, h32, h34⟩) | exact .inr (.inr ⟨h31, h32, h34⟩)⟩])
                    · try simp only [NRM] at h32
                      exact SX.VC_ret fun α W _ _ hS => SX.ret_of hS (x := .int .i64 370) (by kernel_rfl) (by rw [no_of_needs (by rintro ⟨⟨a1, a2⟩, ⟨a3, a4⟩, a5, (⟨b1, b2, b3, b4, b5⟩ | ⟨b1, b2, b3, b4⟩ | ⟨b1, b2, b3⟩)⟩ <;> first | omega | contradiction | simp_all) (by omega)])
                  · try simp only [NRM] at h31
                    exact SX.VC_ret fun α W _ _ hS => SX.ret_of hS (x := .int .i64 370) (by kernel_rfl) (by rw [no_of_needs (by rintro ⟨⟨a1, a2⟩, ⟨a3, a4⟩, a5, (⟨b1, b2, b3, b4, b5⟩ | ⟨b1, b2, b3, b4⟩ | ⟨b1, b2, b3⟩)⟩ <;> first | omega | contradiction | simp_all) (by omega)])
                · try simp only [NRM] at h28
                  exact SX.VC_ret fun α W _ _ hS => SX.ret_of hS (x := .int .i64 370) (by kernel_rfl) (by rw [no_of_needs (by rintro ⟨⟨a1, a2⟩, ⟨a3, a4⟩, a5, (⟨b1, b2, b3, b4, b5⟩ | ⟨b1, b2, b3, b4⟩ | ⟨b1, b2, b3⟩)⟩ <;> first | omega | contradiction | simp_all) (by omega)])
              · try simp only [NRM] at h30
                refine SX.VC_df (.bool ((p.kind : Int) == 3)) (by intro α; show _ = _; kernel_rfl) (by kernel_rfl) ?_
                refine SX.VC_br ((p.kind : Int) == 3) (by kernel_rfl) (fun h31 => ?_) (fun h31 => ?_)
                · try simp only [NRM] at h31
                  refine SX.VC_br (decide (p.sign ≤ 1048576)) (by kernel_rfl) (fun h28 => ?_) (fun h28 => ?_)
                  · try simp only [NRM] at h28
                    refine SX.VC_df (.bool ((p.field : Int) == 0)) (by intro α; show _ = _; kernel_rfl) (by kernel_rfl) ?_
                    refine SX.VC_br ((p.field : Int) == 0) (by kernel_rfl) (fun h32 => ?_) (fun h32 => ?_)
                    · try simp only [NRM] at h32
                      refine SX.VC_df (.bool (false ^^ decide (p.new = zeroSg))) (fun α => SX.eqr_rel (f := cellsSg) cellsSg_inj (y := p.new) (z := zeroSg) (by kernel_rfl) (by kernel_rfl) (by kernel_rfl)) (by kernel_rfl) ?_
                      refine SX.VC_df (.bool (!(false ^^ decide (p.new = zeroSg)))) (by intro α; show _ = _; kernel_rfl) (by kernel_rfl) ?_
                      refine SX.VC_br (!(false ^^ decide (p.new = zeroSg))) (by kernel_rfl) (fun h34 => ?_) (fun h34 => ?_)
                      · try simp only [NRM] at h34
                        exact SX.VC_ret fun α W _ _ hS => SX.ret_of hS (x := .int .i64 370) (by kernel_rfl) (by rw [no_of_needs (by rintro ⟨⟨a1, a2⟩, ⟨a3, a4⟩, a5, (⟨b1, b2, b3, b4, b5⟩ | ⟨b1, b2, b3, b4⟩ | ⟨b1, b2, b3⟩)⟩ <;> first | omega | contradiction | simp_all) (by omega)])
                      · try simp only [NRM] at h34
                        exact SX.VC_ret fun α W _ _ hS => SX.ret_of hS (x := .int .i64 0) (by kernel_rfl) (by rw [chkP, if_neg (by omega), if_pos ⟨⟨by omega, by omega⟩, ⟨by omega, by omega⟩, hN, by first | exact .inl ⟨h29, by omega, by omega, h33, h36⟩ | exact .inr (.inl ⟨h30, h31, h32, h34⟩) | exact .inr (.inr ⟨h31, h32, h34⟩)⟩])
                    · try simp only [NRM] at h32
                      exact SX.VC_ret fun α W _ _ hS => SX.ret_of hS (x := .int .i64 370) (by kernel_rfl) (by rw [no_of_needs (by rintro ⟨⟨a1, a2⟩, ⟨a3, a4⟩, a5, (⟨b1, b2, b3, b4, b5⟩ | ⟨b1, b2, b3, b4⟩ | ⟨b1, b2, b3⟩)⟩ <;> first | omega | contradiction | simp_all) (by omega)])
                  · try simp only [NRM] at h28
                    exact SX.VC_ret fun α W _ _ hS => SX.ret_of hS (x := .int .i64 370) (by kernel_rfl) (by rw [no_of_needs (by rintro ⟨⟨a1, a2⟩, ⟨a3, a4⟩, a5, (⟨b1, b2, b3, b4, b5⟩ | ⟨b1, b2, b3, b4⟩ | ⟨b1, b2, b3⟩)⟩ <;> first | omega | contradiction | simp_all) (by omega)])
                · try simp only [NRM] at h31
                  exact SX.VC_ret fun α W _ _ hS => SX.ret_of hS (x := .int .i64 370) (by kernel_rfl) (by rw [no_of_needs (by rintro ⟨⟨a1, a2⟩, ⟨a3, a4⟩, a5, (⟨b1, b2, b3, b4, b5⟩ | ⟨b1, b2, b3, b4⟩ | ⟨b1, b2, b3⟩)⟩ <;> first | omega | contradiction | simp_all) (by omega)])
          · try simp only [NRM] at h27
            refine SX.VC_df (.bool ((p.kind : Int) == 1)) (by intro α; show _ = _; kernel_rfl) (by kernel_rfl) ?_
            refine SX.VC_br ((p.kind : Int) == 1) (by kernel_rfl) (fun h28 => ?_) (fun h28 => ?_)
            · try simp only [NRM] at h28
              refine SX.VC_df (.bool (decide (p.field < 1))) (by intro α; show _ = _; kernel_rfl) (by kernel_rfl) ?_
              refine SX.VC_br (decide (p.field < 1)) (by kernel_rfl) (fun h29 => ?_) (fun h29 => ?_)
              · try simp only [NRM] at h29
                exact SX.VC_ret fun α W _ _ hS => SX.ret_of hS (x := .int .i64 370) (by kernel_rfl) (by rw [no_of_needs (by rintro ⟨⟨a1, a2⟩, ⟨a3, a4⟩, a5, (⟨b1, b2, b3, b4, b5⟩ | ⟨b1, b2, b3, b4⟩ | ⟨b1, b2, b3⟩)⟩ <;> first | omega | contradiction | simp_all) (by omega)])
              · try simp only [NRM] at h29
                refine SX.VC_df (.bool (decide (p.field > 9))) (by intro α; show _ = _; kernel_rfl) (by kernel_rfl) ?_
                refine SX.VC_br (decide (p.field > 9)) (by kernel_rfl) (fun h30 => ?_) (fun h30 => ?_)
                · try simp only [NRM] at h30
                  exact SX.VC_ret fun α W _ _ hS => SX.ret_of hS (x := .int .i64 370) (by kernel_rfl) (by rw [no_of_needs (by rintro ⟨⟨a1, a2⟩, ⟨a3, a4⟩, a5, (⟨b1, b2, b3, b4, b5⟩ | ⟨b1, b2, b3, b4⟩ | ⟨b1, b2, b3⟩)⟩ <;> first | omega | contradiction | simp_all) (by omega)])
                · try simp only [NRM] at h30
                  exact SX.VC_ret fun α W _ _ hS => SX.ret_of hS (x := .int .i64 370) (by kernel_rfl) (by rw [no_of_needs (by rintro ⟨⟨a1, a2⟩, ⟨a3, a4⟩, a5, (⟨b1, b2, b3, b4, b5⟩ | ⟨b1, b2, b3, b4⟩ | ⟨b1, b2, b3⟩)⟩ <;> first | omega | contradiction | simp_all) (by omega)])
            · try simp only [NRM] at h28
              refine SX.VC_df (.bool ((p.kind : Int) == 2)) (by intro α; show _ = _; kernel_rfl) (by kernel_rfl) ?_
              refine SX.VC_br ((p.kind : Int) == 2) (by kernel_rfl) (fun h29 => ?_) (fun h29 => ?_)
              · try simp only [NRM] at h29
                exact SX.VC_ret fun α W _ _ hS => SX.ret_of hS (x := .int .i64 370) (by kernel_rfl) (by rw [no_of_needs (by rintro ⟨⟨a1, a2⟩, ⟨a3, a4⟩, a5, (⟨b1, b2, b3, b4, b5⟩ | ⟨b1, b2, b3, b4⟩ | ⟨b1, b2, b3⟩)⟩ <;> first | omega | contradiction | simp_all) (by omega)])
              · try simp only [NRM] at h29
                refine SX.VC_df (.bool ((p.kind : Int) == 3)) (by intro α; show _ = _; kernel_rfl) (by kernel_rfl) ?_
                refine SX.VC_br ((p.kind : Int) == 3) (by kernel_rfl) (fun h30 => ?_) (fun h30 => ?_)
                · try simp only [NRM] at h30
                  exact SX.VC_ret fun α W _ _ hS => SX.ret_of hS (x := .int .i64 370) (by kernel_rfl) (by rw [no_of_needs (by rintro ⟨⟨a1, a2⟩, ⟨a3, a4⟩, a5, (⟨b1, b2, b3, b4, b5⟩ | ⟨b1, b2, b3, b4⟩ | ⟨b1, b2, b3⟩)⟩ <;> first | omega | contradiction | simp_all) (by omega)])
                · try simp only [NRM] at h30
                  exact SX.VC_ret fun α W _ _ hS => SX.ret_of hS (x := .int .i64 370) (by kernel_rfl) (by rw [no_of_needs (by rintro ⟨⟨a1, a2⟩, ⟨a3, a4⟩, a5, (⟨b1, b2, b3, b4, b5⟩ | ⟨b1, b2, b3, b4⟩ | ⟨b1, b2, b3⟩)⟩ <;> first | omega | contradiction | simp_all) (by omega)])
        · try simp only [NRM] at h26
          refine SX.VC_df (.bool ((p.kind : Int) == 1)) (by intro α; show _ = _; kernel_rfl) (by kernel_rfl) ?_
          refine SX.VC_br ((p.kind : Int) == 1) (by kernel_rfl) (fun h27 => ?_) (fun h27 => ?_)
          · try simp only [NRM] at h27
            refine SX.VC_df (.bool (decide (p.field < 1))) (by intro α; show _ = _; kernel_rfl) (by kernel_rfl) ?_
            refine SX.VC_br (decide (p.field < 1)) (by kernel_rfl) (fun h28 => ?_) (fun h28 => ?_)
            · try simp only [NRM] at h28
              exact SX.VC_ret fun α W _ _ hS => SX.ret_of hS (x := .int .i64 370) (by kernel_rfl) (by rw [no_of_needs (by rintro ⟨⟨a1, a2⟩, ⟨a3, a4⟩, a5, (⟨b1, b2, b3, b4, b5⟩ | ⟨b1, b2, b3, b4⟩ | ⟨b1, b2, b3⟩)⟩ <;> first | omega | contradiction | simp_all) (by omega)])
            · try simp only [NRM] at h28
              refine SX.VC_df (.bool (decide (p.field > 9))) (by intro α; show _ = _; kernel_rfl) (by kernel_rfl) ?_
              refine SX.VC_br (decide (p.field > 9)) (by kernel_rfl) (fun h29 => ?_) (fun h29 => ?_)
              · try simp only [NRM] at h29
                exact SX.VC_ret fun α W _ _ hS => SX.ret_of hS (x := .int .i64 370) (by kernel_rfl) (by rw [no_of_needs (by rintro ⟨⟨a1, a2⟩, ⟨a3, a4⟩, a5, (⟨b1, b2, b3, b4, b5⟩ | ⟨b1, b2, b3, b4⟩ | ⟨b1, b2, b3⟩)⟩ <;> first | omega | contradiction | simp_all) (by omega)])
              · try simp only [NRM] at h29
                exact SX.VC_ret fun α W _ _ hS => SX.ret_of hS (x := .int .i64 370) (by kernel_rfl) (by rw [no_of_needs (by rintro ⟨⟨a1, a2⟩, ⟨a3, a4⟩, a5, (⟨b1, b2, b3, b4, b5⟩ | ⟨b1, b2, b3, b4⟩ | ⟨b1, b2, b3⟩)⟩ <;> first | omega | contradiction | simp_all) (by omega)])
          · try simp only [NRM] at h27
            refine SX.VC_df (.bool ((p.kind : Int) == 2)) (by intro α; show _ = _; kernel_rfl) (by kernel_rfl) ?_
            refine SX.VC_br ((p.kind : Int) == 2) (by kernel_rfl) (fun h28 => ?_) (fun h28 => ?_)
            · try simp only [NRM] at h28
              exact SX.VC_ret fun α W _ _ hS => SX.ret_of hS (x := .int .i64 370) (by kernel_rfl) (by rw [no_of_needs (by rintro ⟨⟨a1, a2⟩, ⟨a3, a4⟩, a5, (⟨b1, b2, b3, b4, b5⟩ | ⟨b1, b2, b3, b4⟩ | ⟨b1, b2, b3⟩)⟩ <;> first | omega | contradiction | simp_all) (by omega)])
            · try simp only [NRM] at h28
              refine SX.VC_df (.bool ((p.kind : Int) == 3)) (by intro α; show _ = _; kernel_rfl) (by kernel_rfl) ?_
              refine SX.VC_br ((p.kind : Int) == 3) (by kernel_rfl) (fun h29 => ?_) (fun h29 => ?_)
              · try simp only [NRM] at h29
                exact SX.VC_ret fun α W _ _ hS => SX.ret_of hS (x := .int .i64 370) (by kernel_rfl) (by rw [no_of_needs (by rintro ⟨⟨a1, a2⟩, ⟨a3, a4⟩, a5, (⟨b1, b2, b3, b4, b5⟩ | ⟨b1, b2, b3, b4⟩ | ⟨b1, b2, b3⟩)⟩ <;> first | omega | contradiction | simp_all) (by omega)])
              · try simp only [NRM] at h29
                exact SX.VC_ret fun α W _ _ hS => SX.ret_of hS (x := .int .i64 370) (by kernel_rfl) (by rw [no_of_needs (by rintro ⟨⟨a1, a2⟩, ⟨a3, a4⟩, a5, (⟨b1, b2, b3, b4, b5⟩ | ⟨b1, b2, b3, b4⟩ | ⟨b1, b2, b3⟩)⟩ <;> first | omega | contradiction | simp_all) (by omega)])
      · try simp only [NRM] at h25
        refine SX.VC_df (.bool ((p.kind : Int) == 1)) (by intro α; show _ = _; kernel_rfl) (by kernel_rfl) ?_
        refine SX.VC_br ((p.kind : Int) == 1) (by kernel_rfl) (fun h26 => ?_) (fun h26 => ?_)
        · try simp only [NRM] at h26
          refine SX.VC_df (.bool (decide (p.field < 1))) (by intro α; show _ = _; kernel_rfl) (by kernel_rfl) ?_
          refine SX.VC_br (decide (p.field < 1)) (by kernel_rfl) (fun h27 => ?_) (fun h27 => ?_)
          · try simp only [NRM] at h27
            exact SX.VC_ret fun α W _ _ hS => SX.ret_of hS (x := .int .i64 370) (by kernel_rfl) (by rw [no_of_needs (by rintro ⟨⟨a1, a2⟩, ⟨a3, a4⟩, a5, (⟨b1, b2, b3, b4, b5⟩ | ⟨b1, b2, b3, b4⟩ | ⟨b1, b2, b3⟩)⟩ <;> first | omega | contradiction | simp_all) (by omega)])
          · try simp only [NRM] at h27
            refine SX.VC_df (.bool (decide (p.field > 9))) (by intro α; show _ = _; kernel_rfl) (by kernel_rfl) ?_
            refine SX.VC_br (decide (p.field > 9)) (by kernel_rfl) (fun h28 => ?_) (fun h28 => ?_)
            · try simp only [NRM] at h28
              exact SX.VC_ret fun α W _ _ hS => SX.ret_of hS (x := .int .i64 370) (by kernel_rfl) (by rw [no_of_needs (by rintro ⟨⟨a1, a2⟩, ⟨a3, a4⟩, a5, (⟨b1, b2, b3, b4, b5⟩ | ⟨b1, b2, b3, b4⟩ | ⟨b1, b2, b3⟩)⟩ <;> first | omega | contradiction | simp_all) (by omega)])
            · try simp only [NRM] at h28
              exact SX.VC_ret fun α W _ _ hS => SX.ret_of hS (x := .int .i64 370) (by kernel_rfl) (by rw [no_of_needs (by rintro ⟨⟨a1, a2⟩, ⟨a3, a4⟩, a5, (⟨b1, b2, b3, b4, b5⟩ | ⟨b1, b2, b3, b4⟩ | ⟨b1, b2, b3⟩)⟩ <;> first | omega | contradiction | simp_all) (by omega)])
        · try simp only [NRM] at h26
          refine SX.VC_df (.bool ((p.kind : Int) == 2)) (by intro α; show _ = _; kernel_rfl) (by kernel_rfl) ?_
          refine SX.VC_br ((p.kind : Int) == 2) (by kernel_rfl) (fun h27 => ?_) (fun h27 => ?_)
          · try simp only [NRM] at h27
            exact SX.VC_ret fun α W _ _ hS => SX.ret_of hS (x := .int .i64 370) (by kernel_rfl) (by rw [no_of_needs (by rintro ⟨⟨a1, a2⟩, ⟨a3, a4⟩, a5, (⟨b1, b2, b3, b4, b5⟩ | ⟨b1, b2, b3, b4⟩ | ⟨b1, b2, b3⟩)⟩ <;> first | omega | contradiction | simp_all) (by omega)])
          · try simp only [NRM] at h27
            refine SX.VC_df (.bool ((p.kind : Int) == 3)) (by intro α; show _ = _; kernel_rfl) (by kernel_rfl) ?_
            refine SX.VC_br ((p.kind : Int) == 3) (by kernel_rfl) (fun h28 => ?_) (fun h28 => ?_)
            · try simp only [NRM] at h28
              exact SX.VC_ret fun α W _ _ hS => SX.ret_of hS (x := .int .i64 370) (by kernel_rfl) (by rw [no_of_needs (by rintro ⟨⟨a1, a2⟩, ⟨a3, a4⟩, a5, (⟨b1, b2, b3, b4, b5⟩ | ⟨b1, b2, b3, b4⟩ | ⟨b1, b2, b3⟩)⟩ <;> first | omega | contradiction | simp_all) (by omega)])
            · try simp only [NRM] at h28
              exact SX.VC_ret fun α W _ _ hS => SX.ret_of hS (x := .int .i64 370) (by kernel_rfl) (by rw [no_of_needs (by rintro ⟨⟨a1, a2⟩, ⟨a3, a4⟩, a5, (⟨b1, b2, b3, b4, b5⟩ | ⟨b1, b2, b3, b4⟩ | ⟨b1, b2, b3⟩)⟩ <;> first | omega | contradiction | simp_all) (by omega)])
def tree_rvalid : SX.Tree :=
(.df (.bin .lss 3) [(.x 0 []), (.k (.int .i64 1))] .one 
(.br 19 [] 
(.ret (.k (.bool false)) [] []) 
(.df (.bin .gtr 3) [(.x 0 []), (.k (.int .i64 1048576))] .one 
(.br 20 [] 
(.ret (.k (.bool false)) [] []) 
(.df (.bin .lss 3) [(.x 2 []), (.k (.int .i64 0))] .one 
(.br 21 [] 
(.ret (.k (.bool false)) [] []) 
(.df (.bin .gtr 3) [(.x 2 []), (.k (.int .i64 1048576))] .one 
(.br 22 [] 
(.ret (.k (.bool false)) [] []) 
(.loop [(.k (.int .i64 0))] [.one] 
(.df (.len false) [(.x 18 [])] .one 
(.df (.bin .lss 3) [(.x 23 []), (.x 24 [])] .one 
(.br 25 [] 
(.df .bnd [(.x 18 []), (.x 23 [])] .one 
(.df (.elem 1 0) [(.x 18 []), (.x 23 [])] .one 
(.df (.bin .lss 3) [(.x 27 []), (.k (.int .i64 1))] .one 
(.br 28 [] 
(.ret (.k (.bool false)) [] []) 
(.df .bnd [(.x 18 []), (.x 23 [])] .one 
(.df (.elem 1 0) [(.x 18 []), (.x 23 [])] .one 
(.df (.bin .geq 3) [(.x 30 []), (.x 0 [])] .one 
(.br 31 [] 
(.ret (.k (.bool false)) [] []) 
(.df (.bin .gtr 3) [(.x 23 []), (.k (.int .i64 0))] .one 
(.br 32 [] 
(.df .bnd [(.x 18 []), (.x 23 [])] .one 
(.df (.elem 1 0) [(.x 18 []), (.x 23 [])] .one 
(.df (.bin .sub 3) [(.x 23 []), (.k (.int .i64 1))] .one 
(.df .bnd [(.x 18 []), (.x 35 [])] .one 
(.df (.elem 1 0) [(.x 18 []), (.x 35 [])] .one 
(.df (.bin .leq 3) [(.x 34 []), (.x 37 [])] .one 
(.br 38 [] 
(.ret (.k (.bool false)) [] []) 
(.df (.bin .add 3) [(.x 23 []), (.k (.int .i64 1))] .one 
(.again 0 [(.x 39 [])]))))))))) 
(.df (.bin .add 3) [(.x 23 []), (.k (.int .i64 1))] .one 
(.again 0 [(.x 33 [])])))))))))))) 
(.df (.bin .eql 3) [(.x 1 []), (.k (.int .i64 1))] .one 
(.br 26 [] 
(.df (.bin .lss 3) [(.x 3 []), (.k (.int .i64 1))] .one 
(.br 27 [] 
(.ret (.k (.bool false)) [] []) 
(.df (.bin .gtr 3) [(.x 3 []), (.k (.int .i64 9))] .one 
(.br 28 [] 
(.ret (.k (.bool false)) [] []) 
(.df (.call 29 [.no, .no, .no]) [(.a [(.k (.int .i64 0)), (.k (.int .i64 0)), (.k (.int .i64 0)), (.k (.int .i64 0)), (.k (.int .i64 0)), (.k (.int .i64 0)), (.k (.int .i64 0)), (.k (.int .i64 0)), (.k (.int .i64 0)), (.k (.int .i64 0)), (.k (.int .i64 0)), (.k (.int .i64 0)), (.k (.int .i64 0)), (.k (.int .i64 0))]), (.x 3 []), (.a [(.x 4 []), (.x 5 []), (.x 6 []), (.x 7 []), (.x 8 []), (.x 9 []), (.x 10 []), (.x 11 []), (.x 12 []), (.x 13 []), (.x 14 []), (.x 15 []), (.x 16 []), (.x 17 [])])] (.ag 14) 
(.df (.eqr false 14 [(.i .i64), (.i .i64), (.i .i64), (.i .i64), (.i .i64), (.i .i64), (.i .i64), (.i .i64), (.i .i64), (.i .i64), (.i .i64), (.i .i64), (.i .i64), (.i .i64)]) [(.x 29 [0]), (.x 29 [1]), (.x 29 [2]), (.x 29 [3]), (.x 29 [4]), (.x 29 [5]), (.x 29 [6]), (.x 29 [7]), (.x 29 [8]), (.x 29 [9]), (.x 29 [10]), (.x 29 [11]), (.x 29 [12]), (.x 29 [13]), (.x 4 []), (.x 5 []), (.x 6 []), (.x 7 []), (.x 8 []), (.x 9 []), (.x 10 []), (.x 11 []), (.x 12 []), (.x 13 []), (.x 14 []), (.x 15 []), (.x 16 []), (.x 17 [])] .one 
(.br 30 [] 
(.df (.call 29 [.no, .no, .no]) [(.a [(.k (.int .i64 0)), (.k (.int .i64 0)), (.k (.int .i64 0)), (.k (.int .i64 1)), (.k (.int .i64 1)), (.k (.int .i64 0)), (.k (.int .i64 0)), (.k (.int .i64 0)), (.k (.int .i64 0)), (.k (.int .i64 0)), (.k (.int .i64 0)), (.k (.int .i64 1)), (.k (.int .i64 1)), (.k (.int .i64 1))]), (.x 3 []), (.a [(.x 4 []), (.x 5 []), (.x 6 []), (.x 7 []), (.x 8 []), (.x 9 []), (.x 10 []), (.x 11 []), (.x 12 []), (.x 13 []), (.x 14 []), (.x 15 []), (.x 16 []), (.x 17 [])])] (.ag 14) 
(.df (.call 51 [.no]) [(.a [(.x 31 [0]), (.x 31 [1]), (.x 31 [2]), (.x 31 [3]), (.x 31 [4]), (.x 31 [5]), (.x 31 [6]), (.x 31 [7]), (.x 31 [8]), (.x 31 [9]), (.x 31 [10]), (.x 31 [11]), (.x 31 [12]), (.x 31 [13])])] .one 
(.ret (.x 32 []) [] []))) 
(.ret (.k (.bool false)) [] [])))))))) 
(.df (.bin .eql 3) [(.x 1 []), (.k (.int .i64 2))] .one 
(.br 27 [] 
(.df (.bin .eql 3) [(.x 3 []), (.k (.int .i64 0))] .one 
(.br 28 [] 
(.df (.bin .eql 3) [(.x 4 []), (.x 2 [])] .one 
(.br 29 [] 
(.df (.call 51 [.no]) [(.a [(.x 4 []), (.x 5 []), (.x 6 []), (.x 7 []), (.x 8 []), (.x 9 []), (.x 10 []), (.x 11 []), (.x 12 []), (.x 13 []), (.x 14 []), (.x 15 []), (.x 16 []), (.x 17 [])])] .one 
(.ret (.x 30 []) [] [])) 
(.ret (.k (.bool false)) [] []))) 
(.ret (.k (.bool false)) [] []))) 
(.df (.bin .eql 3) [(.x 1 []), (.k (.int .i64 3))] .one 
(.br 28 [] 
(.df (.bin .eql 3) [(.x 3 []), (.k (.int .i64 0))] .one 
(.br 29 [] 
(.df (.eqr false 14 [(.i .i64), (.i .i64), (.i .i64), (.i .i64), (.i .i64), (.i .i64), (.i .i64), (.i .i64), (.i .i64), (.i .i64), (.i .i64), (.i .i64), (.i .i64), (.i .i64)]) [(.x 4 []), (.x 5 []), (.x 6 []), (.x 7 []), (.x 8 []), (.x 9 []), (.x 10 []), (.x 11 []), (.x 12 []), (.x 13 []), (.x 14 []), (.x 15 []), (.x 16 []), (.x 17 []), (.k (.int .i64 0)), (.k (.int .i64 0)), (.k (.int .i64 0)), (.k (.int .i64 0)), (.k (.int .i64 0)), (.k (.int .i64 0)), (.k (.int .i64 0)), (.k (.int .i64 0)), (.k (.int .i64 0)), (.k (.int .i64 0)), (.k (.int .i64 0)), (.k (.int .i64 0)), (.k (.int .i64 0)), (.k (.int .i64 0))] .one 
(.ret (.x 30 []) [] [])) 
(.ret (.k (.bool false)) [] []))) 
(.ret (.k (.bool false)) [] [])))))))))))))))))))
def args_rvalid : List SX.V := [.a ((List.range 19).map fun j => .x j [])]
set_option maxRecDepth 100000 in
theorem run_rvalid (K A : Value → Nat → List Value → Prop) : (SX.run (cxF1 K A) ⟨fun f => f = 52, [⟨37, 4, [(.s 3, .one)]⟩], 0, 100⟩ 100000 0 (SX.door 37 Try.f37 args_rvalid (List.replicate 19 .one)) [.code (Try.f37.body.getD .skip), .top Try.f37]).strip = tree_rvalid := by kernel_rfl
set_option maxRecDepth 100000 in
set_option maxHeartbeats 4000000 in
theorem rvalid_any (p : Pt) (B : Option Addr) (m d : Nat) (w : World) (hr : Rd w 1 B m (intsL p.needs)) (hm : m ≤ 9223372036854775807) (hc : m ≤ d) : Calls Try.prog 37 #[valP p (.slice B m d)] w fun e w' => e = .returned (.bool (decide (okP p))) ∧ Below w.heap.size w w' := by
  refine SX.calls_of_run (C := cxF1 (fun s sz cells => s = .slice B m d ∧ sz = 1 ∧ cells = intsL p.needs) (fun _ _ _ => False)) (G := ⟨fun f => f = 52, [⟨37, 4, [(.s 3, .one)]⟩], 0, 100⟩) (args := args_rvalid) (sh := (List.replicate 19 .one)) (ρ := (cellsP p (.slice B m d))) 100000 tree_rvalid (okF1 _ _) Try.func37 rfl (run_rvalid _ _) (by kernel_rfl) (by kernel_rfl) (by kernel_rfl) ?_ ?_
  · rintro W hW s sz cells ⟨rfl, rfl, rfl⟩; exact ⟨hr.same0 hW, hc⟩
  have hA := SX.rd_some hr
  have hln : p.needs.length = m := by have := hr.1; rw [intsL_len] at this; omega
  unfold tree_rvalid
  refine SX.VC_df (.bool (decide (p.id < 1))) (by intro α; show _ = _; kernel_rfl) (by kernel_rfl) ?_
  refine SX.VC_br (decide (p.id < 1)) (by kernel_rfl) (fun h19 => ?_) (fun h19 => ?_)
  · try simp only [NRM] at h19
    exact SX.VC_ret fun α W _ _ hS => SX.ret_of hS (x := .bool false) (by kernel_rfl) (by congr 1; symm; exact (by rw [decide_eq_false_iff_not]; first | exact needs_no hz (fun hk => by obtain ⟨⟨q1, q2⟩, q3⟩ := hk; first | omega | (have := q3 y (by omega) hy; omega)) | rintro ⟨⟨a1, a2⟩, ⟨a3, a4⟩, a5, (⟨b1, b2, b3, b4, b5⟩ | ⟨b1, b2, b3, b4⟩ | ⟨b1, b2, b3⟩)⟩ <;> first | omega | contradiction | simp_all [zero_set]))
  · try simp only [NRM] at h19
    refine SX.VC_df (.bool (decide (p.id > 1048576))) (by intro α; show _ = _; kernel_rfl) (by kernel_rfl) ?_
    refine SX.VC_br (decide (p.id > 1048576)) (by kernel_rfl) (fun h20 => ?_) (fun h20 => ?_)
    · try simp only [NRM] at h20
      exact SX.VC_ret fun α W _ _ hS => SX.ret_of hS (x := .bool false) (by kernel_rfl) (by congr 1; symm; exact (by rw [decide_eq_false_iff_not]; first | exact needs_no hz (fun hk => by obtain ⟨⟨q1, q2⟩, q3⟩ := hk; first | omega | (have := q3 y (by omega) hy; omega)) | rintro ⟨⟨a1, a2⟩, ⟨a3, a4⟩, a5, (⟨b1, b2, b3, b4, b5⟩ | ⟨b1, b2, b3, b4⟩ | ⟨b1, b2, b3⟩)⟩ <;> first | omega | contradiction | simp_all [zero_set]))
    · try simp only [NRM] at h20
      refine SX.VC_df (.bool (decide (p.sign < 0))) (by intro α; show _ = _; kernel_rfl) (by kernel_rfl) ?_
      refine SX.VC_br (decide (p.sign < 0)) (by kernel_rfl) (fun h21 => ?_) (fun h21 => ?_)
      · try simp only [NRM] at h21
        exact SX.VC_ret fun α W _ _ hS => SX.ret_of hS (x := .bool false) (by kernel_rfl) (by congr 1; symm; exact (by rw [decide_eq_false_iff_not]; first | exact needs_no hz (fun hk => by obtain ⟨⟨q1, q2⟩, q3⟩ := hk; first | omega | (have := q3 y (by omega) hy; omega)) | rintro ⟨⟨a1, a2⟩, ⟨a3, a4⟩, a5, (⟨b1, b2, b3, b4, b5⟩ | ⟨b1, b2, b3, b4⟩ | ⟨b1, b2, b3⟩)⟩ <;> first | omega | contradiction | simp_all [zero_set]))
      · try simp only [NRM] at h21
        refine SX.VC_df (.bool (decide (p.sign > 1048576))) (by intro α; show _ = _; kernel_rfl) (by kernel_rfl) ?_
        refine SX.VC_br (decide (p.sign > 1048576)) (by kernel_rfl) (fun h22 => ?_) (fun h22 => ?_)
        · try simp only [NRM] at h22
          exact SX.VC_ret fun α W _ _ hS => SX.ret_of hS (x := .bool false) (by kernel_rfl) (by congr 1; symm; exact (by rw [decide_eq_false_iff_not]; first | exact needs_no hz (fun hk => by obtain ⟨⟨q1, q2⟩, q3⟩ := hk; first | omega | (have := q3 y (by omega) hy; omega)) | rintro ⟨⟨a1, a2⟩, ⟨a3, a4⟩, a5, (⟨b1, b2, b3, b4, b5⟩ | ⟨b1, b2, b3, b4⟩ | ⟨b1, b2, b3⟩)⟩ <;> first | omega | contradiction | simp_all [zero_set]))
        · try simp only [NRM] at h22
          refine SX.VC_loop (fun xs => ∃ i : Nat, xs = [.int .i64 (i : Int)] ∧ i ≤ m ∧ needsTo p i) (fun xs => match xs with | [.int _ i] => m - i.toNat | _ => 0) (fun α => ⟨0, by kernel_rfl, by omega, by simp [needsTo]⟩) ?_
          rintro xs - ⟨i, rfl, him, hnd⟩
          refine SX.VC_df (.int .i64 (((m : Nat) : Int))) (by intro α; show _ = _; kernel_rfl) (by kernel_rfl) ?_
          refine SX.VC_df (.bool (decide (((i : Nat) : Int) < ((m : Nat) : Int)))) (by intro α; show _ = _; kernel_rfl) (by kernel_rfl) ?_
          refine SX.VC_br (decide (((i : Nat) : Int) < ((m : Nat) : Int))) (by kernel_rfl) (fun h25 => ?_) (fun h25 => ?_)
          · try simp only [NRM] at h25
            obtain ⟨z, hz⟩ : ∃ z, p.needs[i]? = some z := ⟨_, List.getElem?_eq_getElem (by omega)⟩
            refine SX.VC_df (.bool true) (fun α => SX.extBnd (A := B) (n := m) (c := d) (j := i) hA (by kernel_rfl) (by kernel_rfl) (by omega)) (by kernel_rfl) ?_
            refine SX.VC_df (.int .i64 z) (fun α => SX.extElem (o := 0) (v := .int .i64 z) (f := cellsI) (l := p.needs) (A := B) (n := m) (c := d) (j := i) (z := z) (fun _ => rfl) hA (by kernel_rfl) (by kernel_rfl) (by omega) ⟨rfl, rfl, rfl⟩ hz (by decide) (by kernel_rfl)) (by kernel_rfl) ?_
            refine SX.VC_df (.bool (decide (z < 1))) (by intro α; show _ = _; kernel_rfl) (by kernel_rfl) ?_
            refine SX.VC_br (decide (z < 1)) (by kernel_rfl) (fun h28 => ?_) (fun h28 => ?_)
            · try simp only [NRM] at h28
              exact SX.VC_ret fun α W _ _ hS => SX.ret_of hS (x := .bool false) (by kernel_rfl) (by congr 1; symm; exact (by rw [decide_eq_false_iff_not]; first | exact needs_no hz (fun hk => by obtain ⟨⟨q1, q2⟩, q3⟩ := hk; first | omega | (have := q3 y (by omega) hy; omega)) | rintro ⟨⟨a1, a2⟩, ⟨a3, a4⟩, a5, (⟨b1, b2, b3, b4, b5⟩ | ⟨b1, b2, b3, b4⟩ | ⟨b1, b2, b3⟩)⟩ <;> first | omega | contradiction | simp_all [zero_set]))
            · try simp only [NRM] at h28
              refine SX.VC_df (.bool true) (fun α => SX.extBnd (A := B) (n := m) (c := d) (j := i) hA (by kernel_rfl) (by kernel_rfl) (by omega)) (by kernel_rfl) ?_
              refine SX.VC_df (.int .i64 z) (fun α => SX.extElem (o := 0) (v := .int .i64 z) (f := cellsI) (l := p.needs) (A := B) (n := m) (c := d) (j := i) (z := z) (fun _ => rfl) hA (by kernel_rfl) (by kernel_rfl) (by omega) ⟨rfl, rfl, rfl⟩ hz (by decide) (by kernel_rfl)) (by kernel_rfl) ?_
              refine SX.VC_df (.bool (decide (z ≥ p.id))) (by intro α; show _ = _; kernel_rfl) (by kernel_rfl) ?_
              refine SX.VC_br (decide (z ≥ p.id)) (by kernel_rfl) (fun h31 => ?_) (fun h31 => ?_)
              · try simp only [NRM] at h31
                exact SX.VC_ret fun α W _ _ hS => SX.ret_of hS (x := .bool false) (by kernel_rfl) (by congr 1; symm; exact (by rw [decide_eq_false_iff_not]; first | exact needs_no hz (fun hk => by obtain ⟨⟨q1, q2⟩, q3⟩ := hk; first | omega | (have := q3 y (by omega) hy; omega)) | rintro ⟨⟨a1, a2⟩, ⟨a3, a4⟩, a5, (⟨b1, b2, b3, b4, b5⟩ | ⟨b1, b2, b3, b4⟩ | ⟨b1, b2, b3⟩)⟩ <;> first | omega | contradiction | simp_all [zero_set]))
              · try simp only [NRM] at h31
                refine SX.VC_df (.bool (decide (((i : Nat) : Int) > 0))) (by intro α; show _ = _; kernel_rfl) (by kernel_rfl) ?_
                refine SX.VC_br (decide (((i : Nat) : Int) > 0)) (by kernel_rfl) (fun h32 => ?_) (fun h32 => ?_)
                · try simp only [NRM] at h32
                  refine SX.VC_df (.bool true) (fun α => SX.extBnd (A := B) (n := m) (c := d) (j := i) hA (by kernel_rfl) (by kernel_rfl) (by omega)) (by kernel_rfl) ?_
                  refine SX.VC_df (.int .i64 z) (fun α => SX.extElem (o := 0) (v := .int .i64 z) (f := cellsI) (l := p.needs) (A := B) (n := m) (c := d) (j := i) (z := z) (fun _ => rfl) hA (by kernel_rfl) (by kernel_rfl) (by omega) ⟨rfl, rfl, rfl⟩ hz (by decide) (by kernel_rfl)) (by kernel_rfl) ?_
                  obtain ⟨y, hy⟩ : ∃ y, p.needs[i - 1]? = some y := ⟨_, List.getElem?_eq_getElem (by omega)⟩
                  refine SX.VC_df (.int .i64 (((i - 1 : Nat) : Int))) (fun α => Eq.trans (b := some (.int .i64 (IntKind.i64.wrap ((i : Nat) - 1)))) (by kernel_rfl) (by rw [show ((i - 1 : Nat) : Int) = ((i : Nat) : Int) - 1 by omega, wrap_i64 (by omega) (by omega)])) (by kernel_rfl) ?_
                  refine SX.VC_df (.bool true) (fun α => SX.extBnd (A := B) (n := m) (c := d) (j := i - 1) hA (by kernel_rfl) (by kernel_rfl) (by omega)) (by kernel_rfl) ?_
                  refine SX.VC_df (.int .i64 y) (fun α => SX.extElem (o := 0) (v := .int .i64 y) (f := cellsI) (l := p.needs) (A := B) (n := m) (c := d) (j := i - 1) (z := y) (fun _ => rfl) hA (by kernel_rfl) (by kernel_rfl) (by omega) ⟨rfl, rfl, rfl⟩ hy (by decide) (by kernel_rfl)) (by kernel_rfl) ?_
                  refine SX.VC_df (.bool (decide (z ≤ y))) (by intro α; show _ = _; kernel_rfl) (by kernel_rfl) ?_
                  refine SX.VC_br (decide (z ≤ y)) (by kernel_rfl) (fun h38 => ?_) (fun h38 => ?_)
                  · try simp only [NRM] at h38
                    exact SX.VC_ret fun α W _ _ hS => SX.ret_of hS (x := .bool false) (by kernel_rfl) (by congr 1; symm; exact (by rw [decide_eq_false_iff_not]; first | exact needs_no hz (fun hk => by obtain ⟨⟨q1, q2⟩, q3⟩ := hk; first | omega | (have := q3 y (by omega) hy; omega)) | rintro ⟨⟨a1, a2⟩, ⟨a3, a4⟩, a5, (⟨b1, b2, b3, b4, b5⟩ | ⟨b1, b2, b3, b4⟩ | ⟨b1, b2, b3⟩)⟩ <;> first | omega | contradiction | simp_all [zero_set]))
                  · try simp only [NRM] at h38
                    refine SX.VC_df (.int .i64 (((i + 1 : Nat) : Int))) (fun α => Eq.trans (b := some (.int .i64 (IntKind.i64.wrap ((i : Nat) + 1)))) (by kernel_rfl) (by rw [show ((i + 1 : Nat) : Int) = ((i : Nat) : Int) + 1 by omega, wrap_i64 (by omega) (by omega)])) (by kernel_rfl) ?_
                    exact SX.VC_again fun α => ⟨⟨i + 1, by kernel_rfl, by omega, (needs_succ hz).2 ⟨hnd, ⟨by omega, by omega⟩, fun y' h0 hy' => by rw [hy] at hy'; cases hy'; omega⟩⟩, cast (by kernel_rfl) (show m - ((i + 1 : Nat) : Int).toNat < m - (i : Int).toNat by omega)⟩
                · try simp only [NRM] at h32
                  refine SX.VC_df (.int .i64 (((i + 1 : Nat) : Int))) (fun α => Eq.trans (b := some (.int .i64 (IntKind.i64.wrap ((i : Nat) + 1)))) (by kernel_rfl) (by rw [show ((i + 1 : Nat) : Int) = ((i : Nat) : Int) + 1 by omega, wrap_i64 (by omega) (by omega)])) (by kernel_rfl) ?_
                  exact SX.VC_again fun α => ⟨⟨i + 1, by kernel_rfl, by omega, (needs_succ hz).2 ⟨hnd, ⟨by omega, by omega⟩, fun y' h0 hy' => absurd h0 (by omega)⟩⟩, cast (by kernel_rfl) (show m - ((i + 1 : Nat) : Int).toNat < m - (i : Int).toNat by omega)⟩
          · try simp only [NRM] at h25
            have hN : needsOk p := needs_end hnd (by omega)
            refine SX.VC_df (.bool ((p.kind : Int) == 1)) (by intro α; show _ = _; kernel_rfl) (by kernel_rfl) ?_
            refine SX.VC_br ((p.kind : Int) == 1) (by kernel_rfl) (fun h26 => ?_) (fun h26 => ?_)
            · try simp only [NRM] at h26
              refine SX.VC_df (.bool (decide (p.field < 1))) (by intro α; show _ = _; kernel_rfl) (by kernel_rfl) ?_
              refine SX.VC_br (decide (p.field < 1)) (by kernel_rfl) (fun h27 => ?_) (fun h27 => ?_)
              · try simp only [NRM] at h27
                exact SX.VC_ret fun α W _ _ hS => SX.ret_of hS (x := .bool false) (by kernel_rfl) (by congr 1; symm; exact (by rw [decide_eq_false_iff_not]; first | exact needs_no hz (fun hk => by obtain ⟨⟨q1, q2⟩, q3⟩ := hk; first | omega | (have := q3 y (by omega) hy; omega)) | rintro ⟨⟨a1, a2⟩, ⟨a3, a4⟩, a5, (⟨b1, b2, b3, b4, b5⟩ | ⟨b1, b2, b3, b4⟩ | ⟨b1, b2, b3⟩)⟩ <;> first | omega | contradiction | simp_all [zero_set]))
              · try simp only [NRM] at h27
                refine SX.VC_df (.bool (decide (p.field > 9))) (by intro α; show _ = _; kernel_rfl) (by kernel_rfl) ?_
                refine SX.VC_br (decide (p.field > 9)) (by kernel_rfl) (fun h28 => ?_) (fun h28 => ?_)
                · try simp only [NRM] at h28
                  exact SX.VC_ret fun α W _ _ hS => SX.ret_of hS (x := .bool false) (by kernel_rfl) (by congr 1; symm; exact (by rw [decide_eq_false_iff_not]; first | exact needs_no hz (fun hk => by obtain ⟨⟨q1, q2⟩, q3⟩ := hk; first | omega | (have := q3 y (by omega) hy; omega)) | rintro ⟨⟨a1, a2⟩, ⟨a3, a4⟩, a5, (⟨b1, b2, b3, b4, b5⟩ | ⟨b1, b2, b3, b4⟩ | ⟨b1, b2, b3⟩)⟩ <;> first | omega | contradiction | simp_all [zero_set]))
                · try simp only [NRM] at h28
                  refine SX.VC_df (.agg (cellsSg (setF zeroSg p.field p.new)).toArray) (fun α => ⟨[⟨valSg zeroSg, 0, []⟩, ⟨.int .i64 p.field, 0, []⟩, ⟨valSg p.new, 0, []⟩], ⟨by kernel_rfl, by kernel_rfl, by kernel_rfl, by kernel_rfl, by kernel_rfl, by kernel_rfl, trivial⟩, .inr (.inl ⟨rfl, zeroSg, p.new, p.field, rfl, rfl⟩), SX.noAli rfl⟩) (by kernel_rfl) ?_
                  refine SX.VC_df (.bool (false ^^ decide ((setF zeroSg p.field p.new) = p.new))) (fun α => SX.eqr_rel (f := cellsSg) cellsSg_inj (y := (setF zeroSg p.field p.new)) (z := p.new) (by kernel_rfl) (by kernel_rfl) (by kernel_rfl)) (by kernel_rfl) ?_
                  refine SX.VC_br (false ^^ decide ((setF zeroSg p.field p.new) = p.new)) (by kernel_rfl) (fun h30 => ?_) (fun h30 => ?_)
                  · try simp only [NRM] at h30
                    refine SX.VC_df (.agg (cellsSg (setF plainR p.field p.new)).toArray) (fun α => ⟨[⟨valSg plainR, 0, []⟩, ⟨.int .i64 p.field, 0, []⟩, ⟨valSg p.new, 0, []⟩], ⟨by kernel_rfl, by kernel_rfl, by kernel_rfl, by kernel_rfl, by kernel_rfl, by kernel_rfl, trivial⟩, .inr (.inl ⟨rfl, plainR, p.new, p.field, rfl, rfl⟩), SX.noAli rfl⟩) (by kernel_rfl) ?_
                    refine SX.VC_df (.bool (decide ((setF plainR p.field p.new)).ok)) (fun α => ⟨[⟨valSg ((setF plainR p.field p.new)), 0, []⟩], ⟨by kernel_rfl, by kernel_rfl, trivial⟩, .inr (.inr (.inr (⟨rfl, (setF plainR p.field p.new), rfl, rfl⟩))), SX.noAli rfl⟩) (by kernel_rfl) ?_
                    exact SX.VC_ret fun α W _ _ hS => SX.ret_of hS (x := .bool (decide ((setF plainR p.field p.new)).ok)) (by kernel_rfl) (by congr 1; symm; rw [Bool.eq_iff_iff]; simp only [decide_eq_true_eq, okP_iff, kindOk_iff, plain_ok (y := p.new) (show 1 ≤ p.field by omega) (show p.field ≤ 9 by omega), zero_set (y := p.new) (show 1 ≤ p.field by omega) (show p.field ≤ 9 by omega), h26, h30]; simp; exact ⟨fun hk => hk.2.2.2.2.2, fun hk => ⟨⟨by omega, by omega⟩, ⟨by omega, by omega⟩, hN, by omega, by omega, hk⟩⟩)
                  · try simp only [NRM] at h30
                    exact SX.VC_ret fun α W _ _ hS => SX.ret_of hS (x := .bool false) (by kernel_rfl) (by congr 1; symm; exact (by rw [decide_eq_false_iff_not]; first | exact needs_no hz (fun hk => by obtain ⟨⟨q1, q2⟩, q3⟩ := hk; first | omega | (have := q3 y (by omega) hy; omega)) | rintro ⟨⟨a1, a2⟩, ⟨a3, a4⟩, a5, (⟨b1, b2, b3, b4, b5⟩ | ⟨b1, b2, b3, b4⟩ | ⟨b1, b2, b3⟩)⟩ <;> first | omega | contradiction | simp_all [zero_set]))
            · try simp only [NRM] at h26
              refine SX.VC_df (.bool ((p.kind : Int) == 2)) (by intro α; show _ = _; kernel_rfl) (by kernel_rfl) ?_
              refine SX.VC_br ((p.kind : Int) == 2) (by kernel_rfl) (fun h27 => ?_) (fun h27 => ?_)
              · try simp only [NRM] at h27
                refine SX.VC_df (.bool ((p.field : Int) == 0)) (by intro α; show _ = _; kernel_rfl) (by kernel_rfl) ?_
                refine SX.VC_br ((p.field : Int) == 0) (by kernel_rfl) (fun h28 => ?_) (fun h28 => ?_)
                · try simp only [NRM] at h28
                  refine SX.VC_df (.bool ((p.new.id : Int) == p.sign)) (by intro α; show _ = _; kernel_rfl) (by kernel_rfl) ?_
                  refine SX.VC_br ((p.new.id : Int) == p.sign) (by kernel_rfl) (fun h29 => ?_) (fun h29 => ?_)
                  · try simp only [NRM] at h29
                    refine SX.VC_df (.bool (decide p.new.ok)) (fun α => ⟨[⟨valSg p.new, 0, []⟩], ⟨by kernel_rfl, by kernel_rfl, trivial⟩, .inr (.inr (.inr (⟨rfl, p.new, rfl, rfl⟩))), SX.noAli rfl⟩) (by kernel_rfl) ?_
                    exact SX.VC_ret fun α W _ _ hS => SX.ret_of hS (x := .bool (decide p.new.ok)) (by kernel_rfl) (by congr 1; symm; rw [Bool.eq_iff_iff]; simp only [decide_eq_true_eq, okP_iff, kindOk_iff, h27, h28, h29]; simp; exact ⟨fun hk => hk.2.2.2, fun hk => ⟨⟨by omega, by omega⟩, ⟨by omega, by omega⟩, hN, hk⟩⟩)
                  · try simp only [NRM] at h29
                    exact SX.VC_ret fun α W _ _ hS => SX.ret_of hS (x := .bool false) (by kernel_rfl) (by congr 1; symm; exact (by rw [decide_eq_false_iff_not]; first | exact needs_no hz (fun hk => by obtain ⟨⟨q1, q2⟩, q3⟩ := hk; first | omega | (have := q3 y (by omega) hy; omega)) | rintro ⟨⟨a1, a2⟩, ⟨a3, a4⟩, a5, (⟨b1, b2, b3, b4, b5⟩ | ⟨b1, b2, b3, b4⟩ | ⟨b1, b2, b3⟩)⟩ <;> first | omega | contradiction | simp_all [zero_set]))
                · try simp only [NRM] at h28
                  exact SX.VC_ret fun α W _ _ hS => SX.ret_of hS (x := .bool false) (by kernel_rfl) (by congr 1; symm; exact (by rw [decide_eq_false_iff_not]; first | exact needs_no hz (fun hk => by obtain ⟨⟨q1, q2⟩, q3⟩ := hk; first | omega | (have := q3 y (by omega) hy; omega)) | rintro ⟨⟨a1, a2⟩, ⟨a3, a4⟩, a5, (⟨b1, b2, b3, b4, b5⟩ | ⟨b1, b2, b3, b4⟩ | ⟨b1, b2, b3⟩)⟩ <;> first | omega | contradiction | simp_all [zero_set]))
              · try simp only [NRM] at h27
                refine SX.VC_df (.bool ((p.kind : Int) == 3)) (by intro α; show _ = _; kernel_rfl) (by kernel_rfl) ?_
                refine SX.VC_br ((p.kind : Int) == 3) (by kernel_rfl) (fun h28 => ?_) (fun h28 => ?_)
                · try simp only [NRM] at h28
                  refine SX.VC_df (.bool ((p.field : Int) == 0)) (by intro α; show _ = _; kernel_rfl) (by kernel_rfl) ?_
                  refine SX.VC_br ((p.field : Int) == 0) (by kernel_rfl) (fun h29 => ?_) (fun h29 => ?_)
                  · try simp only [NRM] at h29
                    refine SX.VC_df (.bool (false ^^ decide (p.new = zeroSg))) (fun α => SX.eqr_rel (f := cellsSg) cellsSg_inj (y := p.new) (z := zeroSg) (by kernel_rfl) (by kernel_rfl) (by kernel_rfl)) (by kernel_rfl) ?_
                    exact SX.VC_ret fun α W _ _ hS => SX.ret_of hS (x := .bool (false ^^ decide (p.new = zeroSg))) (by kernel_rfl) (by congr 1; symm; rw [Bool.eq_iff_iff]; simp only [Bool.false_xor, decide_eq_true_eq, okP_iff, kindOk_iff, h28, h29]; simp; exact ⟨fun hk => hk.2.2.2, fun hk => ⟨⟨by omega, by omega⟩, ⟨by omega, by omega⟩, hN, hk⟩⟩)
                  · try simp only [NRM] at h29
                    exact SX.VC_ret fun α W _ _ hS => SX.ret_of hS (x := .bool false) (by kernel_rfl) (by congr 1; symm; exact (by rw [decide_eq_false_iff_not]; first | exact needs_no hz (fun hk => by obtain ⟨⟨q1, q2⟩, q3⟩ := hk; first | omega | (have := q3 y (by omega) hy; omega)) | rintro ⟨⟨a1, a2⟩, ⟨a3, a4⟩, a5, (⟨b1, b2, b3, b4, b5⟩ | ⟨b1, b2, b3, b4⟩ | ⟨b1, b2, b3⟩)⟩ <;> first | omega | contradiction | simp_all [zero_set]))
                · try simp only [NRM] at h28
                  exact SX.VC_ret fun α W _ _ hS => SX.ret_of hS (x := .bool false) (by kernel_rfl) (by congr 1; symm; exact (by rw [decide_eq_false_iff_not]; first | exact needs_no hz (fun hk => by obtain ⟨⟨q1, q2⟩, q3⟩ := hk; first | omega | (have := q3 y (by omega) hy; omega)) | rintro ⟨⟨a1, a2⟩, ⟨a3, a4⟩, a5, (⟨b1, b2, b3, b4, b5⟩ | ⟨b1, b2, b3, b4⟩ | ⟨b1, b2, b3⟩)⟩ <;> first | omega | contradiction | simp_all [zero_set]))
end Go.Proofs.Ytodlcjhefojibaa
