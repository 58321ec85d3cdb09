/-
  Invert: the program and the specification; equal lists.
-/
import Derived.Test.YtodlcjhefojibaaPj
namespace Go.Proofs.Ytodlcjhefojibaa
set_option linter.unusedSimpArgs false
set_option linter.unusedVariables false
open Go Go.RowKit
def zeroPt : Pt := ⟨0, 0, 0, 0, zeroSg, []⟩
/-- the patch that undoes another one -/
def invP (ss : List Sg) (p : Pt) (id : Int) : Pt :=
  if p.kind = 1 then ⟨id, 1, p.sign, p.field, setF zeroSg p.field (ss.getD (idx ss p.sign) default), [p.id]⟩
  else if p.kind = 2 then ⟨id, 3, p.sign, 0, zeroSg, [p.id]⟩
  else ⟨id, 2, p.sign, 0, ss.getD (idx ss p.sign) default, [p.id]⟩
def invS (ss : List Sg) (p : Pt) (id : Int) : Pt × Int :=
  if (runS ss [p]).2 = 0 then (if id ≤ p.id ∨ 1048576 < id ∨ (p.kind = 3 ∧ there ss p.sign = false) then (zeroPt, 370) else (invP ss p id, 0)) else (zeroPt, (runS ss [p]).2)
theorem run_ok {ss : List Sg} {p : Pt} (h : (runS ss [p]).2 = 0) : chkS ss = 0 ∧ chkP p = 0 ∧ (applyS ss p).2 = 0 := by
  by_cases h1 : chkS ss = 0
  · by_cases h2 : chkP p = 0
    · rw [run1 h1 h2] at h
      exact ⟨h1, h2, h⟩
    · rw [runS, if_pos h1, if_neg (by simp), runL, if_neg h2] at h
      exact absurd h h2
  · rw [runS, if_neg h1] at h
    exact absurd h h1
theorem apply_there {ss : List Sg} {p : Pt} (h : (applyS ss p).2 = 0) (hk : p.kind = 1) : there ss p.sign = true := by
  unfold applyS at h
  rw [if_pos hk] at h
  split at h
  · assumption
  · simp at h
theorem okP.kinds {p : Pt} (h : okP p) : p.kind = 1 ∨ p.kind = 2 ∨ p.kind = 3 := by
  rcases h.2.2.2 with h | h | h
  · exact .inl h.1
  · exact .inr (.inl h.1)
  · exact .inr (.inr h.1)
theorem okP.fld {p : Pt} (h : okP p) (hk : p.kind ≠ 1) : p.field = 0 := by
  rcases h.2.2.2 with h | h | h
  · exact absurd h.1 hk
  · exact h.2.1
  · exact h.2.1
theorem okP.fld1 {p : Pt} (h : okP p) (hk : p.kind = 1) : 1 ≤ p.field ∧ p.field ≤ 9 := by
  rcases h.2.2.2 with h | h | h
  · exact ⟨h.2.1, h.2.2.1⟩
  · omega
  · omega
/-- what is known for Invert -/
def RK (K : Value → Nat → List Value → Prop) (f : FuncId) (xs : List SX.Arg) (v : Value) : Prop :=
  (f = 12 ∧ ∃ (u : Value) (ss : List Sg) (p : Pt) (B : Option Addr) (m d : Nat), xs = [⟨u, 14, sgsL ss⟩, ⟨valP p (.slice B m d), 0, []⟩] ∧ ss.length ≤ 9223372036854775807 ∧ K (.slice B m d) 1 (intsL p.needs) ∧ p.needs.length ≤ 9223372036854775807 ∧ v = .tuple #[.agg (sgsL (runS ss [p]).1).toArray, .int .i64 (runS ss [p]).2]) ∨
  (f = 13 ∧ ∃ (u : Value) (ss : List Sg) (p : Pt) (B : Option Addr) (m d : Nat), xs = [⟨u, 14, sgsL ss⟩, ⟨valP p (.slice B m d), 0, []⟩] ∧ ss.length ≤ 9223372036854775807 ∧ K (.slice B m d) 1 (intsL p.needs) ∧ p.needs.length ≤ 9223372036854775807 ∧ v = .tuple #[.agg (sgsL (runS ss [p]).1).toArray, .int .i64 (runS ss [p]).2]) ∨
  (f = 39 ∧ ∃ (u : Value) (ss : List Sg) (id : Int), xs = [⟨u, 14, sgsL ss⟩, ⟨.int .i64 id, 0, []⟩] ∧ ss.length ≤ 9007199254740992 ∧ okL ss ∧ 0 ≤ id ∧ id ≤ 1048576 ∧ v = .tuple #[.int .i64 (idx ss id), .bool (there ss id)]) ∨
  (f = 40 ∧ ∃ (u : Value) (ss : List Sg) (id : Int), xs = [⟨u, 14, sgsL ss⟩, ⟨.int .i64 id, 0, []⟩] ∧ ss.length ≤ 9223372036854775807 ∧ v = .tuple #[.int .i64 (idx ss id), .bool (there ss id)]) ∨
  (f = 35 ∧ ∃ (x y : Sg) (f : Int), xs = [⟨valSg x, 0, []⟩, ⟨.int .i64 f, 0, []⟩, ⟨valSg y, 0, []⟩] ∧ 1 ≤ f ∧ f ≤ 9 ∧ v = valSg (setF x f y)) ∨
  (f = 29 ∧ ∃ (x y : Sg) (f : Int), xs = [⟨valSg x, 0, []⟩, ⟨.int .i64 f, 0, []⟩, ⟨valSg y, 0, []⟩] ∧ v = valSg (setF x f y))
def shpK : FuncId → Option SX.Sh := fun f => if f = 12 then some (.tp [.sl 14, .one]) else if f = 13 then some (.tp [.sl 14, .one]) else if f = 39 then some (.tp [.one, .one]) else if f = 40 then some (.tp [.one, .one]) else if f = 35 then some (.ag 14) else if f = 29 then some (.ag 14) else none
noncomputable def cxK (K A : Value → Nat → List Value → Prop) : SX.Cx := { P := Try.prog, R := RK, shp := shpK, K := K, A := A, ali := fun f => if f = 12 then [0] else if f = 13 then [0] else [] }
theorem okK (K A : Value → Nat → List Value → Prop) : (cxK K A).Ok := by
  refine SX.Cx.ok_of (fun _ => rfl) ?_
  intro K f xs v W hR hrd hKf
  rcases hR with ⟨rfl, u, ss, p, B, m, d, rfl, hl, hK, hl2, rfl⟩ | ⟨rfl, u, ss, p, B, m, d, rfl, hl, hK, hl2, rfl⟩ | ⟨rfl, u, ss, id, rfl, hl, hs, h0, h1, rfl⟩ | ⟨rfl, u, ss, id, rfl, hl, rfl⟩ | ⟨rfl, x, y, f, rfl, h1, h9, rfl⟩ | ⟨rfl, x, y, f, rfl, rfl⟩
  · refine Calls.mono ?_ fun e w' h => SX.SlRet.ok rfl rfl h
    obtain ⟨A, n, c, rfl, h2, h3, h4⟩ := sgs_arg (hrd ⟨u, 14, sgsL ss⟩ (by simp))
    have hR := hKf _ _ _ hK
    have hm : m ≤ 9223372036854775807 := by have := hR.1.1; simp only [intsL_len] at this; omega
    exact papply_any ss A n c p B m d W h2 (by omega) h3 hR.1 hm hR.2
  · refine Calls.mono ?_ fun e w' h => SX.SlRet.ok rfl rfl h
    obtain ⟨A, n, c, rfl, h2, h3, h4⟩ := sgs_arg (hrd ⟨u, 14, sgsL ss⟩ (by simp))
    have hR := hKf _ _ _ hK
    have hm : m ≤ 9223372036854775807 := by have := hR.1.1; simp only [intsL_len] at this; omega
    exact rapply2_any ss A n c p B m d W h2 (by omega) h3 hR.1 hm hR.2
  · obtain ⟨A, n, c, rfl, h2, h3, h4⟩ := sgs_arg (hrd ⟨u, 14, sgsL ss⟩ (by simp))
    exact (at_any ss A n c id W h2 (by omega) h3 hs h0 h1).mono fun e w' h => SX.plainOk rfl h
  · obtain ⟨A, n, c, rfl, h2, h3, h4⟩ := sgs_arg (hrd ⟨u, 14, sgsL ss⟩ (by simp))
    exact (At_any ss A n c id W h2 (by omega) h3).mono fun e w' h => SX.plainOk rfl h
  · exact (set_any x y f W h1 h9).mono fun e w' h => SX.plainOk rfl h
  · exact (Set_any x y f W).mono fun e w' h => SX.plainOk rfl h
def tree_inv : SX.Tree :=
(.df (.call 12 [(.ext 14), .no]) [(.x 0 []), (.a [(.x 1 []), (.x 2 []), (.x 3 []), (.x 4 []), (.x 5 []), (.x 6 []), (.x 7 []), (.x 8 []), (.x 9 []), (.x 10 []), (.x 11 []), (.x 12 []), (.x 13 []), (.x 14 []), (.x 15 []), (.x 16 []), (.x 17 []), (.x 18 []), (.x 19 [])])] (.tp [(.sl 14), .one]) 
(.df (.bin .neq 32) [(.x 21 [1]), (.k (.int .i64 0))] .one 
(.br 22 [] 
(.ret (.t [(.a [(.k (.int .i64 0)), (.k (.int .i64 0)), (.k (.int .i64 0)), (.k (.int .i64 0)), (.k (.int .i64 0)), (.k (.int .i64 0)), (.k (.int .i64 0)), (.k (.int .i64 0)), (.k (.int .i64 0)), (.k (.int .i64 0)), (.k (.int .i64 0)), (.k (.int .i64 0)), (.k (.int .i64 0)), (.k (.int .i64 0)), (.k (.int .i64 0)), (.k (.int .i64 0)), (.k (.int .i64 0)), (.k (.int .i64 0)), (.k (.slice none 0 0))]), (.x 21 [1])]) [none, none, none] []) 
(.df (.call 39 [(.ext 14), .no]) [(.x 0 []), (.x 3 [])] (.tp [.one, .one]) 
(.df (.bin .leq 3) [(.x 20 []), (.x 1 [])] .one 
(.br 24 [] 
(.ret (.t [(.a [(.k (.int .i64 0)), (.k (.int .i64 0)), (.k (.int .i64 0)), (.k (.int .i64 0)), (.k (.int .i64 0)), (.k (.int .i64 0)), (.k (.int .i64 0)), (.k (.int .i64 0)), (.k (.int .i64 0)), (.k (.int .i64 0)), (.k (.int .i64 0)), (.k (.int .i64 0)), (.k (.int .i64 0)), (.k (.int .i64 0)), (.k (.int .i64 0)), (.k (.int .i64 0)), (.k (.int .i64 0)), (.k (.int .i64 0)), (.k (.slice none 0 0))]), (.k (.int .i64 370))]) [none, none, none] []) 
(.df (.bin .gtr 3) [(.x 20 []), (.k (.int .i64 1048576))] .one 
(.br 25 [] 
(.ret (.t [(.a [(.k (.int .i64 0)), (.k (.int .i64 0)), (.k (.int .i64 0)), (.k (.int .i64 0)), (.k (.int .i64 0)), (.k (.int .i64 0)), (.k (.int .i64 0)), (.k (.int .i64 0)), (.k (.int .i64 0)), (.k (.int .i64 0)), (.k (.int .i64 0)), (.k (.int .i64 0)), (.k (.int .i64 0)), (.k (.int .i64 0)), (.k (.int .i64 0)), (.k (.int .i64 0)), (.k (.int .i64 0)), (.k (.int .i64 0)), (.k (.slice none 0 0))]), (.k (.int .i64 370))]) [none, none, none] []) 
(.df (.bin .eql 3) [(.x 2 []), (.k (.int .i64 3))] .one 
(.br 26 [] 
(.df .not [(.x 23 [1])] .one 
(.br 27 [] 
(.ret (.t [(.a [(.k (.int .i64 0)), (.k (.int .i64 0)), (.k (.int .i64 0)), (.k (.int .i64 0)), (.k (.int .i64 0)), (.k (.int .i64 0)), (.k (.int .i64 0)), (.k (.int .i64 0)), (.k (.int .i64 0)), (.k (.int .i64 0)), (.k (.int .i64 0)), (.k (.int .i64 0)), (.k (.int .i64 0)), (.k (.int .i64 0)), (.k (.int .i64 0)), (.k (.int .i64 0)), (.k (.int .i64 0)), (.k (.int .i64 0)), (.k (.slice none 0 0))]), (.k (.int .i64 370))]) [none, none, none] []) 
(.df (.bin .eql 3) [(.x 2 []), (.k (.int .i64 1))] .one 
(.br 28 [] 
(.df .bnd [(.x 0 []), (.x 23 [0])] .one 
(.df (.elems 14 0 14) [(.x 0 []), (.x 23 [0])] (.ag 14) 
(.df (.call 35 [.no, .no, .no]) [(.a [(.k (.int .i64 0)), (.k (.int .i64 0)), (.k (.int .i64 0)), (.k (.int .i64 0)), (.k (.int .i64 0)), (.k (.int .i64 0)), (.k (.int .i64 0)), (.k (.int .i64 0)), (.k (.int .i64 0)), (.k (.int .i64 0)), (.k (.int .i64 0)), (.k (.int .i64 0)), (.k (.int .i64 0)), (.k (.int .i64 0))]), (.x 4 []), (.a [(.x 30 [0]), (.x 30 [1]), (.x 30 [2]), (.x 30 [3]), (.x 30 [4]), (.x 30 [5]), (.x 30 [6]), (.x 30 [7]), (.x 30 [8]), (.x 30 [9]), (.x 30 [10]), (.x 30 [11]), (.x 30 [12]), (.x 30 [13])])] (.ag 14) 
(.ret (.t [(.a [(.x 20 []), (.x 2 []), (.x 3 []), (.x 4 []), (.x 31 [0]), (.x 31 [1]), (.x 31 [2]), (.x 31 [3]), (.x 31 [4]), (.x 31 [5]), (.x 31 [6]), (.x 31 [7]), (.x 31 [8]), (.x 31 [9]), (.x 31 [10]), (.x 31 [11]), (.x 31 [12]), (.x 31 [13]), (.sl 3 0 1 1)]), (.k (.int .i64 0))]) [none, none, none, (some ⟨[(.x 1 [])], 3, .cells⟩), none, none, none, none, none, none, none, none, none, none, none] [])))) 
(.df (.bin .eql 3) [(.x 2 []), (.k (.int .i64 2))] .one 
(.br 29 [] 
(.ret (.t [(.a [(.x 20 []), (.k (.int .i64 3)), (.x 3 []), (.x 4 []), (.k (.int .i64 0)), (.k (.int .i64 0)), (.k (.int .i64 0)), (.k (.int .i64 0)), (.k (.int .i64 0)), (.k (.int .i64 0)), (.k (.int .i64 0)), (.k (.int .i64 0)), (.k (.int .i64 0)), (.k (.int .i64 0)), (.k (.int .i64 0)), (.k (.int .i64 0)), (.k (.int .i64 0)), (.k (.int .i64 0)), (.sl 3 0 1 1)]), (.k (.int .i64 0))]) [none, none, none, (some ⟨[(.x 1 [])], 3, .cells⟩)] []) 
(.df .bnd [(.x 0 []), (.x 23 [0])] .one 
(.df (.elems 14 0 14) [(.x 0 []), (.x 23 [0])] (.ag 14) 
(.ret (.t [(.a [(.x 20 []), (.k (.int .i64 2)), (.x 3 []), (.x 4 []), (.x 31 [0]), (.x 31 [1]), (.x 31 [2]), (.x 31 [3]), (.x 31 [4]), (.x 31 [5]), (.x 31 [6]), (.x 31 [7]), (.x 31 [8]), (.x 31 [9]), (.x 31 [10]), (.x 31 [11]), (.x 31 [12]), (.x 31 [13]), (.sl 3 0 1 1)]), (.k (.int .i64 0))]) [none, none, none, (some ⟨[(.x 1 [])], 3, .cells⟩), none, none, none, none, none, none, none, none] []))))))))) 
(.df (.bin .eql 3) [(.x 2 []), (.k (.int .i64 1))] .one 
(.br 27 [] 
(.df .bnd [(.x 0 []), (.x 23 [0])] .one 
(.df (.elems 14 0 14) [(.x 0 []), (.x 23 [0])] (.ag 14) 
(.df (.call 35 [.no, .no, .no]) [(.a [(.k (.int .i64 0)), (.k (.int .i64 0)), (.k (.int .i64 0)), (.k (.int .i64 0)), (.k (.int .i64 0)), (.k (.int .i64 0)), (.k (.int .i64 0)), (.k (.int .i64 0)), (.k (.int .i64 0)), (.k (.int .i64 0)), (.k (.int .i64 0)), (.k (.int .i64 0)), (.k (.int .i64 0)), (.k (.int .i64 0))]), (.x 4 []), (.a [(.x 29 [0]), (.x 29 [1]), (.x 29 [2]), (.x 29 [3]), (.x 29 [4]), (.x 29 [5]), (.x 29 [6]), (.x 29 [7]), (.x 29 [8]), (.x 29 [9]), (.x 29 [10]), (.x 29 [11]), (.x 29 [12]), (.x 29 [13])])] (.ag 14) 
(.ret (.t [(.a [(.x 20 []), (.x 2 []), (.x 3 []), (.x 4 []), (.x 30 [0]), (.x 30 [1]), (.x 30 [2]), (.x 30 [3]), (.x 30 [4]), (.x 30 [5]), (.x 30 [6]), (.x 30 [7]), (.x 30 [8]), (.x 30 [9]), (.x 30 [10]), (.x 30 [11]), (.x 30 [12]), (.x 30 [13]), (.sl 3 0 1 1)]), (.k (.int .i64 0))]) [none, none, none, (some ⟨[(.x 1 [])], 3, .cells⟩), none, none, none, none, none, none, none, none, none, none, none] [])))) 
(.df (.bin .eql 3) [(.x 2 []), (.k (.int .i64 2))] .one 
(.br 28 [] 
(.ret (.t [(.a [(.x 20 []), (.k (.int .i64 3)), (.x 3 []), (.x 4 []), (.k (.int .i64 0)), (.k (.int .i64 0)), (.k (.int .i64 0)), (.k (.int .i64 0)), (.k (.int .i64 0)), (.k (.int .i64 0)), (.k (.int .i64 0)), (.k (.int .i64 0)), (.k (.int .i64 0)), (.k (.int .i64 0)), (.k (.int .i64 0)), (.k (.int .i64 0)), (.k (.int .i64 0)), (.k (.int .i64 0)), (.sl 3 0 1 1)]), (.k (.int .i64 0))]) [none, none, none, (some ⟨[(.x 1 [])], 3, .cells⟩)] []) 
(.df .bnd [(.x 0 []), (.x 23 [0])] .one 
(.df (.elems 14 0 14) [(.x 0 []), (.x 23 [0])] (.ag 14) 
(.ret (.t [(.a [(.x 20 []), (.k (.int .i64 2)), (.x 3 []), (.x 4 []), (.x 30 [0]), (.x 30 [1]), (.x 30 [2]), (.x 30 [3]), (.x 30 [4]), (.x 30 [5]), (.x 30 [6]), (.x 30 [7]), (.x 30 [8]), (.x 30 [9]), (.x 30 [10]), (.x 30 [11]), (.x 30 [12]), (.x 30 [13]), (.sl 3 0 1 1)]), (.k (.int .i64 0))]) [none, none, none, (some ⟨[(.x 1 [])], 3, .cells⟩), none, none, none, none, none, none, none, none] [])))))))))))))))))
def args_inv : List SX.V := [.x 0 [], .a ((List.range 19).map fun j => .x (1 + j) []), .x 20 []]
set_option maxRecDepth 100000 in
theorem run_inv (K A : Value → Nat → List Value → Prop) : (SX.run (cxK K A) ⟨fun _ => false, [], 2, 100⟩ 100000 0 (SX.door 20 Try.f20 args_inv (List.replicate 21 .one)) [.code (Try.f20.body.getD .skip), .top Try.f20]).strip = tree_inv := by kernel_rfl
set_option maxRecDepth 100000 in
set_option maxHeartbeats 4000000 in
theorem inv_any (ss : List Sg) (A : Option Addr) (n c : Nat) (p : Pt) (B : Option Addr) (m d : Nat) (id : Int) (w : World) (hr : Rd w 14 A n (sgsL ss)) (hn : n ≤ 9223372036854775807) (hc : n ≤ c) (hp : Rd w 1 B m (intsL p.needs)) (hm : m ≤ 9223372036854775807) (hmd : m ≤ d) : Calls Try.prog 20 #[.slice A n c, valP p (.slice B m d), .int .i64 id] w fun e w' => Below w.heap.size w w' ∧ ∃ hdr, e = .returned (.tuple #[valP (invS ss p id).1 hdr, .int .i64 (invS ss p id).2]) ∧ SX.SlRet w w' [] hdr 1 (intsL (invS ss p id).1.needs) := by
  refine SX.calls_of_run (C := cxK (apK A n c ss p (.slice B m d)) (runA A n c ss)) (G := ⟨fun _ => false, [], 2, 100⟩) (args := args_inv) (sh := (List.replicate 21 .one)) (ρ := ([.slice A n c] ++ cellsP p (.slice B m d) ++ [.int .i64 id])) 100000 tree_inv (okK _ _) Try.func20 rfl (run_inv _ _) (by kernel_rfl) (by kernel_rfl) (by kernel_rfl) ?_ ?_
  · rintro W hW s sz cells (⟨rfl, rfl, rfl⟩ | ⟨rfl, rfl, rfl⟩)
    · exact ⟨hr.same0 hW, hc⟩
    · exact ⟨hp.same0 hW, hmd⟩
  have hA := SX.rd_some hr
  have hln : ss.length = n := by have := hr.1; rw [sgsL_len] at this; omega
  have hlm : p.needs.length = m := by have := hp.1; rw [intsL_len] at this; omega
  have k1 : apK A n c ss p (.slice B m d) (.slice A n c) 14 (sgsL ss) := .inl ⟨rfl, rfl, rfl⟩
  have k2 : apK A n c ss p (.slice B m d) (.slice B m d) 1 (intsL p.needs) := .inr ⟨rfl, rfl, rfl⟩
  have a1 : runA A n c ss (.slice A n c) 14 (sgsL ss) := ⟨rfl, rfl, rfl⟩
  unfold tree_inv
  refine SX.VC_df (.tuple #[Value.agg (sgsL (runS ss [p]).1).toArray, .int .i64 ((runS ss [p]).2)]) (fun α => ⟨[⟨.slice A n c, 14, sgsL ss⟩, ⟨valP p (.slice B m d), 0, []⟩], ⟨by kernel_rfl, rfl, cast (by kernel_rfl) k1, by kernel_rfl, by kernel_rfl, trivial⟩, .inl ⟨rfl, _, ss, p, B, m, d, rfl, by omega, k2, by omega, rfl⟩, fun j hj x sz hx h => match j, hx, h with | 0, hx, _ => by (cases hx; exact cast (by kernel_rfl) a1) | 1, _, h => by cases h | _ + 2, _, h => by cases h⟩) (sgs_fit _ _) ?_
  refine SX.VC_df (.bool (((runS ss [p]).2 : Int) != 0)) (by intro α; show _ = _; kernel_rfl) (by kernel_rfl) ?_
  refine SX.VC_br (((runS ss [p]).2 : Int) != 0) (by kernel_rfl) (fun h22 => ?_) (fun h22 => ?_)
  · try simp only [NRM] at h22
    have hfact : invS ss p id = (zeroPt, (runS ss [p]).2) := by rw [invS, if_neg h22]
    exact SX.VC_ret fun α W _ _ hS => ⟨hS.below, (.slice none 0 0), Eq.trans (b := Ending.returned (.tuple #[valP zeroPt (.slice none 0 0), .int .i64 ((runS ss [p]).2)])) (by kernel_rfl) (by rw [hfact]), (by rw [hfact]; exact SX.SlRet.nil)⟩
  · try simp only [NRM] at h22
    obtain ⟨hs0, hp0, ha0⟩ := run_ok h22
    have hok := chkP_ok hp0
    have hth : p.kind = 1 → there ss p.sign = true := fun hk => apply_there ha0 hk
    have hkk : p.kind = 1 ∨ p.kind = 2 ∨ p.kind = 3 := hok.kinds
    have hfl : p.kind ≠ 1 → p.field = 0 := hok.fld
    have hff : p.kind = 1 → 1 ≤ p.field ∧ p.field ≤ 9 := hok.fld1
    refine SX.VC_df (.tuple #[.int .i64 (((idx ss p.sign : Nat) : Int)), .bool (there ss p.sign)]) (fun α => ⟨[⟨.slice A n c, 14, sgsL ss⟩, ⟨.int .i64 p.sign, 0, []⟩], ⟨by kernel_rfl, rfl, cast (by kernel_rfl) k1, by kernel_rfl, by kernel_rfl, trivial⟩, .inr (.inr (.inl ⟨rfl, _, ss, p.sign, rfl, by have := (chkS_ok hs0).2; omega, (chkS_ok hs0).1, hok.2.1.1, hok.2.1.2, rfl⟩)), SX.noAli rfl⟩) (by kernel_rfl) ?_
    refine SX.VC_df (.bool (decide (id ≤ p.id))) (by intro α; show _ = _; kernel_rfl) (by kernel_rfl) ?_
    refine SX.VC_br (decide (id ≤ p.id)) (by kernel_rfl) (fun h24 => ?_) (fun h24 => ?_)
    · try simp only [NRM] at h24
      have hfact : invS ss p id = (zeroPt, 370) := by rw [invS, if_pos h22, if_pos (by first | (left; omega) | (right; left; omega) | (right; right; refine ⟨by omega, ?_⟩; simpa using h27))]
      exact SX.VC_ret fun α W _ _ hS => ⟨hS.below, (.slice none 0 0), Eq.trans (b := Ending.returned (.tuple #[valP zeroPt (.slice none 0 0), .int .i64 370])) (by kernel_rfl) (by rw [hfact]), (by rw [hfact]; exact SX.SlRet.nil)⟩
    · try simp only [NRM] at h24
      refine SX.VC_df (.bool (decide (id > 1048576))) (by intro α; show _ = _; kernel_rfl) (by kernel_rfl) ?_
      refine SX.VC_br (decide (id > 1048576)) (by kernel_rfl) (fun h25 => ?_) (fun h25 => ?_)
      · try simp only [NRM] at h25
        have hfact : invS ss p id = (zeroPt, 370) := by rw [invS, if_pos h22, if_pos (by first | (left; omega) | (right; left; omega) | (right; right; refine ⟨by omega, ?_⟩; simpa using h27))]
        exact SX.VC_ret fun α W _ _ hS => ⟨hS.below, (.slice none 0 0), Eq.trans (b := Ending.returned (.tuple #[valP zeroPt (.slice none 0 0), .int .i64 370])) (by kernel_rfl) (by rw [hfact]), (by rw [hfact]; exact SX.SlRet.nil)⟩
      · try simp only [NRM] at h25
        refine SX.VC_df (.bool ((p.kind : Int) == 3)) (by intro α; show _ = _; kernel_rfl) (by kernel_rfl) ?_
        refine SX.VC_br ((p.kind : Int) == 3) (by kernel_rfl) (fun h26 => ?_) (fun h26 => ?_)
        · try simp only [NRM] at h26
          refine SX.VC_df (.bool (!(there ss p.sign))) (by intro α; show _ = _; kernel_rfl) (by kernel_rfl) ?_
          refine SX.VC_br (!(there ss p.sign)) (by kernel_rfl) (fun h27 => ?_) (fun h27 => ?_)
          · try simp only [NRM] at h27
            have hfact : invS ss p id = (zeroPt, 370) := by rw [invS, if_pos h22, if_pos (by first | (left; omega) | (right; left; omega) | (right; right; refine ⟨by omega, ?_⟩; simpa using h27))]
            exact SX.VC_ret fun α W _ _ hS => ⟨hS.below, (.slice none 0 0), Eq.trans (b := Ending.returned (.tuple #[valP zeroPt (.slice none 0 0), .int .i64 370])) (by kernel_rfl) (by rw [hfact]), (by rw [hfact]; exact SX.SlRet.nil)⟩
          · try simp only [NRM] at h27
            refine SX.VC_df (.bool ((p.kind : Int) == 1)) (by intro α; show _ = _; kernel_rfl) (by kernel_rfl) ?_
            refine SX.VC_br ((p.kind : Int) == 1) (by kernel_rfl) (fun h28 => absurd h28 (by simp only [beq_iff_eq]; omega)) (fun h28 => ?_)
            try simp only [NRM] at h28
            refine SX.VC_df (.bool ((p.kind : Int) == 2)) (by intro α; show _ = _; kernel_rfl) (by kernel_rfl) ?_
            refine SX.VC_br ((p.kind : Int) == 2) (by kernel_rfl) (fun h29 => absurd h29 (by simp only [beq_iff_eq]; omega)) (fun h29 => ?_)
            try simp only [NRM] at h29
            obtain ⟨z, hz⟩ := there_lt (show there ss p.sign = true by first | exact hth (by omega) | simpa using h27 | simp_all)
            have hil : idx ss p.sign < ss.length := (List.getElem?_eq_some_iff.1 hz).1
            refine SX.VC_df (.bool true) (fun α => SX.extBnd (A := A) (n := n) (c := c) (j := idx ss p.sign) hA (by kernel_rfl) (by kernel_rfl) (by omega)) (by kernel_rfl) ?_
            refine SX.VC_df (.agg (cellsSg z).toArray) (fun α => SX.extElems (f := cellsSg) (l := ss) (A := A) (n := n) (c := c) (j := idx ss p.sign) (z := z) (fun _ => rfl) hA (by kernel_rfl) (by kernel_rfl) (by omega) k1 hz) (by kernel_rfl) ?_
            have hfact : invS ss p id = ((⟨id, 2, p.sign, p.field, z, [p.id]⟩ : Pt), 0) := by
              rw [invS, if_pos h22, if_neg (by rintro (h | h | ⟨h, h'⟩) <;> first | omega | simp_all)]
              unfold invP
              first
                | (rw [if_pos (by omega : p.kind = 1)]; simp only [List.getD_eq_getElem?_getD, hz, Option.getD_some]; done)
                | (rw [if_pos (by omega : p.kind = 1)]; (try simp_all [List.getD_eq_getElem?_getD]); done)
                | (rw [if_neg (by omega : ¬ p.kind = 1), if_pos (by omega : p.kind = 2)]; (try simp_all); done)
                | (rw [if_neg (by omega : ¬ p.kind = 1), if_neg (by omega : ¬ p.kind = 2)]; (try simp_all [List.getD_eq_getElem?_getD]); done)
            exact SX.VC_ret fun α W _ _ hS => ⟨hS.below, (.slice (some ⟨(α 3).b, 0, none⟩) 1 1), Eq.trans (b := Ending.returned (.tuple #[valP ⟨id, 2, p.sign, p.field, z, [p.id]⟩ (.slice (some ⟨(α 3).b, 0, none⟩) 1 1), .int .i64 0])) (by kernel_rfl) (by rw [hfact]), (by rw [hfact]; exact SX.SlRet.own hS (n := 3) (b := (⟨[(.x 1 [])], 3, .cells⟩ : SX.Blk)) (by kernel_rfl) rfl (Eq.trans (b := [Value.int .i64 p.id]) (by kernel_rfl) rfl) rfl)⟩
        · try simp only [NRM] at h26
          refine SX.VC_df (.bool ((p.kind : Int) == 1)) (by intro α; show _ = _; kernel_rfl) (by kernel_rfl) ?_
          refine SX.VC_br ((p.kind : Int) == 1) (by kernel_rfl) (fun h27 => ?_) (fun h27 => ?_)
          · try simp only [NRM] at h27
            obtain ⟨z, hz⟩ := there_lt (show there ss p.sign = true by first | exact hth (by omega) | simpa using h27 | simp_all)
            have hil : idx ss p.sign < ss.length := (List.getElem?_eq_some_iff.1 hz).1
            refine SX.VC_df (.bool true) (fun α => SX.extBnd (A := A) (n := n) (c := c) (j := idx ss p.sign) hA (by kernel_rfl) (by kernel_rfl) (by omega)) (by kernel_rfl) ?_
            refine SX.VC_df (.agg (cellsSg z).toArray) (fun α => SX.extElems (f := cellsSg) (l := ss) (A := A) (n := n) (c := c) (j := idx ss p.sign) (z := z) (fun _ => rfl) hA (by kernel_rfl) (by kernel_rfl) (by omega) k1 hz) (by kernel_rfl) ?_
            obtain ⟨hf1, hf9⟩ := hff (by omega)
            refine SX.VC_df (valSg (setF zeroSg p.field z)) (fun α => ⟨[⟨valSg zeroSg, 0, []⟩, ⟨.int .i64 p.field, 0, []⟩, ⟨valSg z, 0, []⟩], ⟨by kernel_rfl, by kernel_rfl, by kernel_rfl, by kernel_rfl, by kernel_rfl, by kernel_rfl, trivial⟩, .inr (.inr (.inr (.inr (.inl ⟨rfl, zeroSg, z, p.field, rfl, hf1, hf9, rfl⟩)))), SX.noAli rfl⟩) (by kernel_rfl) ?_
            have hfact : invS ss p id = ((⟨id, p.kind, p.sign, p.field, (setF zeroSg p.field z), [p.id]⟩ : Pt), 0) := by
              rw [invS, if_pos h22, if_neg (by rintro (h | h | ⟨h, h'⟩) <;> first | omega | simp_all)]
              unfold invP
              first
                | (rw [if_pos (by omega : p.kind = 1)]; simp only [List.getD_eq_getElem?_getD, hz, Option.getD_some]; done)
                | (rw [if_pos (by omega : p.kind = 1)]; (try simp_all [List.getD_eq_getElem?_getD]); done)
                | (rw [if_neg (by omega : ¬ p.kind = 1), if_pos (by omega : p.kind = 2)]; (try simp_all); done)
                | (rw [if_neg (by omega : ¬ p.kind = 1), if_neg (by omega : ¬ p.kind = 2)]; (try simp_all [List.getD_eq_getElem?_getD]); done)
            exact SX.VC_ret fun α W _ _ hS => ⟨hS.below, (.slice (some ⟨(α 3).b, 0, none⟩) 1 1), Eq.trans (b := Ending.returned (.tuple #[valP ⟨id, p.kind, p.sign, p.field, (setF zeroSg p.field z), [p.id]⟩ (.slice (some ⟨(α 3).b, 0, none⟩) 1 1), .int .i64 0])) (by kernel_rfl) (by rw [hfact]), (by rw [hfact]; exact SX.SlRet.own hS (n := 3) (b := (⟨[(.x 1 [])], 3, .cells⟩ : SX.Blk)) (by kernel_rfl) rfl (Eq.trans (b := [Value.int .i64 p.id]) (by kernel_rfl) rfl) rfl)⟩
          · try simp only [NRM] at h27
            refine SX.VC_df (.bool ((p.kind : Int) == 2)) (by intro α; show _ = _; kernel_rfl) (by kernel_rfl) ?_
            refine SX.VC_br ((p.kind : Int) == 2) (by kernel_rfl) (fun h28 => ?_) (fun h28 => absurd h28 (by simp only [beq_eq_false_iff_ne, ne_eq, Decidable.not_not]; omega))
            try simp only [NRM] at h28
            have hfact : invS ss p id = ((⟨id, 3, p.sign, p.field, zeroSg, [p.id]⟩ : Pt), 0) := by
              rw [invS, if_pos h22, if_neg (by rintro (h | h | ⟨h, h'⟩) <;> first | omega | simp_all)]
              unfold invP
              first
                | (rw [if_pos (by omega : p.kind = 1)]; simp only [List.getD_eq_getElem?_getD, hz, Option.getD_some]; done)
                | (rw [if_pos (by omega : p.kind = 1)]; (try simp_all [List.getD_eq_getElem?_getD]); done)
                | (rw [if_neg (by omega : ¬ p.kind = 1), if_pos (by omega : p.kind = 2)]; (try simp_all); done)
                | (rw [if_neg (by omega : ¬ p.kind = 1), if_neg (by omega : ¬ p.kind = 2)]; (try simp_all [List.getD_eq_getElem?_getD]); done)
            exact SX.VC_ret fun α W _ _ hS => ⟨hS.below, (.slice (some ⟨(α 3).b, 0, none⟩) 1 1), Eq.trans (b := Ending.returned (.tuple #[valP ⟨id, 3, p.sign, p.field, zeroSg, [p.id]⟩ (.slice (some ⟨(α 3).b, 0, none⟩) 1 1), .int .i64 0])) (by kernel_rfl) (by rw [hfact]), (by rw [hfact]; exact SX.SlRet.own hS (n := 3) (b := (⟨[(.x 1 [])], 3, .cells⟩ : SX.Blk)) (by kernel_rfl) rfl (Eq.trans (b := [Value.int .i64 p.id]) (by kernel_rfl) rfl) rfl)⟩
def tree_rinv : SX.Tree :=
(.df (.call 13 [(.ext 14), .no]) [(.x 0 []), (.a [(.x 1 []), (.x 2 []), (.x 3 []), (.x 4 []), (.x 5 []), (.x 6 []), (.x 7 []), (.x 8 []), (.x 9 []), (.x 10 []), (.x 11 []), (.x 12 []), (.x 13 []), (.x 14 []), (.x 15 []), (.x 16 []), (.x 17 []), (.x 18 []), (.x 19 [])])] (.tp [(.sl 14), .one]) 
(.df (.bin .neq 32) [(.x 21 [1]), (.k (.int .i64 0))] .one 
(.br 22 [] 
(.ret (.t [(.a [(.k (.int .i64 0)), (.k (.int .i64 0)), (.k (.int .i64 0)), (.k (.int .i64 0)), (.k (.int .i64 0)), (.k (.int .i64 0)), (.k (.int .i64 0)), (.k (.int .i64 0)), (.k (.int .i64 0)), (.k (.int .i64 0)), (.k (.int .i64 0)), (.k (.int .i64 0)), (.k (.int .i64 0)), (.k (.int .i64 0)), (.k (.int .i64 0)), (.k (.int .i64 0)), (.k (.int .i64 0)), (.k (.int .i64 0)), (.k (.slice none 0 0))]), (.x 21 [1])]) [none, none, none] []) 
(.df (.call 40 [(.ext 14), .no]) [(.x 0 []), (.x 3 [])] (.tp [.one, .one]) 
(.df (.bin .leq 3) [(.x 20 []), (.x 1 [])] .one 
(.br 24 [] 
(.ret (.t [(.a [(.k (.int .i64 0)), (.k (.int .i64 0)), (.k (.int .i64 0)), (.k (.int .i64 0)), (.k (.int .i64 0)), (.k (.int .i64 0)), (.k (.int .i64 0)), (.k (.int .i64 0)), (.k (.int .i64 0)), (.k (.int .i64 0)), (.k (.int .i64 0)), (.k (.int .i64 0)), (.k (.int .i64 0)), (.k (.int .i64 0)), (.k (.int .i64 0)), (.k (.int .i64 0)), (.k (.int .i64 0)), (.k (.int .i64 0)), (.k (.slice none 0 0))]), (.k (.int .i64 370))]) [none, none, none] []) 
(.df (.bin .gtr 3) [(.x 20 []), (.k (.int .i64 1048576))] .one 
(.br 25 [] 
(.ret (.t [(.a [(.k (.int .i64 0)), (.k (.int .i64 0)), (.k (.int .i64 0)), (.k (.int .i64 0)), (.k (.int .i64 0)), (.k (.int .i64 0)), (.k (.int .i64 0)), (.k (.int .i64 0)), (.k (.int .i64 0)), (.k (.int .i64 0)), (.k (.int .i64 0)), (.k (.int .i64 0)), (.k (.int .i64 0)), (.k (.int .i64 0)), (.k (.int .i64 0)), (.k (.int .i64 0)), (.k (.int .i64 0)), (.k (.int .i64 0)), (.k (.slice none 0 0))]), (.k (.int .i64 370))]) [none, none, none] []) 
(.df (.bin .eql 3) [(.x 2 []), (.k (.int .i64 3))] .one 
(.br 26 [] 
(.df .not [(.x 23 [1])] .one 
(.br 27 [] 
(.ret (.t [(.a [(.k (.int .i64 0)), (.k (.int .i64 0)), (.k (.int .i64 0)), (.k (.int .i64 0)), (.k (.int .i64 0)), (.k (.int .i64 0)), (.k (.int .i64 0)), (.k (.int .i64 0)), (.k (.int .i64 0)), (.k (.int .i64 0)), (.k (.int .i64 0)), (.k (.int .i64 0)), (.k (.int .i64 0)), (.k (.int .i64 0)), (.k (.int .i64 0)), (.k (.int .i64 0)), (.k (.int .i64 0)), (.k (.int .i64 0)), (.k (.slice none 0 0))]), (.k (.int .i64 370))]) [none, none, none] []) 
(.df (.bin .eql 3) [(.x 2 []), (.k (.int .i64 1))] .one 
(.br 28 [] 
(.df .bnd [(.x 0 []), (.x 23 [0])] .one 
(.df (.elems 14 0 14) [(.x 0 []), (.x 23 [0])] (.ag 14) 
(.df (.call 29 [.no, .no, .no]) [(.a [(.k (.int .i64 0)), (.k (.int .i64 0)), (.k (.int .i64 0)), (.k (.int .i64 0)), (.k (.int .i64 0)), (.k (.int .i64 0)), (.k (.int .i64 0)), (.k (.int .i64 0)), (.k (.int .i64 0)), (.k (.int .i64 0)), (.k (.int .i64 0)), (.k (.int .i64 0)), (.k (.int .i64 0)), (.k (.int .i64 0))]), (.x 4 []), (.a [(.x 30 [0]), (.x 30 [1]), (.x 30 [2]), (.x 30 [3]), (.x 30 [4]), (.x 30 [5]), (.x 30 [6]), (.x 30 [7]), (.x 30 [8]), (.x 30 [9]), (.x 30 [10]), (.x 30 [11]), (.x 30 [12]), (.x 30 [13])])] (.ag 14) 
(.ret (.t [(.a [(.x 20 []), (.k (.int .i64 1)), (.x 3 []), (.x 4 []), (.x 31 [0]), (.x 31 [1]), (.x 31 [2]), (.x 31 [3]), (.x 31 [4]), (.x 31 [5]), (.x 31 [6]), (.x 31 [7]), (.x 31 [8]), (.x 31 [9]), (.x 31 [10]), (.x 31 [11]), (.x 31 [12]), (.x 31 [13]), (.sl 3 0 1 1)]), (.k (.int .i64 0))]) [none, none, none, (some ⟨[(.x 1 [])], 3, .cells⟩), none, none, none, none, none, none, none, none, none, none, none] [])))) 
(.df (.bin .eql 3) [(.x 2 []), (.k (.int .i64 2))] .one 
(.br 29 [] 
(.ret (.t [(.a [(.x 20 []), (.k (.int .i64 3)), (.x 3 []), (.k (.int .i64 0)), (.k (.int .i64 0)), (.k (.int .i64 0)), (.k (.int .i64 0)), (.k (.int .i64 0)), (.k (.int .i64 0)), (.k (.int .i64 0)), (.k (.int .i64 0)), (.k (.int .i64 0)), (.k (.int .i64 0)), (.k (.int .i64 0)), (.k (.int .i64 0)), (.k (.int .i64 0)), (.k (.int .i64 0)), (.k (.int .i64 0)), (.sl 3 0 1 1)]), (.k (.int .i64 0))]) [none, none, none, (some ⟨[(.x 1 [])], 3, .cells⟩), none] []) 
(.df (.bin .eql 3) [(.x 2 []), (.k (.int .i64 3))] .one 
(.br 30 [] 
(.df .bnd [(.x 0 []), (.x 23 [0])] .one 
(.df (.elems 14 0 14) [(.x 0 []), (.x 23 [0])] (.ag 14) 
(.ret (.t [(.a [(.x 20 []), (.k (.int .i64 2)), (.x 3 []), (.k (.int .i64 0)), (.x 32 [0]), (.x 32 [1]), (.x 32 [2]), (.x 32 [3]), (.x 32 [4]), (.x 32 [5]), (.x 32 [6]), (.x 32 [7]), (.x 32 [8]), (.x 32 [9]), (.x 32 [10]), (.x 32 [11]), (.x 32 [12]), (.x 32 [13]), (.sl 3 0 1 1)]), (.k (.int .i64 0))]) [none, none, none, (some ⟨[(.x 1 [])], 3, .cells⟩), none] []))) 
(.ret (.t [(.a [(.x 20 []), (.k (.int .i64 0)), (.x 3 []), (.k (.int .i64 0)), (.k (.int .i64 0)), (.k (.int .i64 0)), (.k (.int .i64 0)), (.k (.int .i64 0)), (.k (.int .i64 0)), (.k (.int .i64 0)), (.k (.int .i64 0)), (.k (.int .i64 0)), (.k (.int .i64 0)), (.k (.int .i64 0)), (.k (.int .i64 0)), (.k (.int .i64 0)), (.k (.int .i64 0)), (.k (.int .i64 0)), (.sl 3 0 1 1)]), (.k (.int .i64 0))]) [none, none, none, (some ⟨[(.x 1 [])], 3, .cells⟩), none] []))))))))) 
(.df (.bin .eql 3) [(.x 2 []), (.k (.int .i64 1))] .one 
(.br 27 [] 
(.df .bnd [(.x 0 []), (.x 23 [0])] .one 
(.df (.elems 14 0 14) [(.x 0 []), (.x 23 [0])] (.ag 14) 
(.df (.call 29 [.no, .no, .no]) [(.a [(.k (.int .i64 0)), (.k (.int .i64 0)), (.k (.int .i64 0)), (.k (.int .i64 0)), (.k (.int .i64 0)), (.k (.int .i64 0)), (.k (.int .i64 0)), (.k (.int .i64 0)), (.k (.int .i64 0)), (.k (.int .i64 0)), (.k (.int .i64 0)), (.k (.int .i64 0)), (.k (.int .i64 0)), (.k (.int .i64 0))]), (.x 4 []), (.a [(.x 29 [0]), (.x 29 [1]), (.x 29 [2]), (.x 29 [3]), (.x 29 [4]), (.x 29 [5]), (.x 29 [6]), (.x 29 [7]), (.x 29 [8]), (.x 29 [9]), (.x 29 [10]), (.x 29 [11]), (.x 29 [12]), (.x 29 [13])])] (.ag 14) 
(.ret (.t [(.a [(.x 20 []), (.k (.int .i64 1)), (.x 3 []), (.x 4 []), (.x 30 [0]), (.x 30 [1]), (.x 30 [2]), (.x 30 [3]), (.x 30 [4]), (.x 30 [5]), (.x 30 [6]), (.x 30 [7]), (.x 30 [8]), (.x 30 [9]), (.x 30 [10]), (.x 30 [11]), (.x 30 [12]), (.x 30 [13]), (.sl 3 0 1 1)]), (.k (.int .i64 0))]) [none, none, none, (some ⟨[(.x 1 [])], 3, .cells⟩), none, none, none, none, none, none, none, none, none, none, none] [])))) 
(.df (.bin .eql 3) [(.x 2 []), (.k (.int .i64 2))] .one 
(.br 28 [] 
(.ret (.t [(.a [(.x 20 []), (.k (.int .i64 3)), (.x 3 []), (.k (.int .i64 0)), (.k (.int .i64 0)), (.k (.int .i64 0)), (.k (.int .i64 0)), (.k (.int .i64 0)), (.k (.int .i64 0)), (.k (.int .i64 0)), (.k (.int .i64 0)), (.k (.int .i64 0)), (.k (.int .i64 0)), (.k (.int .i64 0)), (.k (.int .i64 0)), (.k (.int .i64 0)), (.k (.int .i64 0)), (.k (.int .i64 0)), (.sl 3 0 1 1)]), (.k (.int .i64 0))]) [none, none, none, (some ⟨[(.x 1 [])], 3, .cells⟩), none] []) 
(.df (.bin .eql 3) [(.x 2 []), (.k (.int .i64 3))] .one 
(.br 29 [] 
(.df .bnd [(.x 0 []), (.x 23 [0])] .one 
(.df (.elems 14 0 14) [(.x 0 []), (.x 23 [0])] (.ag 14) 
(.ret (.t [(.a [(.x 20 []), (.k (.int .i64 2)), (.x 3 []), (.k (.int .i64 0)), (.x 31 [0]), (.x 31 [1]), (.x 31 [2]), (.x 31 [3]), (.x 31 [4]), (.x 31 [5]), (.x 31 [6]), (.x 31 [7]), (.x 31 [8]), (.x 31 [9]), (.x 31 [10]), (.x 31 [11]), (.x 31 [12]), (.x 31 [13]), (.sl 3 0 1 1)]), (.k (.int .i64 0))]) [none, none, none, (some ⟨[(.x 1 [])], 3, .cells⟩), none] []))) 
(.ret (.t [(.a [(.x 20 []), (.k (.int .i64 0)), (.x 3 []), (.k (.int .i64 0)), (.k (.int .i64 0)), (.k (.int .i64 0)), (.k (.int .i64 0)), (.k (.int .i64 0)), (.k (.int .i64 0)), (.k (.int .i64 0)), (.k (.int .i64 0)), (.k (.int .i64 0)), (.k (.int .i64 0)), (.k (.int .i64 0)), (.k (.int .i64 0)), (.k (.int .i64 0)), (.k (.int .i64 0)), (.k (.int .i64 0)), (.sl 3 0 1 1)]), (.k (.int .i64 0))]) [none, none, none, (some ⟨[(.x 1 [])], 3, .cells⟩), none] [])))))))))))))))))
def args_rinv : List SX.V := [.x 0 [], .a ((List.range 19).map fun j => .x (1 + j) []), .x 20 []]
set_option maxRecDepth 100000 in
theorem run_rinv (K A : Value → Nat → List Value → Prop) : (SX.run (cxK K A) ⟨fun _ => false, [], 2, 100⟩ 100000 0 (SX.door 21 Try.f21 args_rinv (List.replicate 21 .one)) [.code (Try.f21.body.getD .skip), .top Try.f21]).strip = tree_rinv := by kernel_rfl
set_option maxRecDepth 100000 in
set_option maxHeartbeats 4000000 in
theorem rinv_any (ss : List Sg) (A : Option Addr) (n c : Nat) (p : Pt) (B : Option Addr) (m d : Nat) (id : Int) (w : World) (hr : Rd w 14 A n (sgsL ss)) (hn : n ≤ 9223372036854775807) (hc : n ≤ c) (hp : Rd w 1 B m (intsL p.needs)) (hm : m ≤ 9223372036854775807) (hmd : m ≤ d) : Calls Try.prog 21 #[.slice A n c, valP p (.slice B m d), .int .i64 id] w fun e w' => Below w.heap.size w w' ∧ ∃ hdr, e = .returned (.tuple #[valP (invS ss p id).1 hdr, .int .i64 (invS ss p id).2]) ∧ SX.SlRet w w' [] hdr 1 (intsL (invS ss p id).1.needs) := by
  refine SX.calls_of_run (C := cxK (apK A n c ss p (.slice B m d)) (runA A n c ss)) (G := ⟨fun _ => false, [], 2, 100⟩) (args := args_rinv) (sh := (List.replicate 21 .one)) (ρ := ([.slice A n c] ++ cellsP p (.slice B m d) ++ [.int .i64 id])) 100000 tree_rinv (okK _ _) Try.func21 rfl (run_rinv _ _) (by kernel_rfl) (by kernel_rfl) (by kernel_rfl) ?_ ?_
  · rintro W hW s sz cells (⟨rfl, rfl, rfl⟩ | ⟨rfl, rfl, rfl⟩)
    · exact ⟨hr.same0 hW, hc⟩
    · exact ⟨hp.same0 hW, hmd⟩
  have hA := SX.rd_some hr
  have hln : ss.length = n := by have := hr.1; rw [sgsL_len] at this; omega
  have hlm : p.needs.length = m := by have := hp.1; rw [intsL_len] at this; omega
  have k1 : apK A n c ss p (.slice B m d) (.slice A n c) 14 (sgsL ss) := .inl ⟨rfl, rfl, rfl⟩
  have k2 : apK A n c ss p (.slice B m d) (.slice B m d) 1 (intsL p.needs) := .inr ⟨rfl, rfl, rfl⟩
  have a1 : runA A n c ss (.slice A n c) 14 (sgsL ss) := ⟨rfl, rfl, rfl⟩
  unfold tree_rinv
  refine SX.VC_df (.tuple #[Value.agg (sgsL (runS ss [p]).1).toArray, .int .i64 ((runS ss [p]).2)]) (fun α => ⟨[⟨.slice A n c, 14, sgsL ss⟩, ⟨valP p (.slice B m d), 0, []⟩], ⟨by kernel_rfl, rfl, cast (by kernel_rfl) k1, by kernel_rfl, by kernel_rfl, trivial⟩, .inr (.inl ⟨rfl, _, ss, p, B, m, d, rfl, by omega, k2, by omega, rfl⟩), fun j hj x sz hx h => match j, hx, h with | 0, hx, _ => by (cases hx; exact cast (by kernel_rfl) a1) | 1, _, h => by cases h | _ + 2, _, h => by cases h⟩) (sgs_fit _ _) ?_
  refine SX.VC_df (.bool (((runS ss [p]).2 : Int) != 0)) (by intro α; show _ = _; kernel_rfl) (by kernel_rfl) ?_
  refine SX.VC_br (((runS ss [p]).2 : Int) != 0) (by kernel_rfl) (fun h22 => ?_) (fun h22 => ?_)
  · try simp only [NRM] at h22
    have hfact : invS ss p id = (zeroPt, (runS ss [p]).2) := by rw [invS, if_neg h22]
    exact SX.VC_ret fun α W _ _ hS => ⟨hS.below, (.slice none 0 0), Eq.trans (b := Ending.returned (.tuple #[valP zeroPt (.slice none 0 0), .int .i64 ((runS ss [p]).2)])) (by kernel_rfl) (by rw [hfact]), (by rw [hfact]; exact SX.SlRet.nil)⟩
  · try simp only [NRM] at h22
    obtain ⟨hs0, hp0, ha0⟩ := run_ok h22
    have hok := chkP_ok hp0
    have hth : p.kind = 1 → there ss p.sign = true := fun hk => apply_there ha0 hk
    have hkk : p.kind = 1 ∨ p.kind = 2 ∨ p.kind = 3 := hok.kinds
    have hfl : p.kind ≠ 1 → p.field = 0 := hok.fld
    have hff : p.kind = 1 → 1 ≤ p.field ∧ p.field ≤ 9 := hok.fld1
    refine SX.VC_df (.tuple #[.int .i64 (((idx ss p.sign : Nat) : Int)), .bool (there ss p.sign)]) (fun α => ⟨[⟨.slice A n c, 14, sgsL ss⟩, ⟨.int .i64 p.sign, 0, []⟩], ⟨by kernel_rfl, rfl, cast (by kernel_rfl) k1, by kernel_rfl, by kernel_rfl, trivial⟩, .inr (.inr (.inr (.inl ⟨rfl, _, ss, p.sign, rfl, by have := (chkS_ok hs0).2; omega, rfl⟩))), SX.noAli rfl⟩) (by kernel_rfl) ?_
    refine SX.VC_df (.bool (decide (id ≤ p.id))) (by intro α; show _ = _; kernel_rfl) (by kernel_rfl) ?_
    refine SX.VC_br (decide (id ≤ p.id)) (by kernel_rfl) (fun h24 => ?_) (fun h24 => ?_)
    · try simp only [NRM] at h24
      have hfact : invS ss p id = (zeroPt, 370) := by rw [invS, if_pos h22, if_pos (by first | (left; omega) | (right; left; omega) | (right; right; refine ⟨by omega, ?_⟩; simpa using h27))]
      exact SX.VC_ret fun α W _ _ hS => ⟨hS.below, (.slice none 0 0), Eq.trans (b := Ending.returned (.tuple #[valP zeroPt (.slice none 0 0), .int .i64 370])) (by kernel_rfl) (by rw [hfact]), (by rw [hfact]; exact SX.SlRet.nil)⟩
    · try simp only [NRM] at h24
      refine SX.VC_df (.bool (decide (id > 1048576))) (by intro α; show _ = _; kernel_rfl) (by kernel_rfl) ?_
      refine SX.VC_br (decide (id > 1048576)) (by kernel_rfl) (fun h25 => ?_) (fun h25 => ?_)
      · try simp only [NRM] at h25
        have hfact : invS ss p id = (zeroPt, 370) := by rw [invS, if_pos h22, if_pos (by first | (left; omega) | (right; left; omega) | (right; right; refine ⟨by omega, ?_⟩; simpa using h27))]
        exact SX.VC_ret fun α W _ _ hS => ⟨hS.below, (.slice none 0 0), Eq.trans (b := Ending.returned (.tuple #[valP zeroPt (.slice none 0 0), .int .i64 370])) (by kernel_rfl) (by rw [hfact]), (by rw [hfact]; exact SX.SlRet.nil)⟩
      · try simp only [NRM] at h25
        refine SX.VC_df (.bool ((p.kind : Int) == 3)) (by intro α; show _ = _; kernel_rfl) (by kernel_rfl) ?_
        refine SX.VC_br ((p.kind : Int) == 3) (by kernel_rfl) (fun h26 => ?_) (fun h26 => ?_)
        · try simp only [NRM] at h26
          refine SX.VC_df (.bool (!(there ss p.sign))) (by intro α; show _ = _; kernel_rfl) (by kernel_rfl) ?_
          refine SX.VC_br (!(there ss p.sign)) (by kernel_rfl) (fun h27 => ?_) (fun h27 => ?_)
          · try simp only [NRM] at h27
            have hfact : invS ss p id = (zeroPt, 370) := by rw [invS, if_pos h22, if_pos (by first | (left; omega) | (right; left; omega) | (right; right; refine ⟨by omega, ?_⟩; simpa using h27))]
            exact SX.VC_ret fun α W _ _ hS => ⟨hS.below, (.slice none 0 0), Eq.trans (b := Ending.returned (.tuple #[valP zeroPt (.slice none 0 0), .int .i64 370])) (by kernel_rfl) (by rw [hfact]), (by rw [hfact]; exact SX.SlRet.nil)⟩
          · try simp only [NRM] at h27
            refine SX.VC_df (.bool ((p.kind : Int) == 1)) (by intro α; show _ = _; kernel_rfl) (by kernel_rfl) ?_
            refine SX.VC_br ((p.kind : Int) == 1) (by kernel_rfl) (fun h28 => absurd h28 (by simp only [beq_iff_eq]; omega)) (fun h28 => ?_)
            try simp only [NRM] at h28
            refine SX.VC_df (.bool ((p.kind : Int) == 2)) (by intro α; show _ = _; kernel_rfl) (by kernel_rfl) ?_
            refine SX.VC_br ((p.kind : Int) == 2) (by kernel_rfl) (fun h29 => absurd h29 (by simp only [beq_iff_eq]; omega)) (fun h29 => ?_)
            try simp only [NRM] at h29
            refine SX.VC_df (.bool ((p.kind : Int) == 3)) (by intro α; show _ = _; kernel_rfl) (by kernel_rfl) ?_
            refine SX.VC_br ((p.kind : Int) == 3) (by kernel_rfl) (fun h30 => ?_) (fun h30 => absurd h30 (by simp only [beq_eq_false_iff_ne, ne_eq, Decidable.not_not]; omega))
            try simp only [NRM] at h30
            obtain ⟨z, hz⟩ := there_lt (show there ss p.sign = true by first | exact hth (by omega) | simpa using h27 | simp_all)
            have hil : idx ss p.sign < ss.length := (List.getElem?_eq_some_iff.1 hz).1
            refine SX.VC_df (.bool true) (fun α => SX.extBnd (A := A) (n := n) (c := c) (j := idx ss p.sign) hA (by kernel_rfl) (by kernel_rfl) (by omega)) (by kernel_rfl) ?_
            refine SX.VC_df (.agg (cellsSg z).toArray) (fun α => SX.extElems (f := cellsSg) (l := ss) (A := A) (n := n) (c := c) (j := idx ss p.sign) (z := z) (fun _ => rfl) hA (by kernel_rfl) (by kernel_rfl) (by omega) k1 hz) (by kernel_rfl) ?_
            have hfact : invS ss p id = ((⟨id, 2, p.sign, 0, z, [p.id]⟩ : Pt), 0) := by
              rw [invS, if_pos h22, if_neg (by rintro (h | h | ⟨h, h'⟩) <;> first | omega | simp_all)]
              unfold invP
              first
                | (rw [if_pos (by omega : p.kind = 1)]; simp only [List.getD_eq_getElem?_getD, hz, Option.getD_some]; done)
                | (rw [if_pos (by omega : p.kind = 1)]; (try simp_all [List.getD_eq_getElem?_getD]); done)
                | (rw [if_neg (by omega : ¬ p.kind = 1), if_pos (by omega : p.kind = 2)]; (try simp_all); done)
                | (rw [if_neg (by omega : ¬ p.kind = 1), if_neg (by omega : ¬ p.kind = 2)]; (try simp_all [List.getD_eq_getElem?_getD]); done)
            exact SX.VC_ret fun α W _ _ hS => ⟨hS.below, (.slice (some ⟨(α 3).b, 0, none⟩) 1 1), Eq.trans (b := Ending.returned (.tuple #[valP ⟨id, 2, p.sign, 0, z, [p.id]⟩ (.slice (some ⟨(α 3).b, 0, none⟩) 1 1), .int .i64 0])) (by kernel_rfl) (by rw [hfact]), (by rw [hfact]; exact SX.SlRet.own hS (n := 3) (b := (⟨[(.x 1 [])], 3, .cells⟩ : SX.Blk)) (by kernel_rfl) rfl (Eq.trans (b := [Value.int .i64 p.id]) (by kernel_rfl) rfl) rfl)⟩
        · try simp only [NRM] at h26
          refine SX.VC_df (.bool ((p.kind : Int) == 1)) (by intro α; show _ = _; kernel_rfl) (by kernel_rfl) ?_
          refine SX.VC_br ((p.kind : Int) == 1) (by kernel_rfl) (fun h27 => ?_) (fun h27 => ?_)
          · try simp only [NRM] at h27
            obtain ⟨z, hz⟩ := there_lt (show there ss p.sign = true by first | exact hth (by omega) | simpa using h27 | simp_all)
            have hil : idx ss p.sign < ss.length := (List.getElem?_eq_some_iff.1 hz).1
            refine SX.VC_df (.bool true) (fun α => SX.extBnd (A := A) (n := n) (c := c) (j := idx ss p.sign) hA (by kernel_rfl) (by kernel_rfl) (by omega)) (by kernel_rfl) ?_
            refine SX.VC_df (.agg (cellsSg z).toArray) (fun α => SX.extElems (f := cellsSg) (l := ss) (A := A) (n := n) (c := c) (j := idx ss p.sign) (z := z) (fun _ => rfl) hA (by kernel_rfl) (by kernel_rfl) (by omega) k1 hz) (by kernel_rfl) ?_
            obtain ⟨hf1, hf9⟩ := hff (by omega)
            refine SX.VC_df (valSg (setF zeroSg p.field z)) (fun α => ⟨[⟨valSg zeroSg, 0, []⟩, ⟨.int .i64 p.field, 0, []⟩, ⟨valSg z, 0, []⟩], ⟨by kernel_rfl, by kernel_rfl, by kernel_rfl, by kernel_rfl, by kernel_rfl, by kernel_rfl, trivial⟩, .inr (.inr (.inr (.inr (.inr (⟨rfl, zeroSg, z, p.field, rfl, rfl⟩))))), SX.noAli rfl⟩) (by kernel_rfl) ?_
            have hfact : invS ss p id = ((⟨id, 1, p.sign, p.field, (setF zeroSg p.field z), [p.id]⟩ : Pt), 0) := by
              rw [invS, if_pos h22, if_neg (by rintro (h | h | ⟨h, h'⟩) <;> first | omega | simp_all)]
              unfold invP
              first
                | (rw [if_pos (by omega : p.kind = 1)]; simp only [List.getD_eq_getElem?_getD, hz, Option.getD_some]; done)
                | (rw [if_pos (by omega : p.kind = 1)]; (try simp_all [List.getD_eq_getElem?_getD]); done)
                | (rw [if_neg (by omega : ¬ p.kind = 1), if_pos (by omega : p.kind = 2)]; (try simp_all); done)
                | (rw [if_neg (by omega : ¬ p.kind = 1), if_neg (by omega : ¬ p.kind = 2)]; (try simp_all [List.getD_eq_getElem?_getD]); done)
            exact SX.VC_ret fun α W _ _ hS => ⟨hS.below, (.slice (some ⟨(α 3).b, 0, none⟩) 1 1), Eq.trans (b := Ending.returned (.tuple #[valP ⟨id, 1, p.sign, p.field, (setF zeroSg p.field z), [p.id]⟩ (.slice (some ⟨(α 3).b, 0, none⟩) 1 1), .int .i64 0])) (by kernel_rfl) (by rw [hfact]), (by rw [hfact]; exact SX.SlRet.own hS (n := 3) (b := (⟨[(.x 1 [])], 3, .cells⟩ : SX.Blk)) (by kernel_rfl) rfl (Eq.trans (b := [Value.int .i64 p.id]) (by kernel_rfl) rfl) rfl)⟩
          · try simp only [NRM] at h27
            refine SX.VC_df (.bool ((p.kind : Int) == 2)) (by intro α; show _ = _; kernel_rfl) (by kernel_rfl) ?_
            refine SX.VC_br ((p.kind : Int) == 2) (by kernel_rfl) (fun h28 => ?_) (fun h28 => absurd h28 (by simp only [beq_eq_false_iff_ne, ne_eq, Decidable.not_not]; omega))
            try simp only [NRM] at h28
            have hfact : invS ss p id = ((⟨id, 3, p.sign, 0, zeroSg, [p.id]⟩ : Pt), 0) := by
              rw [invS, if_pos h22, if_neg (by rintro (h | h | ⟨h, h'⟩) <;> first | omega | simp_all)]
              unfold invP
              first
                | (rw [if_pos (by omega : p.kind = 1)]; simp only [List.getD_eq_getElem?_getD, hz, Option.getD_some]; done)
                | (rw [if_pos (by omega : p.kind = 1)]; (try simp_all [List.getD_eq_getElem?_getD]); done)
                | (rw [if_neg (by omega : ¬ p.kind = 1), if_pos (by omega : p.kind = 2)]; (try simp_all); done)
                | (rw [if_neg (by omega : ¬ p.kind = 1), if_neg (by omega : ¬ p.kind = 2)]; (try simp_all [List.getD_eq_getElem?_getD]); done)
            exact SX.VC_ret fun α W _ _ hS => ⟨hS.below, (.slice (some ⟨(α 3).b, 0, none⟩) 1 1), Eq.trans (b := Ending.returned (.tuple #[valP ⟨id, 3, p.sign, 0, zeroSg, [p.id]⟩ (.slice (some ⟨(α 3).b, 0, none⟩) 1 1), .int .i64 0])) (by kernel_rfl) (by rw [hfact]), (by rw [hfact]; exact SX.SlRet.own hS (n := 3) (b := (⟨[(.x 1 [])], 3, .cells⟩ : SX.Blk)) (by kernel_rfl) rfl (Eq.trans (b := [Value.int .i64 p.id]) (by kernel_rfl) rfl) rfl)⟩
end Go.Proofs.Ytodlcjhefojibaa
