/-
  Apply, Overlap, Few: the program and the specification.
-/
import Derived.Test.YtodlcjhefojibaaPh
namespace Go.Proofs.Ytodlcjhefojibaa
set_option linter.unusedSimpArgs false
set_option linter.unusedVariables false
open Go Go.RowKit
theorem ph_arg {W : World} {u : Value} {pl : List Ph} (h : SX.Arg.rd W ⟨u, 19, phL pl⟩) : ∃ A n c, u = .slice A n c ∧ Rd W 19 A n (phL pl) ∧ n ≤ c ∧ pl.length = n := by
  unfold SX.Arg.rd at h
  split at h
  · rename_i A n c hu
    have hu : u = .slice A n c := hu
    refine ⟨A, n, c, hu, h.1, h.2, ?_⟩
    have := h.1.1; simp only [phL_len] at this; omega
  · cases h
theorem apply_no {ss : List Sg} {p : Pt} (h : (applyS ss p).2 ≠ 0) : (applyS ss p).1 = [] := by
  unfold applyS at h ⊢
  repeat' split at h
  all_goals first | (exfalso; simp at h; done) | simp_all
theorem run1 {ss : List Sg} {p : Pt} (h1 : chkS ss = 0) (h2 : chkP p = 0) : runS ss [p] = applyS ss p := by
  rw [runS, if_pos h1, if_neg (by simp), runL, if_pos h2]
  split
  · rename_i h; rw [runL, ← h]
  · rename_i h; rw [← apply_no h]
def ovE (p q : Pt) : Int := if chkP p = 0 then chkP q else chkP p
def ovV (p q : Pt) : Bool := decide (chkP p = 0 ∧ chkP q = 0 ∧ p.sign = q.sign ∧ (p.kind ≠ 1 ∨ q.kind ≠ 1 ∨ p.field = q.field))
def fewS (ss : List Sg) : Bool := decide (ss.length ≤ 300 ∨ 4094 ≤ ss.length ∧ ss.length ≤ 5000)
/-- what is known of patches that are run -/
def RH (K : Value → Nat → List Value → Prop) (f : FuncId) (xs : List SX.Arg) (v : Value) : Prop :=
  (f = 27 ∧ ∃ (u : Value) (ss : List Sg), xs = [⟨u, 14, sgsL ss⟩] ∧ ss.length ≤ 9223372036854775807 ∧ v = .int .i64 (chkS ss)) ∨
  (f = 33 ∧ ∃ (u : Value) (ss : List Sg), xs = [⟨u, 14, sgsL ss⟩] ∧ ss.length ≤ 9223372036854775807 ∧ v = .int .i64 (chkS ss)) ∨
  (f = 14 ∧ ∃ (p : Pt) (B : Option Addr) (m d : Nat), xs = [⟨valP p (.slice B m d), 0, []⟩] ∧ K (.slice B m d) 1 (intsL p.needs) ∧ p.needs.length ≤ 9223372036854775807 ∧ v = .int .i64 (chkP p)) ∨
  (f = 15 ∧ ∃ (p : Pt) (B : Option Addr) (m d : Nat), xs = [⟨valP p (.slice B m d), 0, []⟩] ∧ K (.slice B m d) 1 (intsL p.needs) ∧ p.needs.length ≤ 9223372036854775807 ∧ v = .int .i64 (chkP p)) ∨
  (f = 38 ∧ ∃ (u : Value) (ss : List Sg) (p : Pt) (B : Option Addr) (m d : Nat), xs = [⟨u, 14, sgsL ss⟩, ⟨valP p (.slice B m d), 0, []⟩] ∧ okL ss ∧ ss.length ≤ 4096 ∧ okP p ∧ v = .tuple #[.agg (sgsL (applyS ss p).1).toArray, .int .i64 (applyS ss p).2]) ∨
  (f = 34 ∧ ∃ (u : Value) (ss : List Sg) (p : Pt) (B : Option Addr) (m d : Nat), xs = [⟨u, 14, sgsL ss⟩, ⟨valP p (.slice B m d), 0, []⟩] ∧ okL ss ∧ ss.length ≤ 4096 ∧ okP p ∧ v = .tuple #[.agg (sgsL (applyS ss p).1).toArray, .int .i64 (applyS ss p).2]) ∨
  (f = 18 ∧ ∃ (u u2 : Value) (ss : List Sg) (pl : List Ph), xs = [⟨u, 14, sgsL ss⟩, ⟨u2, 19, phL pl⟩] ∧ ss.length ≤ 9223372036854775807 ∧ pl.length ≤ 9223372036854775807 ∧ (∀ q ∈ pl, K q.h 1 (intsL q.1.needs) ∧ q.1.needs.length ≤ 9223372036854775807) ∧ v = .tuple #[.agg (sgsL (runS ss (pl.map (·.1))).1).toArray, .int .i64 (runS ss (pl.map (·.1))).2]) ∨
  (f = 19 ∧ ∃ (u u2 : Value) (ss : List Sg) (pl : List Ph), xs = [⟨u, 14, sgsL ss⟩, ⟨u2, 19, phL pl⟩] ∧ ss.length ≤ 9223372036854775807 ∧ pl.length ≤ 9223372036854775807 ∧ (∀ q ∈ pl, K q.h 1 (intsL q.1.needs) ∧ q.1.needs.length ≤ 9223372036854775807) ∧ v = .tuple #[.agg (sgsL (runS ss (pl.map (·.1))).1).toArray, .int .i64 (runS ss (pl.map (·.1))).2])
def shpH : FuncId → Option SX.Sh := fun f => if f = 27 then some .one else if f = 33 then some .one else if f = 14 then some .one else if f = 15 then some .one else if f = 38 then some (.tp [.sl 14, .one]) else if f = 34 then some (.tp [.sl 14, .one]) else if f = 18 then some (.tp [.sl 14, .one]) else if f = 19 then some (.tp [.sl 14, .one]) else none
noncomputable def cxH (K A : Value → Nat → List Value → Prop) : SX.Cx := { P := Try.prog, R := RH, shp := shpH, K := K, A := A, ali := fun f => if f = 38 then [0] else if f = 34 then [0] else if f = 18 then [0] else if f = 19 then [0] else [] }
theorem okH (K A : Value → Nat → List Value → Prop) : (cxH K A).Ok := by
  refine SX.Cx.ok_of (fun _ => rfl) ?_
  intro K f xs v W hR hrd hKf
  rcases hR with ⟨rfl, u, ss, rfl, hl, rfl⟩ | ⟨rfl, u, ss, rfl, hl, rfl⟩ | ⟨rfl, p, B, m, d, rfl, hK, hl, rfl⟩ | ⟨rfl, p, B, m, d, rfl, hK, hl, rfl⟩ | ⟨rfl, u, ss, p, B, m, d, rfl, hs, hl, hp, rfl⟩ | ⟨rfl, u, ss, p, B, m, d, rfl, hs, hl, hp, rfl⟩ | ⟨rfl, u, u2, ss, pl, rfl, hl, hl2, hK, rfl⟩ | ⟨rfl, u, u2, ss, pl, rfl, hl, hl2, hK, rfl⟩
  · obtain ⟨A, n, c, rfl, h2, h3, h4⟩ := sgs_arg (hrd ⟨u, 14, sgsL ss⟩ (by simp))
    exact (echeck_any ss A n c W h2 (by omega) h3).mono fun e w' h => SX.plainOk rfl h
  · obtain ⟨A, n, c, rfl, h2, h3, h4⟩ := sgs_arg (hrd ⟨u, 14, sgsL ss⟩ (by simp))
    exact (rcheckL_any ss A n c W h2 (by omega) h3).mono fun e w' h => SX.plainOk rfl h
  · have hR := hKf _ _ _ hK
    have hm : m ≤ 9223372036854775807 := by have := hR.1.1; simp only [intsL_len] at this; omega
    exact (pcheck_any p B m d W hR.1 hm hR.2).mono fun e w' h => SX.plainOk rfl h
  · have hR := hKf _ _ _ hK
    have hm : m ≤ 9223372036854775807 := by have := hR.1.1; simp only [intsL_len] at this; omega
    exact (rcheckP_any p B m d W hR.1 hm hR.2).mono fun e w' h => SX.plainOk rfl h
  · refine Calls.mono ?_ fun e w' h => SX.SlRet.ok rfl rfl h
    obtain ⟨A, n, c, rfl, h2, h3, h4⟩ := sgs_arg (hrd ⟨u, 14, sgsL ss⟩ (by simp))
    obtain ⟨pid, pk, psg, pf, pn, pnd⟩ := p
    obtain ⟨_, ⟨g1, g2⟩, _, hk⟩ := id hp
    rcases hk with ⟨rfl, k2, k3, k4, k5⟩ | ⟨rfl, _⟩ | ⟨rfl, _⟩
    · exact ap1_any ss A n c pid psg pf pn pnd B m d W h2 (by omega) h3 hs g1 g2 ⟨k2, k3⟩
    · exact ap2_any ss A n c pid psg pf pn pnd B m d W h2 (by omega) h3 hs g1 g2
    · exact ap3_any ss A n c pid psg pf pn pnd B m d W h2 (by omega) h3 hs g1 g2
  · refine Calls.mono ?_ fun e w' h => SX.SlRet.ok rfl rfl h
    obtain ⟨A, n, c, rfl, h2, h3, h4⟩ := sgs_arg (hrd ⟨u, 14, sgsL ss⟩ (by simp))
    obtain ⟨pid, pk, psg, pf, pn, pnd⟩ := p
    obtain ⟨_, ⟨g1, g2⟩, _, hk⟩ := id hp
    rcases hk with ⟨rfl, k2, k3, k4, k5⟩ | ⟨rfl, _⟩ | ⟨rfl, _⟩
    · exact ra1_any ss A n c pid psg pf pn pnd B m d W h2 (by omega) h3
    · exact ra2_any ss A n c pid psg pf pn pnd B m d W h2 (by omega) h3
    · exact ra3_any ss A n c pid psg pf pn pnd B m d W h2 (by omega) h3
  · refine Calls.mono ?_ fun e w' h => SX.SlRet.ok rfl rfl h
    obtain ⟨A, n, c, rfl, h2, h3, h4⟩ := sgs_arg (hrd ⟨u, 14, sgsL ss⟩ (by simp))
    obtain ⟨A', n', c', rfl, h2', h3', h4'⟩ := ph_arg (hrd ⟨u2, 19, phL pl⟩ (by simp))
    exact run_any ss A n c pl A' n' c' W h2 (by omega) h3 h2' (by omega) h3' fun q hq => by
      have hR := hKf _ _ _ (hK q hq).1
      exact ⟨hR.1, hR.2, by have := (hK q hq).2; have h9 := hR.1.1; simp only [intsL_len] at h9; omega⟩
  · refine Calls.mono ?_ fun e w' h => SX.SlRet.ok rfl rfl h
    obtain ⟨A, n, c, rfl, h2, h3, h4⟩ := sgs_arg (hrd ⟨u, 14, sgsL ss⟩ (by simp))
    obtain ⟨A', n', c', rfl, h2', h3', h4'⟩ := ph_arg (hrd ⟨u2, 19, phL pl⟩ (by simp))
    exact rrun_any ss A n c pl A' n' c' W h2 (by omega) h3 h2' (by omega) h3' fun q hq => by
      have hR := hKf _ _ _ (hK q hq).1
      exact ⟨hR.1, hR.2, by have := (hK q hq).2; have h9 := hR.1.1; simp only [intsL_len] at h9; omega⟩
def apK (A : Option Addr) (n c : Nat) (ss : List Sg) (p : Pt) (h : Value) (s : Value) (sz : Nat) (cells : List Value) : Prop :=
  (s = .slice A n c ∧ sz = 14 ∧ cells = sgsL ss) ∨ (s = h ∧ sz = 1 ∧ cells = intsL p.needs)
def twoK (p : Pt) (h : Value) (q : Pt) (h' : Value) (s : Value) (sz : Nat) (cells : List Value) : Prop :=
  (s = h ∧ sz = 1 ∧ cells = intsL p.needs) ∨ (s = h' ∧ sz = 1 ∧ cells = intsL q.needs)
def tree_papply : SX.Tree :=
(.df (.call 18 [(.ext 14), (.own 19 [(.x 1 []), (.x 2 []), (.x 3 []), (.x 4 []), (.x 5 []), (.x 6 []), (.x 7 []), (.x 8 []), (.x 9 []), (.x 10 []), (.x 11 []), (.x 12 []), (.x 13 []), (.x 14 []), (.x 15 []), (.x 16 []), (.x 17 []), (.x 18 []), (.x 19 [])])]) [(.x 0 []), (.sl 1 0 1 1)] (.tp [(.sl 14), .one]) 
(.ret (.t [(.row 2), (.x 20 [1])]) [none, none, (some ⟨[(.x 20 [0])], 0, (.ext 14)⟩)] []))
def args_papply : List SX.V := [.x 0 [], .a ((List.range 19).map fun j => .x (1 + j) [])]
set_option maxRecDepth 100000 in
theorem run_papply (K A : Value → Nat → List Value → Prop) : (SX.run (cxH K A) ⟨fun _ => false, [], 2, 100⟩ 100000 0 (SX.door 12 Try.f12 args_papply (List.replicate 20 .one)) [.code (Try.f12.body.getD .skip), .top Try.f12]).strip = tree_papply := by kernel_rfl
set_option maxRecDepth 100000 in
set_option maxHeartbeats 4000000 in
theorem papply_any (ss : List Sg) (A : Option Addr) (n c : Nat) (p : Pt) (B : Option Addr) (m d : Nat) (w : World) (hr : Rd w 14 A n (sgsL ss)) (hn : n ≤ 9223372036854775807) (hc : n ≤ c) (hp : Rd w 1 B m (intsL p.needs)) (hm : m ≤ 9223372036854775807) (hmd : m ≤ d) : Calls Try.prog 12 #[.slice A n c, valP p (.slice B m d)] w fun e w' => Below w.heap.size w w' ∧ ∃ hdr, e = .returned (.tuple #[hdr, .int .i64 (runS ss [p]).2]) ∧ SX.SlRet w w' [⟨.slice A n c, 14, sgsL ss⟩] hdr 14 (sgsL (runS ss [p]).1) := by
  refine SX.calls_of_run (C := cxH (apK A n c ss p (.slice B m d)) (runA A n c ss)) (G := ⟨fun _ => false, [], 2, 100⟩) (args := args_papply) (sh := (List.replicate 20 .one)) (ρ := ([.slice A n c] ++ cellsP p (.slice B m d))) 100000 tree_papply (okH _ _) Try.func12 rfl (run_papply _ _) (by kernel_rfl) (by kernel_rfl) (by kernel_rfl) ?_ ?_
  · rintro W hW s sz cells (⟨rfl, rfl, rfl⟩ | ⟨rfl, rfl, rfl⟩)
    · exact ⟨hr.same0 hW, hc⟩
    · exact ⟨hp.same0 hW, hmd⟩
  have hln : ss.length = n := by have := hr.1; rw [sgsL_len] at this; omega
  have hlm : p.needs.length = m := by have := hp.1; rw [intsL_len] at this; omega
  have k1 : apK A n c ss p (.slice B m d) (.slice A n c) 14 (sgsL ss) := .inl ⟨rfl, rfl, rfl⟩
  have k2 : apK A n c ss p (.slice B m d) (.slice B m d) 1 (intsL p.needs) := .inr ⟨rfl, rfl, rfl⟩
  have a1 : runA A n c ss (.slice A n c) 14 (sgsL ss) := ⟨rfl, rfl, rfl⟩
  unfold tree_papply
  refine SX.VC_df (.tuple #[Value.agg (sgsL (runS ss [p]).1).toArray, .int .i64 ((runS ss [p]).2)]) (fun α => ⟨[⟨.slice A n c, 14, sgsL ss⟩, ⟨.slice (some ⟨(α 1).b, 0, none⟩) 1 1, 19, phL [(p, B, m, d)]⟩], ⟨by kernel_rfl, rfl, cast (by kernel_rfl) k1, by kernel_rfl, trivial⟩, .inr (.inr (.inr (.inr (.inr (.inr (.inl ⟨rfl, _, _, ss, [(p, B, m, d)], rfl, by omega, by simp, fun q hq => by (obtain rfl : q = (p, B, m, d) := by simpa using hq); exact ⟨k2, by show p.needs.length ≤ _; omega⟩, rfl⟩)))))), fun j hj x sz hx h => match j, hx, h with | 0, hx, _ => by (cases hx; exact cast (by kernel_rfl) a1) | 1, _, h => by cases h | _ + 2, _, h => by cases h⟩) (sgs_fit _ _) ?_
  have hfact : runS ss [p] = ((runS ss [p]).1, (runS ss [p]).2) := by rfl
  exact SX.VC_ret fun α W _ hR hS => ⟨hS.below, (α 2).h, Eq.trans (b := Ending.returned (.tuple #[(α 2).h, .int .i64 ((runS ss [p]).2)])) (by kernel_rfl) (by rw [hfact]), SX.SlRet.ext hS (n := 2) (b := (⟨[(.x 20 [0])], 0, (.ext 14)⟩ : SX.Blk)) (by kernel_rfl) rfl (hR 2 _ (by kernel_rfl)) (Eq.trans (b := [Value.agg (sgsL (runS ss [p]).1).toArray].flatMap SX.cellsV) (by kernel_rfl) (by rw [hfact]; simp [SX.cellsV])) (x := ⟨.slice A n c, 14, sgsL ss⟩) (by simp) (fun W2 h s z xs hk => by obtain ⟨rfl, rfl, rfl⟩ := hk; exact h) (fun B h s z xs hk => by obtain ⟨rfl, rfl, rfl⟩ := hk; exact h)⟩
def tree_rapply2 : SX.Tree :=
(.df (.call 33 [(.ext 14)]) [(.x 0 [])] .one 
(.df (.bin .neq 32) [(.x 20 []), (.k (.int .i64 0))] .one 
(.br 21 [] 
(.ret (.t [(.k (.slice none 0 0)), (.x 20 [])]) [none] []) 
(.df (.call 15 [.no]) [(.a [(.x 1 []), (.x 2 []), (.x 3 []), (.x 4 []), (.x 5 []), (.x 6 []), (.x 7 []), (.x 8 []), (.x 9 []), (.x 10 []), (.x 11 []), (.x 12 []), (.x 13 []), (.x 14 []), (.x 15 []), (.x 16 []), (.x 17 []), (.x 18 []), (.x 19 [])])] .one 
(.df (.bin .neq 32) [(.x 22 []), (.k (.int .i64 0))] .one 
(.br 23 [] 
(.ret (.t [(.k (.slice none 0 0)), (.x 22 [])]) [none] []) 
(.df (.call 34 [(.ext 14), .no]) [(.x 0 []), (.a [(.x 1 []), (.x 2 []), (.x 3 []), (.x 4 []), (.x 5 []), (.x 6 []), (.x 7 []), (.x 8 []), (.x 9 []), (.x 10 []), (.x 11 []), (.x 12 []), (.x 13 []), (.x 14 []), (.x 15 []), (.x 16 []), (.x 17 []), (.x 18 []), (.x 19 [])])] (.tp [(.sl 14), .one]) 
(.ret (.t [(.row 1), (.x 24 [1])]) [none, (some ⟨[(.x 24 [0])], 0, (.ext 14)⟩)] []))))))))
def args_rapply2 : List SX.V := [.x 0 [], .a ((List.range 19).map fun j => .x (1 + j) [])]
set_option maxRecDepth 100000 in
theorem run_rapply2 (K A : Value → Nat → List Value → Prop) : (SX.run (cxH K A) ⟨fun _ => false, [], 2, 100⟩ 100000 0 (SX.door 13 Try.f13 args_rapply2 (List.replicate 20 .one)) [.code (Try.f13.body.getD .skip), .top Try.f13]).strip = tree_rapply2 := by kernel_rfl
set_option maxRecDepth 100000 in
set_option maxHeartbeats 4000000 in
theorem rapply2_any (ss : List Sg) (A : Option Addr) (n c : Nat) (p : Pt) (B : Option Addr) (m d : Nat) (w : World) (hr : Rd w 14 A n (sgsL ss)) (hn : n ≤ 9223372036854775807) (hc : n ≤ c) (hp : Rd w 1 B m (intsL p.needs)) (hm : m ≤ 9223372036854775807) (hmd : m ≤ d) : Calls Try.prog 13 #[.slice A n c, valP p (.slice B m d)] w fun e w' => Below w.heap.size w w' ∧ ∃ hdr, e = .returned (.tuple #[hdr, .int .i64 (runS ss [p]).2]) ∧ SX.SlRet w w' [⟨.slice A n c, 14, sgsL ss⟩] hdr 14 (sgsL (runS ss [p]).1) := by
  refine SX.calls_of_run (C := cxH (apK A n c ss p (.slice B m d)) (runA A n c ss)) (G := ⟨fun _ => false, [], 2, 100⟩) (args := args_rapply2) (sh := (List.replicate 20 .one)) (ρ := ([.slice A n c] ++ cellsP p (.slice B m d))) 100000 tree_rapply2 (okH _ _) Try.func13 rfl (run_rapply2 _ _) (by kernel_rfl) (by kernel_rfl) (by kernel_rfl) ?_ ?_
  · rintro W hW s sz cells (⟨rfl, rfl, rfl⟩ | ⟨rfl, rfl, rfl⟩)
    · exact ⟨hr.same0 hW, hc⟩
    · exact ⟨hp.same0 hW, hmd⟩
  have hln : ss.length = n := by have := hr.1; rw [sgsL_len] at this; omega
  have hlm : p.needs.length = m := by have := hp.1; rw [intsL_len] at this; omega
  have k1 : apK A n c ss p (.slice B m d) (.slice A n c) 14 (sgsL ss) := .inl ⟨rfl, rfl, rfl⟩
  have k2 : apK A n c ss p (.slice B m d) (.slice B m d) 1 (intsL p.needs) := .inr ⟨rfl, rfl, rfl⟩
  have a1 : runA A n c ss (.slice A n c) 14 (sgsL ss) := ⟨rfl, rfl, rfl⟩
  unfold tree_rapply2
  refine SX.VC_df (.int .i64 ((chkS ss))) (fun α => ⟨[⟨.slice A n c, 14, sgsL ss⟩], ⟨by kernel_rfl, rfl, cast (by kernel_rfl) k1, trivial⟩, .inr (.inl ⟨rfl, .slice A n c, ss, rfl, by omega, rfl⟩), SX.noAli rfl⟩) (by kernel_rfl) ?_
  refine SX.VC_df (.bool (((chkS ss) : Int) != 0)) (by intro α; show _ = _; kernel_rfl) (by kernel_rfl) ?_
  refine SX.VC_br (((chkS ss) : Int) != 0) (by kernel_rfl) (fun h21 => ?_) (fun h21 => ?_)
  · try simp only [NRM] at h21
    have hfact : runS ss [p] = ([], chkS ss) := by rw [runS, if_neg h21]
    exact SX.VC_ret fun α W _ hR hS => ⟨hS.below, (.slice none 0 0), Eq.trans (b := Ending.returned (.tuple #[(.slice none 0 0), .int .i64 ((chkS ss))])) (by kernel_rfl) (by rw [hfact]), (by rw [hfact]; exact SX.SlRet.nil)⟩
  · try simp only [NRM] at h21
    refine SX.VC_df (.int .i64 ((chkP p))) (fun α => ⟨[⟨valP p (.slice B m d), 0, []⟩], ⟨by kernel_rfl, by kernel_rfl, trivial⟩, .inr (.inr (.inr (.inl ⟨rfl, p, B, m, d, rfl, k2, by omega, rfl⟩))), SX.noAli rfl⟩) (by kernel_rfl) ?_
    refine SX.VC_df (.bool (((chkP p) : Int) != 0)) (by intro α; show _ = _; kernel_rfl) (by kernel_rfl) ?_
    refine SX.VC_br (((chkP p) : Int) != 0) (by kernel_rfl) (fun h23 => ?_) (fun h23 => ?_)
    · try simp only [NRM] at h23
      have hfact : runS ss [p] = ([], chkP p) := by rw [runS, if_pos h21, if_neg (by simp), runL, if_neg h23]
      exact SX.VC_ret fun α W _ hR hS => ⟨hS.below, (.slice none 0 0), Eq.trans (b := Ending.returned (.tuple #[(.slice none 0 0), .int .i64 ((chkP p))])) (by kernel_rfl) (by rw [hfact]), (by rw [hfact]; exact SX.SlRet.nil)⟩
    · try simp only [NRM] at h23
      refine SX.VC_df (.tuple #[Value.agg (sgsL (applyS ss p).1).toArray, .int .i64 ((applyS ss p).2)]) (fun α => ⟨[⟨.slice A n c, 14, sgsL ss⟩, ⟨valP p (.slice B m d), 0, []⟩], ⟨by kernel_rfl, rfl, cast (by kernel_rfl) k1, by kernel_rfl, by kernel_rfl, trivial⟩, .inr (.inr (.inr (.inr (.inr (.inl ⟨rfl, _, ss, p, B, m, d, rfl, (chkS_ok h21).1, (chkS_ok h21).2, chkP_ok h23, rfl⟩))))), fun j hj x sz hx h => match j, hx, h with | 0, hx, _ => by (cases hx; exact cast (by kernel_rfl) a1) | 1, _, h => by cases h | _ + 2, _, h => by cases h⟩) (sgs_fit _ _) ?_
      have hfact : runS ss [p] = ((applyS ss p).1, (applyS ss p).2) := by rw [run1 h21 h23]
      exact SX.VC_ret fun α W _ hR hS => ⟨hS.below, (α 1).h, Eq.trans (b := Ending.returned (.tuple #[(α 1).h, .int .i64 ((applyS ss p).2)])) (by kernel_rfl) (by rw [hfact]), SX.SlRet.ext hS (n := 1) (b := (⟨[(.x 24 [0])], 0, (.ext 14)⟩ : SX.Blk)) (by kernel_rfl) rfl (hR 1 _ (by kernel_rfl)) (Eq.trans (b := [Value.agg (sgsL (applyS ss p).1).toArray].flatMap SX.cellsV) (by kernel_rfl) (by rw [hfact]; simp [SX.cellsV])) (x := ⟨.slice A n c, 14, sgsL ss⟩) (by simp) (fun W2 h s z xs hk => by obtain ⟨rfl, rfl, rfl⟩ := hk; exact h) (fun B h s z xs hk => by obtain ⟨rfl, rfl, rfl⟩ := hk; exact h)⟩
def tree_overlap : SX.Tree :=
(.df (.call 14 [.no]) [(.a [(.x 0 []), (.x 1 []), (.x 2 []), (.x 3 []), (.x 4 []), (.x 5 []), (.x 6 []), (.x 7 []), (.x 8 []), (.x 9 []), (.x 10 []), (.x 11 []), (.x 12 []), (.x 13 []), (.x 14 []), (.x 15 []), (.x 16 []), (.x 17 []), (.x 18 [])])] .one 
(.df (.bin .neq 32) [(.x 38 []), (.k (.int .i64 0))] .one 
(.br 39 [] 
(.ret (.t [(.k (.bool false)), (.x 38 [])]) [] []) 
(.df (.call 14 [.no]) [(.a [(.x 19 []), (.x 20 []), (.x 21 []), (.x 22 []), (.x 23 []), (.x 24 []), (.x 25 []), (.x 26 []), (.x 27 []), (.x 28 []), (.x 29 []), (.x 30 []), (.x 31 []), (.x 32 []), (.x 33 []), (.x 34 []), (.x 35 []), (.x 36 []), (.x 37 [])])] .one 
(.df (.bin .neq 32) [(.x 40 []), (.k (.int .i64 0))] .one 
(.br 41 [] 
(.ret (.t [(.k (.bool false)), (.x 40 [])]) [] []) 
(.df (.bin .neq 3) [(.x 1 []), (.k (.int .i64 1))] .one 
(.br 42 [] 
(.df (.bin .eql 3) [(.x 2 []), (.x 21 [])] .one 
(.br 43 [] 
(.ret (.t [(.k (.bool true)), (.k (.int .i64 0))]) [] []) 
(.ret (.t [(.k (.bool false)), (.k (.int .i64 0))]) [] []))) 
(.df (.bin .neq 3) [(.x 20 []), (.k (.int .i64 1))] .one 
(.df (.bin .eql 3) [(.x 2 []), (.x 21 [])] .one 
(.br 44 [] 
(.br 43 [] 
(.ret (.t [(.k (.bool true)), (.k (.int .i64 0))]) [] []) 
(.df (.bin .eql 3) [(.x 3 []), (.x 22 [])] .one 
(.ret (.t [(.x 45 []), (.k (.int .i64 0))]) [] []))) 
(.ret (.t [(.k (.bool false)), (.k (.int .i64 0))]) [] []))))))))))))
def args_overlap : List SX.V := [.a ((List.range 19).map fun j => .x j []), .a ((List.range 19).map fun j => .x (19 + j) [])]
set_option maxRecDepth 100000 in
theorem run_overlap (K A : Value → Nat → List Value → Prop) : (SX.run (cxH K A) ⟨fun _ => false, [], 0, 100⟩ 100000 0 (SX.door 22 Try.f22 args_overlap (List.replicate 38 .one)) [.code (Try.f22.body.getD .skip), .top Try.f22]).strip = tree_overlap := by kernel_rfl
set_option maxRecDepth 100000 in
set_option maxHeartbeats 4000000 in
theorem overlap_any (p q : Pt) (B : Option Addr) (m d : Nat) (B' : Option Addr) (m' d' : Nat) (w : World) (hp : Rd w 1 B m (intsL p.needs)) (hm : m ≤ 9223372036854775807) (hmd : m ≤ d) (hp' : Rd w 1 B' m' (intsL q.needs)) (hm' : m' ≤ 9223372036854775807) (hmd' : m' ≤ d') : Calls Try.prog 22 #[valP p (.slice B m d), valP q (.slice B' m' d')] w fun e w' => e = .returned (.tuple #[.bool (ovV p q), .int .i64 (ovE p q)]) ∧ Below w.heap.size w w' := by
  refine SX.calls_of_run (C := cxH (twoK p (.slice B m d) q (.slice B' m' d')) (fun _ _ _ => False)) (G := ⟨fun _ => false, [], 0, 100⟩) (args := args_overlap) (sh := (List.replicate 38 .one)) (ρ := (cellsP p (.slice B m d) ++ cellsP q (.slice B' m' d'))) 100000 tree_overlap (okH _ _) Try.func22 rfl (run_overlap _ _) (by kernel_rfl) (by kernel_rfl) (by kernel_rfl) ?_ ?_
  · rintro W hW s sz cells (⟨rfl, rfl, rfl⟩ | ⟨rfl, rfl, rfl⟩)
    · exact ⟨hp.same0 hW, hmd⟩
    · exact ⟨hp'.same0 hW, hmd'⟩
  have hlm : p.needs.length = m := by have := hp.1; rw [intsL_len] at this; omega
  have hlm' : q.needs.length = m' := by have := hp'.1; rw [intsL_len] at this; omega
  have k1 : twoK p (.slice B m d) q (.slice B' m' d') (.slice B m d) 1 (intsL p.needs) := .inl ⟨rfl, rfl, rfl⟩
  have k2 : twoK p (.slice B m d) q (.slice B' m' d') (.slice B' m' d') 1 (intsL q.needs) := .inr ⟨rfl, rfl, rfl⟩
  unfold tree_overlap
  refine SX.VC_df (.int .i64 ((chkP p))) (fun α => ⟨[⟨valP p (.slice B m d), 0, []⟩], ⟨by kernel_rfl, by kernel_rfl, trivial⟩, .inr (.inr (.inl ⟨rfl, p, B, m, d, rfl, k1, by omega, rfl⟩)), SX.noAli rfl⟩) (by kernel_rfl) ?_
  refine SX.VC_df (.bool (((chkP p) : Int) != 0)) (by intro α; show _ = _; kernel_rfl) (by kernel_rfl) ?_
  refine SX.VC_br (((chkP p) : Int) != 0) (by kernel_rfl) (fun h39 => ?_) (fun h39 => ?_)
  · try simp only [NRM] at h39
    have hfact : (ovV p q, ovE p q) = (false, (chkP p)) := by rw [ovE, if_neg h39]; simp [ovV, h39]
    exact SX.VC_ret fun α W _ _ hS => SX.ret_of hS (x := .tuple #[.bool false, .int .i64 ((chkP p))]) (by kernel_rfl) (by have q1 := congrArg Prod.fst hfact; have q2 := congrArg Prod.snd hfact; simp only at q1 q2; rw [q1, q2])
  · try simp only [NRM] at h39
    refine SX.VC_df (.int .i64 ((chkP q))) (fun α => ⟨[⟨valP q (.slice B' m' d'), 0, []⟩], ⟨by kernel_rfl, by kernel_rfl, trivial⟩, .inr (.inr (.inl ⟨rfl, q, B', m', d', rfl, k2, by omega, rfl⟩)), SX.noAli rfl⟩) (by kernel_rfl) ?_
    refine SX.VC_df (.bool (((chkP q) : Int) != 0)) (by intro α; show _ = _; kernel_rfl) (by kernel_rfl) ?_
    refine SX.VC_br (((chkP q) : Int) != 0) (by kernel_rfl) (fun h41 => ?_) (fun h41 => ?_)
    · try simp only [NRM] at h41
      have hfact : (ovV p q, ovE p q) = (false, (chkP q)) := by rw [ovE, if_pos h39]; simp [ovV, h39, h41]
      exact SX.VC_ret fun α W _ _ hS => SX.ret_of hS (x := .tuple #[.bool false, .int .i64 ((chkP q))]) (by kernel_rfl) (by have q1 := congrArg Prod.fst hfact; have q2 := congrArg Prod.snd hfact; simp only at q1 q2; rw [q1, q2])
    · try simp only [NRM] at h41
      refine SX.VC_df (.bool ((p.kind : Int) != 1)) (by intro α; show _ = _; kernel_rfl) (by kernel_rfl) ?_
      refine SX.VC_br ((p.kind : Int) != 1) (by kernel_rfl) (fun h42 => ?_) (fun h42 => ?_)
      · try simp only [NRM] at h42
        refine SX.VC_df (.bool ((p.sign : Int) == q.sign)) (by intro α; show _ = _; kernel_rfl) (by kernel_rfl) ?_
        refine SX.VC_br ((p.sign : Int) == q.sign) (by kernel_rfl) (fun h43 => ?_) (fun h43 => ?_)
        · try simp only [NRM] at h43
          have hfact : (ovV p q, ovE p q) = (true, 0) := by rw [ovE, if_pos h39, h41]; simp [ovV, h39, h41]; try (first | omega | (rw [Bool.eq_iff_iff]; simp; omega) | (simp_all; done) | (constructor <;> intro hk <;> omega))
          exact SX.VC_ret fun α W _ _ hS => SX.ret_of hS (x := .tuple #[.bool true, .int .i64 0]) (by kernel_rfl) (by have q1 := congrArg Prod.fst hfact; have q2 := congrArg Prod.snd hfact; simp only at q1 q2; rw [q1, q2])
        · try simp only [NRM] at h43
          have hfact : (ovV p q, ovE p q) = (false, 0) := by rw [ovE, if_pos h39, h41]; simp [ovV, h39, h41]; try (first | omega | (rw [Bool.eq_iff_iff]; simp; omega) | (simp_all; done) | (constructor <;> intro hk <;> omega))
          exact SX.VC_ret fun α W _ _ hS => SX.ret_of hS (x := .tuple #[.bool false, .int .i64 0]) (by kernel_rfl) (by have q1 := congrArg Prod.fst hfact; have q2 := congrArg Prod.snd hfact; simp only at q1 q2; rw [q1, q2])
      · try simp only [NRM] at h42
        refine SX.VC_df (.bool ((q.kind : Int) != 1)) (by intro α; show _ = _; kernel_rfl) (by kernel_rfl) ?_
        refine SX.VC_df (.bool ((p.sign : Int) == q.sign)) (by intro α; show _ = _; kernel_rfl) (by kernel_rfl) ?_
        refine SX.VC_br ((p.sign : Int) == q.sign) (by kernel_rfl) (fun h44 => ?_) (fun h44 => ?_)
        · try simp only [NRM] at h44
          refine SX.VC_br ((q.kind : Int) != 1) (by kernel_rfl) (fun h43 => ?_) (fun h43 => ?_)
          · try simp only [NRM] at h43
            have hfact : (ovV p q, ovE p q) = (true, 0) := by rw [ovE, if_pos h39, h41]; simp [ovV, h39, h41]; try (first | omega | (rw [Bool.eq_iff_iff]; simp; omega) | (simp_all; done) | (constructor <;> intro hk <;> omega))
            exact SX.VC_ret fun α W _ _ hS => SX.ret_of hS (x := .tuple #[.bool true, .int .i64 0]) (by kernel_rfl) (by have q1 := congrArg Prod.fst hfact; have q2 := congrArg Prod.snd hfact; simp only at q1 q2; rw [q1, q2])
          · try simp only [NRM] at h43
            refine SX.VC_df (.bool ((p.field : Int) == q.field)) (by intro α; show _ = _; kernel_rfl) (by kernel_rfl) ?_
            have hfact : (ovV p q, ovE p q) = ((p.field : Int) == q.field, 0) := by rw [ovE, if_pos h39, h41]; simp [ovV, h39, h41]; try (first | omega | (rw [Bool.eq_iff_iff]; simp; omega) | (simp_all; done) | (constructor <;> intro hk <;> omega))
            exact SX.VC_ret fun α W _ _ hS => SX.ret_of hS (x := .tuple #[.bool ((p.field : Int) == q.field), .int .i64 0]) (by kernel_rfl) (by have q1 := congrArg Prod.fst hfact; have q2 := congrArg Prod.snd hfact; simp only at q1 q2; rw [q1, q2])
        · try simp only [NRM] at h44
          have hfact : (ovV p q, ovE p q) = (false, 0) := by rw [ovE, if_pos h39, h41]; simp [ovV, h39, h41]; try (first | omega | (rw [Bool.eq_iff_iff]; simp; omega) | (simp_all; done) | (constructor <;> intro hk <;> omega))
          exact SX.VC_ret fun α W _ _ hS => SX.ret_of hS (x := .tuple #[.bool false, .int .i64 0]) (by kernel_rfl) (by have q1 := congrArg Prod.fst hfact; have q2 := congrArg Prod.snd hfact; simp only at q1 q2; rw [q1, q2])
def tree_roverlap : SX.Tree :=
(.df (.call 15 [.no]) [(.a [(.x 0 []), (.x 1 []), (.x 2 []), (.x 3 []), (.x 4 []), (.x 5 []), (.x 6 []), (.x 7 []), (.x 8 []), (.x 9 []), (.x 10 []), (.x 11 []), (.x 12 []), (.x 13 []), (.x 14 []), (.x 15 []), (.x 16 []), (.x 17 []), (.x 18 [])])] .one 
(.df (.bin .neq 32) [(.x 38 []), (.k (.int .i64 0))] .one 
(.br 39 [] 
(.ret (.t [(.k (.bool false)), (.x 38 [])]) [] []) 
(.df (.call 15 [.no]) [(.a [(.x 19 []), (.x 20 []), (.x 21 []), (.x 22 []), (.x 23 []), (.x 24 []), (.x 25 []), (.x 26 []), (.x 27 []), (.x 28 []), (.x 29 []), (.x 30 []), (.x 31 []), (.x 32 []), (.x 33 []), (.x 34 []), (.x 35 []), (.x 36 []), (.x 37 [])])] .one 
(.df (.bin .neq 32) [(.x 40 []), (.k (.int .i64 0))] .one 
(.br 41 [] 
(.ret (.t [(.k (.bool false)), (.x 40 [])]) [] []) 
(.df (.bin .eql 3) [(.x 2 []), (.x 21 [])] .one 
(.br 42 [] 
(.df (.bin .neq 3) [(.x 1 []), (.k (.int .i64 1))] .one 
(.br 43 [] 
(.ret (.t [(.k (.bool true)), (.k (.int .i64 0))]) [] []) 
(.df (.bin .neq 3) [(.x 20 []), (.k (.int .i64 1))] .one 
(.br 44 [] 
(.ret (.t [(.k (.bool true)), (.k (.int .i64 0))]) [] []) 
(.df (.bin .eql 3) [(.x 3 []), (.x 22 [])] .one 
(.ret (.t [(.x 45 []), (.k (.int .i64 0))]) [] [])))))) 
(.ret (.t [(.k (.bool false)), (.k (.int .i64 0))]) [] [])))))))))
def args_roverlap : List SX.V := [.a ((List.range 19).map fun j => .x j []), .a ((List.range 19).map fun j => .x (19 + j) [])]
set_option maxRecDepth 100000 in
theorem run_roverlap (K A : Value → Nat → List Value → Prop) : (SX.run (cxH K A) ⟨fun _ => false, [], 0, 100⟩ 100000 0 (SX.door 23 Try.f23 args_roverlap (List.replicate 38 .one)) [.code (Try.f23.body.getD .skip), .top Try.f23]).strip = tree_roverlap := by kernel_rfl
set_option maxRecDepth 100000 in
set_option maxHeartbeats 4000000 in
theorem roverlap_any (p q : Pt) (B : Option Addr) (m d : Nat) (B' : Option Addr) (m' d' : Nat) (w : World) (hp : Rd w 1 B m (intsL p.needs)) (hm : m ≤ 9223372036854775807) (hmd : m ≤ d) (hp' : Rd w 1 B' m' (intsL q.needs)) (hm' : m' ≤ 9223372036854775807) (hmd' : m' ≤ d') : Calls Try.prog 23 #[valP p (.slice B m d), valP q (.slice B' m' d')] w fun e w' => e = .returned (.tuple #[.bool (ovV p q), .int .i64 (ovE p q)]) ∧ Below w.heap.size w w' := by
  refine SX.calls_of_run (C := cxH (twoK p (.slice B m d) q (.slice B' m' d')) (fun _ _ _ => False)) (G := ⟨fun _ => false, [], 0, 100⟩) (args := args_roverlap) (sh := (List.replicate 38 .one)) (ρ := (cellsP p (.slice B m d) ++ cellsP q (.slice B' m' d'))) 100000 tree_roverlap (okH _ _) Try.func23 rfl (run_roverlap _ _) (by kernel_rfl) (by kernel_rfl) (by kernel_rfl) ?_ ?_
  · rintro W hW s sz cells (⟨rfl, rfl, rfl⟩ | ⟨rfl, rfl, rfl⟩)
    · exact ⟨hp.same0 hW, hmd⟩
    · exact ⟨hp'.same0 hW, hmd'⟩
  have hlm : p.needs.length = m := by have := hp.1; rw [intsL_len] at this; omega
  have hlm' : q.needs.length = m' := by have := hp'.1; rw [intsL_len] at this; omega
  have k1 : twoK p (.slice B m d) q (.slice B' m' d') (.slice B m d) 1 (intsL p.needs) := .inl ⟨rfl, rfl, rfl⟩
  have k2 : twoK p (.slice B m d) q (.slice B' m' d') (.slice B' m' d') 1 (intsL q.needs) := .inr ⟨rfl, rfl, rfl⟩
  unfold tree_roverlap
  refine SX.VC_df (.int .i64 ((chkP p))) (fun α => ⟨[⟨valP p (.slice B m d), 0, []⟩], ⟨by kernel_rfl, by kernel_rfl, trivial⟩, .inr (.inr (.inr (.inl ⟨rfl, p, B, m, d, rfl, k1, by omega, rfl⟩))), SX.noAli rfl⟩) (by kernel_rfl) ?_
  refine SX.VC_df (.bool (((chkP p) : Int) != 0)) (by intro α; show _ = _; kernel_rfl) (by kernel_rfl) ?_
  refine SX.VC_br (((chkP p) : Int) != 0) (by kernel_rfl) (fun h39 => ?_) (fun h39 => ?_)
  · try simp only [NRM] at h39
    have hfact : (ovV p q, ovE p q) = (false, (chkP p)) := by rw [ovE, if_neg h39]; simp [ovV, h39]
    exact SX.VC_ret fun α W _ _ hS => SX.ret_of hS (x := .tuple #[.bool false, .int .i64 ((chkP p))]) (by kernel_rfl) (by have q1 := congrArg Prod.fst hfact; have q2 := congrArg Prod.snd hfact; simp only at q1 q2; rw [q1, q2])
  · try simp only [NRM] at h39
    refine SX.VC_df (.int .i64 ((chkP q))) (fun α => ⟨[⟨valP q (.slice B' m' d'), 0, []⟩], ⟨by kernel_rfl, by kernel_rfl, trivial⟩, .inr (.inr (.inr (.inl ⟨rfl, q, B', m', d', rfl, k2, by omega, rfl⟩))), SX.noAli rfl⟩) (by kernel_rfl) ?_
    refine SX.VC_df (.bool (((chkP q) : Int) != 0)) (by intro α; show _ = _; kernel_rfl) (by kernel_rfl) ?_
    refine SX.VC_br (((chkP q) : Int) != 0) (by kernel_rfl) (fun h41 => ?_) (fun h41 => ?_)
    · try simp only [NRM] at h41
      have hfact : (ovV p q, ovE p q) = (false, (chkP q)) := by rw [ovE, if_pos h39]; simp [ovV, h39, h41]
      exact SX.VC_ret fun α W _ _ hS => SX.ret_of hS (x := .tuple #[.bool false, .int .i64 ((chkP q))]) (by kernel_rfl) (by have q1 := congrArg Prod.fst hfact; have q2 := congrArg Prod.snd hfact; simp only at q1 q2; rw [q1, q2])
    · try simp only [NRM] at h41
      refine SX.VC_df (.bool ((p.sign : Int) == q.sign)) (by intro α; show _ = _; kernel_rfl) (by kernel_rfl) ?_
      refine SX.VC_br ((p.sign : Int) == q.sign) (by kernel_rfl) (fun h42 => ?_) (fun h42 => ?_)
      · try simp only [NRM] at h42
        refine SX.VC_df (.bool ((p.kind : Int) != 1)) (by intro α; show _ = _; kernel_rfl) (by kernel_rfl) ?_
        refine SX.VC_br ((p.kind : Int) != 1) (by kernel_rfl) (fun h43 => ?_) (fun h43 => ?_)
        · try simp only [NRM] at h43
          have hfact : (ovV p q, ovE p q) = (true, 0) := by rw [ovE, if_pos h39, h41]; simp [ovV, h39, h41]; try (first | omega | (rw [Bool.eq_iff_iff]; simp; omega) | (simp_all; done) | (constructor <;> intro hk <;> omega))
          exact SX.VC_ret fun α W _ _ hS => SX.ret_of hS (x := .tuple #[.bool true, .int .i64 0]) (by kernel_rfl) (by have q1 := congrArg Prod.fst hfact; have q2 := congrArg Prod.snd hfact; simp only at q1 q2; rw [q1, q2])
        · try simp only [NRM] at h43
          refine SX.VC_df (.bool ((q.kind : Int) != 1)) (by intro α; show _ = _; kernel_rfl) (by kernel_rfl) ?_
          refine SX.VC_br ((q.kind : Int) != 1) (by kernel_rfl) (fun h44 => ?_) (fun h44 => ?_)
          · try simp only [NRM] at h44
            have hfact : (ovV p q, ovE p q) = (true, 0) := by rw [ovE, if_pos h39, h41]; simp [ovV, h39, h41]; try (first | omega | (rw [Bool.eq_iff_iff]; simp; omega) | (simp_all; done) | (constructor <;> intro hk <;> omega))
            exact SX.VC_ret fun α W _ _ hS => SX.ret_of hS (x := .tuple #[.bool true, .int .i64 0]) (by kernel_rfl) (by have q1 := congrArg Prod.fst hfact; have q2 := congrArg Prod.snd hfact; simp only at q1 q2; rw [q1, q2])
          · try simp only [NRM] at h44
            refine SX.VC_df (.bool ((p.field : Int) == q.field)) (by intro α; show _ = _; kernel_rfl) (by kernel_rfl) ?_
            have hfact : (ovV p q, ovE p q) = ((p.field : Int) == q.field, 0) := by rw [ovE, if_pos h39, h41]; simp [ovV, h39, h41]; try (first | omega | (rw [Bool.eq_iff_iff]; simp; omega) | (simp_all; done) | (constructor <;> intro hk <;> omega))
            exact SX.VC_ret fun α W _ _ hS => SX.ret_of hS (x := .tuple #[.bool ((p.field : Int) == q.field), .int .i64 0]) (by kernel_rfl) (by have q1 := congrArg Prod.fst hfact; have q2 := congrArg Prod.snd hfact; simp only at q1 q2; rw [q1, q2])
      · try simp only [NRM] at h42
        have hfact : (ovV p q, ovE p q) = (false, 0) := by rw [ovE, if_pos h39, h41]; simp [ovV, h39, h41]; try (first | omega | (rw [Bool.eq_iff_iff]; simp; omega) | (simp_all; done) | (constructor <;> intro hk <;> omega))
        exact SX.VC_ret fun α W _ _ hS => SX.ret_of hS (x := .tuple #[.bool false, .int .i64 0]) (by kernel_rfl) (by have q1 := congrArg Prod.fst hfact; have q2 := congrArg Prod.snd hfact; simp only at q1 q2; rw [q1, q2])
def tree_few : SX.Tree :=
(.df (.len false) [(.x 0 [])] .one 
(.df (.bin .leq 3) [(.x 1 []), (.k (.int .i64 300))] .one 
(.br 2 [] 
(.ret (.k (.bool true)) [] []) 
(.df (.len false) [(.x 0 [])] .one 
(.df (.bin .geq 3) [(.x 3 []), (.k (.int .i64 4094))] .one 
(.br 4 [] 
(.df (.len false) [(.x 0 [])] .one 
(.df (.bin .leq 3) [(.x 5 []), (.k (.int .i64 5000))] .one 
(.ret (.x 6 []) [] []))) 
(.ret (.k (.bool false)) [] [])))))))
def args_few : List SX.V := [.x 0 []]
set_option maxRecDepth 100000 in
theorem run_few (K A : Value → Nat → List Value → Prop) : (SX.run (cx0 K A) ⟨fun _ => false, [], 0, 100⟩ 100000 0 (SX.door 11 Try.f11 args_few [.one]) [.code (Try.f11.body.getD .skip), .top Try.f11]).strip = tree_few := by kernel_rfl
set_option maxRecDepth 100000 in
set_option maxHeartbeats 4000000 in
theorem few_any (ss : List Sg) (A : Option Addr) (n c : Nat) (w : World) (hr : Rd w 14 A n (sgsL ss)) (hn : n ≤ 9223372036854775807) (hc : n ≤ c) : Calls Try.prog 11 #[.slice A n c] w fun e w' => e = .returned (.bool (fewS ss)) ∧ Below w.heap.size w w' := by
  refine SX.calls_of_run (C := cx0 (fun s sz cells => s = .slice A n c ∧ sz = 14 ∧ cells = sgsL ss) (fun _ _ _ => False)) (G := ⟨fun _ => false, [], 0, 100⟩) (args := args_few) (sh := [.one]) (ρ := [.slice A n c]) 100000 tree_few (cx0_ok _ _) Try.func11 rfl (run_few _ _) (by kernel_rfl) (by kernel_rfl) (by kernel_rfl) ?_ ?_
  · rintro W hW s sz cells ⟨rfl, rfl, rfl⟩; exact ⟨hr.same0 hW, hc⟩
  have hln : ss.length = n := by have := hr.1; rw [sgsL_len] at this; omega
  unfold tree_few
  refine SX.VC_df (.int .i64 (((n : Nat) : Int))) (by intro α; show _ = _; kernel_rfl) (by kernel_rfl) ?_
  refine SX.VC_df (.bool (decide (((n : Nat) : Int) ≤ 300))) (by intro α; show _ = _; kernel_rfl) (by kernel_rfl) ?_
  refine SX.VC_br (decide (((n : Nat) : Int) ≤ 300)) (by kernel_rfl) (fun h2 => ?_) (fun h2 => ?_)
  · try simp only [NRM] at h2
    exact SX.VC_ret fun α W _ _ hS => SX.ret_of hS (x := .bool true) (by kernel_rfl) (by unfold fewS; rw [hln]; congr 1; first | (symm; rw [decide_eq_true_eq]; omega) | (symm; rw [decide_eq_false_iff_not]; omega) | (rw [decide_eq_decide]; omega))
  · try simp only [NRM] at h2
    refine SX.VC_df (.int .i64 (((n : Nat) : Int))) (by intro α; show _ = _; kernel_rfl) (by kernel_rfl) ?_
    refine SX.VC_df (.bool (decide (((n : Nat) : Int) ≥ 4094))) (by intro α; show _ = _; kernel_rfl) (by kernel_rfl) ?_
    refine SX.VC_br (decide (((n : Nat) : Int) ≥ 4094)) (by kernel_rfl) (fun h4 => ?_) (fun h4 => ?_)
    · try simp only [NRM] at h4
      refine SX.VC_df (.int .i64 (((n : Nat) : Int))) (by intro α; show _ = _; kernel_rfl) (by kernel_rfl) ?_
      refine SX.VC_df (.bool (decide (((n : Nat) : Int) ≤ 5000))) (by intro α; show _ = _; kernel_rfl) (by kernel_rfl) ?_
      exact SX.VC_ret fun α W _ _ hS => SX.ret_of hS (x := .bool (decide (((n : Nat) : Int) ≤ 5000))) (by kernel_rfl) (by unfold fewS; rw [hln]; congr 1; first | (symm; rw [decide_eq_true_eq]; omega) | (symm; rw [decide_eq_false_iff_not]; omega) | (rw [decide_eq_decide]; omega))
    · try simp only [NRM] at h4
      exact SX.VC_ret fun α W _ _ hS => SX.ret_of hS (x := .bool false) (by kernel_rfl) (by unfold fewS; rw [hln]; congr 1; first | (symm; rw [decide_eq_true_eq]; omega) | (symm; rw [decide_eq_false_iff_not]; omega) | (rw [decide_eq_decide]; omega))
end Go.Proofs.Ytodlcjhefojibaa
