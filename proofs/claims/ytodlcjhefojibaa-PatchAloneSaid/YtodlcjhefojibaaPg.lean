/-
  Patches, one after the other: the program and the specification.
-/
import Derived.Test.YtodlcjhefojibaaPf
namespace Go.Proofs.Ytodlcjhefojibaa
set_option linter.unusedSimpArgs false
set_option linter.unusedVariables false
open Go Go.RowKit
/-- a patch with the header of its needs -/
abbrev Ph := Pt × Option Addr × Nat × Nat
def Ph.h (q : Ph) : Value := .slice q.2.1 q.2.2.1 q.2.2.2
def cellsH (q : Ph) : List Value := cellsP q.1 q.h
def phL (l : List Ph) : List Value := l.flatMap cellsH
theorem phL_len (l : List Ph) : (phL l).length = l.length * 19 := SX.flat_len (f := cellsH) (fun _ => rfl) l
def runL : List Sg → List Pt → List Sg × Int
  | ss, [] => (ss, 0)
  | ss, p :: l => if chkP p = 0 then (if (applyS ss p).2 = 0 then runL (applyS ss p).1 l else ([], (applyS ss p).2)) else ([], chkP p)
/-- what patches make of signs, one after the other -/
def runS (ss : List Sg) (l : List Pt) : List Sg × Int := if chkS ss = 0 then (if 512 < l.length then ([], 2) else runL ss l) else ([], chkS ss)
theorem chkS_ok {ss : List Sg} (h : chkS ss = 0) : okL ss ∧ ss.length ≤ 4096 := by
  unfold chkS at h
  split at h
  · omega
  · split at h
    · rename_i h1 h2; exact ⟨h2, by omega⟩
    · omega
theorem chkP_ok {p : Pt} (h : chkP p = 0) : okP p := by
  unfold chkP at h
  split at h
  · omega
  · split at h
    · assumption
    · omega
theorem setF_id {x y : Sg} {f : Int} : (setF x f y).id = x.id := by
  unfold setF; repeat' split
  all_goals rfl
theorem setF_ok {x y : Sg} {f : Int} (h1 : 1 ≤ f) (h9 : f ≤ 9) (hx : x.ok) (hy : (setF plainP f y).ok) : (setF x f y).ok := by
  have hk : f = 1 ∨ f = 2 ∨ f = 3 ∨ f = 4 ∨ f = 5 ∨ f = 6 ∨ f = 7 ∨ f = 8 ∨ f = 9 := by omega
  rw [Sg.ok_iff] at hx hy ⊢
  rcases hk with rfl | rfl | rfl | rfl | rfl | rfl | rfl | rfl | rfl <;> simp [setF, plainP] at hx hy ⊢ <;> simp_all
theorem idx_lo {ss : List Sg} {id : Int} {k : Nat} {z : Sg} (hk : k < idx ss id) (hz : ss[k]? = some z) : z.id < id := by
  have := List.not_of_lt_findIdx hk
  obtain ⟨h1, h2⟩ := List.getElem?_eq_some_iff.1 hz
  rw [h2] at this
  simpa using this
theorem idx_hi {ss : List Sg} {id : Int} (hs : okL ss) {k : Nat} {z : Sg} (hk : idx ss id ≤ k) (hz : ss[k]? = some z) : id ≤ z.id := by
  have hlt := (List.getElem?_eq_some_iff.1 hz).1
  obtain ⟨y, hy⟩ : ∃ y, ss[idx ss id]? = some y := ⟨_, List.getElem?_eq_getElem (by omega)⟩
  have h1 : id ≤ y.id := by
    have := List.findIdx_getElem (w := show ss.findIdx (fun s => decide (id ≤ s.id)) < ss.length from (List.getElem?_eq_some_iff.1 hy).1)
    obtain ⟨h2, h3⟩ := List.getElem?_eq_some_iff.1 hy
    have h4 : decide (id ≤ y.id) = true := by rw [← h3]; exact this
    simpa using h4
  by_cases he : idx ss id = k
  · subst he; rw [hz] at hy; cases hy; exact h1
  · have := srt_lt hs (show idx ss id < k by omega) hy hz; omega
theorem apply_ok {ss : List Sg} {p : Pt} (hs : okL ss) (hl : ss.length ≤ 4096) (hp : okP p) (h0 : (applyS ss p).2 = 0) : okL (applyS ss p).1 ∧ (applyS ss p).1.length ≤ 4096 := by
  obtain ⟨_, _, _, hk⟩ := hp
  rcases hk with ⟨k1, k2, k3, k4, k5⟩ | ⟨k1, k2, k3, k4⟩ | ⟨k1, k2, k3⟩
  · unfold applyS at h0 ⊢
    rw [if_pos k1] at h0 ⊢
    split at h0
    · rename_i ht
      rw [if_pos ht]
      obtain ⟨z, hz⟩ := there_lt ht
      have hlt := (List.getElem?_eq_some_iff.1 hz).1
      have hg : ss.getD (idx ss p.sign) default = z := by simp [List.getD_eq_getElem?_getD, hz]
      rw [hg]
      refine ⟨⟨fun s hm => ?_, ?_⟩, by simpa using hl⟩
      · rcases List.mem_or_eq_of_mem_set hm with h | rfl
        · exact hs.1 s h
        · exact setF_ok k2 k3 (hs.1 z (List.mem_of_getElem? hz)) k5
      · have hmap : (ss.set (idx ss p.sign) (setF z p.field p.new)).map (·.id) = ss.map (·.id) := by
          rw [List.map_set, setF_id]
          apply List.ext_getElem?
          intro j
          rw [List.getElem?_set]
          split
          · rename_i e
            subst e
            simp [hlt, (List.getElem?_eq_some_iff.1 hz).2]
          · rfl
        have h1 : (ss.map (·.id)).Pairwise (· < ·) := List.pairwise_map.2 hs.2
        rw [← hmap] at h1
        exact List.pairwise_map.1 h1
    · simp at h0
  · have e1 : ¬ p.kind = 1 := by omega
    unfold applyS at h0 ⊢
    rw [if_neg e1, if_pos k1] at h0 ⊢
    split at h0
    · simp at h0
    · rename_i ht
      rw [if_neg ht]
      split at h0
      · simp at h0
      · rename_i h4
        rw [if_neg h4]
        have hin := idx_le ss p.sign
        refine ⟨⟨fun s hm => ?_, ?_⟩, by simp; omega⟩
        · rcases List.mem_append.1 hm with h | h
          · exact hs.1 s (List.mem_of_mem_take h)
          · rcases List.mem_cons.1 h with rfl | h
            · exact k4
            · exact hs.1 s (List.mem_of_mem_drop h)
        · refine List.pairwise_append.2 ⟨hs.2.sublist (List.take_sublist _ _), List.pairwise_cons.2 ⟨fun b hb => ?_, hs.2.sublist (List.drop_sublist _ _)⟩, fun a ha b hb => ?_⟩
          · obtain ⟨j, hj⟩ := List.mem_iff_getElem?.1 hb
            rw [List.getElem?_drop] at hj
            have h5 := idx_hi (id := p.sign) hs (show idx ss p.sign ≤ idx ss p.sign + j by omega) hj
            rw [k3]
            by_cases he : b.id = p.sign
            · exfalso
              have hj0 : j = 0 := by
                rcases Nat.eq_zero_or_pos j with h | h
                · exact h
                · obtain ⟨y, hy⟩ : ∃ y, ss[idx ss p.sign]? = some y := ⟨_, List.getElem?_eq_getElem (by have := (List.getElem?_eq_some_iff.1 hj).1; omega)⟩
                  have h6 := idx_hi (id := p.sign) hs (Nat.le_refl _) hy
                  have := srt_lt hs (show idx ss p.sign < idx ss p.sign + j by omega) hy hj
                  omega
              subst hj0
              exact ht (by rw [there_at rfl (by simpa using hj)]; simpa using he)
            · omega
          · obtain ⟨k, hk⟩ := List.mem_iff_getElem?.1 ha
            rw [List.getElem?_take] at hk
            split at hk
            · rename_i hlt
              have h5 := idx_lo hlt hk
              rcases List.mem_cons.1 hb with rfl | hb
              · rw [k3]; exact h5
              · obtain ⟨j, hj⟩ := List.mem_iff_getElem?.1 hb
                rw [List.getElem?_drop] at hj
                have := idx_hi (id := p.sign) hs (show idx ss p.sign ≤ idx ss p.sign + j by omega) hj
                omega
            · cases hk
  · have e1 : ¬ p.kind = 1 := by omega
    have e2 : ¬ p.kind = 2 := by omega
    unfold applyS
    rw [if_neg e1, if_neg e2]
    split
    · have hsub : List.Sublist (ss.take (idx ss p.sign) ++ ss.drop (idx ss p.sign + 1)) ss := by
        have h1 : List.Sublist (ss.drop (idx ss p.sign + 1)) (ss.drop (idx ss p.sign)) := by
          rw [← List.drop_drop]; exact List.drop_sublist _ _
        have := (List.Sublist.refl (ss.take (idx ss p.sign))).append h1
        rwa [List.take_append_drop] at this
      exact ⟨⟨fun s hm => hs.1 s (hsub.subset hm), hs.2.sublist hsub⟩, Nat.le_trans hsub.length_le hl⟩
    · exact ⟨hs, hl⟩
/-- what is known of patches -/
def RG0 (K : Value → Nat → List Value → Prop) (f : FuncId) (xs : List SX.Arg) (v : Value) : Prop :=
  (f = 37 ∧ ∃ (p : Pt) (B : Option Addr) (m d : Nat), xs = [⟨valP p (.slice B m d), 0, []⟩] ∧ K (.slice B m d) 1 (intsL p.needs) ∧ p.needs.length ≤ 9223372036854775807 ∧ v = .bool (decide (okP p)))
def shpG0 : FuncId → Option SX.Sh := fun f => if f = 37 then some .one else none
noncomputable def cxG0 (K A : Value → Nat → List Value → Prop) : SX.Cx := { P := Try.prog, R := RG0, shp := shpG0, K := K, A := A }
theorem okG0 (K A : Value → Nat → List Value → Prop) : (cxG0 K A).Ok := by
  refine SX.Cx.ok_of (fun _ => rfl) ?_
  intro K f xs v W hR hrd hKf
  rcases hR with ⟨rfl, p, B, m, d, rfl, hK, hl, rfl⟩
  · have hR := hKf _ _ _ hK
    have hm : m ≤ 9223372036854775807 := by have := hR.1.1; simp only [intsL_len] at this; omega
    exact (rvalid_any p B m d W hR.1 hm hR.2).mono fun e w' h => SX.plainOk rfl h
def tree_rcheckP : SX.Tree :=
(.df (.len false) [(.x 18 [])] .one 
(.df (.bin .gtr 3) [(.x 19 []), (.k (.int .i64 32))] .one 
(.br 20 [] 
(.ret (.k (.int .i64 2)) [] []) 
(.df (.call 37 [.no]) [(.a [(.x 0 []), (.x 1 []), (.x 2 []), (.x 3 []), (.x 4 []), (.x 5 []), (.x 6 []), (.x 7 []), (.x 8 []), (.x 9 []), (.x 10 []), (.x 11 []), (.x 12 []), (.x 13 []), (.x 14 []), (.x 15 []), (.x 16 []), (.x 17 []), (.x 18 [])])] .one 
(.df .not [(.x 21 [])] .one 
(.br 22 [] 
(.ret (.k (.int .i64 370)) [] []) 
(.ret (.k (.int .i64 0)) [] [])))))))
def args_rcheckP : List SX.V := [.a ((List.range 19).map fun j => .x j [])]
set_option maxRecDepth 100000 in
theorem run_rcheckP (K A : Value → Nat → List Value → Prop) : (SX.run (cxG0 K A) ⟨fun _ => false, [], 0, 100⟩ 100000 0 (SX.door 15 Try.f15 args_rcheckP (List.replicate 19 .one)) [.code (Try.f15.body.getD .skip), .top Try.f15]).strip = tree_rcheckP := by kernel_rfl
set_option maxRecDepth 100000 in
set_option maxHeartbeats 4000000 in
theorem rcheckP_any (p : Pt) (B : Option Addr) (m d : Nat) (w : World) (hr : Rd w 1 B m (intsL p.needs)) (hm : m ≤ 9223372036854775807) (hc : m ≤ d) : Calls Try.prog 15 #[valP p (.slice B m d)] w fun e w' => e = .returned (.int .i64 (chkP p)) ∧ Below w.heap.size w w' := by
  refine SX.calls_of_run (C := cxG0 (fun s sz cells => s = .slice B m d ∧ sz = 1 ∧ cells = intsL p.needs) (fun _ _ _ => False)) (G := ⟨fun _ => false, [], 0, 100⟩) (args := args_rcheckP) (sh := (List.replicate 19 .one)) (ρ := (cellsP p (.slice B m d))) 100000 tree_rcheckP (okG0 _ _) Try.func15 rfl (run_rcheckP _ _) (by kernel_rfl) (by kernel_rfl) (by kernel_rfl) ?_ ?_
  · rintro W hW s sz cells ⟨rfl, rfl, rfl⟩; exact ⟨hr.same0 hW, hc⟩
  have hln : p.needs.length = m := by have := hr.1; rw [intsL_len] at this; omega
  unfold tree_rcheckP
  refine SX.VC_df (.int .i64 (((m : Nat) : Int))) (by intro α; show _ = _; kernel_rfl) (by kernel_rfl) ?_
  refine SX.VC_df (.bool (decide (((m : Nat) : Int) > 32))) (by intro α; show _ = _; kernel_rfl) (by kernel_rfl) ?_
  refine SX.VC_br (decide (((m : Nat) : Int) > 32)) (by kernel_rfl) (fun h20 => ?_) (fun h20 => ?_)
  · try simp only [NRM] at h20
    exact SX.VC_ret fun α W _ _ hS => SX.ret_of hS (x := .int .i64 2) (by kernel_rfl) (by first | (rw [chkP, if_pos (by omega)]) | (rw [chkP, if_neg (by omega), if_neg h22]) | (rw [chkP, if_neg (by omega), if_pos h22]))
  · try simp only [NRM] at h20
    refine SX.VC_df (.bool (decide (okP p))) (fun α => ⟨[⟨valP p (.slice B m d), 0, []⟩], ⟨by kernel_rfl, by kernel_rfl, trivial⟩, ⟨rfl, p, B, m, d, rfl, ⟨rfl, rfl, rfl⟩, by omega, rfl⟩, SX.noAli rfl⟩) (by kernel_rfl) ?_
    refine SX.VC_df (.bool (!(decide (okP p)))) (by intro α; show _ = _; kernel_rfl) (by kernel_rfl) ?_
    refine SX.VC_br (!(decide (okP p))) (by kernel_rfl) (fun h22 => ?_) (fun h22 => ?_)
    · try simp only [NRM] at h22
      exact SX.VC_ret fun α W _ _ hS => SX.ret_of hS (x := .int .i64 370) (by kernel_rfl) (by first | (rw [chkP, if_pos (by omega)]) | (rw [chkP, if_neg (by omega), if_neg h22]) | (rw [chkP, if_neg (by omega), if_pos h22]))
    · try simp only [NRM] at h22
      exact SX.VC_ret fun α W _ _ hS => SX.ret_of hS (x := .int .i64 0) (by kernel_rfl) (by first | (rw [chkP, if_pos (by omega)]) | (rw [chkP, if_neg (by omega), if_neg h22]) | (rw [chkP, if_neg (by omega), if_pos h22]))
/-- what is known of patches and lists of signs -/
def RG1 (K : Value → Nat → List Value → Prop) (f : FuncId) (xs : List SX.Arg) (v : Value) : Prop :=
  (f = 27 ∧ ∃ (u : Value) (ss : List Sg), xs = [⟨u, 14, sgsL ss⟩] ∧ ss.length ≤ 9223372036854775807 ∧ v = .int .i64 (chkS ss)) ∨
  (f = 33 ∧ ∃ (u : Value) (ss : List Sg), xs = [⟨u, 14, sgsL ss⟩] ∧ ss.length ≤ 9223372036854775807 ∧ v = .int .i64 (chkS ss)) ∨
  (f = 14 ∧ ∃ (p : Pt) (B : Option Addr) (m d : Nat), xs = [⟨valP p (.slice B m d), 0, []⟩] ∧ K (.slice B m d) 1 (intsL p.needs) ∧ p.needs.length ≤ 9223372036854775807 ∧ v = .int .i64 (chkP p)) ∨
  (f = 15 ∧ ∃ (p : Pt) (B : Option Addr) (m d : Nat), xs = [⟨valP p (.slice B m d), 0, []⟩] ∧ K (.slice B m d) 1 (intsL p.needs) ∧ p.needs.length ≤ 9223372036854775807 ∧ v = .int .i64 (chkP p)) ∨
  (f = 38 ∧ ∃ (u : Value) (ss : List Sg) (p : Pt) (B : Option Addr) (m d : Nat), xs = [⟨u, 14, sgsL ss⟩, ⟨valP p (.slice B m d), 0, []⟩] ∧ okL ss ∧ ss.length ≤ 4096 ∧ okP p ∧ v = .tuple #[.agg (sgsL (applyS ss p).1).toArray, .int .i64 (applyS ss p).2]) ∨
  (f = 34 ∧ ∃ (u : Value) (ss : List Sg) (p : Pt) (B : Option Addr) (m d : Nat), xs = [⟨u, 14, sgsL ss⟩, ⟨valP p (.slice B m d), 0, []⟩] ∧ okL ss ∧ ss.length ≤ 4096 ∧ okP p ∧ v = .tuple #[.agg (sgsL (applyS ss p).1).toArray, .int .i64 (applyS ss p).2])
def shpG1 : FuncId → Option SX.Sh := fun f => if f = 27 then some .one else if f = 33 then some .one else if f = 14 then some .one else if f = 15 then some .one else if f = 38 then some (.tp [.sl 14, .one]) else if f = 34 then some (.tp [.sl 14, .one]) else none
noncomputable def cxG1 (K A : Value → Nat → List Value → Prop) : SX.Cx := { P := Try.prog, R := RG1, shp := shpG1, K := K, A := A, ali := fun f => if f = 38 then [0] else if f = 34 then [0] else [] }
theorem okG1 (K A : Value → Nat → List Value → Prop) : (cxG1 K A).Ok := by
  refine SX.Cx.ok_of (fun _ => rfl) ?_
  intro K f xs v W hR hrd hKf
  rcases hR with ⟨rfl, u, ss, rfl, hl, rfl⟩ | ⟨rfl, u, ss, rfl, hl, rfl⟩ | ⟨rfl, p, B, m, d, rfl, hK, hl, rfl⟩ | ⟨rfl, p, B, m, d, rfl, hK, hl, rfl⟩ | ⟨rfl, u, ss, p, B, m, d, rfl, hs, hl, hp, rfl⟩ | ⟨rfl, u, ss, p, B, m, d, rfl, hs, hl, hp, rfl⟩
  · obtain ⟨A, n, c, rfl, h2, h3, h4⟩ := sgs_arg (hrd ⟨u, 14, sgsL ss⟩ (by simp))
    exact (echeck_any ss A n c W h2 (by omega) h3).mono fun e w' h => SX.plainOk rfl h
  · obtain ⟨A, n, c, rfl, h2, h3, h4⟩ := sgs_arg (hrd ⟨u, 14, sgsL ss⟩ (by simp))
    exact (rcheckL_any ss A n c W h2 (by omega) h3).mono fun e w' h => SX.plainOk rfl h
  · have hR := hKf _ _ _ hK
    have hm : m ≤ 9223372036854775807 := by have := hR.1.1; simp only [intsL_len] at this; omega
    exact (pcheck_any p B m d W hR.1 hm hR.2).mono fun e w' h => SX.plainOk rfl h
  · have hR := hKf _ _ _ hK
    have hm : m ≤ 9223372036854775807 := by have := hR.1.1; simp only [intsL_len] at this; omega
    exact (rcheckP_any p B m d W hR.1 hm hR.2).mono fun e w' h => SX.plainOk rfl h
  · refine Calls.mono ?_ fun e w' h => SX.SlRet.ok rfl rfl h
    obtain ⟨A, n, c, rfl, h2, h3, h4⟩ := sgs_arg (hrd ⟨u, 14, sgsL ss⟩ (by simp))
    obtain ⟨pid, pk, psg, pf, pn, pnd⟩ := p
    obtain ⟨_, ⟨g1, g2⟩, _, hk⟩ := id hp
    rcases hk with ⟨rfl, k2, k3, k4, k5⟩ | ⟨rfl, _⟩ | ⟨rfl, _⟩
    · exact ap1_any ss A n c pid psg pf pn pnd B m d W h2 (by omega) h3 hs g1 g2 ⟨k2, k3⟩
    · exact ap2_any ss A n c pid psg pf pn pnd B m d W h2 (by omega) h3 hs g1 g2
    · exact ap3_any ss A n c pid psg pf pn pnd B m d W h2 (by omega) h3 hs g1 g2
  · refine Calls.mono ?_ fun e w' h => SX.SlRet.ok rfl rfl h
    obtain ⟨A, n, c, rfl, h2, h3, h4⟩ := sgs_arg (hrd ⟨u, 14, sgsL ss⟩ (by simp))
    obtain ⟨pid, pk, psg, pf, pn, pnd⟩ := p
    obtain ⟨_, ⟨g1, g2⟩, _, hk⟩ := id hp
    rcases hk with ⟨rfl, k2, k3, k4, k5⟩ | ⟨rfl, _⟩ | ⟨rfl, _⟩
    · exact ra1_any ss A n c pid psg pf pn pnd B m d W h2 (by omega) h3
    · exact ra2_any ss A n c pid psg pf pn pnd B m d W h2 (by omega) h3
    · exact ra3_any ss A n c pid psg pf pn pnd B m d W h2 (by omega) h3
end Go.Proofs.Ytodlcjhefojibaa
