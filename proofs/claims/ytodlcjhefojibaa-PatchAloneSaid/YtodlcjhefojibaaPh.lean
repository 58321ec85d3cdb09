/-
  Run: the program and the specification.
-/
import Derived.Test.YtodlcjhefojibaaPg
namespace Go.Proofs.Ytodlcjhefojibaa
set_option linter.unusedSimpArgs false
set_option linter.unusedVariables false
open Go Go.RowKit
theorem sgs_fit (l : List Sg) (k : Int) : SX.Sh.fit (.tp [.sl 14, .one]) (.tuple #[.agg (sgsL l).toArray, .int .i64 k]) = true := by
  have h1 : (sgsL l).length % 14 = 0 := by rw [sgsL_len]; omega
  have h2 : (sgsL l).all (·.oneCell') = true := by
    rw [List.all_eq_true]
    intro u hu
    obtain ⟨a, _, h⟩ := List.mem_flatMap.1 hu
    exact cellsSg_one a u h
  simp only [SX.Sh.fit, SX.Sh.fitL, h1, h2]
  rfl
/-- the slices that Run is handed -/
def runK (A : Option Addr) (n c : Nat) (ss : List Sg) (A' : Option Addr) (n' c' : Nat) (pl : List Ph) (s : Value) (sz : Nat) (cells : List Value) : Prop :=
  (s = .slice A n c ∧ sz = 14 ∧ cells = sgsL ss) ∨ (s = .slice A' n' c' ∧ sz = 19 ∧ cells = phL pl) ∨ ∃ q ∈ pl, s = q.h ∧ sz = 1 ∧ cells = intsL q.1.needs
def runA (A : Option Addr) (n c : Nat) (ss : List Sg) (s : Value) (sz : Nat) (cells : List Value) : Prop := s = .slice A n c ∧ sz = 14 ∧ cells = sgsL ss
/-- the needs of patches lie there -/
def NeedsIn (w : World) (pl : List Ph) : Prop := ∀ q ∈ pl, Rd w 1 q.2.1 q.2.2.1 (intsL q.1.needs) ∧ q.2.2.1 ≤ q.2.2.2 ∧ q.2.2.1 ≤ 9223372036854775807
def tree_run : SX.Tree :=
(.df (.call 27 [(.ext 14)]) [(.x 0 [])] .one 
(.df (.bin .neq 32) [(.x 2 []), (.k (.int .i64 0))] .one 
(.br 3 [] 
(.ret (.t [(.k (.slice none 0 0)), (.x 2 [])]) [] []) 
(.df (.len false) [(.x 1 [])] .one 
(.df (.bin .gtr 3) [(.x 4 []), (.k (.int .i64 512))] .one 
(.br 5 [] 
(.ret (.t [(.k (.slice none 0 0)), (.k (.int .i64 2))]) [] []) 
(.df (.len false) [(.x 1 [])] .one 
(.df (.kext 14) [(.x 0 [])] .any 
(.loop [(.k (.int .i64 0)), (.cat [(.x 7 [])])] [.one, .any] 
(.df (.bin .lss 3) [(.x 8 []), (.x 6 [])] .one 
(.br 10 [] 
(.df .bnd [(.x 1 []), (.x 8 [])] .one 
(.df (.elems 19 0 19) [(.x 1 []), (.x 8 [])] (.ag 19) 
(.df (.call 14 [.no]) [(.a [(.x 12 [0]), (.x 12 [1]), (.x 12 [2]), (.x 12 [3]), (.x 12 [4]), (.x 12 [5]), (.x 12 [6]), (.x 12 [7]), (.x 12 [8]), (.x 12 [9]), (.x 12 [10]), (.x 12 [11]), (.x 12 [12]), (.x 12 [13]), (.x 12 [14]), (.x 12 [15]), (.x 12 [16]), (.x 12 [17]), (.x 12 [18])])] .one 
(.df (.bin .neq 32) [(.x 13 []), (.k (.int .i64 0))] .one 
(.br 14 [] 
(.ret (.t [(.k (.slice none 0 0)), (.x 13 [])]) [none, none, none, none] []) 
(.df (.call 38 [(.row 14 [(.x 9 [])]), .no]) [(.row 2), (.a [(.x 12 [0]), (.x 12 [1]), (.x 12 [2]), (.x 12 [3]), (.x 12 [4]), (.x 12 [5]), (.x 12 [6]), (.x 12 [7]), (.x 12 [8]), (.x 12 [9]), (.x 12 [10]), (.x 12 [11]), (.x 12 [12]), (.x 12 [13]), (.x 12 [14]), (.x 12 [15]), (.x 12 [16]), (.x 12 [17]), (.x 12 [18])])] (.tp [(.sl 14), .one]) 
(.df (.bin .neq 32) [(.x 15 [1]), (.k (.int .i64 0))] .one 
(.br 16 [] 
(.ret (.t [(.k (.slice none 0 0)), (.x 15 [1])]) [none, none, none, none, none] []) 
(.df (.bin .add 3) [(.x 8 []), (.k (.int .i64 1))] .one 
(.again 0 [(.x 17 []), (.cat [(.x 15 [0])])])))))))))) 
(.ret (.t [(.row 2), (.k (.int .i64 0))]) [none, none, (some ⟨[(.x 9 [])], 0, (.ext 14)⟩)] []))))))))))))
def args_run : List SX.V := [.x 0 [], .x 1 []]
set_option maxRecDepth 100000 in
theorem run_run (K A : Value → Nat → List Value → Prop) : (SX.run (cxG1 K A) ⟨fun _ => false, [⟨18, 8, [(.s 19, .one), (.s 4, .ext 14)]⟩], 2, 100⟩ 100000 0 (SX.door 18 Try.f18 args_run [.one, .one]) [.code (Try.f18.body.getD .skip), .top Try.f18]).strip = tree_run := by kernel_rfl
set_option maxRecDepth 100000 in
set_option maxHeartbeats 4000000 in
theorem run_any (ss : List Sg) (A : Option Addr) (n c : Nat) (pl : List Ph) (A' : Option Addr) (n' c' : Nat) (w : World) (hr : Rd w 14 A n (sgsL ss)) (hn : n ≤ 9223372036854775807) (hc : n ≤ c) (hr' : Rd w 19 A' n' (phL pl)) (hn' : n' ≤ 9223372036854775807) (hc' : n' ≤ c') (hq : NeedsIn w pl) : Calls Try.prog 18 #[.slice A n c, .slice A' n' c'] w fun e w' => Below w.heap.size w w' ∧ ∃ hdr, e = .returned (.tuple #[hdr, .int .i64 (runS ss (pl.map (·.1))).2]) ∧ SX.SlRet w w' [⟨.slice A n c, 14, sgsL ss⟩] hdr 14 (sgsL (runS ss (pl.map (·.1))).1) := by
  refine SX.calls_of_run (C := cxG1 (runK A n c ss A' n' c' pl) (runA A n c ss)) (G := ⟨fun _ => false, [⟨18, 8, [(.s 19, .one), (.s 4, .ext 14)]⟩], 2, 100⟩) (args := args_run) (sh := [.one, .one]) (ρ := [.slice A n c, .slice A' n' c']) 100000 tree_run (okG1 _ _) Try.func18 rfl (run_run _ _) (by kernel_rfl) (by kernel_rfl) (by kernel_rfl) ?_ ?_
  · rintro W hW s sz cells (⟨rfl, rfl, rfl⟩ | ⟨rfl, rfl, rfl⟩ | ⟨q, hq1, rfl, rfl, rfl⟩)
    · exact ⟨hr.same0 hW, hc⟩
    · exact ⟨hr'.same0 hW, hc'⟩
    · exact ⟨(hq q hq1).1.same0 hW, (hq q hq1).2.1⟩
  have hA' := SX.rd_some hr'
  have hln : ss.length = n := by have := hr.1; rw [sgsL_len] at this; omega
  have hln' : pl.length = n' := by have := hr'.1; rw [phL_len] at this; omega
  have hpn : (pl.map (·.1)).length = n' := by simp [hln']
  generalize hps : pl.map (·.1) = ps at *
  have k1 : runK A n c ss A' n' c' pl (.slice A n c) 14 (sgsL ss) := .inl ⟨rfl, rfl, rfl⟩
  have k2 : runK A n c ss A' n' c' pl (.slice A' n' c') 19 (phL pl) := .inr (.inl ⟨rfl, rfl, rfl⟩)
  have a1 : runA A n c ss (.slice A n c) 14 (sgsL ss) := ⟨rfl, rfl, rfl⟩
  unfold tree_run
  refine SX.VC_df (.int .i64 ((chkS ss))) (fun α => ⟨[⟨.slice A n c, 14, sgsL ss⟩], ⟨by kernel_rfl, rfl, cast (by kernel_rfl) k1, trivial⟩, .inl ⟨rfl, .slice A n c, ss, rfl, by omega, rfl⟩, SX.noAli rfl⟩) (by kernel_rfl) ?_
  refine SX.VC_df (.bool (((chkS ss) : Int) != 0)) (by intro α; show _ = _; kernel_rfl) (by kernel_rfl) ?_
  refine SX.VC_br (((chkS ss) : Int) != 0) (by kernel_rfl) (fun h3 => ?_) (fun h3 => ?_)
  · try simp only [NRM] at h3
    have hfact : runS ss ps = ([], chkS ss) := by rw [runS, if_neg h3]
    exact SX.VC_ret fun α W _ hR hS => ⟨hS.below, (.slice none 0 0), Eq.trans (b := Ending.returned (.tuple #[(.slice none 0 0), .int .i64 ((chkS ss))])) (by kernel_rfl) (by rw [hfact]), (by rw [hfact]; exact SX.SlRet.nil)⟩
  · try simp only [NRM] at h3
    refine SX.VC_df (.int .i64 (((n' : Nat) : Int))) (by intro α; show _ = _; kernel_rfl) (by kernel_rfl) ?_
    refine SX.VC_df (.bool (decide (((n' : Nat) : Int) > 512))) (by intro α; show _ = _; kernel_rfl) (by kernel_rfl) ?_
    refine SX.VC_br (decide (((n' : Nat) : Int) > 512)) (by kernel_rfl) (fun h5 => ?_) (fun h5 => ?_)
    · try simp only [NRM] at h5
      have hfact : runS ss ps = ([], 2) := by rw [runS, if_pos h3, if_pos (by omega)]
      exact SX.VC_ret fun α W _ hR hS => ⟨hS.below, (.slice none 0 0), Eq.trans (b := Ending.returned (.tuple #[(.slice none 0 0), .int .i64 2])) (by kernel_rfl) (by rw [hfact]), (by rw [hfact]; exact SX.SlRet.nil)⟩
    · try simp only [NRM] at h5
      refine SX.VC_df (.int .i64 (((n' : Nat) : Int))) (by intro α; show _ = _; kernel_rfl) (by kernel_rfl) ?_
      refine SX.VC_df (Value.agg (sgsL ss).toArray) (fun α => ⟨sgsL ss, ⟨A, n, c, by kernel_rfl, hc⟩, cast (by kernel_rfl) k1, cast (by kernel_rfl) a1, rfl⟩) (by kernel_rfl) ?_
      refine SX.VC_loop (fun xs => ∃ (i : Nat) (cur : List Sg), xs = [.int .i64 (i : Int), .agg (sgsL cur).toArray] ∧ i ≤ n' ∧ runL ss ps = runL cur (ps.drop i) ∧ okL cur ∧ cur.length ≤ 4096) (fun xs => match xs with | [.int _ i, _] => n' - i.toNat | _ => 0) (fun α => ⟨0, ss, Eq.trans (b := [.int .i64 0, .agg ([Value.agg (sgsL ss).toArray].flatMap SX.cellsV).toArray]) (by kernel_rfl) (by simp [SX.cellsV]), by omega, by simp, (chkS_ok h3).1, (chkS_ok h3).2⟩) ?_
      rintro xs - ⟨i, cur, rfl, hin, hrun, hok, hcl⟩
      refine SX.VC_df (.bool (decide (((i : Nat) : Int) < ((n' : Nat) : Int)))) (by intro α; show _ = _; kernel_rfl) (by kernel_rfl) ?_
      refine SX.VC_br (decide (((i : Nat) : Int) < ((n' : Nat) : Int))) (by kernel_rfl) (fun h10 => ?_) (fun h10 => ?_)
      · try simp only [NRM] at h10
        obtain ⟨z, hz⟩ : ∃ z, pl[i]? = some z := ⟨_, List.getElem?_eq_getElem (by omega)⟩
        have hzm : z ∈ pl := List.mem_of_getElem? hz
        have hdr : ps.drop i = z.1 :: ps.drop (i + 1) := by
          have hpz : ps[i]? = some z.1 := by rw [← hps, List.getElem?_map, hz]; rfl
          rw [List.drop_eq_getElem_cons (List.getElem?_eq_some_iff.1 hpz).1, (List.getElem?_eq_some_iff.1 hpz).2]
        have k3 : runK A n c ss A' n' c' pl (.slice z.2.1 z.2.2.1 z.2.2.2) 1 (intsL z.1.needs) := .inr (.inr ⟨z, hzm, rfl, rfl, rfl⟩)
        have hzl : z.1.needs.length ≤ 9223372036854775807 := by have h9 := hq z hzm; have := h9.1.1; simp only [intsL_len] at this; omega
        refine SX.VC_df (.bool true) (fun α => SX.extBnd (A := A') (n := n') (c := c') (j := i) hA' (by kernel_rfl) (by kernel_rfl) (by omega)) (by kernel_rfl) ?_
        refine SX.VC_df (.agg (cellsH z).toArray) (fun α => SX.extElems (f := cellsH) (l := pl) (A := A') (n := n') (c := c') (j := i) (z := z) (fun _ => rfl) hA' (by kernel_rfl) (by kernel_rfl) (by omega) (cast (by kernel_rfl) k2) hz) (by kernel_rfl) ?_
        refine SX.VC_df (.int .i64 ((chkP z.1))) (fun α => ⟨[⟨valP z.1 z.h, 0, []⟩], ⟨by kernel_rfl, by kernel_rfl, trivial⟩, .inr (.inr (.inl ⟨rfl, z.1, z.2.1, z.2.2.1, z.2.2.2, rfl, k3, hzl, rfl⟩)), SX.noAli rfl⟩) (by kernel_rfl) ?_
        refine SX.VC_df (.bool (((chkP z.1) : Int) != 0)) (by intro α; show _ = _; kernel_rfl) (by kernel_rfl) ?_
        refine SX.VC_br (((chkP z.1) : Int) != 0) (by kernel_rfl) (fun h14 => ?_) (fun h14 => ?_)
        · try simp only [NRM] at h14
          have hfact : runS ss ps = ([], chkP z.1) := by rw [runS, if_pos h3, if_neg (by omega), hrun, hdr, runL, if_neg h14]
          exact SX.VC_ret fun α W _ hR hS => ⟨hS.below, (.slice none 0 0), Eq.trans (b := Ending.returned (.tuple #[(.slice none 0 0), .int .i64 ((chkP z.1))])) (by kernel_rfl) (by rw [hfact]), (by rw [hfact]; exact SX.SlRet.nil)⟩
        · try simp only [NRM] at h14
          refine SX.VC_df (.tuple #[Value.agg (sgsL (applyS cur z.1).1).toArray, .int .i64 ((applyS cur z.1).2)]) (fun α => ⟨[⟨(α 2).h, 14, sgsL cur⟩, ⟨valP z.1 z.h, 0, []⟩], ⟨Eq.trans (b := (⟨(α 2).h, 14, [Value.agg (sgsL cur).toArray].flatMap SX.cellsV⟩ : SX.Arg)) (by simp [SX.cellsV]) (by kernel_rfl), by kernel_rfl, by kernel_rfl, trivial⟩, .inr (.inr (.inr (.inr (.inl ⟨rfl, _, cur, z.1, z.2.1, z.2.2.1, z.2.2.2, rfl, hok, hcl, chkP_ok h14, rfl⟩)))), fun j hj x sz _ h => by rcases j with _ | _ | j <;> simp at h⟩) (sgs_fit _ _) ?_
          refine SX.VC_df (.bool (((applyS cur z.1).2 : Int) != 0)) (by intro α; show _ = _; kernel_rfl) (by kernel_rfl) ?_
          refine SX.VC_br (((applyS cur z.1).2 : Int) != 0) (by kernel_rfl) (fun h16 => ?_) (fun h16 => ?_)
          · try simp only [NRM] at h16
            have hfact : runS ss ps = ([], (applyS cur z.1).2) := by rw [runS, if_pos h3, if_neg (by omega), hrun, hdr, runL, if_pos h14, if_neg h16]
            exact SX.VC_ret fun α W _ hR hS => ⟨hS.below, (.slice none 0 0), Eq.trans (b := Ending.returned (.tuple #[(.slice none 0 0), .int .i64 ((applyS cur z.1).2)])) (by kernel_rfl) (by rw [hfact]), (by rw [hfact]; exact SX.SlRet.nil)⟩
          · try simp only [NRM] at h16
            refine SX.VC_df (.int .i64 (((i + 1 : Nat) : Int))) (fun α => Eq.trans (b := some (.int .i64 (IntKind.i64.wrap ((i : Nat) + 1)))) (by kernel_rfl) (by rw [show ((i + 1 : Nat) : Int) = ((i : Nat) : Int) + 1 by omega, wrap_i64 (by omega) (by omega)])) (by kernel_rfl) ?_
            exact SX.VC_again fun α => ⟨⟨i + 1, (applyS cur z.1).1, Eq.trans (b := [.int .i64 ((i + 1 : Nat) : Int), .agg ([Value.agg (sgsL (applyS cur z.1).1).toArray].flatMap SX.cellsV).toArray]) (by kernel_rfl) (by simp [SX.cellsV]), by omega, by rw [hrun, hdr, runL, if_pos h14, if_pos h16], (apply_ok hok hcl (chkP_ok h14) h16).1, (apply_ok hok hcl (chkP_ok h14) h16).2⟩, cast (by kernel_rfl) (show n' - ((i + 1 : Nat) : Int).toNat < n' - (i : Int).toNat by omega)⟩
      · try simp only [NRM] at h10
        have hfact : runS ss ps = (cur, 0) := by rw [runS, if_pos h3, if_neg (by omega), hrun, List.drop_of_length_le (by omega), runL]
        exact SX.VC_ret fun α W _ hR hS => ⟨hS.below, (α 2).h, Eq.trans (b := Ending.returned (.tuple #[(α 2).h, .int .i64 0])) (by kernel_rfl) (by rw [hfact]), SX.SlRet.ext hS (n := 2) (b := (⟨[(.x 9 [])], 0, (.ext 14)⟩ : SX.Blk)) (by kernel_rfl) rfl (hR 2 _ (by kernel_rfl)) (Eq.trans (b := [Value.agg (sgsL cur).toArray].flatMap SX.cellsV) (by kernel_rfl) (by rw [hfact]; simp [SX.cellsV])) (x := ⟨.slice A n c, 14, sgsL ss⟩) (by simp) (fun W2 h s z xs hk => by obtain ⟨rfl, rfl, rfl⟩ := hk; exact h) (fun B h s z xs hk => by obtain ⟨rfl, rfl, rfl⟩ := hk; exact h)⟩
def tree_rrun : SX.Tree :=
(.df (.call 33 [(.ext 14)]) [(.x 0 [])] .one 
(.df (.bin .neq 32) [(.x 2 []), (.k (.int .i64 0))] .one 
(.br 3 [] 
(.ret (.t [(.k (.slice none 0 0)), (.x 2 [])]) [] []) 
(.df (.len false) [(.x 1 [])] .one 
(.df (.bin .gtr 3) [(.x 4 []), (.k (.int .i64 512))] .one 
(.br 5 [] 
(.ret (.t [(.k (.slice none 0 0)), (.k (.int .i64 2))]) [] []) 
(.df (.kext 14) [(.x 0 [])] .any 
(.loop [(.k (.int .i64 0)), (.cat [(.x 6 [])])] [.one, .any] 
(.df (.len false) [(.x 1 [])] .one 
(.df (.bin .lss 3) [(.x 7 []), (.x 9 [])] .one 
(.br 10 [] 
(.df .bnd [(.x 1 []), (.x 7 [])] .one 
(.df (.elems 19 0 19) [(.x 1 []), (.x 7 [])] (.ag 19) 
(.df (.call 15 [.no]) [(.a [(.x 12 [0]), (.x 12 [1]), (.x 12 [2]), (.x 12 [3]), (.x 12 [4]), (.x 12 [5]), (.x 12 [6]), (.x 12 [7]), (.x 12 [8]), (.x 12 [9]), (.x 12 [10]), (.x 12 [11]), (.x 12 [12]), (.x 12 [13]), (.x 12 [14]), (.x 12 [15]), (.x 12 [16]), (.x 12 [17]), (.x 12 [18])])] .one 
(.df (.bin .neq 32) [(.x 13 []), (.k (.int .i64 0))] .one 
(.br 14 [] 
(.ret (.t [(.k (.slice none 0 0)), (.x 13 [])]) [none, none, none] []) 
(.df .bnd [(.x 1 []), (.x 7 [])] .one 
(.df (.elems 19 0 19) [(.x 1 []), (.x 7 [])] (.ag 19) 
(.df (.call 34 [(.row 14 [(.x 8 [])]), .no]) [(.row 2), (.a [(.x 16 [0]), (.x 16 [1]), (.x 16 [2]), (.x 16 [3]), (.x 16 [4]), (.x 16 [5]), (.x 16 [6]), (.x 16 [7]), (.x 16 [8]), (.x 16 [9]), (.x 16 [10]), (.x 16 [11]), (.x 16 [12]), (.x 16 [13]), (.x 16 [14]), (.x 16 [15]), (.x 16 [16]), (.x 16 [17]), (.x 16 [18])])] (.tp [(.sl 14), .one]) 
(.df (.bin .neq 32) [(.x 17 [1]), (.k (.int .i64 0))] .one 
(.br 18 [] 
(.ret (.t [(.k (.slice none 0 0)), (.x 17 [1])]) [none, none, none, none] []) 
(.df (.bin .add 3) [(.x 7 []), (.k (.int .i64 1))] .one 
(.again 0 [(.x 19 []), (.cat [(.x 17 [0])])])))))))))))) 
(.ret (.t [(.row 2), (.k (.int .i64 0))]) [none, none, (some ⟨[(.x 8 [])], 0, (.ext 14)⟩)] []))))))))))))
def args_rrun : List SX.V := [.x 0 [], .x 1 []]
set_option maxRecDepth 100000 in
theorem run_rrun (K A : Value → Nat → List Value → Prop) : (SX.run (cxG1 K A) ⟨fun _ => false, [⟨19, 7, [(.s 7, .one), (.s 0, .ext 14)]⟩], 2, 100⟩ 100000 0 (SX.door 19 Try.f19 args_rrun [.one, .one]) [.code (Try.f19.body.getD .skip), .top Try.f19]).strip = tree_rrun := by kernel_rfl
set_option maxRecDepth 100000 in
set_option maxHeartbeats 4000000 in
theorem rrun_any (ss : List Sg) (A : Option Addr) (n c : Nat) (pl : List Ph) (A' : Option Addr) (n' c' : Nat) (w : World) (hr : Rd w 14 A n (sgsL ss)) (hn : n ≤ 9223372036854775807) (hc : n ≤ c) (hr' : Rd w 19 A' n' (phL pl)) (hn' : n' ≤ 9223372036854775807) (hc' : n' ≤ c') (hq : NeedsIn w pl) : Calls Try.prog 19 #[.slice A n c, .slice A' n' c'] w fun e w' => Below w.heap.size w w' ∧ ∃ hdr, e = .returned (.tuple #[hdr, .int .i64 (runS ss (pl.map (·.1))).2]) ∧ SX.SlRet w w' [⟨.slice A n c, 14, sgsL ss⟩] hdr 14 (sgsL (runS ss (pl.map (·.1))).1) := by
  refine SX.calls_of_run (C := cxG1 (runK A n c ss A' n' c' pl) (runA A n c ss)) (G := ⟨fun _ => false, [⟨19, 7, [(.s 7, .one), (.s 0, .ext 14)]⟩], 2, 100⟩) (args := args_rrun) (sh := [.one, .one]) (ρ := [.slice A n c, .slice A' n' c']) 100000 tree_rrun (okG1 _ _) Try.func19 rfl (run_rrun _ _) (by kernel_rfl) (by kernel_rfl) (by kernel_rfl) ?_ ?_
  · rintro W hW s sz cells (⟨rfl, rfl, rfl⟩ | ⟨rfl, rfl, rfl⟩ | ⟨q, hq1, rfl, rfl, rfl⟩)
    · exact ⟨hr.same0 hW, hc⟩
    · exact ⟨hr'.same0 hW, hc'⟩
    · exact ⟨(hq q hq1).1.same0 hW, (hq q hq1).2.1⟩
  have hA' := SX.rd_some hr'
  have hln : ss.length = n := by have := hr.1; rw [sgsL_len] at this; omega
  have hln' : pl.length = n' := by have := hr'.1; rw [phL_len] at this; omega
  have hpn : (pl.map (·.1)).length = n' := by simp [hln']
  generalize hps : pl.map (·.1) = ps at *
  have k1 : runK A n c ss A' n' c' pl (.slice A n c) 14 (sgsL ss) := .inl ⟨rfl, rfl, rfl⟩
  have k2 : runK A n c ss A' n' c' pl (.slice A' n' c') 19 (phL pl) := .inr (.inl ⟨rfl, rfl, rfl⟩)
  have a1 : runA A n c ss (.slice A n c) 14 (sgsL ss) := ⟨rfl, rfl, rfl⟩
  unfold tree_rrun
  refine SX.VC_df (.int .i64 ((chkS ss))) (fun α => ⟨[⟨.slice A n c, 14, sgsL ss⟩], ⟨by kernel_rfl, rfl, cast (by kernel_rfl) k1, trivial⟩, .inr (.inl ⟨rfl, .slice A n c, ss, rfl, by omega, rfl⟩), SX.noAli rfl⟩) (by kernel_rfl) ?_
  refine SX.VC_df (.bool (((chkS ss) : Int) != 0)) (by intro α; show _ = _; kernel_rfl) (by kernel_rfl) ?_
  refine SX.VC_br (((chkS ss) : Int) != 0) (by kernel_rfl) (fun h3 => ?_) (fun h3 => ?_)
  · try simp only [NRM] at h3
    have hfact : runS ss ps = ([], chkS ss) := by rw [runS, if_neg h3]
    exact SX.VC_ret fun α W _ hR hS => ⟨hS.below, (.slice none 0 0), Eq.trans (b := Ending.returned (.tuple #[(.slice none 0 0), .int .i64 ((chkS ss))])) (by kernel_rfl) (by rw [hfact]), (by rw [hfact]; exact SX.SlRet.nil)⟩
  · try simp only [NRM] at h3
    refine SX.VC_df (.int .i64 (((n' : Nat) : Int))) (by intro α; show _ = _; kernel_rfl) (by kernel_rfl) ?_
    refine SX.VC_df (.bool (decide (((n' : Nat) : Int) > 512))) (by intro α; show _ = _; kernel_rfl) (by kernel_rfl) ?_
    refine SX.VC_br (decide (((n' : Nat) : Int) > 512)) (by kernel_rfl) (fun h5 => ?_) (fun h5 => ?_)
    · try simp only [NRM] at h5
      have hfact : runS ss ps = ([], 2) := by rw [runS, if_pos h3, if_pos (by omega)]
      exact SX.VC_ret fun α W _ hR hS => ⟨hS.below, (.slice none 0 0), Eq.trans (b := Ending.returned (.tuple #[(.slice none 0 0), .int .i64 2])) (by kernel_rfl) (by rw [hfact]), (by rw [hfact]; exact SX.SlRet.nil)⟩
    · try simp only [NRM] at h5
      refine SX.VC_df (Value.agg (sgsL ss).toArray) (fun α => ⟨sgsL ss, ⟨A, n, c, by kernel_rfl, hc⟩, cast (by kernel_rfl) k1, cast (by kernel_rfl) a1, rfl⟩) (by kernel_rfl) ?_
      refine SX.VC_loop (fun xs => ∃ (i : Nat) (cur : List Sg), xs = [.int .i64 (i : Int), .agg (sgsL cur).toArray] ∧ i ≤ n' ∧ runL ss ps = runL cur (ps.drop i) ∧ okL cur ∧ cur.length ≤ 4096) (fun xs => match xs with | [.int _ i, _] => n' - i.toNat | _ => 0) (fun α => ⟨0, ss, Eq.trans (b := [.int .i64 0, .agg ([Value.agg (sgsL ss).toArray].flatMap SX.cellsV).toArray]) (by kernel_rfl) (by simp [SX.cellsV]), by omega, by simp, (chkS_ok h3).1, (chkS_ok h3).2⟩) ?_
      rintro xs - ⟨i, cur, rfl, hin, hrun, hok, hcl⟩
      refine SX.VC_df (.int .i64 (((n' : Nat) : Int))) (by intro α; show _ = _; kernel_rfl) (by kernel_rfl) ?_
      refine SX.VC_df (.bool (decide (((i : Nat) : Int) < ((n' : Nat) : Int)))) (by intro α; show _ = _; kernel_rfl) (by kernel_rfl) ?_
      refine SX.VC_br (decide (((i : Nat) : Int) < ((n' : Nat) : Int))) (by kernel_rfl) (fun h10 => ?_) (fun h10 => ?_)
      · try simp only [NRM] at h10
        obtain ⟨z, hz⟩ : ∃ z, pl[i]? = some z := ⟨_, List.getElem?_eq_getElem (by omega)⟩
        have hzm : z ∈ pl := List.mem_of_getElem? hz
        have hdr : ps.drop i = z.1 :: ps.drop (i + 1) := by
          have hpz : ps[i]? = some z.1 := by rw [← hps, List.getElem?_map, hz]; rfl
          rw [List.drop_eq_getElem_cons (List.getElem?_eq_some_iff.1 hpz).1, (List.getElem?_eq_some_iff.1 hpz).2]
        have k3 : runK A n c ss A' n' c' pl (.slice z.2.1 z.2.2.1 z.2.2.2) 1 (intsL z.1.needs) := .inr (.inr ⟨z, hzm, rfl, rfl, rfl⟩)
        have hzl : z.1.needs.length ≤ 9223372036854775807 := by have h9 := hq z hzm; have := h9.1.1; simp only [intsL_len] at this; omega
        refine SX.VC_df (.bool true) (fun α => SX.extBnd (A := A') (n := n') (c := c') (j := i) hA' (by kernel_rfl) (by kernel_rfl) (by omega)) (by kernel_rfl) ?_
        refine SX.VC_df (.agg (cellsH z).toArray) (fun α => SX.extElems (f := cellsH) (l := pl) (A := A') (n := n') (c := c') (j := i) (z := z) (fun _ => rfl) hA' (by kernel_rfl) (by kernel_rfl) (by omega) (cast (by kernel_rfl) k2) hz) (by kernel_rfl) ?_
        refine SX.VC_df (.int .i64 ((chkP z.1))) (fun α => ⟨[⟨valP z.1 z.h, 0, []⟩], ⟨by kernel_rfl, by kernel_rfl, trivial⟩, .inr (.inr (.inr (.inl ⟨rfl, z.1, z.2.1, z.2.2.1, z.2.2.2, rfl, k3, hzl, rfl⟩))), SX.noAli rfl⟩) (by kernel_rfl) ?_
        refine SX.VC_df (.bool (((chkP z.1) : Int) != 0)) (by intro α; show _ = _; kernel_rfl) (by kernel_rfl) ?_
        refine SX.VC_br (((chkP z.1) : Int) != 0) (by kernel_rfl) (fun h14 => ?_) (fun h14 => ?_)
        · try simp only [NRM] at h14
          have hfact : runS ss ps = ([], chkP z.1) := by rw [runS, if_pos h3, if_neg (by omega), hrun, hdr, runL, if_neg h14]
          exact SX.VC_ret fun α W _ hR hS => ⟨hS.below, (.slice none 0 0), Eq.trans (b := Ending.returned (.tuple #[(.slice none 0 0), .int .i64 ((chkP z.1))])) (by kernel_rfl) (by rw [hfact]), (by rw [hfact]; exact SX.SlRet.nil)⟩
        · try simp only [NRM] at h14
          refine SX.VC_df (.bool true) (fun α => SX.extBnd (A := A') (n := n') (c := c') (j := i) hA' (by kernel_rfl) (by kernel_rfl) (by omega)) (by kernel_rfl) ?_
          refine SX.VC_df (.agg (cellsH z).toArray) (fun α => SX.extElems (f := cellsH) (l := pl) (A := A') (n := n') (c := c') (j := i) (z := z) (fun _ => rfl) hA' (by kernel_rfl) (by kernel_rfl) (by omega) (cast (by kernel_rfl) k2) hz) (by kernel_rfl) ?_
          refine SX.VC_df (.tuple #[Value.agg (sgsL (applyS cur z.1).1).toArray, .int .i64 ((applyS cur z.1).2)]) (fun α => ⟨[⟨(α 2).h, 14, sgsL cur⟩, ⟨valP z.1 z.h, 0, []⟩], ⟨Eq.trans (b := (⟨(α 2).h, 14, [Value.agg (sgsL cur).toArray].flatMap SX.cellsV⟩ : SX.Arg)) (by simp [SX.cellsV]) (by kernel_rfl), by kernel_rfl, by kernel_rfl, trivial⟩, .inr (.inr (.inr (.inr (.inr (⟨rfl, _, cur, z.1, z.2.1, z.2.2.1, z.2.2.2, rfl, hok, hcl, chkP_ok h14, rfl⟩))))), fun j hj x sz _ h => by rcases j with _ | _ | j <;> simp at h⟩) (sgs_fit _ _) ?_
          refine SX.VC_df (.bool (((applyS cur z.1).2 : Int) != 0)) (by intro α; show _ = _; kernel_rfl) (by kernel_rfl) ?_
          refine SX.VC_br (((applyS cur z.1).2 : Int) != 0) (by kernel_rfl) (fun h18 => ?_) (fun h18 => ?_)
          · try simp only [NRM] at h18
            have hfact : runS ss ps = ([], (applyS cur z.1).2) := by rw [runS, if_pos h3, if_neg (by omega), hrun, hdr, runL, if_pos h14, if_neg h18]
            exact SX.VC_ret fun α W _ hR hS => ⟨hS.below, (.slice none 0 0), Eq.trans (b := Ending.returned (.tuple #[(.slice none 0 0), .int .i64 ((applyS cur z.1).2)])) (by kernel_rfl) (by rw [hfact]), (by rw [hfact]; exact SX.SlRet.nil)⟩
          · try simp only [NRM] at h18
            refine SX.VC_df (.int .i64 (((i + 1 : Nat) : Int))) (fun α => Eq.trans (b := some (.int .i64 (IntKind.i64.wrap ((i : Nat) + 1)))) (by kernel_rfl) (by rw [show ((i + 1 : Nat) : Int) = ((i : Nat) : Int) + 1 by omega, wrap_i64 (by omega) (by omega)])) (by kernel_rfl) ?_
            exact SX.VC_again fun α => ⟨⟨i + 1, (applyS cur z.1).1, Eq.trans (b := [.int .i64 ((i + 1 : Nat) : Int), .agg ([Value.agg (sgsL (applyS cur z.1).1).toArray].flatMap SX.cellsV).toArray]) (by kernel_rfl) (by simp [SX.cellsV]), by omega, by rw [hrun, hdr, runL, if_pos h14, if_pos h18], (apply_ok hok hcl (chkP_ok h14) h18).1, (apply_ok hok hcl (chkP_ok h14) h18).2⟩, cast (by kernel_rfl) (show n' - ((i + 1 : Nat) : Int).toNat < n' - (i : Int).toNat by omega)⟩
      · try simp only [NRM] at h10
        have hfact : runS ss ps = (cur, 0) := by rw [runS, if_pos h3, if_neg (by omega), hrun, List.drop_of_length_le (by omega), runL]
        exact SX.VC_ret fun α W _ hR hS => ⟨hS.below, (α 2).h, Eq.trans (b := Ending.returned (.tuple #[(α 2).h, .int .i64 0])) (by kernel_rfl) (by rw [hfact]), SX.SlRet.ext hS (n := 2) (b := (⟨[(.x 8 [])], 0, (.ext 14)⟩ : SX.Blk)) (by kernel_rfl) rfl (hR 2 _ (by kernel_rfl)) (Eq.trans (b := [Value.agg (sgsL cur).toArray].flatMap SX.cellsV) (by kernel_rfl) (by rw [hfact]; simp [SX.cellsV])) (x := ⟨.slice A n c, 14, sgsL ss⟩) (by simp) (fun W2 h s z xs hk => by obtain ⟨rfl, rfl, rfl⟩ := hk; exact h) (fun B h s z xs hk => by obtain ⟨rfl, rfl, rfl⟩ := hk; exact h)⟩
end Go.Proofs.Ytodlcjhefojibaa
