/-
  run: edits, one after the other.
-/
import Derived.Test.YtnaooclbphaelaaEk
namespace Go.Proofs.Ytnaooclbphaelaa
set_option linter.unusedSimpArgs false
set_option linter.unusedVariables false
open Go Go.RowKit
theorem SX.SlRet.ok0 {C : SX.Cx} {f : FuncId} {as' : List SX.Arg} {W W' : World} {e : Ending} {k : Int} {cells : List Value} {sz : Nat} (hs : C.sh f = .tp [.sl sz, .one]) (h : Below W.heap.size W W' ∧ ∃ hdr, e = .returned (.tuple #[hdr, .int .i64 k]) ∧ SX.SlRet W W' [] hdr sz cells) :
    Below W.heap.size W W' ∧ ∃ hdr, e = .returned ((C.sh f).fill hdr (.tuple #[.agg cells.toArray, .int .i64 k])) ∧ ∀ p z, (p, z) ∈ (C.sh f).sls [] → SX.HdrOk C f as' W W' hdr z (SX.cellsV (p.foldl SX.comp (.tuple #[.agg cells.toArray, .int .i64 k]))) := by
  obtain ⟨hb, hdr, he, h1, h2, h3⟩ := h
  refine ⟨hb, hdr, by rw [hs, he]; rfl, fun p z hp => ?_⟩
  rw [hs] at hp
  obtain ⟨rfl, rfl⟩ : p = [0] ∧ z = sz := by simpa [SX.Sh.sls, SX.Sh.slsL] using hp
  refine ⟨h1, h2, .inl (h3.resolve_right ?_)⟩
  rintro ⟨y, hy, _⟩
  cases hy
/-- edits, one after the other -/
noncomputable def runE : List Sg → List Ed → List Sg × Int
  | ss, [] => (ss, 0)
  | ss, d :: l => if (applyE d ss).2 = 0 then runE (applyE d ss).1 l else ([], (applyE d ss).2)
theorem applyE_len (d : Ed) (ss : List Sg) : (applyE d ss).1.length ≤ ss.length := by
  by_cases h : chkS ss = 0
  · by_cases h2 : okE d
    · cases h3 : accE d ss with
      | none => rw [applyE_fail h h2 h3]; simp
      | some y =>
        have h5 : y.length ≤ ss.length := acc_len (i := ss.length) (by rw [List.take_length]; exact h3)
        by_cases h4 : chkS y = 0
        · rw [applyE_ok h h2 h3 h4]; exact h5
        · rw [applyE_out h h2 h3 h4]; simp
    · rw [applyE_no h h2]; simp
  · rw [applyE_chk h]; simp
def esL (l : List Ed) : List Value := l.flatMap cellsE
theorem esL_len (l : List Ed) : (esL l).length = l.length * 22 := SX.flat_len (f := cellsE) (fun _ => rfl) l
def runK (A : Option Addr) (n c : Nat) (ss : List Sg) (A' : Option Addr) (n' c' : Nat) (es : List Ed) (s : Value) (sz : Nat) (cells : List Value) : Prop :=
  (s = .slice A n c ∧ sz = 14 ∧ cells = sgsL ss) ∨ (s = .slice A' n' c' ∧ sz = 22 ∧ cells = esL es)
def runA (A : Option Addr) (n c : Nat) (ss : List Sg) (s : Value) (sz : Nat) (cells : List Value) : Prop := s = .slice A n c ∧ sz = 14 ∧ cells = sgsL ss
/-- what run calls -/
def RE4 (f : FuncId) (xs : List SX.Arg) (v : Value) : Prop :=
  (f = 12 ∧ ∃ (u : Value) (ss : List Sg) (d : Ed), xs = [⟨u, 14, sgsL ss⟩, ⟨valE d, 0, []⟩] ∧ ss.length ≤ 9223372036854775807 ∧ d.kind ≠ 5 ∧ v = .tuple #[.agg (sgsL (applyE d ss).1).toArray, .int .i64 (applyE d ss).2])
def shpE4 : FuncId → Option SX.Sh := fun f => if f = 12 then some (.tp [.sl 14, .one]) else none
noncomputable def cxE4 (K A : Value → Nat → List Value → Prop) : SX.Cx := { P := Try.prog, R := fun _ => RE4, shp := shpE4, K := K, A := A }
theorem okE4 (K A : Value → Nat → List Value → Prop) : (cxE4 K A).Ok := by
  refine SX.Cx.ok_of (fun _ => rfl) ?_
  intro K f xs v W hR hrd hKf
  rcases hR with ⟨rfl, u, ss, d, rfl, hl, hd, rfl⟩
  · refine Calls.mono ?_ fun e w' h => SX.SlRet.ok0 rfl h
    obtain ⟨A, n, c, rfl, h2, h3, h4⟩ := sgs_arg (hrd ⟨u, 14, sgsL ss⟩ (by simp))
    exact apply_any ss A n c d W h2 (by omega) h3 hd
def tree_run36 : SX.Tree :=
(.df (.len false) [(.x 1 [])] .one 
(.df (.kext 14) [(.x 0 [])] .any 
(.loop [(.k (.int .i64 0)), (.cat [(.x 3 [])])] [.one, .any] 
(.df (.bin .lss 3) [(.x 4 []), (.x 2 [])] .one 
(.br 6 [] 
(.df .bnd [(.x 1 []), (.x 4 [])] .one 
(.df (.elems 22 0 22) [(.x 1 []), (.x 4 [])] (.ag 22) 
(.df (.call 12 [(.row 14 [(.x 5 [])]), .no]) [(.row 2), (.a [(.x 8 [0]), (.x 8 [1]), (.x 8 [2]), (.x 8 [3]), (.x 8 [4]), (.x 8 [5]), (.x 8 [6]), (.x 8 [7]), (.x 8 [8]), (.x 8 [9]), (.x 8 [10]), (.x 8 [11]), (.x 8 [12]), (.x 8 [13]), (.x 8 [14]), (.x 8 [15]), (.x 8 [16]), (.x 8 [17]), (.x 8 [18]), (.x 8 [19]), (.x 8 [20]), (.x 8 [21])])] (.tp [(.sl 14), .one]) 
(.df (.bin .neq 31) [(.x 9 [1]), (.k (.int .i64 0))] .one 
(.br 10 [] 
(.ret (.t [(.k (.slice none 0 0)), (.x 9 [1])]) [none, none, none, none, none] []) 
(.df (.bin .add 3) [(.x 4 []), (.k (.int .i64 1))] .one 
(.again 0 [(.x 11 []), (.cat [(.x 9 [0])])]))))))) 
(.ret (.t [(.row 2), (.k (.int .i64 0))]) [none, none, (some ⟨[(.x 5 [])], 0, (.ext 14)⟩)] []))))))
def args_run36 : List SX.V := [.x 0 [], .x 1 []]
set_option maxRecDepth 100000 in
theorem run_run36 (K A : Value → Nat → List Value → Prop) : (SX.run (cxE4 K A) ⟨fun _ => false, [⟨22, 2, [(.s 12, .one), (.s 0, .ext 14)]⟩], 2, 100⟩ 100000 0 (SX.door 22 Try.f22 args_run36 [.one, .one]) [.code (Try.f22.body.getD .skip), .top Try.f22]).strip = tree_run36 := by kernel_rfl
set_option maxRecDepth 100000 in
set_option maxHeartbeats 4000000 in
theorem run36_any (ss : List Sg) (A : Option Addr) (n c : Nat) (es : List Ed) (A' : Option Addr) (n' c' : Nat) (w : World) (hr : Rd w 14 A n (sgsL ss)) (hn : n ≤ 9223372036854775807) (hc : n ≤ c) (hr' : Rd w 22 A' n' (esL es)) (hn' : n' ≤ 9223372036854775807) (hc' : n' ≤ c') (hq : ∀ q ∈ es, q.kind ≠ 5) : Calls Try.prog 22 #[.slice A n c, .slice A' n' c'] w fun e w' => Below w.heap.size w w' ∧ ∃ hdr, e = .returned (.tuple #[hdr, .int .i64 (runE ss es).2]) ∧ SX.SlRet w w' [⟨.slice A n c, 14, sgsL ss⟩] hdr 14 (sgsL (runE ss es).1) := by
  refine SX.calls_of_run (C := cxE4 (runK A n c ss A' n' c' es) (runA A n c ss)) (G := ⟨fun _ => false, [⟨22, 2, [(.s 12, .one), (.s 0, .ext 14)]⟩], 2, 100⟩) (args := args_run36) (sh := [.one, .one]) (ρ := [.slice A n c, .slice A' n' c']) 100000 tree_run36 (okE4 _ _) Try.func22 rfl (run_run36 _ _) (by kernel_rfl) (by kernel_rfl) (by kernel_rfl) ?_ ?_
  · rintro W hW s sz cells (⟨rfl, rfl, rfl⟩ | ⟨rfl, rfl, rfl⟩)
    · exact ⟨hr.same0 hW, hc⟩
    · exact ⟨hr'.same0 hW, hc'⟩
  have hA' := SX.rd_some hr'
  have hln : ss.length = n := by have := hr.1; rw [sgsL_len] at this; omega
  have hln' : es.length = n' := by have := hr'.1; rw [esL_len] at this; omega
  have k1 : runK A n c ss A' n' c' es (.slice A n c) 14 (sgsL ss) := .inl ⟨rfl, rfl, rfl⟩
  have k2 : runK A n c ss A' n' c' es (.slice A' n' c') 22 (esL es) := .inr ⟨rfl, rfl, rfl⟩
  have a1 : runA A n c ss (.slice A n c) 14 (sgsL ss) := ⟨rfl, rfl, rfl⟩
  unfold tree_run36
  refine SX.VC_df (.int .i64 (((n' : Nat) : Int))) (by intro α; show _ = _; kernel_rfl) (by kernel_rfl) ?_
  refine SX.VC_df (Value.agg (sgsL ss).toArray) (fun α => ⟨sgsL ss, ⟨A, n, c, by kernel_rfl, hc⟩, cast (by kernel_rfl) k1, cast (by kernel_rfl) a1, rfl⟩) (by kernel_rfl) ?_
  refine SX.VC_loop (fun xs => ∃ (i : Nat) (cur : List Sg), xs = [.int .i64 (i : Int), .agg (sgsL cur).toArray] ∧ i ≤ n' ∧ runE ss es = runE cur (es.drop i) ∧ cur.length ≤ 9223372036854775807) (fun xs => match xs with | [.int _ i, _] => n' - i.toNat | _ => 0) (fun α => ⟨0, ss, Eq.trans (b := [.int .i64 0, .agg ([Value.agg (sgsL ss).toArray].flatMap SX.cellsV).toArray]) (by kernel_rfl) (by simp [SX.cellsV]), by omega, by simp, by omega⟩) ?_
  rintro xs - ⟨i, cur, rfl, hin, hrun, hcl⟩
  refine SX.VC_df (.bool (decide (((i : Nat) : Int) < ((n' : Nat) : Int)))) (by intro α; show _ = _; kernel_rfl) (by kernel_rfl) ?_
  refine SX.VC_br (decide (((i : Nat) : Int) < ((n' : Nat) : Int))) (by kernel_rfl) (fun h6 => ?_) (fun h6 => ?_)
  · try simp only [NRM] at h6
    obtain ⟨z, hz⟩ : ∃ z, es[i]? = some z := ⟨_, List.getElem?_eq_getElem (by omega)⟩
    have hzm : z.kind ≠ 5 := hq z (List.mem_of_getElem? hz)
    have hdr : es.drop i = z :: es.drop (i + 1) := by
      rw [List.drop_eq_getElem_cons (List.getElem?_eq_some_iff.1 hz).1, (List.getElem?_eq_some_iff.1 hz).2]
    refine SX.VC_df (.bool true) (fun α => SX.extBnd (A := A') (n := n') (c := c') (j := i) hA' (by kernel_rfl) (by kernel_rfl) (by omega)) (by kernel_rfl) ?_
    refine SX.VC_df (.agg (cellsE z).toArray) (fun α => SX.extElems (f := cellsE) (l := es) (A := A') (n := n') (c := c') (j := i) (z := z) (fun _ => rfl) hA' (by kernel_rfl) (by kernel_rfl) (by omega) (cast (by kernel_rfl) k2) hz) (by kernel_rfl) ?_
    refine SX.VC_df (.tuple #[Value.agg (sgsL (applyE z cur).1).toArray, .int .i64 ((applyE z cur).2)]) (fun α => ⟨[⟨(α 2).h, 14, sgsL cur⟩, ⟨valE z, 0, []⟩], ⟨Eq.trans (b := (⟨(α 2).h, 14, [Value.agg (sgsL cur).toArray].flatMap SX.cellsV⟩ : SX.Arg)) (by simp [SX.cellsV]) (by kernel_rfl), by kernel_rfl, by kernel_rfl, trivial⟩, ⟨rfl, _, cur, z, rfl, hcl, hzm, rfl⟩, SX.noAli rfl⟩) (sgs_fit _ _) ?_
    refine SX.VC_df (.bool (((applyE z cur).2 : Int) != 0)) (by intro α; show _ = _; kernel_rfl) (by kernel_rfl) ?_
    refine SX.VC_br (((applyE z cur).2 : Int) != 0) (by kernel_rfl) (fun h10 => ?_) (fun h10 => ?_)
    · try simp only [NRM] at h10
      have hfact : runE ss es = ([], (applyE z cur).2) := by rw [hrun, hdr, runE, if_neg h10]
      exact SX.VC_ret fun α W _ hR hS => ⟨hS.below, (.slice none 0 0), Eq.trans (b := Ending.returned (.tuple #[(.slice none 0 0), .int .i64 ((applyE z cur).2)])) (by kernel_rfl) (by rw [hfact]), (by rw [hfact]; exact SX.SlRet.nil)⟩
    · try simp only [NRM] at h10
      refine SX.VC_df (.int .i64 (((i + 1 : Nat) : Int))) (fun α => Eq.trans (b := some (.int .i64 (IntKind.i64.wrap ((i : Nat) + 1)))) (by kernel_rfl) (by rw [show ((i + 1 : Nat) : Int) = ((i : Nat) : Int) + 1 by omega, wrap_i64 (by omega) (by omega)])) (by kernel_rfl) ?_
      exact SX.VC_again fun α => ⟨⟨i + 1, (applyE z cur).1, Eq.trans (b := [.int .i64 ((i + 1 : Nat) : Int), .agg ([Value.agg (sgsL (applyE z cur).1).toArray].flatMap SX.cellsV).toArray]) (by kernel_rfl) (by simp [SX.cellsV]), by omega, by rw [hrun, hdr, runE, if_pos h10], by have := applyE_len z cur; omega⟩, cast (by kernel_rfl) (show n' - ((i + 1 : Nat) : Int).toNat < n' - (i : Int).toNat by omega)⟩
  · try simp only [NRM] at h6
    have hfact : runE ss es = (cur, 0) := by rw [hrun, List.drop_of_length_le (by omega), runE]
    exact SX.VC_ret fun α W _ hR hS => ⟨hS.below, (α 2).h, Eq.trans (b := Ending.returned (.tuple #[(α 2).h, .int .i64 0])) (by kernel_rfl) (by rw [hfact]), SX.SlRet.ext hS (n := 2) (b := (⟨[(.x 5 [])], 0, (.ext 14)⟩ : SX.Blk)) (by kernel_rfl) rfl (hR 2 _ (by kernel_rfl)) (Eq.trans (b := [Value.agg (sgsL cur).toArray].flatMap SX.cellsV) (by kernel_rfl) (by rw [hfact]; simp [SX.cellsV])) (x := ⟨.slice A n c, 14, sgsL ss⟩) (by simp) (fun W2 h s z xs hk => by obtain ⟨rfl, rfl, rfl⟩ := hk; exact h) (fun B h s z xs hk => by obtain ⟨rfl, rfl, rfl⟩ := hk; exact h)⟩
end Go.Proofs.Ytnaooclbphaelaa
