/-
  Equal lists, and what commutes: the program and the specification.
-/
import Derived.Test.YtodlcjhefojibaaPk
namespace Go.Proofs.Ytodlcjhefojibaa
set_option linter.unusedSimpArgs false
set_option linter.unusedVariables false
open Go Go.RowKit
def tree_seq : SX.Tree :=
(.df (.len false) [(.x 0 [])] .one 
(.df (.len false) [(.x 1 [])] .one 
(.df (.bin .neq 3) [(.x 2 []), (.x 3 [])] .one 
(.br 4 [] 
(.ret (.k (.bool false)) [] []) 
(.df (.len false) [(.x 0 [])] .one 
(.loop [(.k (.int .i64 0))] [.one] 
(.df (.bin .lss 3) [(.x 6 []), (.x 5 [])] .one 
(.br 7 [] 
(.df .bnd [(.x 0 []), (.x 6 [])] .one 
(.df (.elems 14 0 14) [(.x 0 []), (.x 6 [])] (.ag 14) 
(.df .bnd [(.x 1 []), (.x 6 [])] .one 
(.df (.elems 14 0 14) [(.x 1 []), (.x 6 [])] (.ag 14) 
(.df (.eqr true 14 [(.i .i64), (.i .i64), (.i .i64), (.i .i64), (.i .i64), (.i .i64), (.i .i64), (.i .i64), (.i .i64), (.i .i64), (.i .i64), (.i .i64), (.i .i64), (.i .i64)]) [(.x 9 [0]), (.x 9 [1]), (.x 9 [2]), (.x 9 [3]), (.x 9 [4]), (.x 9 [5]), (.x 9 [6]), (.x 9 [7]), (.x 9 [8]), (.x 9 [9]), (.x 9 [10]), (.x 9 [11]), (.x 9 [12]), (.x 9 [13]), (.x 11 [0]), (.x 11 [1]), (.x 11 [2]), (.x 11 [3]), (.x 11 [4]), (.x 11 [5]), (.x 11 [6]), (.x 11 [7]), (.x 11 [8]), (.x 11 [9]), (.x 11 [10]), (.x 11 [11]), (.x 11 [12]), (.x 11 [13])] .one 
(.br 12 [] 
(.ret (.k (.bool false)) [] []) 
(.df (.bin .add 3) [(.x 6 []), (.k (.int .i64 1))] .one 
(.again 0 [(.x 13 [])])))))))) 
(.ret (.k (.bool true)) [] [])))))))))
def args_seq : List SX.V := [.x 0 [], .x 1 []]
set_option maxRecDepth 100000 in
theorem run_seq (K A : Value → Nat → List Value → Prop) : (SX.run (cx0 K A) ⟨fun _ => false, [⟨42, 4, [(.s 13, .one)]⟩], 0, 100⟩ 100000 0 (SX.door 42 Try.f42 args_seq [.one, .one]) [.code (Try.f42.body.getD .skip), .top Try.f42]).strip = tree_seq := by kernel_rfl
set_option maxRecDepth 100000 in
set_option maxHeartbeats 4000000 in
theorem seq_any (ss tt : List Sg) (A A' : Option Addr) (n c n' c' : Nat) (w : World) (hr : Rd w 14 A n (sgsL ss)) (hn : n ≤ 9223372036854775807) (hc : n ≤ c) (hr' : Rd w 14 A' n' (sgsL tt)) (hn' : n' ≤ 9223372036854775807) (hc' : n' ≤ c') : Calls Try.prog 42 #[.slice A n c, .slice A' n' c'] w fun e w' => e = .returned (.bool (decide (ss = tt))) ∧ Below w.heap.size w w' := by
  refine SX.calls_of_run (C := cx0 (fun s sz cells => (s = .slice A n c ∧ sz = 14 ∧ cells = sgsL ss) ∨ (s = .slice A' n' c' ∧ sz = 14 ∧ cells = sgsL tt)) (fun _ _ _ => False)) (G := ⟨fun _ => false, [⟨42, 4, [(.s 13, .one)]⟩], 0, 100⟩) (args := args_seq) (sh := [.one, .one]) (ρ := [.slice A n c, .slice A' n' c']) 100000 tree_seq (cx0_ok _ _) Try.func42 rfl (run_seq _ _) (by kernel_rfl) (by kernel_rfl) (by kernel_rfl) ?_ ?_
  · rintro W hW s sz cells (⟨rfl, rfl, rfl⟩ | ⟨rfl, rfl, rfl⟩)
    · exact ⟨hr.same0 hW, hc⟩
    · exact ⟨hr'.same0 hW, hc'⟩
  have hA := SX.rd_some hr
  have hln : ss.length = n := by have := hr.1; rw [sgsL_len] at this; omega
  have hA' := SX.rd_some hr'
  have hln' : tt.length = n' := by have := hr'.1; rw [sgsL_len] at this; omega
  unfold tree_seq
  refine SX.VC_df (.int .i64 (((n : Nat) : Int))) (by intro α; show _ = _; kernel_rfl) (by kernel_rfl) ?_
  refine SX.VC_df (.int .i64 (((n' : Nat) : Int))) (by intro α; show _ = _; kernel_rfl) (by kernel_rfl) ?_
  refine SX.VC_df (.bool ((((n : Nat) : Int) : Int) != ((n' : Nat) : Int))) (by intro α; show _ = _; kernel_rfl) (by kernel_rfl) ?_
  refine SX.VC_br ((((n : Nat) : Int) : Int) != ((n' : Nat) : Int)) (by kernel_rfl) (fun h4 => ?_) (fun h4 => ?_)
  · try simp only [NRM] at h4
    exact SX.VC_ret fun α W _ _ hS => SX.ret_of hS (x := .bool false) (by kernel_rfl) (by congr 1; symm; first | (rw [decide_eq_false_iff_not]; rintro rfl; omega) | (rw [decide_eq_false_iff_not]; rintro rfl; rw [hy] at hz; cases hz; simp at h12) | (have hi : i = n := (by omega); subst hi; rw [List.take_of_length_le (by omega), List.take_of_length_le (by omega)] at htk; rw [decide_eq_true_eq]; exact htk))
  · try simp only [NRM] at h4
    refine SX.VC_df (.int .i64 (((n : Nat) : Int))) (by intro α; show _ = _; kernel_rfl) (by kernel_rfl) ?_
    refine SX.VC_loop (fun xs => ∃ i : Nat, xs = [.int .i64 (i : Int)] ∧ i ≤ n ∧ ss.take i = tt.take i) (fun xs => match xs with | [.int _ i] => n - i.toNat | _ => 0) (fun α => ⟨0, by kernel_rfl, by omega, by simp⟩) ?_
    rintro xs - ⟨i, rfl, hin, htk⟩
    refine SX.VC_df (.bool (decide (((i : Nat) : Int) < ((n : Nat) : Int)))) (by intro α; show _ = _; kernel_rfl) (by kernel_rfl) ?_
    refine SX.VC_br (decide (((i : Nat) : Int) < ((n : Nat) : Int))) (by kernel_rfl) (fun h7 => ?_) (fun h7 => ?_)
    · try simp only [NRM] at h7
      obtain ⟨y, hy⟩ : ∃ z, ss[i]? = some z := ⟨_, List.getElem?_eq_getElem (by omega)⟩
      obtain ⟨z, hz⟩ : ∃ z, tt[i]? = some z := ⟨_, List.getElem?_eq_getElem (by omega)⟩
      refine SX.VC_df (.bool true) (fun α => SX.extBnd (A := A) (n := n) (c := c) (j := i) hA (by kernel_rfl) (by kernel_rfl) (by omega)) (by kernel_rfl) ?_
      refine SX.VC_df (.agg (cellsSg y).toArray) (fun α => SX.extElems (f := cellsSg) (l := ss) (A := A) (n := n) (c := c) (j := i) (z := y) (fun _ => rfl) hA (by kernel_rfl) (by kernel_rfl) (by omega) (.inl ⟨rfl, rfl, rfl⟩) hy) (by kernel_rfl) ?_
      refine SX.VC_df (.bool true) (fun α => SX.extBnd (A := A') (n := n') (c := c') (j := i) hA' (by kernel_rfl) (by kernel_rfl) (by omega)) (by kernel_rfl) ?_
      refine SX.VC_df (.agg (cellsSg z).toArray) (fun α => SX.extElems (f := cellsSg) (l := tt) (A := A') (n := n') (c := c') (j := i) (z := z) (fun _ => rfl) hA' (by kernel_rfl) (by kernel_rfl) (by omega) (.inr ⟨rfl, rfl, rfl⟩) hz) (by kernel_rfl) ?_
      refine SX.VC_df (.bool (true ^^ decide (y = z))) (fun α => SX.eqr_rel (f := cellsSg) cellsSg_inj (y := y) (z := z) (by kernel_rfl) (by kernel_rfl) (by kernel_rfl)) (by kernel_rfl) ?_
      refine SX.VC_br (true ^^ decide (y = z)) (by kernel_rfl) (fun h12 => ?_) (fun h12 => ?_)
      · try simp only [NRM] at h12
        exact SX.VC_ret fun α W _ _ hS => SX.ret_of hS (x := .bool false) (by kernel_rfl) (by congr 1; symm; first | (rw [decide_eq_false_iff_not]; rintro rfl; omega) | (rw [decide_eq_false_iff_not]; rintro rfl; rw [hy] at hz; cases hz; simp at h12) | (have hi : i = n := (by omega); subst hi; rw [List.take_of_length_le (by omega), List.take_of_length_le (by omega)] at htk; rw [decide_eq_true_eq]; exact htk))
      · try simp only [NRM] at h12
        refine SX.VC_df (.int .i64 (((i + 1 : Nat) : Int))) (fun α => Eq.trans (b := some (.int .i64 (IntKind.i64.wrap ((i : Nat) + 1)))) (by kernel_rfl) (by rw [show ((i + 1 : Nat) : Int) = ((i : Nat) : Int) + 1 by omega, wrap_i64 (by omega) (by omega)])) (by kernel_rfl) ?_
        exact SX.VC_again fun α => ⟨⟨i + 1, by kernel_rfl, by omega, by rw [List.take_add_one, List.take_add_one, htk, hy, hz, h12]⟩, cast (by kernel_rfl) (show n - ((i + 1 : Nat) : Int).toNat < n - (i : Int).toNat by omega)⟩
    · try simp only [NRM] at h7
      exact SX.VC_ret fun α W _ _ hS => SX.ret_of hS (x := .bool true) (by kernel_rfl) (by congr 1; symm; first | (rw [decide_eq_false_iff_not]; rintro rfl; omega) | (rw [decide_eq_false_iff_not]; rintro rfl; rw [hy] at hz; cases hz; simp at h12) | (have hi : i = n := (by omega); subst hi; rw [List.take_of_length_le (by omega), List.take_of_length_le (by omega)] at htk; rw [decide_eq_true_eq]; exact htk))
/-- do patches commute -/
def comS (ss : List Sg) (p q : Pt) : Bool × Int :=
  if chkS ss = 0 then (if ovE p q = 0 then (decide ((runS ss [p, q]).2 = 0 ∧ (runS ss [q, p]).2 = 0 ∧ (runS ss [p, q]).1 = (runS ss [q, p]).1), 0) else (false, ovE p q)) else (false, chkS ss)
theorem sgsb_fit (l : List Sg) (b : Bool) : SX.Sh.fit (.tp [.sl 14, .one]) (.tuple #[.agg (sgsL l).toArray, .bool b]) = true := by
  have h1 : (sgsL l).length % 14 = 0 := by rw [sgsL_len]; omega
  have h2 : (sgsL l).all (·.oneCell') = true := by
    rw [List.all_eq_true]
    intro u hu
    obtain ⟨a, _, h⟩ := List.mem_flatMap.1 hu
    exact cellsSg_one a u h
  simp only [SX.Sh.fit, SX.Sh.fitL, h1, h2]
  rfl
theorem runL_len : ∀ (l : List Pt) (ss : List Sg), okL ss → ss.length ≤ 4096 → (runL ss l).1.length ≤ 4096
  | [], ss, _, h => by simpa [runL] using h
  | p :: l, ss, hs, h => by
    unfold runL
    split
    · rename_i hp
      split
      · rename_i h0
        obtain ⟨h1, h2⟩ := apply_ok hs h (chkP_ok hp) h0
        exact runL_len l _ h1 h2
      · simp
    · simp
theorem runS_len (ss : List Sg) (l : List Pt) (h : ss.length ≤ 9223372036854775807) : (runS ss l).1.length ≤ 9223372036854775807 := by
  unfold runS
  split
  · rename_i hs
    split
    · simp
    · exact Nat.le_trans (runL_len l ss (chkS_ok hs).1 (chkS_ok hs).2) (by omega)
  · simp
def comK (A : Option Addr) (n c : Nat) (ss : List Sg) (p : Pt) (h : Value) (q : Pt) (h' : Value) (s : Value) (sz : Nat) (cells : List Value) : Prop :=
  (s = .slice A n c ∧ sz = 14 ∧ cells = sgsL ss) ∨ (s = h ∧ sz = 1 ∧ cells = intsL p.needs) ∨ (s = h' ∧ sz = 1 ∧ cells = intsL q.needs)
def tree_clos (t0 t1 : TypeId) : SX.Tree :=
(.df (.call 18 [(.ext 14), (.ext 19)]) [(.x 1 []), (.x 0 [])] (.tp [(.sl 14), .one]) 
(.br 2 [] 
(.df (.bin .eql 32) [(.x 3 [1]), (.k (.int .i64 0))] .one 
(.ret (.row 2) [(some ⟨[(.x 1 [])], t0, .cells⟩), (some ⟨[(.x 4 [])], t1, .cells⟩), (some ⟨[(.x 3 [0])], 0, (.ext 14)⟩)] [[(some (.p 0 0)), (some (.p 1 0))]])) 
(.ret (.row 2) [(some ⟨[(.x 1 [])], t0, .cells⟩), (some ⟨[(.k (.bool false))], t1, .cells⟩), (some ⟨[(.x 3 [0])], 0, (.ext 14)⟩)] [[(some (.p 0 0)), (some (.p 1 0))]])))
def args_clos : List SX.V := [.x 0 [], .p 0 0, .p 1 0]
def bl_clos (t0 t1 : TypeId) : List SX.Blk := [⟨[.x 1 []], t0, .cells⟩, ⟨[.x 2 []], t1, .cells⟩]
set_option maxRecDepth 100000 in
theorem run_clos (K A : Value → Nat → List Value → Prop) (t0 t1 : TypeId) : (SX.run (cxH K A) ⟨fun _ => false, [], 1, 100⟩ 100000 0 { fr := args_clos.map some ++ List.replicate (Try.f41.ntmps - args_clos.length) (some (.k undef)), stk := [(List.range (bl_clos t0 t1).length).map fun n => some (.p n 0)], hp := (bl_clos t0 t1).map some, ln := (bl_clos t0 t1).map some, sh := List.replicate 3 .one, kn := [], lps := [], cur := 41 } [.code (Try.f41.body.getD .skip), .top Try.f41]).strip = tree_clos t0 t1 := by kernel_rfl
/-- what a closure hands back, and what it leaves -/
theorem SX.hdrW {C : SX.Cx} {w W : World} {bs : List Nat} {ρ : List Value} {α : Nat → SX.AV} {hp : List (Option SX.Blk)} {ps : List (World → Prop)} {D : SX.Cx} (hS : St ⟨w, bs, SX.Af D, SX.Bf D⟩ (SX.chs ρ α 0 hp) [] (SX.exs ⟨w, bs, SX.Af D, SX.Bf D⟩ ρ α 0 hp ++ ps) W) {n sz : Nat} {b : SX.Blk} (hb : hp[n]? = some (some b)) (hk : b.k = .ext sz) (hr : b.rowOk ρ α n) {cells : List Value} (hc : b.xs ρ α = cells) {s : Value} {sz' : Nat} {cells' : List Value} (hK : C.K s sz' cells') (hA : C.A s sz' cells') (h1 : ∀ W2, SX.Arg.rd W2 ⟨s, sz', cells'⟩ → SX.Af D W2) (h2 : ∀ B, SX.FrsB B s → SX.Bf D B) : SX.HdrW C bs w W ((α n).h) sz cells := by
  subst hc
  unfold SX.Blk.rowOk at hr
  rw [hk] at hr
  obtain ⟨h0, A, len, cap, g1, g2, g3, _⟩ := hr
  obtain ⟨f1, f2⟩ := hS.fact (List.mem_append.2 (.inl (SX.exs_mem.2 ⟨n, b, hb, by rw [Nat.zero_add]; simp only [SX.Blk.ex, hk]; rfl⟩)))
  exact ⟨⟨A, len, cap, g1, g3⟩, f1, f2.imp id fun ⟨q1, q2⟩ => ⟨s, sz', cells', hK, hA, fun W2 h => q1 W2 (h1 W2 h), fun B h => q2 B (h2 B h)⟩⟩
/-- what the closure of Commute answers -/
def WrL (AA : Value → Nat → List Value → Prop) (K : Value → Nat → List Value → Prop) (f : FuncId) (xs : List SX.Arg) (caps : List (List Value)) (v : Value) : Prop :=
  f = 41 ∧ ∃ (u2 : Value) (A : Option Addr) (n c : Nat) (ss : List Sg) (pl : List Ph) (f0 : Bool), xs = [⟨u2, 19, phL pl⟩] ∧ caps = [[.slice A n c], [.bool f0]] ∧ K (.slice A n c) 14 (sgsL ss) ∧ AA (.slice A n c) 14 (sgsL ss) ∧ ss.length ≤ 9223372036854775807 ∧ pl.length ≤ 9223372036854775807 ∧ (∀ q ∈ pl, K q.h 1 (intsL q.1.needs) ∧ q.1.needs.length ≤ 9223372036854775807) ∧ v = .tuple #[.agg (sgsL (runS ss (pl.map (·.1))).1).toArray, .bool (f0 && decide ((runS ss (pl.map (·.1))).2 = 0))]
set_option maxRecDepth 100000 in
set_option maxHeartbeats 4000000 in
theorem clos_any {C : SX.Cx} (ss : List Sg) (A : Option Addr) (n c : Nat) (pl : List Ph) (A' : Option Addr) (n' c' : Nat) (f0 : Bool) (b0 b1 : Nat) (t0 t1 : TypeId) (w : World) (hne : b0 ≠ b1) (h0 : w.heap[b0]? = some (.cells #[.slice A n c] t0 (0, 0))) (h1 : w.heap[b1]? = some (.cells #[.bool f0] t1 (0, 0)))
    (hr : ∀ W, Same [b0, b1] w W → Rd W 14 A n (sgsL ss)) (hn : n ≤ 9223372036854775807) (hc : n ≤ c) (hr' : ∀ W, Same [b0, b1] w W → Rd W 19 A' n' (phL pl)) (hn' : n' ≤ 9223372036854775807) (hc' : n' ≤ c') (hq : ∀ W, Same [b0, b1] w W → NeedsIn W pl) (hK : C.K (.slice A n c) 14 (sgsL ss)) (hA : C.A (.slice A n c) 14 (sgsL ss)) :
    Calls Try.prog 41 #[.slice A' n' c', .pointer (some ⟨b0, 0, none⟩), .pointer (some ⟨b1, 0, none⟩)] w fun e W' => ∃ hdr, e = .returned hdr ∧ W'.os = w.os ∧ W'.tape = w.tape ∧ W'.output = w.output ∧ Same [b1] w W' ∧ W'.heap[b1]? = some (.cells #[.bool (f0 && decide ((runS ss (pl.map (·.1))).2 = 0))] t1 (0, 0)) ∧ SX.HdrW C [b0, b1] w W' hdr 14 (sgsL (runS ss (pl.map (·.1))).1) := by
  refine SX.calls_of_runW (C := cxH (runK A n c ss A' n' c' pl) (runA A n c ss)) (G := ⟨fun _ => false, [], 1, 100⟩) (args := args_clos) (sh := List.replicate 3 .one) (ρ := [.slice A' n' c', .slice A n c, .bool f0]) (bs := [b0, b1]) (bl := bl_clos t0 t1) 100000 (tree_clos t0 t1) (okH _ _) Try.func41 rfl (run_clos _ _ _ _) (by kernel_rfl) (by kernel_rfl) (by kernel_rfl) ?_ (by simpa using hne) rfl ?_ (by decide) ?_
  · rintro W hW s sz cells (⟨rfl, rfl, rfl⟩ | ⟨rfl, rfl, rfl⟩ | ⟨q, hqm, rfl, rfl, rfl⟩)
    · exact ⟨hr W hW, hc⟩
    · exact ⟨hr' W hW, hc'⟩
    · have := hq W hW q hqm
      exact ⟨this.1, this.2.1⟩
  · intro i b B h2 h3
    match i, h2, h3 with
    | 0, h2, h3 => cases h2; cases h3; exact h0
    | 1, h2, h3 => cases h2; cases h3; exact h1
    | i + 2, h2, _ => simp at h2
  have hln : ss.length = n := by have := (hr w (.refl _ _)).1; rw [sgsL_len] at this; omega
  have hlp : pl.length = n' := by have := (hr' w (.refl _ _)).1; rw [phL_len] at this; omega
  have k1 : runK A n c ss A' n' c' pl (.slice A n c) 14 (sgsL ss) := .inl ⟨rfl, rfl, rfl⟩
  have k2 : runK A n c ss A' n' c' pl (.slice A' n' c') 19 (phL pl) := .inr (.inl ⟨rfl, rfl, rfl⟩)
  have a1 : runA A n c ss (.slice A n c) 14 (sgsL ss) := ⟨rfl, rfl, rfl⟩
  have fin : ∀ (α : Nat → SX.AV) (W : World) (hp : List (Option SX.Blk)) (u : Bool) (c1 : SX.V) (ρ : List Value), ρ.getD 1 undef = .slice A n c → (∀ (m : Nat) (b : SX.Blk), hp[m]? = some (some b) → b.rowOk ρ α m) → hp = [(some ⟨[(.x 1 [])], t0, .cells⟩), (some ⟨[c1], t1, .cells⟩), (some ⟨[(.x 3 [0])], 0, (.ext 14)⟩)] → c1.den ρ α = .bool (f0 && decide ((runS ss (pl.map (·.1))).2 = 0)) → (⟨[(.x 3 [0])], 0, (.ext 14)⟩ : SX.Blk).xs ρ α = sgsL (runS ss (pl.map (·.1))).1 →
      SX.Fms ρ α [[some (.p 0 0), some (.p 1 0)]] [⟨([b0, b1].map fun b => Value.pointer (some ⟨b, 0, none⟩)).toArray, [], none⟩] → St ⟨w, [b0, b1], SX.Af (cxH (runK A n c ss A' n' c' pl) (runA A n c ss)), SX.Bf (cxH (runK A n c ss A' n' c' pl) (runA A n c ss))⟩ (SX.chs ρ α 0 hp) [] (SX.exs ⟨w, [b0, b1], SX.Af (cxH (runK A n c ss A' n' c' pl) (runA A n c ss)), SX.Bf (cxH (runK A n c ss A' n' c' pl) (runA A n c ss))⟩ ρ α 0 hp ++ [SX.Kf (cxH (runK A n c ss A' n' c' pl) (runA A n c ss))]) W →
      ∃ hdr, Ending.returned ((α 2).h) = .returned hdr ∧ W.os = w.os ∧ W.tape = w.tape ∧ W.output = w.output ∧ Same [b1] w W ∧ W.heap[b1]? = some (.cells #[.bool (f0 && decide ((runS ss (pl.map (·.1))).2 = 0))] t1 (0, 0)) ∧ SX.HdrW C [b0, b1] w W hdr 14 (sgsL (runS ss (pl.map (·.1))).1) := by
    intro α W hp u c1 ρ hρ1 hR hhp hc1 hxs hF hS
    have e0 : b0 = (α 0).b := by
      have := hF.1.2 0 (.p 0 0) rfl
      simpa [SX.V.den] using this
    have e1 : b1 = (α 1).b := by
      have := hF.1.2 1 (.p 1 0) rfl
      simpa [SX.V.den] using this
    have g0 : W.heap[b0]? = some (.cells #[.slice A n c] t0 (0, 0)) := by
      have := hS.at_ (k := (α 0).b) (c := #[.slice A n c]) (t := t0) (SX.chs_mem (k := 0) (n := 0) (b := ⟨[(.x 1 [])], t0, .cells⟩) (by rw [hhp]; rfl) (by simp only [SX.Blk.ch, SX.denL, SX.V.den, List.foldl_nil, hρ1]))
      rw [e0]; exact this
    have g1 : W.heap[b1]? = some (.cells #[.bool (f0 && decide ((runS ss (pl.map (·.1))).2 = 0))] t1 (0, 0)) := by
      have := hS.at_ (k := (α 1).b) (c := #[.bool (f0 && decide ((runS ss (pl.map (·.1))).2 = 0))]) (t := t1) (SX.chs_mem (k := 0) (n := 1) (b := ⟨[c1], t1, .cells⟩) (by rw [hhp]; rfl) (by simp only [SX.Blk.ch, SX.denL, hc1]))
      rw [e1]; exact this
    refine ⟨_, rfl, hS.old.os, hS.old.tape, hS.old.output, ⟨hS.old.size, fun b hb hm => ?_⟩, g1, SX.hdrW hS (n := 2) (b := ⟨[(.x 3 [0])], 0, (.ext 14)⟩) (by rw [hhp]; rfl) rfl (hR 2 _ (by rw [hhp]; rfl)) hxs hK hA (fun W2 h s z xs hk => by obtain ⟨rfl, rfl, rfl⟩ := hk; exact h) (fun B h s z xs hk => by obtain ⟨rfl, rfl, rfl⟩ := hk; exact h)⟩
    by_cases hb0 : b = b0
    · subst hb0; rw [g0, h0]
    · exact hS.old.block b hb (by simp at hm ⊢; exact ⟨hb0, hm⟩)
  unfold tree_clos
  refine SX.VC_df (.tuple #[Value.agg (sgsL (runS ss (pl.map (·.1))).1).toArray, .int .i64 ((runS ss (pl.map (·.1))).2)]) (fun α => ⟨[⟨.slice A n c, 14, sgsL ss⟩, ⟨.slice A' n' c', 19, phL pl⟩], ⟨by kernel_rfl, rfl, cast (by kernel_rfl) k1, by kernel_rfl, rfl, cast (by kernel_rfl) k2, trivial⟩, .inr (.inr (.inr (.inr (.inr (.inr (.inl ⟨rfl, _, _, ss, pl, rfl, by omega, by omega, fun q hqm => ⟨.inr (.inr ⟨q, hqm, rfl, rfl, rfl⟩), ?_⟩, rfl⟩)))))), fun j hj x sz hx h => match j, hx, h with | 0, hx, _ => by (cases hx; exact cast (by kernel_rfl) a1) | 1, hx, h => by (exfalso; revert hj; show ¬ (1 ∈ [0]); decide) | _ + 2, _, h => by cases h⟩) (sgs_fit _ _) ?_
  · have := hq w (.refl _ _) q hqm
    have h9 := this.1.1; simp only [intsL_len] at h9; omega
  refine SX.VC_br f0 (by kernel_rfl) (fun h2 => ?_) (fun h2 => ?_)
  · refine SX.VC_df (.bool (((runS ss (pl.map (·.1))).2 : Int) == 0)) (by intro α; show _ = _; kernel_rfl) (by kernel_rfl) ?_
    exact SX.VC_ret fun α W hF hR hS => fin α W _ true (.x 4 []) _ (by kernel_rfl) hR rfl (Eq.trans (b := .bool (((runS ss (pl.map (·.1))).2 : Int) == 0)) (by kernel_rfl) (by rw [h2, Bool.true_and]; congr 1)) (Eq.trans (b := [Value.agg (sgsL (runS ss (pl.map (·.1))).1).toArray].flatMap SX.cellsV) (by kernel_rfl) (by simp [SX.cellsV])) hF hS
  · exact SX.VC_ret fun α W hF hR hS => fin α W _ true (.k (.bool false)) _ (by kernel_rfl) hR rfl (by rw [h2, Bool.false_and]; rfl) (Eq.trans (b := [Value.agg (sgsL (runS ss (pl.map (·.1))).1).toArray].flatMap SX.cellsV) (by kernel_rfl) (by simp [SX.cellsV])) hF hS
/-- what is known for Commute -/
def RL (K : Value → Nat → List Value → Prop) (f : FuncId) (xs : List SX.Arg) (v : Value) : Prop :=
  (f = 27 ∧ ∃ (u : Value) (ss : List Sg), xs = [⟨u, 14, sgsL ss⟩] ∧ ss.length ≤ 9223372036854775807 ∧ v = .int .i64 (chkS ss)) ∨
  (f = 33 ∧ ∃ (u : Value) (ss : List Sg), xs = [⟨u, 14, sgsL ss⟩] ∧ ss.length ≤ 9223372036854775807 ∧ v = .int .i64 (chkS ss)) ∨
  (f = 22 ∧ ∃ (p q : Pt) (B : Option Addr) (m d : Nat) (B' : Option Addr) (m' d' : Nat), xs = [⟨valP p (.slice B m d), 0, []⟩, ⟨valP q (.slice B' m' d'), 0, []⟩] ∧ K (.slice B m d) 1 (intsL p.needs) ∧ K (.slice B' m' d') 1 (intsL q.needs) ∧ p.needs.length ≤ 9223372036854775807 ∧ q.needs.length ≤ 9223372036854775807 ∧ v = .tuple #[.bool (ovV p q), .int .i64 (ovE p q)]) ∨
  (f = 23 ∧ ∃ (p q : Pt) (B : Option Addr) (m d : Nat) (B' : Option Addr) (m' d' : Nat), xs = [⟨valP p (.slice B m d), 0, []⟩, ⟨valP q (.slice B' m' d'), 0, []⟩] ∧ K (.slice B m d) 1 (intsL p.needs) ∧ K (.slice B' m' d') 1 (intsL q.needs) ∧ p.needs.length ≤ 9223372036854775807 ∧ q.needs.length ≤ 9223372036854775807 ∧ v = .tuple #[.bool (ovV p q), .int .i64 (ovE p q)]) ∨
  (f = 16 ∧ ∃ (u u2 : Value) (ss tt : List Sg), xs = [⟨u, 14, sgsL ss⟩, ⟨u2, 14, sgsL tt⟩] ∧ ss.length ≤ 9223372036854775807 ∧ tt.length ≤ 9223372036854775807 ∧ v = .bool (decide (ss = tt))) ∨
  (f = 42 ∧ ∃ (u u2 : Value) (ss tt : List Sg), xs = [⟨u, 14, sgsL ss⟩, ⟨u2, 14, sgsL tt⟩] ∧ ss.length ≤ 9223372036854775807 ∧ tt.length ≤ 9223372036854775807 ∧ v = .bool (decide (ss = tt))) ∨
  (f = 18 ∧ ∃ (u u2 : Value) (ss : List Sg) (pl : List Ph), xs = [⟨u, 14, sgsL ss⟩, ⟨u2, 19, phL pl⟩] ∧ ss.length ≤ 9223372036854775807 ∧ pl.length ≤ 9223372036854775807 ∧ (∀ q ∈ pl, K q.h 1 (intsL q.1.needs) ∧ q.1.needs.length ≤ 9223372036854775807) ∧ v = .tuple #[.agg (sgsL (runS ss (pl.map (·.1))).1).toArray, .int .i64 (runS ss (pl.map (·.1))).2]) ∨
  (f = 19 ∧ ∃ (u u2 : Value) (ss : List Sg) (pl : List Ph), xs = [⟨u, 14, sgsL ss⟩, ⟨u2, 19, phL pl⟩] ∧ ss.length ≤ 9223372036854775807 ∧ pl.length ≤ 9223372036854775807 ∧ (∀ q ∈ pl, K q.h 1 (intsL q.1.needs) ∧ q.1.needs.length ≤ 9223372036854775807) ∧ v = .tuple #[.agg (sgsL (runS ss (pl.map (·.1))).1).toArray, .int .i64 (runS ss (pl.map (·.1))).2])
def shpL : FuncId → Option SX.Sh := fun f => if f = 27 then some .one else if f = 33 then some .one else if f = 22 then some (.tp [.one, .one]) else if f = 23 then some (.tp [.one, .one]) else if f = 16 then some .one else if f = 42 then some .one else if f = 18 then some (.tp [.sl 14, .one]) else if f = 19 then some (.tp [.sl 14, .one]) else none
noncomputable def cxL (K A : Value → Nat → List Value → Prop) : SX.Cx := { P := Try.prog, R := RL, shp := shpL, K := K, A := A, ali := fun f => if f = 18 then [0] else if f = 19 then [0] else [], cw := fun f => if f = 41 then some (1, 14) else none, Wr := WrL A }
theorem okWL (K A : Value → Nat → List Value → Prop) : (cxL K A).OkW := by
  intro f as' caps v W bs ts b j sz t hcw hR hrd hKf hnd hl1 hl2 hheap hb ht
  obtain ⟨rfl, u2, A', n, c, ss, pl, f0, rfl, rfl, hK, hA, hl, hlp, hq, rfl⟩ := hR
  have hcw' : (some (1, 14) : Option (Nat × Nat)) = some (j, sz) := hcw
  cases hcw'
  match bs, hl1, ts, hl2 with
  | [b0, b1], _, [t0, t1], _ =>
    obtain rfl : b1 = b := by simpa using hb
    obtain rfl : t1 = t := by simpa using ht
    have h0 := hheap 0 b0 _ t0 rfl rfl rfl
    have h1 := hheap 1 b1 _ t1 rfl rfl rfl
    have hs : ∀ W', Same [b0, b1] W W' → SX.Arg.rd W' ⟨.slice A' n c, 14, sgsL ss⟩ := fun W' h => hKf _ _ _ hK W' h
    have hx : ∀ W', Same [b0, b1] W W' → SX.Arg.rd W' ⟨u2, 19, phL pl⟩ := fun W' h => hrd _ (by simp) W' h
    obtain ⟨A2, n2, c2, rfl, h2, h3, h4⟩ := ph_arg (hx W (.refl _ _))
    have hss := hs W (.refl _ _)
    have hln : ss.length = n := by have := hss.1.1; simp only [sgsL_len] at this; omega
    exact clos_any (C := cxL K A) ss A' n c pl A2 n2 c2 f0 b0 b1 t0 t1 W (by simpa using hnd) h0 h1 (fun W' h => (hs W' h).1) (by omega) hss.2 (fun W' h => (hx W' h).1) (by omega) h3 (fun W' h q hqm => by
      have := hKf _ _ _ (hq q hqm).1 W' h
      exact ⟨this.1, this.2, by have := this.1.1; have h9 := (hq q hqm).2; simp only [intsL_len] at this; omega⟩) hK hA
theorem okL' (K A : Value → Nat → List Value → Prop) : (cxL K A).Ok := by
  refine ⟨?_, okWL K A⟩
  intro K f xs v W hR hrd hKf
  rcases hR with ⟨rfl, u, ss, rfl, hl, rfl⟩ | ⟨rfl, u, ss, rfl, hl, rfl⟩ | ⟨rfl, p, q, B, m, d, B', m', d', rfl, hK, hK', hl, hl', rfl⟩ | ⟨rfl, p, q, B, m, d, B', m', d', rfl, hK, hK', hl, hl', rfl⟩ | ⟨rfl, u, u2, ss, tt, rfl, hl, hl2, rfl⟩ | ⟨rfl, u, u2, ss, tt, rfl, hl, hl2, rfl⟩ | ⟨rfl, u, u2, ss, pl, rfl, hl, hl2, hK, rfl⟩ | ⟨rfl, u, u2, ss, pl, rfl, hl, hl2, hK, rfl⟩
  · obtain ⟨A, n, c, rfl, h2, h3, h4⟩ := sgs_arg (hrd ⟨u, 14, sgsL ss⟩ (by simp))
    exact (echeck_any ss A n c W h2 (by omega) h3).mono fun e w' h => SX.plainOk rfl h
  · obtain ⟨A, n, c, rfl, h2, h3, h4⟩ := sgs_arg (hrd ⟨u, 14, sgsL ss⟩ (by simp))
    exact (rcheckL_any ss A n c W h2 (by omega) h3).mono fun e w' h => SX.plainOk rfl h
  · have hR := hKf _ _ _ hK
    have hR' := hKf _ _ _ hK'
    have hm : m ≤ 9223372036854775807 := by have := hR.1.1; simp only [intsL_len] at this; omega
    have hm' : m' ≤ 9223372036854775807 := by have := hR'.1.1; simp only [intsL_len] at this; omega
    exact (overlap_any p q B m d B' m' d' W hR.1 hm hR.2 hR'.1 hm' hR'.2).mono fun e w' h => SX.plainOk rfl h
  · have hR := hKf _ _ _ hK
    have hR' := hKf _ _ _ hK'
    have hm : m ≤ 9223372036854775807 := by have := hR.1.1; simp only [intsL_len] at this; omega
    have hm' : m' ≤ 9223372036854775807 := by have := hR'.1.1; simp only [intsL_len] at this; omega
    exact (roverlap_any p q B m d B' m' d' W hR.1 hm hR.2 hR'.1 hm' hR'.2).mono fun e w' h => SX.plainOk rfl h
  · obtain ⟨A, n, c, rfl, h2, h3, h4⟩ := sgs_arg (hrd ⟨u, 14, sgsL ss⟩ (by simp))
    obtain ⟨A', n', c', rfl, h2', h3', h4'⟩ := sgs_arg (hrd ⟨u2, 14, sgsL tt⟩ (by simp))
    exact (same_any ss tt A A' n c n' c' W h2 (by omega) h3 h2' (by omega) h3').mono fun e w' h => SX.plainOk rfl h
  · obtain ⟨A, n, c, rfl, h2, h3, h4⟩ := sgs_arg (hrd ⟨u, 14, sgsL ss⟩ (by simp))
    obtain ⟨A', n', c', rfl, h2', h3', h4'⟩ := sgs_arg (hrd ⟨u2, 14, sgsL tt⟩ (by simp))
    exact (seq_any ss tt A A' n c n' c' W h2 (by omega) h3 h2' (by omega) h3').mono fun e w' h => SX.plainOk rfl h
  · refine Calls.mono ?_ fun e w' h => SX.SlRet.ok rfl rfl h
    obtain ⟨A, n, c, rfl, h2, h3, h4⟩ := sgs_arg (hrd ⟨u, 14, sgsL ss⟩ (by simp))
    obtain ⟨A', n', c', rfl, h2', h3', h4'⟩ := ph_arg (hrd ⟨u2, 19, phL pl⟩ (by simp))
    exact run_any ss A n c pl A' n' c' W h2 (by omega) h3 h2' (by omega) h3' fun q hq => by
      have hR := hKf _ _ _ (hK q hq).1
      exact ⟨hR.1, hR.2, by have := (hK q hq).2; have h9 := hR.1.1; simp only [intsL_len] at h9; omega⟩
  · refine Calls.mono ?_ fun e w' h => SX.SlRet.ok rfl rfl h
    obtain ⟨A, n, c, rfl, h2, h3, h4⟩ := sgs_arg (hrd ⟨u, 14, sgsL ss⟩ (by simp))
    obtain ⟨A', n', c', rfl, h2', h3', h4'⟩ := ph_arg (hrd ⟨u2, 19, phL pl⟩ (by simp))
    exact rrun_any ss A n c pl A' n' c' W h2 (by omega) h3 h2' (by omega) h3' fun q hq => by
      have hR := hKf _ _ _ (hK q hq).1
      exact ⟨hR.1, hR.2, by have := (hK q hq).2; have h9 := hR.1.1; simp only [intsL_len] at h9; omega⟩
def tree_commute : SX.Tree :=
(.df (.call 27 [(.ext 14)]) [(.x 0 [])] .one 
(.df (.bin .neq 32) [(.x 39 []), (.k (.int .i64 0))] .one 
(.br 40 [] 
(.ret (.t [(.k (.bool false)), (.x 39 [])]) [] []) 
(.df (.call 22 [.no, .no]) [(.a [(.x 1 []), (.x 2 []), (.x 3 []), (.x 4 []), (.x 5 []), (.x 6 []), (.x 7 []), (.x 8 []), (.x 9 []), (.x 10 []), (.x 11 []), (.x 12 []), (.x 13 []), (.x 14 []), (.x 15 []), (.x 16 []), (.x 17 []), (.x 18 []), (.x 19 [])]), (.a [(.x 20 []), (.x 21 []), (.x 22 []), (.x 23 []), (.x 24 []), (.x 25 []), (.x 26 []), (.x 27 []), (.x 28 []), (.x 29 []), (.x 30 []), (.x 31 []), (.x 32 []), (.x 33 []), (.x 34 []), (.x 35 []), (.x 36 []), (.x 37 []), (.x 38 [])])] (.tp [.one, .one]) 
(.df (.bin .neq 32) [(.x 41 [1]), (.k (.int .i64 0))] .one 
(.br 42 [] 
(.ret (.t [(.k (.bool false)), (.x 41 [1])]) [] []) 
(.df (.callw 41 [(.own 19 [(.x 1 []), (.x 2 []), (.x 3 []), (.x 4 []), (.x 5 []), (.x 6 []), (.x 7 []), (.x 8 []), (.x 9 []), (.x 10 []), (.x 11 []), (.x 12 []), (.x 13 []), (.x 14 []), (.x 15 []), (.x 16 []), (.x 17 []), (.x 18 []), (.x 19 []), (.x 20 []), (.x 21 []), (.x 22 []), (.x 23 []), (.x 24 []), (.x 25 []), (.x 26 []), (.x 27 []), (.x 28 []), (.x 29 []), (.x 30 []), (.x 31 []), (.x 32 []), (.x 33 []), (.x 34 []), (.x 35 []), (.x 36 []), (.x 37 []), (.x 38 [])])] [[(.x 0 [])], [(.k (.bool true))]]) [(.sl 7 0 2 2), (.p 0 0), (.p 3 0)] (.tp [(.sl 14), .one]) 
(.df (.callw 41 [(.own 19 [(.x 20 []), (.x 21 []), (.x 22 []), (.x 23 []), (.x 24 []), (.x 25 []), (.x 26 []), (.x 27 []), (.x 28 []), (.x 29 []), (.x 30 []), (.x 31 []), (.x 32 []), (.x 33 []), (.x 34 []), (.x 35 []), (.x 36 []), (.x 37 []), (.x 38 []), (.x 1 []), (.x 2 []), (.x 3 []), (.x 4 []), (.x 5 []), (.x 6 []), (.x 7 []), (.x 8 []), (.x 9 []), (.x 10 []), (.x 11 []), (.x 12 []), (.x 13 []), (.x 14 []), (.x 15 []), (.x 16 []), (.x 17 []), (.x 18 []), (.x 19 [])])] [[(.x 0 [])], [(.x 43 [1])]]) [(.sl 12 0 2 2), (.p 0 0), (.p 3 0)] (.tp [(.sl 14), .one]) 
(.br 44 [1] 
(.df (.call 42 [(.row 14 [(.x 43 [0])]), (.row 14 [(.x 44 [0])])]) [(.row 8), (.row 13)] .one 
(.ret (.t [(.x 45 []), (.k (.int .i64 0))]) [] [])) 
(.ret (.t [(.k (.bool false)), (.k (.int .i64 0))]) [] []))))))))))
def args_commute : List SX.V := [.x 0 [], .a ((List.range 19).map fun j => .x (1 + j) []), .a ((List.range 19).map fun j => .x (20 + j) [])]
set_option maxRecDepth 100000 in
theorem run_commute (K A : Value → Nat → List Value → Prop) : (SX.run (cxL K A) ⟨fun _ => false, [], 0, 100⟩ 100000 0 (SX.door 24 Try.f24 args_commute (List.replicate 39 .one)) [.code (Try.f24.body.getD .skip), .top Try.f24]).strip = tree_commute := by kernel_rfl
set_option maxRecDepth 100000 in
set_option maxHeartbeats 4000000 in
theorem commute_any (ss : List Sg) (A : Option Addr) (n c : Nat) (p q : Pt) (B : Option Addr) (m d : Nat) (B' : Option Addr) (m' d' : Nat) (w : World) (hr : Rd w 14 A n (sgsL ss)) (hn : n ≤ 9223372036854775807) (hc : n ≤ c) (hp : Rd w 1 B m (intsL p.needs)) (hm : m ≤ 9223372036854775807) (hmd : m ≤ d) (hp' : Rd w 1 B' m' (intsL q.needs)) (hm' : m' ≤ 9223372036854775807) (hmd' : m' ≤ d') : Calls Try.prog 24 #[.slice A n c, valP p (.slice B m d), valP q (.slice B' m' d')] w fun e w' => e = .returned (.tuple #[.bool (comS ss p q).1, .int .i64 (comS ss p q).2]) ∧ Below w.heap.size w w' := by
  refine SX.calls_of_run (C := cxL (comK A n c ss p (.slice B m d) q (.slice B' m' d')) (runA A n c ss)) (G := ⟨fun _ => false, [], 0, 100⟩) (args := args_commute) (sh := (List.replicate 39 .one)) (ρ := ([.slice A n c] ++ cellsP p (.slice B m d) ++ cellsP q (.slice B' m' d'))) 100000 tree_commute (okL' _ _) Try.func24 rfl (run_commute _ _) (by kernel_rfl) (by kernel_rfl) (by kernel_rfl) ?_ ?_
  · rintro W hW s sz cells (⟨rfl, rfl, rfl⟩ | ⟨rfl, rfl, rfl⟩ | ⟨rfl, rfl, rfl⟩)
    · exact ⟨hr.same0 hW, hc⟩
    · exact ⟨hp.same0 hW, hmd⟩
    · exact ⟨hp'.same0 hW, hmd'⟩
  have hln : ss.length = n := by have := hr.1; rw [sgsL_len] at this; omega
  have hlm : p.needs.length = m := by have := hp.1; rw [intsL_len] at this; omega
  have hlm' : q.needs.length = m' := by have := hp'.1; rw [intsL_len] at this; omega
  have k1 : comK A n c ss p (.slice B m d) q (.slice B' m' d') (.slice A n c) 14 (sgsL ss) := .inl ⟨rfl, rfl, rfl⟩
  have k2 : comK A n c ss p (.slice B m d) q (.slice B' m' d') (.slice B m d) 1 (intsL p.needs) := .inr (.inl ⟨rfl, rfl, rfl⟩)
  have k3 : comK A n c ss p (.slice B m d) q (.slice B' m' d') (.slice B' m' d') 1 (intsL q.needs) := .inr (.inr ⟨rfl, rfl, rfl⟩)
  have a1 : runA A n c ss (.slice A n c) 14 (sgsL ss) := ⟨rfl, rfl, rfl⟩
  have kq : ∀ x ∈ [((p, B, m, d) : Ph), (q, B', m', d')], comK A n c ss p (.slice B m d) q (.slice B' m' d') (Ph.h x) 1 (intsL x.1.needs) ∧ x.1.needs.length ≤ 9223372036854775807 := by
    intro x hx
    simp only [List.mem_cons, List.not_mem_nil, or_false] at hx
    rcases hx with rfl | rfl
    · exact ⟨k2, by show p.needs.length ≤ _; omega⟩
    · exact ⟨k3, by show q.needs.length ≤ _; omega⟩
  have kq' : ∀ x ∈ [((q, B', m', d') : Ph), (p, B, m, d)], comK A n c ss p (.slice B m d) q (.slice B' m' d') (Ph.h x) 1 (intsL x.1.needs) ∧ x.1.needs.length ≤ 9223372036854775807 := fun x hx => kq x (by simp only [List.mem_cons, List.not_mem_nil, or_false] at hx ⊢; exact hx.symm)
  unfold tree_commute
  refine SX.VC_df (.int .i64 ((chkS ss))) (fun α => ⟨[⟨.slice A n c, 14, sgsL ss⟩], ⟨by kernel_rfl, rfl, cast (by kernel_rfl) k1, trivial⟩, .inl ⟨rfl, .slice A n c, ss, rfl, by omega, rfl⟩, SX.noAli rfl⟩) (by kernel_rfl) ?_
  refine SX.VC_df (.bool (((chkS ss) : Int) != 0)) (by intro α; show _ = _; kernel_rfl) (by kernel_rfl) ?_
  refine SX.VC_br (((chkS ss) : Int) != 0) (by kernel_rfl) (fun h40 => ?_) (fun h40 => ?_)
  · try simp only [NRM] at h40
    have hfact : comS ss p q = (false, (chkS ss)) := by rw [comS, if_neg h40]
    exact SX.VC_ret fun α W _ _ hS => SX.ret_of hS (x := .tuple #[.bool false, .int .i64 ((chkS ss))]) (by kernel_rfl) (by rw [hfact])
  · try simp only [NRM] at h40
    refine SX.VC_df (.tuple #[.bool ((ovV p q)), .int .i64 ((ovE p q))]) (fun α => ⟨[⟨valP p (.slice B m d), 0, []⟩, ⟨valP q (.slice B' m' d'), 0, []⟩], ⟨by kernel_rfl, by kernel_rfl, by kernel_rfl, by kernel_rfl, trivial⟩, .inr (.inr (.inl ⟨rfl, p, q, B, m, d, B', m', d', rfl, k2, k3, by omega, by omega, rfl⟩)), SX.noAli rfl⟩) (by kernel_rfl) ?_
    refine SX.VC_df (.bool (((ovE p q) : Int) != 0)) (by intro α; show _ = _; kernel_rfl) (by kernel_rfl) ?_
    refine SX.VC_br (((ovE p q) : Int) != 0) (by kernel_rfl) (fun h42 => ?_) (fun h42 => ?_)
    · try simp only [NRM] at h42
      have hfact : comS ss p q = (false, (ovE p q)) := by rw [comS, if_pos h40, if_neg h42]
      exact SX.VC_ret fun α W _ _ hS => SX.ret_of hS (x := .tuple #[.bool false, .int .i64 ((ovE p q))]) (by kernel_rfl) (by rw [hfact])
    · try simp only [NRM] at h42
      refine SX.VC_df (.tuple #[Value.agg (sgsL (runS ss [p, q]).1).toArray, .bool ((true && decide ((runS ss [p, q]).2 = 0)))]) (fun α => ⟨[⟨.slice (some ⟨(α 7).b, 0, none⟩) 2 2, 19, phL [((p, B, m, d) : Ph), (q, B', m', d')]⟩], ⟨by kernel_rfl, trivial⟩, rfl, _, A, n, c, ss, [((p, B, m, d) : Ph), (q, B', m', d')], true, rfl, by kernel_rfl, k1, a1, by omega, by simp, kq, rfl⟩) (sgsb_fit _ _) ?_
      refine SX.VC_df (.tuple #[Value.agg (sgsL (runS ss [q, p]).1).toArray, .bool (((true && decide ((runS ss [p, q]).2 = 0)) && decide ((runS ss [q, p]).2 = 0)))]) (fun α => ⟨[⟨.slice (some ⟨(α 12).b, 0, none⟩) 2 2, 19, phL [((q, B', m', d') : Ph), (p, B, m, d)]⟩], ⟨by kernel_rfl, trivial⟩, rfl, _, A, n, c, ss, [((q, B', m', d') : Ph), (p, B, m, d)], (true && decide ((runS ss [p, q]).2 = 0)), rfl, by kernel_rfl, k1, a1, by omega, by simp, kq', rfl⟩) (sgsb_fit _ _) ?_
      refine SX.VC_br (((true && decide ((runS ss [p, q]).2 = 0)) && decide ((runS ss [q, p]).2 = 0))) (by kernel_rfl) (fun h44_1 => ?_) (fun h44_1 => ?_)
      · try simp only [NRM] at h44_1
        refine SX.VC_df (.bool ((decide ((runS ss [p, q]).1 = (runS ss [q, p]).1)))) (fun α => ⟨[⟨(α 8).h, 14, sgsL (runS ss [p, q]).1⟩, ⟨(α 13).h, 14, sgsL (runS ss [q, p]).1⟩], ⟨Eq.trans (b := ⟨(α 8).h, 14, [Value.agg (sgsL (runS ss [p, q]).1).toArray].flatMap SX.cellsV⟩) (by simp [SX.cellsV]) (by kernel_rfl), Eq.trans (b := ⟨(α 13).h, 14, [Value.agg (sgsL (runS ss [q, p]).1).toArray].flatMap SX.cellsV⟩) (by simp [SX.cellsV]) (by kernel_rfl), trivial⟩, .inr (.inr (.inr (.inr (.inr (.inl ⟨rfl, _, _, _, _, rfl, runS_len _ _ (by omega), runS_len _ _ (by omega), rfl⟩))))), SX.noAli rfl⟩) (by kernel_rfl) ?_
        have hfact : comS ss p q = ((decide ((runS ss [p, q]).1 = (runS ss [q, p]).1)), 0) := by rw [comS, if_pos h40, if_pos h42]; simp_all
        exact SX.VC_ret fun α W _ _ hS => SX.ret_of hS (x := .tuple #[.bool ((decide ((runS ss [p, q]).1 = (runS ss [q, p]).1))), .int .i64 0]) (by kernel_rfl) (by rw [hfact])
      · try simp only [NRM] at h44_1
        have hfact : comS ss p q = (false, 0) := by rw [comS, if_pos h40, if_pos h42]; simp_all
        exact SX.VC_ret fun α W _ _ hS => SX.ret_of hS (x := .tuple #[.bool false, .int .i64 0]) (by kernel_rfl) (by rw [hfact])
def tree_rcommute : SX.Tree :=
(.df (.call 33 [(.ext 14)]) [(.x 0 [])] .one 
(.df (.bin .neq 32) [(.x 39 []), (.k (.int .i64 0))] .one 
(.br 40 [] 
(.ret (.t [(.k (.bool false)), (.x 39 [])]) [] []) 
(.df (.call 23 [.no, .no]) [(.a [(.x 1 []), (.x 2 []), (.x 3 []), (.x 4 []), (.x 5 []), (.x 6 []), (.x 7 []), (.x 8 []), (.x 9 []), (.x 10 []), (.x 11 []), (.x 12 []), (.x 13 []), (.x 14 []), (.x 15 []), (.x 16 []), (.x 17 []), (.x 18 []), (.x 19 [])]), (.a [(.x 20 []), (.x 21 []), (.x 22 []), (.x 23 []), (.x 24 []), (.x 25 []), (.x 26 []), (.x 27 []), (.x 28 []), (.x 29 []), (.x 30 []), (.x 31 []), (.x 32 []), (.x 33 []), (.x 34 []), (.x 35 []), (.x 36 []), (.x 37 []), (.x 38 [])])] (.tp [.one, .one]) 
(.df (.bin .neq 32) [(.x 41 [1]), (.k (.int .i64 0))] .one 
(.br 42 [] 
(.ret (.t [(.k (.bool false)), (.x 41 [1])]) [] []) 
(.df (.call 19 [(.ext 14), (.own 19 [(.x 1 []), (.x 2 []), (.x 3 []), (.x 4 []), (.x 5 []), (.x 6 []), (.x 7 []), (.x 8 []), (.x 9 []), (.x 10 []), (.x 11 []), (.x 12 []), (.x 13 []), (.x 14 []), (.x 15 []), (.x 16 []), (.x 17 []), (.x 18 []), (.x 19 []), (.x 20 []), (.x 21 []), (.x 22 []), (.x 23 []), (.x 24 []), (.x 25 []), (.x 26 []), (.x 27 []), (.x 28 []), (.x 29 []), (.x 30 []), (.x 31 []), (.x 32 []), (.x 33 []), (.x 34 []), (.x 35 []), (.x 36 []), (.x 37 []), (.x 38 [])])]) [(.x 0 []), (.sl 2 0 2 2)] (.tp [(.sl 14), .one]) 
(.df (.call 19 [(.ext 14), (.own 19 [(.x 20 []), (.x 21 []), (.x 22 []), (.x 23 []), (.x 24 []), (.x 25 []), (.x 26 []), (.x 27 []), (.x 28 []), (.x 29 []), (.x 30 []), (.x 31 []), (.x 32 []), (.x 33 []), (.x 34 []), (.x 35 []), (.x 36 []), (.x 37 []), (.x 38 []), (.x 1 []), (.x 2 []), (.x 3 []), (.x 4 []), (.x 5 []), (.x 6 []), (.x 7 []), (.x 8 []), (.x 9 []), (.x 10 []), (.x 11 []), (.x 12 []), (.x 13 []), (.x 14 []), (.x 15 []), (.x 16 []), (.x 17 []), (.x 18 []), (.x 19 [])])]) [(.x 0 []), (.sl 4 0 2 2)] (.tp [(.sl 14), .one]) 
(.df (.bin .eql 32) [(.x 43 [1]), (.k (.int .i64 0))] .one 
(.br 45 [] 
(.df (.bin .eql 32) [(.x 44 [1]), (.k (.int .i64 0))] .one 
(.br 46 [] 
(.df (.call 16 [(.row 14 [(.x 43 [0])]), (.row 14 [(.x 44 [0])])]) [(.row 3), (.row 5)] .one 
(.ret (.t [(.x 47 []), (.k (.int .i64 0))]) [] [])) 
(.ret (.t [(.k (.bool false)), (.k (.int .i64 0))]) [] []))) 
(.ret (.t [(.k (.bool false)), (.k (.int .i64 0))]) [] [])))))))))))
def args_rcommute : List SX.V := [.x 0 [], .a ((List.range 19).map fun j => .x (1 + j) []), .a ((List.range 19).map fun j => .x (20 + j) [])]
set_option maxRecDepth 100000 in
theorem run_rcommute (K A : Value → Nat → List Value → Prop) : (SX.run (cxL K A) ⟨fun _ => false, [], 0, 100⟩ 100000 0 (SX.door 25 Try.f25 args_rcommute (List.replicate 39 .one)) [.code (Try.f25.body.getD .skip), .top Try.f25]).strip = tree_rcommute := by kernel_rfl
set_option maxRecDepth 100000 in
set_option maxHeartbeats 4000000 in
theorem rcommute_any (ss : List Sg) (A : Option Addr) (n c : Nat) (p q : Pt) (B : Option Addr) (m d : Nat) (B' : Option Addr) (m' d' : Nat) (w : World) (hr : Rd w 14 A n (sgsL ss)) (hn : n ≤ 9223372036854775807) (hc : n ≤ c) (hp : Rd w 1 B m (intsL p.needs)) (hm : m ≤ 9223372036854775807) (hmd : m ≤ d) (hp' : Rd w 1 B' m' (intsL q.needs)) (hm' : m' ≤ 9223372036854775807) (hmd' : m' ≤ d') : Calls Try.prog 25 #[.slice A n c, valP p (.slice B m d), valP q (.slice B' m' d')] w fun e w' => e = .returned (.tuple #[.bool (comS ss p q).1, .int .i64 (comS ss p q).2]) ∧ Below w.heap.size w w' := by
  refine SX.calls_of_run (C := cxL (comK A n c ss p (.slice B m d) q (.slice B' m' d')) (runA A n c ss)) (G := ⟨fun _ => false, [], 0, 100⟩) (args := args_rcommute) (sh := (List.replicate 39 .one)) (ρ := ([.slice A n c] ++ cellsP p (.slice B m d) ++ cellsP q (.slice B' m' d'))) 100000 tree_rcommute (okL' _ _) Try.func25 rfl (run_rcommute _ _) (by kernel_rfl) (by kernel_rfl) (by kernel_rfl) ?_ ?_
  · rintro W hW s sz cells (⟨rfl, rfl, rfl⟩ | ⟨rfl, rfl, rfl⟩ | ⟨rfl, rfl, rfl⟩)
    · exact ⟨hr.same0 hW, hc⟩
    · exact ⟨hp.same0 hW, hmd⟩
    · exact ⟨hp'.same0 hW, hmd'⟩
  have hln : ss.length = n := by have := hr.1; rw [sgsL_len] at this; omega
  have hlm : p.needs.length = m := by have := hp.1; rw [intsL_len] at this; omega
  have hlm' : q.needs.length = m' := by have := hp'.1; rw [intsL_len] at this; omega
  have k1 : comK A n c ss p (.slice B m d) q (.slice B' m' d') (.slice A n c) 14 (sgsL ss) := .inl ⟨rfl, rfl, rfl⟩
  have k2 : comK A n c ss p (.slice B m d) q (.slice B' m' d') (.slice B m d) 1 (intsL p.needs) := .inr (.inl ⟨rfl, rfl, rfl⟩)
  have k3 : comK A n c ss p (.slice B m d) q (.slice B' m' d') (.slice B' m' d') 1 (intsL q.needs) := .inr (.inr ⟨rfl, rfl, rfl⟩)
  have a1 : runA A n c ss (.slice A n c) 14 (sgsL ss) := ⟨rfl, rfl, rfl⟩
  have kq : ∀ x ∈ [((p, B, m, d) : Ph), (q, B', m', d')], comK A n c ss p (.slice B m d) q (.slice B' m' d') (Ph.h x) 1 (intsL x.1.needs) ∧ x.1.needs.length ≤ 9223372036854775807 := by
    intro x hx
    simp only [List.mem_cons, List.not_mem_nil, or_false] at hx
    rcases hx with rfl | rfl
    · exact ⟨k2, by show p.needs.length ≤ _; omega⟩
    · exact ⟨k3, by show q.needs.length ≤ _; omega⟩
  have kq' : ∀ x ∈ [((q, B', m', d') : Ph), (p, B, m, d)], comK A n c ss p (.slice B m d) q (.slice B' m' d') (Ph.h x) 1 (intsL x.1.needs) ∧ x.1.needs.length ≤ 9223372036854775807 := fun x hx => kq x (by simp only [List.mem_cons, List.not_mem_nil, or_false] at hx ⊢; exact hx.symm)
  unfold tree_rcommute
  refine SX.VC_df (.int .i64 ((chkS ss))) (fun α => ⟨[⟨.slice A n c, 14, sgsL ss⟩], ⟨by kernel_rfl, rfl, cast (by kernel_rfl) k1, trivial⟩, .inr (.inl ⟨rfl, .slice A n c, ss, rfl, by omega, rfl⟩), SX.noAli rfl⟩) (by kernel_rfl) ?_
  refine SX.VC_df (.bool (((chkS ss) : Int) != 0)) (by intro α; show _ = _; kernel_rfl) (by kernel_rfl) ?_
  refine SX.VC_br (((chkS ss) : Int) != 0) (by kernel_rfl) (fun h40 => ?_) (fun h40 => ?_)
  · try simp only [NRM] at h40
    have hfact : comS ss p q = (false, (chkS ss)) := by rw [comS, if_neg h40]
    exact SX.VC_ret fun α W _ _ hS => SX.ret_of hS (x := .tuple #[.bool false, .int .i64 ((chkS ss))]) (by kernel_rfl) (by rw [hfact])
  · try simp only [NRM] at h40
    refine SX.VC_df (.tuple #[.bool ((ovV p q)), .int .i64 ((ovE p q))]) (fun α => ⟨[⟨valP p (.slice B m d), 0, []⟩, ⟨valP q (.slice B' m' d'), 0, []⟩], ⟨by kernel_rfl, by kernel_rfl, by kernel_rfl, by kernel_rfl, trivial⟩, .inr (.inr (.inr (.inl ⟨rfl, p, q, B, m, d, B', m', d', rfl, k2, k3, by omega, by omega, rfl⟩))), SX.noAli rfl⟩) (by kernel_rfl) ?_
    refine SX.VC_df (.bool (((ovE p q) : Int) != 0)) (by intro α; show _ = _; kernel_rfl) (by kernel_rfl) ?_
    refine SX.VC_br (((ovE p q) : Int) != 0) (by kernel_rfl) (fun h42 => ?_) (fun h42 => ?_)
    · try simp only [NRM] at h42
      have hfact : comS ss p q = (false, (ovE p q)) := by rw [comS, if_pos h40, if_neg h42]
      exact SX.VC_ret fun α W _ _ hS => SX.ret_of hS (x := .tuple #[.bool false, .int .i64 ((ovE p q))]) (by kernel_rfl) (by rw [hfact])
    · try simp only [NRM] at h42
      refine SX.VC_df (.tuple #[Value.agg (sgsL (runS ss [p, q]).1).toArray, .int .i64 ((runS ss [p, q]).2)]) (fun α => ⟨[⟨.slice A n c, 14, sgsL ss⟩, ⟨.slice (some ⟨(α 2).b, 0, none⟩) 2 2, 19, phL [((p, B, m, d) : Ph), (q, B', m', d')]⟩], ⟨by kernel_rfl, rfl, cast (by kernel_rfl) k1, by kernel_rfl, trivial⟩, .inr (.inr (.inr (.inr (.inr (.inr (.inr (⟨rfl, _, _, ss, [((p, B, m, d) : Ph), (q, B', m', d')], rfl, by omega, by simp, kq, rfl⟩))))))), fun j hj x sz hx h => match j, hx, h with | 0, hx, _ => by (cases hx; exact cast (by kernel_rfl) a1) | 1, _, h => by cases h | _ + 2, _, h => by cases h⟩) (sgs_fit _ _) ?_
      refine SX.VC_df (.tuple #[Value.agg (sgsL (runS ss [q, p]).1).toArray, .int .i64 ((runS ss [q, p]).2)]) (fun α => ⟨[⟨.slice A n c, 14, sgsL ss⟩, ⟨.slice (some ⟨(α 4).b, 0, none⟩) 2 2, 19, phL [((q, B', m', d') : Ph), (p, B, m, d)]⟩], ⟨by kernel_rfl, rfl, cast (by kernel_rfl) k1, by kernel_rfl, trivial⟩, .inr (.inr (.inr (.inr (.inr (.inr (.inr (⟨rfl, _, _, ss, [((q, B', m', d') : Ph), (p, B, m, d)], rfl, by omega, by simp, kq', rfl⟩))))))), fun j hj x sz hx h => match j, hx, h with | 0, hx, _ => by (cases hx; exact cast (by kernel_rfl) a1) | 1, _, h => by cases h | _ + 2, _, h => by cases h⟩) (sgs_fit _ _) ?_
      refine SX.VC_df (.bool (((runS ss [p, q]).2 : Int) == 0)) (by intro α; show _ = _; kernel_rfl) (by kernel_rfl) ?_
      refine SX.VC_br (((runS ss [p, q]).2 : Int) == 0) (by kernel_rfl) (fun h45 => ?_) (fun h45 => ?_)
      · try simp only [NRM] at h45
        refine SX.VC_df (.bool (((runS ss [q, p]).2 : Int) == 0)) (by intro α; show _ = _; kernel_rfl) (by kernel_rfl) ?_
        refine SX.VC_br (((runS ss [q, p]).2 : Int) == 0) (by kernel_rfl) (fun h46 => ?_) (fun h46 => ?_)
        · try simp only [NRM] at h46
          refine SX.VC_df (.bool ((decide ((runS ss [p, q]).1 = (runS ss [q, p]).1)))) (fun α => ⟨[⟨(α 3).h, 14, sgsL (runS ss [p, q]).1⟩, ⟨(α 5).h, 14, sgsL (runS ss [q, p]).1⟩], ⟨Eq.trans (b := ⟨(α 3).h, 14, [Value.agg (sgsL (runS ss [p, q]).1).toArray].flatMap SX.cellsV⟩) (by simp [SX.cellsV]) (by kernel_rfl), Eq.trans (b := ⟨(α 5).h, 14, [Value.agg (sgsL (runS ss [q, p]).1).toArray].flatMap SX.cellsV⟩) (by simp [SX.cellsV]) (by kernel_rfl), trivial⟩, .inr (.inr (.inr (.inr (.inl ⟨rfl, _, _, _, _, rfl, runS_len _ _ (by omega), runS_len _ _ (by omega), rfl⟩)))), SX.noAli rfl⟩) (by kernel_rfl) ?_
          have hfact : comS ss p q = ((decide ((runS ss [p, q]).1 = (runS ss [q, p]).1)), 0) := by rw [comS, if_pos h40, if_pos h42]; simp_all
          exact SX.VC_ret fun α W _ _ hS => SX.ret_of hS (x := .tuple #[.bool ((decide ((runS ss [p, q]).1 = (runS ss [q, p]).1))), .int .i64 0]) (by kernel_rfl) (by rw [hfact])
        · try simp only [NRM] at h46
          have hfact : comS ss p q = (false, 0) := by rw [comS, if_pos h40, if_pos h42]; simp_all
          exact SX.VC_ret fun α W _ _ hS => SX.ret_of hS (x := .tuple #[.bool false, .int .i64 0]) (by kernel_rfl) (by rw [hfact])
      · try simp only [NRM] at h45
        have hfact : comS ss p q = (false, 0) := by rw [comS, if_pos h40, if_pos h42]; simp_all
        exact SX.VC_ret fun α W _ _ hS => SX.ret_of hS (x := .tuple #[.bool false, .int .i64 0]) (by kernel_rfl) (by rw [hfact])
end Go.Proofs.Ytodlcjhefojibaa
