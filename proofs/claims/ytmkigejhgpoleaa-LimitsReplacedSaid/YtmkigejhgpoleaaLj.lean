/-
  limits.Add: a limit put into its place.
-/
import Derived.Test.YtmkigejhgpoleaaLe
import Derived.Test.YtmkigejhgpoleaaInr
namespace Go.Proofs.Ytmkigejhgpoleaa
set_option linter.unusedSimpArgs false
set_option linter.unusedVariables false
open Go Go.RowKit
/-- where a limit goes -/
def posL (ls : List Lim) (no : Int) : Nat := (ls.takeWhile fun y => decide (y.no < no)).length
def insL (ls : List Lim) (i : Nat) (x : Lim) : List Lim := ls.take i ++ x :: ls.drop i
def addL (ls : List Lim) (x : Lim) : List Lim := insL ls (posL ls x.no) x
noncomputable def addR (ls : List Lim) (x : Lim) : List Lim × Int := if chkL ls ≠ 0 then ([], chkL ls) else if ∃ y ∈ ls, y.no = x.no then ([], 171) else if chkL (addL ls x) ≠ 0 then ([], chkL (addL ls x)) else (addL ls x, 0)
theorem posL_of {ls : List Lim} {no : Int} {i : Nat} (hi : i ≤ ls.length) (h1 : ∀ y ∈ ls.take i, y.no < no) (h2 : ∀ y ∈ ls.drop i, no ≤ y.no) : posL ls no = i := by
  unfold posL
  rw [← List.take_append_drop i ls, List.takeWhile_append_of_pos (fun y hy => by simpa using h1 y hy)]
  have : (ls.drop i).takeWhile (fun y => decide (y.no < no)) = [] := by
    cases hd : ls.drop i with
    | nil => rfl
    | cons y l =>
      have := h2 y (by rw [hd]; exact List.mem_cons_self ..)
      rw [List.takeWhile_cons]
      simp; omega
  rw [this, List.length_append, List.length_take]
  simp; omega
theorem insL_len {ls : List Lim} {i : Nat} {x : Lim} (hi : i ≤ ls.length) : (insL ls i x).length = ls.length + 1 := by
  simp [insL]; omega
theorem insL_fit {ls : List Lim} {i : Nat} {x : Lim} (h : fitLm ls) (hx : -9223372036854775808 ≤ x.of_ ∧ x.of_ ≤ 9223372036854775807) : fitLm (insL ls i x) := fun z hz => by
  rcases List.mem_append.1 hz with hz | hz
  · exact h z (List.mem_of_mem_take hz)
  · rcases List.mem_cons.1 hz with rfl | hz
    · exact hx
    · exact h z (List.mem_of_mem_drop hz)
theorem rise_all {ls : List Lim} (h : okL ls) {j k : Nat} {y z : Lim} (hy : ls[j]? = some y) (hz : ls[k]? = some z) (hjk : j < k) : y.no < z.no := (h k z hz).2.1 y (mem_takeI hy hjk)
theorem lm_one (l : List Lim) : ∀ u ∈ lmL l, u.oneCell' = true := fun u hu => by
  obtain ⟨a, _, h⟩ := List.mem_flatMap.1 hu
  exact cellsLm_one a u h
theorem lm_ins (ls : List Lim) (i : Nat) (x : Lim) : (lmL ls).take (i * 9) ++ cellsLm x ++ (lmL ls).drop (i * 9) = lmL (insL ls i x) := by
  unfold lmL insL
  rw [SX.flat_take (f := cellsLm) (fun _ => rfl), SX.flat_drop (f := cellsLm) (fun _ => rfl)]
  simp
/-- a search by halves -/
def Half (ls : List Lim) (no : Int) (i j : Nat) : Prop := i ≤ j ∧ j ≤ ls.length ∧ (∀ y ∈ ls.take i, y.no < no) ∧ ∀ y ∈ ls.drop j, no ≤ y.no
theorem half_lo {ls : List Lim} {no : Int} {i j h : Nat} {z : Lim} (hk : okL ls) (hh : Half ls no i j) (hz : ls[h]? = some z) (hj : h < j) (hlt : z.no < no) : Half ls no (h + 1) j := by
  refine ⟨by omega, hh.2.1, fun y hy => ?_, hh.2.2.2⟩
  obtain ⟨q, hq, hy2⟩ := take_memI hy
  by_cases e : q = h
  · subst e; rw [hz] at hy2; cases hy2; exact hlt
  · have := rise_all hk hy2 hz (by omega); omega
theorem half_hi {ls : List Lim} {no : Int} {i j h : Nat} {z : Lim} (hk : okL ls) (hh : Half ls no i j) (hz : ls[h]? = some z) (hi : i ≤ h) (hle : no ≤ z.no) : Half ls no i h := by
  refine ⟨hi, by have := (List.getElem?_eq_some_iff.1 hz).1; omega, hh.2.2.1, fun y hy => ?_⟩
  obtain ⟨q, hy⟩ := List.mem_iff_getElem?.1 hy
  rw [List.getElem?_drop] at hy
  by_cases e : q = 0
  · subst e; rw [Nat.add_zero, hz] at hy; cases hy; exact hle
  · have := rise_all hk hz hy (by omega); omega
theorem half_pos {ls : List Lim} {no : Int} {i j : Nat} (hh : Half ls no i j) (he : ((j : Nat) : Int) ≤ ((i : Nat) : Int)) : posL ls no = i := by
  obtain ⟨h1, h2, h3, h4⟩ := hh
  obtain rfl : i = j := by omega
  exact posL_of h2 h3 h4
theorem half_met {ls : List Lim} {no : Int} {i j : Nat} {z : Lim} (hk : okL ls) (hh : Half ls no i j) (he : ((j : Nat) : Int) ≤ ((i : Nat) : Int)) (hz : ls[i]? = some z) : no ≤ z.no ∧ ((∃ y ∈ ls, y.no = no) ↔ z.no = no) := by
  obtain ⟨h1, h2, h3, h4⟩ := hh
  obtain rfl : i = j := by omega
  have hzd : no ≤ z.no := h4 z (List.mem_of_getElem? (i := 0) (by rw [List.getElem?_drop]; simpa using hz))
  refine ⟨hzd, fun ⟨y, hy, e⟩ => ?_, fun e => ⟨z, List.mem_of_getElem? hz, e⟩⟩
  obtain ⟨q, hy⟩ := List.mem_iff_getElem?.1 hy
  rcases Nat.lt_trichotomy q i with hq | hq | hq
  · have := h3 y (mem_takeI hy hq); omega
  · subst hq; rw [hz] at hy; cases hy; exact e
  · have := rise_all hk hz hy hq; omega
theorem half_none {ls : List Lim} {no : Int} {i j : Nat} (hh : Half ls no i j) (he : ((j : Nat) : Int) ≤ ((i : Nat) : Int)) (hi : ls.length ≤ i) : ¬ ∃ y ∈ ls, y.no = no := by
  rintro ⟨y, hy, e⟩
  have := hh.2.2.1 y (by rw [List.take_of_length_le hi]; exact hy)
  omega
theorem fdiv2 (k : Nat) : Int.fdiv ((k : Nat) : Int) 2 = ((k / 2 : Nat) : Int) := by
  rw [Int.fdiv_eq_ediv_of_nonneg _ (by decide)]; omega
theorem lm1_fit (l : List Lim) : SX.Sh.fit .any (.agg (lmL l).toArray) = true := rfl
def tree_lClone : SX.Tree :=
(.df (.snil false) [(.x 0 [])] .one 
(.br 1 [] 
(.ret (.k (.slice none 0 0)) [] []) 
(.df (.app 9 72 (.ext 9)) [(.cat []), (.x 0 [])] .any 
(.ret (.row 1) [none, (some ⟨[(.x 2 [])], 26, (.row 9)⟩)] []))))
def args_lClone : List SX.V := [.x 0 []]
set_option maxRecDepth 100000 in
theorem run_lClone (K A : Value → Nat → List Value → Prop) : (SX.run (cx0 K A) ⟨fun f => true, [], 2, 100⟩ 100000 0 (SX.door 28 Try.f28 args_lClone [.one]) [.code (Try.f28.body.getD .skip), .top Try.f28]).strip = tree_lClone := by kernel_rfl
set_option maxRecDepth 100000 in
set_option maxHeartbeats 4000000 in
theorem lClone_any (ls : List Lim) (A : Option Addr) (n c : Nat) (w : World) (hr : Rd w 9 A n (lmL ls)) (hn : n ≤ 9223372036854775807) (hc : n ≤ c) (hl : ls.length ≤ 1000000) : Calls Try.prog 28 #[.slice A n c] w fun e w' => ∃ h' b' tl', e = .returned h' ∧ Below w.heap.size w w' ∧ RowAt 9 h' b' 26 (lmL ls) tl' w' ∧ w.heap.size ≤ b' := by
  refine SX.calls_of_run (C := cx0 (fun s sz cells => s = .slice A n c ∧ sz = 9 ∧ cells = lmL ls) (fun _ _ _ => False)) (G := ⟨fun f => true, [], 2, 100⟩) (args := args_lClone) (sh := [.one]) (ρ := [.slice A n c]) 100000 tree_lClone (cx0_ok _ _) Try.func28 rfl (run_lClone _ _) (by kernel_rfl) (by kernel_rfl) (by kernel_rfl) ?_ ?_
  · rintro W hW s sz cells ⟨rfl, rfl, rfl⟩; exact ⟨hr.same0 hW, hc⟩
  have hA := SX.rd_some hr
  have hln : ls.length = n := by have := hr.1; rw [lmL_len] at this; omega
  unfold tree_lClone
  refine SX.VC_df (.bool (false ^^ (A : Option Addr).isNone)) (fun α => ⟨A, n, c, by kernel_rfl, rfl⟩) (by kernel_rfl) ?_
  refine SX.VC_br (false ^^ (A : Option Addr).isNone) (by kernel_rfl) (fun h1 => ?_) (fun h1 => ?_)
  · try simp only [NRM] at h1
    exact SX.VC_ret fun α W _ hR hS => ⟨.slice none 0 0, w.heap.size, [], rfl, hS.below, .inl ⟨rfl, by
      have q : A = none := by simpa using h1
      subst q
      have : n = 0 := by rcases Nat.eq_zero_or_pos n with h | h; exact h; exact absurd rfl (fun _ : (1 : Nat) = 1 => by obtain ⟨ad, e, _⟩ := hr.2 h; cases e)
      rw [List.eq_nil_of_length_eq_zero (by omega : ls.length = 0)]; rfl⟩, Nat.le_refl _⟩
  · try simp only [NRM] at h1
    refine SX.VC_df (Value.agg ((ls).flatMap cellsLm).toArray) (fun α => SX.app_rel (f := cellsLm) (l1 := []) (l2 := ls) (fun _ => rfl) cellsLm_one (by decide) (by kernel_rfl) (SX.src_ext (cast (by kernel_rfl) (⟨rfl, rfl, rfl⟩ : (Value.slice A n c) = .slice A n c ∧ 9 = 9 ∧ lmL ls = lmL ls))) (by simp; omega) (by simp; omega)) (by kernel_rfl) ?_
    exact SX.VC_ret fun α W _ hR hS => by
      obtain ⟨b', tl', h1, h2⟩ := SX.SlRet.nrow hS (cells := lmL ls) (n := 1) (b := (⟨[(.x 2 [])], 26, (.row 9)⟩ : SX.Blk)) (by kernel_rfl) rfl (hR 1 _ (by kernel_rfl)) (Eq.trans (b := [Value.agg (lmL ls).toArray].flatMap SX.cellsV) (by kernel_rfl) (by simp [SX.cellsV, lmL]))
      exact ⟨_, b', tl', rfl, hS.below, h1, h2⟩
/-- what is known of forms, and calls that hand back a row -/
def RLJ (f : FuncId) (xs : List SX.Arg) (v : Value) : Prop :=
  (f = 14 ∧ ∃ (u : Value) (ls : List Lim), xs = [⟨u, 9, lmL ls⟩] ∧ ls.length ≤ 9223372036854775807 ∧ fitLm ls ∧ v = .int .i64 (chkL ls))
def shpLJ : FuncId → Option SX.Sh := fun f => if f = 14 then some .one else none
noncomputable def cxLJ (K A : Value → Nat → List Value → Prop) : SX.Cx := { P := Try.prog, R := fun _ => RLJ, shp := shpLJ, K := K, A := A, trm := true, rc := fun f => if f = 28 then some false else if f = 27 then some true else none }
theorem okLJ (K A : Value → Nat → List Value → Prop) : (cxLJ K A).Ok := by
  refine SX.Cx.ok_of (fun _ => rfl) ?_
  intro K f xs v W hR hrd hKf
  rcases hR with ⟨rfl, u, ls, rfl, hl, hf, rfl⟩
  · obtain ⟨A, n, c, rfl, h2, h3, h4⟩ := lms_arg (hrd ⟨u, 9, lmL ls⟩ (by simp))
    exact (lCheck_any ls A n c W h2 (by omega) h3 hf).mono fun e w' h => SX.plainOk rfl h
theorem clone_nc (K A : Value → Nat → List Value → Prop) {rw' : List SX.Rw} {u : Value} {ls : List Lim} (hl : ls.length ≤ 1000000) : SX.NCall (cxLJ K A) 28 rw' [⟨u, 9, lmL ls⟩] 9 26 (.agg (lmL ls).toArray) := fun W hrd _ _ => by
  obtain ⟨A, n, c, rfl, h2, h3, h4⟩ := lms_arg (hrd ⟨u, 9, lmL ls⟩ (by simp) W (.refl _ _))
  exact lClone_any ls A n c W h2 (by omega) h3 hl
theorem insert_nc (K A : Value → Nat → List Value → Prop) {cs0 : List SX.V} {i mc vb voff : Nat} {ls : List Lim} {x : Lim} (hi : i ≤ ls.length) (hl : ls.length ≤ 1000000) :
    SX.RCall (cxLJ K A) 27 [.no, .own 9 cs0] [⟨.int .i64 (i : Int), 0, []⟩, ⟨.slice (some ⟨vb, voff, none⟩) 1 mc, 9, cellsLm x⟩] (lmL ls) 9 26 (.agg (lmL (insL ls i x)).toArray) := by
  rw [← lm_ins]
  exact insert_rc (C := cxLJ K A) rfl (by rw [lmL_len]; omega) (by omega) (by rw [lmL_len]; omega) (lm_one ls) (cellsLm_one x)
def tree_lAdd : SX.Tree :=
(.df (.call 14 [(.ext 9)]) [(.x 0 [])] .one 
(.df (.bin .neq 29) [(.x 10 []), (.k (.int .i64 0))] .one 
(.br 11 [] 
(.ret (.t [(.k (.slice none 0 0)), (.x 10 [])]) [none] []) 
(.df (.len false) [(.x 0 [])] .one 
(.loop [(.k (.int .i64 0)), (.x 12 [])] [.one, .one] 
(.df (.bin .lss 3) [(.x 13 []), (.x 14 [])] .one 
(.br 15 [] 
(.df (.bin .add 3) [(.x 13 []), (.x 14 [])] .one 
(.df (.conv .u64) [(.x 16 [])] .one 
(.df (.bin .shr 87) [(.x 17 []), (.k (.int .u64 1))] .one 
(.df (.conv .i64) [(.x 18 [])] .one 
(.df .bnd [(.x 0 []), (.x 19 [])] .one 
(.df (.elems 9 0 9) [(.x 0 []), (.x 19 [])] (.ag 9) 
(.df (.bin .neq 3) [(.x 21 [0]), (.x 21 [0])] .one 
(.df (.bin .neq 3) [(.x 1 []), (.x 1 [])] .one 
(.br 22 [] 
(.br 23 [] 
(.again 0 [(.x 13 []), (.x 19 [])]) 
(.df (.bin .add 3) [(.x 19 []), (.k (.int .i64 1))] .one 
(.again 0 [(.x 24 []), (.x 14 [])]))) 
(.br 23 [] 
(.again 0 [(.x 13 []), (.x 19 [])]) 
(.df (.bin .lss 3) [(.x 21 [0]), (.x 1 [])] .one 
(.br 24 [] 
(.df (.bin .add 3) [(.x 19 []), (.k (.int .i64 1))] .one 
(.again 0 [(.x 25 []), (.x 14 [])])) 
(.df (.bin .gtr 3) [(.x 21 [0]), (.x 1 [])] .one 
(.br 25 [] 
(.again 0 [(.x 13 []), (.x 19 [])]) 
(.again 0 [(.x 13 []), (.x 19 [])]))))))))))))))) 
(.df (.bin .lss 3) [(.x 13 []), (.x 12 [])] .one 
(.br 16 [] 
(.df .bnd [(.x 0 []), (.x 13 [])] .one 
(.df (.elems 9 0 9) [(.x 0 []), (.x 13 [])] (.ag 9) 
(.df (.bin .neq 3) [(.x 18 [0]), (.x 18 [0])] .one 
(.df (.bin .neq 3) [(.x 1 []), (.x 1 [])] .one 
(.br 19 [] 
(.br 20 [] 
(.ret (.t [(.k (.slice none 0 0)), (.k (.int .i64 171))]) [none, none, none, none] []) 
(.df (.calln 28 [(.ext 9)] 9 26) [(.x 0 [])] .any 
(.df (.callr 27 [.no, (.own 9 [(.x 1 []), (.x 2 []), (.x 3 []), (.x 4 []), (.x 5 []), (.x 6 []), (.x 7 []), (.x 8 []), (.x 9 [])])] 9 26) [(.cat [(.x 21 [])]), (.x 13 []), (.sl 8 0 1 1)] .any 
(.df (.call 14 [(.row 9 [(.x 22 [])])]) [(.row 9)] .one 
(.df (.bin .neq 29) [(.x 23 []), (.k (.int .i64 0))] .one 
(.br 24 [] 
(.ret (.t [(.k (.slice none 0 0)), (.x 23 [])]) [none, none, none, none, none, none, none, none, none, none] []) 
(.ret (.t [(.row 9), (.k (.int .i64 0))]) [none, none, none, none, none, none, none, none, none, (some ⟨[(.x 22 [])], 26, (.row 9)⟩)] []))))))) 
(.br 20 [] 
(.df (.calln 28 [(.ext 9)] 9 26) [(.x 0 [])] .any 
(.df (.callr 27 [.no, (.own 9 [(.x 1 []), (.x 2 []), (.x 3 []), (.x 4 []), (.x 5 []), (.x 6 []), (.x 7 []), (.x 8 []), (.x 9 [])])] 9 26) [(.cat [(.x 21 [])]), (.x 13 []), (.sl 8 0 1 1)] .any 
(.df (.call 14 [(.row 9 [(.x 22 [])])]) [(.row 9)] .one 
(.df (.bin .neq 29) [(.x 23 []), (.k (.int .i64 0))] .one 
(.br 24 [] 
(.ret (.t [(.k (.slice none 0 0)), (.x 23 [])]) [none, none, none, none, none, none, none, none, none, none] []) 
(.ret (.t [(.row 9), (.k (.int .i64 0))]) [none, none, none, none, none, none, none, none, none, (some ⟨[(.x 22 [])], 26, (.row 9)⟩)] [])))))) 
(.df (.bin .lss 3) [(.x 18 [0]), (.x 1 [])] .one 
(.br 21 [] 
(.df (.calln 28 [(.ext 9)] 9 26) [(.x 0 [])] .any 
(.df (.callr 27 [.no, (.own 9 [(.x 1 []), (.x 2 []), (.x 3 []), (.x 4 []), (.x 5 []), (.x 6 []), (.x 7 []), (.x 8 []), (.x 9 [])])] 9 26) [(.cat [(.x 22 [])]), (.x 13 []), (.sl 8 0 1 1)] .any 
(.df (.call 14 [(.row 9 [(.x 23 [])])]) [(.row 9)] .one 
(.df (.bin .neq 29) [(.x 24 []), (.k (.int .i64 0))] .one 
(.br 25 [] 
(.ret (.t [(.k (.slice none 0 0)), (.x 24 [])]) [none, none, none, none, none, none, none, none, none, none] []) 
(.ret (.t [(.row 9), (.k (.int .i64 0))]) [none, none, none, none, none, none, none, none, none, (some ⟨[(.x 23 [])], 26, (.row 9)⟩)] [])))))) 
(.df (.bin .gtr 3) [(.x 18 [0]), (.x 1 [])] .one 
(.br 22 [] 
(.df (.calln 28 [(.ext 9)] 9 26) [(.x 0 [])] .any 
(.df (.callr 27 [.no, (.own 9 [(.x 1 []), (.x 2 []), (.x 3 []), (.x 4 []), (.x 5 []), (.x 6 []), (.x 7 []), (.x 8 []), (.x 9 [])])] 9 26) [(.cat [(.x 23 [])]), (.x 13 []), (.sl 8 0 1 1)] .any 
(.df (.call 14 [(.row 9 [(.x 24 [])])]) [(.row 9)] .one 
(.df (.bin .neq 29) [(.x 25 []), (.k (.int .i64 0))] .one 
(.br 26 [] 
(.ret (.t [(.k (.slice none 0 0)), (.x 25 [])]) [none, none, none, none, none, none, none, none, none, none] []) 
(.ret (.t [(.row 9), (.k (.int .i64 0))]) [none, none, none, none, none, none, none, none, none, (some ⟨[(.x 24 [])], 26, (.row 9)⟩)] [])))))) 
(.ret (.t [(.k (.slice none 0 0)), (.k (.int .i64 171))]) [none, none, none, none] []))))))))))) 
(.df (.calln 28 [(.ext 9)] 9 26) [(.x 0 [])] .any 
(.df (.callr 27 [.no, (.own 9 [(.x 1 []), (.x 2 []), (.x 3 []), (.x 4 []), (.x 5 []), (.x 6 []), (.x 7 []), (.x 8 []), (.x 9 [])])] 9 26) [(.cat [(.x 17 [])]), (.x 13 []), (.sl 7 0 1 1)] .any 
(.df (.call 14 [(.row 9 [(.x 18 [])])]) [(.row 8)] .one 
(.df (.bin .neq 29) [(.x 19 []), (.k (.int .i64 0))] .one 
(.br 20 [] 
(.ret (.t [(.k (.slice none 0 0)), (.x 19 [])]) [none, none, none, none, none, none, none, none, none] []) 
(.ret (.t [(.row 8), (.k (.int .i64 0))]) [none, none, none, none, none, none, none, none, (some ⟨[(.x 18 [])], 26, (.row 9)⟩)] [])))))))))))))))
def args_lAdd : List SX.V := [.x 0 [], .a ((List.range 9).map fun j => .x (1 + j) [])]
set_option maxRecDepth 100000 in
theorem run_lAdd (K A : Value → Nat → List Value → Prop) : (SX.run (cxLJ K A) ⟨fun f => true, [⟨25, 3, [(.s 9, .one), (.s 10, .one)]⟩], 2, 100⟩ 100000 0 (SX.door 12 Try.f12 args_lAdd (List.replicate 10 .one)) [.code (Try.f12.body.getD .skip), .top Try.f12]).strip = tree_lAdd := by kernel_rfl
set_option maxRecDepth 100000 in
set_option maxHeartbeats 4000000 in
theorem lAdd_any (ls : List Lim) (A : Option Addr) (n c : Nat) (x : Lim) (w : World) (hr : Rd w 9 A n (lmL ls)) (hn : n ≤ 9223372036854775807) (hc : n ≤ c) (hfit : fitLm ls) (hx : -9223372036854775808 ≤ x.of_ ∧ x.of_ ≤ 9223372036854775807) : Calls Try.prog 12 #[.slice A n c, valLm x] w fun e w' => Below w.heap.size w w' ∧ ∃ hdr, e = .returned (.tuple #[hdr, .int .i64 (addR ls x).2]) ∧ SX.SlRet w w' [] hdr 9 (lmL (addR ls x).1) := by
  refine SX.calls_of_run (C := cxLJ (fun s sz cells => s = .slice A n c ∧ sz = 9 ∧ cells = lmL ls) (fun _ _ _ => False)) (G := ⟨fun f => true, [⟨25, 3, [(.s 9, .one), (.s 10, .one)]⟩], 2, 100⟩) (args := args_lAdd) (sh := (List.replicate 10 .one)) (ρ := (.slice A n c :: cellsLm x)) 100000 tree_lAdd (okLJ _ _) Try.func12 rfl (run_lAdd _ _) (by kernel_rfl) (by kernel_rfl) (by kernel_rfl) ?_ ?_
  · rintro W hW s sz cells ⟨rfl, rfl, rfl⟩; exact ⟨hr.same0 hW, hc⟩
  have hA := SX.rd_some hr
  have hln : ls.length = n := by have := hr.1; rw [lmL_len] at this; omega
  unfold tree_lAdd
  refine SX.VC_df (.int .i64 ((chkL ls))) (fun α => ⟨[⟨.slice A n c, 9, lmL ls⟩], ⟨by kernel_rfl, rfl, ⟨by kernel_rfl, rfl, rfl⟩, trivial⟩, ⟨rfl, _, ls, rfl, by omega, hfit, rfl⟩, SX.noAli rfl⟩) (by kernel_rfl) ?_
  refine SX.VC_df (.bool (((chkL ls) : Int) != 0)) (by intro α; show _ = _; kernel_rfl) (by kernel_rfl) ?_
  refine SX.VC_br (((chkL ls) : Int) != 0) (by kernel_rfl) (fun h11 => ?_) (fun h11 => ?_)
  · try simp only [NRM] at h11
    have hfact : addR ls x = ([], chkL ls) := by rw [addR, if_pos (by simpa using h11)]
    exact SX.VC_ret fun α W _ hR hS => ⟨hS.below, (.slice none 0 0), Eq.trans (b := Ending.returned (.tuple #[(.slice none 0 0), .int .i64 ((chkL ls))])) (by kernel_rfl) (by rw [hfact]), (by rw [hfact]; exact SX.SlRet.nil)⟩
  · try simp only [NRM] at h11
    refine SX.VC_df (.int .i64 (((n : Nat) : Int))) (by intro α; show _ = _; kernel_rfl) (by kernel_rfl) ?_
    obtain ⟨hl512, hokl⟩ := chkL_zero (show chkL ls = 0 by simpa using h11)
    refine SX.VC_loop (fun xs => ∃ (i j : Nat), xs = [.int .i64 (i : Int), .int .i64 (j : Int)] ∧ Half ls x.no i j) (fun xs => match xs with | [.int _ i, .int _ j] => j.toNat - i.toNat | _ => 0) (fun α => ⟨0, n, by kernel_rfl, by omega, by omega, fun y hy => by simp at hy, fun y hy => by rw [List.drop_eq_nil_of_le (by omega)] at hy; simp at hy⟩) ?_
    rintro xs - ⟨i, j, rfl, hh⟩
    have hh1 := hh.1
    have hh2 := hh.2.1
    refine SX.VC_df (.bool (decide (((i : Nat) : Int) < ((j : Nat) : Int)))) (by intro α; show _ = _; kernel_rfl) (by kernel_rfl) ?_
    refine SX.VC_br (decide (((i : Nat) : Int) < ((j : Nat) : Int))) (by kernel_rfl) (fun h15 => ?_) (fun h15 => ?_)
    · try simp only [NRM] at h15
      refine SX.VC_df (.int .i64 (((i + j : Nat) : Int))) (fun α => Eq.trans (b := some (.int .i64 (IntKind.i64.wrap ((i : Int) + (j : Int))))) (by kernel_rfl) (by rw [show ((i + j : Nat) : Int) = (i : Int) + (j : Int) by omega, wrap_i64 (by omega) (by omega)])) (by kernel_rfl) ?_
      refine SX.VC_df (.int .u64 (((i + j : Nat) : Int))) (fun α => Eq.trans (b := some (.int .u64 (IntKind.u64.wrap ((i + j : Nat) : Int)))) (by kernel_rfl) (by rw [wrap_u64 (by omega) (by omega)])) (by kernel_rfl) ?_
      refine SX.VC_df (.int .u64 (((((i + j) / 2) : Nat) : Int))) (fun α => Eq.trans (b := some (.int .u64 (Int.fdiv ((i + j : Nat) : Int) 2))) (by kernel_rfl) (by rw [fdiv2])) (by kernel_rfl) ?_
      refine SX.VC_df (.int .i64 (((((i + j) / 2) : Nat) : Int))) (fun α => Eq.trans (b := some (.int .i64 (IntKind.i64.wrap ((((i + j) / 2) : Nat) : Int)))) (by kernel_rfl) (by rw [wrap_i64 (by omega) (by omega)])) (by kernel_rfl) ?_
      refine SX.VC_df (.bool true) (fun α => SX.extBnd (A := A) (n := n) (c := c) (j := ((i + j) / 2)) hA (by kernel_rfl) (by kernel_rfl) (by omega)) (by kernel_rfl) ?_
      obtain ⟨z, hz⟩ : ∃ z, ls[((i + j) / 2)]? = some z := ⟨_, List.getElem?_eq_getElem (by omega)⟩
      refine SX.VC_df (.agg (cellsLm z).toArray) (fun α => SX.extElems (f := cellsLm) (l := ls) (A := A) (n := n) (c := c) (j := ((i + j) / 2)) (z := z) (fun _ => rfl) hA (by kernel_rfl) (by kernel_rfl) (by omega) ⟨rfl, rfl, rfl⟩ hz) (by kernel_rfl) ?_
      refine SX.VC_df (.bool ((z.no : Int) != z.no)) (by intro α; show _ = _; kernel_rfl) (by kernel_rfl) ?_
      refine SX.VC_df (.bool ((x.no : Int) != x.no)) (by intro α; show _ = _; kernel_rfl) (by kernel_rfl) ?_
      refine SX.VC_br ((z.no : Int) != z.no) (by kernel_rfl) (fun h22 => absurd h22 (by simp)) (fun h22 => ?_)
      try simp only [NRM] at h22
      refine SX.VC_br ((x.no : Int) != x.no) (by kernel_rfl) (fun h23 => absurd h23 (by simp)) (fun h23 => ?_)
      try simp only [NRM] at h23
      refine SX.VC_df (.bool (decide (z.no < x.no))) (by intro α; show _ = _; kernel_rfl) (by kernel_rfl) ?_
      refine SX.VC_br (decide (z.no < x.no)) (by kernel_rfl) (fun h24 => ?_) (fun h24 => ?_)
      · try simp only [NRM] at h24
        refine SX.VC_df (.int .i64 (((((i + j) / 2) + 1 : Nat) : Int))) (fun α => Eq.trans (b := some (.int .i64 (IntKind.i64.wrap ((((i + j) / 2) : Int) + 1)))) (by kernel_rfl) (by rw [show ((((i + j) / 2) + 1 : Nat) : Int) = (((i + j) / 2) : Int) + 1 by omega, wrap_i64 (by omega) (by omega)])) (by kernel_rfl) ?_
        exact SX.VC_again fun α => ⟨⟨((i + j) / 2) + 1, j, by kernel_rfl, half_lo hokl hh hz (by omega) (by omega)⟩, cast (by kernel_rfl) (show ((j : Nat) : Int).toNat - ((((i + j) / 2) + 1 : Nat) : Int).toNat < ((j : Nat) : Int).toNat - ((i : Nat) : Int).toNat by omega)⟩
      · try simp only [NRM] at h24
        refine SX.VC_df (.bool (decide (z.no > x.no))) (by intro α; show _ = _; kernel_rfl) (by kernel_rfl) ?_
        refine SX.VC_br (decide (z.no > x.no)) (by kernel_rfl) (fun h25 => ?_) (fun h25 => ?_)
        · try simp only [NRM] at h25
          exact SX.VC_again fun α => ⟨⟨i, ((i + j) / 2), by kernel_rfl, half_hi hokl hh hz (by omega) (by omega)⟩, cast (by kernel_rfl) (show ((((i + j) / 2) : Nat) : Int).toNat - ((i : Nat) : Int).toNat < ((j : Nat) : Int).toNat - ((i : Nat) : Int).toNat by omega)⟩
        · try simp only [NRM] at h25
          exact SX.VC_again fun α => ⟨⟨i, ((i + j) / 2), by kernel_rfl, half_hi hokl hh hz (by omega) (by omega)⟩, cast (by kernel_rfl) (show ((((i + j) / 2) : Nat) : Int).toNat - ((i : Nat) : Int).toNat < ((j : Nat) : Int).toNat - ((i : Nat) : Int).toNat by omega)⟩
    · try simp only [NRM] at h15
      refine SX.VC_df (.bool (decide (((i : Nat) : Int) < ((n : Nat) : Int)))) (by intro α; show _ = _; kernel_rfl) (by kernel_rfl) ?_
      refine SX.VC_br (decide (((i : Nat) : Int) < ((n : Nat) : Int))) (by kernel_rfl) (fun h16 => ?_) (fun h16 => ?_)
      · try simp only [NRM] at h16
        refine SX.VC_df (.bool true) (fun α => SX.extBnd (A := A) (n := n) (c := c) (j := i) hA (by kernel_rfl) (by kernel_rfl) (by omega)) (by kernel_rfl) ?_
        obtain ⟨z, hz⟩ : ∃ z, ls[i]? = some z := ⟨_, List.getElem?_eq_getElem (by omega)⟩
        refine SX.VC_df (.agg (cellsLm z).toArray) (fun α => SX.extElems (f := cellsLm) (l := ls) (A := A) (n := n) (c := c) (j := i) (z := z) (fun _ => rfl) hA (by kernel_rfl) (by kernel_rfl) (by omega) ⟨rfl, rfl, rfl⟩ hz) (by kernel_rfl) ?_
        refine SX.VC_df (.bool ((z.no : Int) != z.no)) (by intro α; show _ = _; kernel_rfl) (by kernel_rfl) ?_
        refine SX.VC_df (.bool ((x.no : Int) != x.no)) (by intro α; show _ = _; kernel_rfl) (by kernel_rfl) ?_
        refine SX.VC_br ((z.no : Int) != z.no) (by kernel_rfl) (fun h19 => absurd h19 (by simp)) (fun h19 => ?_)
        try simp only [NRM] at h19
        refine SX.VC_br ((x.no : Int) != x.no) (by kernel_rfl) (fun h20 => absurd h20 (by simp)) (fun h20 => ?_)
        try simp only [NRM] at h20
        refine SX.VC_df (.bool (decide (z.no < x.no))) (by intro α; show _ = _; kernel_rfl) (by kernel_rfl) ?_
        refine SX.VC_br (decide (z.no < x.no)) (by kernel_rfl) (fun h21 => absurd (half_met hokl hh h15 hz).1 (by simp at h21; omega)) (fun h21 => ?_)
        try simp only [NRM] at h21
        refine SX.VC_df (.bool (decide (z.no > x.no))) (by intro α; show _ = _; kernel_rfl) (by kernel_rfl) ?_
        refine SX.VC_br (decide (z.no > x.no)) (by kernel_rfl) (fun h22 => ?_) (fun h22 => ?_)
        · try simp only [NRM] at h22
          have hpos := half_pos hh h15
          have hnm : ¬ ∃ y ∈ ls, y.no = x.no := fun hq => by have := (half_met hokl hh h15 hz).2.1 hq; omega
          refine SX.VC_df (Value.agg (lmL ls).toArray) (fun α => ⟨[⟨.slice A n c, 9, lmL ls⟩], ⟨by kernel_rfl, rfl, ⟨by kernel_rfl, rfl, rfl⟩, trivial⟩, clone_nc _ _ (by omega)⟩) (rfl) ?_
          refine SX.VC_df (Value.agg (lmL (insL ls i x)).toArray) (fun α => ⟨[⟨.int .i64 (i : Int), 0, []⟩, ⟨.slice (some ⟨(α 8).b, 0, none⟩) 1 1, 9, cellsLm x⟩], ⟨by kernel_rfl, by kernel_rfl, by kernel_rfl, trivial⟩, SX.RCall.old (insert_nc _ _ (by omega) (by omega)) (SX.cat1 (by kernel_rfl))⟩) (rfl) ?_
          refine SX.VC_df (.int .i64 ((chkL (insL ls i x)))) (fun α => ⟨[⟨(α 9).h, 9, lmL (insL ls i x)⟩], ⟨Eq.trans (b := (⟨(α 9).h, 9, [Value.agg (lmL (insL ls i x)).toArray].flatMap SX.cellsV⟩ : SX.Arg)) (by simp [SX.cellsV]) (by kernel_rfl), trivial⟩, ⟨rfl, _, (insL ls i x), rfl, by rw [insL_len (by omega)]; omega, insL_fit hfit hx, rfl⟩, SX.noAli rfl⟩) (by kernel_rfl) ?_
          refine SX.VC_df (.bool (((chkL (insL ls i x)) : Int) != 0)) (by intro α; show _ = _; kernel_rfl) (by kernel_rfl) ?_
          refine SX.VC_br (((chkL (insL ls i x)) : Int) != 0) (by kernel_rfl) (fun h26 => ?_) (fun h26 => ?_)
          · try simp only [NRM] at h26
            have hfact : addR ls x = ([], chkL (insL ls i x)) := by rw [addR, if_neg (by simpa using h11), if_neg hnm, addL, hpos, if_pos (by simpa using h26)]
            exact SX.VC_ret fun α W _ hR hS => ⟨hS.below, (.slice none 0 0), Eq.trans (b := Ending.returned (.tuple #[(.slice none 0 0), .int .i64 ((chkL (insL ls i x)))])) (by kernel_rfl) (by rw [hfact]), (by rw [hfact]; exact SX.SlRet.nil)⟩
          · try simp only [NRM] at h26
            have hfact : addR ls x = ((insL ls i x), 0) := by rw [addR, if_neg (by simpa using h11), if_neg hnm, addL, hpos, if_neg (by simpa using h26)]
            exact SX.VC_ret fun α W _ hR hS => ⟨hS.below, (α 9).h, Eq.trans (b := Ending.returned (.tuple #[(α 9).h, .int .i64 0])) (by kernel_rfl) (by rw [hfact]), SX.SlRet.row hS (n := 9) (b := (⟨[(.x 24 [])], 26, (.row 9)⟩ : SX.Blk)) (by kernel_rfl) rfl (hR 9 _ (by kernel_rfl)) (Eq.trans (b := [Value.agg (lmL (insL ls i x)).toArray].flatMap SX.cellsV) (by kernel_rfl) (by rw [hfact]; simp [SX.cellsV]))⟩
        · try simp only [NRM] at h22
          have hfact : addR ls x = ([], 171) := by rw [addR, if_neg (by simpa using h11), if_pos ((half_met hokl hh h15 hz).2.2 (by have := (half_met hokl hh h15 hz).1; omega))]
          exact SX.VC_ret fun α W _ hR hS => ⟨hS.below, (.slice none 0 0), Eq.trans (b := Ending.returned (.tuple #[(.slice none 0 0), .int .i64 171])) (by kernel_rfl) (by rw [hfact]), (by rw [hfact]; exact SX.SlRet.nil)⟩
      · try simp only [NRM] at h16
        have hpos := half_pos hh h15
        have hnm := half_none hh h15 (by omega)
        refine SX.VC_df (Value.agg (lmL ls).toArray) (fun α => ⟨[⟨.slice A n c, 9, lmL ls⟩], ⟨by kernel_rfl, rfl, ⟨by kernel_rfl, rfl, rfl⟩, trivial⟩, clone_nc _ _ (by omega)⟩) (rfl) ?_
        refine SX.VC_df (Value.agg (lmL (insL ls i x)).toArray) (fun α => ⟨[⟨.int .i64 (i : Int), 0, []⟩, ⟨.slice (some ⟨(α 7).b, 0, none⟩) 1 1, 9, cellsLm x⟩], ⟨by kernel_rfl, by kernel_rfl, by kernel_rfl, trivial⟩, SX.RCall.old (insert_nc _ _ (by omega) (by omega)) (SX.cat1 (by kernel_rfl))⟩) (rfl) ?_
        refine SX.VC_df (.int .i64 ((chkL (insL ls i x)))) (fun α => ⟨[⟨(α 8).h, 9, lmL (insL ls i x)⟩], ⟨Eq.trans (b := (⟨(α 8).h, 9, [Value.agg (lmL (insL ls i x)).toArray].flatMap SX.cellsV⟩ : SX.Arg)) (by simp [SX.cellsV]) (by kernel_rfl), trivial⟩, ⟨rfl, _, (insL ls i x), rfl, by rw [insL_len (by omega)]; omega, insL_fit hfit hx, rfl⟩, SX.noAli rfl⟩) (by kernel_rfl) ?_
        refine SX.VC_df (.bool (((chkL (insL ls i x)) : Int) != 0)) (by intro α; show _ = _; kernel_rfl) (by kernel_rfl) ?_
        refine SX.VC_br (((chkL (insL ls i x)) : Int) != 0) (by kernel_rfl) (fun h20 => ?_) (fun h20 => ?_)
        · try simp only [NRM] at h20
          have hfact : addR ls x = ([], chkL (insL ls i x)) := by rw [addR, if_neg (by simpa using h11), if_neg hnm, addL, hpos, if_pos (by simpa using h20)]
          exact SX.VC_ret fun α W _ hR hS => ⟨hS.below, (.slice none 0 0), Eq.trans (b := Ending.returned (.tuple #[(.slice none 0 0), .int .i64 ((chkL (insL ls i x)))])) (by kernel_rfl) (by rw [hfact]), (by rw [hfact]; exact SX.SlRet.nil)⟩
        · try simp only [NRM] at h20
          have hfact : addR ls x = ((insL ls i x), 0) := by rw [addR, if_neg (by simpa using h11), if_neg hnm, addL, hpos, if_neg (by simpa using h20)]
          exact SX.VC_ret fun α W _ hR hS => ⟨hS.below, (α 8).h, Eq.trans (b := Ending.returned (.tuple #[(α 8).h, .int .i64 0])) (by kernel_rfl) (by rw [hfact]), SX.SlRet.row hS (n := 8) (b := (⟨[(.x 18 [])], 26, (.row 9)⟩ : SX.Blk)) (by kernel_rfl) rfl (hR 8 _ (by kernel_rfl)) (Eq.trans (b := [Value.agg (lmL (insL ls i x)).toArray].flatMap SX.cellsV) (by kernel_rfl) (by rw [hfact]; simp [SX.cellsV]))⟩
end Go.Proofs.Ytmkigejhgpoleaa
