/-
  Lists of limits: what is in form; what refers to what.
-/
import Derived.Test.YtmkigejhgpoleaaLa
namespace Go.Proofs.Ytmkigejhgpoleaa
set_option linter.unusedSimpArgs false
set_option linter.unusedVariables false
open Go Go.RowKit
/-- is a limit in form by itself -/
def elemOk (x : Lim) : Prop := (0 ≤ x.no ∧ x.no ≤ 1048576) ∧ (0 ≤ x.person ∧ x.person ≤ 63) ∧ (0 ≤ x.from_ ∧ x.from_ ≤ x.to_) ∧ x.to_ ≤ 73048 ∧ (0 ≤ x.known ∧ x.known ≤ 134217727) ∧ (capOk x.kind x.limb x.n ∨ (x.kind = 0 ∧ x.limb = 0 ∧ x.n = 0 ∧ x.of_ ≠ 0))
instance (x : Lim) : Decidable (elemOk x) := by unfold elemOk; infer_instance
theorem elemOk_iff {x : Lim} : elemOk x ↔ (0 ≤ x.no ∧ x.no ≤ 1048576) ∧ (0 ≤ x.person ∧ x.person ≤ 63) ∧ (0 ≤ x.from_ ∧ x.from_ ≤ x.to_) ∧ x.to_ ≤ 73048 ∧ (0 ≤ x.known ∧ x.known ≤ 134217727) ∧ (capOk x.kind x.limb x.n ∨ (x.kind = 0 ∧ x.limb = 0 ∧ x.n = 0 ∧ x.of_ ≠ 0)) := Iff.rfl
/-- does a limit go on from an earlier one as it may -/
def refOk (p : List Lim) (x : Lim) : Prop := x.of_ = 0 ∨ ((∀ y ∈ p, y.of_ ≠ x.of_) ∧ ∃ y ∈ p, y.no + 1 = x.of_ ∧ y.person = x.person ∧ y.known ≤ x.known)
instance (p : List Lim) (x : Lim) : Decidable (refOk p x) := by unfold refOk; infer_instance
def okAt (l : List Lim) (i : Nat) (z : Lim) : Prop := elemOk z ∧ (∀ y ∈ l.take i, y.no < z.no) ∧ refOk (l.take i) z
def okL (l : List Lim) : Prop := ∀ i z, l[i]? = some z → okAt l i z
noncomputable instance (l : List Lim) : Decidable (okL l) := Classical.propDecidable _
def okTo (l : List Lim) (i : Nat) : Prop := ∀ j z, j < i → l[j]? = some z → okAt l j z
noncomputable def chkL (l : List Lim) : Int := if 512 < l.length then 2 else if okL l then 0 else 340
theorem okTo_zero (l : List Lim) : okTo l 0 := fun j z h => absurd h (by omega)
theorem okTo_succ {l : List Lim} {i : Nat} {z : Lim} (h : okTo l i) (hz : l[i]? = some z) (ha : okAt l i z) : okTo l (i + 1) := fun j y hj hy => by
  by_cases he : j = i
  · subst he; rw [hz] at hy; cases hy; exact ha
  · exact h j y (by omega) hy
theorem okTo_len {l : List Lim} {i : Nat} (h : okTo l i) (hi : l.length ≤ i) : okL l := fun j y hy => h j y (Nat.lt_of_lt_of_le (List.getElem?_eq_some_iff.1 hy).1 hi) hy
theorem okL_to {l : List Lim} (h : okL l) (i : Nat) : okTo l i := fun j y _ hy => h j y hy
theorem not_ok {l : List Lim} {i : Nat} {z : Lim} (hz : l[i]? = some z) (h : ¬ okAt l i z) : ¬ okL l := fun hk => h (hk i z hz)
theorem ex_take1 {l : List Lim} {i : Nat} {z : Lim} (hz : l[i]? = some z) {P : Lim → Prop} : (∃ q ∈ l.take (i + 1), P q) ↔ (∃ q ∈ l.take i, P q) ∨ P z := by
  rw [List.take_add_one, hz]
  simp only [Option.toList_some, List.mem_append, List.mem_singleton]
  constructor
  · rintro ⟨q, h | rfl, hq⟩
    · exact .inl ⟨q, h, hq⟩
    · exact .inr hq
  · rintro (⟨q, h, hq⟩ | h)
    · exact ⟨q, .inl h, hq⟩
    · exact ⟨z, .inr rfl, h⟩
theorem all_take1 {l : List Lim} {i : Nat} {z : Lim} (hz : l[i]? = some z) {P : Lim → Prop} : (∀ q ∈ l.take (i + 1), P q) ↔ (∀ q ∈ l.take i, P q) ∧ P z := by
  rw [List.take_add_one, hz]
  simp only [Option.toList_some, List.mem_append, List.mem_singleton]
  constructor
  · exact fun h => ⟨fun q hq => h q (.inl hq), h z (.inr rfl)⟩
  · rintro ⟨h, hz⟩ q (hq | rfl)
    · exact h q hq
    · exact hz
theorem mem_takeI {l : List Lim} {i j : Nat} {z : Lim} (hz : l[j]? = some z) (h : j < i) : z ∈ l.take i := List.mem_of_getElem? (i := j) (by rw [List.getElem?_take, if_pos h]; exact hz)
theorem take_memI {l : List Lim} {i : Nat} {z : Lim} (h : z ∈ l.take i) : ∃ j, j < i ∧ l[j]? = some z := by
  obtain ⟨j, hj⟩ := List.mem_iff_getElem?.1 h
  rw [List.getElem?_take] at hj
  split at hj
  · exact ⟨j, by assumption, hj⟩
  · cases hj
/-- numbers rise: it is enough to look at the last one -/
theorem rise_last {l : List Lim} {i : Nat} {y z : Lim} (h : okTo l i) (hi : 0 < i) (hy : l[i - 1]? = some y) : (∀ q ∈ l.take i, q.no < z.no) ↔ y.no < z.no := by
  constructor
  · exact fun h => h y (mem_takeI hy (by omega))
  · intro hlt q hq
    obtain ⟨j, hj, hq⟩ := take_memI hq
    by_cases he : j = i - 1
    · subst he; rw [hy] at hq; cases hq; exact hlt
    · have := (h (i - 1) y (by omega) hy).2.1 q (mem_takeI hq (by omega))
      omega
def tree_refers : SX.Tree :=
(.df .bnd [(.x 0 []), (.x 1 [])] .one 
(.df .bnd [(.x 0 []), (.x 1 [])] .one 
(.df (.elem 9 2) [(.x 0 []), (.x 1 [])] .one 
(.df (.bin .eql 3) [(.x 4 []), (.k (.int .i64 0))] .one 
(.br 5 [] 
(.ret (.k (.bool true)) [] []) 
(.loop [(.k (.int .i64 0)), (.k (.bool false))] [.one, .one] 
(.df (.bin .lss 3) [(.x 6 []), (.x 1 [])] .one 
(.br 8 [] 
(.df .bnd [(.x 0 []), (.x 6 [])] .one 
(.df .bnd [(.x 0 []), (.x 6 [])] .one 
(.df (.elem 9 2) [(.x 0 []), (.x 6 [])] .one 
(.df .bnd [(.x 0 []), (.x 1 [])] .one 
(.df .bnd [(.x 0 []), (.x 1 [])] .one 
(.df (.elem 9 2) [(.x 0 []), (.x 1 [])] .one 
(.df (.bin .eql 3) [(.x 11 []), (.x 14 [])] .one 
(.br 15 [] 
(.ret (.k (.bool false)) [] []) 
(.df .bnd [(.x 0 []), (.x 6 [])] .one 
(.df .bnd [(.x 0 []), (.x 6 [])] .one 
(.df (.elem 9 0) [(.x 0 []), (.x 6 [])] .one 
(.df (.bin .add 3) [(.x 18 []), (.k (.int .i64 1))] .one 
(.df .bnd [(.x 0 []), (.x 1 [])] .one 
(.df .bnd [(.x 0 []), (.x 1 [])] .one 
(.df (.elem 9 2) [(.x 0 []), (.x 1 [])] .one 
(.df (.bin .eql 3) [(.x 19 []), (.x 22 [])] .one 
(.br 23 [] 
(.df .bnd [(.x 0 []), (.x 6 [])] .one 
(.df .bnd [(.x 0 []), (.x 6 [])] .one 
(.df (.elem 9 1) [(.x 0 []), (.x 6 [])] .one 
(.df .bnd [(.x 0 []), (.x 1 [])] .one 
(.df .bnd [(.x 0 []), (.x 1 [])] .one 
(.df (.elem 9 1) [(.x 0 []), (.x 1 [])] .one 
(.df (.bin .eql 3) [(.x 26 []), (.x 29 [])] .one 
(.br 30 [] 
(.df .bnd [(.x 0 []), (.x 6 [])] .one 
(.df .bnd [(.x 0 []), (.x 6 [])] .one 
(.df (.elem 9 5) [(.x 0 []), (.x 6 [])] .one 
(.df .bnd [(.x 0 []), (.x 1 [])] .one 
(.df .bnd [(.x 0 []), (.x 1 [])] .one 
(.df (.elem 9 5) [(.x 0 []), (.x 1 [])] .one 
(.df (.bin .leq 3) [(.x 33 []), (.x 36 [])] .one 
(.br 37 [] 
(.df (.bin .add 3) [(.x 6 []), (.k (.int .i64 1))] .one 
(.again 0 [(.x 38 []), (.k (.bool true))])) 
(.df (.bin .add 3) [(.x 6 []), (.k (.int .i64 1))] .one 
(.again 0 [(.x 38 []), (.x 7 [])])))))))))) 
(.df (.bin .add 3) [(.x 6 []), (.k (.int .i64 1))] .one 
(.again 0 [(.x 31 []), (.x 7 [])])))))))))) 
(.df (.bin .add 3) [(.x 6 []), (.k (.int .i64 1))] .one 
(.again 0 [(.x 24 []), (.x 7 [])]))))))))))))))))))) 
(.ret (.x 7 []) [] [])))))))))
def args_refers : List SX.V := [.x 0 [], .x 1 []]
set_option maxRecDepth 100000 in
theorem run_refers (K A : Value → Nat → List Value → Prop) : (SX.run (cx0 K A) ⟨fun f => true, [⟨37, 5, [(.s 6, .one), (.s 5, .one)]⟩], 0, 100⟩ 100000 0 (SX.door 37 Try.f37 args_refers [.one, .one]) [.code (Try.f37.body.getD .skip), .top Try.f37]).strip = tree_refers := by kernel_rfl
set_option maxRecDepth 100000 in
set_option maxHeartbeats 4000000 in
theorem refers_any (ls : List Lim) (A : Option Addr) (n c : Nat) (i : Nat) (z : Lim) (w : World) (hr : Rd w 9 A n (lmL ls)) (hn : n ≤ 9223372036854775807) (hc : n ≤ c) (hz : ls[i]? = some z) (hok : okTo ls i) : Calls Try.prog 37 #[.slice A n c, .int .i64 i] w fun e w' => e = .returned (.bool (decide (refOk (ls.take i) z))) ∧ Below w.heap.size w w' := by
  refine SX.calls_of_run (C := cx0 (fun s sz cells => s = .slice A n c ∧ sz = 9 ∧ cells = lmL ls) (fun _ _ _ => False)) (G := ⟨fun f => true, [⟨37, 5, [(.s 6, .one), (.s 5, .one)]⟩], 0, 100⟩) (args := args_refers) (sh := [.one, .one]) (ρ := [.slice A n c, .int .i64 i]) 100000 tree_refers (cx0_ok _ _) Try.func37 rfl (run_refers _ _) (by kernel_rfl) (by kernel_rfl) (by kernel_rfl) ?_ ?_
  · rintro W hW s sz cells ⟨rfl, rfl, rfl⟩; exact ⟨hr.same0 hW, hc⟩
  have hA := SX.rd_some hr
  have hln : ls.length = n := by have := hr.1; rw [lmL_len] at this; omega
  have hin : i < n := by have := (List.getElem?_eq_some_iff.1 hz).1; omega
  unfold tree_refers
  refine SX.VC_df (.bool true) (fun α => SX.extBnd (A := A) (n := n) (c := c) (j := i) hA (by kernel_rfl) (by kernel_rfl) (by omega)) (by kernel_rfl) ?_
  refine SX.VC_df (.bool true) (fun α => SX.extBnd (A := A) (n := n) (c := c) (j := i) hA (by kernel_rfl) (by kernel_rfl) (by omega)) (by kernel_rfl) ?_
  refine SX.VC_df (.int .i64 z.of_) (fun α => SX.extElem (o := 2) (v := .int .i64 z.of_) (f := cellsLm) (l := ls) (A := A) (n := n) (c := c) (j := i) (z := z) (fun _ => rfl) hA (by kernel_rfl) (by kernel_rfl) (by omega) ⟨rfl, rfl, rfl⟩ hz (by decide) (by kernel_rfl)) (by kernel_rfl) ?_
  refine SX.VC_df (.bool ((z.of_ : Int) == 0)) (by intro α; show _ = _; kernel_rfl) (by kernel_rfl) ?_
  refine SX.VC_br ((z.of_ : Int) == 0) (by kernel_rfl) (fun h5 => ?_) (fun h5 => ?_)
  · try simp only [NRM] at h5
    exact SX.VC_ret fun α W _ _ hS => SX.ret_of hS (x := .bool true) (by kernel_rfl) (by congr 1; symm; rw [decide_eq_true_eq]; exact .inl (by simpa using h5))
  · try simp only [NRM] at h5
    refine SX.VC_loop (fun xs => ∃ (j : Nat) (b : Bool), xs = [.int .i64 (j : Int), .bool b] ∧ j ≤ i ∧ (∀ y ∈ ls.take j, y.of_ ≠ z.of_) ∧ (b = true ↔ ∃ y ∈ ls.take j, y.no + 1 = z.of_ ∧ y.person = z.person ∧ y.known ≤ z.known)) (fun xs => match xs with | [.int _ j, _] => i - j.toNat | _ => 0) (fun α => ⟨0, false, by kernel_rfl, by omega, by simp, by simp⟩) ?_
    rintro xs - ⟨j, b, rfl, hji, hall, hb⟩
    refine SX.VC_df (.bool (decide (((j : Nat) : Int) < ((i : Nat) : Int)))) (by intro α; show _ = _; kernel_rfl) (by kernel_rfl) ?_
    refine SX.VC_br (decide (((j : Nat) : Int) < ((i : Nat) : Int))) (by kernel_rfl) (fun h8 => ?_) (fun h8 => ?_)
    · try simp only [NRM] at h8
      obtain ⟨y, hy⟩ : ∃ z, ls[j]? = some z := ⟨_, List.getElem?_eq_getElem (by omega)⟩
      have hyb := (elemOk_iff.1 (hok j y (by omega) hy).1).1
      refine SX.VC_df (.bool true) (fun α => SX.extBnd (A := A) (n := n) (c := c) (j := j) hA (by kernel_rfl) (by kernel_rfl) (by omega)) (by kernel_rfl) ?_
      refine SX.VC_df (.bool true) (fun α => SX.extBnd (A := A) (n := n) (c := c) (j := j) hA (by kernel_rfl) (by kernel_rfl) (by omega)) (by kernel_rfl) ?_
      refine SX.VC_df (.int .i64 y.of_) (fun α => SX.extElem (o := 2) (v := .int .i64 y.of_) (f := cellsLm) (l := ls) (A := A) (n := n) (c := c) (j := j) (z := y) (fun _ => rfl) hA (by kernel_rfl) (by kernel_rfl) (by omega) ⟨rfl, rfl, rfl⟩ hy (by decide) (by kernel_rfl)) (by kernel_rfl) ?_
      refine SX.VC_df (.bool true) (fun α => SX.extBnd (A := A) (n := n) (c := c) (j := i) hA (by kernel_rfl) (by kernel_rfl) (by omega)) (by kernel_rfl) ?_
      refine SX.VC_df (.bool true) (fun α => SX.extBnd (A := A) (n := n) (c := c) (j := i) hA (by kernel_rfl) (by kernel_rfl) (by omega)) (by kernel_rfl) ?_
      refine SX.VC_df (.int .i64 z.of_) (fun α => SX.extElem (o := 2) (v := .int .i64 z.of_) (f := cellsLm) (l := ls) (A := A) (n := n) (c := c) (j := i) (z := z) (fun _ => rfl) hA (by kernel_rfl) (by kernel_rfl) (by omega) ⟨rfl, rfl, rfl⟩ hz (by decide) (by kernel_rfl)) (by kernel_rfl) ?_
      refine SX.VC_df (.bool ((y.of_ : Int) == z.of_)) (by intro α; show _ = _; kernel_rfl) (by kernel_rfl) ?_
      refine SX.VC_br ((y.of_ : Int) == z.of_) (by kernel_rfl) (fun h15 => ?_) (fun h15 => ?_)
      · try simp only [NRM] at h15
        exact SX.VC_ret fun α W _ _ hS => SX.ret_of hS (x := .bool false) (by kernel_rfl) (by congr 1; symm; rw [decide_eq_false_iff_not]; exact fun h => h.elim (fun h => by simp [h] at h5) (fun h => h.1 y (mem_takeI hy (by omega)) (by simpa using h15)))
      · try simp only [NRM] at h15
        refine SX.VC_df (.bool true) (fun α => SX.extBnd (A := A) (n := n) (c := c) (j := j) hA (by kernel_rfl) (by kernel_rfl) (by omega)) (by kernel_rfl) ?_
        refine SX.VC_df (.bool true) (fun α => SX.extBnd (A := A) (n := n) (c := c) (j := j) hA (by kernel_rfl) (by kernel_rfl) (by omega)) (by kernel_rfl) ?_
        refine SX.VC_df (.int .i64 y.no) (fun α => SX.extElem (o := 0) (v := .int .i64 y.no) (f := cellsLm) (l := ls) (A := A) (n := n) (c := c) (j := j) (z := y) (fun _ => rfl) hA (by kernel_rfl) (by kernel_rfl) (by omega) ⟨rfl, rfl, rfl⟩ hy (by decide) (by kernel_rfl)) (by kernel_rfl) ?_
        refine SX.VC_df (.int .i64 (y.no + 1)) (fun α => Eq.trans (b := some (.int .i64 (IntKind.i64.wrap (y.no + 1)))) (by kernel_rfl) (by rw [wrap_i64 (by omega) (by omega)])) (by kernel_rfl) ?_
        refine SX.VC_df (.bool true) (fun α => SX.extBnd (A := A) (n := n) (c := c) (j := i) hA (by kernel_rfl) (by kernel_rfl) (by omega)) (by kernel_rfl) ?_
        refine SX.VC_df (.bool true) (fun α => SX.extBnd (A := A) (n := n) (c := c) (j := i) hA (by kernel_rfl) (by kernel_rfl) (by omega)) (by kernel_rfl) ?_
        refine SX.VC_df (.int .i64 z.of_) (fun α => SX.extElem (o := 2) (v := .int .i64 z.of_) (f := cellsLm) (l := ls) (A := A) (n := n) (c := c) (j := i) (z := z) (fun _ => rfl) hA (by kernel_rfl) (by kernel_rfl) (by omega) ⟨rfl, rfl, rfl⟩ hz (by decide) (by kernel_rfl)) (by kernel_rfl) ?_
        refine SX.VC_df (.bool ((y.no + 1 : Int) == z.of_)) (by intro α; show _ = _; kernel_rfl) (by kernel_rfl) ?_
        refine SX.VC_br ((y.no + 1 : Int) == z.of_) (by kernel_rfl) (fun h23 => ?_) (fun h23 => ?_)
        · try simp only [NRM] at h23
          refine SX.VC_df (.bool true) (fun α => SX.extBnd (A := A) (n := n) (c := c) (j := j) hA (by kernel_rfl) (by kernel_rfl) (by omega)) (by kernel_rfl) ?_
          refine SX.VC_df (.bool true) (fun α => SX.extBnd (A := A) (n := n) (c := c) (j := j) hA (by kernel_rfl) (by kernel_rfl) (by omega)) (by kernel_rfl) ?_
          refine SX.VC_df (.int .i64 y.person) (fun α => SX.extElem (o := 1) (v := .int .i64 y.person) (f := cellsLm) (l := ls) (A := A) (n := n) (c := c) (j := j) (z := y) (fun _ => rfl) hA (by kernel_rfl) (by kernel_rfl) (by omega) ⟨rfl, rfl, rfl⟩ hy (by decide) (by kernel_rfl)) (by kernel_rfl) ?_
          refine SX.VC_df (.bool true) (fun α => SX.extBnd (A := A) (n := n) (c := c) (j := i) hA (by kernel_rfl) (by kernel_rfl) (by omega)) (by kernel_rfl) ?_
          refine SX.VC_df (.bool true) (fun α => SX.extBnd (A := A) (n := n) (c := c) (j := i) hA (by kernel_rfl) (by kernel_rfl) (by omega)) (by kernel_rfl) ?_
          refine SX.VC_df (.int .i64 z.person) (fun α => SX.extElem (o := 1) (v := .int .i64 z.person) (f := cellsLm) (l := ls) (A := A) (n := n) (c := c) (j := i) (z := z) (fun _ => rfl) hA (by kernel_rfl) (by kernel_rfl) (by omega) ⟨rfl, rfl, rfl⟩ hz (by decide) (by kernel_rfl)) (by kernel_rfl) ?_
          refine SX.VC_df (.bool ((y.person : Int) == z.person)) (by intro α; show _ = _; kernel_rfl) (by kernel_rfl) ?_
          refine SX.VC_br ((y.person : Int) == z.person) (by kernel_rfl) (fun h30 => ?_) (fun h30 => ?_)
          · try simp only [NRM] at h30
            refine SX.VC_df (.bool true) (fun α => SX.extBnd (A := A) (n := n) (c := c) (j := j) hA (by kernel_rfl) (by kernel_rfl) (by omega)) (by kernel_rfl) ?_
            refine SX.VC_df (.bool true) (fun α => SX.extBnd (A := A) (n := n) (c := c) (j := j) hA (by kernel_rfl) (by kernel_rfl) (by omega)) (by kernel_rfl) ?_
            refine SX.VC_df (.int .i64 y.known) (fun α => SX.extElem (o := 5) (v := .int .i64 y.known) (f := cellsLm) (l := ls) (A := A) (n := n) (c := c) (j := j) (z := y) (fun _ => rfl) hA (by kernel_rfl) (by kernel_rfl) (by omega) ⟨rfl, rfl, rfl⟩ hy (by decide) (by kernel_rfl)) (by kernel_rfl) ?_
            refine SX.VC_df (.bool true) (fun α => SX.extBnd (A := A) (n := n) (c := c) (j := i) hA (by kernel_rfl) (by kernel_rfl) (by omega)) (by kernel_rfl) ?_
            refine SX.VC_df (.bool true) (fun α => SX.extBnd (A := A) (n := n) (c := c) (j := i) hA (by kernel_rfl) (by kernel_rfl) (by omega)) (by kernel_rfl) ?_
            refine SX.VC_df (.int .i64 z.known) (fun α => SX.extElem (o := 5) (v := .int .i64 z.known) (f := cellsLm) (l := ls) (A := A) (n := n) (c := c) (j := i) (z := z) (fun _ => rfl) hA (by kernel_rfl) (by kernel_rfl) (by omega) ⟨rfl, rfl, rfl⟩ hz (by decide) (by kernel_rfl)) (by kernel_rfl) ?_
            refine SX.VC_df (.bool (decide (y.known ≤ z.known))) (by intro α; show _ = _; kernel_rfl) (by kernel_rfl) ?_
            refine SX.VC_br (decide (y.known ≤ z.known)) (by kernel_rfl) (fun h37 => ?_) (fun h37 => ?_)
            · try simp only [NRM] at h37
              refine SX.VC_df (.int .i64 (((j + 1 : Nat) : Int))) (fun α => Eq.trans (b := some (.int .i64 (IntKind.i64.wrap ((j : Int) + 1)))) (by kernel_rfl) (by rw [show ((j + 1 : Nat) : Int) = (j : Int) + 1 by omega, wrap_i64 (by omega) (by omega)])) (by kernel_rfl) ?_
              exact SX.VC_again fun α => ⟨⟨j + 1, true, by kernel_rfl, by omega, (all_take1 hy).2 ⟨hall, by simpa using h15⟩, ⟨fun _ => (ex_take1 hy).2 (.inr ⟨by simpa using h23, by simpa using h30, by simpa using h37⟩), fun _ => rfl⟩⟩, cast (by kernel_rfl) (show i - ((j + 1 : Nat) : Int).toNat < i - (j : Int).toNat by omega)⟩
            · try simp only [NRM] at h37
              refine SX.VC_df (.int .i64 (((j + 1 : Nat) : Int))) (fun α => Eq.trans (b := some (.int .i64 (IntKind.i64.wrap ((j : Int) + 1)))) (by kernel_rfl) (by rw [show ((j + 1 : Nat) : Int) = (j : Int) + 1 by omega, wrap_i64 (by omega) (by omega)])) (by kernel_rfl) ?_
              exact SX.VC_again fun α => ⟨⟨j + 1, b, by kernel_rfl, by omega, (all_take1 hy).2 ⟨hall, by simpa using h15⟩, ⟨fun h => (ex_take1 hy).2 (.inl (hb.1 h)), fun h => ((ex_take1 hy).1 h).elim hb.2 (fun r => absurd r.2.2 (by simpa using h37))⟩⟩, cast (by kernel_rfl) (show i - ((j + 1 : Nat) : Int).toNat < i - (j : Int).toNat by omega)⟩
          · try simp only [NRM] at h30
            refine SX.VC_df (.int .i64 (((j + 1 : Nat) : Int))) (fun α => Eq.trans (b := some (.int .i64 (IntKind.i64.wrap ((j : Int) + 1)))) (by kernel_rfl) (by rw [show ((j + 1 : Nat) : Int) = (j : Int) + 1 by omega, wrap_i64 (by omega) (by omega)])) (by kernel_rfl) ?_
            exact SX.VC_again fun α => ⟨⟨j + 1, b, by kernel_rfl, by omega, (all_take1 hy).2 ⟨hall, by simpa using h15⟩, ⟨fun h => (ex_take1 hy).2 (.inl (hb.1 h)), fun h => ((ex_take1 hy).1 h).elim hb.2 (fun r => absurd r.2.1 (by simpa using h30))⟩⟩, cast (by kernel_rfl) (show i - ((j + 1 : Nat) : Int).toNat < i - (j : Int).toNat by omega)⟩
        · try simp only [NRM] at h23
          refine SX.VC_df (.int .i64 (((j + 1 : Nat) : Int))) (fun α => Eq.trans (b := some (.int .i64 (IntKind.i64.wrap ((j : Int) + 1)))) (by kernel_rfl) (by rw [show ((j + 1 : Nat) : Int) = (j : Int) + 1 by omega, wrap_i64 (by omega) (by omega)])) (by kernel_rfl) ?_
          exact SX.VC_again fun α => ⟨⟨j + 1, b, by kernel_rfl, by omega, (all_take1 hy).2 ⟨hall, by simpa using h15⟩, ⟨fun h => (ex_take1 hy).2 (.inl (hb.1 h)), fun h => ((ex_take1 hy).1 h).elim hb.2 (fun r => absurd r.1 (by simpa using h23))⟩⟩, cast (by kernel_rfl) (show i - ((j + 1 : Nat) : Int).toNat < i - (j : Int).toNat by omega)⟩
    · try simp only [NRM] at h8
      exact SX.VC_ret fun α W _ _ hS => SX.ret_of hS (x := .bool b) (by kernel_rfl) (by have hji2 : j = i := (by omega); subst hji2; congr 1; rw [Bool.eq_iff_iff, hb, decide_eq_true_eq]; exact ⟨fun h => .inr ⟨hall, h⟩, fun h => h.elim (fun h => by simp [h] at h5) (·.2)⟩)
def tree_replaced : SX.Tree :=
(.loop [(.k (.int .i64 0))] [.one] 
(.df (.len false) [(.x 0 [])] .one 
(.df (.bin .lss 3) [(.x 3 []), (.x 4 [])] .one 
(.br 5 [] 
(.df .bnd [(.x 0 []), (.x 3 [])] .one 
(.df .bnd [(.x 0 []), (.x 3 [])] .one 
(.df (.elem 9 2) [(.x 0 []), (.x 3 [])] .one 
(.df (.bin .add 3) [(.x 1 []), (.k (.int .i64 1))] .one 
(.df (.bin .eql 3) [(.x 8 []), (.x 9 [])] .one 
(.br 10 [] 
(.df .bnd [(.x 0 []), (.x 3 [])] .one 
(.df .bnd [(.x 0 []), (.x 3 [])] .one 
(.df (.elem 9 5) [(.x 0 []), (.x 3 [])] .one 
(.df (.bin .leq 3) [(.x 13 []), (.x 2 [])] .one 
(.br 14 [] 
(.ret (.k (.bool true)) [] []) 
(.df (.bin .add 3) [(.x 3 []), (.k (.int .i64 1))] .one 
(.again 0 [(.x 15 [])]))))))) 
(.df (.bin .add 3) [(.x 3 []), (.k (.int .i64 1))] .one 
(.again 0 [(.x 11 [])])))))))) 
(.ret (.k (.bool false)) [] [])))))
def args_replaced : List SX.V := [.x 0 [], .x 1 [], .x 2 []]
set_option maxRecDepth 100000 in
theorem run_replaced (K A : Value → Nat → List Value → Prop) : (SX.run (cx0 K A) ⟨fun f => true, [⟨40, 2, [(.s 7, .one)]⟩], 0, 100⟩ 100000 0 (SX.door 40 Try.f40 args_replaced [.one, .one, .one]) [.code (Try.f40.body.getD .skip), .top Try.f40]).strip = tree_replaced := by kernel_rfl
set_option maxRecDepth 100000 in
set_option maxHeartbeats 4000000 in
theorem replaced_any (ls : List Lim) (A : Option Addr) (n c : Nat) (no k : Int) (w : World) (hr : Rd w 9 A n (lmL ls)) (hn : n ≤ 9223372036854775807) (hc : n ≤ c) (hn0 : 0 ≤ no) (hn1 : no ≤ 1048576) : Calls Try.prog 40 #[.slice A n c, .int .i64 no, .int .i64 k] w fun e w' => e = .returned (.bool (decide (∃ y ∈ ls, y.of_ = no + 1 ∧ y.known ≤ k))) ∧ Below w.heap.size w w' := by
  refine SX.calls_of_run (C := cx0 (fun s sz cells => s = .slice A n c ∧ sz = 9 ∧ cells = lmL ls) (fun _ _ _ => False)) (G := ⟨fun f => true, [⟨40, 2, [(.s 7, .one)]⟩], 0, 100⟩) (args := args_replaced) (sh := [.one, .one, .one]) (ρ := [.slice A n c, .int .i64 no, .int .i64 k]) 100000 tree_replaced (cx0_ok _ _) Try.func40 rfl (run_replaced _ _) (by kernel_rfl) (by kernel_rfl) (by kernel_rfl) ?_ ?_
  · rintro W hW s sz cells ⟨rfl, rfl, rfl⟩; exact ⟨hr.same0 hW, hc⟩
  have hA := SX.rd_some hr
  have hln : ls.length = n := by have := hr.1; rw [lmL_len] at this; omega
  unfold tree_replaced
  refine SX.VC_loop (fun xs => ∃ (j : Nat), xs = [.int .i64 (j : Int)] ∧ j ≤ n ∧ ¬ ∃ y ∈ ls.take j, y.of_ = no + 1 ∧ y.known ≤ k) (fun xs => match xs with | [.int _ j] => n - j.toNat | _ => 0) (fun α => ⟨0, by kernel_rfl, by omega, by simp⟩) ?_
  rintro xs - ⟨j, rfl, hji, hno⟩
  refine SX.VC_df (.int .i64 (((n : Nat) : Int))) (by intro α; show _ = _; kernel_rfl) (by kernel_rfl) ?_
  refine SX.VC_df (.bool (decide (((j : Nat) : Int) < ((n : Nat) : Int)))) (by intro α; show _ = _; kernel_rfl) (by kernel_rfl) ?_
  refine SX.VC_br (decide (((j : Nat) : Int) < ((n : Nat) : Int))) (by kernel_rfl) (fun h5 => ?_) (fun h5 => ?_)
  · try simp only [NRM] at h5
    obtain ⟨y, hy⟩ : ∃ z, ls[j]? = some z := ⟨_, List.getElem?_eq_getElem (by omega)⟩
    refine SX.VC_df (.bool true) (fun α => SX.extBnd (A := A) (n := n) (c := c) (j := j) hA (by kernel_rfl) (by kernel_rfl) (by omega)) (by kernel_rfl) ?_
    refine SX.VC_df (.bool true) (fun α => SX.extBnd (A := A) (n := n) (c := c) (j := j) hA (by kernel_rfl) (by kernel_rfl) (by omega)) (by kernel_rfl) ?_
    refine SX.VC_df (.int .i64 y.of_) (fun α => SX.extElem (o := 2) (v := .int .i64 y.of_) (f := cellsLm) (l := ls) (A := A) (n := n) (c := c) (j := j) (z := y) (fun _ => rfl) hA (by kernel_rfl) (by kernel_rfl) (by omega) ⟨rfl, rfl, rfl⟩ hy (by decide) (by kernel_rfl)) (by kernel_rfl) ?_
    refine SX.VC_df (.int .i64 (no + 1)) (fun α => Eq.trans (b := some (.int .i64 (IntKind.i64.wrap (no + 1)))) (by kernel_rfl) (by rw [wrap_i64 (by omega) (by omega)])) (by kernel_rfl) ?_
    refine SX.VC_df (.bool ((y.of_ : Int) == no + 1)) (by intro α; show _ = _; kernel_rfl) (by kernel_rfl) ?_
    refine SX.VC_br ((y.of_ : Int) == no + 1) (by kernel_rfl) (fun h10 => ?_) (fun h10 => ?_)
    · try simp only [NRM] at h10
      refine SX.VC_df (.bool true) (fun α => SX.extBnd (A := A) (n := n) (c := c) (j := j) hA (by kernel_rfl) (by kernel_rfl) (by omega)) (by kernel_rfl) ?_
      refine SX.VC_df (.bool true) (fun α => SX.extBnd (A := A) (n := n) (c := c) (j := j) hA (by kernel_rfl) (by kernel_rfl) (by omega)) (by kernel_rfl) ?_
      refine SX.VC_df (.int .i64 y.known) (fun α => SX.extElem (o := 5) (v := .int .i64 y.known) (f := cellsLm) (l := ls) (A := A) (n := n) (c := c) (j := j) (z := y) (fun _ => rfl) hA (by kernel_rfl) (by kernel_rfl) (by omega) ⟨rfl, rfl, rfl⟩ hy (by decide) (by kernel_rfl)) (by kernel_rfl) ?_
      refine SX.VC_df (.bool (decide (y.known ≤ k))) (by intro α; show _ = _; kernel_rfl) (by kernel_rfl) ?_
      refine SX.VC_br (decide (y.known ≤ k)) (by kernel_rfl) (fun h14 => ?_) (fun h14 => ?_)
      · try simp only [NRM] at h14
        exact SX.VC_ret fun α W _ _ hS => SX.ret_of hS (x := .bool true) (by kernel_rfl) (by congr 1; symm; rw [decide_eq_true_eq]; exact ⟨y, List.mem_of_getElem? hy, by simpa using h10, by simpa using h14⟩)
      · try simp only [NRM] at h14
        refine SX.VC_df (.int .i64 (((j + 1 : Nat) : Int))) (fun α => Eq.trans (b := some (.int .i64 (IntKind.i64.wrap ((j : Int) + 1)))) (by kernel_rfl) (by rw [show ((j + 1 : Nat) : Int) = (j : Int) + 1 by omega, wrap_i64 (by omega) (by omega)])) (by kernel_rfl) ?_
        exact SX.VC_again fun α => ⟨⟨j + 1, by kernel_rfl, by omega, fun h => ((ex_take1 hy).1 h).elim hno (fun r => absurd r.2 (by simpa using h14))⟩, cast (by kernel_rfl) (show n - ((j + 1 : Nat) : Int).toNat < n - (j : Int).toNat by omega)⟩
    · try simp only [NRM] at h10
      refine SX.VC_df (.int .i64 (((j + 1 : Nat) : Int))) (fun α => Eq.trans (b := some (.int .i64 (IntKind.i64.wrap ((j : Int) + 1)))) (by kernel_rfl) (by rw [show ((j + 1 : Nat) : Int) = (j : Int) + 1 by omega, wrap_i64 (by omega) (by omega)])) (by kernel_rfl) ?_
      exact SX.VC_again fun α => ⟨⟨j + 1, by kernel_rfl, by omega, fun h => ((ex_take1 hy).1 h).elim hno (fun r => absurd r.1 (by simpa using h10))⟩, cast (by kernel_rfl) (show n - ((j + 1 : Nat) : Int).toNat < n - (j : Int).toNat by omega)⟩
  · try simp only [NRM] at h5
    exact SX.VC_ret fun α W _ _ hS => SX.ret_of hS (x := .bool false) (by kernel_rfl) (by rw [List.take_of_length_le (by omega)] at hno; congr 1; symm; rw [decide_eq_false_iff_not]; exact hno)
def tree_same : SX.Tree :=
(.df (.len false) [(.x 0 [])] .one 
(.df (.len false) [(.x 1 [])] .one 
(.df (.bin .neq 3) [(.x 2 []), (.x 3 [])] .one 
(.br 4 [] 
(.ret (.k (.bool false)) [] []) 
(.loop [(.k (.int .i64 0))] [.one] 
(.df (.len false) [(.x 0 [])] .one 
(.df (.bin .lss 3) [(.x 5 []), (.x 6 [])] .one 
(.br 7 [] 
(.df .bnd [(.x 0 []), (.x 5 [])] .one 
(.df (.elems 9 0 9) [(.x 0 []), (.x 5 [])] (.ag 9) 
(.df .bnd [(.x 1 []), (.x 5 [])] .one 
(.df (.elems 9 0 9) [(.x 1 []), (.x 5 [])] (.ag 9) 
(.df (.eqr true 9 [(.i .i64), (.i .i64), (.i .i64), (.i .i64), (.i .i64), (.i .i64), (.i .i64), (.i .i64), (.i .i64)]) [(.x 9 [0]), (.x 9 [1]), (.x 9 [2]), (.x 9 [3]), (.x 9 [4]), (.x 9 [5]), (.x 9 [6]), (.x 9 [7]), (.x 9 [8]), (.x 11 [0]), (.x 11 [1]), (.x 11 [2]), (.x 11 [3]), (.x 11 [4]), (.x 11 [5]), (.x 11 [6]), (.x 11 [7]), (.x 11 [8])] .one 
(.br 12 [] 
(.ret (.k (.bool false)) [] []) 
(.df (.bin .add 3) [(.x 5 []), (.k (.int .i64 1))] .one 
(.again 0 [(.x 13 [])])))))))) 
(.ret (.k (.bool true)) [] [])))))))))
def args_same : List SX.V := [.x 0 [], .x 1 []]
set_option maxRecDepth 100000 in
theorem run_same (K A : Value → Nat → List Value → Prop) : (SX.run (cx0 K A) ⟨fun f => true, [⟨16, 4, [(.s 5, .one)]⟩], 0, 100⟩ 100000 0 (SX.door 16 Try.f16 args_same [.one, .one]) [.code (Try.f16.body.getD .skip), .top Try.f16]).strip = tree_same := by kernel_rfl
set_option maxRecDepth 100000 in
set_option maxHeartbeats 4000000 in
theorem same_any (ls ms : List Lim) (A A' : Option Addr) (n c n' c' : Nat) (w : World) (hr : Rd w 9 A n (lmL ls)) (hn : n ≤ 9223372036854775807) (hc : n ≤ c) (hr' : Rd w 9 A' n' (lmL ms)) (hn' : n' ≤ 9223372036854775807) (hc' : n' ≤ c') : Calls Try.prog 16 #[.slice A n c, .slice A' n' c'] w fun e w' => e = .returned (.bool (decide (ls = ms))) ∧ Below w.heap.size w w' := by
  refine SX.calls_of_run (C := cx0 (fun s sz cells => (s = .slice A n c ∧ sz = 9 ∧ cells = lmL ls) ∨ (s = .slice A' n' c' ∧ sz = 9 ∧ cells = lmL ms)) (fun _ _ _ => False)) (G := ⟨fun f => true, [⟨16, 4, [(.s 5, .one)]⟩], 0, 100⟩) (args := args_same) (sh := [.one, .one]) (ρ := [.slice A n c, .slice A' n' c']) 100000 tree_same (cx0_ok _ _) Try.func16 rfl (run_same _ _) (by kernel_rfl) (by kernel_rfl) (by kernel_rfl) ?_ ?_
  · rintro W hW s sz cells (⟨rfl, rfl, rfl⟩ | ⟨rfl, rfl, rfl⟩)
    · exact ⟨hr.same0 hW, hc⟩
    · exact ⟨hr'.same0 hW, hc'⟩
  have hA := SX.rd_some hr
  have hln : ls.length = n := by have := hr.1; rw [lmL_len] at this; omega
  have hA' := SX.rd_some hr'
  have hln' : ms.length = n' := by have := hr'.1; rw [lmL_len] at this; omega
  unfold tree_same
  refine SX.VC_df (.int .i64 (((n : Nat) : Int))) (by intro α; show _ = _; kernel_rfl) (by kernel_rfl) ?_
  refine SX.VC_df (.int .i64 (((n' : Nat) : Int))) (by intro α; show _ = _; kernel_rfl) (by kernel_rfl) ?_
  refine SX.VC_df (.bool ((((n : Nat) : Int) : Int) != ((n' : Nat) : Int))) (by intro α; show _ = _; kernel_rfl) (by kernel_rfl) ?_
  refine SX.VC_br ((((n : Nat) : Int) : Int) != ((n' : Nat) : Int)) (by kernel_rfl) (fun h4 => ?_) (fun h4 => ?_)
  · try simp only [NRM] at h4
    exact SX.VC_ret fun α W _ _ hS => SX.ret_of hS (x := .bool false) (by kernel_rfl) (by congr 1; symm; first | (rw [decide_eq_false_iff_not]; rintro rfl; omega) | (rw [decide_eq_false_iff_not]; rintro rfl; rw [hy] at hz; cases hz; simp at h12) | (have hi : i = n := (by omega); subst hi; rw [List.take_of_length_le (by omega), List.take_of_length_le (by omega)] at htk; rw [decide_eq_true_eq]; exact htk))
  · try simp only [NRM] at h4
    refine SX.VC_loop (fun xs => ∃ i : Nat, xs = [.int .i64 (i : Int)] ∧ i ≤ n ∧ ls.take i = ms.take i) (fun xs => match xs with | [.int _ i] => n - i.toNat | _ => 0) (fun α => ⟨0, by kernel_rfl, by omega, by simp⟩) ?_
    rintro xs - ⟨i, rfl, hin, htk⟩
    refine SX.VC_df (.int .i64 (((n : Nat) : Int))) (by intro α; show _ = _; kernel_rfl) (by kernel_rfl) ?_
    refine SX.VC_df (.bool (decide (((i : Nat) : Int) < ((n : Nat) : Int)))) (by intro α; show _ = _; kernel_rfl) (by kernel_rfl) ?_
    refine SX.VC_br (decide (((i : Nat) : Int) < ((n : Nat) : Int))) (by kernel_rfl) (fun h7 => ?_) (fun h7 => ?_)
    · try simp only [NRM] at h7
      obtain ⟨y, hy⟩ : ∃ z, ls[i]? = some z := ⟨_, List.getElem?_eq_getElem (by omega)⟩
      obtain ⟨z, hz⟩ : ∃ z, ms[i]? = some z := ⟨_, List.getElem?_eq_getElem (by omega)⟩
      refine SX.VC_df (.bool true) (fun α => SX.extBnd (A := A) (n := n) (c := c) (j := i) hA (by kernel_rfl) (by kernel_rfl) (by omega)) (by kernel_rfl) ?_
      refine SX.VC_df (.agg (cellsLm y).toArray) (fun α => SX.extElems (f := cellsLm) (l := ls) (A := A) (n := n) (c := c) (j := i) (z := y) (fun _ => rfl) hA (by kernel_rfl) (by kernel_rfl) (by omega) (.inl ⟨rfl, rfl, rfl⟩) hy) (by kernel_rfl) ?_
      refine SX.VC_df (.bool true) (fun α => SX.extBnd (A := A') (n := n') (c := c') (j := i) hA' (by kernel_rfl) (by kernel_rfl) (by omega)) (by kernel_rfl) ?_
      refine SX.VC_df (.agg (cellsLm z).toArray) (fun α => SX.extElems (f := cellsLm) (l := ms) (A := A') (n := n') (c := c') (j := i) (z := z) (fun _ => rfl) hA' (by kernel_rfl) (by kernel_rfl) (by omega) (.inr ⟨rfl, rfl, rfl⟩) hz) (by kernel_rfl) ?_
      refine SX.VC_df (.bool (true ^^ decide (y = z))) (fun α => SX.eqr_rel (f := cellsLm) cellsLm_inj (y := y) (z := z) (by kernel_rfl) (by kernel_rfl) (by kernel_rfl)) (by kernel_rfl) ?_
      refine SX.VC_br (true ^^ decide (y = z)) (by kernel_rfl) (fun h12 => ?_) (fun h12 => ?_)
      · try simp only [NRM] at h12
        exact SX.VC_ret fun α W _ _ hS => SX.ret_of hS (x := .bool false) (by kernel_rfl) (by congr 1; symm; first | (rw [decide_eq_false_iff_not]; rintro rfl; omega) | (rw [decide_eq_false_iff_not]; rintro rfl; rw [hy] at hz; cases hz; simp at h12) | (have hi : i = n := (by omega); subst hi; rw [List.take_of_length_le (by omega), List.take_of_length_le (by omega)] at htk; rw [decide_eq_true_eq]; exact htk))
      · try simp only [NRM] at h12
        refine SX.VC_df (.int .i64 (((i + 1 : Nat) : Int))) (fun α => Eq.trans (b := some (.int .i64 (IntKind.i64.wrap ((i : Int) + 1)))) (by kernel_rfl) (by rw [show ((i + 1 : Nat) : Int) = (i : Int) + 1 by omega, wrap_i64 (by omega) (by omega)])) (by kernel_rfl) ?_
        exact SX.VC_again fun α => ⟨⟨i + 1, by kernel_rfl, by omega, by rw [List.take_add_one, List.take_add_one, htk, hy, hz, h12]⟩, cast (by kernel_rfl) (show n - ((i + 1 : Nat) : Int).toNat < n - (i : Int).toNat by omega)⟩
    · try simp only [NRM] at h7
      exact SX.VC_ret fun α W _ _ hS => SX.ret_of hS (x := .bool true) (by kernel_rfl) (by congr 1; symm; first | (rw [decide_eq_false_iff_not]; rintro rfl; omega) | (rw [decide_eq_false_iff_not]; rintro rfl; rw [hy] at hz; cases hz; simp at h12) | (have hi : i = n := (by omega); subst hi; rw [List.take_of_length_le (by omega), List.take_of_length_le (by omega)] at htk; rw [decide_eq_true_eq]; exact htk))
end Go.Proofs.Ytmkigejhgpoleaa
