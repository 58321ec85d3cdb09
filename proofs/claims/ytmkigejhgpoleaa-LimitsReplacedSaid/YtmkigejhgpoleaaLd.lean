/-
  The form of limits in the program.
-/
import Derived.Test.YtmkigejhgpoleaaLc
namespace Go.Proofs.Ytmkigejhgpoleaa
set_option linter.unusedSimpArgs false
set_option linter.unusedVariables false
open Go Go.RowKit
theorem getM_putM {i q : Int} {xs : List Value} : ∀ {l : List (Int × List Value)}, getM (putM l i xs) q = if q = i then some xs else getM l q := by
  intro l
  induction l with
  | nil =>
    simp only [putM, getM, List.find?]
    by_cases h : q = i
    · simp [h]
    · have h3 : (i == q) = false := by simpa using fun e => h e.symm
      simp [h, h3]
  | cons e l ih =>
    simp only [putM]
    by_cases h : e.1 = i
    · rw [if_pos h]
      simp only [getM, List.find?]
      by_cases h2 : q = i
      · simp [h2]
      · have h3 : (i == q) = false := by simpa using fun e => h2 e.symm
        simp [h2, h3, h]
    · rw [if_neg h]
      unfold getM at ih ⊢
      simp only [List.find?]
      by_cases h2 : e.1 = q
      · have h3 : ¬ q = i := fun e' => h (h2.trans e')
        simp [h2, h3]
      · have h3 : (e.1 == q) = false := by simpa using h2
        rw [h3]
        exact ih
def fitLm (ls : List Lim) : Prop := ∀ z ∈ ls, -9223372036854775808 ≤ z.of_ ∧ z.of_ ≤ 9223372036854775807
def InvL (ls : List Lim) (i : Nat) (last : Int) (lk lr : List (Int × List Value)) : Prop :=
  okTo ls i ∧ (∀ v, last < v ↔ 0 ≤ v ∧ ∀ y ∈ ls.take i, y.no < v) ∧ (∀ e ∈ lk, e.2.length = 9) ∧ (∀ e ∈ lr, e.2.length = 1) ∧ (∀ q cs, getM lk q = some cs ↔ ∃ y ∈ ls.take i, y.no = q ∧ cs = cellsLm y) ∧ (∀ q cs, getM lr q = some cs ↔ cs = [.bool true] ∧ ∃ y ∈ ls.take i, y.of_ = q)
theorem invL_zero (ls : List Lim) : InvL ls 0 (-1) [] [] := ⟨okTo_zero ls, fun v => by simp; omega, by simp, by simp, fun q cs => by simp [getM], fun q cs => by simp [getM]⟩
theorem invL_succ {ls : List Lim} {i : Nat} {last : Int} {lk lr : List (Int × List Value)} {z : Lim} (h : InvL ls i last lk lr) (hz : ls[i]? = some z) (ha : okAt ls i z) : InvL ls (i + 1) z.no (putM lk z.no (cellsLm z)) (putM lr z.of_ [.bool true]) := by
  obtain ⟨h1, h2, h3, h4, h5, h6⟩ := h
  have h0 := (elemOk_iff.1 ha.1).1
  refine ⟨okTo_succ h1 hz ha, fun v => ?_, Go.Proofs.Ytmkigejhgpoleaa.putM_all rfl h3, Go.Proofs.Ytmkigejhgpoleaa.putM_all rfl h4, fun q cs => ?_, fun q cs => ?_⟩
  · rw [all_take1 hz]
    exact ⟨fun h => ⟨by omega, fun y hy => by have := ha.2.1 y hy; omega, h⟩, fun h => h.2.2⟩
  · rw [getM_putM, ex_take1 hz]
    by_cases hq : q = z.no
    · rw [if_pos hq]
      constructor
      · intro h; exact .inr ⟨hq.symm, (Option.some.inj h).symm⟩
      · rintro (⟨y, hy, hyq, -⟩ | ⟨-, h⟩)
        · exact absurd (ha.2.1 y hy) (by omega)
        · rw [h]
    · rw [if_neg hq, h5]
      exact ⟨.inl, fun h => h.elim id fun h => absurd h.1.symm hq⟩
  · rw [getM_putM, ex_take1 hz]
    by_cases hq : q = z.of_
    · rw [if_pos hq]
      exact ⟨fun h => ⟨(Option.some.inj h).symm, .inr hq.symm⟩, fun h => by rw [h.1]⟩
    · rw [if_neg hq, h6]
      exact ⟨fun h => ⟨h.1, .inl h.2⟩, fun h => ⟨h.1, h.2.elim id fun h => absurd h.symm hq⟩⟩
theorem uniqL {ls : List Lim} {i : Nat} (h : okTo ls i) {y y' : Lim} (hy : y ∈ ls.take i) (hy' : y' ∈ ls.take i) (he : y.no = y'.no) : y = y' := by
  obtain ⟨j, hj, hy⟩ := take_memI hy
  obtain ⟨k, hk, hy'⟩ := take_memI hy'
  rcases Nat.lt_trichotomy j k with hjk | hjk | hjk
  · have := (h k y' hk hy').2.1 y (mem_takeI hy hjk); omega
  · subst hjk; rw [hy] at hy'; exact Option.some.inj hy'
  · have := (h j y hj hy).2.1 y' (mem_takeI hy' hjk); omega
theorem wrapOf {a b : Int} (h1 : -9223372036854775808 ≤ a) (h2 : a ≤ 9223372036854775807) (h3 : 0 ≤ b) (h4 : b ≤ 1048576) : b = IntKind.i64.wrap (a - 1) ↔ b + 1 = a := by
  by_cases h : a = -9223372036854775808
  · subst h
    have : IntKind.i64.wrap (-9223372036854775808 - 1) = 9223372036854775807 := by decide
    rw [this]; omega
  · rw [wrap_i64 (by omega) (by omega)]; omega
def zeroLm : Lim := ⟨0, 0, 0, 0, 0, 0, 0, 0, 0⟩
/-- what a look at the known limits finds -/
theorem look_known {ls : List Lim} {i : Nat} {last : Int} {lk lr : List (Int × List Value)} (h : InvL ls i last lk lr) (q : Int) : ∃ (y : Lim) (b : Bool), Value.tuple #[.agg #[.int .i64 y.no, .int .i64 y.person, .int .i64 y.of_, .int .i64 y.from_, .int .i64 y.to_, .int .i64 y.known, .int .i64 y.kind, .int .i64 y.limb, .int .i64 y.n], .bool b] = (match getM lk q with
    | some cs => if true then .tuple #[elV true cs, .bool true] else elV true cs
    | none => if true then .tuple #[.agg #[.int .i64 0, .int .i64 0, .int .i64 0, .int .i64 0, .int .i64 0, .int .i64 0, .int .i64 0, .int .i64 0, .int .i64 0], .bool false] else .agg #[.int .i64 0, .int .i64 0, .int .i64 0, .int .i64 0, .int .i64 0, .int .i64 0, .int .i64 0, .int .i64 0, .int .i64 0]) ∧ (b = true → y ∈ ls.take i ∧ y.no = q) ∧ (b = false → ∀ y' ∈ ls.take i, y'.no ≠ q) := by
  cases hg : getM lk q with
  | none => exact ⟨zeroLm, false, rfl, nofun, fun _ y' hy' he => by have := (h.2.2.2.2.1 q (cellsLm y')).2 ⟨y', hy', he, rfl⟩; rw [hg] at this; cases this⟩
  | some cs =>
    obtain ⟨y, hy, he, rfl⟩ := (h.2.2.2.2.1 q cs).1 hg
    exact ⟨y, true, rfl, fun _ => ⟨hy, he⟩, nofun⟩
theorem look_repl {ls : List Lim} {i : Nat} {last : Int} {lk lr : List (Int × List Value)} (h : InvL ls i last lk lr) (q : Int) : ∃ b : Bool, Value.bool b = (match getM lr q with
    | some cs => if false then .tuple #[elV false cs, .bool true] else elV false cs
    | none => if false then .tuple #[.bool false, .bool false] else .bool false) ∧ (b = true ↔ ∃ y ∈ ls.take i, y.of_ = q) := by
  cases hg : getM lr q with
  | none => exact ⟨false, rfl, nofun, fun h' => by have := (h.2.2.2.2.2 q [.bool true]).2 ⟨rfl, h'⟩; rw [hg] at this; cases this⟩
  | some cs =>
    obtain ⟨rfl, h'⟩ := (h.2.2.2.2.2 q cs).1 hg
    exact ⟨true, rfl, fun _ => h', fun _ => rfl⟩
def tree_lCheck : SX.Tree :=
(.df (.len false) [(.x 0 [])] .one 
(.df (.bin .gtr 3) [(.x 1 []), (.k (.int .i64 512))] .one 
(.br 2 [] 
(.ret (.k (.int .i64 2)) [] []) 
(.df (.len false) [(.x 0 [])] .one 
(.loop [(.k (.int .i64 0)), (.k (.int .i64 (-1))), (.a []), (.a [])] [.one, .one, .any, .any] 
(.df (.bin .lss 3) [(.x 4 []), (.x 3 [])] .one 
(.br 8 [] 
(.df .bnd [(.x 0 []), (.x 4 [])] .one 
(.df (.elems 9 0 9) [(.x 0 []), (.x 4 [])] (.ag 9) 
(.df (.bin .sub 3) [(.x 10 [2]), (.k (.int .i64 1))] .one 
(.df (.mlk true .i64 9 true (.agg #[(.int .i64 0), (.int .i64 0), (.int .i64 0), (.int .i64 0), (.int .i64 0), (.int .i64 0), (.int .i64 0), (.int .i64 0), (.int .i64 0)])) [(.cat [(.x 6 [])]), (.x 11 [])] (.tp [(.ag 9), .one]) 
(.df (.bin .leq 3) [(.x 10 [0]), (.x 5 [])] .one 
(.br 13 [] 
(.ret (.k (.int .i64 340)) [] []) 
(.df (.bin .gtr 3) [(.x 10 [0]), (.k (.int .i64 1048576))] .one 
(.br 14 [] 
(.ret (.k (.int .i64 340)) [] []) 
(.df (.bin .leq 3) [(.k (.int .i64 0)), (.x 10 [1])] .one 
(.br 15 [] 
(.df (.bin .leq 3) [(.x 10 [1]), (.k (.int .i64 63))] .one 
(.df .not [(.x 16 [])] .one 
(.br 17 [] 
(.ret (.k (.int .i64 340)) [] []) 
(.df (.bin .lss 3) [(.x 10 [3]), (.k (.int .i64 0))] .one 
(.br 18 [] 
(.ret (.k (.int .i64 340)) [] []) 
(.df (.bin .gtr 3) [(.x 10 [3]), (.x 10 [4])] .one 
(.br 19 [] 
(.ret (.k (.int .i64 340)) [] []) 
(.df (.bin .gtr 3) [(.x 10 [4]), (.k (.int .i64 73048))] .one 
(.br 20 [] 
(.ret (.k (.int .i64 340)) [] []) 
(.df (.bin .leq 3) [(.k (.int .i64 0)), (.x 10 [5])] .one 
(.br 21 [] 
(.df (.bin .leq 3) [(.x 10 [5]), (.k (.int .i64 134217727))] .one 
(.df .not [(.x 22 [])] .one 
(.br 23 [] 
(.ret (.k (.int .i64 340)) [] []) 
(.df (.call 33 [.no]) [(.a [(.x 10 [6]), (.x 10 [7]), (.x 10 [8])])] .one 
(.df .not [(.x 24 [])] .one 
(.br 25 [] 
(.df (.eqr true 3 [(.i .i64), (.i .i64), (.i .i64)]) [(.x 10 [6]), (.x 10 [7]), (.x 10 [8]), (.k (.int .i64 0)), (.k (.int .i64 0)), (.k (.int .i64 0))] .one 
(.br 26 [] 
(.ret (.k (.int .i64 340)) [] []) 
(.df (.bin .eql 3) [(.x 10 [2]), (.k (.int .i64 0))] .one 
(.br 27 [] 
(.ret (.k (.int .i64 340)) [] []) 
(.df (.bin .neq 3) [(.x 10 [2]), (.k (.int .i64 0))] .one 
(.br 28 [] 
(.df .not [(.x 12 [1])] .one 
(.br 29 [] 
(.ret (.k (.int .i64 340)) [] []) 
(.df (.mlk false .i64 1 false (.bool false)) [(.cat [(.x 7 [])]), (.x 10 [2])] .one 
(.br 30 [] 
(.ret (.k (.int .i64 340)) [] []) 
(.df (.bin .neq 3) [(.x 12 [0, 1]), (.x 10 [1])] .one 
(.br 31 [] 
(.ret (.k (.int .i64 340)) [] []) 
(.df (.bin .gtr 3) [(.x 12 [0, 5]), (.x 10 [5])] .one 
(.br 32 [] 
(.ret (.k (.int .i64 340)) [] []) 
(.df (.mset .i64 9 true) [(.cat [(.x 6 [])]), (.x 10 [0]), (.x 10 [0]), (.x 10 [1]), (.x 10 [2]), (.x 10 [3]), (.x 10 [4]), (.x 10 [5]), (.x 10 [6]), (.x 10 [7]), (.x 10 [8])] .any 
(.df (.mset .i64 1 false) [(.cat [(.x 7 [])]), (.x 10 [2]), (.k (.bool true))] .any 
(.df (.bin .add 3) [(.x 4 []), (.k (.int .i64 1))] .one 
(.again 0 [(.x 35 []), (.x 10 [0]), (.x 33 []), (.x 34 [])])))))))))))) 
(.df (.mset .i64 9 true) [(.cat [(.x 6 [])]), (.x 10 [0]), (.x 10 [0]), (.x 10 [1]), (.x 10 [2]), (.x 10 [3]), (.x 10 [4]), (.x 10 [5]), (.x 10 [6]), (.x 10 [7]), (.x 10 [8])] .any 
(.df (.mset .i64 1 false) [(.cat [(.x 7 [])]), (.x 10 [2]), (.k (.bool true))] .any 
(.df (.bin .add 3) [(.x 4 []), (.k (.int .i64 1))] .one 
(.again 0 [(.x 31 []), (.x 10 [0]), (.x 29 []), (.x 30 [])])))))))))) 
(.df (.bin .neq 3) [(.x 10 [2]), (.k (.int .i64 0))] .one 
(.br 26 [] 
(.df .not [(.x 12 [1])] .one 
(.br 27 [] 
(.ret (.k (.int .i64 340)) [] []) 
(.df (.mlk false .i64 1 false (.bool false)) [(.cat [(.x 7 [])]), (.x 10 [2])] .one 
(.br 28 [] 
(.ret (.k (.int .i64 340)) [] []) 
(.df (.bin .neq 3) [(.x 12 [0, 1]), (.x 10 [1])] .one 
(.br 29 [] 
(.ret (.k (.int .i64 340)) [] []) 
(.df (.bin .gtr 3) [(.x 12 [0, 5]), (.x 10 [5])] .one 
(.br 30 [] 
(.ret (.k (.int .i64 340)) [] []) 
(.df (.mset .i64 9 true) [(.cat [(.x 6 [])]), (.x 10 [0]), (.x 10 [0]), (.x 10 [1]), (.x 10 [2]), (.x 10 [3]), (.x 10 [4]), (.x 10 [5]), (.x 10 [6]), (.x 10 [7]), (.x 10 [8])] .any 
(.df (.mset .i64 1 false) [(.cat [(.x 7 [])]), (.x 10 [2]), (.k (.bool true))] .any 
(.df (.bin .add 3) [(.x 4 []), (.k (.int .i64 1))] .one 
(.again 0 [(.x 33 []), (.x 10 [0]), (.x 31 []), (.x 32 [])])))))))))))) 
(.df (.mset .i64 9 true) [(.cat [(.x 6 [])]), (.x 10 [0]), (.x 10 [0]), (.x 10 [1]), (.x 10 [2]), (.x 10 [3]), (.x 10 [4]), (.x 10 [5]), (.x 10 [6]), (.x 10 [7]), (.x 10 [8])] .any 
(.df (.mset .i64 1 false) [(.cat [(.x 7 [])]), (.x 10 [2]), (.k (.bool true))] .any 
(.df (.bin .add 3) [(.x 4 []), (.k (.int .i64 1))] .one 
(.again 0 [(.x 29 []), (.x 10 [0]), (.x 27 []), (.x 28 [])])))))))))))) 
(.ret (.k (.int .i64 340)) [] [])))))))))))) 
(.ret (.k (.int .i64 340)) [] []))))))))))) 
(.ret (.k (.int .i64 0)) [] []))))))))
def args_lCheck : List SX.V := [.x 0 []]
set_option maxRecDepth 100000 in
theorem run_lCheck (K A : Value → Nat → List Value → Prop) : (SX.run (cxL0 K A) ⟨fun f => true, [⟨14, 7, [(.s 19, .one), (.c 3 0, .one), (.c 0 0, .any), (.c 1 0, .any)]⟩], 0, 100⟩ 100000 0 (SX.door 14 Try.f14 args_lCheck [.any]) [.code (Try.f14.body.getD .skip), .top Try.f14]).strip = tree_lCheck := by kernel_rfl
set_option maxRecDepth 100000 in
set_option maxHeartbeats 4000000 in
theorem lCheck_any (ls : List Lim) (A : Option Addr) (n c : Nat) (w : World) (hr : Rd w 9 A n (lmL ls)) (hn : n ≤ 9223372036854775807) (hc : n ≤ c) (hfit : fitLm ls) : Calls Try.prog 14 #[.slice A n c] w fun e w' => e = .returned (.int .i64 (chkL ls)) ∧ Below w.heap.size w w' := by
  refine SX.calls_of_run (C := cxL0 (fun s sz cells => s = .slice A n c ∧ sz = 9 ∧ cells = lmL ls) (fun _ _ _ => False)) (G := ⟨fun f => true, [⟨14, 7, [(.s 19, .one), (.c 3 0, .one), (.c 0 0, .any), (.c 1 0, .any)]⟩], 0, 100⟩) (args := args_lCheck) (sh := [.any]) (ρ := [.slice A n c]) 100000 tree_lCheck (okL0 _ _) Try.func14 rfl (run_lCheck _ _) (by kernel_rfl) (by kernel_rfl) (by kernel_rfl) ?_ ?_
  · rintro W hW s sz cells ⟨rfl, rfl, rfl⟩; exact ⟨hr.same0 hW, hc⟩
  have hA := SX.rd_some hr
  have hln : ls.length = n := by have := hr.1; rw [lmL_len] at this; omega
  unfold tree_lCheck
  refine SX.VC_df (.int .i64 (((n : Nat) : Int))) (by intro α; show _ = _; kernel_rfl) (by kernel_rfl) ?_
  refine SX.VC_df (.bool (decide (((n : Nat) : Int) > 512))) (by intro α; show _ = _; kernel_rfl) (by kernel_rfl) ?_
  refine SX.VC_br (decide (((n : Nat) : Int) > 512)) (by kernel_rfl) (fun h2 => ?_) (fun h2 => ?_)
  · try simp only [NRM] at h2
    exact SX.VC_ret fun α W _ _ hS => SX.ret_of hS (x := .int .i64 2) (by kernel_rfl) (by rw [chkL, if_pos (by omega)])
  · try simp only [NRM] at h2
    refine SX.VC_df (.int .i64 (((n : Nat) : Int))) (by intro α; show _ = _; kernel_rfl) (by kernel_rfl) ?_
    refine SX.VC_loop (fun xs => ∃ (i : Nat) (last : Int) (lk lr : List (Int × List Value)), xs = [.int .i64 (i : Int), .int .i64 last, .agg (lk.flatMap (mCells .i64)).toArray, .agg (lr.flatMap (mCells .i64)).toArray] ∧ i ≤ n ∧ InvL ls i last lk lr) (fun xs => match xs with | (.int _ i) :: _ => n - i.toNat | _ => 0) (fun α => ⟨0, -1, [], [], by kernel_rfl, by omega, invL_zero ls⟩) ?_
    rintro xs - ⟨i, last, lk, lr, rfl, hin, hI⟩
    refine SX.VC_df (.bool (decide (((i : Nat) : Int) < ((n : Nat) : Int)))) (by intro α; show _ = _; kernel_rfl) (by kernel_rfl) ?_
    refine SX.VC_br (decide (((i : Nat) : Int) < ((n : Nat) : Int))) (by kernel_rfl) (fun h8 => ?_) (fun h8 => ?_)
    · try simp only [NRM] at h8
      obtain ⟨z, hz⟩ : ∃ z, ls[i]? = some z := ⟨_, List.getElem?_eq_getElem (by omega)⟩
      refine SX.VC_df (.bool true) (fun α => SX.extBnd (A := A) (n := n) (c := c) (j := i) hA (by kernel_rfl) (by kernel_rfl) (by omega)) (by kernel_rfl) ?_
      refine SX.VC_df (.agg (cellsLm z).toArray) (fun α => SX.extElems (f := cellsLm) (l := ls) (A := A) (n := n) (c := c) (j := i) (z := z) (fun _ => rfl) hA (by kernel_rfl) (by kernel_rfl) (by omega) ⟨rfl, rfl, rfl⟩ hz) (by kernel_rfl) ?_
      obtain ⟨y, fd, hlook, hf1, hf2⟩ := look_known hI (IntKind.i64.wrap (z.of_ - 1))
      obtain ⟨rp, hlr, hrep⟩ := look_repl hI z.of_
      have hzf := hfit z (List.mem_of_getElem? hz)
      have hno : ∀ y' ∈ ls.take i, 0 ≤ y'.no ∧ y'.no ≤ 1048576 := fun y' hy' => by obtain ⟨j, hj, hy'⟩ := take_memI hy'; exact (elemOk_iff.1 (hI.1 j y' hj hy').1).1
      refine SX.VC_df (.int .i64 (IntKind.i64.wrap (z.of_ - 1))) (by intro α; show _ = _; kernel_rfl) (by kernel_rfl) ?_
      refine SX.VC_df (.tuple #[.agg #[.int .i64 y.no, .int .i64 y.person, .int .i64 y.of_, .int .i64 y.from_, .int .i64 y.to_, .int .i64 y.known, .int .i64 y.kind, .int .i64 y.limb, .int .i64 y.n], .bool fd]) (fun α => ⟨lk, IntKind.i64.wrap (z.of_ - 1), SX.cat1 (by kernel_rfl), hI.2.2.1, by kernel_rfl, hlook⟩) (by kernel_rfl) ?_
      refine SX.VC_df (.bool (decide (z.no ≤ last))) (by intro α; show _ = _; kernel_rfl) (by kernel_rfl) ?_
      refine SX.VC_br (decide (z.no ≤ last)) (by kernel_rfl) (fun h13 => ?_) (fun h13 => ?_)
      · try simp only [NRM] at h13
        exact SX.VC_ret fun α W _ _ hS => SX.ret_of hS (x := .int .i64 340) (by kernel_rfl) (by rw [chkL, if_neg (by omega), if_neg (not_ok hz fun hk => by
          have ⟨hk1, hk2, hk3, hk4, hk5, hk6⟩ := elemOk_iff.1 hk.1; have q := (hI.2.1 z.no).2 ⟨by omega, hk.2.1⟩; omega)])
      · try simp only [NRM] at h13
        refine SX.VC_df (.bool (decide (z.no > 1048576))) (by intro α; show _ = _; kernel_rfl) (by kernel_rfl) ?_
        refine SX.VC_br (decide (z.no > 1048576)) (by kernel_rfl) (fun h14 => ?_) (fun h14 => ?_)
        · try simp only [NRM] at h14
          exact SX.VC_ret fun α W _ _ hS => SX.ret_of hS (x := .int .i64 340) (by kernel_rfl) (by rw [chkL, if_neg (by omega), if_neg (not_ok hz fun hk => by
            have ⟨hk1, hk2, hk3, hk4, hk5, hk6⟩ := elemOk_iff.1 hk.1; omega)])
        · try simp only [NRM] at h14
          refine SX.VC_df (.bool (decide (0 ≤ z.person))) (by intro α; show _ = _; kernel_rfl) (by kernel_rfl) ?_
          refine SX.VC_br (decide (0 ≤ z.person)) (by kernel_rfl) (fun h15 => ?_) (fun h15 => ?_)
          · try simp only [NRM] at h15
            refine SX.VC_df (.bool (decide (z.person ≤ 63))) (by intro α; show _ = _; kernel_rfl) (by kernel_rfl) ?_
            refine SX.VC_df (.bool (!(decide (z.person ≤ 63)))) (by intro α; show _ = _; kernel_rfl) (by kernel_rfl) ?_
            refine SX.VC_br (!(decide (z.person ≤ 63))) (by kernel_rfl) (fun h17 => ?_) (fun h17 => ?_)
            · try simp only [NRM] at h17
              exact SX.VC_ret fun α W _ _ hS => SX.ret_of hS (x := .int .i64 340) (by kernel_rfl) (by rw [chkL, if_neg (by omega), if_neg (not_ok hz fun hk => by
                have ⟨hk1, hk2, hk3, hk4, hk5, hk6⟩ := elemOk_iff.1 hk.1; have q := h17; (try simp at q); omega)])
            · try simp only [NRM] at h17
              refine SX.VC_df (.bool (decide (z.from_ < 0))) (by intro α; show _ = _; kernel_rfl) (by kernel_rfl) ?_
              refine SX.VC_br (decide (z.from_ < 0)) (by kernel_rfl) (fun h18 => ?_) (fun h18 => ?_)
              · try simp only [NRM] at h18
                exact SX.VC_ret fun α W _ _ hS => SX.ret_of hS (x := .int .i64 340) (by kernel_rfl) (by rw [chkL, if_neg (by omega), if_neg (not_ok hz fun hk => by
                  have ⟨hk1, hk2, hk3, hk4, hk5, hk6⟩ := elemOk_iff.1 hk.1; omega)])
              · try simp only [NRM] at h18
                refine SX.VC_df (.bool (decide (z.from_ > z.to_))) (by intro α; show _ = _; kernel_rfl) (by kernel_rfl) ?_
                refine SX.VC_br (decide (z.from_ > z.to_)) (by kernel_rfl) (fun h19 => ?_) (fun h19 => ?_)
                · try simp only [NRM] at h19
                  exact SX.VC_ret fun α W _ _ hS => SX.ret_of hS (x := .int .i64 340) (by kernel_rfl) (by rw [chkL, if_neg (by omega), if_neg (not_ok hz fun hk => by
                    have ⟨hk1, hk2, hk3, hk4, hk5, hk6⟩ := elemOk_iff.1 hk.1; omega)])
                · try simp only [NRM] at h19
                  refine SX.VC_df (.bool (decide (z.to_ > 73048))) (by intro α; show _ = _; kernel_rfl) (by kernel_rfl) ?_
                  refine SX.VC_br (decide (z.to_ > 73048)) (by kernel_rfl) (fun h20 => ?_) (fun h20 => ?_)
                  · try simp only [NRM] at h20
                    exact SX.VC_ret fun α W _ _ hS => SX.ret_of hS (x := .int .i64 340) (by kernel_rfl) (by rw [chkL, if_neg (by omega), if_neg (not_ok hz fun hk => by
                      have ⟨hk1, hk2, hk3, hk4, hk5, hk6⟩ := elemOk_iff.1 hk.1; omega)])
                  · try simp only [NRM] at h20
                    refine SX.VC_df (.bool (decide (0 ≤ z.known))) (by intro α; show _ = _; kernel_rfl) (by kernel_rfl) ?_
                    refine SX.VC_br (decide (0 ≤ z.known)) (by kernel_rfl) (fun h21 => ?_) (fun h21 => ?_)
                    · try simp only [NRM] at h21
                      refine SX.VC_df (.bool (decide (z.known ≤ 134217727))) (by intro α; show _ = _; kernel_rfl) (by kernel_rfl) ?_
                      refine SX.VC_df (.bool (!(decide (z.known ≤ 134217727)))) (by intro α; show _ = _; kernel_rfl) (by kernel_rfl) ?_
                      refine SX.VC_br (!(decide (z.known ≤ 134217727))) (by kernel_rfl) (fun h23 => ?_) (fun h23 => ?_)
                      · try simp only [NRM] at h23
                        exact SX.VC_ret fun α W _ _ hS => SX.ret_of hS (x := .int .i64 340) (by kernel_rfl) (by rw [chkL, if_neg (by omega), if_neg (not_ok hz fun hk => by
                          have ⟨hk1, hk2, hk3, hk4, hk5, hk6⟩ := elemOk_iff.1 hk.1; have q := h23; (try simp at q); omega)])
                      · try simp only [NRM] at h23
                        refine SX.VC_df (.bool (decide (capOk z.kind z.limb z.n))) (fun α => ⟨[⟨.agg #[.int .i64 z.kind, .int .i64 z.limb, .int .i64 z.n], 0, []⟩], ⟨by kernel_rfl, by kernel_rfl, trivial⟩, .inr (.inr (.inl ⟨rfl, _, _, _, rfl, rfl⟩)), SX.noAli rfl⟩) (by kernel_rfl) ?_
                        refine SX.VC_df (.bool (!(decide (capOk z.kind z.limb z.n)))) (by intro α; show _ = _; kernel_rfl) (by kernel_rfl) ?_
                        refine SX.VC_br (!(decide (capOk z.kind z.limb z.n))) (by kernel_rfl) (fun h25 => ?_) (fun h25 => ?_)
                        · try simp only [NRM] at h25
                          refine SX.VC_df (.bool (true ^^ decide ((z.kind, z.limb, z.n) = ((0 : Int), (0 : Int), (0 : Int))))) (fun α => SX.eqr_rel (f := cellsCap) cellsCap_inj (y := (z.kind, z.limb, z.n)) (z := ((0 : Int), (0 : Int), (0 : Int))) (by kernel_rfl) (by kernel_rfl) (by kernel_rfl)) (by kernel_rfl) ?_
                          refine SX.VC_br (true ^^ decide ((z.kind, z.limb, z.n) = ((0 : Int), (0 : Int), (0 : Int)))) (by kernel_rfl) (fun h26 => ?_) (fun h26 => ?_)
                          · try simp only [NRM] at h26
                            exact SX.VC_ret fun α W _ _ hS => SX.ret_of hS (x := .int .i64 340) (by kernel_rfl) (by rw [chkL, if_neg (by omega), if_neg (not_ok hz fun hk => by
                              have ⟨hk1, hk2, hk3, hk4, hk5, hk6⟩ := elemOk_iff.1 hk.1; exact hk6.elim (fun h => by have q := h25; simp [h] at q) (fun h => by have q := h26; simp [h.1, h.2.1, h.2.2.1] at q))])
                          · try simp only [NRM] at h26
                            refine SX.VC_df (.bool ((z.of_ : Int) == 0)) (by intro α; show _ = _; kernel_rfl) (by kernel_rfl) ?_
                            refine SX.VC_br ((z.of_ : Int) == 0) (by kernel_rfl) (fun h27 => ?_) (fun h27 => ?_)
                            · try simp only [NRM] at h27
                              exact SX.VC_ret fun α W _ _ hS => SX.ret_of hS (x := .int .i64 340) (by kernel_rfl) (by rw [chkL, if_neg (by omega), if_neg (not_ok hz fun hk => by
                                have ⟨hk1, hk2, hk3, hk4, hk5, hk6⟩ := elemOk_iff.1 hk.1; exact hk6.elim (fun h => by have q := h25; simp [h] at q) (fun h => h.2.2.2 (by simpa using h27)))])
                            · try simp only [NRM] at h27
                              refine SX.VC_df (.bool ((z.of_ : Int) != 0)) (by intro α; show _ = _; kernel_rfl) (by kernel_rfl) ?_
                              refine SX.VC_br ((z.of_ : Int) != 0) (by kernel_rfl) (fun h28 => ?_) (fun h28 => ?_)
                              · try simp only [NRM] at h28
                                refine SX.VC_df (.bool (!(fd))) (by intro α; show _ = _; kernel_rfl) (by kernel_rfl) ?_
                                refine SX.VC_br (!(fd)) (by kernel_rfl) (fun h29 => ?_) (fun h29 => ?_)
                                · try simp only [NRM] at h29
                                  exact SX.VC_ret fun α W _ _ hS => SX.ret_of hS (x := .int .i64 340) (by kernel_rfl) (by rw [chkL, if_neg (by omega), if_neg (not_ok hz fun hk => by
                                    have hz0 : z.of_ ≠ 0 := by simpa using h28
                                    obtain ⟨hr1, y1, hy1, hy2, hy3, hy4⟩ := hk.2.2.resolve_left hz0
                                    exact hf2 (by simpa using h29) y1 hy1 ((wrapOf hzf.1 hzf.2 (hno y1 hy1).1 (hno y1 hy1).2).2 hy2))])
                                · try simp only [NRM] at h29
                                  refine SX.VC_df (.bool rp) (fun α => ⟨lr, z.of_, SX.cat1 (by kernel_rfl), hI.2.2.2.1, by kernel_rfl, hlr⟩) (by kernel_rfl) ?_
                                  refine SX.VC_br rp (by kernel_rfl) (fun h30 => ?_) (fun h30 => ?_)
                                  · try simp only [NRM] at h30
                                    exact SX.VC_ret fun α W _ _ hS => SX.ret_of hS (x := .int .i64 340) (by kernel_rfl) (by rw [chkL, if_neg (by omega), if_neg (not_ok hz fun hk => by
                                      have hz0 : z.of_ ≠ 0 := by simpa using h28
                                      obtain ⟨hr1, y1, hy1, hy2, hy3, hy4⟩ := hk.2.2.resolve_left hz0
                                      obtain ⟨y2, hy5, hy6⟩ := hrep.1 h30; exact hr1 y2 hy5 hy6)])
                                  · try simp only [NRM] at h30
                                    refine SX.VC_df (.bool ((y.person : Int) != z.person)) (by intro α; show _ = _; kernel_rfl) (by kernel_rfl) ?_
                                    refine SX.VC_br ((y.person : Int) != z.person) (by kernel_rfl) (fun h31 => ?_) (fun h31 => ?_)
                                    · try simp only [NRM] at h31
                                      exact SX.VC_ret fun α W _ _ hS => SX.ret_of hS (x := .int .i64 340) (by kernel_rfl) (by rw [chkL, if_neg (by omega), if_neg (not_ok hz fun hk => by
                                        have hz0 : z.of_ ≠ 0 := by simpa using h28
                                        obtain ⟨hr1, y1, hy1, hy2, hy3, hy4⟩ := hk.2.2.resolve_left hz0
                                        have hyy := uniqL hI.1 (hf1 (by simpa using h29)).1 hy1 (by rw [(hf1 (by simpa using h29)).2, (wrapOf hzf.1 hzf.2 (hno y1 hy1).1 (hno y1 hy1).2).2 hy2]); subst hyy; have q := h31; simp [hy3] at q)])
                                    · try simp only [NRM] at h31
                                      refine SX.VC_df (.bool (decide (y.known > z.known))) (by intro α; show _ = _; kernel_rfl) (by kernel_rfl) ?_
                                      refine SX.VC_br (decide (y.known > z.known)) (by kernel_rfl) (fun h32 => ?_) (fun h32 => ?_)
                                      · try simp only [NRM] at h32
                                        exact SX.VC_ret fun α W _ _ hS => SX.ret_of hS (x := .int .i64 340) (by kernel_rfl) (by rw [chkL, if_neg (by omega), if_neg (not_ok hz fun hk => by
                                          have hz0 : z.of_ ≠ 0 := by simpa using h28
                                          obtain ⟨hr1, y1, hy1, hy2, hy3, hy4⟩ := hk.2.2.resolve_left hz0
                                          have hyy := uniqL hI.1 (hf1 (by simpa using h29)).1 hy1 (by rw [(hf1 (by simpa using h29)).2, (wrapOf hzf.1 hzf.2 (hno y1 hy1).1 (hno y1 hy1).2).2 hy2]); subst hyy; omega)])
                                      · try simp only [NRM] at h32
                                        refine SX.VC_df (Value.agg ((putM lk z.no (cellsLm z)).flatMap (mCells .i64)).toArray) (fun α => ⟨lk, z.no, SX.cat1 (by kernel_rfl), hI.2.2.1, by kernel_rfl, by kernel_rfl⟩) (by kernel_rfl) ?_
                                        refine SX.VC_df (Value.agg ((putM lr z.of_ [.bool true]).flatMap (mCells .i64)).toArray) (fun α => ⟨lr, z.of_, SX.cat1 (by kernel_rfl), hI.2.2.2.1, by kernel_rfl, by kernel_rfl⟩) (by kernel_rfl) ?_
                                        refine SX.VC_df (.int .i64 (((i + 1 : Nat) : Int))) (fun α => Eq.trans (b := some (.int .i64 (IntKind.i64.wrap ((i : Int) + 1)))) (by kernel_rfl) (by rw [show ((i + 1 : Nat) : Int) = (i : Int) + 1 by omega, wrap_i64 (by omega) (by omega)])) (by kernel_rfl) ?_
                                        exact SX.VC_again fun α => ⟨⟨i + 1, z.no, putM lk z.no (cellsLm z), putM lr z.of_ [.bool true], by kernel_rfl, by omega, invL_succ hI hz ⟨elemOk_iff.2 ⟨(by have q1 := (hI.2.1 z.no).1 (by omega); omega), (by have q := h17; (try simp at q); omega), (by  omega), (by  omega), (by have q := h23; (try simp at q); omega), .inr (by have q1 := h26; have q2 := h27; simp at q1 q2; exact ⟨q1.1, q1.2.1, q1.2.2, q2⟩)⟩, ((hI.2.1 z.no).1 (by omega)).2, .inr ⟨fun y' hy' he => by have q := h30; rw [Bool.eq_false_iff] at q; exact q (hrep.2 ⟨y', hy', he⟩), y, (hf1 (by simpa using h29)).1, (wrapOf hzf.1 hzf.2 (hno y (hf1 (by simpa using h29)).1).1 (hno y (hf1 (by simpa using h29)).1).2).1 (hf1 (by simpa using h29)).2, by simpa using h31, by omega⟩⟩⟩, cast (by kernel_rfl) (show n - ((i + 1 : Nat) : Int).toNat < n - (i : Int).toNat by omega)⟩
                              · try simp only [NRM] at h28
                                refine SX.VC_df (Value.agg ((putM lk z.no (cellsLm z)).flatMap (mCells .i64)).toArray) (fun α => ⟨lk, z.no, SX.cat1 (by kernel_rfl), hI.2.2.1, by kernel_rfl, by kernel_rfl⟩) (by kernel_rfl) ?_
                                refine SX.VC_df (Value.agg ((putM lr z.of_ [.bool true]).flatMap (mCells .i64)).toArray) (fun α => ⟨lr, z.of_, SX.cat1 (by kernel_rfl), hI.2.2.2.1, by kernel_rfl, by kernel_rfl⟩) (by kernel_rfl) ?_
                                refine SX.VC_df (.int .i64 (((i + 1 : Nat) : Int))) (fun α => Eq.trans (b := some (.int .i64 (IntKind.i64.wrap ((i : Int) + 1)))) (by kernel_rfl) (by rw [show ((i + 1 : Nat) : Int) = (i : Int) + 1 by omega, wrap_i64 (by omega) (by omega)])) (by kernel_rfl) ?_
                                exact SX.VC_again fun α => ⟨⟨i + 1, z.no, putM lk z.no (cellsLm z), putM lr z.of_ [.bool true], by kernel_rfl, by omega, invL_succ hI hz ⟨elemOk_iff.2 ⟨(by have q1 := (hI.2.1 z.no).1 (by omega); omega), (by have q := h17; (try simp at q); omega), (by  omega), (by  omega), (by have q := h23; (try simp at q); omega), .inr (by have q1 := h26; have q2 := h27; simp at q1 q2; exact ⟨q1.1, q1.2.1, q1.2.2, q2⟩)⟩, ((hI.2.1 z.no).1 (by omega)).2, .inl (by simpa using h28)⟩⟩, cast (by kernel_rfl) (show n - ((i + 1 : Nat) : Int).toNat < n - (i : Int).toNat by omega)⟩
                        · try simp only [NRM] at h25
                          refine SX.VC_df (.bool ((z.of_ : Int) != 0)) (by intro α; show _ = _; kernel_rfl) (by kernel_rfl) ?_
                          refine SX.VC_br ((z.of_ : Int) != 0) (by kernel_rfl) (fun h26 => ?_) (fun h26 => ?_)
                          · try simp only [NRM] at h26
                            refine SX.VC_df (.bool (!(fd))) (by intro α; show _ = _; kernel_rfl) (by kernel_rfl) ?_
                            refine SX.VC_br (!(fd)) (by kernel_rfl) (fun h27 => ?_) (fun h27 => ?_)
                            · try simp only [NRM] at h27
                              exact SX.VC_ret fun α W _ _ hS => SX.ret_of hS (x := .int .i64 340) (by kernel_rfl) (by rw [chkL, if_neg (by omega), if_neg (not_ok hz fun hk => by
                                have hz0 : z.of_ ≠ 0 := by simpa using h26
                                obtain ⟨hr1, y1, hy1, hy2, hy3, hy4⟩ := hk.2.2.resolve_left hz0
                                exact hf2 (by simpa using h27) y1 hy1 ((wrapOf hzf.1 hzf.2 (hno y1 hy1).1 (hno y1 hy1).2).2 hy2))])
                            · try simp only [NRM] at h27
                              refine SX.VC_df (.bool rp) (fun α => ⟨lr, z.of_, SX.cat1 (by kernel_rfl), hI.2.2.2.1, by kernel_rfl, hlr⟩) (by kernel_rfl) ?_
                              refine SX.VC_br rp (by kernel_rfl) (fun h28 => ?_) (fun h28 => ?_)
                              · try simp only [NRM] at h28
                                exact SX.VC_ret fun α W _ _ hS => SX.ret_of hS (x := .int .i64 340) (by kernel_rfl) (by rw [chkL, if_neg (by omega), if_neg (not_ok hz fun hk => by
                                  have hz0 : z.of_ ≠ 0 := by simpa using h26
                                  obtain ⟨hr1, y1, hy1, hy2, hy3, hy4⟩ := hk.2.2.resolve_left hz0
                                  obtain ⟨y2, hy5, hy6⟩ := hrep.1 h28; exact hr1 y2 hy5 hy6)])
                              · try simp only [NRM] at h28
                                refine SX.VC_df (.bool ((y.person : Int) != z.person)) (by intro α; show _ = _; kernel_rfl) (by kernel_rfl) ?_
                                refine SX.VC_br ((y.person : Int) != z.person) (by kernel_rfl) (fun h29 => ?_) (fun h29 => ?_)
                                · try simp only [NRM] at h29
                                  exact SX.VC_ret fun α W _ _ hS => SX.ret_of hS (x := .int .i64 340) (by kernel_rfl) (by rw [chkL, if_neg (by omega), if_neg (not_ok hz fun hk => by
                                    have hz0 : z.of_ ≠ 0 := by simpa using h26
                                    obtain ⟨hr1, y1, hy1, hy2, hy3, hy4⟩ := hk.2.2.resolve_left hz0
                                    have hyy := uniqL hI.1 (hf1 (by simpa using h27)).1 hy1 (by rw [(hf1 (by simpa using h27)).2, (wrapOf hzf.1 hzf.2 (hno y1 hy1).1 (hno y1 hy1).2).2 hy2]); subst hyy; have q := h29; simp [hy3] at q)])
                                · try simp only [NRM] at h29
                                  refine SX.VC_df (.bool (decide (y.known > z.known))) (by intro α; show _ = _; kernel_rfl) (by kernel_rfl) ?_
                                  refine SX.VC_br (decide (y.known > z.known)) (by kernel_rfl) (fun h30 => ?_) (fun h30 => ?_)
                                  · try simp only [NRM] at h30
                                    exact SX.VC_ret fun α W _ _ hS => SX.ret_of hS (x := .int .i64 340) (by kernel_rfl) (by rw [chkL, if_neg (by omega), if_neg (not_ok hz fun hk => by
                                      have hz0 : z.of_ ≠ 0 := by simpa using h26
                                      obtain ⟨hr1, y1, hy1, hy2, hy3, hy4⟩ := hk.2.2.resolve_left hz0
                                      have hyy := uniqL hI.1 (hf1 (by simpa using h27)).1 hy1 (by rw [(hf1 (by simpa using h27)).2, (wrapOf hzf.1 hzf.2 (hno y1 hy1).1 (hno y1 hy1).2).2 hy2]); subst hyy; omega)])
                                  · try simp only [NRM] at h30
                                    refine SX.VC_df (Value.agg ((putM lk z.no (cellsLm z)).flatMap (mCells .i64)).toArray) (fun α => ⟨lk, z.no, SX.cat1 (by kernel_rfl), hI.2.2.1, by kernel_rfl, by kernel_rfl⟩) (by kernel_rfl) ?_
                                    refine SX.VC_df (Value.agg ((putM lr z.of_ [.bool true]).flatMap (mCells .i64)).toArray) (fun α => ⟨lr, z.of_, SX.cat1 (by kernel_rfl), hI.2.2.2.1, by kernel_rfl, by kernel_rfl⟩) (by kernel_rfl) ?_
                                    refine SX.VC_df (.int .i64 (((i + 1 : Nat) : Int))) (fun α => Eq.trans (b := some (.int .i64 (IntKind.i64.wrap ((i : Int) + 1)))) (by kernel_rfl) (by rw [show ((i + 1 : Nat) : Int) = (i : Int) + 1 by omega, wrap_i64 (by omega) (by omega)])) (by kernel_rfl) ?_
                                    exact SX.VC_again fun α => ⟨⟨i + 1, z.no, putM lk z.no (cellsLm z), putM lr z.of_ [.bool true], by kernel_rfl, by omega, invL_succ hI hz ⟨elemOk_iff.2 ⟨(by have q1 := (hI.2.1 z.no).1 (by omega); omega), (by have q := h17; (try simp at q); omega), (by  omega), (by  omega), (by have q := h23; (try simp at q); omega), .inl (by simpa using h25)⟩, ((hI.2.1 z.no).1 (by omega)).2, .inr ⟨fun y' hy' he => by have q := h28; rw [Bool.eq_false_iff] at q; exact q (hrep.2 ⟨y', hy', he⟩), y, (hf1 (by simpa using h27)).1, (wrapOf hzf.1 hzf.2 (hno y (hf1 (by simpa using h27)).1).1 (hno y (hf1 (by simpa using h27)).1).2).1 (hf1 (by simpa using h27)).2, by simpa using h29, by omega⟩⟩⟩, cast (by kernel_rfl) (show n - ((i + 1 : Nat) : Int).toNat < n - (i : Int).toNat by omega)⟩
                          · try simp only [NRM] at h26
                            refine SX.VC_df (Value.agg ((putM lk z.no (cellsLm z)).flatMap (mCells .i64)).toArray) (fun α => ⟨lk, z.no, SX.cat1 (by kernel_rfl), hI.2.2.1, by kernel_rfl, by kernel_rfl⟩) (by kernel_rfl) ?_
                            refine SX.VC_df (Value.agg ((putM lr z.of_ [.bool true]).flatMap (mCells .i64)).toArray) (fun α => ⟨lr, z.of_, SX.cat1 (by kernel_rfl), hI.2.2.2.1, by kernel_rfl, by kernel_rfl⟩) (by kernel_rfl) ?_
                            refine SX.VC_df (.int .i64 (((i + 1 : Nat) : Int))) (fun α => Eq.trans (b := some (.int .i64 (IntKind.i64.wrap ((i : Int) + 1)))) (by kernel_rfl) (by rw [show ((i + 1 : Nat) : Int) = (i : Int) + 1 by omega, wrap_i64 (by omega) (by omega)])) (by kernel_rfl) ?_
                            exact SX.VC_again fun α => ⟨⟨i + 1, z.no, putM lk z.no (cellsLm z), putM lr z.of_ [.bool true], by kernel_rfl, by omega, invL_succ hI hz ⟨elemOk_iff.2 ⟨(by have q1 := (hI.2.1 z.no).1 (by omega); omega), (by have q := h17; (try simp at q); omega), (by  omega), (by  omega), (by have q := h23; (try simp at q); omega), .inl (by simpa using h25)⟩, ((hI.2.1 z.no).1 (by omega)).2, .inl (by simpa using h26)⟩⟩, cast (by kernel_rfl) (show n - ((i + 1 : Nat) : Int).toNat < n - (i : Int).toNat by omega)⟩
                    · try simp only [NRM] at h21
                      exact SX.VC_ret fun α W _ _ hS => SX.ret_of hS (x := .int .i64 340) (by kernel_rfl) (by rw [chkL, if_neg (by omega), if_neg (not_ok hz fun hk => by
                        have ⟨hk1, hk2, hk3, hk4, hk5, hk6⟩ := elemOk_iff.1 hk.1; omega)])
          · try simp only [NRM] at h15
            exact SX.VC_ret fun α W _ _ hS => SX.ret_of hS (x := .int .i64 340) (by kernel_rfl) (by rw [chkL, if_neg (by omega), if_neg (not_ok hz fun hk => by
              have ⟨hk1, hk2, hk3, hk4, hk5, hk6⟩ := elemOk_iff.1 hk.1; omega)])
    · try simp only [NRM] at h8
      exact SX.VC_ret fun α W _ _ hS => SX.ret_of hS (x := .int .i64 0) (by kernel_rfl) (by rw [chkL, if_neg (by omega), if_pos (okTo_len hI.1 (by omega))])
end Go.Proofs.Ytmkigejhgpoleaa
