/-
  Texts behind the statement, part 6.
-/
import Derived.Test.YtdamlaegboiokaaDoorPH5
import Derived.Test.YtdamlaegboiokaaDoorPG1
import Derived.LaidMore
import Derived.Stop.Joined
import Derived.Stop.LaidErr
import Derived.Lib.LaidTab
import Derived.ChangeSlices
import Derived.MakeChecks
import Derived.DataElems
set_option linter.unusedSimpArgs false
set_option linter.unusedVariables false
namespace Go.Proofs.YtdamlaegboiokaaDoor
open Go Go.RowKit
def diffE : List Lk → List Lk → Option Nat
  | y :: a, z :: b => if slE y z then (diffE a b).map (· + 1) else some 0
  | _, _ => none
def sameTo (a b : List Lk) (i : Nat) : Prop := ∀ (j : Nat) (y z : Lk), j < i → a[j]? = some y → b[j]? = some z → slE y z
theorem sameTo_zero (a b : List Lk) : sameTo a b 0 := fun j y z h => absurd h (Nat.not_lt_zero _)
theorem sameTo_succ {a b : List Lk} {i : Nat} {y z : Lk} (h : sameTo a b i) (hy : a[i]? = some y) (hz : b[i]? = some z) (hs : slE y z) : sameTo a b (i + 1) := fun j y' z' hj h1 h2 => by
  by_cases e : j = i
  · subst e; rw [hy] at h1; rw [hz] at h2; cases h1; cases h2; exact hs
  exact h j y' z' (by omega) h1 h2
theorem diffE_at : ∀ {a b : List Lk} {i : Nat} {y z : Lk}, sameTo a b i → a[i]? = some y → b[i]? = some z → ¬ slE y z → diffE a b = some i
  | [], _, _, _, _, _, h, _, _ => by simp at h
  | _ :: _, [], _, _, _, _, _, h, _ => by simp at h
  | y' :: a, z' :: b, 0, y, z, _, h1, h2, h3 => by
    obtain rfl : y' = y := by simpa using h1
    obtain rfl : z' = z := by simpa using h2
    simp only [diffE, if_neg h3]
  | y' :: a, z' :: b, i + 1, y, z, h, h1, h2, h3 => by
    have h0 : slE y' z' := h 0 y' z' (by omega) rfl rfl
    simp only [diffE, if_pos h0]
    rw [diffE_at (i := i) (fun j p q hj hp hq => h (j + 1) p q (by omega) (by simpa using hp) (by simpa using hq)) (by simpa using h1) (by simpa using h2) h3]
    rfl
theorem diffE_none : ∀ {a b : List Lk}, sameTo a b (min a.length b.length) → diffE a b = none
  | [], _, _ => rfl
  | _ :: _, [], _ => rfl
  | y :: a, z :: b, h => by
    have h0 : slE y z := h 0 y z (by simp) rfl rfl
    simp only [diffE, if_pos h0]
    rw [diffE_none (a := a) (b := b) fun j p q hj hp hq => h (j + 1) p q (by simp only [List.length_cons]; omega) (by simpa using hp) (by simpa using hq)]
    rfl
def hdsD (a b : List Lk) : Prop := ∃ y z, a[0]? = some y ∧ b[0]? = some z ∧ y.node ≠ z.node
noncomputable def partE (a b : List Lk) : Int × Bool × Int := if chkE a ≠ 0 then (0, false, chkE a) else if chkE b ≠ 0 then (0, false, chkE b) else @ite _ (hdsD a b) (Classical.propDecidable _) (0, false, 80) (match diffE a b with
  | some i => ((i : Int), true, 0)
  | none => (0, false, 0))
theorem partE_a {a b : List Lk} (h : chkE a ≠ 0) : partE a b = (0, false, chkE a) := by unfold partE; rw [if_pos h]
theorem partE_b {a b : List Lk} (h : chkE a = 0) (h2 : chkE b ≠ 0) : partE a b = (0, false, chkE b) := by unfold partE; rw [if_neg (by rw [h]; simp), if_pos h2]
theorem partE_d {a b : List Lk} (h : chkE a = 0) (h2 : chkE b = 0) (h3 : hdsD a b) : partE a b = (0, false, 80) := by unfold partE; rw [if_neg (by rw [h]; simp), if_neg (by rw [h2]; simp), if_pos h3]
theorem partE_at {a b : List Lk} {i : Nat} (h : chkE a = 0) (h2 : chkE b = 0) (h3 : ¬ hdsD a b) (h4 : diffE a b = some i) : partE a b = ((i : Int), true, 0) := by unfold partE; rw [if_neg (by rw [h]; simp), if_neg (by rw [h2]; simp), if_neg h3, h4]
theorem partE_no {a b : List Lk} (h : chkE a = 0) (h2 : chkE b = 0) (h3 : ¬ hdsD a b) (h4 : diffE a b = none) : partE a b = (0, false, 0) := by unfold partE; rw [if_neg (by rw [h]; simp), if_neg (by rw [h2]; simp), if_neg h3, h4]
theorem not_hds {a b : List Lk} (h : ∀ y z, a[0]? = some y → b[0]? = some z → y.node = z.node) : ¬ hdsD a b := by
  rintro ⟨y, z, h1, h2, h3⟩
  exact h3 (h y z h1 h2)
theorem min_nat (x y : Nat) : SX.minV (.int .i64 (x : Int)) (.int .i64 (y : Int)) = some (.int .i64 ((min x y : Nat) : Int)) := by
  simp only [SX.minV, if_true]
  congr 2
  show minI _ _ = _
  unfold minI
  split <;> omega
def K2 (A : Option Addr) (n c : Nat) (la : List Lk) (B : Option Addr) (m d : Nat) (lb : List Lk) (s : Value) (z : Nat) (xs : List Value) : Prop := KL A n c la s z xs ∨ KL B m d lb s z xs
theorem K2_laid (A : Option Addr) (n c : Nat) (la : List Lk) (B : Option Addr) (m d : Nat) (lb : List Lk) : LaidK (K2 A n c la B m d lb) := ⟨.inl (KL_laid A n c la).1, .inl (KL_laid A n c la).2⟩
def RQ5 (K : Value → Nat → List Value → Prop) (f : FuncId) (xs : List SX.Arg) (v : Value) : Prop :=
  (f = 16 ∧ ∃ (u : Value) (ls : List Lk), xs = [⟨u, 35, lkL ls⟩] ∧ LaidK K ∧ ls.length ≤ 4611686018427387904 ∧ (∀ z ∈ ls, z.kn K ∧ z.fit) ∧ v = .int .i64 (chkE ls)) ∨
  (f = 24 ∧ ∃ y z : Lk, xs = [⟨valLk y, 0, []⟩, ⟨valLk z, 0, []⟩] ∧ y.kn K ∧ z.kn K ∧ v = .bool (decide (slE y z)))
def shpQ5 : FuncId → Option SX.Sh := fun f => if f = 16 then some .one else if f = 24 then some .one else none
noncomputable def cxQ5 (K A : Value → Nat → List Value → Prop) : SX.Cx := { P := Tryd.prog, R := RQ5, shp := shpQ5, K := K, A := A, trm := true }
theorem okQ5 (K A : Value → Nat → List Value → Prop) : (cxQ5 K A).Ok := by
  refine SX.Cx.ok_of (fun _ => rfl) ?_
  intro K f xs v W hR hrd hKf
  rcases hR with ⟨rfl, u, ls, rfl, hL, hb, hk, rfl⟩ | ⟨rfl, y, z, rfl, hy, hz, rfl⟩
  · obtain ⟨A, n, c, rfl, hr, hc, hln⟩ := lk_arg (hrd ⟨u, 35, lkL ls⟩ (by simp))
    exact (check_any ls A n c W hr hc (by omega) (fun z hz => (hk z hz).1.rd hKf) (fun z hz => (hk z hz).2) (laid_of hL hKf)).mono fun e w' h => SX.plainOk rfl h
  exact (psl_any y z W (hy.rd hKf) (hz.rd hKf)).mono fun e w' h => SX.plainOk rfl h
def tree_part : SX.Tree :=
(.df (.call 16 [(.ext 35)]) [(.q 0)] .one
(.df (.bin .neq 26) [(.q 2), (.i 0)] .one
(.br 3 []
(.ret (.t [(.i 0), (.k (.bool false)), (.q 2)]) [] [])
(.df (.call 16 [(.ext 35)]) [(.q 1)] .one
(.df (.bin .neq 26) [(.q 4), (.i 0)] .one
(.br 5 []
(.ret (.t [(.i 0), (.k (.bool false)), (.q 4)]) [] [])
(.df (.len false) [(.q 0)] .one
(.df (.bin .gtr 3) [(.q 6), (.i 0)] .one
(.br 7 []
(.df (.len false) [(.q 1)] .one
(.df (.bin .gtr 3) [(.q 8), (.i 0)] .one
(.br 9 []
(.df .bnd [(.q 0), (.i 0)] .one
(.df .bnd [(.q 0), (.i 0)] .one
(.df (.elem 35 0) [(.q 0), (.i 0)] .one
(.df .bnd [(.q 1), (.i 0)] .one
(.df .bnd [(.q 1), (.i 0)] .one
(.df (.elem 35 0) [(.q 1), (.i 0)] .one
(.df (.bin .neq 3) [(.q 12), (.q 15)] .one
(.br 16 []
(.ret (.t [(.i 0), (.k (.bool false)), (.i 80)]) [] [])
(.df (.len false) [(.q 0)] .one
(.df (.len false) [(.q 1)] .one
(.df .min [(.q 17), (.q 18)] .one
(.loop [(.i 0)] [.one]
(.df (.bin .lss 3) [(.q 20), (.q 19)] .one
(.br 21 []
(.df .bnd [(.q 0), (.q 20)] .one
(.df (.elems 35 0 35) [(.q 0), (.q 20)] (.ag 35)
(.df .bnd [(.q 1), (.q 20)] .one
(.df (.elems 35 0 35) [(.q 1), (.q 20)] (.ag 35)
(.df (.call 24 [.no, .no]) [(.a (SX.Y 23 0 35)), (.a (SX.Y 25 0 35))] .one
(.df .not [(.q 26)] .one
(.br 27 []
(.ret (.t [(.q 20), (.k (.bool true)), (.i 0)]) [] [])
(.df (.bin .add 3) [(.q 20), (.i 1)] .one
(.again 0 [(.q 28)])))))))))
(.ret (.t [(.i 0), (.k (.bool false)), (.i 0)]) [] [])))))))))))))))
(.df (.len false) [(.q 0)] .one
(.df (.len false) [(.q 1)] .one
(.df .min [(.q 10), (.q 11)] .one
(.loop [(.i 0)] [.one]
(.df (.bin .lss 3) [(.q 13), (.q 12)] .one
(.br 14 []
(.df .bnd [(.q 0), (.q 13)] .one
(.df (.elems 35 0 35) [(.q 0), (.q 13)] (.ag 35)
(.df .bnd [(.q 1), (.q 13)] .one
(.df (.elems 35 0 35) [(.q 1), (.q 13)] (.ag 35)
(.df (.call 24 [.no, .no]) [(.a (SX.Y 16 0 35)), (.a (SX.Y 18 0 35))] .one
(.df .not [(.q 19)] .one
(.br 20 []
(.ret (.t [(.q 13), (.k (.bool true)), (.i 0)]) [] [])
(.df (.bin .add 3) [(.q 13), (.i 1)] .one
(.again 0 [(.q 21)])))))))))
(.ret (.t [(.i 0), (.k (.bool false)), (.i 0)]) [] []))))))))))
(.df (.len false) [(.q 0)] .one
(.df (.len false) [(.q 1)] .one
(.df .min [(.q 8), (.q 9)] .one
(.loop [(.i 0)] [.one]
(.df (.bin .lss 3) [(.q 11), (.q 10)] .one
(.br 12 []
(.df .bnd [(.q 0), (.q 11)] .one
(.df (.elems 35 0 35) [(.q 0), (.q 11)] (.ag 35)
(.df .bnd [(.q 1), (.q 11)] .one
(.df (.elems 35 0 35) [(.q 1), (.q 11)] (.ag 35)
(.df (.call 24 [.no, .no]) [(.a (SX.Y 14 0 35)), (.a (SX.Y 16 0 35))] .one
(.df .not [(.q 17)] .one
(.br 18 []
(.ret (.t [(.q 11), (.k (.bool true)), (.i 0)]) [] [])
(.df (.bin .add 3) [(.q 11), (.i 1)] .one
(.again 0 [(.q 19)])))))))))
(.ret (.t [(.i 0), (.k (.bool false)), (.i 0)]) [] []))))))))))))))))
def args_part : List SX.V := [.x 0 [], .x 1 []]
set_option maxRecDepth 100000 in
theorem run_part (K A : Value → Nat → List Value → Prop) : (SX.run (cxQ5 K A) ⟨fun f => true, [⟨23, 2, [(.s 14, .one)]⟩], 0, 100⟩ 100000 0 (SX.door 12 Tryd.f12 args_part [.one, .one]) [.code (Tryd.f12.body.getD .skip), .top Tryd.f12]).strip = tree_part := by kernel_rfl
set_option maxRecDepth 100000 in
set_option maxHeartbeats 4000000 in
theorem part_any (la : List Lk) (A : Option Addr) (n c : Nat) (lb : List Lk) (B : Option Addr) (m d : Nat) (w : World) (hr : Rd w 35 A n (lkL la)) (hc : n ≤ c) (hn : n ≤ 4611686018427387904) (hd : ∀ z ∈ la, z.rd w) (hfit : ∀ z ∈ la, z.fit) (hr2 : Rd w 35 B m (lkL lb)) (hc2 : m ≤ d) (hn2 : m ≤ 4611686018427387904) (hd2 : ∀ z ∈ lb, z.rd w) (hfit2 : ∀ z ∈ lb, z.fit) (hlaid : Laid w) : Calls Tryd.prog 12 #[.slice A n c, .slice B m d] w fun e w' => e = .returned (.tuple #[.int .i64 (partE la lb).1, .bool (partE la lb).2.1, .int .i64 (partE la lb).2.2]) ∧ Below w.heap.size w w' := by
  refine SX.calls_of_run (C := cxQ5 (K2 A n c la B m d lb) (fun _ _ _ => False)) (G := ⟨fun f => true, [⟨23, 2, [(.s 14, .one)]⟩], 0, 100⟩) (args := args_part) (sh := [.one, .one]) (ρ := [.slice A n c, .slice B m d]) 100000 tree_part (okQ5 _ _) Tryd.func12 rfl (run_part _ _) (by kernel_rfl) (by kernel_rfl) (by kernel_rfl) ?_ ?_
  · rintro W hW s sz cells (h | h)
    · exact KL_rd hW hr hd hlaid s sz cells h
    exact KL_rd hW hr2 hd2 hlaid s sz cells h
  have hA := SX.rd_some hr
  have hlc : (lkL la).length = n * 35 := hr.1
  have hln : la.length = n := by rw [lkL_len] at hlc; omega
  have hB := SX.rd_some hr2
  have hlc2 : (lkL lb).length = m * 35 := hr2.1
  have hlm : lb.length = m := by rw [lkL_len] at hlc2; omega
  unfold tree_part
  refine SX.VC_df (.int .i64 ((chkE la))) (fun α => ⟨[⟨.slice A n c, 35, lkL la⟩], ⟨by kernel_rfl, by kernel_rfl, .inl (.inl (SX.SubK.full hlc hc)), trivial⟩, .inl ⟨rfl, _, la, rfl, K2_laid _ _ _ _ _ _ _ _, by omega, fun y hy => ⟨.inl (.inl (KL_data hy)), hfit y hy⟩, rfl⟩, SX.noAli rfl⟩) ((by kernel_rfl)) ?_
  refine SX.D (.bool (((chkE la) : Int) != 0)) ?_
  refine SX.B (((chkE la) : Int) != 0) (fun h3 => ?_) (fun h3 => ?_)
  · try simp only [NRM] at h3
    have hq : partE la lb = _ := partE_a (by simpa using h3)
    exact SX.F (.tuple #[.int .i64 0, .bool false, .int .i64 ((chkE la))]) (by rw [hq])
  try simp only [NRM] at h3
  refine SX.VC_df (.int .i64 ((chkE lb))) (fun α => ⟨[⟨.slice B m d, 35, lkL lb⟩], ⟨by kernel_rfl, by kernel_rfl, .inr (.inl (SX.SubK.full hlc2 hc2)), trivial⟩, .inl ⟨rfl, _, lb, rfl, K2_laid _ _ _ _ _ _ _ _, by omega, fun y hy => ⟨.inl (.inr (KL_data hy)), hfit2 y hy⟩, rfl⟩, SX.noAli rfl⟩) ((by kernel_rfl)) ?_
  refine SX.D (.bool (((chkE lb) : Int) != 0)) ?_
  refine SX.B (((chkE lb) : Int) != 0) (fun h5 => ?_) (fun h5 => ?_)
  · try simp only [NRM] at h5
    have hq : partE la lb = _ := partE_b (by simpa using h3) (by simpa using h5)
    exact SX.F (.tuple #[.int .i64 0, .bool false, .int .i64 ((chkE lb))]) (by rw [hq])
  try simp only [NRM] at h5
  refine SX.D (.int .i64 (((n : Nat) : Int))) ?_
  refine SX.D (.bool (decide (((n : Nat) : Int) > 0))) ?_
  refine SX.B (decide (((n : Nat) : Int) > 0)) (fun h7 => ?_) (fun h7 => ?_)
  · try simp only [NRM] at h7
    refine SX.D (.int .i64 (((m : Nat) : Int))) ?_
    refine SX.D (.bool (decide (((m : Nat) : Int) > 0))) ?_
    refine SX.B (decide (((m : Nat) : Int) > 0)) (fun h9 => ?_) (fun h9 => ?_)
    · try simp only [NRM] at h9
      obtain ⟨y0, hy0⟩ : ∃ y0, la[0]? = some y0 := ⟨_, List.getElem?_eq_getElem (by omega)⟩
      obtain ⟨z0, hz0⟩ : ∃ z0, lb[0]? = some z0 := ⟨_, List.getElem?_eq_getElem (by omega)⟩
      refine SX.E (.bool true) (fun α => SX.extBnd (A := A) (n := n) (c := c) (j := 0) hA (by kernel_rfl) (by kernel_rfl) (by omega)) ?_
      refine SX.E (.bool true) (fun α => SX.extBnd (A := A) (n := n) (c := c) (j := 0) hA (by kernel_rfl) (by kernel_rfl) (by omega)) ?_
      refine SX.E (.int .i64 y0.node) (fun α => SX.extElem (o := 0) (v := .int .i64 y0.node) (f := cellsLk) (l := la) (A := A) (n := n) (c := c) (j := 0) (z := y0) (fun _ => rfl) hA (by kernel_rfl) (by kernel_rfl) (by omega) (.inl (.inl (SX.SubK.full hlc hc))) hy0 (by decide) (by kernel_rfl)) ?_
      refine SX.E (.bool true) (fun α => SX.extBnd (A := B) (n := m) (c := d) (j := 0) hB (by kernel_rfl) (by kernel_rfl) (by omega)) ?_
      refine SX.E (.bool true) (fun α => SX.extBnd (A := B) (n := m) (c := d) (j := 0) hB (by kernel_rfl) (by kernel_rfl) (by omega)) ?_
      refine SX.E (.int .i64 z0.node) (fun α => SX.extElem (o := 0) (v := .int .i64 z0.node) (f := cellsLk) (l := lb) (A := B) (n := m) (c := d) (j := 0) (z := z0) (fun _ => rfl) hB (by kernel_rfl) (by kernel_rfl) (by omega) (.inr (.inl (SX.SubK.full hlc2 hc2))) hz0 (by decide) (by kernel_rfl)) ?_
      refine SX.D (.bool ((y0.node : Int) != z0.node)) ?_
      refine SX.B ((y0.node : Int) != z0.node) (fun h16 => ?_) (fun h16 => ?_)
      · try simp only [NRM] at h16
        have hq : partE la lb = _ := partE_d (by simpa using h3) (by simpa using h5) ⟨y0, z0, hy0, hz0, by simpa using h16⟩
        exact SX.F (.tuple #[.int .i64 0, .bool false, .int .i64 80]) (by rw [hq])
      try simp only [NRM] at h16
      refine SX.D (.int .i64 (((n : Nat) : Int))) ?_
      refine SX.D (.int .i64 (((m : Nat) : Int))) ?_
      refine SX.E (.int .i64 ((((min n m) : Nat) : Int))) (fun α => Eq.trans (b := SX.minV (.int .i64 (n : Int)) (.int .i64 (m : Int))) (by kernel_rfl) (min_nat n m)) ?_
      refine SX.VC_loop (fun xs => ∃ (i : Nat), xs = [.int .i64 (i : Int)] ∧ i ≤ min n m ∧ sameTo la lb i) (fun xs => match xs with | .int _ i :: _ => n - i.toNat | _ => 0) (fun α => ⟨0, by kernel_rfl, by omega, sameTo_zero la lb⟩) ?_
      rintro xs - ⟨i, rfl, hin, hok⟩
      refine SX.D (.bool (decide (((i : Nat) : Int) < (((min n m) : Nat) : Int)))) ?_
      refine SX.B (decide (((i : Nat) : Int) < (((min n m) : Nat) : Int))) (fun h21 => ?_) (fun h21 => ?_)
      · try simp only [NRM] at h21
        obtain ⟨y, hy⟩ : ∃ y, la[i]? = some y := ⟨_, List.getElem?_eq_getElem (by omega)⟩
        obtain ⟨z, hz⟩ : ∃ z, lb[i]? = some z := ⟨_, List.getElem?_eq_getElem (by omega)⟩
        have hym := List.mem_of_getElem? hy
        have hzm := List.mem_of_getElem? hz
        refine SX.E (.bool true) (fun α => SX.extBnd (A := A) (n := n) (c := c) (j := i) hA (by kernel_rfl) (by kernel_rfl) (by omega)) ?_
        refine SX.E (.agg (cellsLk y).toArray) (fun α => SX.extElems (f := cellsLk) (l := la) (A := A) (n := n) (c := c) (j := i) (z := y) (fun _ => rfl) hA (by kernel_rfl) (by kernel_rfl) (by omega) (.inl (.inl (SX.SubK.full hlc hc))) hy) ?_
        refine SX.E (.bool true) (fun α => SX.extBnd (A := B) (n := m) (c := d) (j := i) hB (by kernel_rfl) (by kernel_rfl) (by omega)) ?_
        refine SX.E (.agg (cellsLk z).toArray) (fun α => SX.extElems (f := cellsLk) (l := lb) (A := B) (n := m) (c := d) (j := i) (z := z) (fun _ => rfl) hB (by kernel_rfl) (by kernel_rfl) (by omega) (.inr (.inl (SX.SubK.full hlc2 hc2))) hz) ?_
        refine SX.E (.bool (decide (slE y z))) (fun α => ⟨[⟨valLk y, 0, []⟩, ⟨valLk z, 0, []⟩], ⟨by kernel_rfl, by kernel_rfl, by kernel_rfl, by kernel_rfl, trivial⟩, .inr (⟨rfl, y, z, rfl, .inl (.inl (KL_data hym)), .inl (.inr (KL_data hzm)), rfl⟩), SX.noAli rfl⟩) ?_
        refine SX.D (.bool (!(decide (slE y z)))) ?_
        refine SX.B (!(decide (slE y z))) (fun h27 => ?_) (fun h27 => ?_)
        · try simp only [NRM] at h27
          have hq : partE la lb = _ := partE_at (by simpa using h3) (by simpa using h5) (not_hds fun y z h1 h2 => by rw [hy0] at h1; rw [hz0] at h2; cases h1; cases h2; simpa using h16) (diffE_at hok hy hz (by simpa using h27))
          exact SX.F (.tuple #[.int .i64 (((i : Nat) : Int)), .bool true, .int .i64 0]) (by rw [hq])
        try simp only [NRM] at h27
        refine SX.E (.int .i64 (((i + 1 : Nat) : Int))) (fun α => SX.W1 i) ?_
        exact SX.VC_again fun α => ⟨⟨i + 1, by kernel_rfl, by omega, sameTo_succ hok hy hz (by simpa using h27)⟩, cast (by kernel_rfl) (show n - ((i + 1 : Nat) : Int).toNat < n - (i : Int).toNat by omega)⟩
      try simp only [NRM] at h21
      have hq : partE la lb = _ := partE_no (by simpa using h3) (by simpa using h5) (not_hds fun y z h1 h2 => by rw [hy0] at h1; rw [hz0] at h2; cases h1; cases h2; simpa using h16) (diffE_none (by rw [hln, hlm, show min n m = i by omega]; exact hok))
      exact SX.F (.tuple #[.int .i64 0, .bool false, .int .i64 0]) (by rw [hq])
    try simp only [NRM] at h9
    refine SX.D (.int .i64 (((n : Nat) : Int))) ?_
    refine SX.D (.int .i64 (((m : Nat) : Int))) ?_
    refine SX.E (.int .i64 ((((min n m) : Nat) : Int))) (fun α => Eq.trans (b := SX.minV (.int .i64 (n : Int)) (.int .i64 (m : Int))) (by kernel_rfl) (min_nat n m)) ?_
    refine SX.VC_loop (fun xs => ∃ (i : Nat), xs = [.int .i64 (i : Int)] ∧ i ≤ min n m ∧ sameTo la lb i) (fun xs => match xs with | .int _ i :: _ => n - i.toNat | _ => 0) (fun α => ⟨0, by kernel_rfl, by omega, sameTo_zero la lb⟩) ?_
    rintro xs - ⟨i, rfl, hin, hok⟩
    refine SX.D (.bool (decide (((i : Nat) : Int) < (((min n m) : Nat) : Int)))) ?_
    refine SX.B (decide (((i : Nat) : Int) < (((min n m) : Nat) : Int))) (fun h14 => ?_) (fun h14 => ?_)
    · try simp only [NRM] at h14
      obtain ⟨y, hy⟩ : ∃ y, la[i]? = some y := ⟨_, List.getElem?_eq_getElem (by omega)⟩
      obtain ⟨z, hz⟩ : ∃ z, lb[i]? = some z := ⟨_, List.getElem?_eq_getElem (by omega)⟩
      have hym := List.mem_of_getElem? hy
      have hzm := List.mem_of_getElem? hz
      refine SX.E (.bool true) (fun α => SX.extBnd (A := A) (n := n) (c := c) (j := i) hA (by kernel_rfl) (by kernel_rfl) (by omega)) ?_
      refine SX.E (.agg (cellsLk y).toArray) (fun α => SX.extElems (f := cellsLk) (l := la) (A := A) (n := n) (c := c) (j := i) (z := y) (fun _ => rfl) hA (by kernel_rfl) (by kernel_rfl) (by omega) (.inl (.inl (SX.SubK.full hlc hc))) hy) ?_
      refine SX.E (.bool true) (fun α => SX.extBnd (A := B) (n := m) (c := d) (j := i) hB (by kernel_rfl) (by kernel_rfl) (by omega)) ?_
      refine SX.E (.agg (cellsLk z).toArray) (fun α => SX.extElems (f := cellsLk) (l := lb) (A := B) (n := m) (c := d) (j := i) (z := z) (fun _ => rfl) hB (by kernel_rfl) (by kernel_rfl) (by omega) (.inr (.inl (SX.SubK.full hlc2 hc2))) hz) ?_
      refine SX.E (.bool (decide (slE y z))) (fun α => ⟨[⟨valLk y, 0, []⟩, ⟨valLk z, 0, []⟩], ⟨by kernel_rfl, by kernel_rfl, by kernel_rfl, by kernel_rfl, trivial⟩, .inr (⟨rfl, y, z, rfl, .inl (.inl (KL_data hym)), .inl (.inr (KL_data hzm)), rfl⟩), SX.noAli rfl⟩) ?_
      refine SX.D (.bool (!(decide (slE y z)))) ?_
      refine SX.B (!(decide (slE y z))) (fun h20 => ?_) (fun h20 => ?_)
      · try simp only [NRM] at h20
        have hq : partE la lb = _ := partE_at (by simpa using h3) (by simpa using h5) (not_hds fun y z h1 h2 => absurd (List.getElem?_eq_some_iff.1 h2).1 (by omega)) (diffE_at hok hy hz (by simpa using h20))
        exact SX.F (.tuple #[.int .i64 (((i : Nat) : Int)), .bool true, .int .i64 0]) (by rw [hq])
      try simp only [NRM] at h20
      refine SX.E (.int .i64 (((i + 1 : Nat) : Int))) (fun α => SX.W1 i) ?_
      exact SX.VC_again fun α => ⟨⟨i + 1, by kernel_rfl, by omega, sameTo_succ hok hy hz (by simpa using h20)⟩, cast (by kernel_rfl) (show n - ((i + 1 : Nat) : Int).toNat < n - (i : Int).toNat by omega)⟩
    try simp only [NRM] at h14
    have hq : partE la lb = _ := partE_no (by simpa using h3) (by simpa using h5) (not_hds fun y z h1 h2 => absurd (List.getElem?_eq_some_iff.1 h2).1 (by omega)) (diffE_none (by rw [hln, hlm, show min n m = i by omega]; exact hok))
    exact SX.F (.tuple #[.int .i64 0, .bool false, .int .i64 0]) (by rw [hq])
  try simp only [NRM] at h7
  refine SX.D (.int .i64 (((n : Nat) : Int))) ?_
  refine SX.D (.int .i64 (((m : Nat) : Int))) ?_
  refine SX.E (.int .i64 ((((min n m) : Nat) : Int))) (fun α => Eq.trans (b := SX.minV (.int .i64 (n : Int)) (.int .i64 (m : Int))) (by kernel_rfl) (min_nat n m)) ?_
  refine SX.VC_loop (fun xs => ∃ (i : Nat), xs = [.int .i64 (i : Int)] ∧ i ≤ min n m ∧ sameTo la lb i) (fun xs => match xs with | .int _ i :: _ => n - i.toNat | _ => 0) (fun α => ⟨0, by kernel_rfl, by omega, sameTo_zero la lb⟩) ?_
  rintro xs - ⟨i, rfl, hin, hok⟩
  refine SX.D (.bool (decide (((i : Nat) : Int) < (((min n m) : Nat) : Int)))) ?_
  refine SX.B (decide (((i : Nat) : Int) < (((min n m) : Nat) : Int))) (fun h12 => ?_) (fun h12 => ?_)
  · try simp only [NRM] at h12
    obtain ⟨y, hy⟩ : ∃ y, la[i]? = some y := ⟨_, List.getElem?_eq_getElem (by omega)⟩
    obtain ⟨z, hz⟩ : ∃ z, lb[i]? = some z := ⟨_, List.getElem?_eq_getElem (by omega)⟩
    have hym := List.mem_of_getElem? hy
    have hzm := List.mem_of_getElem? hz
    refine SX.E (.bool true) (fun α => SX.extBnd (A := A) (n := n) (c := c) (j := i) hA (by kernel_rfl) (by kernel_rfl) (by omega)) ?_
    refine SX.E (.agg (cellsLk y).toArray) (fun α => SX.extElems (f := cellsLk) (l := la) (A := A) (n := n) (c := c) (j := i) (z := y) (fun _ => rfl) hA (by kernel_rfl) (by kernel_rfl) (by omega) (.inl (.inl (SX.SubK.full hlc hc))) hy) ?_
    refine SX.E (.bool true) (fun α => SX.extBnd (A := B) (n := m) (c := d) (j := i) hB (by kernel_rfl) (by kernel_rfl) (by omega)) ?_
    refine SX.E (.agg (cellsLk z).toArray) (fun α => SX.extElems (f := cellsLk) (l := lb) (A := B) (n := m) (c := d) (j := i) (z := z) (fun _ => rfl) hB (by kernel_rfl) (by kernel_rfl) (by omega) (.inr (.inl (SX.SubK.full hlc2 hc2))) hz) ?_
    refine SX.E (.bool (decide (slE y z))) (fun α => ⟨[⟨valLk y, 0, []⟩, ⟨valLk z, 0, []⟩], ⟨by kernel_rfl, by kernel_rfl, by kernel_rfl, by kernel_rfl, trivial⟩, .inr (⟨rfl, y, z, rfl, .inl (.inl (KL_data hym)), .inl (.inr (KL_data hzm)), rfl⟩), SX.noAli rfl⟩) ?_
    refine SX.D (.bool (!(decide (slE y z)))) ?_
    refine SX.B (!(decide (slE y z))) (fun h18 => ?_) (fun h18 => ?_)
    · try simp only [NRM] at h18
      have hq : partE la lb = _ := partE_at (by simpa using h3) (by simpa using h5) (not_hds fun y z h1 h2 => absurd (List.getElem?_eq_some_iff.1 h1).1 (by omega)) (diffE_at hok hy hz (by simpa using h18))
      exact SX.F (.tuple #[.int .i64 (((i : Nat) : Int)), .bool true, .int .i64 0]) (by rw [hq])
    try simp only [NRM] at h18
    refine SX.E (.int .i64 (((i + 1 : Nat) : Int))) (fun α => SX.W1 i) ?_
    exact SX.VC_again fun α => ⟨⟨i + 1, by kernel_rfl, by omega, sameTo_succ hok hy hz (by simpa using h18)⟩, cast (by kernel_rfl) (show n - ((i + 1 : Nat) : Int).toNat < n - (i : Int).toNat by omega)⟩
  try simp only [NRM] at h12
  have hq : partE la lb = _ := partE_no (by simpa using h3) (by simpa using h5) (not_hds fun y z h1 h2 => absurd (List.getElem?_eq_some_iff.1 h1).1 (by omega)) (diffE_none (by rw [hln, hlm, show min n m = i by omega]; exact hok))
  exact SX.F (.tuple #[.int .i64 0, .bool false, .int .i64 0]) (by rw [hq])
theorem SX.src_rw1 {C : SX.Cx} {ρ : List Value} {α : Nat → SX.AV} {y : SX.V} {l : List Value} {j sz : Nat} (h : ρ.getD j undef = .agg l.toArray) : SX.srcRel C ρ α sz (.row sz [.x j []]) y l := ⟨⟨y.den ρ α, sz, l⟩, ⟨by rw [← SX.cat1 (α := α) h]; simp [SX.V.den, SX.cellsV], trivial⟩, rfl, rfl⟩
set_option maxRecDepth 100000 in
theorem or128 (u : Nat) : BitVec.ofNat 8 (u % 128 + 128) = BitVec.ofNat 8 u ||| 128#8 := by
  apply BitVec.eq_of_toNat_eq
  rw [BitVec.toNat_or, BitVec.toNat_ofNat, BitVec.toNat_ofNat]
  show (u % 128 + 128) % 256 = u % 256 ||| 128
  have h : ∀ m < 256, m ||| 128 = m % 128 + 128 := by decide
  rw [h (u % 256) (by omega)]
  omega
theorem u_rem128 (u : Nat) : SX.binV .rem (.int .u64 (u : Int)) (.int .u64 (128 : Int)) = some (.int .u64 ((u % 128 : Nat) : Int)) := by
  have e : ((u % 128 : Nat) : Int) = (u : Int).tmod 128 := by
    rw [Int.tmod_eq_emod_of_nonneg (by omega)]; rfl
  simp only [SX.binV]
  rw [if_pos trivial, if_neg (by decide), e]
theorem u_add128 (u : Nat) (h : u < 128) : SX.binV .add (.int .u64 (u : Int)) (.int .u64 (128 : Int)) = some (.int .u64 ((u + 128 : Nat) : Int)) := by
  simp only [SX.binV, binI, if_true]
  rw [wrap_u]
  congr 2
  omega
theorem u_quo128 (u : Nat) (h : u < 18446744073709551616) : SX.binV .quo (.int .u64 (u : Int)) (.int .u64 (128 : Int)) = some (.int .u64 ((u / 128 : Nat) : Int)) := by
  have h2 : (u : Int).tdiv 128 = ((u / 128 : Nat) : Int) := by
    rw [Int.tdiv_eq_ediv_of_nonneg (by omega)]; rfl
  simp only [SX.binV, if_true, h2]
  rw [if_neg (by decide), wrap_u]
  congr 2
  omega
theorem enc8_fit (l : List W8) : SX.Sh.fit (.sl 1) (.agg (l.flatMap c8).toArray) = true := by
  have h2 : (l.flatMap c8).all (·.oneCell') = true := by
    rw [List.all_eq_true]
    intro u hu
    obtain ⟨a, _, h⟩ := List.mem_flatMap.1 hu
    exact c8o a u h
  have h1 : (l.flatMap c8).length % 1 = 0 := Nat.mod_one _
  simp only [SX.Sh.fit, h1, h2]
  rfl
def RnmR (U : Nat) (f : FuncId) (xs : List SX.Arg) (v : Value) : Prop := f = 60 ∧ ∃ u : Nat, u < U ∧ u < 18446744073709551616 ∧ xs = [⟨.int .u64 (u : Int), 0, []⟩] ∧ v = .agg ((numB u).flatMap c8).toArray
noncomputable def cxRn (U : Nat) (K A : Value → Nat → List Value → Prop) : SX.Cx := { P := Tryd.prog, R := fun _ => RnmR U, shp := fun f => if f = 60 then some (.sl 1) else none, K := K, A := A, bsr := true }
def tree_rnum : SX.Tree :=
(.df (.bin .lss 75) [(.q 0), (.k (.int .u64 128))] .one
(.br 1 []
(.df (.conv .u8) [(.q 0)] .one
(.ret (.row 0) [(some ⟨[(.a [(.q 2)])], 5, (.row 1)⟩)] []))
(.df (.bin .rem 75) [(.q 0), (.k (.int .u64 128))] .one
(.df (.bin .add 75) [(.q 2), (.k (.int .u64 128))] .one
(.df (.conv .u8) [(.q 3)] .one
(.df (.bin .quo 75) [(.q 0), (.k (.int .u64 128))] .one
(.df (.call 60 [.no]) [(.q 5)] (.sl 1)
(.df (.app 1 1 (.row 1 [(.q 6)])) [(.cat [(.a [(.q 4)])]), (.row 1)] .any
(.ret (.row 2) [none, none, (some ⟨[(.a [(.q 4)]), (.q 7)], 5, (.row 1)⟩)] [])))))))))
def args_rnum : List SX.V := [.x 0 []]
set_option maxRecDepth 100000 in
theorem run_rnum (U : Nat) (K A : Value → Nat → List Value → Prop) : (SX.run (cxRn U K A) ⟨fun f => f != 60, [], 2, 100⟩ 100000 0 (SX.door 60 Tryd.f60 args_rnum [.one]) [.code (Tryd.f60.body.getD .skip), .top Tryd.f60]).strip = tree_rnum := by kernel_rfl
set_option maxRecDepth 100000 in
set_option maxHeartbeats 4000000 in
theorem rnum_step (U u : Nat) (hok : ∀ K A, (cxRn U K A).Ok) (hu : u < 18446744073709551616) (hU : 128 ≤ u → u / 128 < U) (w : World) : Calls Tryd.prog 60 #[.int .u64 (u : Int)] w fun e w' => Below w.heap.size w w' ∧ ∃ hdr, e = .returned hdr ∧ SX.SlRet w w' [] hdr 1 ((numB u).flatMap c8) := by
  refine SX.calls_of_run (C := cxRn U (fun _ _ _ => False) (fun _ _ _ => False)) (G := ⟨fun f => f != 60, [], 2, 100⟩) (args := args_rnum) (sh := [.one]) (ρ := [.int .u64 (u : Int)]) 100000 tree_rnum (hok _ _) Tryd.func60 rfl (run_rnum _ _ _) (by kernel_rfl) (by kernel_rfl) (by kernel_rfl) ?_ ?_
  · exact fun W _ => SX.Kf_none (fun _ _ _ h => h) W
  unfold tree_rnum
  refine SX.D (.bool (decide ((u : Int) < 128))) ?_
  refine SX.B (decide ((u : Int) < 128)) (fun h1 => ?_) (fun h1 => ?_)
  · have h1 : u < 128 := by have := of_decide_eq_true h1; omega
    refine SX.E (w8 (BitVec.ofNat 8 u)) (fun α => cast (by kernel_rfl) (w_to8 u .u64)) ?_
    exact SX.VC_ret fun α W _ hrow hS => ⟨hS.below, _, by kernel_rfl, SX.SlRet.row hS (n := 0) (b := (⟨[(.a [(.x 2 [])])], 5, (.row 1)⟩ : SX.Blk)) (by kernel_rfl) rfl (hrow 0 _ (by kernel_rfl)) (Eq.trans (b := [Value.agg #[w8 (BitVec.ofNat 8 u)]].flatMap SX.cellsV) (by kernel_rfl) (by rw [numB_lt h1]; rfl))⟩
  have h1 : ¬ u < 128 := by have := of_decide_eq_false h1; omega
  have hlen := numB_len 8 (u / 128) (by omega)
  refine SX.E (.int .u64 ((u % 128 : Nat) : Int)) (fun α => cast (by kernel_rfl) (u_rem128 u)) ?_
  refine SX.E (.int .u64 ((u % 128 + 128 : Nat) : Int)) (fun α => cast (by kernel_rfl) (u_add128 (u % 128) (by omega))) ?_
  refine SX.E (w8 (BitVec.ofNat 8 u ||| 128#8)) (fun α => by rw [← or128]; exact cast (by kernel_rfl) (w_to8 (u % 128 + 128) .u64)) ?_
  refine SX.E (.int .u64 ((u / 128 : Nat) : Int)) (fun α => cast (by kernel_rfl) (u_quo128 u hu)) ?_
  refine SX.VC_df (.agg ((numB (u / 128)).flatMap c8).toArray) (fun α => ⟨[⟨.int .u64 ((u / 128 : Nat) : Int), 0, []⟩], ⟨by kernel_rfl, by kernel_rfl, trivial⟩, ⟨rfl, u / 128, hU (by omega), by omega, rfl, rfl⟩, SX.noAli rfl⟩) (enc8_fit _) ?_
  refine SX.VC_df (.agg ((numB (u / 128)).flatMap c8).toArray) (fun α => SX.app_rel (f := c8) (l1 := [BitVec.ofNat 8 u ||| 128#8]) (l2 := numB (u / 128)) (fun _ => rfl) c8o (by decide) (by kernel_rfl) (SX.src_rw1 (by kernel_rfl)) (by simp only [LL]; omega) (by simp only [LL]; omega)) rfl ?_
  exact SX.VC_ret fun α W _ hrow hS => ⟨hS.below, _, by kernel_rfl, SX.SlRet.row hS (n := 2) (b := (⟨[(.a [(.x 4 [])]), (.x 7 [])], 5, (.row 1)⟩ : SX.Blk)) (by kernel_rfl) rfl (hrow 2 _ (by kernel_rfl)) (Eq.trans (b := [Value.agg #[w8 (BitVec.ofNat 8 u ||| 128#8)], Value.agg ((numB (u / 128)).flatMap c8).toArray].flatMap SX.cellsV) (by kernel_rfl) (by rw [numB_ge h1]; simp [SX.cellsV, c8]))⟩
theorem rnum_any : ∀ (U u : Nat), u < U → u < 18446744073709551616 → ∀ w : World, Calls Tryd.prog 60 #[.int .u64 (u : Int)] w fun e w' => Below w.heap.size w w' ∧ ∃ hdr, e = .returned hdr ∧ SX.SlRet w w' [] hdr 1 ((numB u).flatMap c8)
  | 0, u, h, _, _ => absurd h (by omega)
  | U + 1, u, h, hu, w => rnum_step U u (fun K A => SX.Cx.ok_of (fun _ => rfl) fun _ f xs v W hR hrd hKf => by
      obtain ⟨rfl, y, hy, hyu, rfl, rfl⟩ := hR
      exact (rnum_any U y hy hyu W).mono fun e w' h => SX.SlRet.ok1 rfl h) hu (by omega) w
theorem rnumeral_any (u : Nat) (hu : u < 18446744073709551616) (w : World) : Calls Tryd.prog 60 #[.int .u64 (u : Int)] w fun e w' => Below w.heap.size w w' ∧ ∃ hdr, e = .returned hdr ∧ SX.SlRet w w' [] hdr 1 ((numB u).flatMap c8) := rnum_any (u + 1) u (by omega) hu w
def tree_runs : SX.Tree :=
(.df (.bin .geq 3) [(.q 0), (.i 0)] .one
(.br 1 []
(.df (.conv .u64) [(.q 0)] .one
(.df (.bin .mul 75) [(.k (.int .u64 2)), (.q 2)] .one
(.ret (.q 3) [] [])))
(.df (.bin .add 3) [(.q 0), (.i 1)] .one
(.df .neg [(.q 2)] .one
(.df (.conv .u64) [(.q 3)] .one
(.df (.bin .mul 75) [(.k (.int .u64 2)), (.q 4)] .one
(.df (.bin .add 75) [(.q 5), (.k (.int .u64 1))] .one
(.ret (.q 6) [] []))))))))
def args_runs : List SX.V := [.x 0 []]
set_option maxRecDepth 100000 in
theorem run_runs (K A : Value → Nat → List Value → Prop) : (SX.run (cx0 K A) ⟨fun f => true, [], 0, 100⟩ 100000 0 (SX.door 61 Tryd.f61 args_runs [.one]) [.code (Tryd.f61.body.getD .skip), .top Tryd.f61]).strip = tree_runs := by kernel_rfl
set_option maxRecDepth 100000 in
set_option maxHeartbeats 4000000 in
theorem runs_any (k : Int) (w : World) (h1 : -9223372036854775808 ≤ k) (h2 : k ≤ 9223372036854775807) : Calls Tryd.prog 61 #[.int .i64 k] w fun e w' => e = .returned (.int .u64 (unsN k : Int)) ∧ Below w.heap.size w w' := by
  refine SX.calls_of_run (C := cx0 (fun _ _ _ => False) (fun _ _ _ => False)) (G := ⟨fun f => true, [], 0, 100⟩) (args := args_runs) (sh := [.one]) (ρ := [.int .i64 k]) 100000 tree_runs (cx0_ok _ _) Tryd.func61 rfl (run_runs _ _) (by kernel_rfl) (by kernel_rfl) (by kernel_rfl) ?_ ?_
  · exact fun W _ => SX.Kf_none (fun _ _ _ h => h) W
  unfold tree_runs
  have hul := unsN_lt h1 h2
  refine SX.D (.bool (decide (k ≥ 0))) ?_
  refine SX.B (decide (k ≥ 0)) (fun h3 => ?_) (fun h3 => ?_)
  · have h3 : 0 ≤ k := of_decide_eq_true h3
    obtain ⟨m, rfl⟩ : ∃ m : Nat, k = (m : Int) := ⟨k.toNat, by omega⟩
    refine SX.E (.int .u64 (m : Int)) (fun α => Eq.trans (b := some (.int .u64 (IntKind.u64.wrap (m : Int)))) (by kernel_rfl) (by rw [wrap_u]; congr 2; omega)) ?_
    refine SX.E (.int .u64 ((2 * m : Nat) : Int)) (fun α => Eq.trans (b := some (.int .u64 (IntKind.u64.wrap (2 * (m : Int))))) (by kernel_rfl) (by rw [wrap_u]; congr 2; omega)) ?_
    exact SX.F (.int .u64 ((2 * m : Nat) : Int)) (by rw [show unsN (m : Int) = 2 * m by unfold unsN; rw [if_pos h3]; omega])
  have h3 : k < 0 := by have := of_decide_eq_false h3; omega
  obtain ⟨m, hm⟩ : ∃ m : Nat, k = -((m : Int) + 1) := ⟨(-k - 1).toNat, by omega⟩
  refine SX.E (.int .i64 (k + 1)) (fun α => SX.W (k + 1)) ?_
  refine SX.E (.int .i64 (-(k + 1))) (fun α => SX.W (-(k + 1))) ?_
  refine SX.E (.int .u64 (m : Int)) (fun α => Eq.trans (b := some (.int .u64 (IntKind.u64.wrap (-(k + 1))))) (by kernel_rfl) (by rw [wrap_u]; congr 2; omega)) ?_
  refine SX.E (.int .u64 ((2 * m : Nat) : Int)) (fun α => Eq.trans (b := some (.int .u64 (IntKind.u64.wrap (2 * (m : Int))))) (by kernel_rfl) (by rw [wrap_u]; congr 2; omega)) ?_
  refine SX.E (.int .u64 ((2 * m + 1 : Nat) : Int)) (fun α => Eq.trans (b := some (.int .u64 (IntKind.u64.wrap (((2 * m : Nat) : Int) + 1)))) (by kernel_rfl) (by rw [wrap_u]; congr 2; omega)) ?_
  exact SX.F (.int .u64 ((2 * m + 1 : Nat) : Int)) (by rw [show unsN k = 2 * m + 1 by unfold unsN; rw [if_neg (by omega)]; omega])
def tree_rfo1 : SX.Tree :=
(.ret (.k (.bool true)) [] [])
def args_rfo1 : List SX.V := [.a [.k (.int .i64 1), .x 0 [], .k (.string ⟨#[]⟩), .k (.slice none 0 0)]]
set_option maxRecDepth 100000 in
theorem run_rfo1 (K A : Value → Nat → List Value → Prop) : (SX.run (cx0 K A) ⟨fun f => true, [], 0, 100⟩ 100000 0 (SX.door 58 Tryd.f58 args_rfo1 [.one]) [.code (Tryd.f58.body.getD .skip), .top Tryd.f58]).strip = tree_rfo1 := by kernel_rfl
set_option maxRecDepth 100000 in
set_option maxHeartbeats 4000000 in
theorem rfo1_any (k : Int) (w : World) : Calls Tryd.prog 58 #[.agg #[.int .i64 1, .int .i64 k, .string ⟨#[]⟩, .slice none 0 0]] w fun e w' => e = .returned (.bool true) ∧ Below w.heap.size w w' := by
  refine SX.calls_of_run (C := cx0 (fun _ _ _ => False) (fun _ _ _ => False)) (G := ⟨fun f => true, [], 0, 100⟩) (args := args_rfo1) (sh := [.one]) (ρ := [.int .i64 k]) 100000 tree_rfo1 (cx0_ok _ _) Tryd.func58 rfl (run_rfo1 _ _) (by kernel_rfl) (by kernel_rfl) (by kernel_rfl) ?_ ?_
  · exact fun W _ => SX.Kf_none (fun _ _ _ h => h) W
  unfold tree_rfo1
  exact SX.VC_ret fun α W _ _ hS => SX.ret_of hS (x := .bool true) (by kernel_rfl) rfl
def tree_rfo2 : SX.Tree :=
(.ret (.k (.bool true)) [] [])
def args_rfo2 : List SX.V := [.a [.k (.int .i64 2), .k (.int .i64 0), .x 0 [], .k (.slice none 0 0)]]
set_option maxRecDepth 100000 in
theorem run_rfo2 (K A : Value → Nat → List Value → Prop) : (SX.run (cx0 K A) ⟨fun f => true, [], 0, 100⟩ 100000 0 (SX.door 58 Tryd.f58 args_rfo2 [.one]) [.code (Tryd.f58.body.getD .skip), .top Tryd.f58]).strip = tree_rfo2 := by kernel_rfl
set_option maxRecDepth 100000 in
set_option maxHeartbeats 4000000 in
theorem rfo2_any (b : ByteArray) (w : World) : Calls Tryd.prog 58 #[.agg #[.int .i64 2, .int .i64 0, .string b, .slice none 0 0]] w fun e w' => e = .returned (.bool true) ∧ Below w.heap.size w w' := by
  refine SX.calls_of_run (C := cx0 (fun _ _ _ => False) (fun _ _ _ => False)) (G := ⟨fun f => true, [], 0, 100⟩) (args := args_rfo2) (sh := [.one]) (ρ := [.string b]) 100000 tree_rfo2 (cx0_ok _ _) Tryd.func58 rfl (run_rfo2 _ _) (by kernel_rfl) (by kernel_rfl) (by kernel_rfl) ?_ ?_
  · exact fun W _ => SX.Kf_none (fun _ _ _ h => h) W
  unfold tree_rfo2
  exact SX.VC_ret fun α W _ _ hS => SX.ret_of hS (x := .bool true) (by kernel_rfl) rfl
def tree_rde1 : SX.Tree :=
(.ret (.i 0) [] [])
def args_rde1 : List SX.V := [.a [.k (.int .i64 1), .x 0 [], .k (.string ⟨#[]⟩), .k (.slice none 0 0)]]
set_option maxRecDepth 100000 in
theorem run_rde1 (K A : Value → Nat → List Value → Prop) : (SX.run (cx0 K A) ⟨fun f => true, [], 0, 100⟩ 100000 0 (SX.door 59 Tryd.f59 args_rde1 [.one]) [.code (Tryd.f59.body.getD .skip), .top Tryd.f59]).strip = tree_rde1 := by kernel_rfl
set_option maxRecDepth 100000 in
set_option maxHeartbeats 4000000 in
theorem rde1_any (k : Int) (w : World) : Calls Tryd.prog 59 #[.agg #[.int .i64 1, .int .i64 k, .string ⟨#[]⟩, .slice none 0 0]] w fun e w' => e = .returned (.int .i64 0) ∧ Below w.heap.size w w' := by
  refine SX.calls_of_run (C := cx0 (fun _ _ _ => False) (fun _ _ _ => False)) (G := ⟨fun f => true, [], 0, 100⟩) (args := args_rde1) (sh := [.one]) (ρ := [.int .i64 k]) 100000 tree_rde1 (cx0_ok _ _) Tryd.func59 rfl (run_rde1 _ _) (by kernel_rfl) (by kernel_rfl) (by kernel_rfl) ?_ ?_
  · exact fun W _ => SX.Kf_none (fun _ _ _ h => h) W
  unfold tree_rde1
  exact SX.VC_ret fun α W _ _ hS => SX.ret_of hS (x := .int .i64 0) (by kernel_rfl) rfl
def tree_rde2 : SX.Tree :=
(.ret (.i 0) [] [])
def args_rde2 : List SX.V := [.a [.k (.int .i64 2), .k (.int .i64 0), .x 0 [], .k (.slice none 0 0)]]
set_option maxRecDepth 100000 in
theorem run_rde2 (K A : Value → Nat → List Value → Prop) : (SX.run (cx0 K A) ⟨fun f => true, [], 0, 100⟩ 100000 0 (SX.door 59 Tryd.f59 args_rde2 [.one]) [.code (Tryd.f59.body.getD .skip), .top Tryd.f59]).strip = tree_rde2 := by kernel_rfl
set_option maxRecDepth 100000 in
set_option maxHeartbeats 4000000 in
theorem rde2_any (b : ByteArray) (w : World) : Calls Tryd.prog 59 #[.agg #[.int .i64 2, .int .i64 0, .string b, .slice none 0 0]] w fun e w' => e = .returned (.int .i64 0) ∧ Below w.heap.size w w' := by
  refine SX.calls_of_run (C := cx0 (fun _ _ _ => False) (fun _ _ _ => False)) (G := ⟨fun f => true, [], 0, 100⟩) (args := args_rde2) (sh := [.one]) (ρ := [.string b]) 100000 tree_rde2 (cx0_ok _ _) Tryd.func59 rfl (run_rde2 _ _) (by kernel_rfl) (by kernel_rfl) (by kernel_rfl) ?_ ?_
  · exact fun W _ => SX.Kf_none (fun _ _ _ h => h) W
  unfold tree_rde2
  exact SX.VC_ret fun α W _ _ hS => SX.ret_of hS (x := .int .i64 0) (by kernel_rfl) rfl
def RY1 (f : FuncId) (xs : List SX.Arg) (v : Value) : Prop :=
  (f = 58 ∧ ∃ z : Fl, xs = [⟨valFl z, 0, []⟩] ∧ v = .bool true) ∨
  (f = 59 ∧ ∃ z : Fl, xs = [⟨valFl z, 0, []⟩] ∧ v = .int .i64 0)
def shpY1 : FuncId → Option SX.Sh := fun f => if f = 58 then some .one else if f = 59 then some .one else none
noncomputable def cxY1 (K A : Value → Nat → List Value → Prop) : SX.Cx := { P := Tryd.prog, R := fun _ => RY1, shp := shpY1, K := K, A := A }
theorem okY1 (K A : Value → Nat → List Value → Prop) : (cxY1 K A).Ok := by
  refine SX.Cx.ok_of (fun _ => rfl) ?_
  intro K f xs v W hR hrd hKf
  rcases hR with ⟨rfl, z, rfl, rfl⟩ | ⟨rfl, z, rfl, rfl⟩
  · cases z with
    | n k => exact (rfo1_any k W).mono fun e w' h => SX.plainOk rfl h
    | s b => exact (rfo2_any b W).mono fun e w' h => SX.plainOk rfl h
  cases z with
  | n k => exact (rde1_any k W).mono fun e w' h => SX.plainOk rfl h
  | s b => exact (rde2_any b W).mono fun e w' h => SX.plainOk rfl h
def tree_rfo3 : SX.Tree :=
(.loop [(.i 0)] [.one]
(.df (.len false) [(.q 0)] .one
(.df (.bin .lss 3) [(.q 1), (.q 2)] .one
(.br 3 []
(.df .bnd [(.q 0), (.q 1)] .one
(.df (.elems 4 0 4) [(.q 0), (.q 1)] (.ag 4)
(.df (.call 58 [.no]) [(.a (SX.Y 5 0 4))] .one
(.df .not [(.q 6)] .one
(.br 7 []
(.ret (.k (.bool false)) [] [])
(.df (.bin .add 3) [(.q 1), (.i 1)] .one
(.again 0 [(.q 8)])))))))
(.ret (.k (.bool true)) [] [])))))
def args_rfo3 : List SX.V := [.a [.k (.int .i64 3), .k (.int .i64 0), .k (.string ⟨#[]⟩), .x 0 []]]
set_option maxRecDepth 100000 in
theorem run_rfo3 (K A : Value → Nat → List Value → Prop) : (SX.run (cxY1 K A) ⟨fun f => f != 58, [⟨58, 8, [(.s 3, .one)]⟩], 0, 100⟩ 100000 0 (SX.door 58 Tryd.f58 args_rfo3 [.one]) [.code (Tryd.f58.body.getD .skip), .top Tryd.f58]).strip = tree_rfo3 := by kernel_rfl
set_option maxRecDepth 100000 in
set_option maxHeartbeats 4000000 in
theorem rfo3_any (fl : List Fl) (A : Option Addr) (n c : Nat) (w : World) (hr : Rd w 4 A n (flL fl)) (hn : n ≤ 1048576) (hc : n ≤ c) : Calls Tryd.prog 58 #[.agg #[.int .i64 3, .int .i64 0, .string ⟨#[]⟩, .slice A n c]] w fun e w' => e = .returned (.bool true) ∧ Below w.heap.size w w' := by
  refine SX.calls_of_run (C := cxY1 (fun s sz cells => s = .slice A n c ∧ sz = 4 ∧ cells = flL fl) (fun _ _ _ => False)) (G := ⟨fun f => f != 58, [⟨58, 8, [(.s 3, .one)]⟩], 0, 100⟩) (args := args_rfo3) (sh := [.one]) (ρ := [.slice A n c]) 100000 tree_rfo3 (okY1 _ _) Tryd.func58 rfl (run_rfo3 _ _) (by kernel_rfl) (by kernel_rfl) (by kernel_rfl) ?_ ?_
  · rintro W hW s sz cells ⟨rfl, rfl, rfl⟩; exact ⟨hr.same0 hW, hc⟩
  have hA := SX.rd_some hr
  have hln : fl.length = n := by have := hr.1; rw [flL_len] at this; omega
  unfold tree_rfo3
  refine SX.VC_loop (fun xs => ∃ (i : Nat), xs = [.int .i64 (i : Int)] ∧ i ≤ n) (fun xs => match xs with | .int _ i :: _ => n - i.toNat | _ => 0) (fun α => ⟨0, by kernel_rfl, by omega⟩) ?_
  rintro xs - ⟨i, rfl, hin⟩
  refine SX.D (.int .i64 (n : Int)) ?_
  refine SX.D (.bool (decide ((i : Int) < (n : Int)))) ?_
  refine SX.B (decide ((i : Int) < (n : Int))) (fun h4 => ?_) (fun h4 => ?_)
  · have h4 : i < n := by have := of_decide_eq_true h4; omega
    obtain ⟨z, hz⟩ : ∃ z, fl[i]? = some z := ⟨_, List.getElem?_eq_getElem (by omega)⟩
    refine SX.E (.bool true) (fun α => SX.extBnd (A := A) (n := n) (c := c) (j := i) hA (by kernel_rfl) (by kernel_rfl) h4) ?_
    refine SX.VC_df (valFl z) (fun α => SX.extElems (f := cellsFl) (l := fl) (A := A) (n := n) (c := c) (j := i) (z := z) cellsFl_len hA (by kernel_rfl) (by kernel_rfl) h4 ⟨rfl, rfl, rfl⟩ hz) (by cases z <;> rfl) ?_
    refine SX.E (.bool true) (fun α => ⟨[⟨valFl z, 0, []⟩], ⟨(by cases z <;> kernel_rfl), by kernel_rfl, trivial⟩, .inl ⟨rfl, z, rfl, rfl⟩, SX.noAli rfl⟩) ?_
    refine SX.D (.bool false) ?_
    refine SX.B false (fun h => nomatch h) (fun _ => ?_)
    refine SX.E (.int .i64 ((i + 1 : Nat) : Int)) (fun α => SX.W1 i) ?_
    exact SX.VC_again fun α => ⟨⟨i + 1, by kernel_rfl, by omega⟩, cast (by kernel_rfl) (show n - ((i + 1 : Nat) : Int).toNat < n - (i : Int).toNat by omega)⟩
  exact SX.VC_ret fun α W _ _ hS => SX.ret_of hS (x := .bool true) (by kernel_rfl) rfl
def tree_rde3 : SX.Tree :=
(.loop [(.i 0), (.i 0)] [.one, .one]
(.df (.len false) [(.q 0)] .one
(.df (.bin .lss 3) [(.q 1), (.q 3)] .one
(.br 4 []
(.df .bnd [(.q 0), (.q 1)] .one
(.df (.elems 4 0 4) [(.q 0), (.q 1)] (.ag 4)
(.df (.call 59 [.no]) [(.a (SX.Y 6 0 4))] .one
(.df .max [(.q 2), (.q 7)] .one
(.df (.bin .add 3) [(.q 1), (.i 1)] .one
(.again 0 [(.q 9), (.q 8)]))))))
(.df (.bin .add 3) [(.q 2), (.i 1)] .one
(.ret (.q 5) [] []))))))
def args_rde3 : List SX.V := [.a [.k (.int .i64 3), .k (.int .i64 0), .k (.string ⟨#[]⟩), .x 0 []]]
set_option maxRecDepth 100000 in
theorem run_rde3 (K A : Value → Nat → List Value → Prop) : (SX.run (cxY1 K A) ⟨fun f => f != 59, [⟨59, 5, [(.s 4, .one), (.s 3, .one)]⟩], 0, 100⟩ 100000 0 (SX.door 59 Tryd.f59 args_rde3 [.one]) [.code (Tryd.f59.body.getD .skip), .top Tryd.f59]).strip = tree_rde3 := by kernel_rfl
set_option maxRecDepth 100000 in
set_option maxHeartbeats 4000000 in
theorem rde3_any (fl : List Fl) (A : Option Addr) (n c : Nat) (w : World) (hr : Rd w 4 A n (flL fl)) (hn : n ≤ 1048576) (hc : n ≤ c) : Calls Tryd.prog 59 #[.agg #[.int .i64 3, .int .i64 0, .string ⟨#[]⟩, .slice A n c]] w fun e w' => e = .returned (.int .i64 1) ∧ Below w.heap.size w w' := by
  refine SX.calls_of_run (C := cxY1 (fun s sz cells => s = .slice A n c ∧ sz = 4 ∧ cells = flL fl) (fun _ _ _ => False)) (G := ⟨fun f => f != 59, [⟨59, 5, [(.s 4, .one), (.s 3, .one)]⟩], 0, 100⟩) (args := args_rde3) (sh := [.one]) (ρ := [.slice A n c]) 100000 tree_rde3 (okY1 _ _) Tryd.func59 rfl (run_rde3 _ _) (by kernel_rfl) (by kernel_rfl) (by kernel_rfl) ?_ ?_
  · rintro W hW s sz cells ⟨rfl, rfl, rfl⟩; exact ⟨hr.same0 hW, hc⟩
  have hA := SX.rd_some hr
  have hln : fl.length = n := by have := hr.1; rw [flL_len] at this; omega
  unfold tree_rde3
  refine SX.VC_loop (fun xs => ∃ (i : Nat), xs = [.int .i64 (i : Int), .int .i64 0] ∧ i ≤ n) (fun xs => match xs with | .int _ i :: _ => n - i.toNat | _ => 0) (fun α => ⟨0, by kernel_rfl, by omega⟩) ?_
  rintro xs - ⟨i, rfl, hin⟩
  refine SX.D (.int .i64 (n : Int)) ?_
  refine SX.D (.bool (decide ((i : Int) < (n : Int)))) ?_
  refine SX.B (decide ((i : Int) < (n : Int))) (fun h4 => ?_) (fun h4 => ?_)
  · have h4 : i < n := by have := of_decide_eq_true h4; omega
    obtain ⟨z, hz⟩ : ∃ z, fl[i]? = some z := ⟨_, List.getElem?_eq_getElem (by omega)⟩
    refine SX.E (.bool true) (fun α => SX.extBnd (A := A) (n := n) (c := c) (j := i) hA (by kernel_rfl) (by kernel_rfl) h4) ?_
    refine SX.VC_df (valFl z) (fun α => SX.extElems (f := cellsFl) (l := fl) (A := A) (n := n) (c := c) (j := i) (z := z) cellsFl_len hA (by kernel_rfl) (by kernel_rfl) h4 ⟨rfl, rfl, rfl⟩ hz) (by cases z <;> rfl) ?_
    refine SX.E (.int .i64 0) (fun α => ⟨[⟨valFl z, 0, []⟩], ⟨(by cases z <;> kernel_rfl), by kernel_rfl, trivial⟩, .inr (⟨rfl, z, rfl, rfl⟩), SX.noAli rfl⟩) ?_
    refine SX.D (.int .i64 0) ?_
    refine SX.E (.int .i64 ((i + 1 : Nat) : Int)) (fun α => SX.W1 i) ?_
    exact SX.VC_again fun α => ⟨⟨i + 1, by kernel_rfl, by omega⟩, cast (by kernel_rfl) (show n - ((i + 1 : Nat) : Int).toNat < n - (i : Int).toNat by omega)⟩
  refine SX.D (.int .i64 1) ?_
  exact SX.VC_ret fun α W _ _ hS => SX.ret_of hS (x := .int .i64 1) (by kernel_rfl) rfl
def RY2 (K : Value → Nat → List Value → Prop) (f : FuncId) (xs : List SX.Arg) (v : Value) : Prop :=
  (f = 58 ∧ ∃ (u : Value) (fl : List Fl), xs = [⟨.agg #[.int .i64 3, .int .i64 0, .string ⟨#[]⟩, u], 0, []⟩] ∧ K u 4 (flL fl) ∧ fl.length ≤ 1048576 ∧ v = .bool true) ∨
  (f = 59 ∧ ∃ (u : Value) (fl : List Fl), xs = [⟨.agg #[.int .i64 3, .int .i64 0, .string ⟨#[]⟩, u], 0, []⟩] ∧ K u 4 (flL fl) ∧ fl.length ≤ 1048576 ∧ v = .int .i64 1)
def shpY2 : FuncId → Option SX.Sh := fun f => if f = 58 then some .one else if f = 59 then some .one else none
noncomputable def cxY2 (K A : Value → Nat → List Value → Prop) : SX.Cx := { P := Tryd.prog, R := RY2, shp := shpY2, K := K, A := A }
theorem okY2 (K A : Value → Nat → List Value → Prop) : (cxY2 K A).Ok := by
  refine SX.Cx.ok_of (fun _ => rfl) ?_
  intro K f xs v W hR hrd hKf
  rcases hR with ⟨rfl, u, fl, rfl, hku, hl, rfl⟩ | ⟨rfl, u, fl, rfl, hku, hl, rfl⟩
  · obtain ⟨A, n, c, rfl, h2, h3, h4⟩ := fl_arg (hKf u 4 (flL fl) hku)
    exact (rfo3_any fl A n c W h2 (by omega) h3).mono fun e w' h => SX.plainOk rfl h
  obtain ⟨A, n, c, rfl, h2, h3, h4⟩ := fl_arg (hKf u 4 (flL fl) hku)
  exact (rde3_any fl A n c W h2 (by omega) h3).mono fun e w' h => SX.plainOk rfl h
def tree_rche : SX.Tree :=
(.df (.call 58 [.no]) [(.a [(.i 3), (.i 0), (.k (.string ⟨#[]⟩)), (.q 0)])] .one
(.df .not [(.q 1)] .one
(.br 2 []
(.ret (.i 1) [] [])
(.df (.call 59 [.no]) [(.a [(.i 3), (.i 0), (.k (.string ⟨#[]⟩)), (.q 0)])] .one
(.df (.bin .gtr 3) [(.q 3), (.i 16)] .one
(.br 4 []
(.ret (.i 2) [] [])
(.ret (.i 0) [] [])))))))
def args_rche : List SX.V := [.a [.k (.int .i64 3), .k (.int .i64 0), .k (.string ⟨#[]⟩), .x 0 []]]
set_option maxRecDepth 100000 in
theorem run_rche (K A : Value → Nat → List Value → Prop) : (SX.run (cxY2 K A) ⟨fun f => true, [], 0, 100⟩ 100000 0 (SX.door 51 Tryd.f51 args_rche [.one]) [.code (Tryd.f51.body.getD .skip), .top Tryd.f51]).strip = tree_rche := by kernel_rfl
set_option maxRecDepth 100000 in
set_option maxHeartbeats 4000000 in
theorem rcheck_any (fl : List Fl) (A : Option Addr) (n c : Nat) (w : World) (hr : Rd w 4 A n (flL fl)) (hn : n ≤ 1048576) (hc : n ≤ c) : Calls Tryd.prog 51 #[.agg #[.int .i64 3, .int .i64 0, .string ⟨#[]⟩, .slice A n c]] w fun e w' => e = .returned (.int .i64 0) ∧ Below w.heap.size w w' := by
  refine SX.calls_of_run (C := cxY2 (fun s sz cells => s = .slice A n c ∧ sz = 4 ∧ cells = flL fl) (fun _ _ _ => False)) (G := ⟨fun f => true, [], 0, 100⟩) (args := args_rche) (sh := [.one]) (ρ := [.slice A n c]) 100000 tree_rche (okY2 _ _) Tryd.func51 rfl (run_rche _ _) (by kernel_rfl) (by kernel_rfl) (by kernel_rfl) ?_ ?_
  · rintro W hW s sz cells ⟨rfl, rfl, rfl⟩; exact ⟨hr.same0 hW, hc⟩
  have hA := SX.rd_some hr
  have hln : fl.length = n := by have := hr.1; rw [flL_len] at this; omega
  unfold tree_rche
  refine SX.E (.bool true) (fun α => ⟨[⟨.agg #[.int .i64 3, .int .i64 0, .string ⟨#[]⟩, .slice A n c], 0, []⟩], ⟨by kernel_rfl, by kernel_rfl, trivial⟩, .inl ⟨rfl, .slice A n c, fl, rfl, ⟨rfl, rfl, rfl⟩, by omega, rfl⟩, SX.noAli rfl⟩) ?_
  refine SX.D (.bool false) ?_
  refine SX.B false (fun h => nomatch h) (fun _ => ?_)
  refine SX.E (.int .i64 1) (fun α => ⟨[⟨.agg #[.int .i64 3, .int .i64 0, .string ⟨#[]⟩, .slice A n c], 0, []⟩], ⟨by kernel_rfl, by kernel_rfl, trivial⟩, .inr (⟨rfl, .slice A n c, fl, rfl, ⟨rfl, rfl, rfl⟩, by omega, rfl⟩), SX.noAli rfl⟩) ?_
  refine SX.D (.bool false) ?_
  refine SX.B false (fun h => nomatch h) (fun _ => ?_)
  exact SX.VC_ret fun α W _ _ hS => SX.ret_of hS (x := .int .i64 0) (by kernel_rfl) rfl
def RY3 (f : FuncId) (xs : List SX.Arg) (v : Value) : Prop :=
  (f = 60 ∧ ∃ u : Nat, u < 18446744073709551616 ∧ xs = [⟨.int .u64 (u : Int), 0, []⟩] ∧ v = .agg ((numB u).flatMap c8).toArray) ∨
  (f = 61 ∧ ∃ k : Int, xs = [⟨.int .i64 k, 0, []⟩] ∧ (-9223372036854775808 ≤ k ∧ k ≤ 9223372036854775807) ∧ v = .int .u64 (unsN k : Int))
def shpY3 : FuncId → Option SX.Sh := fun f => if f = 60 then some (.sl 1) else if f = 61 then some .one else none
noncomputable def cxY3 (K A : Value → Nat → List Value → Prop) : SX.Cx := { P := Tryd.prog, R := fun _ => RY3, shp := shpY3, K := K, A := A, bsr := true }
theorem okY3 (K A : Value → Nat → List Value → Prop) : (cxY3 K A).Ok := by
  refine SX.Cx.ok_of (fun _ => rfl) ?_
  intro K f xs v W hR hrd hKf
  rcases hR with ⟨rfl, u, hu, rfl, rfl⟩ | ⟨rfl, k, rfl, ⟨h1, h2⟩, rfl⟩
  · exact (rnumeral_any u hu W).mono fun e w' h => SX.SlRet.ok1 rfl h
  exact (runs_any k W h1 h2).mono fun e w' h => SX.plainOk rfl h
def tree_ren1 : SX.Tree :=
(.df (.call 61 [.no]) [(.x 0 [])] .one 
(.df (.call 60 [.no]) [(.x 1 [])] (.sl 1) 
(.df (.app 1 1 (.row 1 [(.x 2 [])])) [(.cat [(.a [(.k (.int .u8 1))])]), (.row 2)] .any 
(.ret (.row 3) [none, none, none, (some ⟨[(.a [(.k (.int .u8 1))]), (.x 3 [])], 5, (.row 1)⟩)] []))))
def args_ren1 : List SX.V := [.a [.k (.int .i64 1), .x 0 [], .k (.string ⟨#[]⟩), .k (.slice none 0 0)]]
set_option maxRecDepth 100000 in
theorem run_ren1 (K A : Value → Nat → List Value → Prop) : (SX.run (cxY3 K A) ⟨fun f => true, [], 2, 100⟩ 100000 0 (SX.door 52 Tryd.f52 args_ren1 [.one]) [.code (Tryd.f52.body.getD .skip), .top Tryd.f52]).strip = tree_ren1 := by kernel_rfl
set_option maxRecDepth 100000 in
set_option maxHeartbeats 4000000 in
theorem ren1_any (k : Int) (w : World) (h1 : -9223372036854775808 ≤ k) (h2 : k ≤ 9223372036854775807) : Calls Tryd.prog 52 #[.agg #[.int .i64 1, .int .i64 k, .string ⟨#[]⟩, .slice none 0 0]] w fun e w' => Below w.heap.size w w' ∧ ∃ hdr, e = .returned hdr ∧ SX.SlRet w w' [] hdr 1 ((encF (.n k)).flatMap c8) := by
  refine SX.calls_of_run (C := cxY3 (fun _ _ _ => False) (fun _ _ _ => False)) (G := ⟨fun f => true, [], 2, 100⟩) (args := args_ren1) (sh := [.one]) (ρ := [.int .i64 k]) 100000 tree_ren1 (okY3 _ _) Tryd.func52 rfl (run_ren1 _ _) (by kernel_rfl) (by kernel_rfl) (by kernel_rfl) ?_ ?_
  · exact fun W _ => SX.Kf_none (fun _ _ _ h => h) W
  unfold tree_ren1
  have hul := unsN_lt h1 h2
  have hlen := numB_len 9 (unsN k) (by omega)
  refine SX.E (.int .u64 (unsN k : Int)) (fun α => ⟨[⟨.int .i64 k, 0, []⟩], ⟨by kernel_rfl, by kernel_rfl, trivial⟩, .inr (⟨rfl, k, rfl, ⟨h1, h2⟩, rfl⟩), SX.noAli rfl⟩) ?_
  refine SX.VC_df (.agg ((numB (unsN k)).flatMap c8).toArray) (fun α => ⟨[⟨.int .u64 ((unsN k) : Int), 0, []⟩], ⟨by kernel_rfl, by kernel_rfl, trivial⟩, .inl ⟨rfl, (unsN k), hul, rfl, rfl⟩, SX.noAli rfl⟩) (enc8_fit _) ?_
  refine SX.VC_df (.agg ((numB (unsN k)).flatMap c8).toArray) (fun α => SX.app_rel (f := c8) (l1 := [1#8]) (l2 := numB (unsN k)) (fun _ => rfl) c8o (by decide) (by kernel_rfl) (SX.src_rw1 (by kernel_rfl)) (by simp only [LL]; omega) (by simp only [LL]; omega)) rfl ?_
  exact SX.VC_ret fun α W _ hrow hS => ⟨hS.below, _, by kernel_rfl, SX.SlRet.row hS (n := 3) (b := (⟨[(.a [(.k (.int .u8 1))]), (.x 3 [])], 5, (.row 1)⟩ : SX.Blk)) (by kernel_rfl) rfl (hrow 3 _ (by kernel_rfl)) (Eq.trans (b := [Value.agg #[w8 1#8], Value.agg ((numB (unsN k)).flatMap c8).toArray].flatMap SX.cellsV) (by kernel_rfl) (by simp [SX.cellsV, c8, encF]))⟩
def tree_ren2 : SX.Tree :=
(.df (.len true) [(.x 0 [])] .one 
(.df (.conv .u64) [(.x 1 [])] .one 
(.df (.call 60 [.no]) [(.x 2 [])] (.sl 1) 
(.df (.app 1 1 (.row 1 [(.x 3 [])])) [(.cat [(.a [(.k (.int .u8 2))])]), (.row 6)] .any 
(.df (.aps 1) [(.cat [(.a [(.k (.int .u8 2))]), (.x 4 [])]), (.x 0 [])] .any 
(.ret (.row 10) [none, none, none, none, none, none, none, none, none, none, (some ⟨[(.a [(.k (.int .u8 2))]), (.x 4 []), (.x 5 [])], 5, (.row 1)⟩), none] []))))))
def args_ren2 : List SX.V := [.a [.k (.int .i64 2), .k (.int .i64 0), .x 0 [], .k (.slice none 0 0)]]
set_option maxRecDepth 100000 in
theorem run_ren2 (K A : Value → Nat → List Value → Prop) : (SX.run (cxY3 K A) ⟨fun f => true, [], 2, 100⟩ 100000 0 (SX.door 52 Tryd.f52 args_ren2 [.one]) [.code (Tryd.f52.body.getD .skip), .top Tryd.f52]).strip = tree_ren2 := by kernel_rfl
set_option maxRecDepth 100000 in
set_option maxHeartbeats 4000000 in
theorem ren2_any (b : ByteArray) (w : World) (hb : b.size ≤ 1048576) : Calls Tryd.prog 52 #[.agg #[.int .i64 2, .int .i64 0, .string b, .slice none 0 0]] w fun e w' => Below w.heap.size w w' ∧ ∃ hdr, e = .returned hdr ∧ SX.SlRet w w' [] hdr 1 ((encF (.s b)).flatMap c8) := by
  refine SX.calls_of_run (C := cxY3 (fun _ _ _ => False) (fun _ _ _ => False)) (G := ⟨fun f => true, [], 2, 100⟩) (args := args_ren2) (sh := [.one]) (ρ := [.string b]) 100000 tree_ren2 (okY3 _ _) Tryd.func52 rfl (run_ren2 _ _) (by kernel_rfl) (by kernel_rfl) (by kernel_rfl) ?_ ?_
  · exact fun W _ => SX.Kf_none (fun _ _ _ h => h) W
  unfold tree_ren2
  have hlen := numB_len 9 b.size (by omega)
  have hcl : ∀ l : List W8, (l.flatMap c8).length = l.length := fun l => by induction l with
    | nil => rfl
    | cons a l ih => simp only [List.flatMap_cons, List.length_append, c8_len, List.length_cons, ih]; omega
  refine SX.D (.int .i64 (b.size : Int)) ?_
  refine SX.E (.int .u64 (b.size : Int)) (fun α => Eq.trans (b := some (.int .u64 (IntKind.u64.wrap (b.size : Int)))) (by kernel_rfl) (by rw [wrap_u]; congr 2; omega)) ?_
  refine SX.VC_df (.agg ((numB b.size).flatMap c8).toArray) (fun α => ⟨[⟨.int .u64 (b.size : Int), 0, []⟩], ⟨by kernel_rfl, by kernel_rfl, trivial⟩, .inl ⟨rfl, b.size, by omega, rfl, rfl⟩, SX.noAli rfl⟩) (enc8_fit _) ?_
  refine SX.VC_df (.agg ((numB b.size).flatMap c8).toArray) (fun α => SX.app_rel (f := c8) (l1 := [2#8]) (l2 := numB b.size) (fun _ => rfl) c8o (by decide) (by kernel_rfl) (SX.src_rw1 (by kernel_rfl)) (by simp only [LL]; omega) (by simp only [LL]; omega)) rfl ?_
  have hcc : [Value.agg #[w8 2#8], Value.agg ((numB b.size).flatMap c8).toArray].flatMap SX.cellsV = ([2#8] ++ numB b.size).flatMap c8 := by simp [SX.cellsV, c8]
  refine SX.VC_df (Value.agg ((sb b).flatMap c8).toArray) (fun α => ⟨b, by kernel_rfl, ?_, ?_, by rw [sb_cells]⟩) rfl ?_
  · rw [show SX.cellsV _ = (([2#8] ++ numB b.size).flatMap c8) from Eq.trans (b := [Value.agg #[w8 2#8], Value.agg ((numB b.size).flatMap c8).toArray].flatMap SX.cellsV) (by kernel_rfl) hcc, hcl]; simp only [LL]; omega
  · rw [show SX.cellsV _ = (([2#8] ++ numB b.size).flatMap c8) from Eq.trans (b := [Value.agg #[w8 2#8], Value.agg ((numB b.size).flatMap c8).toArray].flatMap SX.cellsV) (by kernel_rfl) hcc, hcl]; simp only [LL]; omega
  exact SX.VC_ret fun α W _ hrow hS => ⟨hS.below, _, by kernel_rfl, SX.SlRet.row hS (n := 10) (b := (⟨[(.a [(.k (.int .u8 2))]), (.x 4 []), (.x 5 [])], 5, (.row 1)⟩ : SX.Blk)) (by kernel_rfl) rfl (hrow 10 _ (by kernel_rfl)) (Eq.trans (b := [Value.agg #[w8 2#8], Value.agg ((numB b.size).flatMap c8).toArray, Value.agg ((sb b).flatMap c8).toArray].flatMap SX.cellsV) (by kernel_rfl) (by simp [SX.cellsV, c8, encF]))⟩
def RY4 (f : FuncId) (xs : List SX.Arg) (v : Value) : Prop :=
  (f = 60 ∧ ∃ u : Nat, u < 18446744073709551616 ∧ xs = [⟨.int .u64 (u : Int), 0, []⟩] ∧ v = .agg ((numB u).flatMap c8).toArray) ∨
  (f = 52 ∧ ∃ z : Fl, z.fits ∧ xs = [⟨valFl z, 0, []⟩] ∧ v = .agg ((encF z).flatMap c8).toArray)
def shpY4 : FuncId → Option SX.Sh := fun f => if f = 60 then some (.sl 1) else if f = 52 then some (.sl 1) else none
noncomputable def cxY4 (K A : Value → Nat → List Value → Prop) : SX.Cx := { P := Tryd.prog, R := fun _ => RY4, shp := shpY4, K := K, A := A, bsr := true }
theorem okY4 (K A : Value → Nat → List Value → Prop) : (cxY4 K A).Ok := by
  refine SX.Cx.ok_of (fun _ => rfl) ?_
  intro K f xs v W hR hrd hKf
  rcases hR with ⟨rfl, u, hu, rfl, rfl⟩ | ⟨rfl, z, hz, rfl, rfl⟩
  · exact (rnumeral_any u hu W).mono fun e w' h => SX.SlRet.ok1 rfl h
  cases z with
  | n k => exact (ren1_any k W hz.1 hz.2).mono fun e w' h => SX.SlRet.ok1 rfl h
  | s b => exact (ren2_any b W hz).mono fun e w' h => SX.SlRet.ok1 rfl h
def tree_ren3 : SX.Tree :=
(.df (.len false) [(.x 0 [])] .one 
(.df (.conv .u64) [(.x 1 [])] .one 
(.df (.call 60 [.no]) [(.x 2 [])] (.sl 1) 
(.df (.app 1 1 (.row 1 [(.x 3 [])])) [(.cat [(.a [(.k (.int .u8 3))])]), (.row 2)] .any 
(.loop [(.k (.int .i64 0)), (.cat [(.a [(.k (.int .u8 3))]), (.x 4 [])])] [.one, .any] 
(.df (.len false) [(.x 0 [])] .one 
(.df (.bin .lss 3) [(.x 5 []), (.x 7 [])] .one 
(.br 8 [] 
(.df .bnd [(.x 0 []), (.x 5 [])] .one 
(.df (.elems 4 0 4) [(.x 0 []), (.x 5 [])] (.ag 4) 
(.df (.call 52 [.no]) [(.a [(.x 10 [0]), (.x 10 [1]), (.x 10 [2]), (.x 10 [3])])] (.sl 1) 
(.df (.app 1 1 (.row 1 [(.x 11 [])])) [(.cat [(.x 6 [])]), (.row 6)] .any 
(.df (.bin .add 3) [(.x 5 []), (.k (.int .i64 1))] .one 
(.again 0 [(.x 13 []), (.cat [(.x 6 []), (.x 12 [])])])))))) 
(.ret (.row 5) [none, none, none, none, none, (some ⟨[(.x 6 [])], 5, (.row 1)⟩)] [])))))))))
def args_ren3 : List SX.V := [.a [.k (.int .i64 3), .k (.int .i64 0), .k (.string ⟨#[]⟩), .x 0 []]]
set_option maxRecDepth 100000 in
theorem run_ren3 (K A : Value → Nat → List Value → Prop) : (SX.run (cxY4 K A) ⟨fun f => f != 52, [⟨52, 8, [(.s 4, .one), (.s 3, .row 1 5)]⟩], 2, 100⟩ 100000 0 (SX.door 52 Tryd.f52 args_ren3 [.one]) [.code (Tryd.f52.body.getD .skip), .top Tryd.f52]).strip = tree_ren3 := by kernel_rfl
set_option maxRecDepth 100000 in
set_option maxHeartbeats 4000000 in
theorem ren3_any (fl : List Fl) (A : Option Addr) (n c : Nat) (w : World) (hr : Rd w 4 A n (flL fl)) (hn : n ≤ 1048576) (hc : n ≤ c) (hfit : ∀ z ∈ fl, z.fits) : Calls Tryd.prog 52 #[.agg #[.int .i64 3, .int .i64 0, .string ⟨#[]⟩, .slice A n c]] w fun e w' => Below w.heap.size w w' ∧ ∃ hdr, e = .returned hdr ∧ SX.SlRet w w' [] hdr 1 ((encL fl).flatMap c8) := by
  refine SX.calls_of_run (C := cxY4 (fun s sz cells => s = .slice A n c ∧ sz = 4 ∧ cells = flL fl) (fun _ _ _ => False)) (G := ⟨fun f => f != 52, [⟨52, 8, [(.s 4, .one), (.s 3, .row 1 5)]⟩], 2, 100⟩) (args := args_ren3) (sh := [.one]) (ρ := [.slice A n c]) 100000 tree_ren3 (okY4 _ _) Tryd.func52 rfl (run_ren3 _ _) (by kernel_rfl) (by kernel_rfl) (by kernel_rfl) ?_ ?_
  · rintro W hW s sz cells ⟨rfl, rfl, rfl⟩; exact ⟨hr.same0 hW, hc⟩
  have hA := SX.rd_some hr
  have hln : fl.length = n := by have := hr.1; rw [flL_len] at this; omega
  have hN := numB_len 9 n (by omega)
  unfold tree_ren3
  refine SX.D (.int .i64 (n : Int)) ?_
  refine SX.E (.int .u64 (n : Int)) (fun α => Eq.trans (b := some (.int .u64 (IntKind.u64.wrap (n : Int)))) (by kernel_rfl) (by rw [wrap_u]; congr 2; omega)) ?_
  refine SX.VC_df (.agg ((numB n).flatMap c8).toArray) (fun α => ⟨[⟨.int .u64 (n : Int), 0, []⟩], ⟨by kernel_rfl, by kernel_rfl, trivial⟩, .inl ⟨rfl, n, by omega, rfl, rfl⟩, SX.noAli rfl⟩) (enc8_fit _) ?_
  refine SX.VC_df (.agg ((numB n).flatMap c8).toArray) (fun α => SX.app_rel (f := c8) (l1 := [3#8]) (l2 := numB n) (fun _ => rfl) c8o (by decide) (by kernel_rfl) (SX.src_rw1 (by kernel_rfl)) (by simp only [LL]; omega) (by simp only [LL]; omega)) rfl ?_
  refine SX.VC_loop (fun xs => ∃ (i : Nat), xs = [.int .i64 (i : Int), .agg (([3#8] ++ numB n ++ (fl.take i).flatMap encF).flatMap c8).toArray] ∧ i ≤ n) (fun xs => match xs with | .int _ i :: _ => n - i.toNat | _ => 0) (fun α => ⟨0, Eq.trans (b := [.int .i64 0, .agg ([Value.agg #[w8 3#8], Value.agg ((numB n).flatMap c8).toArray].flatMap SX.cellsV).toArray]) (by kernel_rfl) (by simp [SX.cellsV, c8]), by omega⟩) ?_
  rintro xs - ⟨i, rfl, hin⟩
  have hEl := encL_len (l := fl.take i) (fun z hz => hfit z (List.mem_of_mem_take hz))
  have hEi : (fl.take i).length ≤ n := by rw [List.length_take]; omega
  obtain ⟨acc, hacc⟩ : ∃ acc, [3#8] ++ numB n ++ (fl.take i).flatMap encF = acc := ⟨_, rfl⟩
  have hal : acc.length ≤ 1099600000000 := by
    rw [← hacc]; simp only [LL]; omega
  rw [hacc]
  refine SX.D (.int .i64 (n : Int)) ?_
  refine SX.D (.bool (decide ((i : Int) < (n : Int)))) ?_
  refine SX.B (decide ((i : Int) < (n : Int))) (fun h4 => ?_) (fun h4 => ?_)
  · have h4 : i < n := by have := of_decide_eq_true h4; omega
    obtain ⟨z, hz⟩ : ∃ z, fl[i]? = some z := ⟨_, List.getElem?_eq_getElem (by omega)⟩
    have hzf := hfit z (List.mem_of_getElem? hz)
    have hzl := encF_len hzf
    have htk : [3#8] ++ numB n ++ (fl.take (i + 1)).flatMap encF = acc ++ encF z := by rw [List.take_add_one, hz, ← hacc]; simp
    refine SX.E (.bool true) (fun α => SX.extBnd (A := A) (n := n) (c := c) (j := i) hA (by kernel_rfl) (by kernel_rfl) h4) ?_
    refine SX.VC_df (valFl z) (fun α => SX.extElems (f := cellsFl) (l := fl) (A := A) (n := n) (c := c) (j := i) (z := z) cellsFl_len hA (by kernel_rfl) (by kernel_rfl) h4 ⟨rfl, rfl, rfl⟩ hz) (by cases z <;> rfl) ?_
    refine SX.VC_df (.agg ((encF z).flatMap c8).toArray) (fun α => ⟨[⟨valFl z, 0, []⟩], ⟨(by cases z <;> kernel_rfl), by kernel_rfl, trivial⟩, .inr (⟨rfl, z, hzf, rfl, rfl⟩), SX.noAli rfl⟩) (enc8_fit _) ?_
    refine SX.VC_df (.agg ((encF z).flatMap c8).toArray) (fun α => SX.app_rel (f := c8) (l1 := acc) (l2 := encF z) (fun _ => rfl) c8o (by decide) (SX.cat1 (by kernel_rfl)) (SX.src_rw1 (by kernel_rfl)) (by omega) (by omega)) rfl ?_
    refine SX.E (.int .i64 ((i + 1 : Nat) : Int)) (fun α => SX.W1 i) ?_
    exact SX.VC_again fun α => ⟨⟨i + 1, Eq.trans (b := [.int .i64 ((i + 1 : Nat) : Int), .agg ([Value.agg (acc.flatMap c8).toArray, Value.agg ((encF z).flatMap c8).toArray].flatMap SX.cellsV).toArray]) (by kernel_rfl) (by rw [htk]; simp [SX.cellsV]), by omega⟩, cast (by kernel_rfl) (show n - ((i + 1 : Nat) : Int).toNat < n - (i : Int).toNat by omega)⟩
  have h4 : i = n := by have := of_decide_eq_false h4; omega
  have he : acc = encL fl := by rw [← hacc, List.take_of_length_le (by omega)]; unfold encL; rw [hln]; simp
  rw [← he]
  exact SX.VC_ret fun α W _ hrow hS => ⟨hS.below, _, by kernel_rfl, SX.SlRet.row hS (n := 5) (b := (⟨[(.x 6 [])], 5, (.row 1)⟩ : SX.Blk)) (by kernel_rfl) rfl (hrow 5 _ (by kernel_rfl)) (Eq.trans (b := [Value.agg (acc.flatMap c8).toArray].flatMap SX.cellsV) (by kernel_rfl) (by simp [SX.cellsV]))⟩
def RY5 (K : Value → Nat → List Value → Prop) (f : FuncId) (xs : List SX.Arg) (v : Value) : Prop :=
  (f = 51 ∧ ∃ (u : Value) (fl : List Fl), xs = [⟨.agg #[.int .i64 3, .int .i64 0, .string ⟨#[]⟩, u], 0, []⟩] ∧ K u 4 (flL fl) ∧ fl.length ≤ 1048576 ∧ (∀ z ∈ fl, z.fits) ∧ v = .int .i64 0) ∨
  (f = 52 ∧ ∃ (u : Value) (fl : List Fl), xs = [⟨.agg #[.int .i64 3, .int .i64 0, .string ⟨#[]⟩, u], 0, []⟩] ∧ K u 4 (flL fl) ∧ fl.length ≤ 1048576 ∧ (∀ z ∈ fl, z.fits) ∧ v = .agg ((encL fl).flatMap c8).toArray)
def shpY5 : FuncId → Option SX.Sh := fun f => if f = 51 then some .one else if f = 52 then some (.sl 1) else none
noncomputable def cxY5 (K A : Value → Nat → List Value → Prop) : SX.Cx := { P := Tryd.prog, R := RY5, shp := shpY5, K := K, A := A }
theorem okY5 (K A : Value → Nat → List Value → Prop) : (cxY5 K A).Ok := by
  refine SX.Cx.ok_of (fun _ => rfl) ?_
  intro K f xs v W hR hrd hKf
  rcases hR with ⟨rfl, u, fl, rfl, hku, hl, hfit, rfl⟩ | ⟨rfl, u, fl, rfl, hku, hl, hfit, rfl⟩
  · obtain ⟨A, n, c, rfl, h2, h3, h4⟩ := fl_arg (hKf u 4 (flL fl) hku)
    exact (rcheck_any fl A n c W h2 (by omega) h3).mono fun e w' h => SX.plainOk rfl h
  obtain ⟨A, n, c, rfl, h2, h3, h4⟩ := fl_arg (hKf u 4 (flL fl) hku)
  exact (ren3_any fl A n c W h2 (by omega) h3 hfit).mono fun e w' h => SX.SlRet.ok1 rfl h
def tree_renc : SX.Tree :=
(.df (.call 51 [.no]) [(.a [(.k (.int .i64 3)), (.k (.int .i64 0)), (.k (.string ⟨#[]⟩)), (.x 0 [])])] .one 
(.df (.bin .neq 26) [(.x 1 []), (.k (.int .i64 0))] .one 
(.br 2 [] 
(.ret (.t [(.k (.slice none 0 0)), (.x 1 [])]) [none] []) 
(.df (.call 52 [.no]) [(.a [(.k (.int .i64 3)), (.k (.int .i64 0)), (.k (.string ⟨#[]⟩)), (.x 0 [])])] (.sl 1) 
(.ret (.t [(.row 1), (.k (.int .i64 0))]) [none, (some ⟨[(.x 3 [])], 0, (.ext 1)⟩)] [])))))
def args_renc : List SX.V := [.a [.k (.int .i64 3), .k (.int .i64 0), .k (.string ⟨#[]⟩), .x 0 []]]
set_option maxRecDepth 100000 in
theorem run_renc (K A : Value → Nat → List Value → Prop) : (SX.run (cxY5 K A) ⟨fun f => true, [], 2, 100⟩ 100000 0 (SX.door 38 Tryd.f38 args_renc [.one]) [.code (Tryd.f38.body.getD .skip), .top Tryd.f38]).strip = tree_renc := by kernel_rfl
set_option maxRecDepth 100000 in
set_option maxHeartbeats 4000000 in
theorem rencode_any (fl : List Fl) (A : Option Addr) (n c : Nat) (w : World) (hr : Rd w 4 A n (flL fl)) (hn : n ≤ 1048576) (hc : n ≤ c) (hfit : ∀ z ∈ fl, z.fits) : Calls Tryd.prog 38 #[.agg #[.int .i64 3, .int .i64 0, .string ⟨#[]⟩, .slice A n c]] w fun e w' => Below w.heap.size w w' ∧ ∃ hdr, e = .returned (.tuple #[hdr, .int .i64 0]) ∧ SX.SlRet w w' [] hdr 1 ((encL fl).flatMap c8) := by
  refine SX.calls_of_run (C := cxY5 (fun s sz cells => s = .slice A n c ∧ sz = 4 ∧ cells = flL fl) (fun _ _ _ => False)) (G := ⟨fun f => true, [], 2, 100⟩) (args := args_renc) (sh := [.one]) (ρ := [.slice A n c]) 100000 tree_renc (okY5 _ _) Tryd.func38 rfl (run_renc _ _) (by kernel_rfl) (by kernel_rfl) (by kernel_rfl) ?_ ?_
  · rintro W hW s sz cells ⟨rfl, rfl, rfl⟩; exact ⟨hr.same0 hW, hc⟩
  have hA := SX.rd_some hr
  have hln : fl.length = n := by have := hr.1; rw [flL_len] at this; omega
  unfold tree_renc
  refine SX.E (.int .i64 0) (fun α => ⟨[⟨.agg #[.int .i64 3, .int .i64 0, .string ⟨#[]⟩, .slice A n c], 0, []⟩], ⟨by kernel_rfl, by kernel_rfl, trivial⟩, .inl ⟨rfl, .slice A n c, fl, rfl, ⟨rfl, rfl, rfl⟩, by omega, hfit, rfl⟩, SX.noAli rfl⟩) ?_
  refine SX.D (.bool false) ?_
  refine SX.B false (fun h => nomatch h) (fun _ => ?_)
  refine SX.VC_df (.agg ((encL fl).flatMap c8).toArray) (fun α => ⟨[⟨.agg #[.int .i64 3, .int .i64 0, .string ⟨#[]⟩, .slice A n c], 0, []⟩], ⟨by kernel_rfl, by kernel_rfl, trivial⟩, .inr (⟨rfl, .slice A n c, fl, rfl, ⟨rfl, rfl, rfl⟩, by omega, hfit, rfl⟩), SX.noAli rfl⟩) (enc8_fit _) ?_
  exact SX.VC_ret fun α W _ hR hS => ⟨hS.below, (α 1).h, by kernel_rfl, SX.SlRet.ext0 hS (n := 1) (b := (⟨[(.x 3 [])], 0, (.ext 1)⟩ : SX.Blk)) (by kernel_rfl) rfl (hR 1 _ (by kernel_rfl)) (Eq.trans (b := [Value.agg ((encL fl).flatMap c8).toArray].flatMap SX.cellsV) (by kernel_rfl) (by simp [SX.cellsV])) (fun W2 s z xs hk => nomatch hk) (fun B s z xs hk => nomatch hk)⟩
theorem ch_eq (e f g : W32) : g ^^^ (e &&& (f ^^^ g)) = (e &&& f) ^^^ (~~~e &&& g) := by
  apply BitVec.eq_of_getLsbD_eq
  intro i hi
  simp only [BitVec.getLsbD_xor, BitVec.getLsbD_and, BitVec.getLsbD_not]
  cases e.getLsbD i <;> cases f.getLsbD i <;> cases g.getLsbD i <;> simp [hi]
theorem maj_eq (a b c : W32) : (a &&& b) ||| (c &&& (a ||| b)) = (a &&& b) ^^^ (a &&& c) ^^^ (b &&& c) := by
  apply BitVec.eq_of_getLsbD_eq
  intro i hi
  simp only [BitVec.getLsbD_xor, BitVec.getLsbD_and, BitVec.getLsbD_or]
  cases a.getLsbD i <;> cases b.getLsbD i <;> cases c.getLsbD i <;> rfl
def rword (a b c d : W8) : W32 := a.setWidth 32 <<< 24 ||| b.setWidth 32 <<< 16 ||| c.setWidth 32 <<< 8 ||| d.setWidth 32
theorem rword_eq (a b c d : W8) : rword a b c d = wordOf a b c d := by
  unfold wordOf rword
  have h0 : (0 : W32) <<< (8 + 8 + 8) = 0 := rfl
  simp only [BitVec.shiftLeft_or_distrib, ← BitVec.shiftLeft_add, h0]
  rw [show ∀ x : W32, (0 : W32) ||| x = x from fun x => BitVec.zero_or]
def rorE (x : W32) (n : Nat) : W32 := x >>> n ||| x <<< (32 - n)
theorem rorE_rot (x : W32) {n : Nat} {k : Int} (hk : turnOf k = 32 - n) (hn : n < 32) : rorE x n = rotL x (turnOf k) := by
  unfold rorE rotL
  rw [hk, show 32 - (32 - n) = n by omega, BitVec.or_comm]
def rsig (x : W32) (a b c : Nat) : W32 := rorE x a ^^^ rorE x b ^^^ rorE x c
theorem rsig_e (x : W32) : rsig x 6 11 25 = sig x 6 11 25 := by
  unfold rsig sig
  rw [rorE_rot x (n := 6) (k := -6) rfl (by omega), rorE_rot x (n := 11) (k := -11) rfl (by omega), rorE_rot x (n := 25) (k := -25) rfl (by omega)]
theorem rsig_a (x : W32) : rsig x 2 13 22 = sig x 2 13 22 := by
  unfold rsig sig
  rw [rorE_rot x (n := 2) (k := -2) rfl (by omega), rorE_rot x (n := 13) (k := -13) rfl (by omega), rorE_rot x (n := 22) (k := -22) rfl (by omega)]
def rnextW (u : List W32) (t : Nat) : W32 := u.getD (t - 16) 0 + (rorE (u.getD (t - 15) 0) 7 ^^^ rorE (u.getD (t - 15) 0) 18 ^^^ u.getD (t - 15) 0 >>> 3) + u.getD (t - 7) 0 + (rorE (u.getD (t - 2) 0) 17 ^^^ rorE (u.getD (t - 2) 0) 19 ^^^ u.getD (t - 2) 0 >>> 10)
theorem rnextW_eq (u : List W32) (t : Nat) : rnextW u t = nextW u t := by
  unfold rnextW nextW
  rw [rorE_rot _ (n := 7) (k := -7) rfl (by omega), rorE_rot _ (n := 18) (k := -18) rfl (by omega), rorE_rot _ (n := 17) (k := -17) rfl (by omega), rorE_rot _ (n := 19) (k := -19) rfl (by omega)]
def S8.rp (s : S8) (k w : W32) : W32 := s.h + rsig s.e 6 11 25 + ((s.e &&& s.f) ^^^ (~~~s.e &&& s.g)) + k + w
def S8.rq (s : S8) : W32 := rsig s.a 2 13 22 + ((s.a &&& s.b) ^^^ (s.a &&& s.c) ^^^ (s.b &&& s.c))
theorem rrnd_eq (s : S8) (k w : W32) : s.rnd k w = ⟨s.rp k w + s.rq, s.a, s.b, s.c, s.d + s.rp k w, s.e, s.f, s.g⟩ := by
  have hp : s.p k w = s.rp k w := by unfold S8.p S8.rp; rw [rsig_e, ch_eq]
  have hq : s.q = s.rq := by unfold S8.q S8.rq; rw [rsig_a, maj_eq]
  unfold S8.rnd
  rw [hp, hq]
def padN (n : Nat) : Nat := (119 - n % 64) % 64
def padR (l : List W8) : List W8 := l ++ [128] ++ List.replicate (padN l.length) 0 ++ be64 (8 * l.length)
theorem absAll_append (s : S8) (l t : List W8) : absAll s (l ++ t) = absAll (absAll s l).1 ((absAll s l).2 ++ t) := by
  induction hn : l.length using Nat.strongRecOn generalizing s l with
  | _ n ih =>
    by_cases h : 64 ≤ l.length
    · rw [absAll_ge h, absAll_ge (by rw [List.length_append]; omega), List.take_append_of_le_length h, List.drop_append_of_le_length h]
      exact ih _ (by rw [List.length_drop]; omega) _ _ rfl
    rw [absAll_lt h]
theorem absAll_rest (s : S8) (l : List W8) : (absAll s l).2.length = l.length % 64 := by
  induction hn : l.length using Nat.strongRecOn generalizing s l with
  | _ n ih =>
    by_cases h : 64 ≤ l.length
    · rw [absAll_ge h, ih _ (by rw [List.length_drop]; omega) _ _ rfl, List.length_drop, hn]; omega
    rw [absAll_lt h]; show l.length = _; omega
theorem absAll_one {s : S8} {l : List W8} (h : l.length = 64) : (absAll s l).1 = absorbE s l := by
  rw [absAll_ge (by omega), List.take_of_length_le (by omega), absAll_lt (by rw [List.length_drop]; omega)]
theorem absAll_two {s : S8} {l t : List W8} (h : l.length = 64) (ht : t.length = 64) : (absAll s (l ++ t)).1 = absorbE (absorbE s l) t := by
  rw [absAll_ge (by rw [List.length_append]; omega), List.take_left' h, List.drop_left' h, absAll_one ht]
theorem marked_eq (r : List W8) (h : r.length < 64) : marked r = r ++ [128] ++ List.replicate (63 - r.length) 0 := by
  unfold marked
  rw [List.set_append_right _ _ (Nat.le_refl _), Nat.sub_self, show 64 - r.length = (63 - r.length) + 1 by omega, List.replicate_succ, List.set_cons_zero, List.append_assoc, List.singleton_append]
theorem endS_eq (s : S8) (r : List W8) (n : Nat) (h : r.length = n % 64) : endS s r n = (absAll s (r ++ [128] ++ List.replicate (padN n) 0 ++ be64 (8 * n))).1 := by
  have hr : r.length < 64 := by omega
  have hb : (be64 (8 * n)).length = 8 := rfl
  unfold endS padN
  by_cases h55 : 55 < r.length
  · rw [if_pos h55]
    have e : (119 - n % 64) % 64 = (63 - r.length) + 56 := by omega
    rw [e, ← List.replicate_append_replicate, ← List.append_assoc, List.append_assoc, ← marked_eq r hr, absAll_two]
    · rw [marked_eq r hr]; simp; omega
    simp [hb]
  rw [if_neg h55]
  have e : (119 - n % 64) % 64 = 55 - r.length := by omega
  have e2 : (marked r).take 56 = r ++ [128] ++ List.replicate (55 - r.length) 0 := by
    rw [marked_eq r hr, show 63 - r.length = (55 - r.length) + 8 by omega, ← List.replicate_append_replicate, ← List.append_assoc]
    exact List.take_left' (by simp; omega)
  rw [e, ← e2, absAll_one]
  rw [List.length_append, hb, e2]; simp; omega
theorem sumE_eq (l : List W8) : sumE l = outS (absAll startS (padR l)).1 := by
  unfold sumE padR
  rw [endS_eq _ _ _ (absAll_rest _ _)]
  simp only [List.append_assoc]
  rw [absAll_append startS l]
theorem padR_len (l : List W8) : (padR l).length % 64 = 0 := by
  unfold padR padN
  simp only [List.length_append, List.length_replicate, List.length_cons, List.length_nil, show (be64 (8 * l.length)).length = 8 from rfl]
  omega
def args_rror : List SX.V := [.x 0 [], .x 1 []]
def tree_rror : SX.Tree :=
(.df (.bin .shr 70) [(.q 0), (.q 1)] .one
(.df (.bin .sub 3) [(.i 32), (.q 1)] .one
(.df (.bin .shl 70) [(.q 0), (.q 3)] .one
(.df (.bin .or 70) [(.q 2), (.q 4)] .one
(.ret (.q 5) [] [])))))
set_option maxRecDepth 100000 in
theorem run_rror (K A : Value → Nat → List Value → Prop) : (SX.run (cx0 K A) ⟨fun _ => false, [], 0, 100⟩ 100000 0 (SX.door 63 Tryd.f63 args_rror [.one, .one]) [.code (Tryd.f63.body.getD .skip), .top Tryd.f63]).strip = tree_rror := by kernel_rfl
set_option maxRecDepth 100000 in
theorem rror_any (x : W32) (n : Nat) (h0 : 0 < n) (hn : n < 32) (w : World) : Calls Tryd.prog 63 #[w32 x, .int .i64 (n : Int)] w fun e w' => e = .returned (w32 (rorE x n)) ∧ Below w.heap.size w w' := by
  refine SX.calls_of_run (C := cx0 (fun _ _ _ => False) (fun _ _ _ => False)) (G := ⟨fun _ => false, [], 0, 100⟩) (args := args_rror) (sh := [.one, .one]) (ρ := [w32 x, .int .i64 (n : Int)]) 100000 tree_rror (cx0_ok _ _) Tryd.func63 rfl (cast (by kernel_rfl) (run_rror (fun _ _ _ => False) (fun _ _ _ => False))) (by kernel_rfl) (by kernel_rfl) (by kernel_rfl) (fun _ _ _ _ _ h => h.elim) ?_
  unfold tree_rror
  refine SX.E (w32 (x >>> n)) (fun α => cast (by kernel_rfl) (w_shr x .i64 n hn)) ?_
  refine SX.E (.int .i64 ((32 - n : Nat) : Int)) (fun α => cast (by kernel_rfl) (i_sub' (a := 32) (b := n) (d := 32 - n) (by omega) (by omega))) ?_
  refine SX.E (w32 (x <<< (32 - n))) (fun α => cast (by kernel_rfl) (w_shl x .i64 (32 - n) (by omega))) ?_
  refine SX.E (w32 (rorE x n)) (fun α => cast (by kernel_rfl) (w_or (x >>> n) (x <<< (32 - n)))) ?_
  exact SX.VC_ret fun α W _ _ hS => SX.ret_of hS (x := w32 (rorE x n)) (by kernel_rfl) rfl
def args_rword : List SX.V := [.x 0 []]
def tree_rword : SX.Tree :=
(.df .bnd [(.q 0), (.i 0)] .one
(.df (.elem 1 0) [(.q 0), (.i 0)] .one
(.df (.conv .u32) [(.q 2)] .one
(.df (.bin .shl 70) [(.q 3), (.k (.int .u64 24))] .one
(.df .bnd [(.q 0), (.i 1)] .one
(.df (.elem 1 0) [(.q 0), (.i 1)] .one
(.df (.conv .u32) [(.q 6)] .one
(.df (.bin .shl 70) [(.q 7), (.k (.int .u64 16))] .one
(.df (.bin .or 70) [(.q 4), (.q 8)] .one
(.df .bnd [(.q 0), (.i 2)] .one
(.df (.elem 1 0) [(.q 0), (.i 2)] .one
(.df (.conv .u32) [(.q 11)] .one
(.df (.bin .shl 70) [(.q 12), (.k (.int .u64 8))] .one
(.df (.bin .or 70) [(.q 9), (.q 13)] .one
(.df .bnd [(.q 0), (.i 3)] .one
(.df (.elem 1 0) [(.q 0), (.i 3)] .one
(.df (.conv .u32) [(.q 16)] .one
(.df (.bin .or 70) [(.q 14), (.q 17)] .one
(.ret (.q 18) [] [])))))))))))))))))))
set_option maxRecDepth 100000 in
theorem run_rword (K A : Value → Nat → List Value → Prop) : (SX.run (cx0 K A) ⟨fun _ => false, [], 0, 100⟩ 100000 0 (SX.door 62 Tryd.f62 args_rword [.any]) [.code (Tryd.f62.body.getD .skip), .top Tryd.f62]).strip = tree_rword := by kernel_rfl
set_option maxRecDepth 100000 in
theorem rword_any (b0 b1 b2 b3 : W8) (A : Option Addr) (n c : Nat) (w : World) (hr : Rd w 1 A n ([b0, b1, b2, b3].flatMap c8)) (hc : n ≤ c) : Calls Tryd.prog 62 #[.slice A n c] w fun e w' => e = .returned (w32 (rword b0 b1 b2 b3)) ∧ Below w.heap.size w w' := by
  obtain rfl : 4 = n := by have := hr.1; rw [SX.flat_len c8_len] at this; simpa using this
  have hA := SX.rd_some hr
  refine SX.calls_of_run (C := cx0 (fun v z xs => v = .slice A 4 c ∧ z = 1 ∧ xs = [b0, b1, b2, b3].flatMap c8) (fun _ _ _ => False)) (G := ⟨fun _ => false, [], 0, 100⟩) (args := args_rword) (sh := [.any]) (ρ := [.slice A 4 c]) 100000 tree_rword (cx0_ok _ _) Tryd.func62 rfl (cast (by kernel_rfl) (run_rword (fun v z xs => v = .slice A 4 c ∧ z = 1 ∧ xs = [b0, b1, b2, b3].flatMap c8) (fun _ _ _ => False))) (by kernel_rfl) (by kernel_rfl) (by kernel_rfl) (fun W hW v z xs ⟨h1, h2, h3⟩ => by subst h1; subst h2; subst h3; exact ⟨hr.same0 hW, hc⟩) ?_
  unfold tree_rword
  refine SX.E (.bool true) (fun α => SX.extBnd (A := A) (n := 4) (c := c) (j := 0) hA (by kernel_rfl) (by kernel_rfl) (by omega)) ?_
  refine SX.E (w8 b0) (fun α => SX.extElem (f := c8) (l := [b0, b1, b2, b3]) (A := A) (n := 4) (c := c) (j := 0) (z := b0) c8_len hA (by kernel_rfl) (by kernel_rfl) (by omega) ⟨rfl, rfl, rfl⟩ rfl (by omega) rfl) ?_
  refine SX.E (w32 (b0.setWidth 32)) (fun α => cast (by kernel_rfl) (w_conv8 b0)) ?_
  refine SX.E (w32 ((b0.setWidth 32 : W32) <<< 24)) (fun α => cast (by kernel_rfl) (w_shl (b0.setWidth 32 : W32) .u64 24 (by omega))) ?_
  refine SX.E (.bool true) (fun α => SX.extBnd (A := A) (n := 4) (c := c) (j := 1) hA (by kernel_rfl) (by kernel_rfl) (by omega)) ?_
  refine SX.E (w8 b1) (fun α => SX.extElem (f := c8) (l := [b0, b1, b2, b3]) (A := A) (n := 4) (c := c) (j := 1) (z := b1) c8_len hA (by kernel_rfl) (by kernel_rfl) (by omega) ⟨rfl, rfl, rfl⟩ rfl (by omega) rfl) ?_
  refine SX.E (w32 (b1.setWidth 32)) (fun α => cast (by kernel_rfl) (w_conv8 b1)) ?_
  refine SX.E (w32 ((b1.setWidth 32 : W32) <<< 16)) (fun α => cast (by kernel_rfl) (w_shl (b1.setWidth 32 : W32) .u64 16 (by omega))) ?_
  refine SX.E (w32 (((b0.setWidth 32 : W32) <<< 24) ||| ((b1.setWidth 32 : W32) <<< 16))) (fun α => cast (by kernel_rfl) (w_or ((b0.setWidth 32 : W32) <<< 24) ((b1.setWidth 32 : W32) <<< 16))) ?_
  refine SX.E (.bool true) (fun α => SX.extBnd (A := A) (n := 4) (c := c) (j := 2) hA (by kernel_rfl) (by kernel_rfl) (by omega)) ?_
  refine SX.E (w8 b2) (fun α => SX.extElem (f := c8) (l := [b0, b1, b2, b3]) (A := A) (n := 4) (c := c) (j := 2) (z := b2) c8_len hA (by kernel_rfl) (by kernel_rfl) (by omega) ⟨rfl, rfl, rfl⟩ rfl (by omega) rfl) ?_
  refine SX.E (w32 (b2.setWidth 32)) (fun α => cast (by kernel_rfl) (w_conv8 b2)) ?_
  refine SX.E (w32 ((b2.setWidth 32 : W32) <<< 8)) (fun α => cast (by kernel_rfl) (w_shl (b2.setWidth 32 : W32) .u64 8 (by omega))) ?_
  refine SX.E (w32 ((((b0.setWidth 32 : W32) <<< 24) ||| ((b1.setWidth 32 : W32) <<< 16)) ||| ((b2.setWidth 32 : W32) <<< 8))) (fun α => cast (by kernel_rfl) (w_or (((b0.setWidth 32 : W32) <<< 24) ||| ((b1.setWidth 32 : W32) <<< 16)) ((b2.setWidth 32 : W32) <<< 8))) ?_
  refine SX.E (.bool true) (fun α => SX.extBnd (A := A) (n := 4) (c := c) (j := 3) hA (by kernel_rfl) (by kernel_rfl) (by omega)) ?_
  refine SX.E (w8 b3) (fun α => SX.extElem (f := c8) (l := [b0, b1, b2, b3]) (A := A) (n := 4) (c := c) (j := 3) (z := b3) c8_len hA (by kernel_rfl) (by kernel_rfl) (by omega) ⟨rfl, rfl, rfl⟩ rfl (by omega) rfl) ?_
  refine SX.E (w32 (b3.setWidth 32)) (fun α => cast (by kernel_rfl) (w_conv8 b3)) ?_
  refine SX.E (w32 (((((b0.setWidth 32 : W32) <<< 24) ||| ((b1.setWidth 32 : W32) <<< 16)) ||| ((b2.setWidth 32 : W32) <<< 8)) ||| (b3.setWidth 32 : W32))) (fun α => cast (by kernel_rfl) (w_or ((((b0.setWidth 32 : W32) <<< 24) ||| ((b1.setWidth 32 : W32) <<< 16)) ||| ((b2.setWidth 32 : W32) <<< 8)) (b3.setWidth 32 : W32))) ?_
  exact SX.VC_ret fun α W _ _ hS => SX.ret_of hS (x := w32 (rword b0 b1 b2 b3)) (by kernel_rfl) rfl
def args_rnums : List SX.V := []
def tree_rnums : SX.Tree :=
(.ret (.a [(.k (.int .u32 1116352408)), (.k (.int .u32 1899447441)), (.k (.int .u32 3049323471)), (.k (.int .u32 3921009573)), (.k (.int .u32 961987163)), (.k (.int .u32 1508970993)), (.k (.int .u32 2453635748)), (.k (.int .u32 2870763221)), (.k (.int .u32 3624381080)), (.k (.int .u32 310598401)), (.k (.int .u32 607225278)), (.k (.int .u32 1426881987)), (.k (.int .u32 1925078388)), (.k (.int .u32 2162078206)), (.k (.int .u32 2614888103)), (.k (.int .u32 3248222580)), (.k (.int .u32 3835390401)), (.k (.int .u32 4022224774)), (.k (.int .u32 264347078)), (.k (.int .u32 604807628)), (.k (.int .u32 770255983)), (.k (.int .u32 1249150122)), (.k (.int .u32 1555081692)), (.k (.int .u32 1996064986)), (.k (.int .u32 2554220882)), (.k (.int .u32 2821834349)), (.k (.int .u32 2952996808)), (.k (.int .u32 3210313671)), (.k (.int .u32 3336571891)), (.k (.int .u32 3584528711)), (.k (.int .u32 113926993)), (.k (.int .u32 338241895)), (.k (.int .u32 666307205)), (.k (.int .u32 773529912)), (.k (.int .u32 1294757372)), (.k (.int .u32 1396182291)), (.k (.int .u32 1695183700)), (.k (.int .u32 1986661051)), (.k (.int .u32 2177026350)), (.k (.int .u32 2456956037)), (.k (.int .u32 2730485921)), (.k (.int .u32 2820302411)), (.k (.int .u32 3259730800)), (.k (.int .u32 3345764771)), (.k (.int .u32 3516065817)), (.k (.int .u32 3600352804)), (.k (.int .u32 4094571909)), (.k (.int .u32 275423344)), (.k (.int .u32 430227734)), (.k (.int .u32 506948616)), (.k (.int .u32 659060556)), (.k (.int .u32 883997877)), (.k (.int .u32 958139571)), (.k (.int .u32 1322822218)), (.k (.int .u32 1537002063)), (.k (.int .u32 1747873779)), (.k (.int .u32 1955562222)), (.k (.int .u32 2024104815)), (.k (.int .u32 2227730452)), (.k (.int .u32 2361852424)), (.k (.int .u32 2428436474)), (.k (.int .u32 2756734187)), (.k (.int .u32 3204031479)), (.k (.int .u32 3329325298))]) [] [])
set_option maxRecDepth 100000 in
theorem run_rnums (K A : Value → Nat → List Value → Prop) : (SX.run (cx0 K A) ⟨fun _ => false, [], 0, 100⟩ 100000 0 (SX.door 64 Tryd.f64 args_rnums []) [.code (Tryd.f64.body.getD .skip), .top Tryd.f64]).strip = tree_rnums := by kernel_rfl
set_option maxRecDepth 100000 in
theorem rnums_any (w : World) : Calls Tryd.prog 64 #[] w fun e w' => e = .returned (.agg (numbersK.flatMap c32).toArray) ∧ Below w.heap.size w w' := by
  refine SX.calls_of_run (C := cx0 (fun _ _ _ => False) (fun _ _ _ => False)) (G := ⟨fun _ => false, [], 0, 100⟩) (args := args_rnums) (sh := []) (ρ := []) 100000 tree_rnums (cx0_ok _ _) Tryd.func64 rfl (cast (by kernel_rfl) (run_rnums (fun _ _ _ => False) (fun _ _ _ => False))) (by kernel_rfl) (by kernel_rfl) (by kernel_rfl) (fun _ _ _ _ _ h => h.elim) ?_
  unfold tree_rnums
  exact SX.VC_ret fun α W _ _ hS => SX.ret_of hS (x := .agg (numbersK.flatMap c32).toArray) (by kernel_rfl) rfl
def RorR (f : FuncId) (xs : List SX.Arg) (v : Value) : Prop := f = 63 ∧ ∃ (x : W32) (n : Nat), 0 < n ∧ n < 32 ∧ xs = [⟨w32 x, 0, []⟩, ⟨.int .i64 (n : Int), 0, []⟩] ∧ v = w32 (rorE x n)
def RwordR (f : FuncId) (xs : List SX.Arg) (v : Value) : Prop := f = 62 ∧ ∃ (u : Value) (l : List W8), l.length = 4 ∧ xs = [⟨u, 1, l.flatMap c8⟩] ∧ v = w32 (rword (l.getD 0 0) (l.getD 1 0) (l.getD 2 0) (l.getD 3 0))
def RnumsR (f : FuncId) (xs : List SX.Arg) (v : Value) : Prop := f = 64 ∧ xs = [] ∧ v = .agg (numbersK.flatMap c32).toArray
noncomputable def cxB (K A : Value → Nat → List Value → Prop) : SX.Cx := { P := Tryd.prog, R := fun _ f xs v => RorR f xs v ∨ RwordR f xs v ∨ RnumsR f xs v, shp := fun f => if f ∈ [63, 62] then some .one else if f = 64 then some (.ag 64) else none, K := K, A := A, arr := true, trm := true }
theorem cxB_ok (K A : Value → Nat → List Value → Prop) : (cxB K A).Ok := SX.Cx.ok_of (fun _ => rfl) fun _ f xs v W h hrd hK => by
  rcases h with ⟨rfl, x, n, h0, hn, rfl, rfl⟩ | ⟨rfl, u, l, hl, rfl, rfl⟩ | ⟨rfl, rfl, rfl⟩
  · exact (rror_any x n h0 hn W).mono fun e w' h => SX.plainOk rfl h
  · obtain ⟨A, n, c, rfl, hr, hc, hn⟩ := byte_arg (hrd ⟨u, 1, l.flatMap c8⟩ (List.mem_singleton_self _))
    have e : l = [l.getD 0 0, l.getD 1 0, l.getD 2 0, l.getD 3 0] := by rw [← take4 l (by omega), List.take_of_length_le (by omega)]
    rw [e] at hr
    exact (rword_any _ _ _ _ A n c W hr hc).mono fun e w' h => SX.plainOk rfl h
  exact (rnums_any W).mono fun e w' h => SX.plainOk rfl h
theorem slc_lh {C : SX.Cx} {ρ : List Value} {α : Nat → SX.AV} {s i i' : SX.V} {A : Option Addr} {n c lo hi sz : Nat} (hs : s.den ρ α = .slice A n c) (h1 : i.den ρ α = .int .i64 (lo : Int)) (h2 : i'.den ρ α = .int .i64 (hi : Int)) (hl : lo ≤ hi) (hh : hi ≤ c) : SX.Opq.rel C ρ α (.slc false sz true true false) [s, i, i'] (SX.subS A sz lo hi c) := by
  show SX.slcV _ _ _ _ _ _ = _
  simp only [SX.denL, hs, h1, h2, SX.slcV, SX.optsV, Option.bind_some, SX.boundsV, SX.bndV]
  rw [if_pos (by omega)]
  simp only [Option.bind_some, Int.toNat_natCast]
  rw [if_pos (by omega)]
  simp [SX.subS]
theorem w_cpl (x : W32) : SX.cplV (w32 x) = some (w32 (~~~x)) := by
  have h : (BitVec.ofInt 32 (x.toNat : Int)) = x := by apply BitVec.eq_of_toNat_eq; simp
  show some (Value.int .u32 (IntKind.u32.wrap ((BitVec.ofInt 32 (4294967295 : Int) ^^^ BitVec.ofInt 32 (x.toNat : Int) : BitVec 32).toNat : Int))) = _
  rw [h, wrap_u32]
  have e : (BitVec.ofInt 32 (4294967295 : Int)) ^^^ x = ~~~x := by
    rw [show (BitVec.ofInt 32 (4294967295 : Int)) = BitVec.allOnes 32 from rfl, BitVec.allOnes_xor]
  rw [e, BitVec.ofNat_toNat, BitVec.setWidth_eq]
  rfl
theorem wordAt_r (l : List W8) (t : Nat) (h : 4 * t + 4 ≤ l.length) : rword (((l.drop (4 * t)).take 4).getD 0 0) (((l.drop (4 * t)).take 4).getD 1 0) (((l.drop (4 * t)).take 4).getD 2 0) (((l.drop (4 * t)).take 4).getD 3 0) = wordAt l t := by
  rw [rword_eq]
  unfold wordAt
  simp only [List.getD_eq_getElem?_getD, List.getElem?_take, List.getElem?_drop]
  rfl
def args_rblock : List SX.V := [.a ((List.range 8).map fun j => .x j []), .x 8 []]
def tree_rblock : SX.Tree :=
(.df (.slc false 1 true true false) [(.q 8), (.i 0), (.i 4)] .one
(.df (.call 62 [(.ext 1)]) [(.q 9)] .one
(.df (.slc false 1 true true false) [(.q 8), (.i 4), (.i 8)] .one
(.df (.call 62 [(.ext 1)]) [(.q 11)] .one
(.df (.slc false 1 true true false) [(.q 8), (.i 8), (.i 12)] .one
(.df (.call 62 [(.ext 1)]) [(.q 13)] .one
(.df (.slc false 1 true true false) [(.q 8), (.i 12), (.i 16)] .one
(.df (.call 62 [(.ext 1)]) [(.q 15)] .one
(.df (.slc false 1 true true false) [(.q 8), (.i 16), (.i 20)] .one
(.df (.call 62 [(.ext 1)]) [(.q 17)] .one
(.df (.slc false 1 true true false) [(.q 8), (.i 20), (.i 24)] .one
(.df (.call 62 [(.ext 1)]) [(.q 19)] .one
(.df (.slc false 1 true true false) [(.q 8), (.i 24), (.i 28)] .one
(.df (.call 62 [(.ext 1)]) [(.q 21)] .one
(.df (.slc false 1 true true false) [(.q 8), (.i 28), (.i 32)] .one
(.df (.call 62 [(.ext 1)]) [(.q 23)] .one
(.df (.slc false 1 true true false) [(.q 8), (.i 32), (.i 36)] .one
(.df (.call 62 [(.ext 1)]) [(.q 25)] .one
(.df (.slc false 1 true true false) [(.q 8), (.i 36), (.i 40)] .one
(.df (.call 62 [(.ext 1)]) [(.q 27)] .one
(.df (.slc false 1 true true false) [(.q 8), (.i 40), (.i 44)] .one
(.df (.call 62 [(.ext 1)]) [(.q 29)] .one
(.df (.slc false 1 true true false) [(.q 8), (.i 44), (.i 48)] .one
(.df (.call 62 [(.ext 1)]) [(.q 31)] .one
(.df (.slc false 1 true true false) [(.q 8), (.i 48), (.i 52)] .one
(.df (.call 62 [(.ext 1)]) [(.q 33)] .one
(.df (.slc false 1 true true false) [(.q 8), (.i 52), (.i 56)] .one
(.df (.call 62 [(.ext 1)]) [(.q 35)] .one
(.df (.slc false 1 true true false) [(.q 8), (.i 56), (.i 60)] .one
(.df (.call 62 [(.ext 1)]) [(.q 37)] .one
(.df (.slc false 1 true true false) [(.q 8), (.i 60), (.i 64)] .one
(.df (.call 62 [(.ext 1)]) [(.q 39)] .one
(.loop [(.i 16), (.q 10), (.q 12), (.q 14), (.q 16), (.q 18), (.q 20), (.q 22), (.q 24), (.q 26), (.q 28), (.q 30), (.q 32), (.q 34), (.q 36), (.q 38), (.q 40), (.k (.int .u32 0)), (.k (.int .u32 0)), (.k (.int .u32 0)), (.k (.int .u32 0)), (.k (.int .u32 0)), (.k (.int .u32 0)), (.k (.int .u32 0)), (.k (.int .u32 0)), (.k (.int .u32 0)), (.k (.int .u32 0)), (.k (.int .u32 0)), (.k (.int .u32 0)), (.k (.int .u32 0)), (.k (.int .u32 0)), (.k (.int .u32 0)), (.k (.int .u32 0)), (.k (.int .u32 0)), (.k (.int .u32 0)), (.k (.int .u32 0)), (.k (.int .u32 0)), (.k (.int .u32 0)), (.k (.int .u32 0)), (.k (.int .u32 0)), (.k (.int .u32 0)), (.k (.int .u32 0)), (.k (.int .u32 0)), (.k (.int .u32 0)), (.k (.int .u32 0)), (.k (.int .u32 0)), (.k (.int .u32 0)), (.k (.int .u32 0)), (.k (.int .u32 0)), (.k (.int .u32 0)), (.k (.int .u32 0)), (.k (.int .u32 0)), (.k (.int .u32 0)), (.k (.int .u32 0)), (.k (.int .u32 0)), (.k (.int .u32 0)), (.k (.int .u32 0)), (.k (.int .u32 0)), (.k (.int .u32 0)), (.k (.int .u32 0)), (.k (.int .u32 0)), (.k (.int .u32 0)), (.k (.int .u32 0)), (.k (.int .u32 0)), (.k (.int .u32 0))] [.one, .one, .one, .one, .one, .one, .one, .one, .one, .one, .one, .one, .one, .one, .one, .one, .one, .one, .one, .one, .one, .one, .one, .one, .one, .one, .one, .one, .one, .one, .one, .one, .one, .one, .one, .one, .one, .one, .one, .one, .one, .one, .one, .one, .one, .one, .one, .one, .one, .one, .one, .one, .one, .one, .one, .one, .one, .one, .one, .one, .one, .one, .one, .one, .one]
(.df (.bin .lss 3) [(.q 41), (.i 64)] .one
(.br 106 []
(.df (.bin .sub 3) [(.q 41), (.i 15)] .one
(.df .bnd [(.sl 2 0 64 64), (.q 107)] .one
(.df (.relem 1 0) [(.cat [(.a (SX.Z 42 64))]), (.q 107)] .one
(.df (.bin .sub 3) [(.q 41), (.i 2)] .one
(.df .bnd [(.sl 2 0 64 64), (.q 110)] .one
(.df (.relem 1 0) [(.cat [(.a (SX.Z 42 64))]), (.q 110)] .one
(.df (.bin .sub 3) [(.q 41), (.i 16)] .one
(.df .bnd [(.sl 2 0 64 64), (.q 113)] .one
(.df (.relem 1 0) [(.cat [(.a (SX.Z 42 64))]), (.q 113)] .one
(.df (.call 63 [.no, .no]) [(.q 109), (.i 7)] .one
(.df (.call 63 [.no, .no]) [(.q 109), (.i 18)] .one
(.df (.bin .xor 70) [(.q 116), (.q 117)] .one
(.df (.bin .shr 70) [(.q 109), (.k (.int .u64 3))] .one
(.df (.bin .xor 70) [(.q 118), (.q 119)] .one
(.df (.bin .add 70) [(.q 115), (.q 120)] .one
(.df (.bin .sub 3) [(.q 41), (.i 7)] .one
(.df .bnd [(.sl 2 0 64 64), (.q 122)] .one
(.df (.relem 1 0) [(.cat [(.a (SX.Z 42 64))]), (.q 122)] .one
(.df (.bin .add 70) [(.q 121), (.q 124)] .one
(.df (.call 63 [.no, .no]) [(.q 112), (.i 17)] .one
(.df (.call 63 [.no, .no]) [(.q 112), (.i 19)] .one
(.df (.bin .xor 70) [(.q 126), (.q 127)] .one
(.df (.bin .shr 70) [(.q 112), (.k (.int .u64 10))] .one
(.df (.bin .xor 70) [(.q 128), (.q 129)] .one
(.df (.bin .add 70) [(.q 125), (.q 130)] .one
(.df .bnd [(.sl 2 0 64 64), (.q 41)] .one
(.df (.rset 1 0) [(.cat [(.a (SX.Z 42 64))]), (.q 41), (.q 131)] (.ag 64)
(.df (.bin .add 3) [(.q 41), (.i 1)] .one
(.again 0 ([(.q 134)] ++ SX.Y 133 0 64))))))))))))))))))))))))))))))
(.df (.call 64 []) [] (.ag 64)
(.loop ([(.i 0)] ++ SX.Z 0 8) [.one, .one, .one, .one, .one, .one, .one, .one, .one]
(.df (.bin .lss 3) [(.q 108), (.i 64)] .one
(.br 117 []
(.df (.call 63 [.no, .no]) [(.q 113), (.i 6)] .one
(.df (.call 63 [.no, .no]) [(.q 113), (.i 11)] .one
(.df (.bin .xor 70) [(.q 118), (.q 119)] .one
(.df (.call 63 [.no, .no]) [(.q 113), (.i 25)] .one
(.df (.bin .xor 70) [(.q 120), (.q 121)] .one
(.df (.bin .add 70) [(.q 116), (.q 122)] .one
(.df (.bin .and 70) [(.q 113), (.q 114)] .one
(.df .cpl [(.q 113)] .one
(.df (.bin .and 70) [(.q 125), (.q 115)] .one
(.df (.bin .xor 70) [(.q 124), (.q 126)] .one
(.df (.bin .add 70) [(.q 123), (.q 127)] .one
(.df .bnd [(.sl 68 0 64 64), (.q 108)] .one
(.df (.relem 1 0) [(.cat [(.a (SX.Y 107 0 64))]), (.q 108)] .one
(.df (.bin .add 70) [(.q 128), (.q 130)] .one
(.df .bnd [(.sl 2 0 64 64), (.q 108)] .one
(.df (.relem 1 0) [(.cat [(.a (SX.Z 42 64))]), (.q 108)] .one
(.df (.bin .add 70) [(.q 131), (.q 133)] .one
(.df (.call 63 [.no, .no]) [(.q 109), (.i 2)] .one
(.df (.call 63 [.no, .no]) [(.q 109), (.i 13)] .one
(.df (.bin .xor 70) [(.q 135), (.q 136)] .one
(.df (.call 63 [.no, .no]) [(.q 109), (.i 22)] .one
(.df (.bin .xor 70) [(.q 137), (.q 138)] .one
(.df (.bin .and 70) [(.q 109), (.q 110)] .one
(.df (.bin .and 70) [(.q 109), (.q 111)] .one
(.df (.bin .xor 70) [(.q 140), (.q 141)] .one
(.df (.bin .and 70) [(.q 110), (.q 111)] .one
(.df (.bin .xor 70) [(.q 142), (.q 143)] .one
(.df (.bin .add 70) [(.q 139), (.q 144)] .one
(.df (.bin .add 70) [(.q 112), (.q 134)] .one
(.df (.bin .add 70) [(.q 134), (.q 145)] .one
(.df (.bin .add 3) [(.q 108), (.i 1)] .one
(.again 1 ([(.q 148), (.q 147)] ++ SX.Z 109 3 ++ [(.q 146)] ++ SX.Z 113 3)))))))))))))))))))))))))))))))))
(.df (.bin .add 70) [(.q 0), (.q 109)] .one
(.df (.bin .add 70) [(.q 1), (.q 110)] .one
(.df (.bin .add 70) [(.q 2), (.q 111)] .one
(.df (.bin .add 70) [(.q 3), (.q 112)] .one
(.df (.bin .add 70) [(.q 4), (.q 113)] .one
(.df (.bin .add 70) [(.q 5), (.q 114)] .one
(.df (.bin .add 70) [(.q 6), (.q 115)] .one
(.df (.bin .add 70) [(.q 7), (.q 116)] .one
(.ret (.a (SX.Z 118 8)) [] []))))))))))))))))))))))))))))))))))))))))))))))))
set_option maxRecDepth 100000 in
theorem run_rblock (K A : Value → Nat → List Value → Prop) : (SX.run (cxB K A) ⟨fun _ => false, [⟨57, 7, ([(.s 7, .one)] ++ (List.range 64).map fun j => (.c 12 j, .one))⟩, ⟨57, 7, ([(.s 7, .one)] ++ (List.range 64).map fun j => (.c 11 j, .one))⟩, ⟨57, 7, ([(.s 7, .one)] ++ (List.range 64).map fun j => (.c 10 j, .one))⟩, ⟨57, 7, ([(.s 7, .one)] ++ (List.range 64).map fun j => (.c 9 j, .one))⟩, ⟨57, 7, ([(.s 7, .one)] ++ (List.range 64).map fun j => (.c 8 j, .one))⟩, ⟨57, 7, ([(.s 7, .one)] ++ (List.range 64).map fun j => (.c 7 j, .one))⟩, ⟨57, 7, ([(.s 7, .one)] ++ (List.range 64).map fun j => (.c 6 j, .one))⟩, ⟨57, 7, ([(.s 7, .one)] ++ (List.range 64).map fun j => (.c 5 j, .one))⟩, ⟨57, 7, ([(.s 7, .one)] ++ (List.range 64).map fun j => (.c 4 j, .one))⟩, ⟨57, 7, ([(.s 7, .one)] ++ (List.range 64).map fun j => (.c 3 j, .one))⟩, ⟨57, 7, ([(.s 7, .one)] ++ (List.range 64).map fun j => (.c 2 j, .one))⟩, ⟨57, 7, ([(.s 7, .one)] ++ (List.range 64).map fun j => (.c 1 j, .one))⟩, ⟨57, 15, [(.s 19, .one), (.s 11, .one), (.s 12, .one), (.s 13, .one), (.s 14, .one), (.s 15, .one), (.s 16, .one), (.s 17, .one), (.s 18, .one)]⟩], 0, 100⟩ 100000 0 (SX.door 57 Tryd.f57 args_rblock (List.replicate 8 .one ++ [.any])) [.code (Tryd.f57.body.getD .skip), .top Tryd.f57]).strip = tree_rblock := by kernel_rfl
set_option maxRecDepth 100000 in
set_option maxHeartbeats 4000000 in
theorem rblock_any (s : S8) (l : List W8) (hl : l.length = 64) (A : Option Addr) (n c : Nat) (w : World) (hr : Rd w 1 A n (l.flatMap c8)) (hc : n ≤ c) : Calls Tryd.prog 57 #[.agg s.cells.toArray, .slice A n c] w fun e w' => e = .returned (.agg (absorbE s l).cells.toArray) ∧ Below w.heap.size w w' := by
  obtain rfl : n = 64 := by have := hr.1; rw [SX.flat_len c8_len] at this; omega
  refine SX.calls_of_run (C := cxB (SX.SubK A 64 c 1 (l.flatMap c8)) (fun _ _ _ => False)) (G := ⟨fun _ => false, [⟨57, 7, ([(.s 7, .one)] ++ (List.range 64).map fun j => (.c 12 j, .one))⟩, ⟨57, 7, ([(.s 7, .one)] ++ (List.range 64).map fun j => (.c 11 j, .one))⟩, ⟨57, 7, ([(.s 7, .one)] ++ (List.range 64).map fun j => (.c 10 j, .one))⟩, ⟨57, 7, ([(.s 7, .one)] ++ (List.range 64).map fun j => (.c 9 j, .one))⟩, ⟨57, 7, ([(.s 7, .one)] ++ (List.range 64).map fun j => (.c 8 j, .one))⟩, ⟨57, 7, ([(.s 7, .one)] ++ (List.range 64).map fun j => (.c 7 j, .one))⟩, ⟨57, 7, ([(.s 7, .one)] ++ (List.range 64).map fun j => (.c 6 j, .one))⟩, ⟨57, 7, ([(.s 7, .one)] ++ (List.range 64).map fun j => (.c 5 j, .one))⟩, ⟨57, 7, ([(.s 7, .one)] ++ (List.range 64).map fun j => (.c 4 j, .one))⟩, ⟨57, 7, ([(.s 7, .one)] ++ (List.range 64).map fun j => (.c 3 j, .one))⟩, ⟨57, 7, ([(.s 7, .one)] ++ (List.range 64).map fun j => (.c 2 j, .one))⟩, ⟨57, 7, ([(.s 7, .one)] ++ (List.range 64).map fun j => (.c 1 j, .one))⟩, ⟨57, 15, [(.s 19, .one), (.s 11, .one), (.s 12, .one), (.s 13, .one), (.s 14, .one), (.s 15, .one), (.s 16, .one), (.s 17, .one), (.s 18, .one)]⟩], 0, 100⟩) (args := args_rblock) (sh := (List.replicate 8 .one ++ [.any])) (ρ := [w32 s.a, w32 s.b, w32 s.c, w32 s.d, w32 s.e, w32 s.f, w32 s.g, w32 s.h, .slice A 64 c]) 100000 tree_rblock (cxB_ok _ _) Tryd.func57 rfl (cast (by kernel_rfl) (run_rblock (SX.SubK A 64 c 1 (l.flatMap c8)) (fun _ _ _ => False))) (by kernel_rfl) (by kernel_rfl) (by kernel_rfl) (fun W hW s z xs h => SX.SubK.rd (hr.same0 hW) h) ?_
  have part : ∀ t, t < 16 → SX.SubK A 64 c 1 (l.flatMap c8) (SX.subS A 1 (4 * t) (4 * t + 4) c) 1 (((l.drop (4 * t)).take 4).flatMap c8) := fun t ht => by
    have := SX.SubK.part c8_len (A := A) (n := 64) (c := c) (L := l) (l := 4 * t) (h := 4 * t + 4) (m := c) (by omega) (by omega) (by omega) (by omega)
    rwa [show 4 * t + 4 - 4 * t = 4 by omega] at this
  unfold tree_rblock
  refine SX.E (SX.subS A 1 0 4 c) (fun α => slc_lh (n := 64) (lo := 0) (hi := 4) (by kernel_rfl) (by kernel_rfl) (by kernel_rfl) (by omega) (by omega)) ?_
  refine SX.E (w32 (wordAt l 0)) (fun α => ⟨[⟨SX.subS A 1 0 4 c, 1, ((l.drop (4 * 0)).take 4).flatMap c8⟩], ⟨by kernel_rfl, rfl, cast (by kernel_rfl) (part 0 (by omega)), trivial⟩, .inr (.inl ⟨rfl, _, _, by rw [List.length_take, List.length_drop]; omega, rfl, by rw [wordAt_r l 0 (by omega)]⟩), SX.noAli rfl⟩) ?_
  refine SX.E (SX.subS A 1 4 8 c) (fun α => slc_lh (n := 64) (lo := 4) (hi := 8) (by kernel_rfl) (by kernel_rfl) (by kernel_rfl) (by omega) (by omega)) ?_
  refine SX.E (w32 (wordAt l 1)) (fun α => ⟨[⟨SX.subS A 1 4 8 c, 1, ((l.drop (4 * 1)).take 4).flatMap c8⟩], ⟨by kernel_rfl, rfl, cast (by kernel_rfl) (part 1 (by omega)), trivial⟩, .inr (.inl ⟨rfl, _, _, by rw [List.length_take, List.length_drop]; omega, rfl, by rw [wordAt_r l 1 (by omega)]⟩), SX.noAli rfl⟩) ?_
  refine SX.E (SX.subS A 1 8 12 c) (fun α => slc_lh (n := 64) (lo := 8) (hi := 12) (by kernel_rfl) (by kernel_rfl) (by kernel_rfl) (by omega) (by omega)) ?_
  refine SX.E (w32 (wordAt l 2)) (fun α => ⟨[⟨SX.subS A 1 8 12 c, 1, ((l.drop (4 * 2)).take 4).flatMap c8⟩], ⟨by kernel_rfl, rfl, cast (by kernel_rfl) (part 2 (by omega)), trivial⟩, .inr (.inl ⟨rfl, _, _, by rw [List.length_take, List.length_drop]; omega, rfl, by rw [wordAt_r l 2 (by omega)]⟩), SX.noAli rfl⟩) ?_
  refine SX.E (SX.subS A 1 12 16 c) (fun α => slc_lh (n := 64) (lo := 12) (hi := 16) (by kernel_rfl) (by kernel_rfl) (by kernel_rfl) (by omega) (by omega)) ?_
  refine SX.E (w32 (wordAt l 3)) (fun α => ⟨[⟨SX.subS A 1 12 16 c, 1, ((l.drop (4 * 3)).take 4).flatMap c8⟩], ⟨by kernel_rfl, rfl, cast (by kernel_rfl) (part 3 (by omega)), trivial⟩, .inr (.inl ⟨rfl, _, _, by rw [List.length_take, List.length_drop]; omega, rfl, by rw [wordAt_r l 3 (by omega)]⟩), SX.noAli rfl⟩) ?_
  refine SX.E (SX.subS A 1 16 20 c) (fun α => slc_lh (n := 64) (lo := 16) (hi := 20) (by kernel_rfl) (by kernel_rfl) (by kernel_rfl) (by omega) (by omega)) ?_
  refine SX.E (w32 (wordAt l 4)) (fun α => ⟨[⟨SX.subS A 1 16 20 c, 1, ((l.drop (4 * 4)).take 4).flatMap c8⟩], ⟨by kernel_rfl, rfl, cast (by kernel_rfl) (part 4 (by omega)), trivial⟩, .inr (.inl ⟨rfl, _, _, by rw [List.length_take, List.length_drop]; omega, rfl, by rw [wordAt_r l 4 (by omega)]⟩), SX.noAli rfl⟩) ?_
  refine SX.E (SX.subS A 1 20 24 c) (fun α => slc_lh (n := 64) (lo := 20) (hi := 24) (by kernel_rfl) (by kernel_rfl) (by kernel_rfl) (by omega) (by omega)) ?_
  refine SX.E (w32 (wordAt l 5)) (fun α => ⟨[⟨SX.subS A 1 20 24 c, 1, ((l.drop (4 * 5)).take 4).flatMap c8⟩], ⟨by kernel_rfl, rfl, cast (by kernel_rfl) (part 5 (by omega)), trivial⟩, .inr (.inl ⟨rfl, _, _, by rw [List.length_take, List.length_drop]; omega, rfl, by rw [wordAt_r l 5 (by omega)]⟩), SX.noAli rfl⟩) ?_
  refine SX.E (SX.subS A 1 24 28 c) (fun α => slc_lh (n := 64) (lo := 24) (hi := 28) (by kernel_rfl) (by kernel_rfl) (by kernel_rfl) (by omega) (by omega)) ?_
  refine SX.E (w32 (wordAt l 6)) (fun α => ⟨[⟨SX.subS A 1 24 28 c, 1, ((l.drop (4 * 6)).take 4).flatMap c8⟩], ⟨by kernel_rfl, rfl, cast (by kernel_rfl) (part 6 (by omega)), trivial⟩, .inr (.inl ⟨rfl, _, _, by rw [List.length_take, List.length_drop]; omega, rfl, by rw [wordAt_r l 6 (by omega)]⟩), SX.noAli rfl⟩) ?_
  refine SX.E (SX.subS A 1 28 32 c) (fun α => slc_lh (n := 64) (lo := 28) (hi := 32) (by kernel_rfl) (by kernel_rfl) (by kernel_rfl) (by omega) (by omega)) ?_
  refine SX.E (w32 (wordAt l 7)) (fun α => ⟨[⟨SX.subS A 1 28 32 c, 1, ((l.drop (4 * 7)).take 4).flatMap c8⟩], ⟨by kernel_rfl, rfl, cast (by kernel_rfl) (part 7 (by omega)), trivial⟩, .inr (.inl ⟨rfl, _, _, by rw [List.length_take, List.length_drop]; omega, rfl, by rw [wordAt_r l 7 (by omega)]⟩), SX.noAli rfl⟩) ?_
  refine SX.E (SX.subS A 1 32 36 c) (fun α => slc_lh (n := 64) (lo := 32) (hi := 36) (by kernel_rfl) (by kernel_rfl) (by kernel_rfl) (by omega) (by omega)) ?_
  refine SX.E (w32 (wordAt l 8)) (fun α => ⟨[⟨SX.subS A 1 32 36 c, 1, ((l.drop (4 * 8)).take 4).flatMap c8⟩], ⟨by kernel_rfl, rfl, cast (by kernel_rfl) (part 8 (by omega)), trivial⟩, .inr (.inl ⟨rfl, _, _, by rw [List.length_take, List.length_drop]; omega, rfl, by rw [wordAt_r l 8 (by omega)]⟩), SX.noAli rfl⟩) ?_
  refine SX.E (SX.subS A 1 36 40 c) (fun α => slc_lh (n := 64) (lo := 36) (hi := 40) (by kernel_rfl) (by kernel_rfl) (by kernel_rfl) (by omega) (by omega)) ?_
  refine SX.E (w32 (wordAt l 9)) (fun α => ⟨[⟨SX.subS A 1 36 40 c, 1, ((l.drop (4 * 9)).take 4).flatMap c8⟩], ⟨by kernel_rfl, rfl, cast (by kernel_rfl) (part 9 (by omega)), trivial⟩, .inr (.inl ⟨rfl, _, _, by rw [List.length_take, List.length_drop]; omega, rfl, by rw [wordAt_r l 9 (by omega)]⟩), SX.noAli rfl⟩) ?_
  refine SX.E (SX.subS A 1 40 44 c) (fun α => slc_lh (n := 64) (lo := 40) (hi := 44) (by kernel_rfl) (by kernel_rfl) (by kernel_rfl) (by omega) (by omega)) ?_
  refine SX.E (w32 (wordAt l 10)) (fun α => ⟨[⟨SX.subS A 1 40 44 c, 1, ((l.drop (4 * 10)).take 4).flatMap c8⟩], ⟨by kernel_rfl, rfl, cast (by kernel_rfl) (part 10 (by omega)), trivial⟩, .inr (.inl ⟨rfl, _, _, by rw [List.length_take, List.length_drop]; omega, rfl, by rw [wordAt_r l 10 (by omega)]⟩), SX.noAli rfl⟩) ?_
  refine SX.E (SX.subS A 1 44 48 c) (fun α => slc_lh (n := 64) (lo := 44) (hi := 48) (by kernel_rfl) (by kernel_rfl) (by kernel_rfl) (by omega) (by omega)) ?_
  refine SX.E (w32 (wordAt l 11)) (fun α => ⟨[⟨SX.subS A 1 44 48 c, 1, ((l.drop (4 * 11)).take 4).flatMap c8⟩], ⟨by kernel_rfl, rfl, cast (by kernel_rfl) (part 11 (by omega)), trivial⟩, .inr (.inl ⟨rfl, _, _, by rw [List.length_take, List.length_drop]; omega, rfl, by rw [wordAt_r l 11 (by omega)]⟩), SX.noAli rfl⟩) ?_
  refine SX.E (SX.subS A 1 48 52 c) (fun α => slc_lh (n := 64) (lo := 48) (hi := 52) (by kernel_rfl) (by kernel_rfl) (by kernel_rfl) (by omega) (by omega)) ?_
  refine SX.E (w32 (wordAt l 12)) (fun α => ⟨[⟨SX.subS A 1 48 52 c, 1, ((l.drop (4 * 12)).take 4).flatMap c8⟩], ⟨by kernel_rfl, rfl, cast (by kernel_rfl) (part 12 (by omega)), trivial⟩, .inr (.inl ⟨rfl, _, _, by rw [List.length_take, List.length_drop]; omega, rfl, by rw [wordAt_r l 12 (by omega)]⟩), SX.noAli rfl⟩) ?_
  refine SX.E (SX.subS A 1 52 56 c) (fun α => slc_lh (n := 64) (lo := 52) (hi := 56) (by kernel_rfl) (by kernel_rfl) (by kernel_rfl) (by omega) (by omega)) ?_
  refine SX.E (w32 (wordAt l 13)) (fun α => ⟨[⟨SX.subS A 1 52 56 c, 1, ((l.drop (4 * 13)).take 4).flatMap c8⟩], ⟨by kernel_rfl, rfl, cast (by kernel_rfl) (part 13 (by omega)), trivial⟩, .inr (.inl ⟨rfl, _, _, by rw [List.length_take, List.length_drop]; omega, rfl, by rw [wordAt_r l 13 (by omega)]⟩), SX.noAli rfl⟩) ?_
  refine SX.E (SX.subS A 1 56 60 c) (fun α => slc_lh (n := 64) (lo := 56) (hi := 60) (by kernel_rfl) (by kernel_rfl) (by kernel_rfl) (by omega) (by omega)) ?_
  refine SX.E (w32 (wordAt l 14)) (fun α => ⟨[⟨SX.subS A 1 56 60 c, 1, ((l.drop (4 * 14)).take 4).flatMap c8⟩], ⟨by kernel_rfl, rfl, cast (by kernel_rfl) (part 14 (by omega)), trivial⟩, .inr (.inl ⟨rfl, _, _, by rw [List.length_take, List.length_drop]; omega, rfl, by rw [wordAt_r l 14 (by omega)]⟩), SX.noAli rfl⟩) ?_
  refine SX.E (SX.subS A 1 60 64 c) (fun α => slc_lh (n := 64) (lo := 60) (hi := 64) (by kernel_rfl) (by kernel_rfl) (by kernel_rfl) (by omega) (by omega)) ?_
  refine SX.E (w32 (wordAt l 15)) (fun α => ⟨[⟨SX.subS A 1 60 64 c, 1, ((l.drop (4 * 15)).take 4).flatMap c8⟩], ⟨by kernel_rfl, rfl, cast (by kernel_rfl) (part 15 (by omega)), trivial⟩, .inr (.inl ⟨rfl, _, _, by rw [List.length_take, List.length_drop]; omega, rfl, by rw [wordAt_r l 15 (by omega)]⟩), SX.noAli rfl⟩) ?_
  refine SX.VC_loop (fun xs => ∃ k : Nat, xs = .int .i64 ((16 + k : Nat) : Int) :: (expd l k).map w32 ∧ k ≤ 48) (fun xs => match xs with | .int _ i :: _ => 64 - i.toNat | _ => 0) (fun α => ⟨0, Eq.trans (b := .int .i64 16 :: ([wordAt l 0, wordAt l 1, wordAt l 2, wordAt l 3, wordAt l 4, wordAt l 5, wordAt l 6, wordAt l 7, wordAt l 8, wordAt l 9, wordAt l 10, wordAt l 11, wordAt l 12, wordAt l 13, wordAt l 14, wordAt l 15, 0, 0, 0, 0, 0, 0, 0, 0, 0, 0, 0, 0, 0, 0, 0, 0, 0, 0, 0, 0, 0, 0, 0, 0, 0, 0, 0, 0, 0, 0, 0, 0, 0, 0, 0, 0, 0, 0, 0, 0, 0, 0, 0, 0, 0, 0, 0, 0] : List W32).map w32) (by kernel_rfl) (by rfl), by omega⟩) ?_
  rintro xs - ⟨k, rfl, hk⟩
  obtain ⟨g, hu⟩ := list64 (expd l k) (expd_len l k)
  have hL := expd_len l k
  rw [hu]
  refine SX.D (.bool (decide (((16 + k : Nat) : Int) < 64))) ?_
  refine SX.B (decide (((16 + k : Nat) : Int) < 64)) (fun hlt => ?_) (fun hge => ?_)
  · have hk2 : k < 48 := by simp only [decide_eq_true_eq] at hlt; omega
    refine SX.E (.int .i64 ((16 + k - 15 : Nat) : Int)) (fun α => cast (by kernel_rfl) (i_sub (a := 16 + k) (b := 15) (d := 16 + k - 15) (by omega) (by omega))) ?_
    refine SX.E (.bool true) (fun α => SX.extBnd (A := some ⟨(α 2).b, 0, none⟩) (n := 64) (c := 64) (j := (16 + k - 15)) (fun _ => rfl) rfl (by kernel_rfl) (by omega)) ?_
    refine SX.E (w32 ((expd l k).getD (16 + k - 15) 0)) (fun α => relemW (u := (expd l k)) (k := (16 + k - 15)) (by rw [hu]; kernel_rfl) (by kernel_rfl) (by rw [hL]; omega)) ?_
    refine SX.E (.int .i64 ((16 + k - 2 : Nat) : Int)) (fun α => cast (by kernel_rfl) (i_sub (a := 16 + k) (b := 2) (d := 16 + k - 2) (by omega) (by omega))) ?_
    refine SX.E (.bool true) (fun α => SX.extBnd (A := some ⟨(α 2).b, 0, none⟩) (n := 64) (c := 64) (j := (16 + k - 2)) (fun _ => rfl) rfl (by kernel_rfl) (by omega)) ?_
    refine SX.E (w32 ((expd l k).getD (16 + k - 2) 0)) (fun α => relemW (u := (expd l k)) (k := (16 + k - 2)) (by rw [hu]; kernel_rfl) (by kernel_rfl) (by rw [hL]; omega)) ?_
    refine SX.E (.int .i64 ((16 + k - 16 : Nat) : Int)) (fun α => cast (by kernel_rfl) (i_sub (a := 16 + k) (b := 16) (d := 16 + k - 16) (by omega) (by omega))) ?_
    refine SX.E (.bool true) (fun α => SX.extBnd (A := some ⟨(α 2).b, 0, none⟩) (n := 64) (c := 64) (j := (16 + k - 16)) (fun _ => rfl) rfl (by kernel_rfl) (by omega)) ?_
    refine SX.E (w32 ((expd l k).getD (16 + k - 16) 0)) (fun α => relemW (u := (expd l k)) (k := (16 + k - 16)) (by rw [hu]; kernel_rfl) (by kernel_rfl) (by rw [hL]; omega)) ?_
    refine SX.E (w32 (rorE ((expd l k).getD (16 + k - 15) 0) 7)) (fun α => ⟨[⟨w32 ((expd l k).getD (16 + k - 15) 0), 0, []⟩, ⟨.int .i64 7, 0, []⟩], ⟨by kernel_rfl, by kernel_rfl, by kernel_rfl, by kernel_rfl, trivial⟩, .inl ⟨rfl, ((expd l k).getD (16 + k - 15) 0), 7, by omega, by omega, rfl, rfl⟩, SX.noAli rfl⟩) ?_
    refine SX.E (w32 (rorE ((expd l k).getD (16 + k - 15) 0) 18)) (fun α => ⟨[⟨w32 ((expd l k).getD (16 + k - 15) 0), 0, []⟩, ⟨.int .i64 18, 0, []⟩], ⟨by kernel_rfl, by kernel_rfl, by kernel_rfl, by kernel_rfl, trivial⟩, .inl ⟨rfl, ((expd l k).getD (16 + k - 15) 0), 18, by omega, by omega, rfl, rfl⟩, SX.noAli rfl⟩) ?_
    refine SX.E (w32 ((rorE ((expd l k).getD (16 + k - 15) 0) 7) ^^^ (rorE ((expd l k).getD (16 + k - 15) 0) 18))) (fun α => cast (by kernel_rfl) (w_xor (rorE ((expd l k).getD (16 + k - 15) 0) 7) (rorE ((expd l k).getD (16 + k - 15) 0) 18))) ?_
    refine SX.E (w32 (((expd l k).getD (16 + k - 15) 0) >>> 3)) (fun α => cast (by kernel_rfl) (w_shr ((expd l k).getD (16 + k - 15) 0) .u64 3 (by omega))) ?_
    refine SX.E (w32 (((rorE ((expd l k).getD (16 + k - 15) 0) 7) ^^^ (rorE ((expd l k).getD (16 + k - 15) 0) 18)) ^^^ (((expd l k).getD (16 + k - 15) 0) >>> 3))) (fun α => cast (by kernel_rfl) (w_xor ((rorE ((expd l k).getD (16 + k - 15) 0) 7) ^^^ (rorE ((expd l k).getD (16 + k - 15) 0) 18)) (((expd l k).getD (16 + k - 15) 0) >>> 3))) ?_
    refine SX.E (w32 (((expd l k).getD (16 + k - 16) 0) + (((rorE ((expd l k).getD (16 + k - 15) 0) 7) ^^^ (rorE ((expd l k).getD (16 + k - 15) 0) 18)) ^^^ (((expd l k).getD (16 + k - 15) 0) >>> 3)))) (fun α => cast (by kernel_rfl) (w_add ((expd l k).getD (16 + k - 16) 0) (((rorE ((expd l k).getD (16 + k - 15) 0) 7) ^^^ (rorE ((expd l k).getD (16 + k - 15) 0) 18)) ^^^ (((expd l k).getD (16 + k - 15) 0) >>> 3)))) ?_
    refine SX.E (.int .i64 ((16 + k - 7 : Nat) : Int)) (fun α => cast (by kernel_rfl) (i_sub (a := 16 + k) (b := 7) (d := 16 + k - 7) (by omega) (by omega))) ?_
    refine SX.E (.bool true) (fun α => SX.extBnd (A := some ⟨(α 2).b, 0, none⟩) (n := 64) (c := 64) (j := (16 + k - 7)) (fun _ => rfl) rfl (by kernel_rfl) (by omega)) ?_
    refine SX.E (w32 ((expd l k).getD (16 + k - 7) 0)) (fun α => relemW (u := (expd l k)) (k := (16 + k - 7)) (by rw [hu]; kernel_rfl) (by kernel_rfl) (by rw [hL]; omega)) ?_
    refine SX.E (w32 ((((expd l k).getD (16 + k - 16) 0) + (((rorE ((expd l k).getD (16 + k - 15) 0) 7) ^^^ (rorE ((expd l k).getD (16 + k - 15) 0) 18)) ^^^ (((expd l k).getD (16 + k - 15) 0) >>> 3))) + ((expd l k).getD (16 + k - 7) 0))) (fun α => cast (by kernel_rfl) (w_add (((expd l k).getD (16 + k - 16) 0) + (((rorE ((expd l k).getD (16 + k - 15) 0) 7) ^^^ (rorE ((expd l k).getD (16 + k - 15) 0) 18)) ^^^ (((expd l k).getD (16 + k - 15) 0) >>> 3))) ((expd l k).getD (16 + k - 7) 0))) ?_
    refine SX.E (w32 (rorE ((expd l k).getD (16 + k - 2) 0) 17)) (fun α => ⟨[⟨w32 ((expd l k).getD (16 + k - 2) 0), 0, []⟩, ⟨.int .i64 17, 0, []⟩], ⟨by kernel_rfl, by kernel_rfl, by kernel_rfl, by kernel_rfl, trivial⟩, .inl ⟨rfl, ((expd l k).getD (16 + k - 2) 0), 17, by omega, by omega, rfl, rfl⟩, SX.noAli rfl⟩) ?_
    refine SX.E (w32 (rorE ((expd l k).getD (16 + k - 2) 0) 19)) (fun α => ⟨[⟨w32 ((expd l k).getD (16 + k - 2) 0), 0, []⟩, ⟨.int .i64 19, 0, []⟩], ⟨by kernel_rfl, by kernel_rfl, by kernel_rfl, by kernel_rfl, trivial⟩, .inl ⟨rfl, ((expd l k).getD (16 + k - 2) 0), 19, by omega, by omega, rfl, rfl⟩, SX.noAli rfl⟩) ?_
    refine SX.E (w32 ((rorE ((expd l k).getD (16 + k - 2) 0) 17) ^^^ (rorE ((expd l k).getD (16 + k - 2) 0) 19))) (fun α => cast (by kernel_rfl) (w_xor (rorE ((expd l k).getD (16 + k - 2) 0) 17) (rorE ((expd l k).getD (16 + k - 2) 0) 19))) ?_
    refine SX.E (w32 (((expd l k).getD (16 + k - 2) 0) >>> 10)) (fun α => cast (by kernel_rfl) (w_shr ((expd l k).getD (16 + k - 2) 0) .u64 10 (by omega))) ?_
    refine SX.E (w32 (((rorE ((expd l k).getD (16 + k - 2) 0) 17) ^^^ (rorE ((expd l k).getD (16 + k - 2) 0) 19)) ^^^ (((expd l k).getD (16 + k - 2) 0) >>> 10))) (fun α => cast (by kernel_rfl) (w_xor ((rorE ((expd l k).getD (16 + k - 2) 0) 17) ^^^ (rorE ((expd l k).getD (16 + k - 2) 0) 19)) (((expd l k).getD (16 + k - 2) 0) >>> 10))) ?_
    refine SX.E (w32 (((((expd l k).getD (16 + k - 16) 0) + (((rorE ((expd l k).getD (16 + k - 15) 0) 7) ^^^ (rorE ((expd l k).getD (16 + k - 15) 0) 18)) ^^^ (((expd l k).getD (16 + k - 15) 0) >>> 3))) + ((expd l k).getD (16 + k - 7) 0)) + (((rorE ((expd l k).getD (16 + k - 2) 0) 17) ^^^ (rorE ((expd l k).getD (16 + k - 2) 0) 19)) ^^^ (((expd l k).getD (16 + k - 2) 0) >>> 10)))) (fun α => cast (by kernel_rfl) (w_add ((((expd l k).getD (16 + k - 16) 0) + (((rorE ((expd l k).getD (16 + k - 15) 0) 7) ^^^ (rorE ((expd l k).getD (16 + k - 15) 0) 18)) ^^^ (((expd l k).getD (16 + k - 15) 0) >>> 3))) + ((expd l k).getD (16 + k - 7) 0)) (((rorE ((expd l k).getD (16 + k - 2) 0) 17) ^^^ (rorE ((expd l k).getD (16 + k - 2) 0) 19)) ^^^ (((expd l k).getD (16 + k - 2) 0) >>> 10)))) ?_
    refine SX.E (.bool true) (fun α => SX.extBnd (A := some ⟨(α 2).b, 0, none⟩) (n := 64) (c := 64) (j := (16 + k)) (fun _ => rfl) rfl (by kernel_rfl) (by omega)) ?_
    refine SX.VC_df (.agg (((expd l k).set (16 + k) (nextW (expd l k) (16 + k))).map w32).toArray) (fun α => by rw [← rnextW_eq]; exact rsetW (u := (expd l k)) (k := 16 + k) (y := rnextW (expd l k) (16 + k)) (by rw [hu]; kernel_rfl) (by kernel_rfl) (by kernel_rfl) (by rw [hL]; omega)) (fitW _ (by simp [expd_len])) ?_
    refine SX.E (.int .i64 ((16 + (k + 1) : Nat) : Int)) (fun α => cast (by kernel_rfl) (i_add (a := 16 + k) (b := 1) (d := 16 + (k + 1)) (by omega) (by omega))) ?_
    exact VC_again2 rfl (fun α => ⟨k + 1, again_den (v0 := .x 134 []) (m := 133) (N := 64) (by kernel_rfl) (by kernel_rfl) (by kernel_rfl) (by simp [expd_len]), by omega⟩) (fun α => cast (by kernel_rfl) (show 64 - (16 + (k + 1)) < 64 - (16 + k) by omega))
  obtain rfl : k = 48 := by simp only [decide_eq_false_iff_not] at hge; omega
  refine SX.E (.agg (numbersK.flatMap c32).toArray) (fun α => ⟨[], trivial, .inr (.inr ⟨rfl, rfl, rfl⟩), SX.noAli rfl⟩) ?_
  refine SX.VC_loop (fun xs => ∃ j : Nat, xs = .int .i64 (j : Int) :: (rnds (expd l 48) s j).cells ∧ j ≤ 64) (fun xs => match xs with | .int _ i :: _ => 64 - i.toNat | _ => 0) (fun α => ⟨0, by kernel_rfl, by omega⟩) ?_
  rintro xs - ⟨j, rfl, hj⟩
  generalize hv : rnds (expd l 48) s j = v
  refine SX.D (.bool (decide ((j : Int) < 64))) ?_
  refine SX.B (decide ((j : Int) < 64)) (fun hlt => ?_) (fun hge => ?_)
  · have hj2 : j < 64 := by simp only [decide_eq_true_eq] at hlt; omega
    obtain ⟨kn, hkn2⟩ : ∃ z, numbersK.getD j 0 = z := ⟨_, rfl⟩
    refine SX.E (w32 (rorE v.e 6)) (fun α => ⟨[⟨w32 v.e, 0, []⟩, ⟨.int .i64 6, 0, []⟩], ⟨by kernel_rfl, by kernel_rfl, by kernel_rfl, by kernel_rfl, trivial⟩, .inl ⟨rfl, v.e, 6, by omega, by omega, rfl, rfl⟩, SX.noAli rfl⟩) ?_
    refine SX.E (w32 (rorE v.e 11)) (fun α => ⟨[⟨w32 v.e, 0, []⟩, ⟨.int .i64 11, 0, []⟩], ⟨by kernel_rfl, by kernel_rfl, by kernel_rfl, by kernel_rfl, trivial⟩, .inl ⟨rfl, v.e, 11, by omega, by omega, rfl, rfl⟩, SX.noAli rfl⟩) ?_
    refine SX.E (w32 ((rorE v.e 6) ^^^ (rorE v.e 11))) (fun α => cast (by kernel_rfl) (w_xor (rorE v.e 6) (rorE v.e 11))) ?_
    refine SX.E (w32 (rorE v.e 25)) (fun α => ⟨[⟨w32 v.e, 0, []⟩, ⟨.int .i64 25, 0, []⟩], ⟨by kernel_rfl, by kernel_rfl, by kernel_rfl, by kernel_rfl, trivial⟩, .inl ⟨rfl, v.e, 25, by omega, by omega, rfl, rfl⟩, SX.noAli rfl⟩) ?_
    refine SX.E (w32 (((rorE v.e 6) ^^^ (rorE v.e 11)) ^^^ (rorE v.e 25))) (fun α => cast (by kernel_rfl) (w_xor ((rorE v.e 6) ^^^ (rorE v.e 11)) (rorE v.e 25))) ?_
    refine SX.E (w32 (v.h + (((rorE v.e 6) ^^^ (rorE v.e 11)) ^^^ (rorE v.e 25)))) (fun α => cast (by kernel_rfl) (w_add v.h (((rorE v.e 6) ^^^ (rorE v.e 11)) ^^^ (rorE v.e 25)))) ?_
    refine SX.E (w32 (v.e &&& v.f)) (fun α => cast (by kernel_rfl) (w_and v.e v.f)) ?_
    refine SX.E (w32 (~~~v.e)) (fun α => cast (by kernel_rfl) (w_cpl v.e)) ?_
    refine SX.E (w32 ((~~~v.e) &&& v.g)) (fun α => cast (by kernel_rfl) (w_and (~~~v.e) v.g)) ?_
    refine SX.E (w32 ((v.e &&& v.f) ^^^ ((~~~v.e) &&& v.g))) (fun α => cast (by kernel_rfl) (w_xor (v.e &&& v.f) ((~~~v.e) &&& v.g))) ?_
    refine SX.E (w32 ((v.h + (((rorE v.e 6) ^^^ (rorE v.e 11)) ^^^ (rorE v.e 25))) + ((v.e &&& v.f) ^^^ ((~~~v.e) &&& v.g)))) (fun α => cast (by kernel_rfl) (w_add (v.h + (((rorE v.e 6) ^^^ (rorE v.e 11)) ^^^ (rorE v.e 25))) ((v.e &&& v.f) ^^^ ((~~~v.e) &&& v.g)))) ?_
    refine SX.E (.bool true) (fun α => SX.extBnd (A := some ⟨(α 68).b, 0, none⟩) (n := 64) (c := 64) (j := j) (fun _ => rfl) rfl (by kernel_rfl) (by omega)) ?_
    refine SX.E (w32 kn) (fun α => by rw [← hkn2]; exact relemW (u := numbersK) (k := j) (by kernel_rfl) (by kernel_rfl) hj2) ?_
    refine SX.E (w32 (((v.h + (((rorE v.e 6) ^^^ (rorE v.e 11)) ^^^ (rorE v.e 25))) + ((v.e &&& v.f) ^^^ ((~~~v.e) &&& v.g))) + kn)) (fun α => cast (by kernel_rfl) (w_add ((v.h + (((rorE v.e 6) ^^^ (rorE v.e 11)) ^^^ (rorE v.e 25))) + ((v.e &&& v.f) ^^^ ((~~~v.e) &&& v.g))) kn)) ?_
    refine SX.E (.bool true) (fun α => SX.extBnd (A := some ⟨(α 2).b, 0, none⟩) (n := 64) (c := 64) (j := j) (fun _ => rfl) rfl (by kernel_rfl) (by omega)) ?_
    refine SX.E (w32 ((expd l 48).getD j 0)) (fun α => relemW (u := (expd l 48)) (k := j) (by rw [hu]; kernel_rfl) (by kernel_rfl) (by rw [hL]; omega)) ?_
    refine SX.E (w32 ((((v.h + (((rorE v.e 6) ^^^ (rorE v.e 11)) ^^^ (rorE v.e 25))) + ((v.e &&& v.f) ^^^ ((~~~v.e) &&& v.g))) + kn) + ((expd l 48).getD j 0))) (fun α => cast (by kernel_rfl) (w_add (((v.h + (((rorE v.e 6) ^^^ (rorE v.e 11)) ^^^ (rorE v.e 25))) + ((v.e &&& v.f) ^^^ ((~~~v.e) &&& v.g))) + kn) ((expd l 48).getD j 0))) ?_
    refine SX.E (w32 (rorE v.a 2)) (fun α => ⟨[⟨w32 v.a, 0, []⟩, ⟨.int .i64 2, 0, []⟩], ⟨by kernel_rfl, by kernel_rfl, by kernel_rfl, by kernel_rfl, trivial⟩, .inl ⟨rfl, v.a, 2, by omega, by omega, rfl, rfl⟩, SX.noAli rfl⟩) ?_
    refine SX.E (w32 (rorE v.a 13)) (fun α => ⟨[⟨w32 v.a, 0, []⟩, ⟨.int .i64 13, 0, []⟩], ⟨by kernel_rfl, by kernel_rfl, by kernel_rfl, by kernel_rfl, trivial⟩, .inl ⟨rfl, v.a, 13, by omega, by omega, rfl, rfl⟩, SX.noAli rfl⟩) ?_
    refine SX.E (w32 ((rorE v.a 2) ^^^ (rorE v.a 13))) (fun α => cast (by kernel_rfl) (w_xor (rorE v.a 2) (rorE v.a 13))) ?_
    refine SX.E (w32 (rorE v.a 22)) (fun α => ⟨[⟨w32 v.a, 0, []⟩, ⟨.int .i64 22, 0, []⟩], ⟨by kernel_rfl, by kernel_rfl, by kernel_rfl, by kernel_rfl, trivial⟩, .inl ⟨rfl, v.a, 22, by omega, by omega, rfl, rfl⟩, SX.noAli rfl⟩) ?_
    refine SX.E (w32 (((rorE v.a 2) ^^^ (rorE v.a 13)) ^^^ (rorE v.a 22))) (fun α => cast (by kernel_rfl) (w_xor ((rorE v.a 2) ^^^ (rorE v.a 13)) (rorE v.a 22))) ?_
    refine SX.E (w32 (v.a &&& v.b)) (fun α => cast (by kernel_rfl) (w_and v.a v.b)) ?_
    refine SX.E (w32 (v.a &&& v.c)) (fun α => cast (by kernel_rfl) (w_and v.a v.c)) ?_
    refine SX.E (w32 ((v.a &&& v.b) ^^^ (v.a &&& v.c))) (fun α => cast (by kernel_rfl) (w_xor (v.a &&& v.b) (v.a &&& v.c))) ?_
    refine SX.E (w32 (v.b &&& v.c)) (fun α => cast (by kernel_rfl) (w_and v.b v.c)) ?_
    refine SX.E (w32 (((v.a &&& v.b) ^^^ (v.a &&& v.c)) ^^^ (v.b &&& v.c))) (fun α => cast (by kernel_rfl) (w_xor ((v.a &&& v.b) ^^^ (v.a &&& v.c)) (v.b &&& v.c))) ?_
    refine SX.E (w32 ((((rorE v.a 2) ^^^ (rorE v.a 13)) ^^^ (rorE v.a 22)) + (((v.a &&& v.b) ^^^ (v.a &&& v.c)) ^^^ (v.b &&& v.c)))) (fun α => cast (by kernel_rfl) (w_add (((rorE v.a 2) ^^^ (rorE v.a 13)) ^^^ (rorE v.a 22)) (((v.a &&& v.b) ^^^ (v.a &&& v.c)) ^^^ (v.b &&& v.c)))) ?_
    refine SX.E (w32 (v.d + ((((v.h + (((rorE v.e 6) ^^^ (rorE v.e 11)) ^^^ (rorE v.e 25))) + ((v.e &&& v.f) ^^^ ((~~~v.e) &&& v.g))) + kn) + ((expd l 48).getD j 0)))) (fun α => cast (by kernel_rfl) (w_add v.d ((((v.h + (((rorE v.e 6) ^^^ (rorE v.e 11)) ^^^ (rorE v.e 25))) + ((v.e &&& v.f) ^^^ ((~~~v.e) &&& v.g))) + kn) + ((expd l 48).getD j 0)))) ?_
    refine SX.E (w32 (((((v.h + (((rorE v.e 6) ^^^ (rorE v.e 11)) ^^^ (rorE v.e 25))) + ((v.e &&& v.f) ^^^ ((~~~v.e) &&& v.g))) + kn) + ((expd l 48).getD j 0)) + ((((rorE v.a 2) ^^^ (rorE v.a 13)) ^^^ (rorE v.a 22)) + (((v.a &&& v.b) ^^^ (v.a &&& v.c)) ^^^ (v.b &&& v.c))))) (fun α => cast (by kernel_rfl) (w_add ((((v.h + (((rorE v.e 6) ^^^ (rorE v.e 11)) ^^^ (rorE v.e 25))) + ((v.e &&& v.f) ^^^ ((~~~v.e) &&& v.g))) + kn) + ((expd l 48).getD j 0)) ((((rorE v.a 2) ^^^ (rorE v.a 13)) ^^^ (rorE v.a 22)) + (((v.a &&& v.b) ^^^ (v.a &&& v.c)) ^^^ (v.b &&& v.c))))) ?_
    refine SX.E (.int .i64 ((j + 1 : Nat) : Int)) (fun α => cast (by kernel_rfl) (i_add (a := j) (b := 1) (d := j + 1) rfl (by omega))) ?_
    exact VC_again2 rfl (fun α => ⟨j + 1, Eq.trans (b := .int .i64 ((j + 1 : Nat) : Int) :: (S8.cells ⟨v.rp kn ((expd l 48).getD j 0) + v.rq, v.a, v.b, v.c, v.d + v.rp kn ((expd l 48).getD j 0), v.e, v.f, v.g⟩)) (by kernel_rfl) (by rw [← rrnd_eq, rnds_succ hv hkn2]), by omega⟩) (fun α => cast (by kernel_rfl) (show 64 - (j + 1) < 64 - j by omega))
  obtain rfl : j = 64 := by simp only [decide_eq_false_iff_not] at hge; omega
  refine SX.E (w32 (s.a + v.a)) (fun α => cast (by kernel_rfl) (w_add s.a v.a)) ?_
  refine SX.E (w32 (s.b + v.b)) (fun α => cast (by kernel_rfl) (w_add s.b v.b)) ?_
  refine SX.E (w32 (s.c + v.c)) (fun α => cast (by kernel_rfl) (w_add s.c v.c)) ?_
  refine SX.E (w32 (s.d + v.d)) (fun α => cast (by kernel_rfl) (w_add s.d v.d)) ?_
  refine SX.E (w32 (s.e + v.e)) (fun α => cast (by kernel_rfl) (w_add s.e v.e)) ?_
  refine SX.E (w32 (s.f + v.f)) (fun α => cast (by kernel_rfl) (w_add s.f v.f)) ?_
  refine SX.E (w32 (s.g + v.g)) (fun α => cast (by kernel_rfl) (w_add s.g v.g)) ?_
  refine SX.E (w32 (s.h + v.h)) (fun α => cast (by kernel_rfl) (w_add s.h v.h)) ?_
  exact SX.F (.agg (S8.cells ⟨s.a + v.a, s.b + v.b, s.c + v.c, s.d + v.d, s.e + v.e, s.f + v.f, s.g + v.g, s.h + v.h⟩).toArray) (by rw [absorbE_eq hv])
noncomputable def cxP (K A : Value → Nat → List Value → Prop) : SX.Cx := { P := Tryd.prog, R := fun _ f xs v => False, shp := fun f => none, K := K, A := A, arr := true, trm := true }
theorem cxP_ok (K A : Value → Nat → List Value → Prop) : (cxP K A).Ok := SX.Cx.ok_of (fun _ => rfl) fun _ f xs v W h => h.elim
def args_rpad : List SX.V := [.x 0 []]
def tree_rpad : SX.Tree :=
(.df (.app 1 1 (.ext 1)) [(.cat []), (.q 0)] .any
(.df (.app 1 1 (.own 1 [(.k (.int .u8 128))])) [(.cat [(.q 1)]), (.sl 2 0 1 1)] .any
(.loop [(.cat [(.q 1), (.q 2)])] [.any]
(.df (.rlen 1) [(.cat [(.q 3)])] .one
(.df (.bin .rem 3) [(.q 4), (.i 64)] .one
(.df (.bin .neq 3) [(.q 5), (.i 56)] .one
(.br 6 []
(.df (.app 1 1 (.own 1 [(.k (.int .u8 0))])) [(.cat [(.q 3)]), (.sl 5 0 1 1)] .any
(.again 0 [(.cat [(.q 3), (.q 7)])]))
(.df (.len false) [(.q 0)] .one
(.df (.conv .u64) [(.q 7)] .one
(.df (.bin .mul 75) [(.q 8), (.k (.int .u64 8))] .one
(.df (.bin .shr 75) [(.q 9), (.i 56)] .one
(.df (.conv .u8) [(.q 10)] .one
(.df (.app 1 1 (.own 1 [(.q 11)])) [(.cat [(.q 3)]), (.sl 5 0 1 1)] .any
(.df (.bin .shr 75) [(.q 9), (.i 48)] .one
(.df (.conv .u8) [(.q 13)] .one
(.df (.app 1 1 (.own 1 [(.q 14)])) [(.cat [(.q 3), (.q 12)]), (.sl 7 0 1 1)] .any
(.df (.bin .shr 75) [(.q 9), (.i 40)] .one
(.df (.conv .u8) [(.q 16)] .one
(.df (.app 1 1 (.own 1 [(.q 17)])) [(.cat [(.q 3), (.q 12), (.q 15)]), (.sl 9 0 1 1)] .any
(.df (.bin .shr 75) [(.q 9), (.i 32)] .one
(.df (.conv .u8) [(.q 19)] .one
(.df (.app 1 1 (.own 1 [(.q 20)])) [(.cat [(.q 3), (.q 12), (.q 15), (.q 18)]), (.sl 11 0 1 1)] .any
(.df (.bin .shr 75) [(.q 9), (.i 24)] .one
(.df (.conv .u8) [(.q 22)] .one
(.df (.app 1 1 (.own 1 [(.q 23)])) [(.cat [(.q 3), (.q 12), (.q 15), (.q 18), (.q 21)]), (.sl 13 0 1 1)] .any
(.df (.bin .shr 75) [(.q 9), (.i 16)] .one
(.df (.conv .u8) [(.q 25)] .one
(.df (.app 1 1 (.own 1 [(.q 26)])) [(.cat [(.q 3), (.q 12), (.q 15), (.q 18), (.q 21), (.q 24)]), (.sl 15 0 1 1)] .any
(.df (.bin .shr 75) [(.q 9), (.i 8)] .one
(.df (.conv .u8) [(.q 28)] .one
(.df (.app 1 1 (.own 1 [(.q 29)])) [(.cat [(.q 3), (.q 12), (.q 15), (.q 18), (.q 21), (.q 24), (.q 27)]), (.sl 17 0 1 1)] .any
(.df (.bin .shr 75) [(.q 9), (.i 0)] .one
(.df (.conv .u8) [(.q 31)] .one
(.df (.app 1 1 (.own 1 [(.q 32)])) [(.cat [(.q 3), (.q 12), (.q 15), (.q 18), (.q 21), (.q 24), (.q 27), (.q 30)]), (.sl 19 0 1 1)] .any
(.ret (.row 20) (List.replicate 20 none ++ [(some ⟨[(.q 3), (.q 12), (.q 15), (.q 18), (.q 21), (.q 24), (.q 27), (.q 30), (.q 33)], 5, (.row 1)⟩)]) [])))))))))))))))))))))))))))))))))))
set_option maxRecDepth 100000 in
theorem run_rpad (K A : Value → Nat → List Value → Prop) : (SX.run (cxP K A) ⟨fun _ => false, [⟨56, 2, [(.s 3, .row 1 5)]⟩], 2, 100⟩ 100000 0 (SX.door 56 Tryd.f56 args_rpad [.any]) [.code (Tryd.f56.body.getD .skip), .top Tryd.f56]).strip = tree_rpad := by kernel_rfl
theorem neq_nat (a b : Nat) : SX.binV .neq (.int .i64 (a : Int)) (.int .i64 (b : Int)) = some (.bool (decide (a ≠ b))) := by
  simp only [SX.binV, binI, if_true]
  congr 2
  by_cases h : a = b
  · subst h; simp
  have : (a : Int) ≠ (b : Int) := by omega
  simp [h, this]
set_option maxRecDepth 100000 in
set_option maxHeartbeats 4000000 in
theorem rpad_any (l : List W8) (hl : l.length < 2 ^ 45) (A : Option Addr) (n c : Nat) (w : World) (hr : Rd w 1 A n (l.flatMap c8)) (hc : n ≤ c) : Calls Tryd.prog 56 #[.slice A n c] w fun e w' => Below w.heap.size w w' ∧ ∃ hdr, e = .returned hdr ∧ SX.SlRet w w' [] hdr 1 ((padR l).flatMap c8) := by
  have hln : l.length = n := by have := hr.1; rw [SX.flat_len c8_len] at this; omega
  refine SX.calls_of_run (C := cxP (fun v z xs => v = .slice A n c ∧ z = 1 ∧ xs = l.flatMap c8) (fun _ _ _ => False)) (G := ⟨fun _ => false, [⟨56, 2, [(.s 3, .row 1 5)]⟩], 2, 100⟩) (args := args_rpad) (sh := [.any]) (ρ := [.slice A n c]) 100000 tree_rpad (cxP_ok _ _) Tryd.func56 rfl (cast (by kernel_rfl) (run_rpad (fun v z xs => v = .slice A n c ∧ z = 1 ∧ xs = l.flatMap c8) (fun _ _ _ => False))) (by kernel_rfl) (by kernel_rfl) (by kernel_rfl) (fun W hW v z xs ⟨h1, h2, h3⟩ => by subst h1; subst h2; subst h3; exact ⟨hr.same0 hW, hc⟩) ?_
  have one : ∀ a, ∀ u ∈ c8 a, u.oneCell' = true := fun a u hu => by obtain rfl : u = w8 a := by simpa [c8] using hu
                                                                    rfl
  have hpad : padN n < 64 := by unfold padN; omega
  have hpad2 : (n + 1 + padN n) % 64 = 56 := by unfold padN; omega
  unfold tree_rpad
  refine SX.E (.agg (l.flatMap c8).toArray) (fun α => SX.app_rel c8_len one (by omega) (l1 := []) (l2 := l) (by kernel_rfl) (SX.src_ext ⟨rfl, rfl, rfl⟩) (by simp; omega) (by simp; omega)) ?_
  refine SX.E (.agg ([128].flatMap c8).toArray) (fun α => SX.app_rel c8_len one (by omega) (l1 := l) (l2 := [128]) (SX.cat1 (by kernel_rfl)) (SX.src_own (by kernel_rfl)) (by simp; omega) (by simp; omega)) ?_
  refine SX.VC_loop (fun xs => ∃ k : Nat, xs = [.agg ((l ++ [128] ++ List.replicate k 0).flatMap c8).toArray] ∧ k ≤ padN n) (fun xs => match xs with | .agg cs :: _ => n + 1 + padN n - cs.toList.length | _ => 0) (fun α => ⟨0, Eq.trans (b := [.agg (l.flatMap c8 ++ ([128].flatMap c8 ++ [])).toArray]) (by kernel_rfl) (by rw [List.append_nil, List.replicate_zero, List.append_nil, List.flatMap_append]), by omega⟩) ?_
  rintro xs - ⟨k, rfl, hk⟩
  obtain ⟨r, hr0⟩ : ∃ r, r = l ++ [128] ++ List.replicate k 0 := ⟨_, rfl⟩
  have hrl : r.length = n + 1 + k := by rw [hr0]; simp; omega
  rw [← hr0]
  refine SX.E (.int .i64 (r.length : Int)) (fun α => row_len8 (SX.cat1 (j := 3) (by kernel_rfl))) ?_
  refine SX.E (.int .i64 ((r.length % 64 : Nat) : Int)) (fun α => cast (by kernel_rfl) (SX.rem_nat (a := r.length) (b := 64) (by omega))) ?_
  refine SX.E (.bool (decide (r.length % 64 ≠ 56))) (fun α => cast (by kernel_rfl) (neq_nat (r.length % 64) 56)) ?_
  refine SX.B (decide (r.length % 64 ≠ 56)) (fun h56 => ?_) (fun h56 => ?_)
  · have h56 : r.length % 64 ≠ 56 := by simpa using h56
    have hk2 : k < padN n := by rcases Nat.lt_or_ge k (padN n) with h | h; · exact h
                                exfalso; apply h56; rw [hrl, show k = padN n by omega]; exact hpad2
    refine SX.E (.agg ([0].flatMap c8).toArray) (fun α => SX.app_rel c8_len one (by omega) (l1 := r) (l2 := [0]) (SX.cat1 (by kernel_rfl)) (SX.src_own (by kernel_rfl)) (by simp; omega) (by simp; omega)) ?_
    exact VC_again2 rfl (fun α => ⟨k + 1, Eq.trans (b := [.agg (r.flatMap c8 ++ ([0].flatMap c8 ++ [])).toArray]) (by kernel_rfl) (by rw [List.append_nil, ← List.flatMap_append, hr0, List.append_assoc _ _ [0], ← List.replicate_succ']), by omega⟩) (fun α => cast (by kernel_rfl) (show n + 1 + padN n - (r.flatMap c8 ++ ([0].flatMap c8 ++ [])).length < n + 1 + padN n - (r.flatMap c8).length by rw [List.append_nil, List.length_append, SX.flat_len c8_len, SX.flat_len c8_len]; simp only [LL]; omega))
  have h56 : r.length % 64 = 56 := by simpa using h56
  have hk2 : k = padN n := by omega
  refine SX.D (.int .i64 (n : Int)) ?_
  refine SX.E (.int .u64 (n : Int)) (fun α => cast (by kernel_rfl) (u_conv n .i64 (by omega))) ?_
  refine SX.E (.int .u64 ((8 * n : Nat) : Int)) (fun α => cast (by kernel_rfl) (u_mul8 n (by omega))) ?_
  refine SX.E (.int .u64 ((8 * n / 2 ^ 56 : Nat) : Int)) (fun α => cast (by kernel_rfl) (u_shr (8 * n) 56 (by omega))) ?_
  refine SX.E (w8 (byteAt (8 * n) 56)) (fun α => cast (by kernel_rfl) (w_byte (8 * n) 56)) ?_
  refine SX.E (.agg ([byteAt (8 * n) 56].flatMap c8).toArray) (fun α => SX.app_rel c8_len one (by omega) (l1 := r) (l2 := [byteAt (8 * n) 56]) (SX.cat1 (j := 3) (by kernel_rfl)) (SX.src_own (by kernel_rfl)) (by simp; omega) (by simp; omega)) ?_
  refine SX.E (.int .u64 ((8 * n / 2 ^ 48 : Nat) : Int)) (fun α => cast (by kernel_rfl) (u_shr (8 * n) 48 (by omega))) ?_
  refine SX.E (w8 (byteAt (8 * n) 48)) (fun α => cast (by kernel_rfl) (w_byte (8 * n) 48)) ?_
  refine SX.E (.agg ([byteAt (8 * n) 48].flatMap c8).toArray) (fun α => SX.app_rel c8_len one (by omega) (l1 := (r ++ [byteAt (8 * n) 56])) (l2 := [byteAt (8 * n) 48]) (Eq.trans (b := r.flatMap c8 ++ [byteAt (8 * n) 56].flatMap c8) (by kernel_rfl) (by rw [← List.flatMap_append])) (SX.src_own (by kernel_rfl)) (by simp; omega) (by simp; omega)) ?_
  refine SX.E (.int .u64 ((8 * n / 2 ^ 40 : Nat) : Int)) (fun α => cast (by kernel_rfl) (u_shr (8 * n) 40 (by omega))) ?_
  refine SX.E (w8 (byteAt (8 * n) 40)) (fun α => cast (by kernel_rfl) (w_byte (8 * n) 40)) ?_
  refine SX.E (.agg ([byteAt (8 * n) 40].flatMap c8).toArray) (fun α => SX.app_rel c8_len one (by omega) (l1 := (r ++ [byteAt (8 * n) 56, byteAt (8 * n) 48])) (l2 := [byteAt (8 * n) 40]) (Eq.trans (b := r.flatMap c8 ++ [byteAt (8 * n) 56, byteAt (8 * n) 48].flatMap c8) (by kernel_rfl) (by rw [← List.flatMap_append])) (SX.src_own (by kernel_rfl)) (by simp; omega) (by simp; omega)) ?_
  refine SX.E (.int .u64 ((8 * n / 2 ^ 32 : Nat) : Int)) (fun α => cast (by kernel_rfl) (u_shr (8 * n) 32 (by omega))) ?_
  refine SX.E (w8 (byteAt (8 * n) 32)) (fun α => cast (by kernel_rfl) (w_byte (8 * n) 32)) ?_
  refine SX.E (.agg ([byteAt (8 * n) 32].flatMap c8).toArray) (fun α => SX.app_rel c8_len one (by omega) (l1 := (r ++ [byteAt (8 * n) 56, byteAt (8 * n) 48, byteAt (8 * n) 40])) (l2 := [byteAt (8 * n) 32]) (Eq.trans (b := r.flatMap c8 ++ [byteAt (8 * n) 56, byteAt (8 * n) 48, byteAt (8 * n) 40].flatMap c8) (by kernel_rfl) (by rw [← List.flatMap_append])) (SX.src_own (by kernel_rfl)) (by simp; omega) (by simp; omega)) ?_
  refine SX.E (.int .u64 ((8 * n / 2 ^ 24 : Nat) : Int)) (fun α => cast (by kernel_rfl) (u_shr (8 * n) 24 (by omega))) ?_
  refine SX.E (w8 (byteAt (8 * n) 24)) (fun α => cast (by kernel_rfl) (w_byte (8 * n) 24)) ?_
  refine SX.E (.agg ([byteAt (8 * n) 24].flatMap c8).toArray) (fun α => SX.app_rel c8_len one (by omega) (l1 := (r ++ [byteAt (8 * n) 56, byteAt (8 * n) 48, byteAt (8 * n) 40, byteAt (8 * n) 32])) (l2 := [byteAt (8 * n) 24]) (Eq.trans (b := r.flatMap c8 ++ [byteAt (8 * n) 56, byteAt (8 * n) 48, byteAt (8 * n) 40, byteAt (8 * n) 32].flatMap c8) (by kernel_rfl) (by rw [← List.flatMap_append])) (SX.src_own (by kernel_rfl)) (by simp; omega) (by simp; omega)) ?_
  refine SX.E (.int .u64 ((8 * n / 2 ^ 16 : Nat) : Int)) (fun α => cast (by kernel_rfl) (u_shr (8 * n) 16 (by omega))) ?_
  refine SX.E (w8 (byteAt (8 * n) 16)) (fun α => cast (by kernel_rfl) (w_byte (8 * n) 16)) ?_
  refine SX.E (.agg ([byteAt (8 * n) 16].flatMap c8).toArray) (fun α => SX.app_rel c8_len one (by omega) (l1 := (r ++ [byteAt (8 * n) 56, byteAt (8 * n) 48, byteAt (8 * n) 40, byteAt (8 * n) 32, byteAt (8 * n) 24])) (l2 := [byteAt (8 * n) 16]) (Eq.trans (b := r.flatMap c8 ++ [byteAt (8 * n) 56, byteAt (8 * n) 48, byteAt (8 * n) 40, byteAt (8 * n) 32, byteAt (8 * n) 24].flatMap c8) (by kernel_rfl) (by rw [← List.flatMap_append])) (SX.src_own (by kernel_rfl)) (by simp; omega) (by simp; omega)) ?_
  refine SX.E (.int .u64 ((8 * n / 2 ^ 8 : Nat) : Int)) (fun α => cast (by kernel_rfl) (u_shr (8 * n) 8 (by omega))) ?_
  refine SX.E (w8 (byteAt (8 * n) 8)) (fun α => cast (by kernel_rfl) (w_byte (8 * n) 8)) ?_
  refine SX.E (.agg ([byteAt (8 * n) 8].flatMap c8).toArray) (fun α => SX.app_rel c8_len one (by omega) (l1 := (r ++ [byteAt (8 * n) 56, byteAt (8 * n) 48, byteAt (8 * n) 40, byteAt (8 * n) 32, byteAt (8 * n) 24, byteAt (8 * n) 16])) (l2 := [byteAt (8 * n) 8]) (Eq.trans (b := r.flatMap c8 ++ [byteAt (8 * n) 56, byteAt (8 * n) 48, byteAt (8 * n) 40, byteAt (8 * n) 32, byteAt (8 * n) 24, byteAt (8 * n) 16].flatMap c8) (by kernel_rfl) (by rw [← List.flatMap_append])) (SX.src_own (by kernel_rfl)) (by simp; omega) (by simp; omega)) ?_
  refine SX.E (.int .u64 ((8 * n / 2 ^ 0 : Nat) : Int)) (fun α => cast (by kernel_rfl) (u_shr (8 * n) 0 (by omega))) ?_
  refine SX.E (w8 (byteAt (8 * n) 0)) (fun α => cast (by kernel_rfl) (w_byte (8 * n) 0)) ?_
  refine SX.E (.agg ([byteAt (8 * n) 0].flatMap c8).toArray) (fun α => SX.app_rel c8_len one (by omega) (l1 := (r ++ [byteAt (8 * n) 56, byteAt (8 * n) 48, byteAt (8 * n) 40, byteAt (8 * n) 32, byteAt (8 * n) 24, byteAt (8 * n) 16, byteAt (8 * n) 8])) (l2 := [byteAt (8 * n) 0]) (Eq.trans (b := r.flatMap c8 ++ [byteAt (8 * n) 56, byteAt (8 * n) 48, byteAt (8 * n) 40, byteAt (8 * n) 32, byteAt (8 * n) 24, byteAt (8 * n) 16, byteAt (8 * n) 8].flatMap c8) (by kernel_rfl) (by rw [← List.flatMap_append])) (SX.src_own (by kernel_rfl)) (by simp; omega) (by simp; omega)) ?_
  have hfin : padR l = r ++ be64 (8 * n) := by unfold padR; rw [hln, hr0, hk2]
  exact SX.VC_ret fun α W _ hrow hS => ⟨hS.below, _, rfl, SX.SlRet.row hS (n := 20) rfl rfl (hrow 20 _ rfl) (Eq.trans (b := r.flatMap c8 ++ (be64 (8 * n)).flatMap c8) (by kernel_rfl) (by rw [hfin, List.flatMap_append]))⟩
def RpadR (f : FuncId) (xs : List SX.Arg) (v : Value) : Prop := f = 56 ∧ ∃ (u : Value) (l : List W8), l.length < 2 ^ 45 ∧ xs = [⟨u, 1, l.flatMap c8⟩] ∧ v = .agg ((padR l).flatMap c8).toArray
def RblockR (f : FuncId) (xs : List SX.Arg) (v : Value) : Prop := f = 57 ∧ ∃ (s : S8) (u : Value) (l : List W8), l.length = 64 ∧ xs = [⟨.agg s.cells.toArray, 0, []⟩, ⟨u, 1, l.flatMap c8⟩] ∧ v = .agg (absorbE s l).cells.toArray
noncomputable def cxU (K A : Value → Nat → List Value → Prop) : SX.Cx := { P := Tryd.prog, R := fun _ f xs v => RpadR f xs v ∨ RblockR f xs v, shp := fun f => if f = 56 then some (.sl 1) else if f = 57 then some (.ag 8) else none, K := K, A := A, arr := true, trm := true }
theorem cxU_ok (K A : Value → Nat → List Value → Prop) : (cxU K A).Ok := SX.Cx.ok_of (fun _ => rfl) fun _ f xs v W h hrd hK => by
  rcases h with ⟨rfl, u, l, hl, rfl, rfl⟩ | ⟨rfl, s, u, l, hl, rfl, rfl⟩
  · obtain ⟨A, n, c, rfl, hr, hc, hn⟩ := byte_arg (hrd ⟨u, 1, l.flatMap c8⟩ (List.mem_singleton_self _))
    exact (rpad_any l hl A n c W hr hc).mono fun e w' h => SX.SlRet.ok1 rfl h
  obtain ⟨A, n, c, rfl, hr, hc, hn⟩ := byte_arg (hrd ⟨u, 1, l.flatMap c8⟩ (List.mem_cons_of_mem _ (List.mem_singleton_self _)))
  exact (rblock_any s l hl A n c W hr hc).mono fun e w' h => SX.plainOk rfl h
def args_rsum : List SX.V := [.x 0 []]
def tree_rsum : SX.Tree :=
(.df (.call 56 [(.ext 1)]) [(.q 0)] (.sl 1)
(.loop [(.i 0), (.k (.int .u32 1779033703)), (.k (.int .u32 3144134277)), (.k (.int .u32 1013904242)), (.k (.int .u32 2773480762)), (.k (.int .u32 1359893119)), (.k (.int .u32 2600822924)), (.k (.int .u32 528734635)), (.k (.int .u32 1541459225))] [.one, .one, .one, .one, .one, .one, .one, .one, .one]
(.df (.rlen 1) [(.cat [(.q 1)])] .one
(.df (.bin .lss 3) [(.q 2), (.q 11)] .one
(.br 12 []
(.df (.bin .add 3) [(.q 2), (.i 64)] .one
(.df (.slcx 1 true true) [(.cat [(.q 1)]), (.q 2), (.q 13)] .any
(.df (.call 57 [.no, (.row 1 [(.q 14)])]) [(.a (SX.Z 3 8)), (.row 17)] (.ag 8)
(.df (.bin .add 3) [(.q 2), (.i 64)] .one
(.again 0 ([(.q 16)] ++ SX.Y 15 0 8))))))
(.df (.bin .shr 70) [(.q 3), (.i 24)] .one
(.df (.conv .u8) [(.q 13)] .one
(.df (.bin .shr 70) [(.q 3), (.i 16)] .one
(.df (.conv .u8) [(.q 15)] .one
(.df (.bin .shr 70) [(.q 3), (.i 8)] .one
(.df (.conv .u8) [(.q 17)] .one
(.df (.bin .shr 70) [(.q 3), (.i 0)] .one
(.df (.conv .u8) [(.q 19)] .one
(.df (.bin .shr 70) [(.q 4), (.i 24)] .one
(.df (.conv .u8) [(.q 21)] .one
(.df (.bin .shr 70) [(.q 4), (.i 16)] .one
(.df (.conv .u8) [(.q 23)] .one
(.df (.bin .shr 70) [(.q 4), (.i 8)] .one
(.df (.conv .u8) [(.q 25)] .one
(.df (.bin .shr 70) [(.q 4), (.i 0)] .one
(.df (.conv .u8) [(.q 27)] .one
(.df (.bin .shr 70) [(.q 5), (.i 24)] .one
(.df (.conv .u8) [(.q 29)] .one
(.df (.bin .shr 70) [(.q 5), (.i 16)] .one
(.df (.conv .u8) [(.q 31)] .one
(.df (.bin .shr 70) [(.q 5), (.i 8)] .one
(.df (.conv .u8) [(.q 33)] .one
(.df (.bin .shr 70) [(.q 5), (.i 0)] .one
(.df (.conv .u8) [(.q 35)] .one
(.df (.bin .shr 70) [(.q 6), (.i 24)] .one
(.df (.conv .u8) [(.q 37)] .one
(.df (.bin .shr 70) [(.q 6), (.i 16)] .one
(.df (.conv .u8) [(.q 39)] .one
(.df (.bin .shr 70) [(.q 6), (.i 8)] .one
(.df (.conv .u8) [(.q 41)] .one
(.df (.bin .shr 70) [(.q 6), (.i 0)] .one
(.df (.conv .u8) [(.q 43)] .one
(.df (.bin .shr 70) [(.q 7), (.i 24)] .one
(.df (.conv .u8) [(.q 45)] .one
(.df (.bin .shr 70) [(.q 7), (.i 16)] .one
(.df (.conv .u8) [(.q 47)] .one
(.df (.bin .shr 70) [(.q 7), (.i 8)] .one
(.df (.conv .u8) [(.q 49)] .one
(.df (.bin .shr 70) [(.q 7), (.i 0)] .one
(.df (.conv .u8) [(.q 51)] .one
(.df (.bin .shr 70) [(.q 8), (.i 24)] .one
(.df (.conv .u8) [(.q 53)] .one
(.df (.bin .shr 70) [(.q 8), (.i 16)] .one
(.df (.conv .u8) [(.q 55)] .one
(.df (.bin .shr 70) [(.q 8), (.i 8)] .one
(.df (.conv .u8) [(.q 57)] .one
(.df (.bin .shr 70) [(.q 8), (.i 0)] .one
(.df (.conv .u8) [(.q 59)] .one
(.df (.bin .shr 70) [(.q 9), (.i 24)] .one
(.df (.conv .u8) [(.q 61)] .one
(.df (.bin .shr 70) [(.q 9), (.i 16)] .one
(.df (.conv .u8) [(.q 63)] .one
(.df (.bin .shr 70) [(.q 9), (.i 8)] .one
(.df (.conv .u8) [(.q 65)] .one
(.df (.bin .shr 70) [(.q 9), (.i 0)] .one
(.df (.conv .u8) [(.q 67)] .one
(.df (.bin .shr 70) [(.q 10), (.i 24)] .one
(.df (.conv .u8) [(.q 69)] .one
(.df (.bin .shr 70) [(.q 10), (.i 16)] .one
(.df (.conv .u8) [(.q 71)] .one
(.df (.bin .shr 70) [(.q 10), (.i 8)] .one
(.df (.conv .u8) [(.q 73)] .one
(.df (.bin .shr 70) [(.q 10), (.i 0)] .one
(.df (.conv .u8) [(.q 75)] .one
(.ret (.a [(.q 14), (.q 16), (.q 18), (.q 20), (.q 22), (.q 24), (.q 26), (.q 28), (.q 30), (.q 32), (.q 34), (.q 36), (.q 38), (.q 40), (.q 42), (.q 44), (.q 46), (.q 48), (.q 50), (.q 52), (.q 54), (.q 56), (.q 58), (.q 60), (.q 62), (.q 64), (.q 66), (.q 68), (.q 70), (.q 72), (.q 74), (.q 76)]) [] []))))))))))))))))))))))))))))))))))))))))))))))))))))))))))))))))))))))
set_option maxRecDepth 100000 in
theorem run_rsum (K A : Value → Nat → List Value → Prop) : (SX.run (cxU K A) ⟨fun _ => false, [⟨44, 4, ([(.s 5, .one)] ++ (List.range 8).map fun j => (.c 9 j, .one))⟩, ⟨44, 4, ([(.s 5, .one)] ++ (List.range 8).map fun j => (.c 8 j, .one))⟩, ⟨44, 4, ([(.s 5, .one)] ++ (List.range 8).map fun j => (.c 7 j, .one))⟩, ⟨44, 4, ([(.s 5, .one)] ++ (List.range 8).map fun j => (.c 6 j, .one))⟩, ⟨44, 4, ([(.s 5, .one)] ++ (List.range 8).map fun j => (.c 5 j, .one))⟩, ⟨44, 4, ([(.s 5, .one)] ++ (List.range 8).map fun j => (.c 4 j, .one))⟩, ⟨44, 4, ([(.s 5, .one)] ++ (List.range 8).map fun j => (.c 3 j, .one))⟩, ⟨44, 4, ([(.s 5, .one)] ++ (List.range 8).map fun j => (.c 2 j, .one))⟩, ⟨44, 4, ([(.s 5, .one)] ++ (List.range 8).map fun j => (.c 1 j, .one))⟩], 0, 100⟩ 100000 0 (SX.door 44 Tryd.f44 args_rsum [.any]) [.code (Tryd.f44.body.getD .skip), .top Tryd.f44]).strip = tree_rsum := by kernel_rfl
theorem slcx_mid {C : SX.Cx} {ρ : List Value} {α : Nat → SX.AV} {c i i' : SX.V} {l : List W8} {lo hi : Nat} (hc : SX.cellsV (c.den ρ α) = l.flatMap c8) (h1 : i.den ρ α = .int .i64 (lo : Int)) (h2 : i'.den ρ α = .int .i64 (hi : Int)) (hl : lo ≤ hi) (hh : hi ≤ l.length) : SX.Opq.rel C ρ α (.slcx 1 true true) [c, i, i'] (.agg (((l.drop lo).take (hi - lo)).flatMap c8).toArray) := by
  refine ⟨lo, hi, l.length, some (.int .i64 (lo : Int)), some (.int .i64 (hi : Int)), ?_, ?_, ?_⟩
  · simp [SX.denL, h1, h2, SX.optsV]
  · rw [hc, SX.flat_len c8_len]
    simp only [SX.boundsV, Nat.mul_one, Nat.div_one, Option.bind_some, SX.bndV]
    rw [if_pos (by omega)]
    simp only [Option.bind_some, Int.toNat_natCast]
    rw [if_pos (by omega)]
    rfl
  rw [hc, ← SX.flat_take c8_len, ← SX.flat_drop c8_len]
theorem fitSl8 (l : List W8) : (SX.Sh.sl 1).fit (.agg (l.flatMap c8).toArray) = true := by
  simp only [SX.Sh.fit, Nat.mod_one, beq_self_eq_true, Bool.and_true, Bool.and_eq_true, List.all_eq_true]
  exact ⟨by decide, c8_one l⟩
theorem w_byte32 (x : W32) (k : Nat) : SX.convV .u8 (w32 (x >>> k)) = some (w8 (byteAt x.toNat k)) := by
  have := w_to8 (x >>> k).toNat .u32
  rw [BitVec.toNat_ushiftRight, Nat.shiftRight_eq_div_pow] at this
  unfold w32
  rw [BitVec.toNat_ushiftRight, Nat.shiftRight_eq_div_pow]
  exact this
set_option maxRecDepth 100000 in
set_option maxHeartbeats 4000000 in
theorem rsum_any (l : List W8) (hl : l.length < 2 ^ 45) (A : Option Addr) (n c : Nat) (w : World) (hr : Rd w 1 A n (l.flatMap c8)) (hc : n ≤ c) : Calls Tryd.prog 44 #[.slice A n c] w fun e w' => e = .returned (.agg ((sumE l).flatMap c8).toArray) ∧ Below w.heap.size w w' := by
  refine SX.calls_of_run (C := cxU (fun v z xs => v = .slice A n c ∧ z = 1 ∧ xs = l.flatMap c8) (fun _ _ _ => False)) (G := ⟨fun _ => false, [⟨44, 4, ([(.s 5, .one)] ++ (List.range 8).map fun j => (.c 9 j, .one))⟩, ⟨44, 4, ([(.s 5, .one)] ++ (List.range 8).map fun j => (.c 8 j, .one))⟩, ⟨44, 4, ([(.s 5, .one)] ++ (List.range 8).map fun j => (.c 7 j, .one))⟩, ⟨44, 4, ([(.s 5, .one)] ++ (List.range 8).map fun j => (.c 6 j, .one))⟩, ⟨44, 4, ([(.s 5, .one)] ++ (List.range 8).map fun j => (.c 5 j, .one))⟩, ⟨44, 4, ([(.s 5, .one)] ++ (List.range 8).map fun j => (.c 4 j, .one))⟩, ⟨44, 4, ([(.s 5, .one)] ++ (List.range 8).map fun j => (.c 3 j, .one))⟩, ⟨44, 4, ([(.s 5, .one)] ++ (List.range 8).map fun j => (.c 2 j, .one))⟩, ⟨44, 4, ([(.s 5, .one)] ++ (List.range 8).map fun j => (.c 1 j, .one))⟩], 0, 100⟩) (args := args_rsum) (sh := [.any]) (ρ := [.slice A n c]) 100000 tree_rsum (cxU_ok _ _) Tryd.func44 rfl (cast (by kernel_rfl) (run_rsum (fun v z xs => v = .slice A n c ∧ z = 1 ∧ xs = l.flatMap c8) (fun _ _ _ => False))) (by kernel_rfl) (by kernel_rfl) (by kernel_rfl) (fun W hW v z xs ⟨h1, h2, h3⟩ => by subst h1; subst h2; subst h3; exact ⟨hr.same0 hW, hc⟩) ?_
  have hsum := sumE_eq l
  have hp64 := padR_len l
  have hpl : (padR l).length < 2 ^ 46 := by unfold padR padN; simp only [List.length_append, List.length_replicate, List.length_cons, List.length_nil, show (be64 (8 * l.length)).length = 8 from rfl]; omega
  unfold tree_rsum
  refine SX.VC_df (.agg ((padR l).flatMap c8).toArray) (fun α => ⟨[⟨.slice A n c, 1, l.flatMap c8⟩], ⟨rfl, rfl, ⟨rfl, rfl, rfl⟩, trivial⟩, .inl ⟨rfl, _, l, hl, rfl, rfl⟩, SX.noAli rfl⟩) (fitSl8 _) ?_
  generalize hP : padR l = P at hsum hp64 hpl
  refine SX.VC_loop (fun xs => ∃ (k : Nat) (s : S8), xs = .int .i64 ((64 * k : Nat) : Int) :: s.cells ∧ 64 * k ≤ P.length ∧ (absAll s (P.drop (64 * k))).1 = (absAll startS P).1) (fun xs => match xs with | .int _ i :: _ => P.length - i.toNat | _ => 0) (fun α => ⟨0, startS, by kernel_rfl, by omega, rfl⟩) ?_
  rintro xs - ⟨k, s, rfl, hk, hI⟩
  refine SX.E (.int .i64 (P.length : Int)) (fun α => row_len8 (SX.cat1 (j := 1) (by kernel_rfl))) ?_
  refine SX.E (.bool (decide (64 * k < P.length))) (fun α => cast (by kernel_rfl) (lss_nat (64 * k) P.length)) ?_
  refine SX.B (decide (64 * k < P.length)) (fun hlt => ?_) (fun hge => ?_)
  · have hlt : 64 * k < P.length := by simpa using hlt
    have h2 : 64 * k + 64 ≤ P.length := by omega
    obtain ⟨Q, hQ⟩ : ∃ Q, Q = (P.drop (64 * k)).take (64 * k + 64 - 64 * k) := ⟨_, rfl⟩
    have hQl : Q.length = 64 := by rw [hQ, List.length_take, List.length_drop]; omega
    have hstep : absAll s (P.drop (64 * k)) = absAll (absorbE s Q) (P.drop (64 * (k + 1))) := by
      rw [absAll_ge (by rw [List.length_drop]; omega), hQ, List.drop_drop, show 64 * k + 64 - 64 * k = 64 by omega, show 64 * k + 64 = 64 * (k + 1) by omega]
    refine SX.E (.int .i64 ((64 * k + 64 : Nat) : Int)) (fun α => cast (by kernel_rfl) (i_add' (a := 64 * k) (b := 64) (d := 64 * k + 64) rfl (by omega))) ?_
    refine SX.E (.agg (Q.flatMap c8).toArray) (fun α => by rw [hQ]; exact slcx_mid (l := P) (lo := 64 * k) (hi := 64 * k + 64) (SX.cat1 (j := 1) (by kernel_rfl)) (by kernel_rfl) (by kernel_rfl) (by omega) h2) ?_
    refine SX.E (.agg (absorbE s Q).cells.toArray) (fun α => ⟨[⟨.agg s.cells.toArray, 0, []⟩, ⟨(α 17).h, 1, Q.flatMap c8⟩], ⟨by kernel_rfl, by kernel_rfl, Eq.trans (b := ⟨(α 17).h, 1, Q.flatMap c8 ++ []⟩) (by rw [List.append_nil]) (by kernel_rfl), trivial⟩, .inr ⟨rfl, s, _, Q, hQl, rfl, rfl⟩, SX.noAli rfl⟩) ?_
    refine SX.E (.int .i64 ((64 * (k + 1) : Nat) : Int)) (fun α => cast (by kernel_rfl) (i_add' (a := 64 * k) (b := 64) (d := 64 * (k + 1)) (by omega) (by omega))) ?_
    exact VC_again2 rfl (fun α => ⟨k + 1, absorbE s Q, by kernel_rfl, by omega, by rw [← hstep, hI]⟩) (fun α => cast (by kernel_rfl) (show P.length - (64 * (k + 1)) < P.length - 64 * k by omega))
  have hge : ¬ 64 * k < P.length := by simpa using hge
  have hs : (absAll startS P).1 = s := by
    rw [← hI, List.drop_of_length_le (by omega), absAll_lt (by simp)]
  refine SX.E (w32 (s.a >>> 24)) (fun α => cast (by kernel_rfl) (w_shr s.a .i64 24 (by omega))) ?_
  refine SX.E (w8 (byteAt s.a.toNat 24)) (fun α => cast (by kernel_rfl) (w_byte32 s.a 24)) ?_
  refine SX.E (w32 (s.a >>> 16)) (fun α => cast (by kernel_rfl) (w_shr s.a .i64 16 (by omega))) ?_
  refine SX.E (w8 (byteAt s.a.toNat 16)) (fun α => cast (by kernel_rfl) (w_byte32 s.a 16)) ?_
  refine SX.E (w32 (s.a >>> 8)) (fun α => cast (by kernel_rfl) (w_shr s.a .i64 8 (by omega))) ?_
  refine SX.E (w8 (byteAt s.a.toNat 8)) (fun α => cast (by kernel_rfl) (w_byte32 s.a 8)) ?_
  refine SX.E (w32 (s.a >>> 0)) (fun α => cast (by kernel_rfl) (w_shr s.a .i64 0 (by omega))) ?_
  refine SX.E (w8 (byteAt s.a.toNat 0)) (fun α => cast (by kernel_rfl) (w_byte32 s.a 0)) ?_
  refine SX.E (w32 (s.b >>> 24)) (fun α => cast (by kernel_rfl) (w_shr s.b .i64 24 (by omega))) ?_
  refine SX.E (w8 (byteAt s.b.toNat 24)) (fun α => cast (by kernel_rfl) (w_byte32 s.b 24)) ?_
  refine SX.E (w32 (s.b >>> 16)) (fun α => cast (by kernel_rfl) (w_shr s.b .i64 16 (by omega))) ?_
  refine SX.E (w8 (byteAt s.b.toNat 16)) (fun α => cast (by kernel_rfl) (w_byte32 s.b 16)) ?_
  refine SX.E (w32 (s.b >>> 8)) (fun α => cast (by kernel_rfl) (w_shr s.b .i64 8 (by omega))) ?_
  refine SX.E (w8 (byteAt s.b.toNat 8)) (fun α => cast (by kernel_rfl) (w_byte32 s.b 8)) ?_
  refine SX.E (w32 (s.b >>> 0)) (fun α => cast (by kernel_rfl) (w_shr s.b .i64 0 (by omega))) ?_
  refine SX.E (w8 (byteAt s.b.toNat 0)) (fun α => cast (by kernel_rfl) (w_byte32 s.b 0)) ?_
  refine SX.E (w32 (s.c >>> 24)) (fun α => cast (by kernel_rfl) (w_shr s.c .i64 24 (by omega))) ?_
  refine SX.E (w8 (byteAt s.c.toNat 24)) (fun α => cast (by kernel_rfl) (w_byte32 s.c 24)) ?_
  refine SX.E (w32 (s.c >>> 16)) (fun α => cast (by kernel_rfl) (w_shr s.c .i64 16 (by omega))) ?_
  refine SX.E (w8 (byteAt s.c.toNat 16)) (fun α => cast (by kernel_rfl) (w_byte32 s.c 16)) ?_
  refine SX.E (w32 (s.c >>> 8)) (fun α => cast (by kernel_rfl) (w_shr s.c .i64 8 (by omega))) ?_
  refine SX.E (w8 (byteAt s.c.toNat 8)) (fun α => cast (by kernel_rfl) (w_byte32 s.c 8)) ?_
  refine SX.E (w32 (s.c >>> 0)) (fun α => cast (by kernel_rfl) (w_shr s.c .i64 0 (by omega))) ?_
  refine SX.E (w8 (byteAt s.c.toNat 0)) (fun α => cast (by kernel_rfl) (w_byte32 s.c 0)) ?_
  refine SX.E (w32 (s.d >>> 24)) (fun α => cast (by kernel_rfl) (w_shr s.d .i64 24 (by omega))) ?_
  refine SX.E (w8 (byteAt s.d.toNat 24)) (fun α => cast (by kernel_rfl) (w_byte32 s.d 24)) ?_
  refine SX.E (w32 (s.d >>> 16)) (fun α => cast (by kernel_rfl) (w_shr s.d .i64 16 (by omega))) ?_
  refine SX.E (w8 (byteAt s.d.toNat 16)) (fun α => cast (by kernel_rfl) (w_byte32 s.d 16)) ?_
  refine SX.E (w32 (s.d >>> 8)) (fun α => cast (by kernel_rfl) (w_shr s.d .i64 8 (by omega))) ?_
  refine SX.E (w8 (byteAt s.d.toNat 8)) (fun α => cast (by kernel_rfl) (w_byte32 s.d 8)) ?_
  refine SX.E (w32 (s.d >>> 0)) (fun α => cast (by kernel_rfl) (w_shr s.d .i64 0 (by omega))) ?_
  refine SX.E (w8 (byteAt s.d.toNat 0)) (fun α => cast (by kernel_rfl) (w_byte32 s.d 0)) ?_
  refine SX.E (w32 (s.e >>> 24)) (fun α => cast (by kernel_rfl) (w_shr s.e .i64 24 (by omega))) ?_
  refine SX.E (w8 (byteAt s.e.toNat 24)) (fun α => cast (by kernel_rfl) (w_byte32 s.e 24)) ?_
  refine SX.E (w32 (s.e >>> 16)) (fun α => cast (by kernel_rfl) (w_shr s.e .i64 16 (by omega))) ?_
  refine SX.E (w8 (byteAt s.e.toNat 16)) (fun α => cast (by kernel_rfl) (w_byte32 s.e 16)) ?_
  refine SX.E (w32 (s.e >>> 8)) (fun α => cast (by kernel_rfl) (w_shr s.e .i64 8 (by omega))) ?_
  refine SX.E (w8 (byteAt s.e.toNat 8)) (fun α => cast (by kernel_rfl) (w_byte32 s.e 8)) ?_
  refine SX.E (w32 (s.e >>> 0)) (fun α => cast (by kernel_rfl) (w_shr s.e .i64 0 (by omega))) ?_
  refine SX.E (w8 (byteAt s.e.toNat 0)) (fun α => cast (by kernel_rfl) (w_byte32 s.e 0)) ?_
  refine SX.E (w32 (s.f >>> 24)) (fun α => cast (by kernel_rfl) (w_shr s.f .i64 24 (by omega))) ?_
  refine SX.E (w8 (byteAt s.f.toNat 24)) (fun α => cast (by kernel_rfl) (w_byte32 s.f 24)) ?_
  refine SX.E (w32 (s.f >>> 16)) (fun α => cast (by kernel_rfl) (w_shr s.f .i64 16 (by omega))) ?_
  refine SX.E (w8 (byteAt s.f.toNat 16)) (fun α => cast (by kernel_rfl) (w_byte32 s.f 16)) ?_
  refine SX.E (w32 (s.f >>> 8)) (fun α => cast (by kernel_rfl) (w_shr s.f .i64 8 (by omega))) ?_
  refine SX.E (w8 (byteAt s.f.toNat 8)) (fun α => cast (by kernel_rfl) (w_byte32 s.f 8)) ?_
  refine SX.E (w32 (s.f >>> 0)) (fun α => cast (by kernel_rfl) (w_shr s.f .i64 0 (by omega))) ?_
  refine SX.E (w8 (byteAt s.f.toNat 0)) (fun α => cast (by kernel_rfl) (w_byte32 s.f 0)) ?_
  refine SX.E (w32 (s.g >>> 24)) (fun α => cast (by kernel_rfl) (w_shr s.g .i64 24 (by omega))) ?_
  refine SX.E (w8 (byteAt s.g.toNat 24)) (fun α => cast (by kernel_rfl) (w_byte32 s.g 24)) ?_
  refine SX.E (w32 (s.g >>> 16)) (fun α => cast (by kernel_rfl) (w_shr s.g .i64 16 (by omega))) ?_
  refine SX.E (w8 (byteAt s.g.toNat 16)) (fun α => cast (by kernel_rfl) (w_byte32 s.g 16)) ?_
  refine SX.E (w32 (s.g >>> 8)) (fun α => cast (by kernel_rfl) (w_shr s.g .i64 8 (by omega))) ?_
  refine SX.E (w8 (byteAt s.g.toNat 8)) (fun α => cast (by kernel_rfl) (w_byte32 s.g 8)) ?_
  refine SX.E (w32 (s.g >>> 0)) (fun α => cast (by kernel_rfl) (w_shr s.g .i64 0 (by omega))) ?_
  refine SX.E (w8 (byteAt s.g.toNat 0)) (fun α => cast (by kernel_rfl) (w_byte32 s.g 0)) ?_
  refine SX.E (w32 (s.h >>> 24)) (fun α => cast (by kernel_rfl) (w_shr s.h .i64 24 (by omega))) ?_
  refine SX.E (w8 (byteAt s.h.toNat 24)) (fun α => cast (by kernel_rfl) (w_byte32 s.h 24)) ?_
  refine SX.E (w32 (s.h >>> 16)) (fun α => cast (by kernel_rfl) (w_shr s.h .i64 16 (by omega))) ?_
  refine SX.E (w8 (byteAt s.h.toNat 16)) (fun α => cast (by kernel_rfl) (w_byte32 s.h 16)) ?_
  refine SX.E (w32 (s.h >>> 8)) (fun α => cast (by kernel_rfl) (w_shr s.h .i64 8 (by omega))) ?_
  refine SX.E (w8 (byteAt s.h.toNat 8)) (fun α => cast (by kernel_rfl) (w_byte32 s.h 8)) ?_
  refine SX.E (w32 (s.h >>> 0)) (fun α => cast (by kernel_rfl) (w_shr s.h .i64 0 (by omega))) ?_
  refine SX.E (w8 (byteAt s.h.toNat 0)) (fun α => cast (by kernel_rfl) (w_byte32 s.h 0)) ?_
  exact SX.VC_ret fun α W _ _ hS => SX.ret_of (x := .agg ((outS s).flatMap c8).toArray) hS (by kernel_rfl) (by rw [hsum, hs])
def RsumR (f : FuncId) (xs : List SX.Arg) (v : Value) : Prop := f = 44 ∧ ∃ (u : Value) (l : List W8), xs = [⟨u, 1, l.flatMap c8⟩] ∧ l.length < 2 ^ 45 ∧ v = .agg ((sumE l).flatMap c8).toArray
noncomputable def cxV (K A : Value → Nat → List Value → Prop) : SX.Cx := { P := Tryd.prog, R := fun _ f xs v => RsumR f xs v, shp := fun f => if f = 44 then some (.ag 32) else none, K := K, A := A, arr := true, trm := true }
theorem cxV_ok (K A : Value → Nat → List Value → Prop) : (cxV K A).Ok := SX.Cx.ok_of (fun _ => rfl) fun _ f xs v W h hrd hK => by
  obtain ⟨rfl, u, l, rfl, hl, rfl⟩ := h
  obtain ⟨A, n, c, rfl, hr, hc, hn⟩ := byte_arg (hrd ⟨u, 1, l.flatMap c8⟩ (List.mem_singleton_self _))
  exact (rsum_any l hl A n c W hr hc).mono fun e w' h => SX.plainOk rfl h
def args_rtagged : List SX.V := [.x 0 [], .x 1 []]
def tree_rtagged : SX.Tree :=
(.df .s2b [(.q 0)] .any
(.df (.call 44 [(.row 1 [(.q 2)])]) [(.row 1)] (.ag 32)
(.df (.app 1 1 (.own 1 (SX.Y 3 0 32))) [(.cat []), (.sl 2 0 32 32)] .any
(.df (.app 1 1 (.ext 1)) [(.cat [(.q 4)]), (.q 1)] .any
(.df (.call 44 [(.row 1 [(.q 4), (.q 5)])]) [(.row 5)] (.ag 32)
(.ret (.a (SX.Y 6 0 32)) [] []))))))
set_option maxRecDepth 100000 in
theorem run_rtagged (K A : Value → Nat → List Value → Prop) : (SX.run (cxV K A) ⟨fun _ => true, [], 0, 100⟩ 100000 0 (SX.door 34 Tryd.f34 args_rtagged [.one, .one]) [.code (Tryd.f34.body.getD .skip), .top Tryd.f34]).strip = tree_rtagged := by kernel_rfl
set_option maxRecDepth 100000 in
set_option maxHeartbeats 4000000 in
theorem rtagged_any (s : ByteArray) (l : List W8) (hs : s.size < 2 ^ 44) (hl : l.length < 2 ^ 44) (A : Option Addr) (n c : Nat) (w : World) (hr : Rd w 1 A n (l.flatMap c8)) (hc : n ≤ c) : Calls Tryd.prog 34 #[.string s, .slice A n c] w fun e w' => e = .returned (.agg ((tagE (sb s) l).flatMap c8).toArray) ∧ Below w.heap.size w w' := by
  refine SX.calls_of_run (C := cxV (fun v z xs => v = .slice A n c ∧ z = 1 ∧ xs = l.flatMap c8) (fun _ _ _ => False)) (G := ⟨fun _ => true, [], 0, 100⟩) (args := args_rtagged) (sh := [.one, .one]) (ρ := [.string s, .slice A n c]) 100000 tree_rtagged (cxV_ok _ _) Tryd.func34 rfl (cast (by kernel_rfl) (run_rtagged (fun v z xs => v = .slice A n c ∧ z = 1 ∧ xs = l.flatMap c8) (fun _ _ _ => False))) (by kernel_rfl) (by kernel_rfl) (by kernel_rfl) (fun W hW v z xs ⟨h1, h2, h3⟩ => by subst h1; subst h2; subst h3; exact ⟨hr.same0 hW, hc⟩) ?_
  have one : ∀ a, ∀ u ∈ c8 a, u.oneCell' = true := fun a u hu => by obtain rfl : u = w8 a := by simpa [c8] using hu
                                                                    rfl
  unfold tree_rtagged
  refine SX.E (.agg ((sb s).flatMap c8).toArray) (fun α => s2b_rel (by kernel_rfl)) ?_
  obtain ⟨g, hg⟩ := listN (n := 32) (sumE (sb s)) rfl
  refine SX.E (.agg (((List.range 32).map g).flatMap c8).toArray) (fun α => by rw [← hg]; exact ⟨[⟨(α 1).h, 1, (sb s).flatMap c8⟩], ⟨Eq.trans (b := ⟨(α 1).h, 1, (sb s).flatMap c8 ++ []⟩) (by rw [List.append_nil]) (by kernel_rfl), trivial⟩, ⟨rfl, _, _, rfl, by rw [sb_len]; omega, rfl⟩, SX.noAli rfl⟩) ?_
  refine SX.E (.agg (((List.range 32).map g).flatMap c8).toArray) (fun α => SX.app_rel c8_len one (by omega) (l1 := []) (l2 := ((List.range 32).map g)) (by kernel_rfl) (SX.src_own (by kernel_rfl)) (by simp) (by simp)) ?_
  refine SX.E (.agg (l.flatMap c8).toArray) (fun α => SX.app_rel c8_len one (by omega) (l1 := ((List.range 32).map g)) (l2 := l) (SX.cat1 (by kernel_rfl)) (SX.src_ext ⟨rfl, rfl, rfl⟩) (by simp; omega) (by simp; omega)) ?_
  obtain ⟨g2, hg2⟩ := listN (n := 32) (tagE (sb s) l) rfl
  refine SX.E (.agg (((List.range 32).map g2).flatMap c8).toArray) (fun α => by rw [← hg2]; exact ⟨[⟨(α 5).h, 1, (sumE (sb s) ++ l).flatMap c8⟩], ⟨Eq.trans (b := ⟨(α 5).h, 1, ((List.range 32).map g).flatMap c8 ++ (l.flatMap c8 ++ [])⟩) (by rw [hg, List.append_nil, List.flatMap_append]) (by kernel_rfl), trivial⟩, ⟨rfl, _, _, rfl, by simp only [List.length_append, sumE_len]; omega, rfl⟩, SX.noAli rfl⟩) ?_
  exact SX.VC_ret fun α W _ _ hS => SX.ret_of (x := .agg (((List.range 32).map g2).flatMap c8).toArray) hS (by kernel_rfl) (by rw [hg2])
theorem VC_spF {C : SX.Cx} {w0 : Org} {ps : List (World → Prop)} {T0 : List SX.TF} {R : Ending → World → Prop} {L : List (SX.Cx → List Value → Prop)} {ρ : List Value} {i : Nat} {p : List Nat} {l : List SX.Tree} (F : Nat → SX.Tree) (N : Nat) (hl : l = (List.range N).map F) (k : Nat) (hk : k < N) (h : p.foldl SX.comp (ρ.getD i undef) = .int .i64 (k : Int)) (ht : SX.VC C w0 ps T0 R L ρ (F k)) : SX.VC C w0 ps T0 R L ρ (.sp i p l) := by
  refine SX.VC_sp k (by rw [hl]; simpa using hk) h fun t e => ?_
  rw [hl, List.getElem?_map, List.getElem?_range hk] at e
  cases e
  exact ht
theorem SX.SlRet.ok10 {C : SX.Cx} {f : FuncId} {as' : List SX.Arg} {W W' : World} {e : Ending} {u : Value} {cells : List Value} {sz : Nat} (hs : C.sh f = .tp [.one, .sl sz]) (h : Below W.heap.size W W' ∧ ∃ hdr, e = .returned (.tuple #[u, hdr]) ∧ SX.SlRet W W' [] hdr sz cells) :
    Below W.heap.size W W' ∧ ∃ hdr, e = .returned ((C.sh f).fill hdr (.tuple #[u, .agg cells.toArray])) ∧ ∀ p z, (p, z) ∈ (C.sh f).sls [] → SX.HdrOk C f as' W W' hdr z (SX.cellsV (p.foldl SX.comp (.tuple #[u, .agg cells.toArray]))) := by
  obtain ⟨hb, hdr, he, h1, h2, h3⟩ := h
  refine ⟨hb, hdr, by rw [hs, he]; rfl, fun p z hp => ?_⟩
  rw [hs] at hp
  obtain ⟨rfl, rfl⟩ : p = [1] ∧ z = sz := by simpa [SX.Sh.sls, SX.Sh.slsL] using hp
  refine ⟨h1, h2, .inl (h3.resolve_right ?_)⟩
  rintro ⟨y, hy, _⟩
  cases hy
def textT (ls : List Lk) : ByteArray := match ls.getLast? with
  | none => noneT
  | some _ => linkT
def textB (ls : List Lk) : List W8 := match ls.getLast? with
  | none => []
  | some z => encL (flLk z)
theorem headF_text (ls : List Lk) : dgF (tagE (sb (textT ls)) (textB ls)) = headF ls := by
  unfold headF textT textB
  cases ls.getLast? <;> rfl
theorem text_zero {ls : List Lk} (h : ls.length = 0) : textT ls = noneT ∧ textB ls = [] := by rw [List.length_eq_zero_iff.1 h]; exact ⟨rfl, rfl⟩
theorem text_last {ls : List Lk} {z : Lk} (h : ls[ls.length - 1]? = some z) : textT ls = linkT ∧ textB ls = encL (flLk z) := by
  unfold textT textB
  rw [List.getLast?_eq_getElem?, h]
  exact ⟨rfl, rfl⟩
theorem textB_lt {ls : List Lk} (h : ∀ z ∈ ls, z.fit) : (textB ls).length < 2 ^ 44 := by
  unfold textB
  cases hl : ls.getLast? with
  | none => decide
  | some z => exact encLk_lt (h z (List.mem_of_getLast? hl))
theorem textT_lt (ls : List Lk) : (textT ls).size < 2 ^ 44 := by
  unfold textT
  cases ls.getLast? with
  | none => exact (by decide : noneT.size < 2 ^ 44)
  | some z => exact (by decide : linkT.size < 2 ^ 44)
theorem prev_at (z : Lk) {k : Nat} (h : k < 32) : (cellsLk z).getD (k + 2) undef = w8 (z.prev k) := by
  have : (cellsLk z)[k + 2]? = some (w8 (z.prev k)) := by
    unfold cellsLk
    rw [List.append_assoc, List.getElem?_append_right (by simp), List.getElem?_append_left (by simp; omega)]
    simp [List.getElem?_range h]
  rw [List.getD_eq_getElem?_getD, this]
  rfl
theorem dgL_take (f : Nat → W8) {k : Nat} (h : k < 32) : (dgL f).take (k + 1) = (dgL f).take k ++ [f k] := by
  rw [List.take_add_one]
  congr 1
  unfold dgL
  simp [List.getElem?_range h]
theorem fit01 (u : Value) (h : u.oneCell' = true) (l : List W8) : SX.Sh.fit (.tp [.one, .sl 1]) (.tuple #[u, .agg (l.flatMap c8).toArray]) = true := by
  have h2 : (l.flatMap c8).all (·.oneCell') = true := by
    rw [List.all_eq_true]
    intro u hu
    obtain ⟨a, _, h⟩ := List.mem_flatMap.1 hu
    exact c8o a u h
  have h1 : (l.flatMap c8).length % 1 = 0 := Nat.mod_one _
  simp only [SX.Sh.fit, SX.Sh.fitL, h1, h2, h]
  rfl
def RQ6 (K : Value → Nat → List Value → Prop) (f : FuncId) (xs : List SX.Arg) (v : Value) : Prop :=
  (f = 40 ∧ ∃ (u : Value) (l : List W8), xs = [⟨u, 1, l.flatMap c8⟩] ∧ v = .agg #[.int .i64 2, .int .i64 0, .string (bt l), .slice none 0 0]) ∨
  (f = 38 ∧ ∃ (hdr : Value) (fl : List Fl), xs = [⟨.agg #[.int .i64 3, .int .i64 0, .string ⟨#[]⟩, hdr], 0, []⟩] ∧ K hdr 4 (flL fl) ∧ fl.length ≤ 1048576 ∧ (∀ z ∈ fl, z.fits) ∧ v = .tuple #[.agg ((encL fl).flatMap c8).toArray, .int .i64 0])
def shpQ6 : FuncId → Option SX.Sh := fun f => if f = 40 then some (.ag 4) else if f = 38 then some (.tp [.sl 1, .one]) else none
noncomputable def cxQ6 (K A : Value → Nat → List Value → Prop) : SX.Cx := { P := Tryd.prog, R := RQ6, shp := shpQ6, K := K, A := A, trm := true }
theorem okQ6 (K A : Value → Nat → List Value → Prop) : (cxQ6 K A).Ok := by
  refine SX.Cx.ok_of (fun _ => rfl) ?_
  intro K f xs v W hR hrd hKf
  rcases hR with ⟨rfl, u, l, rfl, rfl⟩ | ⟨rfl, hdr, fl, rfl, hk, hl, hf, rfl⟩
  · obtain ⟨A, n, c, rfl, hr, hc, -⟩ := byte_arg (hrd ⟨u, 1, l.flatMap c8⟩ (by simp))
    exact (rtxt_any l A n c W hr hc).mono fun e w' h => SX.plainOk rfl h
  obtain ⟨A, n, c, rfl, h2, h3, h4⟩ := fl_arg (hKf _ _ _ hk)
  exact (rencode_any fl A n c W h2 (by omega) h3 hf).mono fun e w' h => SX.SlRet.ok0 rfl h
def tree_rtext : SX.Tree :=
(.df (.len false) [(.q 0)] .one
(.df (.bin .eql 3) [(.q 1), (.i 0)] .one
(.br 2 []
(.ret (.t [(.k (.string ⟨#[110, 111, 110, 101]⟩)), (.k (.slice none 0 0))]) [] [])
(.df (.len false) [(.q 0)] .one
(.df (.bin .sub 3) [(.q 3), (.i 1)] .one
(.df .bnd [(.q 0), (.q 4)] .one
(.df (.elems 35 0 35) [(.q 0), (.q 4)] (.ag 35)
(.loop [(.i 0), (.cat [])] [.one, .any]
(.df (.bin .lss 3) [(.q 7), (.i 32)] .one
(.br 9 []
(.sp 7 [] [
(.df (.app 1 1 (.own 1 [(.x 6 [2])])) [(.cat [(.q 8)]), (.sl 4 0 1 1)] .any
(.again 0 [(.i 1), (.cat [(.q 8), (.q 10)])])),
(.df (.app 1 1 (.own 1 [(.x 6 [3])])) [(.cat [(.q 8)]), (.sl 4 0 1 1)] .any
(.again 0 [(.i 2), (.cat [(.q 8), (.q 10)])])),
(.df (.app 1 1 (.own 1 [(.x 6 [4])])) [(.cat [(.q 8)]), (.sl 4 0 1 1)] .any
(.again 0 [(.i 3), (.cat [(.q 8), (.q 10)])])),
(.df (.app 1 1 (.own 1 [(.x 6 [5])])) [(.cat [(.q 8)]), (.sl 4 0 1 1)] .any
(.again 0 [(.i 4), (.cat [(.q 8), (.q 10)])])),
(.df (.app 1 1 (.own 1 [(.x 6 [6])])) [(.cat [(.q 8)]), (.sl 4 0 1 1)] .any
(.again 0 [(.i 5), (.cat [(.q 8), (.q 10)])])),
(.df (.app 1 1 (.own 1 [(.x 6 [7])])) [(.cat [(.q 8)]), (.sl 4 0 1 1)] .any
(.again 0 [(.i 6), (.cat [(.q 8), (.q 10)])])),
(.df (.app 1 1 (.own 1 [(.x 6 [8])])) [(.cat [(.q 8)]), (.sl 4 0 1 1)] .any
(.again 0 [(.i 7), (.cat [(.q 8), (.q 10)])])),
(.df (.app 1 1 (.own 1 [(.x 6 [9])])) [(.cat [(.q 8)]), (.sl 4 0 1 1)] .any
(.again 0 [(.i 8), (.cat [(.q 8), (.q 10)])])),
(.df (.app 1 1 (.own 1 [(.x 6 [10])])) [(.cat [(.q 8)]), (.sl 4 0 1 1)] .any
(.again 0 [(.i 9), (.cat [(.q 8), (.q 10)])])),
(.df (.app 1 1 (.own 1 [(.x 6 [11])])) [(.cat [(.q 8)]), (.sl 4 0 1 1)] .any
(.again 0 [(.i 10), (.cat [(.q 8), (.q 10)])])),
(.df (.app 1 1 (.own 1 [(.x 6 [12])])) [(.cat [(.q 8)]), (.sl 4 0 1 1)] .any
(.again 0 [(.i 11), (.cat [(.q 8), (.q 10)])])),
(.df (.app 1 1 (.own 1 [(.x 6 [13])])) [(.cat [(.q 8)]), (.sl 4 0 1 1)] .any
(.again 0 [(.i 12), (.cat [(.q 8), (.q 10)])])),
(.df (.app 1 1 (.own 1 [(.x 6 [14])])) [(.cat [(.q 8)]), (.sl 4 0 1 1)] .any
(.again 0 [(.i 13), (.cat [(.q 8), (.q 10)])])),
(.df (.app 1 1 (.own 1 [(.x 6 [15])])) [(.cat [(.q 8)]), (.sl 4 0 1 1)] .any
(.again 0 [(.i 14), (.cat [(.q 8), (.q 10)])])),
(.df (.app 1 1 (.own 1 [(.x 6 [16])])) [(.cat [(.q 8)]), (.sl 4 0 1 1)] .any
(.again 0 [(.i 15), (.cat [(.q 8), (.q 10)])])),
(.df (.app 1 1 (.own 1 [(.x 6 [17])])) [(.cat [(.q 8)]), (.sl 4 0 1 1)] .any
(.again 0 [(.i 16), (.cat [(.q 8), (.q 10)])])),
(.df (.app 1 1 (.own 1 [(.x 6 [18])])) [(.cat [(.q 8)]), (.sl 4 0 1 1)] .any
(.again 0 [(.i 17), (.cat [(.q 8), (.q 10)])])),
(.df (.app 1 1 (.own 1 [(.x 6 [19])])) [(.cat [(.q 8)]), (.sl 4 0 1 1)] .any
(.again 0 [(.i 18), (.cat [(.q 8), (.q 10)])])),
(.df (.app 1 1 (.own 1 [(.x 6 [20])])) [(.cat [(.q 8)]), (.sl 4 0 1 1)] .any
(.again 0 [(.i 19), (.cat [(.q 8), (.q 10)])])),
(.df (.app 1 1 (.own 1 [(.x 6 [21])])) [(.cat [(.q 8)]), (.sl 4 0 1 1)] .any
(.again 0 [(.i 20), (.cat [(.q 8), (.q 10)])])),
(.df (.app 1 1 (.own 1 [(.x 6 [22])])) [(.cat [(.q 8)]), (.sl 4 0 1 1)] .any
(.again 0 [(.i 21), (.cat [(.q 8), (.q 10)])])),
(.df (.app 1 1 (.own 1 [(.x 6 [23])])) [(.cat [(.q 8)]), (.sl 4 0 1 1)] .any
(.again 0 [(.i 22), (.cat [(.q 8), (.q 10)])])),
(.df (.app 1 1 (.own 1 [(.x 6 [24])])) [(.cat [(.q 8)]), (.sl 4 0 1 1)] .any
(.again 0 [(.i 23), (.cat [(.q 8), (.q 10)])])),
(.df (.app 1 1 (.own 1 [(.x 6 [25])])) [(.cat [(.q 8)]), (.sl 4 0 1 1)] .any
(.again 0 [(.i 24), (.cat [(.q 8), (.q 10)])])),
(.df (.app 1 1 (.own 1 [(.x 6 [26])])) [(.cat [(.q 8)]), (.sl 4 0 1 1)] .any
(.again 0 [(.i 25), (.cat [(.q 8), (.q 10)])])),
(.df (.app 1 1 (.own 1 [(.x 6 [27])])) [(.cat [(.q 8)]), (.sl 4 0 1 1)] .any
(.again 0 [(.i 26), (.cat [(.q 8), (.q 10)])])),
(.df (.app 1 1 (.own 1 [(.x 6 [28])])) [(.cat [(.q 8)]), (.sl 4 0 1 1)] .any
(.again 0 [(.i 27), (.cat [(.q 8), (.q 10)])])),
(.df (.app 1 1 (.own 1 [(.x 6 [29])])) [(.cat [(.q 8)]), (.sl 4 0 1 1)] .any
(.again 0 [(.i 28), (.cat [(.q 8), (.q 10)])])),
(.df (.app 1 1 (.own 1 [(.x 6 [30])])) [(.cat [(.q 8)]), (.sl 4 0 1 1)] .any
(.again 0 [(.i 29), (.cat [(.q 8), (.q 10)])])),
(.df (.app 1 1 (.own 1 [(.x 6 [31])])) [(.cat [(.q 8)]), (.sl 4 0 1 1)] .any
(.again 0 [(.i 30), (.cat [(.q 8), (.q 10)])])),
(.df (.app 1 1 (.own 1 [(.x 6 [32])])) [(.cat [(.q 8)]), (.sl 4 0 1 1)] .any
(.again 0 [(.i 31), (.cat [(.q 8), (.q 10)])])),
(.df (.app 1 1 (.own 1 [(.x 6 [33])])) [(.cat [(.q 8)]), (.sl 4 0 1 1)] .any
(.again 0 [(.i 32), (.cat [(.q 8), (.q 10)])]))])
(.df (.call 40 [(.row 1 [(.q 8)])]) [(.row 3)] (.ag 4)
(.df (.call 40 [(.ext 1)]) [(.x 6 [34])] (.ag 4)
(.df (.callg 38 [.no] [(.own 4 [(.i 1), (.x 6 [0]), (.k (.string ⟨#[]⟩)), (.k (.slice none 0 0)), (.i 1), (.x 6 [1]), (.k (.string ⟨#[]⟩)), (.k (.slice none 0 0)), (.x 10 [0]), (.x 10 [1]), (.x 10 [2]), (.x 10 [3]), (.x 11 [0]), (.x 11 [1]), (.x 11 [2]), (.x 11 [3])])]) [(.a [(.i 3), (.i 0), (.k (.string ⟨#[]⟩)), (.sl 15 0 4 4)]), (.sl 15 0 4 4)] (.tp [(.sl 1), .one])
(.ret (.t [(.k (.string ⟨#[108, 105, 110, 107]⟩)), (.row 17)]) (List.replicate 17 none ++ [(some ⟨[(.x 12 [0])], 0, (.ext 1)⟩)]) []))))))))))))))
def args_rtext : List SX.V := [.x 0 []]
set_option maxRecDepth 100000 in
theorem run_rtext (K A : Value → Nat → List Value → Prop) : (SX.run (cxQ6 K A) ⟨fun f => true, [⟨31, 6, [(.s 6, .one), (.s 5, .row 1 5)]⟩], 2, 100⟩ 100000 0 (SX.door 31 Tryd.f31 args_rtext [.one]) [.code (Tryd.f31.body.getD .skip), .top Tryd.f31]).strip = tree_rtext := by kernel_rfl
set_option maxRecDepth 100000 in
set_option maxHeartbeats 4000000 in
theorem rtext_any (ls : List Lk) (A : Option Addr) (n c : Nat) (w : World) (hr : Rd w 35 A n (lkL ls)) (hc : n ≤ c) (hn : n ≤ 4611686018427387904) (hd : ∀ z ∈ ls, z.rd w) (hfit : ∀ z ∈ ls, z.fit) (hlaid : Laid w) : Calls Tryd.prog 31 #[.slice A n c] w fun e w' => Below w.heap.size w w' ∧ ∃ hdr, e = .returned (.tuple #[.string (textT ls), hdr]) ∧ SX.SlRet w w' [] hdr 1 ((textB ls).flatMap c8) := by
  refine SX.calls_of_run (C := cxQ6 (KL A n c ls) (fun _ _ _ => False)) (G := ⟨fun f => true, [⟨31, 6, [(.s 6, .one), (.s 5, .row 1 5)]⟩], 2, 100⟩) (args := args_rtext) (sh := [.one]) (ρ := [.slice A n c]) 100000 tree_rtext (okQ6 _ _) Tryd.func31 rfl (run_rtext _ _) (by kernel_rfl) (by kernel_rfl) (by kernel_rfl) ?_ ?_
  · exact fun W hW => KL_rd hW hr hd hlaid
  have hA := SX.rd_some hr
  have hlc : (lkL ls).length = n * 35 := hr.1
  have hln : ls.length = n := by rw [lkL_len] at hlc; omega
  unfold tree_rtext
  refine SX.D (.int .i64 (((n : Nat) : Int))) ?_
  refine SX.D (.bool ((((n : Nat) : Int) : Int) == 0)) ?_
  refine SX.B ((((n : Nat) : Int) : Int) == 0) (fun h2 => ?_) (fun h2 => ?_)
  · try simp only [NRM] at h2
    obtain ⟨q1, q2⟩ := text_zero (ls := ls) (by (try simp at h2); omega)
    exact SX.VC_ret fun α W _ _ hS => ⟨hS.below, _, by rw [q1]; rfl, by rw [q2]; exact SX.SlRet.nil⟩
  try simp only [NRM] at h2
  refine SX.D (.int .i64 (((n : Nat) : Int))) ?_
  refine SX.E (.int .i64 (((n - 1 : Nat) : Int))) (fun α => Eq.trans (b := some (.int .i64 (IntKind.i64.wrap ((n : Nat) - 1)))) (by kernel_rfl) (by rw [show ((n - 1 : Nat) : Int) = ((n : Nat) : Int) - 1 by omega, wrap_i64 (by omega) (by omega)])) ?_
  have hpos : 0 < n := by (try simp at h2); omega
  obtain ⟨z, hz⟩ : ∃ z, ls[n - 1]? = some z := ⟨_, List.getElem?_eq_getElem (by omega)⟩
  have hzm := List.mem_of_getElem? hz
  refine SX.E (.bool true) (fun α => SX.extBnd (A := A) (n := n) (c := c) (j := n - 1) hA (by kernel_rfl) (by kernel_rfl) (by omega)) ?_
  refine SX.E (.agg (cellsLk z).toArray) (fun α => SX.extElems (f := cellsLk) (l := ls) (A := A) (n := n) (c := c) (j := n - 1) (z := z) (fun _ => rfl) hA (by kernel_rfl) (by kernel_rfl) (by omega) (.inl (SX.SubK.full hlc hc)) hz) ?_
  refine SX.VC_loop (fun xs => ∃ (i : Nat), xs = [.int .i64 (i : Int), .agg (((dgL z.prev).take i).flatMap c8).toArray] ∧ i ≤ 32) (fun xs => match xs with | .int _ i :: _ => 32 - i.toNat | _ => 0) (fun α => ⟨0, by kernel_rfl, by omega⟩) ?_
  rintro xs - ⟨i, rfl, hin⟩
  refine SX.D (.bool (decide (((i : Nat) : Int) < 32))) ?_
  refine SX.B (decide (((i : Nat) : Int) < 32)) (fun h9 => ?_) (fun h9 => ?_)
  · try simp only [NRM] at h9
    have h32 : i < 32 := by omega
    refine VC_spF (fun k => .df (.app 1 1 (.own 1 [(.x 6 [k + 2])])) [(.cat [(.x 8 [])]), (.sl 4 0 1 1)] .any (.again 0 [(.k (.int .i64 ((k + 1 : Nat) : Int))), (.cat [(.x 8 []), (.x 10 [])])])) 32 (by kernel_rfl) i h32 (by kernel_rfl) ?_
    have hacc : ((dgL z.prev).take i).length ≤ 32 := by rw [List.length_take]; omega
    refine SX.E (Value.agg (([z.prev i]).flatMap c8).toArray) (fun α => SX.app_rel (f := c8) (l1 := (dgL z.prev).take i) (l2 := [z.prev i]) (fun _ => rfl) c8o (by decide) (SX.cat1 (by kernel_rfl)) (SX.src_own (Eq.trans (b := [(cellsLk z).getD (i + 2) undef]) (by kernel_rfl) (by rw [prev_at z h32]; rfl))) (by simp only [LL]; omega) (by simp only [LL]; omega)) ?_
    exact SX.VC_again fun α => ⟨⟨i + 1, Eq.trans (b := [.int .i64 ((i + 1 : Nat) : Int), .agg ([Value.agg (((dgL z.prev).take i).flatMap c8).toArray, Value.agg (([z.prev i]).flatMap c8).toArray].flatMap SX.cellsV).toArray]) (by kernel_rfl) (by rw [dgL_take _ h32]; simp [SX.cellsV]), by omega⟩, cast (by kernel_rfl) (show 32 - ((i + 1 : Nat) : Int).toNat < 32 - (i : Int).toNat by omega)⟩
  try simp only [NRM] at h9
  refine SX.E (.agg #[.int .i64 2, .int .i64 0, .string ((bt (dgL z.prev))), (.slice none 0 0)]) (fun α => ⟨[⟨(α 3).h, 1, (dgL z.prev).flatMap c8⟩], ⟨Eq.trans (b := (⟨(α 3).h, 1, [Value.agg (((dgL z.prev).take i).flatMap c8).toArray].flatMap SX.cellsV⟩ : SX.Arg)) (by rw [show i = 32 by omega]; rfl) (by kernel_rfl), trivial⟩, .inl ⟨rfl, _, dgL z.prev, rfl, rfl⟩, SX.noAli rfl⟩) ?_
  refine SX.E (.agg #[.int .i64 2, .int .i64 0, .string z.tx, (.slice none 0 0)]) (fun α => ⟨[⟨z.hdr, 1, (sb z.tx).flatMap c8⟩], ⟨by kernel_rfl, by kernel_rfl, KL_data hzm, trivial⟩, .inl ⟨rfl, _, sb z.tx, rfl, by rw [bt_sb]⟩, SX.noAli rfl⟩) ?_
  refine SX.VC_df (.tuple #[Value.agg ((encL (flLk z)).flatMap c8).toArray, .int .i64 0]) (fun α => ⟨[⟨.agg #[.int .i64 3, .int .i64 0, .string ⟨#[]⟩, .slice (some ⟨(α 15).b, 0, none⟩) 4 4], 0, []⟩], [⟨.slice (some ⟨(α 15).b, 0, none⟩) 4 4, 4, flL (flLk z)⟩], ⟨by kernel_rfl, by kernel_rfl, trivial⟩, ⟨by kernel_rfl, trivial⟩, .inr (⟨rfl, _, flLk z, rfl, .inr (by simp), (by show (4 : Nat) ≤ _; decide), flLk_fits (hfit z hzm), rfl⟩), SX.noAli rfl⟩) ((enc_fit _ _)) ?_
  obtain ⟨q1, q2⟩ := text_last (ls := ls) (by rw [hln]; exact hz)
  exact SX.VC_ret fun α W _ hR hS => ⟨hS.below, (α 17).h, by rw [q1]; kernel_rfl, by rw [q2]; exact SX.SlRet.ext0 hS (n := 17) (b := (⟨[(.x 12 [0])], 0, (.ext 1)⟩ : SX.Blk)) (by kernel_rfl) rfl (hR 17 _ (by kernel_rfl)) (Eq.trans (b := [Value.agg ((encL (flLk z)).flatMap c8).toArray].flatMap SX.cellsV) (by kernel_rfl) (by simp [SX.cellsV])) (fun W2 s z xs hk => nomatch hk) (fun B s z xs hk => nomatch hk)⟩
def RQ7 (K : Value → Nat → List Value → Prop) (f : FuncId) (xs : List SX.Arg) (v : Value) : Prop :=
  (f = 31 ∧ ∃ (u : Value) (ls : List Lk), xs = [⟨u, 35, lkL ls⟩] ∧ LaidK K ∧ ls.length ≤ 4611686018427387904 ∧ (∀ z ∈ ls, z.kn K ∧ z.fit) ∧ v = .tuple #[.string (textT ls), .agg ((textB ls).flatMap c8).toArray]) ∨
  (f = 34 ∧ ∃ (s : ByteArray) (u : Value) (l : List W8), xs = [⟨.string s, 0, []⟩, ⟨u, 1, l.flatMap c8⟩] ∧ s.size < 2 ^ 44 ∧ l.length < 2 ^ 44 ∧ v = dgV (dgF (tagE (sb s) l)))
def shpQ7 : FuncId → Option SX.Sh := fun f => if f = 31 then some (.tp [.one, .sl 1]) else if f = 34 then some (.ag 32) else none
noncomputable def cxQ7 (K A : Value → Nat → List Value → Prop) : SX.Cx := { P := Tryd.prog, R := RQ7, shp := shpQ7, K := K, A := A, trm := true }
theorem okQ7 (K A : Value → Nat → List Value → Prop) : (cxQ7 K A).Ok := by
  refine SX.Cx.ok_of (fun _ => rfl) ?_
  intro K f xs v W hR hrd hKf
  rcases hR with ⟨rfl, u, ls, rfl, hL, hb, hk, rfl⟩ | ⟨rfl, s, u, l, rfl, hs, hl, rfl⟩
  · obtain ⟨A, n, c, rfl, hr, hc, hln⟩ := lk_arg (hrd ⟨u, 35, lkL ls⟩ (by simp))
    exact (rtext_any ls A n c W hr hc (by omega) (fun z hz => (hk z hz).1.rd hKf) (fun z hz => (hk z hz).2) (laid_of hL hKf)).mono fun e w' h => SX.SlRet.ok10 rfl h
  obtain ⟨A, n, c, rfl, hr, hc, -⟩ := byte_arg (hrd ⟨u, 1, l.flatMap c8⟩ (by simp))
  rw [← dg_val (tagE_len _ _)]
  exact (rtagged_any s l hs hl A n c W hr hc).mono fun e w' h => SX.plainOk rfl h
def tree_rhead : SX.Tree :=
(.df (.call 31 [(.ext 35)]) [(.q 0)] (.tp [.one, (.sl 1)])
(.df (.call 34 [.no, (.row 1 [(.x 1 [1])])]) [(.x 1 [0]), (.row 1)] (.ag 32)
(.ret (.a (SX.Y 2 0 32)) [] [])))
def args_rhead : List SX.V := [.x 0 []]
set_option maxRecDepth 100000 in
theorem run_rhead (K A : Value → Nat → List Value → Prop) : (SX.run (cxQ7 K A) ⟨fun f => true, [], 0, 100⟩ 100000 0 (SX.door 22 Tryd.f22 args_rhead [.one]) [.code (Tryd.f22.body.getD .skip), .top Tryd.f22]).strip = tree_rhead := by kernel_rfl
set_option maxRecDepth 100000 in
set_option maxHeartbeats 4000000 in
theorem rhead_any (ls : List Lk) (A : Option Addr) (n c : Nat) (w : World) (hr : Rd w 35 A n (lkL ls)) (hc : n ≤ c) (hn : n ≤ 4611686018427387904) (hd : ∀ z ∈ ls, z.rd w) (hfit : ∀ z ∈ ls, z.fit) (hlaid : Laid w) : Calls Tryd.prog 22 #[.slice A n c] w fun e w' => e = .returned (dgV (headF ls)) ∧ Below w.heap.size w w' := by
  refine SX.calls_of_run (C := cxQ7 (KL A n c ls) (fun _ _ _ => False)) (G := ⟨fun f => true, [], 0, 100⟩) (args := args_rhead) (sh := [.one]) (ρ := [.slice A n c]) 100000 tree_rhead (okQ7 _ _) Tryd.func22 rfl (run_rhead _ _) (by kernel_rfl) (by kernel_rfl) (by kernel_rfl) ?_ ?_
  · exact fun W hW => KL_rd hW hr hd hlaid
  have hA := SX.rd_some hr
  have hlc : (lkL ls).length = n * 35 := hr.1
  have hln : ls.length = n := by rw [lkL_len] at hlc; omega
  unfold tree_rhead
  refine SX.VC_df (.tuple #[.string ((textT ls)), Value.agg ((textB ls).flatMap c8).toArray]) (fun α => ⟨[⟨.slice A n c, 35, lkL ls⟩], ⟨by kernel_rfl, by kernel_rfl, .inl (SX.SubK.full hlc hc), trivial⟩, .inl ⟨rfl, _, ls, rfl, KL_laid _ _ _ _, by omega, fun y hy => ⟨.inl (KL_data hy), hfit y hy⟩, rfl⟩, SX.noAli rfl⟩) ((fit01 _ rfl _)) ?_
  refine SX.VC_df (dgV (dgF (tagE (sb (textT ls)) (textB ls)))) (fun α => ⟨[⟨.string (textT ls), 0, []⟩, ⟨(α 1).h, 1, (textB ls).flatMap c8⟩], ⟨by kernel_rfl, by kernel_rfl, Eq.trans (b := (⟨(α 1).h, 1, [Value.agg ((textB ls).flatMap c8).toArray].flatMap SX.cellsV⟩ : SX.Arg)) (by simp [SX.cellsV]) (by kernel_rfl), trivial⟩, .inr (⟨rfl, textT ls, _, textB ls, rfl, textT_lt ls, textB_lt hfit, rfl⟩), SX.noAli rfl⟩) ((dgV_fit _)) ?_
  exact SX.F (dgV (dgF (tagE (sb (textT ls)) (textB ls)))) (by rw [headF_text])
def RQ8 (K : Value → Nat → List Value → Prop) (f : FuncId) (xs : List SX.Arg) (v : Value) : Prop :=
  (f = 22 ∧ ∃ (u : Value) (ls : List Lk), xs = [⟨u, 35, lkL ls⟩] ∧ LaidK K ∧ ls.length ≤ 4611686018427387904 ∧ (∀ z ∈ ls, z.kn K ∧ z.fit) ∧ v = dgV (headF ls))
def shpQ8 : FuncId → Option SX.Sh := fun f => if f = 22 then some (.ag 32) else none
noncomputable def cxQ8 (K A : Value → Nat → List Value → Prop) : SX.Cx := { P := Tryd.prog, R := RQ8, shp := shpQ8, K := K, A := A, trm := true }
theorem okQ8 (K A : Value → Nat → List Value → Prop) : (cxQ8 K A).Ok := by
  refine SX.Cx.ok_of (fun _ => rfl) ?_
  intro K f xs v W hR hrd hKf
  rcases hR with ⟨rfl, u, ls, rfl, hL, hb, hk, rfl⟩
  obtain ⟨A, n, c, rfl, hr, hc, hln⟩ := lk_arg (hrd ⟨u, 35, lkL ls⟩ (by simp))
  exact (rhead_any ls A n c W hr hc (by omega) (fun z hz => (hk z hz).1.rd hKf) (fun z hz => (hk z hz).2) (laid_of hL hKf)).mono fun e w' h => SX.plainOk rfl h
def tree_rck : SX.Tree :=
(.df (.len false) [(.q 0)] .one
(.df (.bin .gtr 3) [(.q 1), (.i 1024)] .one
(.br 2 []
(.ret (.i 2) [] [])
(.loop [(.i 0)] [.one]
(.df (.len false) [(.q 0)] .one
(.df (.bin .lss 3) [(.q 3), (.q 4)] .one
(.br 5 []
(.df .bnd [(.q 0), (.q 3)] .one
(.df (.elems 35 0 35) [(.q 0), (.q 3)] (.ag 35)
(.df (.bin .lss 3) [(.x 7 [0]), (.i 0)] .one
(.br 8 []
(.ret (.i 80) [] [])
(.df (.bin .geq 3) [(.x 7 [0]), (.i 24)] .one
(.br 9 []
(.ret (.i 80) [] [])
(.df .bnd [(.q 0), (.i 0)] .one
(.df .bnd [(.q 0), (.i 0)] .one
(.df (.elem 35 0) [(.q 0), (.i 0)] .one
(.df (.bin .neq 3) [(.x 7 [0]), (.q 12)] .one
(.br 13 []
(.ret (.i 80) [] [])
(.df (.bin .neq 3) [(.x 7 [1]), (.q 3)] .one
(.br 14 []
(.ret (.i 80) [] [])
(.df (.len false) [(.x 7 [34])] .one
(.df (.bin .gtr 3) [(.q 15), (.i 65536)] .one
(.br 16 []
(.ret (.i 80) [] [])
(.df (.slc false 35 false true false) [(.q 0), (.q 3)] .one
(.df (.call 22 [(.ext 35)]) [(.q 17)] (.ag 32)
(.df (.eqr true 32 [(.i .u8), (.i .u8), (.i .u8), (.i .u8), (.i .u8), (.i .u8), (.i .u8), (.i .u8), (.i .u8), (.i .u8), (.i .u8), (.i .u8), (.i .u8), (.i .u8), (.i .u8), (.i .u8), (.i .u8), (.i .u8), (.i .u8), (.i .u8), (.i .u8), (.i .u8), (.i .u8), (.i .u8), (.i .u8), (.i .u8), (.i .u8), (.i .u8), (.i .u8), (.i .u8), (.i .u8), (.i .u8)]) (SX.Y 7 2 32 ++ SX.Y 18 0 32) .one
(.br 19 []
(.ret (.i 80) [] [])
(.df (.bin .add 3) [(.q 3), (.i 1)] .one
(.again 0 [(.q 20)]))))))))))))))))))))))
(.ret (.i 0) [] []))))))))
def args_rck : List SX.V := [.x 0 []]
set_option maxRecDepth 100000 in
theorem run_rck (K A : Value → Nat → List Value → Prop) : (SX.run (cxQ8 K A) ⟨fun f => true, [⟨21, 4, [(.s 3, .one)]⟩], 0, 100⟩ 100000 0 (SX.door 21 Tryd.f21 args_rck [.one]) [.code (Tryd.f21.body.getD .skip), .top Tryd.f21]).strip = tree_rck := by kernel_rfl
set_option maxRecDepth 100000 in
set_option maxHeartbeats 4000000 in
theorem rck_any (ls : List Lk) (A : Option Addr) (n c : Nat) (w : World) (hr : Rd w 35 A n (lkL ls)) (hc : n ≤ c) (hn : n ≤ 4611686018427387904) (hd : ∀ z ∈ ls, z.rd w) (hfit : ∀ z ∈ ls, z.fit) (hlaid : Laid w) : Calls Tryd.prog 21 #[.slice A n c] w fun e w' => e = .returned (.int .i64 (chkE ls)) ∧ Below w.heap.size w w' := by
  refine SX.calls_of_run (C := cxQ8 (KL A n c ls) (fun _ _ _ => False)) (G := ⟨fun f => true, [⟨21, 4, [(.s 3, .one)]⟩], 0, 100⟩) (args := args_rck) (sh := [.one]) (ρ := [.slice A n c]) 100000 tree_rck (okQ8 _ _) Tryd.func21 rfl (run_rck _ _) (by kernel_rfl) (by kernel_rfl) (by kernel_rfl) ?_ ?_
  · exact fun W hW => KL_rd hW hr hd hlaid
  have hA := SX.rd_some hr
  have hlc : (lkL ls).length = n * 35 := hr.1
  have hln : ls.length = n := by rw [lkL_len] at hlc; omega
  unfold tree_rck
  refine SX.D (.int .i64 (((n : Nat) : Int))) ?_
  refine SX.D (.bool (decide (((n : Nat) : Int) > 1024))) ?_
  refine SX.B (decide (((n : Nat) : Int) > 1024)) (fun h2 => ?_) (fun h2 => ?_)
  · try simp only [NRM] at h2
    exact SX.F (.int .i64 2) (by rw [chkE_big (by (try simp at h2); omega)])
  try simp only [NRM] at h2
  refine SX.VC_loop (fun xs => ∃ (i : Nat), xs = [.int .i64 (i : Int)] ∧ i ≤ n ∧ okTo ls i) (fun xs => match xs with | .int _ i :: _ => n - i.toNat | _ => 0) (fun α => ⟨0, by kernel_rfl, by omega, okTo_zero ls⟩) ?_
  rintro xs - ⟨i, rfl, hin, hok⟩
  refine SX.D (.int .i64 (((n : Nat) : Int))) ?_
  refine SX.D (.bool (decide (((i : Nat) : Int) < ((n : Nat) : Int)))) ?_
  refine SX.B (decide (((i : Nat) : Int) < ((n : Nat) : Int))) (fun h5 => ?_) (fun h5 => ?_)
  · try simp only [NRM] at h5
    have hin2 : i < n := by (try simp at h5); omega
    obtain ⟨z, hz⟩ : ∃ z, ls[i]? = some z := ⟨_, List.getElem?_eq_getElem (by omega)⟩
    have hzm := List.mem_of_getElem? hz
    refine SX.E (.bool true) (fun α => SX.extBnd (A := A) (n := n) (c := c) (j := i) hA (by kernel_rfl) (by kernel_rfl) (by omega)) ?_
    refine SX.E (.agg (cellsLk z).toArray) (fun α => SX.extElems (f := cellsLk) (l := ls) (A := A) (n := n) (c := c) (j := i) (z := z) (fun _ => rfl) hA (by kernel_rfl) (by kernel_rfl) (by omega) (.inl (SX.SubK.full hlc hc)) hz) ?_
    refine SX.D (.bool (decide (z.node < 0))) ?_
    refine SX.B (decide (z.node < 0)) (fun h8 => ?_) (fun h8 => ?_)
    · try simp only [NRM] at h8
      exact SX.F (.int .i64 80) (by rw [chkE_no (by (try simp at h2); omega) hz fun hk => by obtain ⟨⟨y, hy, k1⟩, k2, k3, k4, k5, k6⟩ := hk; (try simp at h8); first | omega | exact h8 k1 | exact h8 k4 | exact h8 k6 | simp_all])
    try simp only [NRM] at h8
    refine SX.D (.bool (decide (z.node ≥ 24))) ?_
    refine SX.B (decide (z.node ≥ 24)) (fun h9 => ?_) (fun h9 => ?_)
    · try simp only [NRM] at h9
      exact SX.F (.int .i64 80) (by rw [chkE_no (by (try simp at h2); omega) hz fun hk => by obtain ⟨⟨y, hy, k1⟩, k2, k3, k4, k5, k6⟩ := hk; (try simp at h9); first | omega | exact h9 k1 | exact h9 k4 | exact h9 k6 | simp_all])
    try simp only [NRM] at h9
    obtain ⟨z0, hz0⟩ : ∃ z0, ls[0]? = some z0 := ⟨_, List.getElem?_eq_getElem (by omega)⟩
    refine SX.E (.bool true) (fun α => SX.extBnd (A := A) (n := n) (c := c) (j := 0) hA (by kernel_rfl) (by kernel_rfl) (by omega)) ?_
    refine SX.E (.bool true) (fun α => SX.extBnd (A := A) (n := n) (c := c) (j := 0) hA (by kernel_rfl) (by kernel_rfl) (by omega)) ?_
    refine SX.E (.int .i64 z0.node) (fun α => SX.extElem (o := 0) (v := .int .i64 z0.node) (f := cellsLk) (l := ls) (A := A) (n := n) (c := c) (j := 0) (z := z0) (fun _ => rfl) hA (by kernel_rfl) (by kernel_rfl) (by omega) (.inl (SX.SubK.full hlc hc)) hz0 (by decide) (by kernel_rfl)) ?_
    refine SX.D (.bool ((z.node : Int) != z0.node)) ?_
    refine SX.B ((z.node : Int) != z0.node) (fun h13 => ?_) (fun h13 => ?_)
    · try simp only [NRM] at h13
      exact SX.F (.int .i64 80) (by rw [chkE_no (by (try simp at h2); omega) hz fun hk => by obtain ⟨⟨y, hy, k1⟩, k2, k3, k4, k5, k6⟩ := hk; rw [hz0] at hy; cases hy; (try simp at h13); first | omega | exact h13 k1 | exact h13 k4 | exact h13 k6 | simp_all])
    try simp only [NRM] at h13
    refine SX.D (.bool ((z.no : Int) != ((i : Nat) : Int))) ?_
    refine SX.B ((z.no : Int) != ((i : Nat) : Int)) (fun h14 => ?_) (fun h14 => ?_)
    · try simp only [NRM] at h14
      exact SX.F (.int .i64 80) (by rw [chkE_no (by (try simp at h2); omega) hz fun hk => by obtain ⟨⟨y, hy, k1⟩, k2, k3, k4, k5, k6⟩ := hk; rw [hz0] at hy; cases hy; (try simp at h14); first | omega | exact h14 k1 | exact h14 k4 | exact h14 k6 | simp_all])
    try simp only [NRM] at h14
    refine SX.D (.int .i64 (((z.n : Nat) : Int))) ?_
    refine SX.D (.bool (decide (((z.n : Nat) : Int) > 65536))) ?_
    refine SX.B (decide (((z.n : Nat) : Int) > 65536)) (fun h16 => ?_) (fun h16 => ?_)
    · try simp only [NRM] at h16
      exact SX.F (.int .i64 80) (by rw [chkE_no (by (try simp at h2); omega) hz fun hk => by obtain ⟨⟨y, hy, k1⟩, k2, k3, k4, k5, k6⟩ := hk; rw [hz0] at hy; cases hy; (try simp at h16); first | omega | exact h16 k1 | exact h16 k4 | exact h16 k6 | simp_all])
    try simp only [NRM] at h16
    refine SX.E ((SX.subS A 35 0 i c)) (fun α => SX.slc_hi (A := A) (n := n) (c := c) (k := i) (by kernel_rfl) (by kernel_rfl) (by omega)) ?_
    refine SX.VC_df (dgV (headF (ls.take i))) (fun α => ⟨[⟨(SX.subS A 35 0 i c), 35, lkL (ls.take i)⟩], ⟨by kernel_rfl, by kernel_rfl, KL_take (by omega) hc, trivial⟩, ⟨rfl, _, ls.take i, rfl, KL_laid _ _ _ _, by rw [List.length_take]; omega, fun y hy => ⟨.inl (KL_data (List.mem_of_mem_take hy)), hfit y (List.mem_of_mem_take hy)⟩, rfl⟩, SX.noAli rfl⟩) (dgV_fit _) ?_
    refine SX.E (.bool (true ^^ decide (dgL z.prev = dgL (headF (ls.take i))))) (fun α => SX.eqr_rel (f := (fun l : List W8 => l.map w8)) w8_map_inj (y := dgL z.prev) (z := dgL (headF (ls.take i))) (by kernel_rfl) (by kernel_rfl) (by kernel_rfl)) ?_
    refine SX.B (true ^^ decide (dgL z.prev = dgL (headF (ls.take i)))) (fun h19 => ?_) (fun h19 => ?_)
    · try simp only [NRM] at h19
      exact SX.F (.int .i64 80) (by rw [chkE_no (by (try simp at h2); omega) hz fun hk => by obtain ⟨⟨y, hy, k1⟩, k2, k3, k4, k5, k6⟩ := hk; rw [hz0] at hy; cases hy; (try simp at h19); first | omega | exact h19 k1 | exact h19 k4 | exact h19 k6 | simp_all])
    try simp only [NRM] at h19
    refine SX.E (.int .i64 (((i + 1 : Nat) : Int))) (fun α => SX.W1 i) ?_
    exact SX.VC_again fun α => ⟨⟨i + 1, by kernel_rfl, by omega, okTo_succ hok hz ⟨⟨z0, hz0, by (try simp at h13); first | exact h13 | omega⟩, by omega, by omega, by (try simp at h14); first | exact h14 | omega, by omega, by simpa using h19⟩⟩, cast (by kernel_rfl) (show n - ((i + 1 : Nat) : Int).toNat < n - (i : Int).toNat by omega)⟩
  try simp only [NRM] at h5
  exact SX.F (.int .i64 0) (by rw [chkE_ok (by (try simp at h2); omega) (by rw [hln, show n = i by (try simp at h5); omega]; exact hok)])
def RQ9 (K : Value → Nat → List Value → Prop) (f : FuncId) (xs : List SX.Arg) (v : Value) : Prop :=
  (f = 21 ∧ ∃ (u : Value) (ls : List Lk), xs = [⟨u, 35, lkL ls⟩] ∧ LaidK K ∧ ls.length ≤ 4611686018427387904 ∧ (∀ z ∈ ls, z.kn K ∧ z.fit) ∧ v = .int .i64 (chkE ls)) ∨
  (f = 18 ∧ ∃ y z : Lk, xs = [⟨valLk y, 0, []⟩, ⟨valLk z, 0, []⟩] ∧ y.kn K ∧ z.kn K ∧ v = .bool (decide (slE y z)))
def shpQ9 : FuncId → Option SX.Sh := fun f => if f = 21 then some .one else if f = 18 then some .one else none
noncomputable def cxQ9 (K A : Value → Nat → List Value → Prop) : SX.Cx := { P := Tryd.prog, R := RQ9, shp := shpQ9, K := K, A := A, trm := true }
theorem okQ9 (K A : Value → Nat → List Value → Prop) : (cxQ9 K A).Ok := by
  refine SX.Cx.ok_of (fun _ => rfl) ?_
  intro K f xs v W hR hrd hKf
  rcases hR with ⟨rfl, u, ls, rfl, hL, hb, hk, rfl⟩ | ⟨rfl, y, z, rfl, hy, hz, rfl⟩
  · obtain ⟨A, n, c, rfl, hr, hc, hln⟩ := lk_arg (hrd ⟨u, 35, lkL ls⟩ (by simp))
    exact (rck_any ls A n c W hr hc (by omega) (fun z hz => (hk z hz).1.rd hKf) (fun z hz => (hk z hz).2) (laid_of hL hKf)).mono fun e w' h => SX.plainOk rfl h
  exact (rsl_any y z W (hy.rd hKf) (hz.rd hKf)).mono fun e w' h => SX.plainOk rfl h
def sameL (a b : List Lk) : Prop := a.length = b.length ∧ sameTo a b a.length
noncomputable instance (a b : List Lk) : Decidable (sameL a b) := Classical.propDecidable _
noncomputable def sameB (a b : List Lk) : Bool := decide (sameL a b)
theorem sameB_yes {a b : List Lk} (h : sameL a b) : sameB a b = true := by unfold sameB; exact decide_eq_true h
theorem sameB_no {a b : List Lk} (h : ¬ sameL a b) : sameB a b = false := by unfold sameB; exact decide_eq_false h
def tree_rsame : SX.Tree :=
(.df (.len false) [(.q 0)] .one
(.df (.len false) [(.q 1)] .one
(.df (.bin .neq 3) [(.q 2), (.q 3)] .one
(.br 4 []
(.ret (.k (.bool false)) [] [])
(.loop [(.i 0)] [.one]
(.df (.len false) [(.q 0)] .one
(.df (.bin .lss 3) [(.q 5), (.q 6)] .one
(.br 7 []
(.df .bnd [(.q 0), (.q 5)] .one
(.df (.elems 35 0 35) [(.q 0), (.q 5)] (.ag 35)
(.df .bnd [(.q 1), (.q 5)] .one
(.df (.elems 35 0 35) [(.q 1), (.q 5)] (.ag 35)
(.df (.call 18 [.no, .no]) [(.a (SX.Y 9 0 35)), (.a (SX.Y 11 0 35))] .one
(.df .not [(.q 12)] .one
(.br 13 []
(.ret (.k (.bool false)) [] [])
(.df (.bin .add 3) [(.q 5), (.i 1)] .one
(.again 0 [(.q 14)])))))))))
(.ret (.k (.bool true)) [] [])))))))))
def args_rsame : List SX.V := [.x 0 [], .x 1 []]
set_option maxRecDepth 100000 in
theorem run_rsame (K A : Value → Nat → List Value → Prop) : (SX.run (cxQ9 K A) ⟨fun f => true, [⟨14, 4, [(.s 5, .one)]⟩], 0, 100⟩ 100000 0 (SX.door 14 Tryd.f14 args_rsame [.one, .one]) [.code (Tryd.f14.body.getD .skip), .top Tryd.f14]).strip = tree_rsame := by kernel_rfl
set_option maxRecDepth 100000 in
set_option maxHeartbeats 4000000 in
theorem rsame_any (la : List Lk) (A : Option Addr) (n c : Nat) (lb : List Lk) (B : Option Addr) (m d : Nat) (w : World) (hr : Rd w 35 A n (lkL la)) (hc : n ≤ c) (hn : n ≤ 4611686018427387904) (hd : ∀ z ∈ la, z.rd w) (hfit : ∀ z ∈ la, z.fit) (hr2 : Rd w 35 B m (lkL lb)) (hc2 : m ≤ d) (hn2 : m ≤ 4611686018427387904) (hd2 : ∀ z ∈ lb, z.rd w) (hfit2 : ∀ z ∈ lb, z.fit) (hlaid : Laid w) : Calls Tryd.prog 14 #[.slice A n c, .slice B m d] w fun e w' => e = .returned (.bool (sameB la lb)) ∧ Below w.heap.size w w' := by
  refine SX.calls_of_run (C := cxQ9 (K2 A n c la B m d lb) (fun _ _ _ => False)) (G := ⟨fun f => true, [⟨14, 4, [(.s 5, .one)]⟩], 0, 100⟩) (args := args_rsame) (sh := [.one, .one]) (ρ := [.slice A n c, .slice B m d]) 100000 tree_rsame (okQ9 _ _) Tryd.func14 rfl (run_rsame _ _) (by kernel_rfl) (by kernel_rfl) (by kernel_rfl) ?_ ?_
  · rintro W hW s sz cells (h | h)
    · exact KL_rd hW hr hd hlaid s sz cells h
    exact KL_rd hW hr2 hd2 hlaid s sz cells h
  have hA := SX.rd_some hr
  have hlc : (lkL la).length = n * 35 := hr.1
  have hln : la.length = n := by rw [lkL_len] at hlc; omega
  have hB := SX.rd_some hr2
  have hlc2 : (lkL lb).length = m * 35 := hr2.1
  have hlm : lb.length = m := by rw [lkL_len] at hlc2; omega
  unfold tree_rsame
  refine SX.D (.int .i64 (((n : Nat) : Int))) ?_
  refine SX.D (.int .i64 (((m : Nat) : Int))) ?_
  refine SX.D (.bool ((((n : Nat) : Int) : Int) != ((m : Nat) : Int))) ?_
  refine SX.B ((((n : Nat) : Int) : Int) != ((m : Nat) : Int)) (fun h4 => ?_) (fun h4 => ?_)
  · try simp only [NRM] at h4
    exact SX.F (.bool false) (by rw [sameB_no fun hk => by have := hk.1; rw [hln, hlm] at this; (try simp at h4); omega])
  try simp only [NRM] at h4
  have hnm : n = m := by (try simp at h4); omega
  refine SX.VC_loop (fun xs => ∃ (i : Nat), xs = [.int .i64 (i : Int)] ∧ i ≤ n ∧ sameTo la lb i) (fun xs => match xs with | .int _ i :: _ => n - i.toNat | _ => 0) (fun α => ⟨0, by kernel_rfl, by omega, sameTo_zero la lb⟩) ?_
  rintro xs - ⟨i, rfl, hin, hok⟩
  refine SX.D (.int .i64 (((n : Nat) : Int))) ?_
  refine SX.D (.bool (decide (((i : Nat) : Int) < ((n : Nat) : Int)))) ?_
  refine SX.B (decide (((i : Nat) : Int) < ((n : Nat) : Int))) (fun h7 => ?_) (fun h7 => ?_)
  · try simp only [NRM] at h7
    obtain ⟨y, hy⟩ : ∃ y, la[i]? = some y := ⟨_, List.getElem?_eq_getElem (by omega)⟩
    obtain ⟨z, hz⟩ : ∃ z, lb[i]? = some z := ⟨_, List.getElem?_eq_getElem (by omega)⟩
    have hym := List.mem_of_getElem? hy
    have hzm := List.mem_of_getElem? hz
    refine SX.E (.bool true) (fun α => SX.extBnd (A := A) (n := n) (c := c) (j := i) hA (by kernel_rfl) (by kernel_rfl) (by omega)) ?_
    refine SX.E (.agg (cellsLk y).toArray) (fun α => SX.extElems (f := cellsLk) (l := la) (A := A) (n := n) (c := c) (j := i) (z := y) (fun _ => rfl) hA (by kernel_rfl) (by kernel_rfl) (by omega) (.inl (.inl (SX.SubK.full hlc hc))) hy) ?_
    refine SX.E (.bool true) (fun α => SX.extBnd (A := B) (n := m) (c := d) (j := i) hB (by kernel_rfl) (by kernel_rfl) (by omega)) ?_
    refine SX.E (.agg (cellsLk z).toArray) (fun α => SX.extElems (f := cellsLk) (l := lb) (A := B) (n := m) (c := d) (j := i) (z := z) (fun _ => rfl) hB (by kernel_rfl) (by kernel_rfl) (by omega) (.inr (.inl (SX.SubK.full hlc2 hc2))) hz) ?_
    refine SX.E (.bool (decide (slE y z))) (fun α => ⟨[⟨valLk y, 0, []⟩, ⟨valLk z, 0, []⟩], ⟨by kernel_rfl, by kernel_rfl, by kernel_rfl, by kernel_rfl, trivial⟩, .inr (⟨rfl, y, z, rfl, .inl (.inl (KL_data hym)), .inl (.inr (KL_data hzm)), rfl⟩), SX.noAli rfl⟩) ?_
    refine SX.D (.bool (!(decide (slE y z)))) ?_
    refine SX.B (!(decide (slE y z))) (fun h13 => ?_) (fun h13 => ?_)
    · try simp only [NRM] at h13
      exact SX.F (.bool false) (by rw [sameB_no fun hk => absurd (hk.2 i y z (by rw [hln]; omega) hy hz) (by simpa using h13)])
    try simp only [NRM] at h13
    refine SX.E (.int .i64 (((i + 1 : Nat) : Int))) (fun α => SX.W1 i) ?_
    exact SX.VC_again fun α => ⟨⟨i + 1, by kernel_rfl, by omega, sameTo_succ hok hy hz (by simpa using h13)⟩, cast (by kernel_rfl) (show n - ((i + 1 : Nat) : Int).toNat < n - (i : Int).toNat by omega)⟩
  try simp only [NRM] at h7
  exact SX.F (.bool true) (by rw [sameB_yes ⟨by rw [hln, hlm]; (try simp at h4); omega, by rw [hln, show n = i by omega]; exact hok⟩])
def fewL (ls : List Lk) : Prop := ls.length ≤ 16 ∧ ∀ z ∈ ls, z.n ≤ 300
noncomputable instance (ls : List Lk) : Decidable (fewL ls) := Classical.propDecidable _
def mkLk (ls : List Lk) (node : Int) (A : Option Addr) (c : Nat) (tx : ByteArray) : Lk := ⟨node, (ls.length : Int), headF ls, A, tx.size, c, tx⟩
def addL (ls : List Lk) (node : Int) (A : Option Addr) (c : Nat) (tx : ByteArray) : List Lk := ls ++ [mkLk ls node A c tx]
theorem addL_len (ls : List Lk) (node : Int) (A : Option Addr) (c : Nat) (tx : ByteArray) : (addL ls node A c tx).length = ls.length + 1 := by simp [addL]
theorem addL_all {P : Lk → Prop} {ls : List Lk} {node : Int} {A : Option Addr} {c : Nat} {tx : ByteArray} (h : ∀ z ∈ ls, P z) (h2 : P (mkLk ls node A c tx)) : ∀ z ∈ addL ls node A c tx, P z := fun z hz => by
  rcases List.mem_append.1 hz with hz | hz
  · exact h z hz
  obtain rfl := List.mem_singleton.1 hz
  exact h2
theorem addL_old {ls : List Lk} {node : Int} {A : Option Addr} {c : Nat} {tx : ByteArray} {i : Nat} (h : i < ls.length) : (addL ls node A c tx)[i]? = ls[i]? := by unfold addL; rw [List.getElem?_append_left h]
theorem addL_new {ls : List Lk} {node : Int} {A : Option Addr} {c : Nat} {tx : ByteArray} : (addL ls node A c tx)[ls.length]? = some (mkLk ls node A c tx) := by unfold addL; simp
theorem chkE_to {ls : List Lk} (h : chkE ls = 0) : okTo ls ls.length := by
  unfold chkE at h
  split at h
  · cases h
  by_cases h2 : okTo ls ls.length
  · exact h2
  rw [if_neg h2] at h; cases h
theorem chk_add {ls : List Lk} {node : Int} {A : Option Addr} {c : Nat} {tx : ByteArray} (h2 : addE ls node tx.size = 0) : chkE (addL ls node A c tx) = 0 := by
  have h : chkE ls = 0 := by
    by_cases hc : chkE ls = 0
    · exact hc
    rw [addE_chk hc] at h2; exact h2
  have hb : ¬ badArg ls node tx.size := fun hk => by rw [addE_arg h hk] at h2; cases h2
  have hn : ls.length ≠ 1024 := fun hk => by rw [addE_full h hb hk] at h2; cases h2
  have hl := chkE_len h
  have hok := chkE_to h
  refine chkE_ok (by rw [addL_len]; omega) fun i z hi hz => ?_
  rw [addL_len] at hi
  have hbb : ¬ node < 0 ∧ ¬ 24 ≤ node ∧ (∀ z0, ls[0]? = some z0 → node = z0.node) ∧ ¬ 65536 < tx.size := ⟨fun k => hb (.inl k), fun k => hb (.inr (.inl k)), fun z0 hz0 => Classical.byContradiction fun k => hb (.inr (.inr (.inl ⟨z0, hz0, k⟩))), fun k => hb (.inr (.inr (.inr k)))⟩
  by_cases hlt : i < ls.length
  · rw [addL_old hlt] at hz
    obtain ⟨⟨z0, hz0, k1⟩, k2, k3, k4, k5, k6⟩ := hok i z hlt hz
    refine ⟨⟨z0, by rw [addL_old (by omega)]; exact hz0, k1⟩, k2, k3, k4, k5, ?_⟩
    rw [show (addL ls node A c tx).take i = ls.take i by unfold addL; rw [List.take_append_of_le_length (by omega)]]
    exact k6
  obtain rfl : i = ls.length := by omega
  rw [addL_new] at hz
  cases hz
  refine ⟨?_, by show 0 ≤ node; omega, by show node < 24; omega, rfl, by show tx.size ≤ 65536; omega, ?_⟩
  · cases ls with
    | nil => exact ⟨_, rfl, rfl⟩
    | cons y l => exact ⟨y, rfl, hbb.2.2.1 y rfl⟩
  rw [show (addL ls node A c tx).take ls.length = ls by unfold addL; simp]
  rfl
def RnA (K : Value → Nat → List Value → Prop) (f : FuncId) (xs : List SX.Arg) (Q : Value → List SX.Arg → Prop) : Prop := f = 10 ∧ ∃ (u : Value) (ls : List Lk) (node : Int) (v : Value) (tx : ByteArray), xs = [⟨u, 35, lkL ls⟩, ⟨.int .i64 node, 0, []⟩, ⟨v, 1, (sb tx).flatMap c8⟩] ∧ LaidK K ∧ ls.length ≤ 4611686018427387904 ∧ (∀ z ∈ ls, z.kn K ∧ z.fit) ∧ tx.size ≤ 9223372036854775807 ∧ (-9223372036854775808 ≤ node ∧ node ≤ 9223372036854775807) ∧
  (addE ls node tx.size ≠ 0 → Q (.tuple #[.slice none 0 0, .int .i64 (addE ls node tx.size)]) []) ∧
  (addE ls node tx.size = 0 → ∀ A c A2 c2, A.isSome = true → ls.length + 1 ≤ c → tx.size ≤ c2 → Q (.tuple #[.slice A (ls.length + 1) c, .int .i64 0]) (⟨.slice A (ls.length + 1) c, 35, lkL (addL ls node A2 c2 tx)⟩ :: ⟨.slice A2 tx.size c2, 1, (sb tx).flatMap c8⟩ :: ⟨SX.subS A 35 1 (ls.length + 1) c, 35, lkL ((addL ls node A2 c2 tx).drop 1)⟩ :: ⟨SX.subS A 35 0 ls.length c, 35, lkL ls⟩ :: (List.range (ls.length + 2)).map fun j => (⟨SX.subS A 35 0 j c, 35, lkL ((addL ls node A2 c2 tx).take j)⟩ : SX.Arg)))
def nshA : FuncId → Option SX.Sh := fun f => if f = 10 then some (.tp [.one, .one]) else none
theorem rnA_ok (C : SX.Cx) (hP : C.P = Tryd.prog) (hs : C.nsh = nshA) (hR : C.Rn = RnA) : C.OkN := by
  intro f sh hf K xs Q W h hrd hK
  rw [hR] at h
  rw [hs] at hf
  rw [hP]
  obtain ⟨rfl, u, ls, node, v, tx, rfl, hL, hb, hk, htx, hnode, h1, h2⟩ := h
  have hf : some (SX.Sh.tp [.one, .one]) = some sh := hf
  cases hf
  obtain ⟨A, n, c, rfl, hr, hc, hln⟩ := lk_arg (hrd ⟨u, 35, lkL ls⟩ (by simp))
  obtain ⟨B, m, d, rfl, hr2, hc2, hlm⟩ := byte_arg (hrd ⟨v, 1, (sb tx).flatMap c8⟩ (by simp))
  have hm : m = tx.size := by rw [← hlm, sb_len]
  subst hm
  refine (add_any ls A n c node tx B tx.size d W hr hc (by omega) (fun z hz => (hk z hz).1.rd hK) (fun z hz => (hk z hz).2) (laid_of hL hK) hr2 hc2 htx hnode).mono fun e w' ⟨hbel, h⟩ => ⟨hbel, ?_⟩
  rcases h with ⟨hne, rfl⟩ | ⟨he, hdr, A2, n2, c2, rfl, ⟨⟨A1, n1, c1, rfl, _⟩, hr3, hf3⟩, ⟨_, hr4, hf4⟩⟩
  · exact ⟨_, [], rfl, rfl, h1 hne, fun y hy => nomatch hy⟩
  have e2 : n2 = tx.size := by have h : ((sb tx).flatMap c8).length = n2 * 1 := hr4.1.1; rw [SX.flat_len c8_len, sb_len] at h; omega
  subst e2
  have e1 : n1 = ls.length + 1 := by have h : (lkL _).length = n1 * 35 := hr3.1.1; rw [lkL_len, List.length_append] at h; simp only [List.length_cons, List.length_nil] at h; omega
  subst e1
  have hf3 := hf3.resolve_right fun ⟨y, hy, _⟩ => nomatch hy
  have hf4 := hf4.resolve_right fun ⟨y, hy, _⟩ => nomatch hy
  have hA1 : A1.isSome = true := SX.rd_some hr3.1 (by omega)
  refine ⟨_, _, rfl, rfl, h2 he A1 c1 A2 c2 hA1 hr3.2 hr4.2, fun y hy => ?_⟩
  have hSub := fun l h m (hl1 : l ≤ h) (hl2 : h ≤ ls.length + 1) (hl3 : h ≤ m) (hl4 : m ≤ c1) => SX.SubK.part (f := cellsLk) (sz := 35) cellsLk_len (A := A1) (n := ls.length + 1) (c := c1) (L := addL ls node A2 c2 tx) (l := l) (h := h) (m := m) hl1 hl2 hl3 hl4
  simp only [List.mem_cons, List.mem_map, List.mem_range] at hy
  rcases hy with rfl | rfl | rfl | rfl | ⟨j, hj, rfl⟩
  · exact ⟨hr3, hf3⟩
  · exact ⟨hr4, hf4⟩
  · have := hSub 1 (ls.length + 1) c1 (by omega) (by omega) hr3.2 (Nat.le_refl _)
    rw [List.take_of_length_le (by rw [List.length_drop, addL_len]; omega)] at this
    exact ⟨SX.SubK.rd hr3.1 this, SX.SubK.frs hf3 this⟩
  · have := hSub 0 ls.length c1 (by omega) (by omega) (by have := hr3.2; omega) (Nat.le_refl _)
    rw [List.drop_zero, Nat.sub_zero, show (addL ls node A2 c2 tx).take ls.length = ls by unfold addL; simp] at this
    exact ⟨SX.SubK.rd hr3.1 this, SX.SubK.frs hf3 this⟩
  · have := hSub 0 j c1 (by omega) (by omega) (by have := hr3.2; omega) (Nat.le_refl _)
    rw [List.drop_zero, Nat.sub_zero] at this
    exact ⟨SX.SubK.rd hr3.1 this, SX.SubK.frs hf3 this⟩
def RQB (K : Value → Nat → List Value → Prop) (f : FuncId) (xs : List SX.Arg) (v : Value) : Prop :=
  (f = 12 ∧ ∃ (u1 u2 : Value) (la lb : List Lk), xs = [⟨u1, 35, lkL la⟩, ⟨u2, 35, lkL lb⟩] ∧ LaidK K ∧ la.length ≤ 4611686018427387904 ∧ lb.length ≤ 4611686018427387904 ∧ (∀ z ∈ la, z.kn K ∧ z.fit) ∧ (∀ z ∈ lb, z.kn K ∧ z.fit) ∧ v = .tuple #[.int .i64 (partE la lb).1, .bool (partE la lb).2.1, .int .i64 (partE la lb).2.2]) ∨
  (f = 16 ∧ ∃ (u : Value) (ls : List Lk), xs = [⟨u, 35, lkL ls⟩] ∧ LaidK K ∧ ls.length ≤ 4611686018427387904 ∧ (∀ z ∈ ls, z.kn K ∧ z.fit) ∧ v = .int .i64 (chkE ls)) ∨
  (f = 19 ∧ LaidK K ∧ ∃ (s : ByteArray) (u : Value) (l : List W8), xs = [⟨.string s, 0, []⟩, ⟨u, 1, l.flatMap c8⟩] ∧ s.size < 2 ^ 44 ∧ l.length < 2 ^ 44 ∧ v = dgV (dgF (tagE (sb s) l))) ∨
  (f = 15 ∧ ∃ (u : Value) (ls : List Lk), xs = [⟨u, 35, lkL ls⟩] ∧ LaidK K ∧ ls.length ≤ 4611686018427387904 ∧ (∀ z ∈ ls, z.kn K ∧ z.fit) ∧ v = dgV (headF ls))
def shpQB : FuncId → Option SX.Sh := fun f => if f = 12 then some (.tp [.one, .one, .one]) else if f = 16 then some .one else if f = 19 then some (.ag 32) else if f = 15 then some (.ag 32) else none
noncomputable def cxQB (K A : Value → Nat → List Value → Prop) : SX.Cx := { nsh := nshA, Rn := RnA, bsr := true, bsn := 2, P := Tryd.prog, R := RQB, shp := shpQB, K := K, A := A }
theorem okQB (K A : Value → Nat → List Value → Prop) : (cxQB K A).Ok := by
  refine SX.Cx.ok_nd (fun _ => rfl) ?_ (rnA_ok _ rfl rfl rfl)
  intro K f xs v W hR hrd hKf
  rcases hR with ⟨rfl, u1, u2, la, lb, rfl, hL, hb, hb2, hk, hk2, rfl⟩ | ⟨rfl, u, ls, rfl, hL, hb, hk, rfl⟩ | ⟨rfl, hL, s, u, l, rfl, hs, hl, rfl⟩ | ⟨rfl, u, ls, rfl, hL, hb, hk, rfl⟩
  · obtain ⟨A, n, c, rfl, hr, hc, hln⟩ := lk_arg (hrd ⟨u1, 35, lkL la⟩ (by simp))
    obtain ⟨B, m, d, rfl, hr2, hc2, hlm⟩ := lk_arg (hrd ⟨u2, 35, lkL lb⟩ (by simp))
    exact (part_any la A n c lb B m d W hr hc (by omega) (fun z hz => (hk z hz).1.rd hKf) (fun z hz => (hk z hz).2) hr2 hc2 (by omega) (fun z hz => (hk2 z hz).1.rd hKf) (fun z hz => (hk2 z hz).2) (laid_of hL hKf)).mono fun e w' h => SX.plainOk rfl h
  · obtain ⟨A, n, c, rfl, hr, hc, hln⟩ := lk_arg (hrd ⟨u, 35, lkL ls⟩ (by simp))
    exact (check_any ls A n c W hr hc (by omega) (fun z hz => (hk z hz).1.rd hKf) (fun z hz => (hk z hz).2) (laid_of hL hKf)).mono fun e w' h => SX.plainOk rfl h
  · obtain ⟨A, n, c, rfl, hr, hc, -⟩ := byte_arg (hrd ⟨u, 1, l.flatMap c8⟩ (by simp))
    rw [← dg_val (tagE_len _ _)]
    exact (tagged_any s l (Nat.lt_trans hs (by decide)) hl A n c W hr hc (laid_of hL hKf)).mono fun e w' h => SX.plainOk rfl h
  obtain ⟨A, n, c, rfl, hr, hc, hln⟩ := lk_arg (hrd ⟨u, 35, lkL ls⟩ (by simp))
  exact (head_any ls A n c W hr hc (by omega) (fun z hz => (hk z hz).1.rd hKf) (fun z hz => (hk z hz).2) (laid_of hL hKf)).mono fun e w' h => SX.plainOk rfl h
def xT : ByteArray := ⟨#[120]⟩
def yT : ByteArray := ⟨#[121]⟩
def zT : ByteArray := ⟨#[122]⟩
def ndN (ls : List Lk) (node : Int) (A : Option Addr) (c : Nat) (A2 : Option Addr) (c2 : Nat) (tx : ByteArray) : List SX.Arg := ⟨.slice A (ls.length + 1) c, 35, lkL (addL ls node A2 c2 tx)⟩ :: ⟨.slice A2 tx.size c2, 1, (sb tx).flatMap c8⟩ :: ⟨SX.subS A 35 1 (ls.length + 1) c, 35, lkL ((addL ls node A2 c2 tx).drop 1)⟩ :: ⟨SX.subS A 35 0 ls.length c, 35, lkL ls⟩ :: (List.range (ls.length + 2)).map fun j => (⟨SX.subS A 35 0 j c, 35, lkL ((addL ls node A2 c2 tx).take j)⟩ : SX.Arg)
section
variable (ls : List Lk) (node : Int) (A : Option Addr) (c : Nat) (A2 : Option Addr) (c2 : Nat) (tx : ByteArray)
theorem ndN_a : (⟨.slice A (ls.length + 1) c, 35, lkL (addL ls node A2 c2 tx)⟩ : SX.Arg) ∈ ndN ls node A c A2 c2 tx := List.mem_cons_self ..
theorem ndN_d : (⟨.slice A2 tx.size c2, 1, (sb tx).flatMap c8⟩ : SX.Arg) ∈ ndN ls node A c A2 c2 tx := List.mem_cons_of_mem _ (List.mem_cons_self ..)
theorem ndN_t : (⟨SX.subS A 35 1 (ls.length + 1) c, 35, lkL ((addL ls node A2 c2 tx).drop 1)⟩ : SX.Arg) ∈ ndN ls node A c A2 c2 tx := List.mem_cons_of_mem _ (List.mem_cons_of_mem _ (List.mem_cons_self ..))
end
def KS0 (s : Value) (z : Nat) (xs : List Value) : Prop := (s = .slice (some ⟨0, 0, none⟩) 1 1 ∧ z = 8 ∧ xs = startS.cells) ∨ (s = .slice (some ⟨1, 0, none⟩) 64 64 ∧ z = 1 ∧ xs = numbersK.flatMap c32)
theorem ks0_1 : KS0 (.slice (some ⟨0, 0, none⟩) 1 1) 8 startS.cells := .inl ⟨rfl, rfl, rfl⟩
theorem ks0_2 : KS0 (.slice (some ⟨1, 0, none⟩) 64 64) 1 (numbersK.flatMap c32) := .inr ⟨rfl, rfl, rfl⟩
theorem mk_fit {ls : List Lk} {node : Int} {A : Option Addr} {c : Nat} {tx : ByteArray} (h : -9223372036854775808 ≤ node ∧ node ≤ 9223372036854775807) (hl : ls.length ≤ 4611686018427387904) (ht : tx.size ≤ 1048576) : (mkLk ls node A c tx).fit := ⟨h, ⟨by show -9223372036854775808 ≤ (ls.length : Int); omega, by show (ls.length : Int) ≤ _; omega⟩, ht⟩
theorem drop_all {P : Lk → Prop} {l : List Lk} (h : ∀ z ∈ l, P z) : ∀ z ∈ l.drop 1, P z := fun z hz => h z (List.mem_of_mem_drop hz)
theorem K_in {C : SX.Cx} {N : List SX.Arg} {v : Value} {y : SX.Arg} (hv : v = y.v) (h : y ∈ N) : (C.plus N).K v y.sz y.cells := by subst hv; exact .inr h
theorem b2sx_of {C : SX.Cx} {ρ : List Value} {α : Nat → SX.AV} {s : SX.V} {A : Option Addr} {n c : Nat} {tx : ByteArray} (hs : s.den ρ α = .slice A n c) (hK : C.K (.slice A n c) 1 ((sb tx).flatMap c8)) : SX.Opq.rel C ρ α .b2sx [s] (.string tx) := ⟨tx.data.toList, A, n, c, by rw [sb_l, hs]; exact hK, hs, by simp⟩
theorem chk_nil : chkE [] = 0 := chkE_ok (by decide) fun i z hi => absurd hi (Nat.not_lt_zero _)
theorem add_nil {node : Int} {m : Nat} (h1 : 0 ≤ node) (h2 : node < 24) (h3 : m ≤ 65536) : addE [] node m = 0 := addE_ok chk_nil (not_bad (by omega) (by omega) (fun z0 h => by simp at h) (by omega)) (by decide)
theorem add_next {ls : List Lk} {z0 : Lk} {node : Int} {m : Nat} (h : chkE ls = 0) (hz : ls[0]? = some z0) (hn : node = z0.node) (h1 : 0 ≤ node) (h2 : node < 24) (h3 : m ≤ 65536) (h4 : ls.length ≠ 1024) : addE ls node m = 0 := addE_ok h (not_bad (by omega) (by omega) (fun z h => by rw [hz] at h; cases h; exact hn) (by omega)) h4
theorem partElems {C : SX.Cx} {ρ : List Value} {α : Nat → SX.AV} {s i : SX.V} {A : Option Addr} {n c j o k : Nat} {cells : List Value} (hA : A.isSome = true) (hs : s.den ρ α = .slice A n c) (hi : i.den ρ α = .int .i64 (j : Int)) (hj : j < n) (hK : C.K (.slice A n c) 35 cells) (hl : j * 35 + o + k ≤ cells.length) {v : Value} (hv : v = .agg ((cells.drop (j * 35 + o)).take k).toArray) : SX.Opq.rel C ρ α (.elems 35 o k) [s, i] v := by
  subst hv
  have hb := SX.extBnd (C := C) (fun _ => hA) hs hi hj
  refine ⟨hb.1, cells, by rw [hs]; exact hK, ?_, ?_⟩
  · rw [hi]; exact hl
  rw [hi]; rfl
section
variable (A2 A4 A6 : Option Addr) (c2 c4 c6 : Nat)
theorem chk_a : chkE (addL [] 3 A2 c2 xT) = 0 := chk_add (add_nil (by decide) (by decide) (by decide))
theorem add_b : addE (addL [] 3 A2 c2 xT) 3 yT.size = 0 := add_next (chk_a A2 c2) (z0 := (mkLk [] 3 A2 c2 xT)) rfl rfl (by decide) (by decide) (by decide) (by simp [addL])
theorem add_c : addE (addL [] 3 A2 c2 xT) 3 zT.size = 0 := add_next (chk_a A2 c2) (z0 := (mkLk [] 3 A2 c2 xT)) rfl rfl (by decide) (by decide) (by decide) (by simp [addL])
theorem chk_b : chkE (addL (addL [] 3 A2 c2 xT) 3 A4 c4 yT) = 0 := chk_add (add_b A2 c2)
theorem chk_c : chkE (addL (addL [] 3 A2 c2 xT) 3 A6 c6 zT) = 0 := chk_add (add_c A2 c2)
theorem add_24 : addE [] 24 0 = 1 := addE_arg chk_nil (.inr (.inl (by decide)))
theorem add_4 : addE (addL [] 3 A2 c2 xT) 4 0 = 1 := addE_arg (chk_a A2 c2) (.inr (.inr (.inl ⟨(mkLk [] 3 A2 c2 xT), rfl, by show (4 : Int) ≠ 3; decide⟩)))
theorem slE_refl (z : Lk) : slE z z := ⟨rfl, rfl, rfl, rfl⟩
theorem part_bc : partE (addL (addL [] 3 A2 c2 xT) 3 A4 c4 yT) (addL (addL [] 3 A2 c2 xT) 3 A6 c6 zT) = (1, true, 0) := partE_at (i := 1) (chk_b A2 A4 c2 c4) (chk_c A2 A6 c2 c6) (not_hds fun y z h1 h2 => by
    have h1 : some (mkLk [] 3 A2 c2 xT) = some y := h1
    have h2 : some (mkLk [] 3 A2 c2 xT) = some z := h2
    cases h1; cases h2; rfl) (diffE_at (i := 1) (y := (mkLk (addL [] 3 A2 c2 xT) 3 A4 c4 yT)) (z := (mkLk (addL [] 3 A2 c2 xT) 3 A6 c6 zT)) (fun j y z hj h1 h2 => by
      obtain rfl : j = 0 := by omega
      have h1 : some (mkLk [] 3 A2 c2 xT) = some y := h1
      have h2 : some (mkLk [] 3 A2 c2 xT) = some z := h2
      cases h1; cases h2; exact slE_refl _) rfl rfl fun h => absurd h.2.2.2 (by show ¬ (yT = zT); decide))
theorem part_ab : partE (addL [] 3 A2 c2 xT) (addL (addL [] 3 A2 c2 xT) 3 A4 c4 yT) = (0, false, 0) := partE_no (chk_a A2 c2) (chk_b A2 A4 c2 c4) (not_hds fun y z h1 h2 => by
    have h1 : some (mkLk [] 3 A2 c2 xT) = some y := h1
    have h2 : some (mkLk [] 3 A2 c2 xT) = some z := h2
    cases h1; cases h2; rfl) (diffE_none fun j y z hj h1 h2 => by
      obtain rfl : j = 0 := by simp only [addL_len, List.length_nil] at hj; omega
      have h1 : some (mkLk [] 3 A2 c2 xT) = some y := h1
      have h2 : some (mkLk [] 3 A2 c2 xT) = some z := h2
      cases h1; cases h2; exact slE_refl _)
theorem part_ea : partE [] (addL [] 3 A2 c2 xT) = (0, false, 0) := partE_no chk_nil (chk_a A2 c2) (not_hds fun y z h1 h2 => by simp at h1) rfl
def lk0 : Lk := ⟨0, 1, fun _ => 0, none, 0, 0, ⟨#[]⟩⟩
theorem chk_0 : chkE [lk0] = 80 := chkE_no (by decide) (i := 0) (z := lk0) rfl fun h => absurd h.2.2.2.1 (by decide)
theorem chk_t : chkE ((addL (addL [] 3 A2 c2 xT) 3 A4 c4 yT).drop 1) = 80 := chkE_no (by simp [addL]) (i := 0) (z := (mkLk (addL [] 3 A2 c2 xT) 3 A4 c4 yT)) rfl fun h => absurd h.2.2.2.1 (by show ¬ ((1 : Int) = 0); decide)
theorem enc_x : encL (flLk (mkLk [] 3 A2 c2 xT)) = [3#8, 4, 1, 6, 1, 0, 2, 32] ++ dgL (headF []) ++ [2, 1, 120] := by
  have h3 : numB 6 = [6#8] := by rw [numB_lt (by decide)]
  have h0 : numB 0 = [0#8] := by rw [numB_lt (by decide)]
  have h4 : numB 4 = [4#8] := by rw [numB_lt (by decide)]
  have h1 : numB 1 = [1#8] := by rw [numB_lt (by decide)]
  have h32 : numB 32 = [32#8] := by rw [numB_lt (by decide)]
  have u3 : unsN 3 = 6 := by decide
  have u0 : unsN 0 = 0 := by decide
  have e : flLk (mkLk [] 3 A2 c2 xT) = [.n 3, .n 0, .s (bt (dgL (headF []))), .s xT] := rfl
  have sx : sb xT = [120#8] := by decide
  have zx : xT.size = 1 := by decide
  rw [e]
  simp only [encL, encF, List.length_cons, List.length_nil, List.flatMap_cons, List.flatMap_nil, u3, u0, h3, h0, h4, bt_size, dgL_len, h32, sb_bt, sx, zx, h1, Nat.zero_add, Nat.reduceAdd, List.append_nil, List.cons_append, List.nil_append, List.append_assoc]
  rfl
end
def tree_sane : SX.Tree :=
(.df (.callq 10 [(.own 35 []), .no, (.row 1 [(.a [(.k (.int .u8 120))])])]) [(.k (.slice none 0 0)), (.i 3), (.row 1)] (.tp [.one, .one])
(.df (.callq 10 [(.ext 35), .no, (.row 1 [(.a [(.k (.int .u8 121))])])]) [(.x 0 [0]), (.i 3), (.row 3)] (.tp [.one, .one])
(.df (.callq 10 [(.ext 35), .no, (.row 1 [(.a [(.k (.int .u8 122))])])]) [(.x 0 [0]), (.i 3), (.row 5)] (.tp [.one, .one])
(.df (.callq 10 [(.own 35 []), .no, (.own 1 [])]) [(.k (.slice none 0 0)), (.i 24), (.k (.slice none 0 0))] (.tp [.one, .one])
(.df (.callq 10 [(.ext 35), .no, (.own 1 [])]) [(.x 0 [0]), (.i 4), (.k (.slice none 0 0))] (.tp [.one, .one])
(.df (.call 12 [(.ext 35), (.ext 35)]) [(.x 1 [0]), (.x 2 [0])] (.tp [.one, .one, .one])
(.df (.call 12 [(.ext 35), (.ext 35)]) [(.x 0 [0]), (.x 1 [0])] (.tp [.one, .one, .one])
(.df (.call 12 [(.own 35 []), (.ext 35)]) [(.k (.slice none 0 0)), (.x 0 [0])] (.tp [.one, .one, .one])
(.df (.bin .neq 26) [(.x 0 [1]), (.i 0)] .one
(.br 8 []
(.ret (.k (.bool false)) (List.replicate 6 none) [])
(.df (.bin .neq 26) [(.x 1 [1]), (.i 0)] .one
(.br 9 []
(.ret (.k (.bool false)) (List.replicate 6 none) [])
(.df (.bin .neq 26) [(.x 2 [1]), (.i 0)] .one
(.br 10 []
(.ret (.k (.bool false)) (List.replicate 6 none) [])
(.df (.bin .neq 26) [(.x 3 [1]), (.i 1)] .one
(.br 11 []
(.ret (.k (.bool false)) (List.replicate 6 none) [])
(.df (.bin .neq 26) [(.x 4 [1]), (.i 1)] .one
(.br 12 []
(.ret (.k (.bool false)) (List.replicate 6 none) [])
(.df (.bin .neq 26) [(.x 5 [2]), (.i 0)] .one
(.br 13 []
(.ret (.k (.bool false)) (List.replicate 6 none) [])
(.df (.bin .neq 26) [(.x 6 [2]), (.i 0)] .one
(.br 14 []
(.ret (.k (.bool false)) (List.replicate 6 none) [])
(.df (.bin .neq 26) [(.x 7 [2]), (.i 0)] .one
(.br 15 []
(.ret (.k (.bool false)) (List.replicate 6 none) [])
(.df (.len false) [(.x 0 [0])] .one
(.df (.bin .neq 3) [(.q 16), (.i 1)] .one
(.br 17 []
(.ret (.k (.bool false)) (List.replicate 6 none) [])
(.df (.len false) [(.x 1 [0])] .one
(.df (.bin .neq 3) [(.q 18), (.i 2)] .one
(.br 19 []
(.ret (.k (.bool false)) (List.replicate 6 none) [])
(.df (.len false) [(.x 2 [0])] .one
(.df (.bin .neq 3) [(.q 20), (.i 2)] .one
(.br 21 []
(.ret (.k (.bool false)) (List.replicate 6 none) [])
(.df (.bin .neq 3) [(.x 5 [0]), (.i 1)] .one
(.br 22 []
(.ret (.k (.bool false)) (List.replicate 6 none) [])
(.df .not [(.x 5 [1])] .one
(.br 23 []
(.ret (.k (.bool false)) (List.replicate 6 none) [])
(.br 6 [1]
(.ret (.k (.bool false)) (List.replicate 6 none) [])
(.br 7 [1]
(.ret (.k (.bool false)) (List.replicate 6 none) [])
(.df (.call 16 [(.own 35 [])]) [(.k (.slice none 0 0))] .one
(.df (.bin .neq 26) [(.q 24), (.i 0)] .one
(.br 25 []
(.ret (.k (.bool false)) (List.replicate 6 none) [])
(.df (.call 16 [(.ext 35)]) [(.x 1 [0])] .one
(.df (.bin .neq 26) [(.q 26), (.i 0)] .one
(.br 27 []
(.ret (.k (.bool false)) (List.replicate 6 none) [])
(.df (.call 16 [(.own 35 [(.i 0), (.i 1), (.k (.int .u8 0)), (.k (.int .u8 0)), (.k (.int .u8 0)), (.k (.int .u8 0)), (.k (.int .u8 0)), (.k (.int .u8 0)), (.k (.int .u8 0)), (.k (.int .u8 0)), (.k (.int .u8 0)), (.k (.int .u8 0)), (.k (.int .u8 0)), (.k (.int .u8 0)), (.k (.int .u8 0)), (.k (.int .u8 0)), (.k (.int .u8 0)), (.k (.int .u8 0)), (.k (.int .u8 0)), (.k (.int .u8 0)), (.k (.int .u8 0)), (.k (.int .u8 0)), (.k (.int .u8 0)), (.k (.int .u8 0)), (.k (.int .u8 0)), (.k (.int .u8 0)), (.k (.int .u8 0)), (.k (.int .u8 0)), (.k (.int .u8 0)), (.k (.int .u8 0)), (.k (.int .u8 0)), (.k (.int .u8 0)), (.k (.int .u8 0)), (.k (.int .u8 0)), (.k (.slice none 0 0))])]) [(.sl 6 0 1 1)] .one
(.df (.bin .neq 26) [(.q 28), (.i 80)] .one
(.br 29 []
(.ret (.k (.bool false)) (List.replicate 7 none) [])
(.df (.slc false 35 true false false) [(.x 1 [0]), (.i 1)] .one
(.df (.call 16 [(.ext 35)]) [(.q 30)] .one
(.df (.bin .neq 26) [(.q 31), (.i 80)] .one
(.br 32 []
(.ret (.k (.bool false)) (List.replicate 7 none) [])
(.df (.call 19 [.no, (.own 1 [])]) [(.k (.string ⟨#[110, 111, 110, 101]⟩)), (.k (.slice none 0 0))] (.ag 32)
(.df (.app 1 1 (.own 1 (SX.Y 33 0 32))) [(.cat [(.a [(.k (.int .u8 3)), (.k (.int .u8 4)), (.k (.int .u8 1)), (.k (.int .u8 6)), (.k (.int .u8 1)), (.k (.int .u8 0)), (.k (.int .u8 2)), (.k (.int .u8 32))])]), (.sl 7 0 32 32)] .any
(.df (.app 1 1 (.row 1 [(.a [(.k (.int .u8 2)), (.k (.int .u8 1)), (.k (.int .u8 120))])])) [(.cat [(.a [(.k (.int .u8 3)), (.k (.int .u8 4)), (.k (.int .u8 1)), (.k (.int .u8 6)), (.k (.int .u8 1)), (.k (.int .u8 0)), (.k (.int .u8 2)), (.k (.int .u8 32))]), (.q 34)]), (.row 10)] .any
(.df .bnd [(.x 0 [0]), (.i 0)] .one
(.df .bnd [(.x 0 [0]), (.i 0)] .one
(.df (.elems 35 2 32) [(.x 0 [0]), (.i 0)] (.ag 32)
(.df (.eqr false 32 [(.i .u8), (.i .u8), (.i .u8), (.i .u8), (.i .u8), (.i .u8), (.i .u8), (.i .u8), (.i .u8), (.i .u8), (.i .u8), (.i .u8), (.i .u8), (.i .u8), (.i .u8), (.i .u8), (.i .u8), (.i .u8), (.i .u8), (.i .u8), (.i .u8), (.i .u8), (.i .u8), (.i .u8), (.i .u8), (.i .u8), (.i .u8), (.i .u8), (.i .u8), (.i .u8), (.i .u8), (.i .u8)]) (SX.Y 38 0 32 ++ SX.Y 33 0 32) .one
(.br 39 []
(.df (.call 15 [(.own 35 [])]) [(.k (.slice none 0 0))] (.ag 32)
(.df (.eqr false 32 [(.i .u8), (.i .u8), (.i .u8), (.i .u8), (.i .u8), (.i .u8), (.i .u8), (.i .u8), (.i .u8), (.i .u8), (.i .u8), (.i .u8), (.i .u8), (.i .u8), (.i .u8), (.i .u8), (.i .u8), (.i .u8), (.i .u8), (.i .u8), (.i .u8), (.i .u8), (.i .u8), (.i .u8), (.i .u8), (.i .u8), (.i .u8), (.i .u8), (.i .u8), (.i .u8), (.i .u8), (.i .u8)]) (SX.Y 40 0 32 ++ SX.Y 33 0 32) .one
(.br 41 []
(.df (.call 15 [(.ext 35)]) [(.x 0 [0])] (.ag 32)
(.df (.call 19 [.no, (.row 1 [(.a [(.k (.int .u8 3)), (.k (.int .u8 4)), (.k (.int .u8 1)), (.k (.int .u8 6)), (.k (.int .u8 1)), (.k (.int .u8 0)), (.k (.int .u8 2)), (.k (.int .u8 32))]), (.q 34), (.q 35)])]) [(.k (.string ⟨#[108, 105, 110, 107]⟩)), (.row 11)] (.ag 32)
(.df (.eqr false 32 [(.i .u8), (.i .u8), (.i .u8), (.i .u8), (.i .u8), (.i .u8), (.i .u8), (.i .u8), (.i .u8), (.i .u8), (.i .u8), (.i .u8), (.i .u8), (.i .u8), (.i .u8), (.i .u8), (.i .u8), (.i .u8), (.i .u8), (.i .u8), (.i .u8), (.i .u8), (.i .u8), (.i .u8), (.i .u8), (.i .u8), (.i .u8), (.i .u8), (.i .u8), (.i .u8), (.i .u8), (.i .u8)]) (SX.Y 42 0 32 ++ SX.Y 43 0 32) .one
(.br 44 []
(.df .bnd [(.x 1 [0]), (.i 1)] .one
(.df .bnd [(.x 1 [0]), (.i 1)] .one
(.df (.elems 35 2 32) [(.x 1 [0]), (.i 1)] (.ag 32)
(.df (.call 15 [(.ext 35)]) [(.x 0 [0])] (.ag 32)
(.df (.eqr false 32 [(.i .u8), (.i .u8), (.i .u8), (.i .u8), (.i .u8), (.i .u8), (.i .u8), (.i .u8), (.i .u8), (.i .u8), (.i .u8), (.i .u8), (.i .u8), (.i .u8), (.i .u8), (.i .u8), (.i .u8), (.i .u8), (.i .u8), (.i .u8), (.i .u8), (.i .u8), (.i .u8), (.i .u8), (.i .u8), (.i .u8), (.i .u8), (.i .u8), (.i .u8), (.i .u8), (.i .u8), (.i .u8)]) (SX.Y 47 0 32 ++ SX.Y 48 0 32) .one
(.br 49 []
(.df .bnd [(.x 1 [0]), (.i 1)] .one
(.df .bnd [(.x 1 [0]), (.i 1)] .one
(.df (.elem 35 1) [(.x 1 [0]), (.i 1)] .one
(.df (.bin .eql 3) [(.q 52), (.i 1)] .one
(.br 53 []
(.df .bnd [(.x 1 [0]), (.i 1)] .one
(.df .bnd [(.x 1 [0]), (.i 1)] .one
(.df (.elem 35 34) [(.x 1 [0]), (.i 1)] .one
(.df .b2sx [(.q 56)] .one
(.df (.bin .eql 9) [(.q 57), (.k (.string ⟨#[121]⟩))] .one
(.ret (.q 58) (List.replicate 55 none) []))))))
(.ret (.k (.bool false)) (List.replicate 55 none) []))))))
(.ret (.k (.bool false)) (List.replicate 55 none) [])))))))
(.ret (.k (.bool false)) (List.replicate 55 none) [])))))
(.ret (.k (.bool false)) (List.replicate 55 none) []))))
(.ret (.k (.bool false)) (List.replicate 55 none) [])))))))))))))))))))))))))))))))))))))))))))))))))))))))))))))
def args_sane : List SX.V := []
set_option maxRecDepth 100000 in
theorem run_sane (K A : Value → Nat → List Value → Prop) : (SX.run (cxQB K A) ⟨fun f => true, [], 12, 100⟩ 100000 0 (SX.door 8 Tryd.f8 args_sane []) [.code (Tryd.f8.body.getD .skip), .top Tryd.f8]).strip = tree_sane := by kernel_rfl
set_option maxRecDepth 100000 in
set_option maxHeartbeats 4000000 in
theorem sane_any  (w : World) (hlaid : Laid w) : Calls Tryd.prog 8 #[] w fun e w' => e = .returned (.bool true) ∧ Below w.heap.size w w' := by
  refine SX.calls_of_run (C := cxQB KS0 (fun _ _ _ => False)) (G := ⟨fun f => true, [], 12, 100⟩) (args := args_sane) (sh := []) (ρ := []) 100000 tree_sane (okQB _ _) Tryd.func8 rfl (run_sane _ _) (by kernel_rfl) (by kernel_rfl) (by kernel_rfl) ?_ ?_
  · rintro W hW s sz cells (⟨rfl, rfl, rfl⟩ | ⟨rfl, rfl, rfl⟩)
    · exact ⟨hlaid.1.same0 hW, Nat.le_refl _⟩
    exact ⟨hlaid.2.same0 hW, Nat.le_refl _⟩
  unfold tree_sane
  refine SX.VC_dn (fun v N => ∃ A1 c1 A2 c2, A1.isSome = true ∧ 1 ≤ c1 ∧ v = .tuple #[.slice A1 1 c1, .int .i64 0] ∧ N = (ndN ([] : List Lk) 3 A1 c1 A2 c2 xT)) (fun _ => rfl) (fun α => ⟨[⟨.slice none 0 0, 35, lkL []⟩, ⟨.int .i64 3, 0, []⟩, ⟨(α 1).h, 1, (sb xT).flatMap c8⟩], ⟨by kernel_rfl, by kernel_rfl, by kernel_rfl, by kernel_rfl, trivial⟩, rfl, _, ([] : List Lk), 3, _, xT, rfl, ⟨(ks0_1), (ks0_2)⟩, (by simp [addL]), (fun z h => nomatch h), by decide, by decide, fun h => absurd (add_nil (by decide) (by decide) (by decide)) h, fun _ A c A' c' g1 g2 g3 => ⟨A, c, A', c', g1, g2, rfl, rfl⟩⟩) ?_
  rintro _ _ - ⟨A1, c1, A2, c2, g1, gg1, rfl, rfl⟩
  refine SX.VC_dn (fun v N => ∃ A3 c3 A4 c4, A3.isSome = true ∧ 2 ≤ c3 ∧ v = .tuple #[.slice A3 2 c3, .int .i64 0] ∧ N = (ndN (addL [] 3 A2 c2 xT) 3 A3 c3 A4 c4 yT)) (fun _ => rfl) (fun α => ⟨[⟨.slice A1 1 c1, 35, lkL (addL [] 3 A2 c2 xT)⟩, ⟨.int .i64 3, 0, []⟩, ⟨(α 3).h, 1, (sb yT).flatMap c8⟩], ⟨by kernel_rfl, by kernel_rfl, K_in (y := ⟨.slice A1 1 c1, 35, lkL (addL [] 3 A2 c2 xT)⟩) (by kernel_rfl) (List.mem_append_left _ (ndN_a ..)), by kernel_rfl, by kernel_rfl, by kernel_rfl, trivial⟩, rfl, _, (addL [] 3 A2 c2 xT), 3, _, yT, rfl, ⟨(.inl (ks0_1)), (.inl (ks0_2))⟩, (by simp [addL]), (addL_all (fun z h => nomatch h) ⟨.inl (.inr (List.mem_append_left _ (ndN_d ..))), mk_fit (by decide) (by simp [addL]) (by decide)⟩), by decide, by decide, fun h => absurd (add_b ..) h, fun _ A c A' c' g1 g2 g3 => ⟨A, c, A', c', g1, g2, rfl, rfl⟩⟩) ?_
  rintro _ _ - ⟨A3, c3, A4, c4, g3, gg3, rfl, rfl⟩
  refine SX.VC_dn (fun v N => ∃ A5 c5 A6 c6, A5.isSome = true ∧ 2 ≤ c5 ∧ v = .tuple #[.slice A5 2 c5, .int .i64 0] ∧ N = (ndN (addL [] 3 A2 c2 xT) 3 A5 c5 A6 c6 zT)) (fun _ => rfl) (fun α => ⟨[⟨.slice A1 1 c1, 35, lkL (addL [] 3 A2 c2 xT)⟩, ⟨.int .i64 3, 0, []⟩, ⟨(α 5).h, 1, (sb zT).flatMap c8⟩], ⟨by kernel_rfl, by kernel_rfl, K_in (y := ⟨.slice A1 1 c1, 35, lkL (addL [] 3 A2 c2 xT)⟩) (by kernel_rfl) (List.mem_append_right _ (List.mem_append_left _ (ndN_a ..))), by kernel_rfl, by kernel_rfl, by kernel_rfl, trivial⟩, rfl, _, (addL [] 3 A2 c2 xT), 3, _, zT, rfl, ⟨(.inl (.inl (ks0_1))), (.inl (.inl (ks0_2)))⟩, (by simp [addL]), (addL_all (fun z h => nomatch h) ⟨.inl (.inr (List.mem_append_right _ (List.mem_append_left _ (ndN_d ..)))), mk_fit (by decide) (by simp [addL]) (by decide)⟩), by decide, by decide, fun h => absurd (add_c ..) h, fun _ A c A' c' g1 g2 g3 => ⟨A, c, A', c', g1, g2, rfl, rfl⟩⟩) ?_
  rintro _ _ - ⟨A5, c5, A6, c6, g5, gg5, rfl, rfl⟩
  refine SX.VC_dn (fun v N => v = .tuple #[.slice none 0 0, .int .i64 1] ∧ N = []) (fun _ => rfl) (fun α => ⟨[⟨.slice none 0 0, 35, lkL []⟩, ⟨.int .i64 24, 0, []⟩, ⟨.slice none 0 0, 1, (sb ⟨#[]⟩).flatMap c8⟩], ⟨by kernel_rfl, by kernel_rfl, by kernel_rfl, by kernel_rfl, trivial⟩, rfl, _, ([] : List Lk), 24, _, ⟨#[]⟩, rfl, ⟨(.inl (.inl (.inl (ks0_1)))), (.inl (.inl (.inl (ks0_2))))⟩, (by simp [addL]), (fun z h => nomatch h), by decide, by decide, fun _ => ⟨by rw [show addE ([] : List Lk) 24 (ByteArray.size ⟨#[]⟩) = 1 from add_24], rfl⟩, fun h => absurd (h.symm.trans add_24) (by decide)⟩) ?_
  rintro _ _ - ⟨rfl, rfl⟩
  refine SX.VC_dn (fun v N => v = .tuple #[.slice none 0 0, .int .i64 1] ∧ N = []) (fun _ => rfl) (fun α => ⟨[⟨.slice A1 1 c1, 35, lkL (addL [] 3 A2 c2 xT)⟩, ⟨.int .i64 4, 0, []⟩, ⟨.slice none 0 0, 1, (sb ⟨#[]⟩).flatMap c8⟩], ⟨by kernel_rfl, by kernel_rfl, K_in (y := ⟨.slice A1 1 c1, 35, lkL (addL [] 3 A2 c2 xT)⟩) (by kernel_rfl) (List.mem_append_right _ (List.mem_append_right _ (List.mem_append_right _ (List.mem_append_left _ (ndN_a ..))))), by kernel_rfl, by kernel_rfl, by kernel_rfl, trivial⟩, rfl, _, (addL [] 3 A2 c2 xT), 4, _, ⟨#[]⟩, rfl, ⟨(.inl (.inl (.inl (.inl (ks0_1))))), (.inl (.inl (.inl (.inl (ks0_2)))))⟩, (by simp [addL]), (addL_all (fun z h => nomatch h) ⟨.inl (.inr (List.mem_append_right _ (List.mem_append_right _ (List.mem_append_right _ (List.mem_append_left _ (ndN_d ..)))))), mk_fit (by decide) (by simp [addL]) (by decide)⟩), by decide, by decide, fun _ => ⟨by rw [show addE (addL [] 3 A2 c2 xT) 4 (ByteArray.size ⟨#[]⟩) = 1 from (add_4 A2 c2)], rfl⟩, fun h => absurd (h.symm.trans (add_4 A2 c2)) (by decide)⟩) ?_
  rintro _ _ - ⟨rfl, rfl⟩
  refine SX.E (.tuple #[.int .i64 1, .bool true, .int .i64 0]) (fun α => ⟨[⟨.slice A3 2 c3, 35, lkL (addL (addL [] 3 A2 c2 xT) 3 A4 c4 yT)⟩, ⟨.slice A5 2 c5, 35, lkL (addL (addL [] 3 A2 c2 xT) 3 A6 c6 zT)⟩], ⟨by kernel_rfl, by kernel_rfl, K_in (y := ⟨.slice A3 2 c3, 35, lkL (addL (addL [] 3 A2 c2 xT) 3 A4 c4 yT)⟩) (by kernel_rfl) (List.mem_append_right _ (List.mem_append_right _ (List.mem_append_right _ (List.mem_append_left _ (ndN_a ..))))), by kernel_rfl, by kernel_rfl, K_in (y := ⟨.slice A5 2 c5, 35, lkL (addL (addL [] 3 A2 c2 xT) 3 A6 c6 zT)⟩) (by kernel_rfl) (List.mem_append_right _ (List.mem_append_right _ (List.mem_append_left _ (ndN_a ..)))), trivial⟩, .inl ⟨rfl, _, _, (addL (addL [] 3 A2 c2 xT) 3 A4 c4 yT), (addL (addL [] 3 A2 c2 xT) 3 A6 c6 zT), rfl, ⟨(.inl (.inl (.inl (.inl (.inl (ks0_1)))))), (.inl (.inl (.inl (.inl (.inl (ks0_2))))))⟩, (by simp [addL]), (by simp [addL]), (addL_all (addL_all (fun z h => nomatch h) ⟨.inl (.inr (List.mem_append_right _ (List.mem_append_right _ (List.mem_append_right _ (List.mem_append_right _ (List.mem_append_left _ (ndN_d ..))))))), mk_fit (by decide) (by simp [addL]) (by decide)⟩) ⟨.inl (.inr (List.mem_append_right _ (List.mem_append_right _ (List.mem_append_right _ (List.mem_append_left _ (ndN_d ..)))))), mk_fit (by decide) (by simp [addL]) (by decide)⟩), (addL_all (addL_all (fun z h => nomatch h) ⟨.inl (.inr (List.mem_append_right _ (List.mem_append_right _ (List.mem_append_right _ (List.mem_append_right _ (List.mem_append_left _ (ndN_d ..))))))), mk_fit (by decide) (by simp [addL]) (by decide)⟩) ⟨.inl (.inr (List.mem_append_right _ (List.mem_append_right _ (List.mem_append_left _ (ndN_d ..))))), mk_fit (by decide) (by simp [addL]) (by decide)⟩), by rw [(part_bc A2 A4 A6 c2 c4 c6)]⟩, SX.noAli rfl⟩) ?_
  refine SX.E (.tuple #[.int .i64 0, .bool false, .int .i64 0]) (fun α => ⟨[⟨.slice A1 1 c1, 35, lkL (addL [] 3 A2 c2 xT)⟩, ⟨.slice A3 2 c3, 35, lkL (addL (addL [] 3 A2 c2 xT) 3 A4 c4 yT)⟩], ⟨by kernel_rfl, by kernel_rfl, K_in (y := ⟨.slice A1 1 c1, 35, lkL (addL [] 3 A2 c2 xT)⟩) (by kernel_rfl) (List.mem_append_right _ (List.mem_append_right _ (List.mem_append_right _ (List.mem_append_right _ (List.mem_append_left _ (ndN_a ..)))))), by kernel_rfl, by kernel_rfl, K_in (y := ⟨.slice A3 2 c3, 35, lkL (addL (addL [] 3 A2 c2 xT) 3 A4 c4 yT)⟩) (by kernel_rfl) (List.mem_append_right _ (List.mem_append_right _ (List.mem_append_right _ (List.mem_append_left _ (ndN_a ..))))), trivial⟩, .inl ⟨rfl, _, _, (addL [] 3 A2 c2 xT), (addL (addL [] 3 A2 c2 xT) 3 A4 c4 yT), rfl, ⟨(.inl (.inl (.inl (.inl (.inl (ks0_1)))))), (.inl (.inl (.inl (.inl (.inl (ks0_2))))))⟩, (by simp [addL]), (by simp [addL]), (addL_all (fun z h => nomatch h) ⟨.inl (.inr (List.mem_append_right _ (List.mem_append_right _ (List.mem_append_right _ (List.mem_append_right _ (List.mem_append_left _ (ndN_d ..))))))), mk_fit (by decide) (by simp [addL]) (by decide)⟩), (addL_all (addL_all (fun z h => nomatch h) ⟨.inl (.inr (List.mem_append_right _ (List.mem_append_right _ (List.mem_append_right _ (List.mem_append_right _ (List.mem_append_left _ (ndN_d ..))))))), mk_fit (by decide) (by simp [addL]) (by decide)⟩) ⟨.inl (.inr (List.mem_append_right _ (List.mem_append_right _ (List.mem_append_right _ (List.mem_append_left _ (ndN_d ..)))))), mk_fit (by decide) (by simp [addL]) (by decide)⟩), by rw [(part_ab A2 A4 c2 c4)]⟩, SX.noAli rfl⟩) ?_
  refine SX.E (.tuple #[.int .i64 0, .bool false, .int .i64 0]) (fun α => ⟨[⟨.slice none 0 0, 35, lkL []⟩, ⟨.slice A1 1 c1, 35, lkL (addL [] 3 A2 c2 xT)⟩], ⟨by kernel_rfl, by kernel_rfl, by kernel_rfl, K_in (y := ⟨.slice A1 1 c1, 35, lkL (addL [] 3 A2 c2 xT)⟩) (by kernel_rfl) (List.mem_append_right _ (List.mem_append_right _ (List.mem_append_right _ (List.mem_append_right _ (List.mem_append_left _ (ndN_a ..)))))), trivial⟩, .inl ⟨rfl, _, _, ([] : List Lk), (addL [] 3 A2 c2 xT), rfl, ⟨(.inl (.inl (.inl (.inl (.inl (ks0_1)))))), (.inl (.inl (.inl (.inl (.inl (ks0_2))))))⟩, (by simp [addL]), (by simp [addL]), (fun z h => nomatch h), (addL_all (fun z h => nomatch h) ⟨.inl (.inr (List.mem_append_right _ (List.mem_append_right _ (List.mem_append_right _ (List.mem_append_right _ (List.mem_append_left _ (ndN_d ..))))))), mk_fit (by decide) (by simp [addL]) (by decide)⟩), by rw [(part_ea A2 c2)]⟩, SX.noAli rfl⟩) ?_
  refine SX.D (.bool ((0 : Int) != 0)) ?_
  refine SX.B ((0 : Int) != 0) (fun h8 => absurd h8 (by decide)) (fun h8 => ?_)
  try simp only [NRM] at h8
  refine SX.D (.bool ((0 : Int) != 0)) ?_
  refine SX.B ((0 : Int) != 0) (fun h9 => absurd h9 (by decide)) (fun h9 => ?_)
  try simp only [NRM] at h9
  refine SX.D (.bool ((0 : Int) != 0)) ?_
  refine SX.B ((0 : Int) != 0) (fun h10 => absurd h10 (by decide)) (fun h10 => ?_)
  try simp only [NRM] at h10
  refine SX.D (.bool ((1 : Int) != 1)) ?_
  refine SX.B ((1 : Int) != 1) (fun h11 => absurd h11 (by decide)) (fun h11 => ?_)
  try simp only [NRM] at h11
  refine SX.D (.bool ((1 : Int) != 1)) ?_
  refine SX.B ((1 : Int) != 1) (fun h12 => absurd h12 (by decide)) (fun h12 => ?_)
  try simp only [NRM] at h12
  refine SX.D (.bool ((0 : Int) != 0)) ?_
  refine SX.B ((0 : Int) != 0) (fun h13 => absurd h13 (by decide)) (fun h13 => ?_)
  try simp only [NRM] at h13
  refine SX.D (.bool ((0 : Int) != 0)) ?_
  refine SX.B ((0 : Int) != 0) (fun h14 => absurd h14 (by decide)) (fun h14 => ?_)
  try simp only [NRM] at h14
  refine SX.D (.bool ((0 : Int) != 0)) ?_
  refine SX.B ((0 : Int) != 0) (fun h15 => absurd h15 (by decide)) (fun h15 => ?_)
  try simp only [NRM] at h15
  refine SX.D (.int .i64 (((1 : Nat) : Int))) ?_
  refine SX.D (.bool ((((1 : Nat) : Int) : Int) != 1)) ?_
  refine SX.B ((((1 : Nat) : Int) : Int) != 1) (fun h17 => absurd h17 (by decide)) (fun h17 => ?_)
  try simp only [NRM] at h17
  refine SX.D (.int .i64 (((2 : Nat) : Int))) ?_
  refine SX.D (.bool ((((2 : Nat) : Int) : Int) != 2)) ?_
  refine SX.B ((((2 : Nat) : Int) : Int) != 2) (fun h19 => absurd h19 (by decide)) (fun h19 => ?_)
  try simp only [NRM] at h19
  refine SX.D (.int .i64 (((2 : Nat) : Int))) ?_
  refine SX.D (.bool ((((2 : Nat) : Int) : Int) != 2)) ?_
  refine SX.B ((((2 : Nat) : Int) : Int) != 2) (fun h21 => absurd h21 (by decide)) (fun h21 => ?_)
  try simp only [NRM] at h21
  refine SX.D (.bool ((1 : Int) != 1)) ?_
  refine SX.B ((1 : Int) != 1) (fun h22 => absurd h22 (by decide)) (fun h22 => ?_)
  try simp only [NRM] at h22
  refine SX.D (.bool (!(true))) ?_
  refine SX.B (!(true)) (fun h23 => absurd h23 (by decide)) (fun h23 => ?_)
  try simp only [NRM] at h23
  refine SX.B false (fun h6_1 => absurd h6_1 (by decide)) (fun h6_1 => ?_)
  try simp only [NRM] at h6_1
  refine SX.B false (fun h7_1 => absurd h7_1 (by decide)) (fun h7_1 => ?_)
  try simp only [NRM] at h7_1
  refine SX.E (.int .i64 0) (fun α => ⟨[⟨.slice none 0 0, 35, lkL []⟩], ⟨by kernel_rfl, trivial⟩, .inr (.inl ⟨rfl, _, ([] : List Lk), rfl, ⟨(.inl (.inl (.inl (.inl (.inl (ks0_1)))))), (.inl (.inl (.inl (.inl (.inl (ks0_2))))))⟩, (by simp [addL]), (fun z h => nomatch h), by rw [chk_nil]⟩), SX.noAli rfl⟩) ?_
  refine SX.D (.bool ((0 : Int) != 0)) ?_
  refine SX.B ((0 : Int) != 0) (fun h25 => absurd h25 (by decide)) (fun h25 => ?_)
  try simp only [NRM] at h25
  refine SX.E (.int .i64 0) (fun α => ⟨[⟨.slice A3 2 c3, 35, lkL (addL (addL [] 3 A2 c2 xT) 3 A4 c4 yT)⟩], ⟨by kernel_rfl, by kernel_rfl, K_in (y := ⟨.slice A3 2 c3, 35, lkL (addL (addL [] 3 A2 c2 xT) 3 A4 c4 yT)⟩) (by kernel_rfl) (List.mem_append_right _ (List.mem_append_right _ (List.mem_append_right _ (List.mem_append_left _ (ndN_a ..))))), trivial⟩, .inr (.inl ⟨rfl, _, (addL (addL [] 3 A2 c2 xT) 3 A4 c4 yT), rfl, ⟨(.inl (.inl (.inl (.inl (.inl (ks0_1)))))), (.inl (.inl (.inl (.inl (.inl (ks0_2))))))⟩, (by simp [addL]), (addL_all (addL_all (fun z h => nomatch h) ⟨.inl (.inr (List.mem_append_right _ (List.mem_append_right _ (List.mem_append_right _ (List.mem_append_right _ (List.mem_append_left _ (ndN_d ..))))))), mk_fit (by decide) (by simp [addL]) (by decide)⟩) ⟨.inl (.inr (List.mem_append_right _ (List.mem_append_right _ (List.mem_append_right _ (List.mem_append_left _ (ndN_d ..)))))), mk_fit (by decide) (by simp [addL]) (by decide)⟩), by rw [(chk_b A2 A4 c2 c4)]⟩), SX.noAli rfl⟩) ?_
  refine SX.D (.bool ((0 : Int) != 0)) ?_
  refine SX.B ((0 : Int) != 0) (fun h27 => absurd h27 (by decide)) (fun h27 => ?_)
  try simp only [NRM] at h27
  refine SX.E (.int .i64 80) (fun α => ⟨[⟨.slice (some ⟨(α 6).b, 0, none⟩) 1 1, 35, lkL [lk0]⟩], ⟨by kernel_rfl, trivial⟩, .inr (.inl ⟨rfl, _, [lk0], rfl, ⟨(.inl (.inl (.inl (.inl (.inl (ks0_1)))))), (.inl (.inl (.inl (.inl (.inl (ks0_2))))))⟩, by decide, fun z hz => by obtain rfl := List.mem_singleton.1 hz; exact ⟨.inr ⟨rfl, rfl⟩, ⟨by decide, by decide⟩, ⟨by decide, by decide⟩, by decide⟩, by rw [chk_0]⟩), SX.noAli rfl⟩) ?_
  refine SX.D (.bool ((80 : Int) != 80)) ?_
  refine SX.B ((80 : Int) != 80) (fun h29 => absurd h29 (by decide)) (fun h29 => ?_)
  try simp only [NRM] at h29
  refine SX.E ((SX.subS A3 35 1 2 c3)) (fun α => SX.slc_lo (A := A3) (n := 2) (c := c3) (k := 1) (by kernel_rfl) (by kernel_rfl) (by omega)) ?_
  refine SX.E (.int .i64 80) (fun α => ⟨[⟨SX.subS A3 35 1 2 c3, 35, lkL ((addL (addL [] 3 A2 c2 xT) 3 A4 c4 yT).drop 1)⟩], ⟨by kernel_rfl, by kernel_rfl, K_in (y := ⟨SX.subS A3 35 1 2 c3, 35, lkL ((addL (addL [] 3 A2 c2 xT) 3 A4 c4 yT).drop 1)⟩) (by kernel_rfl) (List.mem_append_right _ (List.mem_append_right _ (List.mem_append_right _ (List.mem_append_left _ (ndN_t ..))))), trivial⟩, .inr (.inl ⟨rfl, _, (addL (addL [] 3 A2 c2 xT) 3 A4 c4 yT).drop 1, rfl, ⟨(.inl (.inl (.inl (.inl (.inl (ks0_1)))))), (.inl (.inl (.inl (.inl (.inl (ks0_2))))))⟩, by simp [addL], drop_all (addL_all (addL_all (fun z h => nomatch h) ⟨.inl (.inr (List.mem_append_right _ (List.mem_append_right _ (List.mem_append_right _ (List.mem_append_right _ (List.mem_append_left _ (ndN_d ..))))))), mk_fit (by decide) (by simp [addL]) (by decide)⟩) ⟨.inl (.inr (List.mem_append_right _ (List.mem_append_right _ (List.mem_append_right _ (List.mem_append_left _ (ndN_d ..)))))), mk_fit (by decide) (by simp [addL]) (by decide)⟩), by rw [chk_t A2 A4 c2 c4]⟩), SX.noAli rfl⟩) ?_
  refine SX.D (.bool ((80 : Int) != 80)) ?_
  refine SX.B ((80 : Int) != 80) (fun h32 => absurd h32 (by decide)) (fun h32 => ?_)
  try simp only [NRM] at h32
  refine SX.VC_df (dgV (headF ([] : List Lk))) (fun α => ⟨[⟨.string noneT, 0, []⟩, ⟨.slice none 0 0, 1, ([] : List W8).flatMap c8⟩], ⟨by kernel_rfl, by kernel_rfl, by kernel_rfl, trivial⟩, .inr (.inr (.inl ⟨rfl, ⟨(.inl (.inl (.inl (.inl (.inl (ks0_1)))))), (.inl (.inl (.inl (.inl (.inl (ks0_2))))))⟩, noneT, _, [], rfl, by decide, by decide, rfl⟩)), SX.noAli rfl⟩) ((dgV_fit _)) ?_
  refine SX.VC_df (Value.agg ((dgL (headF [])).flatMap c8).toArray) (fun α => SX.app_rel (f := c8) (l1 := [3#8, 4, 1, 6, 1, 0, 2, 32]) (l2 := dgL (headF [])) c8_len c8o (by decide) (by kernel_rfl) (SX.src_own (by kernel_rfl)) (by simp only [List.length_append, List.length_cons, List.length_nil, dgL_len]; decide) (by simp only [List.length_append, List.length_cons, List.length_nil, dgL_len]; decide)) (rfl) ?_
  refine SX.VC_df (Value.agg (([2#8, 1, 120]).flatMap c8).toArray) (fun α => SX.app_rel (f := c8) (l1 := [3#8, 4, 1, 6, 1, 0, 2, 32] ++ dgL (headF [])) (l2 := [2#8, 1, 120]) c8_len c8o (by decide) (by kernel_rfl) ⟨⟨_, 1, _⟩, ⟨rfl, trivial⟩, rfl, by kernel_rfl⟩ (by simp only [List.length_append, List.length_cons, List.length_nil, dgL_len]; decide) (by simp only [List.length_append, List.length_cons, List.length_nil, dgL_len]; decide)) (rfl) ?_
  refine SX.E (.bool true) (fun α => SX.extBnd (A := A1) (n := 1) (c := c1) (j := 0) (fun _ => g1) (by kernel_rfl) (by kernel_rfl) (by omega)) ?_
  refine SX.E (.bool true) (fun α => SX.extBnd (A := A1) (n := 1) (c := c1) (j := 0) (fun _ => g1) (by kernel_rfl) (by kernel_rfl) (by omega)) ?_
  refine SX.VC_df (dgV (headF ([] : List Lk))) (fun α => partElems (o := 2) (k := 32) (cells := lkL (addL [] 3 A2 c2 xT)) (A := A1) (n := 1) (c := c1) (j := 0) g1 (by kernel_rfl) (by kernel_rfl) (by omega) (K_in (y := ⟨.slice A1 1 c1, 35, lkL (addL [] 3 A2 c2 xT)⟩) rfl (List.mem_append_right _ (List.mem_append_right _ (List.mem_append_right _ (List.mem_append_right _ (List.mem_append_left _ (ndN_a ..))))))) (by rw [lkL_len]; simp [addL]) (by kernel_rfl)) ((dgV_fit _)) ?_
  refine SX.E (.bool (false ^^ decide (dgL (headF ([] : List Lk)) = dgL (headF ([] : List Lk))))) (fun α => SX.eqr_rel (f := (fun l : List W8 => l.map w8)) w8_map_inj (y := dgL (headF ([] : List Lk))) (z := dgL (headF ([] : List Lk))) (by kernel_rfl) (by kernel_rfl) (by kernel_rfl)) ?_
  refine SX.B (false ^^ decide (dgL (headF ([] : List Lk)) = dgL (headF ([] : List Lk)))) (fun h39 => ?_) (fun h39 => absurd h39 (by simp))
  try simp only [NRM] at h39
  refine SX.VC_df (dgV (headF ([] : List Lk))) (fun α => ⟨[⟨.slice none 0 0, 35, lkL []⟩], ⟨by kernel_rfl, trivial⟩, .inr (.inr (.inr (⟨rfl, _, ([] : List Lk), rfl, ⟨(.inl (.inl (.inl (.inl (.inl (ks0_1)))))), (.inl (.inl (.inl (.inl (.inl (ks0_2))))))⟩, (by simp [addL]), (fun z h => nomatch h), rfl⟩))), SX.noAli rfl⟩) ((dgV_fit _)) ?_
  refine SX.E (.bool (false ^^ decide (dgL (headF ([] : List Lk)) = dgL (headF ([] : List Lk))))) (fun α => SX.eqr_rel (f := (fun l : List W8 => l.map w8)) w8_map_inj (y := dgL (headF ([] : List Lk))) (z := dgL (headF ([] : List Lk))) (by kernel_rfl) (by kernel_rfl) (by kernel_rfl)) ?_
  refine SX.B (false ^^ decide (dgL (headF ([] : List Lk)) = dgL (headF ([] : List Lk)))) (fun h41 => ?_) (fun h41 => absurd h41 (by simp))
  try simp only [NRM] at h41
  refine SX.VC_df (dgV (headF (addL [] 3 A2 c2 xT))) (fun α => ⟨[⟨.slice A1 1 c1, 35, lkL (addL [] 3 A2 c2 xT)⟩], ⟨by kernel_rfl, by kernel_rfl, K_in (y := ⟨.slice A1 1 c1, 35, lkL (addL [] 3 A2 c2 xT)⟩) (by kernel_rfl) (List.mem_append_right _ (List.mem_append_right _ (List.mem_append_right _ (List.mem_append_right _ (List.mem_append_left _ (ndN_a ..)))))), trivial⟩, .inr (.inr (.inr (⟨rfl, _, (addL [] 3 A2 c2 xT), rfl, ⟨(.inl (.inl (.inl (.inl (.inl (ks0_1)))))), (.inl (.inl (.inl (.inl (.inl (ks0_2))))))⟩, (by simp [addL]), (addL_all (fun z h => nomatch h) ⟨.inl (.inr (List.mem_append_right _ (List.mem_append_right _ (List.mem_append_right _ (List.mem_append_right _ (List.mem_append_left _ (ndN_d ..))))))), mk_fit (by decide) (by simp [addL]) (by decide)⟩), rfl⟩))), SX.noAli rfl⟩) ((dgV_fit _)) ?_
  refine SX.VC_df (dgV (headF (addL [] 3 A2 c2 xT))) (fun α => ⟨[⟨.string linkT, 0, []⟩, ⟨(α 11).h, 1, (encL (flLk (mkLk [] 3 A2 c2 xT))).flatMap c8⟩], ⟨by kernel_rfl, by kernel_rfl, Eq.trans (b := (⟨(α 11).h, 1, ([3#8, 4, 1, 6, 1, 0, 2, 32] ++ dgL (headF []) ++ [2, 1, 120]).flatMap c8⟩ : SX.Arg)) (by rw [enc_x]) (by kernel_rfl), trivial⟩, .inr (.inr (.inl ⟨rfl, ⟨(.inl (.inl (.inl (.inl (.inl (ks0_1)))))), (.inl (.inl (.inl (.inl (.inl (ks0_2))))))⟩, linkT, _, encL (flLk (mkLk [] 3 A2 c2 xT)), rfl, by decide, by rw [enc_x]; simp only [List.length_append, List.length_cons, List.length_nil, dgL_len]; decide, rfl⟩)), SX.noAli rfl⟩) ((dgV_fit _)) ?_
  refine SX.E (.bool (false ^^ decide (dgL (headF (addL [] 3 A2 c2 xT)) = dgL (headF (addL [] 3 A2 c2 xT))))) (fun α => SX.eqr_rel (f := (fun l : List W8 => l.map w8)) w8_map_inj (y := dgL (headF (addL [] 3 A2 c2 xT))) (z := dgL (headF (addL [] 3 A2 c2 xT))) (by kernel_rfl) (by kernel_rfl) (by kernel_rfl)) ?_
  refine SX.B (false ^^ decide (dgL (headF (addL [] 3 A2 c2 xT)) = dgL (headF (addL [] 3 A2 c2 xT)))) (fun h44 => ?_) (fun h44 => absurd h44 (by simp))
  try simp only [NRM] at h44
  refine SX.E (.bool true) (fun α => SX.extBnd (A := A3) (n := 2) (c := c3) (j := 1) (fun _ => g3) (by kernel_rfl) (by kernel_rfl) (by omega)) ?_
  refine SX.E (.bool true) (fun α => SX.extBnd (A := A3) (n := 2) (c := c3) (j := 1) (fun _ => g3) (by kernel_rfl) (by kernel_rfl) (by omega)) ?_
  refine SX.VC_df (dgV (headF (addL [] 3 A2 c2 xT))) (fun α => partElems (o := 2) (k := 32) (cells := lkL (addL (addL [] 3 A2 c2 xT) 3 A4 c4 yT)) (A := A3) (n := 2) (c := c3) (j := 1) g3 (by kernel_rfl) (by kernel_rfl) (by omega) (K_in (y := ⟨.slice A3 2 c3, 35, lkL (addL (addL [] 3 A2 c2 xT) 3 A4 c4 yT)⟩) rfl (List.mem_append_right _ (List.mem_append_right _ (List.mem_append_right _ (List.mem_append_left _ (ndN_a ..)))))) (by rw [lkL_len]; simp [addL]) (by kernel_rfl)) ((dgV_fit _)) ?_
  refine SX.VC_df (dgV (headF (addL [] 3 A2 c2 xT))) (fun α => ⟨[⟨.slice A1 1 c1, 35, lkL (addL [] 3 A2 c2 xT)⟩], ⟨by kernel_rfl, by kernel_rfl, K_in (y := ⟨.slice A1 1 c1, 35, lkL (addL [] 3 A2 c2 xT)⟩) (by kernel_rfl) (List.mem_append_right _ (List.mem_append_right _ (List.mem_append_right _ (List.mem_append_right _ (List.mem_append_left _ (ndN_a ..)))))), trivial⟩, .inr (.inr (.inr (⟨rfl, _, (addL [] 3 A2 c2 xT), rfl, ⟨(.inl (.inl (.inl (.inl (.inl (ks0_1)))))), (.inl (.inl (.inl (.inl (.inl (ks0_2))))))⟩, (by simp [addL]), (addL_all (fun z h => nomatch h) ⟨.inl (.inr (List.mem_append_right _ (List.mem_append_right _ (List.mem_append_right _ (List.mem_append_right _ (List.mem_append_left _ (ndN_d ..))))))), mk_fit (by decide) (by simp [addL]) (by decide)⟩), rfl⟩))), SX.noAli rfl⟩) ((dgV_fit _)) ?_
  refine SX.E (.bool (false ^^ decide (dgL (headF (addL [] 3 A2 c2 xT)) = dgL (headF (addL [] 3 A2 c2 xT))))) (fun α => SX.eqr_rel (f := (fun l : List W8 => l.map w8)) w8_map_inj (y := dgL (headF (addL [] 3 A2 c2 xT))) (z := dgL (headF (addL [] 3 A2 c2 xT))) (by kernel_rfl) (by kernel_rfl) (by kernel_rfl)) ?_
  refine SX.B (false ^^ decide (dgL (headF (addL [] 3 A2 c2 xT)) = dgL (headF (addL [] 3 A2 c2 xT)))) (fun h49 => ?_) (fun h49 => absurd h49 (by simp))
  try simp only [NRM] at h49
  refine SX.E (.bool true) (fun α => SX.extBnd (A := A3) (n := 2) (c := c3) (j := 1) (fun _ => g3) (by kernel_rfl) (by kernel_rfl) (by omega)) ?_
  refine SX.E (.bool true) (fun α => SX.extBnd (A := A3) (n := 2) (c := c3) (j := 1) (fun _ => g3) (by kernel_rfl) (by kernel_rfl) (by omega)) ?_
  refine SX.E (.int .i64 ((mkLk (addL [] 3 A2 c2 xT) 3 A4 c4 yT).no)) (fun α => SX.extElem (o := 1) (v := .int .i64 ((mkLk (addL [] 3 A2 c2 xT) 3 A4 c4 yT).no)) (f := cellsLk) (l := (addL (addL [] 3 A2 c2 xT) 3 A4 c4 yT)) (A := A3) (n := 2) (c := c3) (j := 1) (z := (mkLk (addL [] 3 A2 c2 xT) 3 A4 c4 yT)) (fun _ => rfl) (fun _ => g3) (by kernel_rfl) (by kernel_rfl) (by omega) (K_in (y := ⟨.slice A3 2 c3, 35, lkL (addL (addL [] 3 A2 c2 xT) 3 A4 c4 yT)⟩) rfl (List.mem_append_right _ (List.mem_append_right _ (List.mem_append_right _ (List.mem_append_left _ (ndN_a ..)))))) (by kernel_rfl) (by decide) (by kernel_rfl)) ?_
  refine SX.D (.bool (((mkLk (addL [] 3 A2 c2 xT) 3 A4 c4 yT).no : Int) == 1)) ?_
  refine SX.B (((mkLk (addL [] 3 A2 c2 xT) 3 A4 c4 yT).no : Int) == 1) (fun h53 => ?_) (fun h53 => absurd h53 (by show ¬ (((1 : Nat) : Int) == 1) = false; decide))
  try simp only [NRM] at h53
  refine SX.E (.bool true) (fun α => SX.extBnd (A := A3) (n := 2) (c := c3) (j := 1) (fun _ => g3) (by kernel_rfl) (by kernel_rfl) (by omega)) ?_
  refine SX.E (.bool true) (fun α => SX.extBnd (A := A3) (n := 2) (c := c3) (j := 1) (fun _ => g3) (by kernel_rfl) (by kernel_rfl) (by omega)) ?_
  refine SX.E ((.slice A4 yT.size c4)) (fun α => SX.extElem (o := 34) (v := .slice A4 yT.size c4) (f := cellsLk) (l := (addL (addL [] 3 A2 c2 xT) 3 A4 c4 yT)) (A := A3) (n := 2) (c := c3) (j := 1) (z := (mkLk (addL [] 3 A2 c2 xT) 3 A4 c4 yT)) (fun _ => rfl) (fun _ => g3) (by kernel_rfl) (by kernel_rfl) (by omega) (K_in (y := ⟨.slice A3 2 c3, 35, lkL (addL (addL [] 3 A2 c2 xT) 3 A4 c4 yT)⟩) rfl (List.mem_append_right _ (List.mem_append_right _ (List.mem_append_right _ (List.mem_append_left _ (ndN_a ..)))))) (by kernel_rfl) (by decide) (by kernel_rfl)) ?_
  refine SX.E (.string yT) (fun α => b2sx_of (tx := yT) (A := A4) (n := yT.size) (c := c4) (by kernel_rfl) (K_in (y := ⟨.slice A4 yT.size c4, 1, (sb yT).flatMap c8⟩) rfl (List.mem_append_right _ (List.mem_append_right _ (List.mem_append_right _ (List.mem_append_left _ (ndN_d ..))))))) ?_
  refine SX.D (.bool (decide (yT = ⟨#[121]⟩))) ?_
  exact SX.F (.bool (decide (yT = ⟨#[121]⟩))) (by first | rfl | (congr 1; decide))
def clashP (a b : List Lk) : Prop := (textT a ≠ textT b ∨ textB a ≠ textB b) ∧ dgL (headF a) = dgL (headF b)
noncomputable instance (a b : List Lk) : Decidable (clashP a b) := Classical.propDecidable _
theorem K_of {C : SX.Cx} {v : Value} {y : SX.Arg} (hv : v = y.v) (h : C.K y.v y.sz y.cells) : C.K v y.sz y.cells := by subst hv; exact h
end Go.Proofs.YtdamlaegboiokaaDoor
namespace Go.Proofs.YtdamlaegboiokaaDoor
set_option maxRecDepth 20000
open Go Go.RowKit Go.ChangeShapes Go.WideShapes Go.ChangeAt
theorem max_eq : maxLen = 9223372036854775807 := by unfold maxLen; rfl
section
variable {H : Type} {enc : TypeId × Value → H} {P : Program} {w : World} {base : Nat} {spare : Nat → Bool} {held : Bool} {fuel : Nat} {t : TypeId} {cs : List Value}
end
section
variable {H : Type} {enc : TypeId × Value → H} {w : World} {base : Nat} {sp : Nat → Bool} {held : Bool} {r : Reach} {b0 : Nat} {v : Value} {d : DataW H} {ps : List MemPlace}
theorem els_of {β : Type} {f : β → List Value} {Q : β → Prop} {sz : Nat} (a : Addr) : ∀ (len : Nat), (∀ i, i < len → ∃ c : β, Q c ∧ w.cells? base (a.add (i * sz)) sz = some (f c)) →
    ∃ l : List β, l.length = len ∧ (∀ c ∈ l, Q c) ∧ ∀ i c, l[i]? = some c → w.cells? base (a.add (i * sz)) sz = some (f c)
  | 0, _ => ⟨[], rfl, (fun _ h => nomatch h), by simp⟩
  | len + 1, h => by
    obtain ⟨l, hl, hq, hx⟩ := els_of a len (fun i hi => h i (by omega))
    obtain ⟨c, hqc, hc⟩ := h len (by omega)
    refine ⟨l ++ [c], by simp [hl], fun c' hc' => ?_, fun i c' hc' => ?_⟩
    · rcases List.mem_append.1 hc' with h1 | h1
      · exact hq c' h1
      obtain rfl : c' = c := by simpa using h1
      exact hqc
    rw [List.getElem?_append] at hc'
    split at hc'
    · exact hx i c' hc'
    have : i - l.length = 0 := by
      rcases Nat.eq_zero_or_pos (i - l.length) with h0 | h0
      · exact h0
      rw [List.getElem?_eq_none (by simp; omega)] at hc'; cases hc'
    rw [this] at hc'
    obtain rfl : c = c' := by simpa using hc'
    obtain rfl : i = len := by omega
    exact hc
theorem slice_of {β : Type} {f : β → List Value} {Q : β → Prop} {sz : Nat} {t e : TypeId} {n : Nat} {cs : List Value} {y : DataW H × List MemPlace} (hu : Tryd.prog.underlying t = some (.slice e)) (hC : Tryd.prog.cellsOf e = sz) (h0 : 0 < sz) (hlen : ∀ c, (f c).length = sz)
    (hel : ∀ (n : Nat) (cs : List Value) (y : DataW H × List MemPlace), DataW.trod enc Tryd.prog w base sp held n e cs = some y → ∃ c, Q c ∧ cs = f c) (hf : DataW.trod enc Tryd.prog w base sp held n t cs = some y) :
    ∃ (A : Option Addr) (k cap : Nat) (l : List β), cs = [.slice A k cap] ∧ Rd w sz A k (l.flatMap f) ∧ k ≤ cap ∧ cap ≤ maxLen ∧ ∀ c ∈ l, Q c := by
  rcases DataW.trod_slice hu hf with ⟨he, _⟩ | ⟨a, len, cap', elems, rest, m, _, he, _, _, hlc, hcm, hel', hcell, _, _⟩
  · exact ⟨none, 0, 0, [], he, ⟨by simp, fun h => absurd h (by omega)⟩, Nat.le_refl _, by omega, fun _ h => nomatch h⟩
  rw [hC] at hcell
  obtain ⟨l, hl, hq, hx⟩ := els_of (w := w) (base := base) (f := f) (Q := Q) (sz := sz) a len fun i hi => by
    have h1 := hcell i hi
    rw [List.getElem?_eq_getElem (by omega)] at h1
    cases hq : w.cells? base (a.add (i * sz)) sz with
    | none => rw [hq] at h1; simp at h1
    | some cs =>
      rw [hq] at h1
      obtain ⟨c, hqc, rfl⟩ := hel _ _ _ (by simpa using h1)
      exact ⟨c, hqc, rfl⟩
  have hll : (l.flatMap f).length = len * sz := by rw [SX.flat_len hlen, hl]
  refine ⟨some a, len, cap', l, he, ⟨hll, fun hn => ⟨a, rfl, ?_, fun j u hu => ?_⟩⟩, by omega, by omega, hq⟩
  · obtain ⟨c, hc⟩ : ∃ c, l[0]? = some c := ⟨_, List.getElem?_eq_getElem (by omega)⟩
    have := World.cells?_block (hx 0 c hc) (by omega)
    rwa [block_of_add] at this
  have hj : j < len * sz := by
    have := (List.getElem?_eq_some_iff.1 hu).1
    rwa [hll] at this
  have hd : j / sz < len := Nat.div_lt_of_lt_mul (by rw [Nat.mul_comm]; exact hj)
  have hm : j % sz < sz := Nat.mod_lt _ h0
  obtain ⟨c, hc⟩ : ∃ c, l[j / sz]? = some c := ⟨_, List.getElem?_eq_getElem (by omega)⟩
  have hw := hx _ c hc
  have hjj : j / sz * sz + j % sz = j := by rw [Nat.mul_comm]; exact Nat.div_add_mod j sz
  have h4 : (f c)[j % sz]? = some u := by
    rw [← hjj, ← List.getElem?_drop, SX.flat_elem hlen hc, List.getElem?_append_left (by rw [hlen]; exact hm)] at hu
    exact hu
  obtain ⟨_, _, h5⟩ := World.cells?_some hw
  have h6 := (h5 (j % sz) hm).trans h4
  have h7 : (a.add (j / sz * sz)).add (j % sz) = a.add j := by rw [Addr.add_add, hjj]
  rw [h7] at h6
  exact h6
theorem u8_cell {n : Nat} {cs : List Value} {y : DataW H × List MemPlace} (hf : DataW.trod enc Tryd.prog w base sp held n 5 cs = some y) : ∃ b : W8, True ∧ cs = c8 b := by
  obtain ⟨n, e, _, hw⟩ := DataW.trod_int Tryd.underlying5 hf
  have hb := bounds_u8 hw
  refine ⟨BitVec.ofNat 8 n.toNat, trivial, e.trans ?_⟩
  show [Value.int .u8 n] = [Value.int .u8 ((BitVec.ofNat 8 n.toNat).toNat : Int)]
  rw [BitVec.toNat_ofNat]
  congr 2
  omega
theorem u8s_of {n : Nat} {cs : List Value} {y : DataW H × List MemPlace} (hf : DataW.trod enc Tryd.prog w base sp held n 23 cs = some y) : ∃ (A : Option Addr) (k cap : Nat) (l : List W8), cs = [.slice A k cap] ∧ Rd w 1 A k (l.flatMap c8) ∧ k ≤ cap ∧ cap ≤ maxLen := by
  obtain ⟨A, k, cap, l, h1, h2, h3, h4, _⟩ := slice_of (f := c8) (sz := 1) (Q := fun _ => True) Tryd.underlying23 (by kernel_rfl) (by decide) (fun _ => rfl) (fun n cs y h => u8_cell h) hf
  exact ⟨A, k, cap, l, h1, h2, h3, h4⟩
theorem sb_of (l : List W8) : ∃ tx : ByteArray, sb tx = l := ⟨bt l, sb_bt l⟩
theorem v_slice {r : Reach} {b0 : Nat} {t e : TypeId} (hu : Tryd.prog.underlying t = some (.slice e)) (hval : Value.okWide Tryd.prog w r b0 t v) {A : Option Addr} {n cap : Nat} (h : v.cells.toList = [.slice A n cap]) : v = .slice A n cap := by
  obtain ⟨A', n', c', rfl⟩ := okWide_slice hu hval
  simpa [Value.cells] using h
end
def laidL : List (String × DataW Unit) := [("kinesphere/digest.start", Rows.laid_kinesphere_digest_start), ("kinesphere/digest.numbers", Rows.laid_kinesphere_digest_numbers)]
theorem gStart : Tryd.prog.globalNamed "kinesphere/digest.start" = some 0 := by kernel_rfl
theorem gNums : Tryd.prog.globalNamed "kinesphere/digest.numbers" = some 1 := by kernel_rfl
theorem laid_world {W : World} (h : laidMetH Tryd.prog laidL W) : Laid W := by
  rw [MakeChecks.laidMetH_plain _ _ _ (by kernel_rfl)] at h
  have h0 : laidMet Tryd.prog (("kinesphere/digest.start", Lib.tabData .u32 (startS.cells.map fun v => match v with | .int _ i => i | _ => 0)) :: [("kinesphere/digest.numbers", Rows.laid_kinesphere_digest_numbers)]) W := cast (by kernel_rfl) h
  have h1 : laidMet Tryd.prog (("kinesphere/digest.numbers", Lib.tabData .u32 (numbersK.map fun x => (x.toNat : Int))) :: []) W := cast (by kernel_rfl) (laidMet.tail h0)
  have T0 := Lib.tabIs_of_head gStart (t := 71) (e := 70) (n := 8) (by kernel_rfl) Tryd.underlying71 Tryd.underlying70 (by kernel_rfl) (by kernel_rfl) h0
  have T1 := Lib.tabIs_of_head gNums (t := 84) (e := 70) (n := 64) (by kernel_rfl) Tryd.underlying84 Tryd.underlying70 (by kernel_rfl) (by kernel_rfl) h1
  have lt : ∀ {b : Nat} {v : Value}, W.cell? ⟨b, 0, none⟩ = some v → b < W.heap.size := fun {b v} h1 => by
    unfold World.cell? at h1
    cases hb : W.heap[b]? with
    | none => simp only [hb] at h1; simp at h1
    | some o => exact (Array.getElem?_eq_some_iff.1 hb).1
  have ad : ∀ b j : Nat, (⟨b, 0, none⟩ : Addr).add j = ⟨b, j, none⟩ := fun b j => by unfold Addr.add; split <;> simp_all
  refine ⟨⟨rfl, fun _ => ⟨_, rfl, lt (T0.cell gStart 0 (by decide)), fun j u hu => ?_⟩⟩, ⟨by rw [SX.flat_len c32_len]; rfl, fun _ => ⟨_, rfl, lt (T1.cell gNums 0 (by decide)), fun j u hu => ?_⟩⟩⟩
  · have hj : j < 8 := (List.getElem?_eq_some_iff.1 hu).1
    rw [ad, T0.cell gStart j (by rw [List.length_map]; exact hj), ← hu]
    have : ∀ j, j < 8 → some (Value.int .u32 ((startS.cells.map fun v => match v with | .int _ i => i | _ => 0).getD j 0)) = startS.cells[j]? := by
      intro j hj
      match j, hj with
      | 0, _ => rfl
      | 1, _ => rfl
      | 2, _ => rfl
      | 3, _ => rfl
      | 4, _ => rfl
      | 5, _ => rfl
      | 6, _ => rfl
      | 7, _ => rfl
    exact this j hj
  have hj : j < 64 := by have := (List.getElem?_eq_some_iff.1 hu).1; rw [SX.flat_len c32_len] at this; exact this
  rw [ad, T1.cell gNums j (by rw [List.length_map]; exact hj), ← hu, flat_c32, List.getElem?_map, List.getD_eq_getElem?_getD, List.getElem?_map, List.getElem?_eq_getElem (show j < numbersK.length from hj)]
  rfl
theorem door_met (os : Os) (args : Array Value) : laidMetH Tryd.prog laidL ((World.doorLaid Tryd.prog 400 os).forCall (fun _ _ => 0) ⟨#[], args, []⟩).memory :=
  laidMetH_of_parts3 (fuel := 8) (laidMet_of_run' 8 (by kernel_rfl) (by kernel_rfl)) (by kernel_rfl) (by kernel_rfl)
end Go.Proofs.YtdamlaegboiokaaDoor
